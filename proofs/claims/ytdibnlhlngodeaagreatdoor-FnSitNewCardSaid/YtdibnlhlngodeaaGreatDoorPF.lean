import Derived.Test.YtdibnlhlngodeaaGreatDoorPE
set_option linter.unusedVariables false
set_option linter.unusedSimpArgs false
/- What draws of acts come to. -/
namespace Go.Proofs.YtdibnlhlngodeaaGreatDoor
open Go Go.Tm
theorem head_act (a : List Line) : headOk 6 (dAct a) = true := by cases a <;> rfl
theorem dAct_snoc (a : List Line) (l : Line) : dAct a ++ [l.g] = dAct (a ++ [l]) := by simp [dAct]
def slimA (a : List Line) : Prop := a.length ≤ 5 ∧ (∀ l ∈ a, slim l) ∧ actOk a = true
theorem slimA.fit {a : List Line} (h : slimA a) : fitAct a := ⟨by have := h.1; omega, fun l hl => ⟨by have := (h.2.1 l hl).1; omega, by have := (h.2.1 l hl).2; omega⟩⟩
theorem ev_l20Act {bs : List Int} {p : Int} (hr : Rdr bs p) (hf : p ≤ 999999970000) :
    ∃ (a : List Line) (q : Int), Ev L f_kc [.s (bytesD bs), dI p] [.s (dAct a), .s (bytesD bs), dI q] ∧ p ≤ q ∧ q ≤ p + 200 ∧ slimA a := by
  have key : ∃ ds, Ev L f_kc [.s (bytesD bs), dI p] ds ∧ ∃ (a : List Line) (q : Int), ds = [.s (dAct a), .s (bytesD bs), dI q] ∧ p ≤ q ∧ q ≤ p + 200 ∧ slimA a := by
    refine Ev.of (vs := [.l (bytesD bs), .i p]) L_kc rfl ?_
    refine WRpick 2 hr (by omega) (by omega) rfl rfl fun v hv0 hv1 => ?_
    refine WRpick 8 (hr.go (q := p + 1) (by omega) (by omega)) (by omega) (by omega) rfl rfl fun u hu0 hu1 => ?_
    have hw : v < (([0, 0, 0] : List Int).length : Int) := by simp; omega
    have hv01 : v = 0 ∨ v = 1 := by omega
    have n1 := ev_l20Num (-1) 0 0
    have n2 := ev_l20Num 1 0 0
    have n3 := ev_l20Num 1 0 (-9)
    refine WR.iteP (u = 0) rfl (fun h => ?_) (fun h0 => ?_)
    · refine WR.callA (args := [dI (-1), dI 0, dI 0]) rfl rfl n1 rfl ?_
      refine WR.callA (args := [.s (dL [0, 0, 0]), .s (dL [-1, 0]), dI 0, dI v, dI 1]) rfl rfl (ev_l20With ⟨[0, 0, 0], [-1, 0], 0⟩ v 1 hv0 hw) rfl ?_
      refine WR.callA (args := [dI (-1), dI 0, dI 0]) rfl rfl n1 rfl ?_
      refine WR.callA (args := [dI 1, dI 0, dI 0]) rfl rfl n2 rfl ?_
      refine WR.callA (args := [dI 1, dI 0, dI (-9)]) rfl rfl n3 rfl ?_
      exact WR.done ⟨[⟨1, 0, 2, ⟨[0, 0, 0].set v.toNat 1, [-1, 0], 0⟩⟩, ⟨2, v, 0, ⟨[0, 0, 0], [-1, 0], 0⟩⟩, ⟨3, 0, 0, ⟨[0, 0, 0], [1, 0], 0⟩⟩, ⟨1, 0, 1, ⟨[0, 0, 0], [1, 0], -9⟩⟩, ⟨4, 0, 0, ⟨[], [], 0⟩⟩], p + 1 + 1, rfl, by omega, by omega, by simp, by simp [slim], by rcases hv01 with rfl | rfl <;> decide⟩
    refine WR.iteP (u = 1) rfl (fun h => ?_) (fun h1 => ?_)
    · refine WR.callA (args := [dI (-1), dI 0, dI 0]) rfl rfl n1 rfl ?_
      refine WR.callA (args := [.s (dL [0, 0, 0]), .s (dL [-1, 0]), dI 0, dI v, dI 1]) rfl rfl (ev_l20With ⟨[0, 0, 0], [-1, 0], 0⟩ v 1 hv0 hw) rfl ?_
      refine WR.callA (args := [dI (-1), dI 0, dI 0]) rfl rfl n1 rfl ?_
      refine WR.callA (args := [dI 1, dI 0, dI 0]) rfl rfl n2 rfl ?_
      refine WR.callA (args := [dI 1, dI 0, dI (-9)]) rfl rfl n3 rfl ?_
      exact WR.done ⟨[⟨1, 0, 2, ⟨[0, 0, 0].set v.toNat 1, [-1, 0], 0⟩⟩, ⟨2, v, 0, ⟨[0, 0, 0], [-1, 0], 0⟩⟩, ⟨3, 0, 0, ⟨[0, 0, 0], [1, 0], 0⟩⟩, ⟨1, 0, 1, ⟨[0, 0, 0], [1, 0], -9⟩⟩, ⟨4, 0, 0, ⟨[], [], 0⟩⟩], p + 1 + 1, rfl, by omega, by omega, by simp, by simp [slim], by rcases hv01 with rfl | rfl <;> decide⟩
    refine WR.iteP (u = 2) rfl (fun h => ?_) (fun h2 => ?_)
    · refine WR.callA (args := [dI 1, dI 0, dI 0]) rfl rfl n2 rfl ?_
      exact WR.done ⟨[⟨2, v, 0, ⟨[0, 0, 0], [1, 0], 0⟩⟩], p + 1 + 1, rfl, by omega, by omega, by simp, by simp [slim], by rcases hv01 with rfl | rfl <;> decide⟩
    refine WR.iteP (u = 3) rfl (fun h => ?_) (fun h3 => ?_)
    · refine WR.callA (args := [dI (-1), dI 0, dI 0]) rfl rfl n1 rfl ?_
      refine WR.callA (args := [.s (dL [0, 0, 0]), .s (dL [-1, 0]), dI 0, dI v, dI 1]) rfl rfl (ev_l20With ⟨[0, 0, 0], [-1, 0], 0⟩ v 1 hv0 hw) rfl ?_
      refine WR.callA (args := [dI (-1), dI 0, dI 0]) rfl rfl n1 rfl ?_
      refine WR.callA (args := [dI 1, dI 0, dI 0]) rfl rfl n2 rfl ?_
      exact WR.done ⟨[⟨1, 0, 2, ⟨[0, 0, 0].set v.toNat 1, [-1, 0], 0⟩⟩, ⟨2, v, 0, ⟨[0, 0, 0], [-1, 0], 0⟩⟩, ⟨2, IntKind.i64.wrap (1 - v), 0, ⟨[0, 0, 0], [1, 0], 0⟩⟩], p + 1 + 1, rfl, by omega, by omega, by simp, by simp [slim], by rcases hv01 with rfl | rfl <;> decide⟩
    refine WR.iteP (u = 4) rfl (fun h => ?_) (fun h4 => ?_)
    · refine WR.callA (args := [dI 0, dI 0, dI 0]) rfl rfl (ev_l20Num 0 0 0) rfl ?_
      refine WR.callA (args := [.s (dL [0, 0, 0]), .s (dL [0, 0]), dI 0, dI 2, dI 1]) rfl rfl (ev_l20With ⟨[0, 0, 0], [0, 0], 0⟩ 2 1 (by omega) (by simp)) rfl ?_
      exact WR.done ⟨[⟨3, 0, 0, ⟨[0, 0, 0].set 2 1, [0, 0], 0⟩⟩], p + 1 + 1, rfl, by omega, by omega, by simp, by simp [slim], by rcases hv01 with rfl | rfl <;> decide⟩
    refine WR.iteP (u = 5) rfl (fun h => ?_) (fun h5 => ?_)
    · refine WR.callA (args := [dI 0, dI 1, dI 5]) rfl rfl (ev_l20Num 0 1 5) rfl ?_
      refine WR.callA (args := [.s (dL [0, 0, 0]), .s (dL [0, 1]), dI 5, dI 0, dI 1]) rfl rfl (ev_l20With ⟨[0, 0, 0], [0, 1], 5⟩ 0 1 (by omega) (by simp)) rfl ?_
      refine WR.callA (args := [.s (dL [1, 0, 0]), .s (dL [0, 1]), dI 5, dI 1, dI (-1)]) rfl rfl (ev_l20With ⟨[1, 0, 0], [0, 1], 5⟩ 1 (-1) (by omega) (by simp)) rfl ?_
      refine WR.callA (args := [dI 0, dI 0, dI 1]) rfl rfl (ev_l20Num 0 0 1) rfl ?_
      exact WR.done ⟨[⟨1, 0, 1, ⟨[1, -1, 0], [0, 1], 5⟩⟩, ⟨2, 2, 0, ⟨[0, 0, 0], [0, 0], 1⟩⟩], p + 1 + 1, rfl, by omega, by omega, by simp, by simp [slim], by rcases hv01 with rfl | rfl <;> decide⟩
    refine WRpick 5 (hr.go (q := p + 1 + 1) (by omega) (by omega)) (by omega) (by omega) rfl rfl fun w hw0 hw1 => ?_
    refine WR.loop (fun m vs => ∃ (a : List Line) (k o : Int), vs = [.l (dAct a), .i k, .i o, .l (bytesD bs)] ∧ p + 3 ≤ o ∧ o + 20 * k ≤ p + 3 + 100 ∧ 0 ≤ k ∧ k ≤ 5 ∧ (m : Int) = k ∧ (a.length : Int) + k ≤ 5 ∧ actOk a = true ∧ ∀ l ∈ a, slim l) rfl (1 + w).toNat
      ⟨[], 1 + w, p + 1 + 1 + 1, ?_, by omega, by omega, by omega, by omega, by omega, by simp; omega, rfl, fun x hx => by simp at hx⟩ ?_
    · show [V.l [], V.i (IntKind.i64.wrap (1 + w)), V.i (p + 1 + 1 + 1), V.l (bytesD bs)] = _
      rw [w64 (by omega) (by omega)]; rfl
    rintro m _ ⟨a, k, o, rfl, o1, o2, k0, k5, hm, hl, hak, hs⟩
    refine WR.iteP (0 < k) rfl (fun h => ?_) (fun h => WR.esc (WR.done ⟨a, o, rfl, by omega, by omega, by omega, hs, hak⟩))
    obtain ⟨x, q, ex, q1, q2, hx⟩ := ev_l20Line (hr.go (q := o) (by omega) (by omega)) (by omega)
    refine WR.callA (args := [.s (bytesD bs), dI o]) rfl rfl ex rfl ?_
    have hs' : ∀ l ∈ a ++ [x], slim l := by
      intro l hl'
      rcases List.mem_append.1 hl' with h' | h'
      · exact hs l h'
      · simp at h'; subst h'; exact hx
    have hfit : fitAct (a ++ [x]) := ⟨by simp; omega, fun l hl' => ⟨by have := (hs' l hl').1; omega, by have := (hs' l hl').2; omega⟩⟩
    refine WR.chkLen (dAct a) rfl (by rw [dAct_len]; omega) ?_
    refine WR.head (head_act a) ?_
    refine WR.chkLen (dAct a) rfl (by rw [dAct_len]; omega) ?_
    refine WR.chkLen (dAct a ++ [x.g]) rfl (by rw [dAct_snoc, dAct_len]; simp; omega) ?_
    refine WR.callA (args := [.s (dAct (a ++ [x]))]) rfl ?_ (ev_ActOk (a ++ [x]) hfit) rfl ?_
    · show [D.s (([] ++ dAct a) ++ [x.g])] = _
      rw [List.nil_append, dAct_snoc]
    refine WR.iteB (actOk (a ++ [x])) rfl (fun hok => ?_) (fun hok => ?_)
    · refine WR.chkLen (dAct a ++ [x.g]) rfl (by rw [dAct_snoc, dAct_len]; simp; omega) ?_
      refine WR.nextA (vs := [.l (dAct (a ++ [x])), .i (k - 1), .i q, .l (bytesD bs)]) ?_ ⟨m - 1, by omega, a ++ [x], k - 1, q, rfl, by omega, by omega, by omega, by omega, by omega, by simp; omega, hok, hs'⟩
      show [V.l (dAct a ++ [x.g]), V.i (IntKind.i64.wrap (k - 1)), V.i q, V.l (bytesD bs)] = _
      rw [dAct_snoc, w64 (by omega) (by omega)]
    · refine WR.nextA (vs := [.l (dAct a), .i (k - 1), .i q, .l (bytesD bs)]) ?_ ⟨m - 1, by omega, a, k - 1, q, rfl, by omega, by omega, by omega, by omega, by omega, by omega, hak, hs⟩
      show [V.l (dAct a), V.i (IntKind.i64.wrap (k - 1)), V.i q, V.l (bytesD bs)] = _
      rw [w64 (by omega) (by omega)]
  obtain ⟨ds, e1, a, q, rfl, e2⟩ := key
  exact ⟨a, q, e1, e2⟩
theorem dActs_snoc (as : List (List Line)) (a : List Line) : dActs as ++ [.s (dAct a)] = dActs (as ++ [a]) := by simp [dActs]
def slimAs (as : List (List Line)) : Prop := as.length ≤ 4 ∧ ∀ a ∈ as, slimA a
theorem ev_l20Acts {bs : List Int} {p : Int} (hr : Rdr bs p) (hf : p ≤ 999999960000) :
    ∃ (as : List (List Line)) (q : Int), Ev L f_kd [.s (bytesD bs), dI p] [.s (dActs as), .s (bytesD bs), dI q] ∧ p ≤ q ∧ q ≤ p + 1000 ∧ slimAs as ∧ 1 ≤ as.length := by
  have key : ∃ ds, Ev L f_kd [.s (bytesD bs), dI p] ds ∧ ∃ (as : List (List Line)) (q : Int), ds = [.s (dActs as), .s (bytesD bs), dI q] ∧ p ≤ q ∧ q ≤ p + 1000 ∧ slimAs as ∧ 1 ≤ as.length := by
    refine Ev.of (vs := [.l (bytesD bs), .i p]) L_kd rfl ?_
    refine WRpick 4 hr (by omega) (by omega) rfl rfl fun w hw0 hw1 => ?_
    refine WR.loop (fun m vs => ∃ (as : List (List Line)) (k o : Int), vs = [.l (dActs as), .i k, .i o, .l (bytesD bs)] ∧ p + 1 ≤ o ∧ o + 200 * k ≤ p + 1 + 800 ∧ 0 ≤ k ∧ k ≤ 4 ∧ (m : Int) = k ∧ (as.length : Int) + k = 1 + w ∧ ∀ a ∈ as, slimA a) rfl (1 + w).toNat
      ⟨[], 1 + w, p + 1, ?_, by omega, by omega, by omega, by omega, by omega, by simp, fun x hx => by simp at hx⟩ ?_
    · show [V.l [], V.i (IntKind.i64.wrap (1 + w)), V.i (p + 1), V.l (bytesD bs)] = _
      rw [w64 (by omega) (by omega)]; rfl
    rintro m _ ⟨as, k, o, rfl, o1, o2, k0, k5, hm, hl, hs⟩
    refine WR.iteP (0 < k) rfl (fun h => ?_) (fun h => WR.esc (WR.done ⟨as, o, rfl, by omega, by omega, ⟨by omega, hs⟩, by omega⟩))
    obtain ⟨x, q, ex, q1, q2, hx⟩ := ev_l20Act (hr.go (q := o) (by omega) (by omega)) (by omega)
    refine WR.callA (args := [.s (bytesD bs), dI o]) rfl rfl ex rfl ?_
    refine WR.chkLen (dActs as ++ [.s (dAct x)]) rfl (by rw [dActs_snoc, dActs_len]; simp; omega) ?_
    refine WR.nextA (vs := [.l (dActs (as ++ [x])), .i (k - 1), .i q, .l (bytesD bs)]) ?_ ⟨m - 1, by omega, as ++ [x], k - 1, q, rfl, by omega, by omega, by omega, by omega, by omega, by simp; omega, ?_⟩
    · show [V.l (dActs as ++ [.s (dAct x)]), V.i (IntKind.i64.wrap (k - 1)), V.i q, V.l (bytesD bs)] = _
      rw [dActs_snoc, w64 (by omega) (by omega)]
    · intro a ha
      rcases List.mem_append.1 ha with h' | h'
      · exact hs a h'
      · simp at h'; subst h'; exact hx
  obtain ⟨ds, e1, a, q, rfl, e2⟩ := key
  exact ⟨a, q, e1, e2⟩
end Go.Proofs.YtdibnlhlngodeaaGreatDoor

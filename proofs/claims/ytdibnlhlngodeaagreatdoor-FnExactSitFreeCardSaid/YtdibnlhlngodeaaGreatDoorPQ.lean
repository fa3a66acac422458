import Derived.Test.YtdibnlhlngodeaaGreatDoorPP
import Derived.Test.YtdibnlhlngodeaaGreatDoorPJ
set_option linter.unusedVariables false
set_option linter.unusedSimpArgs false
/- Each way is ok, and there are at most two for each test: over residual programs. -/
namespace Go.Proofs.YtdibnlhlngodeaaGreatDoor
open Go Go.Tm
def sameCR (g : FuncId) (sh : Sh) (as : List E) (k1 k2 : Nat) : R :=
  .ite (.not (.cmp .eq (.len (.v 0)) (.len (.v 1))))
   (
    .done [(.vb .ff)])
   (
    .loop 2 [(.z 0)] <|
      .ite (.cmp .lt (.v 2) (.len (.v 0)))
       (
        .i (.idx (.v 0) (.v 2) sh 3) <|
        .i (.idx (.v 1) (.v 2) sh k1) <|
        .i (.call g as [.b] k2) <|
        .ite (.not (.v k2))
         (
          .esc <|
          .done [(.vb .ff)])
         (
          .next [(.bin .add .i64 (.v 2) (.z 1))]))
       (
        .esc <|
        .done [(.vb .tt)]))
theorem ev_sameC {α : Type} [DecidableEq α] {f g : FuncId} {H : Hint} {s : Sig} {sh : Sh} {as : List E} {k1 k2 : Nat} (enc : α → D) (vsOf : α → List V) (args : α → List D) (a b : List α) (hf : L.lookup f = some ⟨s, .r H (sameCR g sh as k1 k2)⟩) (hs : insOf s = [.s, .s])
    (hb : ∀ x, bindSh sh (enc x) = some (vsOf x)) (hk1 : ∀ x, 3 + (vsOf x).length = k1) (hk2 : ∀ x, k1 + (vsOf x).length = k2)
    (ha : ∀ (v0 v1 v2 : V) (x y : α), as.map (dat (envL ([v0, v1, v2] ++ vsOf x ++ vsOf y))) = args x ++ args y)
    (hc : ∀ x ∈ a, ∀ y, Ev L g (args x ++ args y) [dB (decide (x = y))]) (hl : a.length ≤ 2000000) :
    Ev L f [.s (a.map enc), .s (b.map enc)] [dB (decide (a = b))] := by
  refine Ev.eq (vs := [.l (a.map enc), .l (b.map enc)]) hf (by rw [hs]; rfl) ?_
  refine WR.iteP (¬ a.length = b.length) ?_ (fun h => WR.done ?_) (fun h => ?_)
  · show (!(decide (((a.map enc).length : Int) = ((b.map enc).length : Int)))) = _
    rw [List.length_map, List.length_map]
    by_cases h : a.length = b.length
    · simp [h]
    · simp [h, show ¬ (a.length : Int) = b.length by omega]
  · show [dB false] = _
    rw [decide_eq_false]
    intro e; exact h (by rw [e])
  have h : a.length = b.length := Classical.not_not.1 h
  refine WR.forP a.length (fun i => [.i i]) (fun i => a.take i = b.take i) rfl rfl rfl fun i hi hp => ?_
  refine WR.iteLen i (List.length_map (f := enc) (as := a)) rfl (fun h' => ?_) (fun h' => ?_)
  · obtain ⟨x, hx, hmx⟩ := some_at h'
    obtain ⟨y, hy, _⟩ := some_at (show i < b.length by omega)
    have k1x := hk1 x
    have k1y := hk1 y
    have k2x := hk2 x
    refine WR.idxN i (map_at (f := enc) hx) rfl rfl rfl (hb x) ?_
    refine WR.idxN i (map_at (f := enc) hy) (by simp; omega) rfl rfl (hb y) ?_
    refine WR.call (ds := [dB (decide (x = y))]) (vs := [.b (decide (x = y))]) (by simp; omega) (by
      show Ev L g (as.map (dat (envL ([V.l (a.map enc), .l (b.map enc), .i i] ++ vsOf x ++ vsOf y)))) _
      rw [ha]; exact hc x hmx y) rfl ?_
    have e1 : ∀ (t : V), envL ([V.l (a.map enc), .l (b.map enc), .i i] ++ vsOf x ++ vsOf y ++ [t]) k2 = t := by
      intro t
      unfold envL
      rw [List.getD_eq_getElem?_getD, List.getElem?_append_right (by simp; omega)]
      rw [show k2 - ([V.l (a.map enc), .l (b.map enc), .i i] ++ vsOf x ++ vsOf y).length = 0 by simp; omega]; rfl
    refine WR.iteN (decide (x = y)) (by show (!(den (envL ([V.l (a.map enc), .l (b.map enc), .i i] ++ vsOf x ++ vsOf y ++ [V.b (decide (x = y))])) (.v k2)).bool) = _; simp only [den, e1]; rfl) (fun hxy => WR.esc (WR.done ?_)) (fun hxy => ?_)
    · show [dB false] = _
      rw [decide_eq_false]
      intro e
      subst e
      rw [hx] at hy
      simp only [Option.some.injEq] at hy
      simp [hy] at hxy
    · have hxy : x = y := by simpa using hxy
      subst hxy
      refine WR.nextA (vs := [.i ((i + 1 : Nat) : Int)]) ?_ ⟨h', rfl, by show a.take (i + 1) = b.take (i + 1); rw [take_succ hx, take_succ hy, hp]⟩
      show [V.i (IntKind.i64.wrap ((i : Int) + 1))] = _
      rw [wS h' (by omega)]
  · refine WR.esc (WR.done ?_)
    rw [take_all h', take_all (by omega)] at hp
    subst hp
    show [dB true] = _
    simp
theorem ev_grow (n : Int) (h0 : 0 ≤ n) (hn : n ≤ 2000000) : Ev L f_k37 [dI n] [.s []] := by
  refine Ev.eq (vs := [.i n]) L_k37 rfl ?_
  have hw : IntKind.i64.wrap (n - IntKind.i64.wrap (0 - 0)) = n := by rw [w64 (n := 0 - 0) (by omega) (by omega), w64 (by omega) (by omega)]; omega
  refine WR.iteP (n < 0) rfl (fun h => by omega) (fun _ => ?_)
  refine WR.iteP (0 < n) (by show decide (0 < IntKind.i64.wrap (n - IntKind.i64.wrap (0 - 0))) = _; rw [hw]) (fun h => ?_) (fun h => WR.done rfl)
  refine WR.chkP (0 < n) (by show decide (0 < IntKind.i64.wrap (n - IntKind.i64.wrap (0 - 0))) = _; rw [hw]) h ?_
  refine WR.chkP (n ≤ 1256584717458) (by show decide (IntKind.i64.wrap (n - IntKind.i64.wrap (0 - 0)) ≤ 1256584717458) = _; rw [hw]) (by omega) ?_
  refine WR.chk ?_ (WR.done ?_)
  · show decide ((0 : Int) ≤ ((List.replicate (IntKind.i64.wrap (n - IntKind.i64.wrap (0 - 0))).toNat (D.g [.s [], .s [], dI 0])).length : Int)) = true
    simp only [decide_eq_true_eq]; omega
  · show [D.s ((List.replicate (IntKind.i64.wrap (n - IntKind.i64.wrap (0 - 0))).toNat (D.g [.s [], .s [], dI 0])).take (0 : Int).toNat)] = _
    simp
def dFF (ls : List (List Frm)) : List D := ls.map fun l => .s (dF l)
theorem dFF_len (ls : List (List Frm)) : (dFF ls).length = ls.length := by simp [dFF]
theorem dF_app (a b : List Frm) : dF a ++ dF b = dF (a ++ b) := by simp [dF]
def lens (ls : List (List Frm)) : Nat := (ls.map List.length).sum
theorem lens_take {ls : List (List Frm)} {i : Nat} {l : List Frm} (h : ls[i]? = some l) : lens (ls.take (i + 1)) = lens (ls.take i) + l.length := by
  unfold lens
  rw [take_succ h]; simp
theorem lens_flat (ls : List (List Frm)) : ls.flatten.length = lens ls := by simp [lens, List.length_flatten]
theorem lens_le {ls : List (List Frm)} {N : Nat} (h : ∀ l ∈ ls, l.length ≤ N) (i : Nat) : lens (ls.take i) ≤ N * ls.length := by
  have : ∀ (ls : List (List Frm)), (∀ l ∈ ls, l.length ≤ N) → lens ls ≤ N * ls.length := by
    intro ls
    induction ls with
    | nil => intro _; simp [lens]
    | cons l ls ih =>
      intro h
      have h1 := h l (by simp)
      have h2 := ih fun x hx => h x (by simp [hx])
      simp only [lens, List.map_cons, List.sum_cons, List.length_cons, Nat.mul_add] at *
      omega
  have h1 := this (ls.take i) fun l hl => h l (List.mem_of_mem_take hl)
  refine Nat.le_trans h1 (Nat.mul_le_mul_left _ (by simp; omega))
theorem ev_concat (ls : List (List Frm)) (hl : ls.length ≤ 100) (h1 : ∀ l ∈ ls, l.length ≤ 1000) : Ev L f_k38 [.s (dFF ls)] [.s (dF ls.flatten)] := by
  refine Ev.eq (vs := [.l (dFF ls)]) L_k38 rfl ?_
  have hle : ∀ i, lens (ls.take i) ≤ 100000 := fun i => Nat.le_trans (lens_le h1 i) (by omega)
  refine WR.forP ls.length (fun i => [.i (lens (ls.take i)), .i i]) (fun _ => True) rfl rfl trivial fun i hi _ => ?_
  have hli := hle i
  refine WR.iteLen i (dFF_len ls) rfl (fun h => ?_) (fun h => ?_)
  · obtain ⟨x, hx, hm⟩ := some_at h
    have hxl := h1 x hm
    refine WR.idxN i (map_at (f := fun l => .s (dF l)) hx) rfl rfl rfl rfl ?_
    have hw : IntKind.i64.wrap ((lens (ls.take i) : Int) + ((dF x).length : Int)) = (lens (ls.take (i + 1)) : Int) := by
      rw [dF_len, lens_take hx, w64 (by omega) (by omega)]; rfl
    refine WR.iteP (((lens (ls.take (i + 1)) : Int)) < 0) (by show decide (IntKind.i64.wrap ((lens (ls.take i) : Int) + ((dF x).length : Int)) < 0) = _; rw [hw]) (fun h => by omega) (fun _ => ?_)
    refine WR.nextA (vs := [.i (lens (ls.take (i + 1))), .i ((i + 1 : Nat) : Int)]) ?_ ⟨h, rfl, trivial⟩
    show [V.i (IntKind.i64.wrap ((lens (ls.take i) : Int) + ((dF x).length : Int))), V.i (IntKind.i64.wrap ((i : Int) + 1))] = _
    rw [wS h (by omega), hw]
  · refine WR.esc ?_
    refine WR.ev (ev_grow (lens (ls.take i)) (by omega) (by omega)) rfl rfl rfl ?_
    simp only [sCA, sNA]
    refine WR.forP ls.length (fun j => [.l (dF (ls.take j).flatten), .i j]) (fun _ => True) rfl rfl trivial fun j hj _ => ?_
    simp only [sCA, sNA]
    refine WR.iteLen j (dFF_len ls) rfl (fun h => ?_) (fun h => ?_)
    · obtain ⟨x, hx, hm⟩ := some_at h
      have hxl := h1 x hm
      have hlj := hle j
      refine WR.idxN j (map_at (f := fun l => .s (dF l)) hx) rfl rfl rfl rfl ?_
      refine WR.chkN (dF x) 1000 (by rw [dF_len]; exact hxl) (by omega) rfl ?_
      refine WR.head (head_dF x) ?_
      refine WR.chkN (dF (ls.take j).flatten ++ dF x) 2000000 (by rw [List.length_append, dF_len, dF_len, lens_flat]; omega) (by omega) rfl ?_
      refine WR.nextA (vs := [.l (dF (ls.take (j + 1)).flatten), .i ((j + 1 : Nat) : Int)]) ?_ ⟨h, rfl, trivial⟩
      show [V.l (dF (ls.take j).flatten ++ dF x), V.i (IntKind.i64.wrap ((j : Int) + 1))] = _
      rw [wS h (by omega), dF_app, take_succ hx]; simp
    · refine WR.esc (WR.done ?_)
      show [D.s (dF (ls.take j).flatten)] = _
      rw [take_all h]
end Go.Proofs.YtdibnlhlngodeaaGreatDoor

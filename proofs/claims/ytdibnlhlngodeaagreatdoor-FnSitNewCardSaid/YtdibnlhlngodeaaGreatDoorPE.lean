import Derived.Test.YtdibnlhlngodeaaGreatDoorPD
set_option linter.unusedVariables false
set_option linter.unusedSimpArgs false
/- What draws of forms, lines, acts come to. -/
namespace Go.Proofs.YtdibnlhlngodeaaGreatDoor
open Go Go.Tm
theorem ev_FrmZero : Ev L f_k2 [] Frm.zero.cells := Ev.eq (vs := []) L_k2 rfl (WR.done rfl)
theorem ev_l20Num (a b k : Int) : Ev L f_k3 [dI a, dI b, dI k] (Frm.cells ⟨[0, 0, 0], [a, b], k⟩) := by
  refine Ev.eq (vs := [.i a, .i b, .i k]) L_k3 rfl ?_
  refine WR.callA (args := []) rfl rfl ev_FrmZero rfl ?_
  refine WR.chkP ((0 : Int) < 2) rfl (by omega) ?_
  refine WR.idxA (ds := dL [0, 0]) 0 rfl rfl rfl (by omega) rfl rfl ?_
  refine WR.chkP ((1 : Int) < 2) rfl (by omega) ?_
  refine WR.idxA (ds := dL [a, 0]) 1 rfl rfl rfl (by omega) rfl rfl ?_
  exact WR.done rfl
theorem ev_l20With (f : Frm) (v n : Int) (h0 : 0 ≤ v) (h1 : v < f.c.length) : Ev L f_k4 [.s (dL f.c), .s (dL f.d), dI f.k, dI v, dI n] [dI f.k, .s (dL (f.c.set v.toNat n)), .s (dL f.d)] := by
  refine Ev.eq (vs := [.l (dL f.c), .l (dL f.d), .i f.k, .i v, .i n]) L_k4 rfl ?_
  refine WR.chkP (0 ≤ v) rfl h0 ?_
  refine WR.chkP (v < ((dL f.c).length : Int)) rfl (by rw [dL_len]; exact h1) ?_
  refine WR.idxA (ds := dL f.c) v rfl rfl rfl h0 (dL_get h0 h1) rfl ?_
  refine WR.done ?_
  show [dI f.k, .s ((dL f.c).set v.toNat (dI n)), .s (dL f.d)] = _
  rw [dL_set]
theorem ev_l20Small {bs : List Int} {p : Int} (hr : Rdr bs p) (hf : p ≤ 999999990000) :
    ∃ (f : Frm) (q : Int), Ev L f_k5 [.s (bytesD bs), dI p] (f.cells ++ [.s (bytesD bs), dI q]) ∧ p ≤ q ∧ q ≤ p + 10 ∧ f.c.length = 3 ∧ f.d.length = 2 := by
  have key : ∃ ds, Ev L f_k5 [.s (bytesD bs), dI p] ds ∧ ∃ (f : Frm) (q : Int), ds = f.cells ++ [.s (bytesD bs), dI q] ∧ p ≤ q ∧ q ≤ p + 10 ∧ f.c.length = 3 ∧ f.d.length = 2 := by
    refine Ev.of (vs := [.l (bytesD bs), .i p]) L_k5 rfl ?_
    refine WR.callA (args := []) rfl rfl ev_FrmZero rfl ?_
    refine WR.loop (fun m vs => ∃ (c : List Int) (i : Int), vs = [.l (dL c), .i i, .i (p + i), .l (bytesD bs)] ∧ c.length = 3 ∧ 0 ≤ i ∧ i ≤ 3 ∧ (m : Int) = 3 - i) rfl 3 ⟨[0, 0, 0], 0, by simp [den, envL, dL, V.int, Frm.zero], rfl, by omega, by omega, by omega⟩ ?_
    rintro m _ ⟨c, i, rfl, hc, i0, i3, hm⟩
    refine WR.iteP (i < 3) rfl (fun h => ?_) (fun h => ?_)
    · refine WRpick 6 (hr.go (q := p + i) (by omega) (by omega)) (by omega) (by omega) rfl rfl fun v hv0 hv1 => ?_
      refine WR.chkP (0 ≤ v) rfl hv0 ?_
      refine WR.chkP (v < 6) rfl hv1 ?_
      refine WR.idxA (ds := dL [0, 0, 0, 1, -1, 2]) v rfl rfl rfl hv0 (dL_get hv0 hv1) rfl ?_
      generalize ([0, 0, 0, 1, -1, 2] : List Int).getD v.toNat 0 = x at *
      refine WR.chkP (0 ≤ i) rfl i0 ?_
      refine WR.chkP (i < ((dL c).length : Int)) rfl (by rw [dL_len]; omega) ?_
      refine WR.idxA (ds := dL c) i rfl rfl rfl i0 (dL_get i0 (by omega)) rfl ?_
      refine WR.nextA (vs := [.l (dL (c.set i.toNat x)), .i (i + 1), .i (p + (i + 1)), .l (bytesD bs)]) ?_ ⟨m - 1, by omega, c.set i.toNat x, i + 1, rfl, by simp [hc], by omega, by omega, by omega⟩
      show [V.l ((dL c).set i.toNat (dI x)), V.i (IntKind.i64.wrap (i + 1)), V.i (p + i + 1), V.l (bytesD bs)] = _
      rw [dL_set, w64 (by omega) (by omega), Int.add_assoc]
    refine WR.esc ?_
    have hi : i = 3 := by omega
    subst hi
    refine WR.loop (fun m vs => ∃ (d : List Int) (j : Int), vs = [.l (dL d), .i j, .i (p + 3 + j), .l (bytesD bs)] ∧ d.length = 2 ∧ 0 ≤ j ∧ j ≤ 2 ∧ (m : Int) = 2 - j) rfl 2 ⟨[0, 0], 0, by simp [den, envL, dL, V.int, V.lst, Frm.zero], rfl, by omega, by omega, by omega⟩ ?_
    rintro m _ ⟨d, j, rfl, hd, j0, j2, hm⟩
    refine WR.iteP (j < 2) rfl (fun h => ?_) (fun h => ?_)
    · refine WRpick 5 (hr.go (q := p + 3 + j) (by omega) (by omega)) (by omega) (by omega) rfl rfl fun v hv0 hv1 => ?_
      refine WR.chkP (0 ≤ v) rfl hv0 ?_
      refine WR.chkP (v < 5) rfl hv1 ?_
      refine WR.idxA (ds := dL [0, 0, 1, -1, 2]) v rfl rfl rfl hv0 (dL_get hv0 hv1) rfl ?_
      generalize ([0, 0, 1, -1, 2] : List Int).getD v.toNat 0 = x at *
      refine WR.chkP (0 ≤ j) rfl j0 ?_
      refine WR.chkP (j < ((dL d).length : Int)) rfl (by rw [dL_len]; omega) ?_
      refine WR.idxA (ds := dL d) j rfl rfl rfl j0 (dL_get j0 (by omega)) rfl ?_
      refine WR.nextA (vs := [.l (dL (d.set j.toNat x)), .i (j + 1), .i (p + 3 + (j + 1)), .l (bytesD bs)]) ?_ ⟨m - 1, by omega, d.set j.toNat x, j + 1, rfl, by simp [hd], by omega, by omega, by omega⟩
      show [V.l ((dL d).set j.toNat (dI x)), V.i (IntKind.i64.wrap (j + 1)), V.i (p + 3 + j + 1), V.l (bytesD bs)] = _
      rw [dL_set, w64 (by omega) (by omega), Int.add_assoc (p + 3)]
    refine WR.esc ?_
    refine WRpick 8 (hr.go (q := p + 3 + j) (by omega) (by omega)) (by omega) (by omega) rfl rfl fun v hv0 hv1 => ?_
    refine WR.chkP (0 ≤ v) rfl hv0 ?_
    refine WR.chkP (v < 8) rfl hv1 ?_
    refine WR.idxA (ds := dL [0, 0, 1, -1, 5, -5, 20, -20]) v rfl rfl rfl hv0 (dL_get hv0 hv1) rfl ?_
    exact WR.done ⟨⟨c, d, _⟩, p + 3 + j + 1, rfl, by omega, by omega, hc, hd⟩
  obtain ⟨ds, e1, f, q, rfl, e2⟩ := key
  exact ⟨f, q, e1, e2⟩
def slim (l : Line) : Prop := l.f.c.length ≤ 3 ∧ l.f.d.length ≤ 2
theorem ev_l20Line {bs : List Int} {p : Int} (hr : Rdr bs p) (hf : p ≤ 999999980000) :
    ∃ (l : Line) (q : Int), Ev L f_k6 [.s (bytesD bs), dI p] (l.cells ++ [.s (bytesD bs), dI q]) ∧ p ≤ q ∧ q ≤ p + 20 ∧ slim l := by
  have key : ∃ ds, Ev L f_k6 [.s (bytesD bs), dI p] ds ∧ ∃ (l : Line) (q : Int), ds = l.cells ++ [.s (bytesD bs), dI q] ∧ p ≤ q ∧ q ≤ p + 20 ∧ slim l := by
    refine Ev.of (vs := [.l (bytesD bs), .i p]) L_k6 rfl ?_
    refine WRpick 7 hr (by omega) (by omega) rfl rfl fun v hv0 hv1 => ?_
    have hr1 : Rdr bs (p + 1) := hr.go (by omega) (by omega)
    refine WR.iteP (v = 0) rfl (fun h => ?_) (fun h0 => ?_)
    · refine WRpick 3 hr1 (by omega) (by omega) rfl rfl fun u hu0 hu1 => ?_
      obtain ⟨f, q, e, q1, q2, f1, f2⟩ := ev_l20Small (hr1.go (q := p + 1 + 1) (by omega) (by omega)) (by omega)
      refine WR.callA (args := [.s (bytesD bs), dI (p + 1 + 1)]) rfl rfl e rfl ?_
      exact WR.done ⟨⟨1, 0, IntKind.i64.wrap (1 + u), f⟩, q, rfl, by omega, by omega, by simp [slim, f1, f2]⟩
    refine WR.iteP (v = 1) rfl (fun h => ?_) (fun h1 => ?_)
    · refine WRpick 3 hr1 (by omega) (by omega) rfl rfl fun u hu0 hu1 => ?_
      obtain ⟨f, q, e, q1, q2, f1, f2⟩ := ev_l20Small (hr1.go (q := p + 1 + 1) (by omega) (by omega)) (by omega)
      refine WR.callA (args := [.s (bytesD bs), dI (p + 1 + 1)]) rfl rfl e rfl ?_
      exact WR.done ⟨⟨1, 0, IntKind.i64.wrap (1 + u), f⟩, q, rfl, by omega, by omega, by simp [slim, f1, f2]⟩
    refine WR.iteP (v = 2) rfl (fun h => ?_) (fun h2 => ?_)
    · obtain ⟨f, q, e, q1, q2, f1, f2⟩ := ev_l20Small hr1 (by omega)
      refine WR.callA (args := [.s (bytesD bs), dI (p + 1)]) rfl rfl e rfl ?_
      refine WRpick 3 (hr.go (q := q) (by omega) (by omega)) (by omega) (by omega) rfl rfl fun u hu0 hu1 => ?_
      refine WR.iteP (0 < u) rfl (fun hu => ?_) (fun hu => ?_)
      · refine WRpick 3 (hr.go (q := q + 1) (by omega) (by omega)) (by omega) (by omega) rfl rfl fun w hw0 hw1 => ?_
        exact WR.done ⟨⟨2, w, 0, ⟨[0, 0, 0], f.d, f.k⟩⟩, q + 1 + 1, rfl, by omega, by omega, by simp [slim, f1, f2]⟩
      · refine WRpick 3 (hr.go (q := q + 1) (by omega) (by omega)) (by omega) (by omega) rfl rfl fun w hw0 hw1 => ?_
        exact WR.done ⟨⟨2, w, 0, f⟩, q + 1 + 1, rfl, by omega, by omega, by simp [slim, f1, f2]⟩
    refine WR.iteP (v = 3) rfl (fun h => ?_) (fun h3 => ?_)
    · obtain ⟨f, q, e, q1, q2, f1, f2⟩ := ev_l20Small hr1 (by omega)
      refine WR.callA (args := [.s (bytesD bs), dI (p + 1)]) rfl rfl e rfl ?_
      refine WRpick 3 (hr.go (q := q) (by omega) (by omega)) (by omega) (by omega) rfl rfl fun u hu0 hu1 => ?_
      refine WR.iteP (0 < u) rfl (fun hu => ?_) (fun hu => ?_)
      · refine WRpick 3 (hr.go (q := q + 1) (by omega) (by omega)) (by omega) (by omega) rfl rfl fun w hw0 hw1 => ?_
        exact WR.done ⟨⟨2, w, 0, ⟨[0, 0, 0], f.d, f.k⟩⟩, q + 1 + 1, rfl, by omega, by omega, by simp [slim, f1, f2]⟩
      · refine WRpick 3 (hr.go (q := q + 1) (by omega) (by omega)) (by omega) (by omega) rfl rfl fun w hw0 hw1 => ?_
        exact WR.done ⟨⟨2, w, 0, f⟩, q + 1 + 1, rfl, by omega, by omega, by simp [slim, f1, f2]⟩
    refine WR.iteP (v = 4) rfl (fun h => ?_) (fun h4 => ?_)
    · obtain ⟨f, q, e, q1, q2, f1, f2⟩ := ev_l20Small hr1 (by omega)
      refine WR.callA (args := [.s (bytesD bs), dI (p + 1)]) rfl rfl e rfl ?_
      refine WRpick 3 (hr.go (q := q) (by omega) (by omega)) (by omega) (by omega) rfl rfl fun u hu0 hu1 => ?_
      refine WR.iteP (0 < u) rfl (fun hu => ?_) (fun hu => ?_)
      · refine WRpick 3 (hr.go (q := q + 1) (by omega) (by omega)) (by omega) (by omega) rfl rfl fun w hw0 hw1 => ?_
        exact WR.done ⟨⟨2, w, 0, ⟨[0, 0, 0], f.d, f.k⟩⟩, q + 1 + 1, rfl, by omega, by omega, by simp [slim, f1, f2]⟩
      · refine WRpick 3 (hr.go (q := q + 1) (by omega) (by omega)) (by omega) (by omega) rfl rfl fun w hw0 hw1 => ?_
        exact WR.done ⟨⟨2, w, 0, f⟩, q + 1 + 1, rfl, by omega, by omega, by simp [slim, f1, f2]⟩
    refine WR.iteP (v = 5) rfl (fun h => ?_) (fun h5 => ?_)
    · obtain ⟨f, q, e, q1, q2, f1, f2⟩ := ev_l20Small hr1 (by omega)
      refine WR.callA (args := [.s (bytesD bs), dI (p + 1)]) rfl rfl e rfl ?_
      exact WR.done ⟨⟨3, 0, 0, f⟩, q, rfl, by omega, by omega, by simp [slim, f1, f2]⟩
    exact WR.done ⟨⟨4, 0, 0, ⟨[], [], 0⟩⟩, p + 1, rfl, by omega, by omega, by simp [slim]⟩
  obtain ⟨ds, e1, l, q, rfl, e2⟩ := key
  exact ⟨l, q, e1, e2⟩
end Go.Proofs.YtdibnlhlngodeaaGreatDoor

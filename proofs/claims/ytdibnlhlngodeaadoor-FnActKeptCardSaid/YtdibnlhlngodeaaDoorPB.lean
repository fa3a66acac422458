/- What draws of numbers come to. -/
import Derived.Test.YtdibnlhlngodeaaDoorPA
import Derived.Test.YtdibnlhlngodeaaDoorTd
namespace Go.Proofs.YtdibnlhlngodeaaDoor
open Go Go.Tm

theorem ev_open (ns : List Int) (hb : ∀ x ∈ ns, 0 ≤ x ∧ x < 256) : ∃ bs, Ev L f_spec_l20Open [.s (bytesD ns)] [.s (bytesD bs), dI 0] ∧ Rdr bs 0 := by
  have key : ∃ ds, Ev L f_spec_l20Open [.s (bytesD ns)] ds ∧ ∃ bs, ds = [.s (bytesD bs), dI 0] ∧ Rdr bs 0 := by
    refine Ev.of (vs := [.l (bytesD ns)]) L_spec_l20Open rfl ?_
    refine WR.iteP (2000 < ((bytesD ns).length : Int)) rfl (fun h => ?_) (fun h => ?_)
    · rw [bytesD_len] at h
      refine WR.chkP (2000 ≤ ((bytesD ns).length : Int)) rfl (by rw [bytesD_len]; omega) ?_
      refine WR.done ⟨ns.take 2000, ?_, ⟨fun x hx => hb x (List.mem_of_mem_take hx), by simp; omega, by omega, by omega⟩⟩
      show [D.s ((bytesD ns).take 2000), dI 0] = _
      simp [bytesD, List.map_take]
    · rw [bytesD_len] at h
      exact WR.done ⟨ns, rfl, ⟨hb, by omega, by omega, by omega⟩⟩
  obtain ⟨ds, h1, bs, rfl, h2⟩ := key
  exact ⟨bs, h1, h2⟩

theorem Rdr.go {bs : List Int} {p q : Int} (h : Rdr bs p) (h1 : p ≤ q) (h2 : q ≤ 1000000000000) : Rdr bs q := ⟨h.byte, h.len, by have := h.pos; omega, h2⟩

theorem ev_vals {bs : List Int} {p n : Int} (hr : Rdr bs p) (hf : p ≤ 999999999000) (hn : n ≤ 2000000) :
    ∃ l q, Ev L f_spec_l20Vals [.s (bytesD bs), dI p, dI n] [.s (dL l), .s (bytesD bs), dI q] ∧ p ≤ q ∧ q ≤ p + 10 ∧ l.length ≤ 4 ∧ Lim 20000 l := by
  have key : ∃ ds, Ev L f_spec_l20Vals [.s (bytesD bs), dI p, dI n] ds ∧ ∃ l q, ds = [.s (dL l), .s (bytesD bs), dI q] ∧ p ≤ q ∧ q ≤ p + 10 ∧ l.length ≤ 4 ∧ Lim 20000 l := by
    refine Ev.of (vs := [.l (bytesD bs), .i p, .i n]) L_spec_l20Vals rfl ?_
    refine WR.loop (fun m vs => ∃ (l : List Int) (i : Int), vs = [.l (dL l), .i i, .i (p + i), .l (bytesD bs)] ∧ (l.length : Int) = i ∧ 0 ≤ i ∧ i ≤ 3 ∧ (m : Int) = 3 - i ∧ Lim 20000 l) rfl 3
      ⟨[], 0, by simp [den, envL, dL, V.int], rfl, by omega, by omega, by omega, fun x hx => by simp at hx⟩ ?_
    rintro m _ ⟨l, i, rfl, hl, h0, h3, hm, hlim⟩
    have hri : Rdr bs (p + i) := hr.go (by omega) (by omega)
    refine WR.iteP (i < 3) rfl (fun h => ?_) (fun h => ?_)
    · obtain ⟨v, hv, _, hv2⟩ := ev_pick hri (n := 9) (by omega)
      have hv2 := hv2 (by omega)
      refine WR.callA (args := [.s (bytesD bs), dI (p + i), dI 9]) rfl rfl hv rfl ?_
      refine WR.chkP (0 ≤ v) rfl hv2.1 ?_
      refine WR.chkP (v < 9) rfl hv2.2 ?_
      refine WR.idxA (ds := dL [0, 1, 5, 20, -3, 60, 10000, -10000, 9996]) v rfl rfl rfl hv2.1 (dL_get hv2.1 hv2.2) rfl ?_
      have hx := getD_in (p := fun x => -20000 ≤ x ∧ x ≤ 20000) (l := [0, 1, 5, 20, -3, 60, 10000, -10000, 9996]) (by decide) (k := v.toNat) (by simp; omega)
      generalize ([0, 1, 5, 20, -3, 60, 10000, -10000, 9996] : List Int).getD v.toNat 0 = x at *
      refine WR.chkP (((dL l ++ [dI x]).length : Int) ≤ 8796093022208) rfl (by simp [dL_len]; omega) ?_
      refine WR.nextA (vs := [.l (dL (l ++ [x])), .i (i + 1), .i (p + (i + 1)), .l (bytesD bs)]) ?_ ⟨m - 1, by omega, l ++ [x], i + 1, rfl, by simp; omega, by omega, by omega, by omega, hlim.snoc hx⟩
      show [V.l (dL l ++ [dI x]), V.i (IntKind.i64.wrap (i + 1)), V.i (p + i + 1), V.l (bytesD bs)] = _
      rw [dL_snoc, w64 (by omega) (by omega), Int.add_assoc]
    · refine WR.esc ?_
      obtain ⟨v, hv, _, _⟩ := ev_pick hri (n := n) hn
      refine WR.callA (args := [.s (bytesD bs), dI (p + i), dI n]) rfl rfl hv rfl ?_
      refine WR.iteP (v = 0) rfl (fun hv0 => ?_) (fun hv0 => WR.done ⟨l, p + i + 1, rfl, by omega, by omega, by omega, hlim⟩)
      obtain ⟨u, hu, _, hu2⟩ := ev_pick (hri.go (q := p + i + 1) (by omega) (by omega)) (n := 3) (by omega)
      have hu2 := hu2 (by omega)
      refine WR.callA (args := [.s (bytesD bs), dI (p + i + 1), dI 3]) rfl rfl hu rfl ?_
      refine WR.iteP (u = 0) rfl (fun hu0 => ?_) (fun hu0 => ?_)
      · refine WR.chkP (2 ≤ ((dL l).length : Int)) rfl (by rw [dL_len]; omega) ?_
        refine WR.done ⟨l.take 2, p + i + 1 + 1, ?_, by omega, by omega, by simp; omega, hlim.take 2⟩
        show [D.s ((dL l).take 2), D.s (bytesD bs), dI (p + i + 1 + 1)] = _
        rw [dL_take]
      refine WR.iteP (u = 1) rfl (fun hu1 => ?_) (fun hu1 => ?_)
      · refine WR.chkP (((dL l ++ [dI 0]).length : Int) ≤ 8796093022208) rfl (by simp [dL_len]; omega) ?_
        refine WR.done ⟨l ++ [0], p + i + 1 + 1, ?_, by omega, by omega, by simp; omega, hlim.snoc (by omega)⟩
        show [D.s (dL l ++ [dI 0]), D.s (bytesD bs), dI (p + i + 1 + 1)] = _
        rw [dL_snoc]
      obtain ⟨a, ha, _, ha2⟩ := ev_pick (hri.go (q := p + i + 1 + 1) (by omega) (by omega)) (n := 3) (by omega)
      have ha2 := ha2 (by omega)
      refine WR.callA (args := [.s (bytesD bs), dI (p + i + 1 + 1), dI 3]) rfl rfl ha rfl ?_
      obtain ⟨b, hb, _, hb2⟩ := ev_pick (hri.go (q := p + i + 1 + 1 + 1) (by omega) (by omega)) (n := 2) (by omega)
      have hb2 := hb2 (by omega)
      refine WR.callA (args := [.s (bytesD bs), dI (p + i + 1 + 1 + 1), dI 2]) rfl rfl hb rfl ?_
      refine WR.chkP (0 ≤ b) rfl hb2.1 ?_
      refine WR.chkP (b < 2) rfl hb2.2 ?_
      refine WR.idxA (ds := dL [10001, -10001]) b rfl rfl rfl hb2.1 (dL_get hb2.1 hb2.2) rfl ?_
      have hx := getD_in (p := fun x => -20000 ≤ x ∧ x ≤ 20000) (l := [10001, -10001]) (by decide) (k := b.toNat) (by simp; omega)
      generalize ([10001, -10001] : List Int).getD b.toNat 0 = x at *
      refine WR.chkP (0 ≤ a) rfl ha2.1 ?_
      refine WR.chkP (a < ((dL l).length : Int)) rfl (by rw [dL_len]; omega) ?_
      refine WR.idxA (ds := dL l) a rfl rfl rfl ha2.1 (dL_get ha2.1 (by omega)) rfl ?_
      refine WR.done ⟨l.set a.toNat x, p + i + 1 + 1 + 1 + 1, ?_, by omega, by omega, by simp; omega, hlim.set hx _⟩
      show [D.s ((dL l).set a.toNat (dI x)), D.s (bytesD bs), dI (p + i + 1 + 1 + 1 + 1)] = _
      rw [dL_set]
  obtain ⟨ds, h1, l, q, rfl, h2⟩ := key
  exact ⟨l, q, h1, h2⟩

end Go.Proofs.YtdibnlhlngodeaaDoor

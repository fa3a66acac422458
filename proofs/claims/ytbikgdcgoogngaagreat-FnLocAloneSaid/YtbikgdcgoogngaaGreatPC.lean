/- What draws of treaties, of what sites have added, of forms and lines come to. -/
import Derived.Test.YtbikgdcgoogngaaGreatPB
namespace Go.Proofs.YtbikgdcgoogngaaGreat
open Go Go.Tm

/-- A pick among n. -/
theorem WRpick {r : R} {l : List V} {Q : Oc → Prop} {c : Nat} {as : List E} {bs : List Int} {p : Int} (n : Int) (hr : Rdr bs p) (h1 : 1 ≤ n) (hn : n ≤ 1000000) (hc : c = l.length) (ha : as.map (dat (envL l)) = [.s (bytesD bs), dI p, dI n])
    (h : ∀ v, 0 ≤ v → v < n → WR L r (l ++ [.i v, .l (bytesD bs), .i (p + 1)]) Q) : WR L (.i (.call f_spec_l20Rd_pick as [.i .i64, .s, .i .i64] c) r) l Q := by
  obtain ⟨v, hv, _, hv2⟩ := ev_pick hr hn
  exact WR.callA hc ha hv rfl (h v (hv2 h1).1 (hv2 h1).2)

theorem ev_treaty {bs : List Int} {p n : Int} (hr : Rdr bs p) (hf : p ≤ 999999990000) (h1 : 1 ≤ n) (hn : n ≤ 1000000) :
    ∃ b g q, Ev L f_spec_l20Treaty [.s (bytesD bs), dI p, dI n] [.s (dL b), .s (dL g), .s (bytesD bs), dI q] ∧ p ≤ q ∧ q ≤ p + 40 ∧ b.length ≤ 4 ∧ g.length ≤ 3 ∧ Lim 20000 b ∧ Lim 20000 g := by
  have key : ∃ ds, Ev L f_spec_l20Treaty [.s (bytesD bs), dI p, dI n] ds ∧ ∃ b g q, ds = [.s (dL b), .s (dL g), .s (bytesD bs), dI q] ∧ p ≤ q ∧ q ≤ p + 40 ∧ b.length ≤ 4 ∧ g.length ≤ 3 ∧ Lim 20000 b ∧ Lim 20000 g := by
    refine Ev.of (vs := [.l (bytesD bs), .i p, .i n]) L_spec_l20Treaty rfl ?_
    obtain ⟨b, q, hb, q1, q2, bl, blim⟩ := ev_vals hr (by omega) (n := 99) (by omega)
    refine WR.callA (args := [.s (bytesD bs), dI p, dI 99]) rfl rfl hb rfl ?_
    refine WRpick 3 (hr.go q1 (by omega)) (by omega) (by omega) rfl rfl fun u hu0 hu1 => ?_
    refine WR.loop (fun m vs => ∃ (g : List Int) (k o : Int), vs = [.l (dL g), .i k, .i o, .l (bytesD bs)] ∧ q + 1 ≤ o ∧ o + k ≤ q + 1 + 3 ∧ 0 ≤ k ∧ k ≤ 3 ∧ (m : Int) = k ∧ (g.length : Int) + k = 1 + u ∧ Lim 20000 g) rfl (1 + u).toNat
      ⟨[], 1 + u, q + 1, ?_, by omega, by omega, by omega, by omega, by omega, by simp, fun x hx => by simp at hx⟩ ?_
    · show [V.l [], V.i (IntKind.i64.wrap (1 + u)), V.i (q + 1), V.l (bytesD bs)] = _
      rw [w64 (by omega) (by omega)]; rfl
    rintro m _ ⟨g, k, o, rfl, o1, o2, k0, k3, hm, hg, hlim⟩
    have hro : Rdr bs o := hr.go (by omega) (by omega)
    refine WR.iteP (0 < k) rfl (fun h => ?_) (fun h => ?_)
    · refine WRpick 5 hro (by omega) (by omega) rfl rfl fun v hv0 hv1 => ?_
      refine WR.chkP (0 ≤ v) rfl hv0 ?_
      refine WR.chkP (v < 5) rfl hv1 ?_
      refine WR.idxA (ds := dL [0, 3, 10, 30, 50]) v rfl rfl rfl hv0 (dL_get hv0 hv1) rfl ?_
      have hx := getD_in (p := fun x => -20000 ≤ x ∧ x ≤ 20000) (l := [0, 3, 10, 30, 50]) (by decide) (k := v.toNat) (by simp; omega)
      generalize ([0, 3, 10, 30, 50] : List Int).getD v.toNat 0 = x at *
      refine WR.chkP (((dL g ++ [dI x]).length : Int) ≤ 8796093022208) rfl (by simp [dL_len]; omega) ?_
      refine WR.nextA (vs := [.l (dL (g ++ [x])), .i (k - 1), .i (o + 1), .l (bytesD bs)]) ?_ ⟨m - 1, by omega, g ++ [x], k - 1, o + 1, rfl, by omega, by omega, by omega, by omega, by omega, by simp; omega, hlim.snoc hx⟩
      show [V.l (dL g ++ [dI x]), V.i (IntKind.i64.wrap (k - 1)), V.i (o + 1), V.l (bytesD bs)] = _
      rw [dL_snoc, w64 (by omega) (by omega)]
    · refine WR.esc ?_
      refine WRpick n hro h1 hn rfl rfl fun v hv0 hv1 => ?_
      refine WR.iteP (0 < v) rfl (fun hv => WR.done ⟨b, g, o + 1, rfl, by omega, by omega, bl, by omega, blim, hlim⟩) (fun hv => ?_)
      refine WRpick 3 (hro.go (q := o + 1) (by omega) (by omega)) (by omega) (by omega) rfl rfl fun w hw0 hw1 => ?_
      refine WR.iteP (w = 0) rfl (fun hw => ?_) (fun hw => ?_)
      · obtain ⟨b2, q2', hb2, q3, q4, bl2, blim2⟩ := ev_vals (hro.go (q := o + 1 + 1) (by omega) (by omega)) (by omega) (n := 1) (by omega)
        refine WR.callA (args := [.s (bytesD bs), dI (o + 1 + 1), dI 1]) rfl rfl hb2 rfl ?_
        exact WR.done ⟨b2, g, q2', rfl, by omega, by omega, bl2, by omega, blim2, hlim⟩
      refine WR.iteP (w = 1) rfl (fun hw => WR.done ⟨b, [], o + 1 + 1, rfl, by omega, by omega, bl, by simp, blim, fun x hx => by simp at hx⟩) (fun hw' => ?_)
      refine WRpick 2 (hro.go (q := o + 1 + 1) (by omega) (by omega)) (by omega) (by omega) rfl rfl fun z hz0 hz1 => ?_
      refine WR.chkP (0 ≤ z) rfl hz0 ?_
      refine WR.chkP (z < 2) rfl hz1 ?_
      refine WR.idxA (ds := dL [-1, 51]) z rfl rfl rfl hz0 (dL_get hz0 hz1) rfl ?_
      have hx := getD_in (p := fun x => -20000 ≤ x ∧ x ≤ 20000) (l := [-1, 51]) (by decide) (k := z.toNat) (by simp; omega)
      generalize ([-1, 51] : List Int).getD z.toNat 0 = x at *
      refine WR.chkP (0 < ((dL g).length : Int)) rfl (by rw [dL_len]; omega) ?_
      refine WR.idxA (ds := dL g) 0 rfl rfl rfl (by omega) (dL_get (by omega) (by omega)) rfl ?_
      refine WR.done ⟨b, g.set 0 x, o + 1 + 1 + 1, ?_, by omega, by omega, bl, by simp; omega, blim, hlim.set hx _⟩
      show [D.s (dL b), D.s ((dL g).set 0 (dI x)), D.s (bytesD bs), dI (o + 1 + 1 + 1)] = _
      rw [dL_set]
  obtain ⟨ds, e1, b, g, q, rfl, e2⟩ := key
  exact ⟨b, g, q, e1, e2⟩


theorem ev_added {bs : List Int} {p n : Int} (hr : Rdr bs p) (hf : p ≤ 999999990000) (h1 : 1 ≤ n) (hn : n ≤ 1000000) :
    ∃ a q, Ev L f_spec_l20Added [.s (bytesD bs), dI p, dI n] [.s (dL a), .s (bytesD bs), dI q] ∧ p ≤ q ∧ q ≤ p + 10 ∧ a.length ≤ 4 ∧ Lim 30000 a := by
  have key : ∃ ds, Ev L f_spec_l20Added [.s (bytesD bs), dI p, dI n] ds ∧ ∃ a q, ds = [.s (dL a), .s (bytesD bs), dI q] ∧ p ≤ q ∧ q ≤ p + 10 ∧ a.length ≤ 4 ∧ Lim 30000 a := by
    refine Ev.of (vs := [.l (bytesD bs), .i p, .i n]) L_spec_l20Added rfl ?_
    refine WRpick 9 hr (by omega) (by omega) rfl rfl fun u hu0 hu1 => ?_
    refine WRpick 9 (hr.go (q := p + 1) (by omega) (by omega)) (by omega) (by omega) rfl rfl fun v hv0 hv1 => ?_
    refine WRpick 4 (hr.go (q := p + 1 + 1) (by omega) (by omega)) (by omega) (by omega) rfl rfl fun w hw0 hw1 => ?_
    refine WR.chkP (0 ≤ w) rfl hw0 ?_
    refine WR.chkP (w < 4) rfl hw1 ?_
    refine WR.idxA (ds := dL [0, 0, 1, -2]) w rfl rfl rfl hw0 (dL_get hw0 hw1) rfl ?_
    have hx := getD_in (p := fun x => -30000 ≤ x ∧ x ≤ 30000) (l := [0, 0, 1, -2]) (by decide) (k := w.toNat) (by simp; omega)
    generalize ([0, 0, 1, -2] : List Int).getD w.toNat 0 = x at *
    have hlim : Lim 30000 [u - 4, v - 4, x] := by
      intro y hy
      simp at hy
      rcases hy with rfl | rfl | rfl
      · omega
      · omega
      · exact hx
    have e : [dI (IntKind.i64.wrap (u - 4)), dI (IntKind.i64.wrap (v - 4)), dI x] = dL [u - 4, v - 4, x] := by
      rw [w64 (by omega) (by omega), w64 (by omega) (by omega)]; rfl
    refine WRpick n (hr.go (q := p + 1 + 1 + 1) (by omega) (by omega)) h1 hn rfl rfl fun y hy0 hy1 => ?_
    refine WR.iteP (y = 0) rfl (fun hy => ?_) (fun hy => WR.done ⟨[u - 4, v - 4, x], p + 1 + 1 + 1 + 1, ?_, by omega, by omega, by simp, hlim⟩)
    · refine WRpick 3 (hr.go (q := p + 1 + 1 + 1 + 1) (by omega) (by omega)) (by omega) (by omega) rfl rfl fun z hz0 hz1 => ?_
      refine WR.iteP (z = 0) rfl (fun hz => ?_) (fun hz => ?_)
      · refine WR.done ⟨[u - 4, v - 4, x].take 2, p + 1 + 1 + 1 + 1 + 1, ?_, by omega, by omega, by simp, hlim.take 2⟩
        show [D.s ([dI (IntKind.i64.wrap (u - 4)), dI (IntKind.i64.wrap (v - 4)), dI x].take 2), D.s (bytesD bs), dI (p + 1 + 1 + 1 + 1 + 1)] = _
        rw [e, dL_take]
      refine WR.iteP (z = 1) rfl (fun hz => ?_) (fun hz => ?_)
      · refine WRpick 3 (hr.go (q := p + 1 + 1 + 1 + 1 + 1) (by omega) (by omega)) (by omega) (by omega) rfl rfl fun t ht0 ht1 => ?_
        refine WR.chkP (0 ≤ t) rfl ht0 ?_
        refine WR.chkP (t < 3) rfl ht1 ?_
        refine WR.idxA (ds := dL [20001, 60, -60]) t rfl rfl rfl ht0 (dL_get ht0 ht1) rfl ?_
        have hx2 := getD_in (p := fun x => -30000 ≤ x ∧ x ≤ 30000) (l := [20001, 60, -60]) (by decide) (k := t.toNat) (by simp; omega)
        generalize ([20001, 60, -60] : List Int).getD t.toNat 0 = x2 at *
        refine WR.idxA (ds := dL [u - 4, v - 4, x]) 0 rfl e rfl (by omega) (dL_get (by omega) (by simp)) rfl ?_
        refine WR.done ⟨[u - 4, v - 4, x].set 0 x2, p + 1 + 1 + 1 + 1 + 1 + 1, ?_, by omega, by omega, by simp, hlim.set hx2 _⟩
        show [D.s ([dI (IntKind.i64.wrap (u - 4)), dI (IntKind.i64.wrap (v - 4)), dI x].set 0 (dI x2)), D.s (bytesD bs), dI (p + 1 + 1 + 1 + 1 + 1 + 1)] = _
        rw [e, dL_set]
      · refine WR.chkLen ([dI (IntKind.i64.wrap (u - 4)), dI (IntKind.i64.wrap (v - 4)), dI x] ++ [dI 0]) rfl (by simp only [List.length_append, List.length_cons, List.length_nil]; omega) ?_
        refine WR.done ⟨[u - 4, v - 4, x] ++ [0], p + 1 + 1 + 1 + 1 + 1, ?_, by omega, by omega, by simp, hlim.snoc (by omega)⟩
        show [D.s ([dI (IntKind.i64.wrap (u - 4)), dI (IntKind.i64.wrap (v - 4)), dI x] ++ [dI 0]), D.s (bytesD bs), dI (p + 1 + 1 + 1 + 1 + 1)] = _
        rw [e, dL_snoc]
    · show [D.s [dI (IntKind.i64.wrap (u - 4)), dI (IntKind.i64.wrap (v - 4)), dI x], D.s (bytesD bs), dI (p + 1 + 1 + 1 + 1)] = _
      rw [e]
  obtain ⟨ds, e1, a, q, rfl, e2⟩ := key
  exact ⟨a, q, e1, e2⟩

end Go.Proofs.YtbikgdcgoogngaaGreat

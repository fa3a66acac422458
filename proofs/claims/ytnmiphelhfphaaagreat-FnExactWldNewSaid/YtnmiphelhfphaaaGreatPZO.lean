/- The program's WldNew answers as the reference's: the law: over residual programs. -/
import Derived.Test.YtnmiphelhfphaaaGreatPZN
namespace Go.Proofs.YtnmiphelhfphaaaGreat
open Go Go.Tm

structure fitWld (w : Wld) : Prop where
  p : fitPln w.p
  s : w.sites.length ≤ 2000000
  fs : ∀ s ∈ w.sites, fitSit s
  c : fitClk w.c
  n : w.cons.length ≤ 2000000
  fn : ∀ s ∈ w.cons, fitCon s

theorem ev_eqWldWorld (w : Wld) (hw : fitWld w) : Ev L f_laws_eqWldWorld (w.cells ++ w.cells) [dB true] := by
  have h1 := ev_eqPlnPlan w.p hw.p
  have h2 := ev_eqSitSiteS w.sites hw.s hw.fs
  have h3 := ev_eqClkClerk w.c hw.c
  have h4 := ev_eqConClientS w.cons hw.n hw.fn
  generalize hT : w.sites.map Sit.g = T at *
  generalize hC : w.cons.map Con.g = C at *
  refine Ev.eq (vs := [.i w.p.n, .l (dActs w.p.acts), .l (dL w.p.gives), .l (dL w.p.start), .l T, .b w.c.up, .i w.c.round, .l (dL w.c.base), .l (dDs w.c.done), .l (dCs w.c.wants), .l (dGs w.c.got), .l C, .l [], .l [],
    .i w.p.n, .l (dActs w.p.acts), .l (dL w.p.gives), .l (dL w.p.start), .l T, .b w.c.up, .i w.c.round, .l (dL w.c.base), .l (dDs w.c.done), .l (dCs w.c.wants), .l (dGs w.c.got), .l C, .l [], .l []]) L_laws_eqWldWorld (by rw [← hT, ← hC]; rfl) ?_
  refine WR.ev h1 rfl rfl rfl (WR.iteF rfl ?_)
  refine WR.ev h2 rfl rfl rfl (WR.iteF rfl ?_)
  refine WR.ev h3 rfl rfl rfl (WR.iteF rfl ?_)
  refine WR.ev h4 rfl rfl rfl (WR.iteF rfl ?_)
  refine WR.ev ev_eqNoMsg rfl rfl rfl (WR.iteF rfl ?_)
  exact WR.ev ev_eqNoLog rfl rfl rfl (WR.iteF rfl (WR.done rfl))

def wtWld (w : Wld) : Nat := wtPln w.p + wts Sit.w w.sites + wtClk w.c + wts Con.w w.cons

theorem fit_wldNew (p : Pln) (hp : fitPln p) : fitWld (wldNew p) := by
  have hs := fit_sitNew p hp
  have hc := (fit_clkNew p hp).1
  unfold wldNew
  split
  · rename_i h
    obtain ⟨h1, h2, h3, _⟩ := plnOk_n h
    refine ⟨hp, by simp; exact hp.2.1, fun s hm => ?_, hc, by simp; omega, fun s hm => ?_⟩
    · rw [(List.mem_replicate.1 hm).2]; exact hs
    · rw [(List.mem_replicate.1 hm).2]; exact ⟨by simp [con0], by simp [con0]⟩
  · exact ⟨⟨⟨by simp, fun a ha => by simp at ha⟩, by simp, by simp⟩, by simp, fun s hm => by simp at hm, hc, by simp, fun s hm => by simp at hm⟩

theorem wt_wldNew (p : Pln) (hp : fitPln p) (hz : szPln p ≤ 1048576) : wtWld (wldNew p) ≤ 100000000000 := by
  have hw := wtPln_le p
  have hws := wt_sitNew p hp
  have hwc := wt_clkNew p hp
  unfold wldNew
  split
  · rename_i h
    obtain ⟨h1, h2, h3, _⟩ := plnOk_n h
    have hg : p.gives.length ≤ 1048576 := by unfold szPln at hz; omega
    have e1 : Con.w con0 = 6 := rfl
    have e2 : Sit.w (sitNew p) ≤ 1000 := by
      unfold sitNew; rw [if_pos h]
      show 3 + p.start.length + 3 + wts Don.w (List.replicate p.n.toNat don0) ≤ 1000
      rw [wts_replicate]
      have e3 : don0.w = 2 := rfl
      rw [e3, h3]; omega
    unfold wtWld
    simp only [wts_replicate, e1]
    have e4 : Sit.w (sitNew p) * p.gives.length ≤ 1000 * 1048576 := Nat.mul_le_mul e2 hg
    omega
  · unfold wtWld
    have e1 : wtPln ⟨0, [], [], []⟩ = 0 := rfl
    have e2 : wts Sit.w [] = 0 := rfl
    have e3 : wts Con.w [] = 0 := rfl
    simp only [e1, e2, e3]
    omega

theorem none_wants (p : Pln) (hp : fitPln p) : (wldNew p).c.wants = [] := by
  have := (fit_clkNew p hp).2
  unfold wldNew
  split <;> exact this

theorem ev_FnExactWldNew (p : Pln) (hb : bigPln p) : Ev L f_laws_FnExactWldNew p.cells [dB true] := by
  refine Ev.eq (vs := [.i p.n, .l (dActs p.acts), .l (dL p.gives), .l (dL p.start)]) L_laws_FnExactWldNew rfl ?_
  refine WR.ev (ev_szPlnPlan p 1048576 hb (by omega) (by omega)) rfl rfl rfl ?_
  refine WR.iteP (dec 1048576 (szPln p) < 0) rfl (fun _ => WR.done rfl) (fun h => ?_)
  have hsz : szPln p ≤ 1048576 := by have := dec_le h; omega
  have hf : fitPln p := fitPln_of hsz
  have hwt := wtPln_le p
  have hto := ev_toPlnPlan p hf
  have heqp := ev_eqPlnPlan p hf
  have hmp := ev_mkPlnPlan p hf 1 (by omega) (by omega)
  have hfw := fit_wldNew p hf
  have hww := wt_wldNew p hf hsz
  have hnw := none_wants p hf
  have hss := ev_sWldNew p hf
  have his := ev_iWldNew p hf
  generalize wldNew p = w at *
  have heq := ev_eqWldWorld w hfw
  obtain ⟨⟨n, A0, G0, S0⟩, T0, ⟨u, r, b0, d0, c0, g0⟩, C0⟩ := w
  simp only at hnw
  subst hnw
  unfold wtWld at hww
  simp only at hww
  obtain ⟨fp, fs, fss, fc, fn, fns⟩ := hfw
  simp only at fp fs fss fc fn fns
  have m1 := ev_mkPlnPlan ⟨n, A0, G0, S0⟩ fp 1 (by omega) (by omega)
  have m2 := ev_markSitSiteS T0 (1 + wtPln ⟨n, A0, G0, S0⟩) fs fss (by omega) (by omega)
  have m3 := ev_mkClkClerk ⟨u, r, b0, d0, [], g0⟩ fc (1 + wtPln ⟨n, A0, G0, S0⟩ + wts Sit.w T0) (by omega) (by omega)
  have m4 := ev_markConClientS C0 (1 + wtPln ⟨n, A0, G0, S0⟩ + wts Sit.w T0 + wtClk ⟨u, r, b0, d0, [], g0⟩) fn fns (by omega) (by omega)
  have q1 := ev_hdPlnPlan ⟨n, A0, G0, S0⟩ fp 1 (by omega) (by omega)
  have q2 := ev_heldSitSiteS T0 (1 + wtPln ⟨n, A0, G0, S0⟩) fs fss (by omega) (by omega)
  have q3 := ev_hdClkClerk ⟨u, r, b0, d0, [], g0⟩ fc (1 + wtPln ⟨n, A0, G0, S0⟩ + wts Sit.w T0) (by omega) (by omega)
  have q4 := ev_heldConClientS C0 (1 + wtPln ⟨n, A0, G0, S0⟩ + wts Sit.w T0 + wtClk ⟨u, r, b0, d0, [], g0⟩) fn fns (by omega) (by omega)
  generalize hW1 : wtPln ⟨n, A0, G0, S0⟩ = W1 at *
  generalize hW2 : wts Sit.w T0 = W2 at *
  generalize hW3 : wtClk ⟨u, r, b0, d0, [], g0⟩ = W3 at *
  generalize hW4 : wts Con.w C0 = W4 at *
  have m5 := ev_mkNoMsg (1 + W1 + W2 + W3 + W4) (by omega) (by omega)
  have m6 := ev_mkNoLog (1 + W1 + W2 + W3 + W4) (by omega) (by omega)
  have q5 := ev_hdNoMsg (1 + W1 + W2 + W3 + W4) (by omega) (by omega)
  have q6 := ev_hdNoLog (1 + W1 + W2 + W3 + W4) (by omega) (by omega)
  -- lengths
  have l1 : (dActs (mkAll wtA mkAct 1 A0)).length = (dActs A0).length := by simp [dActs, mkAll_len]
  have l2 : (dL (cnt (1 + wtAs A0) G0.length)).length = (dL G0).length := by rw [dL_len, dL_len, cnt_len]
  have l3 : (dL (cnt (1 + wtAs A0 + G0.length) S0.length)).length = (dL S0).length := by rw [dL_len, dL_len, cnt_len]
  have l4 : ((mkAll Sit.w Sit.mk' (1 + W1) T0).map Sit.g).length = (T0.map Sit.g).length := by simp [mkAll_len]
  have l5 : (dL (mkCl (1 + W1 + W2) ⟨u, r, b0, d0, [], g0⟩).base).length = (dL b0).length := by rw [dL_len, dL_len]; simp [mkCl, cnt_len]
  have l6 : (dDs (mkCl (1 + W1 + W2) ⟨u, r, b0, d0, [], g0⟩).done).length = (dDs d0).length := by simp [dDs, mkCl, mkAll_len]
  have l7 : (dCs (mkCl (1 + W1 + W2) ⟨u, r, b0, d0, [], g0⟩).wants).length = (dCs []).length := by simp [dCs, mkCl, mkAll_len]
  have l8 : (dGs (mkCl (1 + W1 + W2) ⟨u, r, b0, d0, [], g0⟩).got).length = (dGs g0).length := by simp [dGs, mkCl, mkAll_len]
  have l9 : ((mkAll Con.w Con.mk' (1 + W1 + W2 + W3) C0).map Con.g).length = (C0.map Con.g).length := by simp [mkAll_len]
  have hcell : (mkCl (1 + W1 + W2) ⟨u, r, b0, d0, [], g0⟩).cells = [dB u, dI r, .s (dL (mkCl (1 + W1 + W2) ⟨u, r, b0, d0, [], g0⟩).base), .s (dDs (mkCl (1 + W1 + W2) ⟨u, r, b0, d0, [], g0⟩).done), .s (dCs (mkCl (1 + W1 + W2) ⟨u, r, b0, d0, [], g0⟩).wants), .s (dGs (mkCl (1 + W1 + W2) ⟨u, r, b0, d0, [], g0⟩).got)] := rfl
  rw [hcell] at q3
  have f1 := flats_dL G0
  have f2 := flats_dL S0
  have f3 := flats_dL b0
  have f4 : flats (dCs []) = true := rfl
  simp only [Wld.cells, Pln.cells, Clk.cells] at hss his heq m1 m3 q1 q3
  generalize dActs (mkAll wtA mkAct 1 A0) = A' at *
  generalize dL (cnt (1 + wtAs A0) G0.length) = G' at *
  generalize dL (cnt (1 + wtAs A0 + G0.length) S0.length) = S' at *
  generalize (mkAll Sit.w Sit.mk' (1 + W1) T0).map Sit.g = T' at *
  generalize dL (mkCl (1 + W1 + W2) ⟨u, r, b0, d0, [], g0⟩).base = b' at *
  generalize dDs (mkCl (1 + W1 + W2) ⟨u, r, b0, d0, [], g0⟩).done = d' at *
  generalize dCs (mkCl (1 + W1 + W2) ⟨u, r, b0, d0, [], g0⟩).wants = c' at *
  generalize dGs (mkCl (1 + W1 + W2) ⟨u, r, b0, d0, [], g0⟩).got = g' at *
  generalize (mkAll Con.w Con.mk' (1 + W1 + W2 + W3) C0).map Con.g = C' at *
  generalize dActs A0 = A at *
  generalize dL G0 = G at *
  generalize dL S0 = S at *
  generalize T0.map Sit.g = T at *
  generalize dL b0 = b at *
  generalize dDs d0 = d at *
  generalize dCs [] = c at *
  generalize dGs g0 = g at *
  generalize C0.map Con.g = C at *
  have mw : Ev L f_laws_markWldWorld [dI n, .s A, .s G, .s S, .s T, dB u, dI r, .s b, .s d, .s c, .s g, .s C, .s [], .s [], dI 1] [dI (1 + W1 + W2 + W3 + W4), .s A', .s G', .s S', .s T', .s b', .s d', .s c', .s g', .s C', .s [], .s []] := by
    refine Ev.eq (vs := [.i n, .l A, .l G, .l S, .l T, .b u, .i r, .l b, .l d, .l c, .l g, .l C, .l [], .l [], .i 1]) L_laws_markWldWorld rfl ?_
    refine WR.ev (vs := [.i (1 + W1), .l A', .l G', .l S']) m1 rfl rfl rfl ?_
    simp only [List.cons_append, List.nil_append]
    refine WR.ev (vs := [.i (1 + W1 + W2), .l T']) m2 rfl rfl rfl ?_
    simp only [List.cons_append, List.nil_append]
    refine WR.ev (vs := [.i (1 + W1 + W2 + W3), .l b', .l d', .l c', .l g']) m3 rfl rfl rfl ?_
    simp only [List.cons_append, List.nil_append]
    refine WR.ev (vs := [.i (1 + W1 + W2 + W3 + W4), .l C']) m4 rfl rfl rfl ?_
    simp only [List.cons_append, List.nil_append]
    refine WR.ev (vs := [.i (1 + W1 + W2 + W3 + W4), .l []]) m5 rfl rfl rfl ?_
    simp only [List.cons_append, List.nil_append]
    refine WR.ev (vs := [.i (1 + W1 + W2 + W3 + W4), .l []]) m6 rfl rfl rfl ?_
    exact WR.done rfl
  have hw : Ev L f_laws_heldWldWorld [dI n, .s A', .s G', .s S', .s T', dB u, dI r, .s b', .s d', .s c', .s g', .s C', .s [], .s [], dI 1] [dI (1 + W1 + W2 + W3 + W4)] := by
    refine Ev.eq (vs := [.i n, .l A', .l G', .l S', .l T', .b u, .i r, .l b', .l d', .l c', .l g', .l C', .l [], .l [], .i 1]) L_laws_heldWldWorld rfl ?_
    refine WR.ev (vs := [.i (1 + W1)]) q1 rfl rfl rfl ?_
    refine WR.iteF (by show decide (1 + (W1 : Int) < 0) = false; rw [decide_eq_false]; omega) ?_
    refine WR.ev (vs := [.i (1 + W1 + W2)]) q2 rfl rfl rfl ?_
    refine WR.iteF (by show decide (1 + (W1 : Int) + W2 < 0) = false; rw [decide_eq_false]; omega) ?_
    simp only [List.cons_append, List.nil_append]
    refine WR.ev (vs := [.i (1 + W1 + W2 + W3)]) q3 rfl rfl rfl ?_
    refine WR.iteF (by show decide (1 + (W1 : Int) + W2 + W3 < 0) = false; rw [decide_eq_false]; omega) ?_
    simp only [List.cons_append, List.nil_append]
    refine WR.ev (vs := [.i (1 + W1 + W2 + W3 + W4)]) q4 rfl rfl rfl ?_
    refine WR.iteF (by show decide (1 + (W1 : Int) + W2 + W3 + W4 < 0) = false; rw [decide_eq_false]; omega) ?_
    simp only [List.cons_append, List.nil_append]
    refine WR.ev (vs := [.i (1 + W1 + W2 + W3 + W4)]) q5 rfl rfl rfl ?_
    refine WR.iteF (by show decide (1 + (W1 : Int) + W2 + W3 + W4 < 0) = false; rw [decide_eq_false]; omega) ?_
    simp only [List.cons_append, List.nil_append]
    refine WR.ev (vs := [.i (1 + W1 + W2 + W3 + W4)]) q6 rfl rfl rfl ?_
    exact WR.iteF (by show decide (1 + (W1 : Int) + W2 + W3 + W4 < 0) = false; rw [decide_eq_false]; omega) (WR.done rfl)
  clear m1 m2 m3 m4 m5 m6 q1 q2 q3 q4 q5 q6
  have dd : ∀ {X Y : List D}, Y.length = X.length → decide ((X.length : Int) = (Y.length : Int)) = true := fun h => by rw [h]; simp
  generalize hW : (1 : Int) + W1 + W2 + W3 + W4 = W at *
  have hneg : decide (W < 0) = false := by rw [decide_eq_false]; omega
  have hsame : (!decide (W = W)) = false := by simp
  refine WR.ev (vs := [.i p.n, .l (dActs p.acts), .l (dL p.gives), .l (dL p.start)]) hto rfl rfl rfl ?_
  simp only [List.cons_append, List.nil_append]
  refine WR.ev (vs := [.i n, .l A, .l G, .l S, .l T, .b u, .i r, .l b, .l d, .l c, .l g, .l C, .l [], .l []]) hss rfl rfl rfl ?_
  simp only [List.cons_append, List.nil_append]
  refine WR.ev (vs := [.i p.n, .l (dActs p.acts), .l (dL p.gives), .l (dL p.start)]) hto rfl rfl rfl ?_
  simp only [List.cons_append, List.nil_append]
  refine WR.ev (vs := [.i n, .l A, .l G, .l S, .l T, .b u, .i r, .l b, .l d, .l c, .l g, .l C, .l [], .l []]) his rfl rfl rfl ?_
  simp only [List.cons_append, List.nil_append]
  refine WR.fl f1 (WR.fl f2 (WR.fl f3 (WR.fl f4 (WR.fl rfl (WR.fl rfl ?_)))))
  refine WR.ev heq rfl rfl rfl (WR.iteF rfl ?_)
  simp only [List.cons_append, List.nil_append]
  refine WR.ev (vs := [.i p.n, .l (dActs p.acts), .l (dL p.gives), .l (dL p.start)]) hto rfl rfl rfl ?_
  simp only [List.cons_append, List.nil_append]
  refine WR.ev heqp rfl rfl rfl (WR.iteF rfl ?_)
  simp only [List.cons_append, List.nil_append]
  refine WR.ev (vs := [.i (1 + wtPln p), .l (dActs (mkAll wtA mkAct 1 p.acts)), .l (dL (cnt (1 + wtAs p.acts) p.gives.length)), .l (dL (cnt (1 + wtAs p.acts + p.gives.length) p.start.length))]) hmp rfl rfl rfl ?_
  simp only [List.cons_append, List.nil_append]
  refine WR.iteF (by show decide ((1 : Int) + wtPln p < 0) = false; rw [decide_eq_false]; omega) ?_
  refine WR.ev heq rfl rfl rfl (WR.iteF rfl ?_)
  simp only [List.cons_append, List.nil_append]
  refine WR.ev (vs := [.i W, .l A', .l G', .l S', .l T', .l b', .l d', .l c', .l g', .l C', .l [], .l []]) mw rfl rfl rfl ?_
  simp only [List.cons_append, List.nil_append]
  refine WR.chk (dd l1) (WR.chk (dd l2) (WR.chk (dd l3) (WR.chk (dd l4) (WR.chk (dd l5) (WR.chk (dd l6) (WR.chk (dd l7) (WR.chk (dd l8) (WR.chk (dd l9) (WR.chk rfl (WR.chk rfl ?_))))))))))
  refine WR.ev (vs := [.i W]) hw rfl rfl rfl ?_
  simp only [List.cons_append, List.nil_append]
  refine WR.iteF hneg (WR.iteF hsame ?_)
  refine WR.ev (vs := [.i p.n, .l (dActs p.acts), .l (dL p.gives), .l (dL p.start)]) hto rfl rfl rfl ?_
  simp only [List.cons_append, List.nil_append]
  refine WR.ev (vs := [.i n, .l A, .l G, .l S, .l T, .b u, .i r, .l b, .l d, .l c, .l g, .l C, .l [], .l []]) his rfl rfl rfl ?_
  simp only [List.cons_append, List.nil_append]
  refine WR.fl f1 (WR.fl f2 (WR.fl f3 (WR.fl f4 (WR.fl rfl (WR.fl rfl ?_)))))
  refine WR.ev heq rfl rfl rfl (WR.iteF rfl ?_)
  simp only [List.cons_append, List.nil_append]
  refine WR.chk (dd l1) (WR.chk (dd l2) (WR.chk (dd l3) (WR.chk (dd l4) (WR.chk (dd l5) (WR.chk (dd l6) (WR.chk (dd l7) (WR.chk (dd l8) (WR.chk (dd l9) (WR.chk rfl (WR.chk rfl ?_))))))))))
  refine WR.ev (vs := [.i W]) hw rfl rfl rfl ?_
  simp only [List.cons_append, List.nil_append]
  exact WR.iteF hneg (WR.iteF hsame (WR.done rfl))

theorem arg_FnExactWldNew (dss : List (List D)) (h : TySs [tyPlan] dss) : ∃ ls, flattenD [.g [.i .i64, .s, .s, .s]] (argsS [tyPlan] dss) = some ls ∧ Ev L f_laws_FnExactWldNew ls [dB true] := by
  obtain ⟨ds, _, rfl, h1, rfl⟩ := h
  obtain ⟨p, rfl, hp⟩ := plan_of h1
  exact ⟨_, rfl, ev_FnExactWldNew p hp⟩

end Go.Proofs.YtnmiphelhfphaaaGreat

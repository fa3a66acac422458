/- The program's ClkNew answers as the reference's: over residual programs. -/
import Derived.Test.YtnmiphelhfphaaaGreatPZG
namespace Go.Proofs.YtnmiphelhfphaaaGreat
open Go Go.Tm

/-! ### What was told and asked -/

theorem ev_eqClkGot (a b : Got) (hl : a.added.length ≤ 2000000) (hl2 : a.seqs.length ≤ 2000000) : Ev L f_laws_eqClkGot (a.cells ++ b.cells) [dB (decide (a = b))] := by
  refine Ev.eq (vs := [.b a.has, .l (dL a.added), .l (dL a.seqs), .b b.has, .l (dL b.added), .l (dL b.seqs)]) L_laws_eqClkGot rfl ?_
  have e : decide (a = b) = (decide (a.has = b.has) && (decide (a.added = b.added) && decide (a.seqs = b.seqs))) := by
    obtain ⟨a1, a2, a3⟩ := a
    obtain ⟨b1, b2, b3⟩ := b
    simp only [Got.mk.injEq]
    by_cases h1 : a1 = b1 <;> by_cases h2 : a2 = b2 <;> by_cases h3 : a3 = b3 <;> simp [h1, h2, h3]
  rw [e]
  refine WR.iteN (decide (a.has = b.has)) (by show (!(a.has == b.has)) = _; cases a.has <;> cases b.has <;> rfl) (fun h => WR.done (by show [dB false] = _; rw [h]; rfl)) (fun h => ?_)
  refine WR.ev (ev_eqIntS a.added b.added hl) rfl rfl rfl ?_
  refine WR.iteN (decide (a.added = b.added)) rfl (fun h2 => WR.done (by show [dB false] = _; rw [h, h2]; rfl)) (fun h2 => ?_)
  refine WR.ev (ev_eqIntS a.seqs b.seqs hl2) rfl rfl rfl ?_
  refine WR.iteN (decide (a.seqs = b.seqs)) rfl (fun h3 => WR.done (by show [dB false] = _; rw [h, h2, h3]; rfl)) (fun h3 => WR.done (by show [dB true] = _; rw [h, h2, h3]; rfl))

theorem ev_eqClkGotS (a b : List Got) (hl : a.length ≤ 2000000) (ht : ∀ d ∈ a, d.added.length ≤ 2000000 ∧ d.seqs.length ≤ 2000000) : Ev L f_laws_eqClkGotS [.s (dGs a), .s (dGs b)] [dB (decide (a = b))] :=
  ev_sameC (g := f_laws_eqClkGot) (sh := .g [.b, .s, .s]) (as := [(.vb (.v 3)), (.s (.v 4)), (.s (.v 5)), (.vb (.v 6)), (.s (.v 7)), (.s (.v 8))]) (k1 := 6) (k2 := 9)
    Got.g (fun x => [.b x.has, .l (dL x.added), .l (dL x.seqs)]) Got.cells a b
    L_laws_eqClkGotS rfl (fun _ => rfl) (fun _ => rfl) (fun _ => rfl) (fun _ _ _ _ _ => rfl) (fun x hx y => ev_eqClkGot x y (ht x hx).1 (ht x hx).2) hl

theorem ev_eqPlnCall (a b : Cal) (hl : a.args.length ≤ 2000000) : Ev L f_laws_eqPlnCall (a.cells ++ b.cells) [dB (decide (a = b))] := by
  refine Ev.eq (vs := [.i a.client, .i a.seq, .i a.act, .l (dL a.args), .i b.client, .i b.seq, .i b.act, .l (dL b.args)]) L_laws_eqPlnCall rfl ?_
  have e : decide (a = b) = (decide (a.client = b.client) && (decide (a.seq = b.seq) && (decide (a.act = b.act) && decide (a.args = b.args)))) := by
    obtain ⟨a1, a2, a3, a4⟩ := a
    obtain ⟨b1, b2, b3, b4⟩ := b
    simp only [Cal.mk.injEq]
    by_cases h1 : a1 = b1 <;> by_cases h2 : a2 = b2 <;> by_cases h3 : a3 = b3 <;> by_cases h4 : a4 = b4 <;> simp [h1, h2, h3, h4]
  rw [e]
  refine WR.iteN (decide (a.client = b.client)) rfl (fun h => WR.done (by show [dB false] = _; rw [h]; rfl)) (fun h => ?_)
  refine WR.iteN (decide (a.seq = b.seq)) rfl (fun h2 => WR.done (by show [dB false] = _; rw [h, h2]; rfl)) (fun h2 => ?_)
  refine WR.iteN (decide (a.act = b.act)) rfl (fun h3 => WR.done (by show [dB false] = _; rw [h, h2, h3]; rfl)) (fun h3 => ?_)
  refine WR.ev (ev_eqIntS a.args b.args hl) rfl rfl rfl ?_
  refine WR.iteN (decide (a.args = b.args)) rfl (fun h4 => WR.done (by show [dB false] = _; rw [h, h2, h3, h4]; rfl)) (fun h4 => WR.done (by show [dB true] = _; rw [h, h2, h3, h4]; rfl))

theorem ev_eqPlnCallS (a b : List Cal) (hl : a.length ≤ 2000000) (ht : ∀ d ∈ a, d.args.length ≤ 2000000) : Ev L f_laws_eqPlnCallS [.s (dCs a), .s (dCs b)] [dB (decide (a = b))] :=
  ev_sameC (g := f_laws_eqPlnCall) (sh := .g [.i .i64, .i .i64, .i .i64, .s]) (as := [(.vi .i64 (.v 3)), (.vi .i64 (.v 4)), (.vi .i64 (.v 5)), (.s (.v 6)), (.vi .i64 (.v 7)), (.vi .i64 (.v 8)), (.vi .i64 (.v 9)), (.s (.v 10))]) (k1 := 7) (k2 := 11)
    Cal.g (fun x => [.i x.client, .i x.seq, .i x.act, .l (dL x.args)]) Cal.cells a b
    L_laws_eqPlnCallS rfl (fun _ => rfl) (fun _ => rfl) (fun _ => rfl) (fun _ _ _ _ _ => rfl) (fun x hx y => ev_eqPlnCall x y (ht x hx)) hl

theorem ev_markPlnCallS (l : List Cal) (k : Int) (hl : l.length ≤ 2000000) (ht : ∀ d ∈ l, d.args.length ≤ 2000000) (h0 : 0 ≤ k) (h1 : k + wts Cal.w l ≤ 1000000000000) :
    Ev L f_laws_markPlnCallS [.s (dCs l), dI k] [dI (k + wts Cal.w l), .s (dCs (mkAll Cal.w Cal.mk' k l))] :=
  ev_markLoop Cal.g Cal.w Cal.mk' l k L_laws_markPlnCallS rfl h0 h1 hl fun v0 v1 es i x q hx hxi hi hq0 hq1 => by
    have hil : i < es.length := (List.getElem?_eq_some_iff.1 hxi).1
    have hxt := ht x hx
    have hw : x.w = 3 + x.args.length := rfl
    have e1 : IntKind.i64.wrap (q + 1) = q + 1 := w64 (by omega) (by omega)
    have e2 : IntKind.i64.wrap (q + 1 + 1) = q + 1 + 1 := w64 (by omega) (by omega)
    have e3 : IntKind.i64.wrap (q + 1 + 1 + 1) = q + 1 + 1 + 1 := w64 (by omega) (by omega)
    refine WR.atN (vs := [.i x.client, .i x.seq, .i x.act, .l (dL x.args)]) (ds := es) i hxi rfl rfl rfl rfl rfl rfl ?_
    simp only [List.cons_append, List.nil_append]
    generalize hes1 : es.set i (.g [dI q, dI x.seq, dI x.act, .s (dL x.args)]) = es1
    have hl1 : es1.length = es.length := by rw [← hes1]; simp
    refine WR.atN (vs := [.i q, .i x.seq, .i x.act, .l (dL x.args)]) (ds := es1) (d := .g [dI q, dI x.seq, dI x.act, .s (dL x.args)]) i (by rw [← hes1]; exact set_at _ hil) rfl (by rw [hl1]; rfl) rfl (by rw [← hes1]; rfl) rfl rfl ?_
    simp only [List.cons_append, List.nil_append]
    generalize hes2 : es1.set i (.g [dI q, dI (q + 1), dI x.act, .s (dL x.args)]) = es2
    have hl2 : es2.length = es.length := by rw [← hes2]; simp [hl1]
    have hes2' : es2 = (es.set i (.g [dI q, dI x.seq, dI x.act, .s (dL x.args)])).set i (.g [dI q, dI (IntKind.i64.wrap (q + 1)), dI x.act, .s (dL x.args)]) := by rw [e1, hes1, hes2]
    refine WR.atN (vs := [.i q, .i (q + 1), .i x.act, .l (dL x.args)]) (ds := es2) (d := .g [dI q, dI (q + 1), dI x.act, .s (dL x.args)]) i (by rw [← hes2]; exact set_at _ (by omega)) rfl (by rw [hl2]; rfl) rfl (by rw [hes2']; rfl) rfl rfl ?_
    simp only [List.cons_append, List.nil_append]
    generalize hes3 : es2.set i (.g [dI q, dI (q + 1), dI (q + 1 + 1), .s (dL x.args)]) = es3
    have hl3 : es3.length = es.length := by rw [← hes3]; simp [hl2]
    have hes3' : es3 = ((es.set i (.g [dI q, dI x.seq, dI x.act, .s (dL x.args)])).set i (.g [dI q, dI (IntKind.i64.wrap (q + 1)), dI x.act, .s (dL x.args)])).set i (.g [dI q, dI (q + 1), dI (IntKind.i64.wrap (IntKind.i64.wrap (q + 1) + 1)), .s (dL x.args)]) := by rw [e1, e2, hes1, hes2, hes3]
    refine WR.atN (vs := [.i q, .i (q + 1), .i (q + 1 + 1), .l (dL x.args)]) (ds := es3) (d := .g [dI q, dI (q + 1), dI (q + 1 + 1), .s (dL x.args)]) i (by rw [← hes3]; exact set_at _ (by omega)) rfl (by rw [hl3]; rfl) rfl (by rw [hes3']; rfl) rfl rfl ?_
    simp only [List.cons_append, List.nil_append]
    refine WR.ev (vs := [.i (q + 1 + 1 + 1 + x.args.length), .l (dL (cnt (q + 1 + 1 + 1) x.args.length))]) (ev_markIntS x.args (q + 1 + 1 + 1) hxt (by omega) (by omega)) rfl ?_ rfl ?_
    · show [D.s (dL x.args), dI (IntKind.i64.wrap (IntKind.i64.wrap (IntKind.i64.wrap (q + 1) + 1) + 1))] = _
      rw [e1, e2, e3]
    simp only [List.cons_append, List.nil_append]
    refine WR.chk ?_ ?_
    · show decide (((dL (cnt (q + 1 + 1 + 1) x.args.length)).length : Int) = ((dL x.args).length : Int)) = true
      rw [dL_len, dL_len, cnt_len]; simp
    refine WR.nextA ?_ rfl
    show [V.l ((((es.set i (.g [dI q, dI x.seq, dI x.act, .s (dL x.args)])).set i (.g [dI q, dI (IntKind.i64.wrap (q + 1)), dI x.act, .s (dL x.args)])).set i (.g [dI q, dI (q + 1), dI (IntKind.i64.wrap (IntKind.i64.wrap (q + 1) + 1)), .s (dL x.args)])).set i (.g [dI q, dI (q + 1), dI (q + 1 + 1), .s (dL (cnt (q + 1 + 1 + 1) x.args.length))])), V.i (q + 1 + 1 + 1 + x.args.length), V.i (IntKind.i64.wrap ((i : Int) + 1))] = _
    rw [wS' (by omega), List.set_set, List.set_set, List.set_set, show q + 1 + 1 + 1 + (x.args.length : Int) = q + (x.w : Nat) by rw [hw]; push_cast; omega]
    rfl

theorem ev_heldPlnCallS (l : List Cal) (k : Int) (hl : l.length ≤ 2000000) (ht : ∀ d ∈ l, d.args.length ≤ 2000000) (h0 : 0 ≤ k) (h1 : k + wts Cal.w l ≤ 1000000000000) :
    Ev L f_laws_heldPlnCallS [.s (dCs (mkAll Cal.w Cal.mk' k l)), dI k] [dI (k + wts Cal.w l)] :=
  ev_heldLoop Cal.g Cal.w Cal.mk' l k L_laws_heldPlnCallS rfl h0 h1 hl fun v1 es i x q hx hxi hi hq0 hq1 => by
    have hxt := ht x hx
    have hw : x.w = 3 + x.args.length := rfl
    have e1 : IntKind.i64.wrap (q + 1) = q + 1 := w64 (by omega) (by omega)
    have e2 : IntKind.i64.wrap (q + 1 + 1) = q + 1 + 1 := w64 (by omega) (by omega)
    have e3 : IntKind.i64.wrap (q + 1 + 1 + 1) = q + 1 + 1 + 1 := w64 (by omega) (by omega)
    refine WR.idxN (vs := [.i q, .i (q + 1), .i (q + 1 + 1), .l (dL (cnt (q + 1 + 1 + 1) x.args.length))]) i hxi rfl rfl rfl rfl ?_
    refine WR.iteF (by show (!decide (q = q)) = false; simp) ?_
    refine WR.idxN (vs := [.i q, .i (q + 1), .i (q + 1 + 1), .l (dL (cnt (q + 1 + 1 + 1) x.args.length))]) i hxi rfl rfl rfl rfl ?_
    refine WR.iteF (by show (!decide (q + 1 = IntKind.i64.wrap (q + 1))) = false; rw [e1]; simp) ?_
    refine WR.idxN (vs := [.i q, .i (q + 1), .i (q + 1 + 1), .l (dL (cnt (q + 1 + 1 + 1) x.args.length))]) i hxi rfl rfl rfl rfl ?_
    refine WR.iteF (by show (!decide (q + 1 + 1 = IntKind.i64.wrap (IntKind.i64.wrap (q + 1) + 1))) = false; rw [e1, e2]; simp) ?_
    refine WR.idxN (vs := [.i q, .i (q + 1), .i (q + 1 + 1), .l (dL (cnt (q + 1 + 1 + 1) x.args.length))]) i hxi rfl rfl rfl rfl ?_
    simp only [List.cons_append, List.nil_append]
    refine WR.ev (vs := [.i (q + 1 + 1 + 1 + x.args.length)]) (ev_heldIntS (q + 1 + 1 + 1) x.args.length hxt (by omega) (by omega)) rfl ?_ rfl ?_
    · show [D.s (dL (cnt (q + 1 + 1 + 1) x.args.length)), dI (IntKind.i64.wrap (IntKind.i64.wrap (IntKind.i64.wrap (q + 1) + 1) + 1))] = _
      rw [e1, e2, e3]
    simp only [List.cons_append, List.nil_append]
    refine WR.iteF (by show decide (q + 1 + 1 + 1 + (x.args.length : Int) < 0) = false; rw [decide_eq_false]; omega) ?_
    refine WR.nextA ?_ rfl
    show [V.i (q + 1 + 1 + 1 + x.args.length), V.i (IntKind.i64.wrap ((i : Int) + 1))] = _
    rw [wS' (by omega), show q + 1 + 1 + 1 + (x.args.length : Int) = q + (x.w : Nat) by rw [hw]; push_cast; omega]

theorem ev_markClkGotS (l : List Got) (k : Int) (hl : l.length ≤ 2000000) (ht : ∀ d ∈ l, d.added.length ≤ 2000000 ∧ d.seqs.length ≤ 2000000) (h0 : 0 ≤ k) (h1 : k + wts Got.w l ≤ 1000000000000) :
    Ev L f_laws_markClkGotS [.s (dGs l), dI k] [dI (k + wts Got.w l), .s (dGs (mkAll Got.w Got.mk' k l))] :=
  ev_markLoop Got.g Got.w Got.mk' l k L_laws_markClkGotS rfl h0 h1 hl fun v0 v1 es i x q hx hxi hi hq0 hq1 => by
    have hil : i < es.length := (List.getElem?_eq_some_iff.1 hxi).1
    obtain ⟨hx1, hx2⟩ := ht x hx
    have hw : x.w = 1 + x.added.length + x.seqs.length := rfl
    have e1 : IntKind.i64.wrap (q + 1) = q + 1 := w64 (by omega) (by omega)
    generalize hB : decide (q.tmod 3 = 0) = B
    refine WR.chk rfl ?_
    refine WR.atN (vs := [.b x.has, .l (dL x.added), .l (dL x.seqs)]) (ds := es) i hxi rfl rfl rfl rfl rfl rfl ?_
    simp only [List.cons_append, List.nil_append]
    generalize hes1 : es.set i (.g [dB B, .s (dL x.added), .s (dL x.seqs)]) = es1
    have hl1 : es1.length = es.length := by rw [← hes1]; simp
    have hes1' : es1 = es.set i (.g [dB (decide (q.tmod 3 = 0)), .s (dL x.added), .s (dL x.seqs)]) := by rw [hB, hes1]
    refine WR.atN (vs := [.b B, .l (dL x.added), .l (dL x.seqs)]) (ds := es1) (d := .g [dB B, .s (dL x.added), .s (dL x.seqs)]) i (by rw [← hes1]; exact set_at _ hil) rfl (by rw [hl1]; rfl) rfl (by rw [hes1']; rfl) rfl rfl ?_
    simp only [List.cons_append, List.nil_append]
    refine WR.ev (vs := [.i (q + 1 + x.added.length), .l (dL (cnt (q + 1) x.added.length))]) (ev_markIntS x.added (q + 1) hx1 (by omega) (by omega)) rfl ?_ rfl ?_
    · show [D.s (dL x.added), dI (IntKind.i64.wrap (q + 1))] = _
      rw [e1]
    simp only [List.cons_append, List.nil_append]
    refine WR.chk ?_ ?_
    · show decide (((dL (cnt (q + 1) x.added.length)).length : Int) = ((dL x.added).length : Int)) = true
      rw [dL_len, dL_len, cnt_len]; simp
    generalize hes2 : es1.set i (.g [dB B, .s (dL (cnt (q + 1) x.added.length)), .s (dL x.seqs)]) = es2
    have hl2 : es2.length = es.length := by rw [← hes2]; simp [hl1]
    refine WR.atN (vs := [.b B, .l (dL (cnt (q + 1) x.added.length)), .l (dL x.seqs)]) (ds := es2) (d := .g [dB B, .s (dL (cnt (q + 1) x.added.length)), .s (dL x.seqs)]) i (by rw [← hes2]; exact set_at _ (by omega)) rfl (by rw [hl2]; rfl) rfl (by rw [← hes2, hes1']; rfl) rfl rfl ?_
    simp only [List.cons_append, List.nil_append]
    refine WR.ev (vs := [.i (q + 1 + x.added.length + x.seqs.length), .l (dL (cnt (q + 1 + x.added.length) x.seqs.length))]) (ev_markIntS x.seqs (q + 1 + x.added.length) hx2 (by omega) (by omega)) rfl rfl rfl ?_
    simp only [List.cons_append, List.nil_append]
    refine WR.chk ?_ ?_
    · show decide (((dL (cnt (q + 1 + x.added.length) x.seqs.length)).length : Int) = ((dL x.seqs).length : Int)) = true
      rw [dL_len, dL_len, cnt_len]; simp
    refine WR.nextA ?_ rfl
    show [V.l (((es.set i (.g [dB (decide (q.tmod 3 = 0)), .s (dL x.added), .s (dL x.seqs)])).set i (.g [dB B, .s (dL (cnt (q + 1) x.added.length)), .s (dL x.seqs)])).set i (.g [dB B, .s (dL (cnt (q + 1) x.added.length)), .s (dL (cnt (q + 1 + x.added.length) x.seqs.length))])), V.i (q + 1 + x.added.length + x.seqs.length), V.i (IntKind.i64.wrap ((i : Int) + 1))] = _
    rw [wS' (by omega), List.set_set, List.set_set, show q + 1 + (x.added.length : Int) + x.seqs.length = q + (x.w : Nat) by rw [hw]; push_cast; omega, ← hB]
    rfl

theorem ev_heldClkGotS (l : List Got) (k : Int) (hl : l.length ≤ 2000000) (ht : ∀ d ∈ l, d.added.length ≤ 2000000 ∧ d.seqs.length ≤ 2000000) (h0 : 0 ≤ k) (h1 : k + wts Got.w l ≤ 1000000000000) :
    Ev L f_laws_heldClkGotS [.s (dGs (mkAll Got.w Got.mk' k l)), dI k] [dI (k + wts Got.w l)] :=
  ev_heldLoop Got.g Got.w Got.mk' l k L_laws_heldClkGotS rfl h0 h1 hl fun v1 es i x q hx hxi hi hq0 hq1 => by
    obtain ⟨hx1, hx2⟩ := ht x hx
    have hw : x.w = 1 + x.added.length + x.seqs.length := rfl
    have e1 : IntKind.i64.wrap (q + 1) = q + 1 := w64 (by omega) (by omega)
    refine WR.idxN (vs := [.b (decide (q.tmod 3 = 0)), .l (dL (cnt (q + 1) x.added.length)), .l (dL (cnt (q + 1 + x.added.length) x.seqs.length))]) i hxi rfl rfl rfl rfl ?_
    refine WR.chk rfl ?_
    refine WR.iteF (by show (!(decide (q.tmod 3 = 0) == decide (q.tmod 3 = 0))) = false; simp) ?_
    refine WR.idxN (vs := [.b (decide (q.tmod 3 = 0)), .l (dL (cnt (q + 1) x.added.length)), .l (dL (cnt (q + 1 + x.added.length) x.seqs.length))]) i hxi rfl rfl rfl rfl ?_
    simp only [List.cons_append, List.nil_append]
    refine WR.ev (vs := [.i (q + 1 + x.added.length)]) (ev_heldIntS (q + 1) x.added.length hx1 (by omega) (by omega)) rfl ?_ rfl ?_
    · show [D.s (dL (cnt (q + 1) x.added.length)), dI (IntKind.i64.wrap (q + 1))] = _
      rw [e1]
    simp only [List.cons_append, List.nil_append]
    refine WR.iteF (by show decide (q + 1 + (x.added.length : Int) < 0) = false; rw [decide_eq_false]; omega) ?_
    refine WR.idxN (vs := [.b (decide (q.tmod 3 = 0)), .l (dL (cnt (q + 1) x.added.length)), .l (dL (cnt (q + 1 + x.added.length) x.seqs.length))]) i hxi rfl rfl rfl rfl ?_
    simp only [List.cons_append, List.nil_append]
    refine WR.ev (vs := [.i (q + 1 + x.added.length + x.seqs.length)]) (ev_heldIntS (q + 1 + x.added.length) x.seqs.length hx2 (by omega) (by omega)) rfl rfl rfl ?_
    simp only [List.cons_append, List.nil_append]
    refine WR.iteF (by show decide (q + 1 + (x.added.length : Int) + x.seqs.length < 0) = false; rw [decide_eq_false]; omega) ?_
    refine WR.nextA ?_ rfl
    show [V.i (q + 1 + x.added.length + x.seqs.length), V.i (IntKind.i64.wrap ((i : Int) + 1))] = _
    rw [wS' (by omega), show q + 1 + (x.added.length : Int) + x.seqs.length = q + (x.w : Nat) by rw [hw]; push_cast; omega]

/-! ### The clerk -/

structure Clk where
  up : Bool
  round : Int
  base : List Int
  done : List Don
  wants : List Cal
  got : List Got
  deriving DecidableEq
def Clk.cells (s : Clk) : List D := [dB s.up, dI s.round, .s (dL s.base), .s (dDs s.done), .s (dCs s.wants), .s (dGs s.got)]
structure fitClk (s : Clk) : Prop where
  b : s.base.length ≤ 2000000
  d : s.done.length ≤ 2000000
  dt : ∀ d ∈ s.done, d.tells.length ≤ 2000000
  c : s.wants.length ≤ 2000000
  ct : ∀ d ∈ s.wants, d.args.length ≤ 2000000
  g : s.got.length ≤ 2000000
  gt : ∀ d ∈ s.got, d.added.length ≤ 2000000 ∧ d.seqs.length ≤ 2000000
def wtClk (s : Clk) : Nat := s.base.length + wts Don.w s.done + wts Cal.w s.wants + wts Got.w s.got
def mkClk (s : Clk) : Clk := ⟨s.up, s.round, cnt 1 s.base.length, mkAll Don.w Don.mk' (1 + s.base.length) s.done, mkAll Cal.w Cal.mk' (1 + s.base.length + wts Don.w s.done) s.wants, mkAll Got.w Got.mk' (1 + s.base.length + wts Don.w s.done + wts Cal.w s.wants) s.got⟩

theorem ev_eqClkClerk (s : Clk) (hs : fitClk s) : Ev L f_laws_eqClkClerk (s.cells ++ s.cells) [dB true] := by
  refine Ev.eq (vs := [.b s.up, .i s.round, .l (dL s.base), .l (dDs s.done), .l (dCs s.wants), .l (dGs s.got), .b s.up, .i s.round, .l (dL s.base), .l (dDs s.done), .l (dCs s.wants), .l (dGs s.got)]) L_laws_eqClkClerk rfl ?_
  have h1 := ev_eqIntS s.base s.base hs.b
  have h2 := ev_eqPlnDoneS s.done s.done hs.d hs.dt
  have h3 := ev_eqPlnCallS s.wants s.wants hs.c hs.ct
  have h4 := ev_eqClkGotS s.got s.got hs.g hs.gt
  rw [decide_eq_true rfl] at h1 h2 h3 h4
  refine WR.iteF (by show (!(s.up == s.up)) = false; simp) ?_
  refine WR.iteF (by show (!decide (s.round = s.round)) = false; simp) ?_
  refine WR.ev h1 rfl rfl rfl (WR.iteF rfl ?_)
  refine WR.ev h2 rfl rfl rfl (WR.iteF rfl ?_)
  refine WR.ev h3 rfl rfl rfl (WR.iteF rfl ?_)
  exact WR.ev h4 rfl rfl rfl (WR.iteF rfl (WR.done rfl))

theorem ev_markClkClerk (s : Clk) (hs : fitClk s) (hw : wtClk s ≤ 10000000000) : Ev L f_laws_markClkClerk (s.cells ++ [dI 1]) [dI (1 + wtClk s), .s (dL (mkClk s).base), .s (dDs (mkClk s).done), .s (dCs (mkClk s).wants), .s (dGs (mkClk s).got)] := by
  unfold wtClk at hw
  refine Ev.eq (vs := [.b s.up, .i s.round, .l (dL s.base), .l (dDs s.done), .l (dCs s.wants), .l (dGs s.got), .i 1]) L_laws_markClkClerk rfl ?_
  refine WR.ev (ev_markIntS s.base 1 hs.b (by omega) (by omega)) rfl rfl rfl ?_
  refine WR.ev (ev_markPlnDoneS s.done (1 + s.base.length) hs.d hs.dt (by omega) (by omega)) rfl rfl rfl ?_
  refine WR.ev (ev_markPlnCallS s.wants (1 + s.base.length + wts Don.w s.done) hs.c hs.ct (by omega) (by omega)) rfl rfl rfl ?_
  refine WR.ev (ev_markClkGotS s.got (1 + s.base.length + wts Don.w s.done + wts Cal.w s.wants) hs.g hs.gt (by omega) (by omega)) rfl rfl rfl ?_
  refine WR.done ?_
  show [dI (1 + s.base.length + wts Don.w s.done + wts Cal.w s.wants + wts Got.w s.got), _, _, _, _] = _
  rw [show (1 : Int) + s.base.length + wts Don.w s.done + wts Cal.w s.wants + wts Got.w s.got = 1 + wtClk s by unfold wtClk; push_cast; omega]
  rfl

theorem ev_heldClkClerk (s : Clk) (hs : fitClk s) (hw : wtClk s ≤ 10000000000) : Ev L f_laws_heldClkClerk ((mkClk s).cells ++ [dI 1]) [dI (1 + wtClk s)] := by
  unfold wtClk at hw
  refine Ev.eq (vs := [.b s.up, .i s.round, .l (dL (mkClk s).base), .l (dDs (mkClk s).done), .l (dCs (mkClk s).wants), .l (dGs (mkClk s).got), .i 1]) L_laws_heldClkClerk rfl ?_
  refine WR.ev (ev_heldIntS 1 s.base.length hs.b (by omega) (by omega)) rfl rfl rfl ?_
  refine WR.iteF (by show decide (1 + (s.base.length : Int) < 0) = false; rw [decide_eq_false]; omega) ?_
  refine WR.ev (ev_heldPlnDoneS s.done (1 + s.base.length) hs.d hs.dt (by omega) (by omega)) rfl rfl rfl ?_
  refine WR.iteF (by show decide (1 + (s.base.length : Int) + wts Don.w s.done < 0) = false; rw [decide_eq_false]; omega) ?_
  refine WR.ev (ev_heldPlnCallS s.wants (1 + s.base.length + wts Don.w s.done) hs.c hs.ct (by omega) (by omega)) rfl rfl rfl ?_
  refine WR.iteF (by show decide (1 + (s.base.length : Int) + wts Don.w s.done + wts Cal.w s.wants < 0) = false; rw [decide_eq_false]; omega) ?_
  refine WR.ev (ev_heldClkGotS s.got (1 + s.base.length + wts Don.w s.done + wts Cal.w s.wants) hs.g hs.gt (by omega) (by omega)) rfl rfl rfl ?_
  refine WR.iteF (by show decide (1 + (s.base.length : Int) + wts Don.w s.done + wts Cal.w s.wants + wts Got.w s.got < 0) = false; rw [decide_eq_false]; omega) (WR.done ?_)
  show [dI (1 + s.base.length + wts Don.w s.done + wts Cal.w s.wants + wts Got.w s.got)] = _
  rw [show (1 : Int) + s.base.length + wts Don.w s.done + wts Cal.w s.wants + wts Got.w s.got = 1 + wtClk s by unfold wtClk; push_cast; omega]

def got0 : Got := ⟨false, [], []⟩
def clkNew (p : Pln) : Clk := if plnOk p then ⟨true, 0, p.start, List.replicate p.n.toNat don0, [], List.replicate p.gives.length got0⟩ else ⟨false, 0, [], [], [], []⟩

theorem ev_l9None (p : Pln) (hg : p.gives.length ≤ 2000000) : Ev L f_spec_l9None p.cells [.s (dGs (List.replicate p.gives.length got0))] := by
  refine Ev.eq (vs := [.i p.n, .l (dActs p.acts), .l (dL p.gives), .l (dL p.start)]) L_spec_l9None rfl ?_
  refine WR.forP p.gives.length (fun i => [.l (dGs (List.replicate i got0)), .i i]) (fun _ => True) rfl rfl trivial fun i hi _ => ?_
  simp only [List.cons_append, List.nil_append]
  have hl : (dGs (List.replicate i got0)).length = i := by simp [dGs]
  refine WR.iteLen i (dL_len p.gives) rfl (fun h => ?_) (fun h => WR.esc (WR.done ?_))
  · refine WR.chkApp (dGs (List.replicate i got0)) 2000000 (by omega) (by omega) rfl ?_
    refine WR.nextA (vs := [.l (dGs (List.replicate (i + 1) got0)), .i ((i + 1 : Nat) : Int)]) ?_ ⟨h, rfl, trivial⟩
    show [V.l (dGs (List.replicate i got0) ++ [Got.g got0]), V.i (IntKind.i64.wrap ((i : Int) + 1))] = _
    rw [wS h (by omega), List.replicate_succ']
    simp [dGs]
  · show [D.s (dGs (List.replicate i got0))] = _
    rw [show i = p.gives.length by omega]

theorem ev_sClkNew (p : Pln) (hp : fitPln p) : Ev L f_spec_ClkNew p.cells (clkNew p).cells := by
  refine Ev.eq (vs := [.i p.n, .l (dActs p.acts), .l (dL p.gives), .l (dL p.start)]) L_spec_ClkNew rfl ?_
  refine WR.ev (ev_sPlnOk p hp) rfl rfl rfl ?_
  refine WR.iteN (plnOk p) rfl (fun h => WR.done ?_) (fun h => ?_)
  · show _ = (clkNew p).cells
    unfold clkNew; rw [if_neg (by simp [h])]; rfl
  obtain ⟨h1, h2, h3, _⟩ := plnOk_n h
  refine WR.chkN (dL p.start) 2000000 (by rw [dL_len]; exact hp.2.2) (by omega) rfl ?_
  refine WR.head (head_dL p.start) ?_
  refine WR.chkN (dL p.start) 2000000 (by rw [dL_len]; exact hp.2.2) (by omega) rfl ?_
  refine WR.ev (ev_l6New p (by omega) h2) rfl rfl rfl ?_
  refine WR.ev (ev_l9None p hp.2.1) rfl rfl rfl (WR.done ?_)
  show _ = (clkNew p).cells
  unfold clkNew; rw [if_pos h]; rfl

theorem ev_clerkNew (p : Pln) (hp : fitPln p) (h1 : 0 ≤ p.n) (h2 : p.n ≤ 4) : Ev L f_impl_PlnPlan_clerkNew p.cells (Clk.cells ⟨true, 0, p.start, List.replicate p.n.toNat don0, [], List.replicate p.gives.length got0⟩) := by
  refine Ev.eq (vs := [.i p.n, .l (dActs p.acts), .l (dL p.gives), .l (dL p.start)]) L_impl_PlnPlan_clerkNew rfl ?_
  refine WR.ev (ev_clone1 p.start hp.2.2) rfl rfl rfl ?_
  have hg := hp.2.1
  refine WR.chk (by show decide (0 ≤ p.n) = true; simpa using h1) ?_
  refine WR.chk (by show decide (p.n ≤ (1759218604441 : Int)) = true; simp only [decide_eq_true_eq]; omega) ?_
  refine WR.chk (by show decide ((0 : Int) ≤ ((dL p.gives).length : Int)) = true; simp) ?_
  refine WR.chkN (dL p.gives) 2000000 (by rw [dL_len]; exact hg) (by omega) rfl ?_
  refine WR.done ?_
  show [_, _, _, D.s (List.replicate p.n.toNat (Don.g don0)), _, D.s (List.replicate ((dL p.gives).length : Int).toNat (Got.g got0))] = _
  unfold Clk.cells dDs dGs
  rw [List.map_replicate, List.map_replicate, dL_len, Int.toNat_natCast]; rfl

theorem fit_clkNew (p : Pln) (hp : fitPln p) : fitClk (clkNew p) ∧ (clkNew p).wants = [] := by
  unfold clkNew
  split
  · rename_i h
    obtain ⟨h1, h2, h3, _⟩ := plnOk_n h
    refine ⟨⟨hp.2.2, by simp; omega, fun d hd => ?_, by simp, fun d hd => by simp at hd, by simp; exact hp.2.1, fun d hd => ?_⟩, rfl⟩
    · rw [(List.mem_replicate.1 hd).2]; simp [don0]
    · rw [(List.mem_replicate.1 hd).2]; simp [got0]
  · exact ⟨⟨by simp, by simp, fun d hd => by simp at hd, by simp, fun d hd => by simp at hd, by simp, fun d hd => by simp at hd⟩, rfl⟩

theorem wts_replicate {α : Type} (w : α → Nat) (x : α) (n : Nat) : wts w (List.replicate n x) = w x * n := by
  induction n with
  | zero => rfl
  | succ n ih =>
    have h5 : wts w (x :: List.replicate n x) = w x + wts w (List.replicate n x) := rfl
    rw [List.replicate_succ, h5, ih, Nat.mul_succ]; omega

theorem wt_clkNew (p : Pln) (hp : fitPln p) : wtClk (clkNew p) ≤ 10000000000 := by
  unfold clkNew
  split
  · rename_i h
    obtain ⟨h1, h2, h3, _⟩ := plnOk_n h
    have hg := hp.2.1
    unfold wtClk
    have e1 : don0.w = 2 := rfl
    have e2 : got0.w = 1 := rfl
    have e3 : wts Cal.w [] = 0 := rfl
    simp only [wts_replicate, e1, e2, e3, h3]
    omega
  · simp [wtClk, wts]

end Go.Proofs.YtnmiphelhfphaaaGreat

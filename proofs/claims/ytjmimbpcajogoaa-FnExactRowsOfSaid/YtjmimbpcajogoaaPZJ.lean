/- The program's RowsOf answers as the reference's: over residual programs. -/
import Derived.Test.YtjmimbpcajogoaaPZF
namespace Go.Proofs.Ytjmimbpcajogoaa
open Go Go.Tm

/-! ### Forms -/

def wFr (f : Frm) : Nat := 1 + f.c.length + f.d.length
def mkFr (q : Int) (f : Frm) : Frm := ⟨cnt q f.c.length, cnt (q + f.c.length) f.d.length, q + f.c.length + f.d.length⟩

theorem ev_eqFrmFormS (a b : List Frm) (hl : a.length ≤ 2000000) (ht : ∀ f ∈ a, Frm.fit f) : Ev L f_laws_eqFrmFormS [.s (dF a), .s (dF b)] [dB (decide (a = b))] :=
  ev_sameC (g := f_laws_eqFrmForm) (sh := .g [.s, .s, .i .i64]) (as := [(.s (.v 3)), (.s (.v 4)), (.vi .i64 (.v 5)), (.s (.v 6)), (.s (.v 7)), (.vi .i64 (.v 8))]) (k1 := 6) (k2 := 9)
    Frm.g (fun x => [.l (dL x.c), .l (dL x.d), .i x.k]) Frm.cells a b
    L_laws_eqFrmFormS rfl (fun _ => rfl) (fun _ => rfl) (fun _ => rfl) (fun _ _ _ _ _ => rfl) (fun x hx y => ev_eqFrmForm x y (ht x hx)) hl

theorem ev_markFrmFormS (l : List Frm) (k : Int) (hl : l.length ≤ 2000000) (ht : ∀ f ∈ l, Frm.fit f) (h0 : 0 ≤ k) (h1 : k + wts wFr l ≤ 1000000000000) :
    Ev L f_laws_markFrmFormS [.s (dF l), dI k] [dI (k + wts wFr l), .s (dF (mkAll wFr mkFr k l))] :=
  ev_markLoop Frm.g wFr mkFr l k L_laws_markFrmFormS rfl h0 h1 hl fun v0 v1 es i x q hx hxi hi hq0 hq1 => by
    have hil : i < es.length := (List.getElem?_eq_some_iff.1 hxi).1
    obtain ⟨hx1, hx2⟩ := ht x hx
    have hw : wFr x = 1 + x.c.length + x.d.length := rfl
    refine WR.atN (vs := [.l (dL x.c), .l (dL x.d), .i x.k]) (ds := es) i hxi rfl rfl rfl rfl rfl rfl ?_
    simp only [List.cons_append, List.nil_append]
    refine WR.ev (vs := [.i (q + x.c.length), .l (dL (cnt q x.c.length))]) (ev_markIntS x.c q hx1 (by omega) (by omega)) rfl rfl rfl ?_
    simp only [List.cons_append, List.nil_append]
    refine WR.chk ?_ ?_
    · show decide (((dL (cnt q x.c.length)).length : Int) = ((dL x.c).length : Int)) = true
      rw [dL_len, dL_len, cnt_len]; simp
    generalize hes1 : es.set i (.g [.s (dL (cnt q x.c.length)), .s (dL x.d), dI x.k]) = es1
    have hl1 : es1.length = es.length := by rw [← hes1]; simp
    refine WR.atN (vs := [.l (dL (cnt q x.c.length)), .l (dL x.d), .i x.k]) (ds := es1) (d := .g [.s (dL (cnt q x.c.length)), .s (dL x.d), dI x.k]) i (by rw [← hes1]; exact set_at _ hil) rfl (by rw [hl1]; rfl) rfl (by rw [← hes1]; rfl) rfl rfl ?_
    simp only [List.cons_append, List.nil_append]
    refine WR.ev (vs := [.i (q + x.c.length + x.d.length), .l (dL (cnt (q + x.c.length) x.d.length))]) (ev_markIntS x.d (q + x.c.length) hx2 (by omega) (by omega)) rfl rfl rfl ?_
    simp only [List.cons_append, List.nil_append]
    refine WR.chk ?_ ?_
    · show decide (((dL (cnt (q + x.c.length) x.d.length)).length : Int) = ((dL x.d).length : Int)) = true
      rw [dL_len, dL_len, cnt_len]; simp
    generalize hes2 : es1.set i (.g [.s (dL (cnt q x.c.length)), .s (dL (cnt (q + x.c.length) x.d.length)), dI x.k]) = es2
    have hl2 : es2.length = es.length := by rw [← hes2]; simp [hl1]
    refine WR.atN (vs := [.l (dL (cnt q x.c.length)), .l (dL (cnt (q + x.c.length) x.d.length)), .i x.k]) (ds := es2) (d := .g [.s (dL (cnt q x.c.length)), .s (dL (cnt (q + x.c.length) x.d.length)), dI x.k]) i (by rw [← hes2]; exact set_at _ (by omega)) rfl (by rw [hl2]; rfl) rfl (by rw [← hes2, ← hes1]; rfl) rfl rfl ?_
    simp only [List.cons_append, List.nil_append]
    refine WR.nextA ?_ rfl
    show [V.l (((es.set i (.g [.s (dL (cnt q x.c.length)), .s (dL x.d), dI x.k])).set i (.g [.s (dL (cnt q x.c.length)), .s (dL (cnt (q + x.c.length) x.d.length)), dI x.k])).set i (.g [.s (dL (cnt q x.c.length)), .s (dL (cnt (q + x.c.length) x.d.length)), dI (q + x.c.length + x.d.length)])), V.i (IntKind.i64.wrap (q + x.c.length + x.d.length + 1)), V.i (IntKind.i64.wrap ((i : Int) + 1))] = _
    rw [wS' (by omega), List.set_set, List.set_set, w64 (by omega) (by omega), show q + (x.c.length : Int) + x.d.length + 1 = q + (wFr x : Nat) by rw [hw]; push_cast; omega]
    rfl

theorem ev_heldFrmFormS (l : List Frm) (k : Int) (hl : l.length ≤ 2000000) (ht : ∀ f ∈ l, Frm.fit f) (h0 : 0 ≤ k) (h1 : k + wts wFr l ≤ 1000000000000) :
    Ev L f_laws_heldFrmFormS [.s (dF (mkAll wFr mkFr k l)), dI k] [dI (k + wts wFr l)] :=
  ev_heldLoop Frm.g wFr mkFr l k L_laws_heldFrmFormS rfl h0 h1 hl fun v1 es i x q hx hxi hi hq0 hq1 => by
    obtain ⟨hx1, hx2⟩ := ht x hx
    have hw : wFr x = 1 + x.c.length + x.d.length := rfl
    refine WR.idxN (vs := [.l (dL (cnt q x.c.length)), .l (dL (cnt (q + x.c.length) x.d.length)), .i (q + x.c.length + x.d.length)]) i hxi rfl rfl rfl rfl ?_
    simp only [List.cons_append, List.nil_append]
    refine WR.ev (vs := [.i (q + x.c.length)]) (ev_heldIntS q x.c.length hx1 (by omega) (by omega)) rfl rfl rfl ?_
    simp only [List.cons_append, List.nil_append]
    refine WR.iteF (by show decide (q + (x.c.length : Int) < 0) = false; rw [decide_eq_false]; omega) ?_
    refine WR.idxN (vs := [.l (dL (cnt q x.c.length)), .l (dL (cnt (q + x.c.length) x.d.length)), .i (q + x.c.length + x.d.length)]) i hxi rfl rfl rfl rfl ?_
    simp only [List.cons_append, List.nil_append]
    refine WR.ev (vs := [.i (q + x.c.length + x.d.length)]) (ev_heldIntS (q + x.c.length) x.d.length hx2 (by omega) (by omega)) rfl rfl rfl ?_
    simp only [List.cons_append, List.nil_append]
    refine WR.iteF (by show decide (q + (x.c.length : Int) + x.d.length < 0) = false; rw [decide_eq_false]; omega) ?_
    refine WR.idxN (vs := [.l (dL (cnt q x.c.length)), .l (dL (cnt (q + x.c.length) x.d.length)), .i (q + x.c.length + x.d.length)]) i hxi rfl rfl rfl rfl ?_
    simp only [List.cons_append, List.nil_append]
    refine WR.iteF (by show (!(decide (q + (x.c.length : Int) + x.d.length = q + (x.c.length : Int) + x.d.length))) = false; simp) ?_
    refine WR.nextA ?_ rfl
    show [V.i (IntKind.i64.wrap (q + x.c.length + x.d.length + 1)), V.i (IntKind.i64.wrap ((i : Int) + 1))] = _
    rw [wS' (by omega), w64 (by omega) (by omega), show q + (x.c.length : Int) + x.d.length + 1 = q + (wFr x : Nat) by rw [hw]; push_cast; omega]

/-! ### Ways -/

def wRw (r : Row) : Nat := 1 + wts wFr r.guards + wts wFr r.adds + wts wFr r.tells
def mkRw (q : Int) (r : Row) : Row := ⟨mkAll wFr mkFr q r.guards, mkAll wFr mkFr (q + wts wFr r.guards) r.adds, mkAll wFr mkFr (q + wts wFr r.guards + wts wFr r.adds) r.tells,
  decide ((q + wts wFr r.guards + wts wFr r.adds + wts wFr r.tells).tmod 3 = 0)⟩

theorem ev_eqRowRow (a b : Row) (ha : fitRow a) : Ev L f_laws_eqRowRow (a.cells ++ b.cells) [dB (decide (a = b))] := by
  refine Ev.eq (vs := [.l (dF a.guards), .l (dF a.adds), .l (dF a.tells), .b a.stop, .l (dF b.guards), .l (dF b.adds), .l (dF b.tells), .b b.stop]) L_laws_eqRowRow rfl ?_
  have e : decide (a = b) = (decide (a.guards = b.guards) && (decide (a.adds = b.adds) && (decide (a.tells = b.tells) && decide (a.stop = b.stop)))) := by
    obtain ⟨a1, a2, a3, a4⟩ := a
    obtain ⟨b1, b2, b3, b4⟩ := b
    simp only [Row.mk.injEq]
    by_cases h1 : a1 = b1 <;> by_cases h2 : a2 = b2 <;> by_cases h3 : a3 = b3 <;> by_cases h4 : a4 = b4 <;> simp [h1, h2, h3, h4]
  rw [e]
  refine WR.ev (ev_eqFrmFormS a.guards b.guards (by have := ha.g.1; omega) ha.g.2) rfl rfl rfl ?_
  refine WR.iteN (decide (a.guards = b.guards)) rfl (fun h => WR.done (by show [dB false] = _; rw [h]; rfl)) (fun h => ?_)
  refine WR.ev (ev_eqFrmFormS a.adds b.adds (by have := ha.a.1; omega) ha.a.2) rfl rfl rfl ?_
  refine WR.iteN (decide (a.adds = b.adds)) rfl (fun h2 => WR.done (by show [dB false] = _; rw [h, h2]; rfl)) (fun h2 => ?_)
  refine WR.ev (ev_eqFrmFormS a.tells b.tells (by have := ha.t.1; omega) ha.t.2) rfl rfl rfl ?_
  refine WR.iteN (decide (a.tells = b.tells)) rfl (fun h3 => WR.done (by show [dB false] = _; rw [h, h2, h3]; rfl)) (fun h3 => ?_)
  refine WR.iteN (decide (a.stop = b.stop)) (by show (!(a.stop == b.stop)) = _; cases a.stop <;> cases b.stop <;> rfl) (fun h4 => WR.done (by show [dB false] = _; rw [h, h2, h3, h4]; rfl)) (fun h4 => WR.done (by show [dB true] = _; rw [h, h2, h3, h4]; rfl))

theorem ev_eqRowRowS (a b : List Row) (hl : a.length ≤ 2000000) (ht : ∀ r ∈ a, fitRow r) : Ev L f_laws_eqRowRowS [.s (dRows a), .s (dRows b)] [dB (decide (a = b))] :=
  ev_sameC (g := f_laws_eqRowRow) (sh := .g [.s, .s, .s, .b]) (as := [(.s (.v 3)), (.s (.v 4)), (.s (.v 5)), (.vb (.v 6)), (.s (.v 7)), (.s (.v 8)), (.s (.v 9)), (.vb (.v 10))]) (k1 := 7) (k2 := 11)
    Row.g (fun x => [.l (dF x.guards), .l (dF x.adds), .l (dF x.tells), .b x.stop]) Row.cells a b
    L_laws_eqRowRowS rfl (fun _ => rfl) (fun _ => rfl) (fun _ => rfl) (fun _ _ _ _ _ => rfl) (fun x hx y => ev_eqRowRow x y (ht x hx)) hl

theorem ev_markRowRowS (l : List Row) (k : Int) (hl : l.length ≤ 2000000) (ht : ∀ r ∈ l, fitRow r) (h0 : 0 ≤ k) (h1 : k + wts wRw l ≤ 1000000000000) :
    Ev L f_laws_markRowRowS [.s (dRows l), dI k] [dI (k + wts wRw l), .s (dRows (mkAll wRw mkRw k l))] :=
  ev_markLoop Row.g wRw mkRw l k L_laws_markRowRowS rfl h0 h1 hl fun v0 v1 es i x q hx hxi hi hq0 hq1 => by
    have hil : i < es.length := (List.getElem?_eq_some_iff.1 hxi).1
    obtain ⟨⟨hg, fg⟩, ⟨ha, fa⟩, ⟨ht, ft⟩⟩ := ht x hx
    have hw : wRw x = 1 + wts wFr x.guards + wts wFr x.adds + wts wFr x.tells := rfl
    have m1 := ev_markFrmFormS x.guards q (by omega) fg (by omega) (by omega)
    have m2 := ev_markFrmFormS x.adds (q + wts wFr x.guards) (by omega) fa (by omega) (by omega)
    have m3 := ev_markFrmFormS x.tells (q + wts wFr x.guards + wts wFr x.adds) (by omega) ft (by omega) (by omega)
    have c1 : (dF (mkAll wFr mkFr q x.guards)).length = (dF x.guards).length := by simp [dF, mkAll_len]
    have c2 : (dF (mkAll wFr mkFr (q + wts wFr x.guards) x.adds)).length = (dF x.adds).length := by simp [dF, mkAll_len]
    have c3 : (dF (mkAll wFr mkFr (q + wts wFr x.guards + wts wFr x.adds) x.tells)).length = (dF x.tells).length := by simp [dF, mkAll_len]
    have hmk : Row.g (mkRw q x) = .g [.s (dF (mkAll wFr mkFr q x.guards)), .s (dF (mkAll wFr mkFr (q + wts wFr x.guards) x.adds)), .s (dF (mkAll wFr mkFr (q + wts wFr x.guards + wts wFr x.adds) x.tells)), dB (decide ((q + wts wFr x.guards + wts wFr x.adds + wts wFr x.tells).tmod 3 = 0))] := rfl
    generalize dF (mkAll wFr mkFr q x.guards) = G at *
    generalize dF (mkAll wFr mkFr (q + wts wFr x.guards) x.adds) = A at *
    generalize dF (mkAll wFr mkFr (q + wts wFr x.guards + wts wFr x.adds) x.tells) = T at *
    generalize hW1 : wts wFr x.guards = W1 at *
    generalize hW2 : wts wFr x.adds = W2 at *
    generalize hW3 : wts wFr x.tells = W3 at *
    refine WR.atN (vs := [.l (dF x.guards), .l (dF x.adds), .l (dF x.tells), .b x.stop]) (ds := es) i hxi rfl rfl rfl rfl rfl rfl ?_
    simp only [List.cons_append, List.nil_append]
    refine WR.ev (vs := [.i (q + W1), .l G]) m1 rfl rfl rfl ?_
    simp only [List.cons_append, List.nil_append]
    refine WR.chk (by show decide ((G.length : Int) = ((dF x.guards).length : Int)) = true; rw [c1]; simp) ?_
    generalize hes1 : es.set i (.g [.s G, .s (dF x.adds), .s (dF x.tells), dB x.stop]) = es1
    have hl1 : es1.length = es.length := by rw [← hes1]; simp
    refine WR.atN (vs := [.l G, .l (dF x.adds), .l (dF x.tells), .b x.stop]) (ds := es1) (d := .g [.s G, .s (dF x.adds), .s (dF x.tells), dB x.stop]) i (by rw [← hes1]; exact set_at _ hil) rfl (by rw [hl1]; rfl) rfl (by rw [← hes1]; rfl) rfl rfl ?_
    simp only [List.cons_append, List.nil_append]
    refine WR.ev (vs := [.i (q + W1 + W2), .l A]) m2 rfl rfl rfl ?_
    simp only [List.cons_append, List.nil_append]
    refine WR.chk (by show decide ((A.length : Int) = ((dF x.adds).length : Int)) = true; rw [c2]; simp) ?_
    generalize hes2 : es1.set i (.g [.s G, .s A, .s (dF x.tells), dB x.stop]) = es2
    have hl2 : es2.length = es.length := by rw [← hes2]; simp [hl1]
    refine WR.atN (vs := [.l G, .l A, .l (dF x.tells), .b x.stop]) (ds := es2) (d := .g [.s G, .s A, .s (dF x.tells), dB x.stop]) i (by rw [← hes2]; exact set_at _ (by omega)) rfl (by rw [hl2]; rfl) rfl (by rw [← hes2, ← hes1]; rfl) rfl rfl ?_
    simp only [List.cons_append, List.nil_append]
    refine WR.ev (vs := [.i (q + W1 + W2 + W3), .l T]) m3 rfl rfl rfl ?_
    simp only [List.cons_append, List.nil_append]
    refine WR.chk (by show decide ((T.length : Int) = ((dF x.tells).length : Int)) = true; rw [c3]; simp) ?_
    refine WR.chk rfl ?_
    generalize hes3 : es2.set i (.g [.s G, .s A, .s T, dB x.stop]) = es3
    have hl3 : es3.length = es.length := by rw [← hes3]; simp [hl2]
    refine WR.atN (vs := [.l G, .l A, .l T, .b x.stop]) (ds := es3) (d := .g [.s G, .s A, .s T, dB x.stop]) i (by rw [← hes3]; exact set_at _ (by omega)) rfl (by rw [hl3]; rfl) rfl (by rw [← hes3, ← hes2, ← hes1]; rfl) rfl rfl ?_
    simp only [List.cons_append, List.nil_append]
    refine WR.nextA ?_ rfl
    show [V.l ((((es.set i (.g [.s G, .s (dF x.adds), .s (dF x.tells), dB x.stop])).set i (.g [.s G, .s A, .s (dF x.tells), dB x.stop])).set i (.g [.s G, .s A, .s T, dB x.stop])).set i (.g [.s G, .s A, .s T, dB (decide ((q + W1 + W2 + W3).tmod 3 = 0))])), V.i (IntKind.i64.wrap (q + W1 + W2 + W3 + 1)), V.i (IntKind.i64.wrap ((i : Int) + 1))] = _
    rw [wS' (by omega), List.set_set, List.set_set, List.set_set, w64 (by omega) (by omega), show q + (W1 : Int) + W2 + W3 + 1 = q + (wRw x : Nat) by rw [hw]; push_cast; omega, hmk]

theorem ev_heldRowRowS (l : List Row) (k : Int) (hl : l.length ≤ 2000000) (ht : ∀ r ∈ l, fitRow r) (h0 : 0 ≤ k) (h1 : k + wts wRw l ≤ 1000000000000) :
    Ev L f_laws_heldRowRowS [.s (dRows (mkAll wRw mkRw k l)), dI k] [dI (k + wts wRw l)] :=
  ev_heldLoop Row.g wRw mkRw l k L_laws_heldRowRowS rfl h0 h1 hl fun v1 es i x q hx hxi hi hq0 hq1 => by
    obtain ⟨⟨hg, fg⟩, ⟨ha, fa⟩, ⟨ht, ft⟩⟩ := ht x hx
    have hw : wRw x = 1 + wts wFr x.guards + wts wFr x.adds + wts wFr x.tells := rfl
    have m1 := ev_heldFrmFormS x.guards q (by omega) fg (by omega) (by omega)
    have m2 := ev_heldFrmFormS x.adds (q + wts wFr x.guards) (by omega) fa (by omega) (by omega)
    have m3 := ev_heldFrmFormS x.tells (q + wts wFr x.guards + wts wFr x.adds) (by omega) ft (by omega) (by omega)
    have hmk : Row.g (mkRw q x) = .g [.s (dF (mkAll wFr mkFr q x.guards)), .s (dF (mkAll wFr mkFr (q + wts wFr x.guards) x.adds)), .s (dF (mkAll wFr mkFr (q + wts wFr x.guards + wts wFr x.adds) x.tells)), dB (decide ((q + wts wFr x.guards + wts wFr x.adds + wts wFr x.tells).tmod 3 = 0))] := rfl
    rw [hmk] at hxi
    generalize dF (mkAll wFr mkFr q x.guards) = G at *
    generalize dF (mkAll wFr mkFr (q + wts wFr x.guards) x.adds) = A at *
    generalize dF (mkAll wFr mkFr (q + wts wFr x.guards + wts wFr x.adds) x.tells) = T at *
    generalize hW1 : wts wFr x.guards = W1 at *
    generalize hW2 : wts wFr x.adds = W2 at *
    generalize hW3 : wts wFr x.tells = W3 at *
    refine WR.idxN (vs := [.l G, .l A, .l T, .b (decide ((q + W1 + W2 + W3).tmod 3 = 0))]) i hxi rfl rfl rfl rfl ?_
    simp only [List.cons_append, List.nil_append]
    refine WR.ev (vs := [.i (q + W1)]) m1 rfl rfl rfl ?_
    simp only [List.cons_append, List.nil_append]
    refine WR.iteF (by show decide (q + (W1 : Int) < 0) = false; rw [decide_eq_false]; omega) ?_
    refine WR.idxN (vs := [.l G, .l A, .l T, .b (decide ((q + W1 + W2 + W3).tmod 3 = 0))]) i hxi rfl rfl rfl rfl ?_
    simp only [List.cons_append, List.nil_append]
    refine WR.ev (vs := [.i (q + W1 + W2)]) m2 rfl rfl rfl ?_
    simp only [List.cons_append, List.nil_append]
    refine WR.iteF (by show decide (q + (W1 : Int) + W2 < 0) = false; rw [decide_eq_false]; omega) ?_
    refine WR.idxN (vs := [.l G, .l A, .l T, .b (decide ((q + W1 + W2 + W3).tmod 3 = 0))]) i hxi rfl rfl rfl rfl ?_
    simp only [List.cons_append, List.nil_append]
    refine WR.ev (vs := [.i (q + W1 + W2 + W3)]) m3 rfl rfl rfl ?_
    simp only [List.cons_append, List.nil_append]
    refine WR.iteF (by show decide (q + (W1 : Int) + W2 + W3 < 0) = false; rw [decide_eq_false]; omega) ?_
    refine WR.idxN (vs := [.l G, .l A, .l T, .b (decide ((q + W1 + W2 + W3).tmod 3 = 0))]) i hxi rfl rfl rfl rfl ?_
    simp only [List.cons_append, List.nil_append]
    refine WR.chk rfl ?_
    refine WR.iteF (by show (!(decide ((q + (W1 : Int) + W2 + W3).tmod 3 = 0) == decide ((q + (W1 : Int) + W2 + W3).tmod 3 = 0))) = false; simp) ?_
    refine WR.nextA ?_ rfl
    show [V.i (IntKind.i64.wrap (q + W1 + W2 + W3 + 1)), V.i (IntKind.i64.wrap ((i : Int) + 1))] = _
    rw [wS' (by omega), w64 (by omega) (by omega), show q + (W1 : Int) + W2 + W3 + 1 = q + (wRw x : Nat) by rw [hw]; push_cast; omega]

theorem wts_le {α : Type} (w : α → Nat) (N : Nat) : ∀ l : List α, (∀ x ∈ l, w x ≤ N) → wts w l ≤ l.length * N
  | [], _ => by simp [wts]
  | x :: l, h => by
    have h1 := h x (by simp)
    have h2 := wts_le w N l (fun y hy => h y (by simp [hy]))
    have h3 : wts w (x :: l) = w x + wts w l := by simp [wts]
    rw [h3, List.length_cons, Nat.succ_mul]; omega

theorem fit_row {r : Row} (h : RowFit r) : fitRow r :=
  ⟨⟨by have := h.gl; omega, fun f hf => (h.g f hf).fit⟩, ⟨by have := h.al; omega, fun f hf => (h.a f hf).fit⟩, ⟨by have := h.tl; omega, fun f hf => (h.t f hf).fit⟩⟩

theorem std_w {M : Int} {f : Frm} (h : Std M f) : wFr f ≤ 6 := by
  unfold wFr
  have h1 := h.c
  have h2 := h.d
  omega

theorem row_w {r : Row} (h : RowFit r) : wRw r ≤ 100 := by
  have h1 := wts_le wFr 6 r.guards (fun f hf => std_w (h.g f hf))
  have h2 := wts_le wFr 6 r.adds (fun f hf => std_w (h.a f hf))
  have h3 := wts_le wFr 6 r.tells (fun f hf => std_w (h.t f hf))
  have h4 := h.gl
  have h5 := h.al
  have h6 := h.tl
  unfold wRw
  omega

theorem ev_FnExactRowsOf (a : List Line) (hb : bigA a) : Ev L f_laws_FnExactRowsOf [.s (dAct a)] [dB true] := by
  refine Ev.eq (vs := [.l (dAct a)]) L_laws_FnExactRowsOf rfl ?_
  refine WR.ev (ev_szActLineS a 1048576 hb (by omega) (by omega)) rfl rfl rfl ?_
  refine WR.iteP (dec 1048576 (szA a) < 0) rfl (fun _ => WR.done rfl) (fun h => ?_)
  have hsz : szA a ≤ 1048576 := by have := dec_le h; omega
  have hf : fitAct a := fitAct_of hsz
  have hwt : wtA a ≤ 4 * szA a := wtA_le a
  have hrl := rows_len a
  have hrf : ∀ r ∈ rowsOf a, fitRow r := fun r hr => fit_row (rows_fit r hr)
  have hrw := wts_le wRw 100 (rowsOf a) (fun r hr => row_w (rows_fit r hr))
  have hto := ev_toActLineS a hf
  have hsr := ev_RowsOf a hf
  have hir := ev_iRowsOf a hf
  generalize rowsOf a = rs at *
  have heq := ev_eqRowRowS rs rs (by omega) hrf
  rw [decide_eq_true rfl] at heq
  have heqa := ev_eqActLineS a a hf
  rw [decide_eq_true rfl] at heqa
  obtain ⟨ds, hmk, es, rfl, hes⟩ := ev_markActLineS a hf 1 (by omega) (by omega)
  have hmb := ev_markRowRowS rs 1 (by omega) hrf (by omega) (by omega)
  have hhb := ev_heldRowRowS rs 1 (by omega) hrf (by omega) (by omega)
  have hml : (dRows (mkAll wRw mkRw 1 rs)).length = (dRows rs).length := by simp [dRows, mkAll_len]
  generalize dRows (mkAll wRw mkRw 1 rs) = MR at *
  generalize hW : wts wRw rs = W at *
  refine WR.ev hto rfl rfl rfl ?_
  refine WR.ev hsr rfl rfl rfl ?_
  refine WR.ev hto rfl rfl rfl ?_
  refine WR.ev hir rfl rfl rfl ?_
  simp only [List.cons_append, List.nil_append]
  refine WR.ev heq rfl rfl rfl (WR.iteF rfl ?_)
  refine WR.ev hto rfl rfl rfl ?_
  simp only [List.cons_append, List.nil_append]
  refine WR.ev heqa rfl rfl rfl (WR.iteF rfl ?_)
  refine WR.ev (vs := [.i (1 + wtA a), .l es]) hmk rfl rfl rfl ?_
  simp only [List.cons_append, List.nil_append]
  refine WR.iteF ?_ ?_
  · show decide ((1 : Int) + wtA a < 0) = false
    rw [decide_eq_false]; omega
  refine WR.ev heq rfl rfl rfl (WR.iteF rfl ?_)
  refine WR.ev (vs := [.i (1 + W), .l MR]) hmb rfl rfl rfl ?_
  simp only [List.cons_append, List.nil_append]
  have hlen : decide (((dRows rs).length : Int) = (MR.length : Int)) = true := by rw [hml]; simp
  refine WR.chk hlen ?_
  refine WR.ev (vs := [.i (1 + W)]) hhb rfl rfl rfl ?_
  simp only [List.cons_append, List.nil_append]
  have hneg : decide ((1 : Int) + (W : Int) < 0) = false := by rw [decide_eq_false]; omega
  have hsame : (!decide ((1 : Int) + (W : Int) = (1 : Int) + (W : Int))) = false := by simp
  refine WR.iteF hneg (WR.iteF hsame ?_)
  refine WR.ev hto rfl rfl rfl ?_
  refine WR.ev hir rfl rfl rfl ?_
  simp only [List.cons_append, List.nil_append]
  refine WR.ev heq rfl rfl rfl (WR.iteF rfl ?_)
  simp only [List.cons_append, List.nil_append]
  refine WR.chk hlen ?_
  refine WR.ev (vs := [.i (1 + W)]) hhb rfl rfl rfl ?_
  simp only [List.cons_append, List.nil_append]
  exact WR.iteF hneg (WR.iteF hsame (WR.done rfl))

theorem arg_FnExactRowsOf (dss : List (List D)) (h : TySs [.sl tyLine] dss) : ∃ ls, flattenD [.one .s] (argsS [.sl tyLine] dss) = some ls ∧ Ev L f_laws_FnExactRowsOf ls [dB true] := by
  obtain ⟨ds, _, rfl, h1, rfl⟩ := h
  obtain ⟨a, rfl, ha⟩ := act_of h1
  exact ⟨_, rfl, ev_FnExactRowsOf a ha⟩

end Go.Proofs.Ytjmimbpcajogoaa

/- Marks, and what is held, of plans, sites and clients: over residual programs. Printed by wip/tools/pzl.py. -/
import Derived.Test.YtnmiphelhfphaaaGreatPZH
namespace Go.Proofs.YtnmiphelhfphaaaGreat
open Go Go.Tm

/-! ### Acts -/

def mkLn (q : Int) (l : Line) : Line := ⟨q, q + 1, q + 1 + 1, ⟨cnt (q + 1 + 1 + 1) l.f.c.length, cnt (q + 1 + 1 + 1 + l.f.c.length) l.f.d.length, q + 1 + 1 + 1 + l.f.c.length + l.f.d.length⟩⟩

theorem ev_mkActLineS (l : List Line) (k : Int) (hl : l.length ≤ 2000000) (ht : ∀ d ∈ l, Frm.fit d.f) (h0 : 0 ≤ k) (h1 : k + wts wtL l ≤ 1000000000000) :
    Ev L f_laws_markActLineS [.s (l.map Line.g), dI k] [dI (k + wts wtL l), .s ((mkAll wtL mkLn k l).map Line.g)] :=
  ev_markLoop Line.g wtL mkLn l k L_laws_markActLineS rfl h0 h1 hl fun v0 v1 es i x q hx hxi hi hq0 hq1 => by
    have hil : i < es.length := (List.getElem?_eq_some_iff.1 hxi).1
    obtain ⟨hx1, hx2⟩ := ht x hx
    have hw : wtL x = 4 + x.f.c.length + x.f.d.length := rfl
    have e1 : IntKind.i64.wrap (q + 1) = q + 1 := w64 (by omega) (by omega)
    have e2 : IntKind.i64.wrap (q + 1 + 1) = q + 1 + 1 := w64 (by omega) (by omega)
    have e3 : IntKind.i64.wrap (q + 1 + 1 + 1) = q + 1 + 1 + 1 := w64 (by omega) (by omega)
    have e4 : IntKind.i64.wrap (q + 1 + 1 + 1 + x.f.c.length + x.f.d.length + 1) = q + 1 + 1 + 1 + x.f.c.length + x.f.d.length + 1 := w64 (by omega) (by omega)
    refine WR.atN (vs := [.i x.kind, .i x.pot, .i x.skip, .l (dL x.f.c), .l (dL x.f.d), .i x.f.k]) (ds := es) i hxi rfl rfl rfl rfl rfl rfl ?_
    simp only [List.cons_append, List.nil_append]
    generalize hes1 : es.set i (.g [dI q, dI x.pot, dI x.skip, .s (dL x.f.c), .s (dL x.f.d), dI x.f.k]) = es1
    have hl1 : es1.length = es.length := by rw [← hes1]; simp
    have hes1' : es1 = (es.set i (.g [dI q, dI x.pot, dI x.skip, .s (dL x.f.c), .s (dL x.f.d), dI x.f.k])) := by rw [hes1]
    refine WR.atN (vs := [.i q, .i x.pot, .i x.skip, .l (dL x.f.c), .l (dL x.f.d), .i x.f.k]) (ds := es1) (d := .g [dI q, dI x.pot, dI x.skip, .s (dL x.f.c), .s (dL x.f.d), dI x.f.k]) i (by rw [← hes1]; exact set_at _ (by omega)) rfl (by rw [hl1]; rfl) rfl (by rw [hes1']; rfl) rfl rfl ?_
    simp only [List.cons_append, List.nil_append]
    generalize hes2 : es1.set i (.g [dI q, dI (q + 1), dI x.skip, .s (dL x.f.c), .s (dL x.f.d), dI x.f.k]) = es2
    have hl2 : es2.length = es.length := by rw [← hes2]; simp [hl1]
    have hes2' : es2 = ((es.set i (.g [dI q, dI x.pot, dI x.skip, .s (dL x.f.c), .s (dL x.f.d), dI x.f.k])).set i (.g [dI q, dI (IntKind.i64.wrap (q + 1)), dI x.skip, .s (dL x.f.c), .s (dL x.f.d), dI x.f.k])) := by simp only [e1, e2, e3, e4]; rw [hes1, hes2]
    refine WR.atN (vs := [.i q, .i (q + 1), .i x.skip, .l (dL x.f.c), .l (dL x.f.d), .i x.f.k]) (ds := es2) (d := .g [dI q, dI (q + 1), dI x.skip, .s (dL x.f.c), .s (dL x.f.d), dI x.f.k]) i (by rw [← hes2]; exact set_at _ (by omega)) rfl (by rw [hl2]; rfl) rfl (by rw [hes2']; rfl) rfl rfl ?_
    simp only [List.cons_append, List.nil_append]
    generalize hes3 : es2.set i (.g [dI q, dI (q + 1), dI (q + 1 + 1), .s (dL x.f.c), .s (dL x.f.d), dI x.f.k]) = es3
    have hl3 : es3.length = es.length := by rw [← hes3]; simp [hl2]
    have hes3' : es3 = (((es.set i (.g [dI q, dI x.pot, dI x.skip, .s (dL x.f.c), .s (dL x.f.d), dI x.f.k])).set i (.g [dI q, dI (IntKind.i64.wrap (q + 1)), dI x.skip, .s (dL x.f.c), .s (dL x.f.d), dI x.f.k])).set i (.g [dI q, dI (q + 1), dI (IntKind.i64.wrap (IntKind.i64.wrap (q + 1) + 1)), .s (dL x.f.c), .s (dL x.f.d), dI x.f.k])) := by simp only [e1, e2, e3, e4]; rw [hes1, hes2, hes3]
    refine WR.atN (vs := [.i q, .i (q + 1), .i (q + 1 + 1), .l (dL x.f.c), .l (dL x.f.d), .i x.f.k]) (ds := es3) (d := .g [dI q, dI (q + 1), dI (q + 1 + 1), .s (dL x.f.c), .s (dL x.f.d), dI x.f.k]) i (by rw [← hes3]; exact set_at _ (by omega)) rfl (by rw [hl3]; rfl) rfl (by rw [hes3']; rfl) rfl rfl ?_
    simp only [List.cons_append, List.nil_append]
    refine WR.ev (vs := [.i (q + 1 + 1 + 1 + x.f.c.length), .l (dL (cnt (q + 1 + 1 + 1) x.f.c.length))]) (ev_markIntS x.f.c (q + 1 + 1 + 1) hx1 (by omega) (by omega)) rfl ?_ rfl ?_
    · show [D.s (dL x.f.c), dI (IntKind.i64.wrap (IntKind.i64.wrap (IntKind.i64.wrap (q + 1) + 1) + 1))] = _
      simp only [e1, e2, e3, e4]
    simp only [List.cons_append, List.nil_append]
    refine WR.chk (by show decide (((dL (cnt (q + 1 + 1 + 1) x.f.c.length)).length : Int) = ((dL x.f.c).length : Int)) = true; rw [dL_len, dL_len, cnt_len]; simp) ?_
    generalize hes4 : es3.set i (.g [dI q, dI (q + 1), dI (q + 1 + 1), .s (dL (cnt (q + 1 + 1 + 1) x.f.c.length)), .s (dL x.f.d), dI x.f.k]) = es4
    have hl4 : es4.length = es.length := by rw [← hes4]; simp [hl3]
    have hes4' : es4 = ((((es.set i (.g [dI q, dI x.pot, dI x.skip, .s (dL x.f.c), .s (dL x.f.d), dI x.f.k])).set i (.g [dI q, dI (IntKind.i64.wrap (q + 1)), dI x.skip, .s (dL x.f.c), .s (dL x.f.d), dI x.f.k])).set i (.g [dI q, dI (q + 1), dI (IntKind.i64.wrap (IntKind.i64.wrap (q + 1) + 1)), .s (dL x.f.c), .s (dL x.f.d), dI x.f.k])).set i (.g [dI q, dI (q + 1), dI (q + 1 + 1), .s (dL (cnt (q + 1 + 1 + 1) x.f.c.length)), .s (dL x.f.d), dI x.f.k])) := by simp only [e1, e2, e3, e4]; rw [hes1, hes2, hes3, hes4]
    refine WR.atN (vs := [.i q, .i (q + 1), .i (q + 1 + 1), .l (dL (cnt (q + 1 + 1 + 1) x.f.c.length)), .l (dL x.f.d), .i x.f.k]) (ds := es4) (d := .g [dI q, dI (q + 1), dI (q + 1 + 1), .s (dL (cnt (q + 1 + 1 + 1) x.f.c.length)), .s (dL x.f.d), dI x.f.k]) i (by rw [← hes4]; exact set_at _ (by omega)) rfl (by rw [hl4]; rfl) rfl (by rw [hes4']; rfl) rfl rfl ?_
    simp only [List.cons_append, List.nil_append]
    refine WR.ev (vs := [.i (q + 1 + 1 + 1 + x.f.c.length + x.f.d.length), .l (dL (cnt (q + 1 + 1 + 1 + x.f.c.length) x.f.d.length))]) (ev_markIntS x.f.d (q + 1 + 1 + 1 + x.f.c.length) hx2 (by omega) (by omega)) rfl ?_ rfl ?_
    · show [D.s (dL x.f.d), dI (q + 1 + 1 + 1 + x.f.c.length)] = _
      rfl
    simp only [List.cons_append, List.nil_append]
    refine WR.chk (by show decide (((dL (cnt (q + 1 + 1 + 1 + x.f.c.length) x.f.d.length)).length : Int) = ((dL x.f.d).length : Int)) = true; rw [dL_len, dL_len, cnt_len]; simp) ?_
    generalize hes5 : es4.set i (.g [dI q, dI (q + 1), dI (q + 1 + 1), .s (dL (cnt (q + 1 + 1 + 1) x.f.c.length)), .s (dL (cnt (q + 1 + 1 + 1 + x.f.c.length) x.f.d.length)), dI x.f.k]) = es5
    have hl5 : es5.length = es.length := by rw [← hes5]; simp [hl4]
    have hes5' : es5 = (((((es.set i (.g [dI q, dI x.pot, dI x.skip, .s (dL x.f.c), .s (dL x.f.d), dI x.f.k])).set i (.g [dI q, dI (IntKind.i64.wrap (q + 1)), dI x.skip, .s (dL x.f.c), .s (dL x.f.d), dI x.f.k])).set i (.g [dI q, dI (q + 1), dI (IntKind.i64.wrap (IntKind.i64.wrap (q + 1) + 1)), .s (dL x.f.c), .s (dL x.f.d), dI x.f.k])).set i (.g [dI q, dI (q + 1), dI (q + 1 + 1), .s (dL (cnt (q + 1 + 1 + 1) x.f.c.length)), .s (dL x.f.d), dI x.f.k])).set i (.g [dI q, dI (q + 1), dI (q + 1 + 1), .s (dL (cnt (q + 1 + 1 + 1) x.f.c.length)), .s (dL (cnt (q + 1 + 1 + 1 + x.f.c.length) x.f.d.length)), dI x.f.k])) := by simp only [e1, e2, e3, e4]; rw [hes1, hes2, hes3, hes4, hes5]
    refine WR.atN (vs := [.i q, .i (q + 1), .i (q + 1 + 1), .l (dL (cnt (q + 1 + 1 + 1) x.f.c.length)), .l (dL (cnt (q + 1 + 1 + 1 + x.f.c.length) x.f.d.length)), .i x.f.k]) (ds := es5) (d := .g [dI q, dI (q + 1), dI (q + 1 + 1), .s (dL (cnt (q + 1 + 1 + 1) x.f.c.length)), .s (dL (cnt (q + 1 + 1 + 1 + x.f.c.length) x.f.d.length)), dI x.f.k]) i (by rw [← hes5]; exact set_at _ (by omega)) rfl (by rw [hl5]; rfl) rfl (by rw [hes5']; rfl) rfl rfl ?_
    simp only [List.cons_append, List.nil_append]
    refine WR.nextA ?_ rfl
    show [V.l ((((((es.set i (.g [dI q, dI x.pot, dI x.skip, .s (dL x.f.c), .s (dL x.f.d), dI x.f.k])).set i (.g [dI q, dI (IntKind.i64.wrap (q + 1)), dI x.skip, .s (dL x.f.c), .s (dL x.f.d), dI x.f.k])).set i (.g [dI q, dI (q + 1), dI (IntKind.i64.wrap (IntKind.i64.wrap (q + 1) + 1)), .s (dL x.f.c), .s (dL x.f.d), dI x.f.k])).set i (.g [dI q, dI (q + 1), dI (q + 1 + 1), .s (dL (cnt (q + 1 + 1 + 1) x.f.c.length)), .s (dL x.f.d), dI x.f.k])).set i (.g [dI q, dI (q + 1), dI (q + 1 + 1), .s (dL (cnt (q + 1 + 1 + 1) x.f.c.length)), .s (dL (cnt (q + 1 + 1 + 1 + x.f.c.length) x.f.d.length)), dI x.f.k])).set i (.g [dI q, dI (q + 1), dI (q + 1 + 1), .s (dL (cnt (q + 1 + 1 + 1) x.f.c.length)), .s (dL (cnt (q + 1 + 1 + 1 + x.f.c.length) x.f.d.length)), dI (q + 1 + 1 + 1 + x.f.c.length + x.f.d.length)])), V.i (IntKind.i64.wrap (q + 1 + 1 + 1 + x.f.c.length + x.f.d.length + 1)), V.i (IntKind.i64.wrap ((i : Int) + 1))] = _
    rw [wS' (by omega)]
    simp only [e1, e2, e3, e4, List.set_set]
    rw [show q + 1 + 1 + 1 + x.f.c.length + x.f.d.length + 1 = q + (wtL x : Nat) by rw [hw]; push_cast; omega]
    rfl

theorem ev_hdActLineS (l : List Line) (k : Int) (hl : l.length ≤ 2000000) (ht : ∀ d ∈ l, Frm.fit d.f) (h0 : 0 ≤ k) (h1 : k + wts wtL l ≤ 1000000000000) :
    Ev L f_laws_heldActLineS [.s ((mkAll wtL mkLn k l).map Line.g), dI k] [dI (k + wts wtL l)] :=
  ev_heldLoop Line.g wtL mkLn l k L_laws_heldActLineS rfl h0 h1 hl fun v1 es i x q hx hxi hi hq0 hq1 => by
    obtain ⟨hx1, hx2⟩ := ht x hx
    have hw : wtL x = 4 + x.f.c.length + x.f.d.length := rfl
    have e1 : IntKind.i64.wrap (q + 1) = q + 1 := w64 (by omega) (by omega)
    have e2 : IntKind.i64.wrap (q + 1 + 1) = q + 1 + 1 := w64 (by omega) (by omega)
    have e3 : IntKind.i64.wrap (q + 1 + 1 + 1) = q + 1 + 1 + 1 := w64 (by omega) (by omega)
    have e4 : IntKind.i64.wrap (q + 1 + 1 + 1 + x.f.c.length + x.f.d.length + 1) = q + 1 + 1 + 1 + x.f.c.length + x.f.d.length + 1 := w64 (by omega) (by omega)
    refine WR.idxN (vs := [.i q, .i (q + 1), .i (q + 1 + 1), .l (dL (cnt (q + 1 + 1 + 1) x.f.c.length)), .l (dL (cnt (q + 1 + 1 + 1 + x.f.c.length) x.f.d.length)), .i (q + 1 + 1 + 1 + x.f.c.length + x.f.d.length)]) i hxi rfl rfl rfl rfl ?_
    refine WR.iteF (by show (!decide (q = q)) = false; simp) ?_
    refine WR.idxN (vs := [.i q, .i (q + 1), .i (q + 1 + 1), .l (dL (cnt (q + 1 + 1 + 1) x.f.c.length)), .l (dL (cnt (q + 1 + 1 + 1 + x.f.c.length) x.f.d.length)), .i (q + 1 + 1 + 1 + x.f.c.length + x.f.d.length)]) i hxi rfl rfl rfl rfl ?_
    refine WR.iteF (by show (!decide (q + 1 = IntKind.i64.wrap (q + 1))) = false; simp only [e1, e2, e3, e4]; simp) ?_
    refine WR.idxN (vs := [.i q, .i (q + 1), .i (q + 1 + 1), .l (dL (cnt (q + 1 + 1 + 1) x.f.c.length)), .l (dL (cnt (q + 1 + 1 + 1 + x.f.c.length) x.f.d.length)), .i (q + 1 + 1 + 1 + x.f.c.length + x.f.d.length)]) i hxi rfl rfl rfl rfl ?_
    refine WR.iteF (by show (!decide (q + 1 + 1 = IntKind.i64.wrap (IntKind.i64.wrap (q + 1) + 1))) = false; simp only [e1, e2, e3, e4]; simp) ?_
    refine WR.idxN (vs := [.i q, .i (q + 1), .i (q + 1 + 1), .l (dL (cnt (q + 1 + 1 + 1) x.f.c.length)), .l (dL (cnt (q + 1 + 1 + 1 + x.f.c.length) x.f.d.length)), .i (q + 1 + 1 + 1 + x.f.c.length + x.f.d.length)]) i hxi rfl rfl rfl rfl ?_
    simp only [List.cons_append, List.nil_append]
    refine WR.ev (vs := [.i (q + 1 + 1 + 1 + x.f.c.length)]) (ev_heldIntS (q + 1 + 1 + 1) x.f.c.length hx1 (by omega) (by omega)) rfl ?_ rfl ?_
    · show [D.s (dL (cnt (q + 1 + 1 + 1) x.f.c.length)), dI (IntKind.i64.wrap (IntKind.i64.wrap (IntKind.i64.wrap (q + 1) + 1) + 1))] = _
      simp only [e1, e2, e3, e4]
    simp only [List.cons_append, List.nil_append]
    refine WR.iteF (by show decide (q + 1 + 1 + 1 + x.f.c.length < 0) = false; rw [decide_eq_false]; omega) ?_
    refine WR.idxN (vs := [.i q, .i (q + 1), .i (q + 1 + 1), .l (dL (cnt (q + 1 + 1 + 1) x.f.c.length)), .l (dL (cnt (q + 1 + 1 + 1 + x.f.c.length) x.f.d.length)), .i (q + 1 + 1 + 1 + x.f.c.length + x.f.d.length)]) i hxi rfl rfl rfl rfl ?_
    simp only [List.cons_append, List.nil_append]
    refine WR.ev (vs := [.i (q + 1 + 1 + 1 + x.f.c.length + x.f.d.length)]) (ev_heldIntS (q + 1 + 1 + 1 + x.f.c.length) x.f.d.length hx2 (by omega) (by omega)) rfl ?_ rfl ?_
    · show [D.s (dL (cnt (q + 1 + 1 + 1 + x.f.c.length) x.f.d.length)), dI (q + 1 + 1 + 1 + x.f.c.length)] = _
      rfl
    simp only [List.cons_append, List.nil_append]
    refine WR.iteF (by show decide (q + 1 + 1 + 1 + x.f.c.length + x.f.d.length < 0) = false; rw [decide_eq_false]; omega) ?_
    refine WR.idxN (vs := [.i q, .i (q + 1), .i (q + 1 + 1), .l (dL (cnt (q + 1 + 1 + 1) x.f.c.length)), .l (dL (cnt (q + 1 + 1 + 1 + x.f.c.length) x.f.d.length)), .i (q + 1 + 1 + 1 + x.f.c.length + x.f.d.length)]) i hxi rfl rfl rfl rfl ?_
    refine WR.iteF (by show (!decide (q + 1 + 1 + 1 + x.f.c.length + x.f.d.length = q + 1 + 1 + 1 + x.f.c.length + x.f.d.length)) = false; simp) ?_
    refine WR.nextA ?_ rfl
    show [V.i (IntKind.i64.wrap (q + 1 + 1 + 1 + x.f.c.length + x.f.d.length + 1)), V.i (IntKind.i64.wrap ((i : Int) + 1))] = _
    rw [wS' (by omega)]
    simp only [e1, e2, e3, e4]
    rw [show q + 1 + 1 + 1 + x.f.c.length + x.f.d.length + 1 = q + (wtL x : Nat) by rw [hw]; push_cast; omega]

/-! ### Sites -/

def Sit.w (s : Sit) : Nat := 3 + s.base.length + s.added.length + wts Don.w s.done
def Sit.mk' (q : Int) (s : Sit) : Sit := ⟨decide (q.tmod 3 = 0), decide ((q + 1).tmod 3 = 0), q + 1 + 1, cnt (q + 1 + 1 + 1) s.base.length, cnt (q + 1 + 1 + 1 + s.base.length) s.added.length,
  mkAll Don.w Don.mk' (q + 1 + 1 + 1 + s.base.length + s.added.length) s.done⟩
def Sit.g (s : Sit) : D := .g s.cells

theorem ev_markSitSiteS (l : List Sit) (k : Int) (hl : l.length ≤ 2000000) (ht : ∀ d ∈ l, fitSit d) (h0 : 0 ≤ k) (h1 : k + wts Sit.w l ≤ 1000000000000) :
    Ev L f_laws_markSitSiteS [.s (l.map Sit.g), dI k] [dI (k + wts Sit.w l), .s ((mkAll Sit.w Sit.mk' k l).map Sit.g)] :=
  ev_markLoop Sit.g Sit.w Sit.mk' l k L_laws_markSitSiteS rfl h0 h1 hl fun v0 v1 es i x q hx hxi hi hq0 hq1 => by
    have hil : i < es.length := (List.getElem?_eq_some_iff.1 hxi).1
    obtain ⟨hx1, hx2, hx3, hx4⟩ := ht x hx
    have hw : Sit.w x = 3 + x.base.length + x.added.length + wts Don.w x.done := rfl
    have e1 : IntKind.i64.wrap (q + 1) = q + 1 := w64 (by omega) (by omega)
    have e2 : IntKind.i64.wrap (q + 1 + 1) = q + 1 + 1 := w64 (by omega) (by omega)
    have e3 : IntKind.i64.wrap (q + 1 + 1 + 1) = q + 1 + 1 + 1 := w64 (by omega) (by omega)
    refine WR.chk rfl ?_
    refine WR.atN (vs := [.b x.up, .b x.frozen, .i x.round, .l (dL x.base), .l (dL x.added), .l (dDs x.done)]) (ds := es) i hxi rfl rfl rfl rfl rfl rfl ?_
    simp only [List.cons_append, List.nil_append]
    generalize hes1 : es.set i (.g [dB (decide (q.tmod 3 = 0)), dB x.frozen, dI x.round, .s (dL x.base), .s (dL x.added), .s (dDs x.done)]) = es1
    have hl1 : es1.length = es.length := by rw [← hes1]; simp
    have hes1' : es1 = (es.set i (.g [dB (decide (q.tmod 3 = 0)), dB x.frozen, dI x.round, .s (dL x.base), .s (dL x.added), .s (dDs x.done)])) := by rw [hes1]
    refine WR.chk rfl ?_
    refine WR.atN (vs := [.b (decide (q.tmod 3 = 0)), .b x.frozen, .i x.round, .l (dL x.base), .l (dL x.added), .l (dDs x.done)]) (ds := es1) (d := .g [dB (decide (q.tmod 3 = 0)), dB x.frozen, dI x.round, .s (dL x.base), .s (dL x.added), .s (dDs x.done)]) i (by rw [← hes1]; exact set_at _ (by omega)) rfl (by rw [hl1]; rfl) rfl (by rw [hes1']; rfl) rfl rfl ?_
    simp only [List.cons_append, List.nil_append]
    generalize hes2 : es1.set i (.g [dB (decide (q.tmod 3 = 0)), dB (decide ((q + 1).tmod 3 = 0)), dI x.round, .s (dL x.base), .s (dL x.added), .s (dDs x.done)]) = es2
    have hl2 : es2.length = es.length := by rw [← hes2]; simp [hl1]
    have hes2' : es2 = ((es.set i (.g [dB (decide (q.tmod 3 = 0)), dB x.frozen, dI x.round, .s (dL x.base), .s (dL x.added), .s (dDs x.done)])).set i (.g [dB (decide (q.tmod 3 = 0)), dB (decide ((IntKind.i64.wrap (q + 1)).tmod 3 = 0)), dI x.round, .s (dL x.base), .s (dL x.added), .s (dDs x.done)])) := by simp only [e1, e2, e3]; rw [hes1, hes2]
    refine WR.atN (vs := [.b (decide (q.tmod 3 = 0)), .b (decide ((q + 1).tmod 3 = 0)), .i x.round, .l (dL x.base), .l (dL x.added), .l (dDs x.done)]) (ds := es2) (d := .g [dB (decide (q.tmod 3 = 0)), dB (decide ((q + 1).tmod 3 = 0)), dI x.round, .s (dL x.base), .s (dL x.added), .s (dDs x.done)]) i (by rw [← hes2]; exact set_at _ (by omega)) rfl (by rw [hl2]; rfl) rfl (by rw [hes2']; rfl) rfl rfl ?_
    simp only [List.cons_append, List.nil_append]
    generalize hes3 : es2.set i (.g [dB (decide (q.tmod 3 = 0)), dB (decide ((q + 1).tmod 3 = 0)), dI (q + 1 + 1), .s (dL x.base), .s (dL x.added), .s (dDs x.done)]) = es3
    have hl3 : es3.length = es.length := by rw [← hes3]; simp [hl2]
    have hes3' : es3 = (((es.set i (.g [dB (decide (q.tmod 3 = 0)), dB x.frozen, dI x.round, .s (dL x.base), .s (dL x.added), .s (dDs x.done)])).set i (.g [dB (decide (q.tmod 3 = 0)), dB (decide ((IntKind.i64.wrap (q + 1)).tmod 3 = 0)), dI x.round, .s (dL x.base), .s (dL x.added), .s (dDs x.done)])).set i (.g [dB (decide (q.tmod 3 = 0)), dB (decide ((q + 1).tmod 3 = 0)), dI (IntKind.i64.wrap (IntKind.i64.wrap (q + 1) + 1)), .s (dL x.base), .s (dL x.added), .s (dDs x.done)])) := by simp only [e1, e2, e3]; rw [hes1, hes2, hes3]
    refine WR.atN (vs := [.b (decide (q.tmod 3 = 0)), .b (decide ((q + 1).tmod 3 = 0)), .i (q + 1 + 1), .l (dL x.base), .l (dL x.added), .l (dDs x.done)]) (ds := es3) (d := .g [dB (decide (q.tmod 3 = 0)), dB (decide ((q + 1).tmod 3 = 0)), dI (q + 1 + 1), .s (dL x.base), .s (dL x.added), .s (dDs x.done)]) i (by rw [← hes3]; exact set_at _ (by omega)) rfl (by rw [hl3]; rfl) rfl (by rw [hes3']; rfl) rfl rfl ?_
    simp only [List.cons_append, List.nil_append]
    refine WR.ev (vs := [.i (q + 1 + 1 + 1 + x.base.length), .l (dL (cnt (q + 1 + 1 + 1) x.base.length))]) (ev_markIntS x.base (q + 1 + 1 + 1) hx1 (by omega) (by omega)) rfl ?_ rfl ?_
    · show [D.s (dL x.base), dI (IntKind.i64.wrap (IntKind.i64.wrap (IntKind.i64.wrap (q + 1) + 1) + 1))] = _
      simp only [e1, e2, e3]
    simp only [List.cons_append, List.nil_append]
    refine WR.chk (by show decide (((dL (cnt (q + 1 + 1 + 1) x.base.length)).length : Int) = ((dL x.base).length : Int)) = true; rw [dL_len, dL_len, cnt_len]; simp) ?_
    generalize hes4 : es3.set i (.g [dB (decide (q.tmod 3 = 0)), dB (decide ((q + 1).tmod 3 = 0)), dI (q + 1 + 1), .s (dL (cnt (q + 1 + 1 + 1) x.base.length)), .s (dL x.added), .s (dDs x.done)]) = es4
    have hl4 : es4.length = es.length := by rw [← hes4]; simp [hl3]
    have hes4' : es4 = ((((es.set i (.g [dB (decide (q.tmod 3 = 0)), dB x.frozen, dI x.round, .s (dL x.base), .s (dL x.added), .s (dDs x.done)])).set i (.g [dB (decide (q.tmod 3 = 0)), dB (decide ((IntKind.i64.wrap (q + 1)).tmod 3 = 0)), dI x.round, .s (dL x.base), .s (dL x.added), .s (dDs x.done)])).set i (.g [dB (decide (q.tmod 3 = 0)), dB (decide ((q + 1).tmod 3 = 0)), dI (IntKind.i64.wrap (IntKind.i64.wrap (q + 1) + 1)), .s (dL x.base), .s (dL x.added), .s (dDs x.done)])).set i (.g [dB (decide (q.tmod 3 = 0)), dB (decide ((q + 1).tmod 3 = 0)), dI (q + 1 + 1), .s (dL (cnt (q + 1 + 1 + 1) x.base.length)), .s (dL x.added), .s (dDs x.done)])) := by simp only [e1, e2, e3]; rw [hes1, hes2, hes3, hes4]
    refine WR.atN (vs := [.b (decide (q.tmod 3 = 0)), .b (decide ((q + 1).tmod 3 = 0)), .i (q + 1 + 1), .l (dL (cnt (q + 1 + 1 + 1) x.base.length)), .l (dL x.added), .l (dDs x.done)]) (ds := es4) (d := .g [dB (decide (q.tmod 3 = 0)), dB (decide ((q + 1).tmod 3 = 0)), dI (q + 1 + 1), .s (dL (cnt (q + 1 + 1 + 1) x.base.length)), .s (dL x.added), .s (dDs x.done)]) i (by rw [← hes4]; exact set_at _ (by omega)) rfl (by rw [hl4]; rfl) rfl (by rw [hes4']; rfl) rfl rfl ?_
    simp only [List.cons_append, List.nil_append]
    refine WR.ev (vs := [.i (q + 1 + 1 + 1 + x.base.length + x.added.length), .l (dL (cnt (q + 1 + 1 + 1 + x.base.length) x.added.length))]) (ev_markIntS x.added (q + 1 + 1 + 1 + x.base.length) hx2 (by omega) (by omega)) rfl ?_ rfl ?_
    · show [D.s (dL x.added), dI (q + 1 + 1 + 1 + x.base.length)] = _
      rfl
    simp only [List.cons_append, List.nil_append]
    refine WR.chk (by show decide (((dL (cnt (q + 1 + 1 + 1 + x.base.length) x.added.length)).length : Int) = ((dL x.added).length : Int)) = true; rw [dL_len, dL_len, cnt_len]; simp) ?_
    generalize hes5 : es4.set i (.g [dB (decide (q.tmod 3 = 0)), dB (decide ((q + 1).tmod 3 = 0)), dI (q + 1 + 1), .s (dL (cnt (q + 1 + 1 + 1) x.base.length)), .s (dL (cnt (q + 1 + 1 + 1 + x.base.length) x.added.length)), .s (dDs x.done)]) = es5
    have hl5 : es5.length = es.length := by rw [← hes5]; simp [hl4]
    have hes5' : es5 = (((((es.set i (.g [dB (decide (q.tmod 3 = 0)), dB x.frozen, dI x.round, .s (dL x.base), .s (dL x.added), .s (dDs x.done)])).set i (.g [dB (decide (q.tmod 3 = 0)), dB (decide ((IntKind.i64.wrap (q + 1)).tmod 3 = 0)), dI x.round, .s (dL x.base), .s (dL x.added), .s (dDs x.done)])).set i (.g [dB (decide (q.tmod 3 = 0)), dB (decide ((q + 1).tmod 3 = 0)), dI (IntKind.i64.wrap (IntKind.i64.wrap (q + 1) + 1)), .s (dL x.base), .s (dL x.added), .s (dDs x.done)])).set i (.g [dB (decide (q.tmod 3 = 0)), dB (decide ((q + 1).tmod 3 = 0)), dI (q + 1 + 1), .s (dL (cnt (q + 1 + 1 + 1) x.base.length)), .s (dL x.added), .s (dDs x.done)])).set i (.g [dB (decide (q.tmod 3 = 0)), dB (decide ((q + 1).tmod 3 = 0)), dI (q + 1 + 1), .s (dL (cnt (q + 1 + 1 + 1) x.base.length)), .s (dL (cnt (q + 1 + 1 + 1 + x.base.length) x.added.length)), .s (dDs x.done)])) := by simp only [e1, e2, e3]; rw [hes1, hes2, hes3, hes4, hes5]
    refine WR.atN (vs := [.b (decide (q.tmod 3 = 0)), .b (decide ((q + 1).tmod 3 = 0)), .i (q + 1 + 1), .l (dL (cnt (q + 1 + 1 + 1) x.base.length)), .l (dL (cnt (q + 1 + 1 + 1 + x.base.length) x.added.length)), .l (dDs x.done)]) (ds := es5) (d := .g [dB (decide (q.tmod 3 = 0)), dB (decide ((q + 1).tmod 3 = 0)), dI (q + 1 + 1), .s (dL (cnt (q + 1 + 1 + 1) x.base.length)), .s (dL (cnt (q + 1 + 1 + 1 + x.base.length) x.added.length)), .s (dDs x.done)]) i (by rw [← hes5]; exact set_at _ (by omega)) rfl (by rw [hl5]; rfl) rfl (by rw [hes5']; rfl) rfl rfl ?_
    simp only [List.cons_append, List.nil_append]
    refine WR.ev (vs := [.i (q + 1 + 1 + 1 + x.base.length + x.added.length + wts Don.w x.done), .l (dDs (mkAll Don.w Don.mk' (q + 1 + 1 + 1 + x.base.length + x.added.length) x.done))]) (ev_markPlnDoneS x.done (q + 1 + 1 + 1 + x.base.length + x.added.length) hx3 hx4 (by omega) (by omega)) rfl ?_ rfl ?_
    · show [D.s (dDs x.done), dI (q + 1 + 1 + 1 + x.base.length + x.added.length)] = _
      rfl
    simp only [List.cons_append, List.nil_append]
    refine WR.chk (by show decide (((dDs (mkAll Don.w Don.mk' (q + 1 + 1 + 1 + x.base.length + x.added.length) x.done)).length : Int) = ((dDs x.done).length : Int)) = true; simp [dDs, mkAll_len]) ?_
    refine WR.nextA ?_ rfl
    show [V.l ((((((es.set i (.g [dB (decide (q.tmod 3 = 0)), dB x.frozen, dI x.round, .s (dL x.base), .s (dL x.added), .s (dDs x.done)])).set i (.g [dB (decide (q.tmod 3 = 0)), dB (decide ((IntKind.i64.wrap (q + 1)).tmod 3 = 0)), dI x.round, .s (dL x.base), .s (dL x.added), .s (dDs x.done)])).set i (.g [dB (decide (q.tmod 3 = 0)), dB (decide ((q + 1).tmod 3 = 0)), dI (IntKind.i64.wrap (IntKind.i64.wrap (q + 1) + 1)), .s (dL x.base), .s (dL x.added), .s (dDs x.done)])).set i (.g [dB (decide (q.tmod 3 = 0)), dB (decide ((q + 1).tmod 3 = 0)), dI (q + 1 + 1), .s (dL (cnt (q + 1 + 1 + 1) x.base.length)), .s (dL x.added), .s (dDs x.done)])).set i (.g [dB (decide (q.tmod 3 = 0)), dB (decide ((q + 1).tmod 3 = 0)), dI (q + 1 + 1), .s (dL (cnt (q + 1 + 1 + 1) x.base.length)), .s (dL (cnt (q + 1 + 1 + 1 + x.base.length) x.added.length)), .s (dDs x.done)])).set i (.g [dB (decide (q.tmod 3 = 0)), dB (decide ((q + 1).tmod 3 = 0)), dI (q + 1 + 1), .s (dL (cnt (q + 1 + 1 + 1) x.base.length)), .s (dL (cnt (q + 1 + 1 + 1 + x.base.length) x.added.length)), .s (dDs (mkAll Don.w Don.mk' (q + 1 + 1 + 1 + x.base.length + x.added.length) x.done))])), V.i (q + 1 + 1 + 1 + x.base.length + x.added.length + wts Don.w x.done), V.i (IntKind.i64.wrap ((i : Int) + 1))] = _
    rw [wS' (by omega)]
    simp only [e1, e2, e3, List.set_set]
    rw [show q + 1 + 1 + 1 + x.base.length + x.added.length + wts Don.w x.done = q + (Sit.w x : Nat) by rw [hw]; push_cast; omega]
    rfl

theorem ev_heldSitSiteS (l : List Sit) (k : Int) (hl : l.length ≤ 2000000) (ht : ∀ d ∈ l, fitSit d) (h0 : 0 ≤ k) (h1 : k + wts Sit.w l ≤ 1000000000000) :
    Ev L f_laws_heldSitSiteS [.s ((mkAll Sit.w Sit.mk' k l).map Sit.g), dI k] [dI (k + wts Sit.w l)] :=
  ev_heldLoop Sit.g Sit.w Sit.mk' l k L_laws_heldSitSiteS rfl h0 h1 hl fun v1 es i x q hx hxi hi hq0 hq1 => by
    obtain ⟨hx1, hx2, hx3, hx4⟩ := ht x hx
    have hw : Sit.w x = 3 + x.base.length + x.added.length + wts Don.w x.done := rfl
    have e1 : IntKind.i64.wrap (q + 1) = q + 1 := w64 (by omega) (by omega)
    have e2 : IntKind.i64.wrap (q + 1 + 1) = q + 1 + 1 := w64 (by omega) (by omega)
    have e3 : IntKind.i64.wrap (q + 1 + 1 + 1) = q + 1 + 1 + 1 := w64 (by omega) (by omega)
    refine WR.idxN (vs := [.b (decide (q.tmod 3 = 0)), .b (decide ((q + 1).tmod 3 = 0)), .i (q + 1 + 1), .l (dL (cnt (q + 1 + 1 + 1) x.base.length)), .l (dL (cnt (q + 1 + 1 + 1 + x.base.length) x.added.length)), .l (dDs (mkAll Don.w Don.mk' (q + 1 + 1 + 1 + x.base.length + x.added.length) x.done))]) i hxi rfl rfl rfl rfl ?_
    refine WR.chk rfl ?_
    refine WR.iteF (by show (!(decide (q.tmod 3 = 0) == decide (q.tmod 3 = 0))) = false; simp) ?_
    refine WR.idxN (vs := [.b (decide (q.tmod 3 = 0)), .b (decide ((q + 1).tmod 3 = 0)), .i (q + 1 + 1), .l (dL (cnt (q + 1 + 1 + 1) x.base.length)), .l (dL (cnt (q + 1 + 1 + 1 + x.base.length) x.added.length)), .l (dDs (mkAll Don.w Don.mk' (q + 1 + 1 + 1 + x.base.length + x.added.length) x.done))]) i hxi rfl rfl rfl rfl ?_
    refine WR.chk rfl ?_
    refine WR.iteF (by show (!(decide ((q + 1).tmod 3 = 0) == decide ((IntKind.i64.wrap (q + 1)).tmod 3 = 0))) = false; simp only [e1, e2, e3]; simp) ?_
    refine WR.idxN (vs := [.b (decide (q.tmod 3 = 0)), .b (decide ((q + 1).tmod 3 = 0)), .i (q + 1 + 1), .l (dL (cnt (q + 1 + 1 + 1) x.base.length)), .l (dL (cnt (q + 1 + 1 + 1 + x.base.length) x.added.length)), .l (dDs (mkAll Don.w Don.mk' (q + 1 + 1 + 1 + x.base.length + x.added.length) x.done))]) i hxi rfl rfl rfl rfl ?_
    refine WR.iteF (by show (!decide (q + 1 + 1 = IntKind.i64.wrap (IntKind.i64.wrap (q + 1) + 1))) = false; simp only [e1, e2, e3]; simp) ?_
    refine WR.idxN (vs := [.b (decide (q.tmod 3 = 0)), .b (decide ((q + 1).tmod 3 = 0)), .i (q + 1 + 1), .l (dL (cnt (q + 1 + 1 + 1) x.base.length)), .l (dL (cnt (q + 1 + 1 + 1 + x.base.length) x.added.length)), .l (dDs (mkAll Don.w Don.mk' (q + 1 + 1 + 1 + x.base.length + x.added.length) x.done))]) i hxi rfl rfl rfl rfl ?_
    simp only [List.cons_append, List.nil_append]
    refine WR.ev (vs := [.i (q + 1 + 1 + 1 + x.base.length)]) (ev_heldIntS (q + 1 + 1 + 1) x.base.length hx1 (by omega) (by omega)) rfl ?_ rfl ?_
    · show [D.s (dL (cnt (q + 1 + 1 + 1) x.base.length)), dI (IntKind.i64.wrap (IntKind.i64.wrap (IntKind.i64.wrap (q + 1) + 1) + 1))] = _
      simp only [e1, e2, e3]
    simp only [List.cons_append, List.nil_append]
    refine WR.iteF (by show decide (q + 1 + 1 + 1 + x.base.length < 0) = false; rw [decide_eq_false]; omega) ?_
    refine WR.idxN (vs := [.b (decide (q.tmod 3 = 0)), .b (decide ((q + 1).tmod 3 = 0)), .i (q + 1 + 1), .l (dL (cnt (q + 1 + 1 + 1) x.base.length)), .l (dL (cnt (q + 1 + 1 + 1 + x.base.length) x.added.length)), .l (dDs (mkAll Don.w Don.mk' (q + 1 + 1 + 1 + x.base.length + x.added.length) x.done))]) i hxi rfl rfl rfl rfl ?_
    simp only [List.cons_append, List.nil_append]
    refine WR.ev (vs := [.i (q + 1 + 1 + 1 + x.base.length + x.added.length)]) (ev_heldIntS (q + 1 + 1 + 1 + x.base.length) x.added.length hx2 (by omega) (by omega)) rfl ?_ rfl ?_
    · show [D.s (dL (cnt (q + 1 + 1 + 1 + x.base.length) x.added.length)), dI (q + 1 + 1 + 1 + x.base.length)] = _
      rfl
    simp only [List.cons_append, List.nil_append]
    refine WR.iteF (by show decide (q + 1 + 1 + 1 + x.base.length + x.added.length < 0) = false; rw [decide_eq_false]; omega) ?_
    refine WR.idxN (vs := [.b (decide (q.tmod 3 = 0)), .b (decide ((q + 1).tmod 3 = 0)), .i (q + 1 + 1), .l (dL (cnt (q + 1 + 1 + 1) x.base.length)), .l (dL (cnt (q + 1 + 1 + 1 + x.base.length) x.added.length)), .l (dDs (mkAll Don.w Don.mk' (q + 1 + 1 + 1 + x.base.length + x.added.length) x.done))]) i hxi rfl rfl rfl rfl ?_
    simp only [List.cons_append, List.nil_append]
    refine WR.ev (vs := [.i (q + 1 + 1 + 1 + x.base.length + x.added.length + wts Don.w x.done)]) (ev_heldPlnDoneS x.done (q + 1 + 1 + 1 + x.base.length + x.added.length) hx3 hx4 (by omega) (by omega)) rfl ?_ rfl ?_
    · show [D.s (dDs (mkAll Don.w Don.mk' (q + 1 + 1 + 1 + x.base.length + x.added.length) x.done)), dI (q + 1 + 1 + 1 + x.base.length + x.added.length)] = _
      rfl
    simp only [List.cons_append, List.nil_append]
    refine WR.iteF (by show decide (q + 1 + 1 + 1 + x.base.length + x.added.length + wts Don.w x.done < 0) = false; rw [decide_eq_false]; omega) ?_
    refine WR.nextA ?_ rfl
    show [V.i (q + 1 + 1 + 1 + x.base.length + x.added.length + wts Don.w x.done), V.i (IntKind.i64.wrap ((i : Int) + 1))] = _
    rw [wS' (by omega)]
    rw [show q + 1 + 1 + 1 + x.base.length + x.added.length + wts Don.w x.done = q + (Sit.w x : Nat) by rw [hw]; push_cast; omega]

/-! ### Clients -/

structure Con where
  seq : Int
  busy : Bool
  call : Cal
  code : Int
  tells : List Int
  deriving DecidableEq
def Con.cells (s : Con) : List D := [dI s.seq, dB s.busy, dI s.call.client, dI s.call.seq, dI s.call.act, .s (dL s.call.args), dI s.code, .s (dL s.tells)]
def Con.g (s : Con) : D := .g s.cells
def fitCon (s : Con) : Prop := s.call.args.length ≤ 2000000 ∧ s.tells.length ≤ 2000000
def Con.w (s : Con) : Nat := 6 + s.call.args.length + s.tells.length
def Con.mk' (q : Int) (s : Con) : Con := ⟨q, decide ((q + 1).tmod 3 = 0), ⟨q + 1 + 1, q + 1 + 1 + 1, q + 1 + 1 + 1 + 1, cnt (q + 1 + 1 + 1 + 1 + 1) s.call.args.length⟩, q + 1 + 1 + 1 + 1 + 1 + s.call.args.length,
  cnt (q + 1 + 1 + 1 + 1 + 1 + s.call.args.length + 1) s.tells.length⟩

theorem ev_markConClientS (l : List Con) (k : Int) (hl : l.length ≤ 2000000) (ht : ∀ d ∈ l, fitCon d) (h0 : 0 ≤ k) (h1 : k + wts Con.w l ≤ 1000000000000) :
    Ev L f_laws_markConClientS [.s (l.map Con.g), dI k] [dI (k + wts Con.w l), .s ((mkAll Con.w Con.mk' k l).map Con.g)] :=
  ev_markLoop Con.g Con.w Con.mk' l k L_laws_markConClientS rfl h0 h1 hl fun v0 v1 es i x q hx hxi hi hq0 hq1 => by
    have hil : i < es.length := (List.getElem?_eq_some_iff.1 hxi).1
    obtain ⟨hx1, hx2⟩ := ht x hx
    have hw : Con.w x = 6 + x.call.args.length + x.tells.length := rfl
    have e1 : IntKind.i64.wrap (q + 1) = q + 1 := w64 (by omega) (by omega)
    have e2 : IntKind.i64.wrap (q + 1 + 1) = q + 1 + 1 := w64 (by omega) (by omega)
    have e3 : IntKind.i64.wrap (q + 1 + 1 + 1) = q + 1 + 1 + 1 := w64 (by omega) (by omega)
    have e4 : IntKind.i64.wrap (q + 1 + 1 + 1 + 1) = q + 1 + 1 + 1 + 1 := w64 (by omega) (by omega)
    have e5 : IntKind.i64.wrap (q + 1 + 1 + 1 + 1 + 1) = q + 1 + 1 + 1 + 1 + 1 := w64 (by omega) (by omega)
    have e6 : IntKind.i64.wrap (q + 1 + 1 + 1 + 1 + 1 + x.call.args.length + 1) = q + 1 + 1 + 1 + 1 + 1 + x.call.args.length + 1 := w64 (by omega) (by omega)
    refine WR.atN (vs := [.i x.seq, .b x.busy, .i x.call.client, .i x.call.seq, .i x.call.act, .l (dL x.call.args), .i x.code, .l (dL x.tells)]) (ds := es) i hxi rfl rfl rfl rfl rfl rfl ?_
    simp only [List.cons_append, List.nil_append]
    generalize hes1 : es.set i (.g [dI q, dB x.busy, dI x.call.client, dI x.call.seq, dI x.call.act, .s (dL x.call.args), dI x.code, .s (dL x.tells)]) = es1
    have hl1 : es1.length = es.length := by rw [← hes1]; simp
    have hes1' : es1 = (es.set i (.g [dI q, dB x.busy, dI x.call.client, dI x.call.seq, dI x.call.act, .s (dL x.call.args), dI x.code, .s (dL x.tells)])) := by rw [hes1]
    refine WR.chk rfl ?_
    refine WR.atN (vs := [.i q, .b x.busy, .i x.call.client, .i x.call.seq, .i x.call.act, .l (dL x.call.args), .i x.code, .l (dL x.tells)]) (ds := es1) (d := .g [dI q, dB x.busy, dI x.call.client, dI x.call.seq, dI x.call.act, .s (dL x.call.args), dI x.code, .s (dL x.tells)]) i (by rw [← hes1]; exact set_at _ (by omega)) rfl (by rw [hl1]; rfl) rfl (by rw [hes1']; rfl) rfl rfl ?_
    simp only [List.cons_append, List.nil_append]
    generalize hes2 : es1.set i (.g [dI q, dB (decide ((q + 1).tmod 3 = 0)), dI x.call.client, dI x.call.seq, dI x.call.act, .s (dL x.call.args), dI x.code, .s (dL x.tells)]) = es2
    have hl2 : es2.length = es.length := by rw [← hes2]; simp [hl1]
    have hes2' : es2 = ((es.set i (.g [dI q, dB x.busy, dI x.call.client, dI x.call.seq, dI x.call.act, .s (dL x.call.args), dI x.code, .s (dL x.tells)])).set i (.g [dI q, dB (decide ((IntKind.i64.wrap (q + 1)).tmod 3 = 0)), dI x.call.client, dI x.call.seq, dI x.call.act, .s (dL x.call.args), dI x.code, .s (dL x.tells)])) := by simp only [e1, e2, e3, e4, e5, e6]; rw [hes1, hes2]
    refine WR.atN (vs := [.i q, .b (decide ((q + 1).tmod 3 = 0)), .i x.call.client, .i x.call.seq, .i x.call.act, .l (dL x.call.args), .i x.code, .l (dL x.tells)]) (ds := es2) (d := .g [dI q, dB (decide ((q + 1).tmod 3 = 0)), dI x.call.client, dI x.call.seq, dI x.call.act, .s (dL x.call.args), dI x.code, .s (dL x.tells)]) i (by rw [← hes2]; exact set_at _ (by omega)) rfl (by rw [hl2]; rfl) rfl (by rw [hes2']; rfl) rfl rfl ?_
    simp only [List.cons_append, List.nil_append]
    generalize hes3 : es2.set i (.g [dI q, dB (decide ((q + 1).tmod 3 = 0)), dI (q + 1 + 1), dI x.call.seq, dI x.call.act, .s (dL x.call.args), dI x.code, .s (dL x.tells)]) = es3
    have hl3 : es3.length = es.length := by rw [← hes3]; simp [hl2]
    have hes3' : es3 = (((es.set i (.g [dI q, dB x.busy, dI x.call.client, dI x.call.seq, dI x.call.act, .s (dL x.call.args), dI x.code, .s (dL x.tells)])).set i (.g [dI q, dB (decide ((IntKind.i64.wrap (q + 1)).tmod 3 = 0)), dI x.call.client, dI x.call.seq, dI x.call.act, .s (dL x.call.args), dI x.code, .s (dL x.tells)])).set i (.g [dI q, dB (decide ((q + 1).tmod 3 = 0)), dI (IntKind.i64.wrap (IntKind.i64.wrap (q + 1) + 1)), dI x.call.seq, dI x.call.act, .s (dL x.call.args), dI x.code, .s (dL x.tells)])) := by simp only [e1, e2, e3, e4, e5, e6]; rw [hes1, hes2, hes3]
    refine WR.atN (vs := [.i q, .b (decide ((q + 1).tmod 3 = 0)), .i (q + 1 + 1), .i x.call.seq, .i x.call.act, .l (dL x.call.args), .i x.code, .l (dL x.tells)]) (ds := es3) (d := .g [dI q, dB (decide ((q + 1).tmod 3 = 0)), dI (q + 1 + 1), dI x.call.seq, dI x.call.act, .s (dL x.call.args), dI x.code, .s (dL x.tells)]) i (by rw [← hes3]; exact set_at _ (by omega)) rfl (by rw [hl3]; rfl) rfl (by rw [hes3']; rfl) rfl rfl ?_
    simp only [List.cons_append, List.nil_append]
    generalize hes4 : es3.set i (.g [dI q, dB (decide ((q + 1).tmod 3 = 0)), dI (q + 1 + 1), dI (q + 1 + 1 + 1), dI x.call.act, .s (dL x.call.args), dI x.code, .s (dL x.tells)]) = es4
    have hl4 : es4.length = es.length := by rw [← hes4]; simp [hl3]
    have hes4' : es4 = ((((es.set i (.g [dI q, dB x.busy, dI x.call.client, dI x.call.seq, dI x.call.act, .s (dL x.call.args), dI x.code, .s (dL x.tells)])).set i (.g [dI q, dB (decide ((IntKind.i64.wrap (q + 1)).tmod 3 = 0)), dI x.call.client, dI x.call.seq, dI x.call.act, .s (dL x.call.args), dI x.code, .s (dL x.tells)])).set i (.g [dI q, dB (decide ((q + 1).tmod 3 = 0)), dI (IntKind.i64.wrap (IntKind.i64.wrap (q + 1) + 1)), dI x.call.seq, dI x.call.act, .s (dL x.call.args), dI x.code, .s (dL x.tells)])).set i (.g [dI q, dB (decide ((q + 1).tmod 3 = 0)), dI (q + 1 + 1), dI (IntKind.i64.wrap (IntKind.i64.wrap (IntKind.i64.wrap (q + 1) + 1) + 1)), dI x.call.act, .s (dL x.call.args), dI x.code, .s (dL x.tells)])) := by simp only [e1, e2, e3, e4, e5, e6]; rw [hes1, hes2, hes3, hes4]
    refine WR.atN (vs := [.i q, .b (decide ((q + 1).tmod 3 = 0)), .i (q + 1 + 1), .i (q + 1 + 1 + 1), .i x.call.act, .l (dL x.call.args), .i x.code, .l (dL x.tells)]) (ds := es4) (d := .g [dI q, dB (decide ((q + 1).tmod 3 = 0)), dI (q + 1 + 1), dI (q + 1 + 1 + 1), dI x.call.act, .s (dL x.call.args), dI x.code, .s (dL x.tells)]) i (by rw [← hes4]; exact set_at _ (by omega)) rfl (by rw [hl4]; rfl) rfl (by rw [hes4']; rfl) rfl rfl ?_
    simp only [List.cons_append, List.nil_append]
    generalize hes5 : es4.set i (.g [dI q, dB (decide ((q + 1).tmod 3 = 0)), dI (q + 1 + 1), dI (q + 1 + 1 + 1), dI (q + 1 + 1 + 1 + 1), .s (dL x.call.args), dI x.code, .s (dL x.tells)]) = es5
    have hl5 : es5.length = es.length := by rw [← hes5]; simp [hl4]
    have hes5' : es5 = (((((es.set i (.g [dI q, dB x.busy, dI x.call.client, dI x.call.seq, dI x.call.act, .s (dL x.call.args), dI x.code, .s (dL x.tells)])).set i (.g [dI q, dB (decide ((IntKind.i64.wrap (q + 1)).tmod 3 = 0)), dI x.call.client, dI x.call.seq, dI x.call.act, .s (dL x.call.args), dI x.code, .s (dL x.tells)])).set i (.g [dI q, dB (decide ((q + 1).tmod 3 = 0)), dI (IntKind.i64.wrap (IntKind.i64.wrap (q + 1) + 1)), dI x.call.seq, dI x.call.act, .s (dL x.call.args), dI x.code, .s (dL x.tells)])).set i (.g [dI q, dB (decide ((q + 1).tmod 3 = 0)), dI (q + 1 + 1), dI (IntKind.i64.wrap (IntKind.i64.wrap (IntKind.i64.wrap (q + 1) + 1) + 1)), dI x.call.act, .s (dL x.call.args), dI x.code, .s (dL x.tells)])).set i (.g [dI q, dB (decide ((q + 1).tmod 3 = 0)), dI (q + 1 + 1), dI (q + 1 + 1 + 1), dI (IntKind.i64.wrap (IntKind.i64.wrap (IntKind.i64.wrap (IntKind.i64.wrap (q + 1) + 1) + 1) + 1)), .s (dL x.call.args), dI x.code, .s (dL x.tells)])) := by simp only [e1, e2, e3, e4, e5, e6]; rw [hes1, hes2, hes3, hes4, hes5]
    refine WR.atN (vs := [.i q, .b (decide ((q + 1).tmod 3 = 0)), .i (q + 1 + 1), .i (q + 1 + 1 + 1), .i (q + 1 + 1 + 1 + 1), .l (dL x.call.args), .i x.code, .l (dL x.tells)]) (ds := es5) (d := .g [dI q, dB (decide ((q + 1).tmod 3 = 0)), dI (q + 1 + 1), dI (q + 1 + 1 + 1), dI (q + 1 + 1 + 1 + 1), .s (dL x.call.args), dI x.code, .s (dL x.tells)]) i (by rw [← hes5]; exact set_at _ (by omega)) rfl (by rw [hl5]; rfl) rfl (by rw [hes5']; rfl) rfl rfl ?_
    simp only [List.cons_append, List.nil_append]
    refine WR.ev (vs := [.i (q + 1 + 1 + 1 + 1 + 1 + x.call.args.length), .l (dL (cnt (q + 1 + 1 + 1 + 1 + 1) x.call.args.length))]) (ev_markIntS x.call.args (q + 1 + 1 + 1 + 1 + 1) hx1 (by omega) (by omega)) rfl ?_ rfl ?_
    · show [D.s (dL x.call.args), dI (IntKind.i64.wrap (IntKind.i64.wrap (IntKind.i64.wrap (IntKind.i64.wrap (IntKind.i64.wrap (q + 1) + 1) + 1) + 1) + 1))] = _
      simp only [e1, e2, e3, e4, e5, e6]
    simp only [List.cons_append, List.nil_append]
    refine WR.chk (by show decide (((dL (cnt (q + 1 + 1 + 1 + 1 + 1) x.call.args.length)).length : Int) = ((dL x.call.args).length : Int)) = true; rw [dL_len, dL_len, cnt_len]; simp) ?_
    generalize hes6 : es5.set i (.g [dI q, dB (decide ((q + 1).tmod 3 = 0)), dI (q + 1 + 1), dI (q + 1 + 1 + 1), dI (q + 1 + 1 + 1 + 1), .s (dL (cnt (q + 1 + 1 + 1 + 1 + 1) x.call.args.length)), dI x.code, .s (dL x.tells)]) = es6
    have hl6 : es6.length = es.length := by rw [← hes6]; simp [hl5]
    have hes6' : es6 = ((((((es.set i (.g [dI q, dB x.busy, dI x.call.client, dI x.call.seq, dI x.call.act, .s (dL x.call.args), dI x.code, .s (dL x.tells)])).set i (.g [dI q, dB (decide ((IntKind.i64.wrap (q + 1)).tmod 3 = 0)), dI x.call.client, dI x.call.seq, dI x.call.act, .s (dL x.call.args), dI x.code, .s (dL x.tells)])).set i (.g [dI q, dB (decide ((q + 1).tmod 3 = 0)), dI (IntKind.i64.wrap (IntKind.i64.wrap (q + 1) + 1)), dI x.call.seq, dI x.call.act, .s (dL x.call.args), dI x.code, .s (dL x.tells)])).set i (.g [dI q, dB (decide ((q + 1).tmod 3 = 0)), dI (q + 1 + 1), dI (IntKind.i64.wrap (IntKind.i64.wrap (IntKind.i64.wrap (q + 1) + 1) + 1)), dI x.call.act, .s (dL x.call.args), dI x.code, .s (dL x.tells)])).set i (.g [dI q, dB (decide ((q + 1).tmod 3 = 0)), dI (q + 1 + 1), dI (q + 1 + 1 + 1), dI (IntKind.i64.wrap (IntKind.i64.wrap (IntKind.i64.wrap (IntKind.i64.wrap (q + 1) + 1) + 1) + 1)), .s (dL x.call.args), dI x.code, .s (dL x.tells)])).set i (.g [dI q, dB (decide ((q + 1).tmod 3 = 0)), dI (q + 1 + 1), dI (q + 1 + 1 + 1), dI (q + 1 + 1 + 1 + 1), .s (dL (cnt (q + 1 + 1 + 1 + 1 + 1) x.call.args.length)), dI x.code, .s (dL x.tells)])) := by simp only [e1, e2, e3, e4, e5, e6]; rw [hes1, hes2, hes3, hes4, hes5, hes6]
    refine WR.atN (vs := [.i q, .b (decide ((q + 1).tmod 3 = 0)), .i (q + 1 + 1), .i (q + 1 + 1 + 1), .i (q + 1 + 1 + 1 + 1), .l (dL (cnt (q + 1 + 1 + 1 + 1 + 1) x.call.args.length)), .i x.code, .l (dL x.tells)]) (ds := es6) (d := .g [dI q, dB (decide ((q + 1).tmod 3 = 0)), dI (q + 1 + 1), dI (q + 1 + 1 + 1), dI (q + 1 + 1 + 1 + 1), .s (dL (cnt (q + 1 + 1 + 1 + 1 + 1) x.call.args.length)), dI x.code, .s (dL x.tells)]) i (by rw [← hes6]; exact set_at _ (by omega)) rfl (by rw [hl6]; rfl) rfl (by rw [hes6']; rfl) rfl rfl ?_
    simp only [List.cons_append, List.nil_append]
    generalize hes7 : es6.set i (.g [dI q, dB (decide ((q + 1).tmod 3 = 0)), dI (q + 1 + 1), dI (q + 1 + 1 + 1), dI (q + 1 + 1 + 1 + 1), .s (dL (cnt (q + 1 + 1 + 1 + 1 + 1) x.call.args.length)), dI (q + 1 + 1 + 1 + 1 + 1 + x.call.args.length), .s (dL x.tells)]) = es7
    have hl7 : es7.length = es.length := by rw [← hes7]; simp [hl6]
    have hes7' : es7 = (((((((es.set i (.g [dI q, dB x.busy, dI x.call.client, dI x.call.seq, dI x.call.act, .s (dL x.call.args), dI x.code, .s (dL x.tells)])).set i (.g [dI q, dB (decide ((IntKind.i64.wrap (q + 1)).tmod 3 = 0)), dI x.call.client, dI x.call.seq, dI x.call.act, .s (dL x.call.args), dI x.code, .s (dL x.tells)])).set i (.g [dI q, dB (decide ((q + 1).tmod 3 = 0)), dI (IntKind.i64.wrap (IntKind.i64.wrap (q + 1) + 1)), dI x.call.seq, dI x.call.act, .s (dL x.call.args), dI x.code, .s (dL x.tells)])).set i (.g [dI q, dB (decide ((q + 1).tmod 3 = 0)), dI (q + 1 + 1), dI (IntKind.i64.wrap (IntKind.i64.wrap (IntKind.i64.wrap (q + 1) + 1) + 1)), dI x.call.act, .s (dL x.call.args), dI x.code, .s (dL x.tells)])).set i (.g [dI q, dB (decide ((q + 1).tmod 3 = 0)), dI (q + 1 + 1), dI (q + 1 + 1 + 1), dI (IntKind.i64.wrap (IntKind.i64.wrap (IntKind.i64.wrap (IntKind.i64.wrap (q + 1) + 1) + 1) + 1)), .s (dL x.call.args), dI x.code, .s (dL x.tells)])).set i (.g [dI q, dB (decide ((q + 1).tmod 3 = 0)), dI (q + 1 + 1), dI (q + 1 + 1 + 1), dI (q + 1 + 1 + 1 + 1), .s (dL (cnt (q + 1 + 1 + 1 + 1 + 1) x.call.args.length)), dI x.code, .s (dL x.tells)])).set i (.g [dI q, dB (decide ((q + 1).tmod 3 = 0)), dI (q + 1 + 1), dI (q + 1 + 1 + 1), dI (q + 1 + 1 + 1 + 1), .s (dL (cnt (q + 1 + 1 + 1 + 1 + 1) x.call.args.length)), dI (q + 1 + 1 + 1 + 1 + 1 + x.call.args.length), .s (dL x.tells)])) := by simp only [e1, e2, e3, e4, e5, e6]; rw [hes1, hes2, hes3, hes4, hes5, hes6, hes7]
    refine WR.atN (vs := [.i q, .b (decide ((q + 1).tmod 3 = 0)), .i (q + 1 + 1), .i (q + 1 + 1 + 1), .i (q + 1 + 1 + 1 + 1), .l (dL (cnt (q + 1 + 1 + 1 + 1 + 1) x.call.args.length)), .i (q + 1 + 1 + 1 + 1 + 1 + x.call.args.length), .l (dL x.tells)]) (ds := es7) (d := .g [dI q, dB (decide ((q + 1).tmod 3 = 0)), dI (q + 1 + 1), dI (q + 1 + 1 + 1), dI (q + 1 + 1 + 1 + 1), .s (dL (cnt (q + 1 + 1 + 1 + 1 + 1) x.call.args.length)), dI (q + 1 + 1 + 1 + 1 + 1 + x.call.args.length), .s (dL x.tells)]) i (by rw [← hes7]; exact set_at _ (by omega)) rfl (by rw [hl7]; rfl) rfl (by rw [hes7']; rfl) rfl rfl ?_
    simp only [List.cons_append, List.nil_append]
    refine WR.ev (vs := [.i (q + 1 + 1 + 1 + 1 + 1 + x.call.args.length + 1 + x.tells.length), .l (dL (cnt (q + 1 + 1 + 1 + 1 + 1 + x.call.args.length + 1) x.tells.length))]) (ev_markIntS x.tells (q + 1 + 1 + 1 + 1 + 1 + x.call.args.length + 1) hx2 (by omega) (by omega)) rfl ?_ rfl ?_
    · show [D.s (dL x.tells), dI (IntKind.i64.wrap (q + 1 + 1 + 1 + 1 + 1 + x.call.args.length + 1))] = _
      simp only [e1, e2, e3, e4, e5, e6]
    simp only [List.cons_append, List.nil_append]
    refine WR.chk (by show decide (((dL (cnt (q + 1 + 1 + 1 + 1 + 1 + x.call.args.length + 1) x.tells.length)).length : Int) = ((dL x.tells).length : Int)) = true; rw [dL_len, dL_len, cnt_len]; simp) ?_
    refine WR.nextA ?_ rfl
    show [V.l ((((((((es.set i (.g [dI q, dB x.busy, dI x.call.client, dI x.call.seq, dI x.call.act, .s (dL x.call.args), dI x.code, .s (dL x.tells)])).set i (.g [dI q, dB (decide ((IntKind.i64.wrap (q + 1)).tmod 3 = 0)), dI x.call.client, dI x.call.seq, dI x.call.act, .s (dL x.call.args), dI x.code, .s (dL x.tells)])).set i (.g [dI q, dB (decide ((q + 1).tmod 3 = 0)), dI (IntKind.i64.wrap (IntKind.i64.wrap (q + 1) + 1)), dI x.call.seq, dI x.call.act, .s (dL x.call.args), dI x.code, .s (dL x.tells)])).set i (.g [dI q, dB (decide ((q + 1).tmod 3 = 0)), dI (q + 1 + 1), dI (IntKind.i64.wrap (IntKind.i64.wrap (IntKind.i64.wrap (q + 1) + 1) + 1)), dI x.call.act, .s (dL x.call.args), dI x.code, .s (dL x.tells)])).set i (.g [dI q, dB (decide ((q + 1).tmod 3 = 0)), dI (q + 1 + 1), dI (q + 1 + 1 + 1), dI (IntKind.i64.wrap (IntKind.i64.wrap (IntKind.i64.wrap (IntKind.i64.wrap (q + 1) + 1) + 1) + 1)), .s (dL x.call.args), dI x.code, .s (dL x.tells)])).set i (.g [dI q, dB (decide ((q + 1).tmod 3 = 0)), dI (q + 1 + 1), dI (q + 1 + 1 + 1), dI (q + 1 + 1 + 1 + 1), .s (dL (cnt (q + 1 + 1 + 1 + 1 + 1) x.call.args.length)), dI x.code, .s (dL x.tells)])).set i (.g [dI q, dB (decide ((q + 1).tmod 3 = 0)), dI (q + 1 + 1), dI (q + 1 + 1 + 1), dI (q + 1 + 1 + 1 + 1), .s (dL (cnt (q + 1 + 1 + 1 + 1 + 1) x.call.args.length)), dI (q + 1 + 1 + 1 + 1 + 1 + x.call.args.length), .s (dL x.tells)])).set i (.g [dI q, dB (decide ((q + 1).tmod 3 = 0)), dI (q + 1 + 1), dI (q + 1 + 1 + 1), dI (q + 1 + 1 + 1 + 1), .s (dL (cnt (q + 1 + 1 + 1 + 1 + 1) x.call.args.length)), dI (q + 1 + 1 + 1 + 1 + 1 + x.call.args.length), .s (dL (cnt (q + 1 + 1 + 1 + 1 + 1 + x.call.args.length + 1) x.tells.length))])), V.i (q + 1 + 1 + 1 + 1 + 1 + x.call.args.length + 1 + x.tells.length), V.i (IntKind.i64.wrap ((i : Int) + 1))] = _
    rw [wS' (by omega)]
    simp only [e1, e2, e3, e4, e5, e6, List.set_set]
    rw [show q + 1 + 1 + 1 + 1 + 1 + x.call.args.length + 1 + x.tells.length = q + (Con.w x : Nat) by rw [hw]; push_cast; omega]
    rfl

theorem ev_heldConClientS (l : List Con) (k : Int) (hl : l.length ≤ 2000000) (ht : ∀ d ∈ l, fitCon d) (h0 : 0 ≤ k) (h1 : k + wts Con.w l ≤ 1000000000000) :
    Ev L f_laws_heldConClientS [.s ((mkAll Con.w Con.mk' k l).map Con.g), dI k] [dI (k + wts Con.w l)] :=
  ev_heldLoop Con.g Con.w Con.mk' l k L_laws_heldConClientS rfl h0 h1 hl fun v1 es i x q hx hxi hi hq0 hq1 => by
    obtain ⟨hx1, hx2⟩ := ht x hx
    have hw : Con.w x = 6 + x.call.args.length + x.tells.length := rfl
    have e1 : IntKind.i64.wrap (q + 1) = q + 1 := w64 (by omega) (by omega)
    have e2 : IntKind.i64.wrap (q + 1 + 1) = q + 1 + 1 := w64 (by omega) (by omega)
    have e3 : IntKind.i64.wrap (q + 1 + 1 + 1) = q + 1 + 1 + 1 := w64 (by omega) (by omega)
    have e4 : IntKind.i64.wrap (q + 1 + 1 + 1 + 1) = q + 1 + 1 + 1 + 1 := w64 (by omega) (by omega)
    have e5 : IntKind.i64.wrap (q + 1 + 1 + 1 + 1 + 1) = q + 1 + 1 + 1 + 1 + 1 := w64 (by omega) (by omega)
    have e6 : IntKind.i64.wrap (q + 1 + 1 + 1 + 1 + 1 + x.call.args.length + 1) = q + 1 + 1 + 1 + 1 + 1 + x.call.args.length + 1 := w64 (by omega) (by omega)
    refine WR.idxN (vs := [.i q, .b (decide ((q + 1).tmod 3 = 0)), .i (q + 1 + 1), .i (q + 1 + 1 + 1), .i (q + 1 + 1 + 1 + 1), .l (dL (cnt (q + 1 + 1 + 1 + 1 + 1) x.call.args.length)), .i (q + 1 + 1 + 1 + 1 + 1 + x.call.args.length), .l (dL (cnt (q + 1 + 1 + 1 + 1 + 1 + x.call.args.length + 1) x.tells.length))]) i hxi rfl rfl rfl rfl ?_
    refine WR.iteF (by show (!decide (q = q)) = false; simp) ?_
    refine WR.idxN (vs := [.i q, .b (decide ((q + 1).tmod 3 = 0)), .i (q + 1 + 1), .i (q + 1 + 1 + 1), .i (q + 1 + 1 + 1 + 1), .l (dL (cnt (q + 1 + 1 + 1 + 1 + 1) x.call.args.length)), .i (q + 1 + 1 + 1 + 1 + 1 + x.call.args.length), .l (dL (cnt (q + 1 + 1 + 1 + 1 + 1 + x.call.args.length + 1) x.tells.length))]) i hxi rfl rfl rfl rfl ?_
    refine WR.chk rfl ?_
    refine WR.iteF (by show (!(decide ((q + 1).tmod 3 = 0) == decide ((IntKind.i64.wrap (q + 1)).tmod 3 = 0))) = false; simp only [e1, e2, e3, e4, e5, e6]; simp) ?_
    refine WR.idxN (vs := [.i q, .b (decide ((q + 1).tmod 3 = 0)), .i (q + 1 + 1), .i (q + 1 + 1 + 1), .i (q + 1 + 1 + 1 + 1), .l (dL (cnt (q + 1 + 1 + 1 + 1 + 1) x.call.args.length)), .i (q + 1 + 1 + 1 + 1 + 1 + x.call.args.length), .l (dL (cnt (q + 1 + 1 + 1 + 1 + 1 + x.call.args.length + 1) x.tells.length))]) i hxi rfl rfl rfl rfl ?_
    refine WR.iteF (by show (!decide (q + 1 + 1 = IntKind.i64.wrap (IntKind.i64.wrap (q + 1) + 1))) = false; simp only [e1, e2, e3, e4, e5, e6]; simp) ?_
    refine WR.idxN (vs := [.i q, .b (decide ((q + 1).tmod 3 = 0)), .i (q + 1 + 1), .i (q + 1 + 1 + 1), .i (q + 1 + 1 + 1 + 1), .l (dL (cnt (q + 1 + 1 + 1 + 1 + 1) x.call.args.length)), .i (q + 1 + 1 + 1 + 1 + 1 + x.call.args.length), .l (dL (cnt (q + 1 + 1 + 1 + 1 + 1 + x.call.args.length + 1) x.tells.length))]) i hxi rfl rfl rfl rfl ?_
    refine WR.iteF (by show (!decide (q + 1 + 1 + 1 = IntKind.i64.wrap (IntKind.i64.wrap (IntKind.i64.wrap (q + 1) + 1) + 1))) = false; simp only [e1, e2, e3, e4, e5, e6]; simp) ?_
    refine WR.idxN (vs := [.i q, .b (decide ((q + 1).tmod 3 = 0)), .i (q + 1 + 1), .i (q + 1 + 1 + 1), .i (q + 1 + 1 + 1 + 1), .l (dL (cnt (q + 1 + 1 + 1 + 1 + 1) x.call.args.length)), .i (q + 1 + 1 + 1 + 1 + 1 + x.call.args.length), .l (dL (cnt (q + 1 + 1 + 1 + 1 + 1 + x.call.args.length + 1) x.tells.length))]) i hxi rfl rfl rfl rfl ?_
    refine WR.iteF (by show (!decide (q + 1 + 1 + 1 + 1 = IntKind.i64.wrap (IntKind.i64.wrap (IntKind.i64.wrap (IntKind.i64.wrap (q + 1) + 1) + 1) + 1))) = false; simp only [e1, e2, e3, e4, e5, e6]; simp) ?_
    refine WR.idxN (vs := [.i q, .b (decide ((q + 1).tmod 3 = 0)), .i (q + 1 + 1), .i (q + 1 + 1 + 1), .i (q + 1 + 1 + 1 + 1), .l (dL (cnt (q + 1 + 1 + 1 + 1 + 1) x.call.args.length)), .i (q + 1 + 1 + 1 + 1 + 1 + x.call.args.length), .l (dL (cnt (q + 1 + 1 + 1 + 1 + 1 + x.call.args.length + 1) x.tells.length))]) i hxi rfl rfl rfl rfl ?_
    simp only [List.cons_append, List.nil_append]
    refine WR.ev (vs := [.i (q + 1 + 1 + 1 + 1 + 1 + x.call.args.length)]) (ev_heldIntS (q + 1 + 1 + 1 + 1 + 1) x.call.args.length hx1 (by omega) (by omega)) rfl ?_ rfl ?_
    · show [D.s (dL (cnt (q + 1 + 1 + 1 + 1 + 1) x.call.args.length)), dI (IntKind.i64.wrap (IntKind.i64.wrap (IntKind.i64.wrap (IntKind.i64.wrap (IntKind.i64.wrap (q + 1) + 1) + 1) + 1) + 1))] = _
      simp only [e1, e2, e3, e4, e5, e6]
    simp only [List.cons_append, List.nil_append]
    refine WR.iteF (by show decide (q + 1 + 1 + 1 + 1 + 1 + x.call.args.length < 0) = false; rw [decide_eq_false]; omega) ?_
    refine WR.idxN (vs := [.i q, .b (decide ((q + 1).tmod 3 = 0)), .i (q + 1 + 1), .i (q + 1 + 1 + 1), .i (q + 1 + 1 + 1 + 1), .l (dL (cnt (q + 1 + 1 + 1 + 1 + 1) x.call.args.length)), .i (q + 1 + 1 + 1 + 1 + 1 + x.call.args.length), .l (dL (cnt (q + 1 + 1 + 1 + 1 + 1 + x.call.args.length + 1) x.tells.length))]) i hxi rfl rfl rfl rfl ?_
    refine WR.iteF (by show (!decide (q + 1 + 1 + 1 + 1 + 1 + x.call.args.length = q + 1 + 1 + 1 + 1 + 1 + x.call.args.length)) = false; simp) ?_
    refine WR.idxN (vs := [.i q, .b (decide ((q + 1).tmod 3 = 0)), .i (q + 1 + 1), .i (q + 1 + 1 + 1), .i (q + 1 + 1 + 1 + 1), .l (dL (cnt (q + 1 + 1 + 1 + 1 + 1) x.call.args.length)), .i (q + 1 + 1 + 1 + 1 + 1 + x.call.args.length), .l (dL (cnt (q + 1 + 1 + 1 + 1 + 1 + x.call.args.length + 1) x.tells.length))]) i hxi rfl rfl rfl rfl ?_
    simp only [List.cons_append, List.nil_append]
    refine WR.ev (vs := [.i (q + 1 + 1 + 1 + 1 + 1 + x.call.args.length + 1 + x.tells.length)]) (ev_heldIntS (q + 1 + 1 + 1 + 1 + 1 + x.call.args.length + 1) x.tells.length hx2 (by omega) (by omega)) rfl ?_ rfl ?_
    · show [D.s (dL (cnt (q + 1 + 1 + 1 + 1 + 1 + x.call.args.length + 1) x.tells.length)), dI (IntKind.i64.wrap (q + 1 + 1 + 1 + 1 + 1 + x.call.args.length + 1))] = _
      simp only [e1, e2, e3, e4, e5, e6]
    simp only [List.cons_append, List.nil_append]
    refine WR.iteF (by show decide (q + 1 + 1 + 1 + 1 + 1 + x.call.args.length + 1 + x.tells.length < 0) = false; rw [decide_eq_false]; omega) ?_
    refine WR.nextA ?_ rfl
    show [V.i (q + 1 + 1 + 1 + 1 + 1 + x.call.args.length + 1 + x.tells.length), V.i (IntKind.i64.wrap ((i : Int) + 1))] = _
    rw [wS' (by omega)]
    rw [show q + 1 + 1 + 1 + 1 + 1 + x.call.args.length + 1 + x.tells.length = q + (Con.w x : Nat) by rw [hw]; push_cast; omega]

end Go.Proofs.YtnmiphelhfphaaaGreat

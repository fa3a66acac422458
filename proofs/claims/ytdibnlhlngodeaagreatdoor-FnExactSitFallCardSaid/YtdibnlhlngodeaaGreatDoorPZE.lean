import Derived.Test.YtdibnlhlngodeaaGreatDoorPZD
set_option linter.unusedVariables false
set_option linter.unusedSimpArgs false
/- Marks, and what is held; sizes of acts: over residual programs. -/
namespace Go.Proofs.YtdibnlhlngodeaaGreatDoor
open Go Go.Tm
theorem ev_markIntS (l : List Int) (k : Int) (hl : l.length ≤ 2000000) (h0 : 0 ≤ k) (h1 : k ≤ 1000000000000000) : Ev L f_k42 [.s (dL l), dI k] [dI (k + l.length), .s (dL (cnt k l.length))] := by
  refine Ev.eq (vs := [.l (dL l), .i k]) L_k42 rfl ?_
  have hc : (cnt k l.length).length = l.length := cnt_len _ _
  have hc' : (dL (cnt k l.length)).length = (dL l).length := by rw [dL_len, dL_len, hc]
  have hlen := dL_len l
  refine WR.forP l.length (fun i => [.l ((dL (cnt k l.length)).take i ++ (dL l).drop i), .i (k + i), .i i]) (fun _ => True) rfl ?_ trivial fun i hi _ => ?_
  · show [V.l (dL l), V.i k, V.i 0] = _
    simp
  simp only [sCA, sNA]
  refine WR.iteLen i (ds := (dL (cnt k l.length)).take i ++ (dL l).drop i) ((mark_len hc').trans hlen) rfl (fun h => ?_) (fun h => WR.esc (WR.done ?_))
  · obtain ⟨x, hx, _⟩ := some_at h
    refine WR.atN (ds := (dL (cnt k l.length)).take i ++ (dL l).drop i) i (mark_at hc' (map_at (f := dI) hx)) rfl rfl rfl rfl rfl rfl ?_
    refine WR.nextA (vs := [.l ((dL (cnt k l.length)).take (i + 1) ++ (dL l).drop (i + 1)), .i (k + ((i + 1 : Nat) : Int)), .i ((i + 1 : Nat) : Int)]) ?_ ⟨h, rfl, trivial⟩
    show [V.l (((dL (cnt k l.length)).take i ++ (dL l).drop i).set (i : Int).toNat (dI (k + i))), V.i (IntKind.i64.wrap (k + i + 1)), V.i (IntKind.i64.wrap ((i : Int) + 1))] = _
    rw [wS h (by omega), Int.toNat_natCast, mark_set hc' (map_at (f := dI) (cnt_get k h)), w64 (by omega) (by omega)]
    rw [show k + (i : Int) + 1 = k + ((i + 1 : Nat) : Int) by push_cast; omega]
  · show [dI (k + i), D.s ((dL (cnt k l.length)).take i ++ (dL l).drop i)] = _
    rw [mark_end hc' (by omega), show i = l.length by omega]
theorem ev_heldIntS (k : Int) (n : Nat) (hl : n ≤ 2000000) (h0 : 0 ≤ k) (h1 : k ≤ 1000000000000000) : Ev L f_k48 [.s (dL (cnt k n)), dI k] [dI (k + n)] := by
  refine Ev.eq (vs := [.l (dL (cnt k n)), .i k]) L_k48 rfl ?_
  have hlen : (dL (cnt k n)).length = n := by rw [dL_len, cnt_len]
  refine WR.forP n (fun i => [.i (k + i), .i i]) (fun _ => True) rfl ?_ trivial fun i hi _ => ?_
  · show [V.i k, V.i 0] = _
    simp
  simp only [sCA, sNA]
  refine WR.iteLen i hlen rfl (fun h => ?_) (fun h => WR.esc (WR.done ?_))
  · refine WR.idxN i (map_at (f := dI) (cnt_get k h)) rfl rfl rfl rfl ?_
    refine WR.iteF ?_ ?_
    · show (!(decide ((k + (i : Int)) = (k + (i : Int))))) = false
      simp
    refine WR.nextA (vs := [.i (k + ((i + 1 : Nat) : Int)), .i ((i + 1 : Nat) : Int)]) ?_ ⟨h, rfl, trivial⟩
    show [V.i (IntKind.i64.wrap (k + i + 1)), V.i (IntKind.i64.wrap ((i : Int) + 1))] = _
    rw [wS h (by omega), w64 (by omega) (by omega)]
    rw [show k + (i : Int) + 1 = k + ((i + 1 : Nat) : Int) by push_cast; omega]
  · show [dI (k + i)] = _
    rw [show i = n by omega]
def wtL (l : Line) : Nat := 4 + l.f.c.length + l.f.d.length
def wtA (a : List Line) : Nat := (a.map wtL).sum
def wtAs (as : List (List Line)) : Nat := (as.map wtA).sum
theorem wtA_succ {a : List Line} {i : Nat} {x : Line} (h : a[i]? = some x) : wtA (a.take (i + 1)) = wtA (a.take i) + wtL x := by unfold wtA; rw [map_take_succ h]; simp
theorem wtAs_succ {a : List (List Line)} {i : Nat} {x : List Line} (h : a[i]? = some x) : wtAs (a.take (i + 1)) = wtAs (a.take i) + wtA x := by unfold wtAs; rw [map_take_succ h]; simp
theorem sum_take_le {α : Type} (f : α → Nat) (l : List α) (i : Nat) : ((l.take i).map f).sum ≤ (l.map f).sum := by
  conv => rhs; rw [← List.take_append_drop i l, List.map_append, List.sum_append]
  omega
theorem wtA_take (a : List Line) (i : Nat) : wtA (a.take i) ≤ wtA a := sum_take_le _ _ _
theorem wtAs_take (a : List (List Line)) (i : Nat) : wtAs (a.take i) ≤ wtAs a := sum_take_le _ _ _
theorem drop_at {α : Type} {es : List α} {fs : List α} {i : Nat} (h : es.drop i = fs.drop i) {x : α} (hx : fs[i]? = some x) : es[i]? = some x := by
  have : (es.drop i)[0]? = (fs.drop i)[0]? := by rw [h]
  simpa [hx] using this
theorem drop_set {α : Type} {es : List α} {fs : List α} {i : Nat} (h : es.drop i = fs.drop i) (x : α) : (es.set i x).drop (i + 1) = fs.drop (i + 1) := by
  rw [List.drop_set_of_lt (by omega)]
  rw [show es.drop (i + 1) = (es.drop i).drop 1 by rw [List.drop_drop], show fs.drop (i + 1) = (fs.drop i).drop 1 by rw [List.drop_drop], h]
theorem ev_markActLineS (a : List Line) (ha : fitAct a) (k : Int) (h0 : 0 ≤ k) (h1 : k + wtA a ≤ 1000000000000) : ∃ ds, Ev L f_k43 [.s (dAct a), dI k] ds ∧ ∃ es, ds = [dI (k + wtA a), .s es] ∧ es.length = a.length := by
  refine Ev.of (vs := [.l (dAct a), .i k]) L_k43 rfl ?_
  have hlen := dAct_len a
  have hl := ha.1
  refine WR.forS a.length (fun i vs => ∃ es, vs = [.l es, .i (k + wtA (a.take i)), .i i] ∧ es.length = a.length ∧ es.drop i = (dAct a).drop i) rfl ?_ ?_
  · exact ⟨dAct a, by show [V.l (dAct a), V.i k, V.i 0] = _; simp [wtA], hlen, rfl⟩
  rintro i _ hi ⟨es, rfl, he, hd⟩
  simp only [sCA, sNA]
  have hw := wtA_take a i
  refine WR.iteLen i (ds := es) he rfl (fun h => ?_) (fun h => WR.esc (WR.done ?_))
  · obtain ⟨x, hx, hm⟩ := some_at h
    have hx0 := drop_at hd (map_at (f := Line.g) hx)
    have hxf := ha.2 x hm
    have hw2 := wtA_succ hx
    have hw3 := wtA_take a (i + 1)
    have hwl : wtL x = 4 + x.f.c.length + x.f.d.length := rfl
    generalize hk : k + (wtA (a.take i) : Int) = q at *
    have hq0 : 0 ≤ q := by omega
    have hq1 : q + wtL x ≤ 1000000000000 := by omega
    have e1 : IntKind.i64.wrap (q + 1) = q + 1 := w64 (by omega) (by omega)
    have e2 : IntKind.i64.wrap (q + 1 + 1) = q + 1 + 1 := w64 (by omega) (by omega)
    have e3 : IntKind.i64.wrap (q + 1 + 1 + 1) = q + 1 + 1 + 1 := w64 (by omega) (by omega)
    have hil : i < es.length := by omega
    refine WR.atN (vs := [.i x.kind, .i x.pot, .i x.skip, .l (dL x.f.c), .l (dL x.f.d), .i x.f.k]) (ds := es) i hx0 rfl rfl rfl rfl rfl rfl ?_
    simp only [sCA, sNA]
    generalize hes1 : es.set i (.g [dI q, dI x.pot, dI x.skip, .s (dL x.f.c), .s (dL x.f.d), dI x.f.k]) = es1
    have hl1 : es1.length = es.length := by rw [← hes1]; simp
    refine WR.atN (vs := [.i q, .i x.pot, .i x.skip, .l (dL x.f.c), .l (dL x.f.d), .i x.f.k]) (ds := es1) (d := .g [dI q, dI x.pot, dI x.skip, .s (dL x.f.c), .s (dL x.f.d), dI x.f.k]) i (by rw [← hes1]; exact set_at _ hil) rfl (by rw [hl1]; rfl) rfl (by rw [← hes1]; rfl) rfl rfl ?_
    simp only [sCA, sNA]
    generalize hes2 : es1.set i (.g [dI q, dI (q + 1), dI x.skip, .s (dL x.f.c), .s (dL x.f.d), dI x.f.k]) = es2
    have hl2 : es2.length = es.length := by rw [← hes2]; simp [hl1]
    refine WR.atN (vs := [.i q, .i (q + 1), .i x.skip, .l (dL x.f.c), .l (dL x.f.d), .i x.f.k]) (ds := es2) (d := .g [dI q, dI (q + 1), dI x.skip, .s (dL x.f.c), .s (dL x.f.d), dI x.f.k]) i (by rw [← hes2]; exact set_at _ (by omega)) rfl (by rw [hl2]; rfl) rfl
      (by rw [← hes2, ← hes1, ← e1]; rfl) rfl rfl ?_
    simp only [sCA, sNA]
    generalize hes3 : es2.set i (.g [dI q, dI (q + 1), dI (q + 1 + 1), .s (dL x.f.c), .s (dL x.f.d), dI x.f.k]) = es3
    have hl3 : es3.length = es.length := by rw [← hes3]; simp [hl2]
    have hes3' : es3 = ((es.set i (.g [dI q, dI x.pot, dI x.skip, .s (dL x.f.c), .s (dL x.f.d), dI x.f.k])).set i (.g [dI q, dI (IntKind.i64.wrap (q + 1)), dI x.skip, .s (dL x.f.c), .s (dL x.f.d), dI x.f.k])).set i
        (.g [dI q, dI (q + 1), dI (IntKind.i64.wrap (IntKind.i64.wrap (q + 1) + 1)), .s (dL x.f.c), .s (dL x.f.d), dI x.f.k]) := by rw [e1, e2, hes1, hes2, hes3]
    refine WR.atN (vs := [.i q, .i (q + 1), .i (q + 1 + 1), .l (dL x.f.c), .l (dL x.f.d), .i x.f.k]) (ds := es3) (d := .g [dI q, dI (q + 1), dI (q + 1 + 1), .s (dL x.f.c), .s (dL x.f.d), dI x.f.k]) i (by rw [← hes3]; exact set_at _ (by omega)) rfl (by rw [hl3]; rfl) rfl
      (by rw [hes3']; rfl) rfl rfl ?_
    simp only [sCA, sNA]
    refine WR.ev (vs := [.i (q + 1 + 1 + 1 + x.f.c.length), .l (dL (cnt (q + 1 + 1 + 1) x.f.c.length))]) (ev_markIntS x.f.c (q + 1 + 1 + 1) hxf.1 (by omega) (by omega)) rfl ?_ rfl ?_
    · show [D.s (dL x.f.c), dI (IntKind.i64.wrap (IntKind.i64.wrap (IntKind.i64.wrap (q + 1) + 1) + 1))] = _
      rw [e1, e2, e3]
    simp only [sCA, sNA]
    refine WR.chk ?_ ?_
    · show decide (((dL (cnt (q + 1 + 1 + 1) x.f.c.length)).length : Int) = ((dL x.f.c).length : Int)) = true
      rw [dL_len, dL_len, cnt_len]; simp
    generalize hes4 : es3.set i (.g [dI q, dI (q + 1), dI (q + 1 + 1), .s (dL (cnt (q + 1 + 1 + 1) x.f.c.length)), .s (dL x.f.d), dI x.f.k]) = es4
    have hl4 : es4.length = es.length := by rw [← hes4]; simp [hl3]
    refine WR.atN (vs := [.i q, .i (q + 1), .i (q + 1 + 1), .l (dL (cnt (q + 1 + 1 + 1) x.f.c.length)), .l (dL x.f.d), .i x.f.k]) (ds := es4) (d := .g [dI q, dI (q + 1), dI (q + 1 + 1), .s (dL (cnt (q + 1 + 1 + 1) x.f.c.length)), .s (dL x.f.d), dI x.f.k]) i (by rw [← hes4]; exact set_at _ (by omega)) rfl (by rw [hl4]; rfl) rfl
      (by rw [← hes4, hes3']; rfl) rfl rfl ?_
    simp only [sCA, sNA]
    refine WR.ev (vs := [.i (q + 1 + 1 + 1 + x.f.c.length + x.f.d.length), .l (dL (cnt (q + 1 + 1 + 1 + x.f.c.length) x.f.d.length))]) (ev_markIntS x.f.d (q + 1 + 1 + 1 + x.f.c.length) hxf.2 (by omega) (by omega)) rfl rfl rfl ?_
    simp only [sCA, sNA]
    refine WR.chk ?_ ?_
    · show decide (((dL (cnt (q + 1 + 1 + 1 + x.f.c.length) x.f.d.length)).length : Int) = ((dL x.f.d).length : Int)) = true
      rw [dL_len, dL_len, cnt_len]; simp
    generalize hes5 : es4.set i (.g [dI q, dI (q + 1), dI (q + 1 + 1), .s (dL (cnt (q + 1 + 1 + 1) x.f.c.length)), .s (dL (cnt (q + 1 + 1 + 1 + x.f.c.length) x.f.d.length)), dI x.f.k]) = es5
    have hl5 : es5.length = es.length := by rw [← hes5]; simp [hl4]
    refine WR.atN (vs := [.i q, .i (q + 1), .i (q + 1 + 1), .l (dL (cnt (q + 1 + 1 + 1) x.f.c.length)), .l (dL (cnt (q + 1 + 1 + 1 + x.f.c.length) x.f.d.length)), .i x.f.k]) (ds := es5)
      (d := .g [dI q, dI (q + 1), dI (q + 1 + 1), .s (dL (cnt (q + 1 + 1 + 1) x.f.c.length)), .s (dL (cnt (q + 1 + 1 + 1 + x.f.c.length) x.f.d.length)), dI x.f.k]) i (by rw [← hes5]; exact set_at _ (by omega)) rfl (by rw [hl5]; rfl) rfl
      (by rw [← hes5, ← hes4, hes3']; rfl) rfl rfl ?_
    simp only [sCA, sNA]
    have e6 : IntKind.i64.wrap (q + 1 + 1 + 1 + x.f.c.length + x.f.d.length + 1) = q + wtL x := by rw [w64 (by omega) (by omega)]; omega
    generalize hes6 : es5.set i (.g [dI q, dI (q + 1), dI (q + 1 + 1), .s (dL (cnt (q + 1 + 1 + 1) x.f.c.length)), .s (dL (cnt (q + 1 + 1 + 1 + x.f.c.length) x.f.d.length)), dI (q + 1 + 1 + 1 + x.f.c.length + x.f.d.length)]) = es6
    refine WR.nextA (vs := [.l es6, .i (q + wtL x), .i ((i + 1 : Nat) : Int)]) ?_ ⟨h, es6, ?_, ?_, ?_⟩
    · rw [← hes6, ← hes5, ← hes4, hes3', ← wS h (by omega), ← e6]; rfl
    · rw [hw2, ← hk]; simp only [List.cons.injEq, V.i.injEq, and_true, true_and]; push_cast; omega
    · rw [← hes6, List.length_set, hl5, he]
    · rw [← hes6, ← hes5, ← hes4, hes3']
      simp only [List.set_set]
      exact drop_set hd _
  · refine ⟨es, ?_, he⟩
    show [dI (k + wtA (a.take i)), D.s es] = _
    rw [take_all h]
theorem ev_markActLineSS (as : List (List Line)) (ha : fitActs as) (k : Int) (h0 : 0 ≤ k) (h1 : k + wtAs as ≤ 1000000000000) : ∃ ds, Ev L f_k44 [.s (dActs as), dI k] ds ∧ ∃ es, ds = [dI (k + wtAs as), .s es] ∧ es.length = as.length := by
  refine Ev.of (vs := [.l (dActs as), .i k]) L_k44 rfl ?_
  have hlen := dActs_len as
  have hl := ha.1
  refine WR.forS as.length (fun i vs => ∃ es, vs = [.l es, .i (k + wtAs (as.take i)), .i i] ∧ es.length = as.length ∧ es.drop i = (dActs as).drop i) rfl ?_ ?_
  · exact ⟨dActs as, by show [V.l (dActs as), V.i k, V.i 0] = _; simp [wtAs], hlen, rfl⟩
  rintro i _ hi ⟨es, rfl, he, hd⟩
  simp only [sCA, sNA]
  have hw := wtAs_take as i
  refine WR.iteLen i (ds := es) he rfl (fun h => ?_) (fun h => WR.esc (WR.done ?_))
  · obtain ⟨x, hx, hm⟩ := some_at h
    have hx0 := drop_at hd (map_at (f := fun a => D.s (dAct a)) hx)
    have hxf := ha.2 x hm
    have hw2 := wtAs_succ hx
    have hw3 := wtAs_take as (i + 1)
    refine WR.atN (vs := [.l (dAct x)]) (ds := es) i hx0 rfl rfl rfl rfl rfl rfl ?_
    simp only [sCA, sNA]
    obtain ⟨ds, hev, es', rfl, hle⟩ := ev_markActLineS x hxf (k + wtAs (as.take i)) (by omega) (by omega)
    refine WR.ev (vs := [.i (k + wtAs (as.take i) + wtA x), .l es']) hev rfl rfl rfl ?_
    simp only [sCA, sNA]
    refine WR.chk ?_ ?_
    · show decide ((es'.length : Int) = ((dAct x).length : Int)) = true
      rw [dAct_len, hle]; simp
    refine WR.nextA (vs := [.l (es.set i (.s es')), .i (k + wtAs (as.take i) + wtA x), .i ((i + 1 : Nat) : Int)]) ?_ ⟨h, es.set i (.s es'), ?_, ?_, ?_⟩
    · rw [← wS h (by omega)]; rfl
    · rw [hw2]; simp only [List.cons.injEq, V.i.injEq, and_true, true_and]; push_cast; omega
    · rw [List.length_set, he]
    · exact drop_set hd _
  · refine ⟨es, ?_, he⟩
    show [dI (k + wtAs (as.take i)), D.s es] = _
    rw [take_all h]
end Go.Proofs.YtdibnlhlngodeaaGreatDoor

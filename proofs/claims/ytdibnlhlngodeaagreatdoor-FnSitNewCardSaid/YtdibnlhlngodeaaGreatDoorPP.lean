import Derived.Test.YtdibnlhlngodeaaGreatDoorPO
import Derived.Test.YtdibnlhlngodeaaGreatDoorPF
set_option linter.unusedVariables false
set_option linter.unusedSimpArgs false
/- What draws of any acts come to, and the comparisons of rows. -/
namespace Go.Proofs.YtdibnlhlngodeaaGreatDoor
open Go Go.Tm
theorem WRconst {r : R} {l : List V} {Q : Oc → Prop} {n : Nat} {b1 b2 e i : E} (cs : List Int) (v : Int) (h0 : 0 ≤ v) (h1 : v < cs.length) (hb1 : bol (envL l) b1 = decide (0 ≤ v)) (hb2 : bol (envL l) b2 = decide (v < (cs.length : Int)))
    (hn : n = l.length) (he : lst (envL l) e = dL cs) (hi : int (envL l) i = v) (h : ∀ x, WR L r (l ++ [.i x]) Q) : WR L (.i (.chk b1) (.i (.chk b2) (.i (.idx e i (.one (.i .i64)) n) r))) l Q :=
  WR.chkP (0 ≤ v) hb1 h0 (WR.chkP (v < (cs.length : Int)) hb2 h1 (WR.idxA (ds := dL cs) v hn he hi h0 (dL_get h0 h1) rfl (h _)))
theorem WRown {r : R} {l : List V} {Q : Oc → Prop} {n : Nat} {b1 b2 e i : E} (cs : List Int) (v : Int) (h0 : 0 ≤ v) (h1 : v < cs.length) (hb1 : bol (envL l) b1 = decide (0 ≤ v)) (hb2 : bol (envL l) b2 = decide (v < ((dL cs).length : Int)))
    (hn : n = l.length) (he : lst (envL l) e = dL cs) (hi : int (envL l) i = v) (h : ∀ x, WR L r (l ++ [.i x]) Q) : WR L (.i (.chk b1) (.i (.chk b2) (.i (.idx e i (.one (.i .i64)) n) r))) l Q :=
  WR.chkP (0 ≤ v) hb1 h0 (WR.chkP (v < ((dL cs).length : Int)) hb2 (by rw [dL_len]; exact h1) (WR.idxA (ds := dL cs) v hn he hi h0 (dL_get h0 h1) rfl (h _)))
def slimF (f : Frm) : Prop := f.c.length ≤ 3 ∧ f.d.length ≤ 3
theorem ev_l20Form {bs : List Int} {p n : Int} (hr : Rdr bs p) (hf : p ≤ 999999990000) (n1 : 1 ≤ n) (n2 : n ≤ 2000000) :
    ∃ (f : Frm) (q : Int), Ev L f_kf [.s (bytesD bs), dI p, dI n] (f.cells ++ [.s (bytesD bs), dI q]) ∧ p ≤ q ∧ q ≤ p + 30 ∧ slimF f := by
  have key : ∃ ds, Ev L f_kf [.s (bytesD bs), dI p, dI n] ds ∧ ∃ (f : Frm) (q : Int), ds = f.cells ++ [.s (bytesD bs), dI q] ∧ p ≤ q ∧ q ≤ p + 30 ∧ slimF f := by
    refine Ev.of (vs := [.l (bytesD bs), .i p, .i n]) L_kf rfl ?_
    obtain ⟨f, q, e, q1, q2, f1, f2⟩ := ev_l20Small hr (by omega)
    obtain ⟨c, d, k⟩ := f
    have f1 : c.length = 3 := f1
    have f2 : d.length = 2 := f2
    refine WR.ev e rfl rfl rfl ?_
    have go : ∀ j : Int, 0 ≤ j → j ≤ 10 → Rdr bs (q + j) := fun j h0 h1 => hr.go (by omega) (by omega)
    have fin : ∀ (c' d' : List Int) (k' o : Int), c'.length ≤ 3 → d'.length ≤ 3 → q ≤ o → o ≤ q + 20 → ∃ (f : Frm) (q' : Int), [D.s (dL c'), D.s (dL d'), dI k', .s (bytesD bs), dI o] = f.cells ++ [.s (bytesD bs), dI q'] ∧ p ≤ q' ∧ q' ≤ p + 30 ∧ slimF f :=
      fun c' d' k' o h1 h2 h3 h4 => ⟨⟨c', d', k'⟩, o, rfl, by omega, by omega, h1, h2⟩
    have hr0 : Rdr bs q := hr.go (by omega) (by omega)
    have hr1 : Rdr bs (q + 1) := go 1 (by omega) (by omega)
    have hr2 : Rdr bs (q + 1 + 1) := hr.go (by omega) (by omega)
    have hr3 : Rdr bs (q + 1 + 1 + 1) := hr.go (by omega) (by omega)
    have hr4 : Rdr bs (q + 1 + 1 + 1 + 1) := hr.go (by omega) (by omega)
    have hr5 : Rdr bs (q + 1 + 1 + 1 + 1 + 1) := hr.go (by omega) (by omega)
    have hr6 : Rdr bs (q + 1 + 1 + 1 + 1 + 1 + 1) := hr.go (by omega) (by omega)
    refine WRpick 4 hr0 (by omega) (by omega) rfl rfl fun u hu0 hu1 => ?_
    simp only [sCA, sNA]
    refine WR.iteP (u = 0) rfl (fun h => ?_) (fun h => ?_)
    · refine WRpick 3 hr1 (by omega) (by omega) rfl rfl fun a ha0 ha1 => ?_
      refine WRpick 4 hr2 (by omega) (by omega) rfl rfl fun b hb0 hb1 => ?_
      simp only [sCA, sNA]
      refine WRconst [10000000, -10000000, 1000, 77] b hb0 hb1 rfl rfl rfl rfl rfl fun x => ?_
      refine WRown c a ha0 (by omega) rfl rfl rfl rfl rfl fun _ => ?_
      simp only [sCA, sNA]
      refine WRpick n hr3 n1 n2 rfl rfl fun w hw0 hw1 => ?_
      simp only [sCA, sNA]
      have hs : (c.set a.toNat x).length = 3 := by simp [f1]
      refine WR.iteP (0 < w) rfl (fun hw => WR.done ?_) (fun hw => ?_)
      · show ∃ (f : Frm) (q' : Int), [D.s ((dL c).set a.toNat (dI x)), D.s (dL d), dI k, .s (bytesD bs), dI (q + 1 + 1 + 1 + 1)] = _ ∧ _
        rw [dL_set]; exact fin _ _ _ _ (by omega) (by omega) (by omega) (by omega)
      refine WRpick 4 hr4 (by omega) (by omega) rfl rfl fun y hy0 hy1 => ?_
      simp only [sCA, sNA]
      refine WR.iteP (y = 0) rfl (fun hy => ?_) (fun hy => ?_)
      · refine WR.chkP (2 ≤ (((dL c).set a.toNat (dI x)).length : Int)) rfl (by rw [dL_set, dL_len, hs]; omega) ?_
        refine WR.done ?_
        show ∃ (f : Frm) (q' : Int), [D.s (((dL c).set a.toNat (dI x)).take 2), D.s (dL d), dI k, .s (bytesD bs), dI (q + 1 + 1 + 1 + 1 + 1)] = _ ∧ _
        rw [dL_set, dL_take]; exact fin _ _ _ _ (by simp; omega) (by omega) (by omega) (by omega)
      refine WR.iteP (y = 1) rfl (fun hy => ?_) (fun hy => ?_)
      · refine WR.chkApp (dL d) 10 (by rw [dL_len]; omega) (by omega) rfl ?_
        refine WR.done ?_
        show ∃ (f : Frm) (q' : Int), [D.s ((dL c).set a.toNat (dI x)), D.s (dL d ++ [dI 0]), dI k, .s (bytesD bs), dI (q + 1 + 1 + 1 + 1 + 1)] = _ ∧ _
        rw [dL_set, dL_snoc]; exact fin _ _ _ _ (by omega) (by simp; omega) (by omega) (by omega)
      refine WR.iteP (y = 2) rfl (fun hy => ?_) (fun hy => ?_)
      · refine WRpick 3 hr5 (by omega) (by omega) rfl rfl fun z hz0 hz1 => ?_
        simp only [sCA, sNA]
        refine WRconst [10000001, -10000001, 10000000] z hz0 hz1 rfl rfl rfl rfl rfl fun x2 => WR.done ?_
        show ∃ (f : Frm) (q' : Int), [D.s ((dL c).set a.toNat (dI x)), D.s (dL d), dI x2, .s (bytesD bs), dI (q + 1 + 1 + 1 + 1 + 1 + 1)] = _ ∧ _
        rw [dL_set]; exact fin _ _ _ _ (by omega) (by omega) (by omega) (by omega)
      · refine WRpick 3 hr5 (by omega) (by omega) rfl rfl fun z hz0 hz1 => ?_
        refine WRpick 2 hr6 (by omega) (by omega) rfl rfl fun z2 hz20 hz21 => ?_
        simp only [sCA, sNA]
        refine WRconst [10000001, -10000001] z2 hz20 hz21 rfl rfl rfl rfl rfl fun x2 => ?_
        refine WR.chkP (0 ≤ z) rfl hz0 ?_
        refine WR.chkP (z < ((dL c).length : Int)) rfl (by rw [dL_len]; omega) ?_
        refine WR.idxA (ds := dL (c.set a.toNat x)) z rfl (by show (dL c).set a.toNat (dI x) = _; rw [dL_set]) rfl hz0 (dL_get hz0 (by omega)) rfl ?_
        refine WR.done ?_
        show ∃ (f : Frm) (q' : Int), [D.s (((dL c).set a.toNat (dI x)).set z.toNat (dI x2)), D.s (dL d), dI k, .s (bytesD bs), dI (q + 1 + 1 + 1 + 1 + 1 + 1 + 1)] = _ ∧ _
        rw [dL_set, dL_set]; exact fin _ _ _ _ (by simp; omega) (by omega) (by omega) (by omega)
    · refine WRpick n hr1 n1 n2 rfl rfl fun w hw0 hw1 => ?_
      simp only [sCA, sNA]
      refine WR.iteP (0 < w) rfl (fun hw => WR.done ?_) (fun hw => ?_)
      · exact fin c d k (q + 1 + 1) (by omega) (by omega) (by omega) (by omega)
      refine WRpick 4 hr2 (by omega) (by omega) rfl rfl fun y hy0 hy1 => ?_
      simp only [sCA, sNA]
      refine WR.iteP (y = 0) rfl (fun hy => ?_) (fun hy => ?_)
      · refine WR.chkP (2 ≤ ((dL c).length : Int)) rfl (by rw [dL_len, f1]; omega) ?_
        refine WR.done ?_
        show ∃ (f : Frm) (q' : Int), [D.s ((dL c).take 2), D.s (dL d), dI k, .s (bytesD bs), dI (q + 1 + 1 + 1)] = _ ∧ _
        rw [dL_take]; exact fin _ _ _ _ (by simp; omega) (by omega) (by omega) (by omega)
      refine WR.iteP (y = 1) rfl (fun hy => ?_) (fun hy => ?_)
      · refine WR.chkApp (dL d) 10 (by rw [dL_len]; omega) (by omega) rfl ?_
        refine WR.done ?_
        show ∃ (f : Frm) (q' : Int), [D.s (dL c), D.s (dL d ++ [dI 0]), dI k, .s (bytesD bs), dI (q + 1 + 1 + 1)] = _ ∧ _
        rw [dL_snoc]; exact fin _ _ _ _ (by omega) (by simp; omega) (by omega) (by omega)
      refine WR.iteP (y = 2) rfl (fun hy => ?_) (fun hy => ?_)
      · refine WRpick 3 hr3 (by omega) (by omega) rfl rfl fun z hz0 hz1 => ?_
        simp only [sCA, sNA]
        refine WRconst [10000001, -10000001, 10000000] z hz0 hz1 rfl rfl rfl rfl rfl fun x2 => WR.done ?_
        exact fin c d x2 (q + 1 + 1 + 1 + 1) (by omega) (by omega) (by omega) (by omega)
      · refine WRpick 3 hr3 (by omega) (by omega) rfl rfl fun z hz0 hz1 => ?_
        refine WRpick 2 hr4 (by omega) (by omega) rfl rfl fun z2 hz20 hz21 => ?_
        simp only [sCA, sNA]
        refine WRconst [10000001, -10000001] z2 hz20 hz21 rfl rfl rfl rfl rfl fun x2 => ?_
        refine WRown c z hz0 (by omega) rfl rfl rfl rfl rfl fun _ => WR.done ?_
        show ∃ (f : Frm) (q' : Int), [D.s ((dL c).set z.toNat (dI x2)), D.s (dL d), dI k, .s (bytesD bs), dI (q + 1 + 1 + 1 + 1 + 1)] = _ ∧ _
        rw [dL_set]; exact fin _ _ _ _ (by simp; omega) (by omega) (by omega) (by omega)
  obtain ⟨ds, e1, f, q, rfl, e2⟩ := key
  exact ⟨f, q, e1, e2⟩
def thinA (a : List Line) : Prop := a.length ≤ 7 ∧ ∀ l ∈ a, slimF l.f
theorem thinA.fit {a : List Line} (h : thinA a) : fitAct a := ⟨by have := h.1; omega, fun l hl => ⟨by have := (h.2 l hl).1; omega, by have := (h.2 l hl).2; omega⟩⟩
theorem slimA.thin {a : List Line} (h : slimA a) : thinA a := ⟨by have := h.1; omega, fun l hl => ⟨(h.2.1 l hl).1, by have := (h.2.1 l hl).2; omega⟩⟩
theorem thinA.set {a : List Line} (h : thinA a) {x : Line} (hx : slimF x.f) (k : Nat) : thinA (a.set k x) := by
  refine ⟨by simp; exact h.1, fun l hl => ?_⟩
  rcases List.mem_or_eq_of_mem_set hl with hl | hl
  · exact h.2 l hl
  · subst hl; exact hx
theorem dAct_set (a : List Line) (k : Nat) (x : Line) : (dAct a).set k x.g = dAct (a.set k x) := by simp [dAct, List.map_set]
theorem WRline {r : R} {l : List V} {Q : Oc → Prop} {n : Nat} {b1 b2 e i : E} (a : List Line) (v : Int) (h0 : 0 ≤ v) (h1 : v < a.length) (ha : thinA a) (hb1 : bol (envL l) b1 = decide (0 ≤ v)) (hb2 : bol (envL l) b2 = decide (v < ((dAct a).length : Int)))
    (hn : n = l.length) (he : lst (envL l) e = dAct a) (hi : int (envL l) i = v) (h : ∀ x : Line, slimF x.f → WR L r (l ++ [.i x.kind, .i x.pot, .i x.skip, .l (dL x.f.c), .l (dL x.f.d), .i x.f.k]) Q) :
    WR L (.i (.chk b1) (.i (.chk b2) (.i (.idx e i (.g [.i .i64, .i .i64, .i .i64, .s, .s, .i .i64]) n) r))) l Q := by
  obtain ⟨x, hx, hd⟩ := dAct_get h0 h1
  exact WR.chkP (0 ≤ v) hb1 h0 (WR.chkP (v < ((dAct a).length : Int)) hb2 (by rw [dAct_len]; exact h1) (WR.idxA (ds := dAct a) v hn he hi h0 hd rfl (h x (ha.2 x (List.mem_of_getElem? hx)))))
theorem ev_l20AnyAct {bs : List Int} {p n : Int} (hr : Rdr bs p) (hf : p ≤ 999999960000) (n1 : 1 ≤ n) (n2 : n ≤ 2000000) :
    ∃ (a : List Line) (q : Int), Ev L f_kg [.s (bytesD bs), dI p, dI n] [.s (dAct a), .s (bytesD bs), dI q] ∧ p ≤ q ∧ q ≤ p + 300 ∧ thinA a := by
  have key : ∃ ds, Ev L f_kg [.s (bytesD bs), dI p, dI n] ds ∧ ∃ (a : List Line) (q : Int), ds = [.s (dAct a), .s (bytesD bs), dI q] ∧ p ≤ q ∧ q ≤ p + 300 ∧ thinA a := by
    refine Ev.of (vs := [.l (bytesD bs), .i p, .i n]) L_kg rfl ?_
    obtain ⟨a, q, e, q1, q2, hsl⟩ := ev_l20Act hr (by omega)
    refine WR.ev e rfl rfl rfl ?_
    simp only [sCA, sNA]
    have ha := hsl.thin
    have ha5 := hsl.1
    have fin : ∀ (a' : List Line) (o : Int), thinA a' → q ≤ o → o ≤ q + 100 → ∃ (a : List Line) (q' : Int), [D.s (dAct a'), .s (bytesD bs), dI o] = [.s (dAct a), .s (bytesD bs), dI q'] ∧ p ≤ q' ∧ q' ≤ p + 300 ∧ thinA a :=
      fun a' o h1 h2 h3 => ⟨a', o, rfl, by omega, by omega, h1⟩
    have hr0 : Rdr bs q := hr.go (by omega) (by omega)
    have hr1 : Rdr bs (q + 1) := hr.go (by omega) (by omega)
    have hr2 : Rdr bs (q + 1 + 1) := hr.go (by omega) (by omega)
    have hr3 : Rdr bs (q + 1 + 1 + 1) := hr.go (by omega) (by omega)
    refine WR.iteP ((a.length : Int) = 0) (by show decide (((dAct a).length : Int) = 0) = _; rw [dAct_len]) (fun h => WR.done (fin a q ha (by omega) (by omega))) (fun h => ?_)
    refine WRpick n hr0 n1 n2 rfl rfl fun u hu0 hu1 => ?_
    simp only [sCA, sNA]
    refine WR.iteP (0 < u) rfl (fun hu => WR.done (fin a (q + 1) ha (by omega) (by omega))) (fun hu => ?_)
    refine WRpick a.length hr1 (by omega) (by omega) rfl (by show [D.s (bytesD bs), dI (q + 1), dI ((dAct a).length : Int)] = _; rw [dAct_len]) fun k hk0 hk1 => ?_
    refine WRpick 6 hr2 (by omega) (by omega) rfl rfl fun w hw0 hw1 => ?_
    simp only [sCA, sNA]
    refine WR.iteP (w = 0) rfl (fun hw => ?_) (fun hw => ?_)
    · refine WRpick 4 hr3 (by omega) (by omega) rfl rfl fun z hz0 hz1 => ?_
      simp only [sCA, sNA]
      refine WRconst [0, 5, 4, 1] z hz0 hz1 rfl rfl rfl rfl rfl fun y => ?_
      refine WRline a k hk0 hk1 ha rfl rfl rfl rfl rfl fun x hx => WR.done ?_
      show ∃ (a2 : List Line) (q' : Int), [D.s ((dAct a).set k.toNat (Line.g ⟨y, x.pot, x.skip, x.f⟩)), .s (bytesD bs), dI (q + 1 + 1 + 1 + 1)] = _ ∧ _
      rw [dAct_set]; exact fin _ _ (ha.set (by exact hx) _) (by omega) (by omega)
    refine WR.iteP (w = 1) rfl (fun hw => ?_) (fun hw => ?_)
    · refine WRpick 3 hr3 (by omega) (by omega) rfl rfl fun z hz0 hz1 => ?_
      simp only [sCA, sNA]
      refine WRconst [-1, 3, 2] z hz0 hz1 rfl rfl rfl rfl rfl fun y => ?_
      refine WRline a k hk0 hk1 ha rfl rfl rfl rfl rfl fun x hx => WR.done ?_
      show ∃ (a2 : List Line) (q' : Int), [D.s ((dAct a).set k.toNat (Line.g ⟨x.kind, y, x.skip, x.f⟩)), .s (bytesD bs), dI (q + 1 + 1 + 1 + 1)] = _ ∧ _
      rw [dAct_set]; exact fin _ _ (ha.set (by exact hx) _) (by omega) (by omega)
    refine WR.iteP (w = 2) rfl (fun hw => ?_) (fun hw => ?_)
    · refine WRpick 4 hr3 (by omega) (by omega) rfl rfl fun z hz0 hz1 => ?_
      simp only [sCA, sNA]
      refine WRconst [0, -1, 7, 6] z hz0 hz1 rfl rfl rfl rfl rfl fun y => ?_
      refine WRline a k hk0 hk1 ha rfl rfl rfl rfl rfl fun x hx => WR.done ?_
      show ∃ (a2 : List Line) (q' : Int), [D.s ((dAct a).set k.toNat (Line.g ⟨x.kind, x.pot, y, x.f⟩)), .s (bytesD bs), dI (q + 1 + 1 + 1 + 1)] = _ ∧ _
      rw [dAct_set]; exact fin _ _ (ha.set (by exact hx) _) (by omega) (by omega)
    refine WR.iteP (w = 3) rfl (fun hw => ?_) (fun hw => ?_)
    · obtain ⟨f, o, ef, o1, o2, hsf⟩ := ev_l20Form hr3 (by omega) (n := 2) (by omega) (by omega)
      refine WR.ev ef rfl rfl rfl ?_
      simp only [sCA, sNA]
      refine WRline a k hk0 hk1 ha rfl rfl rfl rfl rfl fun x hx => WR.done ?_
      show ∃ (a2 : List Line) (q' : Int), [D.s ((dAct a).set k.toNat (Line.g ⟨x.kind, x.pot, x.skip, f⟩)), .s (bytesD bs), dI o] = _ ∧ _
      rw [dAct_set]; exact fin _ _ (ha.set (by exact hsf) _) (by omega) (by omega)
    refine WR.iteP (w = 4) rfl (fun hw => ?_) (fun hw => ?_)
    · refine WR.loop (fun m vs => ∃ a' : List Line, vs = [.l (dAct a')] ∧ thinA a' ∧ a.length ≤ a'.length ∧ m = 7 - a'.length) rfl (7 - a.length) ⟨a, rfl, ha, by omega, rfl⟩ ?_
      rintro m _ ⟨a', rfl, ha', hal, hm⟩
      simp only [sCA, sNA]
      refine WR.iteP ((a'.length : Int) ≤ 6) (by show decide (((dAct a').length : Int) ≤ 6) = _; rw [dAct_len]) (fun h6 => ?_) (fun h6 => ?_)
      · refine WRline a' k hk0 (by omega) ha' rfl rfl rfl rfl rfl fun x hx => ?_
        refine WR.chkApp (dAct a') 100 (by rw [dAct_len]; omega) (by omega) rfl ?_
        refine WR.nextA (vs := [.l (dAct (a' ++ [x]))]) ?_ ⟨7 - (a' ++ [x]).length, by simp; omega, a' ++ [x], rfl, ⟨by simp; omega, ?_⟩, by simp; omega, rfl⟩
        · show [V.l (dAct a' ++ [x.g])] = _
          rw [dAct_snoc]
        · intro l hl
          rcases List.mem_append.1 hl with hl | hl
          · exact ha'.2 l hl
          · simp at hl; subst hl; exact hx
      · exact WR.esc (WR.done (fin a' (q + 1 + 1 + 1) ha' (by omega) (by omega)))
    · obtain ⟨f, o, ef, o1, o2, g1, g2⟩ := ev_l20Small hr3 (by omega)
      refine WR.ev ef rfl rfl rfl ?_
      obtain ⟨f', o', ef', o1', o2', g1', g2'⟩ := ev_l20Small (hr.go (q := o) (by omega) (by omega)) (by omega)
      refine WR.ev ef' rfl rfl rfl ?_
      simp only [sCA, sNA]
      refine WR.chkN (dAct a ++ [Line.g ⟨1, 0, 1, f⟩, Line.g ⟨1, 0, 1, f'⟩]) 100 (by rw [List.length_append, dAct_len]; simp; omega) (by omega) rfl ?_
      refine WR.done ?_
      show ∃ (a2 : List Line) (q' : Int), [D.s (dAct a ++ [Line.g ⟨1, 0, 1, f⟩, Line.g ⟨1, 0, 1, f'⟩]), .s (bytesD bs), dI o'] = _ ∧ _
      have : dAct a ++ [Line.g ⟨1, 0, 1, f⟩, Line.g ⟨1, 0, 1, f'⟩] = dAct (a ++ [⟨1, 0, 1, f⟩, ⟨1, 0, 1, f'⟩]) := by simp [dAct]
      rw [this]
      refine fin _ _ ⟨by simp; omega, ?_⟩ (by omega) (by omega)
      intro l hl
      rcases List.mem_append.1 hl with hl | hl
      · exact ha.2 l hl
      · simp at hl
        rcases hl with rfl | rfl
        · exact ⟨by simp [g1], by simp [g2]⟩
        · exact ⟨by simp [g1'], by simp [g2']⟩
  obtain ⟨ds, e1, f, q, rfl, e2⟩ := key
  exact ⟨f, q, e1, e2⟩
end Go.Proofs.YtdibnlhlngodeaaGreatDoor

import Derived.Test.YtgiejmanbmeloaaGreatDoorTd
import Derived.Test.YtgiejmanbmeloaaGreatDoorPZ
import Derived.Test.YtgiejmanbmeloaaGreatDoorPN
set_option linter.unusedVariables false
set_option linter.unusedSimpArgs false
/- Copies,comparisons,marks and sizes of acts: over residual programs. -/
namespace Go.Proofs.YtgiejmanbmeloaaGreatDoor
open Go Go.Tm
theorem ev_toIntS (l : List Int) (hl : l.length ≤ 2000000) : Ev L f_ke [.s (dL l)] [.s (dL l)] := by
  refine Ev.eq (vs := [.l (dL l)]) L_ke rfl ?_
  have hlen := dL1 l
  refine WR.chk (by show decide ((0 : Int) ≤ ((dL l).length : Int)) = true; simp) ?_
  refine WR.chkN (dL l) 2000000 (by omega) (by omega) rfl ?_
  refine WR.forP (dL l).length (fun i => [.l ((dL l).take i ++ List.replicate ((dL l).length - i) (dI 0)),.i i]) (fun _ => True) rfl ?_ trivial fun i hi _ => ?_
  · show [V.l (List.replicate ((dL l).length : Int).toNat (dI 0)),V.i 0] = _
    simp
  simp only [sC,sN]
  refine WR.iteLen i (ds := dL l) rfl rfl (fun h => ?_) (fun h => WR.esc (WR.done ?_))
  · obtain ⟨x,hx,_⟩ := sA1 (show i < l.length by omega)
    refine WR.idxN i (mA1 (f := dI) hx) rfl rfl rfl rfl ?_
    refine WR.atN (ds := (dL l).take i ++ List.replicate ((dL l).length - i) (dI 0)) i (fill_at h) rfl rfl rfl rfl rfl rfl ?_
    refine WR.nextA (vs := [.l ((dL l).take (i + 1) ++ List.replicate ((dL l).length - (i + 1)) (dI 0)),.i ((i + 1 : Nat) : Int)]) ?_ ⟨h,rfl,trivial⟩
    show [V.l (((dL l).take i ++ List.replicate ((dL l).length - i) (dI 0)).set (i : Int).toNat (dI x)),V.i (IntKind.i64.wrap ((i : Int) + 1))] = _
    rw [wS h (by omega),Int.toNat_natCast,fill_set (es := dL l) (mA1 (f := dI) hx)]
  · show [D.s ((dL l).take i ++ List.replicate ((dL l).length - i) (dI 0))] = _
    rw [fill_end h]
theorem ev_toFrmForm (f : Frm) (hf : Frm.fit f) : Ev L f_kf f.cells f.cells := by
  refine Ev.eq (vs := [.l (dL f.c),.l (dL f.d),.i f.k]) L_kf rfl ?_
  refine WR.ev (ev_toIntS f.c hf.1) rfl rfl rfl ?_
  refine WR.ev (ev_toIntS f.d hf.2) rfl rfl rfl ?_
  exact WR.done rfl
theorem ev_toActLine (l : Line) (hf : Frm.fit l.f) : Ev L f_kg l.cells l.cells := by
  refine Ev.eq (vs := [.i l.kind,.i l.pot,.i l.skip,.l (dL l.f.c),.l (dL l.f.d),.i l.f.k]) L_kg rfl ?_
  refine WR.ev (ev_toFrmForm l.f hf) rfl rfl rfl ?_
  exact WR.done rfl
theorem ev_toActLineS (a : List Line) (ha : fitAct a) : Ev L f_kh [.s (dAct a)] [.s (dAct a)] := by
  refine Ev.eq (vs := [.l (dAct a)]) L_kh rfl ?_
  have hlen := dAct_len a
  have hl := ha.1
  refine WR.chk (by show decide ((0 : Int) ≤ ((dAct a).length : Int)) = true; simp) ?_
  refine WR.chkN (dAct a) 2000000 (by omega) (by omega) rfl ?_
  refine WR.forP (dAct a).length (fun i => [.l ((dAct a).take i ++ List.replicate ((dAct a).length - i) (Line.g ⟨0,0,0,Frm.none⟩)),.i i]) (fun _ => True) rfl ?_ trivial fun i hi _ => ?_
  · show [V.l (List.replicate ((dAct a).length : Int).toNat (Line.g ⟨0,0,0,Frm.none⟩)),V.i 0] = _
    simp
  simp only [sC,sN]
  refine WR.iteLen i (ds := dAct a) rfl rfl (fun h => ?_) (fun h => WR.esc (WR.done ?_))
  · obtain ⟨x,hx,hm⟩ := sA1 (show i < a.length by omega)
    refine WR.idxN (vs := [.i x.kind,.i x.pot,.i x.skip,.l (dL x.f.c),.l (dL x.f.d),.i x.f.k]) i (mA1 (f := Line.g) hx) rfl rfl rfl rfl ?_
    simp only [sC,sN]
    refine WR.ev (vs := [.i x.kind,.i x.pot,.i x.skip,.l (dL x.f.c),.l (dL x.f.d),.i x.f.k]) (ev_toActLine x (ha.2 x hm)) rfl rfl rfl ?_
    simp only [sC,sN]
    refine WR.atN (vs := [.i 0,.i 0,.i 0,.l [],.l [],.i 0]) (ds := (dAct a).take i ++ List.replicate ((dAct a).length - i) (Line.g ⟨0,0,0,Frm.none⟩)) i (fill_at h) rfl rfl rfl rfl rfl rfl ?_
    refine WR.nextA (vs := [.l ((dAct a).take (i + 1) ++ List.replicate ((dAct a).length - (i + 1)) (Line.g ⟨0,0,0,Frm.none⟩)),.i ((i + 1 : Nat) : Int)]) ?_ ⟨h,rfl,trivial⟩
    show [V.l (((dAct a).take i ++ List.replicate ((dAct a).length - i) (Line.g ⟨0,0,0,Frm.none⟩)).set (i : Int).toNat (Line.g x)),V.i (IntKind.i64.wrap ((i : Int) + 1))] = _
    rw [wS h (by omega),Int.toNat_natCast,fill_set (es := dAct a) (mA1 (f := Line.g) hx)]
  · show [D.s ((dAct a).take i ++ List.replicate ((dAct a).length - i) (Line.g ⟨0,0,0,Frm.none⟩))] = _
    rw [fill_end h]
theorem ev_toActLineSS (as : List (List Line)) (ha : fitActs as) : Ev L f_ki [.s (dActs as)] [.s (dActs as)] := by
  refine Ev.eq (vs := [.l (dActs as)]) L_ki rfl ?_
  have hlen := dActs_len as
  have hl := ha.1
  refine WR.chk (by show decide ((0 : Int) ≤ ((dActs as).length : Int)) = true; simp) ?_
  refine WR.chkN (dActs as) 2000000 (by omega) (by omega) rfl ?_
  refine WR.forP (dActs as).length (fun i => [.l ((dActs as).take i ++ List.replicate ((dActs as).length - i) (D.s [])),.i i]) (fun _ => True) rfl ?_ trivial fun i hi _ => ?_
  · show [V.l (List.replicate ((dActs as).length : Int).toNat (D.s [])),V.i 0] = _
    simp
  simp only [sC,sN]
  refine WR.iteLen i (ds := dActs as) rfl rfl (fun h => ?_) (fun h => WR.esc (WR.done ?_))
  · obtain ⟨x,hx,hm⟩ := sA1 (show i < as.length by omega)
    refine WR.idxN i (mA1 (f := fun a => D.s (dAct a)) hx) rfl rfl rfl rfl ?_
    refine WR.ev (ev_toActLineS x (ha.2 x hm)) rfl rfl rfl ?_
    simp only [sC,sN]
    refine WR.atN (ds := (dActs as).take i ++ List.replicate ((dActs as).length - i) (D.s [])) i (fill_at h) rfl rfl rfl rfl rfl rfl ?_
    refine WR.nextA (vs := [.l ((dActs as).take (i + 1) ++ List.replicate ((dActs as).length - (i + 1)) (D.s [])),.i ((i + 1 : Nat) : Int)]) ?_ ⟨h,rfl,trivial⟩
    show [V.l (((dActs as).take i ++ List.replicate ((dActs as).length - i) (D.s [])).set (i : Int).toNat (.s (dAct x))),V.i (IntKind.i64.wrap ((i : Int) + 1))] = _
    rw [wS h (by omega),Int.toNat_natCast,fill_set (es := dActs as) (mA1 (f := fun a => D.s (dAct a)) hx)]
  · show [D.s ((dActs as).take i ++ List.replicate ((dActs as).length - i) (D.s []))] = _
    rw [fill_end h]
theorem ev_eqIntS (a b : List Int) (hl : a.length ≤ 2000000) : Ev L f_k4g [.s (dL a),.s (dL b)] [dB (decide (a = b))] :=
  ev_same dI .i a b L_k4g rfl (fun _ => rfl) (fun _ _ _ _ _ => rfl) hl
theorem ev_eqFrmForm (f g : Frm) (hf : Frm.fit f) : Ev L f_k4n (f.cells ++ g.cells) [dB (decide (f = g))] := by
  refine Ev.eq (vs := [.l (dL f.c),.l (dL f.d),.i f.k,.l (dL g.c),.l (dL g.d),.i g.k]) L_k4n rfl ?_
  have e : decide (f = g) = (decide (f.c = g.c) && (decide (f.d = g.d) && decide (f.k = g.k))) := by
    obtain ⟨a,b,c⟩ := f
    obtain ⟨a',b',c'⟩ := g
    simp only [Frm.mk.injEq]
    by_cases h1 : a = a' <;> by_cases h2 : b = b' <;> by_cases h3 : c = c' <;> simp [h1,h2,h3]
  rw [e]
  refine WR.ev (ev_eqIntS f.c g.c hf.1) rfl rfl rfl ?_
  refine WR.iteN (decide (f.c = g.c)) rfl (fun h => WR.done ?_) (fun h => ?_)
  · show [dB false] = _
    rw [h]; rfl
  refine WR.ev (ev_eqIntS f.d g.d hf.2) rfl rfl rfl ?_
  refine WR.iteN (decide (f.d = g.d)) rfl (fun h2 => WR.done ?_) (fun h2 => ?_)
  · show [dB false] = _
    rw [h,h2]; rfl
  refine WR.iteN (decide (f.k = g.k)) rfl (fun h3 => WR.done ?_) (fun h3 => WR.done ?_)
  · show [dB false] = _
    rw [h,h2,h3]; rfl
  · show [dB true] = _
    rw [h,h2,h3]; rfl
theorem ev_eqActLine (a b : Line) (hf : Frm.fit a.f) : Ev L f_k4o (a.cells ++ b.cells) [dB (decide (a = b))] := by
  refine Ev.eq (vs := [.i a.kind,.i a.pot,.i a.skip,.l (dL a.f.c),.l (dL a.f.d),.i a.f.k,.i b.kind,.i b.pot,.i b.skip,.l (dL b.f.c),.l (dL b.f.d),.i b.f.k]) L_k4o rfl ?_
  have e : decide (a = b) = (decide (a.kind = b.kind) && (decide (a.pot = b.pot) && (decide (a.skip = b.skip) && decide (a.f = b.f)))) := by
    obtain ⟨a1,a2,a3,a4⟩ := a
    obtain ⟨b1,b2,b3,b4⟩ := b
    simp only [Line.mk.injEq]
    by_cases h1 : a1 = b1 <;> by_cases h2 : a2 = b2 <;> by_cases h3 : a3 = b3 <;> by_cases h4 : a4 = b4 <;> simp [h1,h2,h3,h4]
  rw [e]
  refine WR.iteN (decide (a.kind = b.kind)) rfl (fun h => WR.done ?_) (fun h => ?_)
  · show [dB false] = _
    rw [h]; rfl
  refine WR.iteN (decide (a.pot = b.pot)) rfl (fun h2 => WR.done ?_) (fun h2 => ?_)
  · show [dB false] = _
    rw [h,h2]; rfl
  refine WR.iteN (decide (a.skip = b.skip)) rfl (fun h3 => WR.done ?_) (fun h3 => ?_)
  · show [dB false] = _
    rw [h,h2,h3]; rfl
  refine WR.ev (ev_eqFrmForm a.f b.f hf) rfl rfl rfl ?_
  refine WR.iteN (decide (a.f = b.f)) rfl (fun h4 => WR.done ?_) (fun h4 => WR.done ?_)
  · show [dB false] = _
    rw [h,h2,h3,h4]; rfl
  · show [dB true] = _
    rw [h,h2,h3,h4]; rfl
theorem ev_eqActLineS (a b : List Line) (ha : fitAct a) : Ev L f_k4p [.s (dAct a),.s (dAct b)] [dB (decide (a = b))] :=
  ev_sameC (g := f_k4o) (sh := .g [.i .i64,.i .i64,.i .i64,.s,.s,.i .i64])
    (as := [(.vi .i64 (.v 3)),(.vi .i64 (.v 4)),(.vi .i64 (.v 5)),(.s (.v 6)),(.s (.v 7)),(.vi .i64 (.v 8)),(.vi .i64 (.v 9)),(.vi .i64 (.v 10)),(.vi .i64 (.v 11)),(.s (.v 12)),(.s (.v 13)),(.vi .i64 (.v 14))]) (k1 := 9) (k2 := 15)
    Line.g (fun x => [.i x.kind,.i x.pot,.i x.skip,.l (dL x.f.c),.l (dL x.f.d),.i x.f.k]) Line.cells a b
    L_k4p rfl (fun _ => rfl) (fun _ => rfl) (fun _ => rfl) (fun _ _ _ _ _ => rfl) (fun x hx y => ev_eqActLine x y (ha.2 x hx)) ha.1
theorem ev_eqActLineSS (a b : List (List Line)) (ha : fitActs a) : Ev L f_k4q [.s (dActs a),.s (dActs b)] [dB (decide (a = b))] :=
  ev_sameC (g := f_k4p) (sh := .one .s) (as := [(.s (.v 3)),(.s (.v 4))]) (k1 := 4) (k2 := 5) (fun x => .s (dAct x)) (fun x => [.l (dAct x)]) (fun x => [.s (dAct x)]) a b
    L_k4q rfl (fun _ => rfl) (fun _ => rfl) (fun _ => rfl) (fun _ _ _ _ _ => rfl) (fun x hx y => ev_eqActLineS x y (ha.2 x hx)) ha.1
end Go.Proofs.YtgiejmanbmeloaaGreatDoor
/- Marks,and what is held; sizes of acts: over residual programs. -/
namespace Go.Proofs.YtgiejmanbmeloaaGreatDoor
open Go Go.Tm
theorem ev_markIntS (l : List Int) (k : Int) (hl : l.length ≤ 2000000) (h0 : 0 ≤ k) (h1 : k ≤ 1000000000000000) : Ev L f_k4w [.s (dL l),dI k] [dI (k + l.length),.s (dL (cnt k l.length))] := by
  refine Ev.eq (vs := [.l (dL l),.i k]) L_k4w rfl ?_
  have hc : (cnt k l.length).length = l.length := cnt_len _ _
  have hc' : (dL (cnt k l.length)).length = (dL l).length := by rw [dL1,dL1,hc]
  have hlen := dL1 l
  refine WR.forP l.length (fun i => [.l ((dL (cnt k l.length)).take i ++ (dL l).drop i),.i (k + i),.i i]) (fun _ => True) rfl ?_ trivial fun i hi _ => ?_
  · show [V.l (dL l),V.i k,V.i 0] = _
    simp
  simp only [sC,sN]
  refine WR.iteLen i (ds := (dL (cnt k l.length)).take i ++ (dL l).drop i) ((mark_len hc').trans hlen) rfl (fun h => ?_) (fun h => WR.esc (WR.done ?_))
  · obtain ⟨x,hx,_⟩ := sA1 h
    refine WR.atN (ds := (dL (cnt k l.length)).take i ++ (dL l).drop i) i (mark_at hc' (mA1 (f := dI) hx)) rfl rfl rfl rfl rfl rfl ?_
    refine WR.nextA (vs := [.l ((dL (cnt k l.length)).take (i + 1) ++ (dL l).drop (i + 1)),.i (k + ((i + 1 : Nat) : Int)),.i ((i + 1 : Nat) : Int)]) ?_ ⟨h,rfl,trivial⟩
    show [V.l (((dL (cnt k l.length)).take i ++ (dL l).drop i).set (i : Int).toNat (dI (k + i))),V.i (IntKind.i64.wrap (k + i + 1)),V.i (IntKind.i64.wrap ((i : Int) + 1))] = _
    rw [wS h (by omega),Int.toNat_natCast,mark_set hc' (mA1 (f := dI) (cnt_get k h)),w64 (by omega) (by omega)]
    rw [show k + (i : Int) + 1 = k + ((i + 1 : Nat) : Int) by push_cast; omega]
  · show [dI (k + i),D.s ((dL (cnt k l.length)).take i ++ (dL l).drop i)] = _
    rw [mark_end hc' (by omega),show i = l.length by omega]
theorem ev_heldIntS (k : Int) (n : Nat) (hl : n ≤ 2000000) (h0 : 0 ≤ k) (h1 : k ≤ 1000000000000000) : Ev L f_k55 [.s (dL (cnt k n)),dI k] [dI (k + n)] := by
  refine Ev.eq (vs := [.l (dL (cnt k n)),.i k]) L_k55 rfl ?_
  have hlen : (dL (cnt k n)).length = n := by rw [dL1,cnt_len]
  refine WR.forP n (fun i => [.i (k + i),.i i]) (fun _ => True) rfl ?_ trivial fun i hi _ => ?_
  · show [V.i k,V.i 0] = _
    simp
  simp only [sC,sN]
  refine WR.iteLen i hlen rfl (fun h => ?_) (fun h => WR.esc (WR.done ?_))
  · refine WR.idxN i (mA1 (f := dI) (cnt_get k h)) rfl rfl rfl rfl ?_
    refine WR.iteF ?_ ?_
    · show (!(decide ((k + (i : Int)) = (k + (i : Int))))) = false
      simp
    refine WR.nextA (vs := [.i (k + ((i + 1 : Nat) : Int)),.i ((i + 1 : Nat) : Int)]) ?_ ⟨h,rfl,trivial⟩
    show [V.i (IntKind.i64.wrap (k + i + 1)),V.i (IntKind.i64.wrap ((i : Int) + 1))] = _
    rw [wS h (by omega),w64 (by omega) (by omega)]
    rw [show k + (i : Int) + 1 = k + ((i + 1 : Nat) : Int) by push_cast; omega]
  · show [dI (k + i)] = _
    rw [show i = n by omega]
def wtL (l : Line) : Nat := 4 + l.f.c.length + l.f.d.length
def wtA (a : List Line) : Nat := (a.map wtL).sum
def wtAs (as : List (List Line)) : Nat := (as.map wtA).sum
theorem wtA_succ {a : List Line} {i : Nat} {x : Line} (h : a[i]? = some x) : wtA (a.take (i + 1)) = wtA (a.take i) + wtL x := by unfold wtA; rw [map_take_succ h]; simp
theorem wtAs_succ {a : List (List Line)} {i : Nat} {x : List Line} (h : a[i]? = some x) : wtAs (a.take (i + 1)) = wtAs (a.take i) + wtA x := by unfold wtAs; rw [map_take_succ h]; simp
theorem sum_take_le {α : Type} (f : α → Nat) (l : List α) (i : Nat) : ((l.take i).map f).sum ≤ (l.map f).sum := by
  conv => rhs; rw [← List.take_append_drop i l,List.map_append,List.sum_append]
  omega
theorem wtA_take (a : List Line) (i : Nat) : wtA (a.take i) ≤ wtA a := sum_take_le _ _ _
theorem wtAs_take (a : List (List Line)) (i : Nat) : wtAs (a.take i) ≤ wtAs a := sum_take_le _ _ _
theorem drop_at {α : Type} {es : List α} {fs : List α} {i : Nat} (h : es.drop i = fs.drop i) {x : α} (hx : fs[i]? = some x) : es[i]? = some x := by
  have : (es.drop i)[0]? = (fs.drop i)[0]? := by rw [h]
  simpa [hx] using this
theorem drop_set {α : Type} {es : List α} {fs : List α} {i : Nat} (h : es.drop i = fs.drop i) (x : α) : (es.set i x).drop (i + 1) = fs.drop (i + 1) := by
  rw [List.drop_set_of_lt (by omega)]
  rw [show es.drop (i + 1) = (es.drop i).drop 1 by rw [List.drop_drop],show fs.drop (i + 1) = (fs.drop i).drop 1 by rw [List.drop_drop],h]
theorem ev_markActLineS (a : List Line) (ha : fitAct a) (k : Int) (h0 : 0 ≤ k) (h1 : k + wtA a ≤ 1000000000000) : ∃ ds,Ev L f_k4x [.s (dAct a),dI k] ds ∧ ∃ es,ds = [dI (k + wtA a),.s es] ∧ es.length = a.length := by
  refine Ev.of (vs := [.l (dAct a),.i k]) L_k4x rfl ?_
  have hlen := dAct_len a
  have hl := ha.1
  refine WR.forS a.length (fun i vs => ∃ es,vs = [.l es,.i (k + wtA (a.take i)),.i i] ∧ es.length = a.length ∧ es.drop i = (dAct a).drop i) rfl ?_ ?_
  · exact ⟨dAct a,by show [V.l (dAct a),V.i k,V.i 0] = _; simp [wtA],hlen,rfl⟩
  rintro i _ hi ⟨es,rfl,he,hd⟩
  simp only [sC,sN]
  have hw := wtA_take a i
  refine WR.iteLen i (ds := es) he rfl (fun h => ?_) (fun h => WR.esc (WR.done ?_))
  · obtain ⟨x,hx,hm⟩ := sA1 h
    have hx0 := drop_at hd (mA1 (f := Line.g) hx)
    have hxf := ha.2 x hm
    have hw2 := wtA_succ hx
    have hw3 := wtA_take a (i + 1)
    have hwl : wtL x = 4 + x.f.c.length + x.f.d.length := rfl
    generalize hk : k + (wtA (a.take i) : Int) = q at *
    have hq0 : 0 ≤ q := by omega
    have hq1 : q + wtL x ≤ 1000000000000 := by omega
    have e1 : IntKind.i64.wrap (q + 1) = q + 1 := w64 (by omega) (by omega)
    have e2 : IntKind.i64.wrap (q + 1 + 1) = q + 1 + 1 := w64 (by omega) (by omega)
    have e3 : IntKind.i64.wrap (q + 1 + 1 + 1) = q + 1 + 1 + 1 := w64 (by omega) (by omega)
    have hil : i < es.length := by omega
    refine WR.atN (vs := [.i x.kind,.i x.pot,.i x.skip,.l (dL x.f.c),.l (dL x.f.d),.i x.f.k]) (ds := es) i hx0 rfl rfl rfl rfl rfl rfl ?_
    simp only [sC,sN]
    generalize hes1 : es.set i (.g [dI q,dI x.pot,dI x.skip,.s (dL x.f.c),.s (dL x.f.d),dI x.f.k]) = es1
    have hl1 : es1.length = es.length := by rw [← hes1]; simp
    refine WR.atN (vs := [.i q,.i x.pot,.i x.skip,.l (dL x.f.c),.l (dL x.f.d),.i x.f.k]) (ds := es1) (d := .g [dI q,dI x.pot,dI x.skip,.s (dL x.f.c),.s (dL x.f.d),dI x.f.k]) i (by rw [← hes1]; exact set_at _ hil) rfl (by rw [hl1]; rfl) rfl (by rw [← hes1]; rfl) rfl rfl ?_
    simp only [sC,sN]
    generalize hes2 : es1.set i (.g [dI q,dI (q + 1),dI x.skip,.s (dL x.f.c),.s (dL x.f.d),dI x.f.k]) = es2
    have hl2 : es2.length = es.length := by rw [← hes2]; simp [hl1]
    refine WR.atN (vs := [.i q,.i (q + 1),.i x.skip,.l (dL x.f.c),.l (dL x.f.d),.i x.f.k]) (ds := es2) (d := .g [dI q,dI (q + 1),dI x.skip,.s (dL x.f.c),.s (dL x.f.d),dI x.f.k]) i (by rw [← hes2]; exact set_at _ (by omega)) rfl (by rw [hl2]; rfl) rfl
      (by rw [← hes2,← hes1,← e1]; rfl) rfl rfl ?_
    simp only [sC,sN]
    generalize hes3 : es2.set i (.g [dI q,dI (q + 1),dI (q + 1 + 1),.s (dL x.f.c),.s (dL x.f.d),dI x.f.k]) = es3
    have hl3 : es3.length = es.length := by rw [← hes3]; simp [hl2]
    have hes3' : es3 = ((es.set i (.g [dI q,dI x.pot,dI x.skip,.s (dL x.f.c),.s (dL x.f.d),dI x.f.k])).set i (.g [dI q,dI (IntKind.i64.wrap (q + 1)),dI x.skip,.s (dL x.f.c),.s (dL x.f.d),dI x.f.k])).set i
        (.g [dI q,dI (q + 1),dI (IntKind.i64.wrap (IntKind.i64.wrap (q + 1) + 1)),.s (dL x.f.c),.s (dL x.f.d),dI x.f.k]) := by rw [e1,e2,hes1,hes2,hes3]
    refine WR.atN (vs := [.i q,.i (q + 1),.i (q + 1 + 1),.l (dL x.f.c),.l (dL x.f.d),.i x.f.k]) (ds := es3) (d := .g [dI q,dI (q + 1),dI (q + 1 + 1),.s (dL x.f.c),.s (dL x.f.d),dI x.f.k]) i (by rw [← hes3]; exact set_at _ (by omega)) rfl (by rw [hl3]; rfl) rfl
      (by rw [hes3']; rfl) rfl rfl ?_
    simp only [sC,sN]
    refine WR.ev (vs := [.i (q + 1 + 1 + 1 + x.f.c.length),.l (dL (cnt (q + 1 + 1 + 1) x.f.c.length))]) (ev_markIntS x.f.c (q + 1 + 1 + 1) hxf.1 (by omega) (by omega)) rfl ?_ rfl ?_
    · show [D.s (dL x.f.c),dI (IntKind.i64.wrap (IntKind.i64.wrap (IntKind.i64.wrap (q + 1) + 1) + 1))] = _
      rw [e1,e2,e3]
    simp only [sC,sN]
    refine WR.chk ?_ ?_
    · show decide (((dL (cnt (q + 1 + 1 + 1) x.f.c.length)).length : Int) = ((dL x.f.c).length : Int)) = true
      rw [dL1,dL1,cnt_len]; simp
    generalize hes4 : es3.set i (.g [dI q,dI (q + 1),dI (q + 1 + 1),.s (dL (cnt (q + 1 + 1 + 1) x.f.c.length)),.s (dL x.f.d),dI x.f.k]) = es4
    have hl4 : es4.length = es.length := by rw [← hes4]; simp [hl3]
    refine WR.atN (vs := [.i q,.i (q + 1),.i (q + 1 + 1),.l (dL (cnt (q + 1 + 1 + 1) x.f.c.length)),.l (dL x.f.d),.i x.f.k]) (ds := es4) (d := .g [dI q,dI (q + 1),dI (q + 1 + 1),.s (dL (cnt (q + 1 + 1 + 1) x.f.c.length)),.s (dL x.f.d),dI x.f.k]) i (by rw [← hes4]; exact set_at _ (by omega)) rfl (by rw [hl4]; rfl) rfl
      (by rw [← hes4,hes3']; rfl) rfl rfl ?_
    simp only [sC,sN]
    refine WR.ev (vs := [.i (q + 1 + 1 + 1 + x.f.c.length + x.f.d.length),.l (dL (cnt (q + 1 + 1 + 1 + x.f.c.length) x.f.d.length))]) (ev_markIntS x.f.d (q + 1 + 1 + 1 + x.f.c.length) hxf.2 (by omega) (by omega)) rfl rfl rfl ?_
    simp only [sC,sN]
    refine WR.chk ?_ ?_
    · show decide (((dL (cnt (q + 1 + 1 + 1 + x.f.c.length) x.f.d.length)).length : Int) = ((dL x.f.d).length : Int)) = true
      rw [dL1,dL1,cnt_len]; simp
    generalize hes5 : es4.set i (.g [dI q,dI (q + 1),dI (q + 1 + 1),.s (dL (cnt (q + 1 + 1 + 1) x.f.c.length)),.s (dL (cnt (q + 1 + 1 + 1 + x.f.c.length) x.f.d.length)),dI x.f.k]) = es5
    have hl5 : es5.length = es.length := by rw [← hes5]; simp [hl4]
    refine WR.atN (vs := [.i q,.i (q + 1),.i (q + 1 + 1),.l (dL (cnt (q + 1 + 1 + 1) x.f.c.length)),.l (dL (cnt (q + 1 + 1 + 1 + x.f.c.length) x.f.d.length)),.i x.f.k]) (ds := es5)
      (d := .g [dI q,dI (q + 1),dI (q + 1 + 1),.s (dL (cnt (q + 1 + 1 + 1) x.f.c.length)),.s (dL (cnt (q + 1 + 1 + 1 + x.f.c.length) x.f.d.length)),dI x.f.k]) i (by rw [← hes5]; exact set_at _ (by omega)) rfl (by rw [hl5]; rfl) rfl
      (by rw [← hes5,← hes4,hes3']; rfl) rfl rfl ?_
    simp only [sC,sN]
    have e6 : IntKind.i64.wrap (q + 1 + 1 + 1 + x.f.c.length + x.f.d.length + 1) = q + wtL x := by rw [w64 (by omega) (by omega)]; omega
    generalize hes6 : es5.set i (.g [dI q,dI (q + 1),dI (q + 1 + 1),.s (dL (cnt (q + 1 + 1 + 1) x.f.c.length)),.s (dL (cnt (q + 1 + 1 + 1 + x.f.c.length) x.f.d.length)),dI (q + 1 + 1 + 1 + x.f.c.length + x.f.d.length)]) = es6
    refine WR.nextA (vs := [.l es6,.i (q + wtL x),.i ((i + 1 : Nat) : Int)]) ?_ ⟨h,es6,?_,?_,?_⟩
    · rw [← hes6,← hes5,← hes4,hes3',← wS h (by omega),← e6]; rfl
    · rw [hw2,← hk]; simp only [List.cons.injEq,V.i.injEq,and_true,true_and]; push_cast; omega
    · rw [← hes6,List.length_set,hl5,he]
    · rw [← hes6,← hes5,← hes4,hes3']
      simp only [List.set_set]
      exact drop_set hd _
  · refine ⟨es,?_,he⟩
    show [dI (k + wtA (a.take i)),D.s es] = _
    rw [tA1 h]
theorem ev_markActLineSS (as : List (List Line)) (ha : fitActs as) (k : Int) (h0 : 0 ≤ k) (h1 : k + wtAs as ≤ 1000000000000) : ∃ ds,Ev L f_k4y [.s (dActs as),dI k] ds ∧ ∃ es,ds = [dI (k + wtAs as),.s es] ∧ es.length = as.length := by
  refine Ev.of (vs := [.l (dActs as),.i k]) L_k4y rfl ?_
  have hlen := dActs_len as
  have hl := ha.1
  refine WR.forS as.length (fun i vs => ∃ es,vs = [.l es,.i (k + wtAs (as.take i)),.i i] ∧ es.length = as.length ∧ es.drop i = (dActs as).drop i) rfl ?_ ?_
  · exact ⟨dActs as,by show [V.l (dActs as),V.i k,V.i 0] = _; simp [wtAs],hlen,rfl⟩
  rintro i _ hi ⟨es,rfl,he,hd⟩
  simp only [sC,sN]
  have hw := wtAs_take as i
  refine WR.iteLen i (ds := es) he rfl (fun h => ?_) (fun h => WR.esc (WR.done ?_))
  · obtain ⟨x,hx,hm⟩ := sA1 h
    have hx0 := drop_at hd (mA1 (f := fun a => D.s (dAct a)) hx)
    have hxf := ha.2 x hm
    have hw2 := wtAs_succ hx
    have hw3 := wtAs_take as (i + 1)
    refine WR.atN (vs := [.l (dAct x)]) (ds := es) i hx0 rfl rfl rfl rfl rfl rfl ?_
    simp only [sC,sN]
    obtain ⟨ds,hev,es',rfl,hle⟩ := ev_markActLineS x hxf (k + wtAs (as.take i)) (by omega) (by omega)
    refine WR.ev (vs := [.i (k + wtAs (as.take i) + wtA x),.l es']) hev rfl rfl rfl ?_
    simp only [sC,sN]
    refine WR.chk ?_ ?_
    · show decide ((es'.length : Int) = ((dAct x).length : Int)) = true
      rw [dAct_len,hle]; simp
    refine WR.nextA (vs := [.l (es.set i (.s es')),.i (k + wtAs (as.take i) + wtA x),.i ((i + 1 : Nat) : Int)]) ?_ ⟨h,es.set i (.s es'),?_,?_,?_⟩
    · rw [← wS h (by omega)]; rfl
    · rw [hw2]; simp only [List.cons.injEq,V.i.injEq,and_true,true_and]; push_cast; omega
    · rw [List.length_set,he]
    · exact drop_set hd _
  · refine ⟨es,?_,he⟩
    show [dI (k + wtAs (as.take i)),D.s es] = _
    rw [tA1 h]
end Go.Proofs.YtgiejmanbmeloaaGreatDoor
/- The program's CatWrites,CatReads and CatPins answer as the reference's: over residual programs. -/
namespace Go.Proofs.YtgiejmanbmeloaaGreatDoor
open Go Go.Tm
def bigF (f : Frm) : Prop := f.c.length ≤ 9223372036854775807 ∧ f.d.length ≤ 9223372036854775807
def bigA (a : List Line) : Prop := a.length ≤ 9223372036854775807 ∧ ∀ l ∈ a,bigF l.f
def bigAs (as : List (List Line)) : Prop := as.length ≤ 9223372036854775807 ∧ ∀ a ∈ as,bigA a
def szF (f : Frm) : Nat := f.c.length + f.d.length
def szA (a : List Line) : Nat := a.length + (a.map fun l => szF l.f).sum
def szAs (as : List (List Line)) : Nat := as.length + (as.map szA).sum
theorem dec_room {left : Int} {n : Nat} (h0 : 0 ≤ left) (h1 : left ≤ 1048576) : -1 ≤ dec left n ∧ dec left n ≤ 1048576 := by
  unfold dec; split <;> omega
theorem dec_le {left : Int} {n : Nat} (h : ¬ dec left n < 0) : (n : Int) ≤ left := by
  unfold dec at h; split at h
  · assumption
  · omega
theorem ev_szIntS (l : List Int) (left : Int) (hl : l.length ≤ 9223372036854775807) (h0 : 0 ≤ left) (h1 : left ≤ 1048576) : Ev L f_k0 [.s (dL l),dI left] [dI (dec left l.length)] := by
  refine Ev.eq (vs := [.l (dL l),.i left]) L_k0 rfl ?_
  have hlen := dL1 l
  have hw : IntKind.i64.wrap (left - ((dL l).length : Int)) = left - l.length := by rw [hlen]; exact w64 (by omega) (by omega)
  refine WR.iteP (left - (l.length : Int) < 0) ?_ (fun h => WR.done ?_) (fun h => WR.done ?_)
  · show decide (IntKind.i64.wrap (left - ((dL l).length : Int)) < 0) = _
    rw [hw]
  · show [dI (-1)] = _
    unfold dec; rw [if_neg (by omega)]
  · show [dI (IntKind.i64.wrap (left - ((dL l).length : Int)))] = _
    unfold dec; rw [hw,if_pos (by omega)]
theorem ev_szFrmForm (f : Frm) (left : Int) (hf : bigF f) (h0 : 0 ≤ left) (h1 : left ≤ 1048576) : Ev L f_k1 (f.cells ++ [dI left]) [dI (dec left (szF f))] := by
  refine Ev.eq (vs := [.l (dL f.c),.l (dL f.d),.i f.k,.i left]) L_k1 rfl ?_
  refine WR.ev (ev_szIntS f.c left hf.1 h0 h1) rfl rfl rfl ?_
  have hr := dec_room (n := f.c.length) h0 h1
  refine WR.iteP (dec left f.c.length < 0) rfl (fun h => WR.done ?_) (fun h => ?_)
  · show [dI (-1)] = _
    rw [szF,dec_lt h h0]
  refine WR.ev (ev_szIntS f.d (dec left f.c.length) hf.2 (by omega) (by omega)) rfl rfl rfl ?_
  refine WR.iteP (dec (dec left f.c.length) f.d.length < 0) rfl (fun h2 => WR.done ?_) (fun h2 => WR.done ?_)
  · show [dI (-1)] = _
    rw [dec_dec h] at h2
    have := (dec_room (n := f.c.length + f.d.length) h0 h1).1
    rw [szF,show dec left (f.c.length + f.d.length) = -1 by omega]
  · show [dI (dec (dec left f.c.length) f.d.length)] = _
    rw [dec_dec h]; rfl
theorem ev_szActLine (l : Line) (left : Int) (hf : bigF l.f) (h0 : 0 ≤ left) (h1 : left ≤ 1048576) : Ev L f_k2 (l.cells ++ [dI left]) [dI (dec left (szF l.f))] := by
  refine Ev.eq (vs := [.i l.kind,.i l.pot,.i l.skip,.l (dL l.f.c),.l (dL l.f.d),.i l.f.k,.i left]) L_k2 rfl ?_
  refine WR.ev (ev_szFrmForm l.f left hf h0 h1) rfl rfl rfl ?_
  have hr := dec_room (n := szF l.f) h0 h1
  refine WR.iteP (dec left (szF l.f) < 0) rfl (fun h => WR.done ?_) (fun h => WR.done rfl)
  show [dI (-1)] = _
  rw [show dec left (szF l.f) = -1 by omega]
theorem szA_succ {a : List Line} {i : Nat} {x : Line} (h : a[i]? = some x) : ((a.take (i + 1)).map fun l => szF l.f).sum = ((a.take i).map fun l => szF l.f).sum + szF x.f := by rw [map_take_succ h]; simp
theorem szAs_succ {a : List (List Line)} {i : Nat} {x : List Line} (h : a[i]? = some x) : ((a.take (i + 1)).map szA).sum = ((a.take i).map szA).sum + szA x := by rw [map_take_succ h]; simp
theorem ev_szActLineS (a : List Line) (left : Int) (ha : bigA a) (h0 : 0 ≤ left) (h1 : left ≤ 1048576) : Ev L f_k3 [.s (dAct a),dI left] [dI (dec left (szA a))] := by
  refine Ev.eq (vs := [.l (dAct a),.i left]) L_k3 rfl ?_
  have hlen := dAct_len a
  have hl := ha.1
  have hw : IntKind.i64.wrap (left - ((dAct a).length : Int)) = left - a.length := by rw [hlen]; exact w64 (by omega) (by omega)
  refine WR.iteP (left - (a.length : Int) < 0) ?_ (fun h => WR.done ?_) (fun h => ?_)
  · show decide (IntKind.i64.wrap (left - ((dAct a).length : Int)) < 0) = _
    rw [hw]
  · show [dI (-1)] = _
    unfold dec szA; rw [if_neg (by omega)]
  have hal : a.length ≤ 1048576 := by omega
  refine WR.forP a.length (fun i => [.i (dec left (a.length + ((a.take i).map fun l => szF l.f).sum)),.i i]) (fun i => ¬ dec left (a.length + ((a.take i).map fun l => szF l.f).sum) < 0) rfl ?_ ?_ fun i hi hp => ?_
  · show [V.i (IntKind.i64.wrap (left - ((dAct a).length : Int))),V.i 0] = _
    rw [hw]
    simp only [List.take_zero,List.map_nil,List.sum_nil,Nat.add_zero]
    unfold dec; rw [if_pos (by omega)]; rfl
  · simp only [List.take_zero,List.map_nil,List.sum_nil,Nat.add_zero]
    unfold dec; rw [if_pos (by omega)]; omega
  simp only [sC,sN]
  have hr := dec_room (n := a.length + ((a.take i).map fun l => szF l.f).sum) h0 h1
  refine WR.iteLen i hlen rfl (fun h' => ?_) (fun h' => WR.esc (WR.done ?_))
  · obtain ⟨x,hx,hm⟩ := sA1 h'
    refine WR.idxN (vs := [.i x.kind,.i x.pot,.i x.skip,.l (dL x.f.c),.l (dL x.f.d),.i x.f.k]) i (mA1 (f := Line.g) hx) rfl rfl rfl rfl ?_
    simp only [sC,sN]
    refine WR.ev (ev_szActLine x (dec left (a.length + ((a.take i).map fun l => szF l.f).sum)) (ha.2 x hm) (by omega) (by omega)) rfl rfl rfl ?_
    simp only [sC,sN]
    have e := dec_dec (m := szF x.f) hp
    rw [Nat.add_assoc,← szA_succ hx] at e
    rw [e]
    refine WR.iteP (dec left (a.length + ((a.take (i + 1)).map fun l => szF l.f).sum) < 0) rfl (fun h2 => WR.esc (WR.done ?_)) (fun h2 => ?_)
    · show [dI (-1)] = _
      have : szA a = a.length + ((a.take (i + 1)).map fun l => szF l.f).sum + ((a.drop (i + 1)).map fun l => szF l.f).sum := by
        unfold szA
        conv => lhs; rw [← List.take_append_drop (i + 1) a,List.map_append,List.sum_append,List.take_append_drop]
        omega
      rw [this,dec_lt h2 h0]
    · refine WR.nextA (vs := [.i (dec left (a.length + ((a.take (i + 1)).map fun l => szF l.f).sum)),.i ((i + 1 : Nat) : Int)]) ?_ ⟨h',rfl,h2⟩
      rw [← wS h' (by omega)]; rfl
  · show [dI (dec left (a.length + ((a.take i).map fun l => szF l.f).sum))] = _
    rw [tA1 h']; rfl
theorem ev_szActLineSS (a : List (List Line)) (left : Int) (ha : bigAs a) (h0 : 0 ≤ left) (h1 : left ≤ 1048576) : Ev L f_k4 [.s (dActs a),dI left] [dI (dec left (szAs a))] := by
  refine Ev.eq (vs := [.l (dActs a),.i left]) L_k4 rfl ?_
  have hlen := dActs_len a
  have hl := ha.1
  have hw : IntKind.i64.wrap (left - ((dActs a).length : Int)) = left - a.length := by rw [hlen]; exact w64 (by omega) (by omega)
  refine WR.iteP (left - (a.length : Int) < 0) ?_ (fun h => WR.done ?_) (fun h => ?_)
  · show decide (IntKind.i64.wrap (left - ((dActs a).length : Int)) < 0) = _
    rw [hw]
  · show [dI (-1)] = _
    unfold dec szAs; rw [if_neg (by omega)]
  have hal : a.length ≤ 1048576 := by omega
  refine WR.forP a.length (fun i => [.i (dec left (a.length + ((a.take i).map szA).sum)),.i i]) (fun i => ¬ dec left (a.length + ((a.take i).map szA).sum) < 0) rfl ?_ ?_ fun i hi hp => ?_
  · show [V.i (IntKind.i64.wrap (left - ((dActs a).length : Int))),V.i 0] = _
    rw [hw]
    simp only [List.take_zero,List.map_nil,List.sum_nil,Nat.add_zero]
    unfold dec; rw [if_pos (by omega)]; rfl
  · simp only [List.take_zero,List.map_nil,List.sum_nil,Nat.add_zero]
    unfold dec; rw [if_pos (by omega)]; omega
  simp only [sC,sN]
  have hr := dec_room (n := a.length + ((a.take i).map szA).sum) h0 h1
  refine WR.iteLen i hlen rfl (fun h' => ?_) (fun h' => WR.esc (WR.done ?_))
  · obtain ⟨x,hx,hm⟩ := sA1 h'
    refine WR.idxN (vs := [.l (dAct x)]) i (mA1 (f := fun a => D.s (dAct a)) hx) rfl rfl rfl rfl ?_
    simp only [sC,sN]
    refine WR.ev (ev_szActLineS x (dec left (a.length + ((a.take i).map szA).sum)) (ha.2 x hm) (by omega) (by omega)) rfl rfl rfl ?_
    simp only [sC,sN]
    have e := dec_dec (m := szA x) hp
    rw [Nat.add_assoc,← szAs_succ hx] at e
    rw [e]
    refine WR.iteP (dec left (a.length + ((a.take (i + 1)).map szA).sum) < 0) rfl (fun h2 => WR.esc (WR.done ?_)) (fun h2 => ?_)
    · show [dI (-1)] = _
      have : szAs a = a.length + ((a.take (i + 1)).map szA).sum + ((a.drop (i + 1)).map szA).sum := by
        unfold szAs
        conv => lhs; rw [← List.take_append_drop (i + 1) a,List.map_append,List.sum_append,List.take_append_drop]
        omega
      rw [this,dec_lt h2 h0]
    · refine WR.nextA (vs := [.i (dec left (a.length + ((a.take (i + 1)).map szA).sum)),.i ((i + 1 : Nat) : Int)]) ?_ ⟨h',rfl,h2⟩
      rw [← wS h' (by omega)]; rfl
  · show [dI (dec left (a.length + ((a.take i).map szA).sum))] = _
    rw [tA1 h']; rfl
theorem sum_mem_le {α : Type} (f : α → Nat) {l : List α} {x : α} (h : x ∈ l) : f x ≤ (l.map f).sum := by
  induction l with
  | nil => simp at h
  | cons y l ih =>
    simp only [List.map_cons,List.sum_cons]
    rcases List.mem_cons.1 h with rfl | h
    · omega
    · have := ih h; omega
theorem fitAct_of {a : List Line} (h : szA a ≤ 1048576) : fitAct a := by
  unfold szA at h
  refine ⟨by omega,fun l hl => ?_⟩
  have : szF l.f ≤ (a.map fun l => szF l.f).sum := sum_mem_le (fun l : Line => szF l.f) hl
  have e : szF l.f = l.f.c.length + l.f.d.length := rfl
  exact ⟨by omega,by omega⟩
theorem fitActs_of {as : List (List Line)} (h : szAs as ≤ 1048576) : fitActs as := by
  unfold szAs at h
  refine ⟨by omega,fun a ha => fitAct_of ?_⟩
  have := sum_mem_le szA ha
  omega
theorem wtA_le : ∀ a : List Line,wtA a ≤ 4 * szA a
  | [] => by simp [wtA]
  | l :: a => by
    have := wtA_le a
    simp only [wtA,szA,wtL,szF,List.map_cons,List.sum_cons,List.length_cons] at *
    omega
theorem wtAs_le : ∀ as : List (List Line),wtAs as ≤ 4 * szAs as
  | [] => by simp [wtAs]
  | a :: as => by
    have := wtAs_le as
    have := wtA_le a
    simp only [wtAs,szAs,List.map_cons,List.sum_cons,List.length_cons] at *
    omega
abbrev tyInts : Ty := .sl (.i .i64)
abbrev tyFrm : Ty := .st [tyInts,tyInts,.i .i64]
abbrev tyLine : Ty := .st [.i .i64,.i .i64,.i .i64,tyFrm]
theorem ints_of {ds : List D} (h : TySh tyInts ds) : ∃ l,ds = [.s (dL l)] ∧ l.length ≤ 9223372036854775807 := by
  obtain ⟨es,rfl,hl,he⟩ := h
  obtain ⟨l,rfl,_⟩ := map_ex (f := dI) (p := fun _ => True) fun x hx => by
    obtain ⟨cs,⟨n,rfl⟩,rfl⟩ := he x hx
    exact ⟨n,trivial,rfl⟩
  exact ⟨l,rfl,by rw [List.length_map] at hl; unfold maxLen at hl; omega⟩
theorem frm_of {ds : List D} (h : TySh tyFrm ds) : ∃ f : Frm,ds = f.cells ∧ bigF f := by
  obtain ⟨_,_,rfl,h1,_,_,rfl,h2,_,_,rfl,⟨k,rfl⟩,rfl⟩ := h
  obtain ⟨c,rfl,hc⟩ := ints_of h1
  obtain ⟨d,rfl,hd⟩ := ints_of h2
  exact ⟨⟨c,d,k⟩,rfl,hc,hd⟩
theorem line_of {ds : List D} (h : TySh tyLine ds) : ∃ l : Line,ds = l.cells ∧ bigF l.f := by
  obtain ⟨_,_,rfl,⟨a,rfl⟩,_,_,rfl,⟨b,rfl⟩,_,_,rfl,⟨c,rfl⟩,_,_,rfl,h4,rfl⟩ := h
  obtain ⟨f,rfl,hf⟩ := frm_of h4
  exact ⟨⟨a,b,c,f⟩,rfl,hf⟩
theorem act_of {ds : List D} (h : TySh (.sl tyLine) ds) : ∃ a,ds = [.s (dAct a)] ∧ bigA a := by
  obtain ⟨es,rfl,hl,he⟩ := h
  obtain ⟨l,rfl,hp⟩ := map_ex (f := Line.g) (p := fun l => bigF l.f) fun x hx => by
    obtain ⟨cs,h1,rfl⟩ := he x hx
    obtain ⟨l,rfl,hf⟩ := line_of h1
    exact ⟨l,hf,rfl⟩
  exact ⟨l,rfl,by rw [List.length_map] at hl; unfold maxLen at hl; omega,hp⟩
theorem acts_of {ds : List D} (h : TySh (.sl (.sl tyLine)) ds) : ∃ a,ds = [.s (dActs a)] ∧ bigAs a := by
  obtain ⟨es,rfl,hl,he⟩ := h
  obtain ⟨l,rfl,hp⟩ := map_ex (f := fun a => D.s (dAct a)) (p := bigA) fun x hx => by
    obtain ⟨cs,h1,rfl⟩ := he x hx
    obtain ⟨a,rfl,ha⟩ := act_of h1
    exact ⟨a,ha,rfl⟩
  exact ⟨l,rfl,by rw [List.length_map] at hl; unfold maxLen at hl; omega,hp⟩
end Go.Proofs.YtgiejmanbmeloaaGreatDoor
/- The program's SitNew and ClkNew answer as the reference's: over residual programs. -/
namespace Go.Proofs.YtgiejmanbmeloaaGreatDoor
open Go Go.Tm
structure Pln where
  n : Int
  acts : List (List Line)
  gives : List Int
  start : List Int
  deriving DecidableEq
def Pln.cells (p : Pln) : List D := [dI p.n,.s (dActs p.acts),.s (dL p.gives),.s (dL p.start)]
def fitPln (p : Pln) : Prop := fitActs p.acts ∧ p.gives.length ≤ 2000000 ∧ p.start.length ≤ 2000000
def bigPln (p : Pln) : Prop := bigAs p.acts ∧ p.gives.length ≤ 9223372036854775807 ∧ p.start.length ≤ 9223372036854775807
def szPln (p : Pln) : Nat := szAs p.acts + p.gives.length + p.start.length
def wtPln (p : Pln) : Nat := wtAs p.acts + p.gives.length + p.start.length
theorem fitPln_of {p : Pln} (h : szPln p ≤ 1048576) : fitPln p := by
  unfold szPln at h
  exact ⟨fitActs_of (by omega),by omega,by omega⟩
theorem ev_toPlnPlan (p : Pln) (hp : fitPln p) : Ev L f_kj p.cells p.cells := by
  refine Ev.eq (vs := [.i p.n,.l (dActs p.acts),.l (dL p.gives),.l (dL p.start)]) L_kj rfl ?_
  refine WR.ev (ev_toActLineSS p.acts hp.1) rfl rfl rfl ?_
  refine WR.ev (ev_toIntS p.gives hp.2.1) rfl rfl rfl ?_
  refine WR.ev (ev_toIntS p.start hp.2.2) rfl rfl rfl ?_
  exact WR.done rfl
theorem ev_eqPlnPlan (p : Pln) (hp : fitPln p) : Ev L f_k4r (p.cells ++ p.cells) [dB true] := by
  refine Ev.eq (vs := [.i p.n,.l (dActs p.acts),.l (dL p.gives),.l (dL p.start),.i p.n,.l (dActs p.acts),.l (dL p.gives),.l (dL p.start)]) L_k4r rfl ?_
  have h1 := ev_eqActLineSS p.acts p.acts hp.1
  have h2 := ev_eqIntS p.gives p.gives hp.2.1
  have h3 := ev_eqIntS p.start p.start hp.2.2
  rw [decide_eq_true rfl] at h1 h2 h3
  refine WR.iteF (by show (!decide (p.n = p.n)) = false; simp) ?_
  refine WR.ev h1 rfl rfl rfl (WR.iteF rfl ?_)
  refine WR.ev h2 rfl rfl rfl (WR.iteF rfl ?_)
  exact WR.ev h3 rfl rfl rfl (WR.iteF rfl (WR.done rfl))
theorem ev_szPlnPlan (p : Pln) (left : Int) (hp : bigPln p) (h0 : 0 ≤ left) (h1 : left ≤ 1048576) : Ev L f_k5 (p.cells ++ [dI left]) [dI (dec left (szPln p))] := by
  refine Ev.eq (vs := [.i p.n,.l (dActs p.acts),.l (dL p.gives),.l (dL p.start),.i left]) L_k5 rfl ?_
  refine WR.ev (ev_szActLineSS p.acts left hp.1 h0 h1) rfl rfl rfl ?_
  have hr := dec_room (n := szAs p.acts) h0 h1
  refine WR.iteP (dec left (szAs p.acts) < 0) rfl (fun h => WR.done ?_) (fun h => ?_)
  · show [dI (-1)] = _
    rw [szPln,Nat.add_assoc,dec_lt h h0]
  refine WR.ev (ev_szIntS p.gives (dec left (szAs p.acts)) hp.2.1 (by omega) (by omega)) rfl rfl rfl ?_
  have hr2 := dec_room (n := szAs p.acts + p.gives.length) h0 h1
  rw [dec_dec h]
  refine WR.iteP (dec left (szAs p.acts + p.gives.length) < 0) rfl (fun h => WR.done ?_) (fun h => ?_)
  · show [dI (-1)] = _
    rw [szPln,dec_lt h h0]
  refine WR.ev (ev_szIntS p.start (dec left (szAs p.acts + p.gives.length)) hp.2.2 (by omega) (by omega)) rfl rfl rfl ?_
  rw [dec_dec h]
  have hr3 := dec_room (n := szAs p.acts + p.gives.length + p.start.length) h0 h1
  refine WR.iteP (dec left (szAs p.acts + p.gives.length + p.start.length) < 0) rfl (fun h => WR.done ?_) (fun h => WR.done rfl)
  show [dI (-1)] = _
  rw [szPln,show dec left (szAs p.acts + p.gives.length + p.start.length) = -1 by omega]
theorem ev_markPlnPlan (p : Pln) (hp : fitPln p) (hw : wtPln p ≤ 10000000000) : ∃ es,Ev L f_k4z (p.cells ++ [dI 1]) [dI (1 + wtPln p),.s es,.s (dL (cnt (1 + wtAs p.acts) p.gives.length)),.s (dL (cnt (1 + wtAs p.acts + p.gives.length) p.start.length))] := by
  unfold wtPln at hw
  obtain ⟨ds,hmk,es,rfl,hes⟩ := ev_markActLineSS p.acts hp.1 1 (by omega) (by omega)
  refine ⟨es,Ev.eq (vs := [.i p.n,.l (dActs p.acts),.l (dL p.gives),.l (dL p.start),.i 1]) L_k4z rfl ?_⟩
  refine WR.ev (vs := [.i (1 + wtAs p.acts),.l es]) hmk rfl rfl rfl ?_
  refine WR.ev (vs := [.i (1 + wtAs p.acts + p.gives.length),.l (dL (cnt (1 + wtAs p.acts) p.gives.length))]) (ev_markIntS p.gives (1 + wtAs p.acts) hp.2.1 (by omega) (by omega)) rfl rfl rfl ?_
  refine WR.ev (vs := [.i (1 + wtAs p.acts + p.gives.length + p.start.length),.l (dL (cnt (1 + wtAs p.acts + p.gives.length) p.start.length))]) (ev_markIntS p.start (1 + wtAs p.acts + p.gives.length) hp.2.2 (by omega) (by omega)) rfl rfl rfl ?_
  refine WR.done ?_
  show [dI (1 + wtAs p.acts + p.gives.length + p.start.length),D.s es,_,_] = _
  rw [show (1 : Int) + wtAs p.acts + p.gives.length + p.start.length = 1 + wtPln p by unfold wtPln; push_cast; omega]
  rfl
def plnOk (p : Pln) : Bool := inB p.n 1 4 && (catOk p.acts && (allIn 3 1000 p.start && trtOk p.start p.gives))
theorem ev_sPlnOk (p : Pln) (hp : fitPln p) : Ev L f_k10 p.cells [dB (plnOk p)] := by
  refine Ev.eq (vs := [.i p.n,.l (dActs p.acts),.l (dL p.gives),.l (dL p.start)]) L_k10 rfl ?_
  refine WR.ev (ev_l1In p.n 1 4) rfl rfl rfl ?_
  refine WR.iteB (inB p.n 1 4) rfl (fun h1 => ?_) (fun h1 => WR.done (by show [dB false] = _; simp [plnOk,h1]))
  refine WR.ev (ev_CatOk p.acts hp.1) rfl rfl rfl ?_
  refine WR.iteB (catOk p.acts) rfl (fun h2 => ?_) (fun h2 => WR.done (by show [dB false] = _; simp [plnOk,h2]))
  refine WR.ev (ev_l1All p.start 3 1000 hp.2.2 (by omega) (by omega)) rfl rfl rfl ?_
  refine WR.iteB (allIn 3 1000 p.start) rfl (fun h3 => ?_) (fun h3 => WR.done (by show [dB false] = _; simp [plnOk,h3]))
  refine WR.ev (ev_sTrtOk p.start p.gives hp.2.2 hp.2.1) rfl rfl rfl (WR.done ?_)
  show [dB (trtOk p.start p.gives)] = _
  simp [plnOk,h1,h2,h3]
theorem ev_iTreaty (p : Pln) (b : List Int) : Ev L f_k2f (p.cells ++ [.s (dL b)]) [.s (dL b),.s (dL p.gives)] :=
  Ev.eq (vs := [.i p.n,.l (dActs p.acts),.l (dL p.gives),.l (dL p.start),.l (dL b)]) L_k2f rfl (WR.done rfl)
theorem ev_iPlnOk (p : Pln) (hp : fitPln p) : Ev L f_k2j p.cells [dB (plnOk p)] := by
  refine Ev.eq (vs := [.i p.n,.l (dActs p.acts),.l (dL p.gives),.l (dL p.start)]) L_k2j rfl ?_
  refine WR.ev (ev_in p.n 1 4) rfl rfl rfl ?_
  refine WR.iteB (inB p.n 1 4) rfl (fun h1 => ?_) (fun h1 => WR.done (by show [dB false] = _; simp [plnOk,h1]))
  refine WR.ev (ev_iCatOk p.acts hp.1) rfl rfl rfl ?_
  refine WR.iteB (catOk p.acts) rfl (fun h2 => ?_) (fun h2 => WR.done (by show [dB false] = _; simp [plnOk,h2]))
  refine WR.ev (ev_within p.start 3 1000 hp.2.2 (by omega) (by omega)) rfl rfl rfl ?_
  refine WR.iteB (allIn 3 1000 p.start) rfl (fun h3 => ?_) (fun h3 => WR.done (by show [dB false] = _; simp [plnOk,h3]))
  refine WR.ev (ev_iTreaty p p.start) rfl rfl rfl ?_
  refine WR.ev (ev_TrtOk p.start p.gives hp.2.2 hp.2.1) rfl rfl rfl (WR.done ?_)
  show [dB (trtOk p.start p.gives)] = _
  simp [plnOk,h1,h2,h3]
theorem ev_eqResResult (a b : Int) (c d : List Int) (hl : c.length ≤ 2000000) : Ev L f_k4i [dI a,.s (dL c),dI b,.s (dL d)] [dB (decide (a = b) && decide (c = d))] := by
  refine Ev.eq (vs := [.i a,.l (dL c),.i b,.l (dL d)]) L_k4i rfl ?_
  refine WR.iteN (decide (a = b)) rfl (fun h => WR.done (by show [dB false] = _; rw [h]; rfl)) (fun h => ?_)
  refine WR.ev (ev_eqIntS c d hl) rfl rfl rfl ?_
  refine WR.iteN (decide (c = d)) rfl (fun h2 => WR.done (by show [dB false] = _; rw [h,h2]; rfl)) (fun h2 => WR.done (by show [dB true] = _; rw [h,h2]; rfl))
theorem ev_eqPlnDone (a b : Don) (hl : a.tells.length ≤ 2000000) : Ev L f_k4j (a.cells ++ b.cells) [dB (decide (a = b))] := by
  refine Ev.eq (vs := [.i a.seq,.i a.code,.l (dL a.tells),.i b.seq,.i b.code,.l (dL b.tells)]) L_k4j rfl ?_
  have e : decide (a = b) = (decide (a.seq = b.seq) && (decide (a.code = b.code) && decide (a.tells = b.tells))) := by
    obtain ⟨a1,a2,a3⟩ := a
    obtain ⟨b1,b2,b3⟩ := b
    simp only [Don.mk.injEq]
    by_cases h1 : a1 = b1 <;> by_cases h2 : a2 = b2 <;> by_cases h3 : a3 = b3 <;> simp [h1,h2,h3]
  rw [e]
  refine WR.iteN (decide (a.seq = b.seq)) rfl (fun h => WR.done (by show [dB false] = _; rw [h]; rfl)) (fun h => ?_)
  refine WR.ev (ev_eqResResult a.code b.code a.tells b.tells hl) rfl rfl rfl ?_
  refine WR.iteN (decide (a.code = b.code) && decide (a.tells = b.tells)) rfl (fun h2 => WR.done (by show [dB false] = _; rw [h,h2]; rfl)) (fun h2 => WR.done (by show [dB true] = _; rw [h,h2]; rfl))
theorem ev_eqPlnDoneS (a b : List Don) (hl : a.length ≤ 2000000) (ht : ∀ d ∈ a,d.tells.length ≤ 2000000) : Ev L f_k4k [.s (dDs a),.s (dDs b)] [dB (decide (a = b))] :=
  ev_sameC (g := f_k4j) (sh := .g [.i .i64,.i .i64,.s]) (as := [(.vi .i64 (.v 3)),(.vi .i64 (.v 4)),(.s (.v 5)),(.vi .i64 (.v 6)),(.vi .i64 (.v 7)),(.s (.v 8))]) (k1 := 6) (k2 := 9)
    Don.g (fun x => [.i x.seq,.i x.code,.l (dL x.tells)]) Don.cells a b
    L_k4k rfl (fun _ => rfl) (fun _ => rfl) (fun _ => rfl) (fun _ _ _ _ _ => rfl) (fun x hx y => ev_eqPlnDone x y (ht x hx)) hl
theorem ev_markPlnDoneS (l : List Don) (k : Int) (hl : l.length ≤ 2000000) (ht : ∀ d ∈ l,d.tells.length ≤ 2000000) (h0 : 0 ≤ k) (h1 : k + wts Don.w l ≤ 1000000000000) :
    Ev L f_k50 [.s (dDs l),dI k] [dI (k + wts Don.w l),.s (dDs (mkAll Don.w Don.mk' k l))] :=
  ev_markLoop Don.g Don.w Don.mk' l k L_k50 rfl h0 h1 hl fun v0 v1 es i x q hx hxi hi hq0 hq1 => by
    have hil : i < es.length := (List.getElem?_eq_some_iff.1 hxi).1
    have hxt := ht x hx
    have hw : x.w = 2 + x.tells.length := rfl
    have e1 : IntKind.i64.wrap (q + 1) = q + 1 := w64 (by omega) (by omega)
    have e2 : IntKind.i64.wrap (q + 1 + 1) = q + 1 + 1 := w64 (by omega) (by omega)
    refine WR.atN (vs := [.i x.seq,.i x.code,.l (dL x.tells)]) (ds := es) i hxi rfl rfl rfl rfl rfl rfl ?_
    simp only [sC,sN]
    generalize hes1 : es.set i (.g [dI q,dI x.code,.s (dL x.tells)]) = es1
    have hl1 : es1.length = es.length := by rw [← hes1]; simp
    refine WR.atN (vs := [.i q,.i x.code,.l (dL x.tells)]) (ds := es1) (d := .g [dI q,dI x.code,.s (dL x.tells)]) i (by rw [← hes1]; exact set_at _ hil) rfl (by rw [hl1]; rfl) rfl (by rw [← hes1]; rfl) rfl rfl ?_
    simp only [sC,sN]
    generalize hes2 : es1.set i (.g [dI q,dI (q + 1),.s (dL x.tells)]) = es2
    have hl2 : es2.length = es.length := by rw [← hes2]; simp [hl1]
    have hes2' : es2 = (es.set i (.g [dI q,dI x.code,.s (dL x.tells)])).set i (.g [dI q,dI (IntKind.i64.wrap (q + 1)),.s (dL x.tells)]) := by rw [e1,hes1,hes2]
    refine WR.atN (vs := [.i q,.i (q + 1),.l (dL x.tells)]) (ds := es2) (d := .g [dI q,dI (q + 1),.s (dL x.tells)]) i (by rw [← hes2]; exact set_at _ (by omega)) rfl (by rw [hl2]; rfl) rfl (by rw [hes2']; rfl) rfl rfl ?_
    simp only [sC,sN]
    refine WR.ev (vs := [.i (q + 1 + 1 + x.tells.length),.l (dL (cnt (q + 1 + 1) x.tells.length))]) (ev_markIntS x.tells (q + 1 + 1) hxt (by omega) (by omega)) rfl ?_ rfl ?_
    · show [D.s (dL x.tells),dI (IntKind.i64.wrap (IntKind.i64.wrap (q + 1) + 1))] = _
      rw [e1,e2]
    simp only [sC,sN]
    refine WR.chk ?_ ?_
    · show decide (((dL (cnt (q + 1 + 1) x.tells.length)).length : Int) = ((dL x.tells).length : Int)) = true
      rw [dL1,dL1,cnt_len]; simp
    refine WR.nextA ?_ rfl
    show [V.l (((es.set i (.g [dI q,dI x.code,.s (dL x.tells)])).set i (.g [dI q,dI (IntKind.i64.wrap (q + 1)),.s (dL x.tells)])).set i (.g [dI q,dI (q + 1),.s (dL (cnt (q + 1 + 1) x.tells.length))])),V.i (q + 1 + 1 + x.tells.length),V.i (IntKind.i64.wrap ((i : Int) + 1))] = _
    rw [wS' (by omega),List.set_set,List.set_set,show q + 1 + 1 + (x.tells.length : Int) = q + (x.w : Nat) by rw [hw]; push_cast; omega]
    rfl
theorem ev_heldPlnDoneS (l : List Don) (k : Int) (hl : l.length ≤ 2000000) (ht : ∀ d ∈ l,d.tells.length ≤ 2000000) (h0 : 0 ≤ k) (h1 : k + wts Don.w l ≤ 1000000000000) :
    Ev L f_k56 [.s (dDs (mkAll Don.w Don.mk' k l)),dI k] [dI (k + wts Don.w l)] :=
  ev_heldLoop Don.g Don.w Don.mk' l k L_k56 rfl h0 h1 hl fun v1 es i x q hx hxi hi hq0 hq1 => by
    have hxt := ht x hx
    have hw : x.w = 2 + x.tells.length := rfl
    have e1 : IntKind.i64.wrap (q + 1) = q + 1 := w64 (by omega) (by omega)
    have e2 : IntKind.i64.wrap (q + 1 + 1) = q + 1 + 1 := w64 (by omega) (by omega)
    refine WR.idxN (vs := [.i q,.i (q + 1),.l (dL (cnt (q + 1 + 1) x.tells.length))]) i hxi rfl rfl rfl rfl ?_
    refine WR.iteF (by show (!decide (q = q)) = false; simp) ?_
    refine WR.idxN (vs := [.i q,.i (q + 1),.l (dL (cnt (q + 1 + 1) x.tells.length))]) i hxi rfl rfl rfl rfl ?_
    refine WR.iteF (by show (!decide (q + 1 = IntKind.i64.wrap (q + 1))) = false; rw [e1]; simp) ?_
    refine WR.idxN (vs := [.i q,.i (q + 1),.l (dL (cnt (q + 1 + 1) x.tells.length))]) i hxi rfl rfl rfl rfl ?_
    simp only [sC,sN]
    refine WR.ev (vs := [.i (q + 1 + 1 + x.tells.length)]) (ev_heldIntS (q + 1 + 1) x.tells.length hxt (by omega) (by omega)) rfl ?_ rfl ?_
    · show [D.s (dL (cnt (q + 1 + 1) x.tells.length)),dI (IntKind.i64.wrap (IntKind.i64.wrap (q + 1) + 1))] = _
      rw [e1,e2]
    simp only [sC,sN]
    refine WR.iteF (by show decide (q + 1 + 1 + (x.tells.length : Int) < 0) = false; rw [decide_eq_false]; omega) ?_
    refine WR.nextA ?_ rfl
    show [V.i (q + 1 + 1 + x.tells.length),V.i (IntKind.i64.wrap ((i : Int) + 1))] = _
    rw [wS' (by omega),show q + 1 + 1 + (x.tells.length : Int) = q + (x.w : Nat) by rw [hw]; push_cast; omega]
structure Sit where
  up : Bool
  frozen : Bool
  round : Int
  base : List Int
  added : List Int
  done : List Don
  deriving DecidableEq
def Sit.cells (s : Sit) : List D := [dB s.up,dB s.frozen,dI s.round,.s (dL s.base),.s (dL s.added),.s (dDs s.done)]
theorem plnOk_n {p : Pln} (h : plnOk p = true) : 1 ≤ p.n ∧ p.n ≤ 4 ∧ p.start.length = 3 ∧ trtOk p.start p.gives = true := by
  simp only [plnOk,Bool.and_eq_true,inB_iff,allIn_iff] at h
  obtain ⟨⟨h1,h2⟩,_,⟨h3,_⟩,h4⟩ := h
  exact ⟨h1,h2,by omega,h4⟩
theorem wtPln_le (p : Pln) : wtPln p ≤ 4 * szPln p := by
  have := wtAs_le p.acts
  unfold wtPln szPln; omega
abbrev tyPlan : Ty := .st [.i .i64,.sl (.sl tyLine),tyInts,tyInts]
theorem plan_of {ds : List D} (h : TySh tyPlan ds) : ∃ p : Pln,ds = p.cells ∧ bigPln p := by
  obtain ⟨_,_,rfl,⟨n,rfl⟩,_,_,rfl,h1,_,_,rfl,h2,_,_,rfl,h3,rfl⟩ := h
  obtain ⟨as,rfl,ha⟩ := acts_of h1
  obtain ⟨g,rfl,hg⟩ := ints_of h2
  obtain ⟨s,rfl,hs⟩ := ints_of h3
  exact ⟨⟨n,as,g,s⟩,rfl,ha,hg,hs⟩
end Go.Proofs.YtgiejmanbmeloaaGreatDoor

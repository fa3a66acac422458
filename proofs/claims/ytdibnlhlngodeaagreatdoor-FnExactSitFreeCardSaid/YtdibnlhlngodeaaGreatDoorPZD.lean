import Derived.Test.YtdibnlhlngodeaaGreatDoorTd
import Derived.Test.YtdibnlhlngodeaaGreatDoorPQ
import Derived.Test.YtdibnlhlngodeaaGreatDoorPR
set_option linter.unusedVariables false
set_option linter.unusedSimpArgs false
/- Copies, comparisons, marks and sizes of acts: over residual programs. -/
namespace Go.Proofs.YtdibnlhlngodeaaGreatDoor
open Go Go.Tm
theorem ev_toIntS (l : List Int) (hl : l.length ≤ 2000000) : Ev L f_kb [.s (dL l)] [.s (dL l)] := by
  refine Ev.eq (vs := [.l (dL l)]) L_kb rfl ?_
  have hlen := dL_len l
  refine WR.chk (by show decide ((0 : Int) ≤ ((dL l).length : Int)) = true; simp) ?_
  refine WR.chkN (dL l) 2000000 (by omega) (by omega) rfl ?_
  refine WR.forP (dL l).length (fun i => [.l ((dL l).take i ++ List.replicate ((dL l).length - i) (dI 0)), .i i]) (fun _ => True) rfl ?_ trivial fun i hi _ => ?_
  · show [V.l (List.replicate ((dL l).length : Int).toNat (dI 0)), V.i 0] = _
    simp
  simp only [sCA, sNA]
  refine WR.iteLen i (ds := dL l) rfl rfl (fun h => ?_) (fun h => WR.esc (WR.done ?_))
  · obtain ⟨x, hx, _⟩ := some_at (show i < l.length by omega)
    refine WR.idxN i (map_at (f := dI) hx) rfl rfl rfl rfl ?_
    refine WR.atN (ds := (dL l).take i ++ List.replicate ((dL l).length - i) (dI 0)) i (fill_at h) rfl rfl rfl rfl rfl rfl ?_
    refine WR.nextA (vs := [.l ((dL l).take (i + 1) ++ List.replicate ((dL l).length - (i + 1)) (dI 0)), .i ((i + 1 : Nat) : Int)]) ?_ ⟨h, rfl, trivial⟩
    show [V.l (((dL l).take i ++ List.replicate ((dL l).length - i) (dI 0)).set (i : Int).toNat (dI x)), V.i (IntKind.i64.wrap ((i : Int) + 1))] = _
    rw [wS h (by omega), Int.toNat_natCast, fill_set (es := dL l) (map_at (f := dI) hx)]
  · show [D.s ((dL l).take i ++ List.replicate ((dL l).length - i) (dI 0))] = _
    rw [fill_end h]
theorem ev_toFrmForm (f : Frm) (hf : Frm.fit f) : Ev L f_kc f.cells f.cells := by
  refine Ev.eq (vs := [.l (dL f.c), .l (dL f.d), .i f.k]) L_kc rfl ?_
  refine WR.ev (ev_toIntS f.c hf.1) rfl rfl rfl ?_
  refine WR.ev (ev_toIntS f.d hf.2) rfl rfl rfl ?_
  exact WR.done rfl
theorem ev_toActLine (l : Line) (hf : Frm.fit l.f) : Ev L f_kd l.cells l.cells := by
  refine Ev.eq (vs := [.i l.kind, .i l.pot, .i l.skip, .l (dL l.f.c), .l (dL l.f.d), .i l.f.k]) L_kd rfl ?_
  refine WR.ev (ev_toFrmForm l.f hf) rfl rfl rfl ?_
  exact WR.done rfl
theorem ev_toActLineS (a : List Line) (ha : fitAct a) : Ev L f_ke [.s (dAct a)] [.s (dAct a)] := by
  refine Ev.eq (vs := [.l (dAct a)]) L_ke rfl ?_
  have hlen := dAct_len a
  have hl := ha.1
  refine WR.chk (by show decide ((0 : Int) ≤ ((dAct a).length : Int)) = true; simp) ?_
  refine WR.chkN (dAct a) 2000000 (by omega) (by omega) rfl ?_
  refine WR.forP (dAct a).length (fun i => [.l ((dAct a).take i ++ List.replicate ((dAct a).length - i) (Line.g ⟨0, 0, 0, Frm.none⟩)), .i i]) (fun _ => True) rfl ?_ trivial fun i hi _ => ?_
  · show [V.l (List.replicate ((dAct a).length : Int).toNat (Line.g ⟨0, 0, 0, Frm.none⟩)), V.i 0] = _
    simp
  simp only [sCA, sNA]
  refine WR.iteLen i (ds := dAct a) rfl rfl (fun h => ?_) (fun h => WR.esc (WR.done ?_))
  · obtain ⟨x, hx, hm⟩ := some_at (show i < a.length by omega)
    refine WR.idxN (vs := [.i x.kind, .i x.pot, .i x.skip, .l (dL x.f.c), .l (dL x.f.d), .i x.f.k]) i (map_at (f := Line.g) hx) rfl rfl rfl rfl ?_
    simp only [sCA, sNA]
    refine WR.ev (vs := [.i x.kind, .i x.pot, .i x.skip, .l (dL x.f.c), .l (dL x.f.d), .i x.f.k]) (ev_toActLine x (ha.2 x hm)) rfl rfl rfl ?_
    simp only [sCA, sNA]
    refine WR.atN (vs := [.i 0, .i 0, .i 0, .l [], .l [], .i 0]) (ds := (dAct a).take i ++ List.replicate ((dAct a).length - i) (Line.g ⟨0, 0, 0, Frm.none⟩)) i (fill_at h) rfl rfl rfl rfl rfl rfl ?_
    refine WR.nextA (vs := [.l ((dAct a).take (i + 1) ++ List.replicate ((dAct a).length - (i + 1)) (Line.g ⟨0, 0, 0, Frm.none⟩)), .i ((i + 1 : Nat) : Int)]) ?_ ⟨h, rfl, trivial⟩
    show [V.l (((dAct a).take i ++ List.replicate ((dAct a).length - i) (Line.g ⟨0, 0, 0, Frm.none⟩)).set (i : Int).toNat (Line.g x)), V.i (IntKind.i64.wrap ((i : Int) + 1))] = _
    rw [wS h (by omega), Int.toNat_natCast, fill_set (es := dAct a) (map_at (f := Line.g) hx)]
  · show [D.s ((dAct a).take i ++ List.replicate ((dAct a).length - i) (Line.g ⟨0, 0, 0, Frm.none⟩))] = _
    rw [fill_end h]
theorem ev_toActLineSS (as : List (List Line)) (ha : fitActs as) : Ev L f_kf [.s (dActs as)] [.s (dActs as)] := by
  refine Ev.eq (vs := [.l (dActs as)]) L_kf rfl ?_
  have hlen := dActs_len as
  have hl := ha.1
  refine WR.chk (by show decide ((0 : Int) ≤ ((dActs as).length : Int)) = true; simp) ?_
  refine WR.chkN (dActs as) 2000000 (by omega) (by omega) rfl ?_
  refine WR.forP (dActs as).length (fun i => [.l ((dActs as).take i ++ List.replicate ((dActs as).length - i) (D.s [])), .i i]) (fun _ => True) rfl ?_ trivial fun i hi _ => ?_
  · show [V.l (List.replicate ((dActs as).length : Int).toNat (D.s [])), V.i 0] = _
    simp
  simp only [sCA, sNA]
  refine WR.iteLen i (ds := dActs as) rfl rfl (fun h => ?_) (fun h => WR.esc (WR.done ?_))
  · obtain ⟨x, hx, hm⟩ := some_at (show i < as.length by omega)
    refine WR.idxN i (map_at (f := fun a => D.s (dAct a)) hx) rfl rfl rfl rfl ?_
    refine WR.ev (ev_toActLineS x (ha.2 x hm)) rfl rfl rfl ?_
    simp only [sCA, sNA]
    refine WR.atN (ds := (dActs as).take i ++ List.replicate ((dActs as).length - i) (D.s [])) i (fill_at h) rfl rfl rfl rfl rfl rfl ?_
    refine WR.nextA (vs := [.l ((dActs as).take (i + 1) ++ List.replicate ((dActs as).length - (i + 1)) (D.s [])), .i ((i + 1 : Nat) : Int)]) ?_ ⟨h, rfl, trivial⟩
    show [V.l (((dActs as).take i ++ List.replicate ((dActs as).length - i) (D.s [])).set (i : Int).toNat (.s (dAct x))), V.i (IntKind.i64.wrap ((i : Int) + 1))] = _
    rw [wS h (by omega), Int.toNat_natCast, fill_set (es := dActs as) (map_at (f := fun a => D.s (dAct a)) hx)]
  · show [D.s ((dActs as).take i ++ List.replicate ((dActs as).length - i) (D.s []))] = _
    rw [fill_end h]
theorem ev_eqIntS (a b : List Int) (hl : a.length ≤ 2000000) : Ev L f_k4f [.s (dL a), .s (dL b)] [dB (decide (a = b))] :=
  ev_same dI .i a b L_k4f rfl (fun _ => rfl) (fun _ _ _ _ _ => rfl) hl
theorem ev_eqFrmForm (f g : Frm) (hf : Frm.fit f) : Ev L f_k4g (f.cells ++ g.cells) [dB (decide (f = g))] := by
  refine Ev.eq (vs := [.l (dL f.c), .l (dL f.d), .i f.k, .l (dL g.c), .l (dL g.d), .i g.k]) L_k4g rfl ?_
  have e : decide (f = g) = (decide (f.c = g.c) && (decide (f.d = g.d) && decide (f.k = g.k))) := by
    obtain ⟨a, b, c⟩ := f
    obtain ⟨a', b', c'⟩ := g
    simp only [Frm.mk.injEq]
    by_cases h1 : a = a' <;> by_cases h2 : b = b' <;> by_cases h3 : c = c' <;> simp [h1, h2, h3]
  rw [e]
  refine WR.ev (ev_eqIntS f.c g.c hf.1) rfl rfl rfl ?_
  refine WR.iteN (decide (f.c = g.c)) rfl (fun h => WR.done ?_) (fun h => ?_)
  · show [dB false] = _
    rw [h]; rfl
  refine WR.ev (ev_eqIntS f.d g.d hf.2) rfl rfl rfl ?_
  refine WR.iteN (decide (f.d = g.d)) rfl (fun h2 => WR.done ?_) (fun h2 => ?_)
  · show [dB false] = _
    rw [h, h2]; rfl
  refine WR.iteN (decide (f.k = g.k)) rfl (fun h3 => WR.done ?_) (fun h3 => WR.done ?_)
  · show [dB false] = _
    rw [h, h2, h3]; rfl
  · show [dB true] = _
    rw [h, h2, h3]; rfl
theorem ev_eqActLine (a b : Line) (hf : Frm.fit a.f) : Ev L f_k4h (a.cells ++ b.cells) [dB (decide (a = b))] := by
  refine Ev.eq (vs := [.i a.kind, .i a.pot, .i a.skip, .l (dL a.f.c), .l (dL a.f.d), .i a.f.k, .i b.kind, .i b.pot, .i b.skip, .l (dL b.f.c), .l (dL b.f.d), .i b.f.k]) L_k4h rfl ?_
  have e : decide (a = b) = (decide (a.kind = b.kind) && (decide (a.pot = b.pot) && (decide (a.skip = b.skip) && decide (a.f = b.f)))) := by
    obtain ⟨a1, a2, a3, a4⟩ := a
    obtain ⟨b1, b2, b3, b4⟩ := b
    simp only [Line.mk.injEq]
    by_cases h1 : a1 = b1 <;> by_cases h2 : a2 = b2 <;> by_cases h3 : a3 = b3 <;> by_cases h4 : a4 = b4 <;> simp [h1, h2, h3, h4]
  rw [e]
  refine WR.iteN (decide (a.kind = b.kind)) rfl (fun h => WR.done ?_) (fun h => ?_)
  · show [dB false] = _
    rw [h]; rfl
  refine WR.iteN (decide (a.pot = b.pot)) rfl (fun h2 => WR.done ?_) (fun h2 => ?_)
  · show [dB false] = _
    rw [h, h2]; rfl
  refine WR.iteN (decide (a.skip = b.skip)) rfl (fun h3 => WR.done ?_) (fun h3 => ?_)
  · show [dB false] = _
    rw [h, h2, h3]; rfl
  refine WR.ev (ev_eqFrmForm a.f b.f hf) rfl rfl rfl ?_
  refine WR.iteN (decide (a.f = b.f)) rfl (fun h4 => WR.done ?_) (fun h4 => WR.done ?_)
  · show [dB false] = _
    rw [h, h2, h3, h4]; rfl
  · show [dB true] = _
    rw [h, h2, h3, h4]; rfl
theorem ev_eqActLineS (a b : List Line) (ha : fitAct a) : Ev L f_k4i [.s (dAct a), .s (dAct b)] [dB (decide (a = b))] :=
  ev_sameC (g := f_k4h) (sh := .g [.i .i64, .i .i64, .i .i64, .s, .s, .i .i64])
    (as := [(.vi .i64 (.v 3)), (.vi .i64 (.v 4)), (.vi .i64 (.v 5)), (.s (.v 6)), (.s (.v 7)), (.vi .i64 (.v 8)), (.vi .i64 (.v 9)), (.vi .i64 (.v 10)), (.vi .i64 (.v 11)), (.s (.v 12)), (.s (.v 13)), (.vi .i64 (.v 14))]) (k1 := 9) (k2 := 15)
    Line.g (fun x => [.i x.kind, .i x.pot, .i x.skip, .l (dL x.f.c), .l (dL x.f.d), .i x.f.k]) Line.cells a b
    L_k4i rfl (fun _ => rfl) (fun _ => rfl) (fun _ => rfl) (fun _ _ _ _ _ => rfl) (fun x hx y => ev_eqActLine x y (ha.2 x hx)) ha.1
theorem ev_eqActLineSS (a b : List (List Line)) (ha : fitActs a) : Ev L f_k4j [.s (dActs a), .s (dActs b)] [dB (decide (a = b))] :=
  ev_sameC (g := f_k4i) (sh := .one .s) (as := [(.s (.v 3)), (.s (.v 4))]) (k1 := 4) (k2 := 5) (fun x => .s (dAct x)) (fun x => [.l (dAct x)]) (fun x => [.s (dAct x)]) a b
    L_k4j rfl (fun _ => rfl) (fun _ => rfl) (fun _ => rfl) (fun _ _ _ _ _ => rfl) (fun x hx y => ev_eqActLineS x y (ha.2 x hx)) ha.1
end Go.Proofs.YtdibnlhlngodeaaGreatDoor

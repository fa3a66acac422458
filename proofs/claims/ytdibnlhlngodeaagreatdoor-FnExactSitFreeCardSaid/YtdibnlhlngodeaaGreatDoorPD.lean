import Derived.Test.YtdibnlhlngodeaaGreatDoorPC
import Derived.Test.YtdibnlhlngodeaaGreatDoorTd
set_option linter.unusedVariables false
set_option linter.unusedSimpArgs false
/- What says whether forms, lines, acts are ok. -/
namespace Go.Proofs.YtdibnlhlngodeaaGreatDoor
open Go Go.Tm
theorem ev_l1In (n a b : Int) : Ev L f_km [dI n, dI a, dI b] [dB (inB n a b)] := by
  refine Ev.eq (vs := [.i n, .i a, .i b]) L_km rfl ?_
  refine WR.iteP (a ≤ n) rfl (fun h => WR.done ?_) (fun h => WR.done ?_)
  · show [dB (decide (n ≤ b))] = _
    simp [inB, h]
  · show [dB false] = _
    simp [inB, h]
theorem ev_l1All (l : List Int) (n m : Int) (hl : l.length ≤ 2000000) (h0 : 0 ≤ m) (hm : m ≤ 10000000000000) : Ev L f_kn [.s (dL l), dI n, dI m] [dB (allIn n m l)] := by
  refine Ev.eq (vs := [.l (dL l), .i n, .i m]) L_kn rfl ?_
  have c0 : bol (envL [V.l (dL l), V.i n, V.i m]) (.not (.cmp .eq (.len (.v 0)) (.v 1))) = decide (¬ (l.length : Int) = n) := by
    simp [bol, den, V.bool, V.int, V.lst, CO.sem, envL, dL_len]
  refine WR.iteP (¬ (l.length : Int) = n) c0 (fun h => WR.done ?_) (fun h => ?_)
  · show [dB false] = _
    simp [allIn, h]
  have h : (l.length : Int) = n := by omega
  refine WR.loop (fun k vs => ∃ i : Int, vs = [.i i] ∧ 0 ≤ i ∧ i ≤ l.length ∧ (k : Int) = l.length - i ∧ (l.take i.toNat).all (fun x => inB x (0 - m) m) = true) rfl l.length ⟨0, rfl, by omega, by omega, by omega, by simp⟩ ?_
  rintro k _ ⟨i, rfl, i0, i1, hk, ha⟩
  refine WR.iteP (i < ((dL l).length : Int)) rfl (fun hi => ?_) (fun hi => ?_)
  · rw [dL_len] at hi
    refine WR.idxA (ds := dL l) i rfl rfl rfl i0 (dL_get i0 hi) rfl ?_
    have hx : l[i.toNat]? = some (l.getD i.toNat 0) := by simp [List.getD_eq_getElem?_getD, show i.toNat < l.length by omega]
    generalize l.getD i.toNat 0 = x at *
    refine WR.callA (args := [dI x, dI (0 - m), dI m]) rfl ?_ (ev_l1In x (0 - m) m) rfl ?_
    · show [dI x, dI (IntKind.i64.wrap (0 - m)), dI m] = _
      rw [w64 (by omega) (by omega)]
    refine WR.iteP (inB x (0 - m) m = false) ?_ (fun hb => ?_) (fun hb => ?_)
    · show (!(inB x (0 - m) m)) = _
      cases inB x (0 - m) m <;> rfl
    · refine WR.esc (WR.done ?_)
      show [dB false] = _
      have hna : l.all (fun x => inB x (0 - m) m) = false := all_not (p := fun x => inB x (0 - m) m) hx hb
      simp only [allIn, hna]; simp
    · refine WR.nextA (vs := [.i (i + 1)]) ?_ ⟨k - 1, by omega, i + 1, rfl, by omega, by omega, by omega, ?_⟩
      · show [V.i (IntKind.i64.wrap (i + 1))] = _
        rw [w64 (by omega) (by omega)]
      · rw [show (i + 1).toNat = i.toNat + 1 by omega]
        exact all_take hx ha (by simpa using hb)
  · rw [dL_len] at hi
    refine WR.esc (WR.done ?_)
    show [dB true] = _
    rw [List.take_of_length_le (by omega)] at ha
    simp only [allIn, h, ha]; simp
def Frm.fit (f : Frm) : Prop := f.c.length ≤ 2000000 ∧ f.d.length ≤ 2000000
theorem ev_l2Small (f : Frm) (hf : Frm.fit f) : Ev L f_ko f.cells [dB f.small] := by
  refine Ev.eq (vs := [.l (dL f.c), .l (dL f.d), .i f.k]) L_ko rfl ?_
  refine WR.callA (args := [.s (dL f.c), dI 3, dI 2]) rfl rfl (ev_l1All f.c 3 2 hf.1 (by omega) (by omega)) rfl ?_
  refine WR.iteB (allIn 3 2 f.c) rfl (fun h => ?_) (fun h => WR.done ?_)
  · refine WR.callA (args := [.s (dL f.d), dI 2, dI 2]) rfl rfl (ev_l1All f.d 2 2 hf.2 (by omega) (by omega)) rfl ?_
    refine WR.iteB (allIn 2 2 f.d) rfl (fun h2 => ?_) (fun h2 => WR.done ?_)
    · refine WR.callA (args := [dI f.k, dI (-20), dI 20]) rfl rfl (ev_l1In _ _ _) rfl ?_
      refine WR.done ?_
      show [dB (inB f.k (-20) 20)] = _
      simp [Frm.small, h, h2]
    · show [dB false] = _
      simp [Frm.small, h, h2]
  · show [dB false] = _
    simp [Frm.small, h]
theorem ev_FrmOk (f : Frm) (hf : Frm.fit f) : Ev L f_kz f.cells [dB f.ok] := by
  refine Ev.eq (vs := [.l (dL f.c), .l (dL f.d), .i f.k]) L_kz rfl ?_
  refine WR.callA (args := [.s (dL f.c), dI 3, dI 10000000]) rfl rfl (ev_l1All f.c 3 10000000 hf.1 (by omega) (by omega)) rfl ?_
  refine WR.iteB (allIn 3 10000000 f.c) rfl (fun h => ?_) (fun h => WR.done ?_)
  · refine WR.callA (args := [.s (dL f.d), dI 2, dI 10000000]) rfl rfl (ev_l1All f.d 2 10000000 hf.2 (by omega) (by omega)) rfl ?_
    refine WR.iteB (allIn 2 10000000 f.d) rfl (fun h2 => ?_) (fun h2 => WR.done ?_)
    · refine WR.callA (args := [dI f.k, dI (-10000000), dI 10000000]) rfl rfl (ev_l1In _ _ _) rfl ?_
      refine WR.done ?_
      show [dB (inB f.k (-10000000) 10000000)] = _
      simp [Frm.ok, h, h2]
    · show [dB false] = _
      simp [Frm.ok, h, h2]
  · show [dB false] = _
    simp [Frm.ok, h]
theorem ev_l2Line (l : Line) (hf : Frm.fit l.f) : Ev L f_kp l.cells [dB l.ok] := by
  refine Ev.eq (vs := [.i l.kind, .i l.pot, .i l.skip, .l (dL l.f.c), .l (dL l.f.d), .i l.f.k]) L_kp rfl ?_
  refine WR.iteP (l.kind = 1) rfl (fun h1 => ?_) (fun h1 => ?_)
  · refine WR.iteP (l.pot = 0) rfl (fun h2 => ?_) (fun h2 => WR.done ?_)
    · refine WR.callA (args := [dI l.skip, dI 1, dI 6]) rfl rfl (ev_l1In _ _ _) rfl ?_
      refine WR.iteB (inB l.skip 1 6) rfl (fun h3 => ?_) (fun h3 => WR.done ?_)
      · refine WR.callA (args := l.f.cells) rfl rfl (ev_l2Small l.f hf) rfl (WR.done ?_)
        show [dB l.f.small] = _
        simp [Line.ok, h1, h2, h3]
      · show [dB false] = _
        simp [Line.ok, h1, h2, h3]
    · show [dB false] = _
      simp [Line.ok, h1, h2]
  refine WR.iteP (l.kind = 2) rfl (fun h2 => ?_) (fun h2 => ?_)
  · refine WR.callA (args := [dI l.pot, dI 0, dI 2]) rfl rfl (ev_l1In _ _ _) rfl ?_
    refine WR.iteB (inB l.pot 0 2) rfl (fun h3 => ?_) (fun h3 => WR.done ?_)
    · refine WR.iteP (l.skip = 0) rfl (fun h4 => ?_) (fun h4 => WR.done ?_)
      · refine WR.callA (args := l.f.cells) rfl rfl (ev_l2Small l.f hf) rfl (WR.done ?_)
        show [dB l.f.small] = _
        simp [Line.ok, h2, h3, h4]
      · show [dB false] = _
        simp [Line.ok, h2, h3, h4]
    · show [dB false] = _
      simp [Line.ok, h2, h3]
  refine WR.iteP (l.kind = 3) rfl (fun h3 => ?_) (fun h3 => ?_)
  · refine WR.iteP (l.pot = 0) rfl (fun h4 => ?_) (fun h4 => WR.done ?_)
    · refine WR.iteP (l.skip = 0) rfl (fun h5 => ?_) (fun h5 => WR.done ?_)
      · refine WR.callA (args := l.f.cells) rfl rfl (ev_l2Small l.f hf) rfl (WR.done ?_)
        show [dB l.f.small] = _
        simp [Line.ok, h3, h4, h5]
      · show [dB false] = _
        simp [Line.ok, h3, h4, h5]
    · show [dB false] = _
      simp [Line.ok, h3, h4]
  refine WR.iteP (l.kind = 4) rfl (fun h4 => ?_) (fun h4 => WR.done ?_)
  · refine WR.iteP (l.pot = 0) rfl (fun h5 => ?_) (fun h5 => WR.done ?_)
    · refine WR.iteP (l.skip = 0) rfl (fun h6 => ?_) (fun h6 => WR.done ?_)
      · have hw : IntKind.i64.wrap (((dL l.f.c).length : Int) + (dL l.f.d).length) = l.f.c.length + l.f.d.length := by
          rw [dL_len, dL_len]; have := hf.1; have := hf.2; exact w64 (by omega) (by omega)
        refine WR.iteP (((l.f.c.length : Int) + l.f.d.length) = 0) ?_ (fun h7 => WR.done ?_) (fun h7 => WR.done ?_)
        · show decide (IntKind.i64.wrap (((dL l.f.c).length : Int) + (dL l.f.d).length) = 0) = _
          rw [hw]
        · show [dB (decide (l.f.k = 0))] = _
          simp only [Line.ok, h4, h5, h6, h7]; simp
        · show [dB false] = _
          simp only [Line.ok, h4, h5, h6, h7]; simp
      · show [dB false] = _
        simp [Line.ok, h4, h5, h6]
    · show [dB false] = _
      simp [Line.ok, h4, h5]
  · show [dB false] = _
    simp [Line.ok, h1, h2, h3, h4]
def fitAct (a : List Line) : Prop := a.length ≤ 2000000 ∧ ∀ l ∈ a, Frm.fit l.f
theorem dAct_get {a : List Line} {i : Int} (h0 : 0 ≤ i) (h1 : i < a.length) : ∃ x, a[i.toNat]? = some x ∧ (dAct a)[i.toNat]? = some x.g := map_get h0 h1
theorem ev_ActOk (a : List Line) (ha : fitAct a) : Ev L f_kq [.s (dAct a)] [dB (actOk a)] := by
  have hlen := ha.1
  refine Ev.eq (vs := [.l (dAct a)]) L_kq rfl ?_
  refine WR.loop (fun k vs => ∃ i : Int, vs = [.i (tests (a.take i.toNat)), .i i] ∧ 0 ≤ i ∧ i ≤ a.length ∧ (k : Int) = a.length - i ∧ (a.take i.toNat).all Line.ok = true) rfl a.length ⟨0, rfl, by omega, by omega, by omega, by simp⟩ ?_
  rintro k _ ⟨i, rfl, i0, i1, hk, hal⟩
  have htl : tests (a.take i.toNat) ≤ a.length := Nat.le_trans List.countP_le_length (by simp; omega)
  refine WR.iteP (i < ((dAct a).length : Int)) rfl (fun hi => ?_) (fun hi => ?_)
  · rw [dAct_len] at hi
    obtain ⟨x, hx, hd⟩ := dAct_get i0 hi
    have hfx := ha.2 x (List.mem_of_getElem? hx)
    refine WR.idxA (ds := dAct a) i rfl rfl rfl i0 hd rfl ?_
    refine WR.callA (args := x.cells) rfl rfl (ev_l2Line x hfx) rfl ?_
    refine WR.iteP (x.ok = false) ?_ (fun hb => ?_) (fun hb => ?_)
    · show (!x.ok) = _
      cases x.ok <;> rfl
    · refine WR.esc (WR.done ?_)
      show [dB false] = _
      simp [actOk, all_not hx hb]
    · have hb : x.ok = true := by simpa using hb
      refine WR.idxA (ds := dAct a) i rfl rfl rfl i0 hd rfl ?_
      have ht : tests (a.take (i + 1).toNat) = tests (a.take i.toNat) + if x.kind = 1 then 1 else 0 := by
        rw [show (i + 1).toNat = i.toNat + 1 by omega, take_succ hx]
        simp [tests, List.countP_append, List.countP_cons]
      have hal' : (a.take (i + 1).toNat).all Line.ok = true := by
        rw [show (i + 1).toNat = i.toNat + 1 by omega]; exact all_take hx hal hb
      refine WR.iteP (x.kind = 1) rfl (fun h1 => ?_) (fun h1 => ?_)
      · refine WR.nextA (vs := [.i (tests (a.take (i + 1).toNat)), .i (i + 1)]) ?_ ⟨k - 1, by omega, i + 1, rfl, by omega, by omega, by omega, hal'⟩
        show [V.i (IntKind.i64.wrap ((tests (a.take i.toNat) : Int) + 1)), V.i (IntKind.i64.wrap (i + 1))] = _
        rw [w64 (n := i + 1) (by omega) (by omega), w64 (by omega) (by omega), ht, if_pos h1]; rfl
      · refine WR.nextA (vs := [.i (tests (a.take (i + 1).toNat)), .i (i + 1)]) ?_ ⟨k - 1, by omega, i + 1, rfl, by omega, by omega, by omega, hal'⟩
        show [V.i (tests (a.take i.toNat) : Int), V.i (IntKind.i64.wrap (i + 1))] = _
        rw [w64 (n := i + 1) (by omega) (by omega), ht, if_neg h1]; rfl
  · rw [dAct_len] at hi
    rw [List.take_of_length_le (by omega)] at hal htl ⊢
    refine WR.esc ?_
    refine WR.iteP (((dAct a).length : Int) ≤ 6) rfl (fun h6 => WR.done ?_) (fun h6 => WR.done ?_)
    · rw [dAct_len] at h6
      show [dB (decide ((tests a : Int) ≤ 3))] = _
      simp only [actOk, hal, h6]; simp
    · rw [dAct_len] at h6
      show [dB false] = _
      simp only [actOk, h6]; simp
end Go.Proofs.YtdibnlhlngodeaaGreatDoor

import Derived.Test.YtdibnlhlngodeaaGreatDoorPL
import Derived.Test.YtdibnlhlngodeaaGreatDoorPH
set_option linter.unusedVariables false
set_option linter.unusedSimpArgs false
/- What the program's forms and acts come to. -/
namespace Go.Proofs.YtdibnlhlngodeaaGreatDoor
open Go Go.Tm
theorem head_dL (l : List Int) : headOk 1 (dL l) = true := by cases l <;> rfl
theorem head_dF (l : List Frm) : headOk 3 (dF l) = true := by cases l <;> rfl
theorem ev_clone1 (l : List Int) (hl : l.length ≤ 2000000) : Ev L f_k2k [.s (dL l)] [.s (dL l)] :=
  ev_clone L_k2k rfl (head_dL l) (by rw [dL_len]; exact hl) (by omega)
theorem ev_equal (a b : List Int) (hl : a.length ≤ 2000000) : Ev L f_k27 [.s (dL a), .s (dL b)] [dB (decide (a = b))] :=
  ev_same dI .i a b L_k27 rfl (fun _ => rfl) (fun _ _ _ _ _ => rfl) hl
theorem ev_copied (f : Frm) (hf : Frm.fit f) : Ev L f_k2l f.cells f.cells := by
  refine Ev.eq (vs := [.l (dL f.c), .l (dL f.d), .i f.k]) L_k2l rfl ?_
  refine WR.ev (ev_clone1 f.c hf.1) rfl rfl rfl ?_
  exact WR.ev (ev_clone1 f.d hf.2) rfl rfl rfl (WR.done rfl)
theorem flats_dL : ∀ l : List Int, flats (dL l) = true
  | [] => rfl
  | x :: l => flats_dL l
theorem ev_forms (l : List Frm) (hl : l.length ≤ 2000000) (hf : ∀ f ∈ l, Frm.fit f) : Ev L f_k2m [.s (dF l)] [.s (dF l)] := by
  refine Ev.eq (vs := [.l (dF l)]) L_k2m rfl ?_
  refine WR.forP l.length (fun i => [.l (dF (l.take i)), .i i]) (fun _ => True) rfl rfl trivial fun i hi _ => ?_
  refine WR.iteLen i (dF_len l) rfl (fun h => ?_) (fun h => ?_)
  · obtain ⟨x, hx, hm⟩ := some_at h
    refine WR.idxN i (map_at (f := Frm.g) hx) rfl rfl rfl rfl ?_
    refine WR.ev (ev_copied x (hf x hm)) rfl rfl rfl ?_
    refine WR.fl (flats_dL x.c) (WR.fl (flats_dL x.d) ?_)
    refine WR.chkApp (dF (l.take i)) 2000000 (by rw [dF_len]; simp; omega) (by omega) rfl ?_
    refine WR.nextA (vs := [.l (dF (l.take (i + 1))), .i ((i + 1 : Nat) : Int)]) ?_ ⟨h, rfl, trivial⟩
    show [V.l (dF (l.take i) ++ [x.g]), V.i (IntKind.i64.wrap ((i : Int) + 1))] = _
    rw [wS h (by omega), dF_snoc, take_succ hx]
  · refine WR.esc (WR.done ?_)
    show [D.s (dF (l.take i))] = _
    rw [take_all h]
theorem ev_ArgOk (l : List Int) (hl : l.length ≤ 2000000) : Ev L f_k41 [.s (dL l)] [dB (argOk l)] :=
  Ev.eq (vs := [.l (dL l)]) L_k41 rfl (WR.ev (ev_within l 2 9 hl (by omega) (by omega)) rfl rfl rfl (WR.done rfl))
theorem ev_iFrmOk (f : Frm) (hf : Frm.fit f) : Ev L f_k2n f.cells [dB f.ok] := by
  refine Ev.eq (vs := [.l (dL f.c), .l (dL f.d), .i f.k]) L_k2n rfl ?_
  refine WR.ev (ev_within f.c 3 10000000 hf.1 (by omega) (by omega)) rfl rfl rfl ?_
  refine WR.iteB (allIn 3 10000000 f.c) rfl (fun h => ?_) (fun h => WR.done ?_)
  · refine WR.ev (ev_within f.d 2 10000000 hf.2 (by omega) (by omega)) rfl rfl rfl ?_
    refine WR.iteB (allIn 2 10000000 f.d) rfl (fun h2 => ?_) (fun h2 => WR.done ?_)
    · refine WR.ev (ev_in f.k (-10000000) 10000000) rfl rfl rfl (WR.done ?_)
      show [dB (inB f.k (-10000000) 10000000)] = _
      simp [Frm.ok, h, h2]
    · show [dB false] = _
      simp [Frm.ok, h2]
  · show [dB false] = _
    simp [Frm.ok, h]
theorem ev_iSmall (f : Frm) (hf : Frm.fit f) : Ev L f_k26 f.cells [dB f.small] := by
  refine Ev.eq (vs := [.l (dL f.c), .l (dL f.d), .i f.k]) L_k26 rfl ?_
  refine WR.ev (ev_within f.c 3 2 hf.1 (by omega) (by omega)) rfl rfl rfl ?_
  refine WR.iteB (allIn 3 2 f.c) rfl (fun h => ?_) (fun h => WR.done ?_)
  · refine WR.ev (ev_within f.d 2 2 hf.2 (by omega) (by omega)) rfl rfl rfl ?_
    refine WR.iteB (allIn 2 2 f.d) rfl (fun h2 => ?_) (fun h2 => WR.done ?_)
    · refine WR.ev (ev_in f.k (-20) 20) rfl rfl rfl (WR.done ?_)
      show [dB (inB f.k (-20) 20)] = _
      simp [Frm.small, h, h2]
    · show [dB false] = _
      simp [Frm.small, h2]
  · show [dB false] = _
    simp [Frm.small, h]
theorem ev_iSame (f g : Frm) (hf : Frm.fit f) : Ev L f_k28 (f.cells ++ g.cells) [dB (decide (f = g))] := by
  refine Ev.eq (vs := [.l (dL f.c), .l (dL f.d), .i f.k, .l (dL g.c), .l (dL g.d), .i g.k]) L_k28 rfl ?_
  have e : decide (f = g) = (decide (f.k = g.k) && decide (f.c = g.c) && decide (f.d = g.d)) := by
    obtain ⟨a, b, c⟩ := f
    obtain ⟨a', b', c'⟩ := g
    simp only [Frm.mk.injEq]
    by_cases h1 : a = a' <;> by_cases h2 : b = b' <;> by_cases h3 : c = c' <;> simp [h1, h2, h3]
  rw [e]
  refine WR.iteP (f.k = g.k) rfl (fun h => ?_) (fun h => WR.done ?_)
  · refine WR.ev (ev_equal f.c g.c hf.1) rfl rfl rfl ?_
    refine WR.iteB (decide (f.c = g.c)) rfl (fun h2 => ?_) (fun h2 => WR.done ?_)
    · refine WR.ev (ev_equal f.d g.d hf.2) rfl rfl rfl (WR.done ?_)
      show [dB (decide (f.d = g.d))] = _
      simp only [h, h2]; simp
    · show [dB false] = _
      simp only [h2]; simp
  · show [dB false] = _
    simp only [h]; simp
theorem ev_iLine (l : Line) (hf : Frm.fit l.f) : Ev L f_k29 l.cells [dB l.ok] := by
  refine Ev.eq (vs := [.i l.kind, .i l.pot, .i l.skip, .l (dL l.f.c), .l (dL l.f.d), .i l.f.k]) L_k29 rfl ?_
  refine WR.iteP (l.kind = 1) rfl (fun h1 => ?_) (fun h1 => ?_)
  · refine WR.ev (ev_in l.skip 1 6) rfl rfl rfl ?_
    refine WR.iteB (inB l.skip 1 6) rfl (fun h3 => ?_) (fun h3 => WR.done ?_)
    · refine WR.iteP (l.pot = 0) rfl (fun h2 => ?_) (fun h2 => WR.done ?_)
      · refine WR.ev (ev_iSmall l.f hf) rfl rfl rfl (WR.done ?_)
        show [dB l.f.small] = _
        simp [Line.ok, h1, h2, h3]
      · show [dB false] = _
        simp [Line.ok, h1, h2]
    · show [dB false] = _
      simp [Line.ok, h1, h3]
  refine WR.iteP (l.kind = 2) rfl (fun h2 => ?_) (fun h2 => ?_)
  · refine WR.ev (ev_in l.pot 0 2) rfl rfl rfl ?_
    refine WR.iteB (inB l.pot 0 2) rfl (fun h3 => ?_) (fun h3 => WR.done ?_)
    · refine WR.iteP (l.skip = 0) rfl (fun h4 => ?_) (fun h4 => WR.done ?_)
      · refine WR.ev (ev_iSmall l.f hf) rfl rfl rfl (WR.done ?_)
        show [dB l.f.small] = _
        simp [Line.ok, h2, h3, h4]
      · show [dB false] = _
        simp [Line.ok, h2, h4]
    · show [dB false] = _
      simp [Line.ok, h2, h3]
  refine WR.iteP (l.kind = 3) rfl (fun h3 => ?_) (fun h3 => ?_)
  · refine WR.iteP (l.pot = 0) rfl (fun h4 => ?_) (fun h4 => WR.done ?_)
    · refine WR.iteP (l.skip = 0) rfl (fun h5 => ?_) (fun h5 => WR.done ?_)
      · refine WR.ev (ev_iSmall l.f hf) rfl rfl rfl (WR.done ?_)
        show [dB l.f.small] = _
        simp [Line.ok, h3, h4, h5]
      · show [dB false] = _
        simp [Line.ok, h3, h5]
    · show [dB false] = _
      simp [Line.ok, h3, h4]
  refine WR.iteP (l.kind = 4) rfl (fun h4 => ?_) (fun h4 => WR.done ?_)
  · refine WR.iteP (l.pot = 0) rfl (fun h5 => ?_) (fun h5 => WR.done ?_)
    · refine WR.iteP (l.skip = 0) rfl (fun h6 => ?_) (fun h6 => WR.done ?_)
      · refine WR.ev (ev_iSame l.f Frm.none hf) rfl rfl rfl (WR.done ?_)
        show [dB (decide (l.f = Frm.none))] = _
        have e : decide (l.f = Frm.none) = (decide (((l.f.c.length : Int) + l.f.d.length) = 0) && decide (l.f.k = 0)) := by
          obtain ⟨a, b, c⟩ := l.f
          have e1 : (Frm.mk a b c = Frm.none) ↔ ((((a.length : Int) + b.length) = 0) ∧ c = 0) := by
            simp only [Frm.none, Frm.mk.injEq]
            constructor
            · rintro ⟨rfl, rfl, rfl⟩; exact ⟨rfl, rfl⟩
            · rintro ⟨h, rfl⟩
              exact ⟨List.length_eq_zero_iff.1 (by omega), List.length_eq_zero_iff.1 (by omega), rfl⟩
          by_cases h : Frm.mk a b c = Frm.none
          · have := e1.1 h
            rw [decide_eq_true h, decide_eq_true this.1, decide_eq_true this.2]; rfl
          · rw [decide_eq_false h]
            symm
            rw [Bool.and_eq_false_iff]
            by_cases h1 : ((a.length : Int) + b.length) = 0
            · right
              simp only [decide_eq_false_iff_not]
              intro h2
              exact h (e1.2 ⟨h1, h2⟩)
            · left; simpa using h1
        rw [e]
        simp only [Line.ok, h4, h5, h6]; simp
      · show [dB false] = _
        simp [Line.ok, h4, h6]
    · show [dB false] = _
      simp [Line.ok, h4, h5]
  · show [dB false] = _
    simp [Line.ok, h1, h2, h3, h4]
theorem tests_succ {a : List Line} {i : Nat} {x : Line} (hx : a[i]? = some x) : tests (a.take (i + 1)) = tests (a.take i) + if x.kind = 1 then 1 else 0 := by
  rw [take_succ hx]
  simp [tests, List.countP_append, List.countP_cons]
theorem ev_iActOk (a : List Line) (ha : fitAct a) : Ev L f_k2a [.s (dAct a)] [dB (actOk a)] := by
  have hlen := ha.1
  refine Ev.eq (vs := [.l (dAct a)]) L_k2a rfl ?_
  refine WR.forP a.length (fun i => [.i (tests (a.take i)), .i i]) (fun i => (a.take i).all Line.ok = true) rfl rfl (by simp) fun i hi hal => ?_
  have htl : tests (a.take i) ≤ a.length := Nat.le_trans List.countP_le_length (by simp; omega)
  refine WR.iteLen i (dAct_len a) rfl (fun h => ?_) (fun h => ?_)
  · obtain ⟨x, hx, hm⟩ := some_at h
    refine WR.idxN i (map_at (f := Line.g) hx) rfl rfl rfl rfl ?_
    refine WR.ev (ev_iLine x (ha.2 x hm)) rfl rfl rfl ?_
    refine WR.iteN x.ok rfl (fun hb => WR.esc (WR.done ?_)) (fun hb => ?_)
    · show [dB false] = _
      simp [actOk, all_not hx hb]
    · have ht := tests_succ hx
      refine WR.iteP (x.kind = 1) rfl (fun h1 => ?_) (fun h1 => ?_)
      · refine WR.nextA (vs := [.i (tests (a.take (i + 1))), .i ((i + 1 : Nat) : Int)]) ?_ ⟨h, rfl, all_take hx hal hb⟩
        show [V.i (IntKind.i64.wrap ((tests (a.take i) : Int) + 1)), V.i (IntKind.i64.wrap ((i : Int) + 1))] = _
        rw [wS h (by omega), w64 (by omega) (by omega), ht, if_pos h1]; rfl
      · refine WR.nextA (vs := [.i (tests (a.take (i + 1))), .i ((i + 1 : Nat) : Int)]) ?_ ⟨h, rfl, all_take hx hal hb⟩
        show [V.i (tests (a.take i) : Int), V.i (IntKind.i64.wrap ((i : Int) + 1))] = _
        rw [wS h (by omega), ht, if_neg h1]; rfl
  · rw [take_all h] at hal htl ⊢
    refine WR.esc ?_
    refine WR.iteP (((dAct a).length : Int) ≤ 6) rfl (fun h6 => WR.done ?_) (fun h6 => WR.done ?_)
    · rw [dAct_len] at h6
      show [dB (decide ((tests a : Int) ≤ 3))] = _
      simp only [actOk, hal, h6]; simp
    · rw [dAct_len] at h6
      show [dB false] = _
      simp only [actOk, h6]; simp
theorem ev_iZero : Ev L f_k2i [] Frm.zero.cells := Ev.eq (vs := []) L_k2i rfl (WR.done rfl)
theorem ev_iPot (v : Int) (h0 : 0 ≤ v) (h2 : v ≤ 2) : Ev L f_k2j [dI v] (potF v.toNat).cells := by
  refine Ev.eq (vs := [.i v]) L_k2j rfl ?_
  refine WR.ev (ev_in v 0 2) rfl rfl rfl ?_
  refine WR.iteF (by show (!(inB v 0 2)) = false; simp [inB, h0, h2]) ?_
  refine WR.ev ev_iZero rfl rfl rfl ?_
  refine WR.chkP (0 ≤ v) rfl h0 ?_
  refine WR.chkP (v < ((dL [0, 0, 0]).length : Int)) rfl (by simp [dL]; omega) ?_
  refine WR.idxA (ds := dL [0, 0, 0]) v rfl rfl rfl h0 (dL_get h0 (by simp; omega)) rfl ?_
  refine WR.done ?_
  show [D.s ((dL [0, 0, 0]).set v.toNat (dI 1)), .s (dL [0, 0]), dI 0] = _
  rw [dL_set]; rfl
def addU (a b : List Int) (n : Int) : List Int := addL a b n ++ a.drop b.length
theorem addU_eq {a b : List Int} {n : Int} (h : b.length = a.length) : addU a b n = addL a b n := by simp [addU, h]
theorem addU_nil (a : List Int) (n : Int) : addU a [] n = a := by simp [addU, addL]
theorem addU_step {a b : List Int} {n : Int} {i : Nat} {x y : Int} (hl : b.length ≤ a.length) (hx : a[i]? = some x) (hy : b[i]? = some y) :
    (addL a (b.take i) n ++ a.drop i)[i]? = some x ∧ (addL a (b.take i) n ++ a.drop i).set i (x + n * y) = addL a (b.take (i + 1)) n ++ a.drop (i + 1) := by
  have hi := (List.getElem?_eq_some_iff.1 hy).1
  have h1 : (addL a (b.take i) n).length = i := by rw [addL_len]; simp; omega
  have hz : ∀ (l : List Int), l.length = i → addL a l n = addL (a.take i) l n := by
    intro l hl
    unfold addL
    conv => lhs; rw [← List.take_append_drop i a]
    rw [show l = l ++ [] by simp]
    rw [List.zipWith_append (by simp; omega)]
    simp
  refine ⟨by rw [List.getElem?_append_right (by omega), h1, Nat.sub_self, List.getElem?_drop, Nat.add_zero]; exact hx, ?_⟩
  rw [List.set_append_right _ _ (by omega), h1, Nat.sub_self, drop_cons hx, List.set_cons_zero, take_succ hy]
  have h2 : addL a (b.take i ++ [y]) n = addL a (b.take i) n ++ [x + n * y] := by
    unfold addL
    conv => lhs; rw [← List.take_append_drop i a]
    rw [List.zipWith_append (by simp; omega), drop_cons hx]
    congr 1
    · have := hz (b.take i) (by simp; omega)
      unfold addL at this
      exact this.symm
    · simp
  rw [h2, List.append_assoc]; rfl
theorem ev_add {a b : Frm} {n M : Int} (hac : Lim M a.c) (had : Lim M a.d) (hak : -M ≤ a.k ∧ a.k ≤ M) (hbc : Lim M b.c) (hbd : Lim M b.d) (hbk : -M ≤ b.k ∧ b.k ≤ M) (hl : b.c.length ≤ a.c.length) (hl2 : b.d.length ≤ a.d.length) (h9 : a.c.length ≤ 1000) (h92 : a.d.length ≤ 1000)
    (hM : M ≤ 1000000000) (hn : -1000000000 ≤ n ∧ n ≤ 1000000000) :
    Ev L f_k2r (a.cells ++ b.cells ++ [dI n]) [dI (a.k + n * b.k), .s (dL (addU a.c b.c n)), .s (dL (addU a.d b.d n))] := by
  refine Ev.eq (vs := [.l (dL a.c), .l (dL a.d), .i a.k, .l (dL b.c), .l (dL b.d), .i b.k, .i n]) L_k2r rfl ?_
  refine WR.forP b.c.length (fun i => [.l (dL (addL a.c (b.c.take i) n ++ a.c.drop i)), .i i]) (fun _ => True) rfl (by simp [addL, den, envL, V.int]) trivial fun i hi _ => ?_
  simp only [sCA, sNA]
  refine WR.iteLen i (dL_len b.c) rfl (fun h => ?_) (fun h => ?_)
  · obtain ⟨x, hx, hmx⟩ := some_at (show i < a.c.length by omega)
    obtain ⟨y, hy, hmy⟩ := some_at h
    obtain ⟨s1, s2⟩ := addU_step (n := n) hl hx hy
    refine WR.idxN i (map_at (f := dI) hy) rfl rfl rfl rfl ?_
    refine WR.atN i (map_at (f := dI) s1) rfl rfl rfl rfl rfl rfl ?_
    refine WR.atN i (map_at (f := dI) s1) rfl rfl rfl rfl rfl rfl ?_
    refine WR.nextA (vs := [.l (dL (addL a.c (b.c.take (i + 1)) n ++ a.c.drop (i + 1))), .i ((i + 1 : Nat) : Int)]) ?_ ⟨h, rfl, trivial⟩
    show [V.l ((dL (addL a.c (b.c.take i) n ++ a.c.drop i)).set (i : Int).toNat (dI (IntKind.i64.wrap (x + IntKind.i64.wrap (n * y))))), V.i (IntKind.i64.wrap ((i : Int) + 1))] = _
    rw [wS h (by omega), wrapsum (hac x hmx) (hbc y hmy) hn hM (by omega), dL_set, Int.toNat_natCast, s2]
  refine WR.esc ?_
  have hc : addL a.c (b.c.take i) n ++ a.c.drop i = addU a.c b.c n := by rw [take_all h, show i = b.c.length by omega]; rfl
  rw [hc]
  refine WR.forP b.d.length (fun i => [.l (dL (addL a.d (b.d.take i) n ++ a.d.drop i)), .i i]) (fun _ => True) rfl (by simp [addL, den, envL, V.int]) trivial fun i hi _ => ?_
  simp only [sCA, sNA]
  refine WR.iteLen i (dL_len b.d) rfl (fun h => ?_) (fun h => ?_)
  · obtain ⟨x, hx, hmx⟩ := some_at (show i < a.d.length by omega)
    obtain ⟨y, hy, hmy⟩ := some_at h
    obtain ⟨s1, s2⟩ := addU_step (n := n) hl2 hx hy
    refine WR.idxN i (map_at (f := dI) hy) rfl rfl rfl rfl ?_
    refine WR.atN i (map_at (f := dI) s1) rfl rfl rfl rfl rfl rfl ?_
    refine WR.atN i (map_at (f := dI) s1) rfl rfl rfl rfl rfl rfl ?_
    refine WR.nextA (vs := [.l (dL (addL a.d (b.d.take (i + 1)) n ++ a.d.drop (i + 1))), .i ((i + 1 : Nat) : Int)]) ?_ ⟨h, rfl, trivial⟩
    show [V.l ((dL (addL a.d (b.d.take i) n ++ a.d.drop i)).set (i : Int).toNat (dI (IntKind.i64.wrap (x + IntKind.i64.wrap (n * y))))), V.i (IntKind.i64.wrap ((i : Int) + 1))] = _
    rw [wS h (by omega), wrapsum (had x hmx) (hbd y hmy) hn hM (by omega), dL_set, Int.toNat_natCast, s2]
  refine WR.esc (WR.done ?_)
  have hd : addL a.d (b.d.take i) n ++ a.d.drop i = addU a.d b.d n := by rw [take_all h, show i = b.d.length by omega]; rfl
  show [dI (IntKind.i64.wrap (a.k + IntKind.i64.wrap (n * b.k))), .s (dL (addU a.c b.c n)), .s (dL (addL a.d (b.d.take i) n ++ a.d.drop i))] = _
  rw [hd, wrapsum hak hbk hn hM (by omega)]
theorem ev_addS {a b : Frm} {n M : Int} (ha : Std M a) (hb : Std M b) (hM : M ≤ 1000000000) (hn : -1000000000 ≤ n ∧ n ≤ 1000000000) :
    Ev L f_k2r (a.cells ++ b.cells ++ [dI n]) [dI (sumF a b n).k, .s (dL (sumF a b n).c), .s (dL (sumF a b n).d)] := by
  have := ev_add (n := n) ha.lc ha.ld ha.k hb.lc hb.ld hb.k (by rw [ha.c, hb.c]; omega) (by rw [ha.d, hb.d]; omega) (by rw [ha.c]; omega) (by rw [ha.d]; omega) hM hn
  rw [addU_eq (by rw [ha.c, hb.c]), addU_eq (by rw [ha.d, hb.d])] at this
  exact this
theorem ev_checked {f : Frm} {M : Int} (hf : Std M f) (hM : M ≤ 10000000) : Ev L f_k2s f.cells f.cells := by
  refine Ev.eq (vs := [.l (dL f.c), .l (dL f.d), .i f.k]) L_k2s rfl ?_
  have e := ev_iFrmOk f hf.fit
  rw [hf.okF hM] at e
  exact WR.ev e rfl rfl rfl (WR.iteF rfl (WR.done rfl))
theorem ev_iTimes {f : Frm} {M n : Int} (hf : Std M f) (hM : M ≤ 10000000) (hn : -1 ≤ n ∧ n ≤ 1) (h0 : 0 ≤ M) : Ev L f_k2u (f.cells ++ [dI n]) (sumF Frm.zero f n).cells := by
  refine Ev.eq (vs := [.l (dL f.c), .l (dL f.d), .i f.k, .i n]) L_k2u rfl ?_
  have e := ev_iFrmOk f hf.fit
  rw [hf.okF hM] at e
  refine WR.ev e rfl rfl rfl (WR.iteF rfl ?_)
  refine WR.ev (ev_in n (-10000000) 10000000) rfl rfl rfl ?_
  refine WR.iteF (by show (!(inB n (-10000000) 10000000)) = false; simp [inB]; omega) ?_
  refine WR.ev ev_iZero rfl rfl rfl ?_
  refine WR.ev (ev_addS (zero_std.mono h0) hf (by omega) (n := n) (by omega)) rfl rfl rfl ?_
  have hs := sumF_std zero_std hf (n := n) (N := 1) (by omega)
  exact WR.ev (ev_checked (hs.mono (by omega)) hM) rfl rfl rfl (WR.done rfl)
theorem sumF_zero_zero {f g : Frm} {M N : Int} (hf : Std M f) (hg : Std N g) (n : Int) : sumF f (sumF Frm.zero g n) 1 = sumF f g n := by
  obtain ⟨c, d, k⟩ := f
  obtain ⟨c', d', k'⟩ := g
  obtain ⟨a1, a2, a3, rfl⟩ := len3 hf.c
  obtain ⟨b1, b2, rfl⟩ := len2 hf.d
  obtain ⟨a1', a2', a3', rfl⟩ := len3 hg.c
  obtain ⟨b1', b2', rfl⟩ := len2 hg.d
  simp [sumF, addL, Frm.zero]
theorem ev_iAdd {f g : Frm} {M : Int} (hf : Std M f) (hg : Std M g) (h0 : 0 ≤ M) (hM : 2 * M ≤ 10000000) : Ev L f_k2v (f.cells ++ g.cells) (sumF f g 1).cells := by
  refine Ev.eq (vs := [.l (dL f.c), .l (dL f.d), .i f.k, .l (dL g.c), .l (dL g.d), .i g.k]) L_k2v rfl ?_
  have e := ev_iFrmOk f hf.fit
  rw [hf.okF (by omega)] at e
  have e2 := ev_iFrmOk g hg.fit
  rw [hg.okF (by omega)] at e2
  refine WR.ev e rfl rfl rfl (WR.iteF rfl ?_)
  refine WR.ev e2 rfl rfl rfl (WR.iteF rfl ?_)
  refine WR.ev ev_iZero rfl rfl rfl ?_
  have e3 := ev_addS (zero_std.mono h0) hf (by omega) (n := 1) (by omega)
  rw [sumF_zero hf] at e3
  refine WR.ev e3 rfl rfl rfl ?_
  simp only [sCA, sNA]
  refine WR.ev (ev_addS hf hg (by omega) (n := 1) (by omega)) rfl rfl rfl ?_
  have hs := sumF_std hf hg (n := 1) (N := 1) (by omega)
  exact WR.ev (ev_checked hs (by omega)) rfl rfl rfl (WR.done rfl)
end Go.Proofs.YtdibnlhlngodeaaGreatDoor

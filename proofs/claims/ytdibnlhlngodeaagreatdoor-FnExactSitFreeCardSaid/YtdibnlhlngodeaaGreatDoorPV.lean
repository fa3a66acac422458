import Derived.Test.YtdibnlhlngodeaaGreatDoorPT
import Derived.Test.YtdibnlhlngodeaaGreatDoorPM
import Derived.Test.YtdibnlhlngodeaaGreatDoorTd
set_option linter.unusedVariables false
set_option linter.unusedSimpArgs false
/- What one site knows is so for all; who is alone knows all: over residual programs. -/
namespace Go.Proofs.YtdibnlhlngodeaaGreatDoor
open Go Go.Tm
theorem ev_iOthers (b g : List Int) (s : Int) (hg : ∀ x ∈ g, 0 ≤ x ∧ x ≤ 50) (hl : g.length ≤ 2000000) : Ev L f_k46 [.s (dL b), .s (dL g), dI s] [dI (othersM g s)] := by
  refine Ev.eq (vs := [.l (dL b), .l (dL g), .i s]) L_k46 rfl ?_
  refine WR.forP g.length (fun i => [.i (othersM (g.take i) s), .i i]) (fun _ => True) rfl rfl trivial fun i hi _ => ?_
  simp only [sCA, sNA]
  refine WR.iteLen i (dL_len g) rfl (fun h => ?_) (fun h => ?_)
  · obtain ⟨x, hx, hm⟩ := some_at h
    have hst := others_step (s := s) hx
    have hle := others_le (s := s) hg i hi
    have hxb := hg x hm
    refine WR.idxN i (map_at (f := dI) hx) rfl rfl rfl rfl ?_
    refine WR.iteN (decide ((i : Int) = s)) rfl (fun hs => ?_) (fun hs => ?_)
    · refine WR.nextA (vs := [.i (othersM (g.take (i + 1)) s), .i ((i + 1 : Nat) : Int)]) ?_ ⟨h, rfl, trivial⟩
      show [V.i (IntKind.i64.wrap (othersM (g.take i) s + x)), V.i (IntKind.i64.wrap ((i : Int) + 1))] = _
      rw [wS h (by omega), hst, if_neg (by simpa using hs), w64 (by omega) (by omega)]
    · refine WR.nextA (vs := [.i (othersM (g.take (i + 1)) s), .i ((i + 1 : Nat) : Int)]) ?_ ⟨h, rfl, trivial⟩
      show [V.i (othersM (g.take i) s), V.i (IntKind.i64.wrap ((i : Int) + 1))] = _
      rw [wS h (by omega), hst, if_pos (by simpa using hs), Int.add_zero]
  · refine WR.esc (WR.done ?_)
    rw [take_all h]; rfl
theorem ev_sOthers (b g : List Int) (s : Int) (hg : ∀ x ∈ g, 0 ≤ x ∧ x ≤ 50) (hl : g.length ≤ 2000000) : Ev L f_k1q [.s (dL b), .s (dL g), dI s] [dI (othersM g s)] := by
  refine Ev.eq (vs := [.l (dL b), .l (dL g), .i s]) L_k1q rfl ?_
  refine WR.forP g.length (fun i => [.i (othersM (g.take i) s), .i i]) (fun _ => True) rfl rfl trivial fun i hi _ => ?_
  simp only [sCA, sNA]
  refine WR.iteLen i (dL_len g) rfl (fun h => ?_) (fun h => ?_)
  · obtain ⟨x, hx, hm⟩ := some_at h
    have hst := others_step (s := s) hx
    have hle := others_le (s := s) hg i hi
    have hxb := hg x hm
    refine WR.iteN (decide ((i : Int) = s)) rfl (fun hs => ?_) (fun hs => ?_)
    · refine WR.idxN i (map_at (f := dI) hx) rfl rfl rfl rfl ?_
      refine WR.nextA (vs := [.i (othersM (g.take (i + 1)) s), .i ((i + 1 : Nat) : Int)]) ?_ ⟨h, rfl, trivial⟩
      show [V.i (IntKind.i64.wrap (othersM (g.take i) s + x)), V.i (IntKind.i64.wrap ((i : Int) + 1))] = _
      rw [wS h (by omega), hst, if_neg (by simpa using hs), w64 (by omega) (by omega)]
    · refine WR.nextA (vs := [.i (othersM (g.take (i + 1)) s), .i ((i + 1 : Nat) : Int)]) ?_ ⟨h, rfl, trivial⟩
      show [V.i (othersM (g.take i) s), V.i (IntKind.i64.wrap ((i : Int) + 1))] = _
      rw [wS h (by omega), hst, if_pos (by simpa using hs), Int.add_zero]
  · refine WR.esc (WR.done ?_)
    rw [take_all h]; rfl
def B3 (r : Int × Int × Bool) : List D := [dI r.1, dI r.2.1, dB r.2.2]
theorem sumL_lim {a b : List Int} {A B : Int} (ha : Lim A a) (hb : Lim B b) : Lim (A + B) (sumL a b) := by
  have := addL_lim (n := 1) (N := 1) ha hb (by omega)
  have e : addL a b 1 = sumL a b := by
    unfold addL sumL
    congr 1
    funext x y; omega
  rw [e] at this
  exact this.mono (by omega)
theorem AtFit.here {f : Frm} {b a w : List Int} (hf : f.ok = true) (hb : valOk b = true) (ha : addedOk a = true) (hw : argOk w = true) : AtFit f (sumL b a) w := by
  have hs := ok_std hf
  obtain ⟨b1, b2⟩ := valOk_iff.1 hb
  obtain ⟨a1, a2⟩ := allIn_iff.1 ha
  obtain ⟨w1, w2⟩ := argOk_iff.1 hw
  refine ⟨hs.c, hs.d, by rw [sumL_len (by omega)]; exact b1, w1, 10000000, 30000, by omega, by omega, by omega, hs.lc, hs.ld, (sumL_lim b2 (B := 20000) a2).mono (by omega), w2.mono (by omega), by have := hs.k; omega⟩
theorem ev_sAt {f : Frm} {v w : List Int} (h : AtFit f v w) : Ev L f_k1p (f.cells ++ [.s (dL v), .s (dL w)]) [dI (atF f v w)] := by
  obtain ⟨A, B, hA, hB, hAB, h1, h2, h3, h4, h5⟩ := h.a
  have h0 : 0 ≤ A * B := Int.mul_nonneg hA hB
  have c3 := h.c
  have d2 := h.d
  have v3 := h.v3
  have w2 := h.w2
  have lim : ∀ (c x : List Int) (i : Nat), Lim A c → Lim B x → i ≤ 3 → -3000000000000000 ≤ dot (c.take i) (x.take i) ∧ dot (c.take i) (x.take i) ≤ 3000000000000000 := by
    intro c x i hc hx hi
    have := dot_lim (hc.take i) (hx.take i) hA hB
    have hl : ((c.take i).length : Int) ≤ 3 := by simp; omega
    have := Int.mul_le_mul_of_nonneg_left hl h0
    omega
  refine Ev.eq (vs := [.l (dL f.c), .l (dL f.d), .i f.k, .l (dL v), .l (dL w)]) L_k1p rfl ?_
  refine WR.forP 3 (fun i => [.i (f.k + dot (f.c.take i) (v.take i)), .i i]) (fun _ => True) rfl (by simp [dot, den, envL, V.int]) trivial fun i hi _ => ?_
  simp only [sCA, sNA]
  refine WR.iteLt i 3 rfl (fun hi3 => ?_) (fun hi3 => ?_)
  · obtain ⟨x, hx, hmx⟩ := some_at (show i < f.c.length by omega)
    obtain ⟨y, hy, hmy⟩ := some_at (show i < v.length by omega)
    have hp := mul_lim (h1 x hmx) (h3 y hmy)
    have hl := lim f.c v i h1 h3 hi
    refine WR.idxN i (map_at (f := dI) hx) rfl rfl rfl rfl ?_
    refine WR.idxN i (map_at (f := dI) hy) rfl rfl rfl rfl ?_
    refine WR.nextA (vs := [.i (f.k + dot (f.c.take (i + 1)) (v.take (i + 1))), .i ((i + 1 : Nat) : Int)]) ?_ ⟨hi3, rfl, trivial⟩
    show [V.i (IntKind.i64.wrap (f.k + dot (f.c.take i) (v.take i) + IntKind.i64.wrap (x * y))), V.i (IntKind.i64.wrap ((i : Int) + 1))] = _
    rw [wS hi3 (by omega), w64 (n := x * y) (by omega) (by omega), w64 (by omega) (by omega), dot_step hx hy, Int.add_assoc]
  have hi3 : i = 3 := by omega
  subst hi3
  rw [List.take_of_length_le (by omega), List.take_of_length_le (by omega)]
  refine WR.esc ?_
  have hcv := lim f.c v 3 h1 h3 (by omega)
  rw [List.take_of_length_le (by omega), List.take_of_length_le (by omega)] at hcv
  refine WR.forP 2 (fun i => [.i (f.k + dot f.c v + dot (f.d.take i) (w.take i)), .i i]) (fun _ => True) rfl (by simp [dot, den, envL, V.int]) trivial fun i hi _ => ?_
  simp only [sCA, sNA]
  refine WR.iteLt i 2 rfl (fun hi2 => ?_) (fun hi2 => ?_)
  · obtain ⟨x, hx, hmx⟩ := some_at (show i < f.d.length by omega)
    obtain ⟨y, hy, hmy⟩ := some_at (show i < w.length by omega)
    have hp := mul_lim (h2 x hmx) (h4 y hmy)
    have hl := lim f.d w i h2 h4 (by omega)
    refine WR.idxN i (map_at (f := dI) hx) rfl rfl rfl rfl ?_
    refine WR.idxN i (map_at (f := dI) hy) rfl rfl rfl rfl ?_
    refine WR.nextA (vs := [.i (f.k + dot f.c v + dot (f.d.take (i + 1)) (w.take (i + 1))), .i ((i + 1 : Nat) : Int)]) ?_ ⟨hi2, rfl, trivial⟩
    show [V.i (IntKind.i64.wrap (f.k + dot f.c v + dot (f.d.take i) (w.take i) + IntKind.i64.wrap (x * y))), V.i (IntKind.i64.wrap ((i : Int) + 1))] = _
    rw [wS hi2 (by omega), w64 (n := x * y) (by omega) (by omega), w64 (by omega) (by omega), dot_step hx hy, Int.add_assoc (f.k + dot f.c v)]
  · refine WR.esc (WR.done ?_)
    show [dI (f.k + dot f.c v + dot (f.d.take i) (w.take i))] = _
    rw [List.take_of_length_le (by omega), List.take_of_length_le (by omega), show f.k + dot f.c v + dot f.d w = atF f v w by unfold atF; omega]
theorem ev_sSum {a b : List Int} (ha : a.length = 3) (hb : b.length = 3) (la : Lim 1000000000 a) (lb : Lim 1000000000 b) : Ev L f_k1o [.s (dL a), .s (dL b)] [.s (dL (sumL a b))] := by
  refine Ev.eq (vs := [.l (dL a), .l (dL b)]) L_k1o rfl ?_
  refine WR.forP 3 (fun i => [.l (dL ((sumL a b).take i)), .i i]) (fun _ => True) rfl rfl trivial fun i hi _ => ?_
  simp only [sCA, sNA]
  refine WR.iteLt i 3 rfl (fun h => ?_) (fun h => ?_)
  · obtain ⟨x, hx, hmx⟩ := some_at (show i < a.length by omega)
    obtain ⟨y, hy, hmy⟩ := some_at (show i < b.length by omega)
    have hxl := la x hmx
    have hyl := lb y hmy
    have hs : (sumL a b)[i]? = some (x + y) := by unfold sumL; rw [List.getElem?_zipWith, hx, hy]
    refine WR.idxN i (map_at (f := dI) hx) rfl rfl rfl rfl ?_
    refine WR.idxN i (map_at (f := dI) hy) rfl rfl rfl rfl ?_
    refine WR.chkApp (dL ((sumL a b).take i)) 10 (by rw [dL_len]; simp; omega) (by omega) rfl ?_
    refine WR.nextA (vs := [.l (dL ((sumL a b).take (i + 1))), .i ((i + 1 : Nat) : Int)]) ?_ ⟨h, rfl, trivial⟩
    show [V.l (dL ((sumL a b).take i) ++ [dI (IntKind.i64.wrap (x + y))]), V.i (IntKind.i64.wrap ((i : Int) + 1))] = _
    rw [wS h (by omega), w64 (by omega) (by omega), dL_snoc, take_succ hs]
  · refine WR.esc (WR.done ?_)
    show [D.s (dL ((sumL a b).take i))] = _
    rw [List.take_of_length_le (by rw [sumL_len (by omega)]; omega)]
theorem fine_parts {b g : List Int} {ps : List (List Int)} {s : Int} {a : List Int} (h : trtFine b g ps s a = true) : valOk b = true ∧ (∀ x ∈ g, 0 ≤ x ∧ x ≤ 50) ∧ addedOk a = true := by
  simp only [trtFine, trtOk, Bool.and_eq_true, List.all_eq_true, inB_iff] at h
  exact ⟨h.1.1.1.1.1, h.1.1.1.2, h.2⟩
theorem ev_iBounds (b g : List Int) (ps : List (List Int)) (s : Int) (a : List Int) (f : Frm) (w : List Int) (hb : b.length ≤ 2000000) (hg : g.length ≤ 2000000) (hp : fitLL ps) (ha : a.length ≤ 2000000) (hf : Frm.fit f) (hw : w.length ≤ 2000000) :
    Ev L f_k47 ([.s (dL b), .s (dL g), .s (dLL ps), dI s, .s (dL a)] ++ f.cells ++ [.s (dL w)]) (B3 (boundsM b g ps s a f w)) := by
  refine Ev.eq (vs := [.l (dL b), .l (dL g), .l (dLL ps), .i s, .l (dL a), .l (dL f.c), .l (dL f.d), .i f.k, .l (dL w)]) L_k47 rfl ?_
  have none : (trtFine b g ps s a && f.ok && argOk w) = false → boundsM b g ps s a f w = (0, 0, false) := fun h => by
    unfold boundsM; unfold trtFine at h; rw [h]; rfl
  refine WR.ev (ev_TrtTreaty_ok b g ps s a hb hg hp ha) rfl rfl rfl ?_
  refine WR.iteN (trtFine b g ps s a) rfl (fun h => WR.done ?_) (fun h => ?_)
  · rw [none (by simp [h])]; rfl
  refine WR.ev (ev_iFrmOk f hf) rfl rfl rfl ?_
  refine WR.iteN f.ok rfl (fun h2 => WR.done ?_) (fun h2 => ?_)
  · rw [none (by simp [h2])]; rfl
  refine WR.ev (ev_ArgOk w hw) rfl rfl rfl ?_
  refine WR.iteN (argOk w) rfl (fun h3 => WR.done ?_) (fun h3 => ?_)
  · rw [none (by simp [h3])]; rfl
  simp only [sCA, sNA]
  obtain ⟨v1, v2, v3⟩ := fine_parts h
  obtain ⟨b1, b2⟩ := valOk_iff.1 v1
  obtain ⟨a1, a2⟩ := allIn_iff.1 v3
  have hat := AtFit.here h2 v1 v3 h3
  have hlim := at_lim hat
  have hstd := ok_std h2
  have hM : boundsM b g ps s a f w = if f.c = [0, 0, 0] then (atF f (sumL b a) w, atF f (sumL b a) w, true) else if partOf f.c ∈ ps then (atF f (sumL b a) w - othersM g s, atF f (sumL b a) w + othersM g s, true) else (0, 0, false) := by
    unfold boundsM
    unfold trtFine at h
    rw [h, h2, h3]; rfl
  rw [hM]
  refine WR.ev (ev_plus (M := 20000) (b2.mono (by omega)) a2 (by omega) (by omega) (by omega)) rfl rfl rfl ?_
  refine WR.ev (ev_iAt hat) rfl rfl rfl ?_
  refine WR.ev (ev_iOthers b g s v2 hg) rfl rfl rfl ?_
  have hol := others_le (s := s) v2 g.length (Nat.le_refl _)
  rw [List.take_of_length_le (Nat.le_refl _)] at hol
  refine WR.ev (ev_zeros f.c hstd.c) rfl rfl rfl ?_
  simp only [sCA, sNA]
  generalize atF f (sumL b a) w = n at *
  generalize othersM g s = o at *
  refine WR.iteB (decide (f.c = [0, 0, 0])) rfl (fun hz => WR.done ?_) (fun hz => ?_)
  · rw [if_pos (by simpa using hz)]; rfl
  rw [if_neg (by simpa using hz)]
  refine WR.ev (ev_iPart f (hstd.lc.mono (by omega)) (by rw [hstd.c]; omega)) rfl rfl rfl ?_
  refine WR.ev (ev_iHas ps (partOf f.c) hp.1 hp.2) rfl rfl rfl ?_
  simp only [sCA, sNA]
  refine WR.iteP (0 ≤ hasAt ps (partOf f.c)) rfl (fun hh => WR.done ?_) (fun hh => WR.done ?_)
  · rw [if_pos ((hasAt_nonneg _ _).1 hh)]
    show [dI (IntKind.i64.wrap (n - o)), dI (IntKind.i64.wrap (n + o)), dB true] = _
    rw [w64 (n := n - o) (by omega) (by omega), w64 (n := n + o) (by omega) (by omega)]; rfl
  · rw [if_neg (fun hm => hh ((hasAt_nonneg _ _).2 hm))]; rfl
theorem ev_sBounds (b g : List Int) (ps : List (List Int)) (s : Int) (a : List Int) (f : Frm) (w : List Int) (hb : b.length ≤ 2000000) (hg : g.length ≤ 2000000) (hp : fitLL ps) (ha : a.length ≤ 2000000) (hf : Frm.fit f) (hw : w.length ≤ 2000000) :
    Ev L f_k1r ([.s (dL b), .s (dL g), .s (dLL ps), dI s, .s (dL a)] ++ f.cells ++ [.s (dL w)]) (B3 (boundsM b g ps s a f w)) := by
  refine Ev.eq (vs := [.l (dL b), .l (dL g), .l (dLL ps), .i s, .l (dL a), .l (dL f.c), .l (dL f.d), .i f.k, .l (dL w)]) L_k1r rfl ?_
  have none : (trtFine b g ps s a && f.ok && argOk w) = false → boundsM b g ps s a f w = (0, 0, false) := fun h => by
    unfold boundsM; unfold trtFine at h; rw [h]; rfl
  refine WR.ev (ev_sTrtOk b g hb hg) rfl rfl rfl ?_
  refine WR.iteN (trtOk b g) rfl (fun h => WR.done ?_) (fun h => ?_)
  · rw [none (by simp [trtFine, h])]; rfl
  refine WR.ev (ev_l5Parts ps hp) rfl rfl rfl ?_
  refine WR.iteN (partsOk ps) rfl (fun h' => WR.done ?_) (fun h' => ?_)
  · rw [none (by simp [trtFine, h'])]; rfl
  refine WR.ev (ev_l1In s 0 (g.length - 1)) rfl ?_ rfl ?_
  · show [dI s, dI 0, dI (IntKind.i64.wrap (((dL g).length : Int) - 1))] = _
    rw [dL_len, w64 (by omega) (by omega)]
  refine WR.iteN (inB s 0 (g.length - 1)) rfl (fun h'' => WR.done ?_) (fun h'' => ?_)
  · rw [none (by simp [trtFine, h''])]; rfl
  refine WR.ev (ev_l1All a 3 20000 ha (by omega) (by omega)) rfl rfl rfl ?_
  refine WR.iteN (allIn 3 20000 a) rfl (fun h3 => WR.done ?_) (fun h3 => ?_)
  · rw [none (by simp [trtFine, addedOk, h3])]; rfl
  have hfine : trtFine b g ps s a = true := by simp only [trtFine, addedOk, h, h', h'', h3]; rfl
  refine WR.ev (ev_FrmOk f hf) rfl rfl rfl ?_
  refine WR.iteN f.ok rfl (fun h2 => WR.done ?_) (fun h2 => ?_)
  · rw [none (by simp [h2])]; rfl
  refine WR.ev (sArgOk w hw) rfl rfl rfl ?_
  refine WR.iteN (argOk w) rfl (fun h3 => WR.done ?_) (fun h4 => ?_)
  · rw [none (by simp [h3])]; rfl
  simp only [sCA, sNA]
  obtain ⟨v1, v2, v3⟩ := fine_parts hfine
  obtain ⟨b1, b2⟩ := valOk_iff.1 v1
  obtain ⟨a1, a2⟩ := allIn_iff.1 v3
  have hat := AtFit.here h2 v1 v3 h4
  have hlim := at_lim hat
  have hstd := ok_std h2
  have hM : boundsM b g ps s a f w = if f.c = [0, 0, 0] then (atF f (sumL b a) w, atF f (sumL b a) w, true) else if partOf f.c ∈ ps then (atF f (sumL b a) w - othersM g s, atF f (sumL b a) w + othersM g s, true) else (0, 0, false) := by
    unfold boundsM
    unfold trtFine at hfine
    rw [hfine, h2, h4]; rfl
  rw [hM]
  refine WR.ev (ev_sSum b1 (by omega) (b2.mono (by omega)) (Lim.mono (m := 20000) a2 (by omega))) rfl rfl rfl ?_
  refine WR.ev (ev_sAt hat) rfl rfl rfl ?_
  refine WR.ev (ev_CatPart f (hstd.lc.mono (by omega)) (by rw [hstd.c]; omega)) rfl rfl rfl ?_
  refine WR.ev ev_FrmZero rfl rfl rfl ?_
  refine WR.ev (ev_l4Same (partOf f.c) [0, 0, 0] (by rw [part_len, hstd.c]; omega)) rfl rfl rfl ?_
  have hol := others_le (s := s) v2 g.length (Nat.le_refl _)
  rw [List.take_of_length_le (Nat.le_refl _)] at hol
  have hO := ev_sOthers b g s v2 hg
  simp only [sCA, sNA]
  generalize atF f (sumL b a) w = n at *
  generalize othersM g s = o at *
  have hpz := part_zero hstd.c
  refine WR.iteB (decide (partOf f.c = [0, 0, 0])) rfl (fun hz => WR.done ?_) (fun hz => ?_)
  · rw [if_pos (hpz.1 (by simpa using hz))]; rfl
  rw [if_neg (fun e => by simp [hpz.2 e] at hz)]
  refine WR.ev (ev_CatHas ps (partOf f.c) hp.1 hp.2) rfl rfl rfl ?_
  simp only [sCA, sNA]
  refine WR.iteP (hasAt ps (partOf f.c) < 0) rfl (fun hh => WR.done ?_) (fun hh => ?_)
  · rw [if_neg ((hasAt_neg _ _).1 hh)]; rfl
  · rw [if_pos ((hasAt_nonneg _ _).1 (by omega))]
    refine WR.ev hO rfl rfl rfl ?_
    refine WR.ev hO rfl rfl rfl (WR.done ?_)
    show [dI (IntKind.i64.wrap (n - o)), dI (IntKind.i64.wrap (n + o)), dB true] = _
    rw [w64 (n := n - o) (by omega) (by omega), w64 (n := n + o) (by omega) (by omega)]; rfl
end Go.Proofs.YtdibnlhlngodeaaGreatDoor

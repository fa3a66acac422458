/- What one site knows is so for all; who is alone knows all: over residual programs. -/
import Derived.Test.YtdibnlhlngodeaaDoorPT
import Derived.Test.YtdibnlhlngodeaaDoorPM
import Derived.Test.YtdibnlhlngodeaaDoorTd
namespace Go.Proofs.YtdibnlhlngodeaaDoor
open Go Go.Tm

/-- Three numbers a bound gives back. -/
def B3 (r : Int × Int × Bool) : List D := [dI r.1, dI r.2.1, dB r.2.2]

theorem sumL_lim {a b : List Int} {A B : Int} (ha : Lim A a) (hb : Lim B b) : Lim (A + B) (sumL a b) := by
  have := addL_lim (n := 1) (N := 1) ha hb (by omega)
  have e : addL a b 1 = sumL a b := by
    unfold addL sumL
    congr 1
    funext x y; omega
  rw [e] at this
  exact this.mono (by omega)

/-- Of a form that is ok, at what a site has. -/
theorem AtFit.here {f : Frm} {b a w : List Int} (hf : f.ok = true) (hb : valOk b = true) (ha : addedOk a = true) (hw : argOk w = true) : AtFit f (sumL b a) w := by
  have hs := ok_std hf
  obtain ⟨b1, b2⟩ := valOk_iff.1 hb
  obtain ⟨a1, a2⟩ := allIn_iff.1 ha
  obtain ⟨w1, w2⟩ := argOk_iff.1 hw
  refine ⟨hs.c, hs.d, by rw [sumL_len (by omega)]; exact b1, w1, 10000000, 30000, by omega, by omega, by omega, hs.lc, hs.ld, (sumL_lim b2 (B := 20000) a2).mono (by omega), w2.mono (by omega), by have := hs.k; omega⟩

theorem ev_sAt {f : Frm} {v w : List Int} (h : AtFit f v w) : Ev L f_spec_l1At (f.cells ++ [.s (dL v), .s (dL w)]) [dI (atF f v w)] := by
  obtain ⟨A, B, hA, hB, hAB, h1, h2, h3, h4, h5⟩ := h.a
  have h0 : 0 ≤ A * B := Int.mul_nonneg hA hB
  have c3 := h.c
  have d2 := h.d
  have v3 := h.v3
  have w2 := h.w2
  have lim : ∀ (c x : List Int) (i : Nat), Lim A c → Lim B x → i ≤ 3 → -3000000000000000 ≤ dot (c.take i) (x.take i) ∧ dot (c.take i) (x.take i) ≤ 3000000000000000 := by
    intro c x i hc hx hi
    have := dot_lim (hc.take i) (hx.take i) hA hB
    have hl : ((c.take i).length : Int) ≤ 3 := by simp; omega
    have := Int.mul_le_mul_of_nonneg_left hl h0
    omega
  refine Ev.eq (vs := [.l (dL f.c), .l (dL f.d), .i f.k, .l (dL v), .l (dL w)]) L_spec_l1At rfl ?_
  refine WR.forP 3 (fun i => [.i (f.k + dot (f.c.take i) (v.take i)), .i i]) (fun _ => True) rfl (by simp [dot, den, envL, V.int]) trivial fun i hi _ => ?_
  simp only [List.cons_append, List.nil_append]
  refine WR.iteLt i 3 rfl (fun hi3 => ?_) (fun hi3 => ?_)
  · obtain ⟨x, hx, hmx⟩ := some_at (show i < f.c.length by omega)
    obtain ⟨y, hy, hmy⟩ := some_at (show i < v.length by omega)
    have hp := mul_lim (h1 x hmx) (h3 y hmy)
    have hl := lim f.c v i h1 h3 hi
    refine WR.idxN i (map_at (f := dI) hx) rfl rfl rfl rfl ?_
    refine WR.idxN i (map_at (f := dI) hy) rfl rfl rfl rfl ?_
    refine WR.nextA (vs := [.i (f.k + dot (f.c.take (i + 1)) (v.take (i + 1))), .i ((i + 1 : Nat) : Int)]) ?_ ⟨hi3, rfl, trivial⟩
    show [V.i (IntKind.i64.wrap (f.k + dot (f.c.take i) (v.take i) + IntKind.i64.wrap (x * y))), V.i (IntKind.i64.wrap ((i : Int) + 1))] = _
    rw [wS hi3 (by omega), w64 (n := x * y) (by omega) (by omega), w64 (by omega) (by omega), dot_step hx hy, Int.add_assoc]
  have hi3 : i = 3 := by omega
  subst hi3
  rw [List.take_of_length_le (by omega), List.take_of_length_le (by omega)]
  refine WR.esc ?_
  have hcv := lim f.c v 3 h1 h3 (by omega)
  rw [List.take_of_length_le (by omega), List.take_of_length_le (by omega)] at hcv
  refine WR.forP 2 (fun i => [.i (f.k + dot f.c v + dot (f.d.take i) (w.take i)), .i i]) (fun _ => True) rfl (by simp [dot, den, envL, V.int]) trivial fun i hi _ => ?_
  simp only [List.cons_append, List.nil_append]
  refine WR.iteLt i 2 rfl (fun hi2 => ?_) (fun hi2 => ?_)
  · obtain ⟨x, hx, hmx⟩ := some_at (show i < f.d.length by omega)
    obtain ⟨y, hy, hmy⟩ := some_at (show i < w.length by omega)
    have hp := mul_lim (h2 x hmx) (h4 y hmy)
    have hl := lim f.d w i h2 h4 (by omega)
    refine WR.idxN i (map_at (f := dI) hx) rfl rfl rfl rfl ?_
    refine WR.idxN i (map_at (f := dI) hy) rfl rfl rfl rfl ?_
    refine WR.nextA (vs := [.i (f.k + dot f.c v + dot (f.d.take (i + 1)) (w.take (i + 1))), .i ((i + 1 : Nat) : Int)]) ?_ ⟨hi2, rfl, trivial⟩
    show [V.i (IntKind.i64.wrap (f.k + dot f.c v + dot (f.d.take i) (w.take i) + IntKind.i64.wrap (x * y))), V.i (IntKind.i64.wrap ((i : Int) + 1))] = _
    rw [wS hi2 (by omega), w64 (n := x * y) (by omega) (by omega), w64 (by omega) (by omega), dot_step hx hy, Int.add_assoc (f.k + dot f.c v)]
  · refine WR.esc (WR.done ?_)
    show [dI (f.k + dot f.c v + dot (f.d.take i) (w.take i))] = _
    rw [List.take_of_length_le (by omega), List.take_of_length_le (by omega), show f.k + dot f.c v + dot f.d w = atF f v w by unfold atF; omega]

/-- What a bound asks first, in parts. -/
theorem fine_parts {b g : List Int} {ps : List (List Int)} {s : Int} {a : List Int} (h : trtFine b g ps s a = true) : valOk b = true ∧ (∀ x ∈ g, 0 ≤ x ∧ x ≤ 50) ∧ addedOk a = true := by
  simp only [trtFine, trtOk, Bool.and_eq_true, List.all_eq_true, inB_iff] at h
  exact ⟨h.1.1.1.1.1, h.1.1.1.2, h.2⟩

/-! ### Sums of what all have added, and forms of them -/

def frmAtM (f : Frm) (v w : List Int) : Int × Bool := if f.ok && (valOk v && argOk w) then (atF f v w, true) else (0, false)

/-! ### Draws -/

theorem bounds_fine {b g : List Int} {ps : List (List Int)} {s : Int} {a : List Int} {f : Frm} {w : List Int} (h : (boundsM b g ps s a f w).2.2 = true) : trtFine b g ps s a = true ∧ f.ok = true ∧ argOk w = true := by
  unfold boundsM at h
  split at h
  · rename_i hc
    simp only [Bool.and_eq_true] at hc
    exact ⟨by simp only [trtFine, Bool.and_eq_true]; exact hc.1.1, hc.1.2, hc.2⟩
  · simp at h
theorem bounds_none {b g : List Int} {ps : List (List Int)} {s : Int} {a : List Int} {f : Frm} {w : List Int} (h : (boundsM b g ps s a f w).2.2 = false) : boundsM b g ps s a f w = (0, 0, false) := by
  unfold boundsM at *
  split at h
  · rename_i hc
    rw [if_pos hc]
    simp only at h ⊢
    split at h
    · simp at h
    · rename_i hz
      rw [if_neg hz]
      split at h
      · simp at h
      · rename_i hm; rw [if_neg hm]
  · rename_i hc; rw [if_neg hc]

end Go.Proofs.YtdibnlhlngodeaaDoor

/- What one site knows is so for all; who is alone knows all: over residual programs. -/
import Derived.Test.YtdibnlhlngodeaaGreatDoorPT
import Derived.Test.YtdibnlhlngodeaaGreatDoorPM
import Derived.Test.YtdibnlhlngodeaaGreatDoorTd
set_option linter.unusedVariables false
set_option linter.unusedSimpArgs false
namespace Go.Proofs.YtdibnlhlngodeaaGreatDoor
open Go Go.Tm

/-- Three numbers a bound gives back. -/
def B3 (r : Int × Int × Bool) : List D := [dI r.1, dI r.2.1, dB r.2.2]

theorem sumL_lim {a b : List Int} {A B : Int} (ha : Lim A a) (hb : Lim B b) : Lim (A + B) (sumL a b) := by
  have := addL_lim (n := 1) (N := 1) ha hb (by omega)
  have e : addL a b 1 = sumL a b := by
    unfold addL sumL
    congr 1
    funext x y; omega
  rw [e] at this
  exact this.mono (by omega)

/-- Of a form that is ok, at what a site has. -/
theorem AtFit.here {f : Frm} {b a w : List Int} (hf : f.ok = true) (hb : valOk b = true) (ha : addedOk a = true) (hw : argOk w = true) : AtFit f (sumL b a) w := by
  have hs := ok_std hf
  obtain ⟨b1, b2⟩ := valOk_iff.1 hb
  obtain ⟨a1, a2⟩ := allIn_iff.1 ha
  obtain ⟨w1, w2⟩ := argOk_iff.1 hw
  refine ⟨hs.c, hs.d, by rw [sumL_len (by omega)]; exact b1, w1, 10000000, 30000, by omega, by omega, by omega, hs.lc, hs.ld, (sumL_lim b2 (B := 20000) a2).mono (by omega), w2.mono (by omega), by have := hs.k; omega⟩

/-- What a bound asks first, in parts. -/
theorem fine_parts {b g : List Int} {ps : List (List Int)} {s : Int} {a : List Int} (h : trtFine b g ps s a = true) : valOk b = true ∧ (∀ x ∈ g, 0 ≤ x ∧ x ≤ 50) ∧ addedOk a = true := by
  simp only [trtFine, trtOk, Bool.and_eq_true, List.all_eq_true, inB_iff] at h
  exact ⟨h.1.1.1.1.1, h.1.1.1.2, h.2⟩

/-! ### Sums of what all have added, and forms of them -/

def frmAtM (f : Frm) (v w : List Int) : Int × Bool := if f.ok && (valOk v && argOk w) then (atF f v w, true) else (0, false)

/-! ### Draws -/

theorem bounds_fine {b g : List Int} {ps : List (List Int)} {s : Int} {a : List Int} {f : Frm} {w : List Int} (h : (boundsM b g ps s a f w).2.2 = true) : trtFine b g ps s a = true ∧ f.ok = true ∧ argOk w = true := by
  unfold boundsM at h
  split at h
  · rename_i hc
    simp only [Bool.and_eq_true] at hc
    exact ⟨by simp only [trtFine, Bool.and_eq_true]; exact hc.1.1, hc.1.2, hc.2⟩
  · simp at h
theorem bounds_none {b g : List Int} {ps : List (List Int)} {s : Int} {a : List Int} {f : Frm} {w : List Int} (h : (boundsM b g ps s a f w).2.2 = false) : boundsM b g ps s a f w = (0, 0, false) := by
  unfold boundsM at *
  split at h
  · rename_i hc
    rw [if_pos hc]
    simp only at h ⊢
    split at h
    · simp at h
    · rename_i hz
      rw [if_neg hz]
      split at h
      · simp at h
      · rename_i hm; rw [if_neg hm]
  · rename_i hc; rw [if_neg hc]

end Go.Proofs.YtdibnlhlngodeaaGreatDoor

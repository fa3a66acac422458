import Derived.Test.YtdibnlhlngodeaaGreatDoorPG
import Derived.Test.YtdibnlhlngodeaaGreatDoorTd
set_option linter.unusedVariables false
set_option linter.unusedSimpArgs false
/- What the reference's ways through an act come to. -/
namespace Go.Proofs.YtdibnlhlngodeaaGreatDoor
open Go Go.Tm
theorem getD_mem {l : List Frm} {i : Nat} (h : i < l.length) : l.getD i Frm.none ∈ l ∧ l[i]? = some (l.getD i Frm.none) := by
  rw [List.getD_eq_getElem?_getD, List.getElem?_eq_getElem h]
  exact ⟨List.getElem_mem h, rfl⟩
def addsOf (p : List Frm) : List Frm := [sumF (p.getD 0 Frm.none) (potF 0) (-1), sumF (p.getD 1 Frm.none) (potF 1) (-1), sumF (p.getD 2 Frm.none) (potF 2) (-1)]
structure Good (act : List Line) : Prop where
  len : act.length ≤ 6
  ok : ∀ l ∈ act, l.ok = true
theorem actOk_good {act : List Line} (h : actOk act = true) : Good act := by
  simp only [actOk, Bool.and_eq_true, decide_eq_true_eq, List.all_eq_true] at h
  exact ⟨by omega, h.1.1⟩
theorem ok_small {l : Line} (h : l.ok = true) (h4 : ¬ l.kind = 4) : l.f.small = true := by
  unfold Line.ok at h
  split at h
  · simp only [Bool.and_eq_true] at h; exact h.2
  split at h
  · simp only [Bool.and_eq_true] at h; exact h.2
  split at h
  · simp only [Bool.and_eq_true] at h; exact h.2
  · simp [h4] at h
theorem ok_pot {l : Line} (h : l.ok = true) (h2 : l.kind = 2) : 0 ≤ l.pot ∧ l.pot ≤ 2 := by
  unfold Line.ok at h
  rw [if_neg (by omega), if_pos h2] at h
  simp only [Bool.and_eq_true, inB_iff] at h; exact h.1.1
theorem ok_skip {l : Line} (h : l.ok = true) (h1 : l.kind = 1) : 1 ≤ l.skip ∧ l.skip ≤ 6 := by
  unfold Line.ok at h
  rw [if_pos h1] at h
  simp only [Bool.and_eq_true, inB_iff] at h; exact h.1.2
theorem drop_cons {α : Type} {l : List α} {i : Nat} {x : α} (h : l[i]? = some x) : l.drop i = x :: l.drop (i + 1) := by
  obtain ⟨h1, h2⟩ := List.getElem?_eq_some_iff.1 h
  rw [List.drop_eq_getElem_cons h1, h2]
theorem mem_snoc {α : Type} {l : List α} {x : α} {p : α → Prop} (h : ∀ y ∈ l, p y) (hx : p x) : ∀ y ∈ l ++ [x], p y := by
  intro y hy
  rcases List.mem_append.1 hy with hy | hy
  · exact h y hy
  · simp at hy; subst hy; exact hx
end Go.Proofs.YtdibnlhlngodeaaGreatDoor

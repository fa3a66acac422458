import Derived.Test.YtdibnlhlngodeaaGreatDoorPI
set_option linter.unusedVariables false
set_option linter.unusedSimpArgs false
/- What the reference's catalogue of parts and pins comes to. -/
namespace Go.Proofs.YtdibnlhlngodeaaGreatDoor
open Go Go.Tm
structure PartsFit (n : Nat) (s : List (List Int)) : Prop where
  len : s.length ≤ n
  each : ∀ q ∈ s, q.length = 3 ∧ Lim 10000000 q
theorem PartsFit.add {n : Nat} {s : List (List Int)} (h : PartsFit n s) {f : Frm} (hf : Std 10000000 f) : PartsFit (n + 1) (addPart s f) :=
  ⟨by have := addPart_len s f; have := h.len; omega, addPart_all h.each ⟨by rw [part_len]; exact hf.c, part_lim hf.lc⟩⟩
theorem PartsFit.mono {n m : Nat} {s : List (List Int)} (h : PartsFit n s) (hm : n ≤ m) : PartsFit m s := ⟨by have := h.len; omega, h.each⟩
theorem PartsFit.adds {n : Nat} {s : List (List Int)} (h : PartsFit n s) {fs : List Frm} (hf : ∀ f ∈ fs, Std 10000000 f) : PartsFit (n + fs.length) (fs.foldl addPart s) := by
  induction fs generalizing n s with
  | nil => exact h
  | cons f fs ih => exact (ih (h.add (hf f (by simp))) fun g hg => hf g (by simp [hg])).mono (by simp; omega)
theorem PartsFit.rows {n : Nat} {s : List (List Int) × List Bool} (h : PartsFit n s.1) (h3 : s.2.length = 3) {rs : List Row} (hr : ∀ r ∈ rs, RowFit r) : PartsFit (n + 6 * rs.length) (rs.foldl rowBoth s).1 ∧ (rs.foldl rowBoth s).2.length = 3 := by
  induction rs generalizing n s with
  | nil => exact ⟨h, h3⟩
  | cons r rs ih =>
    have hr1 := hr r (by simp)
    have a := (h.adds hr1.g).mono (show n + r.guards.length ≤ n + 6 by have := hr1.gl; omega)
    have b : (rowBoth s r).2.length = 3 := readsL_len (readsL_len h3 fun f hf => (hr1.a f hf).c) fun f hf => (hr1.t f hf).c
    have := ih (s := rowBoth s r) (n := n + 6) a b fun x hx => hr x (by simp [hx])
    exact ⟨this.1.mono (by simp; omega), this.2⟩
theorem both_fit (as : List (List Line)) : PartsFit (3 + 384 * as.length) (both as).1 ∧ (both as).2.length = 3 := by
  have key : ∀ (n : Nat) (s : List (List Int) × List Bool), PartsFit n s.1 → s.2.length = 3 → PartsFit (n + 384 * as.length) (as.foldl actBoth s).1 ∧ (as.foldl actBoth s).2.length = 3 := by
    induction as with
    | nil => intro n s h h3; exact ⟨h, h3⟩
    | cons a as ih =>
      intro n s h h3
      have := h.rows h3 (rs := rowsOf a) rows_fit
      have hl := rows_len a
      have := ih (n + 384) (actBoth s a) (this.1.mono (by omega)) this.2
      exact ⟨this.1.mono (by simp; omega), this.2⟩
  refine key 3 _ ⟨by simp [pots0], ?_⟩ rfl
  intro q hq
  simp [pots0] at hq
  rcases hq with rfl | rfl | rfl <;> exact ⟨rfl, by intro x hx; simp at hx; omega⟩
theorem rdR {rs : List Row} {i : Nat} {r : Row} (h : rs[i]? = some r) : (dRows rs)[i]? = some r.g := map_at (f := Row.g) h
theorem catOk_len {as : List (List Line)} (h : catOk as = true) : 1 ≤ as.length ∧ as.length ≤ 4 ∧ ∀ a ∈ as, actOk a = true := by
  simp only [catOk, Bool.and_eq_true, inB_iff, List.all_eq_true] at h
  exact ⟨by omega, by omega, h.2⟩
theorem catForms_fit (as : List (List Line)) : PartsFit 1600 (catForms as) := by
  unfold catForms
  split
  · rename_i h
    exact (both_fit as).1.mono (by have := (catOk_len h).2.1; omega)
  · exact ⟨by simp, by simp⟩
end Go.Proofs.YtdibnlhlngodeaaGreatDoor

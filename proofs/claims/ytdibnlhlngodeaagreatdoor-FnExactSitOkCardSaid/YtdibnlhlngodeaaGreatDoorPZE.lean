/- Marks, and what is held; sizes of acts: over residual programs. -/
import Derived.Test.YtdibnlhlngodeaaGreatDoorPZD
set_option linter.unusedVariables false
set_option linter.unusedSimpArgs false
namespace Go.Proofs.YtdibnlhlngodeaaGreatDoor
open Go Go.Tm

/-! ### Marks -/

/-- Every third. -/
def thrd (k : Int) (n : Nat) : List Bool := (cnt k n).map fun x => decide (x.tmod 3 = 0)
theorem thrd_len (k : Int) (n : Nat) : (thrd k n).length = n := by simp [thrd, cnt]
theorem thrd_get (k : Int) {n i : Nat} (h : i < n) : (thrd k n)[i]? = some (decide ((k + i).tmod 3 = 0)) := by
  unfold thrd
  rw [List.getElem?_map, cnt_get k h]; rfl

/-- How many numbers a line has. -/
def wtL (l : Line) : Nat := 4 + l.f.c.length + l.f.d.length
def wtA (a : List Line) : Nat := (a.map wtL).sum
def wtAs (as : List (List Line)) : Nat := (as.map wtA).sum
/-- A line, marked. -/
def mkL (k : Int) (l : Line) : Line := ⟨k, k + 1, k + 2, ⟨cnt (k + 3) l.f.c.length, cnt (k + 3 + l.f.c.length) l.f.d.length, k + 3 + l.f.c.length + l.f.d.length⟩⟩

theorem wtA_succ {a : List Line} {i : Nat} {x : Line} (h : a[i]? = some x) : wtA (a.take (i + 1)) = wtA (a.take i) + wtL x := by unfold wtA; rw [map_take_succ h]; simp
theorem wtAs_succ {a : List (List Line)} {i : Nat} {x : List Line} (h : a[i]? = some x) : wtAs (a.take (i + 1)) = wtAs (a.take i) + wtA x := by unfold wtAs; rw [map_take_succ h]; simp
theorem sum_take_le {α : Type} (f : α → Nat) (l : List α) (i : Nat) : ((l.take i).map f).sum ≤ (l.map f).sum := by
  conv => rhs; rw [← List.take_append_drop i l, List.map_append, List.sum_append]
  omega
theorem wtA_take (a : List Line) (i : Nat) : wtA (a.take i) ≤ wtA a := sum_take_le _ _ _
theorem wtAs_take (a : List (List Line)) (i : Nat) : wtAs (a.take i) ≤ wtAs a := sum_take_le _ _ _

theorem drop_at {α : Type} {es : List α} {fs : List α} {i : Nat} (h : es.drop i = fs.drop i) {x : α} (hx : fs[i]? = some x) : es[i]? = some x := by
  have : (es.drop i)[0]? = (fs.drop i)[0]? := by rw [h]
  simpa [hx] using this
theorem drop_set {α : Type} {es : List α} {fs : List α} {i : Nat} (h : es.drop i = fs.drop i) (x : α) : (es.set i x).drop (i + 1) = fs.drop (i + 1) := by
  rw [List.drop_set_of_lt (by omega)]
  rw [show es.drop (i + 1) = (es.drop i).drop 1 by rw [List.drop_drop], show fs.drop (i + 1) = (fs.drop i).drop 1 by rw [List.drop_drop], h]

end Go.Proofs.YtdibnlhlngodeaaGreatDoor

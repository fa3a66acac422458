/- What the reference's treaties come to. -/
import Derived.Test.YtdibnlhlngodeaaDoorPI
namespace Go.Proofs.YtdibnlhlngodeaaDoor
open Go Go.Tm

theorem ev_sValOk (l : List Int) (hl : l.length ≤ 2000000) : Ev L f_spec_ValOk [.s (dL l)] [dB (valOk l)] :=
  Ev.eq (vs := [.l (dL l)]) L_spec_ValOk rfl (WR.ev (ev_l1All l 3 10000 hl (by omega) (by omega)) rfl rfl rfl (WR.done rfl))

/-- Lists that are not too long. -/
def fitLL (ps : List (List Int)) : Prop := ps.length ≤ 2000000 ∧ ∀ p ∈ ps, p.length ≤ 2000000

theorem dot_step {a b : List Int} {i : Nat} {x y : Int} (hx : a[i]? = some x) (hy : b[i]? = some y) : dot (a.take (i + 1)) (b.take (i + 1)) = dot (a.take i) (b.take i) + x * y := by
  have h1 := (List.getElem?_eq_some_iff.1 hx).1
  have h2 := (List.getElem?_eq_some_iff.1 hy).1
  rw [take_succ hx, take_succ hy, dot_snoc x y (by simp; omega)]

/-- A step of a sum of products stays small. -/
theorem dot_wrap {a b : List Int} {i : Nat} {x y : Int} (hx : a[i]? = some x) (hy : b[i]? = some y) (ha : Lim 100000000 a) (hb : Lim 1000000 b) (hi : i < 1000) :
    IntKind.i64.wrap (dot (a.take i) (b.take i) + IntKind.i64.wrap (x * y)) = dot (a.take (i + 1)) (b.take (i + 1)) := by
  have h1 := dot_lim (ha.take i) (hb.take i) (by omega) (by omega)
  have h2 : ((a.take i).length : Int) ≤ 1000 := by simp; omega
  have h3 := mul_lim (ha x (List.mem_of_getElem? hx)) (hb y (List.mem_of_getElem? hy))
  rw [dot_step hx hy, w64 (n := x * y) (by omega) (by omega), w64 (by omega) (by omega)]

theorem at_getD {l : List Int} {i : Nat} (h : i < l.length) : l[i]? = some (l.getD i 0) := by simp [List.getD_eq_getElem?_getD, h]

end Go.Proofs.YtdibnlhlngodeaaDoor

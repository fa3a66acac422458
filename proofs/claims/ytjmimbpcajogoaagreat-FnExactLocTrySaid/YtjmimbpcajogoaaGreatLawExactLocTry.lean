/- The law FnExactLocTry: for every input it returns true, and its arguments read behind the call as they read before. No conditions beyond the given row's own. -/
import Derived.Test.YtjmimbpcajogoaaGreatPZI
import Derived.Test.YtjmimbpcajogoaaGreatG
import Derived.Test.YtjmimbpcajogoaaGreatTd
namespace Go.Proofs.YtjmimbpcajogoaaGreat
open Go Go.Tm Go.ChangeShapes Go.WideShapes Go.ChangeAt Go.RowKit

theorem FnExactLocTry_own : ownKnob Tryz.prog.godebug = none := by kernel_rfl
theorem FnExactLocTry_laid : laidOutB Tryz.prog = true := by kernel_rfl

theorem FnExactLocTry_lifted (os : Os) (started : os.Started) (H : Type) (enc : TypeId × Value → H) :
    ReturnsInHanded {} Tryz.checked os 3 .any (Rows.fnExactLocTrySpec.pre6 enc Tryz.prog Tryz.f3 Rows.fnExactLocTryRow.domain false) (Rows.fnExactLocTrySpec.post enc Tryz.prog Tryz.f3 false true false false) :=
  liftS (C := Tryz.checked) (L := L) (fl := true) (ts := [22, 25, 3, 23, 3, 23]) (ss := [.sl (.sl tyLine), tyTrt, .i .i64, tyInts, .i .i64, tyInts]) (tb := 4) (pars := [.one .s, .g [.s, .s], .one (.i .i64), .one .s, .one (.i .i64), .one .s]) (n := 8) FnExactLocTry_own started (by kernel_rfl) Tryz.func3
    (ChangeSpec.witness6 (enc := enc) (C := Tryz.checked) false ⟨#[], #[.slice none 0 0, .agg #[.slice none 0 0, .slice none 0 0], .int .i64 0, .slice none 0 0, .int .i64 0, .slice none 0 0], []⟩ 8 (by kernel_rfl) (by kernel_rfl) (by kernel_rfl) (by kernel_rfl))
    (congrArg Array.toList Tryz.params3) (by kernel_rfl) (by kernel_rfl) (by kernel_rfl) (by kernel_rfl)
    FnExactLocTry_laid (by kernel_rfl) rfl (fun ds h => match ds, h with | [_, _, _, _, _, _], _ => rfl)
    (by kernel_rfl) allGood rfl arg_FnExactLocTry

theorem FnExactLocTry_holds : Rows.FnExactLocTrySaid :=
  OpenClaim.holds_of_wide 3 Tryz.f3 rfl rfl rfl rfl rfl rfl rfl ⟨rfl, rfl, rfl, rfl, rfl⟩ rfl rfl rfl rfl rfl (by kernel_rfl) Tryz.func3 (by kernel_rfl)
    (of_decide_eq_true (by kernel_rfl)) (by unfold Func.isWrapper; first | (rw [if_pos (by decide +kernel)]; kernel_rfl) | (rw [if_neg (by decide +kernel)]; exact ⟨rfl, rfl⟩))
    (fun os started H enc _ => FnExactLocTry_lifted os started H enc)

end Go.Proofs.YtjmimbpcajogoaaGreat
#print axioms Go.Proofs.YtjmimbpcajogoaaGreat.FnExactLocTry_holds

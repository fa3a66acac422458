/- The tied card of FnExactSitFall: for every input it returns true, and its arguments read behind the call as they read before; the listed tables of the library as the program's text lays them. No conditions beyond the given card's own. -/
import Derived.Test.YtdibnlhlngodeaaGreatDoorPZW
import Derived.Test.YtdibnlhlngodeaaGreatDoorG
import Derived.Test.YtdibnlhlngodeaaGreatDoorCards
import Derived.Test.YtdibnlhlngodeaaGreatDoorTie
import Derived.Test.YtdibnlhlngodeaaGreatDoorTd
import Derived.SevenTiedAt
import Derived.ProofKit
import Derived.LaidMore
import Derived.LaidHandle
import Derived.OpenShut
import Derived.Stop.Joined
import Derived.Test.YtdibnlhlngodeaaGreatDoorLawExactSitFallA
set_option linter.unusedVariables false
set_option linter.unusedSimpArgs false
namespace Go.Proofs.YtdibnlhlngodeaaGreatDoor
open Go Go.Tm Go.ChangeShapes Go.WideShapes Go.ChangeAt Go.RowKit
set_option maxRecDepth 100000 in
theorem FnExactSitFall_lifted (os : Os) (started : os.Started) (H : Type) (enc : TypeId × Value → H) :
    ReturnsInHanded {} Tryz.checked os 8 .any (fun w args => (Rows.fnExactSitFallSpec.pre enc Tryz.prog Tryz.f8 [] false w args ∧ laidMetH Tryz.prog laids w) ∧ sizedMet enc Tryz.prog Tryz.f8 (OpenSpec.ofChange Rows.fnExactSitFallSpec) false w args)
      (Rows.fnExactSitFallSpec.post enc Tryz.prog Tryz.f8 false true false false) :=
  liftSX (C := Tryz.checked) (L := L) (Φ := Fix.tab Tryz.prog "internal/strconv.uint64pow10" .u64 Lib.pow10Tab) (X := fun w _ => laidMetH Tryz.prog laids w) (fl := true) (ts := [25, 47, 3, 4]) (ss := [tyPlan, tySit, .i .i64, .b]) (tb := 4) (pars := [.g [.i .i64, .s, .s, .s], .g [.b, .b, .i .i64, .s, .s, .s], .one (.i .i64), .one .b]) (n := 8)
    (fun _ _ _ hh h => h.of_heap hh) (fun _ _ h => FnExactSitFall_tab h) FnExactSitFall_own started (by kernel_rfl) Tryz.func8
    (ChangeSpec.witness_shaped (enc := enc) (C := Tryz.checked) (os := os) (X := fun w _ => laidMetH Tryz.prog laids w) false (World.doorLaid Tryz.prog 400 os) #[.agg #[.int .i64 0, .slice none 0 0, .slice none 0 0, .slice none 0 0], .agg #[.bool false, .bool false, .int .i64 0, .slice none 0 0, .slice none 0 0, .slice none 0 0], .int .i64 0, .bool false] 8 rfl (World.shaped_of_RefB (by kernel_rfl) (by kernel_rfl)) (by kernel_rfl) (by kernel_rfl) (by kernel_rfl) (FnExactSitFall_door os _))
    (congrArg Array.toList Tryz.params8) (by kernel_rfl) (by kernel_rfl) (by kernel_rfl) (by kernel_rfl)
    FnExactSitFall_laid (by kernel_rfl) rfl (fun ds h => match ds, h with | [_, _, _, _], _ => rfl)
    (by kernel_rfl) allGood rfl arg_FnExactSitFall


end Go.Proofs.YtdibnlhlngodeaaGreatDoor

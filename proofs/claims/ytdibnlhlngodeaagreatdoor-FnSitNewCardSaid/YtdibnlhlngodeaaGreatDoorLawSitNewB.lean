/- The tied card of FnSitNew: for every input it returns true, and its arguments read behind the call as they read before; the listed tables of the library as the program's text lays them. No conditions beyond the given card's own. -/
import Derived.Test.YtdibnlhlngodeaaGreatDoorPZX
import Derived.Test.YtdibnlhlngodeaaGreatDoorG
import Derived.Test.YtdibnlhlngodeaaGreatDoorCards
import Derived.Test.YtdibnlhlngodeaaGreatDoorTie
import Derived.Test.YtdibnlhlngodeaaGreatDoorTd
import Derived.SevenTiedAt
import Derived.ProofKit
import Derived.LaidMore
import Derived.LaidHandle
import Derived.OpenShut
import Derived.Stop.Joined
import Derived.Test.YtdibnlhlngodeaaGreatDoorLawSitNewA
set_option linter.unusedVariables false
set_option linter.unusedSimpArgs false
namespace Go.Proofs.YtdibnlhlngodeaaGreatDoor
open Go Go.Tm Go.ChangeShapes Go.WideShapes Go.ChangeAt Go.RowKit
set_option maxRecDepth 100000 in
theorem FnSitNew_lifted (os : Os) (started : os.Started) (H : Type) (enc : TypeId × Value → H) :
    ReturnsInHanded {} Tryz.checked os 9 .any (fun w args => (Rows.fnSitNewSpec.pre enc Tryz.prog Tryz.f9 [] false w args ∧ laidMetH Tryz.prog laids w) ∧ sizedMet enc Tryz.prog Tryz.f9 (OpenSpec.ofChange Rows.fnSitNewSpec) false w args)
      (Rows.fnSitNewSpec.post enc Tryz.prog Tryz.f9 false true false false) :=
  lift1X (C := Tryz.checked) (L := L) (Φ := Fix.tab Tryz.prog "internal/strconv.uint64pow10" .u64 Lib.pow10Tab) (X := fun w _ => laidMetH Tryz.prog laids w) (fl := true) (t := 77) (e := 5) (tb := 4)
    (fun _ _ _ hh h => h.of_heap hh) (fun _ _ h => FnSitNew_tab h) FnSitNew_own started (by kernel_rfl) Tryz.func9
    (ChangeSpec.witness_shaped (enc := enc) (C := Tryz.checked) (os := os) (X := fun w _ => laidMetH Tryz.prog laids w) false (World.doorLaid Tryz.prog 400 os) #[.slice none 0 0] 8 rfl (World.shaped_of_RefB (by kernel_rfl) (by kernel_rfl)) (by kernel_rfl) (by kernel_rfl) (by kernel_rfl) (FnSitNew_door os _))
    Tryz.params9 (by kernel_rfl) (by kernel_rfl) (by kernel_rfl) (by kernel_rfl) (by kernel_rfl)
    FnSitNew_laid (by kernel_rfl) (of_decide_eq_true (by kernel_rfl)) rfl (fun _ => rfl)
    (by kernel_rfl) allGood rfl (fun ns hb => ev_FnSitNew ns (bytes_in hb))


end Go.Proofs.YtdibnlhlngodeaaGreatDoor

/- The tied card of FnClkNext: for every input it returns true,and its arguments read behind the call as they read before; the listed tables of the library as the program's text lays them. No conditions beyond the given card's own. -/
import Derived.Test.YtngcnclchcahlabGreatDoorPZZP
import Derived.Test.YtngcnclchcahlabGreatDoorG
import Derived.Test.YtngcnclchcahlabGreatDoorCards
import Derived.Test.YtngcnclchcahlabGreatDoorTie
import Derived.Test.YtngcnclchcahlabGreatDoorTd
import Derived.SevenTiedAt
import Derived.ProofKit
import Derived.LaidMore
import Derived.LaidHandle
import Derived.OpenShut
import Derived.Stop.Joined
import Derived.Test.YtngcnclchcahlabGreatDoorLawClkNextA
set_option linter.unusedVariables false
set_option linter.unusedSimpArgs false
namespace Go.Proofs.YtngcnclchcahlabGreatDoor
open Go Go.Tm Go.ChangeShapes Go.WideShapes Go.ChangeAt Go.RowKit
set_option maxRecDepth 100000 in
theorem FnClkNext_lifted (os:Os) (started:os.Started) (H:Type) (enc:TypeId×Value→H) :
  ReturnsInHanded {} Tryz.checked os 3 .any (fun w args=>(Rows.fnClkNextSpec.pre enc Tryz.prog Tryz.f3 [] false w args∧laidMetH Tryz.prog laids w)∧sizedMet enc Tryz.prog Tryz.f3 (OpenSpec.ofChange Rows.fnClkNextSpec) false w args)
   (Rows.fnClkNextSpec.post enc Tryz.prog Tryz.f3 false true false false) :=
 lift1X (C := Tryz.checked) (L := L) (Φ := Fix.tab Tryz.prog "internal/strconv.uint64pow10" .u64 Lib.pow10Tab) (X := fun w _ => laidMetH Tryz.prog laids w) (fl := true) (t := 22) (e := 5) (tb := 4)
  (fun _ _ _ hh h=>h.of_heap hh) (fun _ _ h=>FnClkNext_tab h) FnClkNext_own started (by kernel_rfl) Tryz.func3
  (ChangeSpec.witness_shaped (enc:=enc) (C:=Tryz.checked) (os:=os) (X:=fun w _=>laidMetH Tryz.prog laids w) false (World.doorLaid Tryz.prog 400 os) #[.slice none 0 0] 8 rfl (World.shaped_of_RefB (by kernel_rfl) (by kernel_rfl)) (by kernel_rfl) (by kernel_rfl) (by kernel_rfl) (FnClkNext_door os _))
  Tryz.params3 (by kernel_rfl) (by kernel_rfl) (by kernel_rfl) (by kernel_rfl) (by kernel_rfl)
  FnClkNext_laid (by kernel_rfl) (of_decide_eq_true (by kernel_rfl)) rfl (fun _=>rfl)
  (by kernel_rfl) allGood rfl (fun ns hb=>JgF ns (JnD hb))
end Go.Proofs.YtngcnclchcahlabGreatDoor

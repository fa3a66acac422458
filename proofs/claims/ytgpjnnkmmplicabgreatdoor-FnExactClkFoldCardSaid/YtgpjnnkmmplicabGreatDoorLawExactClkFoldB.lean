/- The tied card of FnExactClkFold: for every input it returns true,and its arguments read behind the call as they read before; the listed tables of the library as the program's text lays them. No conditions beyond the given card's own. -/
import Derived.Test.YtgpjnnkmmplicabGreatDoorPZZR
import Derived.Test.YtgpjnnkmmplicabGreatDoorG
import Derived.Test.YtgpjnnkmmplicabGreatDoorCards
import Derived.Test.YtgpjnnkmmplicabGreatDoorTie
import Derived.Test.YtgpjnnkmmplicabGreatDoorTd
import Derived.SevenTiedAt
import Derived.ProofKit
import Derived.LaidMore
import Derived.LaidHandle
import Derived.OpenShut
import Derived.Stop.Joined
import Derived.Test.YtgpjnnkmmplicabGreatDoorLawExactClkFoldA
set_option linter.unusedVariables false
set_option linter.unusedSimpArgs false
namespace Go.Proofs.YtgpjnnkmmplicabGreatDoor
open Go Go.Tm Go.ChangeShapes Go.WideShapes Go.ChangeAt Go.RowKit
set_option maxRecDepth 100000 in
theorem FnExactClkFold_lifted (os:Os) (started:os.Started) (H:Type) (enc:TypeId×Value→H) :
  ReturnsInHanded {} Tryz.checked os 3 .any (fun w args=>(Rows.fnExactClkFoldSpec.pre enc Tryz.prog Tryz.f3 [] false w args∧laidMetH Tryz.prog laids w)∧sizedMet enc Tryz.prog Tryz.f3 (OpenSpec.ofChange Rows.fnExactClkFoldSpec) false w args)
   (Rows.fnExactClkFoldSpec.post enc Tryz.prog Tryz.f3 false true false false) :=
 liftSX (C := Tryz.checked) (L := L) (Φ := Fix.tab Tryz.prog "internal/strconv.uint64pow10" .u64 Lib.pow10Tab) (X := fun w _ => laidMetH Tryz.prog laids w) (fl := true) (ts := [25, 30]) (ss := [tyPlan, tyClk]) (tb := 4) (pars := [.g [.i .i64, .s, .s, .s], .g [.b, .i .i64, .s, .s, .s, .s]]) (n := 8)
  (fun _ _ _ hh h=>h.of_heap hh) (fun _ _ h=>FnExactClkFold_tab h) FnExactClkFold_own started (by kernel_rfl) Tryz.func3
  (ChangeSpec.witness_shaped (enc:=enc) (C:=Tryz.checked) (os:=os) (X:=fun w _=>laidMetH Tryz.prog laids w) false (World.doorLaid Tryz.prog 400 os) #[.agg #[.int .i64 0,.slice none 0 0,.slice none 0 0,.slice none 0 0],.agg #[.bool false,.int .i64 0,.slice none 0 0,.slice none 0 0,.slice none 0 0,.slice none 0 0]] 8 rfl (World.shaped_of_RefB (by kernel_rfl) (by kernel_rfl)) (by kernel_rfl) (by kernel_rfl) (by kernel_rfl) (FnExactClkFold_door os _))
  (congrArg Array.toList Tryz.params3) (by kernel_rfl) (by kernel_rfl) (by kernel_rfl) (by kernel_rfl)
  FnExactClkFold_laid (by kernel_rfl) rfl (fun ds h=>match ds,h with | [_,_],_=>rfl)
  (by kernel_rfl) allGood rfl Ws
end Go.Proofs.YtgpjnnkmmplicabGreatDoor

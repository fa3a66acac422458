/- The tied card of FnExactSitTry: for every input it returns true,and its arguments read behind the call as they read before; the listed tables of the library as the program's text lays them. No conditions beyond the given card's own. -/
import Derived.Test.YtgpjnnkmmplicaaGreatDoorPZZQ
import Derived.Test.YtgpjnnkmmplicaaGreatDoorG
import Derived.Test.YtgpjnnkmmplicaaGreatDoorCards
import Derived.Test.YtgpjnnkmmplicaaGreatDoorTie
import Derived.Test.YtgpjnnkmmplicaaGreatDoorTd
import Derived.SevenTiedAt
import Derived.ProofKit
import Derived.LaidMore
import Derived.LaidHandle
import Derived.OpenShut
import Derived.Stop.Joined
import Derived.Test.YtgpjnnkmmplicaaGreatDoorLawExactSitTryA
set_option linter.unusedVariables false
set_option linter.unusedSimpArgs false
namespace Go.Proofs.YtgpjnnkmmplicaaGreatDoor
open Go Go.Tm Go.ChangeShapes Go.WideShapes Go.ChangeAt Go.RowKit
set_option maxRecDepth 100000 in
theorem FnExactSitTry_lifted (os:Os) (started:os.Started) (H:Type) (enc:TypeId×Value→H) :
  ReturnsInHanded {} Tryz.checked os 3 .any (fun w args=>(Rows.fnExactSitTrySpec.pre enc Tryz.prog Tryz.f3 [] false w args∧laidMetH Tryz.prog laids w)∧sizedMet enc Tryz.prog Tryz.f3 (OpenSpec.ofChange Rows.fnExactSitTrySpec) false w args)
   (Rows.fnExactSitTrySpec.post enc Tryz.prog Tryz.f3 false true false false) :=
 liftSX (C := Tryz.checked) (L := L) (Φ := Fix.tab Tryz.prog "internal/strconv.uint64pow10" .u64 Lib.pow10Tab) (X := fun w _ => laidMetH Tryz.prog laids w) (fl := true) (ts := [25, 28, 3, 30]) (ss := [tyPlan, tySit, .i .i64, tyCal]) (tb := 4) (pars := [.g [.i .i64, .s, .s, .s], .g [.b, .b, .i .i64, .s, .s, .s], .one (.i .i64), .g [.i .i64, .i .i64, .i .i64, .s]]) (n := 8)
  (fun _ _ _ hh h=>h.of_heap hh) (fun _ _ h=>FnExactSitTry_tab h) FnExactSitTry_own started (by kernel_rfl) Tryz.func3
  (ChangeSpec.witness_shaped (enc:=enc) (C:=Tryz.checked) (os:=os) (X:=fun w _=>laidMetH Tryz.prog laids w) false (World.doorLaid Tryz.prog 400 os) #[.agg #[.int .i64 0,.slice none 0 0,.slice none 0 0,.slice none 0 0],.agg #[.bool false,.bool false,.int .i64 0,.slice none 0 0,.slice none 0 0,.slice none 0 0],.int .i64 0,.agg #[.int .i64 0,.int .i64 0,.int .i64 0,.slice none 0 0]] 8 rfl (World.shaped_of_RefB (by kernel_rfl) (by kernel_rfl)) (by kernel_rfl) (by kernel_rfl) (by kernel_rfl) (FnExactSitTry_door os _))
  (congrArg Array.toList Tryz.params3) (by kernel_rfl) (by kernel_rfl) (by kernel_rfl) (by kernel_rfl)
  FnExactSitTry_laid (by kernel_rfl) rfl (fun ds h=>match ds,h with | [_,_,_,_],_=>rfl)
  (by kernel_rfl) allGood rfl WI
end Go.Proofs.YtgpjnnkmmplicaaGreatDoor

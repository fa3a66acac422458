/- The tied card of FnExactClkFold: for every input it returns true,and its arguments read behind the call as they read before; the listed tables of the library as the program's text lays them. No conditions beyond the given card's own. -/
import Derived.Test.YtgpjnnkmmplicabGreatDoorCards
import Derived.Test.YtgpjnnkmmplicabGreatDoorTie
import Derived.Test.YtgpjnnkmmplicabGreatDoorTd
import Derived.SevenTiedAt
import Derived.ProofKit
import Derived.LaidMore
import Derived.LaidHandle
import Derived.OpenShut
import Derived.Stop.Joined
import Derived.Test.YtgpjnnkmmplicabGreatDoorLawExactClkFoldF
set_option linter.unusedVariables false
set_option linter.unusedSimpArgs false
namespace Go.Proofs.YtgpjnnkmmplicabGreatDoor
open Go Go.Tm Go.ChangeShapes Go.WideShapes Go.ChangeAt Go.RowKit
theorem FnExactClkFold_card_holds:Rows.FnExactClkFoldCardSaid :=
 Claim7.holds_tied_plain_at .later [] [.data, .data, .data] true (true, "2ee2009955d9d87089a107904bdf4527dbbe70372534b9f7aeef023164e240c0") false
  FnExactClkFold_holds (fun _ h=>by cases h) (by kernel_rfl) (fun _ h=>by cases h) fnExactClkFold_row_tie rfl ⟨rfl,rfl⟩ (by kernel_rfl) rfl
  (fun f fn hf hfn=>by
   obtain rfl : f = 3 := Option.some.inj ((show Tryz.prog.funcNamed "loop.example/concord/laws.FnExactClkFold" = some 3 by kernel_rfl).symm.trans hf) |>.symm
   obtain rfl:fn=Tryz.f3:=(Option.some.inj (Tryz.func3.symm.trans hfn)).symm;exact⟨by kernel_rfl,fun j t ht=>by
    rw[Tryz.params3] at ht;have hm:t∈[25,30]:=by simpa using Array.mem_of_getElem? ht
    have hall:([25,30].all fun u=>!Tryz.prog.wantsStandIn u)=true:=by kernel_rfl
    exact(show Tryz.prog.wantsStandIn t=false by simpa using List.all_eq_true.1 hall t hm)⟩)
  (by kernel_rfl)
end Go.Proofs.YtgpjnnkmmplicabGreatDoor

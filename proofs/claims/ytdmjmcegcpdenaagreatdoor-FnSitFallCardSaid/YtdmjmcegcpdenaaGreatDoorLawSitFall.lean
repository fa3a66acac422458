/- The tied card of FnSitFall: for every input it returns true,and its arguments read behind the call as they read before; the listed tables of the library as the program's text lays them. No conditions beyond the given card's own. -/
import Derived.Test.YtdmjmcegcpdenaaGreatDoorCards
import Derived.Test.YtdmjmcegcpdenaaGreatDoorTie
import Derived.Test.YtdmjmcegcpdenaaGreatDoorTd
import Derived.SevenTiedAt
import Derived.ProofKit
import Derived.LaidMore
import Derived.LaidHandle
import Derived.OpenShut
import Derived.Stop.Joined
import Derived.Test.YtdmjmcegcpdenaaGreatDoorLawSitFallF
set_option linter.unusedVariables false
set_option linter.unusedSimpArgs false
namespace Go.Proofs.YtdmjmcegcpdenaaGreatDoor
open Go Go.Tm Go.ChangeShapes Go.WideShapes Go.ChangeAt Go.RowKit
theorem FnSitFall_card_holds:Rows.FnSitFallCardSaid :=
 Claim7.holds_tied_plain_at .later [] [.data, .data, .data] true (true, "7c7e997b1f8ec2db14e80f84d365698c3b5b64610d0f209a3739bce6b8a3833a") false
  FnSitFall_holds (fun _ h=>by cases h) (by kernel_rfl) (fun _ h=>by cases h) fnSitFall_row_tie rfl ⟨rfl,rfl⟩ (by kernel_rfl) rfl
  (fun f fn hf hfn=>by
   obtain rfl : f = 6 := Option.some.inj ((show Tryz.prog.funcNamed "loop.example/concord/laws.FnSitFall" = some 6 by kernel_rfl).symm.trans hf) |>.symm
   obtain rfl:fn=Tryz.f6:=(Option.some.inj (Tryz.func6.symm.trans hfn)).symm
   exact⟨by kernel_rfl,fun j t ht=>by
    rw[Tryz.params6] at ht
    have hm:t∈[22]:=by simpa using Array.mem_of_getElem? ht
    have hall:([22].all fun u=>!Tryz.prog.wantsStandIn u)=true:=by kernel_rfl
    exact(show Tryz.prog.wantsStandIn t=false by simpa using List.all_eq_true.1 hall t hm)⟩)
  (by kernel_rfl)
end Go.Proofs.YtdmjmcegcpdenaaGreatDoor

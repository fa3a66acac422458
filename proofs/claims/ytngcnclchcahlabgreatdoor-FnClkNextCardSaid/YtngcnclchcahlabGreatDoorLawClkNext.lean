/- The tied card of FnClkNext: for every input it returns true,and its arguments read behind the call as they read before; the listed tables of the library as the program's text lays them. No conditions beyond the given card's own. -/
import Derived.Test.YtngcnclchcahlabGreatDoorCards
import Derived.Test.YtngcnclchcahlabGreatDoorTie
import Derived.Test.YtngcnclchcahlabGreatDoorTd
import Derived.SevenTiedAt
import Derived.ProofKit
import Derived.LaidMore
import Derived.LaidHandle
import Derived.OpenShut
import Derived.Stop.Joined
import Derived.Test.YtngcnclchcahlabGreatDoorLawClkNextF
set_option linter.unusedVariables false
set_option linter.unusedSimpArgs false
namespace Go.Proofs.YtngcnclchcahlabGreatDoor
open Go Go.Tm Go.ChangeShapes Go.WideShapes Go.ChangeAt Go.RowKit
theorem FnClkNext_card_holds:Rows.FnClkNextCardSaid :=
 Claim7.holds_tied_plain_at .later [] [.data, .data, .data] true (true, "8eb1942f54ba41a6e8291c31b5152c81fd68cf43dfd5fa7ce4bbcc1e533c4131") false
  FnClkNext_holds (fun _ h=>by cases h) (by kernel_rfl) (fun _ h=>by cases h) fnClkNext_row_tie rfl ⟨rfl,rfl⟩ (by kernel_rfl) rfl
  (fun f fn hf hfn=>by
   obtain rfl : f = 3 := Option.some.inj ((show Tryz.prog.funcNamed "loop.example/concord/laws.FnClkNext" = some 3 by kernel_rfl).symm.trans hf) |>.symm
   obtain rfl:fn=Tryz.f3:=(Option.some.inj (Tryz.func3.symm.trans hfn)).symm;exact⟨by kernel_rfl,fun j t ht=>by
    rw[Tryz.params3] at ht;have hm:t∈[22]:=by simpa using Array.mem_of_getElem? ht
    have hall:([22].all fun u=>!Tryz.prog.wantsStandIn u)=true:=by kernel_rfl
    exact(show Tryz.prog.wantsStandIn t=false by simpa using List.all_eq_true.1 hall t hm)⟩)
  (by kernel_rfl)
end Go.Proofs.YtngcnclchcahlabGreatDoor

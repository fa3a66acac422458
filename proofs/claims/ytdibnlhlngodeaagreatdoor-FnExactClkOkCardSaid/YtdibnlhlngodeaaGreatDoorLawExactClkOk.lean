/- The tied card of FnExactClkOk: for every input it returns true, and its arguments read behind the call as they read before; the listed tables of the library as the program's text lays them. No conditions beyond the given card's own. -/
import Derived.Test.YtdibnlhlngodeaaGreatDoorPZV
import Derived.Test.YtdibnlhlngodeaaGreatDoorG
import Derived.Test.YtdibnlhlngodeaaGreatDoorCards
import Derived.Test.YtdibnlhlngodeaaGreatDoorTie
import Derived.Test.YtdibnlhlngodeaaGreatDoorTd
import Derived.SevenTiedAt
import Derived.ProofKit
import Derived.LaidMore
import Derived.LaidHandle
import Derived.OpenShut
import Derived.Stop.Joined
set_option linter.unusedVariables false
set_option linter.unusedSimpArgs false
namespace Go.Proofs.YtdibnlhlngodeaaGreatDoor
open Go Go.Tm Go.ChangeShapes Go.WideShapes Go.ChangeAt Go.RowKit

abbrev laids : List (String × DataW Unit) := [("math/bits.deBruijn32tab", Rows.laid_math_bits_deBruijn32tab), ("math/bits.deBruijn64tab", Rows.laid_math_bits_deBruijn64tab), ("internal/strconv.uint64pow10", Rows.laid_internal_strconv_uint64pow10)]

theorem FnExactClkOk_own : ownKnob Tryz.prog.godebug = none := by kernel_rfl
theorem FnExactClkOk_laid : laidOutB Tryz.prog = true := by kernel_rfl

theorem FnExactClkOk_pow : (("internal/strconv.uint64pow10", Rows.laid_internal_strconv_uint64pow10) : String × DataW Unit) = ("internal/strconv.uint64pow10", Lib.tabData .u64 Lib.pow10Tab) := by kernel_rfl

theorem FnExactClkOk_tab {W : World} (h : laidMetH Tryz.prog laids W) : Lib.TabIs Tryz.prog W "internal/strconv.uint64pow10" .u64 Lib.pow10Tab :=
  tab_third (by kernel_rfl) FnExactClkOk_pow (g := 0) (t := 290) (e := 284) (n := 20) (by kernel_rfl) (by kernel_rfl) (by kernel_rfl) (by kernel_rfl) (by kernel_rfl) (by kernel_rfl) h

theorem FnExactClkOk_door (os : Os) (args : Array Value) : laidMetH Tryz.prog laids ((World.doorLaid Tryz.prog 400 os).forCall (fun _ _ => 0) ⟨#[], args, []⟩).memory :=
  laidMetH_of_parts3 (fuel := 8) (laidMet_of_run' 8 (by kernel_rfl) (by kernel_rfl)) (by kernel_rfl) (by kernel_rfl)

set_option maxRecDepth 100000 in
theorem FnExactClkOk_lifted (os : Os) (started : os.Started) (H : Type) (enc : TypeId × Value → H) :
    ReturnsInHanded {} Tryz.checked os 6 .any (fun w args => (Rows.fnExactClkOkSpec.pre enc Tryz.prog Tryz.f6 [] false w args ∧ laidMetH Tryz.prog laids w) ∧ sizedMet enc Tryz.prog Tryz.f6 (OpenSpec.ofChange Rows.fnExactClkOkSpec) false w args)
      (Rows.fnExactClkOkSpec.post enc Tryz.prog Tryz.f6 false true false false) :=
  liftSX (C := Tryz.checked) (L := L) (Φ := Fix.tab Tryz.prog "internal/strconv.uint64pow10" .u64 Lib.pow10Tab) (X := fun w _ => laidMetH Tryz.prog laids w) (fl := true) (ts := [25, 63]) (ss := [tyPlan, tyClk]) (tb := 4) (pars := [.g [.i .i64, .s, .s, .s], .g [.b, .i .i64, .s, .s, .s, .s]]) (n := 8)
    (fun _ _ _ hh h => h.of_heap hh) (fun _ _ h => FnExactClkOk_tab h) FnExactClkOk_own started (by kernel_rfl) Tryz.func6
    (ChangeSpec.witness_shaped (enc := enc) (C := Tryz.checked) (os := os) (X := fun w _ => laidMetH Tryz.prog laids w) false (World.doorLaid Tryz.prog 400 os) #[.agg #[.int .i64 0, .slice none 0 0, .slice none 0 0, .slice none 0 0], .agg #[.bool false, .int .i64 0, .slice none 0 0, .slice none 0 0, .slice none 0 0, .slice none 0 0]] 8 rfl (World.shaped_of_RefB (by kernel_rfl) (by kernel_rfl)) (by kernel_rfl) (by kernel_rfl) (by kernel_rfl) (FnExactClkOk_door os _))
    (congrArg Array.toList Tryz.params6) (by kernel_rfl) (by kernel_rfl) (by kernel_rfl) (by kernel_rfl)
    FnExactClkOk_laid (by kernel_rfl) rfl (fun ds h => match ds, h with | [_, _], _ => rfl)
    (by kernel_rfl) allGood rfl arg_FnExactClkOk

theorem FnExactClkOk_holds : Rows.FnExactClkOkSaid :=
  OpenClaim.holds_of_wide 6 Tryz.f6 rfl rfl rfl rfl rfl rfl rfl ⟨rfl, rfl, rfl, rfl, rfl⟩ rfl rfl rfl rfl rfl (by kernel_rfl) Tryz.func6 (by kernel_rfl)
    (of_decide_eq_true (by kernel_rfl)) (by unfold Func.isWrapper; first | (rw [if_pos (by decide +kernel)]; kernel_rfl) | (rw [if_neg (by decide +kernel)]; exact ⟨rfl, rfl⟩))
    (fun os started H enc _ => FnExactClkOk_lifted os started H enc)

theorem FnExactClkOk_card_holds : Rows.FnExactClkOkCardSaid :=
  Claim7.holds_tied_plain_at .later [] [.data, .data, .data] true (true, "1c7edcc55a4e2648a642f8e0698542fd8e1d4b4a7f1aee044cda1a5a8834c17d") false
    FnExactClkOk_holds (fun _ h => by cases h) (by kernel_rfl) (fun _ h => by cases h) fnExactClkOk_row_tie rfl ⟨rfl, rfl⟩ (by kernel_rfl) rfl
    (fun f fn hf hfn => by
      obtain rfl : f = 6 := Option.some.inj ((show Tryz.prog.funcNamed "loop.example/concord/laws.FnExactClkOk" = some 6 by kernel_rfl).symm.trans hf) |>.symm
      obtain rfl : fn = Tryz.f6 := (Option.some.inj (Tryz.func6.symm.trans hfn)).symm
      exact ⟨by kernel_rfl, fun j t ht => by
        rw [Tryz.params6] at ht
        have hm : t ∈ [25, 63] := by simpa using Array.mem_of_getElem? ht
        have hall : ([25, 63].all fun u => !Tryz.prog.wantsStandIn u) = true := by kernel_rfl
        exact (show Tryz.prog.wantsStandIn t = false by simpa using List.all_eq_true.1 hall t hm)⟩)
    (by kernel_rfl)

end Go.Proofs.YtdibnlhlngodeaaGreatDoor
#print axioms Go.Proofs.YtdibnlhlngodeaaGreatDoor.FnExactClkOk_card_holds

/- Each residual program is what symbolic execution gives. -/
import Derived.Test.YtbikgdcgoogngaaR
import Derived.Test.YtbikgdcgoogngaaRows
import Derived.KernelRfl
namespace Go.Proofs.Ytbikgdcgoogngaa
open Go Go.Tm
theorem good_spec_l20Open : GoodE Try.prog (sgOf L) f_spec_l20Open E_spec_l20Open := ⟨by kernel_rfl, by kernel_rfl⟩
theorem good_spec_l20Rd_pick : GoodE Try.prog (sgOf L) f_spec_l20Rd_pick E_spec_l20Rd_pick := ⟨by kernel_rfl, by kernel_rfl⟩
theorem good_spec_l20Vals : GoodE Try.prog (sgOf L) f_spec_l20Vals E_spec_l20Vals := ⟨by kernel_rfl, by kernel_rfl⟩
theorem good_spec_l20Treaty : GoodE Try.prog (sgOf L) f_spec_l20Treaty E_spec_l20Treaty := ⟨by kernel_rfl, by kernel_rfl⟩
theorem good_spec_l20Added : GoodE Try.prog (sgOf L) f_spec_l20Added E_spec_l20Added := ⟨by kernel_rfl, by kernel_rfl⟩
theorem good_spec_FrmZero : GoodE Try.prog (sgOf L) f_spec_FrmZero E_spec_FrmZero := ⟨by kernel_rfl, by kernel_rfl⟩
theorem good_spec_l20Num : GoodE Try.prog (sgOf L) f_spec_l20Num E_spec_l20Num := ⟨by kernel_rfl, by kernel_rfl⟩
theorem good_spec_l20With : GoodE Try.prog (sgOf L) f_spec_l20With E_spec_l20With := ⟨by kernel_rfl, by kernel_rfl⟩
theorem good_spec_l20Small : GoodE Try.prog (sgOf L) f_spec_l20Small E_spec_l20Small := ⟨by kernel_rfl, by kernel_rfl⟩
theorem good_spec_l20Line : GoodE Try.prog (sgOf L) f_spec_l20Line E_spec_l20Line := ⟨by kernel_rfl, by kernel_rfl⟩
theorem good_spec_l1In : GoodE Try.prog (sgOf L) f_spec_l1In E_spec_l1In := ⟨by kernel_rfl, by kernel_rfl⟩
theorem good_spec_l1All : GoodE Try.prog (sgOf L) f_spec_l1All E_spec_l1All := ⟨by kernel_rfl, by kernel_rfl⟩
theorem good_spec_l2Small : GoodE Try.prog (sgOf L) f_spec_l2Small E_spec_l2Small := ⟨by kernel_rfl, by kernel_rfl⟩
theorem good_spec_l2Line : GoodE Try.prog (sgOf L) f_spec_l2Line E_spec_l2Line := ⟨by kernel_rfl, by kernel_rfl⟩
theorem good_spec_ActOk : GoodE Try.prog (sgOf L) f_spec_ActOk E_spec_ActOk := ⟨by kernel_rfl, by kernel_rfl⟩
theorem good_spec_l20Act : GoodE Try.prog (sgOf L) f_spec_l20Act E_spec_l20Act := ⟨by kernel_rfl, by kernel_rfl⟩
theorem good_spec_l20Acts : GoodE Try.prog (sgOf L) f_spec_l20Acts E_spec_l20Acts := ⟨by kernel_rfl, by kernel_rfl⟩
theorem good_spec_CatOk : GoodE Try.prog (sgOf L) f_spec_CatOk E_spec_CatOk := ⟨by kernel_rfl, by kernel_rfl⟩
theorem good_spec_FrmPot : GoodE Try.prog (sgOf L) f_spec_FrmPot E_spec_FrmPot := ⟨by kernel_rfl, by kernel_rfl⟩
theorem good_spec_l1Sum : GoodE Try.prog (sgOf L) f_spec_l1Sum E_spec_l1Sum := ⟨by kernel_rfl, by kernel_rfl⟩
theorem good_spec_l3Copy : GoodE Try.prog (sgOf L) f_spec_l3Copy E_spec_l3Copy := ⟨by kernel_rfl, by kernel_rfl⟩
theorem good_spec_FrmOk : GoodE Try.prog (sgOf L) f_spec_FrmOk E_spec_FrmOk := ⟨by kernel_rfl, by kernel_rfl⟩
theorem good_spec_FrmInto : GoodE Try.prog (sgOf L) f_spec_FrmInto E_spec_FrmInto := ⟨by kernel_rfl, by kernel_rfl⟩
theorem good_spec_l3Minus : GoodE Try.prog (sgOf L) f_spec_l3Minus E_spec_l3Minus := ⟨by kernel_rfl, by kernel_rfl⟩
theorem good_spec_l3Row : GoodE Try.prog (sgOf L) f_spec_l3Row E_spec_l3Row := ⟨by kernel_rfl, by kernel_rfl⟩
theorem good_spec_l3Walk : GoodE Try.prog (sgOf L) f_spec_l3Walk E_spec_l3Walk := ⟨by kernel_rfl, by kernel_rfl⟩
theorem good_spec_RowsOf : GoodE Try.prog (sgOf L) f_spec_RowsOf E_spec_RowsOf := ⟨by kernel_rfl, by kernel_rfl⟩
theorem good_spec_l4Reads : GoodE Try.prog (sgOf L) f_spec_l4Reads E_spec_l4Reads := ⟨by kernel_rfl, by kernel_rfl⟩
theorem good_spec_CatPart : GoodE Try.prog (sgOf L) f_spec_CatPart E_spec_CatPart := ⟨by kernel_rfl, by kernel_rfl⟩
theorem good_spec_l4Same : GoodE Try.prog (sgOf L) f_spec_l4Same E_spec_l4Same := ⟨by kernel_rfl, by kernel_rfl⟩
theorem good_spec_CatHas : GoodE Try.prog (sgOf L) f_spec_CatHas E_spec_CatHas := ⟨by kernel_rfl, by kernel_rfl⟩
theorem good_spec_l4Both : GoodE Try.prog (sgOf L) f_spec_l4Both E_spec_l4Both := ⟨by kernel_rfl, by kernel_rfl⟩
theorem good_spec_CatForms : GoodE Try.prog (sgOf L) f_spec_CatForms E_spec_CatForms := ⟨by kernel_rfl, by kernel_rfl⟩
theorem good_spec_DrawTrtAll : GoodE Try.prog (sgOf L) f_spec_DrawTrtAll E_spec_DrawTrtAll := ⟨by kernel_rfl, by kernel_rfl⟩
theorem good_impl_in : GoodE Try.prog (sgOf L) f_impl_in E_impl_in := ⟨by kernel_rfl, by kernel_rfl⟩
theorem good_impl_TrtOk_1 : GoodE Try.prog (sgOf L) f_impl_TrtOk_1 E_impl_TrtOk_1 := ⟨by kernel_rfl, by kernel_rfl⟩
theorem good_impl_within_1 : GoodE Try.prog (sgOf L) f_impl_within_1 E_impl_within_1 := ⟨by kernel_rfl, by kernel_rfl⟩
theorem good_slices_IndexFunc_Sint_int : GoodE Try.prog (sgOf L) f_slices_IndexFunc_Sint_int E_slices_IndexFunc_Sint_int := ⟨by kernel_rfl, by kernel_rfl⟩
theorem good_slices_ContainsFunc_Sint_int : GoodE Try.prog (sgOf L) f_slices_ContainsFunc_Sint_int E_slices_ContainsFunc_Sint_int := ⟨by kernel_rfl, by kernel_rfl⟩
theorem good_impl_within : GoodE Try.prog (sgOf L) f_impl_within E_impl_within := ⟨by kernel_rfl, by kernel_rfl⟩
theorem good_impl_ValOk : GoodE Try.prog (sgOf L) f_impl_ValOk E_impl_ValOk := ⟨by kernel_rfl, by kernel_rfl⟩
theorem good_impl_TrtOk : GoodE Try.prog (sgOf L) f_impl_TrtOk E_impl_TrtOk := ⟨by kernel_rfl, by kernel_rfl⟩
theorem good_slices_IndexFunc_SSint_Sint : GoodE Try.prog (sgOf L) f_slices_IndexFunc_SSint_Sint E_slices_IndexFunc_SSint_Sint := ⟨by kernel_rfl, by kernel_rfl⟩
theorem good_slices_ContainsFunc_SSint_Sint : GoodE Try.prog (sgOf L) f_slices_ContainsFunc_SSint_Sint E_slices_ContainsFunc_SSint_Sint := ⟨by kernel_rfl, by kernel_rfl⟩
theorem good_impl_partsOk_1 : GoodE Try.prog (sgOf L) f_impl_partsOk_1 E_impl_partsOk_1 := ⟨by kernel_rfl, by kernel_rfl⟩
theorem good_impl_partsOk : GoodE Try.prog (sgOf L) f_impl_partsOk E_impl_partsOk := ⟨by kernel_rfl, by kernel_rfl⟩
theorem good_impl_addedOk : GoodE Try.prog (sgOf L) f_impl_addedOk E_impl_addedOk := ⟨by kernel_rfl, by kernel_rfl⟩
theorem good_impl_TrtTreaty_ok : GoodE Try.prog (sgOf L) f_impl_TrtTreaty_ok E_impl_TrtTreaty_ok := ⟨by kernel_rfl, by kernel_rfl⟩
theorem good_impl_dot : GoodE Try.prog (sgOf L) f_impl_dot E_impl_dot := ⟨by kernel_rfl, by kernel_rfl⟩
theorem good_impl_TrtKeeps_1 : GoodE Try.prog (sgOf L) f_impl_TrtKeeps_1 E_impl_TrtKeeps_1 := ⟨by kernel_rfl, by kernel_rfl⟩
theorem good_impl_TrtKeeps : GoodE Try.prog (sgOf L) f_impl_TrtKeeps E_impl_TrtKeeps := ⟨by kernel_rfl, by kernel_rfl⟩
theorem good_impl_TrtAll : GoodE Try.prog (sgOf L) f_impl_TrtAll E_impl_TrtAll := ⟨by kernel_rfl, by kernel_rfl⟩
theorem good_spec_ValOk : GoodE Try.prog (sgOf L) f_spec_ValOk E_spec_ValOk := ⟨by kernel_rfl, by kernel_rfl⟩
theorem good_spec_TrtOk : GoodE Try.prog (sgOf L) f_spec_TrtOk E_spec_TrtOk := ⟨by kernel_rfl, by kernel_rfl⟩
theorem good_spec_l5Parts : GoodE Try.prog (sgOf L) f_spec_l5Parts E_spec_l5Parts := ⟨by kernel_rfl, by kernel_rfl⟩
theorem good_spec_l5Times : GoodE Try.prog (sgOf L) f_spec_l5Times E_spec_l5Times := ⟨by kernel_rfl, by kernel_rfl⟩
theorem good_spec_TrtKeeps : GoodE Try.prog (sgOf L) f_spec_TrtKeeps E_spec_TrtKeeps := ⟨by kernel_rfl, by kernel_rfl⟩
theorem good_spec_TrtAll : GoodE Try.prog (sgOf L) f_spec_TrtAll E_spec_TrtAll := ⟨by kernel_rfl, by kernel_rfl⟩
theorem good_laws_FnTrtAll : GoodE Try.prog (sgOf L) f_laws_FnTrtAll E_laws_FnTrtAll := ⟨by kernel_rfl, by kernel_rfl⟩
theorem allGood : AllGood Try.prog (sgOf L) L := ⟨good_spec_l20Open, good_spec_l20Rd_pick, good_spec_l20Vals, good_spec_l20Treaty, good_spec_l20Added, good_spec_FrmZero, good_spec_l20Num, good_spec_l20With, good_spec_l20Small, good_spec_l20Line, good_spec_l1In, good_spec_l1All, good_spec_l2Small, good_spec_l2Line, good_spec_ActOk, good_spec_l20Act, good_spec_l20Acts, good_spec_CatOk, good_spec_FrmPot, good_spec_l1Sum, good_spec_l3Copy, good_spec_FrmOk, good_spec_FrmInto, good_spec_l3Minus, good_spec_l3Row, good_spec_l3Walk, good_spec_RowsOf, good_spec_l4Reads, good_spec_CatPart, good_spec_l4Same, good_spec_CatHas, good_spec_l4Both, good_spec_CatForms, good_spec_DrawTrtAll, good_impl_in, good_impl_TrtOk_1, good_impl_within_1, good_slices_IndexFunc_Sint_int, good_slices_ContainsFunc_Sint_int, good_impl_within, good_impl_ValOk, good_impl_TrtOk, good_slices_IndexFunc_SSint_Sint, good_slices_ContainsFunc_SSint_Sint, good_impl_partsOk_1, good_impl_partsOk, good_impl_addedOk, good_impl_TrtTreaty_ok, good_impl_dot, good_impl_TrtKeeps_1, good_impl_TrtKeeps, good_impl_TrtAll, good_spec_ValOk, good_spec_TrtOk, good_spec_l5Parts, good_spec_l5Times, good_spec_TrtKeeps, good_spec_TrtAll, good_laws_FnTrtAll, trivial⟩
end Go.Proofs.Ytbikgdcgoogngaa

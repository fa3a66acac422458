/- Each residual program is what symbolic execution gives. -/
import Derived.Test.YtdibnlhlngodeaaDoorR
import Derived.Test.YtdibnlhlngodeaaDoorRows
import Derived.KernelRfl
import Derived.Test.YtdibnlhlngodeaaDoorJ
namespace Go.Proofs.YtdibnlhlngodeaaDoor
open Go Go.Tm
theorem good_spec_l20Open : GoodE Tryd.prog (sgOf L) f_spec_l20Open E_spec_l20Open (Fix.tab Tryd.prog "internal/strconv.uint64pow10" .u64 Lib.pow10Tab) := ⟨by kernel_rfl, by kernel_rfl⟩
theorem good_spec_l20Rd_pick : GoodE Tryd.prog (sgOf L) f_spec_l20Rd_pick E_spec_l20Rd_pick (Fix.tab Tryd.prog "internal/strconv.uint64pow10" .u64 Lib.pow10Tab) := ⟨by kernel_rfl, by kernel_rfl⟩
theorem good_spec_FrmZero : GoodE Tryd.prog (sgOf L) f_spec_FrmZero E_spec_FrmZero (Fix.tab Tryd.prog "internal/strconv.uint64pow10" .u64 Lib.pow10Tab) := ⟨by kernel_rfl, by kernel_rfl⟩
theorem good_spec_l20Num : GoodE Tryd.prog (sgOf L) f_spec_l20Num E_spec_l20Num (Fix.tab Tryd.prog "internal/strconv.uint64pow10" .u64 Lib.pow10Tab) := ⟨by kernel_rfl, by kernel_rfl⟩
theorem good_spec_l20With : GoodE Tryd.prog (sgOf L) f_spec_l20With E_spec_l20With (Fix.tab Tryd.prog "internal/strconv.uint64pow10" .u64 Lib.pow10Tab) := ⟨by kernel_rfl, by kernel_rfl⟩
theorem good_spec_l20Small : GoodE Tryd.prog (sgOf L) f_spec_l20Small E_spec_l20Small (Fix.tab Tryd.prog "internal/strconv.uint64pow10" .u64 Lib.pow10Tab) := ⟨by kernel_rfl, by kernel_rfl⟩
theorem good_spec_l20Line : GoodE Tryd.prog (sgOf L) f_spec_l20Line E_spec_l20Line (Fix.tab Tryd.prog "internal/strconv.uint64pow10" .u64 Lib.pow10Tab) := ⟨by kernel_rfl, by kernel_rfl⟩
theorem good_spec_l1In : GoodE Tryd.prog (sgOf L) f_spec_l1In E_spec_l1In (Fix.tab Tryd.prog "internal/strconv.uint64pow10" .u64 Lib.pow10Tab) := ⟨by kernel_rfl, by kernel_rfl⟩
theorem good_spec_l1All : GoodE Tryd.prog (sgOf L) f_spec_l1All E_spec_l1All (Fix.tab Tryd.prog "internal/strconv.uint64pow10" .u64 Lib.pow10Tab) := ⟨by kernel_rfl, by kernel_rfl⟩
theorem good_spec_l2Small : GoodE Tryd.prog (sgOf L) f_spec_l2Small E_spec_l2Small (Fix.tab Tryd.prog "internal/strconv.uint64pow10" .u64 Lib.pow10Tab) := ⟨by kernel_rfl, by kernel_rfl⟩
theorem good_spec_l2Line : GoodE Tryd.prog (sgOf L) f_spec_l2Line E_spec_l2Line (Fix.tab Tryd.prog "internal/strconv.uint64pow10" .u64 Lib.pow10Tab) := ⟨by kernel_rfl, by kernel_rfl⟩
theorem good_spec_ActOk : GoodE Tryd.prog (sgOf L) f_spec_ActOk E_spec_ActOk (Fix.tab Tryd.prog "internal/strconv.uint64pow10" .u64 Lib.pow10Tab) := ⟨by kernel_rfl, by kernel_rfl⟩
theorem good_spec_l20Act : GoodE Tryd.prog (sgOf L) f_spec_l20Act E_spec_l20Act (Fix.tab Tryd.prog "internal/strconv.uint64pow10" .u64 Lib.pow10Tab) := ⟨by kernel_rfl, by kernel_rfl⟩
theorem good_spec_l20Form : GoodE Tryd.prog (sgOf L) f_spec_l20Form E_spec_l20Form (Fix.tab Tryd.prog "internal/strconv.uint64pow10" .u64 Lib.pow10Tab) := ⟨by kernel_rfl, by kernel_rfl⟩
theorem good_spec_l20AnyAct : GoodE Tryd.prog (sgOf L) f_spec_l20AnyAct E_spec_l20AnyAct (Fix.tab Tryd.prog "internal/strconv.uint64pow10" .u64 Lib.pow10Tab) := ⟨by kernel_rfl, by kernel_rfl⟩
theorem good_spec_l20Vals : GoodE Tryd.prog (sgOf L) f_spec_l20Vals E_spec_l20Vals (Fix.tab Tryd.prog "internal/strconv.uint64pow10" .u64 Lib.pow10Tab) := ⟨by kernel_rfl, by kernel_rfl⟩
theorem good_spec_l20Args : GoodE Tryd.prog (sgOf L) f_spec_l20Args E_spec_l20Args (Fix.tab Tryd.prog "internal/strconv.uint64pow10" .u64 Lib.pow10Tab) := ⟨by kernel_rfl, by kernel_rfl⟩
theorem good_spec_DrawActRun : GoodE Tryd.prog (sgOf L) f_spec_DrawActRun E_spec_DrawActRun (Fix.tab Tryd.prog "internal/strconv.uint64pow10" .u64 Lib.pow10Tab) := ⟨by kernel_rfl, by kernel_rfl⟩
theorem good_impl_in : GoodE Tryd.prog (sgOf L) f_impl_in E_impl_in (Fix.tab Tryd.prog "internal/strconv.uint64pow10" .u64 Lib.pow10Tab) := ⟨by kernel_rfl, by kernel_rfl⟩
theorem good_impl_within_1 : GoodE Tryd.prog (sgOf L) f_impl_within_1 E_impl_within_1 (Fix.tab Tryd.prog "internal/strconv.uint64pow10" .u64 Lib.pow10Tab) := ⟨by kernel_rfl, by kernel_rfl⟩
theorem good_slices_IndexFunc_Sint_int : GoodE Tryd.prog (sgOf L) f_slices_IndexFunc_Sint_int E_slices_IndexFunc_Sint_int (Fix.tab Tryd.prog "internal/strconv.uint64pow10" .u64 Lib.pow10Tab) := ⟨by kernel_rfl, by kernel_rfl⟩
theorem good_slices_ContainsFunc_Sint_int : GoodE Tryd.prog (sgOf L) f_slices_ContainsFunc_Sint_int E_slices_ContainsFunc_Sint_int (Fix.tab Tryd.prog "internal/strconv.uint64pow10" .u64 Lib.pow10Tab) := ⟨by kernel_rfl, by kernel_rfl⟩
theorem good_impl_within : GoodE Tryd.prog (sgOf L) f_impl_within E_impl_within (Fix.tab Tryd.prog "internal/strconv.uint64pow10" .u64 Lib.pow10Tab) := ⟨by kernel_rfl, by kernel_rfl⟩
theorem good_impl_FrmForm_small : GoodE Tryd.prog (sgOf L) f_impl_FrmForm_small E_impl_FrmForm_small (Fix.tab Tryd.prog "internal/strconv.uint64pow10" .u64 Lib.pow10Tab) := ⟨by kernel_rfl, by kernel_rfl⟩
theorem good_slices_Equal_Sint_int : GoodE Tryd.prog (sgOf L) f_slices_Equal_Sint_int E_slices_Equal_Sint_int (Fix.tab Tryd.prog "internal/strconv.uint64pow10" .u64 Lib.pow10Tab) := ⟨by kernel_rfl, by kernel_rfl⟩
theorem good_impl_FrmForm_same : GoodE Tryd.prog (sgOf L) f_impl_FrmForm_same E_impl_FrmForm_same (Fix.tab Tryd.prog "internal/strconv.uint64pow10" .u64 Lib.pow10Tab) := ⟨by kernel_rfl, by kernel_rfl⟩
theorem good_impl_ActLine_ok : GoodE Tryd.prog (sgOf L) f_impl_ActLine_ok E_impl_ActLine_ok (Fix.tab Tryd.prog "internal/strconv.uint64pow10" .u64 Lib.pow10Tab) := ⟨by kernel_rfl, by kernel_rfl⟩
theorem good_impl_ActOk : GoodE Tryd.prog (sgOf L) f_impl_ActOk E_impl_ActOk (Fix.tab Tryd.prog "internal/strconv.uint64pow10" .u64 Lib.pow10Tab) := ⟨by kernel_rfl, by kernel_rfl⟩
theorem good_impl_ValOk : GoodE Tryd.prog (sgOf L) f_impl_ValOk E_impl_ValOk (Fix.tab Tryd.prog "internal/strconv.uint64pow10" .u64 Lib.pow10Tab) := ⟨by kernel_rfl, by kernel_rfl⟩
theorem good_impl_ArgOk : GoodE Tryd.prog (sgOf L) f_impl_ArgOk E_impl_ArgOk (Fix.tab Tryd.prog "internal/strconv.uint64pow10" .u64 Lib.pow10Tab) := ⟨by kernel_rfl, by kernel_rfl⟩
theorem good_slices_Clone_Sint_int : GoodE Tryd.prog (sgOf L) f_slices_Clone_Sint_int E_slices_Clone_Sint_int (Fix.tab Tryd.prog "internal/strconv.uint64pow10" .u64 Lib.pow10Tab) := ⟨by kernel_rfl, by kernel_rfl⟩
theorem good_impl_dot : GoodE Tryd.prog (sgOf L) f_impl_dot E_impl_dot (Fix.tab Tryd.prog "internal/strconv.uint64pow10" .u64 Lib.pow10Tab) := ⟨by kernel_rfl, by kernel_rfl⟩
theorem good_impl_FrmForm_at : GoodE Tryd.prog (sgOf L) f_impl_FrmForm_at E_impl_FrmForm_at (Fix.tab Tryd.prog "internal/strconv.uint64pow10" .u64 Lib.pow10Tab) := ⟨by kernel_rfl, by kernel_rfl⟩
theorem good_impl_ActRun : GoodE Tryd.prog (sgOf L) f_impl_ActRun E_impl_ActRun (Fix.tab Tryd.prog "internal/strconv.uint64pow10" .u64 Lib.pow10Tab) := ⟨by kernel_rfl, by kernel_rfl⟩
theorem good_spec_ValOk : GoodE Tryd.prog (sgOf L) f_spec_ValOk E_spec_ValOk (Fix.tab Tryd.prog "internal/strconv.uint64pow10" .u64 Lib.pow10Tab) := ⟨by kernel_rfl, by kernel_rfl⟩
theorem good_spec_ArgOk : GoodE Tryd.prog (sgOf L) f_spec_ArgOk E_spec_ArgOk (Fix.tab Tryd.prog "internal/strconv.uint64pow10" .u64 Lib.pow10Tab) := ⟨by kernel_rfl, by kernel_rfl⟩
theorem good_spec_l1At : GoodE Tryd.prog (sgOf L) f_spec_l1At E_spec_l1At (Fix.tab Tryd.prog "internal/strconv.uint64pow10" .u64 Lib.pow10Tab) := ⟨by kernel_rfl, by kernel_rfl⟩
theorem good_spec_l2End : GoodE Tryd.prog (sgOf L) f_spec_l2End E_spec_l2End (Fix.tab Tryd.prog "internal/strconv.uint64pow10" .u64 Lib.pow10Tab) := ⟨by kernel_rfl, by kernel_rfl⟩
theorem good_spec_ActRun : GoodE Tryd.prog (sgOf L) f_spec_ActRun E_spec_ActRun (Fix.tab Tryd.prog "internal/strconv.uint64pow10" .u64 Lib.pow10Tab) := ⟨by kernel_rfl, by kernel_rfl⟩
theorem good_laws_coInts : GoodE Tryd.prog (sgOf L) f_laws_coInts E_laws_coInts (Fix.tab Tryd.prog "internal/strconv.uint64pow10" .u64 Lib.pow10Tab) := ⟨by kernel_rfl, by kernel_rfl⟩
theorem good_laws_coRes : GoodE Tryd.prog (sgOf L) f_laws_coRes E_laws_coRes (Fix.tab Tryd.prog "internal/strconv.uint64pow10" .u64 Lib.pow10Tab) := ⟨by kernel_rfl, by kernel_rfl⟩
theorem good_impl_FrmZero : GoodE Tryd.prog (sgOf L) f_impl_FrmZero E_impl_FrmZero (Fix.tab Tryd.prog "internal/strconv.uint64pow10" .u64 Lib.pow10Tab) := ⟨by kernel_rfl, by kernel_rfl⟩
theorem good_impl_FrmOk : GoodE Tryd.prog (sgOf L) f_impl_FrmOk E_impl_FrmOk (Fix.tab Tryd.prog "internal/strconv.uint64pow10" .u64 Lib.pow10Tab) := ⟨by kernel_rfl, by kernel_rfl⟩
theorem good_laws_coHolds : GoodE Tryd.prog (sgOf L) f_laws_coHolds E_laws_coHolds (Fix.tab Tryd.prog "internal/strconv.uint64pow10" .u64 Lib.pow10Tab) := ⟨by kernel_rfl, by kernel_rfl⟩
theorem good_impl_codeWords : GoodE Tryd.prog (sgOf L) f_impl_codeWords E_impl_codeWords (Fix.tab Tryd.prog "internal/strconv.uint64pow10" .u64 Lib.pow10Tab) := ⟨by kernel_rfl, by kernel_rfl⟩
theorem good_impl_joined : GoodE Tryd.prog (sgOf L) f_impl_joined E_impl_joined (Fix.tab Tryd.prog "internal/strconv.uint64pow10" .u64 Lib.pow10Tab) := ⟨by kernel_rfl, hand_impl_joined.1, hand_impl_joined⟩
theorem good_impl_ResText : GoodE Tryd.prog (sgOf L) f_impl_ResText E_impl_ResText (Fix.tab Tryd.prog "internal/strconv.uint64pow10" .u64 Lib.pow10Tab) := ⟨by kernel_rfl, by kernel_rfl⟩
theorem good_impl_ResOk : GoodE Tryd.prog (sgOf L) f_impl_ResOk E_impl_ResOk (Fix.tab Tryd.prog "internal/strconv.uint64pow10" .u64 Lib.pow10Tab) := ⟨by kernel_rfl, by kernel_rfl⟩
theorem good_laws_FnActKept : GoodE Tryd.prog (sgOf L) f_laws_FnActKept E_laws_FnActKept (Fix.tab Tryd.prog "internal/strconv.uint64pow10" .u64 Lib.pow10Tab) := ⟨by kernel_rfl, by kernel_rfl⟩
theorem allGood : AllGood Tryd.prog (sgOf L) L (Fix.tab Tryd.prog "internal/strconv.uint64pow10" .u64 Lib.pow10Tab) := ⟨good_spec_l20Open, good_spec_l20Rd_pick, good_spec_FrmZero, good_spec_l20Num, good_spec_l20With, good_spec_l20Small, good_spec_l20Line, good_spec_l1In, good_spec_l1All, good_spec_l2Small, good_spec_l2Line, good_spec_ActOk, good_spec_l20Act, good_spec_l20Form, good_spec_l20AnyAct, good_spec_l20Vals, good_spec_l20Args, good_spec_DrawActRun, good_impl_in, good_impl_within_1, good_slices_IndexFunc_Sint_int, good_slices_ContainsFunc_Sint_int, good_impl_within, good_impl_FrmForm_small, good_slices_Equal_Sint_int, good_impl_FrmForm_same, good_impl_ActLine_ok, good_impl_ActOk, good_impl_ValOk, good_impl_ArgOk, good_slices_Clone_Sint_int, good_impl_dot, good_impl_FrmForm_at, good_impl_ActRun, good_spec_ValOk, good_spec_ArgOk, good_spec_l1At, good_spec_l2End, good_spec_ActRun, good_laws_coInts, good_laws_coRes, good_impl_FrmZero, good_impl_FrmOk, good_laws_coHolds, good_impl_codeWords, good_impl_joined, good_impl_ResText, good_impl_ResOk, good_laws_FnActKept, trivial⟩
end Go.Proofs.YtdibnlhlngodeaaDoor

/- Each residual program is what symbolic execution gives. -/
import Derived.Test.YtjmimbpcajogoaaR
import Derived.Test.YtjmimbpcajogoaaRows
import Derived.KernelRfl
namespace Go.Proofs.Ytjmimbpcajogoaa
open Go Go.Tm
theorem good_laws_szIntS : GoodE Try.prog (sgOf L) f_laws_szIntS E_laws_szIntS := ⟨by kernel_rfl, by kernel_rfl⟩
theorem good_laws_szFrmForm : GoodE Try.prog (sgOf L) f_laws_szFrmForm E_laws_szFrmForm := ⟨by kernel_rfl, by kernel_rfl⟩
theorem good_laws_szActLine : GoodE Try.prog (sgOf L) f_laws_szActLine E_laws_szActLine := ⟨by kernel_rfl, by kernel_rfl⟩
theorem good_laws_szActLineS : GoodE Try.prog (sgOf L) f_laws_szActLineS E_laws_szActLineS := ⟨by kernel_rfl, by kernel_rfl⟩
theorem good_laws_toIntS : GoodE Try.prog (sgOf L) f_laws_toIntS E_laws_toIntS := ⟨by kernel_rfl, by kernel_rfl⟩
theorem good_laws_toFrmForm : GoodE Try.prog (sgOf L) f_laws_toFrmForm E_laws_toFrmForm := ⟨by kernel_rfl, by kernel_rfl⟩
theorem good_laws_toActLine : GoodE Try.prog (sgOf L) f_laws_toActLine E_laws_toActLine := ⟨by kernel_rfl, by kernel_rfl⟩
theorem good_laws_toActLineS : GoodE Try.prog (sgOf L) f_laws_toActLineS E_laws_toActLineS := ⟨by kernel_rfl, by kernel_rfl⟩
theorem good_spec_l1In : GoodE Try.prog (sgOf L) f_spec_l1In E_spec_l1In := ⟨by kernel_rfl, by kernel_rfl⟩
theorem good_spec_l1All : GoodE Try.prog (sgOf L) f_spec_l1All E_spec_l1All := ⟨by kernel_rfl, by kernel_rfl⟩
theorem good_spec_l2Small : GoodE Try.prog (sgOf L) f_spec_l2Small E_spec_l2Small := ⟨by kernel_rfl, by kernel_rfl⟩
theorem good_spec_l2Line : GoodE Try.prog (sgOf L) f_spec_l2Line E_spec_l2Line := ⟨by kernel_rfl, by kernel_rfl⟩
theorem good_spec_ActOk : GoodE Try.prog (sgOf L) f_spec_ActOk E_spec_ActOk := ⟨by kernel_rfl, by kernel_rfl⟩
theorem good_spec_FrmZero : GoodE Try.prog (sgOf L) f_spec_FrmZero E_spec_FrmZero := ⟨by kernel_rfl, by kernel_rfl⟩
theorem good_spec_FrmPot : GoodE Try.prog (sgOf L) f_spec_FrmPot E_spec_FrmPot := ⟨by kernel_rfl, by kernel_rfl⟩
theorem good_spec_l1Sum : GoodE Try.prog (sgOf L) f_spec_l1Sum E_spec_l1Sum := ⟨by kernel_rfl, by kernel_rfl⟩
theorem good_spec_l3Copy : GoodE Try.prog (sgOf L) f_spec_l3Copy E_spec_l3Copy := ⟨by kernel_rfl, by kernel_rfl⟩
theorem good_spec_FrmOk : GoodE Try.prog (sgOf L) f_spec_FrmOk E_spec_FrmOk := ⟨by kernel_rfl, by kernel_rfl⟩
theorem good_spec_FrmInto : GoodE Try.prog (sgOf L) f_spec_FrmInto E_spec_FrmInto := ⟨by kernel_rfl, by kernel_rfl⟩
theorem good_spec_l3Minus : GoodE Try.prog (sgOf L) f_spec_l3Minus E_spec_l3Minus := ⟨by kernel_rfl, by kernel_rfl⟩
theorem good_spec_l3Row : GoodE Try.prog (sgOf L) f_spec_l3Row E_spec_l3Row := ⟨by kernel_rfl, by kernel_rfl⟩
theorem good_spec_l3Walk : GoodE Try.prog (sgOf L) f_spec_l3Walk E_spec_l3Walk := ⟨by kernel_rfl, by kernel_rfl⟩
theorem good_spec_RowsOf : GoodE Try.prog (sgOf L) f_spec_RowsOf E_spec_RowsOf := ⟨by kernel_rfl, by kernel_rfl⟩
theorem good_impl_in : GoodE Try.prog (sgOf L) f_impl_in E_impl_in := ⟨by kernel_rfl, by kernel_rfl⟩
theorem good_impl_within_1 : GoodE Try.prog (sgOf L) f_impl_within_1 E_impl_within_1 := ⟨by kernel_rfl, by kernel_rfl⟩
theorem good_slices_IndexFunc_Sint_int : GoodE Try.prog (sgOf L) f_slices_IndexFunc_Sint_int E_slices_IndexFunc_Sint_int := ⟨by kernel_rfl, by kernel_rfl⟩
theorem good_slices_ContainsFunc_Sint_int : GoodE Try.prog (sgOf L) f_slices_ContainsFunc_Sint_int E_slices_ContainsFunc_Sint_int := ⟨by kernel_rfl, by kernel_rfl⟩
theorem good_impl_within : GoodE Try.prog (sgOf L) f_impl_within E_impl_within := ⟨by kernel_rfl, by kernel_rfl⟩
theorem good_impl_FrmForm_small : GoodE Try.prog (sgOf L) f_impl_FrmForm_small E_impl_FrmForm_small := ⟨by kernel_rfl, by kernel_rfl⟩
theorem good_slices_Equal_Sint_int : GoodE Try.prog (sgOf L) f_slices_Equal_Sint_int E_slices_Equal_Sint_int := ⟨by kernel_rfl, by kernel_rfl⟩
theorem good_impl_FrmForm_same : GoodE Try.prog (sgOf L) f_impl_FrmForm_same E_impl_FrmForm_same := ⟨by kernel_rfl, by kernel_rfl⟩
theorem good_impl_ActLine_ok : GoodE Try.prog (sgOf L) f_impl_ActLine_ok E_impl_ActLine_ok := ⟨by kernel_rfl, by kernel_rfl⟩
theorem good_impl_ActOk : GoodE Try.prog (sgOf L) f_impl_ActOk E_impl_ActOk := ⟨by kernel_rfl, by kernel_rfl⟩
theorem good_impl_FrmZero : GoodE Try.prog (sgOf L) f_impl_FrmZero E_impl_FrmZero := ⟨by kernel_rfl, by kernel_rfl⟩
theorem good_impl_FrmPot : GoodE Try.prog (sgOf L) f_impl_FrmPot E_impl_FrmPot := ⟨by kernel_rfl, by kernel_rfl⟩
theorem good_slices_Clone_Sint_int : GoodE Try.prog (sgOf L) f_slices_Clone_Sint_int E_slices_Clone_Sint_int := ⟨by kernel_rfl, by kernel_rfl⟩
theorem good_impl_FrmForm_copied : GoodE Try.prog (sgOf L) f_impl_FrmForm_copied E_impl_FrmForm_copied := ⟨by kernel_rfl, by kernel_rfl⟩
theorem good_impl_forms : GoodE Try.prog (sgOf L) f_impl_forms E_impl_forms := ⟨by kernel_rfl, by kernel_rfl⟩
theorem good_impl_FrmOk : GoodE Try.prog (sgOf L) f_impl_FrmOk E_impl_FrmOk := ⟨by kernel_rfl, by kernel_rfl⟩
theorem good_slices_IndexFunc_Simpl_FrmForm_impl_FrmForm : GoodE Try.prog (sgOf L) f_slices_IndexFunc_Simpl_FrmForm_impl_FrmForm E_slices_IndexFunc_Simpl_FrmForm_impl_FrmForm := ⟨by kernel_rfl, by kernel_rfl⟩
theorem good_slices_ContainsFunc_Simpl_FrmForm_impl_FrmForm : GoodE Try.prog (sgOf L) f_slices_ContainsFunc_Simpl_FrmForm_impl_FrmForm E_slices_ContainsFunc_Simpl_FrmForm_impl_FrmForm := ⟨by kernel_rfl, by kernel_rfl⟩
theorem good_impl_FrmInto_1 : GoodE Try.prog (sgOf L) f_impl_FrmInto_1 E_impl_FrmInto_1 := ⟨by kernel_rfl, by kernel_rfl⟩
theorem good_impl_FrmForm_add : GoodE Try.prog (sgOf L) f_impl_FrmForm_add E_impl_FrmForm_add := ⟨by kernel_rfl, by kernel_rfl⟩
theorem good_impl_checked : GoodE Try.prog (sgOf L) f_impl_checked E_impl_checked := ⟨by kernel_rfl, by kernel_rfl⟩
theorem good_impl_FrmInto : GoodE Try.prog (sgOf L) f_impl_FrmInto E_impl_FrmInto := ⟨by kernel_rfl, by kernel_rfl⟩
theorem good_impl_FrmTimes : GoodE Try.prog (sgOf L) f_impl_FrmTimes E_impl_FrmTimes := ⟨by kernel_rfl, by kernel_rfl⟩
theorem good_impl_FrmAdd : GoodE Try.prog (sgOf L) f_impl_FrmAdd E_impl_FrmAdd := ⟨by kernel_rfl, by kernel_rfl⟩
theorem good_impl_walker_walk : GoodE Try.prog (sgOf L) f_impl_walker_walk E_impl_walker_walk := ⟨by kernel_rfl, by kernel_rfl⟩
theorem good_impl_RowsOf : GoodE Try.prog (sgOf L) f_impl_RowsOf E_impl_RowsOf := ⟨by kernel_rfl, by kernel_rfl⟩
theorem good_laws_eqIntS : GoodE Try.prog (sgOf L) f_laws_eqIntS E_laws_eqIntS := ⟨by kernel_rfl, by kernel_rfl⟩
theorem good_laws_eqFrmForm : GoodE Try.prog (sgOf L) f_laws_eqFrmForm E_laws_eqFrmForm := ⟨by kernel_rfl, by kernel_rfl⟩
theorem good_laws_eqFrmFormS : GoodE Try.prog (sgOf L) f_laws_eqFrmFormS E_laws_eqFrmFormS := ⟨by kernel_rfl, by kernel_rfl⟩
theorem good_laws_eqRowRow : GoodE Try.prog (sgOf L) f_laws_eqRowRow E_laws_eqRowRow := ⟨by kernel_rfl, by kernel_rfl⟩
theorem good_laws_eqRowRowS : GoodE Try.prog (sgOf L) f_laws_eqRowRowS E_laws_eqRowRowS := ⟨by kernel_rfl, by kernel_rfl⟩
theorem good_laws_eqActLine : GoodE Try.prog (sgOf L) f_laws_eqActLine E_laws_eqActLine := ⟨by kernel_rfl, by kernel_rfl⟩
theorem good_laws_eqActLineS : GoodE Try.prog (sgOf L) f_laws_eqActLineS E_laws_eqActLineS := ⟨by kernel_rfl, by kernel_rfl⟩
theorem good_laws_markIntS : GoodE Try.prog (sgOf L) f_laws_markIntS E_laws_markIntS := ⟨by kernel_rfl, by kernel_rfl⟩
theorem good_laws_markActLineS : GoodE Try.prog (sgOf L) f_laws_markActLineS E_laws_markActLineS := ⟨by kernel_rfl, by kernel_rfl⟩
theorem good_laws_markFrmFormS : GoodE Try.prog (sgOf L) f_laws_markFrmFormS E_laws_markFrmFormS := ⟨by kernel_rfl, by kernel_rfl⟩
theorem good_laws_markRowRowS : GoodE Try.prog (sgOf L) f_laws_markRowRowS E_laws_markRowRowS := ⟨by kernel_rfl, by kernel_rfl⟩
theorem good_laws_heldIntS : GoodE Try.prog (sgOf L) f_laws_heldIntS E_laws_heldIntS := ⟨by kernel_rfl, by kernel_rfl⟩
theorem good_laws_heldFrmFormS : GoodE Try.prog (sgOf L) f_laws_heldFrmFormS E_laws_heldFrmFormS := ⟨by kernel_rfl, by kernel_rfl⟩
theorem good_laws_heldRowRowS : GoodE Try.prog (sgOf L) f_laws_heldRowRowS E_laws_heldRowRowS := ⟨by kernel_rfl, by kernel_rfl⟩
theorem good_laws_FnExactRowsOf : GoodE Try.prog (sgOf L) f_laws_FnExactRowsOf E_laws_FnExactRowsOf := ⟨by kernel_rfl, by kernel_rfl⟩
theorem allGood : AllGood Try.prog (sgOf L) L := ⟨good_laws_szIntS, good_laws_szFrmForm, good_laws_szActLine, good_laws_szActLineS, good_laws_toIntS, good_laws_toFrmForm, good_laws_toActLine, good_laws_toActLineS, good_spec_l1In, good_spec_l1All, good_spec_l2Small, good_spec_l2Line, good_spec_ActOk, good_spec_FrmZero, good_spec_FrmPot, good_spec_l1Sum, good_spec_l3Copy, good_spec_FrmOk, good_spec_FrmInto, good_spec_l3Minus, good_spec_l3Row, good_spec_l3Walk, good_spec_RowsOf, good_impl_in, good_impl_within_1, good_slices_IndexFunc_Sint_int, good_slices_ContainsFunc_Sint_int, good_impl_within, good_impl_FrmForm_small, good_slices_Equal_Sint_int, good_impl_FrmForm_same, good_impl_ActLine_ok, good_impl_ActOk, good_impl_FrmZero, good_impl_FrmPot, good_slices_Clone_Sint_int, good_impl_FrmForm_copied, good_impl_forms, good_impl_FrmOk, good_slices_IndexFunc_Simpl_FrmForm_impl_FrmForm, good_slices_ContainsFunc_Simpl_FrmForm_impl_FrmForm, good_impl_FrmInto_1, good_impl_FrmForm_add, good_impl_checked, good_impl_FrmInto, good_impl_FrmTimes, good_impl_FrmAdd, good_impl_walker_walk, good_impl_RowsOf, good_laws_eqIntS, good_laws_eqFrmForm, good_laws_eqFrmFormS, good_laws_eqRowRow, good_laws_eqRowRowS, good_laws_eqActLine, good_laws_eqActLineS, good_laws_markIntS, good_laws_markActLineS, good_laws_markFrmFormS, good_laws_markRowRowS, good_laws_heldIntS, good_laws_heldFrmFormS, good_laws_heldRowRowS, good_laws_FnExactRowsOf, trivial⟩
end Go.Proofs.Ytjmimbpcajogoaa

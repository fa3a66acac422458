/- Each residual program is what symbolic execution gives. -/
import Derived.Test.YtjmimbpcajogoaaR
import Derived.Test.YtjmimbpcajogoaaRows
import Derived.KernelRfl
namespace Go.Proofs.Ytjmimbpcajogoaa
open Go Go.Tm
theorem good_laws_szIntS : GoodE Try.prog (sgOf L) f_laws_szIntS E_laws_szIntS := ⟨by kernel_rfl, by kernel_rfl⟩
theorem good_laws_szFrmForm : GoodE Try.prog (sgOf L) f_laws_szFrmForm E_laws_szFrmForm := ⟨by kernel_rfl, by kernel_rfl⟩
theorem good_laws_szActLine : GoodE Try.prog (sgOf L) f_laws_szActLine E_laws_szActLine := ⟨by kernel_rfl, by kernel_rfl⟩
theorem good_laws_szActLineS : GoodE Try.prog (sgOf L) f_laws_szActLineS E_laws_szActLineS := ⟨by kernel_rfl, by kernel_rfl⟩
theorem good_laws_szActLineSS : GoodE Try.prog (sgOf L) f_laws_szActLineSS E_laws_szActLineSS := ⟨by kernel_rfl, by kernel_rfl⟩
theorem good_laws_szPlnPlan : GoodE Try.prog (sgOf L) f_laws_szPlnPlan E_laws_szPlnPlan := ⟨by kernel_rfl, by kernel_rfl⟩
theorem good_laws_toIntS : GoodE Try.prog (sgOf L) f_laws_toIntS E_laws_toIntS := ⟨by kernel_rfl, by kernel_rfl⟩
theorem good_laws_toFrmForm : GoodE Try.prog (sgOf L) f_laws_toFrmForm E_laws_toFrmForm := ⟨by kernel_rfl, by kernel_rfl⟩
theorem good_laws_toActLine : GoodE Try.prog (sgOf L) f_laws_toActLine E_laws_toActLine := ⟨by kernel_rfl, by kernel_rfl⟩
theorem good_laws_toActLineS : GoodE Try.prog (sgOf L) f_laws_toActLineS E_laws_toActLineS := ⟨by kernel_rfl, by kernel_rfl⟩
theorem good_laws_toActLineSS : GoodE Try.prog (sgOf L) f_laws_toActLineSS E_laws_toActLineSS := ⟨by kernel_rfl, by kernel_rfl⟩
theorem good_laws_toPlnPlan : GoodE Try.prog (sgOf L) f_laws_toPlnPlan E_laws_toPlnPlan := ⟨by kernel_rfl, by kernel_rfl⟩
theorem good_spec_l1In : GoodE Try.prog (sgOf L) f_spec_l1In E_spec_l1In := ⟨by kernel_rfl, by kernel_rfl⟩
theorem good_spec_l1All : GoodE Try.prog (sgOf L) f_spec_l1All E_spec_l1All := ⟨by kernel_rfl, by kernel_rfl⟩
theorem good_spec_l2Small : GoodE Try.prog (sgOf L) f_spec_l2Small E_spec_l2Small := ⟨by kernel_rfl, by kernel_rfl⟩
theorem good_spec_l2Line : GoodE Try.prog (sgOf L) f_spec_l2Line E_spec_l2Line := ⟨by kernel_rfl, by kernel_rfl⟩
theorem good_spec_ActOk : GoodE Try.prog (sgOf L) f_spec_ActOk E_spec_ActOk := ⟨by kernel_rfl, by kernel_rfl⟩
theorem good_spec_CatOk : GoodE Try.prog (sgOf L) f_spec_CatOk E_spec_CatOk := ⟨by kernel_rfl, by kernel_rfl⟩
theorem good_spec_ValOk : GoodE Try.prog (sgOf L) f_spec_ValOk E_spec_ValOk := ⟨by kernel_rfl, by kernel_rfl⟩
theorem good_spec_TrtOk : GoodE Try.prog (sgOf L) f_spec_TrtOk E_spec_TrtOk := ⟨by kernel_rfl, by kernel_rfl⟩
theorem good_spec_PlnOk : GoodE Try.prog (sgOf L) f_spec_PlnOk E_spec_PlnOk := ⟨by kernel_rfl, by kernel_rfl⟩
theorem good_spec_l6New : GoodE Try.prog (sgOf L) f_spec_l6New E_spec_l6New := ⟨by kernel_rfl, by kernel_rfl⟩
theorem good_spec_SitNew : GoodE Try.prog (sgOf L) f_spec_SitNew E_spec_SitNew := ⟨by kernel_rfl, by kernel_rfl⟩
theorem good_impl_in : GoodE Try.prog (sgOf L) f_impl_in E_impl_in := ⟨by kernel_rfl, by kernel_rfl⟩
theorem good_slices_IndexFunc_SSimpl_ActLine_Simpl_ActLine : GoodE Try.prog (sgOf L) f_slices_IndexFunc_SSimpl_ActLine_Simpl_ActLine E_slices_IndexFunc_SSimpl_ActLine_Simpl_ActLine := ⟨by kernel_rfl, by kernel_rfl⟩
theorem good_slices_ContainsFunc_SSimpl_ActLine_Simpl_ActLine : GoodE Try.prog (sgOf L) f_slices_ContainsFunc_SSimpl_ActLine_Simpl_ActLine E_slices_ContainsFunc_SSimpl_ActLine_Simpl_ActLine := ⟨by kernel_rfl, by kernel_rfl⟩
theorem good_impl_within_1 : GoodE Try.prog (sgOf L) f_impl_within_1 E_impl_within_1 := ⟨by kernel_rfl, by kernel_rfl⟩
theorem good_slices_IndexFunc_Sint_int : GoodE Try.prog (sgOf L) f_slices_IndexFunc_Sint_int E_slices_IndexFunc_Sint_int := ⟨by kernel_rfl, by kernel_rfl⟩
theorem good_slices_ContainsFunc_Sint_int : GoodE Try.prog (sgOf L) f_slices_ContainsFunc_Sint_int E_slices_ContainsFunc_Sint_int := ⟨by kernel_rfl, by kernel_rfl⟩
theorem good_impl_within : GoodE Try.prog (sgOf L) f_impl_within E_impl_within := ⟨by kernel_rfl, by kernel_rfl⟩
theorem good_impl_FrmForm_small : GoodE Try.prog (sgOf L) f_impl_FrmForm_small E_impl_FrmForm_small := ⟨by kernel_rfl, by kernel_rfl⟩
theorem good_slices_Equal_Sint_int : GoodE Try.prog (sgOf L) f_slices_Equal_Sint_int E_slices_Equal_Sint_int := ⟨by kernel_rfl, by kernel_rfl⟩
theorem good_impl_FrmForm_same : GoodE Try.prog (sgOf L) f_impl_FrmForm_same E_impl_FrmForm_same := ⟨by kernel_rfl, by kernel_rfl⟩
theorem good_impl_ActLine_ok : GoodE Try.prog (sgOf L) f_impl_ActLine_ok E_impl_ActLine_ok := ⟨by kernel_rfl, by kernel_rfl⟩
theorem good_impl_ActOk : GoodE Try.prog (sgOf L) f_impl_ActOk E_impl_ActOk := ⟨by kernel_rfl, by kernel_rfl⟩
theorem good_impl_CatOk_1 : GoodE Try.prog (sgOf L) f_impl_CatOk_1 E_impl_CatOk_1 := ⟨by kernel_rfl, by kernel_rfl⟩
theorem good_impl_CatOk : GoodE Try.prog (sgOf L) f_impl_CatOk E_impl_CatOk := ⟨by kernel_rfl, by kernel_rfl⟩
theorem good_impl_PlnPlan_treaty : GoodE Try.prog (sgOf L) f_impl_PlnPlan_treaty E_impl_PlnPlan_treaty := ⟨by kernel_rfl, by kernel_rfl⟩
theorem good_impl_TrtOk_1 : GoodE Try.prog (sgOf L) f_impl_TrtOk_1 E_impl_TrtOk_1 := ⟨by kernel_rfl, by kernel_rfl⟩
theorem good_impl_ValOk : GoodE Try.prog (sgOf L) f_impl_ValOk E_impl_ValOk := ⟨by kernel_rfl, by kernel_rfl⟩
theorem good_impl_TrtOk : GoodE Try.prog (sgOf L) f_impl_TrtOk E_impl_TrtOk := ⟨by kernel_rfl, by kernel_rfl⟩
theorem good_impl_PlnOk : GoodE Try.prog (sgOf L) f_impl_PlnOk E_impl_PlnOk := ⟨by kernel_rfl, by kernel_rfl⟩
theorem good_slices_Clone_Sint_int : GoodE Try.prog (sgOf L) f_slices_Clone_Sint_int E_slices_Clone_Sint_int := ⟨by kernel_rfl, by kernel_rfl⟩
theorem good_impl_PlnPlan_siteNew : GoodE Try.prog (sgOf L) f_impl_PlnPlan_siteNew E_impl_PlnPlan_siteNew := ⟨by kernel_rfl, by kernel_rfl⟩
theorem good_impl_SitNew : GoodE Try.prog (sgOf L) f_impl_SitNew E_impl_SitNew := ⟨by kernel_rfl, by kernel_rfl⟩
theorem good_laws_eqIntS : GoodE Try.prog (sgOf L) f_laws_eqIntS E_laws_eqIntS := ⟨by kernel_rfl, by kernel_rfl⟩
theorem good_laws_eqResResult : GoodE Try.prog (sgOf L) f_laws_eqResResult E_laws_eqResResult := ⟨by kernel_rfl, by kernel_rfl⟩
theorem good_laws_eqPlnDone : GoodE Try.prog (sgOf L) f_laws_eqPlnDone E_laws_eqPlnDone := ⟨by kernel_rfl, by kernel_rfl⟩
theorem good_laws_eqPlnDoneS : GoodE Try.prog (sgOf L) f_laws_eqPlnDoneS E_laws_eqPlnDoneS := ⟨by kernel_rfl, by kernel_rfl⟩
theorem good_laws_eqSitSite : GoodE Try.prog (sgOf L) f_laws_eqSitSite E_laws_eqSitSite := ⟨by kernel_rfl, by kernel_rfl⟩
theorem good_laws_eqFrmForm : GoodE Try.prog (sgOf L) f_laws_eqFrmForm E_laws_eqFrmForm := ⟨by kernel_rfl, by kernel_rfl⟩
theorem good_laws_eqActLine : GoodE Try.prog (sgOf L) f_laws_eqActLine E_laws_eqActLine := ⟨by kernel_rfl, by kernel_rfl⟩
theorem good_laws_eqActLineS : GoodE Try.prog (sgOf L) f_laws_eqActLineS E_laws_eqActLineS := ⟨by kernel_rfl, by kernel_rfl⟩
theorem good_laws_eqActLineSS : GoodE Try.prog (sgOf L) f_laws_eqActLineSS E_laws_eqActLineSS := ⟨by kernel_rfl, by kernel_rfl⟩
theorem good_laws_eqPlnPlan : GoodE Try.prog (sgOf L) f_laws_eqPlnPlan E_laws_eqPlnPlan := ⟨by kernel_rfl, by kernel_rfl⟩
theorem good_laws_markIntS : GoodE Try.prog (sgOf L) f_laws_markIntS E_laws_markIntS := ⟨by kernel_rfl, by kernel_rfl⟩
theorem good_laws_markActLineS : GoodE Try.prog (sgOf L) f_laws_markActLineS E_laws_markActLineS := ⟨by kernel_rfl, by kernel_rfl⟩
theorem good_laws_markActLineSS : GoodE Try.prog (sgOf L) f_laws_markActLineSS E_laws_markActLineSS := ⟨by kernel_rfl, by kernel_rfl⟩
theorem good_laws_markPlnPlan : GoodE Try.prog (sgOf L) f_laws_markPlnPlan E_laws_markPlnPlan := ⟨by kernel_rfl, by kernel_rfl⟩
theorem good_laws_markPlnDoneS : GoodE Try.prog (sgOf L) f_laws_markPlnDoneS E_laws_markPlnDoneS := ⟨by kernel_rfl, by kernel_rfl⟩
theorem good_laws_markSitSite : GoodE Try.prog (sgOf L) f_laws_markSitSite E_laws_markSitSite := ⟨by kernel_rfl, by kernel_rfl⟩
theorem good_laws_heldIntS : GoodE Try.prog (sgOf L) f_laws_heldIntS E_laws_heldIntS := ⟨by kernel_rfl, by kernel_rfl⟩
theorem good_laws_heldPlnDoneS : GoodE Try.prog (sgOf L) f_laws_heldPlnDoneS E_laws_heldPlnDoneS := ⟨by kernel_rfl, by kernel_rfl⟩
theorem good_laws_heldSitSite : GoodE Try.prog (sgOf L) f_laws_heldSitSite E_laws_heldSitSite := ⟨by kernel_rfl, by kernel_rfl⟩
theorem good_laws_FnExactSitNew : GoodE Try.prog (sgOf L) f_laws_FnExactSitNew E_laws_FnExactSitNew := ⟨by kernel_rfl, by kernel_rfl⟩
theorem allGood : AllGood Try.prog (sgOf L) L := ⟨good_laws_szIntS, good_laws_szFrmForm, good_laws_szActLine, good_laws_szActLineS, good_laws_szActLineSS, good_laws_szPlnPlan, good_laws_toIntS, good_laws_toFrmForm, good_laws_toActLine, good_laws_toActLineS, good_laws_toActLineSS, good_laws_toPlnPlan, good_spec_l1In, good_spec_l1All, good_spec_l2Small, good_spec_l2Line, good_spec_ActOk, good_spec_CatOk, good_spec_ValOk, good_spec_TrtOk, good_spec_PlnOk, good_spec_l6New, good_spec_SitNew, good_impl_in, good_slices_IndexFunc_SSimpl_ActLine_Simpl_ActLine, good_slices_ContainsFunc_SSimpl_ActLine_Simpl_ActLine, good_impl_within_1, good_slices_IndexFunc_Sint_int, good_slices_ContainsFunc_Sint_int, good_impl_within, good_impl_FrmForm_small, good_slices_Equal_Sint_int, good_impl_FrmForm_same, good_impl_ActLine_ok, good_impl_ActOk, good_impl_CatOk_1, good_impl_CatOk, good_impl_PlnPlan_treaty, good_impl_TrtOk_1, good_impl_ValOk, good_impl_TrtOk, good_impl_PlnOk, good_slices_Clone_Sint_int, good_impl_PlnPlan_siteNew, good_impl_SitNew, good_laws_eqIntS, good_laws_eqResResult, good_laws_eqPlnDone, good_laws_eqPlnDoneS, good_laws_eqSitSite, good_laws_eqFrmForm, good_laws_eqActLine, good_laws_eqActLineS, good_laws_eqActLineSS, good_laws_eqPlnPlan, good_laws_markIntS, good_laws_markActLineS, good_laws_markActLineSS, good_laws_markPlnPlan, good_laws_markPlnDoneS, good_laws_markSitSite, good_laws_heldIntS, good_laws_heldPlnDoneS, good_laws_heldSitSite, good_laws_FnExactSitNew, trivial⟩
end Go.Proofs.Ytjmimbpcajogoaa

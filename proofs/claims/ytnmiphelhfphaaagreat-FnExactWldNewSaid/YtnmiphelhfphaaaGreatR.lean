/- The residual programs of the functions, and the table of them. -/
import Derived.Test.YtnmiphelhfphaaaGreatTd
namespace Go.Proofs.YtnmiphelhfphaaaGreat
open Go Go.Tm
abbrev f_laws_szIntS : Nat := 14
abbrev f_laws_szFrmForm : Nat := 95
abbrev f_laws_szActLine : Nat := 78
abbrev f_laws_szActLineS : Nat := 45
abbrev f_laws_szActLineSS : Nat := 13
abbrev f_laws_szPlnPlan : Nat := 4
abbrev f_laws_toIntS : Nat := 20
abbrev f_laws_toFrmForm : Nat := 97
abbrev f_laws_toActLine : Nat := 81
abbrev f_laws_toActLineS : Nat := 53
abbrev f_laws_toActLineSS : Nat := 19
abbrev f_laws_toPlnPlan : Nat := 6
abbrev f_spec_l1In : Nat := 46
abbrev f_spec_l1All : Nat := 48
abbrev f_spec_l2Small : Nat := 102
abbrev f_spec_l2Line : Nat := 96
abbrev f_spec_ActOk : Nat := 79
abbrev f_spec_CatOk : Nat := 47
abbrev f_spec_ValOk : Nat := 80
abbrev f_spec_TrtOk : Nat := 49
abbrev f_spec_PlnOk : Nat := 15
abbrev f_spec_l6CopyActs : Nat := 50
abbrev f_spec_l6Copy : Nat := 16
abbrev f_spec_l6New : Nat := 51
abbrev f_spec_l9None : Nat := 52
abbrev f_spec_ClkNew : Nat := 17
abbrev f_spec_SitNew : Nat := 18
abbrev f_spec_WldNew : Nat := 5
abbrev f_impl_in : Nat := 54
abbrev f_slices_IndexFunc_SSimpl_ActLine_Simpl_ActLine : Nat := 98
abbrev f_slices_ContainsFunc_SSimpl_ActLine_Simpl_ActLine : Nat := 82
abbrev f_impl_within_1 : Nat := 86
abbrev f_slices_IndexFunc_Sint_int : Nat := 100
abbrev f_slices_ContainsFunc_Sint_int : Nat := 85
abbrev f_impl_within : Nat := 56
abbrev f_impl_FrmForm_small : Nat := 103
abbrev f_slices_Equal_Sint_int : Nat := 105
abbrev f_impl_FrmForm_same : Nat := 104
abbrev f_impl_ActLine_ok : Nat := 99
abbrev f_impl_ActOk : Nat := 84
abbrev f_impl_CatOk_1 : Nat := 83
abbrev f_impl_CatOk : Nat := 55
abbrev f_impl_PlnPlan_treaty : Nat := 58
abbrev f_impl_TrtOk_1 : Nat := 87
abbrev f_impl_ValOk : Nat := 88
abbrev f_impl_TrtOk : Nat := 57
abbrev f_impl_PlnOk : Nat := 21
abbrev f_slices_Clone_Sint_int : Nat := 60
abbrev f_impl_FrmForm_copied : Nat := 59
abbrev f_impl_PlnPlan_copied : Nat := 22
abbrev f_impl_PlnPlan_clerkNew : Nat := 23
abbrev f_impl_PlnPlan_siteNew : Nat := 24
abbrev f_impl_WldNew : Nat := 7
abbrev f_laws_eqIntS : Nat := 31
abbrev f_laws_eqFrmForm : Nat := 101
abbrev f_laws_eqActLine : Nat := 93
abbrev f_laws_eqActLineS : Nat := 68
abbrev f_laws_eqActLineSS : Nat := 30
abbrev f_laws_eqPlnPlan : Nat := 9
abbrev f_laws_eqResResult : Nat := 92
abbrev f_laws_eqPlnDone : Nat := 89
abbrev f_laws_eqPlnDoneS : Nat := 62
abbrev f_laws_eqSitSite : Nat := 61
abbrev f_laws_eqSitSiteS : Nat := 25
abbrev f_laws_eqPlnCall : Nat := 90
abbrev f_laws_eqPlnCallS : Nat := 63
abbrev f_laws_eqClkGot : Nat := 91
abbrev f_laws_eqClkGotS : Nat := 64
abbrev f_laws_eqClkClerk : Nat := 26
abbrev f_laws_eqConClient : Nat := 65
abbrev f_laws_eqConClientS : Nat := 27
abbrev f_laws_eqMsgMsg : Nat := 66
abbrev f_laws_eqMsgMsgS : Nat := 28
abbrev f_laws_eqLogDone : Nat := 67
abbrev f_laws_eqLogDoneS : Nat := 29
abbrev f_laws_eqWldWorld : Nat := 8
abbrev f_laws_markIntS : Nat := 33
abbrev f_laws_markActLineS : Nat := 69
abbrev f_laws_markActLineSS : Nat := 32
abbrev f_laws_markPlnPlan : Nat := 10
abbrev f_laws_markPlnDoneS : Nat := 70
abbrev f_laws_markSitSiteS : Nat := 34
abbrev f_laws_markPlnCallS : Nat := 71
abbrev f_laws_markClkGotS : Nat := 72
abbrev f_laws_markClkClerk : Nat := 35
abbrev f_laws_markConClientS : Nat := 36
abbrev f_laws_markMsgMsgS : Nat := 37
abbrev f_laws_markLogDoneS : Nat := 38
abbrev f_laws_markWldWorld : Nat := 11
abbrev f_laws_heldIntS : Nat := 74
abbrev f_laws_heldActLineS : Nat := 94
abbrev f_laws_heldActLineSS : Nat := 73
abbrev f_laws_heldPlnPlan : Nat := 39
abbrev f_laws_heldPlnDoneS : Nat := 75
abbrev f_laws_heldSitSiteS : Nat := 40
abbrev f_laws_heldPlnCallS : Nat := 76
abbrev f_laws_heldClkGotS : Nat := 77
abbrev f_laws_heldClkClerk : Nat := 41
abbrev f_laws_heldConClientS : Nat := 42
abbrev f_laws_heldMsgMsgS : Nat := 43
abbrev f_laws_heldLogDoneS : Nat := 44
abbrev f_laws_heldWldWorld : Nat := 12
abbrev f_laws_FnExactWldNew : Nat := 3
/-- laws_szIntS -/
def R_laws_szIntS : R :=
  .ite (.cmp .lt (.bin .sub .i64 (.v 1) (.len (.v 0))) (.z 0))
   (
    .done [(.vi .i64 (.z (-1)))])
   (
    .done [(.vi .i64 (.bin .sub .i64 (.v 1) (.len (.v 0))))])
/-- laws_szFrmForm -/
def R_laws_szFrmForm : R :=
  .i (.call f_laws_szIntS [(.s (.v 0)), (.vi .i64 (.v 3))] [.i .i64] 4) <|
  .ite (.cmp .lt (.v 4) (.z 0))
   (
    .done [(.vi .i64 (.z (-1)))])
   (
    .i (.call f_laws_szIntS [(.s (.v 1)), (.vi .i64 (.v 4))] [.i .i64] 5) <|
    .ite (.cmp .lt (.v 5) (.z 0))
     (
      .done [(.vi .i64 (.z (-1)))])
     (
      .done [(.vi .i64 (.v 5))]))
/-- laws_szActLine -/
def R_laws_szActLine : R :=
  .i (.call f_laws_szFrmForm [(.s (.v 3)), (.s (.v 4)), (.vi .i64 (.v 5)), (.vi .i64 (.v 6))] [.i .i64] 7) <|
  .ite (.cmp .lt (.v 7) (.z 0))
   (
    .done [(.vi .i64 (.z (-1)))])
   (
    .done [(.vi .i64 (.v 7))])
/-- laws_szActLineS -/
def R_laws_szActLineS : R :=
  .ite (.cmp .lt (.bin .sub .i64 (.v 1) (.len (.v 0))) (.z 0))
   (
    .done [(.vi .i64 (.z (-1)))])
   (
    .loop 2 [(.bin .sub .i64 (.v 1) (.len (.v 0))), (.z 0)] <|
      .ite (.cmp .lt (.v 3) (.len (.v 0)))
       (
        .i (.idx (.v 0) (.v 3) (.g [.i .i64, .i .i64, .i .i64, .s, .s, .i .i64]) 4) <|
        .i (.call f_laws_szActLine [(.vi .i64 (.v 4)), (.vi .i64 (.v 5)), (.vi .i64 (.v 6)), (.s (.v 7)), (.s (.v 8)), (.vi .i64 (.v 9)), (.vi .i64 (.v 2))] [.i .i64] 10) <|
        .ite (.cmp .lt (.v 10) (.z 0))
         (
          .esc <|
          .done [(.vi .i64 (.z (-1)))])
         (
          .next [(.v 10), (.bin .add .i64 (.v 3) (.z 1))]))
       (
        .esc <|
        .done [(.vi .i64 (.v 2))]))
/-- laws_szActLineSS -/
def R_laws_szActLineSS : R :=
  .ite (.cmp .lt (.bin .sub .i64 (.v 1) (.len (.v 0))) (.z 0))
   (
    .done [(.vi .i64 (.z (-1)))])
   (
    .loop 2 [(.bin .sub .i64 (.v 1) (.len (.v 0))), (.z 0)] <|
      .ite (.cmp .lt (.v 3) (.len (.v 0)))
       (
        .i (.idx (.v 0) (.v 3) (.one (.s)) 4) <|
        .i (.call f_laws_szActLineS [(.s (.v 4)), (.vi .i64 (.v 2))] [.i .i64] 5) <|
        .ite (.cmp .lt (.v 5) (.z 0))
         (
          .esc <|
          .done [(.vi .i64 (.z (-1)))])
         (
          .next [(.v 5), (.bin .add .i64 (.v 3) (.z 1))]))
       (
        .esc <|
        .done [(.vi .i64 (.v 2))]))
/-- laws_szPlnPlan -/
def R_laws_szPlnPlan : R :=
  .i (.call f_laws_szActLineSS [(.s (.v 1)), (.vi .i64 (.v 4))] [.i .i64] 5) <|
  .ite (.cmp .lt (.v 5) (.z 0))
   (
    .done [(.vi .i64 (.z (-1)))])
   (
    .i (.call f_laws_szIntS [(.s (.v 2)), (.vi .i64 (.v 5))] [.i .i64] 6) <|
    .ite (.cmp .lt (.v 6) (.z 0))
     (
      .done [(.vi .i64 (.z (-1)))])
     (
      .i (.call f_laws_szIntS [(.s (.v 3)), (.vi .i64 (.v 6))] [.i .i64] 7) <|
      .ite (.cmp .lt (.v 7) (.z 0))
       (
        .done [(.vi .i64 (.z (-1)))])
       (
        .done [(.vi .i64 (.v 7))])))
/-- laws_toIntS -/
def R_laws_toIntS : R :=
  .i (.chk (.cmp .le (.z 0) (.len (.v 0)))) <|
  .i (.chk (.cmp .le (.len (.v 0)) (.z 8796093022208))) <|
  .loop 1 [(.rep (.len (.v 0)) (.vi .i64 (.z 0))), (.z 0)] <|
    .ite (.cmp .lt (.v 2) (.len (.v 0)))
     (
      .i (.idx (.v 0) (.v 2) (.one (.i .i64)) 3) <|
      .i (.chk (.cmp .le (.z 0) (.v 2))) <|
      .i (.chk (.cmp .lt (.v 2) (.len (.v 1)))) <|
      .i (.idx (.v 1) (.v 2) (.one (.i .i64)) 4) <|
      .next [(.set (.v 1) (.v 2) (.vi .i64 (.v 3))), (.bin .add .i64 (.v 2) (.z 1))])
     (
      .esc <|
      .done [(.s (.v 1))])
/-- laws_toFrmForm -/
def R_laws_toFrmForm : R :=
  .i (.call f_laws_toIntS [(.s (.v 0))] [.s] 3) <|
  .i (.call f_laws_toIntS [(.s (.v 1))] [.s] 4) <|
  .done [(.s (.v 3)), (.s (.v 4)), (.vi .i64 (.v 2))]
/-- laws_toActLine -/
def R_laws_toActLine : R :=
  .i (.call f_laws_toFrmForm [(.s (.v 3)), (.s (.v 4)), (.vi .i64 (.v 5))] [.s, .s, .i .i64] 6) <|
  .done [(.vi .i64 (.v 0)), (.vi .i64 (.v 1)), (.vi .i64 (.v 2)), (.s (.v 6)), (.s (.v 7)), (.vi .i64 (.v 8))]
/-- laws_toActLineS -/
def R_laws_toActLineS : R :=
  .i (.chk (.cmp .le (.z 0) (.len (.v 0)))) <|
  .i (.chk (.cmp .le (.len (.v 0)) (.z 879609302220))) <|
  .loop 1 [(.rep (.len (.v 0)) (.g (.cons (.vi .i64 (.z 0)) (.cons (.vi .i64 (.z 0)) (.cons (.vi .i64 (.z 0)) (.cons (.s .nil) (.cons (.s .nil) (.cons (.vi .i64 (.z 0)) .nil)))))))), (.z 0)] <|
    .ite (.cmp .lt (.v 2) (.len (.v 0)))
     (
      .i (.idx (.v 0) (.v 2) (.g [.i .i64, .i .i64, .i .i64, .s, .s, .i .i64]) 3) <|
      .i (.call f_laws_toActLine [(.vi .i64 (.v 3)), (.vi .i64 (.v 4)), (.vi .i64 (.v 5)), (.s (.v 6)), (.s (.v 7)), (.vi .i64 (.v 8))] [.i .i64, .i .i64, .i .i64, .s, .s, .i .i64] 9) <|
      .i (.chk (.cmp .le (.z 0) (.v 2))) <|
      .i (.chk (.cmp .lt (.v 2) (.len (.v 1)))) <|
      .i (.idx (.v 1) (.v 2) (.g [.i .i64, .i .i64, .i .i64, .s, .s, .i .i64]) 15) <|
      .next [(.set (.v 1) (.v 2) (.g (.cons (.vi .i64 (.v 9)) (.cons (.vi .i64 (.v 10)) (.cons (.vi .i64 (.v 11)) (.cons (.s (.v 12)) (.cons (.s (.v 13)) (.cons (.vi .i64 (.v 14)) .nil)))))))), (.bin .add .i64 (.v 2) (.z 1))])
     (
      .esc <|
      .done [(.s (.v 1))])
/-- laws_toActLineSS -/
def R_laws_toActLineSS : R :=
  .i (.chk (.cmp .le (.z 0) (.len (.v 0)))) <|
  .i (.chk (.cmp .le (.len (.v 0)) (.z 2932031007402))) <|
  .loop 1 [(.rep (.len (.v 0)) (.s .nil)), (.z 0)] <|
    .ite (.cmp .lt (.v 2) (.len (.v 0)))
     (
      .i (.idx (.v 0) (.v 2) (.one (.s)) 3) <|
      .i (.call f_laws_toActLineS [(.s (.v 3))] [.s] 4) <|
      .i (.chk (.cmp .le (.z 0) (.v 2))) <|
      .i (.chk (.cmp .lt (.v 2) (.len (.v 1)))) <|
      .i (.idx (.v 1) (.v 2) (.one (.s)) 5) <|
      .next [(.set (.v 1) (.v 2) (.s (.v 4))), (.bin .add .i64 (.v 2) (.z 1))])
     (
      .esc <|
      .done [(.s (.v 1))])
/-- laws_toPlnPlan -/
def R_laws_toPlnPlan : R :=
  .i (.call f_laws_toActLineSS [(.s (.v 1))] [.s] 4) <|
  .i (.call f_laws_toIntS [(.s (.v 2))] [.s] 5) <|
  .i (.call f_laws_toIntS [(.s (.v 3))] [.s] 6) <|
  .done [(.vi .i64 (.v 0)), (.s (.v 4)), (.s (.v 5)), (.s (.v 6))]
/-- spec_l1In -/
def R_spec_l1In : R :=
  .ite (.cmp .le (.v 1) (.v 0))
   (
    .done [(.vb (.cmp .le (.v 0) (.v 2)))])
   (
    .done [(.vb .ff)])
/-- spec_l1All -/
def R_spec_l1All : R :=
  .ite (.not (.cmp .eq (.len (.v 0)) (.v 1)))
   (
    .done [(.vb .ff)])
   (
    .loop 3 [(.z 0)] <|
      .ite (.cmp .lt (.v 3) (.len (.v 0)))
       (
        .i (.idx (.v 0) (.v 3) (.one (.i .i64)) 4) <|
        .i (.call f_spec_l1In [(.vi .i64 (.v 4)), (.vi .i64 (.bin .sub .i64 (.z 0) (.v 2))), (.vi .i64 (.v 2))] [.b] 5) <|
        .ite (.not (.v 5))
         (
          .esc <|
          .done [(.vb .ff)])
         (
          .next [(.bin .add .i64 (.v 3) (.z 1))]))
       (
        .esc <|
        .done [(.vb .tt)]))
/-- spec_l2Small -/
def R_spec_l2Small : R :=
  .i (.call f_spec_l1All [(.s (.v 0)), (.vi .i64 (.z 3)), (.vi .i64 (.z 2))] [.b] 3) <|
  .ite (.v 3)
   (
    .i (.call f_spec_l1All [(.s (.v 1)), (.vi .i64 (.z 2)), (.vi .i64 (.z 2))] [.b] 4) <|
    .ite (.v 4)
     (
      .i (.call f_spec_l1In [(.vi .i64 (.v 2)), (.vi .i64 (.z (-20))), (.vi .i64 (.z 20))] [.b] 5) <|
      .done [(.vb (.v 5))])
     (
      .done [(.vb .ff)]))
   (
    .done [(.vb .ff)])
/-- spec_l2Line -/
def R_spec_l2Line : R :=
  .ite (.cmp .eq (.v 0) (.z 1))
   (
    .ite (.cmp .eq (.v 1) (.z 0))
     (
      .i (.call f_spec_l1In [(.vi .i64 (.v 2)), (.vi .i64 (.z 1)), (.vi .i64 (.z 6))] [.b] 6) <|
      .ite (.v 6)
       (
        .i (.call f_spec_l2Small [(.s (.v 3)), (.s (.v 4)), (.vi .i64 (.v 5))] [.b] 7) <|
        .done [(.vb (.v 7))])
       (
        .done [(.vb .ff)]))
     (
      .done [(.vb .ff)]))
   (
    .ite (.cmp .eq (.v 0) (.z 2))
     (
      .i (.call f_spec_l1In [(.vi .i64 (.v 1)), (.vi .i64 (.z 0)), (.vi .i64 (.z 2))] [.b] 6) <|
      .ite (.v 6)
       (
        .ite (.cmp .eq (.v 2) (.z 0))
         (
          .i (.call f_spec_l2Small [(.s (.v 3)), (.s (.v 4)), (.vi .i64 (.v 5))] [.b] 7) <|
          .done [(.vb (.v 7))])
         (
          .done [(.vb .ff)]))
       (
        .done [(.vb .ff)]))
     (
      .ite (.cmp .eq (.v 0) (.z 3))
       (
        .ite (.cmp .eq (.v 1) (.z 0))
         (
          .ite (.cmp .eq (.v 2) (.z 0))
           (
            .i (.call f_spec_l2Small [(.s (.v 3)), (.s (.v 4)), (.vi .i64 (.v 5))] [.b] 6) <|
            .done [(.vb (.v 6))])
           (
            .done [(.vb .ff)]))
         (
          .done [(.vb .ff)]))
       (
        .ite (.cmp .eq (.v 0) (.z 4))
         (
          .ite (.cmp .eq (.v 1) (.z 0))
           (
            .ite (.cmp .eq (.v 2) (.z 0))
             (
              .ite (.cmp .eq (.bin .add .i64 (.len (.v 3)) (.len (.v 4))) (.z 0))
               (
                .done [(.vb (.cmp .eq (.v 5) (.z 0)))])
               (
                .done [(.vb .ff)]))
             (
              .done [(.vb .ff)]))
           (
            .done [(.vb .ff)]))
         (
          .done [(.vb .ff)]))))
/-- spec_ActOk -/
def R_spec_ActOk : R :=
  .loop 1 [(.z 0), (.z 0)] <|
    .ite (.cmp .lt (.v 2) (.len (.v 0)))
     (
      .i (.idx (.v 0) (.v 2) (.g [.i .i64, .i .i64, .i .i64, .s, .s, .i .i64]) 3) <|
      .i (.call f_spec_l2Line [(.vi .i64 (.v 3)), (.vi .i64 (.v 4)), (.vi .i64 (.v 5)), (.s (.v 6)), (.s (.v 7)), (.vi .i64 (.v 8))] [.b] 9) <|
      .ite (.not (.v 9))
       (
        .esc <|
        .done [(.vb .ff)])
       (
        .i (.idx (.v 0) (.v 2) (.g [.i .i64, .i .i64, .i .i64, .s, .s, .i .i64]) 10) <|
        .ite (.cmp .eq (.v 10) (.z 1))
         (
          .next [(.bin .add .i64 (.v 1) (.z 1)), (.bin .add .i64 (.v 2) (.z 1))])
         (
          .next [(.v 1), (.bin .add .i64 (.v 2) (.z 1))])))
     (
      .esc <|
      .ite (.cmp .le (.len (.v 0)) (.z 6))
       (
        .done [(.vb (.cmp .le (.v 1) (.z 3)))])
       (
        .done [(.vb .ff)]))
/-- spec_CatOk -/
def R_spec_CatOk : R :=
  .i (.call f_spec_l1In [(.vi .i64 (.len (.v 0))), (.vi .i64 (.z 1)), (.vi .i64 (.z 4))] [.b] 1) <|
  .ite (.not (.v 1))
   (
    .done [(.vb .ff)])
   (
    .loop 2 [(.z 0)] <|
      .ite (.cmp .lt (.v 2) (.len (.v 0)))
       (
        .i (.idx (.v 0) (.v 2) (.one (.s)) 3) <|
        .i (.call f_spec_ActOk [(.s (.v 3))] [.b] 4) <|
        .ite (.not (.v 4))
         (
          .esc <|
          .done [(.vb .ff)])
         (
          .next [(.bin .add .i64 (.v 2) (.z 1))]))
       (
        .esc <|
        .done [(.vb .tt)]))
/-- spec_ValOk -/
def R_spec_ValOk : R :=
  .i (.call f_spec_l1All [(.s (.v 0)), (.vi .i64 (.z 3)), (.vi .i64 (.z 10000))] [.b] 1) <|
  .done [(.vb (.v 1))]
/-- spec_TrtOk -/
def R_spec_TrtOk : R :=
  .i (.call f_spec_ValOk [(.s (.v 0))] [.b] 2) <|
  .ite (.not (.v 2))
   (
    .done [(.vb .ff)])
   (
    .i (.call f_spec_l1In [(.vi .i64 (.len (.v 1))), (.vi .i64 (.z 1)), (.vi .i64 (.z 3))] [.b] 3) <|
    .ite (.not (.v 3))
     (
      .done [(.vb .ff)])
     (
      .loop 4 [(.z 0)] <|
        .ite (.cmp .lt (.v 4) (.len (.v 1)))
         (
          .i (.idx (.v 1) (.v 4) (.one (.i .i64)) 5) <|
          .i (.call f_spec_l1In [(.vi .i64 (.v 5)), (.vi .i64 (.z 0)), (.vi .i64 (.z 50))] [.b] 6) <|
          .ite (.not (.v 6))
           (
            .esc <|
            .done [(.vb .ff)])
           (
            .next [(.bin .add .i64 (.v 4) (.z 1))]))
         (
          .esc <|
          .done [(.vb .tt)])))
/-- spec_PlnOk -/
def R_spec_PlnOk : R :=
  .i (.call f_spec_l1In [(.vi .i64 (.v 0)), (.vi .i64 (.z 1)), (.vi .i64 (.z 4))] [.b] 4) <|
  .ite (.v 4)
   (
    .i (.call f_spec_CatOk [(.s (.v 1))] [.b] 5) <|
    .ite (.v 5)
     (
      .i (.call f_spec_l1All [(.s (.v 3)), (.vi .i64 (.z 3)), (.vi .i64 (.z 1000))] [.b] 6) <|
      .ite (.v 6)
       (
        .i (.call f_spec_TrtOk [(.s (.v 3)), (.s (.v 2))] [.b] 7) <|
        .done [(.vb (.v 7))])
       (
        .done [(.vb .ff)]))
     (
      .done [(.vb .ff)]))
   (
    .done [(.vb .ff)])
/-- spec_l6CopyActs -/
def R_spec_l6CopyActs : R :=
  .loop 1 [.nil, (.z 0)] <|
    .ite (.cmp .lt (.v 2) (.len (.v 0)))
     (
      .loop 3 [.nil, (.z 0)] <|
        .i (.idx (.v 0) (.v 2) (.one (.s)) 5) <|
        .ite (.cmp .lt (.v 4) (.len (.v 5)))
         (
          .i (.idx (.v 0) (.v 2) (.one (.s)) 6) <|
          .i (.idx (.v 6) (.v 4) (.g [.i .i64, .i .i64, .i .i64, .s, .s, .i .i64]) 7) <|
          .i (.chk (.cmp .le (.len (.v 10)) (.z 8796093022208))) <|
          .i (.head 1 (.v 10)) <|
          .i (.chk (.cmp .le (.len (.app .nil (.v 10))) (.z 8796093022208))) <|
          .i (.chk (.cmp .le (.len (.v 11)) (.z 8796093022208))) <|
          .i (.head 1 (.v 11)) <|
          .i (.chk (.cmp .le (.len (.app .nil (.v 11))) (.z 8796093022208))) <|
          .i (.chk (.cmp .le (.len (.app (.v 3) (.cons (.g (.cons (.vi .i64 (.v 7)) (.cons (.vi .i64 (.v 8)) (.cons (.vi .i64 (.v 9)) (.cons (.s (.app .nil (.v 10))) (.cons (.s (.app .nil (.v 11))) (.cons (.vi .i64 (.v 12)) .nil))))))) .nil))) (.z 879609302220))) <|
          .next [(.app (.v 3) (.cons (.g (.cons (.vi .i64 (.v 7)) (.cons (.vi .i64 (.v 8)) (.cons (.vi .i64 (.v 9)) (.cons (.s (.app .nil (.v 10))) (.cons (.s (.app .nil (.v 11))) (.cons (.vi .i64 (.v 12)) .nil))))))) .nil)), (.bin .add .i64 (.v 4) (.z 1))])
         (
          .esc <|
          .i (.chk (.cmp .le (.len (.app (.v 1) (.cons (.s (.v 3)) .nil))) (.z 2932031007402))) <|
          .next [(.app (.v 1) (.cons (.s (.v 3)) .nil)), (.bin .add .i64 (.v 2) (.z 1))]))
     (
      .esc <|
      .done [(.s (.v 1))])
/-- spec_l6Copy -/
def R_spec_l6Copy : R :=
  .i (.call f_spec_l6CopyActs [(.s (.v 1))] [.s] 4) <|
  .i (.chk (.cmp .le (.len (.v 2)) (.z 8796093022208))) <|
  .i (.head 1 (.v 2)) <|
  .i (.chk (.cmp .le (.len (.app .nil (.v 2))) (.z 8796093022208))) <|
  .i (.chk (.cmp .le (.len (.v 3)) (.z 8796093022208))) <|
  .i (.head 1 (.v 3)) <|
  .i (.chk (.cmp .le (.len (.app .nil (.v 3))) (.z 8796093022208))) <|
  .done [(.vi .i64 (.v 0)), (.s (.v 4)), (.s (.app .nil (.v 2))), (.s (.app .nil (.v 3)))]
/-- spec_l6New -/
def R_spec_l6New : R :=
  .loop 4 [.nil, (.z 0)] <|
    .ite (.cmp .lt (.v 5) (.v 0))
     (
      .i (.chk (.cmp .le (.len (.app (.v 4) (.cons (.g (.cons (.vi .i64 (.z 0)) (.cons (.vi .i64 (.z 0)) (.cons (.s .nil) .nil)))) .nil))) (.z 1759218604441))) <|
      .next [(.app (.v 4) (.cons (.g (.cons (.vi .i64 (.z 0)) (.cons (.vi .i64 (.z 0)) (.cons (.s .nil) .nil)))) .nil)), (.bin .add .i64 (.v 5) (.z 1))])
     (
      .esc <|
      .done [(.s (.v 4))])
/-- spec_l9None -/
def R_spec_l9None : R :=
  .loop 4 [.nil, (.z 0)] <|
    .ite (.cmp .lt (.v 5) (.len (.v 2)))
     (
      .i (.chk (.cmp .le (.len (.app (.v 4) (.cons (.g (.cons (.vb .ff) (.cons (.s .nil) (.cons (.s .nil) .nil)))) .nil))) (.z 1256584717458))) <|
      .next [(.app (.v 4) (.cons (.g (.cons (.vb .ff) (.cons (.s .nil) (.cons (.s .nil) .nil)))) .nil)), (.bin .add .i64 (.v 5) (.z 1))])
     (
      .esc <|
      .done [(.s (.v 4))])
/-- spec_ClkNew -/
def R_spec_ClkNew : R :=
  .i (.call f_spec_PlnOk [(.vi .i64 (.v 0)), (.s (.v 1)), (.s (.v 2)), (.s (.v 3))] [.b] 4) <|
  .ite (.not (.v 4))
   (
    .done [(.vb .ff), (.vi .i64 (.z 0)), (.s .nil), (.s .nil), (.s .nil), (.s .nil)])
   (
    .i (.chk (.cmp .le (.len (.v 3)) (.z 8796093022208))) <|
    .i (.head 1 (.v 3)) <|
    .i (.chk (.cmp .le (.len (.app .nil (.v 3))) (.z 8796093022208))) <|
    .i (.call f_spec_l6New [(.vi .i64 (.v 0)), (.s (.v 1)), (.s (.v 2)), (.s (.v 3))] [.s] 5) <|
    .i (.call f_spec_l9None [(.vi .i64 (.v 0)), (.s (.v 1)), (.s (.v 2)), (.s (.v 3))] [.s] 6) <|
    .done [(.vb .tt), (.vi .i64 (.z 0)), (.s (.app .nil (.v 3))), (.s (.v 5)), (.s .nil), (.s (.v 6))])
/-- spec_SitNew -/
def R_spec_SitNew : R :=
  .i (.call f_spec_PlnOk [(.vi .i64 (.v 0)), (.s (.v 1)), (.s (.v 2)), (.s (.v 3))] [.b] 4) <|
  .ite (.not (.v 4))
   (
    .done [(.vb .ff), (.vb .ff), (.vi .i64 (.z 0)), (.s .nil), (.s .nil), (.s .nil)])
   (
    .i (.chk (.cmp .le (.len (.v 3)) (.z 8796093022208))) <|
    .i (.head 1 (.v 3)) <|
    .i (.chk (.cmp .le (.len (.app .nil (.v 3))) (.z 8796093022208))) <|
    .i (.call f_spec_l6New [(.vi .i64 (.v 0)), (.s (.v 1)), (.s (.v 2)), (.s (.v 3))] [.s] 5) <|
    .done [(.vb .tt), (.vb .ff), (.vi .i64 (.z 0)), (.s (.app .nil (.v 3))), (.s (.cons (.vi .i64 (.z 0)) (.cons (.vi .i64 (.z 0)) (.cons (.vi .i64 (.z 0)) .nil)))), (.s (.v 5))])
/-- spec_WldNew -/
def R_spec_WldNew : R :=
  .i (.call f_spec_PlnOk [(.vi .i64 (.v 0)), (.s (.v 1)), (.s (.v 2)), (.s (.v 3))] [.b] 4) <|
  .ite (.not (.v 4))
   (
    .done [(.vi .i64 (.z 0)), (.s .nil), (.s .nil), (.s .nil), (.s .nil), (.vb .ff), (.vi .i64 (.z 0)), (.s .nil), (.s .nil), (.s .nil), (.s .nil), (.s .nil), (.s .nil), (.s .nil)])
   (
    .i (.call f_spec_l6Copy [(.vi .i64 (.v 0)), (.s (.v 1)), (.s (.v 2)), (.s (.v 3))] [.i .i64, .s, .s, .s] 5) <|
    .i (.call f_spec_ClkNew [(.vi .i64 (.v 0)), (.s (.v 1)), (.s (.v 2)), (.s (.v 3))] [.b, .i .i64, .s, .s, .s, .s] 9) <|
    .loop 15 [.nil, (.z 0)] <|
      .ite (.cmp .lt (.v 16) (.len (.v 2)))
       (
        .i (.call f_spec_SitNew [(.vi .i64 (.v 0)), (.s (.v 1)), (.s (.v 2)), (.s (.v 3))] [.b, .b, .i .i64, .s, .s, .s] 17) <|
        .i (.chk (.cmp .le (.len (.app (.v 15) (.cons (.g (.cons (.vb (.v 17)) (.cons (.vb (.v 18)) (.cons (.vi .i64 (.v 19)) (.cons (.s (.v 20)) (.cons (.s (.v 21)) (.cons (.s (.v 22)) .nil))))))) .nil))) (.z 799644820200))) <|
        .next [(.app (.v 15) (.cons (.g (.cons (.vb (.v 17)) (.cons (.vb (.v 18)) (.cons (.vi .i64 (.v 19)) (.cons (.s (.v 20)) (.cons (.s (.v 21)) (.cons (.s (.v 22)) .nil))))))) .nil)), (.bin .add .i64 (.v 16) (.z 1))])
       (
        .esc <|
        .loop 17 [.nil, (.z 0)] <|
          .ite (.cmp .lt (.v 18) (.v 0))
           (
            .i (.chk (.cmp .le (.len (.app (.v 17) (.cons (.g (.cons (.vi .i64 (.z 0)) (.cons (.vb .ff) (.cons (.vi .i64 (.z 0)) (.cons (.vi .i64 (.z 0)) (.cons (.vi .i64 (.z 0)) (.cons (.s .nil) (.cons (.vi .i64 (.z 0)) (.cons (.s .nil) .nil))))))))) .nil))) (.z 733007751850))) <|
            .next [(.app (.v 17) (.cons (.g (.cons (.vi .i64 (.z 0)) (.cons (.vb .ff) (.cons (.vi .i64 (.z 0)) (.cons (.vi .i64 (.z 0)) (.cons (.vi .i64 (.z 0)) (.cons (.s .nil) (.cons (.vi .i64 (.z 0)) (.cons (.s .nil) .nil))))))))) .nil)), (.bin .add .i64 (.v 18) (.z 1))])
           (
            .esc <|
            .done [(.vi .i64 (.v 5)), (.s (.v 6)), (.s (.v 7)), (.s (.v 8)), (.s (.v 15)), (.vb (.v 9)), (.vi .i64 (.v 10)), (.s (.v 11)), (.s (.v 12)), (.s (.v 13)), (.s (.v 14)), (.s (.v 17)), (.s .nil), (.s .nil)])))
/-- impl_in -/
def R_impl_in : R :=
  .ite (.cmp .le (.v 1) (.v 0))
   (
    .done [(.vb (.cmp .le (.v 0) (.v 2)))])
   (
    .done [(.vb .ff)])
/-- slices_IndexFunc_SSimpl_ActLine_Simpl_ActLine -/
def R_slices_IndexFunc_SSimpl_ActLine_Simpl_ActLine : R :=
  .loop 2 [(.z 0)] <|
    .ite (.cmp .lt (.v 2) (.len (.v 0)))
     (
      .i (.idx (.v 0) (.v 2) (.one (.s)) 3) <|
      .i (.callv (.da 1) [(.s (.v 3))] [none] [.b] 4) <|
      .ite (.v 4)
       (
        .esc <|
        .done [(.vi .i64 (.v 2))])
       (
        .next [(.bin .add .i64 (.v 2) (.z 1))]))
     (
      .esc <|
      .done [(.vi .i64 (.z (-1)))])
/-- slices_ContainsFunc_SSimpl_ActLine_Simpl_ActLine -/
def R_slices_ContainsFunc_SSimpl_ActLine_Simpl_ActLine : R :=
  .i (.call f_slices_IndexFunc_SSimpl_ActLine_Simpl_ActLine [(.s (.v 0)), (.da 1)] [.i .i64] 2) <|
  .done [(.vb (.cmp .le (.z 0) (.v 2)))]
/-- impl_within_1 -/
def R_impl_within_1 : R :=
  .i (.get (.da 1) (.q [.i .i64]) 2) <|
  .i (.get (.da 1) (.q [.i .i64]) 3) <|
  .i (.call f_impl_in [(.vi .i64 (.v 0)), (.vi .i64 (.bin .sub .i64 (.z 0) (.v 2))), (.vi .i64 (.v 3))] [.b] 4) <|
  .done [(.vb (.not (.v 4)))]
/-- slices_IndexFunc_Sint_int -/
def R_slices_IndexFunc_Sint_int : R :=
  .loop 2 [(.z 0)] <|
    .ite (.cmp .lt (.v 2) (.len (.v 0)))
     (
      .i (.idx (.v 0) (.v 2) (.one (.i .i64)) 3) <|
      .i (.callv (.da 1) [(.vi .i64 (.v 3))] [none] [.b] 4) <|
      .ite (.v 4)
       (
        .esc <|
        .done [(.vi .i64 (.v 2))])
       (
        .next [(.bin .add .i64 (.v 2) (.z 1))]))
     (
      .esc <|
      .done [(.vi .i64 (.z (-1)))])
/-- slices_ContainsFunc_Sint_int -/
def R_slices_ContainsFunc_Sint_int : R :=
  .i (.call f_slices_IndexFunc_Sint_int [(.s (.v 0)), (.da 1)] [.i .i64] 2) <|
  .done [(.vb (.cmp .le (.z 0) (.v 2)))]
/-- impl_within -/
def R_impl_within : R :=
  .ite (.cmp .eq (.len (.v 0)) (.v 1))
   (
    .i (.call f_slices_ContainsFunc_Sint_int [(.s (.v 0)), (.fn f_impl_within_1 (.cons (.q (.cons (.vi .i64 (.v 2)) .nil)) .nil))] [.b] 3) <|
    .done [(.vb (.not (.v 3)))])
   (
    .done [(.vb .ff)])
/-- impl_FrmForm_small -/
def R_impl_FrmForm_small : R :=
  .i (.call f_impl_within [(.s (.v 0)), (.vi .i64 (.z 3)), (.vi .i64 (.z 2))] [.b] 3) <|
  .ite (.v 3)
   (
    .i (.call f_impl_within [(.s (.v 1)), (.vi .i64 (.z 2)), (.vi .i64 (.z 2))] [.b] 4) <|
    .ite (.v 4)
     (
      .i (.call f_impl_in [(.vi .i64 (.v 2)), (.vi .i64 (.z (-20))), (.vi .i64 (.z 20))] [.b] 5) <|
      .done [(.vb (.v 5))])
     (
      .done [(.vb .ff)]))
   (
    .done [(.vb .ff)])
/-- slices_Equal_Sint_int -/
def R_slices_Equal_Sint_int : R :=
  .ite (.not (.cmp .eq (.len (.v 0)) (.len (.v 1))))
   (
    .done [(.vb .ff)])
   (
    .loop 2 [(.z 0)] <|
      .ite (.cmp .lt (.v 2) (.len (.v 0)))
       (
        .i (.idx (.v 0) (.v 2) (.one (.i .i64)) 3) <|
        .i (.idx (.v 1) (.v 2) (.one (.i .i64)) 4) <|
        .ite (.not (.cmp .eq (.v 3) (.v 4)))
         (
          .esc <|
          .done [(.vb .ff)])
         (
          .next [(.bin .add .i64 (.v 2) (.z 1))]))
       (
        .esc <|
        .done [(.vb .tt)]))
/-- impl_FrmForm_same -/
def R_impl_FrmForm_same : R :=
  .ite (.cmp .eq (.v 2) (.v 5))
   (
    .i (.call f_slices_Equal_Sint_int [(.s (.v 0)), (.s (.v 3))] [.b] 6) <|
    .ite (.v 6)
     (
      .i (.call f_slices_Equal_Sint_int [(.s (.v 1)), (.s (.v 4))] [.b] 7) <|
      .done [(.vb (.v 7))])
     (
      .done [(.vb .ff)]))
   (
    .done [(.vb .ff)])
/-- impl_ActLine_ok -/
def R_impl_ActLine_ok : R :=
  .ite (.cmp .eq (.v 0) (.z 1))
   (
    .i (.call f_impl_in [(.vi .i64 (.v 2)), (.vi .i64 (.z 1)), (.vi .i64 (.z 6))] [.b] 6) <|
    .ite (.v 6)
     (
      .ite (.cmp .eq (.v 1) (.z 0))
       (
        .i (.call f_impl_FrmForm_small [(.s (.v 3)), (.s (.v 4)), (.vi .i64 (.v 5))] [.b] 7) <|
        .done [(.vb (.v 7))])
       (
        .done [(.vb .ff)]))
     (
      .done [(.vb .ff)]))
   (
    .ite (.cmp .eq (.v 0) (.z 2))
     (
      .i (.call f_impl_in [(.vi .i64 (.v 1)), (.vi .i64 (.z 0)), (.vi .i64 (.z 2))] [.b] 6) <|
      .ite (.v 6)
       (
        .ite (.cmp .eq (.v 2) (.z 0))
         (
          .i (.call f_impl_FrmForm_small [(.s (.v 3)), (.s (.v 4)), (.vi .i64 (.v 5))] [.b] 7) <|
          .done [(.vb (.v 7))])
         (
          .done [(.vb .ff)]))
       (
        .done [(.vb .ff)]))
     (
      .ite (.cmp .eq (.v 0) (.z 3))
       (
        .ite (.cmp .eq (.v 1) (.z 0))
         (
          .ite (.cmp .eq (.v 2) (.z 0))
           (
            .i (.call f_impl_FrmForm_small [(.s (.v 3)), (.s (.v 4)), (.vi .i64 (.v 5))] [.b] 6) <|
            .done [(.vb (.v 6))])
           (
            .done [(.vb .ff)]))
         (
          .done [(.vb .ff)]))
       (
        .ite (.cmp .eq (.v 0) (.z 4))
         (
          .ite (.cmp .eq (.v 1) (.z 0))
           (
            .ite (.cmp .eq (.v 2) (.z 0))
             (
              .i (.call f_impl_FrmForm_same [(.s (.v 3)), (.s (.v 4)), (.vi .i64 (.v 5)), (.s .nil), (.s .nil), (.vi .i64 (.z 0))] [.b] 6) <|
              .done [(.vb (.v 6))])
             (
              .done [(.vb .ff)]))
           (
            .done [(.vb .ff)]))
         (
          .done [(.vb .ff)]))))
/-- impl_ActOk -/
def R_impl_ActOk : R :=
  .loop 1 [(.z 0), (.z 0)] <|
    .ite (.cmp .lt (.v 2) (.len (.v 0)))
     (
      .i (.idx (.v 0) (.v 2) (.g [.i .i64, .i .i64, .i .i64, .s, .s, .i .i64]) 3) <|
      .i (.call f_impl_ActLine_ok [(.vi .i64 (.v 3)), (.vi .i64 (.v 4)), (.vi .i64 (.v 5)), (.s (.v 6)), (.s (.v 7)), (.vi .i64 (.v 8))] [.b] 9) <|
      .ite (.not (.v 9))
       (
        .esc <|
        .done [(.vb .ff)])
       (
        .ite (.cmp .eq (.v 3) (.z 1))
         (
          .next [(.bin .add .i64 (.v 1) (.z 1)), (.bin .add .i64 (.v 2) (.z 1))])
         (
          .next [(.v 1), (.bin .add .i64 (.v 2) (.z 1))])))
     (
      .esc <|
      .ite (.cmp .le (.len (.v 0)) (.z 6))
       (
        .done [(.vb (.cmp .le (.v 1) (.z 3)))])
       (
        .done [(.vb .ff)]))
/-- impl_CatOk_1 -/
def R_impl_CatOk_1 : R :=
  .i (.call f_impl_ActOk [(.s (.v 0))] [.b] 1) <|
  .done [(.vb (.not (.v 1)))]
/-- impl_CatOk -/
def R_impl_CatOk : R :=
  .i (.call f_impl_in [(.vi .i64 (.len (.v 0))), (.vi .i64 (.z 1)), (.vi .i64 (.z 4))] [.b] 1) <|
  .ite (.v 1)
   (
    .i (.call f_slices_ContainsFunc_SSimpl_ActLine_Simpl_ActLine [(.s (.v 0)), (.fn f_impl_CatOk_1 .nil)] [.b] 2) <|
    .done [(.vb (.not (.v 2)))])
   (
    .done [(.vb .ff)])
/-- impl_PlnPlan_treaty -/
def R_impl_PlnPlan_treaty : R :=
  .done [(.s (.v 4)), (.s (.v 2))]
/-- impl_TrtOk_1 -/
def R_impl_TrtOk_1 : R :=
  .i (.call f_impl_in [(.vi .i64 (.v 0)), (.vi .i64 (.z 0)), (.vi .i64 (.z 50))] [.b] 1) <|
  .done [(.vb (.not (.v 1)))]
/-- impl_ValOk -/
def R_impl_ValOk : R :=
  .i (.call f_impl_within [(.s (.v 0)), (.vi .i64 (.z 3)), (.vi .i64 (.z 10000))] [.b] 1) <|
  .done [(.vb (.v 1))]
/-- impl_TrtOk -/
def R_impl_TrtOk : R :=
  .i (.call f_impl_ValOk [(.s (.v 0))] [.b] 2) <|
  .ite (.v 2)
   (
    .i (.call f_impl_in [(.vi .i64 (.len (.v 1))), (.vi .i64 (.z 1)), (.vi .i64 (.z 3))] [.b] 3) <|
    .ite (.v 3)
     (
      .i (.call f_slices_ContainsFunc_Sint_int [(.s (.v 1)), (.fn f_impl_TrtOk_1 .nil)] [.b] 4) <|
      .done [(.vb (.not (.v 4)))])
     (
      .done [(.vb .ff)]))
   (
    .done [(.vb .ff)])
/-- impl_PlnOk -/
def R_impl_PlnOk : R :=
  .i (.call f_impl_in [(.vi .i64 (.v 0)), (.vi .i64 (.z 1)), (.vi .i64 (.z 4))] [.b] 4) <|
  .ite (.v 4)
   (
    .i (.call f_impl_CatOk [(.s (.v 1))] [.b] 5) <|
    .ite (.v 5)
     (
      .i (.call f_impl_within [(.s (.v 3)), (.vi .i64 (.z 3)), (.vi .i64 (.z 1000))] [.b] 6) <|
      .ite (.v 6)
       (
        .i (.call f_impl_PlnPlan_treaty [(.vi .i64 (.v 0)), (.s (.v 1)), (.s (.v 2)), (.s (.v 3)), (.s (.v 3))] [.s, .s] 7) <|
        .i (.call f_impl_TrtOk [(.s (.v 7)), (.s (.v 8))] [.b] 9) <|
        .done [(.vb (.v 9))])
       (
        .done [(.vb .ff)]))
     (
      .done [(.vb .ff)]))
   (
    .done [(.vb .ff)])
/-- slices_Clone_Sint_int -/
def R_slices_Clone_Sint_int : R :=
  .nilq 1 (.v 0)
   (
    .done [(.s .nil)])
   (
    .i (.chk (.cmp .le (.len (.v 0)) (.z 8796093022208))) <|
    .i (.head 1 (.v 0)) <|
    .i (.chk (.cmp .le (.len (.app .nil (.v 0))) (.z 8796093022208))) <|
    .done [(.s (.app .nil (.v 0)))])
/-- impl_FrmForm_copied -/
def R_impl_FrmForm_copied : R :=
  .i (.call f_slices_Clone_Sint_int [(.s (.v 0))] [.s] 3) <|
  .i (.call f_slices_Clone_Sint_int [(.s (.v 1))] [.s] 4) <|
  .done [(.s (.v 3)), (.s (.v 4)), (.vi .i64 (.v 2))]
/-- impl_PlnPlan_copied -/
def R_impl_PlnPlan_copied : R :=
  .loop 4 [.nil, (.z 0)] <|
    .ite (.cmp .lt (.v 5) (.len (.v 1)))
     (
      .i (.idx (.v 1) (.v 5) (.one (.s)) 6) <|
      .loop 7 [.nil, (.z 0)] <|
        .ite (.cmp .lt (.v 8) (.len (.v 6)))
         (
          .i (.idx (.v 6) (.v 8) (.g [.i .i64, .i .i64, .i .i64, .s, .s, .i .i64]) 9) <|
          .i (.call f_impl_FrmForm_copied [(.s (.v 12)), (.s (.v 13)), (.vi .i64 (.v 14))] [.s, .s, .i .i64] 15) <|
          .i (.fl (.v 15)) <|
          .i (.fl (.v 16)) <|
          .i (.chk (.cmp .le (.len (.app (.v 7) (.cons (.g (.cons (.vi .i64 (.v 9)) (.cons (.vi .i64 (.v 10)) (.cons (.vi .i64 (.v 11)) (.cons (.s (.v 15)) (.cons (.s (.v 16)) (.cons (.vi .i64 (.v 17)) .nil))))))) .nil))) (.z 879609302220))) <|
          .next [(.app (.v 7) (.cons (.g (.cons (.vi .i64 (.v 9)) (.cons (.vi .i64 (.v 10)) (.cons (.vi .i64 (.v 11)) (.cons (.s (.v 15)) (.cons (.s (.v 16)) (.cons (.vi .i64 (.v 17)) .nil))))))) .nil)), (.bin .add .i64 (.v 8) (.z 1))])
         (
          .esc <|
          .i (.chk (.cmp .le (.len (.app (.v 4) (.cons (.s (.v 7)) .nil))) (.z 2932031007402))) <|
          .next [(.app (.v 4) (.cons (.s (.v 7)) .nil)), (.bin .add .i64 (.v 5) (.z 1))]))
     (
      .esc <|
      .i (.call f_slices_Clone_Sint_int [(.s (.v 2))] [.s] 6) <|
      .i (.call f_slices_Clone_Sint_int [(.s (.v 3))] [.s] 7) <|
      .done [(.vi .i64 (.v 0)), (.s (.v 4)), (.s (.v 6)), (.s (.v 7))])
/-- impl_PlnPlan_clerkNew -/
def R_impl_PlnPlan_clerkNew : R :=
  .i (.call f_slices_Clone_Sint_int [(.s (.v 3))] [.s] 4) <|
  .i (.chk (.cmp .le (.z 0) (.v 0))) <|
  .i (.chk (.cmp .le (.v 0) (.z 1759218604441))) <|
  .i (.chk (.cmp .le (.z 0) (.len (.v 2)))) <|
  .i (.chk (.cmp .le (.len (.v 2)) (.z 1256584717458))) <|
  .done [(.vb .tt), (.vi .i64 (.z 0)), (.s (.v 4)), (.s (.rep (.v 0) (.g (.cons (.vi .i64 (.z 0)) (.cons (.vi .i64 (.z 0)) (.cons (.s .nil) .nil)))))), (.s .nil), (.s (.rep (.len (.v 2)) (.g (.cons (.vb .ff) (.cons (.s .nil) (.cons (.s .nil) .nil))))))]
/-- impl_PlnPlan_siteNew -/
def R_impl_PlnPlan_siteNew : R :=
  .i (.call f_slices_Clone_Sint_int [(.s (.v 3))] [.s] 4) <|
  .i (.chk (.cmp .le (.z 0) (.v 0))) <|
  .i (.chk (.cmp .le (.v 0) (.z 1759218604441))) <|
  .done [(.vb .tt), (.vb .ff), (.vi .i64 (.z 0)), (.s (.v 4)), (.s (.cons (.vi .i64 (.z 0)) (.cons (.vi .i64 (.z 0)) (.cons (.vi .i64 (.z 0)) .nil)))), (.s (.rep (.v 0) (.g (.cons (.vi .i64 (.z 0)) (.cons (.vi .i64 (.z 0)) (.cons (.s .nil) .nil))))))]
/-- impl_WldNew -/
def R_impl_WldNew : R :=
  .i (.call f_impl_PlnOk [(.vi .i64 (.v 0)), (.s (.v 1)), (.s (.v 2)), (.s (.v 3))] [.b] 4) <|
  .ite (.not (.v 4))
   (
    .done [(.vi .i64 (.z 0)), (.s .nil), (.s .nil), (.s .nil), (.s .nil), (.vb .ff), (.vi .i64 (.z 0)), (.s .nil), (.s .nil), (.s .nil), (.s .nil), (.s .nil), (.s .nil), (.s .nil)])
   (
    .i (.call f_impl_PlnPlan_copied [(.vi .i64 (.v 0)), (.s (.v 1)), (.s (.v 2)), (.s (.v 3))] [.i .i64, .s, .s, .s] 5) <|
    .i (.call f_impl_PlnPlan_clerkNew [(.vi .i64 (.v 0)), (.s (.v 1)), (.s (.v 2)), (.s (.v 3))] [.b, .i .i64, .s, .s, .s, .s] 9) <|
    .i (.chk (.cmp .le (.z 0) (.v 0))) <|
    .i (.chk (.cmp .le (.v 0) (.z 733007751850))) <|
    .loop 15 [.nil, (.z 0)] <|
      .ite (.cmp .lt (.v 16) (.len (.v 2)))
       (
        .i (.call f_impl_PlnPlan_siteNew [(.vi .i64 (.v 0)), (.s (.v 1)), (.s (.v 2)), (.s (.v 3))] [.b, .b, .i .i64, .s, .s, .s] 17) <|
        .i (.fl (.v 20)) <|
        .i (.chk (.cmp .le (.len (.app (.v 15) (.cons (.g (.cons (.vb (.v 17)) (.cons (.vb (.v 18)) (.cons (.vi .i64 (.v 19)) (.cons (.s (.v 20)) (.cons (.s (.v 21)) (.cons (.s (.v 22)) .nil))))))) .nil))) (.z 799644820200))) <|
        .next [(.app (.v 15) (.cons (.g (.cons (.vb (.v 17)) (.cons (.vb (.v 18)) (.cons (.vi .i64 (.v 19)) (.cons (.s (.v 20)) (.cons (.s (.v 21)) (.cons (.s (.v 22)) .nil))))))) .nil)), (.bin .add .i64 (.v 16) (.z 1))])
       (
        .esc <|
        .done [(.vi .i64 (.v 5)), (.s (.v 6)), (.s (.v 7)), (.s (.v 8)), (.s (.v 15)), (.vb (.v 9)), (.vi .i64 (.v 10)), (.s (.v 11)), (.s (.v 12)), (.s (.v 13)), (.s (.v 14)), (.s (.rep (.v 0) (.g (.cons (.vi .i64 (.z 0)) (.cons (.vb .ff) (.cons (.vi .i64 (.z 0)) (.cons (.vi .i64 (.z 0)) (.cons (.vi .i64 (.z 0)) (.cons (.s .nil) (.cons (.vi .i64 (.z 0)) (.cons (.s .nil) .nil))))))))))), (.s .nil), (.s .nil)]))
/-- laws_eqIntS -/
def R_laws_eqIntS : R :=
  .ite (.not (.cmp .eq (.len (.v 0)) (.len (.v 1))))
   (
    .done [(.vb .ff)])
   (
    .loop 2 [(.z 0)] <|
      .ite (.cmp .lt (.v 2) (.len (.v 0)))
       (
        .i (.idx (.v 0) (.v 2) (.one (.i .i64)) 3) <|
        .i (.idx (.v 1) (.v 2) (.one (.i .i64)) 4) <|
        .ite (.not (.cmp .eq (.v 3) (.v 4)))
         (
          .esc <|
          .done [(.vb .ff)])
         (
          .next [(.bin .add .i64 (.v 2) (.z 1))]))
       (
        .esc <|
        .done [(.vb .tt)]))
/-- laws_eqFrmForm -/
def R_laws_eqFrmForm : R :=
  .i (.call f_laws_eqIntS [(.s (.v 0)), (.s (.v 3))] [.b] 6) <|
  .ite (.not (.v 6))
   (
    .done [(.vb .ff)])
   (
    .i (.call f_laws_eqIntS [(.s (.v 1)), (.s (.v 4))] [.b] 7) <|
    .ite (.not (.v 7))
     (
      .done [(.vb .ff)])
     (
      .ite (.not (.cmp .eq (.v 2) (.v 5)))
       (
        .done [(.vb .ff)])
       (
        .done [(.vb .tt)])))
/-- laws_eqActLine -/
def R_laws_eqActLine : R :=
  .ite (.not (.cmp .eq (.v 0) (.v 6)))
   (
    .done [(.vb .ff)])
   (
    .ite (.not (.cmp .eq (.v 1) (.v 7)))
     (
      .done [(.vb .ff)])
     (
      .ite (.not (.cmp .eq (.v 2) (.v 8)))
       (
        .done [(.vb .ff)])
       (
        .i (.call f_laws_eqFrmForm [(.s (.v 3)), (.s (.v 4)), (.vi .i64 (.v 5)), (.s (.v 9)), (.s (.v 10)), (.vi .i64 (.v 11))] [.b] 12) <|
        .ite (.not (.v 12))
         (
          .done [(.vb .ff)])
         (
          .done [(.vb .tt)]))))
/-- laws_eqActLineS -/
def R_laws_eqActLineS : R :=
  .ite (.not (.cmp .eq (.len (.v 0)) (.len (.v 1))))
   (
    .done [(.vb .ff)])
   (
    .loop 2 [(.z 0)] <|
      .ite (.cmp .lt (.v 2) (.len (.v 0)))
       (
        .i (.idx (.v 0) (.v 2) (.g [.i .i64, .i .i64, .i .i64, .s, .s, .i .i64]) 3) <|
        .i (.idx (.v 1) (.v 2) (.g [.i .i64, .i .i64, .i .i64, .s, .s, .i .i64]) 9) <|
        .i (.call f_laws_eqActLine [(.vi .i64 (.v 3)), (.vi .i64 (.v 4)), (.vi .i64 (.v 5)), (.s (.v 6)), (.s (.v 7)), (.vi .i64 (.v 8)), (.vi .i64 (.v 9)), (.vi .i64 (.v 10)), (.vi .i64 (.v 11)), (.s (.v 12)), (.s (.v 13)), (.vi .i64 (.v 14))] [.b] 15) <|
        .ite (.not (.v 15))
         (
          .esc <|
          .done [(.vb .ff)])
         (
          .next [(.bin .add .i64 (.v 2) (.z 1))]))
       (
        .esc <|
        .done [(.vb .tt)]))
/-- laws_eqActLineSS -/
def R_laws_eqActLineSS : R :=
  .ite (.not (.cmp .eq (.len (.v 0)) (.len (.v 1))))
   (
    .done [(.vb .ff)])
   (
    .loop 2 [(.z 0)] <|
      .ite (.cmp .lt (.v 2) (.len (.v 0)))
       (
        .i (.idx (.v 0) (.v 2) (.one (.s)) 3) <|
        .i (.idx (.v 1) (.v 2) (.one (.s)) 4) <|
        .i (.call f_laws_eqActLineS [(.s (.v 3)), (.s (.v 4))] [.b] 5) <|
        .ite (.not (.v 5))
         (
          .esc <|
          .done [(.vb .ff)])
         (
          .next [(.bin .add .i64 (.v 2) (.z 1))]))
       (
        .esc <|
        .done [(.vb .tt)]))
/-- laws_eqPlnPlan -/
def R_laws_eqPlnPlan : R :=
  .ite (.not (.cmp .eq (.v 0) (.v 4)))
   (
    .done [(.vb .ff)])
   (
    .i (.call f_laws_eqActLineSS [(.s (.v 1)), (.s (.v 5))] [.b] 8) <|
    .ite (.not (.v 8))
     (
      .done [(.vb .ff)])
     (
      .i (.call f_laws_eqIntS [(.s (.v 2)), (.s (.v 6))] [.b] 9) <|
      .ite (.not (.v 9))
       (
        .done [(.vb .ff)])
       (
        .i (.call f_laws_eqIntS [(.s (.v 3)), (.s (.v 7))] [.b] 10) <|
        .ite (.not (.v 10))
         (
          .done [(.vb .ff)])
         (
          .done [(.vb .tt)]))))
/-- laws_eqResResult -/
def R_laws_eqResResult : R :=
  .ite (.not (.cmp .eq (.v 0) (.v 2)))
   (
    .done [(.vb .ff)])
   (
    .i (.call f_laws_eqIntS [(.s (.v 1)), (.s (.v 3))] [.b] 4) <|
    .ite (.not (.v 4))
     (
      .done [(.vb .ff)])
     (
      .done [(.vb .tt)]))
/-- laws_eqPlnDone -/
def R_laws_eqPlnDone : R :=
  .ite (.not (.cmp .eq (.v 0) (.v 3)))
   (
    .done [(.vb .ff)])
   (
    .i (.call f_laws_eqResResult [(.vi .i64 (.v 1)), (.s (.v 2)), (.vi .i64 (.v 4)), (.s (.v 5))] [.b] 6) <|
    .ite (.not (.v 6))
     (
      .done [(.vb .ff)])
     (
      .done [(.vb .tt)]))
/-- laws_eqPlnDoneS -/
def R_laws_eqPlnDoneS : R :=
  .ite (.not (.cmp .eq (.len (.v 0)) (.len (.v 1))))
   (
    .done [(.vb .ff)])
   (
    .loop 2 [(.z 0)] <|
      .ite (.cmp .lt (.v 2) (.len (.v 0)))
       (
        .i (.idx (.v 0) (.v 2) (.g [.i .i64, .i .i64, .s]) 3) <|
        .i (.idx (.v 1) (.v 2) (.g [.i .i64, .i .i64, .s]) 6) <|
        .i (.call f_laws_eqPlnDone [(.vi .i64 (.v 3)), (.vi .i64 (.v 4)), (.s (.v 5)), (.vi .i64 (.v 6)), (.vi .i64 (.v 7)), (.s (.v 8))] [.b] 9) <|
        .ite (.not (.v 9))
         (
          .esc <|
          .done [(.vb .ff)])
         (
          .next [(.bin .add .i64 (.v 2) (.z 1))]))
       (
        .esc <|
        .done [(.vb .tt)]))
/-- laws_eqSitSite -/
def R_laws_eqSitSite : R :=
  .ite (.not (.beq (.v 0) (.v 6)))
   (
    .done [(.vb .ff)])
   (
    .ite (.not (.beq (.v 1) (.v 7)))
     (
      .done [(.vb .ff)])
     (
      .ite (.not (.cmp .eq (.v 2) (.v 8)))
       (
        .done [(.vb .ff)])
       (
        .i (.call f_laws_eqIntS [(.s (.v 3)), (.s (.v 9))] [.b] 12) <|
        .ite (.not (.v 12))
         (
          .done [(.vb .ff)])
         (
          .i (.call f_laws_eqIntS [(.s (.v 4)), (.s (.v 10))] [.b] 13) <|
          .ite (.not (.v 13))
           (
            .done [(.vb .ff)])
           (
            .i (.call f_laws_eqPlnDoneS [(.s (.v 5)), (.s (.v 11))] [.b] 14) <|
            .ite (.not (.v 14))
             (
              .done [(.vb .ff)])
             (
              .done [(.vb .tt)]))))))
/-- laws_eqSitSiteS -/
def R_laws_eqSitSiteS : R :=
  .ite (.not (.cmp .eq (.len (.v 0)) (.len (.v 1))))
   (
    .done [(.vb .ff)])
   (
    .loop 2 [(.z 0)] <|
      .ite (.cmp .lt (.v 2) (.len (.v 0)))
       (
        .i (.idx (.v 0) (.v 2) (.g [.b, .b, .i .i64, .s, .s, .s]) 3) <|
        .i (.idx (.v 1) (.v 2) (.g [.b, .b, .i .i64, .s, .s, .s]) 9) <|
        .i (.call f_laws_eqSitSite [(.vb (.v 3)), (.vb (.v 4)), (.vi .i64 (.v 5)), (.s (.v 6)), (.s (.v 7)), (.s (.v 8)), (.vb (.v 9)), (.vb (.v 10)), (.vi .i64 (.v 11)), (.s (.v 12)), (.s (.v 13)), (.s (.v 14))] [.b] 15) <|
        .ite (.not (.v 15))
         (
          .esc <|
          .done [(.vb .ff)])
         (
          .next [(.bin .add .i64 (.v 2) (.z 1))]))
       (
        .esc <|
        .done [(.vb .tt)]))
/-- laws_eqPlnCall -/
def R_laws_eqPlnCall : R :=
  .ite (.not (.cmp .eq (.v 0) (.v 4)))
   (
    .done [(.vb .ff)])
   (
    .ite (.not (.cmp .eq (.v 1) (.v 5)))
     (
      .done [(.vb .ff)])
     (
      .ite (.not (.cmp .eq (.v 2) (.v 6)))
       (
        .done [(.vb .ff)])
       (
        .i (.call f_laws_eqIntS [(.s (.v 3)), (.s (.v 7))] [.b] 8) <|
        .ite (.not (.v 8))
         (
          .done [(.vb .ff)])
         (
          .done [(.vb .tt)]))))
/-- laws_eqPlnCallS -/
def R_laws_eqPlnCallS : R :=
  .ite (.not (.cmp .eq (.len (.v 0)) (.len (.v 1))))
   (
    .done [(.vb .ff)])
   (
    .loop 2 [(.z 0)] <|
      .ite (.cmp .lt (.v 2) (.len (.v 0)))
       (
        .i (.idx (.v 0) (.v 2) (.g [.i .i64, .i .i64, .i .i64, .s]) 3) <|
        .i (.idx (.v 1) (.v 2) (.g [.i .i64, .i .i64, .i .i64, .s]) 7) <|
        .i (.call f_laws_eqPlnCall [(.vi .i64 (.v 3)), (.vi .i64 (.v 4)), (.vi .i64 (.v 5)), (.s (.v 6)), (.vi .i64 (.v 7)), (.vi .i64 (.v 8)), (.vi .i64 (.v 9)), (.s (.v 10))] [.b] 11) <|
        .ite (.not (.v 11))
         (
          .esc <|
          .done [(.vb .ff)])
         (
          .next [(.bin .add .i64 (.v 2) (.z 1))]))
       (
        .esc <|
        .done [(.vb .tt)]))
/-- laws_eqClkGot -/
def R_laws_eqClkGot : R :=
  .ite (.not (.beq (.v 0) (.v 3)))
   (
    .done [(.vb .ff)])
   (
    .i (.call f_laws_eqIntS [(.s (.v 1)), (.s (.v 4))] [.b] 6) <|
    .ite (.not (.v 6))
     (
      .done [(.vb .ff)])
     (
      .i (.call f_laws_eqIntS [(.s (.v 2)), (.s (.v 5))] [.b] 7) <|
      .ite (.not (.v 7))
       (
        .done [(.vb .ff)])
       (
        .done [(.vb .tt)])))
/-- laws_eqClkGotS -/
def R_laws_eqClkGotS : R :=
  .ite (.not (.cmp .eq (.len (.v 0)) (.len (.v 1))))
   (
    .done [(.vb .ff)])
   (
    .loop 2 [(.z 0)] <|
      .ite (.cmp .lt (.v 2) (.len (.v 0)))
       (
        .i (.idx (.v 0) (.v 2) (.g [.b, .s, .s]) 3) <|
        .i (.idx (.v 1) (.v 2) (.g [.b, .s, .s]) 6) <|
        .i (.call f_laws_eqClkGot [(.vb (.v 3)), (.s (.v 4)), (.s (.v 5)), (.vb (.v 6)), (.s (.v 7)), (.s (.v 8))] [.b] 9) <|
        .ite (.not (.v 9))
         (
          .esc <|
          .done [(.vb .ff)])
         (
          .next [(.bin .add .i64 (.v 2) (.z 1))]))
       (
        .esc <|
        .done [(.vb .tt)]))
/-- laws_eqClkClerk -/
def R_laws_eqClkClerk : R :=
  .ite (.not (.beq (.v 0) (.v 6)))
   (
    .done [(.vb .ff)])
   (
    .ite (.not (.cmp .eq (.v 1) (.v 7)))
     (
      .done [(.vb .ff)])
     (
      .i (.call f_laws_eqIntS [(.s (.v 2)), (.s (.v 8))] [.b] 12) <|
      .ite (.not (.v 12))
       (
        .done [(.vb .ff)])
       (
        .i (.call f_laws_eqPlnDoneS [(.s (.v 3)), (.s (.v 9))] [.b] 13) <|
        .ite (.not (.v 13))
         (
          .done [(.vb .ff)])
         (
          .i (.call f_laws_eqPlnCallS [(.s (.v 4)), (.s (.v 10))] [.b] 14) <|
          .ite (.not (.v 14))
           (
            .done [(.vb .ff)])
           (
            .i (.call f_laws_eqClkGotS [(.s (.v 5)), (.s (.v 11))] [.b] 15) <|
            .ite (.not (.v 15))
             (
              .done [(.vb .ff)])
             (
              .done [(.vb .tt)]))))))
/-- laws_eqConClient -/
def R_laws_eqConClient : R :=
  .ite (.not (.cmp .eq (.v 0) (.v 8)))
   (
    .done [(.vb .ff)])
   (
    .ite (.not (.beq (.v 1) (.v 9)))
     (
      .done [(.vb .ff)])
     (
      .i (.call f_laws_eqPlnCall [(.vi .i64 (.v 2)), (.vi .i64 (.v 3)), (.vi .i64 (.v 4)), (.s (.v 5)), (.vi .i64 (.v 10)), (.vi .i64 (.v 11)), (.vi .i64 (.v 12)), (.s (.v 13))] [.b] 16) <|
      .ite (.not (.v 16))
       (
        .done [(.vb .ff)])
       (
        .i (.call f_laws_eqResResult [(.vi .i64 (.v 6)), (.s (.v 7)), (.vi .i64 (.v 14)), (.s (.v 15))] [.b] 17) <|
        .ite (.not (.v 17))
         (
          .done [(.vb .ff)])
         (
          .done [(.vb .tt)]))))
/-- laws_eqConClientS -/
def R_laws_eqConClientS : R :=
  .ite (.not (.cmp .eq (.len (.v 0)) (.len (.v 1))))
   (
    .done [(.vb .ff)])
   (
    .loop 2 [(.z 0)] <|
      .ite (.cmp .lt (.v 2) (.len (.v 0)))
       (
        .i (.idx (.v 0) (.v 2) (.g [.i .i64, .b, .i .i64, .i .i64, .i .i64, .s, .i .i64, .s]) 3) <|
        .i (.idx (.v 1) (.v 2) (.g [.i .i64, .b, .i .i64, .i .i64, .i .i64, .s, .i .i64, .s]) 11) <|
        .i (.call f_laws_eqConClient [(.vi .i64 (.v 3)), (.vb (.v 4)), (.vi .i64 (.v 5)), (.vi .i64 (.v 6)), (.vi .i64 (.v 7)), (.s (.v 8)), (.vi .i64 (.v 9)), (.s (.v 10)), (.vi .i64 (.v 11)), (.vb (.v 12)), (.vi .i64 (.v 13)), (.vi .i64 (.v 14)), (.vi .i64 (.v 15)), (.s (.v 16)), (.vi .i64 (.v 17)), (.s (.v 18))] [.b] 19) <|
        .ite (.not (.v 19))
         (
          .esc <|
          .done [(.vb .ff)])
         (
          .next [(.bin .add .i64 (.v 2) (.z 1))]))
       (
        .esc <|
        .done [(.vb .tt)]))
/-- laws_eqMsgMsg -/
def R_laws_eqMsgMsg : R :=
  .ite (.not (.cmp .eq (.v 0) (.v 11)))
   (
    .done [(.vb .ff)])
   (
    .ite (.not (.cmp .eq (.v 1) (.v 12)))
     (
      .done [(.vb .ff)])
     (
      .ite (.not (.cmp .eq (.v 2) (.v 13)))
       (
        .done [(.vb .ff)])
       (
        .ite (.not (.cmp .eq (.v 3) (.v 14)))
         (
          .done [(.vb .ff)])
         (
          .i (.call f_laws_eqPlnCall [(.vi .i64 (.v 4)), (.vi .i64 (.v 5)), (.vi .i64 (.v 6)), (.s (.v 7)), (.vi .i64 (.v 15)), (.vi .i64 (.v 16)), (.vi .i64 (.v 17)), (.s (.v 18))] [.b] 22) <|
          .ite (.not (.v 22))
           (
            .done [(.vb .ff)])
           (
            .i (.call f_laws_eqIntS [(.s (.v 8)), (.s (.v 19))] [.b] 23) <|
            .ite (.not (.v 23))
             (
              .done [(.vb .ff)])
             (
              .i (.call f_laws_eqIntS [(.s (.v 9)), (.s (.v 20))] [.b] 24) <|
              .ite (.not (.v 24))
               (
                .done [(.vb .ff)])
               (
                .i (.call f_laws_eqPlnDoneS [(.s (.v 10)), (.s (.v 21))] [.b] 25) <|
                .ite (.not (.v 25))
                 (
                  .done [(.vb .ff)])
                 (
                  .done [(.vb .tt)]))))))))
/-- laws_eqMsgMsgS -/
def R_laws_eqMsgMsgS : R :=
  .ite (.not (.cmp .eq (.len (.v 0)) (.len (.v 1))))
   (
    .done [(.vb .ff)])
   (
    .loop 2 [(.z 0)] <|
      .ite (.cmp .lt (.v 2) (.len (.v 0)))
       (
        .i (.idx (.v 0) (.v 2) (.g [.i .i64, .i .i64, .i .i64, .i .i64, .i .i64, .i .i64, .i .i64, .s, .s, .s, .s]) 3) <|
        .i (.idx (.v 1) (.v 2) (.g [.i .i64, .i .i64, .i .i64, .i .i64, .i .i64, .i .i64, .i .i64, .s, .s, .s, .s]) 14) <|
        .i (.call f_laws_eqMsgMsg [(.vi .i64 (.v 3)), (.vi .i64 (.v 4)), (.vi .i64 (.v 5)), (.vi .i64 (.v 6)), (.vi .i64 (.v 7)), (.vi .i64 (.v 8)), (.vi .i64 (.v 9)), (.s (.v 10)), (.s (.v 11)), (.s (.v 12)), (.s (.v 13)), (.vi .i64 (.v 14)), (.vi .i64 (.v 15)), (.vi .i64 (.v 16)), (.vi .i64 (.v 17)), (.vi .i64 (.v 18)), (.vi .i64 (.v 19)), (.vi .i64 (.v 20)), (.s (.v 21)), (.s (.v 22)), (.s (.v 23)), (.s (.v 24))] [.b] 25) <|
        .ite (.not (.v 25))
         (
          .esc <|
          .done [(.vb .ff)])
         (
          .next [(.bin .add .i64 (.v 2) (.z 1))]))
       (
        .esc <|
        .done [(.vb .tt)]))
/-- laws_eqLogDone -/
def R_laws_eqLogDone : R :=
  .i (.call f_laws_eqPlnCall [(.vi .i64 (.v 0)), (.vi .i64 (.v 1)), (.vi .i64 (.v 2)), (.s (.v 3)), (.vi .i64 (.v 6)), (.vi .i64 (.v 7)), (.vi .i64 (.v 8)), (.s (.v 9))] [.b] 12) <|
  .ite (.not (.v 12))
   (
    .done [(.vb .ff)])
   (
    .i (.call f_laws_eqResResult [(.vi .i64 (.v 4)), (.s (.v 5)), (.vi .i64 (.v 10)), (.s (.v 11))] [.b] 13) <|
    .ite (.not (.v 13))
     (
      .done [(.vb .ff)])
     (
      .done [(.vb .tt)]))
/-- laws_eqLogDoneS -/
def R_laws_eqLogDoneS : R :=
  .ite (.not (.cmp .eq (.len (.v 0)) (.len (.v 1))))
   (
    .done [(.vb .ff)])
   (
    .loop 2 [(.z 0)] <|
      .ite (.cmp .lt (.v 2) (.len (.v 0)))
       (
        .i (.idx (.v 0) (.v 2) (.g [.i .i64, .i .i64, .i .i64, .s, .i .i64, .s]) 3) <|
        .i (.idx (.v 1) (.v 2) (.g [.i .i64, .i .i64, .i .i64, .s, .i .i64, .s]) 9) <|
        .i (.call f_laws_eqLogDone [(.vi .i64 (.v 3)), (.vi .i64 (.v 4)), (.vi .i64 (.v 5)), (.s (.v 6)), (.vi .i64 (.v 7)), (.s (.v 8)), (.vi .i64 (.v 9)), (.vi .i64 (.v 10)), (.vi .i64 (.v 11)), (.s (.v 12)), (.vi .i64 (.v 13)), (.s (.v 14))] [.b] 15) <|
        .ite (.not (.v 15))
         (
          .esc <|
          .done [(.vb .ff)])
         (
          .next [(.bin .add .i64 (.v 2) (.z 1))]))
       (
        .esc <|
        .done [(.vb .tt)]))
/-- laws_eqWldWorld -/
def R_laws_eqWldWorld : R :=
  .i (.call f_laws_eqPlnPlan [(.vi .i64 (.v 0)), (.s (.v 1)), (.s (.v 2)), (.s (.v 3)), (.vi .i64 (.v 14)), (.s (.v 15)), (.s (.v 16)), (.s (.v 17))] [.b] 28) <|
  .ite (.not (.v 28))
   (
    .done [(.vb .ff)])
   (
    .i (.call f_laws_eqSitSiteS [(.s (.v 4)), (.s (.v 18))] [.b] 29) <|
    .ite (.not (.v 29))
     (
      .done [(.vb .ff)])
     (
      .i (.call f_laws_eqClkClerk [(.vb (.v 5)), (.vi .i64 (.v 6)), (.s (.v 7)), (.s (.v 8)), (.s (.v 9)), (.s (.v 10)), (.vb (.v 19)), (.vi .i64 (.v 20)), (.s (.v 21)), (.s (.v 22)), (.s (.v 23)), (.s (.v 24))] [.b] 30) <|
      .ite (.not (.v 30))
       (
        .done [(.vb .ff)])
       (
        .i (.call f_laws_eqConClientS [(.s (.v 11)), (.s (.v 25))] [.b] 31) <|
        .ite (.not (.v 31))
         (
          .done [(.vb .ff)])
         (
          .i (.call f_laws_eqMsgMsgS [(.s (.v 12)), (.s (.v 26))] [.b] 32) <|
          .ite (.not (.v 32))
           (
            .done [(.vb .ff)])
           (
            .i (.call f_laws_eqLogDoneS [(.s (.v 13)), (.s (.v 27))] [.b] 33) <|
            .ite (.not (.v 33))
             (
              .done [(.vb .ff)])
             (
              .done [(.vb .tt)]))))))
/-- laws_markIntS -/
def R_laws_markIntS : R :=
  .loop 2 [(.v 0), (.v 1), (.z 0)] <|
    .ite (.cmp .lt (.v 4) (.len (.v 2)))
     (
      .i (.chk (.cmp .le (.z 0) (.v 4))) <|
      .i (.chk (.cmp .lt (.v 4) (.len (.v 2)))) <|
      .i (.idx (.v 2) (.v 4) (.one (.i .i64)) 5) <|
      .next [(.set (.v 2) (.v 4) (.vi .i64 (.v 3))), (.bin .add .i64 (.v 3) (.z 1)), (.bin .add .i64 (.v 4) (.z 1))])
     (
      .esc <|
      .done [(.vi .i64 (.v 3)), (.s (.v 2))])
/-- laws_markActLineS -/
def R_laws_markActLineS : R :=
  .loop 2 [(.v 0), (.v 1), (.z 0)] <|
    .ite (.cmp .lt (.v 4) (.len (.v 2)))
     (
      .i (.chk (.cmp .le (.z 0) (.v 4))) <|
      .i (.chk (.cmp .lt (.v 4) (.len (.v 2)))) <|
      .i (.idx (.v 2) (.v 4) (.g [.i .i64, .i .i64, .i .i64, .s, .s, .i .i64]) 5) <|
      .i (.chk (.cmp .le (.z 0) (.v 4))) <|
      .i (.chk (.cmp .lt (.v 4) (.len (.v 2)))) <|
      .i (.idx (.set (.v 2) (.v 4) (.g (.cons (.vi .i64 (.v 3)) (.cons (.vi .i64 (.v 6)) (.cons (.vi .i64 (.v 7)) (.cons (.s (.v 8)) (.cons (.s (.v 9)) (.cons (.vi .i64 (.v 10)) .nil)))))))) (.v 4) (.g [.i .i64, .i .i64, .i .i64, .s, .s, .i .i64]) 11) <|
      .i (.chk (.cmp .le (.z 0) (.v 4))) <|
      .i (.chk (.cmp .lt (.v 4) (.len (.v 2)))) <|
      .i (.idx (.set (.set (.v 2) (.v 4) (.g (.cons (.vi .i64 (.v 3)) (.cons (.vi .i64 (.v 6)) (.cons (.vi .i64 (.v 7)) (.cons (.s (.v 8)) (.cons (.s (.v 9)) (.cons (.vi .i64 (.v 10)) .nil)))))))) (.v 4) (.g (.cons (.vi .i64 (.v 11)) (.cons (.vi .i64 (.bin .add .i64 (.v 3) (.z 1))) (.cons (.vi .i64 (.v 13)) (.cons (.s (.v 14)) (.cons (.s (.v 15)) (.cons (.vi .i64 (.v 16)) .nil)))))))) (.v 4) (.g [.i .i64, .i .i64, .i .i64, .s, .s, .i .i64]) 17) <|
      .i (.chk (.cmp .le (.z 0) (.v 4))) <|
      .i (.chk (.cmp .lt (.v 4) (.len (.v 2)))) <|
      .i (.idx (.set (.set (.set (.v 2) (.v 4) (.g (.cons (.vi .i64 (.v 3)) (.cons (.vi .i64 (.v 6)) (.cons (.vi .i64 (.v 7)) (.cons (.s (.v 8)) (.cons (.s (.v 9)) (.cons (.vi .i64 (.v 10)) .nil)))))))) (.v 4) (.g (.cons (.vi .i64 (.v 11)) (.cons (.vi .i64 (.bin .add .i64 (.v 3) (.z 1))) (.cons (.vi .i64 (.v 13)) (.cons (.s (.v 14)) (.cons (.s (.v 15)) (.cons (.vi .i64 (.v 16)) .nil)))))))) (.v 4) (.g (.cons (.vi .i64 (.v 17)) (.cons (.vi .i64 (.v 18)) (.cons (.vi .i64 (.bin .add .i64 (.bin .add .i64 (.v 3) (.z 1)) (.z 1))) (.cons (.s (.v 20)) (.cons (.s (.v 21)) (.cons (.vi .i64 (.v 22)) .nil)))))))) (.v 4) (.g [.i .i64, .i .i64, .i .i64, .s, .s, .i .i64]) 23) <|
      .i (.call f_laws_markIntS [(.s (.v 26)), (.vi .i64 (.bin .add .i64 (.bin .add .i64 (.bin .add .i64 (.v 3) (.z 1)) (.z 1)) (.z 1)))] [.i .i64, .s] 29) <|
      .i (.chk (.cmp .eq (.len (.v 30)) (.len (.v 26)))) <|
      .i (.chk (.cmp .le (.z 0) (.v 4))) <|
      .i (.chk (.cmp .lt (.v 4) (.len (.v 2)))) <|
      .i (.idx (.set (.set (.set (.set (.v 2) (.v 4) (.g (.cons (.vi .i64 (.v 3)) (.cons (.vi .i64 (.v 6)) (.cons (.vi .i64 (.v 7)) (.cons (.s (.v 8)) (.cons (.s (.v 9)) (.cons (.vi .i64 (.v 10)) .nil)))))))) (.v 4) (.g (.cons (.vi .i64 (.v 11)) (.cons (.vi .i64 (.bin .add .i64 (.v 3) (.z 1))) (.cons (.vi .i64 (.v 13)) (.cons (.s (.v 14)) (.cons (.s (.v 15)) (.cons (.vi .i64 (.v 16)) .nil)))))))) (.v 4) (.g (.cons (.vi .i64 (.v 17)) (.cons (.vi .i64 (.v 18)) (.cons (.vi .i64 (.bin .add .i64 (.bin .add .i64 (.v 3) (.z 1)) (.z 1))) (.cons (.s (.v 20)) (.cons (.s (.v 21)) (.cons (.vi .i64 (.v 22)) .nil)))))))) (.v 4) (.g (.cons (.vi .i64 (.v 23)) (.cons (.vi .i64 (.v 24)) (.cons (.vi .i64 (.v 25)) (.cons (.s (.v 30)) (.cons (.s (.v 27)) (.cons (.vi .i64 (.v 28)) .nil)))))))) (.v 4) (.g [.i .i64, .i .i64, .i .i64, .s, .s, .i .i64]) 31) <|
      .i (.call f_laws_markIntS [(.s (.v 35)), (.vi .i64 (.v 29))] [.i .i64, .s] 37) <|
      .i (.chk (.cmp .eq (.len (.v 38)) (.len (.v 35)))) <|
      .i (.chk (.cmp .le (.z 0) (.v 4))) <|
      .i (.chk (.cmp .lt (.v 4) (.len (.v 2)))) <|
      .i (.idx (.set (.set (.set (.set (.set (.v 2) (.v 4) (.g (.cons (.vi .i64 (.v 3)) (.cons (.vi .i64 (.v 6)) (.cons (.vi .i64 (.v 7)) (.cons (.s (.v 8)) (.cons (.s (.v 9)) (.cons (.vi .i64 (.v 10)) .nil)))))))) (.v 4) (.g (.cons (.vi .i64 (.v 11)) (.cons (.vi .i64 (.bin .add .i64 (.v 3) (.z 1))) (.cons (.vi .i64 (.v 13)) (.cons (.s (.v 14)) (.cons (.s (.v 15)) (.cons (.vi .i64 (.v 16)) .nil)))))))) (.v 4) (.g (.cons (.vi .i64 (.v 17)) (.cons (.vi .i64 (.v 18)) (.cons (.vi .i64 (.bin .add .i64 (.bin .add .i64 (.v 3) (.z 1)) (.z 1))) (.cons (.s (.v 20)) (.cons (.s (.v 21)) (.cons (.vi .i64 (.v 22)) .nil)))))))) (.v 4) (.g (.cons (.vi .i64 (.v 23)) (.cons (.vi .i64 (.v 24)) (.cons (.vi .i64 (.v 25)) (.cons (.s (.v 30)) (.cons (.s (.v 27)) (.cons (.vi .i64 (.v 28)) .nil)))))))) (.v 4) (.g (.cons (.vi .i64 (.v 31)) (.cons (.vi .i64 (.v 32)) (.cons (.vi .i64 (.v 33)) (.cons (.s (.v 34)) (.cons (.s (.v 38)) (.cons (.vi .i64 (.v 36)) .nil)))))))) (.v 4) (.g [.i .i64, .i .i64, .i .i64, .s, .s, .i .i64]) 39) <|
      .next [(.set (.set (.set (.set (.set (.set (.v 2) (.v 4) (.g (.cons (.vi .i64 (.v 3)) (.cons (.vi .i64 (.v 6)) (.cons (.vi .i64 (.v 7)) (.cons (.s (.v 8)) (.cons (.s (.v 9)) (.cons (.vi .i64 (.v 10)) .nil)))))))) (.v 4) (.g (.cons (.vi .i64 (.v 11)) (.cons (.vi .i64 (.bin .add .i64 (.v 3) (.z 1))) (.cons (.vi .i64 (.v 13)) (.cons (.s (.v 14)) (.cons (.s (.v 15)) (.cons (.vi .i64 (.v 16)) .nil)))))))) (.v 4) (.g (.cons (.vi .i64 (.v 17)) (.cons (.vi .i64 (.v 18)) (.cons (.vi .i64 (.bin .add .i64 (.bin .add .i64 (.v 3) (.z 1)) (.z 1))) (.cons (.s (.v 20)) (.cons (.s (.v 21)) (.cons (.vi .i64 (.v 22)) .nil)))))))) (.v 4) (.g (.cons (.vi .i64 (.v 23)) (.cons (.vi .i64 (.v 24)) (.cons (.vi .i64 (.v 25)) (.cons (.s (.v 30)) (.cons (.s (.v 27)) (.cons (.vi .i64 (.v 28)) .nil)))))))) (.v 4) (.g (.cons (.vi .i64 (.v 31)) (.cons (.vi .i64 (.v 32)) (.cons (.vi .i64 (.v 33)) (.cons (.s (.v 34)) (.cons (.s (.v 38)) (.cons (.vi .i64 (.v 36)) .nil)))))))) (.v 4) (.g (.cons (.vi .i64 (.v 39)) (.cons (.vi .i64 (.v 40)) (.cons (.vi .i64 (.v 41)) (.cons (.s (.v 42)) (.cons (.s (.v 43)) (.cons (.vi .i64 (.v 37)) .nil)))))))), (.bin .add .i64 (.v 37) (.z 1)), (.bin .add .i64 (.v 4) (.z 1))])
     (
      .esc <|
      .done [(.vi .i64 (.v 3)), (.s (.v 2))])
/-- laws_markActLineSS -/
def R_laws_markActLineSS : R :=
  .loop 2 [(.v 0), (.v 1), (.z 0)] <|
    .ite (.cmp .lt (.v 4) (.len (.v 2)))
     (
      .i (.chk (.cmp .le (.z 0) (.v 4))) <|
      .i (.chk (.cmp .lt (.v 4) (.len (.v 2)))) <|
      .i (.idx (.v 2) (.v 4) (.one (.s)) 5) <|
      .i (.call f_laws_markActLineS [(.s (.v 5)), (.vi .i64 (.v 3))] [.i .i64, .s] 6) <|
      .i (.chk (.cmp .eq (.len (.v 7)) (.len (.v 5)))) <|
      .next [(.set (.v 2) (.v 4) (.s (.v 7))), (.v 6), (.bin .add .i64 (.v 4) (.z 1))])
     (
      .esc <|
      .done [(.vi .i64 (.v 3)), (.s (.v 2))])
/-- laws_markPlnPlan -/
def R_laws_markPlnPlan : R :=
  .i (.call f_laws_markActLineSS [(.s (.v 1)), (.vi .i64 (.v 4))] [.i .i64, .s] 5) <|
  .i (.call f_laws_markIntS [(.s (.v 2)), (.vi .i64 (.v 5))] [.i .i64, .s] 7) <|
  .i (.call f_laws_markIntS [(.s (.v 3)), (.vi .i64 (.v 7))] [.i .i64, .s] 9) <|
  .done [(.vi .i64 (.v 9)), (.s (.v 6)), (.s (.v 8)), (.s (.v 10))]
/-- laws_markPlnDoneS -/
def R_laws_markPlnDoneS : R :=
  .loop 2 [(.v 0), (.v 1), (.z 0)] <|
    .ite (.cmp .lt (.v 4) (.len (.v 2)))
     (
      .i (.chk (.cmp .le (.z 0) (.v 4))) <|
      .i (.chk (.cmp .lt (.v 4) (.len (.v 2)))) <|
      .i (.idx (.v 2) (.v 4) (.g [.i .i64, .i .i64, .s]) 5) <|
      .i (.chk (.cmp .le (.z 0) (.v 4))) <|
      .i (.chk (.cmp .lt (.v 4) (.len (.v 2)))) <|
      .i (.idx (.set (.v 2) (.v 4) (.g (.cons (.vi .i64 (.v 3)) (.cons (.vi .i64 (.v 6)) (.cons (.s (.v 7)) .nil))))) (.v 4) (.g [.i .i64, .i .i64, .s]) 8) <|
      .i (.chk (.cmp .le (.z 0) (.v 4))) <|
      .i (.chk (.cmp .lt (.v 4) (.len (.v 2)))) <|
      .i (.idx (.set (.set (.v 2) (.v 4) (.g (.cons (.vi .i64 (.v 3)) (.cons (.vi .i64 (.v 6)) (.cons (.s (.v 7)) .nil))))) (.v 4) (.g (.cons (.vi .i64 (.v 8)) (.cons (.vi .i64 (.bin .add .i64 (.v 3) (.z 1))) (.cons (.s (.v 10)) .nil))))) (.v 4) (.g [.i .i64, .i .i64, .s]) 11) <|
      .i (.call f_laws_markIntS [(.s (.v 13)), (.vi .i64 (.bin .add .i64 (.bin .add .i64 (.v 3) (.z 1)) (.z 1)))] [.i .i64, .s] 14) <|
      .i (.chk (.cmp .eq (.len (.v 15)) (.len (.v 13)))) <|
      .next [(.set (.set (.set (.v 2) (.v 4) (.g (.cons (.vi .i64 (.v 3)) (.cons (.vi .i64 (.v 6)) (.cons (.s (.v 7)) .nil))))) (.v 4) (.g (.cons (.vi .i64 (.v 8)) (.cons (.vi .i64 (.bin .add .i64 (.v 3) (.z 1))) (.cons (.s (.v 10)) .nil))))) (.v 4) (.g (.cons (.vi .i64 (.v 11)) (.cons (.vi .i64 (.v 12)) (.cons (.s (.v 15)) .nil))))), (.v 14), (.bin .add .i64 (.v 4) (.z 1))])
     (
      .esc <|
      .done [(.vi .i64 (.v 3)), (.s (.v 2))])
/-- laws_markSitSiteS -/
def R_laws_markSitSiteS : R :=
  .loop 2 [(.v 0), (.v 1), (.z 0)] <|
    .ite (.cmp .lt (.v 4) (.len (.v 2)))
     (
      .i (.chk (.not (.cmp .eq (.z 3) (.z 0)))) <|
      .i (.chk (.cmp .le (.z 0) (.v 4))) <|
      .i (.chk (.cmp .lt (.v 4) (.len (.v 2)))) <|
      .i (.idx (.v 2) (.v 4) (.g [.b, .b, .i .i64, .s, .s, .s]) 5) <|
      .i (.chk (.not (.cmp .eq (.z 3) (.z 0)))) <|
      .i (.chk (.cmp .le (.z 0) (.v 4))) <|
      .i (.chk (.cmp .lt (.v 4) (.len (.v 2)))) <|
      .i (.idx (.set (.v 2) (.v 4) (.g (.cons (.vb (.cmp .eq (.bin .rem .i64 (.v 3) (.z 3)) (.z 0))) (.cons (.vb (.v 6)) (.cons (.vi .i64 (.v 7)) (.cons (.s (.v 8)) (.cons (.s (.v 9)) (.cons (.s (.v 10)) .nil)))))))) (.v 4) (.g [.b, .b, .i .i64, .s, .s, .s]) 11) <|
      .i (.chk (.cmp .le (.z 0) (.v 4))) <|
      .i (.chk (.cmp .lt (.v 4) (.len (.v 2)))) <|
      .i (.idx (.set (.set (.v 2) (.v 4) (.g (.cons (.vb (.cmp .eq (.bin .rem .i64 (.v 3) (.z 3)) (.z 0))) (.cons (.vb (.v 6)) (.cons (.vi .i64 (.v 7)) (.cons (.s (.v 8)) (.cons (.s (.v 9)) (.cons (.s (.v 10)) .nil)))))))) (.v 4) (.g (.cons (.vb (.v 11)) (.cons (.vb (.cmp .eq (.bin .rem .i64 (.bin .add .i64 (.v 3) (.z 1)) (.z 3)) (.z 0))) (.cons (.vi .i64 (.v 13)) (.cons (.s (.v 14)) (.cons (.s (.v 15)) (.cons (.s (.v 16)) .nil)))))))) (.v 4) (.g [.b, .b, .i .i64, .s, .s, .s]) 17) <|
      .i (.chk (.cmp .le (.z 0) (.v 4))) <|
      .i (.chk (.cmp .lt (.v 4) (.len (.v 2)))) <|
      .i (.idx (.set (.set (.set (.v 2) (.v 4) (.g (.cons (.vb (.cmp .eq (.bin .rem .i64 (.v 3) (.z 3)) (.z 0))) (.cons (.vb (.v 6)) (.cons (.vi .i64 (.v 7)) (.cons (.s (.v 8)) (.cons (.s (.v 9)) (.cons (.s (.v 10)) .nil)))))))) (.v 4) (.g (.cons (.vb (.v 11)) (.cons (.vb (.cmp .eq (.bin .rem .i64 (.bin .add .i64 (.v 3) (.z 1)) (.z 3)) (.z 0))) (.cons (.vi .i64 (.v 13)) (.cons (.s (.v 14)) (.cons (.s (.v 15)) (.cons (.s (.v 16)) .nil)))))))) (.v 4) (.g (.cons (.vb (.v 17)) (.cons (.vb (.v 18)) (.cons (.vi .i64 (.bin .add .i64 (.bin .add .i64 (.v 3) (.z 1)) (.z 1))) (.cons (.s (.v 20)) (.cons (.s (.v 21)) (.cons (.s (.v 22)) .nil)))))))) (.v 4) (.g [.b, .b, .i .i64, .s, .s, .s]) 23) <|
      .i (.call f_laws_markIntS [(.s (.v 26)), (.vi .i64 (.bin .add .i64 (.bin .add .i64 (.bin .add .i64 (.v 3) (.z 1)) (.z 1)) (.z 1)))] [.i .i64, .s] 29) <|
      .i (.chk (.cmp .eq (.len (.v 30)) (.len (.v 26)))) <|
      .i (.chk (.cmp .le (.z 0) (.v 4))) <|
      .i (.chk (.cmp .lt (.v 4) (.len (.v 2)))) <|
      .i (.idx (.set (.set (.set (.set (.v 2) (.v 4) (.g (.cons (.vb (.cmp .eq (.bin .rem .i64 (.v 3) (.z 3)) (.z 0))) (.cons (.vb (.v 6)) (.cons (.vi .i64 (.v 7)) (.cons (.s (.v 8)) (.cons (.s (.v 9)) (.cons (.s (.v 10)) .nil)))))))) (.v 4) (.g (.cons (.vb (.v 11)) (.cons (.vb (.cmp .eq (.bin .rem .i64 (.bin .add .i64 (.v 3) (.z 1)) (.z 3)) (.z 0))) (.cons (.vi .i64 (.v 13)) (.cons (.s (.v 14)) (.cons (.s (.v 15)) (.cons (.s (.v 16)) .nil)))))))) (.v 4) (.g (.cons (.vb (.v 17)) (.cons (.vb (.v 18)) (.cons (.vi .i64 (.bin .add .i64 (.bin .add .i64 (.v 3) (.z 1)) (.z 1))) (.cons (.s (.v 20)) (.cons (.s (.v 21)) (.cons (.s (.v 22)) .nil)))))))) (.v 4) (.g (.cons (.vb (.v 23)) (.cons (.vb (.v 24)) (.cons (.vi .i64 (.v 25)) (.cons (.s (.v 30)) (.cons (.s (.v 27)) (.cons (.s (.v 28)) .nil)))))))) (.v 4) (.g [.b, .b, .i .i64, .s, .s, .s]) 31) <|
      .i (.call f_laws_markIntS [(.s (.v 35)), (.vi .i64 (.v 29))] [.i .i64, .s] 37) <|
      .i (.chk (.cmp .eq (.len (.v 38)) (.len (.v 35)))) <|
      .i (.chk (.cmp .le (.z 0) (.v 4))) <|
      .i (.chk (.cmp .lt (.v 4) (.len (.v 2)))) <|
      .i (.idx (.set (.set (.set (.set (.set (.v 2) (.v 4) (.g (.cons (.vb (.cmp .eq (.bin .rem .i64 (.v 3) (.z 3)) (.z 0))) (.cons (.vb (.v 6)) (.cons (.vi .i64 (.v 7)) (.cons (.s (.v 8)) (.cons (.s (.v 9)) (.cons (.s (.v 10)) .nil)))))))) (.v 4) (.g (.cons (.vb (.v 11)) (.cons (.vb (.cmp .eq (.bin .rem .i64 (.bin .add .i64 (.v 3) (.z 1)) (.z 3)) (.z 0))) (.cons (.vi .i64 (.v 13)) (.cons (.s (.v 14)) (.cons (.s (.v 15)) (.cons (.s (.v 16)) .nil)))))))) (.v 4) (.g (.cons (.vb (.v 17)) (.cons (.vb (.v 18)) (.cons (.vi .i64 (.bin .add .i64 (.bin .add .i64 (.v 3) (.z 1)) (.z 1))) (.cons (.s (.v 20)) (.cons (.s (.v 21)) (.cons (.s (.v 22)) .nil)))))))) (.v 4) (.g (.cons (.vb (.v 23)) (.cons (.vb (.v 24)) (.cons (.vi .i64 (.v 25)) (.cons (.s (.v 30)) (.cons (.s (.v 27)) (.cons (.s (.v 28)) .nil)))))))) (.v 4) (.g (.cons (.vb (.v 31)) (.cons (.vb (.v 32)) (.cons (.vi .i64 (.v 33)) (.cons (.s (.v 34)) (.cons (.s (.v 38)) (.cons (.s (.v 36)) .nil)))))))) (.v 4) (.g [.b, .b, .i .i64, .s, .s, .s]) 39) <|
      .i (.call f_laws_markPlnDoneS [(.s (.v 44)), (.vi .i64 (.v 37))] [.i .i64, .s] 45) <|
      .i (.chk (.cmp .eq (.len (.v 46)) (.len (.v 44)))) <|
      .next [(.set (.set (.set (.set (.set (.set (.v 2) (.v 4) (.g (.cons (.vb (.cmp .eq (.bin .rem .i64 (.v 3) (.z 3)) (.z 0))) (.cons (.vb (.v 6)) (.cons (.vi .i64 (.v 7)) (.cons (.s (.v 8)) (.cons (.s (.v 9)) (.cons (.s (.v 10)) .nil)))))))) (.v 4) (.g (.cons (.vb (.v 11)) (.cons (.vb (.cmp .eq (.bin .rem .i64 (.bin .add .i64 (.v 3) (.z 1)) (.z 3)) (.z 0))) (.cons (.vi .i64 (.v 13)) (.cons (.s (.v 14)) (.cons (.s (.v 15)) (.cons (.s (.v 16)) .nil)))))))) (.v 4) (.g (.cons (.vb (.v 17)) (.cons (.vb (.v 18)) (.cons (.vi .i64 (.bin .add .i64 (.bin .add .i64 (.v 3) (.z 1)) (.z 1))) (.cons (.s (.v 20)) (.cons (.s (.v 21)) (.cons (.s (.v 22)) .nil)))))))) (.v 4) (.g (.cons (.vb (.v 23)) (.cons (.vb (.v 24)) (.cons (.vi .i64 (.v 25)) (.cons (.s (.v 30)) (.cons (.s (.v 27)) (.cons (.s (.v 28)) .nil)))))))) (.v 4) (.g (.cons (.vb (.v 31)) (.cons (.vb (.v 32)) (.cons (.vi .i64 (.v 33)) (.cons (.s (.v 34)) (.cons (.s (.v 38)) (.cons (.s (.v 36)) .nil)))))))) (.v 4) (.g (.cons (.vb (.v 39)) (.cons (.vb (.v 40)) (.cons (.vi .i64 (.v 41)) (.cons (.s (.v 42)) (.cons (.s (.v 43)) (.cons (.s (.v 46)) .nil)))))))), (.v 45), (.bin .add .i64 (.v 4) (.z 1))])
     (
      .esc <|
      .done [(.vi .i64 (.v 3)), (.s (.v 2))])
/-- laws_markPlnCallS -/
def R_laws_markPlnCallS : R :=
  .loop 2 [(.v 0), (.v 1), (.z 0)] <|
    .ite (.cmp .lt (.v 4) (.len (.v 2)))
     (
      .i (.chk (.cmp .le (.z 0) (.v 4))) <|
      .i (.chk (.cmp .lt (.v 4) (.len (.v 2)))) <|
      .i (.idx (.v 2) (.v 4) (.g [.i .i64, .i .i64, .i .i64, .s]) 5) <|
      .i (.chk (.cmp .le (.z 0) (.v 4))) <|
      .i (.chk (.cmp .lt (.v 4) (.len (.v 2)))) <|
      .i (.idx (.set (.v 2) (.v 4) (.g (.cons (.vi .i64 (.v 3)) (.cons (.vi .i64 (.v 6)) (.cons (.vi .i64 (.v 7)) (.cons (.s (.v 8)) .nil)))))) (.v 4) (.g [.i .i64, .i .i64, .i .i64, .s]) 9) <|
      .i (.chk (.cmp .le (.z 0) (.v 4))) <|
      .i (.chk (.cmp .lt (.v 4) (.len (.v 2)))) <|
      .i (.idx (.set (.set (.v 2) (.v 4) (.g (.cons (.vi .i64 (.v 3)) (.cons (.vi .i64 (.v 6)) (.cons (.vi .i64 (.v 7)) (.cons (.s (.v 8)) .nil)))))) (.v 4) (.g (.cons (.vi .i64 (.v 9)) (.cons (.vi .i64 (.bin .add .i64 (.v 3) (.z 1))) (.cons (.vi .i64 (.v 11)) (.cons (.s (.v 12)) .nil)))))) (.v 4) (.g [.i .i64, .i .i64, .i .i64, .s]) 13) <|
      .i (.chk (.cmp .le (.z 0) (.v 4))) <|
      .i (.chk (.cmp .lt (.v 4) (.len (.v 2)))) <|
      .i (.idx (.set (.set (.set (.v 2) (.v 4) (.g (.cons (.vi .i64 (.v 3)) (.cons (.vi .i64 (.v 6)) (.cons (.vi .i64 (.v 7)) (.cons (.s (.v 8)) .nil)))))) (.v 4) (.g (.cons (.vi .i64 (.v 9)) (.cons (.vi .i64 (.bin .add .i64 (.v 3) (.z 1))) (.cons (.vi .i64 (.v 11)) (.cons (.s (.v 12)) .nil)))))) (.v 4) (.g (.cons (.vi .i64 (.v 13)) (.cons (.vi .i64 (.v 14)) (.cons (.vi .i64 (.bin .add .i64 (.bin .add .i64 (.v 3) (.z 1)) (.z 1))) (.cons (.s (.v 16)) .nil)))))) (.v 4) (.g [.i .i64, .i .i64, .i .i64, .s]) 17) <|
      .i (.call f_laws_markIntS [(.s (.v 20)), (.vi .i64 (.bin .add .i64 (.bin .add .i64 (.bin .add .i64 (.v 3) (.z 1)) (.z 1)) (.z 1)))] [.i .i64, .s] 21) <|
      .i (.chk (.cmp .eq (.len (.v 22)) (.len (.v 20)))) <|
      .next [(.set (.set (.set (.set (.v 2) (.v 4) (.g (.cons (.vi .i64 (.v 3)) (.cons (.vi .i64 (.v 6)) (.cons (.vi .i64 (.v 7)) (.cons (.s (.v 8)) .nil)))))) (.v 4) (.g (.cons (.vi .i64 (.v 9)) (.cons (.vi .i64 (.bin .add .i64 (.v 3) (.z 1))) (.cons (.vi .i64 (.v 11)) (.cons (.s (.v 12)) .nil)))))) (.v 4) (.g (.cons (.vi .i64 (.v 13)) (.cons (.vi .i64 (.v 14)) (.cons (.vi .i64 (.bin .add .i64 (.bin .add .i64 (.v 3) (.z 1)) (.z 1))) (.cons (.s (.v 16)) .nil)))))) (.v 4) (.g (.cons (.vi .i64 (.v 17)) (.cons (.vi .i64 (.v 18)) (.cons (.vi .i64 (.v 19)) (.cons (.s (.v 22)) .nil)))))), (.v 21), (.bin .add .i64 (.v 4) (.z 1))])
     (
      .esc <|
      .done [(.vi .i64 (.v 3)), (.s (.v 2))])
/-- laws_markClkGotS -/
def R_laws_markClkGotS : R :=
  .loop 2 [(.v 0), (.v 1), (.z 0)] <|
    .ite (.cmp .lt (.v 4) (.len (.v 2)))
     (
      .i (.chk (.not (.cmp .eq (.z 3) (.z 0)))) <|
      .i (.chk (.cmp .le (.z 0) (.v 4))) <|
      .i (.chk (.cmp .lt (.v 4) (.len (.v 2)))) <|
      .i (.idx (.v 2) (.v 4) (.g [.b, .s, .s]) 5) <|
      .i (.chk (.cmp .le (.z 0) (.v 4))) <|
      .i (.chk (.cmp .lt (.v 4) (.len (.v 2)))) <|
      .i (.idx (.set (.v 2) (.v 4) (.g (.cons (.vb (.cmp .eq (.bin .rem .i64 (.v 3) (.z 3)) (.z 0))) (.cons (.s (.v 6)) (.cons (.s (.v 7)) .nil))))) (.v 4) (.g [.b, .s, .s]) 8) <|
      .i (.call f_laws_markIntS [(.s (.v 9)), (.vi .i64 (.bin .add .i64 (.v 3) (.z 1)))] [.i .i64, .s] 11) <|
      .i (.chk (.cmp .eq (.len (.v 12)) (.len (.v 9)))) <|
      .i (.chk (.cmp .le (.z 0) (.v 4))) <|
      .i (.chk (.cmp .lt (.v 4) (.len (.v 2)))) <|
      .i (.idx (.set (.set (.v 2) (.v 4) (.g (.cons (.vb (.cmp .eq (.bin .rem .i64 (.v 3) (.z 3)) (.z 0))) (.cons (.s (.v 6)) (.cons (.s (.v 7)) .nil))))) (.v 4) (.g (.cons (.vb (.v 8)) (.cons (.s (.v 12)) (.cons (.s (.v 10)) .nil))))) (.v 4) (.g [.b, .s, .s]) 13) <|
      .i (.call f_laws_markIntS [(.s (.v 15)), (.vi .i64 (.v 11))] [.i .i64, .s] 16) <|
      .i (.chk (.cmp .eq (.len (.v 17)) (.len (.v 15)))) <|
      .next [(.set (.set (.set (.v 2) (.v 4) (.g (.cons (.vb (.cmp .eq (.bin .rem .i64 (.v 3) (.z 3)) (.z 0))) (.cons (.s (.v 6)) (.cons (.s (.v 7)) .nil))))) (.v 4) (.g (.cons (.vb (.v 8)) (.cons (.s (.v 12)) (.cons (.s (.v 10)) .nil))))) (.v 4) (.g (.cons (.vb (.v 13)) (.cons (.s (.v 14)) (.cons (.s (.v 17)) .nil))))), (.v 16), (.bin .add .i64 (.v 4) (.z 1))])
     (
      .esc <|
      .done [(.vi .i64 (.v 3)), (.s (.v 2))])
/-- laws_markClkClerk -/
def R_laws_markClkClerk : R :=
  .i (.call f_laws_markIntS [(.s (.v 2)), (.vi .i64 (.v 6))] [.i .i64, .s] 7) <|
  .i (.call f_laws_markPlnDoneS [(.s (.v 3)), (.vi .i64 (.v 7))] [.i .i64, .s] 9) <|
  .i (.call f_laws_markPlnCallS [(.s (.v 4)), (.vi .i64 (.v 9))] [.i .i64, .s] 11) <|
  .i (.call f_laws_markClkGotS [(.s (.v 5)), (.vi .i64 (.v 11))] [.i .i64, .s] 13) <|
  .done [(.vi .i64 (.v 13)), (.s (.v 8)), (.s (.v 10)), (.s (.v 12)), (.s (.v 14))]
/-- laws_markConClientS -/
def R_laws_markConClientS : R :=
  .loop 2 [(.v 0), (.v 1), (.z 0)] <|
    .ite (.cmp .lt (.v 4) (.len (.v 2)))
     (
      .i (.chk (.cmp .le (.z 0) (.v 4))) <|
      .i (.chk (.cmp .lt (.v 4) (.len (.v 2)))) <|
      .i (.idx (.v 2) (.v 4) (.g [.i .i64, .b, .i .i64, .i .i64, .i .i64, .s, .i .i64, .s]) 5) <|
      .i (.chk (.not (.cmp .eq (.z 3) (.z 0)))) <|
      .i (.chk (.cmp .le (.z 0) (.v 4))) <|
      .i (.chk (.cmp .lt (.v 4) (.len (.v 2)))) <|
      .i (.idx (.set (.v 2) (.v 4) (.g (.cons (.vi .i64 (.v 3)) (.cons (.vb (.v 6)) (.cons (.vi .i64 (.v 7)) (.cons (.vi .i64 (.v 8)) (.cons (.vi .i64 (.v 9)) (.cons (.s (.v 10)) (.cons (.vi .i64 (.v 11)) (.cons (.s (.v 12)) .nil)))))))))) (.v 4) (.g [.i .i64, .b, .i .i64, .i .i64, .i .i64, .s, .i .i64, .s]) 13) <|
      .i (.chk (.cmp .le (.z 0) (.v 4))) <|
      .i (.chk (.cmp .lt (.v 4) (.len (.v 2)))) <|
      .i (.idx (.set (.set (.v 2) (.v 4) (.g (.cons (.vi .i64 (.v 3)) (.cons (.vb (.v 6)) (.cons (.vi .i64 (.v 7)) (.cons (.vi .i64 (.v 8)) (.cons (.vi .i64 (.v 9)) (.cons (.s (.v 10)) (.cons (.vi .i64 (.v 11)) (.cons (.s (.v 12)) .nil)))))))))) (.v 4) (.g (.cons (.vi .i64 (.v 13)) (.cons (.vb (.cmp .eq (.bin .rem .i64 (.bin .add .i64 (.v 3) (.z 1)) (.z 3)) (.z 0))) (.cons (.vi .i64 (.v 15)) (.cons (.vi .i64 (.v 16)) (.cons (.vi .i64 (.v 17)) (.cons (.s (.v 18)) (.cons (.vi .i64 (.v 19)) (.cons (.s (.v 20)) .nil)))))))))) (.v 4) (.g [.i .i64, .b, .i .i64, .i .i64, .i .i64, .s, .i .i64, .s]) 21) <|
      .i (.chk (.cmp .le (.z 0) (.v 4))) <|
      .i (.chk (.cmp .lt (.v 4) (.len (.v 2)))) <|
      .i (.idx (.set (.set (.set (.v 2) (.v 4) (.g (.cons (.vi .i64 (.v 3)) (.cons (.vb (.v 6)) (.cons (.vi .i64 (.v 7)) (.cons (.vi .i64 (.v 8)) (.cons (.vi .i64 (.v 9)) (.cons (.s (.v 10)) (.cons (.vi .i64 (.v 11)) (.cons (.s (.v 12)) .nil)))))))))) (.v 4) (.g (.cons (.vi .i64 (.v 13)) (.cons (.vb (.cmp .eq (.bin .rem .i64 (.bin .add .i64 (.v 3) (.z 1)) (.z 3)) (.z 0))) (.cons (.vi .i64 (.v 15)) (.cons (.vi .i64 (.v 16)) (.cons (.vi .i64 (.v 17)) (.cons (.s (.v 18)) (.cons (.vi .i64 (.v 19)) (.cons (.s (.v 20)) .nil)))))))))) (.v 4) (.g (.cons (.vi .i64 (.v 21)) (.cons (.vb (.v 22)) (.cons (.vi .i64 (.bin .add .i64 (.bin .add .i64 (.v 3) (.z 1)) (.z 1))) (.cons (.vi .i64 (.v 24)) (.cons (.vi .i64 (.v 25)) (.cons (.s (.v 26)) (.cons (.vi .i64 (.v 27)) (.cons (.s (.v 28)) .nil)))))))))) (.v 4) (.g [.i .i64, .b, .i .i64, .i .i64, .i .i64, .s, .i .i64, .s]) 29) <|
      .i (.chk (.cmp .le (.z 0) (.v 4))) <|
      .i (.chk (.cmp .lt (.v 4) (.len (.v 2)))) <|
      .i (.idx (.set (.set (.set (.set (.v 2) (.v 4) (.g (.cons (.vi .i64 (.v 3)) (.cons (.vb (.v 6)) (.cons (.vi .i64 (.v 7)) (.cons (.vi .i64 (.v 8)) (.cons (.vi .i64 (.v 9)) (.cons (.s (.v 10)) (.cons (.vi .i64 (.v 11)) (.cons (.s (.v 12)) .nil)))))))))) (.v 4) (.g (.cons (.vi .i64 (.v 13)) (.cons (.vb (.cmp .eq (.bin .rem .i64 (.bin .add .i64 (.v 3) (.z 1)) (.z 3)) (.z 0))) (.cons (.vi .i64 (.v 15)) (.cons (.vi .i64 (.v 16)) (.cons (.vi .i64 (.v 17)) (.cons (.s (.v 18)) (.cons (.vi .i64 (.v 19)) (.cons (.s (.v 20)) .nil)))))))))) (.v 4) (.g (.cons (.vi .i64 (.v 21)) (.cons (.vb (.v 22)) (.cons (.vi .i64 (.bin .add .i64 (.bin .add .i64 (.v 3) (.z 1)) (.z 1))) (.cons (.vi .i64 (.v 24)) (.cons (.vi .i64 (.v 25)) (.cons (.s (.v 26)) (.cons (.vi .i64 (.v 27)) (.cons (.s (.v 28)) .nil)))))))))) (.v 4) (.g (.cons (.vi .i64 (.v 29)) (.cons (.vb (.v 30)) (.cons (.vi .i64 (.v 31)) (.cons (.vi .i64 (.bin .add .i64 (.bin .add .i64 (.bin .add .i64 (.v 3) (.z 1)) (.z 1)) (.z 1))) (.cons (.vi .i64 (.v 33)) (.cons (.s (.v 34)) (.cons (.vi .i64 (.v 35)) (.cons (.s (.v 36)) .nil)))))))))) (.v 4) (.g [.i .i64, .b, .i .i64, .i .i64, .i .i64, .s, .i .i64, .s]) 37) <|
      .i (.chk (.cmp .le (.z 0) (.v 4))) <|
      .i (.chk (.cmp .lt (.v 4) (.len (.v 2)))) <|
      .i (.idx (.set (.set (.set (.set (.set (.v 2) (.v 4) (.g (.cons (.vi .i64 (.v 3)) (.cons (.vb (.v 6)) (.cons (.vi .i64 (.v 7)) (.cons (.vi .i64 (.v 8)) (.cons (.vi .i64 (.v 9)) (.cons (.s (.v 10)) (.cons (.vi .i64 (.v 11)) (.cons (.s (.v 12)) .nil)))))))))) (.v 4) (.g (.cons (.vi .i64 (.v 13)) (.cons (.vb (.cmp .eq (.bin .rem .i64 (.bin .add .i64 (.v 3) (.z 1)) (.z 3)) (.z 0))) (.cons (.vi .i64 (.v 15)) (.cons (.vi .i64 (.v 16)) (.cons (.vi .i64 (.v 17)) (.cons (.s (.v 18)) (.cons (.vi .i64 (.v 19)) (.cons (.s (.v 20)) .nil)))))))))) (.v 4) (.g (.cons (.vi .i64 (.v 21)) (.cons (.vb (.v 22)) (.cons (.vi .i64 (.bin .add .i64 (.bin .add .i64 (.v 3) (.z 1)) (.z 1))) (.cons (.vi .i64 (.v 24)) (.cons (.vi .i64 (.v 25)) (.cons (.s (.v 26)) (.cons (.vi .i64 (.v 27)) (.cons (.s (.v 28)) .nil)))))))))) (.v 4) (.g (.cons (.vi .i64 (.v 29)) (.cons (.vb (.v 30)) (.cons (.vi .i64 (.v 31)) (.cons (.vi .i64 (.bin .add .i64 (.bin .add .i64 (.bin .add .i64 (.v 3) (.z 1)) (.z 1)) (.z 1))) (.cons (.vi .i64 (.v 33)) (.cons (.s (.v 34)) (.cons (.vi .i64 (.v 35)) (.cons (.s (.v 36)) .nil)))))))))) (.v 4) (.g (.cons (.vi .i64 (.v 37)) (.cons (.vb (.v 38)) (.cons (.vi .i64 (.v 39)) (.cons (.vi .i64 (.v 40)) (.cons (.vi .i64 (.bin .add .i64 (.bin .add .i64 (.bin .add .i64 (.bin .add .i64 (.v 3) (.z 1)) (.z 1)) (.z 1)) (.z 1))) (.cons (.s (.v 42)) (.cons (.vi .i64 (.v 43)) (.cons (.s (.v 44)) .nil)))))))))) (.v 4) (.g [.i .i64, .b, .i .i64, .i .i64, .i .i64, .s, .i .i64, .s]) 45) <|
      .i (.call f_laws_markIntS [(.s (.v 50)), (.vi .i64 (.bin .add .i64 (.bin .add .i64 (.bin .add .i64 (.bin .add .i64 (.bin .add .i64 (.v 3) (.z 1)) (.z 1)) (.z 1)) (.z 1)) (.z 1)))] [.i .i64, .s] 53) <|
      .i (.chk (.cmp .eq (.len (.v 54)) (.len (.v 50)))) <|
      .i (.chk (.cmp .le (.z 0) (.v 4))) <|
      .i (.chk (.cmp .lt (.v 4) (.len (.v 2)))) <|
      .i (.idx (.set (.set (.set (.set (.set (.set (.v 2) (.v 4) (.g (.cons (.vi .i64 (.v 3)) (.cons (.vb (.v 6)) (.cons (.vi .i64 (.v 7)) (.cons (.vi .i64 (.v 8)) (.cons (.vi .i64 (.v 9)) (.cons (.s (.v 10)) (.cons (.vi .i64 (.v 11)) (.cons (.s (.v 12)) .nil)))))))))) (.v 4) (.g (.cons (.vi .i64 (.v 13)) (.cons (.vb (.cmp .eq (.bin .rem .i64 (.bin .add .i64 (.v 3) (.z 1)) (.z 3)) (.z 0))) (.cons (.vi .i64 (.v 15)) (.cons (.vi .i64 (.v 16)) (.cons (.vi .i64 (.v 17)) (.cons (.s (.v 18)) (.cons (.vi .i64 (.v 19)) (.cons (.s (.v 20)) .nil)))))))))) (.v 4) (.g (.cons (.vi .i64 (.v 21)) (.cons (.vb (.v 22)) (.cons (.vi .i64 (.bin .add .i64 (.bin .add .i64 (.v 3) (.z 1)) (.z 1))) (.cons (.vi .i64 (.v 24)) (.cons (.vi .i64 (.v 25)) (.cons (.s (.v 26)) (.cons (.vi .i64 (.v 27)) (.cons (.s (.v 28)) .nil)))))))))) (.v 4) (.g (.cons (.vi .i64 (.v 29)) (.cons (.vb (.v 30)) (.cons (.vi .i64 (.v 31)) (.cons (.vi .i64 (.bin .add .i64 (.bin .add .i64 (.bin .add .i64 (.v 3) (.z 1)) (.z 1)) (.z 1))) (.cons (.vi .i64 (.v 33)) (.cons (.s (.v 34)) (.cons (.vi .i64 (.v 35)) (.cons (.s (.v 36)) .nil)))))))))) (.v 4) (.g (.cons (.vi .i64 (.v 37)) (.cons (.vb (.v 38)) (.cons (.vi .i64 (.v 39)) (.cons (.vi .i64 (.v 40)) (.cons (.vi .i64 (.bin .add .i64 (.bin .add .i64 (.bin .add .i64 (.bin .add .i64 (.v 3) (.z 1)) (.z 1)) (.z 1)) (.z 1))) (.cons (.s (.v 42)) (.cons (.vi .i64 (.v 43)) (.cons (.s (.v 44)) .nil)))))))))) (.v 4) (.g (.cons (.vi .i64 (.v 45)) (.cons (.vb (.v 46)) (.cons (.vi .i64 (.v 47)) (.cons (.vi .i64 (.v 48)) (.cons (.vi .i64 (.v 49)) (.cons (.s (.v 54)) (.cons (.vi .i64 (.v 51)) (.cons (.s (.v 52)) .nil)))))))))) (.v 4) (.g [.i .i64, .b, .i .i64, .i .i64, .i .i64, .s, .i .i64, .s]) 55) <|
      .i (.chk (.cmp .le (.z 0) (.v 4))) <|
      .i (.chk (.cmp .lt (.v 4) (.len (.v 2)))) <|
      .i (.idx (.set (.set (.set (.set (.set (.set (.set (.v 2) (.v 4) (.g (.cons (.vi .i64 (.v 3)) (.cons (.vb (.v 6)) (.cons (.vi .i64 (.v 7)) (.cons (.vi .i64 (.v 8)) (.cons (.vi .i64 (.v 9)) (.cons (.s (.v 10)) (.cons (.vi .i64 (.v 11)) (.cons (.s (.v 12)) .nil)))))))))) (.v 4) (.g (.cons (.vi .i64 (.v 13)) (.cons (.vb (.cmp .eq (.bin .rem .i64 (.bin .add .i64 (.v 3) (.z 1)) (.z 3)) (.z 0))) (.cons (.vi .i64 (.v 15)) (.cons (.vi .i64 (.v 16)) (.cons (.vi .i64 (.v 17)) (.cons (.s (.v 18)) (.cons (.vi .i64 (.v 19)) (.cons (.s (.v 20)) .nil)))))))))) (.v 4) (.g (.cons (.vi .i64 (.v 21)) (.cons (.vb (.v 22)) (.cons (.vi .i64 (.bin .add .i64 (.bin .add .i64 (.v 3) (.z 1)) (.z 1))) (.cons (.vi .i64 (.v 24)) (.cons (.vi .i64 (.v 25)) (.cons (.s (.v 26)) (.cons (.vi .i64 (.v 27)) (.cons (.s (.v 28)) .nil)))))))))) (.v 4) (.g (.cons (.vi .i64 (.v 29)) (.cons (.vb (.v 30)) (.cons (.vi .i64 (.v 31)) (.cons (.vi .i64 (.bin .add .i64 (.bin .add .i64 (.bin .add .i64 (.v 3) (.z 1)) (.z 1)) (.z 1))) (.cons (.vi .i64 (.v 33)) (.cons (.s (.v 34)) (.cons (.vi .i64 (.v 35)) (.cons (.s (.v 36)) .nil)))))))))) (.v 4) (.g (.cons (.vi .i64 (.v 37)) (.cons (.vb (.v 38)) (.cons (.vi .i64 (.v 39)) (.cons (.vi .i64 (.v 40)) (.cons (.vi .i64 (.bin .add .i64 (.bin .add .i64 (.bin .add .i64 (.bin .add .i64 (.v 3) (.z 1)) (.z 1)) (.z 1)) (.z 1))) (.cons (.s (.v 42)) (.cons (.vi .i64 (.v 43)) (.cons (.s (.v 44)) .nil)))))))))) (.v 4) (.g (.cons (.vi .i64 (.v 45)) (.cons (.vb (.v 46)) (.cons (.vi .i64 (.v 47)) (.cons (.vi .i64 (.v 48)) (.cons (.vi .i64 (.v 49)) (.cons (.s (.v 54)) (.cons (.vi .i64 (.v 51)) (.cons (.s (.v 52)) .nil)))))))))) (.v 4) (.g (.cons (.vi .i64 (.v 55)) (.cons (.vb (.v 56)) (.cons (.vi .i64 (.v 57)) (.cons (.vi .i64 (.v 58)) (.cons (.vi .i64 (.v 59)) (.cons (.s (.v 60)) (.cons (.vi .i64 (.v 53)) (.cons (.s (.v 62)) .nil)))))))))) (.v 4) (.g [.i .i64, .b, .i .i64, .i .i64, .i .i64, .s, .i .i64, .s]) 63) <|
      .i (.call f_laws_markIntS [(.s (.v 70)), (.vi .i64 (.bin .add .i64 (.v 53) (.z 1)))] [.i .i64, .s] 71) <|
      .i (.chk (.cmp .eq (.len (.v 72)) (.len (.v 70)))) <|
      .next [(.set (.set (.set (.set (.set (.set (.set (.set (.v 2) (.v 4) (.g (.cons (.vi .i64 (.v 3)) (.cons (.vb (.v 6)) (.cons (.vi .i64 (.v 7)) (.cons (.vi .i64 (.v 8)) (.cons (.vi .i64 (.v 9)) (.cons (.s (.v 10)) (.cons (.vi .i64 (.v 11)) (.cons (.s (.v 12)) .nil)))))))))) (.v 4) (.g (.cons (.vi .i64 (.v 13)) (.cons (.vb (.cmp .eq (.bin .rem .i64 (.bin .add .i64 (.v 3) (.z 1)) (.z 3)) (.z 0))) (.cons (.vi .i64 (.v 15)) (.cons (.vi .i64 (.v 16)) (.cons (.vi .i64 (.v 17)) (.cons (.s (.v 18)) (.cons (.vi .i64 (.v 19)) (.cons (.s (.v 20)) .nil)))))))))) (.v 4) (.g (.cons (.vi .i64 (.v 21)) (.cons (.vb (.v 22)) (.cons (.vi .i64 (.bin .add .i64 (.bin .add .i64 (.v 3) (.z 1)) (.z 1))) (.cons (.vi .i64 (.v 24)) (.cons (.vi .i64 (.v 25)) (.cons (.s (.v 26)) (.cons (.vi .i64 (.v 27)) (.cons (.s (.v 28)) .nil)))))))))) (.v 4) (.g (.cons (.vi .i64 (.v 29)) (.cons (.vb (.v 30)) (.cons (.vi .i64 (.v 31)) (.cons (.vi .i64 (.bin .add .i64 (.bin .add .i64 (.bin .add .i64 (.v 3) (.z 1)) (.z 1)) (.z 1))) (.cons (.vi .i64 (.v 33)) (.cons (.s (.v 34)) (.cons (.vi .i64 (.v 35)) (.cons (.s (.v 36)) .nil)))))))))) (.v 4) (.g (.cons (.vi .i64 (.v 37)) (.cons (.vb (.v 38)) (.cons (.vi .i64 (.v 39)) (.cons (.vi .i64 (.v 40)) (.cons (.vi .i64 (.bin .add .i64 (.bin .add .i64 (.bin .add .i64 (.bin .add .i64 (.v 3) (.z 1)) (.z 1)) (.z 1)) (.z 1))) (.cons (.s (.v 42)) (.cons (.vi .i64 (.v 43)) (.cons (.s (.v 44)) .nil)))))))))) (.v 4) (.g (.cons (.vi .i64 (.v 45)) (.cons (.vb (.v 46)) (.cons (.vi .i64 (.v 47)) (.cons (.vi .i64 (.v 48)) (.cons (.vi .i64 (.v 49)) (.cons (.s (.v 54)) (.cons (.vi .i64 (.v 51)) (.cons (.s (.v 52)) .nil)))))))))) (.v 4) (.g (.cons (.vi .i64 (.v 55)) (.cons (.vb (.v 56)) (.cons (.vi .i64 (.v 57)) (.cons (.vi .i64 (.v 58)) (.cons (.vi .i64 (.v 59)) (.cons (.s (.v 60)) (.cons (.vi .i64 (.v 53)) (.cons (.s (.v 62)) .nil)))))))))) (.v 4) (.g (.cons (.vi .i64 (.v 63)) (.cons (.vb (.v 64)) (.cons (.vi .i64 (.v 65)) (.cons (.vi .i64 (.v 66)) (.cons (.vi .i64 (.v 67)) (.cons (.s (.v 68)) (.cons (.vi .i64 (.v 69)) (.cons (.s (.v 72)) .nil)))))))))), (.v 71), (.bin .add .i64 (.v 4) (.z 1))])
     (
      .esc <|
      .done [(.vi .i64 (.v 3)), (.s (.v 2))])
/-- laws_markMsgMsgS -/
def R_laws_markMsgMsgS : R :=
  .loop 2 [(.v 0), (.v 1), (.z 0)] <|
    .ite (.cmp .lt (.v 4) (.len (.v 2)))
     (
      .i (.chk (.cmp .le (.z 0) (.v 4))) <|
      .i (.chk (.cmp .lt (.v 4) (.len (.v 2)))) <|
      .i (.idx (.v 2) (.v 4) (.g [.i .i64, .i .i64, .i .i64, .i .i64, .i .i64, .i .i64, .i .i64, .s, .s, .s, .s]) 5) <|
      .i (.chk (.cmp .le (.z 0) (.v 4))) <|
      .i (.chk (.cmp .lt (.v 4) (.len (.v 2)))) <|
      .i (.idx (.set (.v 2) (.v 4) (.g (.cons (.vi .i64 (.v 3)) (.cons (.vi .i64 (.v 6)) (.cons (.vi .i64 (.v 7)) (.cons (.vi .i64 (.v 8)) (.cons (.vi .i64 (.v 9)) (.cons (.vi .i64 (.v 10)) (.cons (.vi .i64 (.v 11)) (.cons (.s (.v 12)) (.cons (.s (.v 13)) (.cons (.s (.v 14)) (.cons (.s (.v 15)) .nil))))))))))))) (.v 4) (.g [.i .i64, .i .i64, .i .i64, .i .i64, .i .i64, .i .i64, .i .i64, .s, .s, .s, .s]) 16) <|
      .i (.chk (.cmp .le (.z 0) (.v 4))) <|
      .i (.chk (.cmp .lt (.v 4) (.len (.v 2)))) <|
      .i (.idx (.set (.set (.v 2) (.v 4) (.g (.cons (.vi .i64 (.v 3)) (.cons (.vi .i64 (.v 6)) (.cons (.vi .i64 (.v 7)) (.cons (.vi .i64 (.v 8)) (.cons (.vi .i64 (.v 9)) (.cons (.vi .i64 (.v 10)) (.cons (.vi .i64 (.v 11)) (.cons (.s (.v 12)) (.cons (.s (.v 13)) (.cons (.s (.v 14)) (.cons (.s (.v 15)) .nil))))))))))))) (.v 4) (.g (.cons (.vi .i64 (.v 16)) (.cons (.vi .i64 (.bin .add .i64 (.v 3) (.z 1))) (.cons (.vi .i64 (.v 18)) (.cons (.vi .i64 (.v 19)) (.cons (.vi .i64 (.v 20)) (.cons (.vi .i64 (.v 21)) (.cons (.vi .i64 (.v 22)) (.cons (.s (.v 23)) (.cons (.s (.v 24)) (.cons (.s (.v 25)) (.cons (.s (.v 26)) .nil))))))))))))) (.v 4) (.g [.i .i64, .i .i64, .i .i64, .i .i64, .i .i64, .i .i64, .i .i64, .s, .s, .s, .s]) 27) <|
      .i (.chk (.cmp .le (.z 0) (.v 4))) <|
      .i (.chk (.cmp .lt (.v 4) (.len (.v 2)))) <|
      .i (.idx (.set (.set (.set (.v 2) (.v 4) (.g (.cons (.vi .i64 (.v 3)) (.cons (.vi .i64 (.v 6)) (.cons (.vi .i64 (.v 7)) (.cons (.vi .i64 (.v 8)) (.cons (.vi .i64 (.v 9)) (.cons (.vi .i64 (.v 10)) (.cons (.vi .i64 (.v 11)) (.cons (.s (.v 12)) (.cons (.s (.v 13)) (.cons (.s (.v 14)) (.cons (.s (.v 15)) .nil))))))))))))) (.v 4) (.g (.cons (.vi .i64 (.v 16)) (.cons (.vi .i64 (.bin .add .i64 (.v 3) (.z 1))) (.cons (.vi .i64 (.v 18)) (.cons (.vi .i64 (.v 19)) (.cons (.vi .i64 (.v 20)) (.cons (.vi .i64 (.v 21)) (.cons (.vi .i64 (.v 22)) (.cons (.s (.v 23)) (.cons (.s (.v 24)) (.cons (.s (.v 25)) (.cons (.s (.v 26)) .nil))))))))))))) (.v 4) (.g (.cons (.vi .i64 (.v 27)) (.cons (.vi .i64 (.v 28)) (.cons (.vi .i64 (.bin .add .i64 (.bin .add .i64 (.v 3) (.z 1)) (.z 1))) (.cons (.vi .i64 (.v 30)) (.cons (.vi .i64 (.v 31)) (.cons (.vi .i64 (.v 32)) (.cons (.vi .i64 (.v 33)) (.cons (.s (.v 34)) (.cons (.s (.v 35)) (.cons (.s (.v 36)) (.cons (.s (.v 37)) .nil))))))))))))) (.v 4) (.g [.i .i64, .i .i64, .i .i64, .i .i64, .i .i64, .i .i64, .i .i64, .s, .s, .s, .s]) 38) <|
      .i (.chk (.cmp .le (.z 0) (.v 4))) <|
      .i (.chk (.cmp .lt (.v 4) (.len (.v 2)))) <|
      .i (.idx (.set (.set (.set (.set (.v 2) (.v 4) (.g (.cons (.vi .i64 (.v 3)) (.cons (.vi .i64 (.v 6)) (.cons (.vi .i64 (.v 7)) (.cons (.vi .i64 (.v 8)) (.cons (.vi .i64 (.v 9)) (.cons (.vi .i64 (.v 10)) (.cons (.vi .i64 (.v 11)) (.cons (.s (.v 12)) (.cons (.s (.v 13)) (.cons (.s (.v 14)) (.cons (.s (.v 15)) .nil))))))))))))) (.v 4) (.g (.cons (.vi .i64 (.v 16)) (.cons (.vi .i64 (.bin .add .i64 (.v 3) (.z 1))) (.cons (.vi .i64 (.v 18)) (.cons (.vi .i64 (.v 19)) (.cons (.vi .i64 (.v 20)) (.cons (.vi .i64 (.v 21)) (.cons (.vi .i64 (.v 22)) (.cons (.s (.v 23)) (.cons (.s (.v 24)) (.cons (.s (.v 25)) (.cons (.s (.v 26)) .nil))))))))))))) (.v 4) (.g (.cons (.vi .i64 (.v 27)) (.cons (.vi .i64 (.v 28)) (.cons (.vi .i64 (.bin .add .i64 (.bin .add .i64 (.v 3) (.z 1)) (.z 1))) (.cons (.vi .i64 (.v 30)) (.cons (.vi .i64 (.v 31)) (.cons (.vi .i64 (.v 32)) (.cons (.vi .i64 (.v 33)) (.cons (.s (.v 34)) (.cons (.s (.v 35)) (.cons (.s (.v 36)) (.cons (.s (.v 37)) .nil))))))))))))) (.v 4) (.g (.cons (.vi .i64 (.v 38)) (.cons (.vi .i64 (.v 39)) (.cons (.vi .i64 (.v 40)) (.cons (.vi .i64 (.bin .add .i64 (.bin .add .i64 (.bin .add .i64 (.v 3) (.z 1)) (.z 1)) (.z 1))) (.cons (.vi .i64 (.v 42)) (.cons (.vi .i64 (.v 43)) (.cons (.vi .i64 (.v 44)) (.cons (.s (.v 45)) (.cons (.s (.v 46)) (.cons (.s (.v 47)) (.cons (.s (.v 48)) .nil))))))))))))) (.v 4) (.g [.i .i64, .i .i64, .i .i64, .i .i64, .i .i64, .i .i64, .i .i64, .s, .s, .s, .s]) 49) <|
      .i (.chk (.cmp .le (.z 0) (.v 4))) <|
      .i (.chk (.cmp .lt (.v 4) (.len (.v 2)))) <|
      .i (.idx (.set (.set (.set (.set (.set (.v 2) (.v 4) (.g (.cons (.vi .i64 (.v 3)) (.cons (.vi .i64 (.v 6)) (.cons (.vi .i64 (.v 7)) (.cons (.vi .i64 (.v 8)) (.cons (.vi .i64 (.v 9)) (.cons (.vi .i64 (.v 10)) (.cons (.vi .i64 (.v 11)) (.cons (.s (.v 12)) (.cons (.s (.v 13)) (.cons (.s (.v 14)) (.cons (.s (.v 15)) .nil))))))))))))) (.v 4) (.g (.cons (.vi .i64 (.v 16)) (.cons (.vi .i64 (.bin .add .i64 (.v 3) (.z 1))) (.cons (.vi .i64 (.v 18)) (.cons (.vi .i64 (.v 19)) (.cons (.vi .i64 (.v 20)) (.cons (.vi .i64 (.v 21)) (.cons (.vi .i64 (.v 22)) (.cons (.s (.v 23)) (.cons (.s (.v 24)) (.cons (.s (.v 25)) (.cons (.s (.v 26)) .nil))))))))))))) (.v 4) (.g (.cons (.vi .i64 (.v 27)) (.cons (.vi .i64 (.v 28)) (.cons (.vi .i64 (.bin .add .i64 (.bin .add .i64 (.v 3) (.z 1)) (.z 1))) (.cons (.vi .i64 (.v 30)) (.cons (.vi .i64 (.v 31)) (.cons (.vi .i64 (.v 32)) (.cons (.vi .i64 (.v 33)) (.cons (.s (.v 34)) (.cons (.s (.v 35)) (.cons (.s (.v 36)) (.cons (.s (.v 37)) .nil))))))))))))) (.v 4) (.g (.cons (.vi .i64 (.v 38)) (.cons (.vi .i64 (.v 39)) (.cons (.vi .i64 (.v 40)) (.cons (.vi .i64 (.bin .add .i64 (.bin .add .i64 (.bin .add .i64 (.v 3) (.z 1)) (.z 1)) (.z 1))) (.cons (.vi .i64 (.v 42)) (.cons (.vi .i64 (.v 43)) (.cons (.vi .i64 (.v 44)) (.cons (.s (.v 45)) (.cons (.s (.v 46)) (.cons (.s (.v 47)) (.cons (.s (.v 48)) .nil))))))))))))) (.v 4) (.g (.cons (.vi .i64 (.v 49)) (.cons (.vi .i64 (.v 50)) (.cons (.vi .i64 (.v 51)) (.cons (.vi .i64 (.v 52)) (.cons (.vi .i64 (.bin .add .i64 (.bin .add .i64 (.bin .add .i64 (.bin .add .i64 (.v 3) (.z 1)) (.z 1)) (.z 1)) (.z 1))) (.cons (.vi .i64 (.v 54)) (.cons (.vi .i64 (.v 55)) (.cons (.s (.v 56)) (.cons (.s (.v 57)) (.cons (.s (.v 58)) (.cons (.s (.v 59)) .nil))))))))))))) (.v 4) (.g [.i .i64, .i .i64, .i .i64, .i .i64, .i .i64, .i .i64, .i .i64, .s, .s, .s, .s]) 60) <|
      .i (.chk (.cmp .le (.z 0) (.v 4))) <|
      .i (.chk (.cmp .lt (.v 4) (.len (.v 2)))) <|
      .i (.idx (.set (.set (.set (.set (.set (.set (.v 2) (.v 4) (.g (.cons (.vi .i64 (.v 3)) (.cons (.vi .i64 (.v 6)) (.cons (.vi .i64 (.v 7)) (.cons (.vi .i64 (.v 8)) (.cons (.vi .i64 (.v 9)) (.cons (.vi .i64 (.v 10)) (.cons (.vi .i64 (.v 11)) (.cons (.s (.v 12)) (.cons (.s (.v 13)) (.cons (.s (.v 14)) (.cons (.s (.v 15)) .nil))))))))))))) (.v 4) (.g (.cons (.vi .i64 (.v 16)) (.cons (.vi .i64 (.bin .add .i64 (.v 3) (.z 1))) (.cons (.vi .i64 (.v 18)) (.cons (.vi .i64 (.v 19)) (.cons (.vi .i64 (.v 20)) (.cons (.vi .i64 (.v 21)) (.cons (.vi .i64 (.v 22)) (.cons (.s (.v 23)) (.cons (.s (.v 24)) (.cons (.s (.v 25)) (.cons (.s (.v 26)) .nil))))))))))))) (.v 4) (.g (.cons (.vi .i64 (.v 27)) (.cons (.vi .i64 (.v 28)) (.cons (.vi .i64 (.bin .add .i64 (.bin .add .i64 (.v 3) (.z 1)) (.z 1))) (.cons (.vi .i64 (.v 30)) (.cons (.vi .i64 (.v 31)) (.cons (.vi .i64 (.v 32)) (.cons (.vi .i64 (.v 33)) (.cons (.s (.v 34)) (.cons (.s (.v 35)) (.cons (.s (.v 36)) (.cons (.s (.v 37)) .nil))))))))))))) (.v 4) (.g (.cons (.vi .i64 (.v 38)) (.cons (.vi .i64 (.v 39)) (.cons (.vi .i64 (.v 40)) (.cons (.vi .i64 (.bin .add .i64 (.bin .add .i64 (.bin .add .i64 (.v 3) (.z 1)) (.z 1)) (.z 1))) (.cons (.vi .i64 (.v 42)) (.cons (.vi .i64 (.v 43)) (.cons (.vi .i64 (.v 44)) (.cons (.s (.v 45)) (.cons (.s (.v 46)) (.cons (.s (.v 47)) (.cons (.s (.v 48)) .nil))))))))))))) (.v 4) (.g (.cons (.vi .i64 (.v 49)) (.cons (.vi .i64 (.v 50)) (.cons (.vi .i64 (.v 51)) (.cons (.vi .i64 (.v 52)) (.cons (.vi .i64 (.bin .add .i64 (.bin .add .i64 (.bin .add .i64 (.bin .add .i64 (.v 3) (.z 1)) (.z 1)) (.z 1)) (.z 1))) (.cons (.vi .i64 (.v 54)) (.cons (.vi .i64 (.v 55)) (.cons (.s (.v 56)) (.cons (.s (.v 57)) (.cons (.s (.v 58)) (.cons (.s (.v 59)) .nil))))))))))))) (.v 4) (.g (.cons (.vi .i64 (.v 60)) (.cons (.vi .i64 (.v 61)) (.cons (.vi .i64 (.v 62)) (.cons (.vi .i64 (.v 63)) (.cons (.vi .i64 (.v 64)) (.cons (.vi .i64 (.bin .add .i64 (.bin .add .i64 (.bin .add .i64 (.bin .add .i64 (.bin .add .i64 (.v 3) (.z 1)) (.z 1)) (.z 1)) (.z 1)) (.z 1))) (.cons (.vi .i64 (.v 66)) (.cons (.s (.v 67)) (.cons (.s (.v 68)) (.cons (.s (.v 69)) (.cons (.s (.v 70)) .nil))))))))))))) (.v 4) (.g [.i .i64, .i .i64, .i .i64, .i .i64, .i .i64, .i .i64, .i .i64, .s, .s, .s, .s]) 71) <|
      .i (.chk (.cmp .le (.z 0) (.v 4))) <|
      .i (.chk (.cmp .lt (.v 4) (.len (.v 2)))) <|
      .i (.idx (.set (.set (.set (.set (.set (.set (.set (.v 2) (.v 4) (.g (.cons (.vi .i64 (.v 3)) (.cons (.vi .i64 (.v 6)) (.cons (.vi .i64 (.v 7)) (.cons (.vi .i64 (.v 8)) (.cons (.vi .i64 (.v 9)) (.cons (.vi .i64 (.v 10)) (.cons (.vi .i64 (.v 11)) (.cons (.s (.v 12)) (.cons (.s (.v 13)) (.cons (.s (.v 14)) (.cons (.s (.v 15)) .nil))))))))))))) (.v 4) (.g (.cons (.vi .i64 (.v 16)) (.cons (.vi .i64 (.bin .add .i64 (.v 3) (.z 1))) (.cons (.vi .i64 (.v 18)) (.cons (.vi .i64 (.v 19)) (.cons (.vi .i64 (.v 20)) (.cons (.vi .i64 (.v 21)) (.cons (.vi .i64 (.v 22)) (.cons (.s (.v 23)) (.cons (.s (.v 24)) (.cons (.s (.v 25)) (.cons (.s (.v 26)) .nil))))))))))))) (.v 4) (.g (.cons (.vi .i64 (.v 27)) (.cons (.vi .i64 (.v 28)) (.cons (.vi .i64 (.bin .add .i64 (.bin .add .i64 (.v 3) (.z 1)) (.z 1))) (.cons (.vi .i64 (.v 30)) (.cons (.vi .i64 (.v 31)) (.cons (.vi .i64 (.v 32)) (.cons (.vi .i64 (.v 33)) (.cons (.s (.v 34)) (.cons (.s (.v 35)) (.cons (.s (.v 36)) (.cons (.s (.v 37)) .nil))))))))))))) (.v 4) (.g (.cons (.vi .i64 (.v 38)) (.cons (.vi .i64 (.v 39)) (.cons (.vi .i64 (.v 40)) (.cons (.vi .i64 (.bin .add .i64 (.bin .add .i64 (.bin .add .i64 (.v 3) (.z 1)) (.z 1)) (.z 1))) (.cons (.vi .i64 (.v 42)) (.cons (.vi .i64 (.v 43)) (.cons (.vi .i64 (.v 44)) (.cons (.s (.v 45)) (.cons (.s (.v 46)) (.cons (.s (.v 47)) (.cons (.s (.v 48)) .nil))))))))))))) (.v 4) (.g (.cons (.vi .i64 (.v 49)) (.cons (.vi .i64 (.v 50)) (.cons (.vi .i64 (.v 51)) (.cons (.vi .i64 (.v 52)) (.cons (.vi .i64 (.bin .add .i64 (.bin .add .i64 (.bin .add .i64 (.bin .add .i64 (.v 3) (.z 1)) (.z 1)) (.z 1)) (.z 1))) (.cons (.vi .i64 (.v 54)) (.cons (.vi .i64 (.v 55)) (.cons (.s (.v 56)) (.cons (.s (.v 57)) (.cons (.s (.v 58)) (.cons (.s (.v 59)) .nil))))))))))))) (.v 4) (.g (.cons (.vi .i64 (.v 60)) (.cons (.vi .i64 (.v 61)) (.cons (.vi .i64 (.v 62)) (.cons (.vi .i64 (.v 63)) (.cons (.vi .i64 (.v 64)) (.cons (.vi .i64 (.bin .add .i64 (.bin .add .i64 (.bin .add .i64 (.bin .add .i64 (.bin .add .i64 (.v 3) (.z 1)) (.z 1)) (.z 1)) (.z 1)) (.z 1))) (.cons (.vi .i64 (.v 66)) (.cons (.s (.v 67)) (.cons (.s (.v 68)) (.cons (.s (.v 69)) (.cons (.s (.v 70)) .nil))))))))))))) (.v 4) (.g (.cons (.vi .i64 (.v 71)) (.cons (.vi .i64 (.v 72)) (.cons (.vi .i64 (.v 73)) (.cons (.vi .i64 (.v 74)) (.cons (.vi .i64 (.v 75)) (.cons (.vi .i64 (.v 76)) (.cons (.vi .i64 (.bin .add .i64 (.bin .add .i64 (.bin .add .i64 (.bin .add .i64 (.bin .add .i64 (.bin .add .i64 (.v 3) (.z 1)) (.z 1)) (.z 1)) (.z 1)) (.z 1)) (.z 1))) (.cons (.s (.v 78)) (.cons (.s (.v 79)) (.cons (.s (.v 80)) (.cons (.s (.v 81)) .nil))))))))))))) (.v 4) (.g [.i .i64, .i .i64, .i .i64, .i .i64, .i .i64, .i .i64, .i .i64, .s, .s, .s, .s]) 82) <|
      .i (.call f_laws_markIntS [(.s (.v 89)), (.vi .i64 (.bin .add .i64 (.bin .add .i64 (.bin .add .i64 (.bin .add .i64 (.bin .add .i64 (.bin .add .i64 (.bin .add .i64 (.v 3) (.z 1)) (.z 1)) (.z 1)) (.z 1)) (.z 1)) (.z 1)) (.z 1)))] [.i .i64, .s] 93) <|
      .i (.chk (.cmp .eq (.len (.v 94)) (.len (.v 89)))) <|
      .i (.chk (.cmp .le (.z 0) (.v 4))) <|
      .i (.chk (.cmp .lt (.v 4) (.len (.v 2)))) <|
      .i (.idx (.set (.set (.set (.set (.set (.set (.set (.set (.v 2) (.v 4) (.g (.cons (.vi .i64 (.v 3)) (.cons (.vi .i64 (.v 6)) (.cons (.vi .i64 (.v 7)) (.cons (.vi .i64 (.v 8)) (.cons (.vi .i64 (.v 9)) (.cons (.vi .i64 (.v 10)) (.cons (.vi .i64 (.v 11)) (.cons (.s (.v 12)) (.cons (.s (.v 13)) (.cons (.s (.v 14)) (.cons (.s (.v 15)) .nil))))))))))))) (.v 4) (.g (.cons (.vi .i64 (.v 16)) (.cons (.vi .i64 (.bin .add .i64 (.v 3) (.z 1))) (.cons (.vi .i64 (.v 18)) (.cons (.vi .i64 (.v 19)) (.cons (.vi .i64 (.v 20)) (.cons (.vi .i64 (.v 21)) (.cons (.vi .i64 (.v 22)) (.cons (.s (.v 23)) (.cons (.s (.v 24)) (.cons (.s (.v 25)) (.cons (.s (.v 26)) .nil))))))))))))) (.v 4) (.g (.cons (.vi .i64 (.v 27)) (.cons (.vi .i64 (.v 28)) (.cons (.vi .i64 (.bin .add .i64 (.bin .add .i64 (.v 3) (.z 1)) (.z 1))) (.cons (.vi .i64 (.v 30)) (.cons (.vi .i64 (.v 31)) (.cons (.vi .i64 (.v 32)) (.cons (.vi .i64 (.v 33)) (.cons (.s (.v 34)) (.cons (.s (.v 35)) (.cons (.s (.v 36)) (.cons (.s (.v 37)) .nil))))))))))))) (.v 4) (.g (.cons (.vi .i64 (.v 38)) (.cons (.vi .i64 (.v 39)) (.cons (.vi .i64 (.v 40)) (.cons (.vi .i64 (.bin .add .i64 (.bin .add .i64 (.bin .add .i64 (.v 3) (.z 1)) (.z 1)) (.z 1))) (.cons (.vi .i64 (.v 42)) (.cons (.vi .i64 (.v 43)) (.cons (.vi .i64 (.v 44)) (.cons (.s (.v 45)) (.cons (.s (.v 46)) (.cons (.s (.v 47)) (.cons (.s (.v 48)) .nil))))))))))))) (.v 4) (.g (.cons (.vi .i64 (.v 49)) (.cons (.vi .i64 (.v 50)) (.cons (.vi .i64 (.v 51)) (.cons (.vi .i64 (.v 52)) (.cons (.vi .i64 (.bin .add .i64 (.bin .add .i64 (.bin .add .i64 (.bin .add .i64 (.v 3) (.z 1)) (.z 1)) (.z 1)) (.z 1))) (.cons (.vi .i64 (.v 54)) (.cons (.vi .i64 (.v 55)) (.cons (.s (.v 56)) (.cons (.s (.v 57)) (.cons (.s (.v 58)) (.cons (.s (.v 59)) .nil))))))))))))) (.v 4) (.g (.cons (.vi .i64 (.v 60)) (.cons (.vi .i64 (.v 61)) (.cons (.vi .i64 (.v 62)) (.cons (.vi .i64 (.v 63)) (.cons (.vi .i64 (.v 64)) (.cons (.vi .i64 (.bin .add .i64 (.bin .add .i64 (.bin .add .i64 (.bin .add .i64 (.bin .add .i64 (.v 3) (.z 1)) (.z 1)) (.z 1)) (.z 1)) (.z 1))) (.cons (.vi .i64 (.v 66)) (.cons (.s (.v 67)) (.cons (.s (.v 68)) (.cons (.s (.v 69)) (.cons (.s (.v 70)) .nil))))))))))))) (.v 4) (.g (.cons (.vi .i64 (.v 71)) (.cons (.vi .i64 (.v 72)) (.cons (.vi .i64 (.v 73)) (.cons (.vi .i64 (.v 74)) (.cons (.vi .i64 (.v 75)) (.cons (.vi .i64 (.v 76)) (.cons (.vi .i64 (.bin .add .i64 (.bin .add .i64 (.bin .add .i64 (.bin .add .i64 (.bin .add .i64 (.bin .add .i64 (.v 3) (.z 1)) (.z 1)) (.z 1)) (.z 1)) (.z 1)) (.z 1))) (.cons (.s (.v 78)) (.cons (.s (.v 79)) (.cons (.s (.v 80)) (.cons (.s (.v 81)) .nil))))))))))))) (.v 4) (.g (.cons (.vi .i64 (.v 82)) (.cons (.vi .i64 (.v 83)) (.cons (.vi .i64 (.v 84)) (.cons (.vi .i64 (.v 85)) (.cons (.vi .i64 (.v 86)) (.cons (.vi .i64 (.v 87)) (.cons (.vi .i64 (.v 88)) (.cons (.s (.v 94)) (.cons (.s (.v 90)) (.cons (.s (.v 91)) (.cons (.s (.v 92)) .nil))))))))))))) (.v 4) (.g [.i .i64, .i .i64, .i .i64, .i .i64, .i .i64, .i .i64, .i .i64, .s, .s, .s, .s]) 95) <|
      .i (.call f_laws_markIntS [(.s (.v 103)), (.vi .i64 (.v 93))] [.i .i64, .s] 106) <|
      .i (.chk (.cmp .eq (.len (.v 107)) (.len (.v 103)))) <|
      .i (.chk (.cmp .le (.z 0) (.v 4))) <|
      .i (.chk (.cmp .lt (.v 4) (.len (.v 2)))) <|
      .i (.idx (.set (.set (.set (.set (.set (.set (.set (.set (.set (.v 2) (.v 4) (.g (.cons (.vi .i64 (.v 3)) (.cons (.vi .i64 (.v 6)) (.cons (.vi .i64 (.v 7)) (.cons (.vi .i64 (.v 8)) (.cons (.vi .i64 (.v 9)) (.cons (.vi .i64 (.v 10)) (.cons (.vi .i64 (.v 11)) (.cons (.s (.v 12)) (.cons (.s (.v 13)) (.cons (.s (.v 14)) (.cons (.s (.v 15)) .nil))))))))))))) (.v 4) (.g (.cons (.vi .i64 (.v 16)) (.cons (.vi .i64 (.bin .add .i64 (.v 3) (.z 1))) (.cons (.vi .i64 (.v 18)) (.cons (.vi .i64 (.v 19)) (.cons (.vi .i64 (.v 20)) (.cons (.vi .i64 (.v 21)) (.cons (.vi .i64 (.v 22)) (.cons (.s (.v 23)) (.cons (.s (.v 24)) (.cons (.s (.v 25)) (.cons (.s (.v 26)) .nil))))))))))))) (.v 4) (.g (.cons (.vi .i64 (.v 27)) (.cons (.vi .i64 (.v 28)) (.cons (.vi .i64 (.bin .add .i64 (.bin .add .i64 (.v 3) (.z 1)) (.z 1))) (.cons (.vi .i64 (.v 30)) (.cons (.vi .i64 (.v 31)) (.cons (.vi .i64 (.v 32)) (.cons (.vi .i64 (.v 33)) (.cons (.s (.v 34)) (.cons (.s (.v 35)) (.cons (.s (.v 36)) (.cons (.s (.v 37)) .nil))))))))))))) (.v 4) (.g (.cons (.vi .i64 (.v 38)) (.cons (.vi .i64 (.v 39)) (.cons (.vi .i64 (.v 40)) (.cons (.vi .i64 (.bin .add .i64 (.bin .add .i64 (.bin .add .i64 (.v 3) (.z 1)) (.z 1)) (.z 1))) (.cons (.vi .i64 (.v 42)) (.cons (.vi .i64 (.v 43)) (.cons (.vi .i64 (.v 44)) (.cons (.s (.v 45)) (.cons (.s (.v 46)) (.cons (.s (.v 47)) (.cons (.s (.v 48)) .nil))))))))))))) (.v 4) (.g (.cons (.vi .i64 (.v 49)) (.cons (.vi .i64 (.v 50)) (.cons (.vi .i64 (.v 51)) (.cons (.vi .i64 (.v 52)) (.cons (.vi .i64 (.bin .add .i64 (.bin .add .i64 (.bin .add .i64 (.bin .add .i64 (.v 3) (.z 1)) (.z 1)) (.z 1)) (.z 1))) (.cons (.vi .i64 (.v 54)) (.cons (.vi .i64 (.v 55)) (.cons (.s (.v 56)) (.cons (.s (.v 57)) (.cons (.s (.v 58)) (.cons (.s (.v 59)) .nil))))))))))))) (.v 4) (.g (.cons (.vi .i64 (.v 60)) (.cons (.vi .i64 (.v 61)) (.cons (.vi .i64 (.v 62)) (.cons (.vi .i64 (.v 63)) (.cons (.vi .i64 (.v 64)) (.cons (.vi .i64 (.bin .add .i64 (.bin .add .i64 (.bin .add .i64 (.bin .add .i64 (.bin .add .i64 (.v 3) (.z 1)) (.z 1)) (.z 1)) (.z 1)) (.z 1))) (.cons (.vi .i64 (.v 66)) (.cons (.s (.v 67)) (.cons (.s (.v 68)) (.cons (.s (.v 69)) (.cons (.s (.v 70)) .nil))))))))))))) (.v 4) (.g (.cons (.vi .i64 (.v 71)) (.cons (.vi .i64 (.v 72)) (.cons (.vi .i64 (.v 73)) (.cons (.vi .i64 (.v 74)) (.cons (.vi .i64 (.v 75)) (.cons (.vi .i64 (.v 76)) (.cons (.vi .i64 (.bin .add .i64 (.bin .add .i64 (.bin .add .i64 (.bin .add .i64 (.bin .add .i64 (.bin .add .i64 (.v 3) (.z 1)) (.z 1)) (.z 1)) (.z 1)) (.z 1)) (.z 1))) (.cons (.s (.v 78)) (.cons (.s (.v 79)) (.cons (.s (.v 80)) (.cons (.s (.v 81)) .nil))))))))))))) (.v 4) (.g (.cons (.vi .i64 (.v 82)) (.cons (.vi .i64 (.v 83)) (.cons (.vi .i64 (.v 84)) (.cons (.vi .i64 (.v 85)) (.cons (.vi .i64 (.v 86)) (.cons (.vi .i64 (.v 87)) (.cons (.vi .i64 (.v 88)) (.cons (.s (.v 94)) (.cons (.s (.v 90)) (.cons (.s (.v 91)) (.cons (.s (.v 92)) .nil))))))))))))) (.v 4) (.g (.cons (.vi .i64 (.v 95)) (.cons (.vi .i64 (.v 96)) (.cons (.vi .i64 (.v 97)) (.cons (.vi .i64 (.v 98)) (.cons (.vi .i64 (.v 99)) (.cons (.vi .i64 (.v 100)) (.cons (.vi .i64 (.v 101)) (.cons (.s (.v 102)) (.cons (.s (.v 107)) (.cons (.s (.v 104)) (.cons (.s (.v 105)) .nil))))))))))))) (.v 4) (.g [.i .i64, .i .i64, .i .i64, .i .i64, .i .i64, .i .i64, .i .i64, .s, .s, .s, .s]) 108) <|
      .i (.call f_laws_markIntS [(.s (.v 117)), (.vi .i64 (.v 106))] [.i .i64, .s] 119) <|
      .i (.chk (.cmp .eq (.len (.v 120)) (.len (.v 117)))) <|
      .i (.chk (.cmp .le (.z 0) (.v 4))) <|
      .i (.chk (.cmp .lt (.v 4) (.len (.v 2)))) <|
      .i (.idx (.set (.set (.set (.set (.set (.set (.set (.set (.set (.set (.v 2) (.v 4) (.g (.cons (.vi .i64 (.v 3)) (.cons (.vi .i64 (.v 6)) (.cons (.vi .i64 (.v 7)) (.cons (.vi .i64 (.v 8)) (.cons (.vi .i64 (.v 9)) (.cons (.vi .i64 (.v 10)) (.cons (.vi .i64 (.v 11)) (.cons (.s (.v 12)) (.cons (.s (.v 13)) (.cons (.s (.v 14)) (.cons (.s (.v 15)) .nil))))))))))))) (.v 4) (.g (.cons (.vi .i64 (.v 16)) (.cons (.vi .i64 (.bin .add .i64 (.v 3) (.z 1))) (.cons (.vi .i64 (.v 18)) (.cons (.vi .i64 (.v 19)) (.cons (.vi .i64 (.v 20)) (.cons (.vi .i64 (.v 21)) (.cons (.vi .i64 (.v 22)) (.cons (.s (.v 23)) (.cons (.s (.v 24)) (.cons (.s (.v 25)) (.cons (.s (.v 26)) .nil))))))))))))) (.v 4) (.g (.cons (.vi .i64 (.v 27)) (.cons (.vi .i64 (.v 28)) (.cons (.vi .i64 (.bin .add .i64 (.bin .add .i64 (.v 3) (.z 1)) (.z 1))) (.cons (.vi .i64 (.v 30)) (.cons (.vi .i64 (.v 31)) (.cons (.vi .i64 (.v 32)) (.cons (.vi .i64 (.v 33)) (.cons (.s (.v 34)) (.cons (.s (.v 35)) (.cons (.s (.v 36)) (.cons (.s (.v 37)) .nil))))))))))))) (.v 4) (.g (.cons (.vi .i64 (.v 38)) (.cons (.vi .i64 (.v 39)) (.cons (.vi .i64 (.v 40)) (.cons (.vi .i64 (.bin .add .i64 (.bin .add .i64 (.bin .add .i64 (.v 3) (.z 1)) (.z 1)) (.z 1))) (.cons (.vi .i64 (.v 42)) (.cons (.vi .i64 (.v 43)) (.cons (.vi .i64 (.v 44)) (.cons (.s (.v 45)) (.cons (.s (.v 46)) (.cons (.s (.v 47)) (.cons (.s (.v 48)) .nil))))))))))))) (.v 4) (.g (.cons (.vi .i64 (.v 49)) (.cons (.vi .i64 (.v 50)) (.cons (.vi .i64 (.v 51)) (.cons (.vi .i64 (.v 52)) (.cons (.vi .i64 (.bin .add .i64 (.bin .add .i64 (.bin .add .i64 (.bin .add .i64 (.v 3) (.z 1)) (.z 1)) (.z 1)) (.z 1))) (.cons (.vi .i64 (.v 54)) (.cons (.vi .i64 (.v 55)) (.cons (.s (.v 56)) (.cons (.s (.v 57)) (.cons (.s (.v 58)) (.cons (.s (.v 59)) .nil))))))))))))) (.v 4) (.g (.cons (.vi .i64 (.v 60)) (.cons (.vi .i64 (.v 61)) (.cons (.vi .i64 (.v 62)) (.cons (.vi .i64 (.v 63)) (.cons (.vi .i64 (.v 64)) (.cons (.vi .i64 (.bin .add .i64 (.bin .add .i64 (.bin .add .i64 (.bin .add .i64 (.bin .add .i64 (.v 3) (.z 1)) (.z 1)) (.z 1)) (.z 1)) (.z 1))) (.cons (.vi .i64 (.v 66)) (.cons (.s (.v 67)) (.cons (.s (.v 68)) (.cons (.s (.v 69)) (.cons (.s (.v 70)) .nil))))))))))))) (.v 4) (.g (.cons (.vi .i64 (.v 71)) (.cons (.vi .i64 (.v 72)) (.cons (.vi .i64 (.v 73)) (.cons (.vi .i64 (.v 74)) (.cons (.vi .i64 (.v 75)) (.cons (.vi .i64 (.v 76)) (.cons (.vi .i64 (.bin .add .i64 (.bin .add .i64 (.bin .add .i64 (.bin .add .i64 (.bin .add .i64 (.bin .add .i64 (.v 3) (.z 1)) (.z 1)) (.z 1)) (.z 1)) (.z 1)) (.z 1))) (.cons (.s (.v 78)) (.cons (.s (.v 79)) (.cons (.s (.v 80)) (.cons (.s (.v 81)) .nil))))))))))))) (.v 4) (.g (.cons (.vi .i64 (.v 82)) (.cons (.vi .i64 (.v 83)) (.cons (.vi .i64 (.v 84)) (.cons (.vi .i64 (.v 85)) (.cons (.vi .i64 (.v 86)) (.cons (.vi .i64 (.v 87)) (.cons (.vi .i64 (.v 88)) (.cons (.s (.v 94)) (.cons (.s (.v 90)) (.cons (.s (.v 91)) (.cons (.s (.v 92)) .nil))))))))))))) (.v 4) (.g (.cons (.vi .i64 (.v 95)) (.cons (.vi .i64 (.v 96)) (.cons (.vi .i64 (.v 97)) (.cons (.vi .i64 (.v 98)) (.cons (.vi .i64 (.v 99)) (.cons (.vi .i64 (.v 100)) (.cons (.vi .i64 (.v 101)) (.cons (.s (.v 102)) (.cons (.s (.v 107)) (.cons (.s (.v 104)) (.cons (.s (.v 105)) .nil))))))))))))) (.v 4) (.g (.cons (.vi .i64 (.v 108)) (.cons (.vi .i64 (.v 109)) (.cons (.vi .i64 (.v 110)) (.cons (.vi .i64 (.v 111)) (.cons (.vi .i64 (.v 112)) (.cons (.vi .i64 (.v 113)) (.cons (.vi .i64 (.v 114)) (.cons (.s (.v 115)) (.cons (.s (.v 116)) (.cons (.s (.v 120)) (.cons (.s (.v 118)) .nil))))))))))))) (.v 4) (.g [.i .i64, .i .i64, .i .i64, .i .i64, .i .i64, .i .i64, .i .i64, .s, .s, .s, .s]) 121) <|
      .i (.call f_laws_markPlnDoneS [(.s (.v 131)), (.vi .i64 (.v 119))] [.i .i64, .s] 132) <|
      .i (.chk (.cmp .eq (.len (.v 133)) (.len (.v 131)))) <|
      .next [(.set (.set (.set (.set (.set (.set (.set (.set (.set (.set (.set (.v 2) (.v 4) (.g (.cons (.vi .i64 (.v 3)) (.cons (.vi .i64 (.v 6)) (.cons (.vi .i64 (.v 7)) (.cons (.vi .i64 (.v 8)) (.cons (.vi .i64 (.v 9)) (.cons (.vi .i64 (.v 10)) (.cons (.vi .i64 (.v 11)) (.cons (.s (.v 12)) (.cons (.s (.v 13)) (.cons (.s (.v 14)) (.cons (.s (.v 15)) .nil))))))))))))) (.v 4) (.g (.cons (.vi .i64 (.v 16)) (.cons (.vi .i64 (.bin .add .i64 (.v 3) (.z 1))) (.cons (.vi .i64 (.v 18)) (.cons (.vi .i64 (.v 19)) (.cons (.vi .i64 (.v 20)) (.cons (.vi .i64 (.v 21)) (.cons (.vi .i64 (.v 22)) (.cons (.s (.v 23)) (.cons (.s (.v 24)) (.cons (.s (.v 25)) (.cons (.s (.v 26)) .nil))))))))))))) (.v 4) (.g (.cons (.vi .i64 (.v 27)) (.cons (.vi .i64 (.v 28)) (.cons (.vi .i64 (.bin .add .i64 (.bin .add .i64 (.v 3) (.z 1)) (.z 1))) (.cons (.vi .i64 (.v 30)) (.cons (.vi .i64 (.v 31)) (.cons (.vi .i64 (.v 32)) (.cons (.vi .i64 (.v 33)) (.cons (.s (.v 34)) (.cons (.s (.v 35)) (.cons (.s (.v 36)) (.cons (.s (.v 37)) .nil))))))))))))) (.v 4) (.g (.cons (.vi .i64 (.v 38)) (.cons (.vi .i64 (.v 39)) (.cons (.vi .i64 (.v 40)) (.cons (.vi .i64 (.bin .add .i64 (.bin .add .i64 (.bin .add .i64 (.v 3) (.z 1)) (.z 1)) (.z 1))) (.cons (.vi .i64 (.v 42)) (.cons (.vi .i64 (.v 43)) (.cons (.vi .i64 (.v 44)) (.cons (.s (.v 45)) (.cons (.s (.v 46)) (.cons (.s (.v 47)) (.cons (.s (.v 48)) .nil))))))))))))) (.v 4) (.g (.cons (.vi .i64 (.v 49)) (.cons (.vi .i64 (.v 50)) (.cons (.vi .i64 (.v 51)) (.cons (.vi .i64 (.v 52)) (.cons (.vi .i64 (.bin .add .i64 (.bin .add .i64 (.bin .add .i64 (.bin .add .i64 (.v 3) (.z 1)) (.z 1)) (.z 1)) (.z 1))) (.cons (.vi .i64 (.v 54)) (.cons (.vi .i64 (.v 55)) (.cons (.s (.v 56)) (.cons (.s (.v 57)) (.cons (.s (.v 58)) (.cons (.s (.v 59)) .nil))))))))))))) (.v 4) (.g (.cons (.vi .i64 (.v 60)) (.cons (.vi .i64 (.v 61)) (.cons (.vi .i64 (.v 62)) (.cons (.vi .i64 (.v 63)) (.cons (.vi .i64 (.v 64)) (.cons (.vi .i64 (.bin .add .i64 (.bin .add .i64 (.bin .add .i64 (.bin .add .i64 (.bin .add .i64 (.v 3) (.z 1)) (.z 1)) (.z 1)) (.z 1)) (.z 1))) (.cons (.vi .i64 (.v 66)) (.cons (.s (.v 67)) (.cons (.s (.v 68)) (.cons (.s (.v 69)) (.cons (.s (.v 70)) .nil))))))))))))) (.v 4) (.g (.cons (.vi .i64 (.v 71)) (.cons (.vi .i64 (.v 72)) (.cons (.vi .i64 (.v 73)) (.cons (.vi .i64 (.v 74)) (.cons (.vi .i64 (.v 75)) (.cons (.vi .i64 (.v 76)) (.cons (.vi .i64 (.bin .add .i64 (.bin .add .i64 (.bin .add .i64 (.bin .add .i64 (.bin .add .i64 (.bin .add .i64 (.v 3) (.z 1)) (.z 1)) (.z 1)) (.z 1)) (.z 1)) (.z 1))) (.cons (.s (.v 78)) (.cons (.s (.v 79)) (.cons (.s (.v 80)) (.cons (.s (.v 81)) .nil))))))))))))) (.v 4) (.g (.cons (.vi .i64 (.v 82)) (.cons (.vi .i64 (.v 83)) (.cons (.vi .i64 (.v 84)) (.cons (.vi .i64 (.v 85)) (.cons (.vi .i64 (.v 86)) (.cons (.vi .i64 (.v 87)) (.cons (.vi .i64 (.v 88)) (.cons (.s (.v 94)) (.cons (.s (.v 90)) (.cons (.s (.v 91)) (.cons (.s (.v 92)) .nil))))))))))))) (.v 4) (.g (.cons (.vi .i64 (.v 95)) (.cons (.vi .i64 (.v 96)) (.cons (.vi .i64 (.v 97)) (.cons (.vi .i64 (.v 98)) (.cons (.vi .i64 (.v 99)) (.cons (.vi .i64 (.v 100)) (.cons (.vi .i64 (.v 101)) (.cons (.s (.v 102)) (.cons (.s (.v 107)) (.cons (.s (.v 104)) (.cons (.s (.v 105)) .nil))))))))))))) (.v 4) (.g (.cons (.vi .i64 (.v 108)) (.cons (.vi .i64 (.v 109)) (.cons (.vi .i64 (.v 110)) (.cons (.vi .i64 (.v 111)) (.cons (.vi .i64 (.v 112)) (.cons (.vi .i64 (.v 113)) (.cons (.vi .i64 (.v 114)) (.cons (.s (.v 115)) (.cons (.s (.v 116)) (.cons (.s (.v 120)) (.cons (.s (.v 118)) .nil))))))))))))) (.v 4) (.g (.cons (.vi .i64 (.v 121)) (.cons (.vi .i64 (.v 122)) (.cons (.vi .i64 (.v 123)) (.cons (.vi .i64 (.v 124)) (.cons (.vi .i64 (.v 125)) (.cons (.vi .i64 (.v 126)) (.cons (.vi .i64 (.v 127)) (.cons (.s (.v 128)) (.cons (.s (.v 129)) (.cons (.s (.v 130)) (.cons (.s (.v 133)) .nil))))))))))))), (.v 132), (.bin .add .i64 (.v 4) (.z 1))])
     (
      .esc <|
      .done [(.vi .i64 (.v 3)), (.s (.v 2))])
/-- laws_markLogDoneS -/
def R_laws_markLogDoneS : R :=
  .loop 2 [(.v 0), (.v 1), (.z 0)] <|
    .ite (.cmp .lt (.v 4) (.len (.v 2)))
     (
      .i (.chk (.cmp .le (.z 0) (.v 4))) <|
      .i (.chk (.cmp .lt (.v 4) (.len (.v 2)))) <|
      .i (.idx (.v 2) (.v 4) (.g [.i .i64, .i .i64, .i .i64, .s, .i .i64, .s]) 5) <|
      .i (.chk (.cmp .le (.z 0) (.v 4))) <|
      .i (.chk (.cmp .lt (.v 4) (.len (.v 2)))) <|
      .i (.idx (.set (.v 2) (.v 4) (.g (.cons (.vi .i64 (.v 3)) (.cons (.vi .i64 (.v 6)) (.cons (.vi .i64 (.v 7)) (.cons (.s (.v 8)) (.cons (.vi .i64 (.v 9)) (.cons (.s (.v 10)) .nil)))))))) (.v 4) (.g [.i .i64, .i .i64, .i .i64, .s, .i .i64, .s]) 11) <|
      .i (.chk (.cmp .le (.z 0) (.v 4))) <|
      .i (.chk (.cmp .lt (.v 4) (.len (.v 2)))) <|
      .i (.idx (.set (.set (.v 2) (.v 4) (.g (.cons (.vi .i64 (.v 3)) (.cons (.vi .i64 (.v 6)) (.cons (.vi .i64 (.v 7)) (.cons (.s (.v 8)) (.cons (.vi .i64 (.v 9)) (.cons (.s (.v 10)) .nil)))))))) (.v 4) (.g (.cons (.vi .i64 (.v 11)) (.cons (.vi .i64 (.bin .add .i64 (.v 3) (.z 1))) (.cons (.vi .i64 (.v 13)) (.cons (.s (.v 14)) (.cons (.vi .i64 (.v 15)) (.cons (.s (.v 16)) .nil)))))))) (.v 4) (.g [.i .i64, .i .i64, .i .i64, .s, .i .i64, .s]) 17) <|
      .i (.chk (.cmp .le (.z 0) (.v 4))) <|
      .i (.chk (.cmp .lt (.v 4) (.len (.v 2)))) <|
      .i (.idx (.set (.set (.set (.v 2) (.v 4) (.g (.cons (.vi .i64 (.v 3)) (.cons (.vi .i64 (.v 6)) (.cons (.vi .i64 (.v 7)) (.cons (.s (.v 8)) (.cons (.vi .i64 (.v 9)) (.cons (.s (.v 10)) .nil)))))))) (.v 4) (.g (.cons (.vi .i64 (.v 11)) (.cons (.vi .i64 (.bin .add .i64 (.v 3) (.z 1))) (.cons (.vi .i64 (.v 13)) (.cons (.s (.v 14)) (.cons (.vi .i64 (.v 15)) (.cons (.s (.v 16)) .nil)))))))) (.v 4) (.g (.cons (.vi .i64 (.v 17)) (.cons (.vi .i64 (.v 18)) (.cons (.vi .i64 (.bin .add .i64 (.bin .add .i64 (.v 3) (.z 1)) (.z 1))) (.cons (.s (.v 20)) (.cons (.vi .i64 (.v 21)) (.cons (.s (.v 22)) .nil)))))))) (.v 4) (.g [.i .i64, .i .i64, .i .i64, .s, .i .i64, .s]) 23) <|
      .i (.call f_laws_markIntS [(.s (.v 26)), (.vi .i64 (.bin .add .i64 (.bin .add .i64 (.bin .add .i64 (.v 3) (.z 1)) (.z 1)) (.z 1)))] [.i .i64, .s] 29) <|
      .i (.chk (.cmp .eq (.len (.v 30)) (.len (.v 26)))) <|
      .i (.chk (.cmp .le (.z 0) (.v 4))) <|
      .i (.chk (.cmp .lt (.v 4) (.len (.v 2)))) <|
      .i (.idx (.set (.set (.set (.set (.v 2) (.v 4) (.g (.cons (.vi .i64 (.v 3)) (.cons (.vi .i64 (.v 6)) (.cons (.vi .i64 (.v 7)) (.cons (.s (.v 8)) (.cons (.vi .i64 (.v 9)) (.cons (.s (.v 10)) .nil)))))))) (.v 4) (.g (.cons (.vi .i64 (.v 11)) (.cons (.vi .i64 (.bin .add .i64 (.v 3) (.z 1))) (.cons (.vi .i64 (.v 13)) (.cons (.s (.v 14)) (.cons (.vi .i64 (.v 15)) (.cons (.s (.v 16)) .nil)))))))) (.v 4) (.g (.cons (.vi .i64 (.v 17)) (.cons (.vi .i64 (.v 18)) (.cons (.vi .i64 (.bin .add .i64 (.bin .add .i64 (.v 3) (.z 1)) (.z 1))) (.cons (.s (.v 20)) (.cons (.vi .i64 (.v 21)) (.cons (.s (.v 22)) .nil)))))))) (.v 4) (.g (.cons (.vi .i64 (.v 23)) (.cons (.vi .i64 (.v 24)) (.cons (.vi .i64 (.v 25)) (.cons (.s (.v 30)) (.cons (.vi .i64 (.v 27)) (.cons (.s (.v 28)) .nil)))))))) (.v 4) (.g [.i .i64, .i .i64, .i .i64, .s, .i .i64, .s]) 31) <|
      .i (.chk (.cmp .le (.z 0) (.v 4))) <|
      .i (.chk (.cmp .lt (.v 4) (.len (.v 2)))) <|
      .i (.idx (.set (.set (.set (.set (.set (.v 2) (.v 4) (.g (.cons (.vi .i64 (.v 3)) (.cons (.vi .i64 (.v 6)) (.cons (.vi .i64 (.v 7)) (.cons (.s (.v 8)) (.cons (.vi .i64 (.v 9)) (.cons (.s (.v 10)) .nil)))))))) (.v 4) (.g (.cons (.vi .i64 (.v 11)) (.cons (.vi .i64 (.bin .add .i64 (.v 3) (.z 1))) (.cons (.vi .i64 (.v 13)) (.cons (.s (.v 14)) (.cons (.vi .i64 (.v 15)) (.cons (.s (.v 16)) .nil)))))))) (.v 4) (.g (.cons (.vi .i64 (.v 17)) (.cons (.vi .i64 (.v 18)) (.cons (.vi .i64 (.bin .add .i64 (.bin .add .i64 (.v 3) (.z 1)) (.z 1))) (.cons (.s (.v 20)) (.cons (.vi .i64 (.v 21)) (.cons (.s (.v 22)) .nil)))))))) (.v 4) (.g (.cons (.vi .i64 (.v 23)) (.cons (.vi .i64 (.v 24)) (.cons (.vi .i64 (.v 25)) (.cons (.s (.v 30)) (.cons (.vi .i64 (.v 27)) (.cons (.s (.v 28)) .nil)))))))) (.v 4) (.g (.cons (.vi .i64 (.v 31)) (.cons (.vi .i64 (.v 32)) (.cons (.vi .i64 (.v 33)) (.cons (.s (.v 34)) (.cons (.vi .i64 (.v 29)) (.cons (.s (.v 36)) .nil)))))))) (.v 4) (.g [.i .i64, .i .i64, .i .i64, .s, .i .i64, .s]) 37) <|
      .i (.call f_laws_markIntS [(.s (.v 42)), (.vi .i64 (.bin .add .i64 (.v 29) (.z 1)))] [.i .i64, .s] 43) <|
      .i (.chk (.cmp .eq (.len (.v 44)) (.len (.v 42)))) <|
      .next [(.set (.set (.set (.set (.set (.set (.v 2) (.v 4) (.g (.cons (.vi .i64 (.v 3)) (.cons (.vi .i64 (.v 6)) (.cons (.vi .i64 (.v 7)) (.cons (.s (.v 8)) (.cons (.vi .i64 (.v 9)) (.cons (.s (.v 10)) .nil)))))))) (.v 4) (.g (.cons (.vi .i64 (.v 11)) (.cons (.vi .i64 (.bin .add .i64 (.v 3) (.z 1))) (.cons (.vi .i64 (.v 13)) (.cons (.s (.v 14)) (.cons (.vi .i64 (.v 15)) (.cons (.s (.v 16)) .nil)))))))) (.v 4) (.g (.cons (.vi .i64 (.v 17)) (.cons (.vi .i64 (.v 18)) (.cons (.vi .i64 (.bin .add .i64 (.bin .add .i64 (.v 3) (.z 1)) (.z 1))) (.cons (.s (.v 20)) (.cons (.vi .i64 (.v 21)) (.cons (.s (.v 22)) .nil)))))))) (.v 4) (.g (.cons (.vi .i64 (.v 23)) (.cons (.vi .i64 (.v 24)) (.cons (.vi .i64 (.v 25)) (.cons (.s (.v 30)) (.cons (.vi .i64 (.v 27)) (.cons (.s (.v 28)) .nil)))))))) (.v 4) (.g (.cons (.vi .i64 (.v 31)) (.cons (.vi .i64 (.v 32)) (.cons (.vi .i64 (.v 33)) (.cons (.s (.v 34)) (.cons (.vi .i64 (.v 29)) (.cons (.s (.v 36)) .nil)))))))) (.v 4) (.g (.cons (.vi .i64 (.v 37)) (.cons (.vi .i64 (.v 38)) (.cons (.vi .i64 (.v 39)) (.cons (.s (.v 40)) (.cons (.vi .i64 (.v 41)) (.cons (.s (.v 44)) .nil)))))))), (.v 43), (.bin .add .i64 (.v 4) (.z 1))])
     (
      .esc <|
      .done [(.vi .i64 (.v 3)), (.s (.v 2))])
/-- laws_markWldWorld -/
def R_laws_markWldWorld : R :=
  .i (.call f_laws_markPlnPlan [(.vi .i64 (.v 0)), (.s (.v 1)), (.s (.v 2)), (.s (.v 3)), (.vi .i64 (.v 14))] [.i .i64, .s, .s, .s] 15) <|
  .i (.call f_laws_markSitSiteS [(.s (.v 4)), (.vi .i64 (.v 15))] [.i .i64, .s] 19) <|
  .i (.call f_laws_markClkClerk [(.vb (.v 5)), (.vi .i64 (.v 6)), (.s (.v 7)), (.s (.v 8)), (.s (.v 9)), (.s (.v 10)), (.vi .i64 (.v 19))] [.i .i64, .s, .s, .s, .s] 21) <|
  .i (.call f_laws_markConClientS [(.s (.v 11)), (.vi .i64 (.v 21))] [.i .i64, .s] 26) <|
  .i (.call f_laws_markMsgMsgS [(.s (.v 12)), (.vi .i64 (.v 26))] [.i .i64, .s] 28) <|
  .i (.call f_laws_markLogDoneS [(.s (.v 13)), (.vi .i64 (.v 28))] [.i .i64, .s] 30) <|
  .done [(.vi .i64 (.v 30)), (.s (.v 16)), (.s (.v 17)), (.s (.v 18)), (.s (.v 20)), (.s (.v 22)), (.s (.v 23)), (.s (.v 24)), (.s (.v 25)), (.s (.v 27)), (.s (.v 29)), (.s (.v 31))]
/-- laws_heldIntS -/
def R_laws_heldIntS : R :=
  .loop 2 [(.v 1), (.z 0)] <|
    .ite (.cmp .lt (.v 3) (.len (.v 0)))
     (
      .i (.idx (.v 0) (.v 3) (.one (.i .i64)) 4) <|
      .ite (.not (.cmp .eq (.v 4) (.v 2)))
       (
        .esc <|
        .done [(.vi .i64 (.z (-1)))])
       (
        .next [(.bin .add .i64 (.v 2) (.z 1)), (.bin .add .i64 (.v 3) (.z 1))]))
     (
      .esc <|
      .done [(.vi .i64 (.v 2))])
/-- laws_heldActLineS -/
def R_laws_heldActLineS : R :=
  .loop 2 [(.v 1), (.z 0)] <|
    .ite (.cmp .lt (.v 3) (.len (.v 0)))
     (
      .i (.idx (.v 0) (.v 3) (.g [.i .i64, .i .i64, .i .i64, .s, .s, .i .i64]) 4) <|
      .ite (.not (.cmp .eq (.v 4) (.v 2)))
       (
        .esc <|
        .done [(.vi .i64 (.z (-1)))])
       (
        .i (.idx (.v 0) (.v 3) (.g [.i .i64, .i .i64, .i .i64, .s, .s, .i .i64]) 10) <|
        .ite (.not (.cmp .eq (.v 11) (.bin .add .i64 (.v 2) (.z 1))))
         (
          .esc <|
          .done [(.vi .i64 (.z (-1)))])
         (
          .i (.idx (.v 0) (.v 3) (.g [.i .i64, .i .i64, .i .i64, .s, .s, .i .i64]) 16) <|
          .ite (.not (.cmp .eq (.v 18) (.bin .add .i64 (.bin .add .i64 (.v 2) (.z 1)) (.z 1))))
           (
            .esc <|
            .done [(.vi .i64 (.z (-1)))])
           (
            .i (.idx (.v 0) (.v 3) (.g [.i .i64, .i .i64, .i .i64, .s, .s, .i .i64]) 22) <|
            .i (.call f_laws_heldIntS [(.s (.v 25)), (.vi .i64 (.bin .add .i64 (.bin .add .i64 (.bin .add .i64 (.v 2) (.z 1)) (.z 1)) (.z 1)))] [.i .i64] 28) <|
            .ite (.cmp .lt (.v 28) (.z 0))
             (
              .esc <|
              .done [(.vi .i64 (.z (-1)))])
             (
              .i (.idx (.v 0) (.v 3) (.g [.i .i64, .i .i64, .i .i64, .s, .s, .i .i64]) 29) <|
              .i (.call f_laws_heldIntS [(.s (.v 33)), (.vi .i64 (.v 28))] [.i .i64] 35) <|
              .ite (.cmp .lt (.v 35) (.z 0))
               (
                .esc <|
                .done [(.vi .i64 (.z (-1)))])
               (
                .i (.idx (.v 0) (.v 3) (.g [.i .i64, .i .i64, .i .i64, .s, .s, .i .i64]) 36) <|
                .ite (.not (.cmp .eq (.v 41) (.v 35)))
                 (
                  .esc <|
                  .done [(.vi .i64 (.z (-1)))])
                 (
                  .next [(.bin .add .i64 (.v 35) (.z 1)), (.bin .add .i64 (.v 3) (.z 1))])))))))
     (
      .esc <|
      .done [(.vi .i64 (.v 2))])
/-- laws_heldActLineSS -/
def R_laws_heldActLineSS : R :=
  .loop 2 [(.v 1), (.z 0)] <|
    .ite (.cmp .lt (.v 3) (.len (.v 0)))
     (
      .i (.idx (.v 0) (.v 3) (.one (.s)) 4) <|
      .i (.call f_laws_heldActLineS [(.s (.v 4)), (.vi .i64 (.v 2))] [.i .i64] 5) <|
      .ite (.cmp .lt (.v 5) (.z 0))
       (
        .esc <|
        .done [(.vi .i64 (.z (-1)))])
       (
        .next [(.v 5), (.bin .add .i64 (.v 3) (.z 1))]))
     (
      .esc <|
      .done [(.vi .i64 (.v 2))])
/-- laws_heldPlnPlan -/
def R_laws_heldPlnPlan : R :=
  .i (.call f_laws_heldActLineSS [(.s (.v 1)), (.vi .i64 (.v 4))] [.i .i64] 5) <|
  .ite (.cmp .lt (.v 5) (.z 0))
   (
    .done [(.vi .i64 (.z (-1)))])
   (
    .i (.call f_laws_heldIntS [(.s (.v 2)), (.vi .i64 (.v 5))] [.i .i64] 6) <|
    .ite (.cmp .lt (.v 6) (.z 0))
     (
      .done [(.vi .i64 (.z (-1)))])
     (
      .i (.call f_laws_heldIntS [(.s (.v 3)), (.vi .i64 (.v 6))] [.i .i64] 7) <|
      .ite (.cmp .lt (.v 7) (.z 0))
       (
        .done [(.vi .i64 (.z (-1)))])
       (
        .done [(.vi .i64 (.v 7))])))
/-- laws_heldPlnDoneS -/
def R_laws_heldPlnDoneS : R :=
  .loop 2 [(.v 1), (.z 0)] <|
    .ite (.cmp .lt (.v 3) (.len (.v 0)))
     (
      .i (.idx (.v 0) (.v 3) (.g [.i .i64, .i .i64, .s]) 4) <|
      .ite (.not (.cmp .eq (.v 4) (.v 2)))
       (
        .esc <|
        .done [(.vi .i64 (.z (-1)))])
       (
        .i (.idx (.v 0) (.v 3) (.g [.i .i64, .i .i64, .s]) 7) <|
        .ite (.not (.cmp .eq (.v 8) (.bin .add .i64 (.v 2) (.z 1))))
         (
          .esc <|
          .done [(.vi .i64 (.z (-1)))])
         (
          .i (.idx (.v 0) (.v 3) (.g [.i .i64, .i .i64, .s]) 10) <|
          .i (.call f_laws_heldIntS [(.s (.v 12)), (.vi .i64 (.bin .add .i64 (.bin .add .i64 (.v 2) (.z 1)) (.z 1)))] [.i .i64] 13) <|
          .ite (.cmp .lt (.v 13) (.z 0))
           (
            .esc <|
            .done [(.vi .i64 (.z (-1)))])
           (
            .next [(.v 13), (.bin .add .i64 (.v 3) (.z 1))]))))
     (
      .esc <|
      .done [(.vi .i64 (.v 2))])
/-- laws_heldSitSiteS -/
def R_laws_heldSitSiteS : R :=
  .loop 2 [(.v 1), (.z 0)] <|
    .ite (.cmp .lt (.v 3) (.len (.v 0)))
     (
      .i (.idx (.v 0) (.v 3) (.g [.b, .b, .i .i64, .s, .s, .s]) 4) <|
      .i (.chk (.not (.cmp .eq (.z 3) (.z 0)))) <|
      .ite (.not (.beq (.v 4) (.cmp .eq (.bin .rem .i64 (.v 2) (.z 3)) (.z 0))))
       (
        .esc <|
        .done [(.vi .i64 (.z (-1)))])
       (
        .i (.idx (.v 0) (.v 3) (.g [.b, .b, .i .i64, .s, .s, .s]) 10) <|
        .i (.chk (.not (.cmp .eq (.z 3) (.z 0)))) <|
        .ite (.not (.beq (.v 11) (.cmp .eq (.bin .rem .i64 (.bin .add .i64 (.v 2) (.z 1)) (.z 3)) (.z 0))))
         (
          .esc <|
          .done [(.vi .i64 (.z (-1)))])
         (
          .i (.idx (.v 0) (.v 3) (.g [.b, .b, .i .i64, .s, .s, .s]) 16) <|
          .ite (.not (.cmp .eq (.v 18) (.bin .add .i64 (.bin .add .i64 (.v 2) (.z 1)) (.z 1))))
           (
            .esc <|
            .done [(.vi .i64 (.z (-1)))])
           (
            .i (.idx (.v 0) (.v 3) (.g [.b, .b, .i .i64, .s, .s, .s]) 22) <|
            .i (.call f_laws_heldIntS [(.s (.v 25)), (.vi .i64 (.bin .add .i64 (.bin .add .i64 (.bin .add .i64 (.v 2) (.z 1)) (.z 1)) (.z 1)))] [.i .i64] 28) <|
            .ite (.cmp .lt (.v 28) (.z 0))
             (
              .esc <|
              .done [(.vi .i64 (.z (-1)))])
             (
              .i (.idx (.v 0) (.v 3) (.g [.b, .b, .i .i64, .s, .s, .s]) 29) <|
              .i (.call f_laws_heldIntS [(.s (.v 33)), (.vi .i64 (.v 28))] [.i .i64] 35) <|
              .ite (.cmp .lt (.v 35) (.z 0))
               (
                .esc <|
                .done [(.vi .i64 (.z (-1)))])
               (
                .i (.idx (.v 0) (.v 3) (.g [.b, .b, .i .i64, .s, .s, .s]) 36) <|
                .i (.call f_laws_heldPlnDoneS [(.s (.v 41)), (.vi .i64 (.v 35))] [.i .i64] 42) <|
                .ite (.cmp .lt (.v 42) (.z 0))
                 (
                  .esc <|
                  .done [(.vi .i64 (.z (-1)))])
                 (
                  .next [(.v 42), (.bin .add .i64 (.v 3) (.z 1))])))))))
     (
      .esc <|
      .done [(.vi .i64 (.v 2))])
/-- laws_heldPlnCallS -/
def R_laws_heldPlnCallS : R :=
  .loop 2 [(.v 1), (.z 0)] <|
    .ite (.cmp .lt (.v 3) (.len (.v 0)))
     (
      .i (.idx (.v 0) (.v 3) (.g [.i .i64, .i .i64, .i .i64, .s]) 4) <|
      .ite (.not (.cmp .eq (.v 4) (.v 2)))
       (
        .esc <|
        .done [(.vi .i64 (.z (-1)))])
       (
        .i (.idx (.v 0) (.v 3) (.g [.i .i64, .i .i64, .i .i64, .s]) 8) <|
        .ite (.not (.cmp .eq (.v 9) (.bin .add .i64 (.v 2) (.z 1))))
         (
          .esc <|
          .done [(.vi .i64 (.z (-1)))])
         (
          .i (.idx (.v 0) (.v 3) (.g [.i .i64, .i .i64, .i .i64, .s]) 12) <|
          .ite (.not (.cmp .eq (.v 14) (.bin .add .i64 (.bin .add .i64 (.v 2) (.z 1)) (.z 1))))
           (
            .esc <|
            .done [(.vi .i64 (.z (-1)))])
           (
            .i (.idx (.v 0) (.v 3) (.g [.i .i64, .i .i64, .i .i64, .s]) 16) <|
            .i (.call f_laws_heldIntS [(.s (.v 19)), (.vi .i64 (.bin .add .i64 (.bin .add .i64 (.bin .add .i64 (.v 2) (.z 1)) (.z 1)) (.z 1)))] [.i .i64] 20) <|
            .ite (.cmp .lt (.v 20) (.z 0))
             (
              .esc <|
              .done [(.vi .i64 (.z (-1)))])
             (
              .next [(.v 20), (.bin .add .i64 (.v 3) (.z 1))])))))
     (
      .esc <|
      .done [(.vi .i64 (.v 2))])
/-- laws_heldClkGotS -/
def R_laws_heldClkGotS : R :=
  .loop 2 [(.v 1), (.z 0)] <|
    .ite (.cmp .lt (.v 3) (.len (.v 0)))
     (
      .i (.idx (.v 0) (.v 3) (.g [.b, .s, .s]) 4) <|
      .i (.chk (.not (.cmp .eq (.z 3) (.z 0)))) <|
      .ite (.not (.beq (.v 4) (.cmp .eq (.bin .rem .i64 (.v 2) (.z 3)) (.z 0))))
       (
        .esc <|
        .done [(.vi .i64 (.z (-1)))])
       (
        .i (.idx (.v 0) (.v 3) (.g [.b, .s, .s]) 7) <|
        .i (.call f_laws_heldIntS [(.s (.v 8)), (.vi .i64 (.bin .add .i64 (.v 2) (.z 1)))] [.i .i64] 10) <|
        .ite (.cmp .lt (.v 10) (.z 0))
         (
          .esc <|
          .done [(.vi .i64 (.z (-1)))])
         (
          .i (.idx (.v 0) (.v 3) (.g [.b, .s, .s]) 11) <|
          .i (.call f_laws_heldIntS [(.s (.v 13)), (.vi .i64 (.v 10))] [.i .i64] 14) <|
          .ite (.cmp .lt (.v 14) (.z 0))
           (
            .esc <|
            .done [(.vi .i64 (.z (-1)))])
           (
            .next [(.v 14), (.bin .add .i64 (.v 3) (.z 1))]))))
     (
      .esc <|
      .done [(.vi .i64 (.v 2))])
/-- laws_heldClkClerk -/
def R_laws_heldClkClerk : R :=
  .i (.call f_laws_heldIntS [(.s (.v 2)), (.vi .i64 (.v 6))] [.i .i64] 7) <|
  .ite (.cmp .lt (.v 7) (.z 0))
   (
    .done [(.vi .i64 (.z (-1)))])
   (
    .i (.call f_laws_heldPlnDoneS [(.s (.v 3)), (.vi .i64 (.v 7))] [.i .i64] 8) <|
    .ite (.cmp .lt (.v 8) (.z 0))
     (
      .done [(.vi .i64 (.z (-1)))])
     (
      .i (.call f_laws_heldPlnCallS [(.s (.v 4)), (.vi .i64 (.v 8))] [.i .i64] 9) <|
      .ite (.cmp .lt (.v 9) (.z 0))
       (
        .done [(.vi .i64 (.z (-1)))])
       (
        .i (.call f_laws_heldClkGotS [(.s (.v 5)), (.vi .i64 (.v 9))] [.i .i64] 10) <|
        .ite (.cmp .lt (.v 10) (.z 0))
         (
          .done [(.vi .i64 (.z (-1)))])
         (
          .done [(.vi .i64 (.v 10))]))))
/-- laws_heldConClientS -/
def R_laws_heldConClientS : R :=
  .loop 2 [(.v 1), (.z 0)] <|
    .ite (.cmp .lt (.v 3) (.len (.v 0)))
     (
      .i (.idx (.v 0) (.v 3) (.g [.i .i64, .b, .i .i64, .i .i64, .i .i64, .s, .i .i64, .s]) 4) <|
      .ite (.not (.cmp .eq (.v 4) (.v 2)))
       (
        .esc <|
        .done [(.vi .i64 (.z (-1)))])
       (
        .i (.idx (.v 0) (.v 3) (.g [.i .i64, .b, .i .i64, .i .i64, .i .i64, .s, .i .i64, .s]) 12) <|
        .i (.chk (.not (.cmp .eq (.z 3) (.z 0)))) <|
        .ite (.not (.beq (.v 13) (.cmp .eq (.bin .rem .i64 (.bin .add .i64 (.v 2) (.z 1)) (.z 3)) (.z 0))))
         (
          .esc <|
          .done [(.vi .i64 (.z (-1)))])
         (
          .i (.idx (.v 0) (.v 3) (.g [.i .i64, .b, .i .i64, .i .i64, .i .i64, .s, .i .i64, .s]) 20) <|
          .ite (.not (.cmp .eq (.v 22) (.bin .add .i64 (.bin .add .i64 (.v 2) (.z 1)) (.z 1))))
           (
            .esc <|
            .done [(.vi .i64 (.z (-1)))])
           (
            .i (.idx (.v 0) (.v 3) (.g [.i .i64, .b, .i .i64, .i .i64, .i .i64, .s, .i .i64, .s]) 28) <|
            .ite (.not (.cmp .eq (.v 31) (.bin .add .i64 (.bin .add .i64 (.bin .add .i64 (.v 2) (.z 1)) (.z 1)) (.z 1))))
             (
              .esc <|
              .done [(.vi .i64 (.z (-1)))])
             (
              .i (.idx (.v 0) (.v 3) (.g [.i .i64, .b, .i .i64, .i .i64, .i .i64, .s, .i .i64, .s]) 36) <|
              .ite (.not (.cmp .eq (.v 40) (.bin .add .i64 (.bin .add .i64 (.bin .add .i64 (.bin .add .i64 (.v 2) (.z 1)) (.z 1)) (.z 1)) (.z 1))))
               (
                .esc <|
                .done [(.vi .i64 (.z (-1)))])
               (
                .i (.idx (.v 0) (.v 3) (.g [.i .i64, .b, .i .i64, .i .i64, .i .i64, .s, .i .i64, .s]) 44) <|
                .i (.call f_laws_heldIntS [(.s (.v 49)), (.vi .i64 (.bin .add .i64 (.bin .add .i64 (.bin .add .i64 (.bin .add .i64 (.bin .add .i64 (.v 2) (.z 1)) (.z 1)) (.z 1)) (.z 1)) (.z 1)))] [.i .i64] 52) <|
                .ite (.cmp .lt (.v 52) (.z 0))
                 (
                  .esc <|
                  .done [(.vi .i64 (.z (-1)))])
                 (
                  .i (.idx (.v 0) (.v 3) (.g [.i .i64, .b, .i .i64, .i .i64, .i .i64, .s, .i .i64, .s]) 53) <|
                  .ite (.not (.cmp .eq (.v 59) (.v 52)))
                   (
                    .esc <|
                    .done [(.vi .i64 (.z (-1)))])
                   (
                    .i (.idx (.v 0) (.v 3) (.g [.i .i64, .b, .i .i64, .i .i64, .i .i64, .s, .i .i64, .s]) 61) <|
                    .i (.call f_laws_heldIntS [(.s (.v 68)), (.vi .i64 (.bin .add .i64 (.v 52) (.z 1)))] [.i .i64] 69) <|
                    .ite (.cmp .lt (.v 69) (.z 0))
                     (
                      .esc <|
                      .done [(.vi .i64 (.z (-1)))])
                     (
                      .next [(.v 69), (.bin .add .i64 (.v 3) (.z 1))])))))))))
     (
      .esc <|
      .done [(.vi .i64 (.v 2))])
/-- laws_heldMsgMsgS -/
def R_laws_heldMsgMsgS : R :=
  .loop 2 [(.v 1), (.z 0)] <|
    .ite (.cmp .lt (.v 3) (.len (.v 0)))
     (
      .i (.idx (.v 0) (.v 3) (.g [.i .i64, .i .i64, .i .i64, .i .i64, .i .i64, .i .i64, .i .i64, .s, .s, .s, .s]) 4) <|
      .ite (.not (.cmp .eq (.v 4) (.v 2)))
       (
        .esc <|
        .done [(.vi .i64 (.z (-1)))])
       (
        .i (.idx (.v 0) (.v 3) (.g [.i .i64, .i .i64, .i .i64, .i .i64, .i .i64, .i .i64, .i .i64, .s, .s, .s, .s]) 15) <|
        .ite (.not (.cmp .eq (.v 16) (.bin .add .i64 (.v 2) (.z 1))))
         (
          .esc <|
          .done [(.vi .i64 (.z (-1)))])
         (
          .i (.idx (.v 0) (.v 3) (.g [.i .i64, .i .i64, .i .i64, .i .i64, .i .i64, .i .i64, .i .i64, .s, .s, .s, .s]) 26) <|
          .ite (.not (.cmp .eq (.v 28) (.bin .add .i64 (.bin .add .i64 (.v 2) (.z 1)) (.z 1))))
           (
            .esc <|
            .done [(.vi .i64 (.z (-1)))])
           (
            .i (.idx (.v 0) (.v 3) (.g [.i .i64, .i .i64, .i .i64, .i .i64, .i .i64, .i .i64, .i .i64, .s, .s, .s, .s]) 37) <|
            .ite (.not (.cmp .eq (.v 40) (.bin .add .i64 (.bin .add .i64 (.bin .add .i64 (.v 2) (.z 1)) (.z 1)) (.z 1))))
             (
              .esc <|
              .done [(.vi .i64 (.z (-1)))])
             (
              .i (.idx (.v 0) (.v 3) (.g [.i .i64, .i .i64, .i .i64, .i .i64, .i .i64, .i .i64, .i .i64, .s, .s, .s, .s]) 48) <|
              .ite (.not (.cmp .eq (.v 52) (.bin .add .i64 (.bin .add .i64 (.bin .add .i64 (.bin .add .i64 (.v 2) (.z 1)) (.z 1)) (.z 1)) (.z 1))))
               (
                .esc <|
                .done [(.vi .i64 (.z (-1)))])
               (
                .i (.idx (.v 0) (.v 3) (.g [.i .i64, .i .i64, .i .i64, .i .i64, .i .i64, .i .i64, .i .i64, .s, .s, .s, .s]) 59) <|
                .ite (.not (.cmp .eq (.v 64) (.bin .add .i64 (.bin .add .i64 (.bin .add .i64 (.bin .add .i64 (.bin .add .i64 (.v 2) (.z 1)) (.z 1)) (.z 1)) (.z 1)) (.z 1))))
                 (
                  .esc <|
                  .done [(.vi .i64 (.z (-1)))])
                 (
                  .i (.idx (.v 0) (.v 3) (.g [.i .i64, .i .i64, .i .i64, .i .i64, .i .i64, .i .i64, .i .i64, .s, .s, .s, .s]) 70) <|
                  .ite (.not (.cmp .eq (.v 76) (.bin .add .i64 (.bin .add .i64 (.bin .add .i64 (.bin .add .i64 (.bin .add .i64 (.bin .add .i64 (.v 2) (.z 1)) (.z 1)) (.z 1)) (.z 1)) (.z 1)) (.z 1))))
                   (
                    .esc <|
                    .done [(.vi .i64 (.z (-1)))])
                   (
                    .i (.idx (.v 0) (.v 3) (.g [.i .i64, .i .i64, .i .i64, .i .i64, .i .i64, .i .i64, .i .i64, .s, .s, .s, .s]) 81) <|
                    .i (.call f_laws_heldIntS [(.s (.v 88)), (.vi .i64 (.bin .add .i64 (.bin .add .i64 (.bin .add .i64 (.bin .add .i64 (.bin .add .i64 (.bin .add .i64 (.bin .add .i64 (.v 2) (.z 1)) (.z 1)) (.z 1)) (.z 1)) (.z 1)) (.z 1)) (.z 1)))] [.i .i64] 92) <|
                    .ite (.cmp .lt (.v 92) (.z 0))
                     (
                      .esc <|
                      .done [(.vi .i64 (.z (-1)))])
                     (
                      .i (.idx (.v 0) (.v 3) (.g [.i .i64, .i .i64, .i .i64, .i .i64, .i .i64, .i .i64, .i .i64, .s, .s, .s, .s]) 93) <|
                      .i (.call f_laws_heldIntS [(.s (.v 101)), (.vi .i64 (.v 92))] [.i .i64] 104) <|
                      .ite (.cmp .lt (.v 104) (.z 0))
                       (
                        .esc <|
                        .done [(.vi .i64 (.z (-1)))])
                       (
                        .i (.idx (.v 0) (.v 3) (.g [.i .i64, .i .i64, .i .i64, .i .i64, .i .i64, .i .i64, .i .i64, .s, .s, .s, .s]) 105) <|
                        .i (.call f_laws_heldIntS [(.s (.v 114)), (.vi .i64 (.v 104))] [.i .i64] 116) <|
                        .ite (.cmp .lt (.v 116) (.z 0))
                         (
                          .esc <|
                          .done [(.vi .i64 (.z (-1)))])
                         (
                          .i (.idx (.v 0) (.v 3) (.g [.i .i64, .i .i64, .i .i64, .i .i64, .i .i64, .i .i64, .i .i64, .s, .s, .s, .s]) 117) <|
                          .i (.call f_laws_heldPlnDoneS [(.s (.v 127)), (.vi .i64 (.v 116))] [.i .i64] 128) <|
                          .ite (.cmp .lt (.v 128) (.z 0))
                           (
                            .esc <|
                            .done [(.vi .i64 (.z (-1)))])
                           (
                            .next [(.v 128), (.bin .add .i64 (.v 3) (.z 1))]))))))))))))
     (
      .esc <|
      .done [(.vi .i64 (.v 2))])
/-- laws_heldLogDoneS -/
def R_laws_heldLogDoneS : R :=
  .loop 2 [(.v 1), (.z 0)] <|
    .ite (.cmp .lt (.v 3) (.len (.v 0)))
     (
      .i (.idx (.v 0) (.v 3) (.g [.i .i64, .i .i64, .i .i64, .s, .i .i64, .s]) 4) <|
      .ite (.not (.cmp .eq (.v 4) (.v 2)))
       (
        .esc <|
        .done [(.vi .i64 (.z (-1)))])
       (
        .i (.idx (.v 0) (.v 3) (.g [.i .i64, .i .i64, .i .i64, .s, .i .i64, .s]) 10) <|
        .ite (.not (.cmp .eq (.v 11) (.bin .add .i64 (.v 2) (.z 1))))
         (
          .esc <|
          .done [(.vi .i64 (.z (-1)))])
         (
          .i (.idx (.v 0) (.v 3) (.g [.i .i64, .i .i64, .i .i64, .s, .i .i64, .s]) 16) <|
          .ite (.not (.cmp .eq (.v 18) (.bin .add .i64 (.bin .add .i64 (.v 2) (.z 1)) (.z 1))))
           (
            .esc <|
            .done [(.vi .i64 (.z (-1)))])
           (
            .i (.idx (.v 0) (.v 3) (.g [.i .i64, .i .i64, .i .i64, .s, .i .i64, .s]) 22) <|
            .i (.call f_laws_heldIntS [(.s (.v 25)), (.vi .i64 (.bin .add .i64 (.bin .add .i64 (.bin .add .i64 (.v 2) (.z 1)) (.z 1)) (.z 1)))] [.i .i64] 28) <|
            .ite (.cmp .lt (.v 28) (.z 0))
             (
              .esc <|
              .done [(.vi .i64 (.z (-1)))])
             (
              .i (.idx (.v 0) (.v 3) (.g [.i .i64, .i .i64, .i .i64, .s, .i .i64, .s]) 29) <|
              .ite (.not (.cmp .eq (.v 33) (.v 28)))
               (
                .esc <|
                .done [(.vi .i64 (.z (-1)))])
               (
                .i (.idx (.v 0) (.v 3) (.g [.i .i64, .i .i64, .i .i64, .s, .i .i64, .s]) 35) <|
                .i (.call f_laws_heldIntS [(.s (.v 40)), (.vi .i64 (.bin .add .i64 (.v 28) (.z 1)))] [.i .i64] 41) <|
                .ite (.cmp .lt (.v 41) (.z 0))
                 (
                  .esc <|
                  .done [(.vi .i64 (.z (-1)))])
                 (
                  .next [(.v 41), (.bin .add .i64 (.v 3) (.z 1))])))))))
     (
      .esc <|
      .done [(.vi .i64 (.v 2))])
/-- laws_heldWldWorld -/
def R_laws_heldWldWorld : R :=
  .i (.call f_laws_heldPlnPlan [(.vi .i64 (.v 0)), (.s (.v 1)), (.s (.v 2)), (.s (.v 3)), (.vi .i64 (.v 14))] [.i .i64] 15) <|
  .ite (.cmp .lt (.v 15) (.z 0))
   (
    .done [(.vi .i64 (.z (-1)))])
   (
    .i (.call f_laws_heldSitSiteS [(.s (.v 4)), (.vi .i64 (.v 15))] [.i .i64] 16) <|
    .ite (.cmp .lt (.v 16) (.z 0))
     (
      .done [(.vi .i64 (.z (-1)))])
     (
      .i (.call f_laws_heldClkClerk [(.vb (.v 5)), (.vi .i64 (.v 6)), (.s (.v 7)), (.s (.v 8)), (.s (.v 9)), (.s (.v 10)), (.vi .i64 (.v 16))] [.i .i64] 17) <|
      .ite (.cmp .lt (.v 17) (.z 0))
       (
        .done [(.vi .i64 (.z (-1)))])
       (
        .i (.call f_laws_heldConClientS [(.s (.v 11)), (.vi .i64 (.v 17))] [.i .i64] 18) <|
        .ite (.cmp .lt (.v 18) (.z 0))
         (
          .done [(.vi .i64 (.z (-1)))])
         (
          .i (.call f_laws_heldMsgMsgS [(.s (.v 12)), (.vi .i64 (.v 18))] [.i .i64] 19) <|
          .ite (.cmp .lt (.v 19) (.z 0))
           (
            .done [(.vi .i64 (.z (-1)))])
           (
            .i (.call f_laws_heldLogDoneS [(.s (.v 13)), (.vi .i64 (.v 19))] [.i .i64] 20) <|
            .ite (.cmp .lt (.v 20) (.z 0))
             (
              .done [(.vi .i64 (.z (-1)))])
             (
              .done [(.vi .i64 (.v 20))]))))))
/-- laws_FnExactWldNew -/
def R_laws_FnExactWldNew : R :=
  .i (.call f_laws_szPlnPlan [(.vi .i64 (.v 0)), (.s (.v 1)), (.s (.v 2)), (.s (.v 3)), (.vi .i64 (.z 1048576))] [.i .i64] 4) <|
  .ite (.cmp .lt (.v 4) (.z 0))
   (
    .done [(.vb .tt)])
   (
    .i (.call f_laws_toPlnPlan [(.vi .i64 (.v 0)), (.s (.v 1)), (.s (.v 2)), (.s (.v 3))] [.i .i64, .s, .s, .s] 5) <|
    .i (.call f_spec_WldNew [(.vi .i64 (.v 5)), (.s (.v 6)), (.s (.v 7)), (.s (.v 8))] [.i .i64, .s, .s, .s, .s, .b, .i .i64, .s, .s, .s, .s, .s, .s, .s] 9) <|
    .i (.call f_laws_toPlnPlan [(.vi .i64 (.v 0)), (.s (.v 1)), (.s (.v 2)), (.s (.v 3))] [.i .i64, .s, .s, .s] 23) <|
    .i (.call f_impl_WldNew [(.vi .i64 (.v 23)), (.s (.v 24)), (.s (.v 25)), (.s (.v 26))] [.i .i64, .s, .s, .s, .s, .b, .i .i64, .s, .s, .s, .s, .s, .s, .s] 27) <|
    .i (.fl (.v 29)) <|
    .i (.fl (.v 30)) <|
    .i (.fl (.v 34)) <|
    .i (.fl (.v 36)) <|
    .i (.fl (.v 39)) <|
    .i (.fl (.v 40)) <|
    .i (.call f_laws_eqWldWorld [(.vi .i64 (.v 27)), (.s (.v 28)), (.s (.v 29)), (.s (.v 30)), (.s (.v 31)), (.vb (.v 32)), (.vi .i64 (.v 33)), (.s (.v 34)), (.s (.v 35)), (.s (.v 36)), (.s (.v 37)), (.s (.v 38)), (.s (.v 39)), (.s (.v 40)), (.vi .i64 (.v 9)), (.s (.v 10)), (.s (.v 11)), (.s (.v 12)), (.s (.v 13)), (.vb (.v 14)), (.vi .i64 (.v 15)), (.s (.v 16)), (.s (.v 17)), (.s (.v 18)), (.s (.v 19)), (.s (.v 20)), (.s (.v 21)), (.s (.v 22))] [.b] 41) <|
    .ite (.not (.v 41))
     (
      .done [(.vb .ff)])
     (
      .i (.call f_laws_toPlnPlan [(.vi .i64 (.v 0)), (.s (.v 1)), (.s (.v 2)), (.s (.v 3))] [.i .i64, .s, .s, .s] 42) <|
      .i (.call f_laws_eqPlnPlan [(.vi .i64 (.v 23)), (.s (.v 24)), (.s (.v 25)), (.s (.v 26)), (.vi .i64 (.v 42)), (.s (.v 43)), (.s (.v 44)), (.s (.v 45))] [.b] 46) <|
      .ite (.not (.v 46))
       (
        .done [(.vb .ff)])
       (
        .i (.call f_laws_markPlnPlan [(.vi .i64 (.v 23)), (.s (.v 24)), (.s (.v 25)), (.s (.v 26)), (.vi .i64 (.z 1))] [.i .i64, .s, .s, .s] 47) <|
        .ite (.cmp .lt (.v 47) (.z 0))
         (
          .done [(.vb .ff)])
         (
          .i (.call f_laws_eqWldWorld [(.vi .i64 (.v 27)), (.s (.v 28)), (.s (.v 29)), (.s (.v 30)), (.s (.v 31)), (.vb (.v 32)), (.vi .i64 (.v 33)), (.s (.v 34)), (.s (.v 35)), (.s (.v 36)), (.s (.v 37)), (.s (.v 38)), (.s (.v 39)), (.s (.v 40)), (.vi .i64 (.v 9)), (.s (.v 10)), (.s (.v 11)), (.s (.v 12)), (.s (.v 13)), (.vb (.v 14)), (.vi .i64 (.v 15)), (.s (.v 16)), (.s (.v 17)), (.s (.v 18)), (.s (.v 19)), (.s (.v 20)), (.s (.v 21)), (.s (.v 22))] [.b] 51) <|
          .ite (.not (.v 51))
           (
            .done [(.vb .ff)])
           (
            .i (.call f_laws_markWldWorld [(.vi .i64 (.v 27)), (.s (.v 28)), (.s (.v 29)), (.s (.v 30)), (.s (.v 31)), (.vb (.v 32)), (.vi .i64 (.v 33)), (.s (.v 34)), (.s (.v 35)), (.s (.v 36)), (.s (.v 37)), (.s (.v 38)), (.s (.v 39)), (.s (.v 40)), (.vi .i64 (.z 1))] [.i .i64, .s, .s, .s, .s, .s, .s, .s, .s, .s, .s, .s] 52) <|
            .i (.chk (.cmp .eq (.len (.v 28)) (.len (.v 53)))) <|
            .i (.chk (.cmp .eq (.len (.v 29)) (.len (.v 54)))) <|
            .i (.chk (.cmp .eq (.len (.v 30)) (.len (.v 55)))) <|
            .i (.chk (.cmp .eq (.len (.v 31)) (.len (.v 56)))) <|
            .i (.chk (.cmp .eq (.len (.v 34)) (.len (.v 57)))) <|
            .i (.chk (.cmp .eq (.len (.v 35)) (.len (.v 58)))) <|
            .i (.chk (.cmp .eq (.len (.v 36)) (.len (.v 59)))) <|
            .i (.chk (.cmp .eq (.len (.v 37)) (.len (.v 60)))) <|
            .i (.chk (.cmp .eq (.len (.v 38)) (.len (.v 61)))) <|
            .i (.chk (.cmp .eq (.len (.v 39)) (.len (.v 62)))) <|
            .i (.chk (.cmp .eq (.len (.v 40)) (.len (.v 63)))) <|
            .i (.call f_laws_heldWldWorld [(.vi .i64 (.v 27)), (.s (.v 53)), (.s (.v 54)), (.s (.v 55)), (.s (.v 56)), (.vb (.v 32)), (.vi .i64 (.v 33)), (.s (.v 57)), (.s (.v 58)), (.s (.v 59)), (.s (.v 60)), (.s (.v 61)), (.s (.v 62)), (.s (.v 63)), (.vi .i64 (.z 1))] [.i .i64] 64) <|
            .ite (.cmp .lt (.v 64) (.z 0))
             (
              .done [(.vb .ff)])
             (
              .ite (.not (.cmp .eq (.v 64) (.v 52)))
               (
                .done [(.vb .ff)])
               (
                .i (.call f_laws_toPlnPlan [(.vi .i64 (.v 0)), (.s (.v 1)), (.s (.v 2)), (.s (.v 3))] [.i .i64, .s, .s, .s] 65) <|
                .i (.call f_impl_WldNew [(.vi .i64 (.v 65)), (.s (.v 66)), (.s (.v 67)), (.s (.v 68))] [.i .i64, .s, .s, .s, .s, .b, .i .i64, .s, .s, .s, .s, .s, .s, .s] 69) <|
                .i (.fl (.v 71)) <|
                .i (.fl (.v 72)) <|
                .i (.fl (.v 76)) <|
                .i (.fl (.v 78)) <|
                .i (.fl (.v 81)) <|
                .i (.fl (.v 82)) <|
                .i (.call f_laws_eqWldWorld [(.vi .i64 (.v 69)), (.s (.v 70)), (.s (.v 71)), (.s (.v 72)), (.s (.v 73)), (.vb (.v 74)), (.vi .i64 (.v 75)), (.s (.v 76)), (.s (.v 77)), (.s (.v 78)), (.s (.v 79)), (.s (.v 80)), (.s (.v 81)), (.s (.v 82)), (.vi .i64 (.v 9)), (.s (.v 10)), (.s (.v 11)), (.s (.v 12)), (.s (.v 13)), (.vb (.v 14)), (.vi .i64 (.v 15)), (.s (.v 16)), (.s (.v 17)), (.s (.v 18)), (.s (.v 19)), (.s (.v 20)), (.s (.v 21)), (.s (.v 22))] [.b] 83) <|
                .ite (.not (.v 83))
                 (
                  .done [(.vb .ff)])
                 (
                  .i (.chk (.cmp .eq (.len (.v 28)) (.len (.v 53)))) <|
                  .i (.chk (.cmp .eq (.len (.v 29)) (.len (.v 54)))) <|
                  .i (.chk (.cmp .eq (.len (.v 30)) (.len (.v 55)))) <|
                  .i (.chk (.cmp .eq (.len (.v 31)) (.len (.v 56)))) <|
                  .i (.chk (.cmp .eq (.len (.v 34)) (.len (.v 57)))) <|
                  .i (.chk (.cmp .eq (.len (.v 35)) (.len (.v 58)))) <|
                  .i (.chk (.cmp .eq (.len (.v 36)) (.len (.v 59)))) <|
                  .i (.chk (.cmp .eq (.len (.v 37)) (.len (.v 60)))) <|
                  .i (.chk (.cmp .eq (.len (.v 38)) (.len (.v 61)))) <|
                  .i (.chk (.cmp .eq (.len (.v 39)) (.len (.v 62)))) <|
                  .i (.chk (.cmp .eq (.len (.v 40)) (.len (.v 63)))) <|
                  .i (.call f_laws_heldWldWorld [(.vi .i64 (.v 27)), (.s (.v 53)), (.s (.v 54)), (.s (.v 55)), (.s (.v 56)), (.vb (.v 32)), (.vi .i64 (.v 33)), (.s (.v 57)), (.s (.v 58)), (.s (.v 59)), (.s (.v 60)), (.s (.v 61)), (.s (.v 62)), (.s (.v 63)), (.vi .i64 (.z 1))] [.i .i64] 84) <|
                  .ite (.cmp .lt (.v 84) (.z 0))
                   (
                    .done [(.vb .ff)])
                   (
                    .ite (.not (.cmp .eq (.v 84) (.v 52)))
                     (
                      .done [(.vb .ff)])
                     (
                      .done [(.vb .tt)]))))))))))
def S_laws_szIntS : Sig := .d ⟨[(.one (.s)), (.one (.i .i64))], (.one (.one (.i .i64))), true⟩
def H_laws_szIntS : Hint := ⟨[0, 1, 4, 10], 0, [], [], false, [], []⟩
def E_laws_szIntS : Entry := ⟨S_laws_szIntS, .r H_laws_szIntS R_laws_szIntS⟩
def S_laws_szFrmForm : Sig := .d ⟨[(.g [.s, .s, .i .i64]), (.one (.i .i64))], (.one (.one (.i .i64))), true⟩
def H_laws_szFrmForm : Hint := ⟨[0, 1, 2, 4, 10, 16], 0, [], [], false, [], []⟩
def E_laws_szFrmForm : Entry := ⟨S_laws_szFrmForm, .r H_laws_szFrmForm R_laws_szFrmForm⟩
def S_laws_szActLine : Sig := .d ⟨[(.g [.i .i64, .i .i64, .i .i64, .s, .s, .i .i64]), (.one (.i .i64))], (.one (.one (.i .i64))), true⟩
def H_laws_szActLine : Hint := ⟨[0, 1, 2, 4, 10], 0, [], [], false, [], []⟩
def E_laws_szActLine : Entry := ⟨S_laws_szActLine, .r H_laws_szActLine R_laws_szActLine⟩
def S_laws_szActLineS : Sig := .d ⟨[(.one (.s)), (.one (.i .i64))], (.one (.one (.i .i64))), true⟩
def H_laws_szActLineS : Hint := ⟨[0, 1, 4, 5, 11, 15, 25], 0, [], [(5, ⟨[5, 1], [], [], [], []⟩)], false, [], []⟩
def E_laws_szActLineS : Entry := ⟨S_laws_szActLineS, .r H_laws_szActLineS R_laws_szActLineS⟩
def S_laws_szActLineSS : Sig := .d ⟨[(.one (.s)), (.one (.i .i64))], (.one (.one (.i .i64))), true⟩
def H_laws_szActLineSS : Hint := ⟨[0, 1, 4, 5, 11, 15, 25], 0, [], [(5, ⟨[5, 1], [], [], [], []⟩)], false, [], []⟩
def E_laws_szActLineSS : Entry := ⟨S_laws_szActLineSS, .r H_laws_szActLineSS R_laws_szActLineSS⟩
def S_laws_szPlnPlan : Sig := .d ⟨[(.g [.i .i64, .s, .s, .s]), (.one (.i .i64))], (.one (.one (.i .i64))), true⟩
def H_laws_szPlnPlan : Hint := ⟨[0, 1, 2, 4, 10, 16, 22], 0, [], [], false, [], []⟩
def E_laws_szPlnPlan : Entry := ⟨S_laws_szPlnPlan, .r H_laws_szPlnPlan R_laws_szPlnPlan⟩
def S_laws_toIntS : Sig := .x ⟨[(.d (.s (.v 0)))], [], [.s], (.o 0 (.v 0)), [(.arr 3 1 (.v 0) true true)], [.s], false⟩
def H_laws_toIntS : Hint := ⟨[0, 2, 3, 4, 11], 0, [], [(3, ⟨[4], [], [112], [], []⟩)], true, [], []⟩
def E_laws_toIntS : Entry := ⟨S_laws_toIntS, .r H_laws_toIntS R_laws_toIntS⟩
def S_laws_toFrmForm : Sig := .x ⟨[(.g [(.d (.s (.v 0))), (.d (.s (.v 1))), (.d (.vi .i64 (.v 2)))])], [], [.s, .s, .i .i64], (.g [(.o 0 (.v 0)), (.o 1 (.v 1)), (.d (.vi .i64 (.v 2)))]), [(.arr 3 1 (.v 0) true true), (.arr 3 1 (.v 1) true true)], [.s, .s, .i .i64], false⟩
def H_laws_toFrmForm : Hint := ⟨[0, 1, 2, 3], 0, [], [], true, [], []⟩
def E_laws_toFrmForm : Entry := ⟨S_laws_toFrmForm, .r H_laws_toFrmForm R_laws_toFrmForm⟩
def S_laws_toActLine : Sig := .x ⟨[(.g [(.d (.vi .i64 (.v 0))), (.d (.vi .i64 (.v 1))), (.d (.vi .i64 (.v 2))), (.d (.s (.v 3))), (.d (.s (.v 4))), (.d (.vi .i64 (.v 5)))])], [], [.i .i64, .i .i64, .i .i64, .s, .s, .i .i64], (.g [(.d (.vi .i64 (.v 0))), (.d (.vi .i64 (.v 1))), (.d (.vi .i64 (.v 2))), (.o 0 (.v 3)), (.o 1 (.v 4)), (.d (.vi .i64 (.v 5)))]), [(.arr 3 1 (.v 3) true true), (.arr 3 1 (.v 4) true true)], [.i .i64, .i .i64, .i .i64, .s, .s, .i .i64], false⟩
def H_laws_toActLine : Hint := ⟨[0, 1, 2, 3], 0, [], [], true, [], []⟩
def E_laws_toActLine : Entry := ⟨S_laws_toActLine, .r H_laws_toActLine R_laws_toActLine⟩
def S_laws_toActLineS : Sig := .x ⟨[(.d (.s (.v 0)))], [], [.s], (.o 0 (.v 0)), [(.arr 97 6 (.v 0) true true)], [.s], false⟩
def H_laws_toActLineS : Hint := ⟨[0, 2, 3, 4, 11], 0, [], [(3, ⟨[4], [], [112], [], []⟩)], true, [], []⟩
def E_laws_toActLineS : Entry := ⟨S_laws_toActLineS, .r H_laws_toActLineS R_laws_toActLineS⟩
def S_laws_toActLineSS : Sig := .x ⟨[(.d (.s (.v 0)))], [], [.s], (.o 0 (.v 0)), [(.arr 91 1 (.v 0) true true)], [.s], false⟩
def H_laws_toActLineSS : Hint := ⟨[0, 2, 3, 4, 11], 0, [], [(3, ⟨[4], [], [112], [], []⟩)], true, [], []⟩
def E_laws_toActLineSS : Entry := ⟨S_laws_toActLineSS, .r H_laws_toActLineSS R_laws_toActLineSS⟩
def S_laws_toPlnPlan : Sig := .x ⟨[(.g [(.d (.vi .i64 (.v 0))), (.d (.s (.v 1))), (.d (.s (.v 2))), (.d (.s (.v 3)))])], [], [.i .i64, .s, .s, .s], (.g [(.d (.vi .i64 (.v 0))), (.o 0 (.v 1)), (.o 1 (.v 2)), (.o 2 (.v 3))]), [(.arr 91 1 (.v 1) true true), (.arr 3 1 (.v 2) true true), (.arr 3 1 (.v 3) true true)], [.i .i64, .s, .s, .s], false⟩
def H_laws_toPlnPlan : Hint := ⟨[0, 1, 2, 3], 0, [], [], true, [], []⟩
def E_laws_toPlnPlan : Entry := ⟨S_laws_toPlnPlan, .r H_laws_toPlnPlan R_laws_toPlnPlan⟩
def S_spec_l1In : Sig := .d ⟨[(.one (.i .i64)), (.one (.i .i64)), (.one (.i .i64))], (.one (.one (.b))), true⟩
def H_spec_l1In : Hint := ⟨[0, 1, 2, 6], 0, [], [], false, [], []⟩
def E_spec_l1In : Entry := ⟨S_spec_l1In, .r H_spec_l1In R_spec_l1In⟩
def S_spec_l1All : Sig := .d ⟨[(.one (.s)), (.one (.i .i64)), (.one (.i .i64))], (.one (.one (.b))), true⟩
def H_spec_l1All : Hint := ⟨[0, 1, 2, 6, 7, 11, 15, 26], 0, [], [(4, ⟨[7], [], [], [], []⟩)], false, [], []⟩
def E_spec_l1All : Entry := ⟨S_spec_l1All, .r H_spec_l1All R_spec_l1All⟩
def S_spec_l2Small : Sig := .d ⟨[(.g [.s, .s, .i .i64])], (.one (.one (.b))), true⟩
def H_spec_l2Small : Hint := ⟨[0, 1, 2], 0, [], [], false, [], []⟩
def E_spec_l2Small : Entry := ⟨S_spec_l2Small, .r H_spec_l2Small R_spec_l2Small⟩
def S_spec_l2Line : Sig := .d ⟨[(.g [.i .i64, .i .i64, .i .i64, .s, .s, .i .i64])], (.one (.one (.b))), true⟩
def H_spec_l2Line : Hint := ⟨[0, 1, 2, 4, 5, 20, 35], 0, [], [], false, [], []⟩
def E_spec_l2Line : Entry := ⟨S_spec_l2Line, .r H_spec_l2Line R_spec_l2Line⟩
def S_spec_ActOk : Sig := .d ⟨[(.one (.s))], (.one (.one (.b))), true⟩
def H_spec_ActOk : Hint := ⟨[0, 2, 3, 4, 8, 16, 22], 0, [], [(3, ⟨[4, 3], [], [], [], []⟩)], false, [], []⟩
def E_spec_ActOk : Entry := ⟨S_spec_ActOk, .r H_spec_ActOk R_spec_ActOk⟩
def S_spec_CatOk : Sig := .d ⟨[(.one (.s))], (.one (.one (.b))), true⟩
def H_spec_CatOk : Hint := ⟨[0, 2, 3, 7, 11, 19], 0, [], [(4, ⟨[3], [], [], [], []⟩)], false, [], []⟩
def E_spec_CatOk : Entry := ⟨S_spec_CatOk, .r H_spec_CatOk R_spec_CatOk⟩
def S_spec_ValOk : Sig := .d ⟨[(.one (.s))], (.one (.one (.b))), true⟩
def H_spec_ValOk : Hint := ⟨[0, 2], 0, [], [], false, [], []⟩
def E_spec_ValOk : Entry := ⟨S_spec_ValOk, .r H_spec_ValOk R_spec_ValOk⟩
def S_spec_TrtOk : Sig := .d ⟨[(.g [.s, .s])], (.one (.one (.b))), true⟩
def H_spec_TrtOk : Hint := ⟨[0, 1, 2, 3, 14, 19, 28], 0, [], [(4, ⟨[3], [], [], [], []⟩)], false, [], []⟩
def E_spec_TrtOk : Entry := ⟨S_spec_TrtOk, .r H_spec_TrtOk R_spec_TrtOk⟩
def S_spec_PlnOk : Sig := .d ⟨[(.g [.i .i64, .s, .s, .s])], (.one (.one (.b))), true⟩
def H_spec_PlnOk : Hint := ⟨[0, 1, 2], 0, [], [], false, [], []⟩
def E_spec_PlnOk : Entry := ⟨S_spec_PlnOk, .r H_spec_PlnOk R_spec_PlnOk⟩
def S_spec_l6CopyActs : Sig := .x ⟨[(.d (.s (.v 0)))], [], [.s], (.o 0 (.v 0)), [(.arr 91 1 (.v 0) false true)], [.s], false⟩
def H_spec_l6CopyActs : Hint := ⟨[0, 2, 3, 4, 5, 6, 7, 12, 22], 0, [], [(3, ⟨[4], [], [128], [], []⟩), (7, ⟨[6], [], [240], [], []⟩)], false, [], []⟩
def E_spec_l6CopyActs : Entry := ⟨S_spec_l6CopyActs, .r H_spec_l6CopyActs R_spec_l6CopyActs⟩
def S_spec_l6Copy : Sig := .x ⟨[(.g [(.d (.vi .i64 (.v 0))), (.d (.s (.v 1))), (.d (.s (.v 2))), (.d (.s (.v 3)))])], [], [.i .i64, .s, .s, .s], (.g [(.d (.vi .i64 (.v 0))), (.o 0 (.v 1)), (.o 1 (.v 2)), (.o 2 (.v 3))]), [(.arr 91 1 (.v 1) false true), (.arr 3 1 (.v 2) false true), (.arr 3 1 (.v 3) false true)], [.i .i64, .s, .s, .s], false⟩
def H_spec_l6Copy : Hint := ⟨[0, 1, 2], 0, [], [], false, [], []⟩
def E_spec_l6Copy : Entry := ⟨S_spec_l6Copy, .r H_spec_l6Copy R_spec_l6Copy⟩
def S_spec_l6New : Sig := .x ⟨[(.g [(.d (.vi .i64 (.v 0))), (.d (.s (.v 1))), (.d (.s (.v 2))), (.d (.s (.v 3)))])], [], [.i .i64, .s, .s, .s], (.o 0 (.v 0)), [(.arr 122 3 (.v 0) false true)], [.s], false⟩
def H_spec_l6New : Hint := ⟨[0, 1, 2, 3, 4, 9], 0, [], [(3, ⟨[4], [], [80], [], []⟩)], false, [], []⟩
def E_spec_l6New : Entry := ⟨S_spec_l6New, .r H_spec_l6New R_spec_l6New⟩
def S_spec_l9None : Sig := .x ⟨[(.g [(.d (.vi .i64 (.v 0))), (.d (.s (.v 1))), (.d (.s (.v 2))), (.d (.s (.v 3)))])], [], [.i .i64, .s, .s, .s], (.o 0 (.v 0)), [(.arr 124 3 (.v 0) false true)], [.s], false⟩
def H_spec_l9None : Hint := ⟨[0, 1, 2, 3, 4, 10], 0, [], [(3, ⟨[4], [], [80], [], []⟩)], false, [], []⟩
def E_spec_l9None : Entry := ⟨S_spec_l9None, .r H_spec_l9None R_spec_l9None⟩
def S_spec_ClkNew : Sig := .x ⟨[(.g [(.d (.vi .i64 (.v 0))), (.d (.s (.v 1))), (.d (.s (.v 2))), (.d (.s (.v 3)))])], [], [.i .i64, .s, .s, .s], (.g [(.d (.vb (.v 0))), (.d (.vi .i64 (.v 1))), (.o 0 (.v 2)), (.o 1 (.v 3)), (.o 2 (.v 4)), (.o 3 (.v 5))]), [(.arr 3 1 (.v 2) false true), (.arr 122 3 (.v 3) false true), (.arr 57 4 (.v 4) false true), (.arr 124 3 (.v 5) false true)], [.b, .i .i64, .s, .s, .s, .s], false⟩
def H_spec_ClkNew : Hint := ⟨[0, 1, 2, 5], 0, [(999999, ⟨(.cell 32 2), 900000, 3, 1, false, false⟩), (999999, ⟨(.cell 32 3), 900001, 122, 3, false, false⟩), (999999, ⟨(.cell 32 4), 900002, 57, 4, false, false⟩), (999999, ⟨(.cell 32 5), 900003, 124, 3, false, false⟩)], [], false, [], []⟩
def E_spec_ClkNew : Entry := ⟨S_spec_ClkNew, .r H_spec_ClkNew R_spec_ClkNew⟩
def S_spec_SitNew : Sig := .x ⟨[(.g [(.d (.vi .i64 (.v 0))), (.d (.s (.v 1))), (.d (.s (.v 2))), (.d (.s (.v 3)))])], [], [.i .i64, .s, .s, .s], (.g [(.d (.vb (.v 0))), (.d (.vb (.v 1))), (.d (.vi .i64 (.v 2))), (.o 0 (.v 3)), (.o 1 (.v 4)), (.o 2 (.v 5))]), [(.arr 3 1 (.v 3) false true), (.arr 3 1 (.v 4) false true), (.arr 122 3 (.v 5) false true)], [.b, .b, .i .i64, .s, .s, .s], false⟩
def H_spec_SitNew : Hint := ⟨[0, 1, 2, 5], 0, [(999999, ⟨(.cell 32 3), 900000, 3, 1, false, false⟩), (999999, ⟨(.cell 32 4), 900001, 3, 1, false, false⟩), (999999, ⟨(.cell 32 5), 900002, 122, 3, false, false⟩)], [], false, [], []⟩
def E_spec_SitNew : Entry := ⟨S_spec_SitNew, .r H_spec_SitNew R_spec_SitNew⟩
def S_spec_WldNew : Sig := .x ⟨[(.g [(.d (.vi .i64 (.v 0))), (.d (.s (.v 1))), (.d (.s (.v 2))), (.d (.s (.v 3)))])], [], [.i .i64, .s, .s, .s], (.g [(.d (.vi .i64 (.v 0))), (.o 0 (.v 1)), (.o 1 (.v 2)), (.o 2 (.v 3)), (.o 3 (.v 4)), (.d (.vb (.v 5))), (.d (.vi .i64 (.v 6))), (.o 4 (.v 7)), (.o 5 (.v 8)), (.o 6 (.v 9)), (.o 7 (.v 10)), (.o 8 (.v 11)), (.o 9 (.v 12)), (.o 10 (.v 13))]), [(.arr 91 1 (.v 1) false true), (.arr 3 1 (.v 2) false true), (.arr 3 1 (.v 3) false true), (.arr 54 6 (.v 4) false true), (.arr 3 1 (.v 7) false true), (.arr 122 3 (.v 8) false true), (.arr 57 4 (.v 9) false true), (.arr 124 3 (.v 10) false true), (.arr 61 8 (.v 11) false true), (.arr 106 11 (.v 12) false true), (.arr 109 6 (.v 13) false true)], [.i .i64, .s, .s, .s, .s, .b, .i .i64, .s, .s, .s, .s, .s, .s, .s], false⟩
def H_spec_WldNew : Hint := ⟨[0, 1, 2, 3, 4, 5, 8, 19, 32], 0, [(9, ⟨(.cell 48 11), 67, 61, 8, false, false⟩), (5, ⟨(.cell 48 4), 60, 54, 6, false, false⟩), (999999, ⟨(.cell 32 1), 900000, 91, 1, false, false⟩), (999999, ⟨(.cell 32 2), 900001, 3, 1, false, false⟩), (999999, ⟨(.cell 32 3), 900002, 3, 1, false, false⟩), (999999, ⟨(.cell 32 4), 900003, 54, 6, false, false⟩), (999999, ⟨(.cell 32 7), 900004, 3, 1, false, false⟩), (999999, ⟨(.cell 32 8), 900005, 122, 3, false, false⟩), (999999, ⟨(.cell 32 9), 900006, 57, 4, false, false⟩), (999999, ⟨(.cell 32 10), 900007, 124, 3, false, false⟩), (999999, ⟨(.cell 32 11), 900008, 61, 8, false, false⟩), (999999, ⟨(.cell 32 12), 900009, 106, 11, false, false⟩), (999999, ⟨(.cell 32 13), 900010, 109, 6, false, false⟩)], [(9, ⟨[5], [], [67], [], []⟩), (5, ⟨[4], [], [60], [], []⟩)], false, [], []⟩
def E_spec_WldNew : Entry := ⟨S_spec_WldNew, .r H_spec_WldNew R_spec_WldNew⟩
def S_impl_in : Sig := .d ⟨[(.one (.i .i64)), (.one (.i .i64)), (.one (.i .i64))], (.one (.one (.b))), true⟩
def H_impl_in : Hint := ⟨[0, 1, 2, 6], 0, [], [], false, [], []⟩
def E_impl_in : Entry := ⟨S_impl_in, .r H_impl_in R_impl_in⟩
def S_slices_IndexFunc_SSimpl_ActLine_Simpl_ActLine : Sig := .d ⟨[(.one (.s)), (.one (.d))], (.one (.one (.i .i64))), true⟩
def H_slices_IndexFunc_SSimpl_ActLine_Simpl_ActLine : Hint := ⟨[0, 1, 4, 5, 7, 8, 9, 16], 0, [], [(2, ⟨[8], [], [], [], []⟩)], false, [], []⟩
def E_slices_IndexFunc_SSimpl_ActLine_Simpl_ActLine : Entry := ⟨S_slices_IndexFunc_SSimpl_ActLine_Simpl_ActLine, .r H_slices_IndexFunc_SSimpl_ActLine_Simpl_ActLine R_slices_IndexFunc_SSimpl_ActLine_Simpl_ActLine⟩
def S_slices_ContainsFunc_SSimpl_ActLine_Simpl_ActLine : Sig := .d ⟨[(.one (.s)), (.one (.d))], (.one (.one (.b))), true⟩
def H_slices_ContainsFunc_SSimpl_ActLine_Simpl_ActLine : Hint := ⟨[0, 1, 4], 0, [], [], false, [], []⟩
def E_slices_ContainsFunc_SSimpl_ActLine_Simpl_ActLine : Entry := ⟨S_slices_ContainsFunc_SSimpl_ActLine_Simpl_ActLine, .r H_slices_ContainsFunc_SSimpl_ActLine_Simpl_ActLine R_slices_ContainsFunc_SSimpl_ActLine_Simpl_ActLine⟩
def S_impl_within_1 : Sig := .d ⟨[(.one (.i .i64)), (.one (.d))], (.one (.one (.b))), true⟩
def H_impl_within_1 : Hint := ⟨[0, 1, 3], 0, [], [], false, [], []⟩
def E_impl_within_1 : Entry := ⟨S_impl_within_1, .r H_impl_within_1 R_impl_within_1⟩
def S_slices_IndexFunc_Sint_int : Sig := .d ⟨[(.one (.s)), (.one (.d))], (.one (.one (.i .i64))), true⟩
def H_slices_IndexFunc_Sint_int : Hint := ⟨[0, 1, 4, 5, 7, 8, 9, 16], 0, [], [(2, ⟨[8], [], [], [], []⟩)], false, [], []⟩
def E_slices_IndexFunc_Sint_int : Entry := ⟨S_slices_IndexFunc_Sint_int, .r H_slices_IndexFunc_Sint_int R_slices_IndexFunc_Sint_int⟩
def S_slices_ContainsFunc_Sint_int : Sig := .d ⟨[(.one (.s)), (.one (.d))], (.one (.one (.b))), true⟩
def H_slices_ContainsFunc_Sint_int : Hint := ⟨[0, 1, 4], 0, [], [], false, [], []⟩
def E_slices_ContainsFunc_Sint_int : Entry := ⟨S_slices_ContainsFunc_Sint_int, .r H_slices_ContainsFunc_Sint_int R_slices_ContainsFunc_Sint_int⟩
def S_impl_within : Sig := .d ⟨[(.one (.s)), (.one (.i .i64)), (.one (.i .i64))], (.one (.one (.b))), true⟩
def H_impl_within : Hint := ⟨[0, 1, 2, 5, 6], 0, [], [], false, [], []⟩
def E_impl_within : Entry := ⟨S_impl_within, .r H_impl_within R_impl_within⟩
def S_impl_FrmForm_small : Sig := .d ⟨[(.g [.s, .s, .i .i64])], (.one (.one (.b))), true⟩
def H_impl_FrmForm_small : Hint := ⟨[0, 1, 2], 0, [], [], false, [], []⟩
def E_impl_FrmForm_small : Entry := ⟨S_impl_FrmForm_small, .r H_impl_FrmForm_small R_impl_FrmForm_small⟩
def S_slices_Equal_Sint_int : Sig := .d ⟨[(.one (.s)), (.one (.s))], (.one (.one (.b))), true⟩
def H_slices_Equal_Sint_int : Hint := ⟨[0, 1, 4, 5, 10, 12, 13, 14, 24], 0, [], [(4, ⟨[13], [], [], [], []⟩)], false, [], []⟩
def E_slices_Equal_Sint_int : Entry := ⟨S_slices_Equal_Sint_int, .r H_slices_Equal_Sint_int R_slices_Equal_Sint_int⟩
def S_impl_FrmForm_same : Sig := .d ⟨[(.g [.s, .s, .i .i64]), (.g [.s, .s, .i .i64])], (.one (.one (.b))), true⟩
def H_impl_FrmForm_same : Hint := ⟨[0, 1, 2, 3, 4], 0, [], [], false, [], []⟩
def E_impl_FrmForm_same : Entry := ⟨S_impl_FrmForm_same, .r H_impl_FrmForm_same R_impl_FrmForm_same⟩
def S_impl_ActLine_ok : Sig := .d ⟨[(.g [.i .i64, .i .i64, .i .i64, .s, .s, .i .i64])], (.one (.one (.b))), true⟩
def H_impl_ActLine_ok : Hint := ⟨[0, 1, 2, 4, 5, 20, 35, 50], 0, [], [], false, [], []⟩
def E_impl_ActLine_ok : Entry := ⟨S_impl_ActLine_ok, .r H_impl_ActLine_ok R_impl_ActLine_ok⟩
def S_impl_ActOk : Sig := .d ⟨[(.one (.s))], (.one (.one (.b))), true⟩
def H_impl_ActOk : Hint := ⟨[0, 2, 3, 5, 6, 7, 8, 9, 14, 17], 0, [], [(3, ⟨[8, 3], [], [], [], []⟩)], false, [], []⟩
def E_impl_ActOk : Entry := ⟨S_impl_ActOk, .r H_impl_ActOk R_impl_ActOk⟩
def S_impl_CatOk_1 : Sig := .d ⟨[(.one (.s))], (.one (.one (.b))), true⟩
def H_impl_CatOk_1 : Hint := ⟨[0, 2], 0, [], [], false, [], []⟩
def E_impl_CatOk_1 : Entry := ⟨S_impl_CatOk_1, .r H_impl_CatOk_1 R_impl_CatOk_1⟩
def S_impl_CatOk : Sig := .d ⟨[(.one (.s))], (.one (.one (.b))), true⟩
def H_impl_CatOk : Hint := ⟨[0, 2], 0, [], [], false, [], []⟩
def E_impl_CatOk : Entry := ⟨S_impl_CatOk, .r H_impl_CatOk R_impl_CatOk⟩
def S_impl_PlnPlan_treaty : Sig := .d ⟨[(.g [.i .i64, .s, .s, .s]), (.one (.s))], (.one (.g [.s, .s])), false⟩
def H_impl_PlnPlan_treaty : Hint := ⟨[0, 1, 2, 4], 0, [], [], false, [], []⟩
def E_impl_PlnPlan_treaty : Entry := ⟨S_impl_PlnPlan_treaty, .r H_impl_PlnPlan_treaty R_impl_PlnPlan_treaty⟩
def S_impl_TrtOk_1 : Sig := .d ⟨[(.one (.i .i64))], (.one (.one (.b))), true⟩
def H_impl_TrtOk_1 : Hint := ⟨[0, 2], 0, [], [], false, [], []⟩
def E_impl_TrtOk_1 : Entry := ⟨S_impl_TrtOk_1, .r H_impl_TrtOk_1 R_impl_TrtOk_1⟩
def S_impl_ValOk : Sig := .d ⟨[(.one (.s))], (.one (.one (.b))), true⟩
def H_impl_ValOk : Hint := ⟨[0, 2], 0, [], [], false, [], []⟩
def E_impl_ValOk : Entry := ⟨S_impl_ValOk, .r H_impl_ValOk R_impl_ValOk⟩
def S_impl_TrtOk : Sig := .d ⟨[(.g [.s, .s])], (.one (.one (.b))), true⟩
def H_impl_TrtOk : Hint := ⟨[0, 1, 2, 3], 0, [], [], false, [], []⟩
def E_impl_TrtOk : Entry := ⟨S_impl_TrtOk, .r H_impl_TrtOk R_impl_TrtOk⟩
def S_impl_PlnOk : Sig := .d ⟨[(.g [.i .i64, .s, .s, .s])], (.one (.one (.b))), true⟩
def H_impl_PlnOk : Hint := ⟨[0, 1, 2], 0, [], [], false, [], []⟩
def E_impl_PlnOk : Entry := ⟨S_impl_PlnOk, .r H_impl_PlnOk R_impl_PlnOk⟩
def S_slices_Clone_Sint_int : Sig := .x ⟨[(.d (.s (.v 0)))], [], [.s], (.o 0 (.v 0)), [(.arr 3 1 (.v 0) false true)], [.s], false⟩
def H_slices_Clone_Sint_int : Hint := ⟨[0, 2, 4], 0, [(999999, ⟨(.slot 2), 900000, 3, 1, false, false⟩)], [], false, [], []⟩
def E_slices_Clone_Sint_int : Entry := ⟨S_slices_Clone_Sint_int, .r H_slices_Clone_Sint_int R_slices_Clone_Sint_int⟩
def S_impl_FrmForm_copied : Sig := .x ⟨[(.g [(.d (.s (.v 0))), (.d (.s (.v 1))), (.d (.vi .i64 (.v 2)))])], [], [.s, .s, .i .i64], (.g [(.o 0 (.v 0)), (.o 1 (.v 1)), (.d (.vi .i64 (.v 2)))]), [(.arr 3 1 (.v 0) false true), (.arr 3 1 (.v 1) false true)], [.s, .s, .i .i64], false⟩
def H_impl_FrmForm_copied : Hint := ⟨[0, 1, 2], 0, [], [], false, [], []⟩
def E_impl_FrmForm_copied : Entry := ⟨S_impl_FrmForm_copied, .r H_impl_FrmForm_copied R_impl_FrmForm_copied⟩
def S_impl_PlnPlan_copied : Sig := .x ⟨[(.g [(.d (.vi .i64 (.v 0))), (.d (.s (.v 1))), (.d (.s (.v 2))), (.d (.s (.v 3)))])], [], [.i .i64, .s, .s, .s], (.g [(.d (.vi .i64 (.v 0))), (.o 0 (.v 1)), (.o 1 (.v 2)), (.o 2 (.v 3))]), [(.arr 91 1 (.v 1) true true), (.arr 3 1 (.v 2) false true), (.arr 3 1 (.v 3) false true)], [.i .i64, .s, .s, .s], false⟩
def H_impl_PlnPlan_copied : Hint := ⟨[0, 1, 2, 3, 5, 6, 8, 10, 11, 12, 13, 16, 17, 18, 19], 0, [(3, ⟨(.slot 3), 63, 91, 1, true, false⟩), (7, ⟨(.slot 6), 111, 97, 6, true, false⟩)], [(3, ⟨[12], [], [63], [], []⟩), (7, ⟨[18], [], [111], [], []⟩)], true, [], []⟩
def E_impl_PlnPlan_copied : Entry := ⟨S_impl_PlnPlan_copied, .r H_impl_PlnPlan_copied R_impl_PlnPlan_copied⟩
def S_impl_PlnPlan_clerkNew : Sig := .x ⟨[(.g [(.d (.vi .i64 (.v 0))), (.d (.s (.v 1))), (.d (.s (.v 2))), (.d (.s (.v 3)))])], [], [.i .i64, .s, .s, .s], (.g [(.d (.vb (.v 0))), (.d (.vi .i64 (.v 1))), (.o 0 (.v 2)), (.o 1 (.v 3)), (.o 2 (.v 4)), (.o 3 (.v 5))]), [(.arr 3 1 (.v 2) false true), (.arr 122 3 (.v 3) true true), (.arr 57 4 (.v 4) false true), (.arr 124 3 (.v 5) true true)], [.b, .i .i64, .s, .s, .s, .s], false⟩
def H_impl_PlnPlan_clerkNew : Hint := ⟨[0, 1, 2], 0, [(999999, ⟨(.cell 32 4), 900000, 57, 4, false, false⟩)], [], true, [], []⟩
def E_impl_PlnPlan_clerkNew : Entry := ⟨S_impl_PlnPlan_clerkNew, .r H_impl_PlnPlan_clerkNew R_impl_PlnPlan_clerkNew⟩
def S_impl_PlnPlan_siteNew : Sig := .x ⟨[(.g [(.d (.vi .i64 (.v 0))), (.d (.s (.v 1))), (.d (.s (.v 2))), (.d (.s (.v 3)))])], [], [.i .i64, .s, .s, .s], (.g [(.d (.vb (.v 0))), (.d (.vb (.v 1))), (.d (.vi .i64 (.v 2))), (.o 0 (.v 3)), (.o 1 (.v 4)), (.o 2 (.v 5))]), [(.arr 3 1 (.v 3) false true), (.arr 3 1 (.v 4) true true), (.arr 122 3 (.v 5) true true)], [.b, .b, .i .i64, .s, .s, .s], false⟩
def H_impl_PlnPlan_siteNew : Hint := ⟨[0, 1, 2], 0, [], [], true, [], []⟩
def E_impl_PlnPlan_siteNew : Entry := ⟨S_impl_PlnPlan_siteNew, .r H_impl_PlnPlan_siteNew R_impl_PlnPlan_siteNew⟩
def S_impl_WldNew : Sig := .x ⟨[(.g [(.d (.vi .i64 (.v 0))), (.d (.s (.v 1))), (.d (.s (.v 2))), (.d (.s (.v 3)))])], [], [.i .i64, .s, .s, .s], (.g [(.d (.vi .i64 (.v 0))), (.o 0 (.v 1)), (.o 1 (.v 2)), (.o 2 (.v 3)), (.o 3 (.v 4)), (.d (.vb (.v 5))), (.d (.vi .i64 (.v 6))), (.o 4 (.v 7)), (.o 5 (.v 8)), (.o 6 (.v 9)), (.o 7 (.v 10)), (.o 8 (.v 11)), (.o 9 (.v 12)), (.o 10 (.v 13))]), [(.arr 91 1 (.v 1) true true), (.arr 3 1 (.v 2) false true), (.arr 3 1 (.v 3) false true), (.arr 54 6 (.v 4) true true), (.arr 3 1 (.v 7) false true), (.arr 122 3 (.v 8) true true), (.arr 57 4 (.v 9) false true), (.arr 124 3 (.v 10) true true), (.arr 61 8 (.v 11) true true), (.arr 106 11 (.v 12) false true), (.arr 109 6 (.v 13) false true)], [.i .i64, .s, .s, .s, .s, .b, .i .i64, .s, .s, .s, .s, .s, .s, .s], true⟩
def H_impl_WldNew : Hint := ⟨[0, 1, 2, 3, 6, 18, 19, 20], 0, [(5, ⟨(.cell 48 4), 60, 54, 6, true, false⟩), (999999, ⟨(.cell 32 1), 900000, 91, 1, true, false⟩), (999999, ⟨(.cell 32 2), 900001, 3, 1, false, false⟩), (999999, ⟨(.cell 32 3), 900002, 3, 1, false, false⟩), (999999, ⟨(.cell 32 4), 900003, 54, 6, true, false⟩), (999999, ⟨(.cell 32 7), 900004, 3, 1, false, false⟩), (999999, ⟨(.cell 32 8), 900005, 122, 3, true, false⟩), (999999, ⟨(.cell 32 9), 900006, 57, 4, false, false⟩), (999999, ⟨(.cell 32 10), 900007, 124, 3, true, false⟩), (999999, ⟨(.cell 32 11), 900008, 61, 8, true, false⟩), (999999, ⟨(.cell 32 12), 900009, 106, 11, false, false⟩), (999999, ⟨(.cell 32 13), 900010, 109, 6, false, false⟩)], [(5, ⟨[19], [], [60], [], []⟩)], true, [], []⟩
def E_impl_WldNew : Entry := ⟨S_impl_WldNew, .r H_impl_WldNew R_impl_WldNew⟩
def S_laws_eqIntS : Sig := .d ⟨[(.one (.s)), (.one (.s))], (.one (.one (.b))), true⟩
def H_laws_eqIntS : Hint := ⟨[0, 1, 4, 5, 10, 14, 25], 0, [], [(4, ⟨[5], [], [], [], []⟩)], false, [], []⟩
def E_laws_eqIntS : Entry := ⟨S_laws_eqIntS, .r H_laws_eqIntS R_laws_eqIntS⟩
def S_laws_eqFrmForm : Sig := .d ⟨[(.g [.s, .s, .i .i64]), (.g [.s, .s, .i .i64])], (.one (.one (.b))), true⟩
def H_laws_eqFrmForm : Hint := ⟨[0, 1, 2, 3, 4, 10, 16, 21], 0, [], [], false, [], []⟩
def E_laws_eqFrmForm : Entry := ⟨S_laws_eqFrmForm, .r H_laws_eqFrmForm R_laws_eqFrmForm⟩
def S_laws_eqActLine : Sig := .d ⟨[(.g [.i .i64, .i .i64, .i .i64, .s, .s, .i .i64]), (.g [.i .i64, .i .i64, .i .i64, .s, .s, .i .i64])], (.one (.one (.b))), true⟩
def H_laws_eqActLine : Hint := ⟨[0, 1, 2, 3, 4, 9, 14, 19, 25], 0, [], [], false, [], []⟩
def E_laws_eqActLine : Entry := ⟨S_laws_eqActLine, .r H_laws_eqActLine R_laws_eqActLine⟩
def S_laws_eqActLineS : Sig := .d ⟨[(.one (.s)), (.one (.s))], (.one (.one (.b))), true⟩
def H_laws_eqActLineS : Hint := ⟨[0, 1, 4, 5, 10, 14, 26], 0, [], [(4, ⟨[5], [], [], [], []⟩)], false, [], []⟩
def E_laws_eqActLineS : Entry := ⟨S_laws_eqActLineS, .r H_laws_eqActLineS R_laws_eqActLineS⟩
def S_laws_eqActLineSS : Sig := .d ⟨[(.one (.s)), (.one (.s))], (.one (.one (.b))), true⟩
def H_laws_eqActLineSS : Hint := ⟨[0, 1, 4, 5, 10, 14, 26], 0, [], [(4, ⟨[5], [], [], [], []⟩)], false, [], []⟩
def E_laws_eqActLineSS : Entry := ⟨S_laws_eqActLineSS, .r H_laws_eqActLineSS R_laws_eqActLineSS⟩
def S_laws_eqPlnPlan : Sig := .d ⟨[(.g [.i .i64, .s, .s, .s]), (.g [.i .i64, .s, .s, .s])], (.one (.one (.b))), true⟩
def H_laws_eqPlnPlan : Hint := ⟨[0, 1, 2, 3, 4, 9, 15, 21, 27], 0, [], [], false, [], []⟩
def E_laws_eqPlnPlan : Entry := ⟨S_laws_eqPlnPlan, .r H_laws_eqPlnPlan R_laws_eqPlnPlan⟩
def S_laws_eqResResult : Sig := .d ⟨[(.g [.i .i64, .s]), (.g [.i .i64, .s])], (.one (.one (.b))), true⟩
def H_laws_eqResResult : Hint := ⟨[0, 1, 2, 3, 4, 9, 15], 0, [], [], false, [], []⟩
def E_laws_eqResResult : Entry := ⟨S_laws_eqResResult, .r H_laws_eqResResult R_laws_eqResResult⟩
def S_laws_eqPlnDone : Sig := .d ⟨[(.g [.i .i64, .i .i64, .s]), (.g [.i .i64, .i .i64, .s])], (.one (.one (.b))), true⟩
def H_laws_eqPlnDone : Hint := ⟨[0, 1, 2, 3, 4, 9, 15], 0, [], [], false, [], []⟩
def E_laws_eqPlnDone : Entry := ⟨S_laws_eqPlnDone, .r H_laws_eqPlnDone R_laws_eqPlnDone⟩
def S_laws_eqPlnDoneS : Sig := .d ⟨[(.one (.s)), (.one (.s))], (.one (.one (.b))), true⟩
def H_laws_eqPlnDoneS : Hint := ⟨[0, 1, 4, 5, 10, 14, 26], 0, [], [(4, ⟨[5], [], [], [], []⟩)], false, [], []⟩
def E_laws_eqPlnDoneS : Entry := ⟨S_laws_eqPlnDoneS, .r H_laws_eqPlnDoneS R_laws_eqPlnDoneS⟩
def S_laws_eqSitSite : Sig := .d ⟨[(.g [.b, .b, .i .i64, .s, .s, .s]), (.g [.b, .b, .i .i64, .s, .s, .s])], (.one (.one (.b))), true⟩
def H_laws_eqSitSite : Hint := ⟨[0, 1, 2, 3, 4, 9, 14, 19, 25, 31, 37], 0, [], [], false, [], []⟩
def E_laws_eqSitSite : Entry := ⟨S_laws_eqSitSite, .r H_laws_eqSitSite R_laws_eqSitSite⟩
def S_laws_eqSitSiteS : Sig := .d ⟨[(.one (.s)), (.one (.s))], (.one (.one (.b))), true⟩
def H_laws_eqSitSiteS : Hint := ⟨[0, 1, 4, 5, 10, 14, 26], 0, [], [(4, ⟨[5], [], [], [], []⟩)], false, [], []⟩
def E_laws_eqSitSiteS : Entry := ⟨S_laws_eqSitSiteS, .r H_laws_eqSitSiteS R_laws_eqSitSiteS⟩
def S_laws_eqPlnCall : Sig := .d ⟨[(.g [.i .i64, .i .i64, .i .i64, .s]), (.g [.i .i64, .i .i64, .i .i64, .s])], (.one (.one (.b))), true⟩
def H_laws_eqPlnCall : Hint := ⟨[0, 1, 2, 3, 4, 9, 14, 19, 25], 0, [], [], false, [], []⟩
def E_laws_eqPlnCall : Entry := ⟨S_laws_eqPlnCall, .r H_laws_eqPlnCall R_laws_eqPlnCall⟩
def S_laws_eqPlnCallS : Sig := .d ⟨[(.one (.s)), (.one (.s))], (.one (.one (.b))), true⟩
def H_laws_eqPlnCallS : Hint := ⟨[0, 1, 4, 5, 10, 14, 26], 0, [], [(4, ⟨[5], [], [], [], []⟩)], false, [], []⟩
def E_laws_eqPlnCallS : Entry := ⟨S_laws_eqPlnCallS, .r H_laws_eqPlnCallS R_laws_eqPlnCallS⟩
def S_laws_eqClkGot : Sig := .d ⟨[(.g [.b, .s, .s]), (.g [.b, .s, .s])], (.one (.one (.b))), true⟩
def H_laws_eqClkGot : Hint := ⟨[0, 1, 2, 3, 4, 9, 15, 21], 0, [], [], false, [], []⟩
def E_laws_eqClkGot : Entry := ⟨S_laws_eqClkGot, .r H_laws_eqClkGot R_laws_eqClkGot⟩
def S_laws_eqClkGotS : Sig := .d ⟨[(.one (.s)), (.one (.s))], (.one (.one (.b))), true⟩
def H_laws_eqClkGotS : Hint := ⟨[0, 1, 4, 5, 10, 14, 26], 0, [], [(4, ⟨[5], [], [], [], []⟩)], false, [], []⟩
def E_laws_eqClkGotS : Entry := ⟨S_laws_eqClkGotS, .r H_laws_eqClkGotS R_laws_eqClkGotS⟩
def S_laws_eqClkClerk : Sig := .d ⟨[(.g [.b, .i .i64, .s, .s, .s, .s]), (.g [.b, .i .i64, .s, .s, .s, .s])], (.one (.one (.b))), true⟩
def H_laws_eqClkClerk : Hint := ⟨[0, 1, 2, 3, 4, 9, 14, 20, 26, 32, 38], 0, [], [], false, [], []⟩
def E_laws_eqClkClerk : Entry := ⟨S_laws_eqClkClerk, .r H_laws_eqClkClerk R_laws_eqClkClerk⟩
def S_laws_eqConClient : Sig := .d ⟨[(.g [.i .i64, .b, .i .i64, .i .i64, .i .i64, .s, .i .i64, .s]), (.g [.i .i64, .b, .i .i64, .i .i64, .i .i64, .s, .i .i64, .s])], (.one (.one (.b))), true⟩
def H_laws_eqConClient : Hint := ⟨[0, 1, 2, 3, 4, 9, 14, 20, 26], 0, [], [], false, [], []⟩
def E_laws_eqConClient : Entry := ⟨S_laws_eqConClient, .r H_laws_eqConClient R_laws_eqConClient⟩
def S_laws_eqConClientS : Sig := .d ⟨[(.one (.s)), (.one (.s))], (.one (.one (.b))), true⟩
def H_laws_eqConClientS : Hint := ⟨[0, 1, 4, 5, 10, 14, 26], 0, [], [(4, ⟨[5], [], [], [], []⟩)], false, [], []⟩
def E_laws_eqConClientS : Entry := ⟨S_laws_eqConClientS, .r H_laws_eqConClientS R_laws_eqConClientS⟩
def S_laws_eqMsgMsg : Sig := .d ⟨[(.g [.i .i64, .i .i64, .i .i64, .i .i64, .i .i64, .i .i64, .i .i64, .s, .s, .s, .s]), (.g [.i .i64, .i .i64, .i .i64, .i .i64, .i .i64, .i .i64, .i .i64, .s, .s, .s, .s])], (.one (.one (.b))), true⟩
def H_laws_eqMsgMsg : Hint := ⟨[0, 1, 2, 3, 4, 9, 14, 19, 24, 30, 36, 42, 48], 0, [], [], false, [], []⟩
def E_laws_eqMsgMsg : Entry := ⟨S_laws_eqMsgMsg, .r H_laws_eqMsgMsg R_laws_eqMsgMsg⟩
def S_laws_eqMsgMsgS : Sig := .d ⟨[(.one (.s)), (.one (.s))], (.one (.one (.b))), true⟩
def H_laws_eqMsgMsgS : Hint := ⟨[0, 1, 4, 5, 10, 14, 26], 0, [], [(4, ⟨[5], [], [], [], []⟩)], false, [], []⟩
def E_laws_eqMsgMsgS : Entry := ⟨S_laws_eqMsgMsgS, .r H_laws_eqMsgMsgS R_laws_eqMsgMsgS⟩
def S_laws_eqLogDone : Sig := .d ⟨[(.g [.i .i64, .i .i64, .i .i64, .s, .i .i64, .s]), (.g [.i .i64, .i .i64, .i .i64, .s, .i .i64, .s])], (.one (.one (.b))), true⟩
def H_laws_eqLogDone : Hint := ⟨[0, 1, 2, 3, 4, 10, 16], 0, [], [], false, [], []⟩
def E_laws_eqLogDone : Entry := ⟨S_laws_eqLogDone, .r H_laws_eqLogDone R_laws_eqLogDone⟩
def S_laws_eqLogDoneS : Sig := .d ⟨[(.one (.s)), (.one (.s))], (.one (.one (.b))), true⟩
def H_laws_eqLogDoneS : Hint := ⟨[0, 1, 4, 5, 10, 14, 26], 0, [], [(4, ⟨[5], [], [], [], []⟩)], false, [], []⟩
def E_laws_eqLogDoneS : Entry := ⟨S_laws_eqLogDoneS, .r H_laws_eqLogDoneS R_laws_eqLogDoneS⟩
def S_laws_eqWldWorld : Sig := .d ⟨[(.g [.i .i64, .s, .s, .s, .s, .b, .i .i64, .s, .s, .s, .s, .s, .s, .s]), (.g [.i .i64, .s, .s, .s, .s, .b, .i .i64, .s, .s, .s, .s, .s, .s, .s])], (.one (.one (.b))), true⟩
def H_laws_eqWldWorld : Hint := ⟨[0, 1, 2, 3, 4, 10, 16, 22, 28, 34, 40], 0, [], [], false, [], []⟩
def E_laws_eqWldWorld : Entry := ⟨S_laws_eqWldWorld, .r H_laws_eqWldWorld R_laws_eqWldWorld⟩
def S_laws_markIntS : Sig := .x ⟨[(.o 0 (.v 0)), (.d (.vi .i64 (.v 1)))], [(.arr 3 1 (.v 0) true true)], [.s, .i .i64], (.d (.vi .i64 (.v 0))), [(.arr 3 1 (.v 1) true true)], [.i .i64, .s], false⟩
def H_laws_markIntS : Hint := ⟨[0, 1, 4, 5, 9], 1, [], [(2, ⟨[5, 1], [], [0], [], []⟩)], false, [], []⟩
def E_laws_markIntS : Entry := ⟨S_laws_markIntS, .r H_laws_markIntS R_laws_markIntS⟩
def S_laws_markActLineS : Sig := .x ⟨[(.o 0 (.v 0)), (.d (.vi .i64 (.v 1)))], [(.arr 97 6 (.v 0) true true)], [.s, .i .i64], (.d (.vi .i64 (.v 0))), [(.arr 97 6 (.v 1) true true)], [.i .i64, .s], false⟩
def H_laws_markActLineS : Hint := ⟨[0, 1, 4, 5, 9], 1, [], [(2, ⟨[5, 1], [], [0], [], []⟩)], false, [], [10, 11]⟩
def E_laws_markActLineS : Entry := ⟨S_laws_markActLineS, .r H_laws_markActLineS R_laws_markActLineS⟩
def S_laws_markActLineSS : Sig := .x ⟨[(.o 0 (.v 0)), (.d (.vi .i64 (.v 1)))], [(.arr 91 1 (.v 0) true true)], [.s, .i .i64], (.d (.vi .i64 (.v 0))), [(.arr 91 1 (.v 1) true true)], [.i .i64, .s], false⟩
def H_laws_markActLineSS : Hint := ⟨[0, 1, 4, 5, 9], 1, [], [(2, ⟨[5, 1], [], [0], [], []⟩)], false, [], [4]⟩
def E_laws_markActLineSS : Entry := ⟨S_laws_markActLineSS, .r H_laws_markActLineSS R_laws_markActLineSS⟩
def S_laws_markPlnPlan : Sig := .x ⟨[(.g [(.d (.vi .i64 (.v 0))), (.o 0 (.v 1)), (.o 1 (.v 2)), (.o 2 (.v 3))]), (.d (.vi .i64 (.v 4)))], [(.arr 91 1 (.v 1) true true), (.arr 3 1 (.v 2) true true), (.arr 3 1 (.v 3) true true)], [.i .i64, .s, .s, .s, .i .i64], (.d (.vi .i64 (.v 0))), [(.arr 91 1 (.v 1) true true), (.arr 3 1 (.v 2) true true), (.arr 3 1 (.v 3) true true)], [.i .i64, .s, .s, .s], false⟩
def H_laws_markPlnPlan : Hint := ⟨[0, 1, 2, 4], 3, [], [], false, [], []⟩
def E_laws_markPlnPlan : Entry := ⟨S_laws_markPlnPlan, .r H_laws_markPlnPlan R_laws_markPlnPlan⟩
def S_laws_markPlnDoneS : Sig := .x ⟨[(.o 0 (.v 0)), (.d (.vi .i64 (.v 1)))], [(.arr 122 3 (.v 0) true true)], [.s, .i .i64], (.d (.vi .i64 (.v 0))), [(.arr 122 3 (.v 1) true true)], [.i .i64, .s], false⟩
def H_laws_markPlnDoneS : Hint := ⟨[0, 1, 4, 5, 9], 1, [], [(2, ⟨[5, 1], [], [0], [], []⟩)], false, [], [8]⟩
def E_laws_markPlnDoneS : Entry := ⟨S_laws_markPlnDoneS, .r H_laws_markPlnDoneS R_laws_markPlnDoneS⟩
def S_laws_markSitSiteS : Sig := .x ⟨[(.o 0 (.v 0)), (.d (.vi .i64 (.v 1)))], [(.arr 54 6 (.v 0) true true)], [.s, .i .i64], (.d (.vi .i64 (.v 0))), [(.arr 54 6 (.v 1) true true)], [.i .i64, .s], false⟩
def H_laws_markSitSiteS : Hint := ⟨[0, 1, 4, 5, 9], 1, [], [(2, ⟨[5, 1], [], [0], [], []⟩)], false, [], [10, 11, 12]⟩
def E_laws_markSitSiteS : Entry := ⟨S_laws_markSitSiteS, .r H_laws_markSitSiteS R_laws_markSitSiteS⟩
def S_laws_markPlnCallS : Sig := .x ⟨[(.o 0 (.v 0)), (.d (.vi .i64 (.v 1)))], [(.arr 57 4 (.v 0) true true)], [.s, .i .i64], (.d (.vi .i64 (.v 0))), [(.arr 57 4 (.v 1) true true)], [.i .i64, .s], false⟩
def H_laws_markPlnCallS : Hint := ⟨[0, 1, 4, 5, 9], 1, [], [(2, ⟨[5, 1], [], [0], [], []⟩)], false, [], [10]⟩
def E_laws_markPlnCallS : Entry := ⟨S_laws_markPlnCallS, .r H_laws_markPlnCallS R_laws_markPlnCallS⟩
def S_laws_markClkGotS : Sig := .x ⟨[(.o 0 (.v 0)), (.d (.vi .i64 (.v 1)))], [(.arr 124 3 (.v 0) true true)], [.s, .i .i64], (.d (.vi .i64 (.v 0))), [(.arr 124 3 (.v 1) true true)], [.i .i64, .s], false⟩
def H_laws_markClkGotS : Hint := ⟨[0, 1, 4, 5, 9], 1, [], [(2, ⟨[5, 1], [], [0], [], []⟩)], false, [], [6, 7]⟩
def E_laws_markClkGotS : Entry := ⟨S_laws_markClkGotS, .r H_laws_markClkGotS R_laws_markClkGotS⟩
def S_laws_markClkClerk : Sig := .x ⟨[(.g [(.d (.vb (.v 0))), (.d (.vi .i64 (.v 1))), (.o 0 (.v 2)), (.o 1 (.v 3)), (.o 2 (.v 4)), (.o 3 (.v 5))]), (.d (.vi .i64 (.v 6)))], [(.arr 3 1 (.v 2) true true), (.arr 122 3 (.v 3) true true), (.arr 57 4 (.v 4) true true), (.arr 124 3 (.v 5) true true)], [.b, .i .i64, .s, .s, .s, .s, .i .i64], (.d (.vi .i64 (.v 0))), [(.arr 3 1 (.v 1) true true), (.arr 122 3 (.v 2) true true), (.arr 57 4 (.v 3) true true), (.arr 124 3 (.v 4) true true)], [.i .i64, .s, .s, .s, .s], false⟩
def H_laws_markClkClerk : Hint := ⟨[0, 1, 2, 4], 4, [], [], false, [], []⟩
def E_laws_markClkClerk : Entry := ⟨S_laws_markClkClerk, .r H_laws_markClkClerk R_laws_markClkClerk⟩
def S_laws_markConClientS : Sig := .x ⟨[(.o 0 (.v 0)), (.d (.vi .i64 (.v 1)))], [(.arr 61 8 (.v 0) true true)], [.s, .i .i64], (.d (.vi .i64 (.v 0))), [(.arr 61 8 (.v 1) true true)], [.i .i64, .s], false⟩
def H_laws_markConClientS : Hint := ⟨[0, 1, 4, 5, 9], 1, [], [(2, ⟨[5, 1], [], [0], [], []⟩)], false, [], [14, 17]⟩
def E_laws_markConClientS : Entry := ⟨S_laws_markConClientS, .r H_laws_markConClientS R_laws_markConClientS⟩
def S_laws_markMsgMsgS : Sig := .x ⟨[(.o 0 (.v 0)), (.d (.vi .i64 (.v 1)))], [(.arr 106 11 (.v 0) true true)], [.s, .i .i64], (.d (.vi .i64 (.v 0))), [(.arr 106 11 (.v 1) true true)], [.i .i64, .s], false⟩
def H_laws_markMsgMsgS : Hint := ⟨[0, 1, 4, 5, 9], 1, [], [(2, ⟨[5, 1], [], [0], [], []⟩)], false, [], [18, 19, 20, 21]⟩
def E_laws_markMsgMsgS : Entry := ⟨S_laws_markMsgMsgS, .r H_laws_markMsgMsgS R_laws_markMsgMsgS⟩
def S_laws_markLogDoneS : Sig := .x ⟨[(.o 0 (.v 0)), (.d (.vi .i64 (.v 1)))], [(.arr 109 6 (.v 0) true true)], [.s, .i .i64], (.d (.vi .i64 (.v 0))), [(.arr 109 6 (.v 1) true true)], [.i .i64, .s], false⟩
def H_laws_markLogDoneS : Hint := ⟨[0, 1, 4, 5, 9], 1, [], [(2, ⟨[5, 1], [], [0], [], []⟩)], false, [], [10, 13]⟩
def E_laws_markLogDoneS : Entry := ⟨S_laws_markLogDoneS, .r H_laws_markLogDoneS R_laws_markLogDoneS⟩
def S_laws_markWldWorld : Sig := .x ⟨[(.g [(.d (.vi .i64 (.v 0))), (.o 0 (.v 1)), (.o 1 (.v 2)), (.o 2 (.v 3)), (.o 3 (.v 4)), (.d (.vb (.v 5))), (.d (.vi .i64 (.v 6))), (.o 4 (.v 7)), (.o 5 (.v 8)), (.o 6 (.v 9)), (.o 7 (.v 10)), (.o 8 (.v 11)), (.o 9 (.v 12)), (.o 10 (.v 13))]), (.d (.vi .i64 (.v 14)))], [(.arr 91 1 (.v 1) true true), (.arr 3 1 (.v 2) true true), (.arr 3 1 (.v 3) true true), (.arr 54 6 (.v 4) true true), (.arr 3 1 (.v 7) true true), (.arr 122 3 (.v 8) true true), (.arr 57 4 (.v 9) true true), (.arr 124 3 (.v 10) true true), (.arr 61 8 (.v 11) true true), (.arr 106 11 (.v 12) true true), (.arr 109 6 (.v 13) true true)], [.i .i64, .s, .s, .s, .s, .b, .i .i64, .s, .s, .s, .s, .s, .s, .s, .i .i64], (.d (.vi .i64 (.v 0))), [(.arr 91 1 (.v 1) true true), (.arr 3 1 (.v 2) true true), (.arr 3 1 (.v 3) true true), (.arr 54 6 (.v 4) true true), (.arr 3 1 (.v 5) true true), (.arr 122 3 (.v 6) true true), (.arr 57 4 (.v 7) true true), (.arr 124 3 (.v 8) true true), (.arr 61 8 (.v 9) true true), (.arr 106 11 (.v 10) true true), (.arr 109 6 (.v 11) true true)], [.i .i64, .s, .s, .s, .s, .s, .s, .s, .s, .s, .s, .s], false⟩
def H_laws_markWldWorld : Hint := ⟨[0, 1, 2, 4], 11, [], [], false, [], []⟩
def E_laws_markWldWorld : Entry := ⟨S_laws_markWldWorld, .r H_laws_markWldWorld R_laws_markWldWorld⟩
def S_laws_heldIntS : Sig := .d ⟨[(.one (.s)), (.one (.i .i64))], (.one (.one (.i .i64))), true⟩
def H_laws_heldIntS : Hint := ⟨[0, 1, 4, 5, 9, 17], 0, [], [(2, ⟨[5, 1], [], [], [], []⟩)], false, [], []⟩
def E_laws_heldIntS : Entry := ⟨S_laws_heldIntS, .r H_laws_heldIntS R_laws_heldIntS⟩
def S_laws_heldActLineS : Sig := .d ⟨[(.one (.s)), (.one (.i .i64))], (.one (.one (.i .i64))), true⟩
def H_laws_heldActLineS : Hint := ⟨[0, 1, 4, 5, 9, 18, 27, 36, 48, 58, 66], 0, [], [(2, ⟨[5, 1], [], [], [], []⟩)], false, [], []⟩
def E_laws_heldActLineS : Entry := ⟨S_laws_heldActLineS, .r H_laws_heldActLineS R_laws_heldActLineS⟩
def S_laws_heldActLineSS : Sig := .d ⟨[(.one (.s)), (.one (.i .i64))], (.one (.one (.i .i64))), true⟩
def H_laws_heldActLineSS : Hint := ⟨[0, 1, 4, 5, 9, 19], 0, [], [(2, ⟨[5, 1], [], [], [], []⟩)], false, [], []⟩
def E_laws_heldActLineSS : Entry := ⟨S_laws_heldActLineSS, .r H_laws_heldActLineSS R_laws_heldActLineSS⟩
def S_laws_heldPlnPlan : Sig := .d ⟨[(.g [.i .i64, .s, .s, .s]), (.one (.i .i64))], (.one (.one (.i .i64))), true⟩
def H_laws_heldPlnPlan : Hint := ⟨[0, 1, 2, 4, 10, 16, 22], 0, [], [], false, [], []⟩
def E_laws_heldPlnPlan : Entry := ⟨S_laws_heldPlnPlan, .r H_laws_heldPlnPlan R_laws_heldPlnPlan⟩
def S_laws_heldPlnDoneS : Sig := .d ⟨[(.one (.s)), (.one (.i .i64))], (.one (.one (.i .i64))), true⟩
def H_laws_heldPlnDoneS : Hint := ⟨[0, 1, 4, 5, 9, 18, 28, 40], 0, [], [(2, ⟨[5, 1], [], [], [], []⟩)], false, [], []⟩
def E_laws_heldPlnDoneS : Entry := ⟨S_laws_heldPlnDoneS, .r H_laws_heldPlnDoneS R_laws_heldPlnDoneS⟩
def S_laws_heldSitSiteS : Sig := .d ⟨[(.one (.s)), (.one (.i .i64))], (.one (.one (.i .i64))), true⟩
def H_laws_heldSitSiteS : Hint := ⟨[0, 1, 4, 5, 9, 20, 31, 40, 51, 60, 69], 0, [], [(2, ⟨[5, 1], [], [], [], []⟩)], false, [], []⟩
def E_laws_heldSitSiteS : Entry := ⟨S_laws_heldSitSiteS, .r H_laws_heldSitSiteS R_laws_heldSitSiteS⟩
def S_laws_heldPlnCallS : Sig := .d ⟨[(.one (.s)), (.one (.i .i64))], (.one (.one (.i .i64))), true⟩
def H_laws_heldPlnCallS : Hint := ⟨[0, 1, 4, 5, 9, 18, 27, 36, 47], 0, [], [(2, ⟨[5, 1], [], [], [], []⟩)], false, [], []⟩
def E_laws_heldPlnCallS : Entry := ⟨S_laws_heldPlnCallS, .r H_laws_heldPlnCallS R_laws_heldPlnCallS⟩
def S_laws_heldClkGotS : Sig := .d ⟨[(.one (.s)), (.one (.i .i64))], (.one (.one (.i .i64))), true⟩
def H_laws_heldClkGotS : Hint := ⟨[0, 1, 4, 5, 9, 20, 31, 40], 0, [], [(2, ⟨[5, 1], [], [], [], []⟩)], false, [], []⟩
def E_laws_heldClkGotS : Entry := ⟨S_laws_heldClkGotS, .r H_laws_heldClkGotS R_laws_heldClkGotS⟩
def S_laws_heldClkClerk : Sig := .d ⟨[(.g [.b, .i .i64, .s, .s, .s, .s]), (.one (.i .i64))], (.one (.one (.i .i64))), true⟩
def H_laws_heldClkClerk : Hint := ⟨[0, 1, 2, 4, 10, 16, 22, 28], 0, [], [], false, [], []⟩
def E_laws_heldClkClerk : Entry := ⟨S_laws_heldClkClerk, .r H_laws_heldClkClerk R_laws_heldClkClerk⟩
def S_laws_heldConClientS : Sig := .d ⟨[(.one (.s)), (.one (.i .i64))], (.one (.one (.i .i64))), true⟩
def H_laws_heldConClientS : Hint := ⟨[0, 1, 4, 5, 9, 18, 29, 39, 49, 59, 71, 79, 91], 0, [], [(2, ⟨[5, 1], [], [], [], []⟩)], false, [], []⟩
def E_laws_heldConClientS : Entry := ⟨S_laws_heldConClientS, .r H_laws_heldConClientS R_laws_heldConClientS⟩
def S_laws_heldMsgMsgS : Sig := .d ⟨[(.one (.s)), (.one (.i .i64))], (.one (.one (.i .i64))), true⟩
def H_laws_heldMsgMsgS : Hint := ⟨[0, 1, 4, 5, 9, 18, 27, 36, 45, 55, 65, 75, 87, 96, 105, 114], 0, [], [(2, ⟨[5, 1], [], [], [], []⟩)], false, [], []⟩
def E_laws_heldMsgMsgS : Entry := ⟨S_laws_heldMsgMsgS, .r H_laws_heldMsgMsgS R_laws_heldMsgMsgS⟩
def S_laws_heldLogDoneS : Sig := .d ⟨[(.one (.s)), (.one (.i .i64))], (.one (.one (.i .i64))), true⟩
def H_laws_heldLogDoneS : Hint := ⟨[0, 1, 4, 5, 9, 19, 29, 39, 51, 59, 71], 0, [], [(2, ⟨[5, 1], [], [], [], []⟩)], false, [], []⟩
def E_laws_heldLogDoneS : Entry := ⟨S_laws_heldLogDoneS, .r H_laws_heldLogDoneS R_laws_heldLogDoneS⟩
def S_laws_heldWldWorld : Sig := .d ⟨[(.g [.i .i64, .s, .s, .s, .s, .b, .i .i64, .s, .s, .s, .s, .s, .s, .s]), (.one (.i .i64))], (.one (.one (.i .i64))), true⟩
def H_laws_heldWldWorld : Hint := ⟨[0, 1, 2, 4, 10, 16, 22, 28, 34, 40], 0, [], [], false, [], []⟩
def E_laws_heldWldWorld : Entry := ⟨S_laws_heldWldWorld, .r H_laws_heldWldWorld R_laws_heldWldWorld⟩
def S_laws_FnExactWldNew : Sig := .d ⟨[(.g [.i .i64, .s, .s, .s])], (.one (.one (.b))), true⟩
def H_laws_FnExactWldNew : Hint := ⟨[0, 1, 2, 3, 4, 5, 6, 7, 8, 9, 10, 15, 26, 31, 42, 50, 53, 60, 65, 68], 0, [], [], true, [], []⟩
def E_laws_FnExactWldNew : Entry := ⟨S_laws_FnExactWldNew, .r H_laws_FnExactWldNew R_laws_FnExactWldNew⟩
def L : Tabl := [(f_laws_szIntS, E_laws_szIntS), (f_laws_szFrmForm, E_laws_szFrmForm), (f_laws_szActLine, E_laws_szActLine), (f_laws_szActLineS, E_laws_szActLineS), (f_laws_szActLineSS, E_laws_szActLineSS), (f_laws_szPlnPlan, E_laws_szPlnPlan), (f_laws_toIntS, E_laws_toIntS), (f_laws_toFrmForm, E_laws_toFrmForm), (f_laws_toActLine, E_laws_toActLine), (f_laws_toActLineS, E_laws_toActLineS), (f_laws_toActLineSS, E_laws_toActLineSS), (f_laws_toPlnPlan, E_laws_toPlnPlan), (f_spec_l1In, E_spec_l1In), (f_spec_l1All, E_spec_l1All), (f_spec_l2Small, E_spec_l2Small), (f_spec_l2Line, E_spec_l2Line), (f_spec_ActOk, E_spec_ActOk), (f_spec_CatOk, E_spec_CatOk), (f_spec_ValOk, E_spec_ValOk), (f_spec_TrtOk, E_spec_TrtOk), (f_spec_PlnOk, E_spec_PlnOk), (f_spec_l6CopyActs, E_spec_l6CopyActs), (f_spec_l6Copy, E_spec_l6Copy), (f_spec_l6New, E_spec_l6New), (f_spec_l9None, E_spec_l9None), (f_spec_ClkNew, E_spec_ClkNew), (f_spec_SitNew, E_spec_SitNew), (f_spec_WldNew, E_spec_WldNew), (f_impl_in, E_impl_in), (f_slices_IndexFunc_SSimpl_ActLine_Simpl_ActLine, E_slices_IndexFunc_SSimpl_ActLine_Simpl_ActLine), (f_slices_ContainsFunc_SSimpl_ActLine_Simpl_ActLine, E_slices_ContainsFunc_SSimpl_ActLine_Simpl_ActLine), (f_impl_within_1, E_impl_within_1), (f_slices_IndexFunc_Sint_int, E_slices_IndexFunc_Sint_int), (f_slices_ContainsFunc_Sint_int, E_slices_ContainsFunc_Sint_int), (f_impl_within, E_impl_within), (f_impl_FrmForm_small, E_impl_FrmForm_small), (f_slices_Equal_Sint_int, E_slices_Equal_Sint_int), (f_impl_FrmForm_same, E_impl_FrmForm_same), (f_impl_ActLine_ok, E_impl_ActLine_ok), (f_impl_ActOk, E_impl_ActOk), (f_impl_CatOk_1, E_impl_CatOk_1), (f_impl_CatOk, E_impl_CatOk), (f_impl_PlnPlan_treaty, E_impl_PlnPlan_treaty), (f_impl_TrtOk_1, E_impl_TrtOk_1), (f_impl_ValOk, E_impl_ValOk), (f_impl_TrtOk, E_impl_TrtOk), (f_impl_PlnOk, E_impl_PlnOk), (f_slices_Clone_Sint_int, E_slices_Clone_Sint_int), (f_impl_FrmForm_copied, E_impl_FrmForm_copied), (f_impl_PlnPlan_copied, E_impl_PlnPlan_copied), (f_impl_PlnPlan_clerkNew, E_impl_PlnPlan_clerkNew), (f_impl_PlnPlan_siteNew, E_impl_PlnPlan_siteNew), (f_impl_WldNew, E_impl_WldNew), (f_laws_eqIntS, E_laws_eqIntS), (f_laws_eqFrmForm, E_laws_eqFrmForm), (f_laws_eqActLine, E_laws_eqActLine), (f_laws_eqActLineS, E_laws_eqActLineS), (f_laws_eqActLineSS, E_laws_eqActLineSS), (f_laws_eqPlnPlan, E_laws_eqPlnPlan), (f_laws_eqResResult, E_laws_eqResResult), (f_laws_eqPlnDone, E_laws_eqPlnDone), (f_laws_eqPlnDoneS, E_laws_eqPlnDoneS), (f_laws_eqSitSite, E_laws_eqSitSite), (f_laws_eqSitSiteS, E_laws_eqSitSiteS), (f_laws_eqPlnCall, E_laws_eqPlnCall), (f_laws_eqPlnCallS, E_laws_eqPlnCallS), (f_laws_eqClkGot, E_laws_eqClkGot), (f_laws_eqClkGotS, E_laws_eqClkGotS), (f_laws_eqClkClerk, E_laws_eqClkClerk), (f_laws_eqConClient, E_laws_eqConClient), (f_laws_eqConClientS, E_laws_eqConClientS), (f_laws_eqMsgMsg, E_laws_eqMsgMsg), (f_laws_eqMsgMsgS, E_laws_eqMsgMsgS), (f_laws_eqLogDone, E_laws_eqLogDone), (f_laws_eqLogDoneS, E_laws_eqLogDoneS), (f_laws_eqWldWorld, E_laws_eqWldWorld), (f_laws_markIntS, E_laws_markIntS), (f_laws_markActLineS, E_laws_markActLineS), (f_laws_markActLineSS, E_laws_markActLineSS), (f_laws_markPlnPlan, E_laws_markPlnPlan), (f_laws_markPlnDoneS, E_laws_markPlnDoneS), (f_laws_markSitSiteS, E_laws_markSitSiteS), (f_laws_markPlnCallS, E_laws_markPlnCallS), (f_laws_markClkGotS, E_laws_markClkGotS), (f_laws_markClkClerk, E_laws_markClkClerk), (f_laws_markConClientS, E_laws_markConClientS), (f_laws_markMsgMsgS, E_laws_markMsgMsgS), (f_laws_markLogDoneS, E_laws_markLogDoneS), (f_laws_markWldWorld, E_laws_markWldWorld), (f_laws_heldIntS, E_laws_heldIntS), (f_laws_heldActLineS, E_laws_heldActLineS), (f_laws_heldActLineSS, E_laws_heldActLineSS), (f_laws_heldPlnPlan, E_laws_heldPlnPlan), (f_laws_heldPlnDoneS, E_laws_heldPlnDoneS), (f_laws_heldSitSiteS, E_laws_heldSitSiteS), (f_laws_heldPlnCallS, E_laws_heldPlnCallS), (f_laws_heldClkGotS, E_laws_heldClkGotS), (f_laws_heldClkClerk, E_laws_heldClkClerk), (f_laws_heldConClientS, E_laws_heldConClientS), (f_laws_heldMsgMsgS, E_laws_heldMsgMsgS), (f_laws_heldLogDoneS, E_laws_heldLogDoneS), (f_laws_heldWldWorld, E_laws_heldWldWorld), (f_laws_FnExactWldNew, E_laws_FnExactWldNew)]
theorem L_laws_szIntS : L.lookup f_laws_szIntS = some ⟨S_laws_szIntS, .r H_laws_szIntS R_laws_szIntS⟩ := rfl
theorem L_laws_szFrmForm : L.lookup f_laws_szFrmForm = some ⟨S_laws_szFrmForm, .r H_laws_szFrmForm R_laws_szFrmForm⟩ := rfl
theorem L_laws_szActLine : L.lookup f_laws_szActLine = some ⟨S_laws_szActLine, .r H_laws_szActLine R_laws_szActLine⟩ := rfl
theorem L_laws_szActLineS : L.lookup f_laws_szActLineS = some ⟨S_laws_szActLineS, .r H_laws_szActLineS R_laws_szActLineS⟩ := rfl
theorem L_laws_szActLineSS : L.lookup f_laws_szActLineSS = some ⟨S_laws_szActLineSS, .r H_laws_szActLineSS R_laws_szActLineSS⟩ := rfl
theorem L_laws_szPlnPlan : L.lookup f_laws_szPlnPlan = some ⟨S_laws_szPlnPlan, .r H_laws_szPlnPlan R_laws_szPlnPlan⟩ := rfl
theorem L_laws_toIntS : L.lookup f_laws_toIntS = some ⟨S_laws_toIntS, .r H_laws_toIntS R_laws_toIntS⟩ := rfl
theorem L_laws_toFrmForm : L.lookup f_laws_toFrmForm = some ⟨S_laws_toFrmForm, .r H_laws_toFrmForm R_laws_toFrmForm⟩ := rfl
theorem L_laws_toActLine : L.lookup f_laws_toActLine = some ⟨S_laws_toActLine, .r H_laws_toActLine R_laws_toActLine⟩ := rfl
theorem L_laws_toActLineS : L.lookup f_laws_toActLineS = some ⟨S_laws_toActLineS, .r H_laws_toActLineS R_laws_toActLineS⟩ := rfl
theorem L_laws_toActLineSS : L.lookup f_laws_toActLineSS = some ⟨S_laws_toActLineSS, .r H_laws_toActLineSS R_laws_toActLineSS⟩ := rfl
theorem L_laws_toPlnPlan : L.lookup f_laws_toPlnPlan = some ⟨S_laws_toPlnPlan, .r H_laws_toPlnPlan R_laws_toPlnPlan⟩ := rfl
theorem L_spec_l1In : L.lookup f_spec_l1In = some ⟨S_spec_l1In, .r H_spec_l1In R_spec_l1In⟩ := rfl
theorem L_spec_l1All : L.lookup f_spec_l1All = some ⟨S_spec_l1All, .r H_spec_l1All R_spec_l1All⟩ := rfl
theorem L_spec_l2Small : L.lookup f_spec_l2Small = some ⟨S_spec_l2Small, .r H_spec_l2Small R_spec_l2Small⟩ := rfl
theorem L_spec_l2Line : L.lookup f_spec_l2Line = some ⟨S_spec_l2Line, .r H_spec_l2Line R_spec_l2Line⟩ := rfl
theorem L_spec_ActOk : L.lookup f_spec_ActOk = some ⟨S_spec_ActOk, .r H_spec_ActOk R_spec_ActOk⟩ := rfl
theorem L_spec_CatOk : L.lookup f_spec_CatOk = some ⟨S_spec_CatOk, .r H_spec_CatOk R_spec_CatOk⟩ := rfl
theorem L_spec_ValOk : L.lookup f_spec_ValOk = some ⟨S_spec_ValOk, .r H_spec_ValOk R_spec_ValOk⟩ := rfl
theorem L_spec_TrtOk : L.lookup f_spec_TrtOk = some ⟨S_spec_TrtOk, .r H_spec_TrtOk R_spec_TrtOk⟩ := rfl
theorem L_spec_PlnOk : L.lookup f_spec_PlnOk = some ⟨S_spec_PlnOk, .r H_spec_PlnOk R_spec_PlnOk⟩ := rfl
theorem L_spec_l6CopyActs : L.lookup f_spec_l6CopyActs = some ⟨S_spec_l6CopyActs, .r H_spec_l6CopyActs R_spec_l6CopyActs⟩ := rfl
theorem L_spec_l6Copy : L.lookup f_spec_l6Copy = some ⟨S_spec_l6Copy, .r H_spec_l6Copy R_spec_l6Copy⟩ := rfl
theorem L_spec_l6New : L.lookup f_spec_l6New = some ⟨S_spec_l6New, .r H_spec_l6New R_spec_l6New⟩ := rfl
theorem L_spec_l9None : L.lookup f_spec_l9None = some ⟨S_spec_l9None, .r H_spec_l9None R_spec_l9None⟩ := rfl
theorem L_spec_ClkNew : L.lookup f_spec_ClkNew = some ⟨S_spec_ClkNew, .r H_spec_ClkNew R_spec_ClkNew⟩ := rfl
theorem L_spec_SitNew : L.lookup f_spec_SitNew = some ⟨S_spec_SitNew, .r H_spec_SitNew R_spec_SitNew⟩ := rfl
theorem L_spec_WldNew : L.lookup f_spec_WldNew = some ⟨S_spec_WldNew, .r H_spec_WldNew R_spec_WldNew⟩ := rfl
theorem L_impl_in : L.lookup f_impl_in = some ⟨S_impl_in, .r H_impl_in R_impl_in⟩ := rfl
theorem L_slices_IndexFunc_SSimpl_ActLine_Simpl_ActLine : L.lookup f_slices_IndexFunc_SSimpl_ActLine_Simpl_ActLine = some ⟨S_slices_IndexFunc_SSimpl_ActLine_Simpl_ActLine, .r H_slices_IndexFunc_SSimpl_ActLine_Simpl_ActLine R_slices_IndexFunc_SSimpl_ActLine_Simpl_ActLine⟩ := rfl
theorem L_slices_ContainsFunc_SSimpl_ActLine_Simpl_ActLine : L.lookup f_slices_ContainsFunc_SSimpl_ActLine_Simpl_ActLine = some ⟨S_slices_ContainsFunc_SSimpl_ActLine_Simpl_ActLine, .r H_slices_ContainsFunc_SSimpl_ActLine_Simpl_ActLine R_slices_ContainsFunc_SSimpl_ActLine_Simpl_ActLine⟩ := rfl
theorem L_impl_within_1 : L.lookup f_impl_within_1 = some ⟨S_impl_within_1, .r H_impl_within_1 R_impl_within_1⟩ := rfl
theorem L_slices_IndexFunc_Sint_int : L.lookup f_slices_IndexFunc_Sint_int = some ⟨S_slices_IndexFunc_Sint_int, .r H_slices_IndexFunc_Sint_int R_slices_IndexFunc_Sint_int⟩ := rfl
theorem L_slices_ContainsFunc_Sint_int : L.lookup f_slices_ContainsFunc_Sint_int = some ⟨S_slices_ContainsFunc_Sint_int, .r H_slices_ContainsFunc_Sint_int R_slices_ContainsFunc_Sint_int⟩ := rfl
theorem L_impl_within : L.lookup f_impl_within = some ⟨S_impl_within, .r H_impl_within R_impl_within⟩ := rfl
theorem L_impl_FrmForm_small : L.lookup f_impl_FrmForm_small = some ⟨S_impl_FrmForm_small, .r H_impl_FrmForm_small R_impl_FrmForm_small⟩ := rfl
theorem L_slices_Equal_Sint_int : L.lookup f_slices_Equal_Sint_int = some ⟨S_slices_Equal_Sint_int, .r H_slices_Equal_Sint_int R_slices_Equal_Sint_int⟩ := rfl
theorem L_impl_FrmForm_same : L.lookup f_impl_FrmForm_same = some ⟨S_impl_FrmForm_same, .r H_impl_FrmForm_same R_impl_FrmForm_same⟩ := rfl
theorem L_impl_ActLine_ok : L.lookup f_impl_ActLine_ok = some ⟨S_impl_ActLine_ok, .r H_impl_ActLine_ok R_impl_ActLine_ok⟩ := rfl
theorem L_impl_ActOk : L.lookup f_impl_ActOk = some ⟨S_impl_ActOk, .r H_impl_ActOk R_impl_ActOk⟩ := rfl
theorem L_impl_CatOk_1 : L.lookup f_impl_CatOk_1 = some ⟨S_impl_CatOk_1, .r H_impl_CatOk_1 R_impl_CatOk_1⟩ := rfl
theorem L_impl_CatOk : L.lookup f_impl_CatOk = some ⟨S_impl_CatOk, .r H_impl_CatOk R_impl_CatOk⟩ := rfl
theorem L_impl_PlnPlan_treaty : L.lookup f_impl_PlnPlan_treaty = some ⟨S_impl_PlnPlan_treaty, .r H_impl_PlnPlan_treaty R_impl_PlnPlan_treaty⟩ := rfl
theorem L_impl_TrtOk_1 : L.lookup f_impl_TrtOk_1 = some ⟨S_impl_TrtOk_1, .r H_impl_TrtOk_1 R_impl_TrtOk_1⟩ := rfl
theorem L_impl_ValOk : L.lookup f_impl_ValOk = some ⟨S_impl_ValOk, .r H_impl_ValOk R_impl_ValOk⟩ := rfl
theorem L_impl_TrtOk : L.lookup f_impl_TrtOk = some ⟨S_impl_TrtOk, .r H_impl_TrtOk R_impl_TrtOk⟩ := rfl
theorem L_impl_PlnOk : L.lookup f_impl_PlnOk = some ⟨S_impl_PlnOk, .r H_impl_PlnOk R_impl_PlnOk⟩ := rfl
theorem L_slices_Clone_Sint_int : L.lookup f_slices_Clone_Sint_int = some ⟨S_slices_Clone_Sint_int, .r H_slices_Clone_Sint_int R_slices_Clone_Sint_int⟩ := rfl
theorem L_impl_FrmForm_copied : L.lookup f_impl_FrmForm_copied = some ⟨S_impl_FrmForm_copied, .r H_impl_FrmForm_copied R_impl_FrmForm_copied⟩ := rfl
theorem L_impl_PlnPlan_copied : L.lookup f_impl_PlnPlan_copied = some ⟨S_impl_PlnPlan_copied, .r H_impl_PlnPlan_copied R_impl_PlnPlan_copied⟩ := rfl
theorem L_impl_PlnPlan_clerkNew : L.lookup f_impl_PlnPlan_clerkNew = some ⟨S_impl_PlnPlan_clerkNew, .r H_impl_PlnPlan_clerkNew R_impl_PlnPlan_clerkNew⟩ := rfl
theorem L_impl_PlnPlan_siteNew : L.lookup f_impl_PlnPlan_siteNew = some ⟨S_impl_PlnPlan_siteNew, .r H_impl_PlnPlan_siteNew R_impl_PlnPlan_siteNew⟩ := rfl
theorem L_impl_WldNew : L.lookup f_impl_WldNew = some ⟨S_impl_WldNew, .r H_impl_WldNew R_impl_WldNew⟩ := rfl
theorem L_laws_eqIntS : L.lookup f_laws_eqIntS = some ⟨S_laws_eqIntS, .r H_laws_eqIntS R_laws_eqIntS⟩ := rfl
theorem L_laws_eqFrmForm : L.lookup f_laws_eqFrmForm = some ⟨S_laws_eqFrmForm, .r H_laws_eqFrmForm R_laws_eqFrmForm⟩ := rfl
theorem L_laws_eqActLine : L.lookup f_laws_eqActLine = some ⟨S_laws_eqActLine, .r H_laws_eqActLine R_laws_eqActLine⟩ := rfl
theorem L_laws_eqActLineS : L.lookup f_laws_eqActLineS = some ⟨S_laws_eqActLineS, .r H_laws_eqActLineS R_laws_eqActLineS⟩ := rfl
theorem L_laws_eqActLineSS : L.lookup f_laws_eqActLineSS = some ⟨S_laws_eqActLineSS, .r H_laws_eqActLineSS R_laws_eqActLineSS⟩ := rfl
theorem L_laws_eqPlnPlan : L.lookup f_laws_eqPlnPlan = some ⟨S_laws_eqPlnPlan, .r H_laws_eqPlnPlan R_laws_eqPlnPlan⟩ := rfl
theorem L_laws_eqResResult : L.lookup f_laws_eqResResult = some ⟨S_laws_eqResResult, .r H_laws_eqResResult R_laws_eqResResult⟩ := rfl
theorem L_laws_eqPlnDone : L.lookup f_laws_eqPlnDone = some ⟨S_laws_eqPlnDone, .r H_laws_eqPlnDone R_laws_eqPlnDone⟩ := rfl
theorem L_laws_eqPlnDoneS : L.lookup f_laws_eqPlnDoneS = some ⟨S_laws_eqPlnDoneS, .r H_laws_eqPlnDoneS R_laws_eqPlnDoneS⟩ := rfl
theorem L_laws_eqSitSite : L.lookup f_laws_eqSitSite = some ⟨S_laws_eqSitSite, .r H_laws_eqSitSite R_laws_eqSitSite⟩ := rfl
theorem L_laws_eqSitSiteS : L.lookup f_laws_eqSitSiteS = some ⟨S_laws_eqSitSiteS, .r H_laws_eqSitSiteS R_laws_eqSitSiteS⟩ := rfl
theorem L_laws_eqPlnCall : L.lookup f_laws_eqPlnCall = some ⟨S_laws_eqPlnCall, .r H_laws_eqPlnCall R_laws_eqPlnCall⟩ := rfl
theorem L_laws_eqPlnCallS : L.lookup f_laws_eqPlnCallS = some ⟨S_laws_eqPlnCallS, .r H_laws_eqPlnCallS R_laws_eqPlnCallS⟩ := rfl
theorem L_laws_eqClkGot : L.lookup f_laws_eqClkGot = some ⟨S_laws_eqClkGot, .r H_laws_eqClkGot R_laws_eqClkGot⟩ := rfl
theorem L_laws_eqClkGotS : L.lookup f_laws_eqClkGotS = some ⟨S_laws_eqClkGotS, .r H_laws_eqClkGotS R_laws_eqClkGotS⟩ := rfl
theorem L_laws_eqClkClerk : L.lookup f_laws_eqClkClerk = some ⟨S_laws_eqClkClerk, .r H_laws_eqClkClerk R_laws_eqClkClerk⟩ := rfl
theorem L_laws_eqConClient : L.lookup f_laws_eqConClient = some ⟨S_laws_eqConClient, .r H_laws_eqConClient R_laws_eqConClient⟩ := rfl
theorem L_laws_eqConClientS : L.lookup f_laws_eqConClientS = some ⟨S_laws_eqConClientS, .r H_laws_eqConClientS R_laws_eqConClientS⟩ := rfl
theorem L_laws_eqMsgMsg : L.lookup f_laws_eqMsgMsg = some ⟨S_laws_eqMsgMsg, .r H_laws_eqMsgMsg R_laws_eqMsgMsg⟩ := rfl
theorem L_laws_eqMsgMsgS : L.lookup f_laws_eqMsgMsgS = some ⟨S_laws_eqMsgMsgS, .r H_laws_eqMsgMsgS R_laws_eqMsgMsgS⟩ := rfl
theorem L_laws_eqLogDone : L.lookup f_laws_eqLogDone = some ⟨S_laws_eqLogDone, .r H_laws_eqLogDone R_laws_eqLogDone⟩ := rfl
theorem L_laws_eqLogDoneS : L.lookup f_laws_eqLogDoneS = some ⟨S_laws_eqLogDoneS, .r H_laws_eqLogDoneS R_laws_eqLogDoneS⟩ := rfl
theorem L_laws_eqWldWorld : L.lookup f_laws_eqWldWorld = some ⟨S_laws_eqWldWorld, .r H_laws_eqWldWorld R_laws_eqWldWorld⟩ := rfl
theorem L_laws_markIntS : L.lookup f_laws_markIntS = some ⟨S_laws_markIntS, .r H_laws_markIntS R_laws_markIntS⟩ := rfl
theorem L_laws_markActLineS : L.lookup f_laws_markActLineS = some ⟨S_laws_markActLineS, .r H_laws_markActLineS R_laws_markActLineS⟩ := rfl
theorem L_laws_markActLineSS : L.lookup f_laws_markActLineSS = some ⟨S_laws_markActLineSS, .r H_laws_markActLineSS R_laws_markActLineSS⟩ := rfl
theorem L_laws_markPlnPlan : L.lookup f_laws_markPlnPlan = some ⟨S_laws_markPlnPlan, .r H_laws_markPlnPlan R_laws_markPlnPlan⟩ := rfl
theorem L_laws_markPlnDoneS : L.lookup f_laws_markPlnDoneS = some ⟨S_laws_markPlnDoneS, .r H_laws_markPlnDoneS R_laws_markPlnDoneS⟩ := rfl
theorem L_laws_markSitSiteS : L.lookup f_laws_markSitSiteS = some ⟨S_laws_markSitSiteS, .r H_laws_markSitSiteS R_laws_markSitSiteS⟩ := rfl
theorem L_laws_markPlnCallS : L.lookup f_laws_markPlnCallS = some ⟨S_laws_markPlnCallS, .r H_laws_markPlnCallS R_laws_markPlnCallS⟩ := rfl
theorem L_laws_markClkGotS : L.lookup f_laws_markClkGotS = some ⟨S_laws_markClkGotS, .r H_laws_markClkGotS R_laws_markClkGotS⟩ := rfl
theorem L_laws_markClkClerk : L.lookup f_laws_markClkClerk = some ⟨S_laws_markClkClerk, .r H_laws_markClkClerk R_laws_markClkClerk⟩ := rfl
theorem L_laws_markConClientS : L.lookup f_laws_markConClientS = some ⟨S_laws_markConClientS, .r H_laws_markConClientS R_laws_markConClientS⟩ := rfl
theorem L_laws_markMsgMsgS : L.lookup f_laws_markMsgMsgS = some ⟨S_laws_markMsgMsgS, .r H_laws_markMsgMsgS R_laws_markMsgMsgS⟩ := rfl
theorem L_laws_markLogDoneS : L.lookup f_laws_markLogDoneS = some ⟨S_laws_markLogDoneS, .r H_laws_markLogDoneS R_laws_markLogDoneS⟩ := rfl
theorem L_laws_markWldWorld : L.lookup f_laws_markWldWorld = some ⟨S_laws_markWldWorld, .r H_laws_markWldWorld R_laws_markWldWorld⟩ := rfl
theorem L_laws_heldIntS : L.lookup f_laws_heldIntS = some ⟨S_laws_heldIntS, .r H_laws_heldIntS R_laws_heldIntS⟩ := rfl
theorem L_laws_heldActLineS : L.lookup f_laws_heldActLineS = some ⟨S_laws_heldActLineS, .r H_laws_heldActLineS R_laws_heldActLineS⟩ := rfl
theorem L_laws_heldActLineSS : L.lookup f_laws_heldActLineSS = some ⟨S_laws_heldActLineSS, .r H_laws_heldActLineSS R_laws_heldActLineSS⟩ := rfl
theorem L_laws_heldPlnPlan : L.lookup f_laws_heldPlnPlan = some ⟨S_laws_heldPlnPlan, .r H_laws_heldPlnPlan R_laws_heldPlnPlan⟩ := rfl
theorem L_laws_heldPlnDoneS : L.lookup f_laws_heldPlnDoneS = some ⟨S_laws_heldPlnDoneS, .r H_laws_heldPlnDoneS R_laws_heldPlnDoneS⟩ := rfl
theorem L_laws_heldSitSiteS : L.lookup f_laws_heldSitSiteS = some ⟨S_laws_heldSitSiteS, .r H_laws_heldSitSiteS R_laws_heldSitSiteS⟩ := rfl
theorem L_laws_heldPlnCallS : L.lookup f_laws_heldPlnCallS = some ⟨S_laws_heldPlnCallS, .r H_laws_heldPlnCallS R_laws_heldPlnCallS⟩ := rfl
theorem L_laws_heldClkGotS : L.lookup f_laws_heldClkGotS = some ⟨S_laws_heldClkGotS, .r H_laws_heldClkGotS R_laws_heldClkGotS⟩ := rfl
theorem L_laws_heldClkClerk : L.lookup f_laws_heldClkClerk = some ⟨S_laws_heldClkClerk, .r H_laws_heldClkClerk R_laws_heldClkClerk⟩ := rfl
theorem L_laws_heldConClientS : L.lookup f_laws_heldConClientS = some ⟨S_laws_heldConClientS, .r H_laws_heldConClientS R_laws_heldConClientS⟩ := rfl
theorem L_laws_heldMsgMsgS : L.lookup f_laws_heldMsgMsgS = some ⟨S_laws_heldMsgMsgS, .r H_laws_heldMsgMsgS R_laws_heldMsgMsgS⟩ := rfl
theorem L_laws_heldLogDoneS : L.lookup f_laws_heldLogDoneS = some ⟨S_laws_heldLogDoneS, .r H_laws_heldLogDoneS R_laws_heldLogDoneS⟩ := rfl
theorem L_laws_heldWldWorld : L.lookup f_laws_heldWldWorld = some ⟨S_laws_heldWldWorld, .r H_laws_heldWldWorld R_laws_heldWldWorld⟩ := rfl
theorem L_laws_FnExactWldNew : L.lookup f_laws_FnExactWldNew = some ⟨S_laws_FnExactWldNew, .r H_laws_FnExactWldNew R_laws_FnExactWldNew⟩ := rfl
end Go.Proofs.YtnmiphelhfphaaaGreat

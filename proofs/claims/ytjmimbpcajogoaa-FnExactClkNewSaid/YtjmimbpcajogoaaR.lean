/- The residual programs of the functions, and the table of them. -/
import Derived.Test.YtjmimbpcajogoaaTd
namespace Go.Proofs.Ytjmimbpcajogoaa
open Go Go.Tm
abbrev f_laws_szIntS : Nat := 79
abbrev f_laws_szFrmForm : Nat := 96
abbrev f_laws_szActLine : Nat := 51
abbrev f_laws_szActLineS : Nat := 10
abbrev f_laws_szActLineSS : Nat := 21
abbrev f_laws_szPlnPlan : Nat := 37
abbrev f_laws_toIntS : Nat := 82
abbrev f_laws_toFrmForm : Nat := 100
abbrev f_laws_toActLine : Nat := 54
abbrev f_laws_toActLineS : Nat := 12
abbrev f_laws_toActLineSS : Nat := 23
abbrev f_laws_toPlnPlan : Nat := 39
abbrev f_spec_l1In : Nat := 107
abbrev f_spec_l1All : Nat := 130
abbrev f_spec_l2Small : Nat := 138
abbrev f_spec_l2Line : Nat := 97
abbrev f_spec_ActOk : Nat := 52
abbrev f_spec_CatOk : Nat := 64
abbrev f_spec_ValOk : Nat := 149
abbrev f_spec_TrtOk : Nat := 131
abbrev f_spec_PlnOk : Nat := 80
abbrev f_spec_l6New : Nat := 81
abbrev f_spec_l9None : Nat := 88
abbrev f_spec_ClkNew : Nat := 46
abbrev f_impl_in : Nat := 110
abbrev f_slices_IndexFunc_SSimpl_ActLine_Simpl_ActLine : Nat := 142
abbrev f_slices_ContainsFunc_SSimpl_ActLine_Simpl_ActLine : Nat := 111
abbrev f_impl_within_1 : Nat := 150
abbrev f_slices_IndexFunc_Sint_int : Nat := 124
abbrev f_slices_ContainsFunc_Sint_int : Nat := 126
abbrev f_impl_within : Nat := 132
abbrev f_impl_FrmForm_small : Nat := 139
abbrev f_slices_Equal_Sint_int : Nat := 102
abbrev f_impl_FrmForm_same : Nat := 58
abbrev f_impl_ActLine_ok : Nat := 101
abbrev f_impl_ActOk : Nat := 55
abbrev f_impl_CatOk_1 : Nat := 112
abbrev f_impl_CatOk : Nat := 66
abbrev f_impl_PlnPlan_treaty : Nat := 134
abbrev f_impl_TrtOk_1 : Nat := 151
abbrev f_impl_ValOk : Nat := 152
abbrev f_impl_TrtOk : Nat := 133
abbrev f_impl_PlnOk : Nat := 83
abbrev f_slices_Clone_Sint_int : Nat := 123
abbrev f_impl_PlnPlan_clerkNew : Nat := 89
abbrev f_impl_ClkNew : Nat := 47
abbrev f_laws_eqIntS : Nat := 77
abbrev f_laws_eqResResult : Nat := 153
abbrev f_laws_eqPlnDone : Nat := 135
abbrev f_laws_eqPlnDoneS : Nat := 85
abbrev f_laws_eqPlnCall : Nat := 136
abbrev f_laws_eqPlnCallS : Nat := 90
abbrev f_laws_eqClkGot : Nat := 137
abbrev f_laws_eqClkGotS : Nat := 91
abbrev f_laws_eqClkClerk : Nat := 48
abbrev f_laws_eqFrmForm : Nat := 103
abbrev f_laws_eqActLine : Nat := 60
abbrev f_laws_eqActLineS : Nat := 15
abbrev f_laws_eqActLineSS : Nat := 25
abbrev f_laws_eqPlnPlan : Nat := 42
abbrev f_laws_markIntS : Nat := 61
abbrev f_laws_markActLineS : Nat := 16
abbrev f_laws_markActLineSS : Nat := 26
abbrev f_laws_markPlnPlan : Nat := 43
abbrev f_laws_markPlnDoneS : Nat := 86
abbrev f_laws_markPlnCallS : Nat := 92
abbrev f_laws_markClkGotS : Nat := 93
abbrev f_laws_markClkClerk : Nat := 49
abbrev f_laws_heldIntS : Nat := 78
abbrev f_laws_heldPlnDoneS : Nat := 87
abbrev f_laws_heldPlnCallS : Nat := 94
abbrev f_laws_heldClkGotS : Nat := 95
abbrev f_laws_heldClkClerk : Nat := 50
abbrev f_laws_FnExactClkNew : Nat := 9
/-- laws_szIntS -/
def R_laws_szIntS : R :=
  .ite (.cmp .lt (.bin .sub .i64 (.v 1) (.len (.v 0))) (.z 0))
   (
    .done [(.vi .i64 (.z (-1)))])
   (
    .done [(.vi .i64 (.bin .sub .i64 (.v 1) (.len (.v 0))))])
/-- laws_szFrmForm -/
def R_laws_szFrmForm : R :=
  .i (.call f_laws_szIntS [(.s (.v 0)), (.vi .i64 (.v 3))] [.i .i64] 4) <|
  .ite (.cmp .lt (.v 4) (.z 0))
   (
    .done [(.vi .i64 (.z (-1)))])
   (
    .i (.call f_laws_szIntS [(.s (.v 1)), (.vi .i64 (.v 4))] [.i .i64] 5) <|
    .ite (.cmp .lt (.v 5) (.z 0))
     (
      .done [(.vi .i64 (.z (-1)))])
     (
      .done [(.vi .i64 (.v 5))]))
/-- laws_szActLine -/
def R_laws_szActLine : R :=
  .i (.call f_laws_szFrmForm [(.s (.v 3)), (.s (.v 4)), (.vi .i64 (.v 5)), (.vi .i64 (.v 6))] [.i .i64] 7) <|
  .ite (.cmp .lt (.v 7) (.z 0))
   (
    .done [(.vi .i64 (.z (-1)))])
   (
    .done [(.vi .i64 (.v 7))])
/-- laws_szActLineS -/
def R_laws_szActLineS : R :=
  .ite (.cmp .lt (.bin .sub .i64 (.v 1) (.len (.v 0))) (.z 0))
   (
    .done [(.vi .i64 (.z (-1)))])
   (
    .loop 2 [(.bin .sub .i64 (.v 1) (.len (.v 0))), (.z 0)] <|
      .ite (.cmp .lt (.v 3) (.len (.v 0)))
       (
        .i (.idx (.v 0) (.v 3) (.g [.i .i64, .i .i64, .i .i64, .s, .s, .i .i64]) 4) <|
        .i (.call f_laws_szActLine [(.vi .i64 (.v 4)), (.vi .i64 (.v 5)), (.vi .i64 (.v 6)), (.s (.v 7)), (.s (.v 8)), (.vi .i64 (.v 9)), (.vi .i64 (.v 2))] [.i .i64] 10) <|
        .ite (.cmp .lt (.v 10) (.z 0))
         (
          .esc <|
          .done [(.vi .i64 (.z (-1)))])
         (
          .next [(.v 10), (.bin .add .i64 (.v 3) (.z 1))]))
       (
        .esc <|
        .done [(.vi .i64 (.v 2))]))
/-- laws_szActLineSS -/
def R_laws_szActLineSS : R :=
  .ite (.cmp .lt (.bin .sub .i64 (.v 1) (.len (.v 0))) (.z 0))
   (
    .done [(.vi .i64 (.z (-1)))])
   (
    .loop 2 [(.bin .sub .i64 (.v 1) (.len (.v 0))), (.z 0)] <|
      .ite (.cmp .lt (.v 3) (.len (.v 0)))
       (
        .i (.idx (.v 0) (.v 3) (.one (.s)) 4) <|
        .i (.call f_laws_szActLineS [(.s (.v 4)), (.vi .i64 (.v 2))] [.i .i64] 5) <|
        .ite (.cmp .lt (.v 5) (.z 0))
         (
          .esc <|
          .done [(.vi .i64 (.z (-1)))])
         (
          .next [(.v 5), (.bin .add .i64 (.v 3) (.z 1))]))
       (
        .esc <|
        .done [(.vi .i64 (.v 2))]))
/-- laws_szPlnPlan -/
def R_laws_szPlnPlan : R :=
  .i (.call f_laws_szActLineSS [(.s (.v 1)), (.vi .i64 (.v 4))] [.i .i64] 5) <|
  .ite (.cmp .lt (.v 5) (.z 0))
   (
    .done [(.vi .i64 (.z (-1)))])
   (
    .i (.call f_laws_szIntS [(.s (.v 2)), (.vi .i64 (.v 5))] [.i .i64] 6) <|
    .ite (.cmp .lt (.v 6) (.z 0))
     (
      .done [(.vi .i64 (.z (-1)))])
     (
      .i (.call f_laws_szIntS [(.s (.v 3)), (.vi .i64 (.v 6))] [.i .i64] 7) <|
      .ite (.cmp .lt (.v 7) (.z 0))
       (
        .done [(.vi .i64 (.z (-1)))])
       (
        .done [(.vi .i64 (.v 7))])))
/-- laws_toIntS -/
def R_laws_toIntS : R :=
  .i (.chk (.cmp .le (.z 0) (.len (.v 0)))) <|
  .i (.chk (.cmp .le (.len (.v 0)) (.z 8796093022208))) <|
  .loop 1 [(.rep (.len (.v 0)) (.vi .i64 (.z 0))), (.z 0)] <|
    .ite (.cmp .lt (.v 2) (.len (.v 0)))
     (
      .i (.idx (.v 0) (.v 2) (.one (.i .i64)) 3) <|
      .i (.chk (.cmp .le (.z 0) (.v 2))) <|
      .i (.chk (.cmp .lt (.v 2) (.len (.v 1)))) <|
      .i (.idx (.v 1) (.v 2) (.one (.i .i64)) 4) <|
      .next [(.set (.v 1) (.v 2) (.vi .i64 (.v 3))), (.bin .add .i64 (.v 2) (.z 1))])
     (
      .esc <|
      .done [(.s (.v 1))])
/-- laws_toFrmForm -/
def R_laws_toFrmForm : R :=
  .i (.call f_laws_toIntS [(.s (.v 0))] [.s] 3) <|
  .i (.call f_laws_toIntS [(.s (.v 1))] [.s] 4) <|
  .done [(.s (.v 3)), (.s (.v 4)), (.vi .i64 (.v 2))]
/-- laws_toActLine -/
def R_laws_toActLine : R :=
  .i (.call f_laws_toFrmForm [(.s (.v 3)), (.s (.v 4)), (.vi .i64 (.v 5))] [.s, .s, .i .i64] 6) <|
  .done [(.vi .i64 (.v 0)), (.vi .i64 (.v 1)), (.vi .i64 (.v 2)), (.s (.v 6)), (.s (.v 7)), (.vi .i64 (.v 8))]
/-- laws_toActLineS -/
def R_laws_toActLineS : R :=
  .i (.chk (.cmp .le (.z 0) (.len (.v 0)))) <|
  .i (.chk (.cmp .le (.len (.v 0)) (.z 879609302220))) <|
  .loop 1 [(.rep (.len (.v 0)) (.g (.cons (.vi .i64 (.z 0)) (.cons (.vi .i64 (.z 0)) (.cons (.vi .i64 (.z 0)) (.cons (.s .nil) (.cons (.s .nil) (.cons (.vi .i64 (.z 0)) .nil)))))))), (.z 0)] <|
    .ite (.cmp .lt (.v 2) (.len (.v 0)))
     (
      .i (.idx (.v 0) (.v 2) (.g [.i .i64, .i .i64, .i .i64, .s, .s, .i .i64]) 3) <|
      .i (.call f_laws_toActLine [(.vi .i64 (.v 3)), (.vi .i64 (.v 4)), (.vi .i64 (.v 5)), (.s (.v 6)), (.s (.v 7)), (.vi .i64 (.v 8))] [.i .i64, .i .i64, .i .i64, .s, .s, .i .i64] 9) <|
      .i (.chk (.cmp .le (.z 0) (.v 2))) <|
      .i (.chk (.cmp .lt (.v 2) (.len (.v 1)))) <|
      .i (.idx (.v 1) (.v 2) (.g [.i .i64, .i .i64, .i .i64, .s, .s, .i .i64]) 15) <|
      .next [(.set (.v 1) (.v 2) (.g (.cons (.vi .i64 (.v 9)) (.cons (.vi .i64 (.v 10)) (.cons (.vi .i64 (.v 11)) (.cons (.s (.v 12)) (.cons (.s (.v 13)) (.cons (.vi .i64 (.v 14)) .nil)))))))), (.bin .add .i64 (.v 2) (.z 1))])
     (
      .esc <|
      .done [(.s (.v 1))])
/-- laws_toActLineSS -/
def R_laws_toActLineSS : R :=
  .i (.chk (.cmp .le (.z 0) (.len (.v 0)))) <|
  .i (.chk (.cmp .le (.len (.v 0)) (.z 2932031007402))) <|
  .loop 1 [(.rep (.len (.v 0)) (.s .nil)), (.z 0)] <|
    .ite (.cmp .lt (.v 2) (.len (.v 0)))
     (
      .i (.idx (.v 0) (.v 2) (.one (.s)) 3) <|
      .i (.call f_laws_toActLineS [(.s (.v 3))] [.s] 4) <|
      .i (.chk (.cmp .le (.z 0) (.v 2))) <|
      .i (.chk (.cmp .lt (.v 2) (.len (.v 1)))) <|
      .i (.idx (.v 1) (.v 2) (.one (.s)) 5) <|
      .next [(.set (.v 1) (.v 2) (.s (.v 4))), (.bin .add .i64 (.v 2) (.z 1))])
     (
      .esc <|
      .done [(.s (.v 1))])
/-- laws_toPlnPlan -/
def R_laws_toPlnPlan : R :=
  .i (.call f_laws_toActLineSS [(.s (.v 1))] [.s] 4) <|
  .i (.call f_laws_toIntS [(.s (.v 2))] [.s] 5) <|
  .i (.call f_laws_toIntS [(.s (.v 3))] [.s] 6) <|
  .done [(.vi .i64 (.v 0)), (.s (.v 4)), (.s (.v 5)), (.s (.v 6))]
/-- spec_l1In -/
def R_spec_l1In : R :=
  .ite (.cmp .le (.v 1) (.v 0))
   (
    .done [(.vb (.cmp .le (.v 0) (.v 2)))])
   (
    .done [(.vb .ff)])
/-- spec_l1All -/
def R_spec_l1All : R :=
  .ite (.not (.cmp .eq (.len (.v 0)) (.v 1)))
   (
    .done [(.vb .ff)])
   (
    .loop 3 [(.z 0)] <|
      .ite (.cmp .lt (.v 3) (.len (.v 0)))
       (
        .i (.idx (.v 0) (.v 3) (.one (.i .i64)) 4) <|
        .i (.call f_spec_l1In [(.vi .i64 (.v 4)), (.vi .i64 (.bin .sub .i64 (.z 0) (.v 2))), (.vi .i64 (.v 2))] [.b] 5) <|
        .ite (.not (.v 5))
         (
          .esc <|
          .done [(.vb .ff)])
         (
          .next [(.bin .add .i64 (.v 3) (.z 1))]))
       (
        .esc <|
        .done [(.vb .tt)]))
/-- spec_l2Small -/
def R_spec_l2Small : R :=
  .i (.call f_spec_l1All [(.s (.v 0)), (.vi .i64 (.z 3)), (.vi .i64 (.z 2))] [.b] 3) <|
  .ite (.v 3)
   (
    .i (.call f_spec_l1All [(.s (.v 1)), (.vi .i64 (.z 2)), (.vi .i64 (.z 2))] [.b] 4) <|
    .ite (.v 4)
     (
      .i (.call f_spec_l1In [(.vi .i64 (.v 2)), (.vi .i64 (.z (-20))), (.vi .i64 (.z 20))] [.b] 5) <|
      .done [(.vb (.v 5))])
     (
      .done [(.vb .ff)]))
   (
    .done [(.vb .ff)])
/-- spec_l2Line -/
def R_spec_l2Line : R :=
  .ite (.cmp .eq (.v 0) (.z 1))
   (
    .ite (.cmp .eq (.v 1) (.z 0))
     (
      .i (.call f_spec_l1In [(.vi .i64 (.v 2)), (.vi .i64 (.z 1)), (.vi .i64 (.z 6))] [.b] 6) <|
      .ite (.v 6)
       (
        .i (.call f_spec_l2Small [(.s (.v 3)), (.s (.v 4)), (.vi .i64 (.v 5))] [.b] 7) <|
        .done [(.vb (.v 7))])
       (
        .done [(.vb .ff)]))
     (
      .done [(.vb .ff)]))
   (
    .ite (.cmp .eq (.v 0) (.z 2))
     (
      .i (.call f_spec_l1In [(.vi .i64 (.v 1)), (.vi .i64 (.z 0)), (.vi .i64 (.z 2))] [.b] 6) <|
      .ite (.v 6)
       (
        .ite (.cmp .eq (.v 2) (.z 0))
         (
          .i (.call f_spec_l2Small [(.s (.v 3)), (.s (.v 4)), (.vi .i64 (.v 5))] [.b] 7) <|
          .done [(.vb (.v 7))])
         (
          .done [(.vb .ff)]))
       (
        .done [(.vb .ff)]))
     (
      .ite (.cmp .eq (.v 0) (.z 3))
       (
        .ite (.cmp .eq (.v 1) (.z 0))
         (
          .ite (.cmp .eq (.v 2) (.z 0))
           (
            .i (.call f_spec_l2Small [(.s (.v 3)), (.s (.v 4)), (.vi .i64 (.v 5))] [.b] 6) <|
            .done [(.vb (.v 6))])
           (
            .done [(.vb .ff)]))
         (
          .done [(.vb .ff)]))
       (
        .ite (.cmp .eq (.v 0) (.z 4))
         (
          .ite (.cmp .eq (.v 1) (.z 0))
           (
            .ite (.cmp .eq (.v 2) (.z 0))
             (
              .ite (.cmp .eq (.bin .add .i64 (.len (.v 3)) (.len (.v 4))) (.z 0))
               (
                .done [(.vb (.cmp .eq (.v 5) (.z 0)))])
               (
                .done [(.vb .ff)]))
             (
              .done [(.vb .ff)]))
           (
            .done [(.vb .ff)]))
         (
          .done [(.vb .ff)]))))
/-- spec_ActOk -/
def R_spec_ActOk : R :=
  .loop 1 [(.z 0), (.z 0)] <|
    .ite (.cmp .lt (.v 2) (.len (.v 0)))
     (
      .i (.idx (.v 0) (.v 2) (.g [.i .i64, .i .i64, .i .i64, .s, .s, .i .i64]) 3) <|
      .i (.call f_spec_l2Line [(.vi .i64 (.v 3)), (.vi .i64 (.v 4)), (.vi .i64 (.v 5)), (.s (.v 6)), (.s (.v 7)), (.vi .i64 (.v 8))] [.b] 9) <|
      .ite (.not (.v 9))
       (
        .esc <|
        .done [(.vb .ff)])
       (
        .i (.idx (.v 0) (.v 2) (.g [.i .i64, .i .i64, .i .i64, .s, .s, .i .i64]) 10) <|
        .ite (.cmp .eq (.v 10) (.z 1))
         (
          .next [(.bin .add .i64 (.v 1) (.z 1)), (.bin .add .i64 (.v 2) (.z 1))])
         (
          .next [(.v 1), (.bin .add .i64 (.v 2) (.z 1))])))
     (
      .esc <|
      .ite (.cmp .le (.len (.v 0)) (.z 6))
       (
        .done [(.vb (.cmp .le (.v 1) (.z 3)))])
       (
        .done [(.vb .ff)]))
/-- spec_CatOk -/
def R_spec_CatOk : R :=
  .i (.call f_spec_l1In [(.vi .i64 (.len (.v 0))), (.vi .i64 (.z 1)), (.vi .i64 (.z 4))] [.b] 1) <|
  .ite (.not (.v 1))
   (
    .done [(.vb .ff)])
   (
    .loop 2 [(.z 0)] <|
      .ite (.cmp .lt (.v 2) (.len (.v 0)))
       (
        .i (.idx (.v 0) (.v 2) (.one (.s)) 3) <|
        .i (.call f_spec_ActOk [(.s (.v 3))] [.b] 4) <|
        .ite (.not (.v 4))
         (
          .esc <|
          .done [(.vb .ff)])
         (
          .next [(.bin .add .i64 (.v 2) (.z 1))]))
       (
        .esc <|
        .done [(.vb .tt)]))
/-- spec_ValOk -/
def R_spec_ValOk : R :=
  .i (.call f_spec_l1All [(.s (.v 0)), (.vi .i64 (.z 3)), (.vi .i64 (.z 10000))] [.b] 1) <|
  .done [(.vb (.v 1))]
/-- spec_TrtOk -/
def R_spec_TrtOk : R :=
  .i (.call f_spec_ValOk [(.s (.v 0))] [.b] 2) <|
  .ite (.not (.v 2))
   (
    .done [(.vb .ff)])
   (
    .i (.call f_spec_l1In [(.vi .i64 (.len (.v 1))), (.vi .i64 (.z 1)), (.vi .i64 (.z 3))] [.b] 3) <|
    .ite (.not (.v 3))
     (
      .done [(.vb .ff)])
     (
      .loop 4 [(.z 0)] <|
        .ite (.cmp .lt (.v 4) (.len (.v 1)))
         (
          .i (.idx (.v 1) (.v 4) (.one (.i .i64)) 5) <|
          .i (.call f_spec_l1In [(.vi .i64 (.v 5)), (.vi .i64 (.z 0)), (.vi .i64 (.z 50))] [.b] 6) <|
          .ite (.not (.v 6))
           (
            .esc <|
            .done [(.vb .ff)])
           (
            .next [(.bin .add .i64 (.v 4) (.z 1))]))
         (
          .esc <|
          .done [(.vb .tt)])))
/-- spec_PlnOk -/
def R_spec_PlnOk : R :=
  .i (.call f_spec_l1In [(.vi .i64 (.v 0)), (.vi .i64 (.z 1)), (.vi .i64 (.z 4))] [.b] 4) <|
  .ite (.v 4)
   (
    .i (.call f_spec_CatOk [(.s (.v 1))] [.b] 5) <|
    .ite (.v 5)
     (
      .i (.call f_spec_l1All [(.s (.v 3)), (.vi .i64 (.z 3)), (.vi .i64 (.z 1000))] [.b] 6) <|
      .ite (.v 6)
       (
        .i (.call f_spec_TrtOk [(.s (.v 3)), (.s (.v 2))] [.b] 7) <|
        .done [(.vb (.v 7))])
       (
        .done [(.vb .ff)]))
     (
      .done [(.vb .ff)]))
   (
    .done [(.vb .ff)])
/-- spec_l6New -/
def R_spec_l6New : R :=
  .loop 4 [.nil, (.z 0)] <|
    .ite (.cmp .lt (.v 5) (.v 0))
     (
      .i (.chk (.cmp .le (.len (.app (.v 4) (.cons (.g (.cons (.vi .i64 (.z 0)) (.cons (.vi .i64 (.z 0)) (.cons (.s .nil) .nil)))) .nil))) (.z 1759218604441))) <|
      .next [(.app (.v 4) (.cons (.g (.cons (.vi .i64 (.z 0)) (.cons (.vi .i64 (.z 0)) (.cons (.s .nil) .nil)))) .nil)), (.bin .add .i64 (.v 5) (.z 1))])
     (
      .esc <|
      .done [(.s (.v 4))])
/-- spec_l9None -/
def R_spec_l9None : R :=
  .loop 4 [.nil, (.z 0)] <|
    .ite (.cmp .lt (.v 5) (.len (.v 2)))
     (
      .i (.chk (.cmp .le (.len (.app (.v 4) (.cons (.g (.cons (.vb .ff) (.cons (.s .nil) (.cons (.s .nil) .nil)))) .nil))) (.z 1256584717458))) <|
      .next [(.app (.v 4) (.cons (.g (.cons (.vb .ff) (.cons (.s .nil) (.cons (.s .nil) .nil)))) .nil)), (.bin .add .i64 (.v 5) (.z 1))])
     (
      .esc <|
      .done [(.s (.v 4))])
/-- spec_ClkNew -/
def R_spec_ClkNew : R :=
  .i (.call f_spec_PlnOk [(.vi .i64 (.v 0)), (.s (.v 1)), (.s (.v 2)), (.s (.v 3))] [.b] 4) <|
  .ite (.not (.v 4))
   (
    .done [(.vb .ff), (.vi .i64 (.z 0)), (.s .nil), (.s .nil), (.s .nil), (.s .nil)])
   (
    .i (.chk (.cmp .le (.len (.v 3)) (.z 8796093022208))) <|
    .i (.head 1 (.v 3)) <|
    .i (.chk (.cmp .le (.len (.app .nil (.v 3))) (.z 8796093022208))) <|
    .i (.call f_spec_l6New [(.vi .i64 (.v 0)), (.s (.v 1)), (.s (.v 2)), (.s (.v 3))] [.s] 5) <|
    .i (.call f_spec_l9None [(.vi .i64 (.v 0)), (.s (.v 1)), (.s (.v 2)), (.s (.v 3))] [.s] 6) <|
    .done [(.vb .tt), (.vi .i64 (.z 0)), (.s (.app .nil (.v 3))), (.s (.v 5)), (.s .nil), (.s (.v 6))])
/-- impl_in -/
def R_impl_in : R :=
  .ite (.cmp .le (.v 1) (.v 0))
   (
    .done [(.vb (.cmp .le (.v 0) (.v 2)))])
   (
    .done [(.vb .ff)])
/-- slices_IndexFunc_SSimpl_ActLine_Simpl_ActLine -/
def R_slices_IndexFunc_SSimpl_ActLine_Simpl_ActLine : R :=
  .loop 2 [(.z 0)] <|
    .ite (.cmp .lt (.v 2) (.len (.v 0)))
     (
      .i (.idx (.v 0) (.v 2) (.one (.s)) 3) <|
      .i (.callv (.da 1) [(.s (.v 3))] [none] [.b] 4) <|
      .ite (.v 4)
       (
        .esc <|
        .done [(.vi .i64 (.v 2))])
       (
        .next [(.bin .add .i64 (.v 2) (.z 1))]))
     (
      .esc <|
      .done [(.vi .i64 (.z (-1)))])
/-- slices_ContainsFunc_SSimpl_ActLine_Simpl_ActLine -/
def R_slices_ContainsFunc_SSimpl_ActLine_Simpl_ActLine : R :=
  .i (.call f_slices_IndexFunc_SSimpl_ActLine_Simpl_ActLine [(.s (.v 0)), (.da 1)] [.i .i64] 2) <|
  .done [(.vb (.cmp .le (.z 0) (.v 2)))]
/-- impl_within_1 -/
def R_impl_within_1 : R :=
  .i (.get (.da 1) (.q [.i .i64]) 2) <|
  .i (.get (.da 1) (.q [.i .i64]) 3) <|
  .i (.call f_impl_in [(.vi .i64 (.v 0)), (.vi .i64 (.bin .sub .i64 (.z 0) (.v 2))), (.vi .i64 (.v 3))] [.b] 4) <|
  .done [(.vb (.not (.v 4)))]
/-- slices_IndexFunc_Sint_int -/
def R_slices_IndexFunc_Sint_int : R :=
  .loop 2 [(.z 0)] <|
    .ite (.cmp .lt (.v 2) (.len (.v 0)))
     (
      .i (.idx (.v 0) (.v 2) (.one (.i .i64)) 3) <|
      .i (.callv (.da 1) [(.vi .i64 (.v 3))] [none] [.b] 4) <|
      .ite (.v 4)
       (
        .esc <|
        .done [(.vi .i64 (.v 2))])
       (
        .next [(.bin .add .i64 (.v 2) (.z 1))]))
     (
      .esc <|
      .done [(.vi .i64 (.z (-1)))])
/-- slices_ContainsFunc_Sint_int -/
def R_slices_ContainsFunc_Sint_int : R :=
  .i (.call f_slices_IndexFunc_Sint_int [(.s (.v 0)), (.da 1)] [.i .i64] 2) <|
  .done [(.vb (.cmp .le (.z 0) (.v 2)))]
/-- impl_within -/
def R_impl_within : R :=
  .ite (.cmp .eq (.len (.v 0)) (.v 1))
   (
    .i (.call f_slices_ContainsFunc_Sint_int [(.s (.v 0)), (.fn f_impl_within_1 (.cons (.q (.cons (.vi .i64 (.v 2)) .nil)) .nil))] [.b] 3) <|
    .done [(.vb (.not (.v 3)))])
   (
    .done [(.vb .ff)])
/-- impl_FrmForm_small -/
def R_impl_FrmForm_small : R :=
  .i (.call f_impl_within [(.s (.v 0)), (.vi .i64 (.z 3)), (.vi .i64 (.z 2))] [.b] 3) <|
  .ite (.v 3)
   (
    .i (.call f_impl_within [(.s (.v 1)), (.vi .i64 (.z 2)), (.vi .i64 (.z 2))] [.b] 4) <|
    .ite (.v 4)
     (
      .i (.call f_impl_in [(.vi .i64 (.v 2)), (.vi .i64 (.z (-20))), (.vi .i64 (.z 20))] [.b] 5) <|
      .done [(.vb (.v 5))])
     (
      .done [(.vb .ff)]))
   (
    .done [(.vb .ff)])
/-- slices_Equal_Sint_int -/
def R_slices_Equal_Sint_int : R :=
  .ite (.not (.cmp .eq (.len (.v 0)) (.len (.v 1))))
   (
    .done [(.vb .ff)])
   (
    .loop 2 [(.z 0)] <|
      .ite (.cmp .lt (.v 2) (.len (.v 0)))
       (
        .i (.idx (.v 0) (.v 2) (.one (.i .i64)) 3) <|
        .i (.idx (.v 1) (.v 2) (.one (.i .i64)) 4) <|
        .ite (.not (.cmp .eq (.v 3) (.v 4)))
         (
          .esc <|
          .done [(.vb .ff)])
         (
          .next [(.bin .add .i64 (.v 2) (.z 1))]))
       (
        .esc <|
        .done [(.vb .tt)]))
/-- impl_FrmForm_same -/
def R_impl_FrmForm_same : R :=
  .ite (.cmp .eq (.v 2) (.v 5))
   (
    .i (.call f_slices_Equal_Sint_int [(.s (.v 0)), (.s (.v 3))] [.b] 6) <|
    .ite (.v 6)
     (
      .i (.call f_slices_Equal_Sint_int [(.s (.v 1)), (.s (.v 4))] [.b] 7) <|
      .done [(.vb (.v 7))])
     (
      .done [(.vb .ff)]))
   (
    .done [(.vb .ff)])
/-- impl_ActLine_ok -/
def R_impl_ActLine_ok : R :=
  .ite (.cmp .eq (.v 0) (.z 1))
   (
    .i (.call f_impl_in [(.vi .i64 (.v 2)), (.vi .i64 (.z 1)), (.vi .i64 (.z 6))] [.b] 6) <|
    .ite (.v 6)
     (
      .ite (.cmp .eq (.v 1) (.z 0))
       (
        .i (.call f_impl_FrmForm_small [(.s (.v 3)), (.s (.v 4)), (.vi .i64 (.v 5))] [.b] 7) <|
        .done [(.vb (.v 7))])
       (
        .done [(.vb .ff)]))
     (
      .done [(.vb .ff)]))
   (
    .ite (.cmp .eq (.v 0) (.z 2))
     (
      .i (.call f_impl_in [(.vi .i64 (.v 1)), (.vi .i64 (.z 0)), (.vi .i64 (.z 2))] [.b] 6) <|
      .ite (.v 6)
       (
        .ite (.cmp .eq (.v 2) (.z 0))
         (
          .i (.call f_impl_FrmForm_small [(.s (.v 3)), (.s (.v 4)), (.vi .i64 (.v 5))] [.b] 7) <|
          .done [(.vb (.v 7))])
         (
          .done [(.vb .ff)]))
       (
        .done [(.vb .ff)]))
     (
      .ite (.cmp .eq (.v 0) (.z 3))
       (
        .ite (.cmp .eq (.v 1) (.z 0))
         (
          .ite (.cmp .eq (.v 2) (.z 0))
           (
            .i (.call f_impl_FrmForm_small [(.s (.v 3)), (.s (.v 4)), (.vi .i64 (.v 5))] [.b] 6) <|
            .done [(.vb (.v 6))])
           (
            .done [(.vb .ff)]))
         (
          .done [(.vb .ff)]))
       (
        .ite (.cmp .eq (.v 0) (.z 4))
         (
          .ite (.cmp .eq (.v 1) (.z 0))
           (
            .ite (.cmp .eq (.v 2) (.z 0))
             (
              .i (.call f_impl_FrmForm_same [(.s (.v 3)), (.s (.v 4)), (.vi .i64 (.v 5)), (.s .nil), (.s .nil), (.vi .i64 (.z 0))] [.b] 6) <|
              .done [(.vb (.v 6))])
             (
              .done [(.vb .ff)]))
           (
            .done [(.vb .ff)]))
         (
          .done [(.vb .ff)]))))
/-- impl_ActOk -/
def R_impl_ActOk : R :=
  .loop 1 [(.z 0), (.z 0)] <|
    .ite (.cmp .lt (.v 2) (.len (.v 0)))
     (
      .i (.idx (.v 0) (.v 2) (.g [.i .i64, .i .i64, .i .i64, .s, .s, .i .i64]) 3) <|
      .i (.call f_impl_ActLine_ok [(.vi .i64 (.v 3)), (.vi .i64 (.v 4)), (.vi .i64 (.v 5)), (.s (.v 6)), (.s (.v 7)), (.vi .i64 (.v 8))] [.b] 9) <|
      .ite (.not (.v 9))
       (
        .esc <|
        .done [(.vb .ff)])
       (
        .ite (.cmp .eq (.v 3) (.z 1))
         (
          .next [(.bin .add .i64 (.v 1) (.z 1)), (.bin .add .i64 (.v 2) (.z 1))])
         (
          .next [(.v 1), (.bin .add .i64 (.v 2) (.z 1))])))
     (
      .esc <|
      .ite (.cmp .le (.len (.v 0)) (.z 6))
       (
        .done [(.vb (.cmp .le (.v 1) (.z 3)))])
       (
        .done [(.vb .ff)]))
/-- impl_CatOk_1 -/
def R_impl_CatOk_1 : R :=
  .i (.call f_impl_ActOk [(.s (.v 0))] [.b] 1) <|
  .done [(.vb (.not (.v 1)))]
/-- impl_CatOk -/
def R_impl_CatOk : R :=
  .i (.call f_impl_in [(.vi .i64 (.len (.v 0))), (.vi .i64 (.z 1)), (.vi .i64 (.z 4))] [.b] 1) <|
  .ite (.v 1)
   (
    .i (.call f_slices_ContainsFunc_SSimpl_ActLine_Simpl_ActLine [(.s (.v 0)), (.fn f_impl_CatOk_1 .nil)] [.b] 2) <|
    .done [(.vb (.not (.v 2)))])
   (
    .done [(.vb .ff)])
/-- impl_PlnPlan_treaty -/
def R_impl_PlnPlan_treaty : R :=
  .done [(.s (.v 4)), (.s (.v 2))]
/-- impl_TrtOk_1 -/
def R_impl_TrtOk_1 : R :=
  .i (.call f_impl_in [(.vi .i64 (.v 0)), (.vi .i64 (.z 0)), (.vi .i64 (.z 50))] [.b] 1) <|
  .done [(.vb (.not (.v 1)))]
/-- impl_ValOk -/
def R_impl_ValOk : R :=
  .i (.call f_impl_within [(.s (.v 0)), (.vi .i64 (.z 3)), (.vi .i64 (.z 10000))] [.b] 1) <|
  .done [(.vb (.v 1))]
/-- impl_TrtOk -/
def R_impl_TrtOk : R :=
  .i (.call f_impl_ValOk [(.s (.v 0))] [.b] 2) <|
  .ite (.v 2)
   (
    .i (.call f_impl_in [(.vi .i64 (.len (.v 1))), (.vi .i64 (.z 1)), (.vi .i64 (.z 3))] [.b] 3) <|
    .ite (.v 3)
     (
      .i (.call f_slices_ContainsFunc_Sint_int [(.s (.v 1)), (.fn f_impl_TrtOk_1 .nil)] [.b] 4) <|
      .done [(.vb (.not (.v 4)))])
     (
      .done [(.vb .ff)]))
   (
    .done [(.vb .ff)])
/-- impl_PlnOk -/
def R_impl_PlnOk : R :=
  .i (.call f_impl_in [(.vi .i64 (.v 0)), (.vi .i64 (.z 1)), (.vi .i64 (.z 4))] [.b] 4) <|
  .ite (.v 4)
   (
    .i (.call f_impl_CatOk [(.s (.v 1))] [.b] 5) <|
    .ite (.v 5)
     (
      .i (.call f_impl_within [(.s (.v 3)), (.vi .i64 (.z 3)), (.vi .i64 (.z 1000))] [.b] 6) <|
      .ite (.v 6)
       (
        .i (.call f_impl_PlnPlan_treaty [(.vi .i64 (.v 0)), (.s (.v 1)), (.s (.v 2)), (.s (.v 3)), (.s (.v 3))] [.s, .s] 7) <|
        .i (.call f_impl_TrtOk [(.s (.v 7)), (.s (.v 8))] [.b] 9) <|
        .done [(.vb (.v 9))])
       (
        .done [(.vb .ff)]))
     (
      .done [(.vb .ff)]))
   (
    .done [(.vb .ff)])
/-- slices_Clone_Sint_int -/
def R_slices_Clone_Sint_int : R :=
  .nilq 1 (.v 0)
   (
    .done [(.s .nil)])
   (
    .i (.chk (.cmp .le (.len (.v 0)) (.z 8796093022208))) <|
    .i (.head 1 (.v 0)) <|
    .i (.chk (.cmp .le (.len (.app .nil (.v 0))) (.z 8796093022208))) <|
    .done [(.s (.app .nil (.v 0)))])
/-- impl_PlnPlan_clerkNew -/
def R_impl_PlnPlan_clerkNew : R :=
  .i (.call f_slices_Clone_Sint_int [(.s (.v 3))] [.s] 4) <|
  .i (.chk (.cmp .le (.z 0) (.v 0))) <|
  .i (.chk (.cmp .le (.v 0) (.z 1759218604441))) <|
  .i (.chk (.cmp .le (.z 0) (.len (.v 2)))) <|
  .i (.chk (.cmp .le (.len (.v 2)) (.z 1256584717458))) <|
  .done [(.vb .tt), (.vi .i64 (.z 0)), (.s (.v 4)), (.s (.rep (.v 0) (.g (.cons (.vi .i64 (.z 0)) (.cons (.vi .i64 (.z 0)) (.cons (.s .nil) .nil)))))), (.s .nil), (.s (.rep (.len (.v 2)) (.g (.cons (.vb .ff) (.cons (.s .nil) (.cons (.s .nil) .nil))))))]
/-- impl_ClkNew -/
def R_impl_ClkNew : R :=
  .i (.call f_impl_PlnOk [(.vi .i64 (.v 0)), (.s (.v 1)), (.s (.v 2)), (.s (.v 3))] [.b] 4) <|
  .ite (.not (.v 4))
   (
    .done [(.vb .ff), (.vi .i64 (.z 0)), (.s .nil), (.s .nil), (.s .nil), (.s .nil)])
   (
    .i (.call f_impl_PlnPlan_clerkNew [(.vi .i64 (.v 0)), (.s (.v 1)), (.s (.v 2)), (.s (.v 3))] [.b, .i .i64, .s, .s, .s, .s] 5) <|
    .done [(.vb (.v 5)), (.vi .i64 (.v 6)), (.s (.v 7)), (.s (.v 8)), (.s (.v 9)), (.s (.v 10))])
/-- laws_eqIntS -/
def R_laws_eqIntS : R :=
  .ite (.not (.cmp .eq (.len (.v 0)) (.len (.v 1))))
   (
    .done [(.vb .ff)])
   (
    .loop 2 [(.z 0)] <|
      .ite (.cmp .lt (.v 2) (.len (.v 0)))
       (
        .i (.idx (.v 0) (.v 2) (.one (.i .i64)) 3) <|
        .i (.idx (.v 1) (.v 2) (.one (.i .i64)) 4) <|
        .ite (.not (.cmp .eq (.v 3) (.v 4)))
         (
          .esc <|
          .done [(.vb .ff)])
         (
          .next [(.bin .add .i64 (.v 2) (.z 1))]))
       (
        .esc <|
        .done [(.vb .tt)]))
/-- laws_eqResResult -/
def R_laws_eqResResult : R :=
  .ite (.not (.cmp .eq (.v 0) (.v 2)))
   (
    .done [(.vb .ff)])
   (
    .i (.call f_laws_eqIntS [(.s (.v 1)), (.s (.v 3))] [.b] 4) <|
    .ite (.not (.v 4))
     (
      .done [(.vb .ff)])
     (
      .done [(.vb .tt)]))
/-- laws_eqPlnDone -/
def R_laws_eqPlnDone : R :=
  .ite (.not (.cmp .eq (.v 0) (.v 3)))
   (
    .done [(.vb .ff)])
   (
    .i (.call f_laws_eqResResult [(.vi .i64 (.v 1)), (.s (.v 2)), (.vi .i64 (.v 4)), (.s (.v 5))] [.b] 6) <|
    .ite (.not (.v 6))
     (
      .done [(.vb .ff)])
     (
      .done [(.vb .tt)]))
/-- laws_eqPlnDoneS -/
def R_laws_eqPlnDoneS : R :=
  .ite (.not (.cmp .eq (.len (.v 0)) (.len (.v 1))))
   (
    .done [(.vb .ff)])
   (
    .loop 2 [(.z 0)] <|
      .ite (.cmp .lt (.v 2) (.len (.v 0)))
       (
        .i (.idx (.v 0) (.v 2) (.g [.i .i64, .i .i64, .s]) 3) <|
        .i (.idx (.v 1) (.v 2) (.g [.i .i64, .i .i64, .s]) 6) <|
        .i (.call f_laws_eqPlnDone [(.vi .i64 (.v 3)), (.vi .i64 (.v 4)), (.s (.v 5)), (.vi .i64 (.v 6)), (.vi .i64 (.v 7)), (.s (.v 8))] [.b] 9) <|
        .ite (.not (.v 9))
         (
          .esc <|
          .done [(.vb .ff)])
         (
          .next [(.bin .add .i64 (.v 2) (.z 1))]))
       (
        .esc <|
        .done [(.vb .tt)]))
/-- laws_eqPlnCall -/
def R_laws_eqPlnCall : R :=
  .ite (.not (.cmp .eq (.v 0) (.v 4)))
   (
    .done [(.vb .ff)])
   (
    .ite (.not (.cmp .eq (.v 1) (.v 5)))
     (
      .done [(.vb .ff)])
     (
      .ite (.not (.cmp .eq (.v 2) (.v 6)))
       (
        .done [(.vb .ff)])
       (
        .i (.call f_laws_eqIntS [(.s (.v 3)), (.s (.v 7))] [.b] 8) <|
        .ite (.not (.v 8))
         (
          .done [(.vb .ff)])
         (
          .done [(.vb .tt)]))))
/-- laws_eqPlnCallS -/
def R_laws_eqPlnCallS : R :=
  .ite (.not (.cmp .eq (.len (.v 0)) (.len (.v 1))))
   (
    .done [(.vb .ff)])
   (
    .loop 2 [(.z 0)] <|
      .ite (.cmp .lt (.v 2) (.len (.v 0)))
       (
        .i (.idx (.v 0) (.v 2) (.g [.i .i64, .i .i64, .i .i64, .s]) 3) <|
        .i (.idx (.v 1) (.v 2) (.g [.i .i64, .i .i64, .i .i64, .s]) 7) <|
        .i (.call f_laws_eqPlnCall [(.vi .i64 (.v 3)), (.vi .i64 (.v 4)), (.vi .i64 (.v 5)), (.s (.v 6)), (.vi .i64 (.v 7)), (.vi .i64 (.v 8)), (.vi .i64 (.v 9)), (.s (.v 10))] [.b] 11) <|
        .ite (.not (.v 11))
         (
          .esc <|
          .done [(.vb .ff)])
         (
          .next [(.bin .add .i64 (.v 2) (.z 1))]))
       (
        .esc <|
        .done [(.vb .tt)]))
/-- laws_eqClkGot -/
def R_laws_eqClkGot : R :=
  .ite (.not (.beq (.v 0) (.v 3)))
   (
    .done [(.vb .ff)])
   (
    .i (.call f_laws_eqIntS [(.s (.v 1)), (.s (.v 4))] [.b] 6) <|
    .ite (.not (.v 6))
     (
      .done [(.vb .ff)])
     (
      .i (.call f_laws_eqIntS [(.s (.v 2)), (.s (.v 5))] [.b] 7) <|
      .ite (.not (.v 7))
       (
        .done [(.vb .ff)])
       (
        .done [(.vb .tt)])))
/-- laws_eqClkGotS -/
def R_laws_eqClkGotS : R :=
  .ite (.not (.cmp .eq (.len (.v 0)) (.len (.v 1))))
   (
    .done [(.vb .ff)])
   (
    .loop 2 [(.z 0)] <|
      .ite (.cmp .lt (.v 2) (.len (.v 0)))
       (
        .i (.idx (.v 0) (.v 2) (.g [.b, .s, .s]) 3) <|
        .i (.idx (.v 1) (.v 2) (.g [.b, .s, .s]) 6) <|
        .i (.call f_laws_eqClkGot [(.vb (.v 3)), (.s (.v 4)), (.s (.v 5)), (.vb (.v 6)), (.s (.v 7)), (.s (.v 8))] [.b] 9) <|
        .ite (.not (.v 9))
         (
          .esc <|
          .done [(.vb .ff)])
         (
          .next [(.bin .add .i64 (.v 2) (.z 1))]))
       (
        .esc <|
        .done [(.vb .tt)]))
/-- laws_eqClkClerk -/
def R_laws_eqClkClerk : R :=
  .ite (.not (.beq (.v 0) (.v 6)))
   (
    .done [(.vb .ff)])
   (
    .ite (.not (.cmp .eq (.v 1) (.v 7)))
     (
      .done [(.vb .ff)])
     (
      .i (.call f_laws_eqIntS [(.s (.v 2)), (.s (.v 8))] [.b] 12) <|
      .ite (.not (.v 12))
       (
        .done [(.vb .ff)])
       (
        .i (.call f_laws_eqPlnDoneS [(.s (.v 3)), (.s (.v 9))] [.b] 13) <|
        .ite (.not (.v 13))
         (
          .done [(.vb .ff)])
         (
          .i (.call f_laws_eqPlnCallS [(.s (.v 4)), (.s (.v 10))] [.b] 14) <|
          .ite (.not (.v 14))
           (
            .done [(.vb .ff)])
           (
            .i (.call f_laws_eqClkGotS [(.s (.v 5)), (.s (.v 11))] [.b] 15) <|
            .ite (.not (.v 15))
             (
              .done [(.vb .ff)])
             (
              .done [(.vb .tt)]))))))
/-- laws_eqFrmForm -/
def R_laws_eqFrmForm : R :=
  .i (.call f_laws_eqIntS [(.s (.v 0)), (.s (.v 3))] [.b] 6) <|
  .ite (.not (.v 6))
   (
    .done [(.vb .ff)])
   (
    .i (.call f_laws_eqIntS [(.s (.v 1)), (.s (.v 4))] [.b] 7) <|
    .ite (.not (.v 7))
     (
      .done [(.vb .ff)])
     (
      .ite (.not (.cmp .eq (.v 2) (.v 5)))
       (
        .done [(.vb .ff)])
       (
        .done [(.vb .tt)])))
/-- laws_eqActLine -/
def R_laws_eqActLine : R :=
  .ite (.not (.cmp .eq (.v 0) (.v 6)))
   (
    .done [(.vb .ff)])
   (
    .ite (.not (.cmp .eq (.v 1) (.v 7)))
     (
      .done [(.vb .ff)])
     (
      .ite (.not (.cmp .eq (.v 2) (.v 8)))
       (
        .done [(.vb .ff)])
       (
        .i (.call f_laws_eqFrmForm [(.s (.v 3)), (.s (.v 4)), (.vi .i64 (.v 5)), (.s (.v 9)), (.s (.v 10)), (.vi .i64 (.v 11))] [.b] 12) <|
        .ite (.not (.v 12))
         (
          .done [(.vb .ff)])
         (
          .done [(.vb .tt)]))))
/-- laws_eqActLineS -/
def R_laws_eqActLineS : R :=
  .ite (.not (.cmp .eq (.len (.v 0)) (.len (.v 1))))
   (
    .done [(.vb .ff)])
   (
    .loop 2 [(.z 0)] <|
      .ite (.cmp .lt (.v 2) (.len (.v 0)))
       (
        .i (.idx (.v 0) (.v 2) (.g [.i .i64, .i .i64, .i .i64, .s, .s, .i .i64]) 3) <|
        .i (.idx (.v 1) (.v 2) (.g [.i .i64, .i .i64, .i .i64, .s, .s, .i .i64]) 9) <|
        .i (.call f_laws_eqActLine [(.vi .i64 (.v 3)), (.vi .i64 (.v 4)), (.vi .i64 (.v 5)), (.s (.v 6)), (.s (.v 7)), (.vi .i64 (.v 8)), (.vi .i64 (.v 9)), (.vi .i64 (.v 10)), (.vi .i64 (.v 11)), (.s (.v 12)), (.s (.v 13)), (.vi .i64 (.v 14))] [.b] 15) <|
        .ite (.not (.v 15))
         (
          .esc <|
          .done [(.vb .ff)])
         (
          .next [(.bin .add .i64 (.v 2) (.z 1))]))
       (
        .esc <|
        .done [(.vb .tt)]))
/-- laws_eqActLineSS -/
def R_laws_eqActLineSS : R :=
  .ite (.not (.cmp .eq (.len (.v 0)) (.len (.v 1))))
   (
    .done [(.vb .ff)])
   (
    .loop 2 [(.z 0)] <|
      .ite (.cmp .lt (.v 2) (.len (.v 0)))
       (
        .i (.idx (.v 0) (.v 2) (.one (.s)) 3) <|
        .i (.idx (.v 1) (.v 2) (.one (.s)) 4) <|
        .i (.call f_laws_eqActLineS [(.s (.v 3)), (.s (.v 4))] [.b] 5) <|
        .ite (.not (.v 5))
         (
          .esc <|
          .done [(.vb .ff)])
         (
          .next [(.bin .add .i64 (.v 2) (.z 1))]))
       (
        .esc <|
        .done [(.vb .tt)]))
/-- laws_eqPlnPlan -/
def R_laws_eqPlnPlan : R :=
  .ite (.not (.cmp .eq (.v 0) (.v 4)))
   (
    .done [(.vb .ff)])
   (
    .i (.call f_laws_eqActLineSS [(.s (.v 1)), (.s (.v 5))] [.b] 8) <|
    .ite (.not (.v 8))
     (
      .done [(.vb .ff)])
     (
      .i (.call f_laws_eqIntS [(.s (.v 2)), (.s (.v 6))] [.b] 9) <|
      .ite (.not (.v 9))
       (
        .done [(.vb .ff)])
       (
        .i (.call f_laws_eqIntS [(.s (.v 3)), (.s (.v 7))] [.b] 10) <|
        .ite (.not (.v 10))
         (
          .done [(.vb .ff)])
         (
          .done [(.vb .tt)]))))
/-- laws_markIntS -/
def R_laws_markIntS : R :=
  .loop 2 [(.v 0), (.v 1), (.z 0)] <|
    .ite (.cmp .lt (.v 4) (.len (.v 2)))
     (
      .i (.chk (.cmp .le (.z 0) (.v 4))) <|
      .i (.chk (.cmp .lt (.v 4) (.len (.v 2)))) <|
      .i (.idx (.v 2) (.v 4) (.one (.i .i64)) 5) <|
      .next [(.set (.v 2) (.v 4) (.vi .i64 (.v 3))), (.bin .add .i64 (.v 3) (.z 1)), (.bin .add .i64 (.v 4) (.z 1))])
     (
      .esc <|
      .done [(.vi .i64 (.v 3)), (.s (.v 2))])
/-- laws_markActLineS -/
def R_laws_markActLineS : R :=
  .loop 2 [(.v 0), (.v 1), (.z 0)] <|
    .ite (.cmp .lt (.v 4) (.len (.v 2)))
     (
      .i (.chk (.cmp .le (.z 0) (.v 4))) <|
      .i (.chk (.cmp .lt (.v 4) (.len (.v 2)))) <|
      .i (.idx (.v 2) (.v 4) (.g [.i .i64, .i .i64, .i .i64, .s, .s, .i .i64]) 5) <|
      .i (.chk (.cmp .le (.z 0) (.v 4))) <|
      .i (.chk (.cmp .lt (.v 4) (.len (.v 2)))) <|
      .i (.idx (.set (.v 2) (.v 4) (.g (.cons (.vi .i64 (.v 3)) (.cons (.vi .i64 (.v 6)) (.cons (.vi .i64 (.v 7)) (.cons (.s (.v 8)) (.cons (.s (.v 9)) (.cons (.vi .i64 (.v 10)) .nil)))))))) (.v 4) (.g [.i .i64, .i .i64, .i .i64, .s, .s, .i .i64]) 11) <|
      .i (.chk (.cmp .le (.z 0) (.v 4))) <|
      .i (.chk (.cmp .lt (.v 4) (.len (.v 2)))) <|
      .i (.idx (.set (.set (.v 2) (.v 4) (.g (.cons (.vi .i64 (.v 3)) (.cons (.vi .i64 (.v 6)) (.cons (.vi .i64 (.v 7)) (.cons (.s (.v 8)) (.cons (.s (.v 9)) (.cons (.vi .i64 (.v 10)) .nil)))))))) (.v 4) (.g (.cons (.vi .i64 (.v 11)) (.cons (.vi .i64 (.bin .add .i64 (.v 3) (.z 1))) (.cons (.vi .i64 (.v 13)) (.cons (.s (.v 14)) (.cons (.s (.v 15)) (.cons (.vi .i64 (.v 16)) .nil)))))))) (.v 4) (.g [.i .i64, .i .i64, .i .i64, .s, .s, .i .i64]) 17) <|
      .i (.chk (.cmp .le (.z 0) (.v 4))) <|
      .i (.chk (.cmp .lt (.v 4) (.len (.v 2)))) <|
      .i (.idx (.set (.set (.set (.v 2) (.v 4) (.g (.cons (.vi .i64 (.v 3)) (.cons (.vi .i64 (.v 6)) (.cons (.vi .i64 (.v 7)) (.cons (.s (.v 8)) (.cons (.s (.v 9)) (.cons (.vi .i64 (.v 10)) .nil)))))))) (.v 4) (.g (.cons (.vi .i64 (.v 11)) (.cons (.vi .i64 (.bin .add .i64 (.v 3) (.z 1))) (.cons (.vi .i64 (.v 13)) (.cons (.s (.v 14)) (.cons (.s (.v 15)) (.cons (.vi .i64 (.v 16)) .nil)))))))) (.v 4) (.g (.cons (.vi .i64 (.v 17)) (.cons (.vi .i64 (.v 18)) (.cons (.vi .i64 (.bin .add .i64 (.bin .add .i64 (.v 3) (.z 1)) (.z 1))) (.cons (.s (.v 20)) (.cons (.s (.v 21)) (.cons (.vi .i64 (.v 22)) .nil)))))))) (.v 4) (.g [.i .i64, .i .i64, .i .i64, .s, .s, .i .i64]) 23) <|
      .i (.call f_laws_markIntS [(.s (.v 26)), (.vi .i64 (.bin .add .i64 (.bin .add .i64 (.bin .add .i64 (.v 3) (.z 1)) (.z 1)) (.z 1)))] [.i .i64, .s] 29) <|
      .i (.chk (.cmp .eq (.len (.v 30)) (.len (.v 26)))) <|
      .i (.chk (.cmp .le (.z 0) (.v 4))) <|
      .i (.chk (.cmp .lt (.v 4) (.len (.v 2)))) <|
      .i (.idx (.set (.set (.set (.set (.v 2) (.v 4) (.g (.cons (.vi .i64 (.v 3)) (.cons (.vi .i64 (.v 6)) (.cons (.vi .i64 (.v 7)) (.cons (.s (.v 8)) (.cons (.s (.v 9)) (.cons (.vi .i64 (.v 10)) .nil)))))))) (.v 4) (.g (.cons (.vi .i64 (.v 11)) (.cons (.vi .i64 (.bin .add .i64 (.v 3) (.z 1))) (.cons (.vi .i64 (.v 13)) (.cons (.s (.v 14)) (.cons (.s (.v 15)) (.cons (.vi .i64 (.v 16)) .nil)))))))) (.v 4) (.g (.cons (.vi .i64 (.v 17)) (.cons (.vi .i64 (.v 18)) (.cons (.vi .i64 (.bin .add .i64 (.bin .add .i64 (.v 3) (.z 1)) (.z 1))) (.cons (.s (.v 20)) (.cons (.s (.v 21)) (.cons (.vi .i64 (.v 22)) .nil)))))))) (.v 4) (.g (.cons (.vi .i64 (.v 23)) (.cons (.vi .i64 (.v 24)) (.cons (.vi .i64 (.v 25)) (.cons (.s (.v 30)) (.cons (.s (.v 27)) (.cons (.vi .i64 (.v 28)) .nil)))))))) (.v 4) (.g [.i .i64, .i .i64, .i .i64, .s, .s, .i .i64]) 31) <|
      .i (.call f_laws_markIntS [(.s (.v 35)), (.vi .i64 (.v 29))] [.i .i64, .s] 37) <|
      .i (.chk (.cmp .eq (.len (.v 38)) (.len (.v 35)))) <|
      .i (.chk (.cmp .le (.z 0) (.v 4))) <|
      .i (.chk (.cmp .lt (.v 4) (.len (.v 2)))) <|
      .i (.idx (.set (.set (.set (.set (.set (.v 2) (.v 4) (.g (.cons (.vi .i64 (.v 3)) (.cons (.vi .i64 (.v 6)) (.cons (.vi .i64 (.v 7)) (.cons (.s (.v 8)) (.cons (.s (.v 9)) (.cons (.vi .i64 (.v 10)) .nil)))))))) (.v 4) (.g (.cons (.vi .i64 (.v 11)) (.cons (.vi .i64 (.bin .add .i64 (.v 3) (.z 1))) (.cons (.vi .i64 (.v 13)) (.cons (.s (.v 14)) (.cons (.s (.v 15)) (.cons (.vi .i64 (.v 16)) .nil)))))))) (.v 4) (.g (.cons (.vi .i64 (.v 17)) (.cons (.vi .i64 (.v 18)) (.cons (.vi .i64 (.bin .add .i64 (.bin .add .i64 (.v 3) (.z 1)) (.z 1))) (.cons (.s (.v 20)) (.cons (.s (.v 21)) (.cons (.vi .i64 (.v 22)) .nil)))))))) (.v 4) (.g (.cons (.vi .i64 (.v 23)) (.cons (.vi .i64 (.v 24)) (.cons (.vi .i64 (.v 25)) (.cons (.s (.v 30)) (.cons (.s (.v 27)) (.cons (.vi .i64 (.v 28)) .nil)))))))) (.v 4) (.g (.cons (.vi .i64 (.v 31)) (.cons (.vi .i64 (.v 32)) (.cons (.vi .i64 (.v 33)) (.cons (.s (.v 34)) (.cons (.s (.v 38)) (.cons (.vi .i64 (.v 36)) .nil)))))))) (.v 4) (.g [.i .i64, .i .i64, .i .i64, .s, .s, .i .i64]) 39) <|
      .next [(.set (.set (.set (.set (.set (.set (.v 2) (.v 4) (.g (.cons (.vi .i64 (.v 3)) (.cons (.vi .i64 (.v 6)) (.cons (.vi .i64 (.v 7)) (.cons (.s (.v 8)) (.cons (.s (.v 9)) (.cons (.vi .i64 (.v 10)) .nil)))))))) (.v 4) (.g (.cons (.vi .i64 (.v 11)) (.cons (.vi .i64 (.bin .add .i64 (.v 3) (.z 1))) (.cons (.vi .i64 (.v 13)) (.cons (.s (.v 14)) (.cons (.s (.v 15)) (.cons (.vi .i64 (.v 16)) .nil)))))))) (.v 4) (.g (.cons (.vi .i64 (.v 17)) (.cons (.vi .i64 (.v 18)) (.cons (.vi .i64 (.bin .add .i64 (.bin .add .i64 (.v 3) (.z 1)) (.z 1))) (.cons (.s (.v 20)) (.cons (.s (.v 21)) (.cons (.vi .i64 (.v 22)) .nil)))))))) (.v 4) (.g (.cons (.vi .i64 (.v 23)) (.cons (.vi .i64 (.v 24)) (.cons (.vi .i64 (.v 25)) (.cons (.s (.v 30)) (.cons (.s (.v 27)) (.cons (.vi .i64 (.v 28)) .nil)))))))) (.v 4) (.g (.cons (.vi .i64 (.v 31)) (.cons (.vi .i64 (.v 32)) (.cons (.vi .i64 (.v 33)) (.cons (.s (.v 34)) (.cons (.s (.v 38)) (.cons (.vi .i64 (.v 36)) .nil)))))))) (.v 4) (.g (.cons (.vi .i64 (.v 39)) (.cons (.vi .i64 (.v 40)) (.cons (.vi .i64 (.v 41)) (.cons (.s (.v 42)) (.cons (.s (.v 43)) (.cons (.vi .i64 (.v 37)) .nil)))))))), (.bin .add .i64 (.v 37) (.z 1)), (.bin .add .i64 (.v 4) (.z 1))])
     (
      .esc <|
      .done [(.vi .i64 (.v 3)), (.s (.v 2))])
/-- laws_markActLineSS -/
def R_laws_markActLineSS : R :=
  .loop 2 [(.v 0), (.v 1), (.z 0)] <|
    .ite (.cmp .lt (.v 4) (.len (.v 2)))
     (
      .i (.chk (.cmp .le (.z 0) (.v 4))) <|
      .i (.chk (.cmp .lt (.v 4) (.len (.v 2)))) <|
      .i (.idx (.v 2) (.v 4) (.one (.s)) 5) <|
      .i (.call f_laws_markActLineS [(.s (.v 5)), (.vi .i64 (.v 3))] [.i .i64, .s] 6) <|
      .i (.chk (.cmp .eq (.len (.v 7)) (.len (.v 5)))) <|
      .next [(.set (.v 2) (.v 4) (.s (.v 7))), (.v 6), (.bin .add .i64 (.v 4) (.z 1))])
     (
      .esc <|
      .done [(.vi .i64 (.v 3)), (.s (.v 2))])
/-- laws_markPlnPlan -/
def R_laws_markPlnPlan : R :=
  .i (.call f_laws_markActLineSS [(.s (.v 1)), (.vi .i64 (.v 4))] [.i .i64, .s] 5) <|
  .i (.call f_laws_markIntS [(.s (.v 2)), (.vi .i64 (.v 5))] [.i .i64, .s] 7) <|
  .i (.call f_laws_markIntS [(.s (.v 3)), (.vi .i64 (.v 7))] [.i .i64, .s] 9) <|
  .done [(.vi .i64 (.v 9)), (.s (.v 6)), (.s (.v 8)), (.s (.v 10))]
/-- laws_markPlnDoneS -/
def R_laws_markPlnDoneS : R :=
  .loop 2 [(.v 0), (.v 1), (.z 0)] <|
    .ite (.cmp .lt (.v 4) (.len (.v 2)))
     (
      .i (.chk (.cmp .le (.z 0) (.v 4))) <|
      .i (.chk (.cmp .lt (.v 4) (.len (.v 2)))) <|
      .i (.idx (.v 2) (.v 4) (.g [.i .i64, .i .i64, .s]) 5) <|
      .i (.chk (.cmp .le (.z 0) (.v 4))) <|
      .i (.chk (.cmp .lt (.v 4) (.len (.v 2)))) <|
      .i (.idx (.set (.v 2) (.v 4) (.g (.cons (.vi .i64 (.v 3)) (.cons (.vi .i64 (.v 6)) (.cons (.s (.v 7)) .nil))))) (.v 4) (.g [.i .i64, .i .i64, .s]) 8) <|
      .i (.chk (.cmp .le (.z 0) (.v 4))) <|
      .i (.chk (.cmp .lt (.v 4) (.len (.v 2)))) <|
      .i (.idx (.set (.set (.v 2) (.v 4) (.g (.cons (.vi .i64 (.v 3)) (.cons (.vi .i64 (.v 6)) (.cons (.s (.v 7)) .nil))))) (.v 4) (.g (.cons (.vi .i64 (.v 8)) (.cons (.vi .i64 (.bin .add .i64 (.v 3) (.z 1))) (.cons (.s (.v 10)) .nil))))) (.v 4) (.g [.i .i64, .i .i64, .s]) 11) <|
      .i (.call f_laws_markIntS [(.s (.v 13)), (.vi .i64 (.bin .add .i64 (.bin .add .i64 (.v 3) (.z 1)) (.z 1)))] [.i .i64, .s] 14) <|
      .i (.chk (.cmp .eq (.len (.v 15)) (.len (.v 13)))) <|
      .next [(.set (.set (.set (.v 2) (.v 4) (.g (.cons (.vi .i64 (.v 3)) (.cons (.vi .i64 (.v 6)) (.cons (.s (.v 7)) .nil))))) (.v 4) (.g (.cons (.vi .i64 (.v 8)) (.cons (.vi .i64 (.bin .add .i64 (.v 3) (.z 1))) (.cons (.s (.v 10)) .nil))))) (.v 4) (.g (.cons (.vi .i64 (.v 11)) (.cons (.vi .i64 (.v 12)) (.cons (.s (.v 15)) .nil))))), (.v 14), (.bin .add .i64 (.v 4) (.z 1))])
     (
      .esc <|
      .done [(.vi .i64 (.v 3)), (.s (.v 2))])
/-- laws_markPlnCallS -/
def R_laws_markPlnCallS : R :=
  .loop 2 [(.v 0), (.v 1), (.z 0)] <|
    .ite (.cmp .lt (.v 4) (.len (.v 2)))
     (
      .i (.chk (.cmp .le (.z 0) (.v 4))) <|
      .i (.chk (.cmp .lt (.v 4) (.len (.v 2)))) <|
      .i (.idx (.v 2) (.v 4) (.g [.i .i64, .i .i64, .i .i64, .s]) 5) <|
      .i (.chk (.cmp .le (.z 0) (.v 4))) <|
      .i (.chk (.cmp .lt (.v 4) (.len (.v 2)))) <|
      .i (.idx (.set (.v 2) (.v 4) (.g (.cons (.vi .i64 (.v 3)) (.cons (.vi .i64 (.v 6)) (.cons (.vi .i64 (.v 7)) (.cons (.s (.v 8)) .nil)))))) (.v 4) (.g [.i .i64, .i .i64, .i .i64, .s]) 9) <|
      .i (.chk (.cmp .le (.z 0) (.v 4))) <|
      .i (.chk (.cmp .lt (.v 4) (.len (.v 2)))) <|
      .i (.idx (.set (.set (.v 2) (.v 4) (.g (.cons (.vi .i64 (.v 3)) (.cons (.vi .i64 (.v 6)) (.cons (.vi .i64 (.v 7)) (.cons (.s (.v 8)) .nil)))))) (.v 4) (.g (.cons (.vi .i64 (.v 9)) (.cons (.vi .i64 (.bin .add .i64 (.v 3) (.z 1))) (.cons (.vi .i64 (.v 11)) (.cons (.s (.v 12)) .nil)))))) (.v 4) (.g [.i .i64, .i .i64, .i .i64, .s]) 13) <|
      .i (.chk (.cmp .le (.z 0) (.v 4))) <|
      .i (.chk (.cmp .lt (.v 4) (.len (.v 2)))) <|
      .i (.idx (.set (.set (.set (.v 2) (.v 4) (.g (.cons (.vi .i64 (.v 3)) (.cons (.vi .i64 (.v 6)) (.cons (.vi .i64 (.v 7)) (.cons (.s (.v 8)) .nil)))))) (.v 4) (.g (.cons (.vi .i64 (.v 9)) (.cons (.vi .i64 (.bin .add .i64 (.v 3) (.z 1))) (.cons (.vi .i64 (.v 11)) (.cons (.s (.v 12)) .nil)))))) (.v 4) (.g (.cons (.vi .i64 (.v 13)) (.cons (.vi .i64 (.v 14)) (.cons (.vi .i64 (.bin .add .i64 (.bin .add .i64 (.v 3) (.z 1)) (.z 1))) (.cons (.s (.v 16)) .nil)))))) (.v 4) (.g [.i .i64, .i .i64, .i .i64, .s]) 17) <|
      .i (.call f_laws_markIntS [(.s (.v 20)), (.vi .i64 (.bin .add .i64 (.bin .add .i64 (.bin .add .i64 (.v 3) (.z 1)) (.z 1)) (.z 1)))] [.i .i64, .s] 21) <|
      .i (.chk (.cmp .eq (.len (.v 22)) (.len (.v 20)))) <|
      .next [(.set (.set (.set (.set (.v 2) (.v 4) (.g (.cons (.vi .i64 (.v 3)) (.cons (.vi .i64 (.v 6)) (.cons (.vi .i64 (.v 7)) (.cons (.s (.v 8)) .nil)))))) (.v 4) (.g (.cons (.vi .i64 (.v 9)) (.cons (.vi .i64 (.bin .add .i64 (.v 3) (.z 1))) (.cons (.vi .i64 (.v 11)) (.cons (.s (.v 12)) .nil)))))) (.v 4) (.g (.cons (.vi .i64 (.v 13)) (.cons (.vi .i64 (.v 14)) (.cons (.vi .i64 (.bin .add .i64 (.bin .add .i64 (.v 3) (.z 1)) (.z 1))) (.cons (.s (.v 16)) .nil)))))) (.v 4) (.g (.cons (.vi .i64 (.v 17)) (.cons (.vi .i64 (.v 18)) (.cons (.vi .i64 (.v 19)) (.cons (.s (.v 22)) .nil)))))), (.v 21), (.bin .add .i64 (.v 4) (.z 1))])
     (
      .esc <|
      .done [(.vi .i64 (.v 3)), (.s (.v 2))])
/-- laws_markClkGotS -/
def R_laws_markClkGotS : R :=
  .loop 2 [(.v 0), (.v 1), (.z 0)] <|
    .ite (.cmp .lt (.v 4) (.len (.v 2)))
     (
      .i (.chk (.not (.cmp .eq (.z 3) (.z 0)))) <|
      .i (.chk (.cmp .le (.z 0) (.v 4))) <|
      .i (.chk (.cmp .lt (.v 4) (.len (.v 2)))) <|
      .i (.idx (.v 2) (.v 4) (.g [.b, .s, .s]) 5) <|
      .i (.chk (.cmp .le (.z 0) (.v 4))) <|
      .i (.chk (.cmp .lt (.v 4) (.len (.v 2)))) <|
      .i (.idx (.set (.v 2) (.v 4) (.g (.cons (.vb (.cmp .eq (.bin .rem .i64 (.v 3) (.z 3)) (.z 0))) (.cons (.s (.v 6)) (.cons (.s (.v 7)) .nil))))) (.v 4) (.g [.b, .s, .s]) 8) <|
      .i (.call f_laws_markIntS [(.s (.v 9)), (.vi .i64 (.bin .add .i64 (.v 3) (.z 1)))] [.i .i64, .s] 11) <|
      .i (.chk (.cmp .eq (.len (.v 12)) (.len (.v 9)))) <|
      .i (.chk (.cmp .le (.z 0) (.v 4))) <|
      .i (.chk (.cmp .lt (.v 4) (.len (.v 2)))) <|
      .i (.idx (.set (.set (.v 2) (.v 4) (.g (.cons (.vb (.cmp .eq (.bin .rem .i64 (.v 3) (.z 3)) (.z 0))) (.cons (.s (.v 6)) (.cons (.s (.v 7)) .nil))))) (.v 4) (.g (.cons (.vb (.v 8)) (.cons (.s (.v 12)) (.cons (.s (.v 10)) .nil))))) (.v 4) (.g [.b, .s, .s]) 13) <|
      .i (.call f_laws_markIntS [(.s (.v 15)), (.vi .i64 (.v 11))] [.i .i64, .s] 16) <|
      .i (.chk (.cmp .eq (.len (.v 17)) (.len (.v 15)))) <|
      .next [(.set (.set (.set (.v 2) (.v 4) (.g (.cons (.vb (.cmp .eq (.bin .rem .i64 (.v 3) (.z 3)) (.z 0))) (.cons (.s (.v 6)) (.cons (.s (.v 7)) .nil))))) (.v 4) (.g (.cons (.vb (.v 8)) (.cons (.s (.v 12)) (.cons (.s (.v 10)) .nil))))) (.v 4) (.g (.cons (.vb (.v 13)) (.cons (.s (.v 14)) (.cons (.s (.v 17)) .nil))))), (.v 16), (.bin .add .i64 (.v 4) (.z 1))])
     (
      .esc <|
      .done [(.vi .i64 (.v 3)), (.s (.v 2))])
/-- laws_markClkClerk -/
def R_laws_markClkClerk : R :=
  .i (.call f_laws_markIntS [(.s (.v 2)), (.vi .i64 (.v 6))] [.i .i64, .s] 7) <|
  .i (.call f_laws_markPlnDoneS [(.s (.v 3)), (.vi .i64 (.v 7))] [.i .i64, .s] 9) <|
  .i (.call f_laws_markPlnCallS [(.s (.v 4)), (.vi .i64 (.v 9))] [.i .i64, .s] 11) <|
  .i (.call f_laws_markClkGotS [(.s (.v 5)), (.vi .i64 (.v 11))] [.i .i64, .s] 13) <|
  .done [(.vi .i64 (.v 13)), (.s (.v 8)), (.s (.v 10)), (.s (.v 12)), (.s (.v 14))]
/-- laws_heldIntS -/
def R_laws_heldIntS : R :=
  .loop 2 [(.v 1), (.z 0)] <|
    .ite (.cmp .lt (.v 3) (.len (.v 0)))
     (
      .i (.idx (.v 0) (.v 3) (.one (.i .i64)) 4) <|
      .ite (.not (.cmp .eq (.v 4) (.v 2)))
       (
        .esc <|
        .done [(.vi .i64 (.z (-1)))])
       (
        .next [(.bin .add .i64 (.v 2) (.z 1)), (.bin .add .i64 (.v 3) (.z 1))]))
     (
      .esc <|
      .done [(.vi .i64 (.v 2))])
/-- laws_heldPlnDoneS -/
def R_laws_heldPlnDoneS : R :=
  .loop 2 [(.v 1), (.z 0)] <|
    .ite (.cmp .lt (.v 3) (.len (.v 0)))
     (
      .i (.idx (.v 0) (.v 3) (.g [.i .i64, .i .i64, .s]) 4) <|
      .ite (.not (.cmp .eq (.v 4) (.v 2)))
       (
        .esc <|
        .done [(.vi .i64 (.z (-1)))])
       (
        .i (.idx (.v 0) (.v 3) (.g [.i .i64, .i .i64, .s]) 7) <|
        .ite (.not (.cmp .eq (.v 8) (.bin .add .i64 (.v 2) (.z 1))))
         (
          .esc <|
          .done [(.vi .i64 (.z (-1)))])
         (
          .i (.idx (.v 0) (.v 3) (.g [.i .i64, .i .i64, .s]) 10) <|
          .i (.call f_laws_heldIntS [(.s (.v 12)), (.vi .i64 (.bin .add .i64 (.bin .add .i64 (.v 2) (.z 1)) (.z 1)))] [.i .i64] 13) <|
          .ite (.cmp .lt (.v 13) (.z 0))
           (
            .esc <|
            .done [(.vi .i64 (.z (-1)))])
           (
            .next [(.v 13), (.bin .add .i64 (.v 3) (.z 1))]))))
     (
      .esc <|
      .done [(.vi .i64 (.v 2))])
/-- laws_heldPlnCallS -/
def R_laws_heldPlnCallS : R :=
  .loop 2 [(.v 1), (.z 0)] <|
    .ite (.cmp .lt (.v 3) (.len (.v 0)))
     (
      .i (.idx (.v 0) (.v 3) (.g [.i .i64, .i .i64, .i .i64, .s]) 4) <|
      .ite (.not (.cmp .eq (.v 4) (.v 2)))
       (
        .esc <|
        .done [(.vi .i64 (.z (-1)))])
       (
        .i (.idx (.v 0) (.v 3) (.g [.i .i64, .i .i64, .i .i64, .s]) 8) <|
        .ite (.not (.cmp .eq (.v 9) (.bin .add .i64 (.v 2) (.z 1))))
         (
          .esc <|
          .done [(.vi .i64 (.z (-1)))])
         (
          .i (.idx (.v 0) (.v 3) (.g [.i .i64, .i .i64, .i .i64, .s]) 12) <|
          .ite (.not (.cmp .eq (.v 14) (.bin .add .i64 (.bin .add .i64 (.v 2) (.z 1)) (.z 1))))
           (
            .esc <|
            .done [(.vi .i64 (.z (-1)))])
           (
            .i (.idx (.v 0) (.v 3) (.g [.i .i64, .i .i64, .i .i64, .s]) 16) <|
            .i (.call f_laws_heldIntS [(.s (.v 19)), (.vi .i64 (.bin .add .i64 (.bin .add .i64 (.bin .add .i64 (.v 2) (.z 1)) (.z 1)) (.z 1)))] [.i .i64] 20) <|
            .ite (.cmp .lt (.v 20) (.z 0))
             (
              .esc <|
              .done [(.vi .i64 (.z (-1)))])
             (
              .next [(.v 20), (.bin .add .i64 (.v 3) (.z 1))])))))
     (
      .esc <|
      .done [(.vi .i64 (.v 2))])
/-- laws_heldClkGotS -/
def R_laws_heldClkGotS : R :=
  .loop 2 [(.v 1), (.z 0)] <|
    .ite (.cmp .lt (.v 3) (.len (.v 0)))
     (
      .i (.idx (.v 0) (.v 3) (.g [.b, .s, .s]) 4) <|
      .i (.chk (.not (.cmp .eq (.z 3) (.z 0)))) <|
      .ite (.not (.beq (.v 4) (.cmp .eq (.bin .rem .i64 (.v 2) (.z 3)) (.z 0))))
       (
        .esc <|
        .done [(.vi .i64 (.z (-1)))])
       (
        .i (.idx (.v 0) (.v 3) (.g [.b, .s, .s]) 7) <|
        .i (.call f_laws_heldIntS [(.s (.v 8)), (.vi .i64 (.bin .add .i64 (.v 2) (.z 1)))] [.i .i64] 10) <|
        .ite (.cmp .lt (.v 10) (.z 0))
         (
          .esc <|
          .done [(.vi .i64 (.z (-1)))])
         (
          .i (.idx (.v 0) (.v 3) (.g [.b, .s, .s]) 11) <|
          .i (.call f_laws_heldIntS [(.s (.v 13)), (.vi .i64 (.v 10))] [.i .i64] 14) <|
          .ite (.cmp .lt (.v 14) (.z 0))
           (
            .esc <|
            .done [(.vi .i64 (.z (-1)))])
           (
            .next [(.v 14), (.bin .add .i64 (.v 3) (.z 1))]))))
     (
      .esc <|
      .done [(.vi .i64 (.v 2))])
/-- laws_heldClkClerk -/
def R_laws_heldClkClerk : R :=
  .i (.call f_laws_heldIntS [(.s (.v 2)), (.vi .i64 (.v 6))] [.i .i64] 7) <|
  .ite (.cmp .lt (.v 7) (.z 0))
   (
    .done [(.vi .i64 (.z (-1)))])
   (
    .i (.call f_laws_heldPlnDoneS [(.s (.v 3)), (.vi .i64 (.v 7))] [.i .i64] 8) <|
    .ite (.cmp .lt (.v 8) (.z 0))
     (
      .done [(.vi .i64 (.z (-1)))])
     (
      .i (.call f_laws_heldPlnCallS [(.s (.v 4)), (.vi .i64 (.v 8))] [.i .i64] 9) <|
      .ite (.cmp .lt (.v 9) (.z 0))
       (
        .done [(.vi .i64 (.z (-1)))])
       (
        .i (.call f_laws_heldClkGotS [(.s (.v 5)), (.vi .i64 (.v 9))] [.i .i64] 10) <|
        .ite (.cmp .lt (.v 10) (.z 0))
         (
          .done [(.vi .i64 (.z (-1)))])
         (
          .done [(.vi .i64 (.v 10))]))))
/-- laws_FnExactClkNew -/
def R_laws_FnExactClkNew : R :=
  .i (.call f_laws_szPlnPlan [(.vi .i64 (.v 0)), (.s (.v 1)), (.s (.v 2)), (.s (.v 3)), (.vi .i64 (.z 1048576))] [.i .i64] 4) <|
  .ite (.cmp .lt (.v 4) (.z 0))
   (
    .done [(.vb .tt)])
   (
    .i (.call f_laws_toPlnPlan [(.vi .i64 (.v 0)), (.s (.v 1)), (.s (.v 2)), (.s (.v 3))] [.i .i64, .s, .s, .s] 5) <|
    .i (.call f_spec_ClkNew [(.vi .i64 (.v 5)), (.s (.v 6)), (.s (.v 7)), (.s (.v 8))] [.b, .i .i64, .s, .s, .s, .s] 9) <|
    .i (.call f_laws_toPlnPlan [(.vi .i64 (.v 0)), (.s (.v 1)), (.s (.v 2)), (.s (.v 3))] [.i .i64, .s, .s, .s] 15) <|
    .i (.call f_impl_ClkNew [(.vi .i64 (.v 15)), (.s (.v 16)), (.s (.v 17)), (.s (.v 18))] [.b, .i .i64, .s, .s, .s, .s] 19) <|
    .i (.fl (.v 21)) <|
    .i (.fl (.v 23)) <|
    .i (.call f_laws_eqClkClerk [(.vb (.v 19)), (.vi .i64 (.v 20)), (.s (.v 21)), (.s (.v 22)), (.s (.v 23)), (.s (.v 24)), (.vb (.v 9)), (.vi .i64 (.v 10)), (.s (.v 11)), (.s (.v 12)), (.s (.v 13)), (.s (.v 14))] [.b] 25) <|
    .ite (.not (.v 25))
     (
      .done [(.vb .ff)])
     (
      .i (.call f_laws_toPlnPlan [(.vi .i64 (.v 0)), (.s (.v 1)), (.s (.v 2)), (.s (.v 3))] [.i .i64, .s, .s, .s] 26) <|
      .i (.call f_laws_eqPlnPlan [(.vi .i64 (.v 15)), (.s (.v 16)), (.s (.v 17)), (.s (.v 18)), (.vi .i64 (.v 26)), (.s (.v 27)), (.s (.v 28)), (.s (.v 29))] [.b] 30) <|
      .ite (.not (.v 30))
       (
        .done [(.vb .ff)])
       (
        .i (.call f_laws_markPlnPlan [(.vi .i64 (.v 15)), (.s (.v 16)), (.s (.v 17)), (.s (.v 18)), (.vi .i64 (.z 1))] [.i .i64, .s, .s, .s] 31) <|
        .ite (.cmp .lt (.v 31) (.z 0))
         (
          .done [(.vb .ff)])
         (
          .i (.call f_laws_eqClkClerk [(.vb (.v 19)), (.vi .i64 (.v 20)), (.s (.v 21)), (.s (.v 22)), (.s (.v 23)), (.s (.v 24)), (.vb (.v 9)), (.vi .i64 (.v 10)), (.s (.v 11)), (.s (.v 12)), (.s (.v 13)), (.s (.v 14))] [.b] 35) <|
          .ite (.not (.v 35))
           (
            .done [(.vb .ff)])
           (
            .i (.call f_laws_markClkClerk [(.vb (.v 19)), (.vi .i64 (.v 20)), (.s (.v 21)), (.s (.v 22)), (.s (.v 23)), (.s (.v 24)), (.vi .i64 (.z 1))] [.i .i64, .s, .s, .s, .s] 36) <|
            .i (.chk (.cmp .eq (.len (.v 21)) (.len (.v 37)))) <|
            .i (.chk (.cmp .eq (.len (.v 22)) (.len (.v 38)))) <|
            .i (.chk (.cmp .eq (.len (.v 23)) (.len (.v 39)))) <|
            .i (.chk (.cmp .eq (.len (.v 24)) (.len (.v 40)))) <|
            .i (.call f_laws_heldClkClerk [(.vb (.v 19)), (.vi .i64 (.v 20)), (.s (.v 37)), (.s (.v 38)), (.s (.v 39)), (.s (.v 40)), (.vi .i64 (.z 1))] [.i .i64] 41) <|
            .ite (.cmp .lt (.v 41) (.z 0))
             (
              .done [(.vb .ff)])
             (
              .ite (.not (.cmp .eq (.v 41) (.v 36)))
               (
                .done [(.vb .ff)])
               (
                .i (.call f_laws_toPlnPlan [(.vi .i64 (.v 0)), (.s (.v 1)), (.s (.v 2)), (.s (.v 3))] [.i .i64, .s, .s, .s] 42) <|
                .i (.call f_impl_ClkNew [(.vi .i64 (.v 42)), (.s (.v 43)), (.s (.v 44)), (.s (.v 45))] [.b, .i .i64, .s, .s, .s, .s] 46) <|
                .i (.fl (.v 48)) <|
                .i (.fl (.v 50)) <|
                .i (.call f_laws_eqClkClerk [(.vb (.v 46)), (.vi .i64 (.v 47)), (.s (.v 48)), (.s (.v 49)), (.s (.v 50)), (.s (.v 51)), (.vb (.v 9)), (.vi .i64 (.v 10)), (.s (.v 11)), (.s (.v 12)), (.s (.v 13)), (.s (.v 14))] [.b] 52) <|
                .ite (.not (.v 52))
                 (
                  .done [(.vb .ff)])
                 (
                  .i (.chk (.cmp .eq (.len (.v 21)) (.len (.v 37)))) <|
                  .i (.chk (.cmp .eq (.len (.v 22)) (.len (.v 38)))) <|
                  .i (.chk (.cmp .eq (.len (.v 23)) (.len (.v 39)))) <|
                  .i (.chk (.cmp .eq (.len (.v 24)) (.len (.v 40)))) <|
                  .i (.call f_laws_heldClkClerk [(.vb (.v 19)), (.vi .i64 (.v 20)), (.s (.v 37)), (.s (.v 38)), (.s (.v 39)), (.s (.v 40)), (.vi .i64 (.z 1))] [.i .i64] 53) <|
                  .ite (.cmp .lt (.v 53) (.z 0))
                   (
                    .done [(.vb .ff)])
                   (
                    .ite (.not (.cmp .eq (.v 53) (.v 36)))
                     (
                      .done [(.vb .ff)])
                     (
                      .done [(.vb .tt)]))))))))))
def S_laws_szIntS : Sig := .d ⟨[(.one (.s)), (.one (.i .i64))], (.one (.one (.i .i64))), true⟩
def H_laws_szIntS : Hint := ⟨[0, 1, 4, 10], 0, [], [], false, []⟩
def E_laws_szIntS : Entry := ⟨S_laws_szIntS, .r H_laws_szIntS R_laws_szIntS⟩
def S_laws_szFrmForm : Sig := .d ⟨[(.g [.s, .s, .i .i64]), (.one (.i .i64))], (.one (.one (.i .i64))), true⟩
def H_laws_szFrmForm : Hint := ⟨[0, 1, 2, 4, 10, 16], 0, [], [], false, []⟩
def E_laws_szFrmForm : Entry := ⟨S_laws_szFrmForm, .r H_laws_szFrmForm R_laws_szFrmForm⟩
def S_laws_szActLine : Sig := .d ⟨[(.g [.i .i64, .i .i64, .i .i64, .s, .s, .i .i64]), (.one (.i .i64))], (.one (.one (.i .i64))), true⟩
def H_laws_szActLine : Hint := ⟨[0, 1, 2, 4, 10], 0, [], [], false, []⟩
def E_laws_szActLine : Entry := ⟨S_laws_szActLine, .r H_laws_szActLine R_laws_szActLine⟩
def S_laws_szActLineS : Sig := .d ⟨[(.one (.s)), (.one (.i .i64))], (.one (.one (.i .i64))), true⟩
def H_laws_szActLineS : Hint := ⟨[0, 1, 4, 5, 11, 15, 25], 0, [], [(5, ⟨[5, 1], [], [], [], []⟩)], false, []⟩
def E_laws_szActLineS : Entry := ⟨S_laws_szActLineS, .r H_laws_szActLineS R_laws_szActLineS⟩
def S_laws_szActLineSS : Sig := .d ⟨[(.one (.s)), (.one (.i .i64))], (.one (.one (.i .i64))), true⟩
def H_laws_szActLineSS : Hint := ⟨[0, 1, 4, 5, 11, 15, 25], 0, [], [(5, ⟨[5, 1], [], [], [], []⟩)], false, []⟩
def E_laws_szActLineSS : Entry := ⟨S_laws_szActLineSS, .r H_laws_szActLineSS R_laws_szActLineSS⟩
def S_laws_szPlnPlan : Sig := .d ⟨[(.g [.i .i64, .s, .s, .s]), (.one (.i .i64))], (.one (.one (.i .i64))), true⟩
def H_laws_szPlnPlan : Hint := ⟨[0, 1, 2, 4, 10, 16, 22], 0, [], [], false, []⟩
def E_laws_szPlnPlan : Entry := ⟨S_laws_szPlnPlan, .r H_laws_szPlnPlan R_laws_szPlnPlan⟩
def S_laws_toIntS : Sig := .x ⟨[(.d (.s (.v 0)))], [], [.s], (.o 0 (.v 0)), [(.arr 3 1 (.v 0) true true)], [.s], false⟩
def H_laws_toIntS : Hint := ⟨[0, 2, 3, 4, 11], 0, [], [(3, ⟨[4], [], [112], [], []⟩)], true, []⟩
def E_laws_toIntS : Entry := ⟨S_laws_toIntS, .r H_laws_toIntS R_laws_toIntS⟩
def S_laws_toFrmForm : Sig := .x ⟨[(.g [(.d (.s (.v 0))), (.d (.s (.v 1))), (.d (.vi .i64 (.v 2)))])], [], [.s, .s, .i .i64], (.g [(.o 0 (.v 0)), (.o 1 (.v 1)), (.d (.vi .i64 (.v 2)))]), [(.arr 3 1 (.v 0) true true), (.arr 3 1 (.v 1) true true)], [.s, .s, .i .i64], false⟩
def H_laws_toFrmForm : Hint := ⟨[0, 1, 2, 3], 0, [], [], true, []⟩
def E_laws_toFrmForm : Entry := ⟨S_laws_toFrmForm, .r H_laws_toFrmForm R_laws_toFrmForm⟩
def S_laws_toActLine : Sig := .x ⟨[(.g [(.d (.vi .i64 (.v 0))), (.d (.vi .i64 (.v 1))), (.d (.vi .i64 (.v 2))), (.d (.s (.v 3))), (.d (.s (.v 4))), (.d (.vi .i64 (.v 5)))])], [], [.i .i64, .i .i64, .i .i64, .s, .s, .i .i64], (.g [(.d (.vi .i64 (.v 0))), (.d (.vi .i64 (.v 1))), (.d (.vi .i64 (.v 2))), (.o 0 (.v 3)), (.o 1 (.v 4)), (.d (.vi .i64 (.v 5)))]), [(.arr 3 1 (.v 3) true true), (.arr 3 1 (.v 4) true true)], [.i .i64, .i .i64, .i .i64, .s, .s, .i .i64], false⟩
def H_laws_toActLine : Hint := ⟨[0, 1, 2, 3], 0, [], [], true, []⟩
def E_laws_toActLine : Entry := ⟨S_laws_toActLine, .r H_laws_toActLine R_laws_toActLine⟩
def S_laws_toActLineS : Sig := .x ⟨[(.d (.s (.v 0)))], [], [.s], (.o 0 (.v 0)), [(.arr 84 6 (.v 0) true true)], [.s], false⟩
def H_laws_toActLineS : Hint := ⟨[0, 2, 3, 4, 11], 0, [], [(3, ⟨[4], [], [112], [], []⟩)], true, []⟩
def E_laws_toActLineS : Entry := ⟨S_laws_toActLineS, .r H_laws_toActLineS R_laws_toActLineS⟩
def S_laws_toActLineSS : Sig := .x ⟨[(.d (.s (.v 0)))], [], [.s], (.o 0 (.v 0)), [(.arr 26 1 (.v 0) true true)], [.s], false⟩
def H_laws_toActLineSS : Hint := ⟨[0, 2, 3, 4, 11], 0, [], [(3, ⟨[4], [], [112], [], []⟩)], true, []⟩
def E_laws_toActLineSS : Entry := ⟨S_laws_toActLineSS, .r H_laws_toActLineSS R_laws_toActLineSS⟩
def S_laws_toPlnPlan : Sig := .x ⟨[(.g [(.d (.vi .i64 (.v 0))), (.d (.s (.v 1))), (.d (.s (.v 2))), (.d (.s (.v 3)))])], [], [.i .i64, .s, .s, .s], (.g [(.d (.vi .i64 (.v 0))), (.o 0 (.v 1)), (.o 1 (.v 2)), (.o 2 (.v 3))]), [(.arr 26 1 (.v 1) true true), (.arr 3 1 (.v 2) true true), (.arr 3 1 (.v 3) true true)], [.i .i64, .s, .s, .s], false⟩
def H_laws_toPlnPlan : Hint := ⟨[0, 1, 2, 3], 0, [], [], true, []⟩
def E_laws_toPlnPlan : Entry := ⟨S_laws_toPlnPlan, .r H_laws_toPlnPlan R_laws_toPlnPlan⟩
def S_spec_l1In : Sig := .d ⟨[(.one (.i .i64)), (.one (.i .i64)), (.one (.i .i64))], (.one (.one (.b))), true⟩
def H_spec_l1In : Hint := ⟨[0, 1, 2, 6], 0, [], [], false, []⟩
def E_spec_l1In : Entry := ⟨S_spec_l1In, .r H_spec_l1In R_spec_l1In⟩
def S_spec_l1All : Sig := .d ⟨[(.one (.s)), (.one (.i .i64)), (.one (.i .i64))], (.one (.one (.b))), true⟩
def H_spec_l1All : Hint := ⟨[0, 1, 2, 6, 7, 11, 15, 26], 0, [], [(4, ⟨[7], [], [], [], []⟩)], false, []⟩
def E_spec_l1All : Entry := ⟨S_spec_l1All, .r H_spec_l1All R_spec_l1All⟩
def S_spec_l2Small : Sig := .d ⟨[(.g [.s, .s, .i .i64])], (.one (.one (.b))), true⟩
def H_spec_l2Small : Hint := ⟨[0, 1, 2], 0, [], [], false, []⟩
def E_spec_l2Small : Entry := ⟨S_spec_l2Small, .r H_spec_l2Small R_spec_l2Small⟩
def S_spec_l2Line : Sig := .d ⟨[(.g [.i .i64, .i .i64, .i .i64, .s, .s, .i .i64])], (.one (.one (.b))), true⟩
def H_spec_l2Line : Hint := ⟨[0, 1, 2, 4, 5, 20, 35], 0, [], [], false, []⟩
def E_spec_l2Line : Entry := ⟨S_spec_l2Line, .r H_spec_l2Line R_spec_l2Line⟩
def S_spec_ActOk : Sig := .d ⟨[(.one (.s))], (.one (.one (.b))), true⟩
def H_spec_ActOk : Hint := ⟨[0, 2, 3, 4, 8, 16, 22], 0, [], [(3, ⟨[4, 3], [], [], [], []⟩)], false, []⟩
def E_spec_ActOk : Entry := ⟨S_spec_ActOk, .r H_spec_ActOk R_spec_ActOk⟩
def S_spec_CatOk : Sig := .d ⟨[(.one (.s))], (.one (.one (.b))), true⟩
def H_spec_CatOk : Hint := ⟨[0, 2, 3, 7, 11, 19], 0, [], [(4, ⟨[3], [], [], [], []⟩)], false, []⟩
def E_spec_CatOk : Entry := ⟨S_spec_CatOk, .r H_spec_CatOk R_spec_CatOk⟩
def S_spec_ValOk : Sig := .d ⟨[(.one (.s))], (.one (.one (.b))), true⟩
def H_spec_ValOk : Hint := ⟨[0, 2], 0, [], [], false, []⟩
def E_spec_ValOk : Entry := ⟨S_spec_ValOk, .r H_spec_ValOk R_spec_ValOk⟩
def S_spec_TrtOk : Sig := .d ⟨[(.g [.s, .s])], (.one (.one (.b))), true⟩
def H_spec_TrtOk : Hint := ⟨[0, 1, 2, 3, 14, 19, 28], 0, [], [(4, ⟨[3], [], [], [], []⟩)], false, []⟩
def E_spec_TrtOk : Entry := ⟨S_spec_TrtOk, .r H_spec_TrtOk R_spec_TrtOk⟩
def S_spec_PlnOk : Sig := .d ⟨[(.g [.i .i64, .s, .s, .s])], (.one (.one (.b))), true⟩
def H_spec_PlnOk : Hint := ⟨[0, 1, 2], 0, [], [], false, []⟩
def E_spec_PlnOk : Entry := ⟨S_spec_PlnOk, .r H_spec_PlnOk R_spec_PlnOk⟩
def S_spec_l6New : Sig := .x ⟨[(.g [(.d (.vi .i64 (.v 0))), (.d (.s (.v 1))), (.d (.s (.v 2))), (.d (.s (.v 3)))])], [], [.i .i64, .s, .s, .s], (.o 0 (.v 0)), [(.arr 147 3 (.v 0) false true)], [.s], false⟩
def H_spec_l6New : Hint := ⟨[0, 1, 2, 3, 4, 9], 0, [], [(3, ⟨[4], [], [80], [], []⟩)], false, []⟩
def E_spec_l6New : Entry := ⟨S_spec_l6New, .r H_spec_l6New R_spec_l6New⟩
def S_spec_l9None : Sig := .x ⟨[(.g [(.d (.vi .i64 (.v 0))), (.d (.s (.v 1))), (.d (.s (.v 2))), (.d (.s (.v 3)))])], [], [.i .i64, .s, .s, .s], (.o 0 (.v 0)), [(.arr 151 3 (.v 0) false true)], [.s], false⟩
def H_spec_l9None : Hint := ⟨[0, 1, 2, 3, 4, 10], 0, [], [(3, ⟨[4], [], [80], [], []⟩)], false, []⟩
def E_spec_l9None : Entry := ⟨S_spec_l9None, .r H_spec_l9None R_spec_l9None⟩
def S_spec_ClkNew : Sig := .x ⟨[(.g [(.d (.vi .i64 (.v 0))), (.d (.s (.v 1))), (.d (.s (.v 2))), (.d (.s (.v 3)))])], [], [.i .i64, .s, .s, .s], (.g [(.d (.vb (.v 0))), (.d (.vi .i64 (.v 1))), (.o 0 (.v 2)), (.o 1 (.v 3)), (.o 2 (.v 4)), (.o 3 (.v 5))]), [(.arr 3 1 (.v 2) false true), (.arr 147 3 (.v 3) false true), (.arr 154 4 (.v 4) false true), (.arr 151 3 (.v 5) false true)], [.b, .i .i64, .s, .s, .s, .s], false⟩
def H_spec_ClkNew : Hint := ⟨[0, 1, 2, 5], 0, [(999999, ⟨(.cell 32 2), 900000, 3, 1, false⟩), (999999, ⟨(.cell 32 3), 900001, 147, 3, false⟩), (999999, ⟨(.cell 32 4), 900002, 154, 4, false⟩), (999999, ⟨(.cell 32 5), 900003, 151, 3, false⟩)], [], false, []⟩
def E_spec_ClkNew : Entry := ⟨S_spec_ClkNew, .r H_spec_ClkNew R_spec_ClkNew⟩
def S_impl_in : Sig := .d ⟨[(.one (.i .i64)), (.one (.i .i64)), (.one (.i .i64))], (.one (.one (.b))), true⟩
def H_impl_in : Hint := ⟨[0, 1, 2, 6], 0, [], [], false, []⟩
def E_impl_in : Entry := ⟨S_impl_in, .r H_impl_in R_impl_in⟩
def S_slices_IndexFunc_SSimpl_ActLine_Simpl_ActLine : Sig := .d ⟨[(.one (.s)), (.one (.d))], (.one (.one (.i .i64))), true⟩
def H_slices_IndexFunc_SSimpl_ActLine_Simpl_ActLine : Hint := ⟨[0, 1, 4, 5, 7, 8, 9, 16], 0, [], [(2, ⟨[8], [], [], [], []⟩)], false, []⟩
def E_slices_IndexFunc_SSimpl_ActLine_Simpl_ActLine : Entry := ⟨S_slices_IndexFunc_SSimpl_ActLine_Simpl_ActLine, .r H_slices_IndexFunc_SSimpl_ActLine_Simpl_ActLine R_slices_IndexFunc_SSimpl_ActLine_Simpl_ActLine⟩
def S_slices_ContainsFunc_SSimpl_ActLine_Simpl_ActLine : Sig := .d ⟨[(.one (.s)), (.one (.d))], (.one (.one (.b))), true⟩
def H_slices_ContainsFunc_SSimpl_ActLine_Simpl_ActLine : Hint := ⟨[0, 1, 4], 0, [], [], false, []⟩
def E_slices_ContainsFunc_SSimpl_ActLine_Simpl_ActLine : Entry := ⟨S_slices_ContainsFunc_SSimpl_ActLine_Simpl_ActLine, .r H_slices_ContainsFunc_SSimpl_ActLine_Simpl_ActLine R_slices_ContainsFunc_SSimpl_ActLine_Simpl_ActLine⟩
def S_impl_within_1 : Sig := .d ⟨[(.one (.i .i64)), (.one (.d))], (.one (.one (.b))), true⟩
def H_impl_within_1 : Hint := ⟨[0, 1, 3], 0, [], [], false, []⟩
def E_impl_within_1 : Entry := ⟨S_impl_within_1, .r H_impl_within_1 R_impl_within_1⟩
def S_slices_IndexFunc_Sint_int : Sig := .d ⟨[(.one (.s)), (.one (.d))], (.one (.one (.i .i64))), true⟩
def H_slices_IndexFunc_Sint_int : Hint := ⟨[0, 1, 4, 5, 7, 8, 9, 16], 0, [], [(2, ⟨[8], [], [], [], []⟩)], false, []⟩
def E_slices_IndexFunc_Sint_int : Entry := ⟨S_slices_IndexFunc_Sint_int, .r H_slices_IndexFunc_Sint_int R_slices_IndexFunc_Sint_int⟩
def S_slices_ContainsFunc_Sint_int : Sig := .d ⟨[(.one (.s)), (.one (.d))], (.one (.one (.b))), true⟩
def H_slices_ContainsFunc_Sint_int : Hint := ⟨[0, 1, 4], 0, [], [], false, []⟩
def E_slices_ContainsFunc_Sint_int : Entry := ⟨S_slices_ContainsFunc_Sint_int, .r H_slices_ContainsFunc_Sint_int R_slices_ContainsFunc_Sint_int⟩
def S_impl_within : Sig := .d ⟨[(.one (.s)), (.one (.i .i64)), (.one (.i .i64))], (.one (.one (.b))), true⟩
def H_impl_within : Hint := ⟨[0, 1, 2, 5, 6], 0, [], [], false, []⟩
def E_impl_within : Entry := ⟨S_impl_within, .r H_impl_within R_impl_within⟩
def S_impl_FrmForm_small : Sig := .d ⟨[(.g [.s, .s, .i .i64])], (.one (.one (.b))), true⟩
def H_impl_FrmForm_small : Hint := ⟨[0, 1, 2], 0, [], [], false, []⟩
def E_impl_FrmForm_small : Entry := ⟨S_impl_FrmForm_small, .r H_impl_FrmForm_small R_impl_FrmForm_small⟩
def S_slices_Equal_Sint_int : Sig := .d ⟨[(.one (.s)), (.one (.s))], (.one (.one (.b))), true⟩
def H_slices_Equal_Sint_int : Hint := ⟨[0, 1, 4, 5, 10, 12, 13, 14, 24], 0, [], [(4, ⟨[13], [], [], [], []⟩)], false, []⟩
def E_slices_Equal_Sint_int : Entry := ⟨S_slices_Equal_Sint_int, .r H_slices_Equal_Sint_int R_slices_Equal_Sint_int⟩
def S_impl_FrmForm_same : Sig := .d ⟨[(.g [.s, .s, .i .i64]), (.g [.s, .s, .i .i64])], (.one (.one (.b))), true⟩
def H_impl_FrmForm_same : Hint := ⟨[0, 1, 2, 3, 4], 0, [], [], false, []⟩
def E_impl_FrmForm_same : Entry := ⟨S_impl_FrmForm_same, .r H_impl_FrmForm_same R_impl_FrmForm_same⟩
def S_impl_ActLine_ok : Sig := .d ⟨[(.g [.i .i64, .i .i64, .i .i64, .s, .s, .i .i64])], (.one (.one (.b))), true⟩
def H_impl_ActLine_ok : Hint := ⟨[0, 1, 2, 4, 5, 20, 35, 50], 0, [], [], false, []⟩
def E_impl_ActLine_ok : Entry := ⟨S_impl_ActLine_ok, .r H_impl_ActLine_ok R_impl_ActLine_ok⟩
def S_impl_ActOk : Sig := .d ⟨[(.one (.s))], (.one (.one (.b))), true⟩
def H_impl_ActOk : Hint := ⟨[0, 2, 3, 5, 6, 7, 8, 9, 14, 17], 0, [], [(3, ⟨[8, 3], [], [], [], []⟩)], false, []⟩
def E_impl_ActOk : Entry := ⟨S_impl_ActOk, .r H_impl_ActOk R_impl_ActOk⟩
def S_impl_CatOk_1 : Sig := .d ⟨[(.one (.s))], (.one (.one (.b))), true⟩
def H_impl_CatOk_1 : Hint := ⟨[0, 2], 0, [], [], false, []⟩
def E_impl_CatOk_1 : Entry := ⟨S_impl_CatOk_1, .r H_impl_CatOk_1 R_impl_CatOk_1⟩
def S_impl_CatOk : Sig := .d ⟨[(.one (.s))], (.one (.one (.b))), true⟩
def H_impl_CatOk : Hint := ⟨[0, 2], 0, [], [], false, []⟩
def E_impl_CatOk : Entry := ⟨S_impl_CatOk, .r H_impl_CatOk R_impl_CatOk⟩
def S_impl_PlnPlan_treaty : Sig := .d ⟨[(.g [.i .i64, .s, .s, .s]), (.one (.s))], (.one (.g [.s, .s])), false⟩
def H_impl_PlnPlan_treaty : Hint := ⟨[0, 1, 2, 4], 0, [], [], false, []⟩
def E_impl_PlnPlan_treaty : Entry := ⟨S_impl_PlnPlan_treaty, .r H_impl_PlnPlan_treaty R_impl_PlnPlan_treaty⟩
def S_impl_TrtOk_1 : Sig := .d ⟨[(.one (.i .i64))], (.one (.one (.b))), true⟩
def H_impl_TrtOk_1 : Hint := ⟨[0, 2], 0, [], [], false, []⟩
def E_impl_TrtOk_1 : Entry := ⟨S_impl_TrtOk_1, .r H_impl_TrtOk_1 R_impl_TrtOk_1⟩
def S_impl_ValOk : Sig := .d ⟨[(.one (.s))], (.one (.one (.b))), true⟩
def H_impl_ValOk : Hint := ⟨[0, 2], 0, [], [], false, []⟩
def E_impl_ValOk : Entry := ⟨S_impl_ValOk, .r H_impl_ValOk R_impl_ValOk⟩
def S_impl_TrtOk : Sig := .d ⟨[(.g [.s, .s])], (.one (.one (.b))), true⟩
def H_impl_TrtOk : Hint := ⟨[0, 1, 2, 3], 0, [], [], false, []⟩
def E_impl_TrtOk : Entry := ⟨S_impl_TrtOk, .r H_impl_TrtOk R_impl_TrtOk⟩
def S_impl_PlnOk : Sig := .d ⟨[(.g [.i .i64, .s, .s, .s])], (.one (.one (.b))), true⟩
def H_impl_PlnOk : Hint := ⟨[0, 1, 2], 0, [], [], false, []⟩
def E_impl_PlnOk : Entry := ⟨S_impl_PlnOk, .r H_impl_PlnOk R_impl_PlnOk⟩
def S_slices_Clone_Sint_int : Sig := .x ⟨[(.d (.s (.v 0)))], [], [.s], (.o 0 (.v 0)), [(.arr 3 1 (.v 0) false true)], [.s], false⟩
def H_slices_Clone_Sint_int : Hint := ⟨[0, 2, 4], 0, [(999999, ⟨(.slot 2), 900000, 3, 1, false⟩)], [], false, []⟩
def E_slices_Clone_Sint_int : Entry := ⟨S_slices_Clone_Sint_int, .r H_slices_Clone_Sint_int R_slices_Clone_Sint_int⟩
def S_impl_PlnPlan_clerkNew : Sig := .x ⟨[(.g [(.d (.vi .i64 (.v 0))), (.d (.s (.v 1))), (.d (.s (.v 2))), (.d (.s (.v 3)))])], [], [.i .i64, .s, .s, .s], (.g [(.d (.vb (.v 0))), (.d (.vi .i64 (.v 1))), (.o 0 (.v 2)), (.o 1 (.v 3)), (.o 2 (.v 4)), (.o 3 (.v 5))]), [(.arr 3 1 (.v 2) false true), (.arr 147 3 (.v 3) true true), (.arr 154 4 (.v 4) false true), (.arr 151 3 (.v 5) true true)], [.b, .i .i64, .s, .s, .s, .s], false⟩
def H_impl_PlnPlan_clerkNew : Hint := ⟨[0, 1, 2], 0, [(999999, ⟨(.cell 32 4), 900000, 154, 4, false⟩)], [], true, []⟩
def E_impl_PlnPlan_clerkNew : Entry := ⟨S_impl_PlnPlan_clerkNew, .r H_impl_PlnPlan_clerkNew R_impl_PlnPlan_clerkNew⟩
def S_impl_ClkNew : Sig := .x ⟨[(.g [(.d (.vi .i64 (.v 0))), (.d (.s (.v 1))), (.d (.s (.v 2))), (.d (.s (.v 3)))])], [], [.i .i64, .s, .s, .s], (.g [(.d (.vb (.v 0))), (.d (.vi .i64 (.v 1))), (.o 0 (.v 2)), (.o 1 (.v 3)), (.o 2 (.v 4)), (.o 3 (.v 5))]), [(.arr 3 1 (.v 2) false true), (.arr 147 3 (.v 3) true true), (.arr 154 4 (.v 4) false true), (.arr 151 3 (.v 5) true true)], [.b, .i .i64, .s, .s, .s, .s], true⟩
def H_impl_ClkNew : Hint := ⟨[0, 1, 2, 5], 0, [(999999, ⟨(.cell 32 2), 900000, 3, 1, false⟩), (999999, ⟨(.cell 32 3), 900001, 147, 3, true⟩), (999999, ⟨(.cell 32 4), 900002, 154, 4, false⟩), (999999, ⟨(.cell 32 5), 900003, 151, 3, true⟩)], [], false, []⟩
def E_impl_ClkNew : Entry := ⟨S_impl_ClkNew, .r H_impl_ClkNew R_impl_ClkNew⟩
def S_laws_eqIntS : Sig := .d ⟨[(.one (.s)), (.one (.s))], (.one (.one (.b))), true⟩
def H_laws_eqIntS : Hint := ⟨[0, 1, 4, 5, 10, 14, 25], 0, [], [(4, ⟨[5], [], [], [], []⟩)], false, []⟩
def E_laws_eqIntS : Entry := ⟨S_laws_eqIntS, .r H_laws_eqIntS R_laws_eqIntS⟩
def S_laws_eqResResult : Sig := .d ⟨[(.g [.i .i64, .s]), (.g [.i .i64, .s])], (.one (.one (.b))), true⟩
def H_laws_eqResResult : Hint := ⟨[0, 1, 2, 3, 4, 9, 15], 0, [], [], false, []⟩
def E_laws_eqResResult : Entry := ⟨S_laws_eqResResult, .r H_laws_eqResResult R_laws_eqResResult⟩
def S_laws_eqPlnDone : Sig := .d ⟨[(.g [.i .i64, .i .i64, .s]), (.g [.i .i64, .i .i64, .s])], (.one (.one (.b))), true⟩
def H_laws_eqPlnDone : Hint := ⟨[0, 1, 2, 3, 4, 9, 15], 0, [], [], false, []⟩
def E_laws_eqPlnDone : Entry := ⟨S_laws_eqPlnDone, .r H_laws_eqPlnDone R_laws_eqPlnDone⟩
def S_laws_eqPlnDoneS : Sig := .d ⟨[(.one (.s)), (.one (.s))], (.one (.one (.b))), true⟩
def H_laws_eqPlnDoneS : Hint := ⟨[0, 1, 4, 5, 10, 14, 26], 0, [], [(4, ⟨[5], [], [], [], []⟩)], false, []⟩
def E_laws_eqPlnDoneS : Entry := ⟨S_laws_eqPlnDoneS, .r H_laws_eqPlnDoneS R_laws_eqPlnDoneS⟩
def S_laws_eqPlnCall : Sig := .d ⟨[(.g [.i .i64, .i .i64, .i .i64, .s]), (.g [.i .i64, .i .i64, .i .i64, .s])], (.one (.one (.b))), true⟩
def H_laws_eqPlnCall : Hint := ⟨[0, 1, 2, 3, 4, 9, 14, 19, 25], 0, [], [], false, []⟩
def E_laws_eqPlnCall : Entry := ⟨S_laws_eqPlnCall, .r H_laws_eqPlnCall R_laws_eqPlnCall⟩
def S_laws_eqPlnCallS : Sig := .d ⟨[(.one (.s)), (.one (.s))], (.one (.one (.b))), true⟩
def H_laws_eqPlnCallS : Hint := ⟨[0, 1, 4, 5, 10, 14, 26], 0, [], [(4, ⟨[5], [], [], [], []⟩)], false, []⟩
def E_laws_eqPlnCallS : Entry := ⟨S_laws_eqPlnCallS, .r H_laws_eqPlnCallS R_laws_eqPlnCallS⟩
def S_laws_eqClkGot : Sig := .d ⟨[(.g [.b, .s, .s]), (.g [.b, .s, .s])], (.one (.one (.b))), true⟩
def H_laws_eqClkGot : Hint := ⟨[0, 1, 2, 3, 4, 9, 15, 21], 0, [], [], false, []⟩
def E_laws_eqClkGot : Entry := ⟨S_laws_eqClkGot, .r H_laws_eqClkGot R_laws_eqClkGot⟩
def S_laws_eqClkGotS : Sig := .d ⟨[(.one (.s)), (.one (.s))], (.one (.one (.b))), true⟩
def H_laws_eqClkGotS : Hint := ⟨[0, 1, 4, 5, 10, 14, 26], 0, [], [(4, ⟨[5], [], [], [], []⟩)], false, []⟩
def E_laws_eqClkGotS : Entry := ⟨S_laws_eqClkGotS, .r H_laws_eqClkGotS R_laws_eqClkGotS⟩
def S_laws_eqClkClerk : Sig := .d ⟨[(.g [.b, .i .i64, .s, .s, .s, .s]), (.g [.b, .i .i64, .s, .s, .s, .s])], (.one (.one (.b))), true⟩
def H_laws_eqClkClerk : Hint := ⟨[0, 1, 2, 3, 4, 9, 14, 20, 26, 32, 38], 0, [], [], false, []⟩
def E_laws_eqClkClerk : Entry := ⟨S_laws_eqClkClerk, .r H_laws_eqClkClerk R_laws_eqClkClerk⟩
def S_laws_eqFrmForm : Sig := .d ⟨[(.g [.s, .s, .i .i64]), (.g [.s, .s, .i .i64])], (.one (.one (.b))), true⟩
def H_laws_eqFrmForm : Hint := ⟨[0, 1, 2, 3, 4, 10, 16, 21], 0, [], [], false, []⟩
def E_laws_eqFrmForm : Entry := ⟨S_laws_eqFrmForm, .r H_laws_eqFrmForm R_laws_eqFrmForm⟩
def S_laws_eqActLine : Sig := .d ⟨[(.g [.i .i64, .i .i64, .i .i64, .s, .s, .i .i64]), (.g [.i .i64, .i .i64, .i .i64, .s, .s, .i .i64])], (.one (.one (.b))), true⟩
def H_laws_eqActLine : Hint := ⟨[0, 1, 2, 3, 4, 9, 14, 19, 25], 0, [], [], false, []⟩
def E_laws_eqActLine : Entry := ⟨S_laws_eqActLine, .r H_laws_eqActLine R_laws_eqActLine⟩
def S_laws_eqActLineS : Sig := .d ⟨[(.one (.s)), (.one (.s))], (.one (.one (.b))), true⟩
def H_laws_eqActLineS : Hint := ⟨[0, 1, 4, 5, 10, 14, 26], 0, [], [(4, ⟨[5], [], [], [], []⟩)], false, []⟩
def E_laws_eqActLineS : Entry := ⟨S_laws_eqActLineS, .r H_laws_eqActLineS R_laws_eqActLineS⟩
def S_laws_eqActLineSS : Sig := .d ⟨[(.one (.s)), (.one (.s))], (.one (.one (.b))), true⟩
def H_laws_eqActLineSS : Hint := ⟨[0, 1, 4, 5, 10, 14, 26], 0, [], [(4, ⟨[5], [], [], [], []⟩)], false, []⟩
def E_laws_eqActLineSS : Entry := ⟨S_laws_eqActLineSS, .r H_laws_eqActLineSS R_laws_eqActLineSS⟩
def S_laws_eqPlnPlan : Sig := .d ⟨[(.g [.i .i64, .s, .s, .s]), (.g [.i .i64, .s, .s, .s])], (.one (.one (.b))), true⟩
def H_laws_eqPlnPlan : Hint := ⟨[0, 1, 2, 3, 4, 9, 15, 21, 27], 0, [], [], false, []⟩
def E_laws_eqPlnPlan : Entry := ⟨S_laws_eqPlnPlan, .r H_laws_eqPlnPlan R_laws_eqPlnPlan⟩
def S_laws_markIntS : Sig := .x ⟨[(.o 0 (.v 0)), (.d (.vi .i64 (.v 1)))], [(.arr 3 1 (.v 0) true true)], [.s, .i .i64], (.d (.vi .i64 (.v 0))), [(.arr 3 1 (.v 1) true true)], [.i .i64, .s], false⟩
def H_laws_markIntS : Hint := ⟨[0, 1, 4, 5, 9], 1, [], [(2, ⟨[5, 1], [], [0], [], []⟩)], false, []⟩
def E_laws_markIntS : Entry := ⟨S_laws_markIntS, .r H_laws_markIntS R_laws_markIntS⟩
def S_laws_markActLineS : Sig := .x ⟨[(.o 0 (.v 0)), (.d (.vi .i64 (.v 1)))], [(.arr 84 6 (.v 0) true true)], [.s, .i .i64], (.d (.vi .i64 (.v 0))), [(.arr 84 6 (.v 1) true true)], [.i .i64, .s], false⟩
def H_laws_markActLineS : Hint := ⟨[0, 1, 4, 5, 9], 1, [], [(2, ⟨[5, 1], [], [0], [], []⟩)], false, [10, 11]⟩
def E_laws_markActLineS : Entry := ⟨S_laws_markActLineS, .r H_laws_markActLineS R_laws_markActLineS⟩
def S_laws_markActLineSS : Sig := .x ⟨[(.o 0 (.v 0)), (.d (.vi .i64 (.v 1)))], [(.arr 26 1 (.v 0) true true)], [.s, .i .i64], (.d (.vi .i64 (.v 0))), [(.arr 26 1 (.v 1) true true)], [.i .i64, .s], false⟩
def H_laws_markActLineSS : Hint := ⟨[0, 1, 4, 5, 9], 1, [], [(2, ⟨[5, 1], [], [0], [], []⟩)], false, [4]⟩
def E_laws_markActLineSS : Entry := ⟨S_laws_markActLineSS, .r H_laws_markActLineSS R_laws_markActLineSS⟩
def S_laws_markPlnPlan : Sig := .x ⟨[(.g [(.d (.vi .i64 (.v 0))), (.o 0 (.v 1)), (.o 1 (.v 2)), (.o 2 (.v 3))]), (.d (.vi .i64 (.v 4)))], [(.arr 26 1 (.v 1) true true), (.arr 3 1 (.v 2) true true), (.arr 3 1 (.v 3) true true)], [.i .i64, .s, .s, .s, .i .i64], (.d (.vi .i64 (.v 0))), [(.arr 26 1 (.v 1) true true), (.arr 3 1 (.v 2) true true), (.arr 3 1 (.v 3) true true)], [.i .i64, .s, .s, .s], false⟩
def H_laws_markPlnPlan : Hint := ⟨[0, 1, 2, 4], 3, [], [], false, []⟩
def E_laws_markPlnPlan : Entry := ⟨S_laws_markPlnPlan, .r H_laws_markPlnPlan R_laws_markPlnPlan⟩
def S_laws_markPlnDoneS : Sig := .x ⟨[(.o 0 (.v 0)), (.d (.vi .i64 (.v 1)))], [(.arr 147 3 (.v 0) true true)], [.s, .i .i64], (.d (.vi .i64 (.v 0))), [(.arr 147 3 (.v 1) true true)], [.i .i64, .s], false⟩
def H_laws_markPlnDoneS : Hint := ⟨[0, 1, 4, 5, 9], 1, [], [(2, ⟨[5, 1], [], [0], [], []⟩)], false, [8]⟩
def E_laws_markPlnDoneS : Entry := ⟨S_laws_markPlnDoneS, .r H_laws_markPlnDoneS R_laws_markPlnDoneS⟩
def S_laws_markPlnCallS : Sig := .x ⟨[(.o 0 (.v 0)), (.d (.vi .i64 (.v 1)))], [(.arr 154 4 (.v 0) true true)], [.s, .i .i64], (.d (.vi .i64 (.v 0))), [(.arr 154 4 (.v 1) true true)], [.i .i64, .s], false⟩
def H_laws_markPlnCallS : Hint := ⟨[0, 1, 4, 5, 9], 1, [], [(2, ⟨[5, 1], [], [0], [], []⟩)], false, [10]⟩
def E_laws_markPlnCallS : Entry := ⟨S_laws_markPlnCallS, .r H_laws_markPlnCallS R_laws_markPlnCallS⟩
def S_laws_markClkGotS : Sig := .x ⟨[(.o 0 (.v 0)), (.d (.vi .i64 (.v 1)))], [(.arr 151 3 (.v 0) true true)], [.s, .i .i64], (.d (.vi .i64 (.v 0))), [(.arr 151 3 (.v 1) true true)], [.i .i64, .s], false⟩
def H_laws_markClkGotS : Hint := ⟨[0, 1, 4, 5, 9], 1, [], [(2, ⟨[5, 1], [], [0], [], []⟩)], false, [6, 7]⟩
def E_laws_markClkGotS : Entry := ⟨S_laws_markClkGotS, .r H_laws_markClkGotS R_laws_markClkGotS⟩
def S_laws_markClkClerk : Sig := .x ⟨[(.g [(.d (.vb (.v 0))), (.d (.vi .i64 (.v 1))), (.o 0 (.v 2)), (.o 1 (.v 3)), (.o 2 (.v 4)), (.o 3 (.v 5))]), (.d (.vi .i64 (.v 6)))], [(.arr 3 1 (.v 2) true true), (.arr 147 3 (.v 3) true true), (.arr 154 4 (.v 4) true true), (.arr 151 3 (.v 5) true true)], [.b, .i .i64, .s, .s, .s, .s, .i .i64], (.d (.vi .i64 (.v 0))), [(.arr 3 1 (.v 1) true true), (.arr 147 3 (.v 2) true true), (.arr 154 4 (.v 3) true true), (.arr 151 3 (.v 4) true true)], [.i .i64, .s, .s, .s, .s], false⟩
def H_laws_markClkClerk : Hint := ⟨[0, 1, 2, 4], 4, [], [], false, []⟩
def E_laws_markClkClerk : Entry := ⟨S_laws_markClkClerk, .r H_laws_markClkClerk R_laws_markClkClerk⟩
def S_laws_heldIntS : Sig := .d ⟨[(.one (.s)), (.one (.i .i64))], (.one (.one (.i .i64))), true⟩
def H_laws_heldIntS : Hint := ⟨[0, 1, 4, 5, 9, 17], 0, [], [(2, ⟨[5, 1], [], [], [], []⟩)], false, []⟩
def E_laws_heldIntS : Entry := ⟨S_laws_heldIntS, .r H_laws_heldIntS R_laws_heldIntS⟩
def S_laws_heldPlnDoneS : Sig := .d ⟨[(.one (.s)), (.one (.i .i64))], (.one (.one (.i .i64))), true⟩
def H_laws_heldPlnDoneS : Hint := ⟨[0, 1, 4, 5, 9, 18, 28, 40], 0, [], [(2, ⟨[5, 1], [], [], [], []⟩)], false, []⟩
def E_laws_heldPlnDoneS : Entry := ⟨S_laws_heldPlnDoneS, .r H_laws_heldPlnDoneS R_laws_heldPlnDoneS⟩
def S_laws_heldPlnCallS : Sig := .d ⟨[(.one (.s)), (.one (.i .i64))], (.one (.one (.i .i64))), true⟩
def H_laws_heldPlnCallS : Hint := ⟨[0, 1, 4, 5, 9, 18, 27, 36, 47], 0, [], [(2, ⟨[5, 1], [], [], [], []⟩)], false, []⟩
def E_laws_heldPlnCallS : Entry := ⟨S_laws_heldPlnCallS, .r H_laws_heldPlnCallS R_laws_heldPlnCallS⟩
def S_laws_heldClkGotS : Sig := .d ⟨[(.one (.s)), (.one (.i .i64))], (.one (.one (.i .i64))), true⟩
def H_laws_heldClkGotS : Hint := ⟨[0, 1, 4, 5, 9, 20, 31, 40], 0, [], [(2, ⟨[5, 1], [], [], [], []⟩)], false, []⟩
def E_laws_heldClkGotS : Entry := ⟨S_laws_heldClkGotS, .r H_laws_heldClkGotS R_laws_heldClkGotS⟩
def S_laws_heldClkClerk : Sig := .d ⟨[(.g [.b, .i .i64, .s, .s, .s, .s]), (.one (.i .i64))], (.one (.one (.i .i64))), true⟩
def H_laws_heldClkClerk : Hint := ⟨[0, 1, 2, 4, 10, 16, 22, 28], 0, [], [], false, []⟩
def E_laws_heldClkClerk : Entry := ⟨S_laws_heldClkClerk, .r H_laws_heldClkClerk R_laws_heldClkClerk⟩
def S_laws_FnExactClkNew : Sig := .d ⟨[(.g [.i .i64, .s, .s, .s])], (.one (.one (.b))), true⟩
def H_laws_FnExactClkNew : Hint := ⟨[0, 1, 2, 3, 4, 5, 6, 7, 8, 9, 10, 15, 26, 31, 42, 50, 53, 60, 65, 68], 0, [], [], false, []⟩
def E_laws_FnExactClkNew : Entry := ⟨S_laws_FnExactClkNew, .r H_laws_FnExactClkNew R_laws_FnExactClkNew⟩
def L : Tabl := [(f_laws_szIntS, E_laws_szIntS), (f_laws_szFrmForm, E_laws_szFrmForm), (f_laws_szActLine, E_laws_szActLine), (f_laws_szActLineS, E_laws_szActLineS), (f_laws_szActLineSS, E_laws_szActLineSS), (f_laws_szPlnPlan, E_laws_szPlnPlan), (f_laws_toIntS, E_laws_toIntS), (f_laws_toFrmForm, E_laws_toFrmForm), (f_laws_toActLine, E_laws_toActLine), (f_laws_toActLineS, E_laws_toActLineS), (f_laws_toActLineSS, E_laws_toActLineSS), (f_laws_toPlnPlan, E_laws_toPlnPlan), (f_spec_l1In, E_spec_l1In), (f_spec_l1All, E_spec_l1All), (f_spec_l2Small, E_spec_l2Small), (f_spec_l2Line, E_spec_l2Line), (f_spec_ActOk, E_spec_ActOk), (f_spec_CatOk, E_spec_CatOk), (f_spec_ValOk, E_spec_ValOk), (f_spec_TrtOk, E_spec_TrtOk), (f_spec_PlnOk, E_spec_PlnOk), (f_spec_l6New, E_spec_l6New), (f_spec_l9None, E_spec_l9None), (f_spec_ClkNew, E_spec_ClkNew), (f_impl_in, E_impl_in), (f_slices_IndexFunc_SSimpl_ActLine_Simpl_ActLine, E_slices_IndexFunc_SSimpl_ActLine_Simpl_ActLine), (f_slices_ContainsFunc_SSimpl_ActLine_Simpl_ActLine, E_slices_ContainsFunc_SSimpl_ActLine_Simpl_ActLine), (f_impl_within_1, E_impl_within_1), (f_slices_IndexFunc_Sint_int, E_slices_IndexFunc_Sint_int), (f_slices_ContainsFunc_Sint_int, E_slices_ContainsFunc_Sint_int), (f_impl_within, E_impl_within), (f_impl_FrmForm_small, E_impl_FrmForm_small), (f_slices_Equal_Sint_int, E_slices_Equal_Sint_int), (f_impl_FrmForm_same, E_impl_FrmForm_same), (f_impl_ActLine_ok, E_impl_ActLine_ok), (f_impl_ActOk, E_impl_ActOk), (f_impl_CatOk_1, E_impl_CatOk_1), (f_impl_CatOk, E_impl_CatOk), (f_impl_PlnPlan_treaty, E_impl_PlnPlan_treaty), (f_impl_TrtOk_1, E_impl_TrtOk_1), (f_impl_ValOk, E_impl_ValOk), (f_impl_TrtOk, E_impl_TrtOk), (f_impl_PlnOk, E_impl_PlnOk), (f_slices_Clone_Sint_int, E_slices_Clone_Sint_int), (f_impl_PlnPlan_clerkNew, E_impl_PlnPlan_clerkNew), (f_impl_ClkNew, E_impl_ClkNew), (f_laws_eqIntS, E_laws_eqIntS), (f_laws_eqResResult, E_laws_eqResResult), (f_laws_eqPlnDone, E_laws_eqPlnDone), (f_laws_eqPlnDoneS, E_laws_eqPlnDoneS), (f_laws_eqPlnCall, E_laws_eqPlnCall), (f_laws_eqPlnCallS, E_laws_eqPlnCallS), (f_laws_eqClkGot, E_laws_eqClkGot), (f_laws_eqClkGotS, E_laws_eqClkGotS), (f_laws_eqClkClerk, E_laws_eqClkClerk), (f_laws_eqFrmForm, E_laws_eqFrmForm), (f_laws_eqActLine, E_laws_eqActLine), (f_laws_eqActLineS, E_laws_eqActLineS), (f_laws_eqActLineSS, E_laws_eqActLineSS), (f_laws_eqPlnPlan, E_laws_eqPlnPlan), (f_laws_markIntS, E_laws_markIntS), (f_laws_markActLineS, E_laws_markActLineS), (f_laws_markActLineSS, E_laws_markActLineSS), (f_laws_markPlnPlan, E_laws_markPlnPlan), (f_laws_markPlnDoneS, E_laws_markPlnDoneS), (f_laws_markPlnCallS, E_laws_markPlnCallS), (f_laws_markClkGotS, E_laws_markClkGotS), (f_laws_markClkClerk, E_laws_markClkClerk), (f_laws_heldIntS, E_laws_heldIntS), (f_laws_heldPlnDoneS, E_laws_heldPlnDoneS), (f_laws_heldPlnCallS, E_laws_heldPlnCallS), (f_laws_heldClkGotS, E_laws_heldClkGotS), (f_laws_heldClkClerk, E_laws_heldClkClerk), (f_laws_FnExactClkNew, E_laws_FnExactClkNew)]
theorem L_laws_szIntS : L.lookup f_laws_szIntS = some ⟨S_laws_szIntS, .r H_laws_szIntS R_laws_szIntS⟩ := rfl
theorem L_laws_szFrmForm : L.lookup f_laws_szFrmForm = some ⟨S_laws_szFrmForm, .r H_laws_szFrmForm R_laws_szFrmForm⟩ := rfl
theorem L_laws_szActLine : L.lookup f_laws_szActLine = some ⟨S_laws_szActLine, .r H_laws_szActLine R_laws_szActLine⟩ := rfl
theorem L_laws_szActLineS : L.lookup f_laws_szActLineS = some ⟨S_laws_szActLineS, .r H_laws_szActLineS R_laws_szActLineS⟩ := rfl
theorem L_laws_szActLineSS : L.lookup f_laws_szActLineSS = some ⟨S_laws_szActLineSS, .r H_laws_szActLineSS R_laws_szActLineSS⟩ := rfl
theorem L_laws_szPlnPlan : L.lookup f_laws_szPlnPlan = some ⟨S_laws_szPlnPlan, .r H_laws_szPlnPlan R_laws_szPlnPlan⟩ := rfl
theorem L_laws_toIntS : L.lookup f_laws_toIntS = some ⟨S_laws_toIntS, .r H_laws_toIntS R_laws_toIntS⟩ := rfl
theorem L_laws_toFrmForm : L.lookup f_laws_toFrmForm = some ⟨S_laws_toFrmForm, .r H_laws_toFrmForm R_laws_toFrmForm⟩ := rfl
theorem L_laws_toActLine : L.lookup f_laws_toActLine = some ⟨S_laws_toActLine, .r H_laws_toActLine R_laws_toActLine⟩ := rfl
theorem L_laws_toActLineS : L.lookup f_laws_toActLineS = some ⟨S_laws_toActLineS, .r H_laws_toActLineS R_laws_toActLineS⟩ := rfl
theorem L_laws_toActLineSS : L.lookup f_laws_toActLineSS = some ⟨S_laws_toActLineSS, .r H_laws_toActLineSS R_laws_toActLineSS⟩ := rfl
theorem L_laws_toPlnPlan : L.lookup f_laws_toPlnPlan = some ⟨S_laws_toPlnPlan, .r H_laws_toPlnPlan R_laws_toPlnPlan⟩ := rfl
theorem L_spec_l1In : L.lookup f_spec_l1In = some ⟨S_spec_l1In, .r H_spec_l1In R_spec_l1In⟩ := rfl
theorem L_spec_l1All : L.lookup f_spec_l1All = some ⟨S_spec_l1All, .r H_spec_l1All R_spec_l1All⟩ := rfl
theorem L_spec_l2Small : L.lookup f_spec_l2Small = some ⟨S_spec_l2Small, .r H_spec_l2Small R_spec_l2Small⟩ := rfl
theorem L_spec_l2Line : L.lookup f_spec_l2Line = some ⟨S_spec_l2Line, .r H_spec_l2Line R_spec_l2Line⟩ := rfl
theorem L_spec_ActOk : L.lookup f_spec_ActOk = some ⟨S_spec_ActOk, .r H_spec_ActOk R_spec_ActOk⟩ := rfl
theorem L_spec_CatOk : L.lookup f_spec_CatOk = some ⟨S_spec_CatOk, .r H_spec_CatOk R_spec_CatOk⟩ := rfl
theorem L_spec_ValOk : L.lookup f_spec_ValOk = some ⟨S_spec_ValOk, .r H_spec_ValOk R_spec_ValOk⟩ := rfl
theorem L_spec_TrtOk : L.lookup f_spec_TrtOk = some ⟨S_spec_TrtOk, .r H_spec_TrtOk R_spec_TrtOk⟩ := rfl
theorem L_spec_PlnOk : L.lookup f_spec_PlnOk = some ⟨S_spec_PlnOk, .r H_spec_PlnOk R_spec_PlnOk⟩ := rfl
theorem L_spec_l6New : L.lookup f_spec_l6New = some ⟨S_spec_l6New, .r H_spec_l6New R_spec_l6New⟩ := rfl
theorem L_spec_l9None : L.lookup f_spec_l9None = some ⟨S_spec_l9None, .r H_spec_l9None R_spec_l9None⟩ := rfl
theorem L_spec_ClkNew : L.lookup f_spec_ClkNew = some ⟨S_spec_ClkNew, .r H_spec_ClkNew R_spec_ClkNew⟩ := rfl
theorem L_impl_in : L.lookup f_impl_in = some ⟨S_impl_in, .r H_impl_in R_impl_in⟩ := rfl
theorem L_slices_IndexFunc_SSimpl_ActLine_Simpl_ActLine : L.lookup f_slices_IndexFunc_SSimpl_ActLine_Simpl_ActLine = some ⟨S_slices_IndexFunc_SSimpl_ActLine_Simpl_ActLine, .r H_slices_IndexFunc_SSimpl_ActLine_Simpl_ActLine R_slices_IndexFunc_SSimpl_ActLine_Simpl_ActLine⟩ := rfl
theorem L_slices_ContainsFunc_SSimpl_ActLine_Simpl_ActLine : L.lookup f_slices_ContainsFunc_SSimpl_ActLine_Simpl_ActLine = some ⟨S_slices_ContainsFunc_SSimpl_ActLine_Simpl_ActLine, .r H_slices_ContainsFunc_SSimpl_ActLine_Simpl_ActLine R_slices_ContainsFunc_SSimpl_ActLine_Simpl_ActLine⟩ := rfl
theorem L_impl_within_1 : L.lookup f_impl_within_1 = some ⟨S_impl_within_1, .r H_impl_within_1 R_impl_within_1⟩ := rfl
theorem L_slices_IndexFunc_Sint_int : L.lookup f_slices_IndexFunc_Sint_int = some ⟨S_slices_IndexFunc_Sint_int, .r H_slices_IndexFunc_Sint_int R_slices_IndexFunc_Sint_int⟩ := rfl
theorem L_slices_ContainsFunc_Sint_int : L.lookup f_slices_ContainsFunc_Sint_int = some ⟨S_slices_ContainsFunc_Sint_int, .r H_slices_ContainsFunc_Sint_int R_slices_ContainsFunc_Sint_int⟩ := rfl
theorem L_impl_within : L.lookup f_impl_within = some ⟨S_impl_within, .r H_impl_within R_impl_within⟩ := rfl
theorem L_impl_FrmForm_small : L.lookup f_impl_FrmForm_small = some ⟨S_impl_FrmForm_small, .r H_impl_FrmForm_small R_impl_FrmForm_small⟩ := rfl
theorem L_slices_Equal_Sint_int : L.lookup f_slices_Equal_Sint_int = some ⟨S_slices_Equal_Sint_int, .r H_slices_Equal_Sint_int R_slices_Equal_Sint_int⟩ := rfl
theorem L_impl_FrmForm_same : L.lookup f_impl_FrmForm_same = some ⟨S_impl_FrmForm_same, .r H_impl_FrmForm_same R_impl_FrmForm_same⟩ := rfl
theorem L_impl_ActLine_ok : L.lookup f_impl_ActLine_ok = some ⟨S_impl_ActLine_ok, .r H_impl_ActLine_ok R_impl_ActLine_ok⟩ := rfl
theorem L_impl_ActOk : L.lookup f_impl_ActOk = some ⟨S_impl_ActOk, .r H_impl_ActOk R_impl_ActOk⟩ := rfl
theorem L_impl_CatOk_1 : L.lookup f_impl_CatOk_1 = some ⟨S_impl_CatOk_1, .r H_impl_CatOk_1 R_impl_CatOk_1⟩ := rfl
theorem L_impl_CatOk : L.lookup f_impl_CatOk = some ⟨S_impl_CatOk, .r H_impl_CatOk R_impl_CatOk⟩ := rfl
theorem L_impl_PlnPlan_treaty : L.lookup f_impl_PlnPlan_treaty = some ⟨S_impl_PlnPlan_treaty, .r H_impl_PlnPlan_treaty R_impl_PlnPlan_treaty⟩ := rfl
theorem L_impl_TrtOk_1 : L.lookup f_impl_TrtOk_1 = some ⟨S_impl_TrtOk_1, .r H_impl_TrtOk_1 R_impl_TrtOk_1⟩ := rfl
theorem L_impl_ValOk : L.lookup f_impl_ValOk = some ⟨S_impl_ValOk, .r H_impl_ValOk R_impl_ValOk⟩ := rfl
theorem L_impl_TrtOk : L.lookup f_impl_TrtOk = some ⟨S_impl_TrtOk, .r H_impl_TrtOk R_impl_TrtOk⟩ := rfl
theorem L_impl_PlnOk : L.lookup f_impl_PlnOk = some ⟨S_impl_PlnOk, .r H_impl_PlnOk R_impl_PlnOk⟩ := rfl
theorem L_slices_Clone_Sint_int : L.lookup f_slices_Clone_Sint_int = some ⟨S_slices_Clone_Sint_int, .r H_slices_Clone_Sint_int R_slices_Clone_Sint_int⟩ := rfl
theorem L_impl_PlnPlan_clerkNew : L.lookup f_impl_PlnPlan_clerkNew = some ⟨S_impl_PlnPlan_clerkNew, .r H_impl_PlnPlan_clerkNew R_impl_PlnPlan_clerkNew⟩ := rfl
theorem L_impl_ClkNew : L.lookup f_impl_ClkNew = some ⟨S_impl_ClkNew, .r H_impl_ClkNew R_impl_ClkNew⟩ := rfl
theorem L_laws_eqIntS : L.lookup f_laws_eqIntS = some ⟨S_laws_eqIntS, .r H_laws_eqIntS R_laws_eqIntS⟩ := rfl
theorem L_laws_eqResResult : L.lookup f_laws_eqResResult = some ⟨S_laws_eqResResult, .r H_laws_eqResResult R_laws_eqResResult⟩ := rfl
theorem L_laws_eqPlnDone : L.lookup f_laws_eqPlnDone = some ⟨S_laws_eqPlnDone, .r H_laws_eqPlnDone R_laws_eqPlnDone⟩ := rfl
theorem L_laws_eqPlnDoneS : L.lookup f_laws_eqPlnDoneS = some ⟨S_laws_eqPlnDoneS, .r H_laws_eqPlnDoneS R_laws_eqPlnDoneS⟩ := rfl
theorem L_laws_eqPlnCall : L.lookup f_laws_eqPlnCall = some ⟨S_laws_eqPlnCall, .r H_laws_eqPlnCall R_laws_eqPlnCall⟩ := rfl
theorem L_laws_eqPlnCallS : L.lookup f_laws_eqPlnCallS = some ⟨S_laws_eqPlnCallS, .r H_laws_eqPlnCallS R_laws_eqPlnCallS⟩ := rfl
theorem L_laws_eqClkGot : L.lookup f_laws_eqClkGot = some ⟨S_laws_eqClkGot, .r H_laws_eqClkGot R_laws_eqClkGot⟩ := rfl
theorem L_laws_eqClkGotS : L.lookup f_laws_eqClkGotS = some ⟨S_laws_eqClkGotS, .r H_laws_eqClkGotS R_laws_eqClkGotS⟩ := rfl
theorem L_laws_eqClkClerk : L.lookup f_laws_eqClkClerk = some ⟨S_laws_eqClkClerk, .r H_laws_eqClkClerk R_laws_eqClkClerk⟩ := rfl
theorem L_laws_eqFrmForm : L.lookup f_laws_eqFrmForm = some ⟨S_laws_eqFrmForm, .r H_laws_eqFrmForm R_laws_eqFrmForm⟩ := rfl
theorem L_laws_eqActLine : L.lookup f_laws_eqActLine = some ⟨S_laws_eqActLine, .r H_laws_eqActLine R_laws_eqActLine⟩ := rfl
theorem L_laws_eqActLineS : L.lookup f_laws_eqActLineS = some ⟨S_laws_eqActLineS, .r H_laws_eqActLineS R_laws_eqActLineS⟩ := rfl
theorem L_laws_eqActLineSS : L.lookup f_laws_eqActLineSS = some ⟨S_laws_eqActLineSS, .r H_laws_eqActLineSS R_laws_eqActLineSS⟩ := rfl
theorem L_laws_eqPlnPlan : L.lookup f_laws_eqPlnPlan = some ⟨S_laws_eqPlnPlan, .r H_laws_eqPlnPlan R_laws_eqPlnPlan⟩ := rfl
theorem L_laws_markIntS : L.lookup f_laws_markIntS = some ⟨S_laws_markIntS, .r H_laws_markIntS R_laws_markIntS⟩ := rfl
theorem L_laws_markActLineS : L.lookup f_laws_markActLineS = some ⟨S_laws_markActLineS, .r H_laws_markActLineS R_laws_markActLineS⟩ := rfl
theorem L_laws_markActLineSS : L.lookup f_laws_markActLineSS = some ⟨S_laws_markActLineSS, .r H_laws_markActLineSS R_laws_markActLineSS⟩ := rfl
theorem L_laws_markPlnPlan : L.lookup f_laws_markPlnPlan = some ⟨S_laws_markPlnPlan, .r H_laws_markPlnPlan R_laws_markPlnPlan⟩ := rfl
theorem L_laws_markPlnDoneS : L.lookup f_laws_markPlnDoneS = some ⟨S_laws_markPlnDoneS, .r H_laws_markPlnDoneS R_laws_markPlnDoneS⟩ := rfl
theorem L_laws_markPlnCallS : L.lookup f_laws_markPlnCallS = some ⟨S_laws_markPlnCallS, .r H_laws_markPlnCallS R_laws_markPlnCallS⟩ := rfl
theorem L_laws_markClkGotS : L.lookup f_laws_markClkGotS = some ⟨S_laws_markClkGotS, .r H_laws_markClkGotS R_laws_markClkGotS⟩ := rfl
theorem L_laws_markClkClerk : L.lookup f_laws_markClkClerk = some ⟨S_laws_markClkClerk, .r H_laws_markClkClerk R_laws_markClkClerk⟩ := rfl
theorem L_laws_heldIntS : L.lookup f_laws_heldIntS = some ⟨S_laws_heldIntS, .r H_laws_heldIntS R_laws_heldIntS⟩ := rfl
theorem L_laws_heldPlnDoneS : L.lookup f_laws_heldPlnDoneS = some ⟨S_laws_heldPlnDoneS, .r H_laws_heldPlnDoneS R_laws_heldPlnDoneS⟩ := rfl
theorem L_laws_heldPlnCallS : L.lookup f_laws_heldPlnCallS = some ⟨S_laws_heldPlnCallS, .r H_laws_heldPlnCallS R_laws_heldPlnCallS⟩ := rfl
theorem L_laws_heldClkGotS : L.lookup f_laws_heldClkGotS = some ⟨S_laws_heldClkGotS, .r H_laws_heldClkGotS R_laws_heldClkGotS⟩ := rfl
theorem L_laws_heldClkClerk : L.lookup f_laws_heldClkClerk = some ⟨S_laws_heldClkClerk, .r H_laws_heldClkClerk R_laws_heldClkClerk⟩ := rfl
theorem L_laws_FnExactClkNew : L.lookup f_laws_FnExactClkNew = some ⟨S_laws_FnExactClkNew, .r H_laws_FnExactClkNew R_laws_FnExactClkNew⟩ := rfl
end Go.Proofs.Ytjmimbpcajogoaa

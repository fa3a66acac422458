/- The residual programs of the functions, and the table of them. -/
import Derived.Test.YtjmimbpcajogoaaTd
namespace Go.Proofs.Ytjmimbpcajogoaa
open Go Go.Tm
abbrev f_laws_szIntS : Nat := 79
abbrev f_laws_szFrmForm : Nat := 96
abbrev f_laws_szActLine : Nat := 51
abbrev f_laws_szActLineS : Nat := 10
abbrev f_laws_szActLineSS : Nat := 21
abbrev f_laws_toIntS : Nat := 82
abbrev f_laws_toFrmForm : Nat := 100
abbrev f_laws_toActLine : Nat := 54
abbrev f_laws_toActLineS : Nat := 12
abbrev f_laws_toActLineSS : Nat := 23
abbrev f_spec_l1In : Nat := 107
abbrev f_spec_l1All : Nat := 130
abbrev f_spec_l2Small : Nat := 138
abbrev f_spec_l2Line : Nat := 97
abbrev f_spec_ActOk : Nat := 52
abbrev f_spec_CatOk : Nat := 64
abbrev f_spec_FrmZero : Nat := 99
abbrev f_spec_FrmPot : Nat := 68
abbrev f_spec_l1Sum : Nat := 116
abbrev f_spec_l3Copy : Nat := 113
abbrev f_spec_FrmOk : Nat := 143
abbrev f_spec_FrmInto : Nat := 114
abbrev f_spec_l3Minus : Nat := 115
abbrev f_spec_l3Row : Nat := 117
abbrev f_spec_l3Walk : Nat := 67
abbrev f_spec_RowsOf : Nat := 27
abbrev f_spec_l4Reads : Nat := 62
abbrev f_spec_CatPart : Nat := 108
abbrev f_spec_l4Same : Nat := 98
abbrev f_spec_CatHas : Nat := 109
abbrev f_spec_l4Both : Nat := 65
abbrev f_spec_CatForms : Nat := 32
abbrev f_impl_in : Nat := 110
abbrev f_slices_IndexFunc_SSimpl_ActLine_Simpl_ActLine : Nat := 142
abbrev f_slices_ContainsFunc_SSimpl_ActLine_Simpl_ActLine : Nat := 111
abbrev f_impl_within_1 : Nat := 150
abbrev f_slices_IndexFunc_Sint_int : Nat := 124
abbrev f_slices_ContainsFunc_Sint_int : Nat := 126
abbrev f_impl_within : Nat := 132
abbrev f_impl_FrmForm_small : Nat := 139
abbrev f_slices_Equal_Sint_int : Nat := 102
abbrev f_impl_FrmForm_same : Nat := 58
abbrev f_impl_ActLine_ok : Nat := 101
abbrev f_impl_ActOk : Nat := 55
abbrev f_impl_CatOk_1 : Nat := 112
abbrev f_impl_CatOk : Nat := 66
abbrev f_impl_FrmZero : Nat := 59
abbrev f_impl_FrmPot : Nat := 69
abbrev f_slices_Clone_Sint_int : Nat := 123
abbrev f_impl_FrmForm_copied : Nat := 144
abbrev f_impl_forms : Nat := 118
abbrev f_impl_FrmOk : Nat := 145
abbrev f_slices_IndexFunc_Simpl_FrmForm_impl_FrmForm : Nat := 140
abbrev f_slices_ContainsFunc_Simpl_FrmForm_impl_FrmForm : Nat := 104
abbrev f_impl_FrmInto_1 : Nat := 146
abbrev f_impl_FrmForm_add : Nat := 147
abbrev f_impl_checked : Nat := 148
abbrev f_impl_FrmInto : Nat := 119
abbrev f_impl_FrmTimes : Nat := 120
abbrev f_impl_FrmAdd : Nat := 121
abbrev f_impl_walker_walk : Nat := 70
abbrev f_impl_RowsOf : Nat := 28
abbrev f_impl_CatPart_1 : Nat := 125
abbrev f_impl_CatPart : Nat := 74
abbrev f_impl_zeros_1 : Nat := 127
abbrev f_impl_zeros : Nat := 75
abbrev f_impl_CatHas_1 : Nat := 129
abbrev f_slices_IndexFunc_SSint_Sint : Nat := 128
abbrev f_impl_CatHas : Nat := 76
abbrev f_impl_CatForms : Nat := 33
abbrev f_laws_eqIntS : Nat := 77
abbrev f_laws_eqIntSS : Nat := 34
abbrev f_laws_eqFrmForm : Nat := 103
abbrev f_laws_eqActLine : Nat := 60
abbrev f_laws_eqActLineS : Nat := 15
abbrev f_laws_eqActLineSS : Nat := 25
abbrev f_laws_markIntS : Nat := 61
abbrev f_laws_markActLineS : Nat := 16
abbrev f_laws_markActLineSS : Nat := 26
abbrev f_laws_markIntSS : Nat := 35
abbrev f_laws_heldIntS : Nat := 78
abbrev f_laws_heldIntSS : Nat := 36
abbrev f_laws_FnExactCatForms : Nat := 7
/-- laws_szIntS -/
def R_laws_szIntS : R :=
  .ite (.cmp .lt (.bin .sub .i64 (.v 1) (.len (.v 0))) (.z 0))
   (
    .done [(.vi .i64 (.z (-1)))])
   (
    .done [(.vi .i64 (.bin .sub .i64 (.v 1) (.len (.v 0))))])
/-- laws_szFrmForm -/
def R_laws_szFrmForm : R :=
  .i (.call f_laws_szIntS [(.s (.v 0)), (.vi .i64 (.v 3))] [.i .i64] 4) <|
  .ite (.cmp .lt (.v 4) (.z 0))
   (
    .done [(.vi .i64 (.z (-1)))])
   (
    .i (.call f_laws_szIntS [(.s (.v 1)), (.vi .i64 (.v 4))] [.i .i64] 5) <|
    .ite (.cmp .lt (.v 5) (.z 0))
     (
      .done [(.vi .i64 (.z (-1)))])
     (
      .done [(.vi .i64 (.v 5))]))
/-- laws_szActLine -/
def R_laws_szActLine : R :=
  .i (.call f_laws_szFrmForm [(.s (.v 3)), (.s (.v 4)), (.vi .i64 (.v 5)), (.vi .i64 (.v 6))] [.i .i64] 7) <|
  .ite (.cmp .lt (.v 7) (.z 0))
   (
    .done [(.vi .i64 (.z (-1)))])
   (
    .done [(.vi .i64 (.v 7))])
/-- laws_szActLineS -/
def R_laws_szActLineS : R :=
  .ite (.cmp .lt (.bin .sub .i64 (.v 1) (.len (.v 0))) (.z 0))
   (
    .done [(.vi .i64 (.z (-1)))])
   (
    .loop 2 [(.bin .sub .i64 (.v 1) (.len (.v 0))), (.z 0)] <|
      .ite (.cmp .lt (.v 3) (.len (.v 0)))
       (
        .i (.idx (.v 0) (.v 3) (.g [.i .i64, .i .i64, .i .i64, .s, .s, .i .i64]) 4) <|
        .i (.call f_laws_szActLine [(.vi .i64 (.v 4)), (.vi .i64 (.v 5)), (.vi .i64 (.v 6)), (.s (.v 7)), (.s (.v 8)), (.vi .i64 (.v 9)), (.vi .i64 (.v 2))] [.i .i64] 10) <|
        .ite (.cmp .lt (.v 10) (.z 0))
         (
          .esc <|
          .done [(.vi .i64 (.z (-1)))])
         (
          .next [(.v 10), (.bin .add .i64 (.v 3) (.z 1))]))
       (
        .esc <|
        .done [(.vi .i64 (.v 2))]))
/-- laws_szActLineSS -/
def R_laws_szActLineSS : R :=
  .ite (.cmp .lt (.bin .sub .i64 (.v 1) (.len (.v 0))) (.z 0))
   (
    .done [(.vi .i64 (.z (-1)))])
   (
    .loop 2 [(.bin .sub .i64 (.v 1) (.len (.v 0))), (.z 0)] <|
      .ite (.cmp .lt (.v 3) (.len (.v 0)))
       (
        .i (.idx (.v 0) (.v 3) (.one (.s)) 4) <|
        .i (.call f_laws_szActLineS [(.s (.v 4)), (.vi .i64 (.v 2))] [.i .i64] 5) <|
        .ite (.cmp .lt (.v 5) (.z 0))
         (
          .esc <|
          .done [(.vi .i64 (.z (-1)))])
         (
          .next [(.v 5), (.bin .add .i64 (.v 3) (.z 1))]))
       (
        .esc <|
        .done [(.vi .i64 (.v 2))]))
/-- laws_toIntS -/
def R_laws_toIntS : R :=
  .i (.chk (.cmp .le (.z 0) (.len (.v 0)))) <|
  .i (.chk (.cmp .le (.len (.v 0)) (.z 8796093022208))) <|
  .loop 1 [(.rep (.len (.v 0)) (.vi .i64 (.z 0))), (.z 0)] <|
    .ite (.cmp .lt (.v 2) (.len (.v 0)))
     (
      .i (.idx (.v 0) (.v 2) (.one (.i .i64)) 3) <|
      .i (.chk (.cmp .le (.z 0) (.v 2))) <|
      .i (.chk (.cmp .lt (.v 2) (.len (.v 1)))) <|
      .i (.idx (.v 1) (.v 2) (.one (.i .i64)) 4) <|
      .next [(.set (.v 1) (.v 2) (.vi .i64 (.v 3))), (.bin .add .i64 (.v 2) (.z 1))])
     (
      .esc <|
      .done [(.s (.v 1))])
/-- laws_toFrmForm -/
def R_laws_toFrmForm : R :=
  .i (.call f_laws_toIntS [(.s (.v 0))] [.s] 3) <|
  .i (.call f_laws_toIntS [(.s (.v 1))] [.s] 4) <|
  .done [(.s (.v 3)), (.s (.v 4)), (.vi .i64 (.v 2))]
/-- laws_toActLine -/
def R_laws_toActLine : R :=
  .i (.call f_laws_toFrmForm [(.s (.v 3)), (.s (.v 4)), (.vi .i64 (.v 5))] [.s, .s, .i .i64] 6) <|
  .done [(.vi .i64 (.v 0)), (.vi .i64 (.v 1)), (.vi .i64 (.v 2)), (.s (.v 6)), (.s (.v 7)), (.vi .i64 (.v 8))]
/-- laws_toActLineS -/
def R_laws_toActLineS : R :=
  .i (.chk (.cmp .le (.z 0) (.len (.v 0)))) <|
  .i (.chk (.cmp .le (.len (.v 0)) (.z 879609302220))) <|
  .loop 1 [(.rep (.len (.v 0)) (.g (.cons (.vi .i64 (.z 0)) (.cons (.vi .i64 (.z 0)) (.cons (.vi .i64 (.z 0)) (.cons (.s .nil) (.cons (.s .nil) (.cons (.vi .i64 (.z 0)) .nil)))))))), (.z 0)] <|
    .ite (.cmp .lt (.v 2) (.len (.v 0)))
     (
      .i (.idx (.v 0) (.v 2) (.g [.i .i64, .i .i64, .i .i64, .s, .s, .i .i64]) 3) <|
      .i (.call f_laws_toActLine [(.vi .i64 (.v 3)), (.vi .i64 (.v 4)), (.vi .i64 (.v 5)), (.s (.v 6)), (.s (.v 7)), (.vi .i64 (.v 8))] [.i .i64, .i .i64, .i .i64, .s, .s, .i .i64] 9) <|
      .i (.chk (.cmp .le (.z 0) (.v 2))) <|
      .i (.chk (.cmp .lt (.v 2) (.len (.v 1)))) <|
      .i (.idx (.v 1) (.v 2) (.g [.i .i64, .i .i64, .i .i64, .s, .s, .i .i64]) 15) <|
      .next [(.set (.v 1) (.v 2) (.g (.cons (.vi .i64 (.v 9)) (.cons (.vi .i64 (.v 10)) (.cons (.vi .i64 (.v 11)) (.cons (.s (.v 12)) (.cons (.s (.v 13)) (.cons (.vi .i64 (.v 14)) .nil)))))))), (.bin .add .i64 (.v 2) (.z 1))])
     (
      .esc <|
      .done [(.s (.v 1))])
/-- laws_toActLineSS -/
def R_laws_toActLineSS : R :=
  .i (.chk (.cmp .le (.z 0) (.len (.v 0)))) <|
  .i (.chk (.cmp .le (.len (.v 0)) (.z 2932031007402))) <|
  .loop 1 [(.rep (.len (.v 0)) (.s .nil)), (.z 0)] <|
    .ite (.cmp .lt (.v 2) (.len (.v 0)))
     (
      .i (.idx (.v 0) (.v 2) (.one (.s)) 3) <|
      .i (.call f_laws_toActLineS [(.s (.v 3))] [.s] 4) <|
      .i (.chk (.cmp .le (.z 0) (.v 2))) <|
      .i (.chk (.cmp .lt (.v 2) (.len (.v 1)))) <|
      .i (.idx (.v 1) (.v 2) (.one (.s)) 5) <|
      .next [(.set (.v 1) (.v 2) (.s (.v 4))), (.bin .add .i64 (.v 2) (.z 1))])
     (
      .esc <|
      .done [(.s (.v 1))])
/-- spec_l1In -/
def R_spec_l1In : R :=
  .ite (.cmp .le (.v 1) (.v 0))
   (
    .done [(.vb (.cmp .le (.v 0) (.v 2)))])
   (
    .done [(.vb .ff)])
/-- spec_l1All -/
def R_spec_l1All : R :=
  .ite (.not (.cmp .eq (.len (.v 0)) (.v 1)))
   (
    .done [(.vb .ff)])
   (
    .loop 3 [(.z 0)] <|
      .ite (.cmp .lt (.v 3) (.len (.v 0)))
       (
        .i (.idx (.v 0) (.v 3) (.one (.i .i64)) 4) <|
        .i (.call f_spec_l1In [(.vi .i64 (.v 4)), (.vi .i64 (.bin .sub .i64 (.z 0) (.v 2))), (.vi .i64 (.v 2))] [.b] 5) <|
        .ite (.not (.v 5))
         (
          .esc <|
          .done [(.vb .ff)])
         (
          .next [(.bin .add .i64 (.v 3) (.z 1))]))
       (
        .esc <|
        .done [(.vb .tt)]))
/-- spec_l2Small -/
def R_spec_l2Small : R :=
  .i (.call f_spec_l1All [(.s (.v 0)), (.vi .i64 (.z 3)), (.vi .i64 (.z 2))] [.b] 3) <|
  .ite (.v 3)
   (
    .i (.call f_spec_l1All [(.s (.v 1)), (.vi .i64 (.z 2)), (.vi .i64 (.z 2))] [.b] 4) <|
    .ite (.v 4)
     (
      .i (.call f_spec_l1In [(.vi .i64 (.v 2)), (.vi .i64 (.z (-20))), (.vi .i64 (.z 20))] [.b] 5) <|
      .done [(.vb (.v 5))])
     (
      .done [(.vb .ff)]))
   (
    .done [(.vb .ff)])
/-- spec_l2Line -/
def R_spec_l2Line : R :=
  .ite (.cmp .eq (.v 0) (.z 1))
   (
    .ite (.cmp .eq (.v 1) (.z 0))
     (
      .i (.call f_spec_l1In [(.vi .i64 (.v 2)), (.vi .i64 (.z 1)), (.vi .i64 (.z 6))] [.b] 6) <|
      .ite (.v 6)
       (
        .i (.call f_spec_l2Small [(.s (.v 3)), (.s (.v 4)), (.vi .i64 (.v 5))] [.b] 7) <|
        .done [(.vb (.v 7))])
       (
        .done [(.vb .ff)]))
     (
      .done [(.vb .ff)]))
   (
    .ite (.cmp .eq (.v 0) (.z 2))
     (
      .i (.call f_spec_l1In [(.vi .i64 (.v 1)), (.vi .i64 (.z 0)), (.vi .i64 (.z 2))] [.b] 6) <|
      .ite (.v 6)
       (
        .ite (.cmp .eq (.v 2) (.z 0))
         (
          .i (.call f_spec_l2Small [(.s (.v 3)), (.s (.v 4)), (.vi .i64 (.v 5))] [.b] 7) <|
          .done [(.vb (.v 7))])
         (
          .done [(.vb .ff)]))
       (
        .done [(.vb .ff)]))
     (
      .ite (.cmp .eq (.v 0) (.z 3))
       (
        .ite (.cmp .eq (.v 1) (.z 0))
         (
          .ite (.cmp .eq (.v 2) (.z 0))
           (
            .i (.call f_spec_l2Small [(.s (.v 3)), (.s (.v 4)), (.vi .i64 (.v 5))] [.b] 6) <|
            .done [(.vb (.v 6))])
           (
            .done [(.vb .ff)]))
         (
          .done [(.vb .ff)]))
       (
        .ite (.cmp .eq (.v 0) (.z 4))
         (
          .ite (.cmp .eq (.v 1) (.z 0))
           (
            .ite (.cmp .eq (.v 2) (.z 0))
             (
              .ite (.cmp .eq (.bin .add .i64 (.len (.v 3)) (.len (.v 4))) (.z 0))
               (
                .done [(.vb (.cmp .eq (.v 5) (.z 0)))])
               (
                .done [(.vb .ff)]))
             (
              .done [(.vb .ff)]))
           (
            .done [(.vb .ff)]))
         (
          .done [(.vb .ff)]))))
/-- spec_ActOk -/
def R_spec_ActOk : R :=
  .loop 1 [(.z 0), (.z 0)] <|
    .ite (.cmp .lt (.v 2) (.len (.v 0)))
     (
      .i (.idx (.v 0) (.v 2) (.g [.i .i64, .i .i64, .i .i64, .s, .s, .i .i64]) 3) <|
      .i (.call f_spec_l2Line [(.vi .i64 (.v 3)), (.vi .i64 (.v 4)), (.vi .i64 (.v 5)), (.s (.v 6)), (.s (.v 7)), (.vi .i64 (.v 8))] [.b] 9) <|
      .ite (.not (.v 9))
       (
        .esc <|
        .done [(.vb .ff)])
       (
        .i (.idx (.v 0) (.v 2) (.g [.i .i64, .i .i64, .i .i64, .s, .s, .i .i64]) 10) <|
        .ite (.cmp .eq (.v 10) (.z 1))
         (
          .next [(.bin .add .i64 (.v 1) (.z 1)), (.bin .add .i64 (.v 2) (.z 1))])
         (
          .next [(.v 1), (.bin .add .i64 (.v 2) (.z 1))])))
     (
      .esc <|
      .ite (.cmp .le (.len (.v 0)) (.z 6))
       (
        .done [(.vb (.cmp .le (.v 1) (.z 3)))])
       (
        .done [(.vb .ff)]))
/-- spec_CatOk -/
def R_spec_CatOk : R :=
  .i (.call f_spec_l1In [(.vi .i64 (.len (.v 0))), (.vi .i64 (.z 1)), (.vi .i64 (.z 4))] [.b] 1) <|
  .ite (.not (.v 1))
   (
    .done [(.vb .ff)])
   (
    .loop 2 [(.z 0)] <|
      .ite (.cmp .lt (.v 2) (.len (.v 0)))
       (
        .i (.idx (.v 0) (.v 2) (.one (.s)) 3) <|
        .i (.call f_spec_ActOk [(.s (.v 3))] [.b] 4) <|
        .ite (.not (.v 4))
         (
          .esc <|
          .done [(.vb .ff)])
         (
          .next [(.bin .add .i64 (.v 2) (.z 1))]))
       (
        .esc <|
        .done [(.vb .tt)]))
/-- spec_FrmZero -/
def R_spec_FrmZero : R :=
  .done [(.s (.cons (.vi .i64 (.z 0)) (.cons (.vi .i64 (.z 0)) (.cons (.vi .i64 (.z 0)) .nil)))), (.s (.cons (.vi .i64 (.z 0)) (.cons (.vi .i64 (.z 0)) .nil))), (.vi .i64 (.z 0))]
/-- spec_FrmPot -/
def R_spec_FrmPot : R :=
  .i (.call f_spec_l1In [(.vi .i64 (.v 0)), (.vi .i64 (.z 0)), (.vi .i64 (.z 2))] [.b] 1) <|
  .ite (.not (.v 1))
   (
    .done [(.s .nil), (.s .nil), (.vi .i64 (.z 0))])
   (
    .i (.call f_spec_FrmZero [] [.s, .s, .i .i64] 2) <|
    .i (.chk (.cmp .le (.z 0) (.v 0))) <|
    .i (.chk (.cmp .lt (.v 0) (.len (.v 2)))) <|
    .i (.idx (.v 2) (.v 0) (.one (.i .i64)) 5) <|
    .done [(.s (.set (.v 2) (.v 0) (.vi .i64 (.z 1)))), (.s (.v 3)), (.vi .i64 (.v 4))])
/-- spec_l1Sum -/
def R_spec_l1Sum : R :=
  .i (.call f_spec_FrmZero [] [.s, .s, .i .i64] 7) <|
  .loop 10 [(.v 7), (.z 0)] <|
    .ite (.cmp .lt (.v 11) (.z 3))
     (
      .i (.idx (.v 0) (.v 11) (.one (.i .i64)) 12) <|
      .i (.idx (.v 3) (.v 11) (.one (.i .i64)) 13) <|
      .i (.chk (.cmp .le (.z 0) (.v 11))) <|
      .i (.chk (.cmp .lt (.v 11) (.len (.v 10)))) <|
      .i (.idx (.v 10) (.v 11) (.one (.i .i64)) 14) <|
      .next [(.set (.v 10) (.v 11) (.vi .i64 (.bin .add .i64 (.v 12) (.bin .mul .i64 (.v 6) (.v 13))))), (.bin .add .i64 (.v 11) (.z 1))])
     (
      .esc <|
      .loop 12 [(.v 8), (.z 0)] <|
        .ite (.cmp .lt (.v 13) (.z 2))
         (
          .i (.idx (.v 1) (.v 13) (.one (.i .i64)) 14) <|
          .i (.idx (.v 4) (.v 13) (.one (.i .i64)) 15) <|
          .i (.chk (.cmp .le (.z 0) (.v 13))) <|
          .i (.chk (.cmp .lt (.v 13) (.len (.v 12)))) <|
          .i (.idx (.v 12) (.v 13) (.one (.i .i64)) 16) <|
          .next [(.set (.v 12) (.v 13) (.vi .i64 (.bin .add .i64 (.v 14) (.bin .mul .i64 (.v 6) (.v 15))))), (.bin .add .i64 (.v 13) (.z 1))])
         (
          .esc <|
          .done [(.s (.v 10)), (.s (.v 12)), (.vi .i64 (.bin .add .i64 (.v 2) (.bin .mul .i64 (.v 6) (.v 5))))]))
/-- spec_l3Copy -/
def R_spec_l3Copy : R :=
  .loop 1 [.nil, (.z 0)] <|
    .ite (.cmp .lt (.v 2) (.len (.v 0)))
     (
      .i (.call f_spec_FrmZero [] [.s, .s, .i .i64] 3) <|
      .i (.idx (.v 0) (.v 2) (.g [.s, .s, .i .i64]) 6) <|
      .i (.call f_spec_l1Sum [(.s (.v 3)), (.s (.v 4)), (.vi .i64 (.v 5)), (.s (.v 6)), (.s (.v 7)), (.vi .i64 (.v 8)), (.vi .i64 (.z 1))] [.s, .s, .i .i64] 9) <|
      .i (.chk (.cmp .le (.len (.app (.v 1) (.cons (.g (.cons (.s (.v 9)) (.cons (.s (.v 10)) (.cons (.vi .i64 (.v 11)) .nil)))) .nil))) (.z 1256584717458))) <|
      .next [(.app (.v 1) (.cons (.g (.cons (.s (.v 9)) (.cons (.s (.v 10)) (.cons (.vi .i64 (.v 11)) .nil)))) .nil)), (.bin .add .i64 (.v 2) (.z 1))])
     (
      .esc <|
      .done [(.s (.v 1))])
/-- spec_FrmOk -/
def R_spec_FrmOk : R :=
  .i (.call f_spec_l1All [(.s (.v 0)), (.vi .i64 (.z 3)), (.vi .i64 (.z 10000000))] [.b] 3) <|
  .ite (.v 3)
   (
    .i (.call f_spec_l1All [(.s (.v 1)), (.vi .i64 (.z 2)), (.vi .i64 (.z 10000000))] [.b] 4) <|
    .ite (.v 4)
     (
      .i (.call f_spec_l1In [(.vi .i64 (.v 2)), (.vi .i64 (.z (-10000000))), (.vi .i64 (.z 10000000))] [.b] 5) <|
      .done [(.vb (.v 5))])
     (
      .done [(.vb .ff)]))
   (
    .done [(.vb .ff)])
/-- spec_FrmInto -/
def R_spec_FrmInto : R :=
  .i (.call f_spec_FrmOk [(.s (.v 0)), (.s (.v 1)), (.vi .i64 (.v 2))] [.b] 4) <|
  .ite (.not (.v 4))
   (
    .done [(.s .nil), (.s .nil), (.vi .i64 (.z 0))])
   (
    .ite (.not (.cmp .eq (.len (.v 3)) (.z 3)))
     (
      .done [(.s .nil), (.s .nil), (.vi .i64 (.z 0))])
     (
      .i (.idx (.v 3) (.z 0) (.g [.s, .s, .i .i64]) 5) <|
      .i (.call f_spec_FrmOk [(.s (.v 5)), (.s (.v 6)), (.vi .i64 (.v 7))] [.b] 8) <|
      .ite (.not (.v 8))
       (
        .done [(.s .nil), (.s .nil), (.vi .i64 (.z 0))])
       (
        .i (.idx (.v 3) (.z 1) (.g [.s, .s, .i .i64]) 9) <|
        .i (.call f_spec_FrmOk [(.s (.v 9)), (.s (.v 10)), (.vi .i64 (.v 11))] [.b] 12) <|
        .ite (.not (.v 12))
         (
          .done [(.s .nil), (.s .nil), (.vi .i64 (.z 0))])
         (
          .i (.idx (.v 3) (.z 2) (.g [.s, .s, .i .i64]) 13) <|
          .i (.call f_spec_FrmOk [(.s (.v 13)), (.s (.v 14)), (.vi .i64 (.v 15))] [.b] 16) <|
          .ite (.not (.v 16))
           (
            .done [(.s .nil), (.s .nil), (.vi .i64 (.z 0))])
           (
            .i (.chk (.cmp .le (.len (.v 1)) (.z 8796093022208))) <|
            .i (.head 1 (.v 1)) <|
            .i (.chk (.cmp .le (.len (.app .nil (.v 1))) (.z 8796093022208))) <|
            .loop 17 [(.cons (.vi .i64 (.z 0)) (.cons (.vi .i64 (.z 0)) (.cons (.vi .i64 (.z 0)) .nil))), (.app .nil (.v 1)), (.z 0), (.v 2)] <|
              .ite (.cmp .lt (.v 19) (.z 3))
               (
                .i (.idx (.v 3) (.v 19) (.g [.s, .s, .i .i64]) 21) <|
                .i (.idx (.v 0) (.v 19) (.one (.i .i64)) 24) <|
                .i (.call f_spec_l1Sum [(.s (.v 17)), (.s (.v 18)), (.vi .i64 (.v 20)), (.s (.v 21)), (.s (.v 22)), (.vi .i64 (.v 23)), (.vi .i64 (.v 24))] [.s, .s, .i .i64] 25) <|
                .next [(.v 25), (.v 26), (.bin .add .i64 (.v 19) (.z 1)), (.v 27)])
               (
                .esc <|
                .i (.call f_spec_FrmOk [(.s (.v 17)), (.s (.v 18)), (.vi .i64 (.v 20))] [.b] 21) <|
                .ite (.not (.v 21))
                 (
                  .done [(.s .nil), (.s .nil), (.vi .i64 (.z 0))])
                 (
                  .done [(.s (.v 17)), (.s (.v 18)), (.vi .i64 (.v 20))])))))))
/-- spec_l3Minus -/
def R_spec_l3Minus : R :=
  .i (.call f_spec_FrmZero [] [.s, .s, .i .i64] 3) <|
  .i (.call f_spec_l1Sum [(.s (.v 3)), (.s (.v 4)), (.vi .i64 (.v 5)), (.s (.v 0)), (.s (.v 1)), (.vi .i64 (.v 2)), (.vi .i64 (.z (-1)))] [.s, .s, .i .i64] 6) <|
  .done [(.s (.v 6)), (.s (.v 7)), (.vi .i64 (.bin .sub .i64 (.v 8) (.z 1)))]
/-- spec_l3Row -/
def R_spec_l3Row : R :=
  .i (.call f_spec_l3Copy [(.s (.v 1))] [.s] 3) <|
  .i (.call f_spec_l3Copy [(.s (.v 2))] [.s] 4) <|
  .loop 5 [.nil, (.z 0)] <|
    .ite (.cmp .lt (.v 6) (.z 3))
     (
      .i (.idx (.v 0) (.v 6) (.g [.s, .s, .i .i64]) 7) <|
      .i (.call f_spec_FrmPot [(.vi .i64 (.v 6))] [.s, .s, .i .i64] 10) <|
      .i (.call f_spec_l1Sum [(.s (.v 7)), (.s (.v 8)), (.vi .i64 (.v 9)), (.s (.v 10)), (.s (.v 11)), (.vi .i64 (.v 12)), (.vi .i64 (.z (-1)))] [.s, .s, .i .i64] 13) <|
      .i (.chk (.cmp .le (.len (.app (.v 5) (.cons (.g (.cons (.s (.v 13)) (.cons (.s (.v 14)) (.cons (.vi .i64 (.v 15)) .nil)))) .nil))) (.z 1256584717458))) <|
      .next [(.app (.v 5) (.cons (.g (.cons (.s (.v 13)) (.cons (.s (.v 14)) (.cons (.vi .i64 (.v 15)) .nil)))) .nil)), (.bin .add .i64 (.v 6) (.z 1))])
     (
      .esc <|
      .done [(.s (.v 3)), (.s (.v 5)), (.s (.v 4)), (.vb .ff)])
/-- spec_l3Walk -/
def R_spec_l3Walk : R :=
  .loop 5 [(.v 2), (.v 4), (.v 1)] <|
    .ite (.cmp .lt (.v 7) (.len (.v 0)))
     (
      .i (.idx (.v 0) (.v 7) (.g [.i .i64, .i .i64, .i .i64, .s, .s, .i .i64]) 8) <|
      .ite (.cmp .eq (.v 8) (.z 4))
       (
        .i (.call f_spec_l3Copy [(.s (.v 3))] [.s] 14) <|
        .esc <|
        .done [(.s (.cons (.g (.cons (.s (.v 14)) (.cons (.s .nil) (.cons (.s .nil) (.cons (.vb .tt) .nil))))) .nil))])
       (
        .i (.call f_spec_FrmInto [(.s (.v 11)), (.s (.v 12)), (.vi .i64 (.v 13)), (.s (.v 5))] [.s, .s, .i .i64] 14) <|
        .ite (.cmp .eq (.v 8) (.z 1))
         (
          .i (.call f_spec_l3Copy [(.s (.v 5))] [.s] 17) <|
          .i (.call f_spec_l3Copy [(.s (.v 3))] [.s] 18) <|
          .i (.chk (.cmp .le (.len (.app (.v 18) (.cons (.g (.cons (.s (.v 14)) (.cons (.s (.v 15)) (.cons (.vi .i64 (.v 16)) .nil)))) .nil))) (.z 1256584717458))) <|
          .i (.call f_spec_l3Copy [(.s (.v 6))] [.s] 19) <|
          .i (.call f_spec_l3Walk [(.s (.v 0)), (.vi .i64 (.bin .add .i64 (.v 7) (.z 1))), (.s (.v 17)), (.s (.app (.v 18) (.cons (.g (.cons (.s (.v 14)) (.cons (.s (.v 15)) (.cons (.vi .i64 (.v 16)) .nil)))) .nil))), (.s (.v 19))] [.s] 20) <|
          .i (.call f_spec_l3Copy [(.s (.v 5))] [.s] 21) <|
          .i (.call f_spec_l3Copy [(.s (.v 3))] [.s] 22) <|
          .i (.call f_spec_l3Minus [(.s (.v 14)), (.s (.v 15)), (.vi .i64 (.v 16))] [.s, .s, .i .i64] 23) <|
          .i (.chk (.cmp .le (.len (.app (.v 22) (.cons (.g (.cons (.s (.v 23)) (.cons (.s (.v 24)) (.cons (.vi .i64 (.v 25)) .nil)))) .nil))) (.z 1256584717458))) <|
          .i (.call f_spec_l3Copy [(.s (.v 6))] [.s] 26) <|
          .i (.call f_spec_l3Walk [(.s (.v 0)), (.vi .i64 (.bin .add .i64 (.bin .add .i64 (.v 7) (.z 1)) (.v 10))), (.s (.v 21)), (.s (.app (.v 22) (.cons (.g (.cons (.s (.v 23)) (.cons (.s (.v 24)) (.cons (.vi .i64 (.v 25)) .nil)))) .nil))), (.s (.v 26))] [.s] 27) <|
          .i (.chk (.cmp .le (.len (.v 27)) (.z 879609302220))) <|
          .i (.head 4 (.v 27)) <|
          .i (.chk (.cmp .le (.len (.app (.v 20) (.v 27))) (.z 879609302220))) <|
          .esc <|
          .done [(.s (.app (.v 20) (.v 27)))])
         (
          .ite (.cmp .eq (.v 8) (.z 2))
           (
            .i (.call f_spec_l3Copy [(.s (.v 5))] [.s] 17) <|
            .i (.chk (.cmp .le (.z 0) (.v 9))) <|
            .i (.chk (.cmp .lt (.v 9) (.len (.v 17)))) <|
            .i (.idx (.v 17) (.v 9) (.g [.s, .s, .i .i64]) 18) <|
            .i (.call f_spec_l1Sum [(.s (.v 18)), (.s (.v 19)), (.vi .i64 (.v 20)), (.s (.v 14)), (.s (.v 15)), (.vi .i64 (.v 16)), (.vi .i64 (.z 1))] [.s, .s, .i .i64] 21) <|
            .i (.chk (.cmp .le (.z 0) (.v 9))) <|
            .i (.chk (.cmp .lt (.v 9) (.len (.v 17)))) <|
            .i (.idx (.v 17) (.v 9) (.g [.s, .s, .i .i64]) 24) <|
            .next [(.set (.v 17) (.v 9) (.g (.cons (.s (.v 21)) (.cons (.s (.v 22)) (.cons (.vi .i64 (.v 23)) .nil))))), (.v 6), (.bin .add .i64 (.v 7) (.z 1))])
           (
            .i (.call f_spec_l3Copy [(.s (.v 6))] [.s] 17) <|
            .i (.chk (.cmp .le (.len (.app (.v 17) (.cons (.g (.cons (.s (.v 14)) (.cons (.s (.v 15)) (.cons (.vi .i64 (.v 16)) .nil)))) .nil))) (.z 1256584717458))) <|
            .next [(.v 5), (.app (.v 17) (.cons (.g (.cons (.s (.v 14)) (.cons (.s (.v 15)) (.cons (.vi .i64 (.v 16)) .nil)))) .nil)), (.bin .add .i64 (.v 7) (.z 1))]))))
     (
      .esc <|
      .i (.call f_spec_l3Row [(.s (.v 5)), (.s (.v 3)), (.s (.v 6))] [.s, .s, .s, .b] 8) <|
      .done [(.s (.cons (.g (.cons (.s (.v 8)) (.cons (.s (.v 9)) (.cons (.s (.v 10)) (.cons (.vb (.v 11)) .nil))))) .nil))])
/-- spec_RowsOf -/
def R_spec_RowsOf : R :=
  .i (.call f_spec_ActOk [(.s (.v 0))] [.b] 1) <|
  .ite (.not (.v 1))
   (
    .done [(.s .nil)])
   (
    .i (.call f_spec_FrmPot [(.vi .i64 (.z 0))] [.s, .s, .i .i64] 2) <|
    .i (.call f_spec_FrmPot [(.vi .i64 (.z 1))] [.s, .s, .i .i64] 5) <|
    .i (.call f_spec_FrmPot [(.vi .i64 (.z 2))] [.s, .s, .i .i64] 8) <|
    .i (.call f_spec_l3Walk [(.s (.v 0)), (.vi .i64 (.z 0)), (.s (.cons (.g (.cons (.s (.v 2)) (.cons (.s (.v 3)) (.cons (.vi .i64 (.v 4)) .nil)))) (.cons (.g (.cons (.s (.v 5)) (.cons (.s (.v 6)) (.cons (.vi .i64 (.v 7)) .nil)))) (.cons (.g (.cons (.s (.v 8)) (.cons (.s (.v 9)) (.cons (.vi .i64 (.v 10)) .nil)))) .nil)))), (.s .nil), (.s .nil)] [.s] 11) <|
    .done [(.s (.v 11))])
/-- spec_l4Reads -/
def R_spec_l4Reads : R :=
  .i (.chk (.cmp .le (.len (.v 0)) (.z 70368744177664))) <|
  .i (.head 1 (.v 0)) <|
  .i (.chk (.cmp .le (.len (.app .nil (.v 0))) (.z 70368744177664))) <|
  .loop 2 [(.app .nil (.v 0)), (.z 0)] <|
    .ite (.cmp .lt (.v 3) (.len (.v 1)))
     (
      .loop 4 [(.v 2), (.z 0)] <|
        .ite (.cmp .lt (.v 5) (.z 3))
         (
          .i (.idx (.v 1) (.v 3) (.g [.s, .s, .i .i64]) 6) <|
          .i (.idx (.v 6) (.v 5) (.one (.i .i64)) 9) <|
          .ite (.not (.cmp .eq (.v 9) (.z 0)))
           (
            .i (.chk (.cmp .le (.z 0) (.v 5))) <|
            .i (.chk (.cmp .lt (.v 5) (.len (.v 4)))) <|
            .i (.idx (.v 4) (.v 5) (.one (.b)) 10) <|
            .next [(.set (.v 4) (.v 5) (.vb .tt)), (.bin .add .i64 (.v 5) (.z 1))])
           (
            .next [(.v 4), (.bin .add .i64 (.v 5) (.z 1))]))
         (
          .esc <|
          .next [(.v 4), (.bin .add .i64 (.v 3) (.z 1))]))
     (
      .esc <|
      .done [(.s (.v 2))])
/-- spec_CatPart -/
def R_spec_CatPart : R :=
  .loop 3 [.nil, (.z 0), (.z 0)] <|
    .ite (.cmp .lt (.v 5) (.len (.v 0)))
     (
      .ite (.cmp .eq (.v 4) (.z 0))
       (
        .i (.idx (.v 0) (.v 5) (.one (.i .i64)) 6) <|
        .ite (.cmp .lt (.z 0) (.v 6))
         (
          .i (.idx (.v 0) (.v 5) (.one (.i .i64)) 7) <|
          .i (.chk (.cmp .le (.len (.app (.v 3) (.cons (.vi .i64 (.bin .mul .i64 (.z 1) (.v 7))) .nil))) (.z 8796093022208))) <|
          .next [(.app (.v 3) (.cons (.vi .i64 (.bin .mul .i64 (.z 1) (.v 7))) .nil)), (.z 1), (.bin .add .i64 (.v 5) (.z 1))])
         (
          .ite (.cmp .eq (.v 4) (.z 0))
           (
            .i (.idx (.v 0) (.v 5) (.one (.i .i64)) 7) <|
            .ite (.cmp .lt (.v 7) (.z 0))
             (
              .i (.idx (.v 0) (.v 5) (.one (.i .i64)) 8) <|
              .i (.chk (.cmp .le (.len (.app (.v 3) (.cons (.vi .i64 (.bin .mul .i64 (.z (-1)) (.v 8))) .nil))) (.z 8796093022208))) <|
              .next [(.app (.v 3) (.cons (.vi .i64 (.bin .mul .i64 (.z (-1)) (.v 8))) .nil)), (.z (-1)), (.bin .add .i64 (.v 5) (.z 1))])
             (
              .i (.idx (.v 0) (.v 5) (.one (.i .i64)) 8) <|
              .i (.chk (.cmp .le (.len (.app (.v 3) (.cons (.vi .i64 (.bin .mul .i64 (.v 4) (.v 8))) .nil))) (.z 8796093022208))) <|
              .next [(.app (.v 3) (.cons (.vi .i64 (.bin .mul .i64 (.v 4) (.v 8))) .nil)), (.v 4), (.bin .add .i64 (.v 5) (.z 1))]))
           (
            .i (.idx (.v 0) (.v 5) (.one (.i .i64)) 7) <|
            .i (.chk (.cmp .le (.len (.app (.v 3) (.cons (.vi .i64 (.bin .mul .i64 (.v 4) (.v 7))) .nil))) (.z 8796093022208))) <|
            .next [(.app (.v 3) (.cons (.vi .i64 (.bin .mul .i64 (.v 4) (.v 7))) .nil)), (.v 4), (.bin .add .i64 (.v 5) (.z 1))])))
       (
        .ite (.cmp .eq (.v 4) (.z 0))
         (
          .i (.idx (.v 0) (.v 5) (.one (.i .i64)) 6) <|
          .ite (.cmp .lt (.v 6) (.z 0))
           (
            .i (.idx (.v 0) (.v 5) (.one (.i .i64)) 7) <|
            .i (.chk (.cmp .le (.len (.app (.v 3) (.cons (.vi .i64 (.bin .mul .i64 (.z (-1)) (.v 7))) .nil))) (.z 8796093022208))) <|
            .next [(.app (.v 3) (.cons (.vi .i64 (.bin .mul .i64 (.z (-1)) (.v 7))) .nil)), (.z (-1)), (.bin .add .i64 (.v 5) (.z 1))])
           (
            .i (.idx (.v 0) (.v 5) (.one (.i .i64)) 7) <|
            .i (.chk (.cmp .le (.len (.app (.v 3) (.cons (.vi .i64 (.bin .mul .i64 (.v 4) (.v 7))) .nil))) (.z 8796093022208))) <|
            .next [(.app (.v 3) (.cons (.vi .i64 (.bin .mul .i64 (.v 4) (.v 7))) .nil)), (.v 4), (.bin .add .i64 (.v 5) (.z 1))]))
         (
          .i (.idx (.v 0) (.v 5) (.one (.i .i64)) 6) <|
          .i (.chk (.cmp .le (.len (.app (.v 3) (.cons (.vi .i64 (.bin .mul .i64 (.v 4) (.v 6))) .nil))) (.z 8796093022208))) <|
          .next [(.app (.v 3) (.cons (.vi .i64 (.bin .mul .i64 (.v 4) (.v 6))) .nil)), (.v 4), (.bin .add .i64 (.v 5) (.z 1))])))
     (
      .esc <|
      .done [(.s (.v 3))])
/-- spec_l4Same -/
def R_spec_l4Same : R :=
  .ite (.not (.cmp .eq (.len (.v 0)) (.len (.v 1))))
   (
    .done [(.vb .ff)])
   (
    .loop 2 [(.z 0)] <|
      .ite (.cmp .lt (.v 2) (.len (.v 0)))
       (
        .i (.idx (.v 0) (.v 2) (.one (.i .i64)) 3) <|
        .i (.idx (.v 1) (.v 2) (.one (.i .i64)) 4) <|
        .ite (.not (.cmp .eq (.v 3) (.v 4)))
         (
          .esc <|
          .done [(.vb .ff)])
         (
          .next [(.bin .add .i64 (.v 2) (.z 1))]))
       (
        .esc <|
        .done [(.vb .tt)]))
/-- spec_CatHas -/
def R_spec_CatHas : R :=
  .loop 2 [(.z 0)] <|
    .ite (.cmp .lt (.v 2) (.len (.v 0)))
     (
      .i (.idx (.v 0) (.v 2) (.one (.s)) 3) <|
      .i (.call f_spec_l4Same [(.s (.v 3)), (.s (.v 1))] [.b] 4) <|
      .ite (.v 4)
       (
        .esc <|
        .done [(.vi .i64 (.v 2))])
       (
        .next [(.bin .add .i64 (.v 2) (.z 1))]))
     (
      .esc <|
      .done [(.vi .i64 (.z (-1)))])
/-- spec_l4Both -/
def R_spec_l4Both : R :=
  .loop 1 [.nil, (.z 0)] <|
    .ite (.cmp .lt (.v 2) (.z 3))
     (
      .i (.call f_spec_FrmPot [(.vi .i64 (.v 2))] [.s, .s, .i .i64] 3) <|
      .i (.chk (.cmp .le (.len (.app (.v 1) (.cons (.s (.v 3)) .nil))) (.z 2932031007402))) <|
      .next [(.app (.v 1) (.cons (.s (.v 3)) .nil)), (.bin .add .i64 (.v 2) (.z 1))])
     (
      .esc <|
      .loop 3 [(.v 1), (.cons (.vb .ff) (.cons (.vb .ff) (.cons (.vb .ff) .nil))), (.z 0)] <|
        .ite (.cmp .lt (.v 5) (.len (.v 0)))
         (
          .i (.idx (.v 0) (.v 5) (.one (.s)) 6) <|
          .i (.call f_spec_RowsOf [(.s (.v 6))] [.s] 7) <|
          .loop 8 [(.v 3), (.v 4), (.z 0)] <|
            .ite (.cmp .lt (.v 10) (.len (.v 7)))
             (
              .i (.chk (.cmp .le (.z 0) (.v 10))) <|
              .i (.chk (.cmp .lt (.v 10) (.len (.v 7)))) <|
              .i (.idx (.v 7) (.v 10) (.g [.s, .s, .s, .b]) 11) <|
              .i (.call f_spec_l4Reads [(.s (.v 9)), (.s (.v 12))] [.s] 15) <|
              .i (.chk (.cmp .le (.z 0) (.v 10))) <|
              .i (.chk (.cmp .lt (.v 10) (.len (.v 7)))) <|
              .i (.idx (.v 7) (.v 10) (.g [.s, .s, .s, .b]) 16) <|
              .i (.call f_spec_l4Reads [(.s (.v 15)), (.s (.v 18))] [.s] 20) <|
              .loop 21 [(.v 8), (.z 0)] <|
                .i (.chk (.cmp .le (.z 0) (.v 10))) <|
                .i (.chk (.cmp .lt (.v 10) (.len (.v 7)))) <|
                .i (.idx (.v 7) (.v 10) (.g [.s, .s, .s, .b]) 23) <|
                .ite (.cmp .lt (.v 22) (.len (.v 23)))
                 (
                  .i (.chk (.cmp .le (.z 0) (.v 10))) <|
                  .i (.chk (.cmp .lt (.v 10) (.len (.v 7)))) <|
                  .i (.idx (.v 7) (.v 10) (.g [.s, .s, .s, .b]) 27) <|
                  .i (.idx (.v 27) (.v 22) (.g [.s, .s, .i .i64]) 31) <|
                  .i (.call f_spec_CatPart [(.s (.v 31)), (.s (.v 32)), (.vi .i64 (.v 33))] [.s] 34) <|
                  .i (.call f_spec_CatHas [(.s (.v 21)), (.s (.v 34))] [.i .i64] 35) <|
                  .ite (.cmp .lt (.v 35) (.z 0))
                   (
                    .i (.call f_spec_FrmZero [] [.s, .s, .i .i64] 36) <|
                    .i (.call f_spec_l4Same [(.s (.v 34)), (.s (.v 36))] [.b] 39) <|
                    .ite (.not (.v 39))
                     (
                      .i (.chk (.cmp .le (.len (.app (.v 21) (.cons (.s (.v 34)) .nil))) (.z 2932031007402))) <|
                      .next [(.app (.v 21) (.cons (.s (.v 34)) .nil)), (.bin .add .i64 (.v 22) (.z 1))])
                     (
                      .next [(.v 21), (.bin .add .i64 (.v 22) (.z 1))]))
                   (
                    .next [(.v 21), (.bin .add .i64 (.v 22) (.z 1))]))
                 (
                  .esc <|
                  .next [(.v 21), (.v 20), (.bin .add .i64 (.v 10) (.z 1))]))
             (
              .esc <|
              .next [(.v 8), (.v 9), (.bin .add .i64 (.v 5) (.z 1))]))
         (
          .esc <|
          .done [(.s (.v 3)), (.s (.v 4))]))
/-- spec_CatForms -/
def R_spec_CatForms : R :=
  .i (.call f_spec_CatOk [(.s (.v 0))] [.b] 1) <|
  .ite (.not (.v 1))
   (
    .done [(.s .nil)])
   (
    .i (.call f_spec_l4Both [(.s (.v 0))] [.s, .s] 2) <|
    .done [(.s (.v 2))])
/-- impl_in -/
def R_impl_in : R :=
  .ite (.cmp .le (.v 1) (.v 0))
   (
    .done [(.vb (.cmp .le (.v 0) (.v 2)))])
   (
    .done [(.vb .ff)])
/-- slices_IndexFunc_SSimpl_ActLine_Simpl_ActLine -/
def R_slices_IndexFunc_SSimpl_ActLine_Simpl_ActLine : R :=
  .loop 2 [(.z 0)] <|
    .ite (.cmp .lt (.v 2) (.len (.v 0)))
     (
      .i (.idx (.v 0) (.v 2) (.one (.s)) 3) <|
      .i (.callv (.da 1) [(.s (.v 3))] [none] [.b] 4) <|
      .ite (.v 4)
       (
        .esc <|
        .done [(.vi .i64 (.v 2))])
       (
        .next [(.bin .add .i64 (.v 2) (.z 1))]))
     (
      .esc <|
      .done [(.vi .i64 (.z (-1)))])
/-- slices_ContainsFunc_SSimpl_ActLine_Simpl_ActLine -/
def R_slices_ContainsFunc_SSimpl_ActLine_Simpl_ActLine : R :=
  .i (.call f_slices_IndexFunc_SSimpl_ActLine_Simpl_ActLine [(.s (.v 0)), (.da 1)] [.i .i64] 2) <|
  .done [(.vb (.cmp .le (.z 0) (.v 2)))]
/-- impl_within_1 -/
def R_impl_within_1 : R :=
  .i (.get (.da 1) (.q [.i .i64]) 2) <|
  .i (.get (.da 1) (.q [.i .i64]) 3) <|
  .i (.call f_impl_in [(.vi .i64 (.v 0)), (.vi .i64 (.bin .sub .i64 (.z 0) (.v 2))), (.vi .i64 (.v 3))] [.b] 4) <|
  .done [(.vb (.not (.v 4)))]
/-- slices_IndexFunc_Sint_int -/
def R_slices_IndexFunc_Sint_int : R :=
  .loop 2 [(.z 0)] <|
    .ite (.cmp .lt (.v 2) (.len (.v 0)))
     (
      .i (.idx (.v 0) (.v 2) (.one (.i .i64)) 3) <|
      .i (.callv (.da 1) [(.vi .i64 (.v 3))] [none] [.b] 4) <|
      .ite (.v 4)
       (
        .esc <|
        .done [(.vi .i64 (.v 2))])
       (
        .next [(.bin .add .i64 (.v 2) (.z 1))]))
     (
      .esc <|
      .done [(.vi .i64 (.z (-1)))])
/-- slices_ContainsFunc_Sint_int -/
def R_slices_ContainsFunc_Sint_int : R :=
  .i (.call f_slices_IndexFunc_Sint_int [(.s (.v 0)), (.da 1)] [.i .i64] 2) <|
  .done [(.vb (.cmp .le (.z 0) (.v 2)))]
/-- impl_within -/
def R_impl_within : R :=
  .ite (.cmp .eq (.len (.v 0)) (.v 1))
   (
    .i (.call f_slices_ContainsFunc_Sint_int [(.s (.v 0)), (.fn f_impl_within_1 (.cons (.q (.cons (.vi .i64 (.v 2)) .nil)) .nil))] [.b] 3) <|
    .done [(.vb (.not (.v 3)))])
   (
    .done [(.vb .ff)])
/-- impl_FrmForm_small -/
def R_impl_FrmForm_small : R :=
  .i (.call f_impl_within [(.s (.v 0)), (.vi .i64 (.z 3)), (.vi .i64 (.z 2))] [.b] 3) <|
  .ite (.v 3)
   (
    .i (.call f_impl_within [(.s (.v 1)), (.vi .i64 (.z 2)), (.vi .i64 (.z 2))] [.b] 4) <|
    .ite (.v 4)
     (
      .i (.call f_impl_in [(.vi .i64 (.v 2)), (.vi .i64 (.z (-20))), (.vi .i64 (.z 20))] [.b] 5) <|
      .done [(.vb (.v 5))])
     (
      .done [(.vb .ff)]))
   (
    .done [(.vb .ff)])
/-- slices_Equal_Sint_int -/
def R_slices_Equal_Sint_int : R :=
  .ite (.not (.cmp .eq (.len (.v 0)) (.len (.v 1))))
   (
    .done [(.vb .ff)])
   (
    .loop 2 [(.z 0)] <|
      .ite (.cmp .lt (.v 2) (.len (.v 0)))
       (
        .i (.idx (.v 0) (.v 2) (.one (.i .i64)) 3) <|
        .i (.idx (.v 1) (.v 2) (.one (.i .i64)) 4) <|
        .ite (.not (.cmp .eq (.v 3) (.v 4)))
         (
          .esc <|
          .done [(.vb .ff)])
         (
          .next [(.bin .add .i64 (.v 2) (.z 1))]))
       (
        .esc <|
        .done [(.vb .tt)]))
/-- impl_FrmForm_same -/
def R_impl_FrmForm_same : R :=
  .ite (.cmp .eq (.v 2) (.v 5))
   (
    .i (.call f_slices_Equal_Sint_int [(.s (.v 0)), (.s (.v 3))] [.b] 6) <|
    .ite (.v 6)
     (
      .i (.call f_slices_Equal_Sint_int [(.s (.v 1)), (.s (.v 4))] [.b] 7) <|
      .done [(.vb (.v 7))])
     (
      .done [(.vb .ff)]))
   (
    .done [(.vb .ff)])
/-- impl_ActLine_ok -/
def R_impl_ActLine_ok : R :=
  .ite (.cmp .eq (.v 0) (.z 1))
   (
    .i (.call f_impl_in [(.vi .i64 (.v 2)), (.vi .i64 (.z 1)), (.vi .i64 (.z 6))] [.b] 6) <|
    .ite (.v 6)
     (
      .ite (.cmp .eq (.v 1) (.z 0))
       (
        .i (.call f_impl_FrmForm_small [(.s (.v 3)), (.s (.v 4)), (.vi .i64 (.v 5))] [.b] 7) <|
        .done [(.vb (.v 7))])
       (
        .done [(.vb .ff)]))
     (
      .done [(.vb .ff)]))
   (
    .ite (.cmp .eq (.v 0) (.z 2))
     (
      .i (.call f_impl_in [(.vi .i64 (.v 1)), (.vi .i64 (.z 0)), (.vi .i64 (.z 2))] [.b] 6) <|
      .ite (.v 6)
       (
        .ite (.cmp .eq (.v 2) (.z 0))
         (
          .i (.call f_impl_FrmForm_small [(.s (.v 3)), (.s (.v 4)), (.vi .i64 (.v 5))] [.b] 7) <|
          .done [(.vb (.v 7))])
         (
          .done [(.vb .ff)]))
       (
        .done [(.vb .ff)]))
     (
      .ite (.cmp .eq (.v 0) (.z 3))
       (
        .ite (.cmp .eq (.v 1) (.z 0))
         (
          .ite (.cmp .eq (.v 2) (.z 0))
           (
            .i (.call f_impl_FrmForm_small [(.s (.v 3)), (.s (.v 4)), (.vi .i64 (.v 5))] [.b] 6) <|
            .done [(.vb (.v 6))])
           (
            .done [(.vb .ff)]))
         (
          .done [(.vb .ff)]))
       (
        .ite (.cmp .eq (.v 0) (.z 4))
         (
          .ite (.cmp .eq (.v 1) (.z 0))
           (
            .ite (.cmp .eq (.v 2) (.z 0))
             (
              .i (.call f_impl_FrmForm_same [(.s (.v 3)), (.s (.v 4)), (.vi .i64 (.v 5)), (.s .nil), (.s .nil), (.vi .i64 (.z 0))] [.b] 6) <|
              .done [(.vb (.v 6))])
             (
              .done [(.vb .ff)]))
           (
            .done [(.vb .ff)]))
         (
          .done [(.vb .ff)]))))
/-- impl_ActOk -/
def R_impl_ActOk : R :=
  .loop 1 [(.z 0), (.z 0)] <|
    .ite (.cmp .lt (.v 2) (.len (.v 0)))
     (
      .i (.idx (.v 0) (.v 2) (.g [.i .i64, .i .i64, .i .i64, .s, .s, .i .i64]) 3) <|
      .i (.call f_impl_ActLine_ok [(.vi .i64 (.v 3)), (.vi .i64 (.v 4)), (.vi .i64 (.v 5)), (.s (.v 6)), (.s (.v 7)), (.vi .i64 (.v 8))] [.b] 9) <|
      .ite (.not (.v 9))
       (
        .esc <|
        .done [(.vb .ff)])
       (
        .ite (.cmp .eq (.v 3) (.z 1))
         (
          .next [(.bin .add .i64 (.v 1) (.z 1)), (.bin .add .i64 (.v 2) (.z 1))])
         (
          .next [(.v 1), (.bin .add .i64 (.v 2) (.z 1))])))
     (
      .esc <|
      .ite (.cmp .le (.len (.v 0)) (.z 6))
       (
        .done [(.vb (.cmp .le (.v 1) (.z 3)))])
       (
        .done [(.vb .ff)]))
/-- impl_CatOk_1 -/
def R_impl_CatOk_1 : R :=
  .i (.call f_impl_ActOk [(.s (.v 0))] [.b] 1) <|
  .done [(.vb (.not (.v 1)))]
/-- impl_CatOk -/
def R_impl_CatOk : R :=
  .i (.call f_impl_in [(.vi .i64 (.len (.v 0))), (.vi .i64 (.z 1)), (.vi .i64 (.z 4))] [.b] 1) <|
  .ite (.v 1)
   (
    .i (.call f_slices_ContainsFunc_SSimpl_ActLine_Simpl_ActLine [(.s (.v 0)), (.fn f_impl_CatOk_1 .nil)] [.b] 2) <|
    .done [(.vb (.not (.v 2)))])
   (
    .done [(.vb .ff)])
/-- impl_FrmZero -/
def R_impl_FrmZero : R :=
  .done [(.s (.cons (.vi .i64 (.z 0)) (.cons (.vi .i64 (.z 0)) (.cons (.vi .i64 (.z 0)) .nil)))), (.s (.cons (.vi .i64 (.z 0)) (.cons (.vi .i64 (.z 0)) .nil))), (.vi .i64 (.z 0))]
/-- impl_FrmPot -/
def R_impl_FrmPot : R :=
  .i (.call f_impl_in [(.vi .i64 (.v 0)), (.vi .i64 (.z 0)), (.vi .i64 (.z 2))] [.b] 1) <|
  .ite (.not (.v 1))
   (
    .done [(.s .nil), (.s .nil), (.vi .i64 (.z 0))])
   (
    .i (.call f_impl_FrmZero [] [.s, .s, .i .i64] 2) <|
    .i (.chk (.cmp .le (.z 0) (.v 0))) <|
    .i (.chk (.cmp .lt (.v 0) (.len (.v 2)))) <|
    .i (.idx (.v 2) (.v 0) (.one (.i .i64)) 5) <|
    .done [(.s (.set (.v 2) (.v 0) (.vi .i64 (.z 1)))), (.s (.v 3)), (.vi .i64 (.v 4))])
/-- slices_Clone_Sint_int -/
def R_slices_Clone_Sint_int : R :=
  .nilq 1 (.v 0)
   (
    .done [(.s .nil)])
   (
    .i (.chk (.cmp .le (.len (.v 0)) (.z 8796093022208))) <|
    .i (.head 1 (.v 0)) <|
    .i (.chk (.cmp .le (.len (.app .nil (.v 0))) (.z 8796093022208))) <|
    .done [(.s (.app .nil (.v 0)))])
/-- impl_FrmForm_copied -/
def R_impl_FrmForm_copied : R :=
  .i (.call f_slices_Clone_Sint_int [(.s (.v 0))] [.s] 3) <|
  .i (.call f_slices_Clone_Sint_int [(.s (.v 1))] [.s] 4) <|
  .done [(.s (.v 3)), (.s (.v 4)), (.vi .i64 (.v 2))]
/-- impl_forms -/
def R_impl_forms : R :=
  .loop 1 [.nil, (.z 0)] <|
    .ite (.cmp .lt (.v 2) (.len (.v 0)))
     (
      .i (.idx (.v 0) (.v 2) (.g [.s, .s, .i .i64]) 3) <|
      .i (.call f_impl_FrmForm_copied [(.s (.v 3)), (.s (.v 4)), (.vi .i64 (.v 5))] [.s, .s, .i .i64] 6) <|
      .i (.fl (.v 6)) <|
      .i (.fl (.v 7)) <|
      .i (.chk (.cmp .le (.len (.app (.v 1) (.cons (.g (.cons (.s (.v 6)) (.cons (.s (.v 7)) (.cons (.vi .i64 (.v 8)) .nil)))) .nil))) (.z 1256584717458))) <|
      .next [(.app (.v 1) (.cons (.g (.cons (.s (.v 6)) (.cons (.s (.v 7)) (.cons (.vi .i64 (.v 8)) .nil)))) .nil)), (.bin .add .i64 (.v 2) (.z 1))])
     (
      .esc <|
      .done [(.s (.v 1))])
/-- impl_FrmOk -/
def R_impl_FrmOk : R :=
  .i (.call f_impl_within [(.s (.v 0)), (.vi .i64 (.z 3)), (.vi .i64 (.z 10000000))] [.b] 3) <|
  .ite (.v 3)
   (
    .i (.call f_impl_within [(.s (.v 1)), (.vi .i64 (.z 2)), (.vi .i64 (.z 10000000))] [.b] 4) <|
    .ite (.v 4)
     (
      .i (.call f_impl_in [(.vi .i64 (.v 2)), (.vi .i64 (.z (-10000000))), (.vi .i64 (.z 10000000))] [.b] 5) <|
      .done [(.vb (.v 5))])
     (
      .done [(.vb .ff)]))
   (
    .done [(.vb .ff)])
/-- slices_IndexFunc_Simpl_FrmForm_impl_FrmForm -/
def R_slices_IndexFunc_Simpl_FrmForm_impl_FrmForm : R :=
  .loop 2 [(.z 0)] <|
    .ite (.cmp .lt (.v 2) (.len (.v 0)))
     (
      .i (.idx (.v 0) (.v 2) (.g [.s, .s, .i .i64]) 3) <|
      .i (.callv (.da 1) [(.s (.v 3)), (.s (.v 4)), (.vi .i64 (.v 5))] [some 3] [.b] 6) <|
      .ite (.v 6)
       (
        .esc <|
        .done [(.vi .i64 (.v 2))])
       (
        .next [(.bin .add .i64 (.v 2) (.z 1))]))
     (
      .esc <|
      .done [(.vi .i64 (.z (-1)))])
/-- slices_ContainsFunc_Simpl_FrmForm_impl_FrmForm -/
def R_slices_ContainsFunc_Simpl_FrmForm_impl_FrmForm : R :=
  .i (.call f_slices_IndexFunc_Simpl_FrmForm_impl_FrmForm [(.s (.v 0)), (.da 1)] [.i .i64] 2) <|
  .done [(.vb (.cmp .le (.z 0) (.v 2)))]
/-- impl_FrmInto_1 -/
def R_impl_FrmInto_1 : R :=
  .i (.call f_impl_FrmOk [(.s (.v 0)), (.s (.v 1)), (.vi .i64 (.v 2))] [.b] 3) <|
  .done [(.vb (.not (.v 3)))]
/-- impl_FrmForm_add -/
def R_impl_FrmForm_add : R :=
  .loop 7 [(.v 0), (.z 0)] <|
    .ite (.cmp .lt (.v 8) (.len (.v 3)))
     (
      .i (.idx (.v 3) (.v 8) (.one (.i .i64)) 9) <|
      .i (.chk (.cmp .le (.z 0) (.v 8))) <|
      .i (.chk (.cmp .lt (.v 8) (.len (.v 7)))) <|
      .i (.idx (.v 7) (.v 8) (.one (.i .i64)) 10) <|
      .i (.chk (.cmp .le (.z 0) (.v 8))) <|
      .i (.chk (.cmp .lt (.v 8) (.len (.v 7)))) <|
      .i (.idx (.v 7) (.v 8) (.one (.i .i64)) 11) <|
      .next [(.set (.v 7) (.v 8) (.vi .i64 (.bin .add .i64 (.v 10) (.bin .mul .i64 (.v 6) (.v 9))))), (.bin .add .i64 (.v 8) (.z 1))])
     (
      .esc <|
      .loop 9 [(.v 1), (.z 0)] <|
        .ite (.cmp .lt (.v 10) (.len (.v 4)))
         (
          .i (.idx (.v 4) (.v 10) (.one (.i .i64)) 11) <|
          .i (.chk (.cmp .le (.z 0) (.v 10))) <|
          .i (.chk (.cmp .lt (.v 10) (.len (.v 9)))) <|
          .i (.idx (.v 9) (.v 10) (.one (.i .i64)) 12) <|
          .i (.chk (.cmp .le (.z 0) (.v 10))) <|
          .i (.chk (.cmp .lt (.v 10) (.len (.v 9)))) <|
          .i (.idx (.v 9) (.v 10) (.one (.i .i64)) 13) <|
          .next [(.set (.v 9) (.v 10) (.vi .i64 (.bin .add .i64 (.v 12) (.bin .mul .i64 (.v 6) (.v 11))))), (.bin .add .i64 (.v 10) (.z 1))])
         (
          .esc <|
          .done [(.vi .i64 (.bin .add .i64 (.v 2) (.bin .mul .i64 (.v 6) (.v 5)))), (.s (.v 7)), (.s (.v 9))]))
/-- impl_checked -/
def R_impl_checked : R :=
  .i (.call f_impl_FrmOk [(.s (.v 0)), (.s (.v 1)), (.vi .i64 (.v 2))] [.b] 3) <|
  .ite (.not (.v 3))
   (
    .done [(.s .nil), (.s .nil), (.vi .i64 (.z 0))])
   (
    .done [(.s (.v 0)), (.s (.v 1)), (.vi .i64 (.v 2))])
/-- impl_FrmInto -/
def R_impl_FrmInto : R :=
  .i (.call f_impl_FrmOk [(.s (.v 0)), (.s (.v 1)), (.vi .i64 (.v 2))] [.b] 4) <|
  .ite (.not (.v 4))
   (
    .done [(.s .nil), (.s .nil), (.vi .i64 (.z 0))])
   (
    .ite (.not (.cmp .eq (.len (.v 3)) (.z 3)))
     (
      .done [(.s .nil), (.s .nil), (.vi .i64 (.z 0))])
     (
      .i (.call f_slices_ContainsFunc_Simpl_FrmForm_impl_FrmForm [(.s (.v 3)), (.fn f_impl_FrmInto_1 .nil)] [.b] 5) <|
      .ite (.v 5)
       (
        .done [(.s .nil), (.s .nil), (.vi .i64 (.z 0))])
       (
        .i (.call f_impl_FrmZero [] [.s, .s, .i .i64] 6) <|
        .loop 9 [(.v 6), (.v 7), (.z 0), (.v 8)] <|
          .ite (.cmp .lt (.v 11) (.len (.v 3)))
           (
            .i (.idx (.v 3) (.v 11) (.g [.s, .s, .i .i64]) 13) <|
            .i (.idx (.v 0) (.v 11) (.one (.i .i64)) 16) <|
            .i (.call f_impl_FrmForm_add [(.s (.v 9)), (.s (.v 10)), (.vi .i64 (.v 12)), (.s (.v 13)), (.s (.v 14)), (.vi .i64 (.v 15)), (.vi .i64 (.v 16))] [.i .i64, .s, .s] 17) <|
            .next [(.v 18), (.v 19), (.bin .add .i64 (.v 11) (.z 1)), (.v 17)])
           (
            .esc <|
            .i (.call f_impl_FrmForm_add [(.s (.v 9)), (.s (.v 10)), (.vi .i64 (.v 12)), (.s .nil), (.s (.v 1)), (.vi .i64 (.v 2)), (.vi .i64 (.z 1))] [.i .i64, .s, .s] 13) <|
            .i (.call f_impl_checked [(.s (.v 14)), (.s (.v 15)), (.vi .i64 (.v 13))] [.s, .s, .i .i64] 16) <|
            .done [(.s (.v 16)), (.s (.v 17)), (.vi .i64 (.v 18))]))))
/-- impl_FrmTimes -/
def R_impl_FrmTimes : R :=
  .i (.call f_impl_FrmOk [(.s (.v 0)), (.s (.v 1)), (.vi .i64 (.v 2))] [.b] 4) <|
  .ite (.not (.v 4))
   (
    .done [(.s .nil), (.s .nil), (.vi .i64 (.z 0))])
   (
    .i (.call f_impl_in [(.vi .i64 (.v 3)), (.vi .i64 (.z (-10000000))), (.vi .i64 (.z 10000000))] [.b] 5) <|
    .ite (.not (.v 5))
     (
      .done [(.s .nil), (.s .nil), (.vi .i64 (.z 0))])
     (
      .i (.call f_impl_FrmZero [] [.s, .s, .i .i64] 6) <|
      .i (.call f_impl_FrmForm_add [(.s (.v 6)), (.s (.v 7)), (.vi .i64 (.v 8)), (.s (.v 0)), (.s (.v 1)), (.vi .i64 (.v 2)), (.vi .i64 (.v 3))] [.i .i64, .s, .s] 9) <|
      .i (.call f_impl_checked [(.s (.v 10)), (.s (.v 11)), (.vi .i64 (.v 9))] [.s, .s, .i .i64] 12) <|
      .done [(.s (.v 12)), (.s (.v 13)), (.vi .i64 (.v 14))]))
/-- impl_FrmAdd -/
def R_impl_FrmAdd : R :=
  .i (.call f_impl_FrmOk [(.s (.v 0)), (.s (.v 1)), (.vi .i64 (.v 2))] [.b] 6) <|
  .ite (.not (.v 6))
   (
    .done [(.s .nil), (.s .nil), (.vi .i64 (.z 0))])
   (
    .i (.call f_impl_FrmOk [(.s (.v 3)), (.s (.v 4)), (.vi .i64 (.v 5))] [.b] 7) <|
    .ite (.not (.v 7))
     (
      .done [(.s .nil), (.s .nil), (.vi .i64 (.z 0))])
     (
      .i (.call f_impl_FrmZero [] [.s, .s, .i .i64] 8) <|
      .i (.call f_impl_FrmForm_add [(.s (.v 8)), (.s (.v 9)), (.vi .i64 (.v 10)), (.s (.v 0)), (.s (.v 1)), (.vi .i64 (.v 2)), (.vi .i64 (.z 1))] [.i .i64, .s, .s] 11) <|
      .i (.call f_impl_FrmForm_add [(.s (.v 12)), (.s (.v 13)), (.vi .i64 (.v 11)), (.s (.v 3)), (.s (.v 4)), (.vi .i64 (.v 5)), (.vi .i64 (.z 1))] [.i .i64, .s, .s] 14) <|
      .i (.call f_impl_checked [(.s (.v 15)), (.s (.v 16)), (.vi .i64 (.v 14))] [.s, .s, .i .i64] 17) <|
      .done [(.s (.v 17)), (.s (.v 18)), (.vi .i64 (.v 19))]))
/-- impl_walker_walk -/
def R_impl_walker_walk : R :=
  .loop 6 [(.v 1), (.v 2), (.v 3), (.v 4), (.v 5), (.v 0)] <|
    .ite (.cmp .lt (.v 7) (.len (.v 11)))
     (
      .i (.idx (.v 11) (.v 7) (.g [.i .i64, .i .i64, .i .i64, .s, .s, .i .i64]) 12) <|
      .ite (.cmp .eq (.v 12) (.z 4))
       (
        .i (.call f_impl_forms [(.s (.v 8))] [.s] 18) <|
        .i (.chk (.cmp .le (.len (.app (.v 6) (.cons (.g (.cons (.s (.v 18)) (.cons (.s .nil) (.cons (.s .nil) (.cons (.vb .tt) .nil))))) .nil))) (.z 879609302220))) <|
        .esc <|
        .done [(.s (.v 11)), (.s (.app (.v 6) (.cons (.g (.cons (.s (.v 18)) (.cons (.s .nil) (.cons (.s .nil) (.cons (.vb .tt) .nil))))) .nil)))])
       (
        .i (.call f_impl_FrmInto [(.s (.v 15)), (.s (.v 16)), (.vi .i64 (.v 17)), (.s (.v 9))] [.s, .s, .i .i64] 18) <|
        .ite (.cmp .eq (.v 12) (.z 1))
         (
          .i (.call f_impl_forms [(.s (.v 8))] [.s] 21) <|
          .i (.chk (.cmp .le (.len (.app (.v 21) (.cons (.g (.cons (.s (.v 18)) (.cons (.s (.v 19)) (.cons (.vi .i64 (.v 20)) .nil)))) .nil))) (.z 1256584717458))) <|
          .i (.call f_impl_forms [(.s (.v 9))] [.s] 22) <|
          .i (.call f_impl_forms [(.s (.v 10))] [.s] 23) <|
          .i (.call f_impl_walker_walk [(.s (.v 11)), (.s (.v 6)), (.vi .i64 (.bin .add .i64 (.v 7) (.z 1))), (.s (.app (.v 21) (.cons (.g (.cons (.s (.v 18)) (.cons (.s (.v 19)) (.cons (.vi .i64 (.v 20)) .nil)))) .nil))), (.s (.v 22)), (.s (.v 23))] [.s, .s] 24) <|
          .i (.call f_impl_FrmTimes [(.s (.v 18)), (.s (.v 19)), (.vi .i64 (.v 20)), (.vi .i64 (.z (-1)))] [.s, .s, .i .i64] 26) <|
          .i (.call f_impl_forms [(.s (.v 8))] [.s] 29) <|
          .i (.chk (.cmp .le (.len (.app (.v 29) (.cons (.g (.cons (.s (.v 26)) (.cons (.s (.v 27)) (.cons (.vi .i64 (.bin .sub .i64 (.v 28) (.z 1))) .nil)))) .nil))) (.z 1256584717458))) <|
          .next [(.v 25), (.bin .add .i64 (.bin .add .i64 (.v 7) (.v 14)) (.z 1)), (.app (.v 29) (.cons (.g (.cons (.s (.v 26)) (.cons (.s (.v 27)) (.cons (.vi .i64 (.bin .sub .i64 (.v 28) (.z 1))) .nil)))) .nil)), (.v 9), (.v 10), (.v 24)])
         (
          .ite (.cmp .eq (.v 12) (.z 2))
           (
            .i (.call f_impl_forms [(.s (.v 9))] [.s] 21) <|
            .i (.chk (.cmp .le (.z 0) (.v 13))) <|
            .i (.chk (.cmp .lt (.v 13) (.len (.v 21)))) <|
            .i (.idx (.v 21) (.v 13) (.g [.s, .s, .i .i64]) 22) <|
            .i (.call f_impl_FrmAdd [(.s (.v 22)), (.s (.v 23)), (.vi .i64 (.v 24)), (.s (.v 18)), (.s (.v 19)), (.vi .i64 (.v 20))] [.s, .s, .i .i64] 25) <|
            .i (.chk (.cmp .le (.z 0) (.v 13))) <|
            .i (.chk (.cmp .lt (.v 13) (.len (.v 21)))) <|
            .i (.idx (.v 21) (.v 13) (.g [.s, .s, .i .i64]) 28) <|
            .next [(.v 6), (.bin .add .i64 (.v 7) (.z 1)), (.v 8), (.set (.v 21) (.v 13) (.g (.cons (.s (.v 25)) (.cons (.s (.v 26)) (.cons (.vi .i64 (.v 27)) .nil))))), (.v 10), (.v 11)])
           (
            .ite (.cmp .eq (.v 12) (.z 3))
             (
              .i (.call f_impl_forms [(.s (.v 10))] [.s] 21) <|
              .i (.chk (.cmp .le (.len (.app (.v 21) (.cons (.g (.cons (.s (.v 18)) (.cons (.s (.v 19)) (.cons (.vi .i64 (.v 20)) .nil)))) .nil))) (.z 1256584717458))) <|
              .next [(.v 6), (.bin .add .i64 (.v 7) (.z 1)), (.v 8), (.v 9), (.app (.v 21) (.cons (.g (.cons (.s (.v 18)) (.cons (.s (.v 19)) (.cons (.vi .i64 (.v 20)) .nil)))) .nil)), (.v 11)])
             (
              .next [(.v 6), (.bin .add .i64 (.v 7) (.z 1)), (.v 8), (.v 9), (.v 10), (.v 11)])))))
     (
      .esc <|
      .i (.call f_impl_forms [(.s (.v 8))] [.s] 12) <|
      .i (.call f_impl_forms [(.s (.v 10))] [.s] 13) <|
      .loop 14 [.nil, (.z 0)] <|
        .ite (.cmp .lt (.v 15) (.len (.v 9)))
         (
          .i (.idx (.v 9) (.v 15) (.g [.s, .s, .i .i64]) 16) <|
          .i (.call f_impl_FrmPot [(.vi .i64 (.v 15))] [.s, .s, .i .i64] 19) <|
          .i (.call f_impl_FrmTimes [(.s (.v 19)), (.s (.v 20)), (.vi .i64 (.v 21)), (.vi .i64 (.z (-1)))] [.s, .s, .i .i64] 22) <|
          .i (.call f_impl_FrmAdd [(.s (.v 16)), (.s (.v 17)), (.vi .i64 (.v 18)), (.s (.v 22)), (.s (.v 23)), (.vi .i64 (.v 24))] [.s, .s, .i .i64] 25) <|
          .i (.fl (.v 25)) <|
          .i (.fl (.v 26)) <|
          .i (.chk (.cmp .le (.len (.app (.v 14) (.cons (.g (.cons (.s (.v 25)) (.cons (.s (.v 26)) (.cons (.vi .i64 (.v 27)) .nil)))) .nil))) (.z 1256584717458))) <|
          .next [(.app (.v 14) (.cons (.g (.cons (.s (.v 25)) (.cons (.s (.v 26)) (.cons (.vi .i64 (.v 27)) .nil)))) .nil)), (.bin .add .i64 (.v 15) (.z 1))])
         (
          .esc <|
          .i (.chk (.cmp .le (.len (.app (.v 6) (.cons (.g (.cons (.s (.v 12)) (.cons (.s (.v 14)) (.cons (.s (.v 13)) (.cons (.vb .ff) .nil))))) .nil))) (.z 879609302220))) <|
          .done [(.s (.v 11)), (.s (.app (.v 6) (.cons (.g (.cons (.s (.v 12)) (.cons (.s (.v 14)) (.cons (.s (.v 13)) (.cons (.vb .ff) .nil))))) .nil)))]))
/-- impl_RowsOf -/
def R_impl_RowsOf : R :=
  .i (.call f_impl_ActOk [(.s (.v 0))] [.b] 1) <|
  .ite (.not (.v 1))
   (
    .done [(.s .nil)])
   (
    .loop 2 [.nil, (.z 0)] <|
      .ite (.cmp .lt (.v 3) (.z 3))
       (
        .i (.call f_impl_FrmPot [(.vi .i64 (.v 3))] [.s, .s, .i .i64] 4) <|
        .i (.fl (.v 4)) <|
        .i (.fl (.v 5)) <|
        .i (.chk (.cmp .le (.len (.app (.v 2) (.cons (.g (.cons (.s (.v 4)) (.cons (.s (.v 5)) (.cons (.vi .i64 (.v 6)) .nil)))) .nil))) (.z 1256584717458))) <|
        .next [(.app (.v 2) (.cons (.g (.cons (.s (.v 4)) (.cons (.s (.v 5)) (.cons (.vi .i64 (.v 6)) .nil)))) .nil)), (.bin .add .i64 (.v 3) (.z 1))])
       (
        .esc <|
        .i (.call f_impl_walker_walk [(.s (.v 0)), (.s .nil), (.vi .i64 (.z 0)), (.s .nil), (.s (.v 2)), (.s .nil)] [.s, .s] 4) <|
        .done [(.s (.v 5))]))
/-- impl_CatPart_1 -/
def R_impl_CatPart_1 : R :=
  .done [(.vb (.not (.cmp .eq (.v 0) (.z 0))))]
/-- impl_CatPart -/
def R_impl_CatPart : R :=
  .i (.call f_slices_Clone_Sint_int [(.s (.v 0))] [.s] 3) <|
  .i (.call f_slices_IndexFunc_Sint_int [(.s (.v 3)), (.fn f_impl_CatPart_1 .nil)] [.i .i64] 4) <|
  .ite (.cmp .le (.z 0) (.v 4))
   (
    .i (.chk (.cmp .le (.z 0) (.v 4))) <|
    .i (.chk (.cmp .lt (.v 4) (.len (.v 3)))) <|
    .i (.idx (.v 3) (.v 4) (.one (.i .i64)) 5) <|
    .ite (.cmp .lt (.v 5) (.z 0))
     (
      .loop 6 [(.v 3), (.z 0)] <|
        .ite (.cmp .lt (.v 7) (.len (.v 3)))
         (
          .i (.chk (.cmp .le (.z 0) (.v 7))) <|
          .i (.chk (.cmp .lt (.v 7) (.len (.v 6)))) <|
          .i (.idx (.v 6) (.v 7) (.one (.i .i64)) 8) <|
          .i (.chk (.cmp .le (.z 0) (.v 7))) <|
          .i (.chk (.cmp .lt (.v 7) (.len (.v 6)))) <|
          .i (.idx (.v 6) (.v 7) (.one (.i .i64)) 9) <|
          .next [(.set (.v 6) (.v 7) (.vi .i64 (.bin .sub .i64 (.z 0) (.v 8)))), (.bin .add .i64 (.v 7) (.z 1))])
         (
          .esc <|
          .done [(.s (.v 6))]))
     (
      .done [(.s (.v 3))]))
   (
    .done [(.s (.v 3))])
/-- impl_zeros_1 -/
def R_impl_zeros_1 : R :=
  .done [(.vb (.not (.cmp .eq (.v 0) (.z 0))))]
/-- impl_zeros -/
def R_impl_zeros : R :=
  .i (.call f_slices_ContainsFunc_Sint_int [(.s (.v 0)), (.fn f_impl_zeros_1 .nil)] [.b] 1) <|
  .done [(.vb (.not (.v 1)))]
/-- impl_CatHas_1 -/
def R_impl_CatHas_1 : R :=
  .i (.get (.da 1) (.q [.s]) 2) <|
  .i (.call f_slices_Equal_Sint_int [(.s (.v 0)), (.s (.v 2))] [.b] 3) <|
  .done [(.vb (.v 3))]
/-- slices_IndexFunc_SSint_Sint -/
def R_slices_IndexFunc_SSint_Sint : R :=
  .loop 2 [(.z 0)] <|
    .ite (.cmp .lt (.v 2) (.len (.v 0)))
     (
      .i (.idx (.v 0) (.v 2) (.one (.s)) 3) <|
      .i (.callv (.da 1) [(.s (.v 3))] [none] [.b] 4) <|
      .ite (.v 4)
       (
        .esc <|
        .done [(.vi .i64 (.v 2))])
       (
        .next [(.bin .add .i64 (.v 2) (.z 1))]))
     (
      .esc <|
      .done [(.vi .i64 (.z (-1)))])
/-- impl_CatHas -/
def R_impl_CatHas : R :=
  .i (.call f_slices_IndexFunc_SSint_Sint [(.s (.v 0)), (.fn f_impl_CatHas_1 (.cons (.q (.cons (.s (.v 1)) .nil)) .nil))] [.i .i64] 2) <|
  .done [(.vi .i64 (.v 2))]
/-- impl_CatForms -/
def R_impl_CatForms : R :=
  .i (.call f_impl_CatOk [(.s (.v 0))] [.b] 1) <|
  .ite (.not (.v 1))
   (
    .done [(.s .nil)])
   (
    .loop 2 [.nil, (.z 0)] <|
      .ite (.cmp .lt (.v 3) (.z 3))
       (
        .i (.call f_impl_FrmPot [(.vi .i64 (.v 3))] [.s, .s, .i .i64] 4) <|
        .i (.fl (.v 4)) <|
        .i (.chk (.cmp .le (.len (.app (.v 2) (.cons (.s (.v 4)) .nil))) (.z 2932031007402))) <|
        .next [(.app (.v 2) (.cons (.s (.v 4)) .nil)), (.bin .add .i64 (.v 3) (.z 1))])
       (
        .esc <|
        .loop 4 [(.v 2), (.z 0)] <|
          .ite (.cmp .lt (.v 5) (.len (.v 0)))
           (
            .i (.idx (.v 0) (.v 5) (.one (.s)) 6) <|
            .i (.call f_impl_RowsOf [(.s (.v 6))] [.s] 7) <|
            .loop 8 [(.v 4), (.z 0)] <|
              .ite (.cmp .lt (.v 9) (.len (.v 7)))
               (
                .i (.chk (.cmp .le (.z 0) (.v 9))) <|
                .i (.chk (.cmp .lt (.v 9) (.len (.v 7)))) <|
                .i (.idx (.v 7) (.v 9) (.g [.s, .s, .s, .b]) 10) <|
                .loop 14 [(.v 8), (.z 0)] <|
                  .ite (.cmp .lt (.v 15) (.len (.v 10)))
                   (
                    .i (.idx (.v 10) (.v 15) (.g [.s, .s, .i .i64]) 16) <|
                    .i (.call f_impl_CatPart [(.s (.v 16)), (.s (.v 17)), (.vi .i64 (.v 18))] [.s] 19) <|
                    .i (.call f_impl_zeros [(.s (.v 19))] [.b] 20) <|
                    .ite (.not (.v 20))
                     (
                      .i (.call f_impl_CatHas [(.s (.v 14)), (.s (.v 19))] [.i .i64] 21) <|
                      .ite (.cmp .lt (.v 21) (.z 0))
                       (
                        .i (.fl (.v 19)) <|
                        .i (.chk (.cmp .le (.len (.app (.v 14) (.cons (.s (.v 19)) .nil))) (.z 2932031007402))) <|
                        .next [(.app (.v 14) (.cons (.s (.v 19)) .nil)), (.bin .add .i64 (.v 15) (.z 1))])
                       (
                        .next [(.v 14), (.bin .add .i64 (.v 15) (.z 1))]))
                     (
                      .next [(.v 14), (.bin .add .i64 (.v 15) (.z 1))]))
                   (
                    .esc <|
                    .next [(.v 14), (.bin .add .i64 (.v 9) (.z 1))]))
               (
                .esc <|
                .next [(.v 8), (.bin .add .i64 (.v 5) (.z 1))]))
           (
            .esc <|
            .done [(.s (.v 4))])))
/-- laws_eqIntS -/
def R_laws_eqIntS : R :=
  .ite (.not (.cmp .eq (.len (.v 0)) (.len (.v 1))))
   (
    .done [(.vb .ff)])
   (
    .loop 2 [(.z 0)] <|
      .ite (.cmp .lt (.v 2) (.len (.v 0)))
       (
        .i (.idx (.v 0) (.v 2) (.one (.i .i64)) 3) <|
        .i (.idx (.v 1) (.v 2) (.one (.i .i64)) 4) <|
        .ite (.not (.cmp .eq (.v 3) (.v 4)))
         (
          .esc <|
          .done [(.vb .ff)])
         (
          .next [(.bin .add .i64 (.v 2) (.z 1))]))
       (
        .esc <|
        .done [(.vb .tt)]))
/-- laws_eqIntSS -/
def R_laws_eqIntSS : R :=
  .ite (.not (.cmp .eq (.len (.v 0)) (.len (.v 1))))
   (
    .done [(.vb .ff)])
   (
    .loop 2 [(.z 0)] <|
      .ite (.cmp .lt (.v 2) (.len (.v 0)))
       (
        .i (.idx (.v 0) (.v 2) (.one (.s)) 3) <|
        .i (.idx (.v 1) (.v 2) (.one (.s)) 4) <|
        .i (.call f_laws_eqIntS [(.s (.v 3)), (.s (.v 4))] [.b] 5) <|
        .ite (.not (.v 5))
         (
          .esc <|
          .done [(.vb .ff)])
         (
          .next [(.bin .add .i64 (.v 2) (.z 1))]))
       (
        .esc <|
        .done [(.vb .tt)]))
/-- laws_eqFrmForm -/
def R_laws_eqFrmForm : R :=
  .i (.call f_laws_eqIntS [(.s (.v 0)), (.s (.v 3))] [.b] 6) <|
  .ite (.not (.v 6))
   (
    .done [(.vb .ff)])
   (
    .i (.call f_laws_eqIntS [(.s (.v 1)), (.s (.v 4))] [.b] 7) <|
    .ite (.not (.v 7))
     (
      .done [(.vb .ff)])
     (
      .ite (.not (.cmp .eq (.v 2) (.v 5)))
       (
        .done [(.vb .ff)])
       (
        .done [(.vb .tt)])))
/-- laws_eqActLine -/
def R_laws_eqActLine : R :=
  .ite (.not (.cmp .eq (.v 0) (.v 6)))
   (
    .done [(.vb .ff)])
   (
    .ite (.not (.cmp .eq (.v 1) (.v 7)))
     (
      .done [(.vb .ff)])
     (
      .ite (.not (.cmp .eq (.v 2) (.v 8)))
       (
        .done [(.vb .ff)])
       (
        .i (.call f_laws_eqFrmForm [(.s (.v 3)), (.s (.v 4)), (.vi .i64 (.v 5)), (.s (.v 9)), (.s (.v 10)), (.vi .i64 (.v 11))] [.b] 12) <|
        .ite (.not (.v 12))
         (
          .done [(.vb .ff)])
         (
          .done [(.vb .tt)]))))
/-- laws_eqActLineS -/
def R_laws_eqActLineS : R :=
  .ite (.not (.cmp .eq (.len (.v 0)) (.len (.v 1))))
   (
    .done [(.vb .ff)])
   (
    .loop 2 [(.z 0)] <|
      .ite (.cmp .lt (.v 2) (.len (.v 0)))
       (
        .i (.idx (.v 0) (.v 2) (.g [.i .i64, .i .i64, .i .i64, .s, .s, .i .i64]) 3) <|
        .i (.idx (.v 1) (.v 2) (.g [.i .i64, .i .i64, .i .i64, .s, .s, .i .i64]) 9) <|
        .i (.call f_laws_eqActLine [(.vi .i64 (.v 3)), (.vi .i64 (.v 4)), (.vi .i64 (.v 5)), (.s (.v 6)), (.s (.v 7)), (.vi .i64 (.v 8)), (.vi .i64 (.v 9)), (.vi .i64 (.v 10)), (.vi .i64 (.v 11)), (.s (.v 12)), (.s (.v 13)), (.vi .i64 (.v 14))] [.b] 15) <|
        .ite (.not (.v 15))
         (
          .esc <|
          .done [(.vb .ff)])
         (
          .next [(.bin .add .i64 (.v 2) (.z 1))]))
       (
        .esc <|
        .done [(.vb .tt)]))
/-- laws_eqActLineSS -/
def R_laws_eqActLineSS : R :=
  .ite (.not (.cmp .eq (.len (.v 0)) (.len (.v 1))))
   (
    .done [(.vb .ff)])
   (
    .loop 2 [(.z 0)] <|
      .ite (.cmp .lt (.v 2) (.len (.v 0)))
       (
        .i (.idx (.v 0) (.v 2) (.one (.s)) 3) <|
        .i (.idx (.v 1) (.v 2) (.one (.s)) 4) <|
        .i (.call f_laws_eqActLineS [(.s (.v 3)), (.s (.v 4))] [.b] 5) <|
        .ite (.not (.v 5))
         (
          .esc <|
          .done [(.vb .ff)])
         (
          .next [(.bin .add .i64 (.v 2) (.z 1))]))
       (
        .esc <|
        .done [(.vb .tt)]))
/-- laws_markIntS -/
def R_laws_markIntS : R :=
  .loop 2 [(.v 0), (.v 1), (.z 0)] <|
    .ite (.cmp .lt (.v 4) (.len (.v 2)))
     (
      .i (.chk (.cmp .le (.z 0) (.v 4))) <|
      .i (.chk (.cmp .lt (.v 4) (.len (.v 2)))) <|
      .i (.idx (.v 2) (.v 4) (.one (.i .i64)) 5) <|
      .next [(.set (.v 2) (.v 4) (.vi .i64 (.v 3))), (.bin .add .i64 (.v 3) (.z 1)), (.bin .add .i64 (.v 4) (.z 1))])
     (
      .esc <|
      .done [(.vi .i64 (.v 3)), (.s (.v 2))])
/-- laws_markActLineS -/
def R_laws_markActLineS : R :=
  .loop 2 [(.v 0), (.v 1), (.z 0)] <|
    .ite (.cmp .lt (.v 4) (.len (.v 2)))
     (
      .i (.chk (.cmp .le (.z 0) (.v 4))) <|
      .i (.chk (.cmp .lt (.v 4) (.len (.v 2)))) <|
      .i (.idx (.v 2) (.v 4) (.g [.i .i64, .i .i64, .i .i64, .s, .s, .i .i64]) 5) <|
      .i (.chk (.cmp .le (.z 0) (.v 4))) <|
      .i (.chk (.cmp .lt (.v 4) (.len (.v 2)))) <|
      .i (.idx (.set (.v 2) (.v 4) (.g (.cons (.vi .i64 (.v 3)) (.cons (.vi .i64 (.v 6)) (.cons (.vi .i64 (.v 7)) (.cons (.s (.v 8)) (.cons (.s (.v 9)) (.cons (.vi .i64 (.v 10)) .nil)))))))) (.v 4) (.g [.i .i64, .i .i64, .i .i64, .s, .s, .i .i64]) 11) <|
      .i (.chk (.cmp .le (.z 0) (.v 4))) <|
      .i (.chk (.cmp .lt (.v 4) (.len (.v 2)))) <|
      .i (.idx (.set (.set (.v 2) (.v 4) (.g (.cons (.vi .i64 (.v 3)) (.cons (.vi .i64 (.v 6)) (.cons (.vi .i64 (.v 7)) (.cons (.s (.v 8)) (.cons (.s (.v 9)) (.cons (.vi .i64 (.v 10)) .nil)))))))) (.v 4) (.g (.cons (.vi .i64 (.v 11)) (.cons (.vi .i64 (.bin .add .i64 (.v 3) (.z 1))) (.cons (.vi .i64 (.v 13)) (.cons (.s (.v 14)) (.cons (.s (.v 15)) (.cons (.vi .i64 (.v 16)) .nil)))))))) (.v 4) (.g [.i .i64, .i .i64, .i .i64, .s, .s, .i .i64]) 17) <|
      .i (.chk (.cmp .le (.z 0) (.v 4))) <|
      .i (.chk (.cmp .lt (.v 4) (.len (.v 2)))) <|
      .i (.idx (.set (.set (.set (.v 2) (.v 4) (.g (.cons (.vi .i64 (.v 3)) (.cons (.vi .i64 (.v 6)) (.cons (.vi .i64 (.v 7)) (.cons (.s (.v 8)) (.cons (.s (.v 9)) (.cons (.vi .i64 (.v 10)) .nil)))))))) (.v 4) (.g (.cons (.vi .i64 (.v 11)) (.cons (.vi .i64 (.bin .add .i64 (.v 3) (.z 1))) (.cons (.vi .i64 (.v 13)) (.cons (.s (.v 14)) (.cons (.s (.v 15)) (.cons (.vi .i64 (.v 16)) .nil)))))))) (.v 4) (.g (.cons (.vi .i64 (.v 17)) (.cons (.vi .i64 (.v 18)) (.cons (.vi .i64 (.bin .add .i64 (.bin .add .i64 (.v 3) (.z 1)) (.z 1))) (.cons (.s (.v 20)) (.cons (.s (.v 21)) (.cons (.vi .i64 (.v 22)) .nil)))))))) (.v 4) (.g [.i .i64, .i .i64, .i .i64, .s, .s, .i .i64]) 23) <|
      .i (.call f_laws_markIntS [(.s (.v 26)), (.vi .i64 (.bin .add .i64 (.bin .add .i64 (.bin .add .i64 (.v 3) (.z 1)) (.z 1)) (.z 1)))] [.i .i64, .s] 29) <|
      .i (.chk (.cmp .eq (.len (.v 30)) (.len (.v 26)))) <|
      .i (.chk (.cmp .le (.z 0) (.v 4))) <|
      .i (.chk (.cmp .lt (.v 4) (.len (.v 2)))) <|
      .i (.idx (.set (.set (.set (.set (.v 2) (.v 4) (.g (.cons (.vi .i64 (.v 3)) (.cons (.vi .i64 (.v 6)) (.cons (.vi .i64 (.v 7)) (.cons (.s (.v 8)) (.cons (.s (.v 9)) (.cons (.vi .i64 (.v 10)) .nil)))))))) (.v 4) (.g (.cons (.vi .i64 (.v 11)) (.cons (.vi .i64 (.bin .add .i64 (.v 3) (.z 1))) (.cons (.vi .i64 (.v 13)) (.cons (.s (.v 14)) (.cons (.s (.v 15)) (.cons (.vi .i64 (.v 16)) .nil)))))))) (.v 4) (.g (.cons (.vi .i64 (.v 17)) (.cons (.vi .i64 (.v 18)) (.cons (.vi .i64 (.bin .add .i64 (.bin .add .i64 (.v 3) (.z 1)) (.z 1))) (.cons (.s (.v 20)) (.cons (.s (.v 21)) (.cons (.vi .i64 (.v 22)) .nil)))))))) (.v 4) (.g (.cons (.vi .i64 (.v 23)) (.cons (.vi .i64 (.v 24)) (.cons (.vi .i64 (.v 25)) (.cons (.s (.v 30)) (.cons (.s (.v 27)) (.cons (.vi .i64 (.v 28)) .nil)))))))) (.v 4) (.g [.i .i64, .i .i64, .i .i64, .s, .s, .i .i64]) 31) <|
      .i (.call f_laws_markIntS [(.s (.v 35)), (.vi .i64 (.v 29))] [.i .i64, .s] 37) <|
      .i (.chk (.cmp .eq (.len (.v 38)) (.len (.v 35)))) <|
      .i (.chk (.cmp .le (.z 0) (.v 4))) <|
      .i (.chk (.cmp .lt (.v 4) (.len (.v 2)))) <|
      .i (.idx (.set (.set (.set (.set (.set (.v 2) (.v 4) (.g (.cons (.vi .i64 (.v 3)) (.cons (.vi .i64 (.v 6)) (.cons (.vi .i64 (.v 7)) (.cons (.s (.v 8)) (.cons (.s (.v 9)) (.cons (.vi .i64 (.v 10)) .nil)))))))) (.v 4) (.g (.cons (.vi .i64 (.v 11)) (.cons (.vi .i64 (.bin .add .i64 (.v 3) (.z 1))) (.cons (.vi .i64 (.v 13)) (.cons (.s (.v 14)) (.cons (.s (.v 15)) (.cons (.vi .i64 (.v 16)) .nil)))))))) (.v 4) (.g (.cons (.vi .i64 (.v 17)) (.cons (.vi .i64 (.v 18)) (.cons (.vi .i64 (.bin .add .i64 (.bin .add .i64 (.v 3) (.z 1)) (.z 1))) (.cons (.s (.v 20)) (.cons (.s (.v 21)) (.cons (.vi .i64 (.v 22)) .nil)))))))) (.v 4) (.g (.cons (.vi .i64 (.v 23)) (.cons (.vi .i64 (.v 24)) (.cons (.vi .i64 (.v 25)) (.cons (.s (.v 30)) (.cons (.s (.v 27)) (.cons (.vi .i64 (.v 28)) .nil)))))))) (.v 4) (.g (.cons (.vi .i64 (.v 31)) (.cons (.vi .i64 (.v 32)) (.cons (.vi .i64 (.v 33)) (.cons (.s (.v 34)) (.cons (.s (.v 38)) (.cons (.vi .i64 (.v 36)) .nil)))))))) (.v 4) (.g [.i .i64, .i .i64, .i .i64, .s, .s, .i .i64]) 39) <|
      .next [(.set (.set (.set (.set (.set (.set (.v 2) (.v 4) (.g (.cons (.vi .i64 (.v 3)) (.cons (.vi .i64 (.v 6)) (.cons (.vi .i64 (.v 7)) (.cons (.s (.v 8)) (.cons (.s (.v 9)) (.cons (.vi .i64 (.v 10)) .nil)))))))) (.v 4) (.g (.cons (.vi .i64 (.v 11)) (.cons (.vi .i64 (.bin .add .i64 (.v 3) (.z 1))) (.cons (.vi .i64 (.v 13)) (.cons (.s (.v 14)) (.cons (.s (.v 15)) (.cons (.vi .i64 (.v 16)) .nil)))))))) (.v 4) (.g (.cons (.vi .i64 (.v 17)) (.cons (.vi .i64 (.v 18)) (.cons (.vi .i64 (.bin .add .i64 (.bin .add .i64 (.v 3) (.z 1)) (.z 1))) (.cons (.s (.v 20)) (.cons (.s (.v 21)) (.cons (.vi .i64 (.v 22)) .nil)))))))) (.v 4) (.g (.cons (.vi .i64 (.v 23)) (.cons (.vi .i64 (.v 24)) (.cons (.vi .i64 (.v 25)) (.cons (.s (.v 30)) (.cons (.s (.v 27)) (.cons (.vi .i64 (.v 28)) .nil)))))))) (.v 4) (.g (.cons (.vi .i64 (.v 31)) (.cons (.vi .i64 (.v 32)) (.cons (.vi .i64 (.v 33)) (.cons (.s (.v 34)) (.cons (.s (.v 38)) (.cons (.vi .i64 (.v 36)) .nil)))))))) (.v 4) (.g (.cons (.vi .i64 (.v 39)) (.cons (.vi .i64 (.v 40)) (.cons (.vi .i64 (.v 41)) (.cons (.s (.v 42)) (.cons (.s (.v 43)) (.cons (.vi .i64 (.v 37)) .nil)))))))), (.bin .add .i64 (.v 37) (.z 1)), (.bin .add .i64 (.v 4) (.z 1))])
     (
      .esc <|
      .done [(.vi .i64 (.v 3)), (.s (.v 2))])
/-- laws_markActLineSS -/
def R_laws_markActLineSS : R :=
  .loop 2 [(.v 0), (.v 1), (.z 0)] <|
    .ite (.cmp .lt (.v 4) (.len (.v 2)))
     (
      .i (.chk (.cmp .le (.z 0) (.v 4))) <|
      .i (.chk (.cmp .lt (.v 4) (.len (.v 2)))) <|
      .i (.idx (.v 2) (.v 4) (.one (.s)) 5) <|
      .i (.call f_laws_markActLineS [(.s (.v 5)), (.vi .i64 (.v 3))] [.i .i64, .s] 6) <|
      .i (.chk (.cmp .eq (.len (.v 7)) (.len (.v 5)))) <|
      .next [(.set (.v 2) (.v 4) (.s (.v 7))), (.v 6), (.bin .add .i64 (.v 4) (.z 1))])
     (
      .esc <|
      .done [(.vi .i64 (.v 3)), (.s (.v 2))])
/-- laws_markIntSS -/
def R_laws_markIntSS : R :=
  .loop 2 [(.v 0), (.v 1), (.z 0)] <|
    .ite (.cmp .lt (.v 4) (.len (.v 2)))
     (
      .i (.chk (.cmp .le (.z 0) (.v 4))) <|
      .i (.chk (.cmp .lt (.v 4) (.len (.v 2)))) <|
      .i (.idx (.v 2) (.v 4) (.one (.s)) 5) <|
      .i (.call f_laws_markIntS [(.s (.v 5)), (.vi .i64 (.v 3))] [.i .i64, .s] 6) <|
      .i (.chk (.cmp .eq (.len (.v 7)) (.len (.v 5)))) <|
      .next [(.set (.v 2) (.v 4) (.s (.v 7))), (.v 6), (.bin .add .i64 (.v 4) (.z 1))])
     (
      .esc <|
      .done [(.vi .i64 (.v 3)), (.s (.v 2))])
/-- laws_heldIntS -/
def R_laws_heldIntS : R :=
  .loop 2 [(.v 1), (.z 0)] <|
    .ite (.cmp .lt (.v 3) (.len (.v 0)))
     (
      .i (.idx (.v 0) (.v 3) (.one (.i .i64)) 4) <|
      .ite (.not (.cmp .eq (.v 4) (.v 2)))
       (
        .esc <|
        .done [(.vi .i64 (.z (-1)))])
       (
        .next [(.bin .add .i64 (.v 2) (.z 1)), (.bin .add .i64 (.v 3) (.z 1))]))
     (
      .esc <|
      .done [(.vi .i64 (.v 2))])
/-- laws_heldIntSS -/
def R_laws_heldIntSS : R :=
  .loop 2 [(.v 1), (.z 0)] <|
    .ite (.cmp .lt (.v 3) (.len (.v 0)))
     (
      .i (.idx (.v 0) (.v 3) (.one (.s)) 4) <|
      .i (.call f_laws_heldIntS [(.s (.v 4)), (.vi .i64 (.v 2))] [.i .i64] 5) <|
      .ite (.cmp .lt (.v 5) (.z 0))
       (
        .esc <|
        .done [(.vi .i64 (.z (-1)))])
       (
        .next [(.v 5), (.bin .add .i64 (.v 3) (.z 1))]))
     (
      .esc <|
      .done [(.vi .i64 (.v 2))])
/-- laws_FnExactCatForms -/
def R_laws_FnExactCatForms : R :=
  .i (.call f_laws_szActLineSS [(.s (.v 0)), (.vi .i64 (.z 1048576))] [.i .i64] 1) <|
  .ite (.cmp .lt (.v 1) (.z 0))
   (
    .done [(.vb .tt)])
   (
    .i (.call f_laws_toActLineSS [(.s (.v 0))] [.s] 2) <|
    .i (.call f_spec_CatForms [(.s (.v 2))] [.s] 3) <|
    .i (.call f_laws_toActLineSS [(.s (.v 0))] [.s] 4) <|
    .i (.call f_impl_CatForms [(.s (.v 4))] [.s] 5) <|
    .i (.call f_laws_eqIntSS [(.s (.v 5)), (.s (.v 3))] [.b] 6) <|
    .ite (.not (.v 6))
     (
      .done [(.vb .ff)])
     (
      .i (.call f_laws_toActLineSS [(.s (.v 0))] [.s] 7) <|
      .i (.call f_laws_eqActLineSS [(.s (.v 4)), (.s (.v 7))] [.b] 8) <|
      .ite (.not (.v 8))
       (
        .done [(.vb .ff)])
       (
        .i (.call f_laws_markActLineSS [(.s (.v 4)), (.vi .i64 (.z 1))] [.i .i64, .s] 9) <|
        .ite (.cmp .lt (.v 9) (.z 0))
         (
          .done [(.vb .ff)])
         (
          .i (.call f_laws_eqIntSS [(.s (.v 5)), (.s (.v 3))] [.b] 11) <|
          .ite (.not (.v 11))
           (
            .done [(.vb .ff)])
           (
            .i (.call f_laws_markIntSS [(.s (.v 5)), (.vi .i64 (.z 1))] [.i .i64, .s] 12) <|
            .i (.chk (.cmp .eq (.len (.v 5)) (.len (.v 13)))) <|
            .i (.call f_laws_heldIntSS [(.s (.v 13)), (.vi .i64 (.z 1))] [.i .i64] 14) <|
            .ite (.cmp .lt (.v 14) (.z 0))
             (
              .done [(.vb .ff)])
             (
              .ite (.not (.cmp .eq (.v 14) (.v 12)))
               (
                .done [(.vb .ff)])
               (
                .i (.call f_laws_toActLineSS [(.s (.v 0))] [.s] 15) <|
                .i (.call f_impl_CatForms [(.s (.v 15))] [.s] 16) <|
                .i (.call f_laws_eqIntSS [(.s (.v 16)), (.s (.v 3))] [.b] 17) <|
                .ite (.not (.v 17))
                 (
                  .done [(.vb .ff)])
                 (
                  .i (.chk (.cmp .eq (.len (.v 5)) (.len (.v 13)))) <|
                  .i (.call f_laws_heldIntSS [(.s (.v 13)), (.vi .i64 (.z 1))] [.i .i64] 18) <|
                  .ite (.cmp .lt (.v 18) (.z 0))
                   (
                    .done [(.vb .ff)])
                   (
                    .ite (.not (.cmp .eq (.v 18) (.v 12)))
                     (
                      .done [(.vb .ff)])
                     (
                      .done [(.vb .tt)]))))))))))
def S_laws_szIntS : Sig := .d ⟨[(.one (.s)), (.one (.i .i64))], (.one (.one (.i .i64))), true⟩
def H_laws_szIntS : Hint := ⟨[0, 1, 4, 10], 0, [], [], false, [], []⟩
def E_laws_szIntS : Entry := ⟨S_laws_szIntS, .r H_laws_szIntS R_laws_szIntS⟩
def S_laws_szFrmForm : Sig := .d ⟨[(.g [.s, .s, .i .i64]), (.one (.i .i64))], (.one (.one (.i .i64))), true⟩
def H_laws_szFrmForm : Hint := ⟨[0, 1, 2, 4, 10, 16], 0, [], [], false, [], []⟩
def E_laws_szFrmForm : Entry := ⟨S_laws_szFrmForm, .r H_laws_szFrmForm R_laws_szFrmForm⟩
def S_laws_szActLine : Sig := .d ⟨[(.g [.i .i64, .i .i64, .i .i64, .s, .s, .i .i64]), (.one (.i .i64))], (.one (.one (.i .i64))), true⟩
def H_laws_szActLine : Hint := ⟨[0, 1, 2, 4, 10], 0, [], [], false, [], []⟩
def E_laws_szActLine : Entry := ⟨S_laws_szActLine, .r H_laws_szActLine R_laws_szActLine⟩
def S_laws_szActLineS : Sig := .d ⟨[(.one (.s)), (.one (.i .i64))], (.one (.one (.i .i64))), true⟩
def H_laws_szActLineS : Hint := ⟨[0, 1, 4, 5, 11, 15, 25], 0, [], [(5, ⟨[5, 1], [], [], [], []⟩)], false, [], []⟩
def E_laws_szActLineS : Entry := ⟨S_laws_szActLineS, .r H_laws_szActLineS R_laws_szActLineS⟩
def S_laws_szActLineSS : Sig := .d ⟨[(.one (.s)), (.one (.i .i64))], (.one (.one (.i .i64))), true⟩
def H_laws_szActLineSS : Hint := ⟨[0, 1, 4, 5, 11, 15, 25], 0, [], [(5, ⟨[5, 1], [], [], [], []⟩)], false, [], []⟩
def E_laws_szActLineSS : Entry := ⟨S_laws_szActLineSS, .r H_laws_szActLineSS R_laws_szActLineSS⟩
def S_laws_toIntS : Sig := .x ⟨[(.d (.s (.v 0)))], [], [.s], (.o 0 (.v 0)), [(.arr 3 1 (.v 0) true true)], [.s], false⟩
def H_laws_toIntS : Hint := ⟨[0, 2, 3, 4, 11], 0, [], [(3, ⟨[4], [], [112], [], []⟩)], true, [], []⟩
def E_laws_toIntS : Entry := ⟨S_laws_toIntS, .r H_laws_toIntS R_laws_toIntS⟩
def S_laws_toFrmForm : Sig := .x ⟨[(.g [(.d (.s (.v 0))), (.d (.s (.v 1))), (.d (.vi .i64 (.v 2)))])], [], [.s, .s, .i .i64], (.g [(.o 0 (.v 0)), (.o 1 (.v 1)), (.d (.vi .i64 (.v 2)))]), [(.arr 3 1 (.v 0) true true), (.arr 3 1 (.v 1) true true)], [.s, .s, .i .i64], false⟩
def H_laws_toFrmForm : Hint := ⟨[0, 1, 2, 3], 0, [], [], true, [], []⟩
def E_laws_toFrmForm : Entry := ⟨S_laws_toFrmForm, .r H_laws_toFrmForm R_laws_toFrmForm⟩
def S_laws_toActLine : Sig := .x ⟨[(.g [(.d (.vi .i64 (.v 0))), (.d (.vi .i64 (.v 1))), (.d (.vi .i64 (.v 2))), (.d (.s (.v 3))), (.d (.s (.v 4))), (.d (.vi .i64 (.v 5)))])], [], [.i .i64, .i .i64, .i .i64, .s, .s, .i .i64], (.g [(.d (.vi .i64 (.v 0))), (.d (.vi .i64 (.v 1))), (.d (.vi .i64 (.v 2))), (.o 0 (.v 3)), (.o 1 (.v 4)), (.d (.vi .i64 (.v 5)))]), [(.arr 3 1 (.v 3) true true), (.arr 3 1 (.v 4) true true)], [.i .i64, .i .i64, .i .i64, .s, .s, .i .i64], false⟩
def H_laws_toActLine : Hint := ⟨[0, 1, 2, 3], 0, [], [], true, [], []⟩
def E_laws_toActLine : Entry := ⟨S_laws_toActLine, .r H_laws_toActLine R_laws_toActLine⟩
def S_laws_toActLineS : Sig := .x ⟨[(.d (.s (.v 0)))], [], [.s], (.o 0 (.v 0)), [(.arr 84 6 (.v 0) true true)], [.s], false⟩
def H_laws_toActLineS : Hint := ⟨[0, 2, 3, 4, 11], 0, [], [(3, ⟨[4], [], [112], [], []⟩)], true, [], []⟩
def E_laws_toActLineS : Entry := ⟨S_laws_toActLineS, .r H_laws_toActLineS R_laws_toActLineS⟩
def S_laws_toActLineSS : Sig := .x ⟨[(.d (.s (.v 0)))], [], [.s], (.o 0 (.v 0)), [(.arr 26 1 (.v 0) true true)], [.s], false⟩
def H_laws_toActLineSS : Hint := ⟨[0, 2, 3, 4, 11], 0, [], [(3, ⟨[4], [], [112], [], []⟩)], true, [], []⟩
def E_laws_toActLineSS : Entry := ⟨S_laws_toActLineSS, .r H_laws_toActLineSS R_laws_toActLineSS⟩
def S_spec_l1In : Sig := .d ⟨[(.one (.i .i64)), (.one (.i .i64)), (.one (.i .i64))], (.one (.one (.b))), true⟩
def H_spec_l1In : Hint := ⟨[0, 1, 2, 6], 0, [], [], false, [], []⟩
def E_spec_l1In : Entry := ⟨S_spec_l1In, .r H_spec_l1In R_spec_l1In⟩
def S_spec_l1All : Sig := .d ⟨[(.one (.s)), (.one (.i .i64)), (.one (.i .i64))], (.one (.one (.b))), true⟩
def H_spec_l1All : Hint := ⟨[0, 1, 2, 6, 7, 11, 15, 26], 0, [], [(4, ⟨[7], [], [], [], []⟩)], false, [], []⟩
def E_spec_l1All : Entry := ⟨S_spec_l1All, .r H_spec_l1All R_spec_l1All⟩
def S_spec_l2Small : Sig := .d ⟨[(.g [.s, .s, .i .i64])], (.one (.one (.b))), true⟩
def H_spec_l2Small : Hint := ⟨[0, 1, 2], 0, [], [], false, [], []⟩
def E_spec_l2Small : Entry := ⟨S_spec_l2Small, .r H_spec_l2Small R_spec_l2Small⟩
def S_spec_l2Line : Sig := .d ⟨[(.g [.i .i64, .i .i64, .i .i64, .s, .s, .i .i64])], (.one (.one (.b))), true⟩
def H_spec_l2Line : Hint := ⟨[0, 1, 2, 4, 5, 20, 35], 0, [], [], false, [], []⟩
def E_spec_l2Line : Entry := ⟨S_spec_l2Line, .r H_spec_l2Line R_spec_l2Line⟩
def S_spec_ActOk : Sig := .d ⟨[(.one (.s))], (.one (.one (.b))), true⟩
def H_spec_ActOk : Hint := ⟨[0, 2, 3, 4, 8, 16, 22], 0, [], [(3, ⟨[4, 3], [], [], [], []⟩)], false, [], []⟩
def E_spec_ActOk : Entry := ⟨S_spec_ActOk, .r H_spec_ActOk R_spec_ActOk⟩
def S_spec_CatOk : Sig := .d ⟨[(.one (.s))], (.one (.one (.b))), true⟩
def H_spec_CatOk : Hint := ⟨[0, 2, 3, 7, 11, 19], 0, [], [(4, ⟨[3], [], [], [], []⟩)], false, [], []⟩
def E_spec_CatOk : Entry := ⟨S_spec_CatOk, .r H_spec_CatOk R_spec_CatOk⟩
def S_spec_FrmZero : Sig := .x ⟨[], [], [], (.g [(.o 0 (.v 0)), (.o 1 (.v 1)), (.d (.vi .i64 (.v 2)))]), [(.arr 3 1 (.v 0) false true), (.arr 3 1 (.v 1) false true)], [.s, .s, .i .i64], false⟩
def H_spec_FrmZero : Hint := ⟨[0], 0, [], [], false, [], []⟩
def E_spec_FrmZero : Entry := ⟨S_spec_FrmZero, .r H_spec_FrmZero R_spec_FrmZero⟩
def S_spec_FrmPot : Sig := .x ⟨[(.d (.vi .i64 (.v 0)))], [], [.i .i64], (.g [(.o 0 (.v 0)), (.o 1 (.v 1)), (.d (.vi .i64 (.v 2)))]), [(.arr 3 1 (.v 0) false true), (.arr 3 1 (.v 1) false true)], [.s, .s, .i .i64], false⟩
def H_spec_FrmPot : Hint := ⟨[0, 2, 3, 6], 0, [(999999, ⟨(.cell 32 0), 900000, 3, 1, false, false⟩), (999999, ⟨(.cell 32 1), 900001, 3, 1, false, false⟩)], [], false, [], []⟩
def E_spec_FrmPot : Entry := ⟨S_spec_FrmPot, .r H_spec_FrmPot R_spec_FrmPot⟩
def S_spec_l1Sum : Sig := .x ⟨[(.g [(.d (.s (.v 0))), (.d (.s (.v 1))), (.d (.vi .i64 (.v 2)))]), (.g [(.d (.s (.v 3))), (.d (.s (.v 4))), (.d (.vi .i64 (.v 5)))]), (.d (.vi .i64 (.v 6)))], [], [.s, .s, .i .i64, .s, .s, .i .i64, .i .i64], (.g [(.o 0 (.v 0)), (.o 1 (.v 1)), (.d (.vi .i64 (.v 2)))]), [(.arr 3 1 (.v 0) false true), (.arr 3 1 (.v 1) false true)], [.s, .s, .i .i64], false⟩
def H_spec_l1Sum : Hint := ⟨[0, 1, 2, 3, 4, 6, 7, 8, 9, 12, 33], 0, [], [(7, ⟨[9], [], [161], [], []⟩), (3, ⟨[8], [], [160], [], []⟩)], false, [], []⟩
def E_spec_l1Sum : Entry := ⟨S_spec_l1Sum, .r H_spec_l1Sum R_spec_l1Sum⟩
def S_spec_l3Copy : Sig := .x ⟨[(.d (.s (.v 0)))], [], [.s], (.o 0 (.v 0)), [(.arr 82 3 (.v 0) false true)], [.s], false⟩
def H_spec_l3Copy : Hint := ⟨[0, 2, 3, 4, 9], 0, [], [(3, ⟨[4], [], [80], [], []⟩)], false, [], []⟩
def E_spec_l3Copy : Entry := ⟨S_spec_l3Copy, .r H_spec_l3Copy R_spec_l3Copy⟩
def S_spec_FrmOk : Sig := .d ⟨[(.g [.s, .s, .i .i64])], (.one (.one (.b))), true⟩
def H_spec_FrmOk : Hint := ⟨[0, 1, 2], 0, [], [], false, [], []⟩
def E_spec_FrmOk : Entry := ⟨S_spec_FrmOk, .r H_spec_FrmOk R_spec_FrmOk⟩
def S_spec_FrmInto : Sig := .x ⟨[(.g [(.d (.s (.v 0))), (.d (.s (.v 1))), (.d (.vi .i64 (.v 2)))]), (.d (.s (.v 3)))], [], [.s, .s, .i .i64, .s], (.g [(.o 0 (.v 0)), (.o 1 (.v 1)), (.d (.vi .i64 (.v 2)))]), [(.arr 3 1 (.v 0) false true), (.arr 3 1 (.v 1) false true)], [.s, .s, .i .i64], false⟩
def H_spec_FrmInto : Hint := ⟨[0, 1, 2, 4, 5, 6, 35, 46, 62], 0, [(999999, ⟨(.cell 64 0), 900000, 3, 1, false, false⟩), (999999, ⟨(.cell 64 1), 900001, 3, 1, false, false⟩)], [(5, ⟨[6], [(80, 2)], [592, 608], [], []⟩)], false, [], []⟩
def E_spec_FrmInto : Entry := ⟨S_spec_FrmInto, .r H_spec_FrmInto R_spec_FrmInto⟩
def S_spec_l3Minus : Sig := .x ⟨[(.g [(.d (.s (.v 0))), (.d (.s (.v 1))), (.d (.vi .i64 (.v 2)))])], [], [.s, .s, .i .i64], (.g [(.o 0 (.v 0)), (.o 1 (.v 1)), (.d (.vi .i64 (.v 2)))]), [(.arr 3 1 (.v 0) false true), (.arr 3 1 (.v 1) false true)], [.s, .s, .i .i64], false⟩
def H_spec_l3Minus : Hint := ⟨[0, 1, 2, 3], 0, [], [], false, [], []⟩
def E_spec_l3Minus : Entry := ⟨S_spec_l3Minus, .r H_spec_l3Minus R_spec_l3Minus⟩
def S_spec_l3Row : Sig := .x ⟨[(.d (.s (.v 0))), (.d (.s (.v 1))), (.d (.s (.v 2)))], [], [.s, .s, .s], (.g [(.o 0 (.v 0)), (.o 1 (.v 1)), (.o 2 (.v 2)), (.d (.vb (.v 3)))]), [(.arr 82 3 (.v 0) false true), (.arr 82 3 (.v 1) false true), (.arr 82 3 (.v 2) false true)], [.s, .s, .s, .b], false⟩
def H_spec_l3Row : Hint := ⟨[0, 1, 2, 6, 7, 8, 15], 0, [(3, ⟨(.cell 112 1), 121, 82, 3, false, false⟩)], [(3, ⟨[8], [], [121], [], []⟩)], false, [], []⟩
def E_spec_l3Row : Entry := ⟨S_spec_l3Row, .r H_spec_l3Row R_spec_l3Row⟩
def S_spec_l3Walk : Sig := .x ⟨[(.d (.s (.v 0))), (.d (.vi .i64 (.v 1))), (.d (.s (.v 2))), (.d (.s (.v 3))), (.d (.s (.v 4)))], [], [.s, .i .i64, .s, .s, .s], (.o 0 (.v 0)), [(.arr 80 4 (.v 0) false true)], [.s], false⟩
def H_spec_l3Walk : Hint := ⟨[0, 1, 2, 3, 4, 10, 11, 12, 13, 14, 15, 20, 29, 39, 45, 80], 0, [], [(2, ⟨[11, 4, 2], [], [], [], []⟩)], false, [], []⟩
def E_spec_l3Walk : Entry := ⟨S_spec_l3Walk, .r H_spec_l3Walk R_spec_l3Walk⟩
def S_spec_RowsOf : Sig := .x ⟨[(.d (.s (.v 0)))], [], [.s], (.o 0 (.v 0)), [(.arr 80 4 (.v 0) false true)], [.s], false⟩
def H_spec_RowsOf : Hint := ⟨[0, 2, 5], 0, [], [], false, [], []⟩
def E_spec_RowsOf : Entry := ⟨S_spec_RowsOf, .r H_spec_RowsOf R_spec_RowsOf⟩
def S_spec_l4Reads : Sig := .x ⟨[(.d (.s (.v 0))), (.d (.s (.v 1)))], [], [.s, .s], (.o 0 (.v 0)), [(.arr 4 1 (.v 0) false true)], [.s], false⟩
def H_spec_l4Reads : Hint := ⟨[0, 1, 4, 5, 6, 7, 14, 18, 29], 0, [], [(3, ⟨[6], [], [128], [], []⟩), (6, ⟨[7], [], [128], [], []⟩)], false, [], []⟩
def E_spec_l4Reads : Entry := ⟨S_spec_l4Reads, .r H_spec_l4Reads R_spec_l4Reads⟩
def S_spec_CatPart : Sig := .x ⟨[(.g [(.d (.s (.v 0))), (.d (.s (.v 1))), (.d (.vi .i64 (.v 2)))])], [], [.s, .s, .i .i64], (.o 0 (.v 0)), [(.arr 3 1 (.v 0) false true)], [.s], false⟩
def H_spec_CatPart : Hint := ⟨[0, 1, 2, 3, 4, 5, 11, 23, 33], 0, [], [(4, ⟨[5, 4], [], [96], [], []⟩)], false, [], []⟩
def E_spec_CatPart : Entry := ⟨S_spec_CatPart, .r H_spec_CatPart R_spec_CatPart⟩
def S_spec_l4Same : Sig := .d ⟨[(.one (.s)), (.one (.s))], (.one (.one (.b))), true⟩
def H_spec_l4Same : Hint := ⟨[0, 1, 4, 5, 10, 14, 25], 0, [], [(4, ⟨[5], [], [], [], []⟩)], false, [], []⟩
def E_spec_l4Same : Entry := ⟨S_spec_l4Same, .r H_spec_l4Same R_spec_l4Same⟩
def S_spec_CatHas : Sig := .d ⟨[(.one (.s)), (.one (.s))], (.one (.one (.i .i64))), true⟩
def H_spec_CatHas : Hint := ⟨[0, 1, 4, 5, 9, 17], 0, [], [(2, ⟨[5], [], [], [], []⟩)], false, [], []⟩
def E_spec_CatHas : Entry := ⟨S_spec_CatHas, .r H_spec_CatHas R_spec_CatHas⟩
def S_spec_l4Both : Sig := .x ⟨[(.d (.s (.v 0)))], [], [.s], (.t [(.o 0 (.v 0)), (.o 1 (.v 1))]), [(.arr 49 1 (.v 0) false true), (.arr 4 1 (.v 1) false true)], [.s, .s], false⟩
def H_spec_l4Both : Hint := ⟨[0, 2, 3, 4, 5, 6, 7, 8, 9, 10, 11, 15, 27, 38, 61, 83], 0, [], [(8, ⟨[7], [], [192, 208], [], []⟩), (12, ⟨[9], [], [192, 208], [], []⟩), (16, ⟨[10], [], [192], [], []⟩), (4, ⟨[6], [], [192], [], []⟩)], false, [], []⟩
def E_spec_l4Both : Entry := ⟨S_spec_l4Both, .r H_spec_l4Both R_spec_l4Both⟩
def S_spec_CatForms : Sig := .x ⟨[(.d (.s (.v 0)))], [], [.s], (.o 0 (.v 0)), [(.arr 49 1 (.v 0) false true)], [.s], false⟩
def H_spec_CatForms : Hint := ⟨[0, 2, 3, 7], 0, [], [], false, [], []⟩
def E_spec_CatForms : Entry := ⟨S_spec_CatForms, .r H_spec_CatForms R_spec_CatForms⟩
def S_impl_in : Sig := .d ⟨[(.one (.i .i64)), (.one (.i .i64)), (.one (.i .i64))], (.one (.one (.b))), true⟩
def H_impl_in : Hint := ⟨[0, 1, 2, 6], 0, [], [], false, [], []⟩
def E_impl_in : Entry := ⟨S_impl_in, .r H_impl_in R_impl_in⟩
def S_slices_IndexFunc_SSimpl_ActLine_Simpl_ActLine : Sig := .d ⟨[(.one (.s)), (.one (.d))], (.one (.one (.i .i64))), true⟩
def H_slices_IndexFunc_SSimpl_ActLine_Simpl_ActLine : Hint := ⟨[0, 1, 4, 5, 7, 8, 9, 16], 0, [], [(2, ⟨[8], [], [], [], []⟩)], false, [], []⟩
def E_slices_IndexFunc_SSimpl_ActLine_Simpl_ActLine : Entry := ⟨S_slices_IndexFunc_SSimpl_ActLine_Simpl_ActLine, .r H_slices_IndexFunc_SSimpl_ActLine_Simpl_ActLine R_slices_IndexFunc_SSimpl_ActLine_Simpl_ActLine⟩
def S_slices_ContainsFunc_SSimpl_ActLine_Simpl_ActLine : Sig := .d ⟨[(.one (.s)), (.one (.d))], (.one (.one (.b))), true⟩
def H_slices_ContainsFunc_SSimpl_ActLine_Simpl_ActLine : Hint := ⟨[0, 1, 4], 0, [], [], false, [], []⟩
def E_slices_ContainsFunc_SSimpl_ActLine_Simpl_ActLine : Entry := ⟨S_slices_ContainsFunc_SSimpl_ActLine_Simpl_ActLine, .r H_slices_ContainsFunc_SSimpl_ActLine_Simpl_ActLine R_slices_ContainsFunc_SSimpl_ActLine_Simpl_ActLine⟩
def S_impl_within_1 : Sig := .d ⟨[(.one (.i .i64)), (.one (.d))], (.one (.one (.b))), true⟩
def H_impl_within_1 : Hint := ⟨[0, 1, 3], 0, [], [], false, [], []⟩
def E_impl_within_1 : Entry := ⟨S_impl_within_1, .r H_impl_within_1 R_impl_within_1⟩
def S_slices_IndexFunc_Sint_int : Sig := .d ⟨[(.one (.s)), (.one (.d))], (.one (.one (.i .i64))), true⟩
def H_slices_IndexFunc_Sint_int : Hint := ⟨[0, 1, 4, 5, 7, 8, 9, 16], 0, [], [(2, ⟨[8], [], [], [], []⟩)], false, [], []⟩
def E_slices_IndexFunc_Sint_int : Entry := ⟨S_slices_IndexFunc_Sint_int, .r H_slices_IndexFunc_Sint_int R_slices_IndexFunc_Sint_int⟩
def S_slices_ContainsFunc_Sint_int : Sig := .d ⟨[(.one (.s)), (.one (.d))], (.one (.one (.b))), true⟩
def H_slices_ContainsFunc_Sint_int : Hint := ⟨[0, 1, 4], 0, [], [], false, [], []⟩
def E_slices_ContainsFunc_Sint_int : Entry := ⟨S_slices_ContainsFunc_Sint_int, .r H_slices_ContainsFunc_Sint_int R_slices_ContainsFunc_Sint_int⟩
def S_impl_within : Sig := .d ⟨[(.one (.s)), (.one (.i .i64)), (.one (.i .i64))], (.one (.one (.b))), true⟩
def H_impl_within : Hint := ⟨[0, 1, 2, 5, 6], 0, [], [], false, [], []⟩
def E_impl_within : Entry := ⟨S_impl_within, .r H_impl_within R_impl_within⟩
def S_impl_FrmForm_small : Sig := .d ⟨[(.g [.s, .s, .i .i64])], (.one (.one (.b))), true⟩
def H_impl_FrmForm_small : Hint := ⟨[0, 1, 2], 0, [], [], false, [], []⟩
def E_impl_FrmForm_small : Entry := ⟨S_impl_FrmForm_small, .r H_impl_FrmForm_small R_impl_FrmForm_small⟩
def S_slices_Equal_Sint_int : Sig := .d ⟨[(.one (.s)), (.one (.s))], (.one (.one (.b))), true⟩
def H_slices_Equal_Sint_int : Hint := ⟨[0, 1, 4, 5, 10, 12, 13, 14, 24], 0, [], [(4, ⟨[13], [], [], [], []⟩)], false, [], []⟩
def E_slices_Equal_Sint_int : Entry := ⟨S_slices_Equal_Sint_int, .r H_slices_Equal_Sint_int R_slices_Equal_Sint_int⟩
def S_impl_FrmForm_same : Sig := .d ⟨[(.g [.s, .s, .i .i64]), (.g [.s, .s, .i .i64])], (.one (.one (.b))), true⟩
def H_impl_FrmForm_same : Hint := ⟨[0, 1, 2, 3, 4], 0, [], [], false, [], []⟩
def E_impl_FrmForm_same : Entry := ⟨S_impl_FrmForm_same, .r H_impl_FrmForm_same R_impl_FrmForm_same⟩
def S_impl_ActLine_ok : Sig := .d ⟨[(.g [.i .i64, .i .i64, .i .i64, .s, .s, .i .i64])], (.one (.one (.b))), true⟩
def H_impl_ActLine_ok : Hint := ⟨[0, 1, 2, 4, 5, 20, 35, 50], 0, [], [], false, [], []⟩
def E_impl_ActLine_ok : Entry := ⟨S_impl_ActLine_ok, .r H_impl_ActLine_ok R_impl_ActLine_ok⟩
def S_impl_ActOk : Sig := .d ⟨[(.one (.s))], (.one (.one (.b))), true⟩
def H_impl_ActOk : Hint := ⟨[0, 2, 3, 5, 6, 7, 8, 9, 14, 17], 0, [], [(3, ⟨[8, 3], [], [], [], []⟩)], false, [], []⟩
def E_impl_ActOk : Entry := ⟨S_impl_ActOk, .r H_impl_ActOk R_impl_ActOk⟩
def S_impl_CatOk_1 : Sig := .d ⟨[(.one (.s))], (.one (.one (.b))), true⟩
def H_impl_CatOk_1 : Hint := ⟨[0, 2], 0, [], [], false, [], []⟩
def E_impl_CatOk_1 : Entry := ⟨S_impl_CatOk_1, .r H_impl_CatOk_1 R_impl_CatOk_1⟩
def S_impl_CatOk : Sig := .d ⟨[(.one (.s))], (.one (.one (.b))), true⟩
def H_impl_CatOk : Hint := ⟨[0, 2], 0, [], [], false, [], []⟩
def E_impl_CatOk : Entry := ⟨S_impl_CatOk, .r H_impl_CatOk R_impl_CatOk⟩
def S_impl_FrmZero : Sig := .x ⟨[], [], [], (.g [(.o 0 (.v 0)), (.o 1 (.v 1)), (.d (.vi .i64 (.v 2)))]), [(.arr 3 1 (.v 0) false true), (.arr 3 1 (.v 1) false true)], [.s, .s, .i .i64], false⟩
def H_impl_FrmZero : Hint := ⟨[0], 0, [], [], false, [], []⟩
def E_impl_FrmZero : Entry := ⟨S_impl_FrmZero, .r H_impl_FrmZero R_impl_FrmZero⟩
def S_impl_FrmPot : Sig := .x ⟨[(.d (.vi .i64 (.v 0)))], [], [.i .i64], (.g [(.o 0 (.v 0)), (.o 1 (.v 1)), (.d (.vi .i64 (.v 2)))]), [(.arr 3 1 (.v 0) false true), (.arr 3 1 (.v 1) false true)], [.s, .s, .i .i64], false⟩
def H_impl_FrmPot : Hint := ⟨[0, 2, 3, 6], 0, [(999999, ⟨(.cell 32 0), 900000, 3, 1, false, false⟩), (999999, ⟨(.cell 32 1), 900001, 3, 1, false, false⟩)], [], false, [], []⟩
def E_impl_FrmPot : Entry := ⟨S_impl_FrmPot, .r H_impl_FrmPot R_impl_FrmPot⟩
def S_slices_Clone_Sint_int : Sig := .x ⟨[(.d (.s (.v 0)))], [], [.s], (.o 0 (.v 0)), [(.arr 3 1 (.v 0) false true)], [.s], false⟩
def H_slices_Clone_Sint_int : Hint := ⟨[0, 2, 4], 0, [(999999, ⟨(.slot 2), 900000, 3, 1, false, false⟩)], [], false, [], []⟩
def E_slices_Clone_Sint_int : Entry := ⟨S_slices_Clone_Sint_int, .r H_slices_Clone_Sint_int R_slices_Clone_Sint_int⟩
def S_impl_FrmForm_copied : Sig := .x ⟨[(.g [(.d (.s (.v 0))), (.d (.s (.v 1))), (.d (.vi .i64 (.v 2)))])], [], [.s, .s, .i .i64], (.g [(.o 0 (.v 0)), (.o 1 (.v 1)), (.d (.vi .i64 (.v 2)))]), [(.arr 3 1 (.v 0) false true), (.arr 3 1 (.v 1) false true)], [.s, .s, .i .i64], false⟩
def H_impl_FrmForm_copied : Hint := ⟨[0, 1, 2], 0, [], [], false, [], []⟩
def E_impl_FrmForm_copied : Entry := ⟨S_impl_FrmForm_copied, .r H_impl_FrmForm_copied R_impl_FrmForm_copied⟩
def S_impl_forms : Sig := .x ⟨[(.d (.s (.v 0)))], [], [.s], (.o 0 (.v 0)), [(.arr 82 3 (.v 0) true true)], [.s], false⟩
def H_impl_forms : Hint := ⟨[0, 2, 3, 5, 6, 7, 8, 9], 0, [(3, ⟨(.slot 3), 63, 82, 3, true, false⟩)], [(3, ⟨[8], [], [63], [], []⟩)], true, [], []⟩
def E_impl_forms : Entry := ⟨S_impl_forms, .r H_impl_forms R_impl_forms⟩
def S_impl_FrmOk : Sig := .d ⟨[(.g [.s, .s, .i .i64])], (.one (.one (.b))), true⟩
def H_impl_FrmOk : Hint := ⟨[0, 1, 2], 0, [], [], false, [], []⟩
def E_impl_FrmOk : Entry := ⟨S_impl_FrmOk, .r H_impl_FrmOk R_impl_FrmOk⟩
def S_slices_IndexFunc_Simpl_FrmForm_impl_FrmForm : Sig := .d ⟨[(.one (.s)), (.one (.d))], (.one (.one (.i .i64))), true⟩
def H_slices_IndexFunc_Simpl_FrmForm_impl_FrmForm : Hint := ⟨[0, 1, 4, 5, 7, 8, 9, 16], 0, [], [(2, ⟨[8], [], [], [], []⟩)], false, [], []⟩
def E_slices_IndexFunc_Simpl_FrmForm_impl_FrmForm : Entry := ⟨S_slices_IndexFunc_Simpl_FrmForm_impl_FrmForm, .r H_slices_IndexFunc_Simpl_FrmForm_impl_FrmForm R_slices_IndexFunc_Simpl_FrmForm_impl_FrmForm⟩
def S_slices_ContainsFunc_Simpl_FrmForm_impl_FrmForm : Sig := .d ⟨[(.one (.s)), (.one (.d))], (.one (.one (.b))), true⟩
def H_slices_ContainsFunc_Simpl_FrmForm_impl_FrmForm : Hint := ⟨[0, 1, 4], 0, [], [], false, [], []⟩
def E_slices_ContainsFunc_Simpl_FrmForm_impl_FrmForm : Entry := ⟨S_slices_ContainsFunc_Simpl_FrmForm_impl_FrmForm, .r H_slices_ContainsFunc_Simpl_FrmForm_impl_FrmForm R_slices_ContainsFunc_Simpl_FrmForm_impl_FrmForm⟩
def S_impl_FrmInto_1 : Sig := .d ⟨[(.g [.s, .s, .i .i64])], (.one (.one (.b))), true⟩
def H_impl_FrmInto_1 : Hint := ⟨[0, 1, 2], 0, [], [], false, [], []⟩
def E_impl_FrmInto_1 : Entry := ⟨S_impl_FrmInto_1, .r H_impl_FrmInto_1 R_impl_FrmInto_1⟩
def S_impl_FrmForm_add : Sig := .x ⟨[(.p 0 0), (.g [(.d (.s (.v 3))), (.d (.s (.v 4))), (.d (.vi .i64 (.v 5)))]), (.d (.vi .i64 (.v 6)))], [(.box [(.o 1 (.v 0)), (.o 2 (.v 1)), (.d (.vi .i64 (.v 2)))]), (.arr 3 1 (.v 0) false true), (.arr 3 1 (.v 1) false true)], [.s, .s, .i .i64, .s, .s, .i .i64, .i .i64], (.t []), [(.box [(.o 1 (.v 1)), (.o 2 (.v 2)), (.d (.vi .i64 (.v 0)))]), (.arr 3 1 (.v 1) false true), (.arr 3 1 (.v 2) false true)], [.i .i64, .s, .s], false⟩
def H_impl_FrmForm_add : Hint := ⟨[0, 1, 2, 4, 6, 7, 8, 9, 11, 12, 13, 14, 32, 33, 34, 35], 3, [], [(7, ⟨[34], [], [2], [], []⟩), (2, ⟨[13], [], [1], [], []⟩)], false, [], []⟩
def E_impl_FrmForm_add : Entry := ⟨S_impl_FrmForm_add, .r H_impl_FrmForm_add R_impl_FrmForm_add⟩
def S_impl_checked : Sig := .x ⟨[(.g [(.o 0 (.v 0)), (.o 1 (.v 1)), (.d (.vi .i64 (.v 2)))])], [(.arr 3 1 (.v 0) false true), (.arr 3 1 (.v 1) false true)], [.s, .s, .i .i64], (.g [(.o 2 (.v 0)), (.o 3 (.v 1)), (.d (.vi .i64 (.v 2)))]), [.dead, .dead, (.arr 3 1 (.v 0) false true), (.arr 3 1 (.v 1) false true)], [.s, .s, .i .i64], false⟩
def H_impl_checked : Hint := ⟨[0, 1, 2, 5], 2, [(999999, ⟨(.cell 32 0), 900000, 3, 1, false, true⟩), (999999, ⟨(.cell 32 1), 900001, 3, 1, false, true⟩), (999999, ⟨(.kill 0), 910000, 0, 0, false, false⟩), (999999, ⟨(.kill 1), 910001, 0, 0, false, false⟩)], [], false, [], []⟩
def E_impl_checked : Entry := ⟨S_impl_checked, .r H_impl_checked R_impl_checked⟩
def S_impl_FrmInto : Sig := .x ⟨[(.g [(.d (.s (.v 0))), (.d (.s (.v 1))), (.d (.vi .i64 (.v 2)))]), (.d (.s (.v 3)))], [], [.s, .s, .i .i64, .s], (.g [(.o 0 (.v 0)), (.o 1 (.v 1)), (.d (.vi .i64 (.v 2)))]), [(.arr 3 1 (.v 0) false true), (.arr 3 1 (.v 1) false true)], [.s, .s, .i .i64], false⟩
def H_impl_FrmInto : Hint := ⟨[0, 1, 2, 4, 5, 6, 7, 19, 22, 23, 24, 25], 0, [(999999, ⟨(.cell 64 0), 900000, 3, 1, false, false⟩), (999999, ⟨(.cell 64 1), 900001, 3, 1, false, false⟩)], [(5, ⟨[24], [(80, 2)], [336, 337], [], []⟩)], false, [], []⟩
def E_impl_FrmInto : Entry := ⟨S_impl_FrmInto, .r H_impl_FrmInto R_impl_FrmInto⟩
def S_impl_FrmTimes : Sig := .x ⟨[(.g [(.d (.s (.v 0))), (.d (.s (.v 1))), (.d (.vi .i64 (.v 2)))]), (.d (.vi .i64 (.v 3)))], [], [.s, .s, .i .i64, .i .i64], (.g [(.o 0 (.v 0)), (.o 1 (.v 1)), (.d (.vi .i64 (.v 2)))]), [(.arr 3 1 (.v 0) false true), (.arr 3 1 (.v 1) false true)], [.s, .s, .i .i64], false⟩
def H_impl_FrmTimes : Hint := ⟨[0, 1, 2, 4, 5, 13], 0, [(999999, ⟨(.cell 64 0), 900000, 3, 1, false, false⟩), (999999, ⟨(.cell 64 1), 900001, 3, 1, false, false⟩)], [], false, [], []⟩
def E_impl_FrmTimes : Entry := ⟨S_impl_FrmTimes, .r H_impl_FrmTimes R_impl_FrmTimes⟩
def S_impl_FrmAdd : Sig := .x ⟨[(.g [(.d (.s (.v 0))), (.d (.s (.v 1))), (.d (.vi .i64 (.v 2)))]), (.g [(.d (.s (.v 3))), (.d (.s (.v 4))), (.d (.vi .i64 (.v 5)))])], [], [.s, .s, .i .i64, .s, .s, .i .i64], (.g [(.o 0 (.v 0)), (.o 1 (.v 1)), (.d (.vi .i64 (.v 2)))]), [(.arr 3 1 (.v 0) false true), (.arr 3 1 (.v 1) false true)], [.s, .s, .i .i64], false⟩
def H_impl_FrmAdd : Hint := ⟨[0, 1, 2, 3, 4, 5, 13], 0, [(999999, ⟨(.cell 64 0), 900000, 3, 1, false, false⟩), (999999, ⟨(.cell 64 1), 900001, 3, 1, false, false⟩)], [], false, [], []⟩
def E_impl_FrmAdd : Entry := ⟨S_impl_FrmAdd, .r H_impl_FrmAdd R_impl_FrmAdd⟩
def S_impl_walker_walk : Sig := .x ⟨[(.p 0 0), (.d (.vi .i64 (.v 2))), (.d (.s (.v 3))), (.d (.s (.v 4))), (.d (.s (.v 5)))], [(.box [(.d (.s (.v 0))), (.o 1 (.v 1))]), (.arr 80 4 (.v 1) true true)], [.s, .s, .i .i64, .s, .s, .s], (.t []), [(.box [(.d (.s (.v 0))), (.o 1 (.v 1))]), (.arr 80 4 (.v 1) true true)], [.s, .s], false⟩
def H_impl_walker_walk : Hint := ⟨[0, 1, 2, 3, 4, 10, 11, 12, 13, 14, 15, 22, 34, 52, 53, 83, 98, 110, 111, 112, 113], 2, [(20, ⟨(.cell 208 1), 217, 82, 3, true, false⟩)], [(20, ⟨[112], [], [217], [], []⟩), (0, ⟨[1, 4, 3, 2], [(0, 0)], [1], [], []⟩)], true, [50, 59, 61, 62, 64, 66, 67, 69, 75, 77, 78, 86, 96, 101, 103, 104, 121, 122, 123], []⟩
def E_impl_walker_walk : Entry := ⟨S_impl_walker_walk, .r H_impl_walker_walk R_impl_walker_walk⟩
def S_impl_RowsOf : Sig := .x ⟨[(.d (.s (.v 0)))], [], [.s], (.o 0 (.v 0)), [(.arr 80 4 (.v 0) true true)], [.s], false⟩
def H_impl_RowsOf : Hint := ⟨[0, 2, 3, 4, 5, 8, 12, 13], 0, [(10, ⟨(.cell 176 1), 185, 80, 4, true, false⟩), (6, ⟨(.slot 4), 79, 82, 3, true, false⟩), (999999, ⟨(.slot 2), 900000, 80, 4, true, false⟩)], [(6, ⟨[12], [], [79], [], []⟩)], true, [], []⟩
def E_impl_RowsOf : Entry := ⟨S_impl_RowsOf, .r H_impl_RowsOf R_impl_RowsOf⟩
def S_impl_CatPart_1 : Sig := .d ⟨[(.one (.i .i64))], (.one (.one (.b))), true⟩
def H_impl_CatPart_1 : Hint := ⟨[0, 2], 0, [], [], false, [], []⟩
def E_impl_CatPart_1 : Entry := ⟨S_impl_CatPart_1, .r H_impl_CatPart_1 R_impl_CatPart_1⟩
def S_impl_CatPart : Sig := .x ⟨[(.g [(.d (.s (.v 0))), (.d (.s (.v 1))), (.d (.vi .i64 (.v 2)))])], [], [.s, .s, .i .i64], (.o 0 (.v 0)), [(.arr 3 1 (.v 0) false true)], [.s], false⟩
def H_impl_CatPart : Hint := ⟨[0, 1, 2, 3, 4, 5, 19, 21, 22, 23], 0, [], [(5, ⟨[22], [], [128], [], []⟩)], false, [], []⟩
def E_impl_CatPart : Entry := ⟨S_impl_CatPart, .r H_impl_CatPart R_impl_CatPart⟩
def S_impl_zeros_1 : Sig := .d ⟨[(.one (.i .i64))], (.one (.one (.b))), true⟩
def H_impl_zeros_1 : Hint := ⟨[0, 2], 0, [], [], false, [], []⟩
def E_impl_zeros_1 : Entry := ⟨S_impl_zeros_1, .r H_impl_zeros_1 R_impl_zeros_1⟩
def S_impl_zeros : Sig := .d ⟨[(.one (.s))], (.one (.one (.b))), true⟩
def H_impl_zeros : Hint := ⟨[0, 2], 0, [], [], false, [], []⟩
def E_impl_zeros : Entry := ⟨S_impl_zeros, .r H_impl_zeros R_impl_zeros⟩
def S_impl_CatHas_1 : Sig := .d ⟨[(.one (.s)), (.one (.d))], (.one (.one (.b))), true⟩
def H_impl_CatHas_1 : Hint := ⟨[0, 1, 3], 0, [], [], false, [], []⟩
def E_impl_CatHas_1 : Entry := ⟨S_impl_CatHas_1, .r H_impl_CatHas_1 R_impl_CatHas_1⟩
def S_slices_IndexFunc_SSint_Sint : Sig := .d ⟨[(.one (.s)), (.one (.d))], (.one (.one (.i .i64))), true⟩
def H_slices_IndexFunc_SSint_Sint : Hint := ⟨[0, 1, 4, 5, 7, 8, 9, 16], 0, [], [(2, ⟨[8], [], [], [], []⟩)], false, [], []⟩
def E_slices_IndexFunc_SSint_Sint : Entry := ⟨S_slices_IndexFunc_SSint_Sint, .r H_slices_IndexFunc_SSint_Sint R_slices_IndexFunc_SSint_Sint⟩
def S_impl_CatHas : Sig := .d ⟨[(.one (.s)), (.one (.s))], (.one (.one (.i .i64))), true⟩
def H_impl_CatHas : Hint := ⟨[0, 1, 3, 4], 0, [], [], false, [], []⟩
def E_impl_CatHas : Entry := ⟨S_impl_CatHas, .r H_impl_CatHas R_impl_CatHas⟩
def S_impl_CatForms : Sig := .x ⟨[(.d (.s (.v 0)))], [], [.s], (.o 0 (.v 0)), [(.arr 49 1 (.v 0) true true)], [.s], true⟩
def H_impl_CatForms : Hint := ⟨[0, 2, 3, 4, 6, 8, 10, 11, 14, 15, 16, 25, 26, 27, 28, 32, 33, 34, 35, 39, 40, 41, 42, 55], 0, [(5, ⟨(.slot 3), 63, 49, 1, true, false⟩), (999999, ⟨(.slot 2), 900000, 49, 1, true, false⟩)], [(10, ⟨[27], [], [63], [], []⟩), (13, ⟨[34], [], [63], [], []⟩), (16, ⟨[41], [], [63], [], []⟩), (5, ⟨[15], [], [63], [], []⟩)], true, [32], []⟩
def E_impl_CatForms : Entry := ⟨S_impl_CatForms, .r H_impl_CatForms R_impl_CatForms⟩
def S_laws_eqIntS : Sig := .d ⟨[(.one (.s)), (.one (.s))], (.one (.one (.b))), true⟩
def H_laws_eqIntS : Hint := ⟨[0, 1, 4, 5, 10, 14, 25], 0, [], [(4, ⟨[5], [], [], [], []⟩)], false, [], []⟩
def E_laws_eqIntS : Entry := ⟨S_laws_eqIntS, .r H_laws_eqIntS R_laws_eqIntS⟩
def S_laws_eqIntSS : Sig := .d ⟨[(.one (.s)), (.one (.s))], (.one (.one (.b))), true⟩
def H_laws_eqIntSS : Hint := ⟨[0, 1, 4, 5, 10, 14, 26], 0, [], [(4, ⟨[5], [], [], [], []⟩)], false, [], []⟩
def E_laws_eqIntSS : Entry := ⟨S_laws_eqIntSS, .r H_laws_eqIntSS R_laws_eqIntSS⟩
def S_laws_eqFrmForm : Sig := .d ⟨[(.g [.s, .s, .i .i64]), (.g [.s, .s, .i .i64])], (.one (.one (.b))), true⟩
def H_laws_eqFrmForm : Hint := ⟨[0, 1, 2, 3, 4, 10, 16, 21], 0, [], [], false, [], []⟩
def E_laws_eqFrmForm : Entry := ⟨S_laws_eqFrmForm, .r H_laws_eqFrmForm R_laws_eqFrmForm⟩
def S_laws_eqActLine : Sig := .d ⟨[(.g [.i .i64, .i .i64, .i .i64, .s, .s, .i .i64]), (.g [.i .i64, .i .i64, .i .i64, .s, .s, .i .i64])], (.one (.one (.b))), true⟩
def H_laws_eqActLine : Hint := ⟨[0, 1, 2, 3, 4, 9, 14, 19, 25], 0, [], [], false, [], []⟩
def E_laws_eqActLine : Entry := ⟨S_laws_eqActLine, .r H_laws_eqActLine R_laws_eqActLine⟩
def S_laws_eqActLineS : Sig := .d ⟨[(.one (.s)), (.one (.s))], (.one (.one (.b))), true⟩
def H_laws_eqActLineS : Hint := ⟨[0, 1, 4, 5, 10, 14, 26], 0, [], [(4, ⟨[5], [], [], [], []⟩)], false, [], []⟩
def E_laws_eqActLineS : Entry := ⟨S_laws_eqActLineS, .r H_laws_eqActLineS R_laws_eqActLineS⟩
def S_laws_eqActLineSS : Sig := .d ⟨[(.one (.s)), (.one (.s))], (.one (.one (.b))), true⟩
def H_laws_eqActLineSS : Hint := ⟨[0, 1, 4, 5, 10, 14, 26], 0, [], [(4, ⟨[5], [], [], [], []⟩)], false, [], []⟩
def E_laws_eqActLineSS : Entry := ⟨S_laws_eqActLineSS, .r H_laws_eqActLineSS R_laws_eqActLineSS⟩
def S_laws_markIntS : Sig := .x ⟨[(.o 0 (.v 0)), (.d (.vi .i64 (.v 1)))], [(.arr 3 1 (.v 0) true true)], [.s, .i .i64], (.d (.vi .i64 (.v 0))), [(.arr 3 1 (.v 1) true true)], [.i .i64, .s], false⟩
def H_laws_markIntS : Hint := ⟨[0, 1, 4, 5, 9], 1, [], [(2, ⟨[5, 1], [], [0], [], []⟩)], false, [], []⟩
def E_laws_markIntS : Entry := ⟨S_laws_markIntS, .r H_laws_markIntS R_laws_markIntS⟩
def S_laws_markActLineS : Sig := .x ⟨[(.o 0 (.v 0)), (.d (.vi .i64 (.v 1)))], [(.arr 84 6 (.v 0) true true)], [.s, .i .i64], (.d (.vi .i64 (.v 0))), [(.arr 84 6 (.v 1) true true)], [.i .i64, .s], false⟩
def H_laws_markActLineS : Hint := ⟨[0, 1, 4, 5, 9], 1, [], [(2, ⟨[5, 1], [], [0], [], []⟩)], false, [], [10, 11]⟩
def E_laws_markActLineS : Entry := ⟨S_laws_markActLineS, .r H_laws_markActLineS R_laws_markActLineS⟩
def S_laws_markActLineSS : Sig := .x ⟨[(.o 0 (.v 0)), (.d (.vi .i64 (.v 1)))], [(.arr 26 1 (.v 0) true true)], [.s, .i .i64], (.d (.vi .i64 (.v 0))), [(.arr 26 1 (.v 1) true true)], [.i .i64, .s], false⟩
def H_laws_markActLineSS : Hint := ⟨[0, 1, 4, 5, 9], 1, [], [(2, ⟨[5, 1], [], [0], [], []⟩)], false, [], [4]⟩
def E_laws_markActLineSS : Entry := ⟨S_laws_markActLineSS, .r H_laws_markActLineSS R_laws_markActLineSS⟩
def S_laws_markIntSS : Sig := .x ⟨[(.o 0 (.v 0)), (.d (.vi .i64 (.v 1)))], [(.arr 49 1 (.v 0) true true)], [.s, .i .i64], (.d (.vi .i64 (.v 0))), [(.arr 49 1 (.v 1) true true)], [.i .i64, .s], false⟩
def H_laws_markIntSS : Hint := ⟨[0, 1, 4, 5, 9], 1, [], [(2, ⟨[5, 1], [], [0], [], []⟩)], false, [], [4]⟩
def E_laws_markIntSS : Entry := ⟨S_laws_markIntSS, .r H_laws_markIntSS R_laws_markIntSS⟩
def S_laws_heldIntS : Sig := .d ⟨[(.one (.s)), (.one (.i .i64))], (.one (.one (.i .i64))), true⟩
def H_laws_heldIntS : Hint := ⟨[0, 1, 4, 5, 9, 17], 0, [], [(2, ⟨[5, 1], [], [], [], []⟩)], false, [], []⟩
def E_laws_heldIntS : Entry := ⟨S_laws_heldIntS, .r H_laws_heldIntS R_laws_heldIntS⟩
def S_laws_heldIntSS : Sig := .d ⟨[(.one (.s)), (.one (.i .i64))], (.one (.one (.i .i64))), true⟩
def H_laws_heldIntSS : Hint := ⟨[0, 1, 4, 5, 9, 19], 0, [], [(2, ⟨[5, 1], [], [], [], []⟩)], false, [], []⟩
def E_laws_heldIntSS : Entry := ⟨S_laws_heldIntSS, .r H_laws_heldIntSS R_laws_heldIntSS⟩
def S_laws_FnExactCatForms : Sig := .d ⟨[(.one (.s))], (.one (.one (.b))), true⟩
def H_laws_FnExactCatForms : Hint := ⟨[0, 2, 3, 4, 5, 6, 7, 8, 9, 10, 15, 26, 31, 42, 50, 53, 60, 65, 68], 0, [], [], true, [], []⟩
def E_laws_FnExactCatForms : Entry := ⟨S_laws_FnExactCatForms, .r H_laws_FnExactCatForms R_laws_FnExactCatForms⟩
def L : Tabl := [(f_laws_szIntS, E_laws_szIntS), (f_laws_szFrmForm, E_laws_szFrmForm), (f_laws_szActLine, E_laws_szActLine), (f_laws_szActLineS, E_laws_szActLineS), (f_laws_szActLineSS, E_laws_szActLineSS), (f_laws_toIntS, E_laws_toIntS), (f_laws_toFrmForm, E_laws_toFrmForm), (f_laws_toActLine, E_laws_toActLine), (f_laws_toActLineS, E_laws_toActLineS), (f_laws_toActLineSS, E_laws_toActLineSS), (f_spec_l1In, E_spec_l1In), (f_spec_l1All, E_spec_l1All), (f_spec_l2Small, E_spec_l2Small), (f_spec_l2Line, E_spec_l2Line), (f_spec_ActOk, E_spec_ActOk), (f_spec_CatOk, E_spec_CatOk), (f_spec_FrmZero, E_spec_FrmZero), (f_spec_FrmPot, E_spec_FrmPot), (f_spec_l1Sum, E_spec_l1Sum), (f_spec_l3Copy, E_spec_l3Copy), (f_spec_FrmOk, E_spec_FrmOk), (f_spec_FrmInto, E_spec_FrmInto), (f_spec_l3Minus, E_spec_l3Minus), (f_spec_l3Row, E_spec_l3Row), (f_spec_l3Walk, E_spec_l3Walk), (f_spec_RowsOf, E_spec_RowsOf), (f_spec_l4Reads, E_spec_l4Reads), (f_spec_CatPart, E_spec_CatPart), (f_spec_l4Same, E_spec_l4Same), (f_spec_CatHas, E_spec_CatHas), (f_spec_l4Both, E_spec_l4Both), (f_spec_CatForms, E_spec_CatForms), (f_impl_in, E_impl_in), (f_slices_IndexFunc_SSimpl_ActLine_Simpl_ActLine, E_slices_IndexFunc_SSimpl_ActLine_Simpl_ActLine), (f_slices_ContainsFunc_SSimpl_ActLine_Simpl_ActLine, E_slices_ContainsFunc_SSimpl_ActLine_Simpl_ActLine), (f_impl_within_1, E_impl_within_1), (f_slices_IndexFunc_Sint_int, E_slices_IndexFunc_Sint_int), (f_slices_ContainsFunc_Sint_int, E_slices_ContainsFunc_Sint_int), (f_impl_within, E_impl_within), (f_impl_FrmForm_small, E_impl_FrmForm_small), (f_slices_Equal_Sint_int, E_slices_Equal_Sint_int), (f_impl_FrmForm_same, E_impl_FrmForm_same), (f_impl_ActLine_ok, E_impl_ActLine_ok), (f_impl_ActOk, E_impl_ActOk), (f_impl_CatOk_1, E_impl_CatOk_1), (f_impl_CatOk, E_impl_CatOk), (f_impl_FrmZero, E_impl_FrmZero), (f_impl_FrmPot, E_impl_FrmPot), (f_slices_Clone_Sint_int, E_slices_Clone_Sint_int), (f_impl_FrmForm_copied, E_impl_FrmForm_copied), (f_impl_forms, E_impl_forms), (f_impl_FrmOk, E_impl_FrmOk), (f_slices_IndexFunc_Simpl_FrmForm_impl_FrmForm, E_slices_IndexFunc_Simpl_FrmForm_impl_FrmForm), (f_slices_ContainsFunc_Simpl_FrmForm_impl_FrmForm, E_slices_ContainsFunc_Simpl_FrmForm_impl_FrmForm), (f_impl_FrmInto_1, E_impl_FrmInto_1), (f_impl_FrmForm_add, E_impl_FrmForm_add), (f_impl_checked, E_impl_checked), (f_impl_FrmInto, E_impl_FrmInto), (f_impl_FrmTimes, E_impl_FrmTimes), (f_impl_FrmAdd, E_impl_FrmAdd), (f_impl_walker_walk, E_impl_walker_walk), (f_impl_RowsOf, E_impl_RowsOf), (f_impl_CatPart_1, E_impl_CatPart_1), (f_impl_CatPart, E_impl_CatPart), (f_impl_zeros_1, E_impl_zeros_1), (f_impl_zeros, E_impl_zeros), (f_impl_CatHas_1, E_impl_CatHas_1), (f_slices_IndexFunc_SSint_Sint, E_slices_IndexFunc_SSint_Sint), (f_impl_CatHas, E_impl_CatHas), (f_impl_CatForms, E_impl_CatForms), (f_laws_eqIntS, E_laws_eqIntS), (f_laws_eqIntSS, E_laws_eqIntSS), (f_laws_eqFrmForm, E_laws_eqFrmForm), (f_laws_eqActLine, E_laws_eqActLine), (f_laws_eqActLineS, E_laws_eqActLineS), (f_laws_eqActLineSS, E_laws_eqActLineSS), (f_laws_markIntS, E_laws_markIntS), (f_laws_markActLineS, E_laws_markActLineS), (f_laws_markActLineSS, E_laws_markActLineSS), (f_laws_markIntSS, E_laws_markIntSS), (f_laws_heldIntS, E_laws_heldIntS), (f_laws_heldIntSS, E_laws_heldIntSS), (f_laws_FnExactCatForms, E_laws_FnExactCatForms)]
theorem L_laws_szIntS : L.lookup f_laws_szIntS = some ⟨S_laws_szIntS, .r H_laws_szIntS R_laws_szIntS⟩ := rfl
theorem L_laws_szFrmForm : L.lookup f_laws_szFrmForm = some ⟨S_laws_szFrmForm, .r H_laws_szFrmForm R_laws_szFrmForm⟩ := rfl
theorem L_laws_szActLine : L.lookup f_laws_szActLine = some ⟨S_laws_szActLine, .r H_laws_szActLine R_laws_szActLine⟩ := rfl
theorem L_laws_szActLineS : L.lookup f_laws_szActLineS = some ⟨S_laws_szActLineS, .r H_laws_szActLineS R_laws_szActLineS⟩ := rfl
theorem L_laws_szActLineSS : L.lookup f_laws_szActLineSS = some ⟨S_laws_szActLineSS, .r H_laws_szActLineSS R_laws_szActLineSS⟩ := rfl
theorem L_laws_toIntS : L.lookup f_laws_toIntS = some ⟨S_laws_toIntS, .r H_laws_toIntS R_laws_toIntS⟩ := rfl
theorem L_laws_toFrmForm : L.lookup f_laws_toFrmForm = some ⟨S_laws_toFrmForm, .r H_laws_toFrmForm R_laws_toFrmForm⟩ := rfl
theorem L_laws_toActLine : L.lookup f_laws_toActLine = some ⟨S_laws_toActLine, .r H_laws_toActLine R_laws_toActLine⟩ := rfl
theorem L_laws_toActLineS : L.lookup f_laws_toActLineS = some ⟨S_laws_toActLineS, .r H_laws_toActLineS R_laws_toActLineS⟩ := rfl
theorem L_laws_toActLineSS : L.lookup f_laws_toActLineSS = some ⟨S_laws_toActLineSS, .r H_laws_toActLineSS R_laws_toActLineSS⟩ := rfl
theorem L_spec_l1In : L.lookup f_spec_l1In = some ⟨S_spec_l1In, .r H_spec_l1In R_spec_l1In⟩ := rfl
theorem L_spec_l1All : L.lookup f_spec_l1All = some ⟨S_spec_l1All, .r H_spec_l1All R_spec_l1All⟩ := rfl
theorem L_spec_l2Small : L.lookup f_spec_l2Small = some ⟨S_spec_l2Small, .r H_spec_l2Small R_spec_l2Small⟩ := rfl
theorem L_spec_l2Line : L.lookup f_spec_l2Line = some ⟨S_spec_l2Line, .r H_spec_l2Line R_spec_l2Line⟩ := rfl
theorem L_spec_ActOk : L.lookup f_spec_ActOk = some ⟨S_spec_ActOk, .r H_spec_ActOk R_spec_ActOk⟩ := rfl
theorem L_spec_CatOk : L.lookup f_spec_CatOk = some ⟨S_spec_CatOk, .r H_spec_CatOk R_spec_CatOk⟩ := rfl
theorem L_spec_FrmZero : L.lookup f_spec_FrmZero = some ⟨S_spec_FrmZero, .r H_spec_FrmZero R_spec_FrmZero⟩ := rfl
theorem L_spec_FrmPot : L.lookup f_spec_FrmPot = some ⟨S_spec_FrmPot, .r H_spec_FrmPot R_spec_FrmPot⟩ := rfl
theorem L_spec_l1Sum : L.lookup f_spec_l1Sum = some ⟨S_spec_l1Sum, .r H_spec_l1Sum R_spec_l1Sum⟩ := rfl
theorem L_spec_l3Copy : L.lookup f_spec_l3Copy = some ⟨S_spec_l3Copy, .r H_spec_l3Copy R_spec_l3Copy⟩ := rfl
theorem L_spec_FrmOk : L.lookup f_spec_FrmOk = some ⟨S_spec_FrmOk, .r H_spec_FrmOk R_spec_FrmOk⟩ := rfl
theorem L_spec_FrmInto : L.lookup f_spec_FrmInto = some ⟨S_spec_FrmInto, .r H_spec_FrmInto R_spec_FrmInto⟩ := rfl
theorem L_spec_l3Minus : L.lookup f_spec_l3Minus = some ⟨S_spec_l3Minus, .r H_spec_l3Minus R_spec_l3Minus⟩ := rfl
theorem L_spec_l3Row : L.lookup f_spec_l3Row = some ⟨S_spec_l3Row, .r H_spec_l3Row R_spec_l3Row⟩ := rfl
theorem L_spec_l3Walk : L.lookup f_spec_l3Walk = some ⟨S_spec_l3Walk, .r H_spec_l3Walk R_spec_l3Walk⟩ := rfl
theorem L_spec_RowsOf : L.lookup f_spec_RowsOf = some ⟨S_spec_RowsOf, .r H_spec_RowsOf R_spec_RowsOf⟩ := rfl
theorem L_spec_l4Reads : L.lookup f_spec_l4Reads = some ⟨S_spec_l4Reads, .r H_spec_l4Reads R_spec_l4Reads⟩ := rfl
theorem L_spec_CatPart : L.lookup f_spec_CatPart = some ⟨S_spec_CatPart, .r H_spec_CatPart R_spec_CatPart⟩ := rfl
theorem L_spec_l4Same : L.lookup f_spec_l4Same = some ⟨S_spec_l4Same, .r H_spec_l4Same R_spec_l4Same⟩ := rfl
theorem L_spec_CatHas : L.lookup f_spec_CatHas = some ⟨S_spec_CatHas, .r H_spec_CatHas R_spec_CatHas⟩ := rfl
theorem L_spec_l4Both : L.lookup f_spec_l4Both = some ⟨S_spec_l4Both, .r H_spec_l4Both R_spec_l4Both⟩ := rfl
theorem L_spec_CatForms : L.lookup f_spec_CatForms = some ⟨S_spec_CatForms, .r H_spec_CatForms R_spec_CatForms⟩ := rfl
theorem L_impl_in : L.lookup f_impl_in = some ⟨S_impl_in, .r H_impl_in R_impl_in⟩ := rfl
theorem L_slices_IndexFunc_SSimpl_ActLine_Simpl_ActLine : L.lookup f_slices_IndexFunc_SSimpl_ActLine_Simpl_ActLine = some ⟨S_slices_IndexFunc_SSimpl_ActLine_Simpl_ActLine, .r H_slices_IndexFunc_SSimpl_ActLine_Simpl_ActLine R_slices_IndexFunc_SSimpl_ActLine_Simpl_ActLine⟩ := rfl
theorem L_slices_ContainsFunc_SSimpl_ActLine_Simpl_ActLine : L.lookup f_slices_ContainsFunc_SSimpl_ActLine_Simpl_ActLine = some ⟨S_slices_ContainsFunc_SSimpl_ActLine_Simpl_ActLine, .r H_slices_ContainsFunc_SSimpl_ActLine_Simpl_ActLine R_slices_ContainsFunc_SSimpl_ActLine_Simpl_ActLine⟩ := rfl
theorem L_impl_within_1 : L.lookup f_impl_within_1 = some ⟨S_impl_within_1, .r H_impl_within_1 R_impl_within_1⟩ := rfl
theorem L_slices_IndexFunc_Sint_int : L.lookup f_slices_IndexFunc_Sint_int = some ⟨S_slices_IndexFunc_Sint_int, .r H_slices_IndexFunc_Sint_int R_slices_IndexFunc_Sint_int⟩ := rfl
theorem L_slices_ContainsFunc_Sint_int : L.lookup f_slices_ContainsFunc_Sint_int = some ⟨S_slices_ContainsFunc_Sint_int, .r H_slices_ContainsFunc_Sint_int R_slices_ContainsFunc_Sint_int⟩ := rfl
theorem L_impl_within : L.lookup f_impl_within = some ⟨S_impl_within, .r H_impl_within R_impl_within⟩ := rfl
theorem L_impl_FrmForm_small : L.lookup f_impl_FrmForm_small = some ⟨S_impl_FrmForm_small, .r H_impl_FrmForm_small R_impl_FrmForm_small⟩ := rfl
theorem L_slices_Equal_Sint_int : L.lookup f_slices_Equal_Sint_int = some ⟨S_slices_Equal_Sint_int, .r H_slices_Equal_Sint_int R_slices_Equal_Sint_int⟩ := rfl
theorem L_impl_FrmForm_same : L.lookup f_impl_FrmForm_same = some ⟨S_impl_FrmForm_same, .r H_impl_FrmForm_same R_impl_FrmForm_same⟩ := rfl
theorem L_impl_ActLine_ok : L.lookup f_impl_ActLine_ok = some ⟨S_impl_ActLine_ok, .r H_impl_ActLine_ok R_impl_ActLine_ok⟩ := rfl
theorem L_impl_ActOk : L.lookup f_impl_ActOk = some ⟨S_impl_ActOk, .r H_impl_ActOk R_impl_ActOk⟩ := rfl
theorem L_impl_CatOk_1 : L.lookup f_impl_CatOk_1 = some ⟨S_impl_CatOk_1, .r H_impl_CatOk_1 R_impl_CatOk_1⟩ := rfl
theorem L_impl_CatOk : L.lookup f_impl_CatOk = some ⟨S_impl_CatOk, .r H_impl_CatOk R_impl_CatOk⟩ := rfl
theorem L_impl_FrmZero : L.lookup f_impl_FrmZero = some ⟨S_impl_FrmZero, .r H_impl_FrmZero R_impl_FrmZero⟩ := rfl
theorem L_impl_FrmPot : L.lookup f_impl_FrmPot = some ⟨S_impl_FrmPot, .r H_impl_FrmPot R_impl_FrmPot⟩ := rfl
theorem L_slices_Clone_Sint_int : L.lookup f_slices_Clone_Sint_int = some ⟨S_slices_Clone_Sint_int, .r H_slices_Clone_Sint_int R_slices_Clone_Sint_int⟩ := rfl
theorem L_impl_FrmForm_copied : L.lookup f_impl_FrmForm_copied = some ⟨S_impl_FrmForm_copied, .r H_impl_FrmForm_copied R_impl_FrmForm_copied⟩ := rfl
theorem L_impl_forms : L.lookup f_impl_forms = some ⟨S_impl_forms, .r H_impl_forms R_impl_forms⟩ := rfl
theorem L_impl_FrmOk : L.lookup f_impl_FrmOk = some ⟨S_impl_FrmOk, .r H_impl_FrmOk R_impl_FrmOk⟩ := rfl
theorem L_slices_IndexFunc_Simpl_FrmForm_impl_FrmForm : L.lookup f_slices_IndexFunc_Simpl_FrmForm_impl_FrmForm = some ⟨S_slices_IndexFunc_Simpl_FrmForm_impl_FrmForm, .r H_slices_IndexFunc_Simpl_FrmForm_impl_FrmForm R_slices_IndexFunc_Simpl_FrmForm_impl_FrmForm⟩ := rfl
theorem L_slices_ContainsFunc_Simpl_FrmForm_impl_FrmForm : L.lookup f_slices_ContainsFunc_Simpl_FrmForm_impl_FrmForm = some ⟨S_slices_ContainsFunc_Simpl_FrmForm_impl_FrmForm, .r H_slices_ContainsFunc_Simpl_FrmForm_impl_FrmForm R_slices_ContainsFunc_Simpl_FrmForm_impl_FrmForm⟩ := rfl
theorem L_impl_FrmInto_1 : L.lookup f_impl_FrmInto_1 = some ⟨S_impl_FrmInto_1, .r H_impl_FrmInto_1 R_impl_FrmInto_1⟩ := rfl
theorem L_impl_FrmForm_add : L.lookup f_impl_FrmForm_add = some ⟨S_impl_FrmForm_add, .r H_impl_FrmForm_add R_impl_FrmForm_add⟩ := rfl
theorem L_impl_checked : L.lookup f_impl_checked = some ⟨S_impl_checked, .r H_impl_checked R_impl_checked⟩ := rfl
theorem L_impl_FrmInto : L.lookup f_impl_FrmInto = some ⟨S_impl_FrmInto, .r H_impl_FrmInto R_impl_FrmInto⟩ := rfl
theorem L_impl_FrmTimes : L.lookup f_impl_FrmTimes = some ⟨S_impl_FrmTimes, .r H_impl_FrmTimes R_impl_FrmTimes⟩ := rfl
theorem L_impl_FrmAdd : L.lookup f_impl_FrmAdd = some ⟨S_impl_FrmAdd, .r H_impl_FrmAdd R_impl_FrmAdd⟩ := rfl
theorem L_impl_walker_walk : L.lookup f_impl_walker_walk = some ⟨S_impl_walker_walk, .r H_impl_walker_walk R_impl_walker_walk⟩ := rfl
theorem L_impl_RowsOf : L.lookup f_impl_RowsOf = some ⟨S_impl_RowsOf, .r H_impl_RowsOf R_impl_RowsOf⟩ := rfl
theorem L_impl_CatPart_1 : L.lookup f_impl_CatPart_1 = some ⟨S_impl_CatPart_1, .r H_impl_CatPart_1 R_impl_CatPart_1⟩ := rfl
theorem L_impl_CatPart : L.lookup f_impl_CatPart = some ⟨S_impl_CatPart, .r H_impl_CatPart R_impl_CatPart⟩ := rfl
theorem L_impl_zeros_1 : L.lookup f_impl_zeros_1 = some ⟨S_impl_zeros_1, .r H_impl_zeros_1 R_impl_zeros_1⟩ := rfl
theorem L_impl_zeros : L.lookup f_impl_zeros = some ⟨S_impl_zeros, .r H_impl_zeros R_impl_zeros⟩ := rfl
theorem L_impl_CatHas_1 : L.lookup f_impl_CatHas_1 = some ⟨S_impl_CatHas_1, .r H_impl_CatHas_1 R_impl_CatHas_1⟩ := rfl
theorem L_slices_IndexFunc_SSint_Sint : L.lookup f_slices_IndexFunc_SSint_Sint = some ⟨S_slices_IndexFunc_SSint_Sint, .r H_slices_IndexFunc_SSint_Sint R_slices_IndexFunc_SSint_Sint⟩ := rfl
theorem L_impl_CatHas : L.lookup f_impl_CatHas = some ⟨S_impl_CatHas, .r H_impl_CatHas R_impl_CatHas⟩ := rfl
theorem L_impl_CatForms : L.lookup f_impl_CatForms = some ⟨S_impl_CatForms, .r H_impl_CatForms R_impl_CatForms⟩ := rfl
theorem L_laws_eqIntS : L.lookup f_laws_eqIntS = some ⟨S_laws_eqIntS, .r H_laws_eqIntS R_laws_eqIntS⟩ := rfl
theorem L_laws_eqIntSS : L.lookup f_laws_eqIntSS = some ⟨S_laws_eqIntSS, .r H_laws_eqIntSS R_laws_eqIntSS⟩ := rfl
theorem L_laws_eqFrmForm : L.lookup f_laws_eqFrmForm = some ⟨S_laws_eqFrmForm, .r H_laws_eqFrmForm R_laws_eqFrmForm⟩ := rfl
theorem L_laws_eqActLine : L.lookup f_laws_eqActLine = some ⟨S_laws_eqActLine, .r H_laws_eqActLine R_laws_eqActLine⟩ := rfl
theorem L_laws_eqActLineS : L.lookup f_laws_eqActLineS = some ⟨S_laws_eqActLineS, .r H_laws_eqActLineS R_laws_eqActLineS⟩ := rfl
theorem L_laws_eqActLineSS : L.lookup f_laws_eqActLineSS = some ⟨S_laws_eqActLineSS, .r H_laws_eqActLineSS R_laws_eqActLineSS⟩ := rfl
theorem L_laws_markIntS : L.lookup f_laws_markIntS = some ⟨S_laws_markIntS, .r H_laws_markIntS R_laws_markIntS⟩ := rfl
theorem L_laws_markActLineS : L.lookup f_laws_markActLineS = some ⟨S_laws_markActLineS, .r H_laws_markActLineS R_laws_markActLineS⟩ := rfl
theorem L_laws_markActLineSS : L.lookup f_laws_markActLineSS = some ⟨S_laws_markActLineSS, .r H_laws_markActLineSS R_laws_markActLineSS⟩ := rfl
theorem L_laws_markIntSS : L.lookup f_laws_markIntSS = some ⟨S_laws_markIntSS, .r H_laws_markIntSS R_laws_markIntSS⟩ := rfl
theorem L_laws_heldIntS : L.lookup f_laws_heldIntS = some ⟨S_laws_heldIntS, .r H_laws_heldIntS R_laws_heldIntS⟩ := rfl
theorem L_laws_heldIntSS : L.lookup f_laws_heldIntSS = some ⟨S_laws_heldIntSS, .r H_laws_heldIntSS R_laws_heldIntSS⟩ := rfl
theorem L_laws_FnExactCatForms : L.lookup f_laws_FnExactCatForms = some ⟨S_laws_FnExactCatForms, .r H_laws_FnExactCatForms R_laws_FnExactCatForms⟩ := rfl
end Go.Proofs.Ytjmimbpcajogoaa

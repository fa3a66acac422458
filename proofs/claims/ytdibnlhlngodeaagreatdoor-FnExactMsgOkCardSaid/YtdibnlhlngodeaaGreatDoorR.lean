/- The residual programs of the functions, and the table of them. -/
import Derived.Test.YtdibnlhlngodeaaGreatDoorTd
namespace Go.Proofs.YtdibnlhlngodeaaGreatDoor
open Go Go.Tm
abbrev f_laws_szIntS : Nat := 52
abbrev f_laws_szFrmForm : Nat := 203
abbrev f_laws_szActLine : Nat := 157
abbrev f_laws_szActLineS : Nat := 103
abbrev f_laws_szActLineSS : Nat := 51
abbrev f_laws_szPlnPlan : Nat := 10
abbrev f_laws_szPlnCall : Nat := 23
abbrev f_laws_szResResult : Nat := 158
abbrev f_laws_szPlnDone : Nat := 104
abbrev f_laws_szPlnDoneS : Nat := 53
abbrev f_laws_szMsgMsg : Nat := 11
abbrev f_laws_toIntS : Nat := 56
abbrev f_laws_toFrmForm : Nat := 205
abbrev f_laws_toActLine : Nat := 160
abbrev f_laws_toActLineS : Nat := 110
abbrev f_laws_toActLineSS : Nat := 55
abbrev f_laws_toPlnPlan : Nat := 13
abbrev f_laws_toPlnCall : Nat := 25
abbrev f_laws_toResResult : Nat := 161
abbrev f_laws_toPlnDone : Nat := 111
abbrev f_laws_toPlnDoneS : Nat := 57
abbrev f_laws_toMsgMsg : Nat := 14
abbrev f_spec_l1In : Nat := 63
abbrev f_spec_l1All : Nat := 98
abbrev f_spec_l2Small : Nat := 241
abbrev f_spec_l2Line : Nat := 202
abbrev f_spec_ActOk : Nat := 156
abbrev f_spec_CatOk : Nat := 97
abbrev f_spec_ValOk : Nat := 108
abbrev f_spec_TrtOk : Nat := 99
abbrev f_spec_PlnOk : Nat := 47
abbrev f_spec_ArgOk : Nat := 138
abbrev f_spec_l6Call : Nat := 105
abbrev f_spec_l7Bare : Nat := 106
abbrev f_spec_l7Seqs : Nat := 107
abbrev f_spec_l1Digits : Nat := 242
abbrev f_spec_ResText : Nat := 204
abbrev f_spec_ResOk : Nat := 159
abbrev f_spec_l6Done : Nat := 109
abbrev f_spec_l7Ok : Nat := 54
abbrev f_spec_MsgOk : Nat := 12
abbrev f_impl_in : Nat := 112
abbrev f_slices_IndexFunc_SSimpl_ActLine_Simpl_ActLine : Nat := 206
abbrev f_slices_ContainsFunc_SSimpl_ActLine_Simpl_ActLine : Nat := 162
abbrev f_impl_within_1 : Nat := 166
abbrev f_slices_IndexFunc_Sint_int : Nat := 208
abbrev f_slices_ContainsFunc_Sint_int : Nat := 165
abbrev f_impl_within : Nat := 114
abbrev f_impl_FrmForm_small : Nat := 243
abbrev f_slices_Equal_Sint_int : Nat := 227
abbrev f_impl_FrmForm_same : Nat := 244
abbrev f_impl_ActLine_ok : Nat := 207
abbrev f_impl_ActOk : Nat := 164
abbrev f_impl_CatOk_1 : Nat := 163
abbrev f_impl_CatOk : Nat := 113
abbrev f_impl_PlnPlan_treaty : Nat := 116
abbrev f_impl_TrtOk_1 : Nat := 167
abbrev f_impl_ValOk : Nat := 122
abbrev f_impl_TrtOk : Nat := 115
abbrev f_impl_PlnOk : Nat := 58
abbrev f_impl_PlnCall_none : Nat := 117
abbrev f_impl_PlnPlan_isClient : Nat := 168
abbrev f_impl_ArgOk : Nat := 169
abbrev f_impl_PlnPlan_callOk : Nat := 118
abbrev f_impl_PlnPlan_isSite : Nat := 119
abbrev f_impl_addedOk : Nat := 120
abbrev f_impl_PlnPlan_seqsOk_1 : Nat := 170
abbrev f_impl_PlnPlan_seqsOk : Nat := 121
abbrev f_slices_IndexFunc_Simpl_PlnDone_impl_PlnDone : Nat := 209
abbrev f_slices_ContainsFunc_Simpl_PlnDone_impl_PlnDone : Nat := 171
abbrev f_impl_ResResult_none : Nat := 210
abbrev f_impl_codeWords : Nat := 257
abbrev f_impl_joined : Nat := 258
abbrev f_impl_ResText : Nat := 245
abbrev f_impl_ResOk : Nat := 211
abbrev f_impl_PlnDone_ok : Nat := 173
abbrev f_impl_PlnPlan_doneOk_1 : Nat := 172
abbrev f_impl_PlnPlan_doneOk : Nat := 123
abbrev f_impl_PlnPlan_msgOk : Nat := 59
abbrev f_impl_MsgOk : Nat := 15
abbrev f_laws_eqIntS : Nat := 61
abbrev f_laws_eqFrmForm : Nat := 212
abbrev f_laws_eqActLine : Nat := 174
abbrev f_laws_eqActLineS : Nat := 124
abbrev f_laws_eqActLineSS : Nat := 60
abbrev f_laws_eqPlnPlan : Nat := 16
abbrev f_laws_eqPlnCall : Nat := 27
abbrev f_laws_eqResResult : Nat := 175
abbrev f_laws_eqPlnDone : Nat := 125
abbrev f_laws_eqPlnDoneS : Nat := 62
abbrev f_laws_eqMsgMsg : Nat := 17
abbrev f_laws_FnExactMsgOk : Nat := 3
/-- laws_szIntS -/
def R_laws_szIntS : R :=
  .ite (.cmp .lt (.bin .sub .i64 (.v 1) (.len (.v 0))) (.z 0))
   (
    .done [(.vi .i64 (.z (-1)))])
   (
    .done [(.vi .i64 (.bin .sub .i64 (.v 1) (.len (.v 0))))])
/-- laws_szFrmForm -/
def R_laws_szFrmForm : R :=
  .i (.call f_laws_szIntS [(.s (.v 0)), (.vi .i64 (.v 3))] [.i .i64] 4) <|
  .ite (.cmp .lt (.v 4) (.z 0))
   (
    .done [(.vi .i64 (.z (-1)))])
   (
    .i (.call f_laws_szIntS [(.s (.v 1)), (.vi .i64 (.v 4))] [.i .i64] 5) <|
    .ite (.cmp .lt (.v 5) (.z 0))
     (
      .done [(.vi .i64 (.z (-1)))])
     (
      .done [(.vi .i64 (.v 5))]))
/-- laws_szActLine -/
def R_laws_szActLine : R :=
  .i (.call f_laws_szFrmForm [(.s (.v 3)), (.s (.v 4)), (.vi .i64 (.v 5)), (.vi .i64 (.v 6))] [.i .i64] 7) <|
  .ite (.cmp .lt (.v 7) (.z 0))
   (
    .done [(.vi .i64 (.z (-1)))])
   (
    .done [(.vi .i64 (.v 7))])
/-- laws_szActLineS -/
def R_laws_szActLineS : R :=
  .ite (.cmp .lt (.bin .sub .i64 (.v 1) (.len (.v 0))) (.z 0))
   (
    .done [(.vi .i64 (.z (-1)))])
   (
    .loop 2 [(.bin .sub .i64 (.v 1) (.len (.v 0))), (.z 0)] <|
      .ite (.cmp .lt (.v 3) (.len (.v 0)))
       (
        .i (.idx (.v 0) (.v 3) (.g [.i .i64, .i .i64, .i .i64, .s, .s, .i .i64]) 4) <|
        .i (.call f_laws_szActLine [(.vi .i64 (.v 4)), (.vi .i64 (.v 5)), (.vi .i64 (.v 6)), (.s (.v 7)), (.s (.v 8)), (.vi .i64 (.v 9)), (.vi .i64 (.v 2))] [.i .i64] 10) <|
        .ite (.cmp .lt (.v 10) (.z 0))
         (
          .esc <|
          .done [(.vi .i64 (.z (-1)))])
         (
          .next [(.v 10), (.bin .add .i64 (.v 3) (.z 1))]))
       (
        .esc <|
        .done [(.vi .i64 (.v 2))]))
/-- laws_szActLineSS -/
def R_laws_szActLineSS : R :=
  .ite (.cmp .lt (.bin .sub .i64 (.v 1) (.len (.v 0))) (.z 0))
   (
    .done [(.vi .i64 (.z (-1)))])
   (
    .loop 2 [(.bin .sub .i64 (.v 1) (.len (.v 0))), (.z 0)] <|
      .ite (.cmp .lt (.v 3) (.len (.v 0)))
       (
        .i (.idx (.v 0) (.v 3) (.one (.s)) 4) <|
        .i (.call f_laws_szActLineS [(.s (.v 4)), (.vi .i64 (.v 2))] [.i .i64] 5) <|
        .ite (.cmp .lt (.v 5) (.z 0))
         (
          .esc <|
          .done [(.vi .i64 (.z (-1)))])
         (
          .next [(.v 5), (.bin .add .i64 (.v 3) (.z 1))]))
       (
        .esc <|
        .done [(.vi .i64 (.v 2))]))
/-- laws_szPlnPlan -/
def R_laws_szPlnPlan : R :=
  .i (.call f_laws_szActLineSS [(.s (.v 1)), (.vi .i64 (.v 4))] [.i .i64] 5) <|
  .ite (.cmp .lt (.v 5) (.z 0))
   (
    .done [(.vi .i64 (.z (-1)))])
   (
    .i (.call f_laws_szIntS [(.s (.v 2)), (.vi .i64 (.v 5))] [.i .i64] 6) <|
    .ite (.cmp .lt (.v 6) (.z 0))
     (
      .done [(.vi .i64 (.z (-1)))])
     (
      .i (.call f_laws_szIntS [(.s (.v 3)), (.vi .i64 (.v 6))] [.i .i64] 7) <|
      .ite (.cmp .lt (.v 7) (.z 0))
       (
        .done [(.vi .i64 (.z (-1)))])
       (
        .done [(.vi .i64 (.v 7))])))
/-- laws_szPlnCall -/
def R_laws_szPlnCall : R :=
  .i (.call f_laws_szIntS [(.s (.v 3)), (.vi .i64 (.v 4))] [.i .i64] 5) <|
  .ite (.cmp .lt (.v 5) (.z 0))
   (
    .done [(.vi .i64 (.z (-1)))])
   (
    .done [(.vi .i64 (.v 5))])
/-- laws_szResResult -/
def R_laws_szResResult : R :=
  .i (.call f_laws_szIntS [(.s (.v 1)), (.vi .i64 (.v 2))] [.i .i64] 3) <|
  .ite (.cmp .lt (.v 3) (.z 0))
   (
    .done [(.vi .i64 (.z (-1)))])
   (
    .done [(.vi .i64 (.v 3))])
/-- laws_szPlnDone -/
def R_laws_szPlnDone : R :=
  .i (.call f_laws_szResResult [(.vi .i64 (.v 1)), (.s (.v 2)), (.vi .i64 (.v 3))] [.i .i64] 4) <|
  .ite (.cmp .lt (.v 4) (.z 0))
   (
    .done [(.vi .i64 (.z (-1)))])
   (
    .done [(.vi .i64 (.v 4))])
/-- laws_szPlnDoneS -/
def R_laws_szPlnDoneS : R :=
  .ite (.cmp .lt (.bin .sub .i64 (.v 1) (.len (.v 0))) (.z 0))
   (
    .done [(.vi .i64 (.z (-1)))])
   (
    .loop 2 [(.bin .sub .i64 (.v 1) (.len (.v 0))), (.z 0)] <|
      .ite (.cmp .lt (.v 3) (.len (.v 0)))
       (
        .i (.idx (.v 0) (.v 3) (.g [.i .i64, .i .i64, .s]) 4) <|
        .i (.call f_laws_szPlnDone [(.vi .i64 (.v 4)), (.vi .i64 (.v 5)), (.s (.v 6)), (.vi .i64 (.v 2))] [.i .i64] 7) <|
        .ite (.cmp .lt (.v 7) (.z 0))
         (
          .esc <|
          .done [(.vi .i64 (.z (-1)))])
         (
          .next [(.v 7), (.bin .add .i64 (.v 3) (.z 1))]))
       (
        .esc <|
        .done [(.vi .i64 (.v 2))]))
/-- laws_szMsgMsg -/
def R_laws_szMsgMsg : R :=
  .i (.call f_laws_szPlnCall [(.vi .i64 (.v 4)), (.vi .i64 (.v 5)), (.vi .i64 (.v 6)), (.s (.v 7)), (.vi .i64 (.v 11))] [.i .i64] 12) <|
  .ite (.cmp .lt (.v 12) (.z 0))
   (
    .done [(.vi .i64 (.z (-1)))])
   (
    .i (.call f_laws_szIntS [(.s (.v 8)), (.vi .i64 (.v 12))] [.i .i64] 13) <|
    .ite (.cmp .lt (.v 13) (.z 0))
     (
      .done [(.vi .i64 (.z (-1)))])
     (
      .i (.call f_laws_szIntS [(.s (.v 9)), (.vi .i64 (.v 13))] [.i .i64] 14) <|
      .ite (.cmp .lt (.v 14) (.z 0))
       (
        .done [(.vi .i64 (.z (-1)))])
       (
        .i (.call f_laws_szPlnDoneS [(.s (.v 10)), (.vi .i64 (.v 14))] [.i .i64] 15) <|
        .ite (.cmp .lt (.v 15) (.z 0))
         (
          .done [(.vi .i64 (.z (-1)))])
         (
          .done [(.vi .i64 (.v 15))]))))
/-- laws_toIntS -/
def R_laws_toIntS : R :=
  .i (.chk (.cmp .le (.z 0) (.len (.v 0)))) <|
  .i (.chk (.cmp .le (.len (.v 0)) (.z 8796093022208))) <|
  .loop 1 [(.rep (.len (.v 0)) (.vi .i64 (.z 0))), (.z 0)] <|
    .ite (.cmp .lt (.v 2) (.len (.v 0)))
     (
      .i (.idx (.v 0) (.v 2) (.one (.i .i64)) 3) <|
      .i (.chk (.cmp .le (.z 0) (.v 2))) <|
      .i (.chk (.cmp .lt (.v 2) (.len (.v 1)))) <|
      .i (.idx (.v 1) (.v 2) (.one (.i .i64)) 4) <|
      .next [(.set (.v 1) (.v 2) (.vi .i64 (.v 3))), (.bin .add .i64 (.v 2) (.z 1))])
     (
      .esc <|
      .done [(.s (.v 1))])
/-- laws_toFrmForm -/
def R_laws_toFrmForm : R :=
  .i (.call f_laws_toIntS [(.s (.v 0))] [.s] 3) <|
  .i (.call f_laws_toIntS [(.s (.v 1))] [.s] 4) <|
  .done [(.s (.v 3)), (.s (.v 4)), (.vi .i64 (.v 2))]
/-- laws_toActLine -/
def R_laws_toActLine : R :=
  .i (.call f_laws_toFrmForm [(.s (.v 3)), (.s (.v 4)), (.vi .i64 (.v 5))] [.s, .s, .i .i64] 6) <|
  .done [(.vi .i64 (.v 0)), (.vi .i64 (.v 1)), (.vi .i64 (.v 2)), (.s (.v 6)), (.s (.v 7)), (.vi .i64 (.v 8))]
/-- laws_toActLineS -/
def R_laws_toActLineS : R :=
  .i (.chk (.cmp .le (.z 0) (.len (.v 0)))) <|
  .i (.chk (.cmp .le (.len (.v 0)) (.z 879609302220))) <|
  .loop 1 [(.rep (.len (.v 0)) (.g (.cons (.vi .i64 (.z 0)) (.cons (.vi .i64 (.z 0)) (.cons (.vi .i64 (.z 0)) (.cons (.s .nil) (.cons (.s .nil) (.cons (.vi .i64 (.z 0)) .nil)))))))), (.z 0)] <|
    .ite (.cmp .lt (.v 2) (.len (.v 0)))
     (
      .i (.idx (.v 0) (.v 2) (.g [.i .i64, .i .i64, .i .i64, .s, .s, .i .i64]) 3) <|
      .i (.call f_laws_toActLine [(.vi .i64 (.v 3)), (.vi .i64 (.v 4)), (.vi .i64 (.v 5)), (.s (.v 6)), (.s (.v 7)), (.vi .i64 (.v 8))] [.i .i64, .i .i64, .i .i64, .s, .s, .i .i64] 9) <|
      .i (.chk (.cmp .le (.z 0) (.v 2))) <|
      .i (.chk (.cmp .lt (.v 2) (.len (.v 1)))) <|
      .i (.idx (.v 1) (.v 2) (.g [.i .i64, .i .i64, .i .i64, .s, .s, .i .i64]) 15) <|
      .next [(.set (.v 1) (.v 2) (.g (.cons (.vi .i64 (.v 9)) (.cons (.vi .i64 (.v 10)) (.cons (.vi .i64 (.v 11)) (.cons (.s (.v 12)) (.cons (.s (.v 13)) (.cons (.vi .i64 (.v 14)) .nil)))))))), (.bin .add .i64 (.v 2) (.z 1))])
     (
      .esc <|
      .done [(.s (.v 1))])
/-- laws_toActLineSS -/
def R_laws_toActLineSS : R :=
  .i (.chk (.cmp .le (.z 0) (.len (.v 0)))) <|
  .i (.chk (.cmp .le (.len (.v 0)) (.z 2932031007402))) <|
  .loop 1 [(.rep (.len (.v 0)) (.s .nil)), (.z 0)] <|
    .ite (.cmp .lt (.v 2) (.len (.v 0)))
     (
      .i (.idx (.v 0) (.v 2) (.one (.s)) 3) <|
      .i (.call f_laws_toActLineS [(.s (.v 3))] [.s] 4) <|
      .i (.chk (.cmp .le (.z 0) (.v 2))) <|
      .i (.chk (.cmp .lt (.v 2) (.len (.v 1)))) <|
      .i (.idx (.v 1) (.v 2) (.one (.s)) 5) <|
      .next [(.set (.v 1) (.v 2) (.s (.v 4))), (.bin .add .i64 (.v 2) (.z 1))])
     (
      .esc <|
      .done [(.s (.v 1))])
/-- laws_toPlnPlan -/
def R_laws_toPlnPlan : R :=
  .i (.call f_laws_toActLineSS [(.s (.v 1))] [.s] 4) <|
  .i (.call f_laws_toIntS [(.s (.v 2))] [.s] 5) <|
  .i (.call f_laws_toIntS [(.s (.v 3))] [.s] 6) <|
  .done [(.vi .i64 (.v 0)), (.s (.v 4)), (.s (.v 5)), (.s (.v 6))]
/-- laws_toPlnCall -/
def R_laws_toPlnCall : R :=
  .i (.call f_laws_toIntS [(.s (.v 3))] [.s] 4) <|
  .done [(.vi .i64 (.v 0)), (.vi .i64 (.v 1)), (.vi .i64 (.v 2)), (.s (.v 4))]
/-- laws_toResResult -/
def R_laws_toResResult : R :=
  .i (.call f_laws_toIntS [(.s (.v 1))] [.s] 2) <|
  .done [(.vi .i64 (.v 0)), (.s (.v 2))]
/-- laws_toPlnDone -/
def R_laws_toPlnDone : R :=
  .i (.call f_laws_toResResult [(.vi .i64 (.v 1)), (.s (.v 2))] [.i .i64, .s] 3) <|
  .done [(.vi .i64 (.v 0)), (.vi .i64 (.v 3)), (.s (.v 4))]
/-- laws_toPlnDoneS -/
def R_laws_toPlnDoneS : R :=
  .i (.chk (.cmp .le (.z 0) (.len (.v 0)))) <|
  .i (.chk (.cmp .le (.len (.v 0)) (.z 1759218604441))) <|
  .loop 1 [(.rep (.len (.v 0)) (.g (.cons (.vi .i64 (.z 0)) (.cons (.vi .i64 (.z 0)) (.cons (.s .nil) .nil))))), (.z 0)] <|
    .ite (.cmp .lt (.v 2) (.len (.v 0)))
     (
      .i (.idx (.v 0) (.v 2) (.g [.i .i64, .i .i64, .s]) 3) <|
      .i (.call f_laws_toPlnDone [(.vi .i64 (.v 3)), (.vi .i64 (.v 4)), (.s (.v 5))] [.i .i64, .i .i64, .s] 6) <|
      .i (.chk (.cmp .le (.z 0) (.v 2))) <|
      .i (.chk (.cmp .lt (.v 2) (.len (.v 1)))) <|
      .i (.idx (.v 1) (.v 2) (.g [.i .i64, .i .i64, .s]) 9) <|
      .next [(.set (.v 1) (.v 2) (.g (.cons (.vi .i64 (.v 6)) (.cons (.vi .i64 (.v 7)) (.cons (.s (.v 8)) .nil))))), (.bin .add .i64 (.v 2) (.z 1))])
     (
      .esc <|
      .done [(.s (.v 1))])
/-- laws_toMsgMsg -/
def R_laws_toMsgMsg : R :=
  .i (.call f_laws_toPlnCall [(.vi .i64 (.v 4)), (.vi .i64 (.v 5)), (.vi .i64 (.v 6)), (.s (.v 7))] [.i .i64, .i .i64, .i .i64, .s] 11) <|
  .i (.call f_laws_toIntS [(.s (.v 8))] [.s] 15) <|
  .i (.call f_laws_toIntS [(.s (.v 9))] [.s] 16) <|
  .i (.call f_laws_toPlnDoneS [(.s (.v 10))] [.s] 17) <|
  .done [(.vi .i64 (.v 0)), (.vi .i64 (.v 1)), (.vi .i64 (.v 2)), (.vi .i64 (.v 3)), (.vi .i64 (.v 11)), (.vi .i64 (.v 12)), (.vi .i64 (.v 13)), (.s (.v 14)), (.s (.v 15)), (.s (.v 16)), (.s (.v 17))]
/-- spec_l1In -/
def R_spec_l1In : R :=
  .ite (.cmp .le (.v 1) (.v 0))
   (
    .done [(.vb (.cmp .le (.v 0) (.v 2)))])
   (
    .done [(.vb .ff)])
/-- spec_l1All -/
def R_spec_l1All : R :=
  .ite (.not (.cmp .eq (.len (.v 0)) (.v 1)))
   (
    .done [(.vb .ff)])
   (
    .loop 3 [(.z 0)] <|
      .ite (.cmp .lt (.v 3) (.len (.v 0)))
       (
        .i (.idx (.v 0) (.v 3) (.one (.i .i64)) 4) <|
        .i (.call f_spec_l1In [(.vi .i64 (.v 4)), (.vi .i64 (.bin .sub .i64 (.z 0) (.v 2))), (.vi .i64 (.v 2))] [.b] 5) <|
        .ite (.not (.v 5))
         (
          .esc <|
          .done [(.vb .ff)])
         (
          .next [(.bin .add .i64 (.v 3) (.z 1))]))
       (
        .esc <|
        .done [(.vb .tt)]))
/-- spec_l2Small -/
def R_spec_l2Small : R :=
  .i (.call f_spec_l1All [(.s (.v 0)), (.vi .i64 (.z 3)), (.vi .i64 (.z 2))] [.b] 3) <|
  .ite (.v 3)
   (
    .i (.call f_spec_l1All [(.s (.v 1)), (.vi .i64 (.z 2)), (.vi .i64 (.z 2))] [.b] 4) <|
    .ite (.v 4)
     (
      .i (.call f_spec_l1In [(.vi .i64 (.v 2)), (.vi .i64 (.z (-20))), (.vi .i64 (.z 20))] [.b] 5) <|
      .done [(.vb (.v 5))])
     (
      .done [(.vb .ff)]))
   (
    .done [(.vb .ff)])
/-- spec_l2Line -/
def R_spec_l2Line : R :=
  .ite (.cmp .eq (.v 0) (.z 1))
   (
    .ite (.cmp .eq (.v 1) (.z 0))
     (
      .i (.call f_spec_l1In [(.vi .i64 (.v 2)), (.vi .i64 (.z 1)), (.vi .i64 (.z 6))] [.b] 6) <|
      .ite (.v 6)
       (
        .i (.call f_spec_l2Small [(.s (.v 3)), (.s (.v 4)), (.vi .i64 (.v 5))] [.b] 7) <|
        .done [(.vb (.v 7))])
       (
        .done [(.vb .ff)]))
     (
      .done [(.vb .ff)]))
   (
    .ite (.cmp .eq (.v 0) (.z 2))
     (
      .i (.call f_spec_l1In [(.vi .i64 (.v 1)), (.vi .i64 (.z 0)), (.vi .i64 (.z 2))] [.b] 6) <|
      .ite (.v 6)
       (
        .ite (.cmp .eq (.v 2) (.z 0))
         (
          .i (.call f_spec_l2Small [(.s (.v 3)), (.s (.v 4)), (.vi .i64 (.v 5))] [.b] 7) <|
          .done [(.vb (.v 7))])
         (
          .done [(.vb .ff)]))
       (
        .done [(.vb .ff)]))
     (
      .ite (.cmp .eq (.v 0) (.z 3))
       (
        .ite (.cmp .eq (.v 1) (.z 0))
         (
          .ite (.cmp .eq (.v 2) (.z 0))
           (
            .i (.call f_spec_l2Small [(.s (.v 3)), (.s (.v 4)), (.vi .i64 (.v 5))] [.b] 6) <|
            .done [(.vb (.v 6))])
           (
            .done [(.vb .ff)]))
         (
          .done [(.vb .ff)]))
       (
        .ite (.cmp .eq (.v 0) (.z 4))
         (
          .ite (.cmp .eq (.v 1) (.z 0))
           (
            .ite (.cmp .eq (.v 2) (.z 0))
             (
              .ite (.cmp .eq (.bin .add .i64 (.len (.v 3)) (.len (.v 4))) (.z 0))
               (
                .done [(.vb (.cmp .eq (.v 5) (.z 0)))])
               (
                .done [(.vb .ff)]))
             (
              .done [(.vb .ff)]))
           (
            .done [(.vb .ff)]))
         (
          .done [(.vb .ff)]))))
/-- spec_ActOk -/
def R_spec_ActOk : R :=
  .loop 1 [(.z 0), (.z 0)] <|
    .ite (.cmp .lt (.v 2) (.len (.v 0)))
     (
      .i (.idx (.v 0) (.v 2) (.g [.i .i64, .i .i64, .i .i64, .s, .s, .i .i64]) 3) <|
      .i (.call f_spec_l2Line [(.vi .i64 (.v 3)), (.vi .i64 (.v 4)), (.vi .i64 (.v 5)), (.s (.v 6)), (.s (.v 7)), (.vi .i64 (.v 8))] [.b] 9) <|
      .ite (.not (.v 9))
       (
        .esc <|
        .done [(.vb .ff)])
       (
        .i (.idx (.v 0) (.v 2) (.g [.i .i64, .i .i64, .i .i64, .s, .s, .i .i64]) 10) <|
        .ite (.cmp .eq (.v 10) (.z 1))
         (
          .next [(.bin .add .i64 (.v 1) (.z 1)), (.bin .add .i64 (.v 2) (.z 1))])
         (
          .next [(.v 1), (.bin .add .i64 (.v 2) (.z 1))])))
     (
      .esc <|
      .ite (.cmp .le (.len (.v 0)) (.z 6))
       (
        .done [(.vb (.cmp .le (.v 1) (.z 3)))])
       (
        .done [(.vb .ff)]))
/-- spec_CatOk -/
def R_spec_CatOk : R :=
  .i (.call f_spec_l1In [(.vi .i64 (.len (.v 0))), (.vi .i64 (.z 1)), (.vi .i64 (.z 4))] [.b] 1) <|
  .ite (.not (.v 1))
   (
    .done [(.vb .ff)])
   (
    .loop 2 [(.z 0)] <|
      .ite (.cmp .lt (.v 2) (.len (.v 0)))
       (
        .i (.idx (.v 0) (.v 2) (.one (.s)) 3) <|
        .i (.call f_spec_ActOk [(.s (.v 3))] [.b] 4) <|
        .ite (.not (.v 4))
         (
          .esc <|
          .done [(.vb .ff)])
         (
          .next [(.bin .add .i64 (.v 2) (.z 1))]))
       (
        .esc <|
        .done [(.vb .tt)]))
/-- spec_ValOk -/
def R_spec_ValOk : R :=
  .i (.call f_spec_l1All [(.s (.v 0)), (.vi .i64 (.z 3)), (.vi .i64 (.z 10000))] [.b] 1) <|
  .done [(.vb (.v 1))]
/-- spec_TrtOk -/
def R_spec_TrtOk : R :=
  .i (.call f_spec_ValOk [(.s (.v 0))] [.b] 2) <|
  .ite (.not (.v 2))
   (
    .done [(.vb .ff)])
   (
    .i (.call f_spec_l1In [(.vi .i64 (.len (.v 1))), (.vi .i64 (.z 1)), (.vi .i64 (.z 3))] [.b] 3) <|
    .ite (.not (.v 3))
     (
      .done [(.vb .ff)])
     (
      .loop 4 [(.z 0)] <|
        .ite (.cmp .lt (.v 4) (.len (.v 1)))
         (
          .i (.idx (.v 1) (.v 4) (.one (.i .i64)) 5) <|
          .i (.call f_spec_l1In [(.vi .i64 (.v 5)), (.vi .i64 (.z 0)), (.vi .i64 (.z 50))] [.b] 6) <|
          .ite (.not (.v 6))
           (
            .esc <|
            .done [(.vb .ff)])
           (
            .next [(.bin .add .i64 (.v 4) (.z 1))]))
         (
          .esc <|
          .done [(.vb .tt)])))
/-- spec_PlnOk -/
def R_spec_PlnOk : R :=
  .i (.call f_spec_l1In [(.vi .i64 (.v 0)), (.vi .i64 (.z 1)), (.vi .i64 (.z 4))] [.b] 4) <|
  .ite (.v 4)
   (
    .i (.call f_spec_CatOk [(.s (.v 1))] [.b] 5) <|
    .ite (.v 5)
     (
      .i (.call f_spec_l1All [(.s (.v 3)), (.vi .i64 (.z 3)), (.vi .i64 (.z 1000))] [.b] 6) <|
      .ite (.v 6)
       (
        .i (.call f_spec_TrtOk [(.s (.v 3)), (.s (.v 2))] [.b] 7) <|
        .done [(.vb (.v 7))])
       (
        .done [(.vb .ff)]))
     (
      .done [(.vb .ff)]))
   (
    .done [(.vb .ff)])
/-- spec_ArgOk -/
def R_spec_ArgOk : R :=
  .i (.call f_spec_l1All [(.s (.v 0)), (.vi .i64 (.z 2)), (.vi .i64 (.z 9))] [.b] 1) <|
  .done [(.vb (.v 1))]
/-- spec_l6Call -/
def R_spec_l6Call : R :=
  .i (.call f_spec_l1In [(.vi .i64 (.v 4)), (.vi .i64 (.z 0)), (.vi .i64 (.bin .sub .i64 (.v 0) (.z 1)))] [.b] 8) <|
  .ite (.v 8)
   (
    .i (.call f_spec_l1In [(.vi .i64 (.v 5)), (.vi .i64 (.z 1)), (.vi .i64 (.z 300))] [.b] 9) <|
    .ite (.v 9)
     (
      .i (.call f_spec_l1In [(.vi .i64 (.v 6)), (.vi .i64 (.z 0)), (.vi .i64 (.bin .sub .i64 (.len (.v 1)) (.z 1)))] [.b] 10) <|
      .ite (.v 10)
       (
        .i (.call f_spec_ArgOk [(.s (.v 7))] [.b] 11) <|
        .done [(.vb (.v 11))])
       (
        .done [(.vb .ff)]))
     (
      .done [(.vb .ff)]))
   (
    .done [(.vb .ff)])
/-- spec_l7Bare -/
def R_spec_l7Bare : R :=
  .ite (.cmp .eq (.v 4) (.z 0))
   (
    .ite (.cmp .eq (.v 5) (.z 0))
     (
      .ite (.cmp .eq (.v 6) (.z 0))
       (
        .ite (.v 11)
         (
          .ite (.v 12)
           (
            .ite (.v 13)
             (
              .ite (.v 14)
               (
                .done [(.vb .tt)])
               (
                .done [(.vb (.cmp .eq (.len (.v 10)) (.z 0)))]))
             (
              .ite (.cmp .eq (.len (.v 9)) (.z 0))
               (
                .ite (.v 14)
                 (
                  .done [(.vb .tt)])
                 (
                  .done [(.vb (.cmp .eq (.len (.v 10)) (.z 0)))]))
               (
                .done [(.vb .ff)])))
           (
            .ite (.cmp .eq (.len (.v 8)) (.z 0))
             (
              .ite (.v 13)
               (
                .ite (.v 14)
                 (
                  .done [(.vb .tt)])
                 (
                  .done [(.vb (.cmp .eq (.len (.v 10)) (.z 0)))]))
               (
                .ite (.cmp .eq (.len (.v 9)) (.z 0))
                 (
                  .ite (.v 14)
                   (
                    .done [(.vb .tt)])
                   (
                    .done [(.vb (.cmp .eq (.len (.v 10)) (.z 0)))]))
                 (
                  .done [(.vb .ff)])))
             (
              .done [(.vb .ff)])))
         (
          .ite (.cmp .eq (.len (.v 7)) (.z 0))
           (
            .ite (.v 12)
             (
              .ite (.v 13)
               (
                .ite (.v 14)
                 (
                  .done [(.vb .tt)])
                 (
                  .done [(.vb (.cmp .eq (.len (.v 10)) (.z 0)))]))
               (
                .ite (.cmp .eq (.len (.v 9)) (.z 0))
                 (
                  .ite (.v 14)
                   (
                    .done [(.vb .tt)])
                   (
                    .done [(.vb (.cmp .eq (.len (.v 10)) (.z 0)))]))
                 (
                  .done [(.vb .ff)])))
             (
              .ite (.cmp .eq (.len (.v 8)) (.z 0))
               (
                .ite (.v 13)
                 (
                  .ite (.v 14)
                   (
                    .done [(.vb .tt)])
                   (
                    .done [(.vb (.cmp .eq (.len (.v 10)) (.z 0)))]))
                 (
                  .ite (.cmp .eq (.len (.v 9)) (.z 0))
                   (
                    .ite (.v 14)
                     (
                      .done [(.vb .tt)])
                     (
                      .done [(.vb (.cmp .eq (.len (.v 10)) (.z 0)))]))
                   (
                    .done [(.vb .ff)])))
               (
                .done [(.vb .ff)])))
           (
            .done [(.vb .ff)])))
       (
        .ite (.v 11)
         (
          .ite (.v 12)
           (
            .ite (.v 13)
             (
              .ite (.v 14)
               (
                .done [(.vb .tt)])
               (
                .done [(.vb (.cmp .eq (.len (.v 10)) (.z 0)))]))
             (
              .ite (.cmp .eq (.len (.v 9)) (.z 0))
               (
                .ite (.v 14)
                 (
                  .done [(.vb .tt)])
                 (
                  .done [(.vb (.cmp .eq (.len (.v 10)) (.z 0)))]))
               (
                .done [(.vb .ff)])))
           (
            .ite (.cmp .eq (.len (.v 8)) (.z 0))
             (
              .ite (.v 13)
               (
                .ite (.v 14)
                 (
                  .done [(.vb .tt)])
                 (
                  .done [(.vb (.cmp .eq (.len (.v 10)) (.z 0)))]))
               (
                .ite (.cmp .eq (.len (.v 9)) (.z 0))
                 (
                  .ite (.v 14)
                   (
                    .done [(.vb .tt)])
                   (
                    .done [(.vb (.cmp .eq (.len (.v 10)) (.z 0)))]))
                 (
                  .done [(.vb .ff)])))
             (
              .done [(.vb .ff)])))
         (
          .done [(.vb .ff)])))
     (
      .ite (.v 11)
       (
        .ite (.v 12)
         (
          .ite (.v 13)
           (
            .ite (.v 14)
             (
              .done [(.vb .tt)])
             (
              .done [(.vb (.cmp .eq (.len (.v 10)) (.z 0)))]))
           (
            .ite (.cmp .eq (.len (.v 9)) (.z 0))
             (
              .ite (.v 14)
               (
                .done [(.vb .tt)])
               (
                .done [(.vb (.cmp .eq (.len (.v 10)) (.z 0)))]))
             (
              .done [(.vb .ff)])))
         (
          .ite (.cmp .eq (.len (.v 8)) (.z 0))
           (
            .ite (.v 13)
             (
              .ite (.v 14)
               (
                .done [(.vb .tt)])
               (
                .done [(.vb (.cmp .eq (.len (.v 10)) (.z 0)))]))
             (
              .ite (.cmp .eq (.len (.v 9)) (.z 0))
               (
                .ite (.v 14)
                 (
                  .done [(.vb .tt)])
                 (
                  .done [(.vb (.cmp .eq (.len (.v 10)) (.z 0)))]))
               (
                .done [(.vb .ff)])))
           (
            .done [(.vb .ff)])))
       (
        .done [(.vb .ff)])))
   (
    .ite (.v 11)
     (
      .ite (.v 12)
       (
        .ite (.v 13)
         (
          .ite (.v 14)
           (
            .done [(.vb .tt)])
           (
            .done [(.vb (.cmp .eq (.len (.v 10)) (.z 0)))]))
         (
          .ite (.cmp .eq (.len (.v 9)) (.z 0))
           (
            .ite (.v 14)
             (
              .done [(.vb .tt)])
             (
              .done [(.vb (.cmp .eq (.len (.v 10)) (.z 0)))]))
           (
            .done [(.vb .ff)])))
       (
        .ite (.cmp .eq (.len (.v 8)) (.z 0))
         (
          .ite (.v 13)
           (
            .ite (.v 14)
             (
              .done [(.vb .tt)])
             (
              .done [(.vb (.cmp .eq (.len (.v 10)) (.z 0)))]))
           (
            .ite (.cmp .eq (.len (.v 9)) (.z 0))
             (
              .ite (.v 14)
               (
                .done [(.vb .tt)])
               (
                .done [(.vb (.cmp .eq (.len (.v 10)) (.z 0)))]))
             (
              .done [(.vb .ff)])))
         (
          .done [(.vb .ff)])))
     (
      .done [(.vb .ff)]))
/-- spec_l7Seqs -/
def R_spec_l7Seqs : R :=
  .ite (.not (.cmp .eq (.len (.v 4)) (.v 0)))
   (
    .done [(.vb .ff)])
   (
    .loop 5 [(.z 0)] <|
      .ite (.cmp .lt (.v 5) (.len (.v 4)))
       (
        .i (.idx (.v 4) (.v 5) (.one (.i .i64)) 6) <|
        .i (.call f_spec_l1In [(.vi .i64 (.v 6)), (.vi .i64 (.z 0)), (.vi .i64 (.z 300))] [.b] 7) <|
        .ite (.not (.v 7))
         (
          .esc <|
          .done [(.vb .ff)])
         (
          .next [(.bin .add .i64 (.v 5) (.z 1))]))
       (
        .esc <|
        .done [(.vb .tt)]))
/-- spec_ResText -/
def R_spec_ResText : R :=
  .i (.call f_spec_l1In [(.vi .i64 (.v 0)), (.vi .i64 (.z 1)), (.vi .i64 (.z 3))] [.b] 2) <|
  .ite (.not (.v 2))
   (
    .done [(.vc (.string (strV [])))])
   (
    .ite (.not (.cmp .eq (.v 0) (.z 1)))
     (
      .ite (.cmp .lt (.z 0) (.len (.v 1)))
       (
        .done [(.vc (.string (strV [])))])
       (
        .ite (.cmp .lt (.z 6) (.len (.v 1)))
         (
          .done [(.vc (.string (strV [])))])
         (
          .i (.call f_spec_l1All [(.s (.v 1)), (.vi .i64 (.len (.v 1))), (.vi .i64 (.z 999999999999))] [.b] 3) <|
          .ite (.not (.v 3))
           (
            .done [(.vc (.string (strV [])))])
           (
            .i (.chk (.cmp .le (.z 0) (.v 0))) <|
            .i (.chk (.cmp .lt (.v 0) (.z 4))) <|
            .i (.idx (.cons (.vc (.string (strV []))) (.cons (.vc (.string (strV [100, 111, 110, 101]))) (.cons (.vc (.string (strV [115, 116, 111, 112, 112, 101, 100]))) (.cons (.vc (.string (strV [111, 118, 101, 114]))) .nil)))) (.v 0) (.one (.d)) 4) <|
            .loop 5 [(.da 4), (.z 0)] <|
              .ite (.cmp .lt (.v 6) (.len (.v 1)))
               (
                .i (.prim .cat [(.da 5), (.vc (.string (strV [32])))] (.d) 7) <|
                .i (.idx (.v 1) (.v 6) (.one (.i .i64)) 8) <|
                .i (.call f_spec_l1Digits [(.vi .i64 (.v 8))] [.d] 9) <|
                .i (.prim .cat [(.da 7), (.da 9)] (.d) 10) <|
                .next [(.da 10), (.bin .add .i64 (.v 6) (.z 1))])
               (
                .esc <|
                .done [(.da 5)])))))
     (
      .ite (.cmp .lt (.z 6) (.len (.v 1)))
       (
        .done [(.vc (.string (strV [])))])
       (
        .i (.call f_spec_l1All [(.s (.v 1)), (.vi .i64 (.len (.v 1))), (.vi .i64 (.z 999999999999))] [.b] 3) <|
        .ite (.not (.v 3))
         (
          .done [(.vc (.string (strV [])))])
         (
          .i (.chk (.cmp .le (.z 0) (.v 0))) <|
          .i (.chk (.cmp .lt (.v 0) (.z 4))) <|
          .i (.idx (.cons (.vc (.string (strV []))) (.cons (.vc (.string (strV [100, 111, 110, 101]))) (.cons (.vc (.string (strV [115, 116, 111, 112, 112, 101, 100]))) (.cons (.vc (.string (strV [111, 118, 101, 114]))) .nil)))) (.v 0) (.one (.d)) 4) <|
          .loop 5 [(.da 4), (.z 0)] <|
            .ite (.cmp .lt (.v 6) (.len (.v 1)))
             (
              .i (.prim .cat [(.da 5), (.vc (.string (strV [32])))] (.d) 7) <|
              .i (.idx (.v 1) (.v 6) (.one (.i .i64)) 8) <|
              .i (.call f_spec_l1Digits [(.vi .i64 (.v 8))] [.d] 9) <|
              .i (.prim .cat [(.da 7), (.da 9)] (.d) 10) <|
              .next [(.da 10), (.bin .add .i64 (.v 6) (.z 1))])
             (
              .esc <|
              .done [(.da 5)])))))
/-- spec_ResOk -/
def R_spec_ResOk : R :=
  .i (.call f_spec_ResText [(.vi .i64 (.v 0)), (.s (.v 1))] [.d] 2) <|
  .i (.prim .seq [(.da 2), (.vc (.string (strV [])))] (.b) 3) <|
  .done [(.vb (.not (.v 3)))]
/-- spec_l6Done -/
def R_spec_l6Done : R :=
  .ite (.not (.cmp .eq (.len (.v 4)) (.v 0)))
   (
    .done [(.vb .ff)])
   (
    .loop 5 [(.z 0)] <|
      .ite (.cmp .lt (.v 5) (.len (.v 4)))
       (
        .i (.idx (.v 4) (.v 5) (.g [.i .i64, .i .i64, .s]) 6) <|
        .i (.call f_spec_l1In [(.vi .i64 (.v 6)), (.vi .i64 (.z 0)), (.vi .i64 (.z 300))] [.b] 9) <|
        .ite (.not (.v 9))
         (
          .esc <|
          .done [(.vb .ff)])
         (
          .i (.idx (.v 4) (.v 5) (.g [.i .i64, .i .i64, .s]) 10) <|
          .i (.idx (.v 4) (.v 5) (.g [.i .i64, .i .i64, .s]) 13) <|
          .ite (.not (.beq (.cmp .eq (.v 10) (.z 0)) (.cmp .eq (.v 14) (.z 0))))
           (
            .esc <|
            .done [(.vb .ff)])
           (
            .i (.idx (.v 4) (.v 5) (.g [.i .i64, .i .i64, .s]) 16) <|
            .ite (.cmp .eq (.v 16) (.z 0))
             (
              .i (.idx (.v 4) (.v 5) (.g [.i .i64, .i .i64, .s]) 19) <|
              .ite (.cmp .lt (.z 0) (.len (.v 21)))
               (
                .esc <|
                .done [(.vb .ff)])
               (
                .i (.idx (.v 4) (.v 5) (.g [.i .i64, .i .i64, .s]) 22) <|
                .ite (.cmp .lt (.z 0) (.v 22))
                 (
                  .i (.idx (.v 4) (.v 5) (.g [.i .i64, .i .i64, .s]) 25) <|
                  .i (.call f_spec_ResOk [(.vi .i64 (.v 26)), (.s (.v 27))] [.b] 28) <|
                  .ite (.not (.v 28))
                   (
                    .esc <|
                    .done [(.vb .ff)])
                   (
                    .next [(.bin .add .i64 (.v 5) (.z 1))]))
                 (
                  .next [(.bin .add .i64 (.v 5) (.z 1))])))
             (
              .i (.idx (.v 4) (.v 5) (.g [.i .i64, .i .i64, .s]) 19) <|
              .ite (.cmp .lt (.z 0) (.v 19))
               (
                .i (.idx (.v 4) (.v 5) (.g [.i .i64, .i .i64, .s]) 22) <|
                .i (.call f_spec_ResOk [(.vi .i64 (.v 23)), (.s (.v 24))] [.b] 25) <|
                .ite (.not (.v 25))
                 (
                  .esc <|
                  .done [(.vb .ff)])
                 (
                  .next [(.bin .add .i64 (.v 5) (.z 1))]))
               (
                .next [(.bin .add .i64 (.v 5) (.z 1))])))))
       (
        .esc <|
        .done [(.vb .tt)]))
/-- spec_l7Ok -/
def R_spec_l7Ok : R :=
  .i (.call f_spec_l1In [(.vi .i64 (.v 7)), (.vi .i64 (.z 0)), (.vi .i64 (.z 200))] [.b] 15) <|
  .ite (.not (.v 15))
   (
    .done [(.vb .ff)])
   (
    .ite (.cmp .eq (.v 4) (.z 1))
     (
      .ite (.cmp .eq (.v 5) (.z (-1)))
       (
        .ite (.cmp .eq (.v 6) (.z 0))
         (
          .ite (.cmp .eq (.v 7) (.z 0))
           (
            .i (.call f_spec_l6Call [(.vi .i64 (.v 0)), (.s (.v 1)), (.s (.v 2)), (.s (.v 3)), (.vi .i64 (.v 8)), (.vi .i64 (.v 9)), (.vi .i64 (.v 10)), (.s (.v 11))] [.b] 16) <|
            .ite (.v 16)
             (
              .i (.call f_spec_l7Bare [(.vi .i64 (.v 4)), (.vi .i64 (.v 5)), (.vi .i64 (.v 6)), (.vi .i64 (.v 7)), (.vi .i64 (.v 8)), (.vi .i64 (.v 9)), (.vi .i64 (.v 10)), (.s (.v 11)), (.s (.v 12)), (.s (.v 13)), (.s (.v 14)), (.vb .tt), (.vb .ff), (.vb .ff), (.vb .ff)] [.b] 17) <|
              .done [(.vb (.v 17))])
             (
              .done [(.vb .ff)]))
           (
            .done [(.vb .ff)]))
         (
          .done [(.vb .ff)]))
       (
        .done [(.vb .ff)]))
     (
      .ite (.cmp .eq (.v 4) (.z 2))
       (
        .i (.call f_spec_l1In [(.vi .i64 (.v 5)), (.vi .i64 (.z 0)), (.vi .i64 (.bin .sub .i64 (.len (.v 2)) (.z 1)))] [.b] 16) <|
        .ite (.v 16)
         (
          .ite (.cmp .eq (.v 6) (.z 0))
           (
            .i (.call f_spec_l7Bare [(.vi .i64 (.v 4)), (.vi .i64 (.v 5)), (.vi .i64 (.v 6)), (.vi .i64 (.v 7)), (.vi .i64 (.v 8)), (.vi .i64 (.v 9)), (.vi .i64 (.v 10)), (.s (.v 11)), (.s (.v 12)), (.s (.v 13)), (.s (.v 14)), (.vb .ff), (.vb .ff), (.vb .ff), (.vb .ff)] [.b] 17) <|
            .done [(.vb (.v 17))])
           (
            .done [(.vb .ff)]))
         (
          .done [(.vb .ff)]))
       (
        .ite (.cmp .eq (.v 4) (.z 3))
         (
          .ite (.cmp .eq (.v 5) (.z (-1)))
           (
            .i (.call f_spec_l1In [(.vi .i64 (.v 6)), (.vi .i64 (.z 0)), (.vi .i64 (.bin .sub .i64 (.len (.v 2)) (.z 1)))] [.b] 16) <|
            .ite (.v 16)
             (
              .i (.call f_spec_l1All [(.s (.v 12)), (.vi .i64 (.z 3)), (.vi .i64 (.z 20000))] [.b] 17) <|
              .ite (.v 17)
               (
                .i (.call f_spec_l7Seqs [(.vi .i64 (.v 0)), (.s (.v 1)), (.s (.v 2)), (.s (.v 3)), (.s (.v 13))] [.b] 18) <|
                .ite (.v 18)
                 (
                  .i (.call f_spec_l7Bare [(.vi .i64 (.v 4)), (.vi .i64 (.v 5)), (.vi .i64 (.v 6)), (.vi .i64 (.v 7)), (.vi .i64 (.v 8)), (.vi .i64 (.v 9)), (.vi .i64 (.v 10)), (.s (.v 11)), (.s (.v 12)), (.s (.v 13)), (.s (.v 14)), (.vb .ff), (.vb .tt), (.vb .tt), (.vb .ff)] [.b] 19) <|
                  .done [(.vb (.v 19))])
                 (
                  .done [(.vb .ff)]))
               (
                .done [(.vb .ff)]))
             (
              .done [(.vb .ff)]))
           (
            .done [(.vb .ff)]))
         (
          .ite (.cmp .eq (.v 4) (.z 4))
           (
            .i (.call f_spec_l1In [(.vi .i64 (.v 5)), (.vi .i64 (.z 0)), (.vi .i64 (.bin .sub .i64 (.len (.v 2)) (.z 1)))] [.b] 16) <|
            .ite (.v 16)
             (
              .ite (.cmp .eq (.v 6) (.z 0))
               (
                .i (.call f_spec_ValOk [(.s (.v 12))] [.b] 17) <|
                .ite (.v 17)
                 (
                  .i (.call f_spec_l6Done [(.vi .i64 (.v 0)), (.s (.v 1)), (.s (.v 2)), (.s (.v 3)), (.s (.v 14))] [.b] 18) <|
                  .ite (.v 18)
                   (
                    .i (.call f_spec_l7Bare [(.vi .i64 (.v 4)), (.vi .i64 (.v 5)), (.vi .i64 (.v 6)), (.vi .i64 (.v 7)), (.vi .i64 (.v 8)), (.vi .i64 (.v 9)), (.vi .i64 (.v 10)), (.s (.v 11)), (.s (.v 12)), (.s (.v 13)), (.s (.v 14)), (.vb .ff), (.vb .tt), (.vb .ff), (.vb .tt)] [.b] 19) <|
                    .done [(.vb (.v 19))])
                   (
                    .done [(.vb .ff)]))
                 (
                  .done [(.vb .ff)]))
               (
                .done [(.vb .ff)]))
             (
              .done [(.vb .ff)]))
           (
            .done [(.vb .ff)])))))
/-- spec_MsgOk -/
def R_spec_MsgOk : R :=
  .i (.call f_spec_PlnOk [(.vi .i64 (.v 0)), (.s (.v 1)), (.s (.v 2)), (.s (.v 3))] [.b] 15) <|
  .ite (.v 15)
   (
    .i (.call f_spec_l7Ok [(.vi .i64 (.v 0)), (.s (.v 1)), (.s (.v 2)), (.s (.v 3)), (.vi .i64 (.v 4)), (.vi .i64 (.v 5)), (.vi .i64 (.v 6)), (.vi .i64 (.v 7)), (.vi .i64 (.v 8)), (.vi .i64 (.v 9)), (.vi .i64 (.v 10)), (.s (.v 11)), (.s (.v 12)), (.s (.v 13)), (.s (.v 14))] [.b] 16) <|
    .done [(.vb (.v 16))])
   (
    .done [(.vb .ff)])
/-- impl_in -/
def R_impl_in : R :=
  .ite (.cmp .le (.v 1) (.v 0))
   (
    .done [(.vb (.cmp .le (.v 0) (.v 2)))])
   (
    .done [(.vb .ff)])
/-- slices_IndexFunc_SSimpl_ActLine_Simpl_ActLine -/
def R_slices_IndexFunc_SSimpl_ActLine_Simpl_ActLine : R :=
  .loop 2 [(.z 0)] <|
    .ite (.cmp .lt (.v 2) (.len (.v 0)))
     (
      .i (.idx (.v 0) (.v 2) (.one (.s)) 3) <|
      .i (.callv (.da 1) [(.s (.v 3))] [none] [.b] 4) <|
      .ite (.v 4)
       (
        .esc <|
        .done [(.vi .i64 (.v 2))])
       (
        .next [(.bin .add .i64 (.v 2) (.z 1))]))
     (
      .esc <|
      .done [(.vi .i64 (.z (-1)))])
/-- slices_ContainsFunc_SSimpl_ActLine_Simpl_ActLine -/
def R_slices_ContainsFunc_SSimpl_ActLine_Simpl_ActLine : R :=
  .i (.call f_slices_IndexFunc_SSimpl_ActLine_Simpl_ActLine [(.s (.v 0)), (.da 1)] [.i .i64] 2) <|
  .done [(.vb (.cmp .le (.z 0) (.v 2)))]
/-- impl_within_1 -/
def R_impl_within_1 : R :=
  .i (.get (.da 1) (.q [.i .i64]) 2) <|
  .i (.get (.da 1) (.q [.i .i64]) 3) <|
  .i (.call f_impl_in [(.vi .i64 (.v 0)), (.vi .i64 (.bin .sub .i64 (.z 0) (.v 2))), (.vi .i64 (.v 3))] [.b] 4) <|
  .done [(.vb (.not (.v 4)))]
/-- slices_IndexFunc_Sint_int -/
def R_slices_IndexFunc_Sint_int : R :=
  .loop 2 [(.z 0)] <|
    .ite (.cmp .lt (.v 2) (.len (.v 0)))
     (
      .i (.idx (.v 0) (.v 2) (.one (.i .i64)) 3) <|
      .i (.callv (.da 1) [(.vi .i64 (.v 3))] [none] [.b] 4) <|
      .ite (.v 4)
       (
        .esc <|
        .done [(.vi .i64 (.v 2))])
       (
        .next [(.bin .add .i64 (.v 2) (.z 1))]))
     (
      .esc <|
      .done [(.vi .i64 (.z (-1)))])
/-- slices_ContainsFunc_Sint_int -/
def R_slices_ContainsFunc_Sint_int : R :=
  .i (.call f_slices_IndexFunc_Sint_int [(.s (.v 0)), (.da 1)] [.i .i64] 2) <|
  .done [(.vb (.cmp .le (.z 0) (.v 2)))]
/-- impl_within -/
def R_impl_within : R :=
  .ite (.cmp .eq (.len (.v 0)) (.v 1))
   (
    .i (.call f_slices_ContainsFunc_Sint_int [(.s (.v 0)), (.fn f_impl_within_1 (.cons (.q (.cons (.vi .i64 (.v 2)) .nil)) .nil))] [.b] 3) <|
    .done [(.vb (.not (.v 3)))])
   (
    .done [(.vb .ff)])
/-- impl_FrmForm_small -/
def R_impl_FrmForm_small : R :=
  .i (.call f_impl_within [(.s (.v 0)), (.vi .i64 (.z 3)), (.vi .i64 (.z 2))] [.b] 3) <|
  .ite (.v 3)
   (
    .i (.call f_impl_within [(.s (.v 1)), (.vi .i64 (.z 2)), (.vi .i64 (.z 2))] [.b] 4) <|
    .ite (.v 4)
     (
      .i (.call f_impl_in [(.vi .i64 (.v 2)), (.vi .i64 (.z (-20))), (.vi .i64 (.z 20))] [.b] 5) <|
      .done [(.vb (.v 5))])
     (
      .done [(.vb .ff)]))
   (
    .done [(.vb .ff)])
/-- slices_Equal_Sint_int -/
def R_slices_Equal_Sint_int : R :=
  .ite (.not (.cmp .eq (.len (.v 0)) (.len (.v 1))))
   (
    .done [(.vb .ff)])
   (
    .loop 2 [(.z 0)] <|
      .ite (.cmp .lt (.v 2) (.len (.v 0)))
       (
        .i (.idx (.v 0) (.v 2) (.one (.i .i64)) 3) <|
        .i (.idx (.v 1) (.v 2) (.one (.i .i64)) 4) <|
        .ite (.not (.cmp .eq (.v 3) (.v 4)))
         (
          .esc <|
          .done [(.vb .ff)])
         (
          .next [(.bin .add .i64 (.v 2) (.z 1))]))
       (
        .esc <|
        .done [(.vb .tt)]))
/-- impl_FrmForm_same -/
def R_impl_FrmForm_same : R :=
  .ite (.cmp .eq (.v 2) (.v 5))
   (
    .i (.call f_slices_Equal_Sint_int [(.s (.v 0)), (.s (.v 3))] [.b] 6) <|
    .ite (.v 6)
     (
      .i (.call f_slices_Equal_Sint_int [(.s (.v 1)), (.s (.v 4))] [.b] 7) <|
      .done [(.vb (.v 7))])
     (
      .done [(.vb .ff)]))
   (
    .done [(.vb .ff)])
/-- impl_ActLine_ok -/
def R_impl_ActLine_ok : R :=
  .ite (.cmp .eq (.v 0) (.z 1))
   (
    .i (.call f_impl_in [(.vi .i64 (.v 2)), (.vi .i64 (.z 1)), (.vi .i64 (.z 6))] [.b] 6) <|
    .ite (.v 6)
     (
      .ite (.cmp .eq (.v 1) (.z 0))
       (
        .i (.call f_impl_FrmForm_small [(.s (.v 3)), (.s (.v 4)), (.vi .i64 (.v 5))] [.b] 7) <|
        .done [(.vb (.v 7))])
       (
        .done [(.vb .ff)]))
     (
      .done [(.vb .ff)]))
   (
    .ite (.cmp .eq (.v 0) (.z 2))
     (
      .i (.call f_impl_in [(.vi .i64 (.v 1)), (.vi .i64 (.z 0)), (.vi .i64 (.z 2))] [.b] 6) <|
      .ite (.v 6)
       (
        .ite (.cmp .eq (.v 2) (.z 0))
         (
          .i (.call f_impl_FrmForm_small [(.s (.v 3)), (.s (.v 4)), (.vi .i64 (.v 5))] [.b] 7) <|
          .done [(.vb (.v 7))])
         (
          .done [(.vb .ff)]))
       (
        .done [(.vb .ff)]))
     (
      .ite (.cmp .eq (.v 0) (.z 3))
       (
        .ite (.cmp .eq (.v 1) (.z 0))
         (
          .ite (.cmp .eq (.v 2) (.z 0))
           (
            .i (.call f_impl_FrmForm_small [(.s (.v 3)), (.s (.v 4)), (.vi .i64 (.v 5))] [.b] 6) <|
            .done [(.vb (.v 6))])
           (
            .done [(.vb .ff)]))
         (
          .done [(.vb .ff)]))
       (
        .ite (.cmp .eq (.v 0) (.z 4))
         (
          .ite (.cmp .eq (.v 1) (.z 0))
           (
            .ite (.cmp .eq (.v 2) (.z 0))
             (
              .i (.call f_impl_FrmForm_same [(.s (.v 3)), (.s (.v 4)), (.vi .i64 (.v 5)), (.s .nil), (.s .nil), (.vi .i64 (.z 0))] [.b] 6) <|
              .done [(.vb (.v 6))])
             (
              .done [(.vb .ff)]))
           (
            .done [(.vb .ff)]))
         (
          .done [(.vb .ff)]))))
/-- impl_ActOk -/
def R_impl_ActOk : R :=
  .loop 1 [(.z 0), (.z 0)] <|
    .ite (.cmp .lt (.v 2) (.len (.v 0)))
     (
      .i (.idx (.v 0) (.v 2) (.g [.i .i64, .i .i64, .i .i64, .s, .s, .i .i64]) 3) <|
      .i (.call f_impl_ActLine_ok [(.vi .i64 (.v 3)), (.vi .i64 (.v 4)), (.vi .i64 (.v 5)), (.s (.v 6)), (.s (.v 7)), (.vi .i64 (.v 8))] [.b] 9) <|
      .ite (.not (.v 9))
       (
        .esc <|
        .done [(.vb .ff)])
       (
        .ite (.cmp .eq (.v 3) (.z 1))
         (
          .next [(.bin .add .i64 (.v 1) (.z 1)), (.bin .add .i64 (.v 2) (.z 1))])
         (
          .next [(.v 1), (.bin .add .i64 (.v 2) (.z 1))])))
     (
      .esc <|
      .ite (.cmp .le (.len (.v 0)) (.z 6))
       (
        .done [(.vb (.cmp .le (.v 1) (.z 3)))])
       (
        .done [(.vb .ff)]))
/-- impl_CatOk_1 -/
def R_impl_CatOk_1 : R :=
  .i (.call f_impl_ActOk [(.s (.v 0))] [.b] 1) <|
  .done [(.vb (.not (.v 1)))]
/-- impl_CatOk -/
def R_impl_CatOk : R :=
  .i (.call f_impl_in [(.vi .i64 (.len (.v 0))), (.vi .i64 (.z 1)), (.vi .i64 (.z 4))] [.b] 1) <|
  .ite (.v 1)
   (
    .i (.call f_slices_ContainsFunc_SSimpl_ActLine_Simpl_ActLine [(.s (.v 0)), (.fn f_impl_CatOk_1 .nil)] [.b] 2) <|
    .done [(.vb (.not (.v 2)))])
   (
    .done [(.vb .ff)])
/-- impl_PlnPlan_treaty -/
def R_impl_PlnPlan_treaty : R :=
  .done [(.s (.v 4)), (.s (.v 2))]
/-- impl_TrtOk_1 -/
def R_impl_TrtOk_1 : R :=
  .i (.call f_impl_in [(.vi .i64 (.v 0)), (.vi .i64 (.z 0)), (.vi .i64 (.z 50))] [.b] 1) <|
  .done [(.vb (.not (.v 1)))]
/-- impl_ValOk -/
def R_impl_ValOk : R :=
  .i (.call f_impl_within [(.s (.v 0)), (.vi .i64 (.z 3)), (.vi .i64 (.z 10000))] [.b] 1) <|
  .done [(.vb (.v 1))]
/-- impl_TrtOk -/
def R_impl_TrtOk : R :=
  .i (.call f_impl_ValOk [(.s (.v 0))] [.b] 2) <|
  .ite (.v 2)
   (
    .i (.call f_impl_in [(.vi .i64 (.len (.v 1))), (.vi .i64 (.z 1)), (.vi .i64 (.z 3))] [.b] 3) <|
    .ite (.v 3)
     (
      .i (.call f_slices_ContainsFunc_Sint_int [(.s (.v 1)), (.fn f_impl_TrtOk_1 .nil)] [.b] 4) <|
      .done [(.vb (.not (.v 4)))])
     (
      .done [(.vb .ff)]))
   (
    .done [(.vb .ff)])
/-- impl_PlnOk -/
def R_impl_PlnOk : R :=
  .i (.call f_impl_in [(.vi .i64 (.v 0)), (.vi .i64 (.z 1)), (.vi .i64 (.z 4))] [.b] 4) <|
  .ite (.v 4)
   (
    .i (.call f_impl_CatOk [(.s (.v 1))] [.b] 5) <|
    .ite (.v 5)
     (
      .i (.call f_impl_within [(.s (.v 3)), (.vi .i64 (.z 3)), (.vi .i64 (.z 1000))] [.b] 6) <|
      .ite (.v 6)
       (
        .i (.call f_impl_PlnPlan_treaty [(.vi .i64 (.v 0)), (.s (.v 1)), (.s (.v 2)), (.s (.v 3)), (.s (.v 3))] [.s, .s] 7) <|
        .i (.call f_impl_TrtOk [(.s (.v 7)), (.s (.v 8))] [.b] 9) <|
        .done [(.vb (.v 9))])
       (
        .done [(.vb .ff)]))
     (
      .done [(.vb .ff)]))
   (
    .done [(.vb .ff)])
/-- impl_PlnCall_none -/
def R_impl_PlnCall_none : R :=
  .ite (.cmp .eq (.v 0) (.z 0))
   (
    .ite (.cmp .eq (.v 1) (.z 0))
     (
      .ite (.cmp .eq (.v 2) (.z 0))
       (
        .done [(.vb (.cmp .eq (.len (.v 3)) (.z 0)))])
       (
        .done [(.vb .ff)]))
     (
      .done [(.vb .ff)]))
   (
    .done [(.vb .ff)])
/-- impl_PlnPlan_isClient -/
def R_impl_PlnPlan_isClient : R :=
  .i (.call f_impl_in [(.vi .i64 (.v 4)), (.vi .i64 (.z 0)), (.vi .i64 (.bin .sub .i64 (.v 0) (.z 1)))] [.b] 5) <|
  .done [(.vb (.v 5))]
/-- impl_ArgOk -/
def R_impl_ArgOk : R :=
  .i (.call f_impl_within [(.s (.v 0)), (.vi .i64 (.z 2)), (.vi .i64 (.z 9))] [.b] 1) <|
  .done [(.vb (.v 1))]
/-- impl_PlnPlan_callOk -/
def R_impl_PlnPlan_callOk : R :=
  .i (.call f_impl_PlnPlan_isClient [(.vi .i64 (.v 0)), (.s (.v 1)), (.s (.v 2)), (.s (.v 3)), (.vi .i64 (.v 4))] [.b] 8) <|
  .ite (.v 8)
   (
    .i (.call f_impl_in [(.vi .i64 (.v 6)), (.vi .i64 (.z 0)), (.vi .i64 (.bin .sub .i64 (.len (.v 1)) (.z 1)))] [.b] 9) <|
    .ite (.v 9)
     (
      .i (.call f_impl_in [(.vi .i64 (.v 5)), (.vi .i64 (.z 1)), (.vi .i64 (.z 300))] [.b] 10) <|
      .ite (.v 10)
       (
        .i (.call f_impl_ArgOk [(.s (.v 7))] [.b] 11) <|
        .done [(.vb (.v 11))])
       (
        .done [(.vb .ff)]))
     (
      .done [(.vb .ff)]))
   (
    .done [(.vb .ff)])
/-- impl_PlnPlan_isSite -/
def R_impl_PlnPlan_isSite : R :=
  .i (.call f_impl_in [(.vi .i64 (.v 4)), (.vi .i64 (.z 0)), (.vi .i64 (.bin .sub .i64 (.len (.v 2)) (.z 1)))] [.b] 5) <|
  .done [(.vb (.v 5))]
/-- impl_addedOk -/
def R_impl_addedOk : R :=
  .i (.call f_impl_within [(.s (.v 0)), (.vi .i64 (.z 3)), (.vi .i64 (.z 20000))] [.b] 1) <|
  .done [(.vb (.v 1))]
/-- impl_PlnPlan_seqsOk_1 -/
def R_impl_PlnPlan_seqsOk_1 : R :=
  .i (.call f_impl_in [(.vi .i64 (.v 0)), (.vi .i64 (.z 0)), (.vi .i64 (.z 300))] [.b] 1) <|
  .done [(.vb (.not (.v 1)))]
/-- impl_PlnPlan_seqsOk -/
def R_impl_PlnPlan_seqsOk : R :=
  .ite (.cmp .eq (.len (.v 4)) (.v 0))
   (
    .i (.call f_slices_ContainsFunc_Sint_int [(.s (.v 4)), (.fn f_impl_PlnPlan_seqsOk_1 .nil)] [.b] 5) <|
    .done [(.vb (.not (.v 5)))])
   (
    .done [(.vb .ff)])
/-- slices_IndexFunc_Simpl_PlnDone_impl_PlnDone -/
def R_slices_IndexFunc_Simpl_PlnDone_impl_PlnDone : R :=
  .loop 2 [(.z 0)] <|
    .ite (.cmp .lt (.v 2) (.len (.v 0)))
     (
      .i (.idx (.v 0) (.v 2) (.g [.i .i64, .i .i64, .s]) 3) <|
      .i (.callv (.da 1) [(.vi .i64 (.v 3)), (.vi .i64 (.v 4)), (.s (.v 5))] [some 3] [.b] 6) <|
      .ite (.v 6)
       (
        .esc <|
        .done [(.vi .i64 (.v 2))])
       (
        .next [(.bin .add .i64 (.v 2) (.z 1))]))
     (
      .esc <|
      .done [(.vi .i64 (.z (-1)))])
/-- slices_ContainsFunc_Simpl_PlnDone_impl_PlnDone -/
def R_slices_ContainsFunc_Simpl_PlnDone_impl_PlnDone : R :=
  .i (.call f_slices_IndexFunc_Simpl_PlnDone_impl_PlnDone [(.s (.v 0)), (.da 1)] [.i .i64] 2) <|
  .done [(.vb (.cmp .le (.z 0) (.v 2)))]
/-- impl_ResResult_none -/
def R_impl_ResResult_none : R :=
  .ite (.cmp .eq (.v 0) (.z 0))
   (
    .done [(.vb (.cmp .eq (.len (.v 1)) (.z 0)))])
   (
    .done [(.vb .ff)])
/-- impl_codeWords -/
def R_impl_codeWords : R :=
  .done [(.s (.cons (.vc (.string (strV []))) (.cons (.vc (.string (strV [100, 111, 110, 101]))) (.cons (.vc (.string (strV [115, 116, 111, 112, 112, 101, 100]))) (.cons (.vc (.string (strV [111, 118, 101, 114]))) .nil)))))]
/-- impl_ResText -/
def R_impl_ResText : R :=
  .i (.call f_impl_in [(.vi .i64 (.v 0)), (.vi .i64 (.z 1)), (.vi .i64 (.z 3))] [.b] 2) <|
  .ite (.not (.v 2))
   (
    .done [(.vc (.string (strV [])))])
   (
    .ite (.cmp .lt (.z 6) (.len (.v 1)))
     (
      .done [(.vc (.string (strV [])))])
     (
      .ite (.not (.cmp .eq (.v 0) (.z 1)))
       (
        .ite (.cmp .lt (.z 0) (.len (.v 1)))
         (
          .done [(.vc (.string (strV [])))])
         (
          .i (.call f_impl_within [(.s (.v 1)), (.vi .i64 (.len (.v 1))), (.vi .i64 (.z 999999999999))] [.b] 3) <|
          .ite (.not (.v 3))
           (
            .done [(.vc (.string (strV [])))])
           (
            .i (.call f_impl_codeWords [] [.s] 4) <|
            .i (.chk (.cmp .le (.z 0) (.v 0))) <|
            .i (.chk (.cmp .lt (.v 0) (.len (.v 4)))) <|
            .i (.idx (.v 4) (.v 0) (.one (.d)) 5) <|
            .i (.call f_impl_joined [(.s (.v 1))] [.d] 6) <|
            .i (.prim .cat [(.da 5), (.da 6)] (.d) 7) <|
            .done [(.da 7)])))
       (
        .i (.call f_impl_within [(.s (.v 1)), (.vi .i64 (.len (.v 1))), (.vi .i64 (.z 999999999999))] [.b] 3) <|
        .ite (.not (.v 3))
         (
          .done [(.vc (.string (strV [])))])
         (
          .i (.call f_impl_codeWords [] [.s] 4) <|
          .i (.chk (.cmp .le (.z 0) (.v 0))) <|
          .i (.chk (.cmp .lt (.v 0) (.len (.v 4)))) <|
          .i (.idx (.v 4) (.v 0) (.one (.d)) 5) <|
          .i (.call f_impl_joined [(.s (.v 1))] [.d] 6) <|
          .i (.prim .cat [(.da 5), (.da 6)] (.d) 7) <|
          .done [(.da 7)]))))
/-- impl_ResOk -/
def R_impl_ResOk : R :=
  .i (.call f_impl_ResText [(.vi .i64 (.v 0)), (.s (.v 1))] [.d] 2) <|
  .i (.prim .seq [(.da 2), (.vc (.string (strV [])))] (.b) 3) <|
  .done [(.vb (.not (.v 3)))]
/-- impl_PlnDone_ok -/
def R_impl_PlnDone_ok : R :=
  .ite (.cmp .eq (.v 0) (.z 0))
   (
    .i (.call f_impl_ResResult_none [(.vi .i64 (.v 1)), (.s (.v 2))] [.b] 3) <|
    .done [(.vb (.v 3))])
   (
    .i (.call f_impl_in [(.vi .i64 (.v 0)), (.vi .i64 (.z 1)), (.vi .i64 (.z 300))] [.b] 3) <|
    .ite (.v 3)
     (
      .i (.call f_impl_ResOk [(.vi .i64 (.v 1)), (.s (.v 2))] [.b] 4) <|
      .done [(.vb (.v 4))])
     (
      .done [(.vb .ff)]))
/-- impl_PlnPlan_doneOk_1 -/
def R_impl_PlnPlan_doneOk_1 : R :=
  .i (.call f_impl_PlnDone_ok [(.vi .i64 (.v 0)), (.vi .i64 (.v 1)), (.s (.v 2))] [.b] 3) <|
  .done [(.vb (.not (.v 3)))]
/-- impl_PlnPlan_doneOk -/
def R_impl_PlnPlan_doneOk : R :=
  .ite (.cmp .eq (.len (.v 4)) (.v 0))
   (
    .i (.call f_slices_ContainsFunc_Simpl_PlnDone_impl_PlnDone [(.s (.v 4)), (.fn f_impl_PlnPlan_doneOk_1 .nil)] [.b] 5) <|
    .done [(.vb (.not (.v 5)))])
   (
    .done [(.vb .ff)])
/-- impl_PlnPlan_msgOk -/
def R_impl_PlnPlan_msgOk : R :=
  .i (.call f_impl_PlnCall_none [(.vi .i64 (.v 8)), (.vi .i64 (.v 9)), (.vi .i64 (.v 10)), (.s (.v 11))] [.b] 15) <|
  .i (.call f_impl_in [(.vi .i64 (.v 7)), (.vi .i64 (.z 0)), (.vi .i64 (.z 200))] [.b] 16) <|
  .ite (.cmp .eq (.v 4) (.z 1))
   (
    .i (.call f_impl_PlnPlan_callOk [(.vi .i64 (.v 0)), (.s (.v 1)), (.s (.v 2)), (.s (.v 3)), (.vi .i64 (.v 8)), (.vi .i64 (.v 9)), (.vi .i64 (.v 10)), (.s (.v 11))] [.b] 17) <|
    .ite (.cmp .eq (.v 5) (.z (-1)))
     (
      .ite (.cmp .eq (.v 6) (.z 0))
       (
        .ite (.v 17)
         (
          .ite (.cmp .eq (.v 7) (.z 0))
           (
            .ite (.cmp .eq (.len (.v 12)) (.z 0))
             (
              .ite (.cmp .eq (.len (.v 13)) (.z 0))
               (
                .done [(.vb (.cmp .eq (.len (.v 14)) (.z 0)))])
               (
                .done [(.vb .ff)]))
             (
              .done [(.vb .ff)]))
           (
            .done [(.vb .ff)]))
         (
          .done [(.vb .ff)]))
       (
        .done [(.vb .ff)]))
     (
      .done [(.vb .ff)]))
   (
    .ite (.cmp .eq (.v 4) (.z 2))
     (
      .i (.call f_impl_PlnPlan_isSite [(.vi .i64 (.v 0)), (.s (.v 1)), (.s (.v 2)), (.s (.v 3)), (.vi .i64 (.v 5))] [.b] 17) <|
      .ite (.v 17)
       (
        .ite (.cmp .eq (.v 6) (.z 0))
         (
          .ite (.v 15)
           (
            .ite (.v 16)
             (
              .ite (.cmp .eq (.len (.v 12)) (.z 0))
               (
                .ite (.cmp .eq (.len (.v 13)) (.z 0))
                 (
                  .done [(.vb (.cmp .eq (.len (.v 14)) (.z 0)))])
                 (
                  .done [(.vb .ff)]))
               (
                .done [(.vb .ff)]))
             (
              .done [(.vb .ff)]))
           (
            .done [(.vb .ff)]))
         (
          .done [(.vb .ff)]))
       (
        .done [(.vb .ff)]))
     (
      .ite (.cmp .eq (.v 4) (.z 3))
       (
        .i (.call f_impl_PlnPlan_isSite [(.vi .i64 (.v 0)), (.s (.v 1)), (.s (.v 2)), (.s (.v 3)), (.vi .i64 (.v 6))] [.b] 17) <|
        .i (.call f_impl_addedOk [(.s (.v 12))] [.b] 18) <|
        .i (.call f_impl_PlnPlan_seqsOk [(.vi .i64 (.v 0)), (.s (.v 1)), (.s (.v 2)), (.s (.v 3)), (.s (.v 13))] [.b] 19) <|
        .ite (.cmp .eq (.v 5) (.z (-1)))
         (
          .ite (.v 17)
           (
            .ite (.v 15)
             (
              .ite (.v 16)
               (
                .ite (.v 18)
                 (
                  .ite (.v 19)
                   (
                    .done [(.vb (.cmp .eq (.len (.v 14)) (.z 0)))])
                   (
                    .done [(.vb .ff)]))
                 (
                  .done [(.vb .ff)]))
               (
                .done [(.vb .ff)]))
             (
              .done [(.vb .ff)]))
           (
            .done [(.vb .ff)]))
         (
          .done [(.vb .ff)]))
       (
        .ite (.cmp .eq (.v 4) (.z 4))
         (
          .i (.call f_impl_PlnPlan_isSite [(.vi .i64 (.v 0)), (.s (.v 1)), (.s (.v 2)), (.s (.v 3)), (.vi .i64 (.v 5))] [.b] 17) <|
          .i (.call f_impl_ValOk [(.s (.v 12))] [.b] 18) <|
          .i (.call f_impl_PlnPlan_doneOk [(.vi .i64 (.v 0)), (.s (.v 1)), (.s (.v 2)), (.s (.v 3)), (.s (.v 14))] [.b] 19) <|
          .ite (.v 17)
           (
            .ite (.cmp .eq (.v 6) (.z 0))
             (
              .ite (.v 15)
               (
                .ite (.v 16)
                 (
                  .ite (.v 18)
                   (
                    .ite (.cmp .eq (.len (.v 13)) (.z 0))
                     (
                      .done [(.vb (.v 19))])
                     (
                      .done [(.vb .ff)]))
                   (
                    .done [(.vb .ff)]))
                 (
                  .done [(.vb .ff)]))
               (
                .done [(.vb .ff)]))
             (
              .done [(.vb .ff)]))
           (
            .done [(.vb .ff)]))
         (
          .done [(.vb .ff)]))))
/-- impl_MsgOk -/
def R_impl_MsgOk : R :=
  .i (.call f_impl_PlnOk [(.vi .i64 (.v 0)), (.s (.v 1)), (.s (.v 2)), (.s (.v 3))] [.b] 15) <|
  .ite (.v 15)
   (
    .i (.call f_impl_PlnPlan_msgOk [(.vi .i64 (.v 0)), (.s (.v 1)), (.s (.v 2)), (.s (.v 3)), (.vi .i64 (.v 4)), (.vi .i64 (.v 5)), (.vi .i64 (.v 6)), (.vi .i64 (.v 7)), (.vi .i64 (.v 8)), (.vi .i64 (.v 9)), (.vi .i64 (.v 10)), (.s (.v 11)), (.s (.v 12)), (.s (.v 13)), (.s (.v 14))] [.b] 16) <|
    .done [(.vb (.v 16))])
   (
    .done [(.vb .ff)])
/-- laws_eqIntS -/
def R_laws_eqIntS : R :=
  .ite (.not (.cmp .eq (.len (.v 0)) (.len (.v 1))))
   (
    .done [(.vb .ff)])
   (
    .loop 2 [(.z 0)] <|
      .ite (.cmp .lt (.v 2) (.len (.v 0)))
       (
        .i (.idx (.v 0) (.v 2) (.one (.i .i64)) 3) <|
        .i (.idx (.v 1) (.v 2) (.one (.i .i64)) 4) <|
        .ite (.not (.cmp .eq (.v 3) (.v 4)))
         (
          .esc <|
          .done [(.vb .ff)])
         (
          .next [(.bin .add .i64 (.v 2) (.z 1))]))
       (
        .esc <|
        .done [(.vb .tt)]))
/-- laws_eqFrmForm -/
def R_laws_eqFrmForm : R :=
  .i (.call f_laws_eqIntS [(.s (.v 0)), (.s (.v 3))] [.b] 6) <|
  .ite (.not (.v 6))
   (
    .done [(.vb .ff)])
   (
    .i (.call f_laws_eqIntS [(.s (.v 1)), (.s (.v 4))] [.b] 7) <|
    .ite (.not (.v 7))
     (
      .done [(.vb .ff)])
     (
      .ite (.not (.cmp .eq (.v 2) (.v 5)))
       (
        .done [(.vb .ff)])
       (
        .done [(.vb .tt)])))
/-- laws_eqActLine -/
def R_laws_eqActLine : R :=
  .ite (.not (.cmp .eq (.v 0) (.v 6)))
   (
    .done [(.vb .ff)])
   (
    .ite (.not (.cmp .eq (.v 1) (.v 7)))
     (
      .done [(.vb .ff)])
     (
      .ite (.not (.cmp .eq (.v 2) (.v 8)))
       (
        .done [(.vb .ff)])
       (
        .i (.call f_laws_eqFrmForm [(.s (.v 3)), (.s (.v 4)), (.vi .i64 (.v 5)), (.s (.v 9)), (.s (.v 10)), (.vi .i64 (.v 11))] [.b] 12) <|
        .ite (.not (.v 12))
         (
          .done [(.vb .ff)])
         (
          .done [(.vb .tt)]))))
/-- laws_eqActLineS -/
def R_laws_eqActLineS : R :=
  .ite (.not (.cmp .eq (.len (.v 0)) (.len (.v 1))))
   (
    .done [(.vb .ff)])
   (
    .loop 2 [(.z 0)] <|
      .ite (.cmp .lt (.v 2) (.len (.v 0)))
       (
        .i (.idx (.v 0) (.v 2) (.g [.i .i64, .i .i64, .i .i64, .s, .s, .i .i64]) 3) <|
        .i (.idx (.v 1) (.v 2) (.g [.i .i64, .i .i64, .i .i64, .s, .s, .i .i64]) 9) <|
        .i (.call f_laws_eqActLine [(.vi .i64 (.v 3)), (.vi .i64 (.v 4)), (.vi .i64 (.v 5)), (.s (.v 6)), (.s (.v 7)), (.vi .i64 (.v 8)), (.vi .i64 (.v 9)), (.vi .i64 (.v 10)), (.vi .i64 (.v 11)), (.s (.v 12)), (.s (.v 13)), (.vi .i64 (.v 14))] [.b] 15) <|
        .ite (.not (.v 15))
         (
          .esc <|
          .done [(.vb .ff)])
         (
          .next [(.bin .add .i64 (.v 2) (.z 1))]))
       (
        .esc <|
        .done [(.vb .tt)]))
/-- laws_eqActLineSS -/
def R_laws_eqActLineSS : R :=
  .ite (.not (.cmp .eq (.len (.v 0)) (.len (.v 1))))
   (
    .done [(.vb .ff)])
   (
    .loop 2 [(.z 0)] <|
      .ite (.cmp .lt (.v 2) (.len (.v 0)))
       (
        .i (.idx (.v 0) (.v 2) (.one (.s)) 3) <|
        .i (.idx (.v 1) (.v 2) (.one (.s)) 4) <|
        .i (.call f_laws_eqActLineS [(.s (.v 3)), (.s (.v 4))] [.b] 5) <|
        .ite (.not (.v 5))
         (
          .esc <|
          .done [(.vb .ff)])
         (
          .next [(.bin .add .i64 (.v 2) (.z 1))]))
       (
        .esc <|
        .done [(.vb .tt)]))
/-- laws_eqPlnPlan -/
def R_laws_eqPlnPlan : R :=
  .ite (.not (.cmp .eq (.v 0) (.v 4)))
   (
    .done [(.vb .ff)])
   (
    .i (.call f_laws_eqActLineSS [(.s (.v 1)), (.s (.v 5))] [.b] 8) <|
    .ite (.not (.v 8))
     (
      .done [(.vb .ff)])
     (
      .i (.call f_laws_eqIntS [(.s (.v 2)), (.s (.v 6))] [.b] 9) <|
      .ite (.not (.v 9))
       (
        .done [(.vb .ff)])
       (
        .i (.call f_laws_eqIntS [(.s (.v 3)), (.s (.v 7))] [.b] 10) <|
        .ite (.not (.v 10))
         (
          .done [(.vb .ff)])
         (
          .done [(.vb .tt)]))))
/-- laws_eqPlnCall -/
def R_laws_eqPlnCall : R :=
  .ite (.not (.cmp .eq (.v 0) (.v 4)))
   (
    .done [(.vb .ff)])
   (
    .ite (.not (.cmp .eq (.v 1) (.v 5)))
     (
      .done [(.vb .ff)])
     (
      .ite (.not (.cmp .eq (.v 2) (.v 6)))
       (
        .done [(.vb .ff)])
       (
        .i (.call f_laws_eqIntS [(.s (.v 3)), (.s (.v 7))] [.b] 8) <|
        .ite (.not (.v 8))
         (
          .done [(.vb .ff)])
         (
          .done [(.vb .tt)]))))
/-- laws_eqResResult -/
def R_laws_eqResResult : R :=
  .ite (.not (.cmp .eq (.v 0) (.v 2)))
   (
    .done [(.vb .ff)])
   (
    .i (.call f_laws_eqIntS [(.s (.v 1)), (.s (.v 3))] [.b] 4) <|
    .ite (.not (.v 4))
     (
      .done [(.vb .ff)])
     (
      .done [(.vb .tt)]))
/-- laws_eqPlnDone -/
def R_laws_eqPlnDone : R :=
  .ite (.not (.cmp .eq (.v 0) (.v 3)))
   (
    .done [(.vb .ff)])
   (
    .i (.call f_laws_eqResResult [(.vi .i64 (.v 1)), (.s (.v 2)), (.vi .i64 (.v 4)), (.s (.v 5))] [.b] 6) <|
    .ite (.not (.v 6))
     (
      .done [(.vb .ff)])
     (
      .done [(.vb .tt)]))
/-- laws_eqPlnDoneS -/
def R_laws_eqPlnDoneS : R :=
  .ite (.not (.cmp .eq (.len (.v 0)) (.len (.v 1))))
   (
    .done [(.vb .ff)])
   (
    .loop 2 [(.z 0)] <|
      .ite (.cmp .lt (.v 2) (.len (.v 0)))
       (
        .i (.idx (.v 0) (.v 2) (.g [.i .i64, .i .i64, .s]) 3) <|
        .i (.idx (.v 1) (.v 2) (.g [.i .i64, .i .i64, .s]) 6) <|
        .i (.call f_laws_eqPlnDone [(.vi .i64 (.v 3)), (.vi .i64 (.v 4)), (.s (.v 5)), (.vi .i64 (.v 6)), (.vi .i64 (.v 7)), (.s (.v 8))] [.b] 9) <|
        .ite (.not (.v 9))
         (
          .esc <|
          .done [(.vb .ff)])
         (
          .next [(.bin .add .i64 (.v 2) (.z 1))]))
       (
        .esc <|
        .done [(.vb .tt)]))
/-- laws_eqMsgMsg -/
def R_laws_eqMsgMsg : R :=
  .ite (.not (.cmp .eq (.v 0) (.v 11)))
   (
    .done [(.vb .ff)])
   (
    .ite (.not (.cmp .eq (.v 1) (.v 12)))
     (
      .done [(.vb .ff)])
     (
      .ite (.not (.cmp .eq (.v 2) (.v 13)))
       (
        .done [(.vb .ff)])
       (
        .ite (.not (.cmp .eq (.v 3) (.v 14)))
         (
          .done [(.vb .ff)])
         (
          .i (.call f_laws_eqPlnCall [(.vi .i64 (.v 4)), (.vi .i64 (.v 5)), (.vi .i64 (.v 6)), (.s (.v 7)), (.vi .i64 (.v 15)), (.vi .i64 (.v 16)), (.vi .i64 (.v 17)), (.s (.v 18))] [.b] 22) <|
          .ite (.not (.v 22))
           (
            .done [(.vb .ff)])
           (
            .i (.call f_laws_eqIntS [(.s (.v 8)), (.s (.v 19))] [.b] 23) <|
            .ite (.not (.v 23))
             (
              .done [(.vb .ff)])
             (
              .i (.call f_laws_eqIntS [(.s (.v 9)), (.s (.v 20))] [.b] 24) <|
              .ite (.not (.v 24))
               (
                .done [(.vb .ff)])
               (
                .i (.call f_laws_eqPlnDoneS [(.s (.v 10)), (.s (.v 21))] [.b] 25) <|
                .ite (.not (.v 25))
                 (
                  .done [(.vb .ff)])
                 (
                  .done [(.vb .tt)]))))))))
/-- laws_FnExactMsgOk -/
def R_laws_FnExactMsgOk : R :=
  .i (.call f_laws_szPlnPlan [(.vi .i64 (.v 0)), (.s (.v 1)), (.s (.v 2)), (.s (.v 3)), (.vi .i64 (.z 1048576))] [.i .i64] 15) <|
  .ite (.cmp .lt (.v 15) (.z 0))
   (
    .done [(.vb .tt)])
   (
    .i (.call f_laws_szMsgMsg [(.vi .i64 (.v 4)), (.vi .i64 (.v 5)), (.vi .i64 (.v 6)), (.vi .i64 (.v 7)), (.vi .i64 (.v 8)), (.vi .i64 (.v 9)), (.vi .i64 (.v 10)), (.s (.v 11)), (.s (.v 12)), (.s (.v 13)), (.s (.v 14)), (.vi .i64 (.v 15))] [.i .i64] 16) <|
    .ite (.cmp .lt (.v 16) (.z 0))
     (
      .done [(.vb .tt)])
     (
      .i (.call f_laws_toPlnPlan [(.vi .i64 (.v 0)), (.s (.v 1)), (.s (.v 2)), (.s (.v 3))] [.i .i64, .s, .s, .s] 17) <|
      .i (.call f_laws_toMsgMsg [(.vi .i64 (.v 4)), (.vi .i64 (.v 5)), (.vi .i64 (.v 6)), (.vi .i64 (.v 7)), (.vi .i64 (.v 8)), (.vi .i64 (.v 9)), (.vi .i64 (.v 10)), (.s (.v 11)), (.s (.v 12)), (.s (.v 13)), (.s (.v 14))] [.i .i64, .i .i64, .i .i64, .i .i64, .i .i64, .i .i64, .i .i64, .s, .s, .s, .s] 21) <|
      .i (.call f_spec_MsgOk [(.vi .i64 (.v 17)), (.s (.v 18)), (.s (.v 19)), (.s (.v 20)), (.vi .i64 (.v 21)), (.vi .i64 (.v 22)), (.vi .i64 (.v 23)), (.vi .i64 (.v 24)), (.vi .i64 (.v 25)), (.vi .i64 (.v 26)), (.vi .i64 (.v 27)), (.s (.v 28)), (.s (.v 29)), (.s (.v 30)), (.s (.v 31))] [.b] 32) <|
      .i (.call f_laws_toPlnPlan [(.vi .i64 (.v 0)), (.s (.v 1)), (.s (.v 2)), (.s (.v 3))] [.i .i64, .s, .s, .s] 33) <|
      .i (.call f_laws_toMsgMsg [(.vi .i64 (.v 4)), (.vi .i64 (.v 5)), (.vi .i64 (.v 6)), (.vi .i64 (.v 7)), (.vi .i64 (.v 8)), (.vi .i64 (.v 9)), (.vi .i64 (.v 10)), (.s (.v 11)), (.s (.v 12)), (.s (.v 13)), (.s (.v 14))] [.i .i64, .i .i64, .i .i64, .i .i64, .i .i64, .i .i64, .i .i64, .s, .s, .s, .s] 37) <|
      .i (.call f_impl_MsgOk [(.vi .i64 (.v 33)), (.s (.v 34)), (.s (.v 35)), (.s (.v 36)), (.vi .i64 (.v 37)), (.vi .i64 (.v 38)), (.vi .i64 (.v 39)), (.vi .i64 (.v 40)), (.vi .i64 (.v 41)), (.vi .i64 (.v 42)), (.vi .i64 (.v 43)), (.s (.v 44)), (.s (.v 45)), (.s (.v 46)), (.s (.v 47))] [.b] 48) <|
      .ite (.not (.beq (.v 48) (.v 32)))
       (
        .done [(.vb .ff)])
       (
        .i (.call f_laws_toPlnPlan [(.vi .i64 (.v 0)), (.s (.v 1)), (.s (.v 2)), (.s (.v 3))] [.i .i64, .s, .s, .s] 49) <|
        .i (.call f_laws_eqPlnPlan [(.vi .i64 (.v 33)), (.s (.v 34)), (.s (.v 35)), (.s (.v 36)), (.vi .i64 (.v 49)), (.s (.v 50)), (.s (.v 51)), (.s (.v 52))] [.b] 53) <|
        .ite (.not (.v 53))
         (
          .done [(.vb .ff)])
         (
          .i (.call f_laws_toMsgMsg [(.vi .i64 (.v 4)), (.vi .i64 (.v 5)), (.vi .i64 (.v 6)), (.vi .i64 (.v 7)), (.vi .i64 (.v 8)), (.vi .i64 (.v 9)), (.vi .i64 (.v 10)), (.s (.v 11)), (.s (.v 12)), (.s (.v 13)), (.s (.v 14))] [.i .i64, .i .i64, .i .i64, .i .i64, .i .i64, .i .i64, .i .i64, .s, .s, .s, .s] 54) <|
          .i (.call f_laws_eqMsgMsg [(.vi .i64 (.v 37)), (.vi .i64 (.v 38)), (.vi .i64 (.v 39)), (.vi .i64 (.v 40)), (.vi .i64 (.v 41)), (.vi .i64 (.v 42)), (.vi .i64 (.v 43)), (.s (.v 44)), (.s (.v 45)), (.s (.v 46)), (.s (.v 47)), (.vi .i64 (.v 54)), (.vi .i64 (.v 55)), (.vi .i64 (.v 56)), (.vi .i64 (.v 57)), (.vi .i64 (.v 58)), (.vi .i64 (.v 59)), (.vi .i64 (.v 60)), (.s (.v 61)), (.s (.v 62)), (.s (.v 63)), (.s (.v 64))] [.b] 65) <|
          .ite (.not (.v 65))
           (
            .done [(.vb .ff)])
           (
            .done [(.vb .tt)])))))
def S_laws_szIntS : Sig := .d ⟨[(.one (.s)), (.one (.i .i64))], (.one (.one (.i .i64))), true⟩
def H_laws_szIntS : Hint := ⟨[0, 1, 4, 10], 0, [], [], false, [], []⟩
def E_laws_szIntS : Entry := ⟨S_laws_szIntS, .r H_laws_szIntS R_laws_szIntS⟩
def S_laws_szFrmForm : Sig := .d ⟨[(.g [.s, .s, .i .i64]), (.one (.i .i64))], (.one (.one (.i .i64))), true⟩
def H_laws_szFrmForm : Hint := ⟨[0, 1, 2, 4, 10, 16], 0, [], [], false, [], []⟩
def E_laws_szFrmForm : Entry := ⟨S_laws_szFrmForm, .r H_laws_szFrmForm R_laws_szFrmForm⟩
def S_laws_szActLine : Sig := .d ⟨[(.g [.i .i64, .i .i64, .i .i64, .s, .s, .i .i64]), (.one (.i .i64))], (.one (.one (.i .i64))), true⟩
def H_laws_szActLine : Hint := ⟨[0, 1, 2, 4, 10], 0, [], [], false, [], []⟩
def E_laws_szActLine : Entry := ⟨S_laws_szActLine, .r H_laws_szActLine R_laws_szActLine⟩
def S_laws_szActLineS : Sig := .d ⟨[(.one (.s)), (.one (.i .i64))], (.one (.one (.i .i64))), true⟩
def H_laws_szActLineS : Hint := ⟨[0, 1, 4, 5, 11, 15, 25], 0, [], [(5, ⟨[5, 1], [], [], [], []⟩)], false, [], []⟩
def E_laws_szActLineS : Entry := ⟨S_laws_szActLineS, .r H_laws_szActLineS R_laws_szActLineS⟩
def S_laws_szActLineSS : Sig := .d ⟨[(.one (.s)), (.one (.i .i64))], (.one (.one (.i .i64))), true⟩
def H_laws_szActLineSS : Hint := ⟨[0, 1, 4, 5, 11, 15, 25], 0, [], [(5, ⟨[5, 1], [], [], [], []⟩)], false, [], []⟩
def E_laws_szActLineSS : Entry := ⟨S_laws_szActLineSS, .r H_laws_szActLineSS R_laws_szActLineSS⟩
def S_laws_szPlnPlan : Sig := .d ⟨[(.g [.i .i64, .s, .s, .s]), (.one (.i .i64))], (.one (.one (.i .i64))), true⟩
def H_laws_szPlnPlan : Hint := ⟨[0, 1, 2, 4, 10, 16, 22], 0, [], [], false, [], []⟩
def E_laws_szPlnPlan : Entry := ⟨S_laws_szPlnPlan, .r H_laws_szPlnPlan R_laws_szPlnPlan⟩
def S_laws_szPlnCall : Sig := .d ⟨[(.g [.i .i64, .i .i64, .i .i64, .s]), (.one (.i .i64))], (.one (.one (.i .i64))), true⟩
def H_laws_szPlnCall : Hint := ⟨[0, 1, 2, 4, 10], 0, [], [], false, [], []⟩
def E_laws_szPlnCall : Entry := ⟨S_laws_szPlnCall, .r H_laws_szPlnCall R_laws_szPlnCall⟩
def S_laws_szResResult : Sig := .d ⟨[(.g [.i .i64, .s]), (.one (.i .i64))], (.one (.one (.i .i64))), true⟩
def H_laws_szResResult : Hint := ⟨[0, 1, 2, 4, 10], 0, [], [], false, [], []⟩
def E_laws_szResResult : Entry := ⟨S_laws_szResResult, .r H_laws_szResResult R_laws_szResResult⟩
def S_laws_szPlnDone : Sig := .d ⟨[(.g [.i .i64, .i .i64, .s]), (.one (.i .i64))], (.one (.one (.i .i64))), true⟩
def H_laws_szPlnDone : Hint := ⟨[0, 1, 2, 4, 10], 0, [], [], false, [], []⟩
def E_laws_szPlnDone : Entry := ⟨S_laws_szPlnDone, .r H_laws_szPlnDone R_laws_szPlnDone⟩
def S_laws_szPlnDoneS : Sig := .d ⟨[(.one (.s)), (.one (.i .i64))], (.one (.one (.i .i64))), true⟩
def H_laws_szPlnDoneS : Hint := ⟨[0, 1, 4, 5, 11, 15, 25], 0, [], [(5, ⟨[5, 1], [], [], [], []⟩)], false, [], []⟩
def E_laws_szPlnDoneS : Entry := ⟨S_laws_szPlnDoneS, .r H_laws_szPlnDoneS R_laws_szPlnDoneS⟩
def S_laws_szMsgMsg : Sig := .d ⟨[(.g [.i .i64, .i .i64, .i .i64, .i .i64, .i .i64, .i .i64, .i .i64, .s, .s, .s, .s]), (.one (.i .i64))], (.one (.one (.i .i64))), true⟩
def H_laws_szMsgMsg : Hint := ⟨[0, 1, 2, 4, 10, 16, 22, 28], 0, [], [], false, [], []⟩
def E_laws_szMsgMsg : Entry := ⟨S_laws_szMsgMsg, .r H_laws_szMsgMsg R_laws_szMsgMsg⟩
def S_laws_toIntS : Sig := .x ⟨[(.d (.s (.v 0)))], [], [.s], (.o 0 (.v 0)), [(.arr 3 1 (.v 0) true true)], [.s], false⟩
def H_laws_toIntS : Hint := ⟨[0, 2, 3, 4, 11], 0, [], [(3, ⟨[4], [], [112], [], []⟩)], true, [], []⟩
def E_laws_toIntS : Entry := ⟨S_laws_toIntS, .r H_laws_toIntS R_laws_toIntS⟩
def S_laws_toFrmForm : Sig := .x ⟨[(.g [(.d (.s (.v 0))), (.d (.s (.v 1))), (.d (.vi .i64 (.v 2)))])], [], [.s, .s, .i .i64], (.g [(.o 0 (.v 0)), (.o 1 (.v 1)), (.d (.vi .i64 (.v 2)))]), [(.arr 3 1 (.v 0) true true), (.arr 3 1 (.v 1) true true)], [.s, .s, .i .i64], false⟩
def H_laws_toFrmForm : Hint := ⟨[0, 1, 2, 3], 0, [], [], true, [], []⟩
def E_laws_toFrmForm : Entry := ⟨S_laws_toFrmForm, .r H_laws_toFrmForm R_laws_toFrmForm⟩
def S_laws_toActLine : Sig := .x ⟨[(.g [(.d (.vi .i64 (.v 0))), (.d (.vi .i64 (.v 1))), (.d (.vi .i64 (.v 2))), (.d (.s (.v 3))), (.d (.s (.v 4))), (.d (.vi .i64 (.v 5)))])], [], [.i .i64, .i .i64, .i .i64, .s, .s, .i .i64], (.g [(.d (.vi .i64 (.v 0))), (.d (.vi .i64 (.v 1))), (.d (.vi .i64 (.v 2))), (.o 0 (.v 3)), (.o 1 (.v 4)), (.d (.vi .i64 (.v 5)))]), [(.arr 3 1 (.v 3) true true), (.arr 3 1 (.v 4) true true)], [.i .i64, .i .i64, .i .i64, .s, .s, .i .i64], false⟩
def H_laws_toActLine : Hint := ⟨[0, 1, 2, 3], 0, [], [], true, [], []⟩
def E_laws_toActLine : Entry := ⟨S_laws_toActLine, .r H_laws_toActLine R_laws_toActLine⟩
def S_laws_toActLineS : Sig := .x ⟨[(.d (.s (.v 0)))], [], [.s], (.o 0 (.v 0)), [(.arr 201 6 (.v 0) true true)], [.s], false⟩
def H_laws_toActLineS : Hint := ⟨[0, 2, 3, 4, 11], 0, [], [(3, ⟨[4], [], [112], [], []⟩)], true, [], []⟩
def E_laws_toActLineS : Entry := ⟨S_laws_toActLineS, .r H_laws_toActLineS R_laws_toActLineS⟩
def S_laws_toActLineSS : Sig := .x ⟨[(.d (.s (.v 0)))], [], [.s], (.o 0 (.v 0)), [(.arr 154 1 (.v 0) true true)], [.s], false⟩
def H_laws_toActLineSS : Hint := ⟨[0, 2, 3, 4, 11], 0, [], [(3, ⟨[4], [], [112], [], []⟩)], true, [], []⟩
def E_laws_toActLineSS : Entry := ⟨S_laws_toActLineSS, .r H_laws_toActLineSS R_laws_toActLineSS⟩
def S_laws_toPlnPlan : Sig := .x ⟨[(.g [(.d (.vi .i64 (.v 0))), (.d (.s (.v 1))), (.d (.s (.v 2))), (.d (.s (.v 3)))])], [], [.i .i64, .s, .s, .s], (.g [(.d (.vi .i64 (.v 0))), (.o 0 (.v 1)), (.o 1 (.v 2)), (.o 2 (.v 3))]), [(.arr 154 1 (.v 1) true true), (.arr 3 1 (.v 2) true true), (.arr 3 1 (.v 3) true true)], [.i .i64, .s, .s, .s], false⟩
def H_laws_toPlnPlan : Hint := ⟨[0, 1, 2, 3], 0, [], [], true, [], []⟩
def E_laws_toPlnPlan : Entry := ⟨S_laws_toPlnPlan, .r H_laws_toPlnPlan R_laws_toPlnPlan⟩
def S_laws_toPlnCall : Sig := .x ⟨[(.g [(.d (.vi .i64 (.v 0))), (.d (.vi .i64 (.v 1))), (.d (.vi .i64 (.v 2))), (.d (.s (.v 3)))])], [], [.i .i64, .i .i64, .i .i64, .s], (.g [(.d (.vi .i64 (.v 0))), (.d (.vi .i64 (.v 1))), (.d (.vi .i64 (.v 2))), (.o 0 (.v 3))]), [(.arr 3 1 (.v 3) true true)], [.i .i64, .i .i64, .i .i64, .s], false⟩
def H_laws_toPlnCall : Hint := ⟨[0, 1, 2, 3], 0, [], [], true, [], []⟩
def E_laws_toPlnCall : Entry := ⟨S_laws_toPlnCall, .r H_laws_toPlnCall R_laws_toPlnCall⟩
def S_laws_toResResult : Sig := .x ⟨[(.g [(.d (.vi .i64 (.v 0))), (.d (.s (.v 1)))])], [], [.i .i64, .s], (.g [(.d (.vi .i64 (.v 0))), (.o 0 (.v 1))]), [(.arr 3 1 (.v 1) true true)], [.i .i64, .s], false⟩
def H_laws_toResResult : Hint := ⟨[0, 1, 2, 3], 0, [], [], true, [], []⟩
def E_laws_toResResult : Entry := ⟨S_laws_toResResult, .r H_laws_toResResult R_laws_toResResult⟩
def S_laws_toPlnDone : Sig := .x ⟨[(.g [(.d (.vi .i64 (.v 0))), (.d (.vi .i64 (.v 1))), (.d (.s (.v 2)))])], [], [.i .i64, .i .i64, .s], (.g [(.d (.vi .i64 (.v 0))), (.d (.vi .i64 (.v 1))), (.o 0 (.v 2))]), [(.arr 3 1 (.v 2) true true)], [.i .i64, .i .i64, .s], false⟩
def H_laws_toPlnDone : Hint := ⟨[0, 1, 2, 3], 0, [], [], true, [], []⟩
def E_laws_toPlnDone : Entry := ⟨S_laws_toPlnDone, .r H_laws_toPlnDone R_laws_toPlnDone⟩
def S_laws_toPlnDoneS : Sig := .x ⟨[(.d (.s (.v 0)))], [], [.s], (.o 0 (.v 0)), [(.arr 142 3 (.v 0) true true)], [.s], false⟩
def H_laws_toPlnDoneS : Hint := ⟨[0, 2, 3, 4, 11], 0, [], [(3, ⟨[4], [], [112], [], []⟩)], true, [], []⟩
def E_laws_toPlnDoneS : Entry := ⟨S_laws_toPlnDoneS, .r H_laws_toPlnDoneS R_laws_toPlnDoneS⟩
def S_laws_toMsgMsg : Sig := .x ⟨[(.g [(.d (.vi .i64 (.v 0))), (.d (.vi .i64 (.v 1))), (.d (.vi .i64 (.v 2))), (.d (.vi .i64 (.v 3))), (.d (.vi .i64 (.v 4))), (.d (.vi .i64 (.v 5))), (.d (.vi .i64 (.v 6))), (.d (.s (.v 7))), (.d (.s (.v 8))), (.d (.s (.v 9))), (.d (.s (.v 10)))])], [], [.i .i64, .i .i64, .i .i64, .i .i64, .i .i64, .i .i64, .i .i64, .s, .s, .s, .s], (.g [(.d (.vi .i64 (.v 0))), (.d (.vi .i64 (.v 1))), (.d (.vi .i64 (.v 2))), (.d (.vi .i64 (.v 3))), (.d (.vi .i64 (.v 4))), (.d (.vi .i64 (.v 5))), (.d (.vi .i64 (.v 6))), (.o 0 (.v 7)), (.o 1 (.v 8)), (.o 2 (.v 9)), (.o 3 (.v 10))]), [(.arr 3 1 (.v 7) true true), (.arr 3 1 (.v 8) true true), (.arr 3 1 (.v 9) true true), (.arr 142 3 (.v 10) true true)], [.i .i64, .i .i64, .i .i64, .i .i64, .i .i64, .i .i64, .i .i64, .s, .s, .s, .s], false⟩
def H_laws_toMsgMsg : Hint := ⟨[0, 1, 2, 3], 0, [], [], true, [], []⟩
def E_laws_toMsgMsg : Entry := ⟨S_laws_toMsgMsg, .r H_laws_toMsgMsg R_laws_toMsgMsg⟩
def S_spec_l1In : Sig := .d ⟨[(.one (.i .i64)), (.one (.i .i64)), (.one (.i .i64))], (.one (.one (.b))), true⟩
def H_spec_l1In : Hint := ⟨[0, 1, 2, 6], 0, [], [], false, [], []⟩
def E_spec_l1In : Entry := ⟨S_spec_l1In, .r H_spec_l1In R_spec_l1In⟩
def S_spec_l1All : Sig := .d ⟨[(.one (.s)), (.one (.i .i64)), (.one (.i .i64))], (.one (.one (.b))), true⟩
def H_spec_l1All : Hint := ⟨[0, 1, 2, 6, 7, 11, 15, 26], 0, [], [(4, ⟨[7], [], [], [], []⟩)], false, [], []⟩
def E_spec_l1All : Entry := ⟨S_spec_l1All, .r H_spec_l1All R_spec_l1All⟩
def S_spec_l2Small : Sig := .d ⟨[(.g [.s, .s, .i .i64])], (.one (.one (.b))), true⟩
def H_spec_l2Small : Hint := ⟨[0, 1, 2], 0, [], [], false, [], []⟩
def E_spec_l2Small : Entry := ⟨S_spec_l2Small, .r H_spec_l2Small R_spec_l2Small⟩
def S_spec_l2Line : Sig := .d ⟨[(.g [.i .i64, .i .i64, .i .i64, .s, .s, .i .i64])], (.one (.one (.b))), true⟩
def H_spec_l2Line : Hint := ⟨[0, 1, 2, 4, 5, 20, 35], 0, [], [], false, [], []⟩
def E_spec_l2Line : Entry := ⟨S_spec_l2Line, .r H_spec_l2Line R_spec_l2Line⟩
def S_spec_ActOk : Sig := .d ⟨[(.one (.s))], (.one (.one (.b))), true⟩
def H_spec_ActOk : Hint := ⟨[0, 2, 3, 4, 8, 16, 22], 0, [], [(3, ⟨[4, 3], [], [], [], []⟩)], false, [], []⟩
def E_spec_ActOk : Entry := ⟨S_spec_ActOk, .r H_spec_ActOk R_spec_ActOk⟩
def S_spec_CatOk : Sig := .d ⟨[(.one (.s))], (.one (.one (.b))), true⟩
def H_spec_CatOk : Hint := ⟨[0, 2, 3, 7, 11, 19], 0, [], [(4, ⟨[3], [], [], [], []⟩)], false, [], []⟩
def E_spec_CatOk : Entry := ⟨S_spec_CatOk, .r H_spec_CatOk R_spec_CatOk⟩
def S_spec_ValOk : Sig := .d ⟨[(.one (.s))], (.one (.one (.b))), true⟩
def H_spec_ValOk : Hint := ⟨[0, 2], 0, [], [], false, [], []⟩
def E_spec_ValOk : Entry := ⟨S_spec_ValOk, .r H_spec_ValOk R_spec_ValOk⟩
def S_spec_TrtOk : Sig := .d ⟨[(.g [.s, .s])], (.one (.one (.b))), true⟩
def H_spec_TrtOk : Hint := ⟨[0, 1, 2, 3, 14, 19, 28], 0, [], [(4, ⟨[3], [], [], [], []⟩)], false, [], []⟩
def E_spec_TrtOk : Entry := ⟨S_spec_TrtOk, .r H_spec_TrtOk R_spec_TrtOk⟩
def S_spec_PlnOk : Sig := .d ⟨[(.g [.i .i64, .s, .s, .s])], (.one (.one (.b))), true⟩
def H_spec_PlnOk : Hint := ⟨[0, 1, 2], 0, [], [], false, [], []⟩
def E_spec_PlnOk : Entry := ⟨S_spec_PlnOk, .r H_spec_PlnOk R_spec_PlnOk⟩
def S_spec_ArgOk : Sig := .d ⟨[(.one (.s))], (.one (.one (.b))), true⟩
def H_spec_ArgOk : Hint := ⟨[0, 2], 0, [], [], false, [], []⟩
def E_spec_ArgOk : Entry := ⟨S_spec_ArgOk, .r H_spec_ArgOk R_spec_ArgOk⟩
def S_spec_l6Call : Sig := .d ⟨[(.g [.i .i64, .s, .s, .s]), (.g [.i .i64, .i .i64, .i .i64, .s])], (.one (.one (.b))), true⟩
def H_spec_l6Call : Hint := ⟨[0, 1, 2, 3, 4], 0, [], [], false, [], []⟩
def E_spec_l6Call : Entry := ⟨S_spec_l6Call, .r H_spec_l6Call R_spec_l6Call⟩
def S_spec_l7Bare : Sig := .d ⟨[(.g [.i .i64, .i .i64, .i .i64, .i .i64, .i .i64, .i .i64, .i .i64, .s, .s, .s, .s]), (.one (.b)), (.one (.b)), (.one (.b)), (.one (.b))], (.one (.one (.b))), true⟩
def H_spec_l7Bare : Hint := ⟨[0, 1, 2, 3, 4, 5, 10, 11], 0, [], [], false, [], []⟩
def E_spec_l7Bare : Entry := ⟨S_spec_l7Bare, .r H_spec_l7Bare R_spec_l7Bare⟩
def S_spec_l7Seqs : Sig := .d ⟨[(.g [.i .i64, .s, .s, .s]), (.one (.s))], (.one (.one (.b))), true⟩
def H_spec_l7Seqs : Hint := ⟨[0, 1, 2, 4, 5, 10, 14, 22], 0, [], [(4, ⟨[5], [], [], [], []⟩)], false, [], []⟩
def E_spec_l7Seqs : Entry := ⟨S_spec_l7Seqs, .r H_spec_l7Seqs R_spec_l7Seqs⟩
def S_spec_l1Digits : Sig := .d ⟨[(.one (.i .i64))], (.one (.one (.d))), false⟩
def E_spec_l1Digits : Entry := ⟨S_spec_l1Digits, .m digitsF⟩
def S_spec_ResText : Sig := .d ⟨[(.g [.i .i64, .s])], (.one (.one (.d))), false⟩
def H_spec_ResText : Hint := ⟨[0, 1, 2, 3, 4, 5, 36, 46], 0, [], [(6, ⟨[5, 4], [], [], [], []⟩)], false, [], []⟩
def E_spec_ResText : Entry := ⟨S_spec_ResText, .r H_spec_ResText R_spec_ResText⟩
def S_spec_ResOk : Sig := .d ⟨[(.g [.i .i64, .s])], (.one (.one (.b))), true⟩
def H_spec_ResOk : Hint := ⟨[0, 1, 2], 0, [], [], false, [], []⟩
def E_spec_ResOk : Entry := ⟨S_spec_ResOk, .r H_spec_ResOk R_spec_ResOk⟩
def S_spec_l6Done : Sig := .d ⟨[(.g [.i .i64, .s, .s, .s]), (.one (.s))], (.one (.one (.b))), true⟩
def H_spec_l6Done : Hint := ⟨[0, 1, 2, 4, 5, 10, 14, 74], 0, [], [(4, ⟨[5], [], [], [], []⟩)], false, [], []⟩
def E_spec_l6Done : Entry := ⟨S_spec_l6Done, .r H_spec_l6Done R_spec_l6Done⟩
def S_spec_l7Ok : Sig := .d ⟨[(.g [.i .i64, .s, .s, .s]), (.g [.i .i64, .i .i64, .i .i64, .i .i64, .i .i64, .i .i64, .i .i64, .s, .s, .s, .s])], (.one (.one (.b))), true⟩
def H_spec_l7Ok : Hint := ⟨[0, 1, 2, 3, 4, 5, 12, 14, 15, 40, 56, 83], 0, [], [], false, [], []⟩
def E_spec_l7Ok : Entry := ⟨S_spec_l7Ok, .r H_spec_l7Ok R_spec_l7Ok⟩
def S_spec_MsgOk : Sig := .d ⟨[(.g [.i .i64, .s, .s, .s]), (.g [.i .i64, .i .i64, .i .i64, .i .i64, .i .i64, .i .i64, .i .i64, .s, .s, .s, .s])], (.one (.one (.b))), true⟩
def H_spec_MsgOk : Hint := ⟨[0, 1, 2, 3, 4], 0, [], [], false, [], []⟩
def E_spec_MsgOk : Entry := ⟨S_spec_MsgOk, .r H_spec_MsgOk R_spec_MsgOk⟩
def S_impl_in : Sig := .d ⟨[(.one (.i .i64)), (.one (.i .i64)), (.one (.i .i64))], (.one (.one (.b))), true⟩
def H_impl_in : Hint := ⟨[0, 1, 2, 6], 0, [], [], false, [], []⟩
def E_impl_in : Entry := ⟨S_impl_in, .r H_impl_in R_impl_in⟩
def S_slices_IndexFunc_SSimpl_ActLine_Simpl_ActLine : Sig := .d ⟨[(.one (.s)), (.one (.d))], (.one (.one (.i .i64))), true⟩
def H_slices_IndexFunc_SSimpl_ActLine_Simpl_ActLine : Hint := ⟨[0, 1, 4, 5, 7, 8, 9, 16], 0, [], [(2, ⟨[8], [], [], [], []⟩)], false, [], []⟩
def E_slices_IndexFunc_SSimpl_ActLine_Simpl_ActLine : Entry := ⟨S_slices_IndexFunc_SSimpl_ActLine_Simpl_ActLine, .r H_slices_IndexFunc_SSimpl_ActLine_Simpl_ActLine R_slices_IndexFunc_SSimpl_ActLine_Simpl_ActLine⟩
def S_slices_ContainsFunc_SSimpl_ActLine_Simpl_ActLine : Sig := .d ⟨[(.one (.s)), (.one (.d))], (.one (.one (.b))), true⟩
def H_slices_ContainsFunc_SSimpl_ActLine_Simpl_ActLine : Hint := ⟨[0, 1, 4], 0, [], [], false, [], []⟩
def E_slices_ContainsFunc_SSimpl_ActLine_Simpl_ActLine : Entry := ⟨S_slices_ContainsFunc_SSimpl_ActLine_Simpl_ActLine, .r H_slices_ContainsFunc_SSimpl_ActLine_Simpl_ActLine R_slices_ContainsFunc_SSimpl_ActLine_Simpl_ActLine⟩
def S_impl_within_1 : Sig := .d ⟨[(.one (.i .i64)), (.one (.d))], (.one (.one (.b))), true⟩
def H_impl_within_1 : Hint := ⟨[0, 1, 3], 0, [], [], false, [], []⟩
def E_impl_within_1 : Entry := ⟨S_impl_within_1, .r H_impl_within_1 R_impl_within_1⟩
def S_slices_IndexFunc_Sint_int : Sig := .d ⟨[(.one (.s)), (.one (.d))], (.one (.one (.i .i64))), true⟩
def H_slices_IndexFunc_Sint_int : Hint := ⟨[0, 1, 4, 5, 7, 8, 9, 16], 0, [], [(2, ⟨[8], [], [], [], []⟩)], false, [], []⟩
def E_slices_IndexFunc_Sint_int : Entry := ⟨S_slices_IndexFunc_Sint_int, .r H_slices_IndexFunc_Sint_int R_slices_IndexFunc_Sint_int⟩
def S_slices_ContainsFunc_Sint_int : Sig := .d ⟨[(.one (.s)), (.one (.d))], (.one (.one (.b))), true⟩
def H_slices_ContainsFunc_Sint_int : Hint := ⟨[0, 1, 4], 0, [], [], false, [], []⟩
def E_slices_ContainsFunc_Sint_int : Entry := ⟨S_slices_ContainsFunc_Sint_int, .r H_slices_ContainsFunc_Sint_int R_slices_ContainsFunc_Sint_int⟩
def S_impl_within : Sig := .d ⟨[(.one (.s)), (.one (.i .i64)), (.one (.i .i64))], (.one (.one (.b))), true⟩
def H_impl_within : Hint := ⟨[0, 1, 2, 5, 6], 0, [], [], false, [], []⟩
def E_impl_within : Entry := ⟨S_impl_within, .r H_impl_within R_impl_within⟩
def S_impl_FrmForm_small : Sig := .d ⟨[(.g [.s, .s, .i .i64])], (.one (.one (.b))), true⟩
def H_impl_FrmForm_small : Hint := ⟨[0, 1, 2], 0, [], [], false, [], []⟩
def E_impl_FrmForm_small : Entry := ⟨S_impl_FrmForm_small, .r H_impl_FrmForm_small R_impl_FrmForm_small⟩
def S_slices_Equal_Sint_int : Sig := .d ⟨[(.one (.s)), (.one (.s))], (.one (.one (.b))), true⟩
def H_slices_Equal_Sint_int : Hint := ⟨[0, 1, 4, 5, 10, 12, 13, 14, 24], 0, [], [(4, ⟨[13], [], [], [], []⟩)], false, [], []⟩
def E_slices_Equal_Sint_int : Entry := ⟨S_slices_Equal_Sint_int, .r H_slices_Equal_Sint_int R_slices_Equal_Sint_int⟩
def S_impl_FrmForm_same : Sig := .d ⟨[(.g [.s, .s, .i .i64]), (.g [.s, .s, .i .i64])], (.one (.one (.b))), true⟩
def H_impl_FrmForm_same : Hint := ⟨[0, 1, 2, 3, 4], 0, [], [], false, [], []⟩
def E_impl_FrmForm_same : Entry := ⟨S_impl_FrmForm_same, .r H_impl_FrmForm_same R_impl_FrmForm_same⟩
def S_impl_ActLine_ok : Sig := .d ⟨[(.g [.i .i64, .i .i64, .i .i64, .s, .s, .i .i64])], (.one (.one (.b))), true⟩
def H_impl_ActLine_ok : Hint := ⟨[0, 1, 2, 4, 5, 20, 35, 50], 0, [], [], false, [], []⟩
def E_impl_ActLine_ok : Entry := ⟨S_impl_ActLine_ok, .r H_impl_ActLine_ok R_impl_ActLine_ok⟩
def S_impl_ActOk : Sig := .d ⟨[(.one (.s))], (.one (.one (.b))), true⟩
def H_impl_ActOk : Hint := ⟨[0, 2, 3, 5, 6, 7, 8, 9, 14, 17], 0, [], [(3, ⟨[8, 3], [], [], [], []⟩)], false, [], []⟩
def E_impl_ActOk : Entry := ⟨S_impl_ActOk, .r H_impl_ActOk R_impl_ActOk⟩
def S_impl_CatOk_1 : Sig := .d ⟨[(.one (.s))], (.one (.one (.b))), true⟩
def H_impl_CatOk_1 : Hint := ⟨[0, 2], 0, [], [], false, [], []⟩
def E_impl_CatOk_1 : Entry := ⟨S_impl_CatOk_1, .r H_impl_CatOk_1 R_impl_CatOk_1⟩
def S_impl_CatOk : Sig := .d ⟨[(.one (.s))], (.one (.one (.b))), true⟩
def H_impl_CatOk : Hint := ⟨[0, 2], 0, [], [], false, [], []⟩
def E_impl_CatOk : Entry := ⟨S_impl_CatOk, .r H_impl_CatOk R_impl_CatOk⟩
def S_impl_PlnPlan_treaty : Sig := .d ⟨[(.g [.i .i64, .s, .s, .s]), (.one (.s))], (.one (.g [.s, .s])), false⟩
def H_impl_PlnPlan_treaty : Hint := ⟨[0, 1, 2, 4], 0, [], [], false, [], []⟩
def E_impl_PlnPlan_treaty : Entry := ⟨S_impl_PlnPlan_treaty, .r H_impl_PlnPlan_treaty R_impl_PlnPlan_treaty⟩
def S_impl_TrtOk_1 : Sig := .d ⟨[(.one (.i .i64))], (.one (.one (.b))), true⟩
def H_impl_TrtOk_1 : Hint := ⟨[0, 2], 0, [], [], false, [], []⟩
def E_impl_TrtOk_1 : Entry := ⟨S_impl_TrtOk_1, .r H_impl_TrtOk_1 R_impl_TrtOk_1⟩
def S_impl_ValOk : Sig := .d ⟨[(.one (.s))], (.one (.one (.b))), true⟩
def H_impl_ValOk : Hint := ⟨[0, 2], 0, [], [], false, [], []⟩
def E_impl_ValOk : Entry := ⟨S_impl_ValOk, .r H_impl_ValOk R_impl_ValOk⟩
def S_impl_TrtOk : Sig := .d ⟨[(.g [.s, .s])], (.one (.one (.b))), true⟩
def H_impl_TrtOk : Hint := ⟨[0, 1, 2, 3], 0, [], [], false, [], []⟩
def E_impl_TrtOk : Entry := ⟨S_impl_TrtOk, .r H_impl_TrtOk R_impl_TrtOk⟩
def S_impl_PlnOk : Sig := .d ⟨[(.g [.i .i64, .s, .s, .s])], (.one (.one (.b))), true⟩
def H_impl_PlnOk : Hint := ⟨[0, 1, 2], 0, [], [], false, [], []⟩
def E_impl_PlnOk : Entry := ⟨S_impl_PlnOk, .r H_impl_PlnOk R_impl_PlnOk⟩
def S_impl_PlnCall_none : Sig := .d ⟨[(.g [.i .i64, .i .i64, .i .i64, .s])], (.one (.one (.b))), true⟩
def H_impl_PlnCall_none : Hint := ⟨[0, 1, 2], 0, [], [], false, [], []⟩
def E_impl_PlnCall_none : Entry := ⟨S_impl_PlnCall_none, .r H_impl_PlnCall_none R_impl_PlnCall_none⟩
def S_impl_PlnPlan_isClient : Sig := .d ⟨[(.g [.i .i64, .s, .s, .s]), (.one (.i .i64))], (.one (.one (.b))), true⟩
def H_impl_PlnPlan_isClient : Hint := ⟨[0, 1, 2, 4], 0, [], [], false, [], []⟩
def E_impl_PlnPlan_isClient : Entry := ⟨S_impl_PlnPlan_isClient, .r H_impl_PlnPlan_isClient R_impl_PlnPlan_isClient⟩
def S_impl_ArgOk : Sig := .d ⟨[(.one (.s))], (.one (.one (.b))), true⟩
def H_impl_ArgOk : Hint := ⟨[0, 2], 0, [], [], false, [], []⟩
def E_impl_ArgOk : Entry := ⟨S_impl_ArgOk, .r H_impl_ArgOk R_impl_ArgOk⟩
def S_impl_PlnPlan_callOk : Sig := .d ⟨[(.g [.i .i64, .s, .s, .s]), (.g [.i .i64, .i .i64, .i .i64, .s])], (.one (.one (.b))), true⟩
def H_impl_PlnPlan_callOk : Hint := ⟨[0, 1, 2, 3, 4], 0, [], [], false, [], []⟩
def E_impl_PlnPlan_callOk : Entry := ⟨S_impl_PlnPlan_callOk, .r H_impl_PlnPlan_callOk R_impl_PlnPlan_callOk⟩
def S_impl_PlnPlan_isSite : Sig := .d ⟨[(.g [.i .i64, .s, .s, .s]), (.one (.i .i64))], (.one (.one (.b))), true⟩
def H_impl_PlnPlan_isSite : Hint := ⟨[0, 1, 2, 4], 0, [], [], false, [], []⟩
def E_impl_PlnPlan_isSite : Entry := ⟨S_impl_PlnPlan_isSite, .r H_impl_PlnPlan_isSite R_impl_PlnPlan_isSite⟩
def S_impl_addedOk : Sig := .d ⟨[(.one (.s))], (.one (.one (.b))), true⟩
def H_impl_addedOk : Hint := ⟨[0, 2], 0, [], [], false, [], []⟩
def E_impl_addedOk : Entry := ⟨S_impl_addedOk, .r H_impl_addedOk R_impl_addedOk⟩
def S_impl_PlnPlan_seqsOk_1 : Sig := .d ⟨[(.one (.i .i64))], (.one (.one (.b))), true⟩
def H_impl_PlnPlan_seqsOk_1 : Hint := ⟨[0, 2], 0, [], [], false, [], []⟩
def E_impl_PlnPlan_seqsOk_1 : Entry := ⟨S_impl_PlnPlan_seqsOk_1, .r H_impl_PlnPlan_seqsOk_1 R_impl_PlnPlan_seqsOk_1⟩
def S_impl_PlnPlan_seqsOk : Sig := .d ⟨[(.g [.i .i64, .s, .s, .s]), (.one (.s))], (.one (.one (.b))), true⟩
def H_impl_PlnPlan_seqsOk : Hint := ⟨[0, 1, 2, 4], 0, [], [], false, [], []⟩
def E_impl_PlnPlan_seqsOk : Entry := ⟨S_impl_PlnPlan_seqsOk, .r H_impl_PlnPlan_seqsOk R_impl_PlnPlan_seqsOk⟩
def S_slices_IndexFunc_Simpl_PlnDone_impl_PlnDone : Sig := .d ⟨[(.one (.s)), (.one (.d))], (.one (.one (.i .i64))), true⟩
def H_slices_IndexFunc_Simpl_PlnDone_impl_PlnDone : Hint := ⟨[0, 1, 4, 5, 7, 8, 9, 16], 0, [], [(2, ⟨[8], [], [], [], []⟩)], false, [], []⟩
def E_slices_IndexFunc_Simpl_PlnDone_impl_PlnDone : Entry := ⟨S_slices_IndexFunc_Simpl_PlnDone_impl_PlnDone, .r H_slices_IndexFunc_Simpl_PlnDone_impl_PlnDone R_slices_IndexFunc_Simpl_PlnDone_impl_PlnDone⟩
def S_slices_ContainsFunc_Simpl_PlnDone_impl_PlnDone : Sig := .d ⟨[(.one (.s)), (.one (.d))], (.one (.one (.b))), true⟩
def H_slices_ContainsFunc_Simpl_PlnDone_impl_PlnDone : Hint := ⟨[0, 1, 4], 0, [], [], false, [], []⟩
def E_slices_ContainsFunc_Simpl_PlnDone_impl_PlnDone : Entry := ⟨S_slices_ContainsFunc_Simpl_PlnDone_impl_PlnDone, .r H_slices_ContainsFunc_Simpl_PlnDone_impl_PlnDone R_slices_ContainsFunc_Simpl_PlnDone_impl_PlnDone⟩
def S_impl_ResResult_none : Sig := .d ⟨[(.g [.i .i64, .s])], (.one (.one (.b))), true⟩
def H_impl_ResResult_none : Hint := ⟨[0, 1, 2], 0, [], [], false, [], []⟩
def E_impl_ResResult_none : Entry := ⟨S_impl_ResResult_none, .r H_impl_ResResult_none R_impl_ResResult_none⟩
def S_impl_codeWords : Sig := .x ⟨[], [], [], (.o 0 (.v 0)), [(.arr 9 1 (.v 0) false true)], [.s], false⟩
def H_impl_codeWords : Hint := ⟨[0], 0, [], [], false, [], []⟩
def E_impl_codeWords : Entry := ⟨S_impl_codeWords, .r H_impl_codeWords R_impl_codeWords⟩
def S_impl_joined : Sig := .d ⟨[(.one (.s))], (.one (.one (.d))), false⟩
def E_impl_joined : Entry := ⟨S_impl_joined, .m joinedF⟩
def S_impl_ResText : Sig := .d ⟨[(.g [.i .i64, .s])], (.one (.one (.d))), false⟩
def H_impl_ResText : Hint := ⟨[0, 1, 2, 32], 0, [], [], false, [], []⟩
def E_impl_ResText : Entry := ⟨S_impl_ResText, .r H_impl_ResText R_impl_ResText⟩
def S_impl_ResOk : Sig := .d ⟨[(.g [.i .i64, .s])], (.one (.one (.b))), true⟩
def H_impl_ResOk : Hint := ⟨[0, 1, 2], 0, [], [], false, [], []⟩
def E_impl_ResOk : Entry := ⟨S_impl_ResOk, .r H_impl_ResOk R_impl_ResOk⟩
def S_impl_PlnDone_ok : Sig := .d ⟨[(.g [.i .i64, .i .i64, .s])], (.one (.one (.b))), true⟩
def H_impl_PlnDone_ok : Hint := ⟨[0, 1, 2, 5], 0, [], [], false, [], []⟩
def E_impl_PlnDone_ok : Entry := ⟨S_impl_PlnDone_ok, .r H_impl_PlnDone_ok R_impl_PlnDone_ok⟩
def S_impl_PlnPlan_doneOk_1 : Sig := .d ⟨[(.g [.i .i64, .i .i64, .s])], (.one (.one (.b))), true⟩
def H_impl_PlnPlan_doneOk_1 : Hint := ⟨[0, 1, 2], 0, [], [], false, [], []⟩
def E_impl_PlnPlan_doneOk_1 : Entry := ⟨S_impl_PlnPlan_doneOk_1, .r H_impl_PlnPlan_doneOk_1 R_impl_PlnPlan_doneOk_1⟩
def S_impl_PlnPlan_doneOk : Sig := .d ⟨[(.g [.i .i64, .s, .s, .s]), (.one (.s))], (.one (.one (.b))), true⟩
def H_impl_PlnPlan_doneOk : Hint := ⟨[0, 1, 2, 4], 0, [], [], false, [], []⟩
def E_impl_PlnPlan_doneOk : Entry := ⟨S_impl_PlnPlan_doneOk, .r H_impl_PlnPlan_doneOk R_impl_PlnPlan_doneOk⟩
def S_impl_PlnPlan_msgOk : Sig := .d ⟨[(.g [.i .i64, .s, .s, .s]), (.g [.i .i64, .i .i64, .i .i64, .i .i64, .i .i64, .i .i64, .i .i64, .s, .s, .s, .s])], (.one (.one (.b))), true⟩
def H_impl_PlnPlan_msgOk : Hint := ⟨[0, 1, 2, 3, 4, 5, 6, 7, 8, 9, 10, 11, 37, 38, 47, 53, 66], 0, [], [], false, [], []⟩
def E_impl_PlnPlan_msgOk : Entry := ⟨S_impl_PlnPlan_msgOk, .r H_impl_PlnPlan_msgOk R_impl_PlnPlan_msgOk⟩
def S_impl_MsgOk : Sig := .d ⟨[(.g [.i .i64, .s, .s, .s]), (.g [.i .i64, .i .i64, .i .i64, .i .i64, .i .i64, .i .i64, .i .i64, .s, .s, .s, .s])], (.one (.one (.b))), true⟩
def H_impl_MsgOk : Hint := ⟨[0, 1, 2, 3, 4], 0, [], [], false, [], []⟩
def E_impl_MsgOk : Entry := ⟨S_impl_MsgOk, .r H_impl_MsgOk R_impl_MsgOk⟩
def S_laws_eqIntS : Sig := .d ⟨[(.one (.s)), (.one (.s))], (.one (.one (.b))), true⟩
def H_laws_eqIntS : Hint := ⟨[0, 1, 4, 5, 10, 14, 25], 0, [], [(4, ⟨[5], [], [], [], []⟩)], false, [], []⟩
def E_laws_eqIntS : Entry := ⟨S_laws_eqIntS, .r H_laws_eqIntS R_laws_eqIntS⟩
def S_laws_eqFrmForm : Sig := .d ⟨[(.g [.s, .s, .i .i64]), (.g [.s, .s, .i .i64])], (.one (.one (.b))), true⟩
def H_laws_eqFrmForm : Hint := ⟨[0, 1, 2, 3, 4, 10, 16, 21], 0, [], [], false, [], []⟩
def E_laws_eqFrmForm : Entry := ⟨S_laws_eqFrmForm, .r H_laws_eqFrmForm R_laws_eqFrmForm⟩
def S_laws_eqActLine : Sig := .d ⟨[(.g [.i .i64, .i .i64, .i .i64, .s, .s, .i .i64]), (.g [.i .i64, .i .i64, .i .i64, .s, .s, .i .i64])], (.one (.one (.b))), true⟩
def H_laws_eqActLine : Hint := ⟨[0, 1, 2, 3, 4, 9, 14, 19, 25], 0, [], [], false, [], []⟩
def E_laws_eqActLine : Entry := ⟨S_laws_eqActLine, .r H_laws_eqActLine R_laws_eqActLine⟩
def S_laws_eqActLineS : Sig := .d ⟨[(.one (.s)), (.one (.s))], (.one (.one (.b))), true⟩
def H_laws_eqActLineS : Hint := ⟨[0, 1, 4, 5, 10, 14, 26], 0, [], [(4, ⟨[5], [], [], [], []⟩)], false, [], []⟩
def E_laws_eqActLineS : Entry := ⟨S_laws_eqActLineS, .r H_laws_eqActLineS R_laws_eqActLineS⟩
def S_laws_eqActLineSS : Sig := .d ⟨[(.one (.s)), (.one (.s))], (.one (.one (.b))), true⟩
def H_laws_eqActLineSS : Hint := ⟨[0, 1, 4, 5, 10, 14, 26], 0, [], [(4, ⟨[5], [], [], [], []⟩)], false, [], []⟩
def E_laws_eqActLineSS : Entry := ⟨S_laws_eqActLineSS, .r H_laws_eqActLineSS R_laws_eqActLineSS⟩
def S_laws_eqPlnPlan : Sig := .d ⟨[(.g [.i .i64, .s, .s, .s]), (.g [.i .i64, .s, .s, .s])], (.one (.one (.b))), true⟩
def H_laws_eqPlnPlan : Hint := ⟨[0, 1, 2, 3, 4, 9, 15, 21, 27], 0, [], [], false, [], []⟩
def E_laws_eqPlnPlan : Entry := ⟨S_laws_eqPlnPlan, .r H_laws_eqPlnPlan R_laws_eqPlnPlan⟩
def S_laws_eqPlnCall : Sig := .d ⟨[(.g [.i .i64, .i .i64, .i .i64, .s]), (.g [.i .i64, .i .i64, .i .i64, .s])], (.one (.one (.b))), true⟩
def H_laws_eqPlnCall : Hint := ⟨[0, 1, 2, 3, 4, 9, 14, 19, 25], 0, [], [], false, [], []⟩
def E_laws_eqPlnCall : Entry := ⟨S_laws_eqPlnCall, .r H_laws_eqPlnCall R_laws_eqPlnCall⟩
def S_laws_eqResResult : Sig := .d ⟨[(.g [.i .i64, .s]), (.g [.i .i64, .s])], (.one (.one (.b))), true⟩
def H_laws_eqResResult : Hint := ⟨[0, 1, 2, 3, 4, 9, 15], 0, [], [], false, [], []⟩
def E_laws_eqResResult : Entry := ⟨S_laws_eqResResult, .r H_laws_eqResResult R_laws_eqResResult⟩
def S_laws_eqPlnDone : Sig := .d ⟨[(.g [.i .i64, .i .i64, .s]), (.g [.i .i64, .i .i64, .s])], (.one (.one (.b))), true⟩
def H_laws_eqPlnDone : Hint := ⟨[0, 1, 2, 3, 4, 9, 15], 0, [], [], false, [], []⟩
def E_laws_eqPlnDone : Entry := ⟨S_laws_eqPlnDone, .r H_laws_eqPlnDone R_laws_eqPlnDone⟩
def S_laws_eqPlnDoneS : Sig := .d ⟨[(.one (.s)), (.one (.s))], (.one (.one (.b))), true⟩
def H_laws_eqPlnDoneS : Hint := ⟨[0, 1, 4, 5, 10, 14, 26], 0, [], [(4, ⟨[5], [], [], [], []⟩)], false, [], []⟩
def E_laws_eqPlnDoneS : Entry := ⟨S_laws_eqPlnDoneS, .r H_laws_eqPlnDoneS R_laws_eqPlnDoneS⟩
def S_laws_eqMsgMsg : Sig := .d ⟨[(.g [.i .i64, .i .i64, .i .i64, .i .i64, .i .i64, .i .i64, .i .i64, .s, .s, .s, .s]), (.g [.i .i64, .i .i64, .i .i64, .i .i64, .i .i64, .i .i64, .i .i64, .s, .s, .s, .s])], (.one (.one (.b))), true⟩
def H_laws_eqMsgMsg : Hint := ⟨[0, 1, 2, 3, 4, 9, 14, 19, 24, 30, 36, 42, 48], 0, [], [], false, [], []⟩
def E_laws_eqMsgMsg : Entry := ⟨S_laws_eqMsgMsg, .r H_laws_eqMsgMsg R_laws_eqMsgMsg⟩
def S_laws_FnExactMsgOk : Sig := .d ⟨[(.g [.i .i64, .s, .s, .s]), (.g [.i .i64, .i .i64, .i .i64, .i .i64, .i .i64, .i .i64, .i .i64, .s, .s, .s, .s])], (.one (.one (.b))), true⟩
def H_laws_FnExactMsgOk : Hint := ⟨[0, 1, 2, 3, 4, 5, 6, 7, 8, 9, 14, 19, 34, 39, 44], 0, [], [], true, [], []⟩
def E_laws_FnExactMsgOk : Entry := ⟨S_laws_FnExactMsgOk, .r H_laws_FnExactMsgOk R_laws_FnExactMsgOk⟩
def L : Tabl := [(f_laws_szIntS, E_laws_szIntS), (f_laws_szFrmForm, E_laws_szFrmForm), (f_laws_szActLine, E_laws_szActLine), (f_laws_szActLineS, E_laws_szActLineS), (f_laws_szActLineSS, E_laws_szActLineSS), (f_laws_szPlnPlan, E_laws_szPlnPlan), (f_laws_szPlnCall, E_laws_szPlnCall), (f_laws_szResResult, E_laws_szResResult), (f_laws_szPlnDone, E_laws_szPlnDone), (f_laws_szPlnDoneS, E_laws_szPlnDoneS), (f_laws_szMsgMsg, E_laws_szMsgMsg), (f_laws_toIntS, E_laws_toIntS), (f_laws_toFrmForm, E_laws_toFrmForm), (f_laws_toActLine, E_laws_toActLine), (f_laws_toActLineS, E_laws_toActLineS), (f_laws_toActLineSS, E_laws_toActLineSS), (f_laws_toPlnPlan, E_laws_toPlnPlan), (f_laws_toPlnCall, E_laws_toPlnCall), (f_laws_toResResult, E_laws_toResResult), (f_laws_toPlnDone, E_laws_toPlnDone), (f_laws_toPlnDoneS, E_laws_toPlnDoneS), (f_laws_toMsgMsg, E_laws_toMsgMsg), (f_spec_l1In, E_spec_l1In), (f_spec_l1All, E_spec_l1All), (f_spec_l2Small, E_spec_l2Small), (f_spec_l2Line, E_spec_l2Line), (f_spec_ActOk, E_spec_ActOk), (f_spec_CatOk, E_spec_CatOk), (f_spec_ValOk, E_spec_ValOk), (f_spec_TrtOk, E_spec_TrtOk), (f_spec_PlnOk, E_spec_PlnOk), (f_spec_ArgOk, E_spec_ArgOk), (f_spec_l6Call, E_spec_l6Call), (f_spec_l7Bare, E_spec_l7Bare), (f_spec_l7Seqs, E_spec_l7Seqs), (f_spec_l1Digits, E_spec_l1Digits), (f_spec_ResText, E_spec_ResText), (f_spec_ResOk, E_spec_ResOk), (f_spec_l6Done, E_spec_l6Done), (f_spec_l7Ok, E_spec_l7Ok), (f_spec_MsgOk, E_spec_MsgOk), (f_impl_in, E_impl_in), (f_slices_IndexFunc_SSimpl_ActLine_Simpl_ActLine, E_slices_IndexFunc_SSimpl_ActLine_Simpl_ActLine), (f_slices_ContainsFunc_SSimpl_ActLine_Simpl_ActLine, E_slices_ContainsFunc_SSimpl_ActLine_Simpl_ActLine), (f_impl_within_1, E_impl_within_1), (f_slices_IndexFunc_Sint_int, E_slices_IndexFunc_Sint_int), (f_slices_ContainsFunc_Sint_int, E_slices_ContainsFunc_Sint_int), (f_impl_within, E_impl_within), (f_impl_FrmForm_small, E_impl_FrmForm_small), (f_slices_Equal_Sint_int, E_slices_Equal_Sint_int), (f_impl_FrmForm_same, E_impl_FrmForm_same), (f_impl_ActLine_ok, E_impl_ActLine_ok), (f_impl_ActOk, E_impl_ActOk), (f_impl_CatOk_1, E_impl_CatOk_1), (f_impl_CatOk, E_impl_CatOk), (f_impl_PlnPlan_treaty, E_impl_PlnPlan_treaty), (f_impl_TrtOk_1, E_impl_TrtOk_1), (f_impl_ValOk, E_impl_ValOk), (f_impl_TrtOk, E_impl_TrtOk), (f_impl_PlnOk, E_impl_PlnOk), (f_impl_PlnCall_none, E_impl_PlnCall_none), (f_impl_PlnPlan_isClient, E_impl_PlnPlan_isClient), (f_impl_ArgOk, E_impl_ArgOk), (f_impl_PlnPlan_callOk, E_impl_PlnPlan_callOk), (f_impl_PlnPlan_isSite, E_impl_PlnPlan_isSite), (f_impl_addedOk, E_impl_addedOk), (f_impl_PlnPlan_seqsOk_1, E_impl_PlnPlan_seqsOk_1), (f_impl_PlnPlan_seqsOk, E_impl_PlnPlan_seqsOk), (f_slices_IndexFunc_Simpl_PlnDone_impl_PlnDone, E_slices_IndexFunc_Simpl_PlnDone_impl_PlnDone), (f_slices_ContainsFunc_Simpl_PlnDone_impl_PlnDone, E_slices_ContainsFunc_Simpl_PlnDone_impl_PlnDone), (f_impl_ResResult_none, E_impl_ResResult_none), (f_impl_codeWords, E_impl_codeWords), (f_impl_joined, E_impl_joined), (f_impl_ResText, E_impl_ResText), (f_impl_ResOk, E_impl_ResOk), (f_impl_PlnDone_ok, E_impl_PlnDone_ok), (f_impl_PlnPlan_doneOk_1, E_impl_PlnPlan_doneOk_1), (f_impl_PlnPlan_doneOk, E_impl_PlnPlan_doneOk), (f_impl_PlnPlan_msgOk, E_impl_PlnPlan_msgOk), (f_impl_MsgOk, E_impl_MsgOk), (f_laws_eqIntS, E_laws_eqIntS), (f_laws_eqFrmForm, E_laws_eqFrmForm), (f_laws_eqActLine, E_laws_eqActLine), (f_laws_eqActLineS, E_laws_eqActLineS), (f_laws_eqActLineSS, E_laws_eqActLineSS), (f_laws_eqPlnPlan, E_laws_eqPlnPlan), (f_laws_eqPlnCall, E_laws_eqPlnCall), (f_laws_eqResResult, E_laws_eqResResult), (f_laws_eqPlnDone, E_laws_eqPlnDone), (f_laws_eqPlnDoneS, E_laws_eqPlnDoneS), (f_laws_eqMsgMsg, E_laws_eqMsgMsg), (f_laws_FnExactMsgOk, E_laws_FnExactMsgOk)]
set_option maxRecDepth 100000 in
theorem L_laws_szIntS : L.lookup f_laws_szIntS = some ⟨S_laws_szIntS, .r H_laws_szIntS R_laws_szIntS⟩ := rfl
set_option maxRecDepth 100000 in
theorem L_laws_szFrmForm : L.lookup f_laws_szFrmForm = some ⟨S_laws_szFrmForm, .r H_laws_szFrmForm R_laws_szFrmForm⟩ := rfl
set_option maxRecDepth 100000 in
theorem L_laws_szActLine : L.lookup f_laws_szActLine = some ⟨S_laws_szActLine, .r H_laws_szActLine R_laws_szActLine⟩ := rfl
set_option maxRecDepth 100000 in
theorem L_laws_szActLineS : L.lookup f_laws_szActLineS = some ⟨S_laws_szActLineS, .r H_laws_szActLineS R_laws_szActLineS⟩ := rfl
set_option maxRecDepth 100000 in
theorem L_laws_szActLineSS : L.lookup f_laws_szActLineSS = some ⟨S_laws_szActLineSS, .r H_laws_szActLineSS R_laws_szActLineSS⟩ := rfl
set_option maxRecDepth 100000 in
theorem L_laws_szPlnPlan : L.lookup f_laws_szPlnPlan = some ⟨S_laws_szPlnPlan, .r H_laws_szPlnPlan R_laws_szPlnPlan⟩ := rfl
set_option maxRecDepth 100000 in
theorem L_laws_szPlnCall : L.lookup f_laws_szPlnCall = some ⟨S_laws_szPlnCall, .r H_laws_szPlnCall R_laws_szPlnCall⟩ := rfl
set_option maxRecDepth 100000 in
theorem L_laws_szResResult : L.lookup f_laws_szResResult = some ⟨S_laws_szResResult, .r H_laws_szResResult R_laws_szResResult⟩ := rfl
set_option maxRecDepth 100000 in
theorem L_laws_szPlnDone : L.lookup f_laws_szPlnDone = some ⟨S_laws_szPlnDone, .r H_laws_szPlnDone R_laws_szPlnDone⟩ := rfl
set_option maxRecDepth 100000 in
theorem L_laws_szPlnDoneS : L.lookup f_laws_szPlnDoneS = some ⟨S_laws_szPlnDoneS, .r H_laws_szPlnDoneS R_laws_szPlnDoneS⟩ := rfl
set_option maxRecDepth 100000 in
theorem L_laws_szMsgMsg : L.lookup f_laws_szMsgMsg = some ⟨S_laws_szMsgMsg, .r H_laws_szMsgMsg R_laws_szMsgMsg⟩ := rfl
set_option maxRecDepth 100000 in
theorem L_laws_toIntS : L.lookup f_laws_toIntS = some ⟨S_laws_toIntS, .r H_laws_toIntS R_laws_toIntS⟩ := rfl
set_option maxRecDepth 100000 in
theorem L_laws_toFrmForm : L.lookup f_laws_toFrmForm = some ⟨S_laws_toFrmForm, .r H_laws_toFrmForm R_laws_toFrmForm⟩ := rfl
set_option maxRecDepth 100000 in
theorem L_laws_toActLine : L.lookup f_laws_toActLine = some ⟨S_laws_toActLine, .r H_laws_toActLine R_laws_toActLine⟩ := rfl
set_option maxRecDepth 100000 in
theorem L_laws_toActLineS : L.lookup f_laws_toActLineS = some ⟨S_laws_toActLineS, .r H_laws_toActLineS R_laws_toActLineS⟩ := rfl
set_option maxRecDepth 100000 in
theorem L_laws_toActLineSS : L.lookup f_laws_toActLineSS = some ⟨S_laws_toActLineSS, .r H_laws_toActLineSS R_laws_toActLineSS⟩ := rfl
set_option maxRecDepth 100000 in
theorem L_laws_toPlnPlan : L.lookup f_laws_toPlnPlan = some ⟨S_laws_toPlnPlan, .r H_laws_toPlnPlan R_laws_toPlnPlan⟩ := rfl
set_option maxRecDepth 100000 in
theorem L_laws_toPlnCall : L.lookup f_laws_toPlnCall = some ⟨S_laws_toPlnCall, .r H_laws_toPlnCall R_laws_toPlnCall⟩ := rfl
set_option maxRecDepth 100000 in
theorem L_laws_toResResult : L.lookup f_laws_toResResult = some ⟨S_laws_toResResult, .r H_laws_toResResult R_laws_toResResult⟩ := rfl
set_option maxRecDepth 100000 in
theorem L_laws_toPlnDone : L.lookup f_laws_toPlnDone = some ⟨S_laws_toPlnDone, .r H_laws_toPlnDone R_laws_toPlnDone⟩ := rfl
set_option maxRecDepth 100000 in
theorem L_laws_toPlnDoneS : L.lookup f_laws_toPlnDoneS = some ⟨S_laws_toPlnDoneS, .r H_laws_toPlnDoneS R_laws_toPlnDoneS⟩ := rfl
set_option maxRecDepth 100000 in
theorem L_laws_toMsgMsg : L.lookup f_laws_toMsgMsg = some ⟨S_laws_toMsgMsg, .r H_laws_toMsgMsg R_laws_toMsgMsg⟩ := rfl
set_option maxRecDepth 100000 in
theorem L_spec_l1In : L.lookup f_spec_l1In = some ⟨S_spec_l1In, .r H_spec_l1In R_spec_l1In⟩ := rfl
set_option maxRecDepth 100000 in
theorem L_spec_l1All : L.lookup f_spec_l1All = some ⟨S_spec_l1All, .r H_spec_l1All R_spec_l1All⟩ := rfl
set_option maxRecDepth 100000 in
theorem L_spec_l2Small : L.lookup f_spec_l2Small = some ⟨S_spec_l2Small, .r H_spec_l2Small R_spec_l2Small⟩ := rfl
set_option maxRecDepth 100000 in
theorem L_spec_l2Line : L.lookup f_spec_l2Line = some ⟨S_spec_l2Line, .r H_spec_l2Line R_spec_l2Line⟩ := rfl
set_option maxRecDepth 100000 in
theorem L_spec_ActOk : L.lookup f_spec_ActOk = some ⟨S_spec_ActOk, .r H_spec_ActOk R_spec_ActOk⟩ := rfl
set_option maxRecDepth 100000 in
theorem L_spec_CatOk : L.lookup f_spec_CatOk = some ⟨S_spec_CatOk, .r H_spec_CatOk R_spec_CatOk⟩ := rfl
set_option maxRecDepth 100000 in
theorem L_spec_ValOk : L.lookup f_spec_ValOk = some ⟨S_spec_ValOk, .r H_spec_ValOk R_spec_ValOk⟩ := rfl
set_option maxRecDepth 100000 in
theorem L_spec_TrtOk : L.lookup f_spec_TrtOk = some ⟨S_spec_TrtOk, .r H_spec_TrtOk R_spec_TrtOk⟩ := rfl
set_option maxRecDepth 100000 in
theorem L_spec_PlnOk : L.lookup f_spec_PlnOk = some ⟨S_spec_PlnOk, .r H_spec_PlnOk R_spec_PlnOk⟩ := rfl
set_option maxRecDepth 100000 in
theorem L_spec_ArgOk : L.lookup f_spec_ArgOk = some ⟨S_spec_ArgOk, .r H_spec_ArgOk R_spec_ArgOk⟩ := rfl
set_option maxRecDepth 100000 in
theorem L_spec_l6Call : L.lookup f_spec_l6Call = some ⟨S_spec_l6Call, .r H_spec_l6Call R_spec_l6Call⟩ := rfl
set_option maxRecDepth 100000 in
theorem L_spec_l7Bare : L.lookup f_spec_l7Bare = some ⟨S_spec_l7Bare, .r H_spec_l7Bare R_spec_l7Bare⟩ := rfl
set_option maxRecDepth 100000 in
theorem L_spec_l7Seqs : L.lookup f_spec_l7Seqs = some ⟨S_spec_l7Seqs, .r H_spec_l7Seqs R_spec_l7Seqs⟩ := rfl
set_option maxRecDepth 100000 in
theorem L_spec_l1Digits : L.lookup f_spec_l1Digits = some ⟨S_spec_l1Digits, .m digitsF⟩ := rfl
set_option maxRecDepth 100000 in
theorem L_spec_ResText : L.lookup f_spec_ResText = some ⟨S_spec_ResText, .r H_spec_ResText R_spec_ResText⟩ := rfl
set_option maxRecDepth 100000 in
theorem L_spec_ResOk : L.lookup f_spec_ResOk = some ⟨S_spec_ResOk, .r H_spec_ResOk R_spec_ResOk⟩ := rfl
set_option maxRecDepth 100000 in
theorem L_spec_l6Done : L.lookup f_spec_l6Done = some ⟨S_spec_l6Done, .r H_spec_l6Done R_spec_l6Done⟩ := rfl
set_option maxRecDepth 100000 in
theorem L_spec_l7Ok : L.lookup f_spec_l7Ok = some ⟨S_spec_l7Ok, .r H_spec_l7Ok R_spec_l7Ok⟩ := rfl
set_option maxRecDepth 100000 in
theorem L_spec_MsgOk : L.lookup f_spec_MsgOk = some ⟨S_spec_MsgOk, .r H_spec_MsgOk R_spec_MsgOk⟩ := rfl
set_option maxRecDepth 100000 in
theorem L_impl_in : L.lookup f_impl_in = some ⟨S_impl_in, .r H_impl_in R_impl_in⟩ := rfl
set_option maxRecDepth 100000 in
theorem L_slices_IndexFunc_SSimpl_ActLine_Simpl_ActLine : L.lookup f_slices_IndexFunc_SSimpl_ActLine_Simpl_ActLine = some ⟨S_slices_IndexFunc_SSimpl_ActLine_Simpl_ActLine, .r H_slices_IndexFunc_SSimpl_ActLine_Simpl_ActLine R_slices_IndexFunc_SSimpl_ActLine_Simpl_ActLine⟩ := rfl
set_option maxRecDepth 100000 in
theorem L_slices_ContainsFunc_SSimpl_ActLine_Simpl_ActLine : L.lookup f_slices_ContainsFunc_SSimpl_ActLine_Simpl_ActLine = some ⟨S_slices_ContainsFunc_SSimpl_ActLine_Simpl_ActLine, .r H_slices_ContainsFunc_SSimpl_ActLine_Simpl_ActLine R_slices_ContainsFunc_SSimpl_ActLine_Simpl_ActLine⟩ := rfl
set_option maxRecDepth 100000 in
theorem L_impl_within_1 : L.lookup f_impl_within_1 = some ⟨S_impl_within_1, .r H_impl_within_1 R_impl_within_1⟩ := rfl
set_option maxRecDepth 100000 in
theorem L_slices_IndexFunc_Sint_int : L.lookup f_slices_IndexFunc_Sint_int = some ⟨S_slices_IndexFunc_Sint_int, .r H_slices_IndexFunc_Sint_int R_slices_IndexFunc_Sint_int⟩ := rfl
set_option maxRecDepth 100000 in
theorem L_slices_ContainsFunc_Sint_int : L.lookup f_slices_ContainsFunc_Sint_int = some ⟨S_slices_ContainsFunc_Sint_int, .r H_slices_ContainsFunc_Sint_int R_slices_ContainsFunc_Sint_int⟩ := rfl
set_option maxRecDepth 100000 in
theorem L_impl_within : L.lookup f_impl_within = some ⟨S_impl_within, .r H_impl_within R_impl_within⟩ := rfl
set_option maxRecDepth 100000 in
theorem L_impl_FrmForm_small : L.lookup f_impl_FrmForm_small = some ⟨S_impl_FrmForm_small, .r H_impl_FrmForm_small R_impl_FrmForm_small⟩ := rfl
set_option maxRecDepth 100000 in
theorem L_slices_Equal_Sint_int : L.lookup f_slices_Equal_Sint_int = some ⟨S_slices_Equal_Sint_int, .r H_slices_Equal_Sint_int R_slices_Equal_Sint_int⟩ := rfl
set_option maxRecDepth 100000 in
theorem L_impl_FrmForm_same : L.lookup f_impl_FrmForm_same = some ⟨S_impl_FrmForm_same, .r H_impl_FrmForm_same R_impl_FrmForm_same⟩ := rfl
set_option maxRecDepth 100000 in
theorem L_impl_ActLine_ok : L.lookup f_impl_ActLine_ok = some ⟨S_impl_ActLine_ok, .r H_impl_ActLine_ok R_impl_ActLine_ok⟩ := rfl
set_option maxRecDepth 100000 in
theorem L_impl_ActOk : L.lookup f_impl_ActOk = some ⟨S_impl_ActOk, .r H_impl_ActOk R_impl_ActOk⟩ := rfl
set_option maxRecDepth 100000 in
theorem L_impl_CatOk_1 : L.lookup f_impl_CatOk_1 = some ⟨S_impl_CatOk_1, .r H_impl_CatOk_1 R_impl_CatOk_1⟩ := rfl
set_option maxRecDepth 100000 in
theorem L_impl_CatOk : L.lookup f_impl_CatOk = some ⟨S_impl_CatOk, .r H_impl_CatOk R_impl_CatOk⟩ := rfl
set_option maxRecDepth 100000 in
theorem L_impl_PlnPlan_treaty : L.lookup f_impl_PlnPlan_treaty = some ⟨S_impl_PlnPlan_treaty, .r H_impl_PlnPlan_treaty R_impl_PlnPlan_treaty⟩ := rfl
set_option maxRecDepth 100000 in
theorem L_impl_TrtOk_1 : L.lookup f_impl_TrtOk_1 = some ⟨S_impl_TrtOk_1, .r H_impl_TrtOk_1 R_impl_TrtOk_1⟩ := rfl
set_option maxRecDepth 100000 in
theorem L_impl_ValOk : L.lookup f_impl_ValOk = some ⟨S_impl_ValOk, .r H_impl_ValOk R_impl_ValOk⟩ := rfl
set_option maxRecDepth 100000 in
theorem L_impl_TrtOk : L.lookup f_impl_TrtOk = some ⟨S_impl_TrtOk, .r H_impl_TrtOk R_impl_TrtOk⟩ := rfl
set_option maxRecDepth 100000 in
theorem L_impl_PlnOk : L.lookup f_impl_PlnOk = some ⟨S_impl_PlnOk, .r H_impl_PlnOk R_impl_PlnOk⟩ := rfl
set_option maxRecDepth 100000 in
theorem L_impl_PlnCall_none : L.lookup f_impl_PlnCall_none = some ⟨S_impl_PlnCall_none, .r H_impl_PlnCall_none R_impl_PlnCall_none⟩ := rfl
set_option maxRecDepth 100000 in
theorem L_impl_PlnPlan_isClient : L.lookup f_impl_PlnPlan_isClient = some ⟨S_impl_PlnPlan_isClient, .r H_impl_PlnPlan_isClient R_impl_PlnPlan_isClient⟩ := rfl
set_option maxRecDepth 100000 in
theorem L_impl_ArgOk : L.lookup f_impl_ArgOk = some ⟨S_impl_ArgOk, .r H_impl_ArgOk R_impl_ArgOk⟩ := rfl
set_option maxRecDepth 100000 in
theorem L_impl_PlnPlan_callOk : L.lookup f_impl_PlnPlan_callOk = some ⟨S_impl_PlnPlan_callOk, .r H_impl_PlnPlan_callOk R_impl_PlnPlan_callOk⟩ := rfl
set_option maxRecDepth 100000 in
theorem L_impl_PlnPlan_isSite : L.lookup f_impl_PlnPlan_isSite = some ⟨S_impl_PlnPlan_isSite, .r H_impl_PlnPlan_isSite R_impl_PlnPlan_isSite⟩ := rfl
set_option maxRecDepth 100000 in
theorem L_impl_addedOk : L.lookup f_impl_addedOk = some ⟨S_impl_addedOk, .r H_impl_addedOk R_impl_addedOk⟩ := rfl
set_option maxRecDepth 100000 in
theorem L_impl_PlnPlan_seqsOk_1 : L.lookup f_impl_PlnPlan_seqsOk_1 = some ⟨S_impl_PlnPlan_seqsOk_1, .r H_impl_PlnPlan_seqsOk_1 R_impl_PlnPlan_seqsOk_1⟩ := rfl
set_option maxRecDepth 100000 in
theorem L_impl_PlnPlan_seqsOk : L.lookup f_impl_PlnPlan_seqsOk = some ⟨S_impl_PlnPlan_seqsOk, .r H_impl_PlnPlan_seqsOk R_impl_PlnPlan_seqsOk⟩ := rfl
set_option maxRecDepth 100000 in
theorem L_slices_IndexFunc_Simpl_PlnDone_impl_PlnDone : L.lookup f_slices_IndexFunc_Simpl_PlnDone_impl_PlnDone = some ⟨S_slices_IndexFunc_Simpl_PlnDone_impl_PlnDone, .r H_slices_IndexFunc_Simpl_PlnDone_impl_PlnDone R_slices_IndexFunc_Simpl_PlnDone_impl_PlnDone⟩ := rfl
set_option maxRecDepth 100000 in
theorem L_slices_ContainsFunc_Simpl_PlnDone_impl_PlnDone : L.lookup f_slices_ContainsFunc_Simpl_PlnDone_impl_PlnDone = some ⟨S_slices_ContainsFunc_Simpl_PlnDone_impl_PlnDone, .r H_slices_ContainsFunc_Simpl_PlnDone_impl_PlnDone R_slices_ContainsFunc_Simpl_PlnDone_impl_PlnDone⟩ := rfl
set_option maxRecDepth 100000 in
theorem L_impl_ResResult_none : L.lookup f_impl_ResResult_none = some ⟨S_impl_ResResult_none, .r H_impl_ResResult_none R_impl_ResResult_none⟩ := rfl
set_option maxRecDepth 100000 in
theorem L_impl_codeWords : L.lookup f_impl_codeWords = some ⟨S_impl_codeWords, .r H_impl_codeWords R_impl_codeWords⟩ := rfl
set_option maxRecDepth 100000 in
theorem L_impl_joined : L.lookup f_impl_joined = some ⟨S_impl_joined, .m joinedF⟩ := rfl
set_option maxRecDepth 100000 in
theorem L_impl_ResText : L.lookup f_impl_ResText = some ⟨S_impl_ResText, .r H_impl_ResText R_impl_ResText⟩ := rfl
set_option maxRecDepth 100000 in
theorem L_impl_ResOk : L.lookup f_impl_ResOk = some ⟨S_impl_ResOk, .r H_impl_ResOk R_impl_ResOk⟩ := rfl
set_option maxRecDepth 100000 in
theorem L_impl_PlnDone_ok : L.lookup f_impl_PlnDone_ok = some ⟨S_impl_PlnDone_ok, .r H_impl_PlnDone_ok R_impl_PlnDone_ok⟩ := rfl
set_option maxRecDepth 100000 in
theorem L_impl_PlnPlan_doneOk_1 : L.lookup f_impl_PlnPlan_doneOk_1 = some ⟨S_impl_PlnPlan_doneOk_1, .r H_impl_PlnPlan_doneOk_1 R_impl_PlnPlan_doneOk_1⟩ := rfl
set_option maxRecDepth 100000 in
theorem L_impl_PlnPlan_doneOk : L.lookup f_impl_PlnPlan_doneOk = some ⟨S_impl_PlnPlan_doneOk, .r H_impl_PlnPlan_doneOk R_impl_PlnPlan_doneOk⟩ := rfl
set_option maxRecDepth 100000 in
theorem L_impl_PlnPlan_msgOk : L.lookup f_impl_PlnPlan_msgOk = some ⟨S_impl_PlnPlan_msgOk, .r H_impl_PlnPlan_msgOk R_impl_PlnPlan_msgOk⟩ := rfl
set_option maxRecDepth 100000 in
theorem L_impl_MsgOk : L.lookup f_impl_MsgOk = some ⟨S_impl_MsgOk, .r H_impl_MsgOk R_impl_MsgOk⟩ := rfl
set_option maxRecDepth 100000 in
theorem L_laws_eqIntS : L.lookup f_laws_eqIntS = some ⟨S_laws_eqIntS, .r H_laws_eqIntS R_laws_eqIntS⟩ := rfl
set_option maxRecDepth 100000 in
theorem L_laws_eqFrmForm : L.lookup f_laws_eqFrmForm = some ⟨S_laws_eqFrmForm, .r H_laws_eqFrmForm R_laws_eqFrmForm⟩ := rfl
set_option maxRecDepth 100000 in
theorem L_laws_eqActLine : L.lookup f_laws_eqActLine = some ⟨S_laws_eqActLine, .r H_laws_eqActLine R_laws_eqActLine⟩ := rfl
set_option maxRecDepth 100000 in
theorem L_laws_eqActLineS : L.lookup f_laws_eqActLineS = some ⟨S_laws_eqActLineS, .r H_laws_eqActLineS R_laws_eqActLineS⟩ := rfl
set_option maxRecDepth 100000 in
theorem L_laws_eqActLineSS : L.lookup f_laws_eqActLineSS = some ⟨S_laws_eqActLineSS, .r H_laws_eqActLineSS R_laws_eqActLineSS⟩ := rfl
set_option maxRecDepth 100000 in
theorem L_laws_eqPlnPlan : L.lookup f_laws_eqPlnPlan = some ⟨S_laws_eqPlnPlan, .r H_laws_eqPlnPlan R_laws_eqPlnPlan⟩ := rfl
set_option maxRecDepth 100000 in
theorem L_laws_eqPlnCall : L.lookup f_laws_eqPlnCall = some ⟨S_laws_eqPlnCall, .r H_laws_eqPlnCall R_laws_eqPlnCall⟩ := rfl
set_option maxRecDepth 100000 in
theorem L_laws_eqResResult : L.lookup f_laws_eqResResult = some ⟨S_laws_eqResResult, .r H_laws_eqResResult R_laws_eqResResult⟩ := rfl
set_option maxRecDepth 100000 in
theorem L_laws_eqPlnDone : L.lookup f_laws_eqPlnDone = some ⟨S_laws_eqPlnDone, .r H_laws_eqPlnDone R_laws_eqPlnDone⟩ := rfl
set_option maxRecDepth 100000 in
theorem L_laws_eqPlnDoneS : L.lookup f_laws_eqPlnDoneS = some ⟨S_laws_eqPlnDoneS, .r H_laws_eqPlnDoneS R_laws_eqPlnDoneS⟩ := rfl
set_option maxRecDepth 100000 in
theorem L_laws_eqMsgMsg : L.lookup f_laws_eqMsgMsg = some ⟨S_laws_eqMsgMsg, .r H_laws_eqMsgMsg R_laws_eqMsgMsg⟩ := rfl
set_option maxRecDepth 100000 in
theorem L_laws_FnExactMsgOk : L.lookup f_laws_FnExactMsgOk = some ⟨S_laws_FnExactMsgOk, .r H_laws_FnExactMsgOk R_laws_FnExactMsgOk⟩ := rfl
end Go.Proofs.YtdibnlhlngodeaaGreatDoor

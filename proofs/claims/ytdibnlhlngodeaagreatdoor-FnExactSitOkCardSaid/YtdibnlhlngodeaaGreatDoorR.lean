/- The residual programs of the functions, and the table of them. -/
import Derived.Test.YtdibnlhlngodeaaGreatDoorTd
set_option linter.unusedVariables false
set_option linter.unusedSimpArgs false
namespace Go.Proofs.YtdibnlhlngodeaaGreatDoor
open Go Go.Tm
abbrev f_laws_szIntS : Nat := 52
abbrev f_laws_szFrmForm : Nat := 203
abbrev f_laws_szActLine : Nat := 157
abbrev f_laws_szActLineS : Nat := 103
abbrev f_laws_szActLineSS : Nat := 51
abbrev f_laws_szPlnPlan : Nat := 10
abbrev f_laws_szResResult : Nat := 158
abbrev f_laws_szPlnDone : Nat := 104
abbrev f_laws_szPlnDoneS : Nat := 53
abbrev f_laws_szSitSite : Nat := 18
abbrev f_laws_toIntS : Nat := 56
abbrev f_laws_toFrmForm : Nat := 205
abbrev f_laws_toActLine : Nat := 160
abbrev f_laws_toActLineS : Nat := 110
abbrev f_laws_toActLineSS : Nat := 55
abbrev f_laws_toPlnPlan : Nat := 13
abbrev f_laws_toResResult : Nat := 161
abbrev f_laws_toPlnDone : Nat := 111
abbrev f_laws_toPlnDoneS : Nat := 57
abbrev f_laws_toSitSite : Nat := 20
abbrev f_spec_l1In : Nat := 63
abbrev f_spec_l1All : Nat := 98
abbrev f_spec_l2Small : Nat := 241
abbrev f_spec_l2Line : Nat := 202
abbrev f_spec_ActOk : Nat := 156
abbrev f_spec_CatOk : Nat := 97
abbrev f_spec_ValOk : Nat := 108
abbrev f_spec_TrtOk : Nat := 99
abbrev f_spec_PlnOk : Nat := 47
abbrev f_spec_FrmZero : Nat := 132
abbrev f_spec_FrmPot : Nat := 126
abbrev f_spec_l1Sum : Nat := 216
abbrev f_spec_l3Copy : Nat := 213
abbrev f_spec_FrmOk : Nat := 246
abbrev f_spec_FrmInto : Nat := 214
abbrev f_spec_l3Minus : Nat := 215
abbrev f_spec_l3Row : Nat := 217
abbrev f_spec_l3Walk : Nat := 176
abbrev f_spec_RowsOf : Nat := 127
abbrev f_spec_l4Reads : Nat := 128
abbrev f_spec_CatPart : Nat := 129
abbrev f_spec_l4Same : Nat := 131
abbrev f_spec_CatHas : Nat := 130
abbrev f_spec_l4Both : Nat := 64
abbrev f_spec_l8Treaty : Nat := 70
abbrev f_spec_l5Parts : Nat := 177
abbrev f_spec_l5Times : Nat := 178
abbrev f_spec_TrtKeeps : Nat := 133
abbrev f_spec_l5Still : Nat := 134
abbrev f_spec_l1Digits : Nat := 242
abbrev f_spec_ResText : Nat := 204
abbrev f_spec_ResOk : Nat := 159
abbrev f_spec_l6Done : Nat := 109
abbrev f_spec_l8Ok : Nat := 65
abbrev f_spec_SitOk : Nat := 19
abbrev f_impl_in : Nat := 112
abbrev f_slices_IndexFunc_SSimpl_ActLine_Simpl_ActLine : Nat := 206
abbrev f_slices_ContainsFunc_SSimpl_ActLine_Simpl_ActLine : Nat := 162
abbrev f_impl_within_1 : Nat := 166
abbrev f_slices_IndexFunc_Sint_int : Nat := 208
abbrev f_slices_ContainsFunc_Sint_int : Nat := 165
abbrev f_impl_within : Nat := 114
abbrev f_impl_FrmForm_small : Nat := 243
abbrev f_slices_Equal_Sint_int : Nat := 227
abbrev f_impl_FrmForm_same : Nat := 244
abbrev f_impl_ActLine_ok : Nat := 207
abbrev f_impl_ActOk : Nat := 164
abbrev f_impl_CatOk_1 : Nat := 163
abbrev f_impl_CatOk : Nat := 113
abbrev f_impl_PlnPlan_treaty : Nat := 116
abbrev f_impl_TrtOk_1 : Nat := 167
abbrev f_impl_ValOk : Nat := 122
abbrev f_impl_TrtOk : Nat := 115
abbrev f_impl_PlnOk : Nat := 58
abbrev f_impl_FrmZero : Nat := 101
abbrev f_impl_FrmPot : Nat := 181
abbrev f_slices_Clone_Sint_int : Nat := 149
abbrev f_impl_FrmForm_copied : Nat := 260
abbrev f_impl_forms : Nat := 248
abbrev f_impl_FrmOk : Nat := 100
abbrev f_slices_IndexFunc_Simpl_FrmForm_impl_FrmForm : Nat := 237
abbrev f_slices_ContainsFunc_Simpl_FrmForm_impl_FrmForm : Nat := 194
abbrev f_impl_FrmInto_1 : Nat := 261
abbrev f_impl_FrmForm_add : Nat := 262
abbrev f_impl_checked : Nat := 263
abbrev f_impl_FrmInto : Nat := 249
abbrev f_impl_FrmTimes : Nat := 250
abbrev f_impl_FrmAdd : Nat := 251
abbrev f_impl_walker_walk : Nat := 222
abbrev f_impl_RowsOf : Nat := 182
abbrev f_impl_CatPart_1 : Nat := 223
abbrev f_impl_CatPart : Nat := 183
abbrev f_impl_zeros_1 : Nat := 224
abbrev f_impl_zeros : Nat := 184
abbrev f_impl_CatHas_1 : Nat := 226
abbrev f_slices_IndexFunc_SSint_Sint : Nat := 225
abbrev f_impl_CatHas : Nat := 185
abbrev f_impl_CatForms : Nat := 136
abbrev f_impl_pots : Nat := 186
abbrev f_slices_Grow_Simpl_FrmForm_impl_FrmForm : Nat := 252
abbrev f_slices_Concat_Simpl_FrmForm_impl_FrmForm : Nat := 228
abbrev f_impl_RowRow_reads_1 : Nat := 229
abbrev f_impl_RowRow_reads : Nat := 187
abbrev f_impl_CatPins : Nat := 137
abbrev f_impl_rulesOf : Nat := 67
abbrev f_impl_PlnPlan_isSite : Nat := 119
abbrev f_slices_ContainsFunc_SSint_Sint : Nat := 219
abbrev f_impl_partsOk_1 : Nat := 259
abbrev f_impl_partsOk : Nat := 247
abbrev f_impl_addedOk : Nat := 120
abbrev f_impl_TrtTreaty_ok : Nat := 218
abbrev f_impl_dot : Nat := 221
abbrev f_impl_TrtKeeps_1 : Nat := 220
abbrev f_impl_TrtKeeps : Nat := 179
abbrev f_impl_rules_unpinned : Nat := 180
abbrev f_impl_rules_keeps : Nat := 135
abbrev f_slices_IndexFunc_Simpl_PlnDone_impl_PlnDone : Nat := 209
abbrev f_slices_ContainsFunc_Simpl_PlnDone_impl_PlnDone : Nat := 171
abbrev f_impl_ResResult_none : Nat := 210
abbrev f_impl_codeWords : Nat := 257
abbrev f_impl_joined : Nat := 258
abbrev f_impl_ResText : Nat := 245
abbrev f_impl_ResOk : Nat := 211
abbrev f_impl_PlnDone_ok : Nat := 173
abbrev f_impl_PlnPlan_doneOk_1 : Nat := 172
abbrev f_impl_PlnPlan_doneOk : Nat := 123
abbrev f_impl_PlnPlan_siteOk : Nat := 66
abbrev f_impl_SitOk : Nat := 21
abbrev f_laws_eqIntS : Nat := 61
abbrev f_laws_eqFrmForm : Nat := 212
abbrev f_laws_eqActLine : Nat := 174
abbrev f_laws_eqActLineS : Nat := 124
abbrev f_laws_eqActLineSS : Nat := 60
abbrev f_laws_eqPlnPlan : Nat := 16
abbrev f_laws_eqResResult : Nat := 175
abbrev f_laws_eqPlnDone : Nat := 125
abbrev f_laws_eqPlnDoneS : Nat := 62
abbrev f_laws_eqSitSite : Nat := 22
abbrev f_laws_FnExactSitOk : Nat := 4

def R_laws_szIntS : R :=
 .ite (.cmp .lt (.bin .sub .i64 (.v 1) (.len (.v 0))) (.z 0))
 (
 .done [(.vi .i64 (.z (-1)))])
 (
 .done [(.vi .i64 (.bin .sub .i64 (.v 1) (.len (.v 0))))])

def R_laws_szFrmForm : R :=
 .i (.call f_laws_szIntS [(.s (.v 0)), (.vi .i64 (.v 3))] [.i .i64] 4) <|
 .ite (.cmp .lt (.v 4) (.z 0))
 (
 .done [(.vi .i64 (.z (-1)))])
 (
 .i (.call f_laws_szIntS [(.s (.v 1)), (.vi .i64 (.v 4))] [.i .i64] 5) <|
 .ite (.cmp .lt (.v 5) (.z 0))
 (
 .done [(.vi .i64 (.z (-1)))])
 (
 .done [(.vi .i64 (.v 5))]))

def R_laws_szActLine : R :=
 .i (.call f_laws_szFrmForm [(.s (.v 3)), (.s (.v 4)), (.vi .i64 (.v 5)), (.vi .i64 (.v 6))] [.i .i64] 7) <|
 .ite (.cmp .lt (.v 7) (.z 0))
 (
 .done [(.vi .i64 (.z (-1)))])
 (
 .done [(.vi .i64 (.v 7))])

def R_laws_szActLineS : R :=
 .ite (.cmp .lt (.bin .sub .i64 (.v 1) (.len (.v 0))) (.z 0))
 (
 .done [(.vi .i64 (.z (-1)))])
 (
 .loop 2 [(.bin .sub .i64 (.v 1) (.len (.v 0))), (.z 0)] <|
 .ite (.cmp .lt (.v 3) (.len (.v 0)))
 (
 .i (.idx (.v 0) (.v 3) (.g [.i .i64, .i .i64, .i .i64, .s, .s, .i .i64]) 4) <|
 .i (.call f_laws_szActLine [(.vi .i64 (.v 4)), (.vi .i64 (.v 5)), (.vi .i64 (.v 6)), (.s (.v 7)), (.s (.v 8)), (.vi .i64 (.v 9)), (.vi .i64 (.v 2))] [.i .i64] 10) <|
 .ite (.cmp .lt (.v 10) (.z 0))
 (
 .esc <|
 .done [(.vi .i64 (.z (-1)))])
 (
 .next [(.v 10), (.bin .add .i64 (.v 3) (.z 1))]))
 (
 .esc <|
 .done [(.vi .i64 (.v 2))]))

def R_laws_szActLineSS : R :=
 .ite (.cmp .lt (.bin .sub .i64 (.v 1) (.len (.v 0))) (.z 0))
 (
 .done [(.vi .i64 (.z (-1)))])
 (
 .loop 2 [(.bin .sub .i64 (.v 1) (.len (.v 0))), (.z 0)] <|
 .ite (.cmp .lt (.v 3) (.len (.v 0)))
 (
 .i (.idx (.v 0) (.v 3) (.one (.s)) 4) <|
 .i (.call f_laws_szActLineS [(.s (.v 4)), (.vi .i64 (.v 2))] [.i .i64] 5) <|
 .ite (.cmp .lt (.v 5) (.z 0))
 (
 .esc <|
 .done [(.vi .i64 (.z (-1)))])
 (
 .next [(.v 5), (.bin .add .i64 (.v 3) (.z 1))]))
 (
 .esc <|
 .done [(.vi .i64 (.v 2))]))

def R_laws_szPlnPlan : R :=
 .i (.call f_laws_szActLineSS [(.s (.v 1)), (.vi .i64 (.v 4))] [.i .i64] 5) <|
 .ite (.cmp .lt (.v 5) (.z 0))
 (
 .done [(.vi .i64 (.z (-1)))])
 (
 .i (.call f_laws_szIntS [(.s (.v 2)), (.vi .i64 (.v 5))] [.i .i64] 6) <|
 .ite (.cmp .lt (.v 6) (.z 0))
 (
 .done [(.vi .i64 (.z (-1)))])
 (
 .i (.call f_laws_szIntS [(.s (.v 3)), (.vi .i64 (.v 6))] [.i .i64] 7) <|
 .ite (.cmp .lt (.v 7) (.z 0))
 (
 .done [(.vi .i64 (.z (-1)))])
 (
 .done [(.vi .i64 (.v 7))])))

def R_laws_szResResult : R :=
 .i (.call f_laws_szIntS [(.s (.v 1)), (.vi .i64 (.v 2))] [.i .i64] 3) <|
 .ite (.cmp .lt (.v 3) (.z 0))
 (
 .done [(.vi .i64 (.z (-1)))])
 (
 .done [(.vi .i64 (.v 3))])

def R_laws_szPlnDone : R :=
 .i (.call f_laws_szResResult [(.vi .i64 (.v 1)), (.s (.v 2)), (.vi .i64 (.v 3))] [.i .i64] 4) <|
 .ite (.cmp .lt (.v 4) (.z 0))
 (
 .done [(.vi .i64 (.z (-1)))])
 (
 .done [(.vi .i64 (.v 4))])

def R_laws_szPlnDoneS : R :=
 .ite (.cmp .lt (.bin .sub .i64 (.v 1) (.len (.v 0))) (.z 0))
 (
 .done [(.vi .i64 (.z (-1)))])
 (
 .loop 2 [(.bin .sub .i64 (.v 1) (.len (.v 0))), (.z 0)] <|
 .ite (.cmp .lt (.v 3) (.len (.v 0)))
 (
 .i (.idx (.v 0) (.v 3) (.g [.i .i64, .i .i64, .s]) 4) <|
 .i (.call f_laws_szPlnDone [(.vi .i64 (.v 4)), (.vi .i64 (.v 5)), (.s (.v 6)), (.vi .i64 (.v 2))] [.i .i64] 7) <|
 .ite (.cmp .lt (.v 7) (.z 0))
 (
 .esc <|
 .done [(.vi .i64 (.z (-1)))])
 (
 .next [(.v 7), (.bin .add .i64 (.v 3) (.z 1))]))
 (
 .esc <|
 .done [(.vi .i64 (.v 2))]))

def R_laws_szSitSite : R :=
 .i (.call f_laws_szIntS [(.s (.v 3)), (.vi .i64 (.v 6))] [.i .i64] 7) <|
 .ite (.cmp .lt (.v 7) (.z 0))
 (
 .done [(.vi .i64 (.z (-1)))])
 (
 .i (.call f_laws_szIntS [(.s (.v 4)), (.vi .i64 (.v 7))] [.i .i64] 8) <|
 .ite (.cmp .lt (.v 8) (.z 0))
 (
 .done [(.vi .i64 (.z (-1)))])
 (
 .i (.call f_laws_szPlnDoneS [(.s (.v 5)), (.vi .i64 (.v 8))] [.i .i64] 9) <|
 .ite (.cmp .lt (.v 9) (.z 0))
 (
 .done [(.vi .i64 (.z (-1)))])
 (
 .done [(.vi .i64 (.v 9))])))

def R_laws_toIntS : R :=
 .i (.chk (.cmp .le (.z 0) (.len (.v 0)))) <|
 .i (.chk (.cmp .le (.len (.v 0)) (.z 8796093022208))) <|
 .loop 1 [(.rep (.len (.v 0)) (.vi .i64 (.z 0))), (.z 0)] <|
 .ite (.cmp .lt (.v 2) (.len (.v 0)))
 (
 .i (.idx (.v 0) (.v 2) (.one (.i .i64)) 3) <|
 .i (.chk (.cmp .le (.z 0) (.v 2))) <|
 .i (.chk (.cmp .lt (.v 2) (.len (.v 1)))) <|
 .i (.idx (.v 1) (.v 2) (.one (.i .i64)) 4) <|
 .next [(.set (.v 1) (.v 2) (.vi .i64 (.v 3))), (.bin .add .i64 (.v 2) (.z 1))])
 (
 .esc <|
 .done [(.s (.v 1))])

def R_laws_toFrmForm : R :=
 .i (.call f_laws_toIntS [(.s (.v 0))] [.s] 3) <|
 .i (.call f_laws_toIntS [(.s (.v 1))] [.s] 4) <|
 .done [(.s (.v 3)), (.s (.v 4)), (.vi .i64 (.v 2))]

def R_laws_toActLine : R :=
 .i (.call f_laws_toFrmForm [(.s (.v 3)), (.s (.v 4)), (.vi .i64 (.v 5))] [.s, .s, .i .i64] 6) <|
 .done [(.vi .i64 (.v 0)), (.vi .i64 (.v 1)), (.vi .i64 (.v 2)), (.s (.v 6)), (.s (.v 7)), (.vi .i64 (.v 8))]

def R_laws_toActLineS : R :=
 .i (.chk (.cmp .le (.z 0) (.len (.v 0)))) <|
 .i (.chk (.cmp .le (.len (.v 0)) (.z 879609302220))) <|
 .loop 1 [(.rep (.len (.v 0)) (.g (.cons (.vi .i64 (.z 0)) (.cons (.vi .i64 (.z 0)) (.cons (.vi .i64 (.z 0)) (.cons (.s .nil) (.cons (.s .nil) (.cons (.vi .i64 (.z 0)) .nil)))))))), (.z 0)] <|
 .ite (.cmp .lt (.v 2) (.len (.v 0)))
 (
 .i (.idx (.v 0) (.v 2) (.g [.i .i64, .i .i64, .i .i64, .s, .s, .i .i64]) 3) <|
 .i (.call f_laws_toActLine [(.vi .i64 (.v 3)), (.vi .i64 (.v 4)), (.vi .i64 (.v 5)), (.s (.v 6)), (.s (.v 7)), (.vi .i64 (.v 8))] [.i .i64, .i .i64, .i .i64, .s, .s, .i .i64] 9) <|
 .i (.chk (.cmp .le (.z 0) (.v 2))) <|
 .i (.chk (.cmp .lt (.v 2) (.len (.v 1)))) <|
 .i (.idx (.v 1) (.v 2) (.g [.i .i64, .i .i64, .i .i64, .s, .s, .i .i64]) 15) <|
 .next [(.set (.v 1) (.v 2) (.g (.cons (.vi .i64 (.v 9)) (.cons (.vi .i64 (.v 10)) (.cons (.vi .i64 (.v 11)) (.cons (.s (.v 12)) (.cons (.s (.v 13)) (.cons (.vi .i64 (.v 14)) .nil)))))))), (.bin .add .i64 (.v 2) (.z 1))])
 (
 .esc <|
 .done [(.s (.v 1))])

def R_laws_toActLineSS : R :=
 .i (.chk (.cmp .le (.z 0) (.len (.v 0)))) <|
 .i (.chk (.cmp .le (.len (.v 0)) (.z 2932031007402))) <|
 .loop 1 [(.rep (.len (.v 0)) (.s .nil)), (.z 0)] <|
 .ite (.cmp .lt (.v 2) (.len (.v 0)))
 (
 .i (.idx (.v 0) (.v 2) (.one (.s)) 3) <|
 .i (.call f_laws_toActLineS [(.s (.v 3))] [.s] 4) <|
 .i (.chk (.cmp .le (.z 0) (.v 2))) <|
 .i (.chk (.cmp .lt (.v 2) (.len (.v 1)))) <|
 .i (.idx (.v 1) (.v 2) (.one (.s)) 5) <|
 .next [(.set (.v 1) (.v 2) (.s (.v 4))), (.bin .add .i64 (.v 2) (.z 1))])
 (
 .esc <|
 .done [(.s (.v 1))])

def R_laws_toPlnPlan : R :=
 .i (.call f_laws_toActLineSS [(.s (.v 1))] [.s] 4) <|
 .i (.call f_laws_toIntS [(.s (.v 2))] [.s] 5) <|
 .i (.call f_laws_toIntS [(.s (.v 3))] [.s] 6) <|
 .done [(.vi .i64 (.v 0)), (.s (.v 4)), (.s (.v 5)), (.s (.v 6))]

def R_laws_toResResult : R :=
 .i (.call f_laws_toIntS [(.s (.v 1))] [.s] 2) <|
 .done [(.vi .i64 (.v 0)), (.s (.v 2))]

def R_laws_toPlnDone : R :=
 .i (.call f_laws_toResResult [(.vi .i64 (.v 1)), (.s (.v 2))] [.i .i64, .s] 3) <|
 .done [(.vi .i64 (.v 0)), (.vi .i64 (.v 3)), (.s (.v 4))]

def R_laws_toPlnDoneS : R :=
 .i (.chk (.cmp .le (.z 0) (.len (.v 0)))) <|
 .i (.chk (.cmp .le (.len (.v 0)) (.z 1759218604441))) <|
 .loop 1 [(.rep (.len (.v 0)) (.g (.cons (.vi .i64 (.z 0)) (.cons (.vi .i64 (.z 0)) (.cons (.s .nil) .nil))))), (.z 0)] <|
 .ite (.cmp .lt (.v 2) (.len (.v 0)))
 (
 .i (.idx (.v 0) (.v 2) (.g [.i .i64, .i .i64, .s]) 3) <|
 .i (.call f_laws_toPlnDone [(.vi .i64 (.v 3)), (.vi .i64 (.v 4)), (.s (.v 5))] [.i .i64, .i .i64, .s] 6) <|
 .i (.chk (.cmp .le (.z 0) (.v 2))) <|
 .i (.chk (.cmp .lt (.v 2) (.len (.v 1)))) <|
 .i (.idx (.v 1) (.v 2) (.g [.i .i64, .i .i64, .s]) 9) <|
 .next [(.set (.v 1) (.v 2) (.g (.cons (.vi .i64 (.v 6)) (.cons (.vi .i64 (.v 7)) (.cons (.s (.v 8)) .nil))))), (.bin .add .i64 (.v 2) (.z 1))])
 (
 .esc <|
 .done [(.s (.v 1))])

def R_laws_toSitSite : R :=
 .i (.call f_laws_toIntS [(.s (.v 3))] [.s] 6) <|
 .i (.call f_laws_toIntS [(.s (.v 4))] [.s] 7) <|
 .i (.call f_laws_toPlnDoneS [(.s (.v 5))] [.s] 8) <|
 .done [(.vb (.v 0)), (.vb (.v 1)), (.vi .i64 (.v 2)), (.s (.v 6)), (.s (.v 7)), (.s (.v 8))]

def R_spec_l1In : R :=
 .ite (.cmp .le (.v 1) (.v 0))
 (
 .done [(.vb (.cmp .le (.v 0) (.v 2)))])
 (
 .done [(.vb .ff)])

def R_spec_l1All : R :=
 .ite (.not (.cmp .eq (.len (.v 0)) (.v 1)))
 (
 .done [(.vb .ff)])
 (
 .loop 3 [(.z 0)] <|
 .ite (.cmp .lt (.v 3) (.len (.v 0)))
 (
 .i (.idx (.v 0) (.v 3) (.one (.i .i64)) 4) <|
 .i (.call f_spec_l1In [(.vi .i64 (.v 4)), (.vi .i64 (.bin .sub .i64 (.z 0) (.v 2))), (.vi .i64 (.v 2))] [.b] 5) <|
 .ite (.not (.v 5))
 (
 .esc <|
 .done [(.vb .ff)])
 (
 .next [(.bin .add .i64 (.v 3) (.z 1))]))
 (
 .esc <|
 .done [(.vb .tt)]))

def R_spec_l2Small : R :=
 .i (.call f_spec_l1All [(.s (.v 0)), (.vi .i64 (.z 3)), (.vi .i64 (.z 2))] [.b] 3) <|
 .ite (.v 3)
 (
 .i (.call f_spec_l1All [(.s (.v 1)), (.vi .i64 (.z 2)), (.vi .i64 (.z 2))] [.b] 4) <|
 .ite (.v 4)
 (
 .i (.call f_spec_l1In [(.vi .i64 (.v 2)), (.vi .i64 (.z (-20))), (.vi .i64 (.z 20))] [.b] 5) <|
 .done [(.vb (.v 5))])
 (
 .done [(.vb .ff)]))
 (
 .done [(.vb .ff)])

def R_spec_l2Line : R :=
 .ite (.cmp .eq (.v 0) (.z 1))
 (
 .ite (.cmp .eq (.v 1) (.z 0))
 (
 .i (.call f_spec_l1In [(.vi .i64 (.v 2)), (.vi .i64 (.z 1)), (.vi .i64 (.z 6))] [.b] 6) <|
 .ite (.v 6)
 (
 .i (.call f_spec_l2Small [(.s (.v 3)), (.s (.v 4)), (.vi .i64 (.v 5))] [.b] 7) <|
 .done [(.vb (.v 7))])
 (
 .done [(.vb .ff)]))
 (
 .done [(.vb .ff)]))
 (
 .ite (.cmp .eq (.v 0) (.z 2))
 (
 .i (.call f_spec_l1In [(.vi .i64 (.v 1)), (.vi .i64 (.z 0)), (.vi .i64 (.z 2))] [.b] 6) <|
 .ite (.v 6)
 (
 .ite (.cmp .eq (.v 2) (.z 0))
 (
 .i (.call f_spec_l2Small [(.s (.v 3)), (.s (.v 4)), (.vi .i64 (.v 5))] [.b] 7) <|
 .done [(.vb (.v 7))])
 (
 .done [(.vb .ff)]))
 (
 .done [(.vb .ff)]))
 (
 .ite (.cmp .eq (.v 0) (.z 3))
 (
 .ite (.cmp .eq (.v 1) (.z 0))
 (
 .ite (.cmp .eq (.v 2) (.z 0))
 (
 .i (.call f_spec_l2Small [(.s (.v 3)), (.s (.v 4)), (.vi .i64 (.v 5))] [.b] 6) <|
 .done [(.vb (.v 6))])
 (
 .done [(.vb .ff)]))
 (
 .done [(.vb .ff)]))
 (
 .ite (.cmp .eq (.v 0) (.z 4))
 (
 .ite (.cmp .eq (.v 1) (.z 0))
 (
 .ite (.cmp .eq (.v 2) (.z 0))
 (
 .ite (.cmp .eq (.bin .add .i64 (.len (.v 3)) (.len (.v 4))) (.z 0))
 (
 .done [(.vb (.cmp .eq (.v 5) (.z 0)))])
 (
 .done [(.vb .ff)]))
 (
 .done [(.vb .ff)]))
 (
 .done [(.vb .ff)]))
 (
 .done [(.vb .ff)]))))

def R_spec_ActOk : R :=
 .loop 1 [(.z 0), (.z 0)] <|
 .ite (.cmp .lt (.v 2) (.len (.v 0)))
 (
 .i (.idx (.v 0) (.v 2) (.g [.i .i64, .i .i64, .i .i64, .s, .s, .i .i64]) 3) <|
 .i (.call f_spec_l2Line [(.vi .i64 (.v 3)), (.vi .i64 (.v 4)), (.vi .i64 (.v 5)), (.s (.v 6)), (.s (.v 7)), (.vi .i64 (.v 8))] [.b] 9) <|
 .ite (.not (.v 9))
 (
 .esc <|
 .done [(.vb .ff)])
 (
 .i (.idx (.v 0) (.v 2) (.g [.i .i64, .i .i64, .i .i64, .s, .s, .i .i64]) 10) <|
 .ite (.cmp .eq (.v 10) (.z 1))
 (
 .next [(.bin .add .i64 (.v 1) (.z 1)), (.bin .add .i64 (.v 2) (.z 1))])
 (
 .next [(.v 1), (.bin .add .i64 (.v 2) (.z 1))])))
 (
 .esc <|
 .ite (.cmp .le (.len (.v 0)) (.z 6))
 (
 .done [(.vb (.cmp .le (.v 1) (.z 3)))])
 (
 .done [(.vb .ff)]))

def R_spec_CatOk : R :=
 .i (.call f_spec_l1In [(.vi .i64 (.len (.v 0))), (.vi .i64 (.z 1)), (.vi .i64 (.z 4))] [.b] 1) <|
 .ite (.not (.v 1))
 (
 .done [(.vb .ff)])
 (
 .loop 2 [(.z 0)] <|
 .ite (.cmp .lt (.v 2) (.len (.v 0)))
 (
 .i (.idx (.v 0) (.v 2) (.one (.s)) 3) <|
 .i (.call f_spec_ActOk [(.s (.v 3))] [.b] 4) <|
 .ite (.not (.v 4))
 (
 .esc <|
 .done [(.vb .ff)])
 (
 .next [(.bin .add .i64 (.v 2) (.z 1))]))
 (
 .esc <|
 .done [(.vb .tt)]))

def R_spec_ValOk : R :=
 .i (.call f_spec_l1All [(.s (.v 0)), (.vi .i64 (.z 3)), (.vi .i64 (.z 10000))] [.b] 1) <|
 .done [(.vb (.v 1))]

def R_spec_TrtOk : R :=
 .i (.call f_spec_ValOk [(.s (.v 0))] [.b] 2) <|
 .ite (.not (.v 2))
 (
 .done [(.vb .ff)])
 (
 .i (.call f_spec_l1In [(.vi .i64 (.len (.v 1))), (.vi .i64 (.z 1)), (.vi .i64 (.z 3))] [.b] 3) <|
 .ite (.not (.v 3))
 (
 .done [(.vb .ff)])
 (
 .loop 4 [(.z 0)] <|
 .ite (.cmp .lt (.v 4) (.len (.v 1)))
 (
 .i (.idx (.v 1) (.v 4) (.one (.i .i64)) 5) <|
 .i (.call f_spec_l1In [(.vi .i64 (.v 5)), (.vi .i64 (.z 0)), (.vi .i64 (.z 50))] [.b] 6) <|
 .ite (.not (.v 6))
 (
 .esc <|
 .done [(.vb .ff)])
 (
 .next [(.bin .add .i64 (.v 4) (.z 1))]))
 (
 .esc <|
 .done [(.vb .tt)])))

def R_spec_PlnOk : R :=
 .i (.call f_spec_l1In [(.vi .i64 (.v 0)), (.vi .i64 (.z 1)), (.vi .i64 (.z 4))] [.b] 4) <|
 .ite (.v 4)
 (
 .i (.call f_spec_CatOk [(.s (.v 1))] [.b] 5) <|
 .ite (.v 5)
 (
 .i (.call f_spec_l1All [(.s (.v 3)), (.vi .i64 (.z 3)), (.vi .i64 (.z 1000))] [.b] 6) <|
 .ite (.v 6)
 (
 .i (.call f_spec_TrtOk [(.s (.v 3)), (.s (.v 2))] [.b] 7) <|
 .done [(.vb (.v 7))])
 (
 .done [(.vb .ff)]))
 (
 .done [(.vb .ff)]))
 (
 .done [(.vb .ff)])

def R_spec_FrmZero : R :=
 .done [(.s (.cons (.vi .i64 (.z 0)) (.cons (.vi .i64 (.z 0)) (.cons (.vi .i64 (.z 0)) .nil)))), (.s (.cons (.vi .i64 (.z 0)) (.cons (.vi .i64 (.z 0)) .nil))), (.vi .i64 (.z 0))]

def R_spec_FrmPot : R :=
 .i (.call f_spec_l1In [(.vi .i64 (.v 0)), (.vi .i64 (.z 0)), (.vi .i64 (.z 2))] [.b] 1) <|
 .ite (.not (.v 1))
 (
 .done [(.s .nil), (.s .nil), (.vi .i64 (.z 0))])
 (
 .i (.call f_spec_FrmZero [] [.s, .s, .i .i64] 2) <|
 .i (.chk (.cmp .le (.z 0) (.v 0))) <|
 .i (.chk (.cmp .lt (.v 0) (.len (.v 2)))) <|
 .i (.idx (.v 2) (.v 0) (.one (.i .i64)) 5) <|
 .done [(.s (.set (.v 2) (.v 0) (.vi .i64 (.z 1)))), (.s (.v 3)), (.vi .i64 (.v 4))])

def R_spec_l1Sum : R :=
 .i (.call f_spec_FrmZero [] [.s, .s, .i .i64] 7) <|
 .loop 10 [(.v 7), (.z 0)] <|
 .ite (.cmp .lt (.v 11) (.z 3))
 (
 .i (.idx (.v 0) (.v 11) (.one (.i .i64)) 12) <|
 .i (.idx (.v 3) (.v 11) (.one (.i .i64)) 13) <|
 .i (.chk (.cmp .le (.z 0) (.v 11))) <|
 .i (.chk (.cmp .lt (.v 11) (.len (.v 10)))) <|
 .i (.idx (.v 10) (.v 11) (.one (.i .i64)) 14) <|
 .next [(.set (.v 10) (.v 11) (.vi .i64 (.bin .add .i64 (.v 12) (.bin .mul .i64 (.v 6) (.v 13))))), (.bin .add .i64 (.v 11) (.z 1))])
 (
 .esc <|
 .loop 12 [(.v 8), (.z 0)] <|
 .ite (.cmp .lt (.v 13) (.z 2))
 (
 .i (.idx (.v 1) (.v 13) (.one (.i .i64)) 14) <|
 .i (.idx (.v 4) (.v 13) (.one (.i .i64)) 15) <|
 .i (.chk (.cmp .le (.z 0) (.v 13))) <|
 .i (.chk (.cmp .lt (.v 13) (.len (.v 12)))) <|
 .i (.idx (.v 12) (.v 13) (.one (.i .i64)) 16) <|
 .next [(.set (.v 12) (.v 13) (.vi .i64 (.bin .add .i64 (.v 14) (.bin .mul .i64 (.v 6) (.v 15))))), (.bin .add .i64 (.v 13) (.z 1))])
 (
 .esc <|
 .done [(.s (.v 10)), (.s (.v 12)), (.vi .i64 (.bin .add .i64 (.v 2) (.bin .mul .i64 (.v 6) (.v 5))))]))

def R_spec_l3Copy : R :=
 .loop 1 [.nil, (.z 0)] <|
 .ite (.cmp .lt (.v 2) (.len (.v 0)))
 (
 .i (.call f_spec_FrmZero [] [.s, .s, .i .i64] 3) <|
 .i (.idx (.v 0) (.v 2) (.g [.s, .s, .i .i64]) 6) <|
 .i (.call f_spec_l1Sum [(.s (.v 3)), (.s (.v 4)), (.vi .i64 (.v 5)), (.s (.v 6)), (.s (.v 7)), (.vi .i64 (.v 8)), (.vi .i64 (.z 1))] [.s, .s, .i .i64] 9) <|
 .i (.chk (.cmp .le (.len (.app (.v 1) (.cons (.g (.cons (.s (.v 9)) (.cons (.s (.v 10)) (.cons (.vi .i64 (.v 11)) .nil)))) .nil))) (.z 1256584717458))) <|
 .next [(.app (.v 1) (.cons (.g (.cons (.s (.v 9)) (.cons (.s (.v 10)) (.cons (.vi .i64 (.v 11)) .nil)))) .nil)), (.bin .add .i64 (.v 2) (.z 1))])
 (
 .esc <|
 .done [(.s (.v 1))])

def R_spec_FrmOk : R :=
 .i (.call f_spec_l1All [(.s (.v 0)), (.vi .i64 (.z 3)), (.vi .i64 (.z 10000000))] [.b] 3) <|
 .ite (.v 3)
 (
 .i (.call f_spec_l1All [(.s (.v 1)), (.vi .i64 (.z 2)), (.vi .i64 (.z 10000000))] [.b] 4) <|
 .ite (.v 4)
 (
 .i (.call f_spec_l1In [(.vi .i64 (.v 2)), (.vi .i64 (.z (-10000000))), (.vi .i64 (.z 10000000))] [.b] 5) <|
 .done [(.vb (.v 5))])
 (
 .done [(.vb .ff)]))
 (
 .done [(.vb .ff)])

def R_spec_FrmInto : R :=
 .i (.call f_spec_FrmOk [(.s (.v 0)), (.s (.v 1)), (.vi .i64 (.v 2))] [.b] 4) <|
 .ite (.not (.v 4))
 (
 .done [(.s .nil), (.s .nil), (.vi .i64 (.z 0))])
 (
 .ite (.not (.cmp .eq (.len (.v 3)) (.z 3)))
 (
 .done [(.s .nil), (.s .nil), (.vi .i64 (.z 0))])
 (
 .i (.idx (.v 3) (.z 0) (.g [.s, .s, .i .i64]) 5) <|
 .i (.call f_spec_FrmOk [(.s (.v 5)), (.s (.v 6)), (.vi .i64 (.v 7))] [.b] 8) <|
 .ite (.not (.v 8))
 (
 .done [(.s .nil), (.s .nil), (.vi .i64 (.z 0))])
 (
 .i (.idx (.v 3) (.z 1) (.g [.s, .s, .i .i64]) 9) <|
 .i (.call f_spec_FrmOk [(.s (.v 9)), (.s (.v 10)), (.vi .i64 (.v 11))] [.b] 12) <|
 .ite (.not (.v 12))
 (
 .done [(.s .nil), (.s .nil), (.vi .i64 (.z 0))])
 (
 .i (.idx (.v 3) (.z 2) (.g [.s, .s, .i .i64]) 13) <|
 .i (.call f_spec_FrmOk [(.s (.v 13)), (.s (.v 14)), (.vi .i64 (.v 15))] [.b] 16) <|
 .ite (.not (.v 16))
 (
 .done [(.s .nil), (.s .nil), (.vi .i64 (.z 0))])
 (
 .i (.chk (.cmp .le (.len (.v 1)) (.z 8796093022208))) <|
 .i (.head 1 (.v 1)) <|
 .i (.chk (.cmp .le (.len (.app .nil (.v 1))) (.z 8796093022208))) <|
 .loop 17 [(.cons (.vi .i64 (.z 0)) (.cons (.vi .i64 (.z 0)) (.cons (.vi .i64 (.z 0)) .nil))), (.app .nil (.v 1)), (.z 0), (.v 2)] <|
 .ite (.cmp .lt (.v 19) (.z 3))
 (
 .i (.idx (.v 3) (.v 19) (.g [.s, .s, .i .i64]) 21) <|
 .i (.idx (.v 0) (.v 19) (.one (.i .i64)) 24) <|
 .i (.call f_spec_l1Sum [(.s (.v 17)), (.s (.v 18)), (.vi .i64 (.v 20)), (.s (.v 21)), (.s (.v 22)), (.vi .i64 (.v 23)), (.vi .i64 (.v 24))] [.s, .s, .i .i64] 25) <|
 .next [(.v 25), (.v 26), (.bin .add .i64 (.v 19) (.z 1)), (.v 27)])
 (
 .esc <|
 .i (.call f_spec_FrmOk [(.s (.v 17)), (.s (.v 18)), (.vi .i64 (.v 20))] [.b] 21) <|
 .ite (.not (.v 21))
 (
 .done [(.s .nil), (.s .nil), (.vi .i64 (.z 0))])
 (
 .done [(.s (.v 17)), (.s (.v 18)), (.vi .i64 (.v 20))])))))))

def R_spec_l3Minus : R :=
 .i (.call f_spec_FrmZero [] [.s, .s, .i .i64] 3) <|
 .i (.call f_spec_l1Sum [(.s (.v 3)), (.s (.v 4)), (.vi .i64 (.v 5)), (.s (.v 0)), (.s (.v 1)), (.vi .i64 (.v 2)), (.vi .i64 (.z (-1)))] [.s, .s, .i .i64] 6) <|
 .done [(.s (.v 6)), (.s (.v 7)), (.vi .i64 (.bin .sub .i64 (.v 8) (.z 1)))]

def R_spec_l3Row : R :=
 .i (.call f_spec_l3Copy [(.s (.v 1))] [.s] 3) <|
 .i (.call f_spec_l3Copy [(.s (.v 2))] [.s] 4) <|
 .loop 5 [.nil, (.z 0)] <|
 .ite (.cmp .lt (.v 6) (.z 3))
 (
 .i (.idx (.v 0) (.v 6) (.g [.s, .s, .i .i64]) 7) <|
 .i (.call f_spec_FrmPot [(.vi .i64 (.v 6))] [.s, .s, .i .i64] 10) <|
 .i (.call f_spec_l1Sum [(.s (.v 7)), (.s (.v 8)), (.vi .i64 (.v 9)), (.s (.v 10)), (.s (.v 11)), (.vi .i64 (.v 12)), (.vi .i64 (.z (-1)))] [.s, .s, .i .i64] 13) <|
 .i (.chk (.cmp .le (.len (.app (.v 5) (.cons (.g (.cons (.s (.v 13)) (.cons (.s (.v 14)) (.cons (.vi .i64 (.v 15)) .nil)))) .nil))) (.z 1256584717458))) <|
 .next [(.app (.v 5) (.cons (.g (.cons (.s (.v 13)) (.cons (.s (.v 14)) (.cons (.vi .i64 (.v 15)) .nil)))) .nil)), (.bin .add .i64 (.v 6) (.z 1))])
 (
 .esc <|
 .done [(.s (.v 3)), (.s (.v 5)), (.s (.v 4)), (.vb .ff)])

def R_spec_l3Walk : R :=
 .loop 5 [(.v 2), (.v 4), (.v 1)] <|
 .ite (.cmp .lt (.v 7) (.len (.v 0)))
 (
 .i (.idx (.v 0) (.v 7) (.g [.i .i64, .i .i64, .i .i64, .s, .s, .i .i64]) 8) <|
 .ite (.cmp .eq (.v 8) (.z 4))
 (
 .i (.call f_spec_l3Copy [(.s (.v 3))] [.s] 14) <|
 .esc <|
 .done [(.s (.cons (.g (.cons (.s (.v 14)) (.cons (.s .nil) (.cons (.s .nil) (.cons (.vb .tt) .nil))))) .nil))])
 (
 .i (.call f_spec_FrmInto [(.s (.v 11)), (.s (.v 12)), (.vi .i64 (.v 13)), (.s (.v 5))] [.s, .s, .i .i64] 14) <|
 .ite (.cmp .eq (.v 8) (.z 1))
 (
 .i (.call f_spec_l3Copy [(.s (.v 5))] [.s] 17) <|
 .i (.call f_spec_l3Copy [(.s (.v 3))] [.s] 18) <|
 .i (.chk (.cmp .le (.len (.app (.v 18) (.cons (.g (.cons (.s (.v 14)) (.cons (.s (.v 15)) (.cons (.vi .i64 (.v 16)) .nil)))) .nil))) (.z 1256584717458))) <|
 .i (.call f_spec_l3Copy [(.s (.v 6))] [.s] 19) <|
 .i (.call f_spec_l3Walk [(.s (.v 0)), (.vi .i64 (.bin .add .i64 (.v 7) (.z 1))), (.s (.v 17)), (.s (.app (.v 18) (.cons (.g (.cons (.s (.v 14)) (.cons (.s (.v 15)) (.cons (.vi .i64 (.v 16)) .nil)))) .nil))), (.s (.v 19))] [.s] 20) <|
 .i (.call f_spec_l3Copy [(.s (.v 5))] [.s] 21) <|
 .i (.call f_spec_l3Copy [(.s (.v 3))] [.s] 22) <|
 .i (.call f_spec_l3Minus [(.s (.v 14)), (.s (.v 15)), (.vi .i64 (.v 16))] [.s, .s, .i .i64] 23) <|
 .i (.chk (.cmp .le (.len (.app (.v 22) (.cons (.g (.cons (.s (.v 23)) (.cons (.s (.v 24)) (.cons (.vi .i64 (.v 25)) .nil)))) .nil))) (.z 1256584717458))) <|
 .i (.call f_spec_l3Copy [(.s (.v 6))] [.s] 26) <|
 .i (.call f_spec_l3Walk [(.s (.v 0)), (.vi .i64 (.bin .add .i64 (.bin .add .i64 (.v 7) (.z 1)) (.v 10))), (.s (.v 21)), (.s (.app (.v 22) (.cons (.g (.cons (.s (.v 23)) (.cons (.s (.v 24)) (.cons (.vi .i64 (.v 25)) .nil)))) .nil))), (.s (.v 26))] [.s] 27) <|
 .i (.chk (.cmp .le (.len (.v 27)) (.z 879609302220))) <|
 .i (.head 4 (.v 27)) <|
 .i (.chk (.cmp .le (.len (.app (.v 20) (.v 27))) (.z 879609302220))) <|
 .esc <|
 .done [(.s (.app (.v 20) (.v 27)))])
 (
 .ite (.cmp .eq (.v 8) (.z 2))
 (
 .i (.call f_spec_l3Copy [(.s (.v 5))] [.s] 17) <|
 .i (.chk (.cmp .le (.z 0) (.v 9))) <|
 .i (.chk (.cmp .lt (.v 9) (.len (.v 17)))) <|
 .i (.idx (.v 17) (.v 9) (.g [.s, .s, .i .i64]) 18) <|
 .i (.call f_spec_l1Sum [(.s (.v 18)), (.s (.v 19)), (.vi .i64 (.v 20)), (.s (.v 14)), (.s (.v 15)), (.vi .i64 (.v 16)), (.vi .i64 (.z 1))] [.s, .s, .i .i64] 21) <|
 .i (.chk (.cmp .le (.z 0) (.v 9))) <|
 .i (.chk (.cmp .lt (.v 9) (.len (.v 17)))) <|
 .i (.idx (.v 17) (.v 9) (.g [.s, .s, .i .i64]) 24) <|
 .next [(.set (.v 17) (.v 9) (.g (.cons (.s (.v 21)) (.cons (.s (.v 22)) (.cons (.vi .i64 (.v 23)) .nil))))), (.v 6), (.bin .add .i64 (.v 7) (.z 1))])
 (
 .i (.call f_spec_l3Copy [(.s (.v 6))] [.s] 17) <|
 .i (.chk (.cmp .le (.len (.app (.v 17) (.cons (.g (.cons (.s (.v 14)) (.cons (.s (.v 15)) (.cons (.vi .i64 (.v 16)) .nil)))) .nil))) (.z 1256584717458))) <|
 .next [(.v 5), (.app (.v 17) (.cons (.g (.cons (.s (.v 14)) (.cons (.s (.v 15)) (.cons (.vi .i64 (.v 16)) .nil)))) .nil)), (.bin .add .i64 (.v 7) (.z 1))]))))
 (
 .esc <|
 .i (.call f_spec_l3Row [(.s (.v 5)), (.s (.v 3)), (.s (.v 6))] [.s, .s, .s, .b] 8) <|
 .done [(.s (.cons (.g (.cons (.s (.v 8)) (.cons (.s (.v 9)) (.cons (.s (.v 10)) (.cons (.vb (.v 11)) .nil))))) .nil))])

def R_spec_RowsOf : R :=
 .i (.call f_spec_ActOk [(.s (.v 0))] [.b] 1) <|
 .ite (.not (.v 1))
 (
 .done [(.s .nil)])
 (
 .i (.call f_spec_FrmPot [(.vi .i64 (.z 0))] [.s, .s, .i .i64] 2) <|
 .i (.call f_spec_FrmPot [(.vi .i64 (.z 1))] [.s, .s, .i .i64] 5) <|
 .i (.call f_spec_FrmPot [(.vi .i64 (.z 2))] [.s, .s, .i .i64] 8) <|
 .i (.call f_spec_l3Walk [(.s (.v 0)), (.vi .i64 (.z 0)), (.s (.cons (.g (.cons (.s (.v 2)) (.cons (.s (.v 3)) (.cons (.vi .i64 (.v 4)) .nil)))) (.cons (.g (.cons (.s (.v 5)) (.cons (.s (.v 6)) (.cons (.vi .i64 (.v 7)) .nil)))) (.cons (.g (.cons (.s (.v 8)) (.cons (.s (.v 9)) (.cons (.vi .i64 (.v 10)) .nil)))) .nil)))), (.s .nil), (.s .nil)] [.s] 11) <|
 .done [(.s (.v 11))])

def R_spec_l4Reads : R :=
 .i (.chk (.cmp .le (.len (.v 0)) (.z 70368744177664))) <|
 .i (.head 1 (.v 0)) <|
 .i (.chk (.cmp .le (.len (.app .nil (.v 0))) (.z 70368744177664))) <|
 .loop 2 [(.app .nil (.v 0)), (.z 0)] <|
 .ite (.cmp .lt (.v 3) (.len (.v 1)))
 (
 .loop 4 [(.v 2), (.z 0)] <|
 .ite (.cmp .lt (.v 5) (.z 3))
 (
 .i (.idx (.v 1) (.v 3) (.g [.s, .s, .i .i64]) 6) <|
 .i (.idx (.v 6) (.v 5) (.one (.i .i64)) 9) <|
 .ite (.not (.cmp .eq (.v 9) (.z 0)))
 (
 .i (.chk (.cmp .le (.z 0) (.v 5))) <|
 .i (.chk (.cmp .lt (.v 5) (.len (.v 4)))) <|
 .i (.idx (.v 4) (.v 5) (.one (.b)) 10) <|
 .next [(.set (.v 4) (.v 5) (.vb .tt)), (.bin .add .i64 (.v 5) (.z 1))])
 (
 .next [(.v 4), (.bin .add .i64 (.v 5) (.z 1))]))
 (
 .esc <|
 .next [(.v 4), (.bin .add .i64 (.v 3) (.z 1))]))
 (
 .esc <|
 .done [(.s (.v 2))])

def R_spec_CatPart : R :=
 .loop 3 [.nil, (.z 0), (.z 0)] <|
 .ite (.cmp .lt (.v 5) (.len (.v 0)))
 (
 .ite (.cmp .eq (.v 4) (.z 0))
 (
 .i (.idx (.v 0) (.v 5) (.one (.i .i64)) 6) <|
 .ite (.cmp .lt (.z 0) (.v 6))
 (
 .i (.idx (.v 0) (.v 5) (.one (.i .i64)) 7) <|
 .i (.chk (.cmp .le (.len (.app (.v 3) (.cons (.vi .i64 (.bin .mul .i64 (.z 1) (.v 7))) .nil))) (.z 8796093022208))) <|
 .next [(.app (.v 3) (.cons (.vi .i64 (.bin .mul .i64 (.z 1) (.v 7))) .nil)), (.z 1), (.bin .add .i64 (.v 5) (.z 1))])
 (
 .ite (.cmp .eq (.v 4) (.z 0))
 (
 .i (.idx (.v 0) (.v 5) (.one (.i .i64)) 7) <|
 .ite (.cmp .lt (.v 7) (.z 0))
 (
 .i (.idx (.v 0) (.v 5) (.one (.i .i64)) 8) <|
 .i (.chk (.cmp .le (.len (.app (.v 3) (.cons (.vi .i64 (.bin .mul .i64 (.z (-1)) (.v 8))) .nil))) (.z 8796093022208))) <|
 .next [(.app (.v 3) (.cons (.vi .i64 (.bin .mul .i64 (.z (-1)) (.v 8))) .nil)), (.z (-1)), (.bin .add .i64 (.v 5) (.z 1))])
 (
 .i (.idx (.v 0) (.v 5) (.one (.i .i64)) 8) <|
 .i (.chk (.cmp .le (.len (.app (.v 3) (.cons (.vi .i64 (.bin .mul .i64 (.v 4) (.v 8))) .nil))) (.z 8796093022208))) <|
 .next [(.app (.v 3) (.cons (.vi .i64 (.bin .mul .i64 (.v 4) (.v 8))) .nil)), (.v 4), (.bin .add .i64 (.v 5) (.z 1))]))
 (
 .i (.idx (.v 0) (.v 5) (.one (.i .i64)) 7) <|
 .i (.chk (.cmp .le (.len (.app (.v 3) (.cons (.vi .i64 (.bin .mul .i64 (.v 4) (.v 7))) .nil))) (.z 8796093022208))) <|
 .next [(.app (.v 3) (.cons (.vi .i64 (.bin .mul .i64 (.v 4) (.v 7))) .nil)), (.v 4), (.bin .add .i64 (.v 5) (.z 1))])))
 (
 .ite (.cmp .eq (.v 4) (.z 0))
 (
 .i (.idx (.v 0) (.v 5) (.one (.i .i64)) 6) <|
 .ite (.cmp .lt (.v 6) (.z 0))
 (
 .i (.idx (.v 0) (.v 5) (.one (.i .i64)) 7) <|
 .i (.chk (.cmp .le (.len (.app (.v 3) (.cons (.vi .i64 (.bin .mul .i64 (.z (-1)) (.v 7))) .nil))) (.z 8796093022208))) <|
 .next [(.app (.v 3) (.cons (.vi .i64 (.bin .mul .i64 (.z (-1)) (.v 7))) .nil)), (.z (-1)), (.bin .add .i64 (.v 5) (.z 1))])
 (
 .i (.idx (.v 0) (.v 5) (.one (.i .i64)) 7) <|
 .i (.chk (.cmp .le (.len (.app (.v 3) (.cons (.vi .i64 (.bin .mul .i64 (.v 4) (.v 7))) .nil))) (.z 8796093022208))) <|
 .next [(.app (.v 3) (.cons (.vi .i64 (.bin .mul .i64 (.v 4) (.v 7))) .nil)), (.v 4), (.bin .add .i64 (.v 5) (.z 1))]))
 (
 .i (.idx (.v 0) (.v 5) (.one (.i .i64)) 6) <|
 .i (.chk (.cmp .le (.len (.app (.v 3) (.cons (.vi .i64 (.bin .mul .i64 (.v 4) (.v 6))) .nil))) (.z 8796093022208))) <|
 .next [(.app (.v 3) (.cons (.vi .i64 (.bin .mul .i64 (.v 4) (.v 6))) .nil)), (.v 4), (.bin .add .i64 (.v 5) (.z 1))])))
 (
 .esc <|
 .done [(.s (.v 3))])

def R_spec_l4Same : R :=
 .ite (.not (.cmp .eq (.len (.v 0)) (.len (.v 1))))
 (
 .done [(.vb .ff)])
 (
 .loop 2 [(.z 0)] <|
 .ite (.cmp .lt (.v 2) (.len (.v 0)))
 (
 .i (.idx (.v 0) (.v 2) (.one (.i .i64)) 3) <|
 .i (.idx (.v 1) (.v 2) (.one (.i .i64)) 4) <|
 .ite (.not (.cmp .eq (.v 3) (.v 4)))
 (
 .esc <|
 .done [(.vb .ff)])
 (
 .next [(.bin .add .i64 (.v 2) (.z 1))]))
 (
 .esc <|
 .done [(.vb .tt)]))

def R_spec_CatHas : R :=
 .loop 2 [(.z 0)] <|
 .ite (.cmp .lt (.v 2) (.len (.v 0)))
 (
 .i (.idx (.v 0) (.v 2) (.one (.s)) 3) <|
 .i (.call f_spec_l4Same [(.s (.v 3)), (.s (.v 1))] [.b] 4) <|
 .ite (.v 4)
 (
 .esc <|
 .done [(.vi .i64 (.v 2))])
 (
 .next [(.bin .add .i64 (.v 2) (.z 1))]))
 (
 .esc <|
 .done [(.vi .i64 (.z (-1)))])

def R_spec_l4Both : R :=
 .loop 1 [.nil, (.z 0)] <|
 .ite (.cmp .lt (.v 2) (.z 3))
 (
 .i (.call f_spec_FrmPot [(.vi .i64 (.v 2))] [.s, .s, .i .i64] 3) <|
 .i (.chk (.cmp .le (.len (.app (.v 1) (.cons (.s (.v 3)) .nil))) (.z 2932031007402))) <|
 .next [(.app (.v 1) (.cons (.s (.v 3)) .nil)), (.bin .add .i64 (.v 2) (.z 1))])
 (
 .esc <|
 .loop 3 [(.v 1), (.cons (.vb .ff) (.cons (.vb .ff) (.cons (.vb .ff) .nil))), (.z 0)] <|
 .ite (.cmp .lt (.v 5) (.len (.v 0)))
 (
 .i (.idx (.v 0) (.v 5) (.one (.s)) 6) <|
 .i (.call f_spec_RowsOf [(.s (.v 6))] [.s] 7) <|
 .loop 8 [(.v 3), (.v 4), (.z 0)] <|
 .ite (.cmp .lt (.v 10) (.len (.v 7)))
 (
 .i (.chk (.cmp .le (.z 0) (.v 10))) <|
 .i (.chk (.cmp .lt (.v 10) (.len (.v 7)))) <|
 .i (.idx (.v 7) (.v 10) (.g [.s, .s, .s, .b]) 11) <|
 .i (.call f_spec_l4Reads [(.s (.v 9)), (.s (.v 12))] [.s] 15) <|
 .i (.chk (.cmp .le (.z 0) (.v 10))) <|
 .i (.chk (.cmp .lt (.v 10) (.len (.v 7)))) <|
 .i (.idx (.v 7) (.v 10) (.g [.s, .s, .s, .b]) 16) <|
 .i (.call f_spec_l4Reads [(.s (.v 15)), (.s (.v 18))] [.s] 20) <|
 .loop 21 [(.v 8), (.z 0)] <|
 .i (.chk (.cmp .le (.z 0) (.v 10))) <|
 .i (.chk (.cmp .lt (.v 10) (.len (.v 7)))) <|
 .i (.idx (.v 7) (.v 10) (.g [.s, .s, .s, .b]) 23) <|
 .ite (.cmp .lt (.v 22) (.len (.v 23)))
 (
 .i (.chk (.cmp .le (.z 0) (.v 10))) <|
 .i (.chk (.cmp .lt (.v 10) (.len (.v 7)))) <|
 .i (.idx (.v 7) (.v 10) (.g [.s, .s, .s, .b]) 27) <|
 .i (.idx (.v 27) (.v 22) (.g [.s, .s, .i .i64]) 31) <|
 .i (.call f_spec_CatPart [(.s (.v 31)), (.s (.v 32)), (.vi .i64 (.v 33))] [.s] 34) <|
 .i (.call f_spec_CatHas [(.s (.v 21)), (.s (.v 34))] [.i .i64] 35) <|
 .ite (.cmp .lt (.v 35) (.z 0))
 (
 .i (.call f_spec_FrmZero [] [.s, .s, .i .i64] 36) <|
 .i (.call f_spec_l4Same [(.s (.v 34)), (.s (.v 36))] [.b] 39) <|
 .ite (.not (.v 39))
 (
 .i (.chk (.cmp .le (.len (.app (.v 21) (.cons (.s (.v 34)) .nil))) (.z 2932031007402))) <|
 .next [(.app (.v 21) (.cons (.s (.v 34)) .nil)), (.bin .add .i64 (.v 22) (.z 1))])
 (
 .next [(.v 21), (.bin .add .i64 (.v 22) (.z 1))]))
 (
 .next [(.v 21), (.bin .add .i64 (.v 22) (.z 1))]))
 (
 .esc <|
 .next [(.v 21), (.v 20), (.bin .add .i64 (.v 10) (.z 1))]))
 (
 .esc <|
 .next [(.v 8), (.v 9), (.bin .add .i64 (.v 5) (.z 1))]))
 (
 .esc <|
 .done [(.s (.v 3)), (.s (.v 4))]))

def R_spec_l8Treaty : R :=
 .done [(.s (.v 7)), (.s (.v 2))]

def R_spec_l5Parts : R :=
 .loop 1 [(.z 0)] <|
 .ite (.cmp .lt (.v 1) (.len (.v 0)))
 (
 .i (.idx (.v 0) (.v 1) (.one (.s)) 2) <|
 .i (.call f_spec_l1All [(.s (.v 2)), (.vi .i64 (.z 3)), (.vi .i64 (.z 10000000))] [.b] 3) <|
 .ite (.not (.v 3))
 (
 .esc <|
 .done [(.vb .ff)])
 (
 .next [(.bin .add .i64 (.v 1) (.z 1))]))
 (
 .esc <|
 .done [(.vb .tt)])

def R_spec_l5Times : R :=
 .loop 2 [(.z 0), (.z 0)] <|
 .ite (.cmp .lt (.v 3) (.z 3))
 (
 .i (.idx (.v 0) (.v 3) (.one (.i .i64)) 4) <|
 .i (.idx (.v 1) (.v 3) (.one (.i .i64)) 5) <|
 .next [(.bin .add .i64 (.v 2) (.bin .mul .i64 (.v 4) (.v 5))), (.bin .add .i64 (.v 3) (.z 1))])
 (
 .esc <|
 .done [(.vi .i64 (.v 2))])

def R_spec_TrtKeeps : R :=
 .i (.call f_spec_TrtOk [(.s (.v 0)), (.s (.v 1))] [.b] 5) <|
 .ite (.not (.v 5))
 (
 .done [(.vb .ff)])
 (
 .i (.call f_spec_l5Parts [(.s (.v 2))] [.b] 6) <|
 .ite (.not (.v 6))
 (
 .done [(.vb .ff)])
 (
 .i (.call f_spec_l1In [(.vi .i64 (.v 3)), (.vi .i64 (.z 0)), (.vi .i64 (.bin .sub .i64 (.len (.v 1)) (.z 1)))] [.b] 7) <|
 .ite (.not (.v 7))
 (
 .done [(.vb .ff)])
 (
 .i (.call f_spec_l1All [(.s (.v 4)), (.vi .i64 (.z 3)), (.vi .i64 (.z 20000))] [.b] 8) <|
 .ite (.not (.v 8))
 (
 .done [(.vb .ff)])
 (
 .loop 9 [(.z 0)] <|
 .ite (.cmp .lt (.v 9) (.len (.v 2)))
 (
 .i (.idx (.v 2) (.v 9) (.one (.s)) 10) <|
 .i (.call f_spec_l5Times [(.s (.v 10)), (.s (.v 4))] [.i .i64] 11) <|
 .i (.idx (.v 1) (.v 3) (.one (.i .i64)) 12) <|
 .i (.idx (.v 1) (.v 3) (.one (.i .i64)) 13) <|
 .i (.call f_spec_l1In [(.vi .i64 (.v 11)), (.vi .i64 (.bin .sub .i64 (.z 0) (.v 12))), (.vi .i64 (.v 13))] [.b] 14) <|
 .ite (.not (.v 14))
 (
 .esc <|
 .done [(.vb .ff)])
 (
 .next [(.bin .add .i64 (.v 9) (.z 1))]))
 (
 .esc <|
 .done [(.vb .tt)])))))

def R_spec_l5Still : R :=
 .loop 2 [(.z 0)] <|
 .ite (.cmp .lt (.v 2) (.z 3))
 (
 .i (.idx (.v 0) (.v 2) (.one (.b)) 3) <|
 .ite (.v 3)
 (
 .i (.idx (.v 1) (.v 2) (.one (.i .i64)) 4) <|
 .ite (.not (.cmp .eq (.v 4) (.z 0)))
 (
 .esc <|
 .done [(.vb .ff)])
 (
 .next [(.bin .add .i64 (.v 2) (.z 1))]))
 (
 .next [(.bin .add .i64 (.v 2) (.z 1))]))
 (
 .esc <|
 .done [(.vb .tt)])

def R_spec_ResText : R :=
 .i (.call f_spec_l1In [(.vi .i64 (.v 0)), (.vi .i64 (.z 1)), (.vi .i64 (.z 3))] [.b] 2) <|
 .ite (.not (.v 2))
 (
 .done [(.vc (.string (strV [])))])
 (
 .ite (.not (.cmp .eq (.v 0) (.z 1)))
 (
 .ite (.cmp .lt (.z 0) (.len (.v 1)))
 (
 .done [(.vc (.string (strV [])))])
 (
 .ite (.cmp .lt (.z 6) (.len (.v 1)))
 (
 .done [(.vc (.string (strV [])))])
 (
 .i (.call f_spec_l1All [(.s (.v 1)), (.vi .i64 (.len (.v 1))), (.vi .i64 (.z 999999999999))] [.b] 3) <|
 .ite (.not (.v 3))
 (
 .done [(.vc (.string (strV [])))])
 (
 .i (.chk (.cmp .le (.z 0) (.v 0))) <|
 .i (.chk (.cmp .lt (.v 0) (.z 4))) <|
 .i (.idx (.cons (.vc (.string (strV []))) (.cons (.vc (.string (strV [100, 111, 110, 101]))) (.cons (.vc (.string (strV [115, 116, 111, 112, 112, 101, 100]))) (.cons (.vc (.string (strV [111, 118, 101, 114]))) .nil)))) (.v 0) (.one (.d)) 4) <|
 .loop 5 [(.da 4), (.z 0)] <|
 .ite (.cmp .lt (.v 6) (.len (.v 1)))
 (
 .i (.prim .cat [(.da 5), (.vc (.string (strV [32])))] (.d) 7) <|
 .i (.idx (.v 1) (.v 6) (.one (.i .i64)) 8) <|
 .i (.call f_spec_l1Digits [(.vi .i64 (.v 8))] [.d] 9) <|
 .i (.prim .cat [(.da 7), (.da 9)] (.d) 10) <|
 .next [(.da 10), (.bin .add .i64 (.v 6) (.z 1))])
 (
 .esc <|
 .done [(.da 5)])))))
 (
 .ite (.cmp .lt (.z 6) (.len (.v 1)))
 (
 .done [(.vc (.string (strV [])))])
 (
 .i (.call f_spec_l1All [(.s (.v 1)), (.vi .i64 (.len (.v 1))), (.vi .i64 (.z 999999999999))] [.b] 3) <|
 .ite (.not (.v 3))
 (
 .done [(.vc (.string (strV [])))])
 (
 .i (.chk (.cmp .le (.z 0) (.v 0))) <|
 .i (.chk (.cmp .lt (.v 0) (.z 4))) <|
 .i (.idx (.cons (.vc (.string (strV []))) (.cons (.vc (.string (strV [100, 111, 110, 101]))) (.cons (.vc (.string (strV [115, 116, 111, 112, 112, 101, 100]))) (.cons (.vc (.string (strV [111, 118, 101, 114]))) .nil)))) (.v 0) (.one (.d)) 4) <|
 .loop 5 [(.da 4), (.z 0)] <|
 .ite (.cmp .lt (.v 6) (.len (.v 1)))
 (
 .i (.prim .cat [(.da 5), (.vc (.string (strV [32])))] (.d) 7) <|
 .i (.idx (.v 1) (.v 6) (.one (.i .i64)) 8) <|
 .i (.call f_spec_l1Digits [(.vi .i64 (.v 8))] [.d] 9) <|
 .i (.prim .cat [(.da 7), (.da 9)] (.d) 10) <|
 .next [(.da 10), (.bin .add .i64 (.v 6) (.z 1))])
 (
 .esc <|
 .done [(.da 5)])))))

def R_spec_ResOk : R :=
 .i (.call f_spec_ResText [(.vi .i64 (.v 0)), (.s (.v 1))] [.d] 2) <|
 .i (.prim .seq [(.da 2), (.vc (.string (strV [])))] (.b) 3) <|
 .done [(.vb (.not (.v 3)))]

def R_spec_l6Done : R :=
 .ite (.not (.cmp .eq (.len (.v 4)) (.v 0)))
 (
 .done [(.vb .ff)])
 (
 .loop 5 [(.z 0)] <|
 .ite (.cmp .lt (.v 5) (.len (.v 4)))
 (
 .i (.idx (.v 4) (.v 5) (.g [.i .i64, .i .i64, .s]) 6) <|
 .i (.call f_spec_l1In [(.vi .i64 (.v 6)), (.vi .i64 (.z 0)), (.vi .i64 (.z 300))] [.b] 9) <|
 .ite (.not (.v 9))
 (
 .esc <|
 .done [(.vb .ff)])
 (
 .i (.idx (.v 4) (.v 5) (.g [.i .i64, .i .i64, .s]) 10) <|
 .i (.idx (.v 4) (.v 5) (.g [.i .i64, .i .i64, .s]) 13) <|
 .ite (.not (.beq (.cmp .eq (.v 10) (.z 0)) (.cmp .eq (.v 14) (.z 0))))
 (
 .esc <|
 .done [(.vb .ff)])
 (
 .i (.idx (.v 4) (.v 5) (.g [.i .i64, .i .i64, .s]) 16) <|
 .ite (.cmp .eq (.v 16) (.z 0))
 (
 .i (.idx (.v 4) (.v 5) (.g [.i .i64, .i .i64, .s]) 19) <|
 .ite (.cmp .lt (.z 0) (.len (.v 21)))
 (
 .esc <|
 .done [(.vb .ff)])
 (
 .i (.idx (.v 4) (.v 5) (.g [.i .i64, .i .i64, .s]) 22) <|
 .ite (.cmp .lt (.z 0) (.v 22))
 (
 .i (.idx (.v 4) (.v 5) (.g [.i .i64, .i .i64, .s]) 25) <|
 .i (.call f_spec_ResOk [(.vi .i64 (.v 26)), (.s (.v 27))] [.b] 28) <|
 .ite (.not (.v 28))
 (
 .esc <|
 .done [(.vb .ff)])
 (
 .next [(.bin .add .i64 (.v 5) (.z 1))]))
 (
 .next [(.bin .add .i64 (.v 5) (.z 1))])))
 (
 .i (.idx (.v 4) (.v 5) (.g [.i .i64, .i .i64, .s]) 19) <|
 .ite (.cmp .lt (.z 0) (.v 19))
 (
 .i (.idx (.v 4) (.v 5) (.g [.i .i64, .i .i64, .s]) 22) <|
 .i (.call f_spec_ResOk [(.vi .i64 (.v 23)), (.s (.v 24))] [.b] 25) <|
 .ite (.not (.v 25))
 (
 .esc <|
 .done [(.vb .ff)])
 (
 .next [(.bin .add .i64 (.v 5) (.z 1))]))
 (
 .next [(.bin .add .i64 (.v 5) (.z 1))])))))
 (
 .esc <|
 .done [(.vb .tt)]))

def R_spec_l8Ok : R :=
 .i (.call f_spec_l1In [(.vi .i64 (.v 8)), (.vi .i64 (.z 0)), (.vi .i64 (.z 200))] [.b] 13) <|
 .ite (.v 13)
 (
 .i (.call f_spec_ValOk [(.s (.v 9))] [.b] 14) <|
 .ite (.v 14)
 (
 .i (.call f_spec_l8Treaty [(.vi .i64 (.v 0)), (.s (.v 1)), (.s (.v 2)), (.s (.v 3)), (.vb (.v 6)), (.vb (.v 7)), (.vi .i64 (.v 8)), (.s (.v 9)), (.s (.v 10)), (.s (.v 11))] [.s, .s] 15) <|
 .i (.call f_spec_TrtKeeps [(.s (.v 15)), (.s (.v 16)), (.s (.v 4)), (.vi .i64 (.v 12)), (.s (.v 10))] [.b] 17) <|
 .ite (.v 17)
 (
 .i (.call f_spec_l5Still [(.s (.v 5)), (.s (.v 10))] [.b] 18) <|
 .ite (.v 18)
 (
 .i (.call f_spec_l6Done [(.vi .i64 (.v 0)), (.s (.v 1)), (.s (.v 2)), (.s (.v 3)), (.s (.v 11))] [.b] 19) <|
 .done [(.vb (.v 19))])
 (
 .done [(.vb .ff)]))
 (
 .done [(.vb .ff)]))
 (
 .done [(.vb .ff)]))
 (
 .done [(.vb .ff)])

def R_spec_SitOk : R :=
 .i (.call f_spec_PlnOk [(.vi .i64 (.v 0)), (.s (.v 1)), (.s (.v 2)), (.s (.v 3))] [.b] 11) <|
 .ite (.not (.v 11))
 (
 .done [(.vb .ff)])
 (
 .i (.call f_spec_l1In [(.vi .i64 (.v 10)), (.vi .i64 (.z 0)), (.vi .i64 (.bin .sub .i64 (.len (.v 2)) (.z 1)))] [.b] 12) <|
 .ite (.not (.v 12))
 (
 .done [(.vb .ff)])
 (
 .i (.call f_spec_l4Both [(.s (.v 1))] [.s, .s] 13) <|
 .i (.call f_spec_l8Ok [(.vi .i64 (.v 0)), (.s (.v 1)), (.s (.v 2)), (.s (.v 3)), (.s (.v 13)), (.s (.v 14)), (.vb (.v 4)), (.vb (.v 5)), (.vi .i64 (.v 6)), (.s (.v 7)), (.s (.v 8)), (.s (.v 9)), (.vi .i64 (.v 10))] [.b] 15) <|
 .done [(.vb (.v 15))]))

def R_impl_in : R :=
 .ite (.cmp .le (.v 1) (.v 0))
 (
 .done [(.vb (.cmp .le (.v 0) (.v 2)))])
 (
 .done [(.vb .ff)])

def R_slices_IndexFunc_SSimpl_ActLine_Simpl_ActLine : R :=
 .loop 2 [(.z 0)] <|
 .ite (.cmp .lt (.v 2) (.len (.v 0)))
 (
 .i (.idx (.v 0) (.v 2) (.one (.s)) 3) <|
 .i (.callv (.da 1) [(.s (.v 3))] [none] [.b] 4) <|
 .ite (.v 4)
 (
 .esc <|
 .done [(.vi .i64 (.v 2))])
 (
 .next [(.bin .add .i64 (.v 2) (.z 1))]))
 (
 .esc <|
 .done [(.vi .i64 (.z (-1)))])

def R_slices_ContainsFunc_SSimpl_ActLine_Simpl_ActLine : R :=
 .i (.call f_slices_IndexFunc_SSimpl_ActLine_Simpl_ActLine [(.s (.v 0)), (.da 1)] [.i .i64] 2) <|
 .done [(.vb (.cmp .le (.z 0) (.v 2)))]

def R_impl_within_1 : R :=
 .i (.get (.da 1) (.q [.i .i64]) 2) <|
 .i (.get (.da 1) (.q [.i .i64]) 3) <|
 .i (.call f_impl_in [(.vi .i64 (.v 0)), (.vi .i64 (.bin .sub .i64 (.z 0) (.v 2))), (.vi .i64 (.v 3))] [.b] 4) <|
 .done [(.vb (.not (.v 4)))]

def R_slices_IndexFunc_Sint_int : R :=
 .loop 2 [(.z 0)] <|
 .ite (.cmp .lt (.v 2) (.len (.v 0)))
 (
 .i (.idx (.v 0) (.v 2) (.one (.i .i64)) 3) <|
 .i (.callv (.da 1) [(.vi .i64 (.v 3))] [none] [.b] 4) <|
 .ite (.v 4)
 (
 .esc <|
 .done [(.vi .i64 (.v 2))])
 (
 .next [(.bin .add .i64 (.v 2) (.z 1))]))
 (
 .esc <|
 .done [(.vi .i64 (.z (-1)))])

def R_slices_ContainsFunc_Sint_int : R :=
 .i (.call f_slices_IndexFunc_Sint_int [(.s (.v 0)), (.da 1)] [.i .i64] 2) <|
 .done [(.vb (.cmp .le (.z 0) (.v 2)))]

def R_impl_within : R :=
 .ite (.cmp .eq (.len (.v 0)) (.v 1))
 (
 .i (.call f_slices_ContainsFunc_Sint_int [(.s (.v 0)), (.fn f_impl_within_1 (.cons (.q (.cons (.vi .i64 (.v 2)) .nil)) .nil))] [.b] 3) <|
 .done [(.vb (.not (.v 3)))])
 (
 .done [(.vb .ff)])

def R_impl_FrmForm_small : R :=
 .i (.call f_impl_within [(.s (.v 0)), (.vi .i64 (.z 3)), (.vi .i64 (.z 2))] [.b] 3) <|
 .ite (.v 3)
 (
 .i (.call f_impl_within [(.s (.v 1)), (.vi .i64 (.z 2)), (.vi .i64 (.z 2))] [.b] 4) <|
 .ite (.v 4)
 (
 .i (.call f_impl_in [(.vi .i64 (.v 2)), (.vi .i64 (.z (-20))), (.vi .i64 (.z 20))] [.b] 5) <|
 .done [(.vb (.v 5))])
 (
 .done [(.vb .ff)]))
 (
 .done [(.vb .ff)])

def R_slices_Equal_Sint_int : R :=
 .ite (.not (.cmp .eq (.len (.v 0)) (.len (.v 1))))
 (
 .done [(.vb .ff)])
 (
 .loop 2 [(.z 0)] <|
 .ite (.cmp .lt (.v 2) (.len (.v 0)))
 (
 .i (.idx (.v 0) (.v 2) (.one (.i .i64)) 3) <|
 .i (.idx (.v 1) (.v 2) (.one (.i .i64)) 4) <|
 .ite (.not (.cmp .eq (.v 3) (.v 4)))
 (
 .esc <|
 .done [(.vb .ff)])
 (
 .next [(.bin .add .i64 (.v 2) (.z 1))]))
 (
 .esc <|
 .done [(.vb .tt)]))

def R_impl_FrmForm_same : R :=
 .ite (.cmp .eq (.v 2) (.v 5))
 (
 .i (.call f_slices_Equal_Sint_int [(.s (.v 0)), (.s (.v 3))] [.b] 6) <|
 .ite (.v 6)
 (
 .i (.call f_slices_Equal_Sint_int [(.s (.v 1)), (.s (.v 4))] [.b] 7) <|
 .done [(.vb (.v 7))])
 (
 .done [(.vb .ff)]))
 (
 .done [(.vb .ff)])

def R_impl_ActLine_ok : R :=
 .ite (.cmp .eq (.v 0) (.z 1))
 (
 .i (.call f_impl_in [(.vi .i64 (.v 2)), (.vi .i64 (.z 1)), (.vi .i64 (.z 6))] [.b] 6) <|
 .ite (.v 6)
 (
 .ite (.cmp .eq (.v 1) (.z 0))
 (
 .i (.call f_impl_FrmForm_small [(.s (.v 3)), (.s (.v 4)), (.vi .i64 (.v 5))] [.b] 7) <|
 .done [(.vb (.v 7))])
 (
 .done [(.vb .ff)]))
 (
 .done [(.vb .ff)]))
 (
 .ite (.cmp .eq (.v 0) (.z 2))
 (
 .i (.call f_impl_in [(.vi .i64 (.v 1)), (.vi .i64 (.z 0)), (.vi .i64 (.z 2))] [.b] 6) <|
 .ite (.v 6)
 (
 .ite (.cmp .eq (.v 2) (.z 0))
 (
 .i (.call f_impl_FrmForm_small [(.s (.v 3)), (.s (.v 4)), (.vi .i64 (.v 5))] [.b] 7) <|
 .done [(.vb (.v 7))])
 (
 .done [(.vb .ff)]))
 (
 .done [(.vb .ff)]))
 (
 .ite (.cmp .eq (.v 0) (.z 3))
 (
 .ite (.cmp .eq (.v 1) (.z 0))
 (
 .ite (.cmp .eq (.v 2) (.z 0))
 (
 .i (.call f_impl_FrmForm_small [(.s (.v 3)), (.s (.v 4)), (.vi .i64 (.v 5))] [.b] 6) <|
 .done [(.vb (.v 6))])
 (
 .done [(.vb .ff)]))
 (
 .done [(.vb .ff)]))
 (
 .ite (.cmp .eq (.v 0) (.z 4))
 (
 .ite (.cmp .eq (.v 1) (.z 0))
 (
 .ite (.cmp .eq (.v 2) (.z 0))
 (
 .i (.call f_impl_FrmForm_same [(.s (.v 3)), (.s (.v 4)), (.vi .i64 (.v 5)), (.s .nil), (.s .nil), (.vi .i64 (.z 0))] [.b] 6) <|
 .done [(.vb (.v 6))])
 (
 .done [(.vb .ff)]))
 (
 .done [(.vb .ff)]))
 (
 .done [(.vb .ff)]))))

def R_impl_ActOk : R :=
 .loop 1 [(.z 0), (.z 0)] <|
 .ite (.cmp .lt (.v 2) (.len (.v 0)))
 (
 .i (.idx (.v 0) (.v 2) (.g [.i .i64, .i .i64, .i .i64, .s, .s, .i .i64]) 3) <|
 .i (.call f_impl_ActLine_ok [(.vi .i64 (.v 3)), (.vi .i64 (.v 4)), (.vi .i64 (.v 5)), (.s (.v 6)), (.s (.v 7)), (.vi .i64 (.v 8))] [.b] 9) <|
 .ite (.not (.v 9))
 (
 .esc <|
 .done [(.vb .ff)])
 (
 .ite (.cmp .eq (.v 3) (.z 1))
 (
 .next [(.bin .add .i64 (.v 1) (.z 1)), (.bin .add .i64 (.v 2) (.z 1))])
 (
 .next [(.v 1), (.bin .add .i64 (.v 2) (.z 1))])))
 (
 .esc <|
 .ite (.cmp .le (.len (.v 0)) (.z 6))
 (
 .done [(.vb (.cmp .le (.v 1) (.z 3)))])
 (
 .done [(.vb .ff)]))

def R_impl_CatOk_1 : R :=
 .i (.call f_impl_ActOk [(.s (.v 0))] [.b] 1) <|
 .done [(.vb (.not (.v 1)))]

def R_impl_CatOk : R :=
 .i (.call f_impl_in [(.vi .i64 (.len (.v 0))), (.vi .i64 (.z 1)), (.vi .i64 (.z 4))] [.b] 1) <|
 .ite (.v 1)
 (
 .i (.call f_slices_ContainsFunc_SSimpl_ActLine_Simpl_ActLine [(.s (.v 0)), (.fn f_impl_CatOk_1 .nil)] [.b] 2) <|
 .done [(.vb (.not (.v 2)))])
 (
 .done [(.vb .ff)])

def R_impl_PlnPlan_treaty : R :=
 .done [(.s (.v 4)), (.s (.v 2))]

def R_impl_TrtOk_1 : R :=
 .i (.call f_impl_in [(.vi .i64 (.v 0)), (.vi .i64 (.z 0)), (.vi .i64 (.z 50))] [.b] 1) <|
 .done [(.vb (.not (.v 1)))]

def R_impl_ValOk : R :=
 .i (.call f_impl_within [(.s (.v 0)), (.vi .i64 (.z 3)), (.vi .i64 (.z 10000))] [.b] 1) <|
 .done [(.vb (.v 1))]

def R_impl_TrtOk : R :=
 .i (.call f_impl_ValOk [(.s (.v 0))] [.b] 2) <|
 .ite (.v 2)
 (
 .i (.call f_impl_in [(.vi .i64 (.len (.v 1))), (.vi .i64 (.z 1)), (.vi .i64 (.z 3))] [.b] 3) <|
 .ite (.v 3)
 (
 .i (.call f_slices_ContainsFunc_Sint_int [(.s (.v 1)), (.fn f_impl_TrtOk_1 .nil)] [.b] 4) <|
 .done [(.vb (.not (.v 4)))])
 (
 .done [(.vb .ff)]))
 (
 .done [(.vb .ff)])

def R_impl_PlnOk : R :=
 .i (.call f_impl_in [(.vi .i64 (.v 0)), (.vi .i64 (.z 1)), (.vi .i64 (.z 4))] [.b] 4) <|
 .ite (.v 4)
 (
 .i (.call f_impl_CatOk [(.s (.v 1))] [.b] 5) <|
 .ite (.v 5)
 (
 .i (.call f_impl_within [(.s (.v 3)), (.vi .i64 (.z 3)), (.vi .i64 (.z 1000))] [.b] 6) <|
 .ite (.v 6)
 (
 .i (.call f_impl_PlnPlan_treaty [(.vi .i64 (.v 0)), (.s (.v 1)), (.s (.v 2)), (.s (.v 3)), (.s (.v 3))] [.s, .s] 7) <|
 .i (.call f_impl_TrtOk [(.s (.v 7)), (.s (.v 8))] [.b] 9) <|
 .done [(.vb (.v 9))])
 (
 .done [(.vb .ff)]))
 (
 .done [(.vb .ff)]))
 (
 .done [(.vb .ff)])

def R_impl_FrmZero : R :=
 .done [(.s (.cons (.vi .i64 (.z 0)) (.cons (.vi .i64 (.z 0)) (.cons (.vi .i64 (.z 0)) .nil)))), (.s (.cons (.vi .i64 (.z 0)) (.cons (.vi .i64 (.z 0)) .nil))), (.vi .i64 (.z 0))]

def R_impl_FrmPot : R :=
 .i (.call f_impl_in [(.vi .i64 (.v 0)), (.vi .i64 (.z 0)), (.vi .i64 (.z 2))] [.b] 1) <|
 .ite (.not (.v 1))
 (
 .done [(.s .nil), (.s .nil), (.vi .i64 (.z 0))])
 (
 .i (.call f_impl_FrmZero [] [.s, .s, .i .i64] 2) <|
 .i (.chk (.cmp .le (.z 0) (.v 0))) <|
 .i (.chk (.cmp .lt (.v 0) (.len (.v 2)))) <|
 .i (.idx (.v 2) (.v 0) (.one (.i .i64)) 5) <|
 .done [(.s (.set (.v 2) (.v 0) (.vi .i64 (.z 1)))), (.s (.v 3)), (.vi .i64 (.v 4))])

def R_slices_Clone_Sint_int : R :=
 .nilq 1 (.v 0)
 (
 .done [(.s .nil)])
 (
 .i (.chk (.cmp .le (.len (.v 0)) (.z 8796093022208))) <|
 .i (.head 1 (.v 0)) <|
 .i (.chk (.cmp .le (.len (.app .nil (.v 0))) (.z 8796093022208))) <|
 .done [(.s (.app .nil (.v 0)))])

def R_impl_FrmForm_copied : R :=
 .i (.call f_slices_Clone_Sint_int [(.s (.v 0))] [.s] 3) <|
 .i (.call f_slices_Clone_Sint_int [(.s (.v 1))] [.s] 4) <|
 .done [(.s (.v 3)), (.s (.v 4)), (.vi .i64 (.v 2))]

def R_impl_forms : R :=
 .loop 1 [.nil, (.z 0)] <|
 .ite (.cmp .lt (.v 2) (.len (.v 0)))
 (
 .i (.idx (.v 0) (.v 2) (.g [.s, .s, .i .i64]) 3) <|
 .i (.call f_impl_FrmForm_copied [(.s (.v 3)), (.s (.v 4)), (.vi .i64 (.v 5))] [.s, .s, .i .i64] 6) <|
 .i (.fl (.v 6)) <|
 .i (.fl (.v 7)) <|
 .i (.chk (.cmp .le (.len (.app (.v 1) (.cons (.g (.cons (.s (.v 6)) (.cons (.s (.v 7)) (.cons (.vi .i64 (.v 8)) .nil)))) .nil))) (.z 1256584717458))) <|
 .next [(.app (.v 1) (.cons (.g (.cons (.s (.v 6)) (.cons (.s (.v 7)) (.cons (.vi .i64 (.v 8)) .nil)))) .nil)), (.bin .add .i64 (.v 2) (.z 1))])
 (
 .esc <|
 .done [(.s (.v 1))])

def R_impl_FrmOk : R :=
 .i (.call f_impl_within [(.s (.v 0)), (.vi .i64 (.z 3)), (.vi .i64 (.z 10000000))] [.b] 3) <|
 .ite (.v 3)
 (
 .i (.call f_impl_within [(.s (.v 1)), (.vi .i64 (.z 2)), (.vi .i64 (.z 10000000))] [.b] 4) <|
 .ite (.v 4)
 (
 .i (.call f_impl_in [(.vi .i64 (.v 2)), (.vi .i64 (.z (-10000000))), (.vi .i64 (.z 10000000))] [.b] 5) <|
 .done [(.vb (.v 5))])
 (
 .done [(.vb .ff)]))
 (
 .done [(.vb .ff)])

def R_slices_IndexFunc_Simpl_FrmForm_impl_FrmForm : R :=
 .loop 2 [(.z 0)] <|
 .ite (.cmp .lt (.v 2) (.len (.v 0)))
 (
 .i (.idx (.v 0) (.v 2) (.g [.s, .s, .i .i64]) 3) <|
 .i (.callv (.da 1) [(.s (.v 3)), (.s (.v 4)), (.vi .i64 (.v 5))] [some 3] [.b] 6) <|
 .ite (.v 6)
 (
 .esc <|
 .done [(.vi .i64 (.v 2))])
 (
 .next [(.bin .add .i64 (.v 2) (.z 1))]))
 (
 .esc <|
 .done [(.vi .i64 (.z (-1)))])

def R_slices_ContainsFunc_Simpl_FrmForm_impl_FrmForm : R :=
 .i (.call f_slices_IndexFunc_Simpl_FrmForm_impl_FrmForm [(.s (.v 0)), (.da 1)] [.i .i64] 2) <|
 .done [(.vb (.cmp .le (.z 0) (.v 2)))]

def R_impl_FrmInto_1 : R :=
 .i (.call f_impl_FrmOk [(.s (.v 0)), (.s (.v 1)), (.vi .i64 (.v 2))] [.b] 3) <|
 .done [(.vb (.not (.v 3)))]

def R_impl_FrmForm_add : R :=
 .loop 7 [(.v 0), (.z 0)] <|
 .ite (.cmp .lt (.v 8) (.len (.v 3)))
 (
 .i (.idx (.v 3) (.v 8) (.one (.i .i64)) 9) <|
 .i (.chk (.cmp .le (.z 0) (.v 8))) <|
 .i (.chk (.cmp .lt (.v 8) (.len (.v 7)))) <|
 .i (.idx (.v 7) (.v 8) (.one (.i .i64)) 10) <|
 .i (.chk (.cmp .le (.z 0) (.v 8))) <|
 .i (.chk (.cmp .lt (.v 8) (.len (.v 7)))) <|
 .i (.idx (.v 7) (.v 8) (.one (.i .i64)) 11) <|
 .next [(.set (.v 7) (.v 8) (.vi .i64 (.bin .add .i64 (.v 10) (.bin .mul .i64 (.v 6) (.v 9))))), (.bin .add .i64 (.v 8) (.z 1))])
 (
 .esc <|
 .loop 9 [(.v 1), (.z 0)] <|
 .ite (.cmp .lt (.v 10) (.len (.v 4)))
 (
 .i (.idx (.v 4) (.v 10) (.one (.i .i64)) 11) <|
 .i (.chk (.cmp .le (.z 0) (.v 10))) <|
 .i (.chk (.cmp .lt (.v 10) (.len (.v 9)))) <|
 .i (.idx (.v 9) (.v 10) (.one (.i .i64)) 12) <|
 .i (.chk (.cmp .le (.z 0) (.v 10))) <|
 .i (.chk (.cmp .lt (.v 10) (.len (.v 9)))) <|
 .i (.idx (.v 9) (.v 10) (.one (.i .i64)) 13) <|
 .next [(.set (.v 9) (.v 10) (.vi .i64 (.bin .add .i64 (.v 12) (.bin .mul .i64 (.v 6) (.v 11))))), (.bin .add .i64 (.v 10) (.z 1))])
 (
 .esc <|
 .done [(.vi .i64 (.bin .add .i64 (.v 2) (.bin .mul .i64 (.v 6) (.v 5)))), (.s (.v 7)), (.s (.v 9))]))

def R_impl_checked : R :=
 .i (.call f_impl_FrmOk [(.s (.v 0)), (.s (.v 1)), (.vi .i64 (.v 2))] [.b] 3) <|
 .ite (.not (.v 3))
 (
 .done [(.s .nil), (.s .nil), (.vi .i64 (.z 0))])
 (
 .done [(.s (.v 0)), (.s (.v 1)), (.vi .i64 (.v 2))])

def R_impl_FrmInto : R :=
 .i (.call f_impl_FrmOk [(.s (.v 0)), (.s (.v 1)), (.vi .i64 (.v 2))] [.b] 4) <|
 .ite (.not (.v 4))
 (
 .done [(.s .nil), (.s .nil), (.vi .i64 (.z 0))])
 (
 .ite (.not (.cmp .eq (.len (.v 3)) (.z 3)))
 (
 .done [(.s .nil), (.s .nil), (.vi .i64 (.z 0))])
 (
 .i (.call f_slices_ContainsFunc_Simpl_FrmForm_impl_FrmForm [(.s (.v 3)), (.fn f_impl_FrmInto_1 .nil)] [.b] 5) <|
 .ite (.v 5)
 (
 .done [(.s .nil), (.s .nil), (.vi .i64 (.z 0))])
 (
 .i (.call f_impl_FrmZero [] [.s, .s, .i .i64] 6) <|
 .loop 9 [(.v 6), (.v 7), (.z 0), (.v 8)] <|
 .ite (.cmp .lt (.v 11) (.len (.v 3)))
 (
 .i (.idx (.v 3) (.v 11) (.g [.s, .s, .i .i64]) 13) <|
 .i (.idx (.v 0) (.v 11) (.one (.i .i64)) 16) <|
 .i (.call f_impl_FrmForm_add [(.s (.v 9)), (.s (.v 10)), (.vi .i64 (.v 12)), (.s (.v 13)), (.s (.v 14)), (.vi .i64 (.v 15)), (.vi .i64 (.v 16))] [.i .i64, .s, .s] 17) <|
 .next [(.v 18), (.v 19), (.bin .add .i64 (.v 11) (.z 1)), (.v 17)])
 (
 .esc <|
 .i (.call f_impl_FrmForm_add [(.s (.v 9)), (.s (.v 10)), (.vi .i64 (.v 12)), (.s .nil), (.s (.v 1)), (.vi .i64 (.v 2)), (.vi .i64 (.z 1))] [.i .i64, .s, .s] 13) <|
 .i (.call f_impl_checked [(.s (.v 14)), (.s (.v 15)), (.vi .i64 (.v 13))] [.s, .s, .i .i64] 16) <|
 .done [(.s (.v 16)), (.s (.v 17)), (.vi .i64 (.v 18))]))))

def R_impl_FrmTimes : R :=
 .i (.call f_impl_FrmOk [(.s (.v 0)), (.s (.v 1)), (.vi .i64 (.v 2))] [.b] 4) <|
 .ite (.not (.v 4))
 (
 .done [(.s .nil), (.s .nil), (.vi .i64 (.z 0))])
 (
 .i (.call f_impl_in [(.vi .i64 (.v 3)), (.vi .i64 (.z (-10000000))), (.vi .i64 (.z 10000000))] [.b] 5) <|
 .ite (.not (.v 5))
 (
 .done [(.s .nil), (.s .nil), (.vi .i64 (.z 0))])
 (
 .i (.call f_impl_FrmZero [] [.s, .s, .i .i64] 6) <|
 .i (.call f_impl_FrmForm_add [(.s (.v 6)), (.s (.v 7)), (.vi .i64 (.v 8)), (.s (.v 0)), (.s (.v 1)), (.vi .i64 (.v 2)), (.vi .i64 (.v 3))] [.i .i64, .s, .s] 9) <|
 .i (.call f_impl_checked [(.s (.v 10)), (.s (.v 11)), (.vi .i64 (.v 9))] [.s, .s, .i .i64] 12) <|
 .done [(.s (.v 12)), (.s (.v 13)), (.vi .i64 (.v 14))]))

def R_impl_FrmAdd : R :=
 .i (.call f_impl_FrmOk [(.s (.v 0)), (.s (.v 1)), (.vi .i64 (.v 2))] [.b] 6) <|
 .ite (.not (.v 6))
 (
 .done [(.s .nil), (.s .nil), (.vi .i64 (.z 0))])
 (
 .i (.call f_impl_FrmOk [(.s (.v 3)), (.s (.v 4)), (.vi .i64 (.v 5))] [.b] 7) <|
 .ite (.not (.v 7))
 (
 .done [(.s .nil), (.s .nil), (.vi .i64 (.z 0))])
 (
 .i (.call f_impl_FrmZero [] [.s, .s, .i .i64] 8) <|
 .i (.call f_impl_FrmForm_add [(.s (.v 8)), (.s (.v 9)), (.vi .i64 (.v 10)), (.s (.v 0)), (.s (.v 1)), (.vi .i64 (.v 2)), (.vi .i64 (.z 1))] [.i .i64, .s, .s] 11) <|
 .i (.call f_impl_FrmForm_add [(.s (.v 12)), (.s (.v 13)), (.vi .i64 (.v 11)), (.s (.v 3)), (.s (.v 4)), (.vi .i64 (.v 5)), (.vi .i64 (.z 1))] [.i .i64, .s, .s] 14) <|
 .i (.call f_impl_checked [(.s (.v 15)), (.s (.v 16)), (.vi .i64 (.v 14))] [.s, .s, .i .i64] 17) <|
 .done [(.s (.v 17)), (.s (.v 18)), (.vi .i64 (.v 19))]))

def R_impl_walker_walk : R :=
 .loop 6 [(.v 1), (.v 2), (.v 3), (.v 4), (.v 5), (.v 0)] <|
 .ite (.cmp .lt (.v 7) (.len (.v 11)))
 (
 .i (.idx (.v 11) (.v 7) (.g [.i .i64, .i .i64, .i .i64, .s, .s, .i .i64]) 12) <|
 .ite (.cmp .eq (.v 12) (.z 4))
 (
 .i (.call f_impl_forms [(.s (.v 8))] [.s] 18) <|
 .i (.chk (.cmp .le (.len (.app (.v 6) (.cons (.g (.cons (.s (.v 18)) (.cons (.s .nil) (.cons (.s .nil) (.cons (.vb .tt) .nil))))) .nil))) (.z 879609302220))) <|
 .esc <|
 .done [(.s (.v 11)), (.s (.app (.v 6) (.cons (.g (.cons (.s (.v 18)) (.cons (.s .nil) (.cons (.s .nil) (.cons (.vb .tt) .nil))))) .nil)))])
 (
 .i (.call f_impl_FrmInto [(.s (.v 15)), (.s (.v 16)), (.vi .i64 (.v 17)), (.s (.v 9))] [.s, .s, .i .i64] 18) <|
 .ite (.cmp .eq (.v 12) (.z 1))
 (
 .i (.call f_impl_forms [(.s (.v 8))] [.s] 21) <|
 .i (.chk (.cmp .le (.len (.app (.v 21) (.cons (.g (.cons (.s (.v 18)) (.cons (.s (.v 19)) (.cons (.vi .i64 (.v 20)) .nil)))) .nil))) (.z 1256584717458))) <|
 .i (.call f_impl_forms [(.s (.v 9))] [.s] 22) <|
 .i (.call f_impl_forms [(.s (.v 10))] [.s] 23) <|
 .i (.call f_impl_walker_walk [(.s (.v 11)), (.s (.v 6)), (.vi .i64 (.bin .add .i64 (.v 7) (.z 1))), (.s (.app (.v 21) (.cons (.g (.cons (.s (.v 18)) (.cons (.s (.v 19)) (.cons (.vi .i64 (.v 20)) .nil)))) .nil))), (.s (.v 22)), (.s (.v 23))] [.s, .s] 24) <|
 .i (.call f_impl_FrmTimes [(.s (.v 18)), (.s (.v 19)), (.vi .i64 (.v 20)), (.vi .i64 (.z (-1)))] [.s, .s, .i .i64] 26) <|
 .i (.call f_impl_forms [(.s (.v 8))] [.s] 29) <|
 .i (.chk (.cmp .le (.len (.app (.v 29) (.cons (.g (.cons (.s (.v 26)) (.cons (.s (.v 27)) (.cons (.vi .i64 (.bin .sub .i64 (.v 28) (.z 1))) .nil)))) .nil))) (.z 1256584717458))) <|
 .next [(.v 25), (.bin .add .i64 (.bin .add .i64 (.v 7) (.v 14)) (.z 1)), (.app (.v 29) (.cons (.g (.cons (.s (.v 26)) (.cons (.s (.v 27)) (.cons (.vi .i64 (.bin .sub .i64 (.v 28) (.z 1))) .nil)))) .nil)), (.v 9), (.v 10), (.v 24)])
 (
 .ite (.cmp .eq (.v 12) (.z 2))
 (
 .i (.call f_impl_forms [(.s (.v 9))] [.s] 21) <|
 .i (.chk (.cmp .le (.z 0) (.v 13))) <|
 .i (.chk (.cmp .lt (.v 13) (.len (.v 21)))) <|
 .i (.idx (.v 21) (.v 13) (.g [.s, .s, .i .i64]) 22) <|
 .i (.call f_impl_FrmAdd [(.s (.v 22)), (.s (.v 23)), (.vi .i64 (.v 24)), (.s (.v 18)), (.s (.v 19)), (.vi .i64 (.v 20))] [.s, .s, .i .i64] 25) <|
 .i (.chk (.cmp .le (.z 0) (.v 13))) <|
 .i (.chk (.cmp .lt (.v 13) (.len (.v 21)))) <|
 .i (.idx (.v 21) (.v 13) (.g [.s, .s, .i .i64]) 28) <|
 .next [(.v 6), (.bin .add .i64 (.v 7) (.z 1)), (.v 8), (.set (.v 21) (.v 13) (.g (.cons (.s (.v 25)) (.cons (.s (.v 26)) (.cons (.vi .i64 (.v 27)) .nil))))), (.v 10), (.v 11)])
 (
 .ite (.cmp .eq (.v 12) (.z 3))
 (
 .i (.call f_impl_forms [(.s (.v 10))] [.s] 21) <|
 .i (.chk (.cmp .le (.len (.app (.v 21) (.cons (.g (.cons (.s (.v 18)) (.cons (.s (.v 19)) (.cons (.vi .i64 (.v 20)) .nil)))) .nil))) (.z 1256584717458))) <|
 .next [(.v 6), (.bin .add .i64 (.v 7) (.z 1)), (.v 8), (.v 9), (.app (.v 21) (.cons (.g (.cons (.s (.v 18)) (.cons (.s (.v 19)) (.cons (.vi .i64 (.v 20)) .nil)))) .nil)), (.v 11)])
 (
 .next [(.v 6), (.bin .add .i64 (.v 7) (.z 1)), (.v 8), (.v 9), (.v 10), (.v 11)])))))
 (
 .esc <|
 .i (.call f_impl_forms [(.s (.v 8))] [.s] 12) <|
 .i (.call f_impl_forms [(.s (.v 10))] [.s] 13) <|
 .loop 14 [.nil, (.z 0)] <|
 .ite (.cmp .lt (.v 15) (.len (.v 9)))
 (
 .i (.idx (.v 9) (.v 15) (.g [.s, .s, .i .i64]) 16) <|
 .i (.call f_impl_FrmPot [(.vi .i64 (.v 15))] [.s, .s, .i .i64] 19) <|
 .i (.call f_impl_FrmTimes [(.s (.v 19)), (.s (.v 20)), (.vi .i64 (.v 21)), (.vi .i64 (.z (-1)))] [.s, .s, .i .i64] 22) <|
 .i (.call f_impl_FrmAdd [(.s (.v 16)), (.s (.v 17)), (.vi .i64 (.v 18)), (.s (.v 22)), (.s (.v 23)), (.vi .i64 (.v 24))] [.s, .s, .i .i64] 25) <|
 .i (.fl (.v 25)) <|
 .i (.fl (.v 26)) <|
 .i (.chk (.cmp .le (.len (.app (.v 14) (.cons (.g (.cons (.s (.v 25)) (.cons (.s (.v 26)) (.cons (.vi .i64 (.v 27)) .nil)))) .nil))) (.z 1256584717458))) <|
 .next [(.app (.v 14) (.cons (.g (.cons (.s (.v 25)) (.cons (.s (.v 26)) (.cons (.vi .i64 (.v 27)) .nil)))) .nil)), (.bin .add .i64 (.v 15) (.z 1))])
 (
 .esc <|
 .i (.chk (.cmp .le (.len (.app (.v 6) (.cons (.g (.cons (.s (.v 12)) (.cons (.s (.v 14)) (.cons (.s (.v 13)) (.cons (.vb .ff) .nil))))) .nil))) (.z 879609302220))) <|
 .done [(.s (.v 11)), (.s (.app (.v 6) (.cons (.g (.cons (.s (.v 12)) (.cons (.s (.v 14)) (.cons (.s (.v 13)) (.cons (.vb .ff) .nil))))) .nil)))]))

def R_impl_RowsOf : R :=
 .i (.call f_impl_ActOk [(.s (.v 0))] [.b] 1) <|
 .ite (.not (.v 1))
 (
 .done [(.s .nil)])
 (
 .loop 2 [.nil, (.z 0)] <|
 .ite (.cmp .lt (.v 3) (.z 3))
 (
 .i (.call f_impl_FrmPot [(.vi .i64 (.v 3))] [.s, .s, .i .i64] 4) <|
 .i (.fl (.v 4)) <|
 .i (.fl (.v 5)) <|
 .i (.chk (.cmp .le (.len (.app (.v 2) (.cons (.g (.cons (.s (.v 4)) (.cons (.s (.v 5)) (.cons (.vi .i64 (.v 6)) .nil)))) .nil))) (.z 1256584717458))) <|
 .next [(.app (.v 2) (.cons (.g (.cons (.s (.v 4)) (.cons (.s (.v 5)) (.cons (.vi .i64 (.v 6)) .nil)))) .nil)), (.bin .add .i64 (.v 3) (.z 1))])
 (
 .esc <|
 .i (.call f_impl_walker_walk [(.s (.v 0)), (.s .nil), (.vi .i64 (.z 0)), (.s .nil), (.s (.v 2)), (.s .nil)] [.s, .s] 4) <|
 .done [(.s (.v 5))]))

def R_impl_CatPart_1 : R :=
 .done [(.vb (.not (.cmp .eq (.v 0) (.z 0))))]

def R_impl_CatPart : R :=
 .i (.call f_slices_Clone_Sint_int [(.s (.v 0))] [.s] 3) <|
 .i (.call f_slices_IndexFunc_Sint_int [(.s (.v 3)), (.fn f_impl_CatPart_1 .nil)] [.i .i64] 4) <|
 .ite (.cmp .le (.z 0) (.v 4))
 (
 .i (.chk (.cmp .le (.z 0) (.v 4))) <|
 .i (.chk (.cmp .lt (.v 4) (.len (.v 3)))) <|
 .i (.idx (.v 3) (.v 4) (.one (.i .i64)) 5) <|
 .ite (.cmp .lt (.v 5) (.z 0))
 (
 .loop 6 [(.v 3), (.z 0)] <|
 .ite (.cmp .lt (.v 7) (.len (.v 3)))
 (
 .i (.chk (.cmp .le (.z 0) (.v 7))) <|
 .i (.chk (.cmp .lt (.v 7) (.len (.v 6)))) <|
 .i (.idx (.v 6) (.v 7) (.one (.i .i64)) 8) <|
 .i (.chk (.cmp .le (.z 0) (.v 7))) <|
 .i (.chk (.cmp .lt (.v 7) (.len (.v 6)))) <|
 .i (.idx (.v 6) (.v 7) (.one (.i .i64)) 9) <|
 .next [(.set (.v 6) (.v 7) (.vi .i64 (.bin .sub .i64 (.z 0) (.v 8)))), (.bin .add .i64 (.v 7) (.z 1))])
 (
 .esc <|
 .done [(.s (.v 6))]))
 (
 .done [(.s (.v 3))]))
 (
 .done [(.s (.v 3))])

def R_impl_zeros_1 : R :=
 .done [(.vb (.not (.cmp .eq (.v 0) (.z 0))))]

def R_impl_zeros : R :=
 .i (.call f_slices_ContainsFunc_Sint_int [(.s (.v 0)), (.fn f_impl_zeros_1 .nil)] [.b] 1) <|
 .done [(.vb (.not (.v 1)))]

def R_impl_CatHas_1 : R :=
 .i (.get (.da 1) (.q [.s]) 2) <|
 .i (.call f_slices_Equal_Sint_int [(.s (.v 0)), (.s (.v 2))] [.b] 3) <|
 .done [(.vb (.v 3))]

def R_slices_IndexFunc_SSint_Sint : R :=
 .loop 2 [(.z 0)] <|
 .ite (.cmp .lt (.v 2) (.len (.v 0)))
 (
 .i (.idx (.v 0) (.v 2) (.one (.s)) 3) <|
 .i (.callv (.da 1) [(.s (.v 3))] [none] [.b] 4) <|
 .ite (.v 4)
 (
 .esc <|
 .done [(.vi .i64 (.v 2))])
 (
 .next [(.bin .add .i64 (.v 2) (.z 1))]))
 (
 .esc <|
 .done [(.vi .i64 (.z (-1)))])

def R_impl_CatHas : R :=
 .i (.call f_slices_IndexFunc_SSint_Sint [(.s (.v 0)), (.fn f_impl_CatHas_1 (.cons (.q (.cons (.s (.v 1)) .nil)) .nil))] [.i .i64] 2) <|
 .done [(.vi .i64 (.v 2))]

def R_impl_CatForms : R :=
 .i (.call f_impl_CatOk [(.s (.v 0))] [.b] 1) <|
 .ite (.not (.v 1))
 (
 .done [(.s .nil)])
 (
 .loop 2 [.nil, (.z 0)] <|
 .ite (.cmp .lt (.v 3) (.z 3))
 (
 .i (.call f_impl_FrmPot [(.vi .i64 (.v 3))] [.s, .s, .i .i64] 4) <|
 .i (.fl (.v 4)) <|
 .i (.chk (.cmp .le (.len (.app (.v 2) (.cons (.s (.v 4)) .nil))) (.z 2932031007402))) <|
 .next [(.app (.v 2) (.cons (.s (.v 4)) .nil)), (.bin .add .i64 (.v 3) (.z 1))])
 (
 .esc <|
 .loop 4 [(.v 2), (.z 0)] <|
 .ite (.cmp .lt (.v 5) (.len (.v 0)))
 (
 .i (.idx (.v 0) (.v 5) (.one (.s)) 6) <|
 .i (.call f_impl_RowsOf [(.s (.v 6))] [.s] 7) <|
 .loop 8 [(.v 4), (.z 0)] <|
 .ite (.cmp .lt (.v 9) (.len (.v 7)))
 (
 .i (.chk (.cmp .le (.z 0) (.v 9))) <|
 .i (.chk (.cmp .lt (.v 9) (.len (.v 7)))) <|
 .i (.idx (.v 7) (.v 9) (.g [.s, .s, .s, .b]) 10) <|
 .loop 14 [(.v 8), (.z 0)] <|
 .ite (.cmp .lt (.v 15) (.len (.v 10)))
 (
 .i (.idx (.v 10) (.v 15) (.g [.s, .s, .i .i64]) 16) <|
 .i (.call f_impl_CatPart [(.s (.v 16)), (.s (.v 17)), (.vi .i64 (.v 18))] [.s] 19) <|
 .i (.call f_impl_zeros [(.s (.v 19))] [.b] 20) <|
 .ite (.not (.v 20))
 (
 .i (.call f_impl_CatHas [(.s (.v 14)), (.s (.v 19))] [.i .i64] 21) <|
 .ite (.cmp .lt (.v 21) (.z 0))
 (
 .i (.fl (.v 19)) <|
 .i (.chk (.cmp .le (.len (.app (.v 14) (.cons (.s (.v 19)) .nil))) (.z 2932031007402))) <|
 .next [(.app (.v 14) (.cons (.s (.v 19)) .nil)), (.bin .add .i64 (.v 15) (.z 1))])
 (
 .next [(.v 14), (.bin .add .i64 (.v 15) (.z 1))]))
 (
 .next [(.v 14), (.bin .add .i64 (.v 15) (.z 1))]))
 (
 .esc <|
 .next [(.v 14), (.bin .add .i64 (.v 9) (.z 1))]))
 (
 .esc <|
 .next [(.v 8), (.bin .add .i64 (.v 5) (.z 1))]))
 (
 .esc <|
 .done [(.s (.v 4))])))

def R_impl_pots : R :=
 .loop 2 [(.cons (.vb .ff) (.cons (.vb .ff) (.cons (.vb .ff) .nil))), (.z 0)] <|
 .ite (.cmp .lt (.v 3) (.len (.v 0)))
 (
 .i (.idx (.v 0) (.v 3) (.one (.s)) 4) <|
 .i (.call f_impl_RowsOf [(.s (.v 4))] [.s] 5) <|
 .loop 6 [(.v 2), (.z 0)] <|
 .ite (.cmp .lt (.v 7) (.len (.v 5)))
 (
 .i (.chk (.cmp .le (.z 0) (.v 7))) <|
 .i (.chk (.cmp .lt (.v 7) (.len (.v 5)))) <|
 .i (.idx (.v 5) (.v 7) (.g [.s, .s, .s, .b]) 8) <|
 .loop 12 [(.v 6), (.z 0)] <|
 .ite (.cmp .lt (.v 13) (.len (.v 6)))
 (
 .i (.chk (.cmp .le (.z 0) (.v 13))) <|
 .i (.chk (.cmp .lt (.v 13) (.len (.v 12)))) <|
 .i (.idx (.v 12) (.v 13) (.one (.b)) 14) <|
 .ite (.v 14)
 (
 .i (.chk (.cmp .le (.z 0) (.v 13))) <|
 .i (.chk (.cmp .lt (.v 13) (.len (.v 12)))) <|
 .i (.idx (.v 12) (.v 13) (.one (.b)) 15) <|
 .next [(.set (.v 12) (.v 13) (.vb .tt)), (.bin .add .i64 (.v 13) (.z 1))])
 (
 .i (.callv (.da 1) [(.s (.v 8)), (.s (.v 9)), (.s (.v 10)), (.vb (.v 11)), (.vi .i64 (.v 13))] [some 4, none] [.b] 15) <|
 .i (.chk (.cmp .le (.z 0) (.v 13))) <|
 .i (.chk (.cmp .lt (.v 13) (.len (.v 12)))) <|
 .i (.idx (.v 12) (.v 13) (.one (.b)) 16) <|
 .next [(.set (.v 12) (.v 13) (.vb (.v 15))), (.bin .add .i64 (.v 13) (.z 1))]))
 (
 .esc <|
 .next [(.v 12), (.bin .add .i64 (.v 7) (.z 1))]))
 (
 .esc <|
 .next [(.v 6), (.bin .add .i64 (.v 3) (.z 1))]))
 (
 .esc <|
 .done [(.s (.v 2))])

def R_slices_Grow_Simpl_FrmForm_impl_FrmForm : R :=
 .ite (.cmp .lt (.v 0) (.z 0))
 (
 .i (.chk .ff) <|
 .done [])
 (
 .ite (.cmp .lt (.z 0) (.bin .sub .i64 (.v 0) (.bin .sub .i64 (.z 0) (.z 0))))
 (
 .i (.chk (.cmp .lt (.z 0) (.bin .sub .i64 (.v 0) (.bin .sub .i64 (.z 0) (.z 0))))) <|
 .i (.chk (.cmp .le (.bin .sub .i64 (.v 0) (.bin .sub .i64 (.z 0) (.z 0))) (.z 1256584717458))) <|
 .i (.chk (.cmp .le (.z 0) (.len (.rep (.bin .sub .i64 (.v 0) (.bin .sub .i64 (.z 0) (.z 0))) (.g (.cons (.s .nil) (.cons (.s .nil) (.cons (.vi .i64 (.z 0)) .nil)))))))) <|
 .done [(.s (.take (.rep (.bin .sub .i64 (.v 0) (.bin .sub .i64 (.z 0) (.z 0))) (.g (.cons (.s .nil) (.cons (.s .nil) (.cons (.vi .i64 (.z 0)) .nil))))) (.z 0)))])
 (
 .done [(.s .nil)]))

def R_slices_Concat_Simpl_FrmForm_impl_FrmForm : R :=
 .loop 1 [(.z 0), (.z 0)] <|
 .ite (.cmp .lt (.v 2) (.len (.v 0)))
 (
 .i (.idx (.v 0) (.v 2) (.one (.s)) 3) <|
 .ite (.cmp .lt (.bin .add .i64 (.v 1) (.len (.v 3))) (.z 0))
 (
 .i (.chk .ff) <|
 .done [])
 (
 .next [(.bin .add .i64 (.v 1) (.len (.v 3))), (.bin .add .i64 (.v 2) (.z 1))]))
 (
 .esc <|
 .i (.call f_slices_Grow_Simpl_FrmForm_impl_FrmForm [(.vi .i64 (.v 1))] [.s] 3) <|
 .loop 4 [(.v 3), (.z 0)] <|
 .ite (.cmp .lt (.v 5) (.len (.v 0)))
 (
 .i (.idx (.v 0) (.v 5) (.one (.s)) 6) <|
 .i (.chk (.cmp .le (.len (.v 6)) (.z 1256584717458))) <|
 .i (.head 3 (.v 6)) <|
 .i (.chk (.cmp .le (.len (.app (.v 4) (.v 6))) (.z 1256584717458))) <|
 .next [(.app (.v 4) (.v 6)), (.bin .add .i64 (.v 5) (.z 1))])
 (
 .esc <|
 .done [(.s (.v 4))]))

def R_impl_RowRow_reads_1 : R :=
 .i (.get (.da 3) (.q [.i .i64]) 4) <|
 .i (.idx (.v 0) (.v 4) (.one (.i .i64)) 5) <|
 .done [(.vb (.not (.cmp .eq (.v 5) (.z 0))))]

def R_impl_RowRow_reads : R :=
 .i (.call f_slices_Concat_Simpl_FrmForm_impl_FrmForm [(.s (.cons (.s (.v 1)) (.cons (.s (.v 2)) .nil)))] [.s] 5) <|
 .i (.call f_slices_ContainsFunc_Simpl_FrmForm_impl_FrmForm [(.s (.v 5)), (.fn f_impl_RowRow_reads_1 (.cons (.q (.cons (.vi .i64 (.v 4)) .nil)) .nil))] [.b] 6) <|
 .done [(.vb (.v 6))]

def R_impl_CatPins : R :=
 .i (.call f_impl_CatOk [(.s (.v 0))] [.b] 1) <|
 .ite (.not (.v 1))
 (
 .done [(.s .nil)])
 (
 .i (.call f_impl_pots [(.s (.v 0)), (.fn f_impl_RowRow_reads .nil)] [.s] 2) <|
 .done [(.s (.v 2))])

def R_impl_rulesOf : R :=
 .i (.call f_impl_CatForms [(.s (.v 0))] [.s] 1) <|
 .i (.call f_impl_CatPins [(.s (.v 0))] [.s] 2) <|
 .done [(.s (.v 0)), (.s (.v 1)), (.s (.v 2))]

def R_impl_PlnPlan_isSite : R :=
 .i (.call f_impl_in [(.vi .i64 (.v 4)), (.vi .i64 (.z 0)), (.vi .i64 (.bin .sub .i64 (.len (.v 2)) (.z 1)))] [.b] 5) <|
 .done [(.vb (.v 5))]

def R_slices_ContainsFunc_SSint_Sint : R :=
 .i (.call f_slices_IndexFunc_SSint_Sint [(.s (.v 0)), (.da 1)] [.i .i64] 2) <|
 .done [(.vb (.cmp .le (.z 0) (.v 2)))]

def R_impl_partsOk_1 : R :=
 .i (.call f_impl_within [(.s (.v 0)), (.vi .i64 (.z 3)), (.vi .i64 (.z 10000000))] [.b] 1) <|
 .done [(.vb (.not (.v 1)))]

def R_impl_partsOk : R :=
 .i (.call f_slices_ContainsFunc_SSint_Sint [(.s (.v 0)), (.fn f_impl_partsOk_1 .nil)] [.b] 1) <|
 .done [(.vb (.not (.v 1)))]

def R_impl_addedOk : R :=
 .i (.call f_impl_within [(.s (.v 0)), (.vi .i64 (.z 3)), (.vi .i64 (.z 20000))] [.b] 1) <|
 .done [(.vb (.v 1))]

def R_impl_TrtTreaty_ok : R :=
 .i (.call f_impl_TrtOk [(.s (.v 0)), (.s (.v 1))] [.b] 5) <|
 .ite (.v 5)
 (
 .i (.call f_impl_partsOk [(.s (.v 2))] [.b] 6) <|
 .ite (.v 6)
 (
 .i (.call f_impl_in [(.vi .i64 (.v 3)), (.vi .i64 (.z 0)), (.vi .i64 (.bin .sub .i64 (.len (.v 1)) (.z 1)))] [.b] 7) <|
 .ite (.v 7)
 (
 .i (.call f_impl_addedOk [(.s (.v 4))] [.b] 8) <|
 .done [(.vb (.v 8))])
 (
 .done [(.vb .ff)]))
 (
 .done [(.vb .ff)]))
 (
 .done [(.vb .ff)])

def R_impl_dot : R :=
 .loop 2 [(.z 0), (.z 0)] <|
 .ite (.cmp .lt (.v 3) (.len (.v 0)))
 (
 .i (.idx (.v 0) (.v 3) (.one (.i .i64)) 4) <|
 .i (.idx (.v 1) (.v 3) (.one (.i .i64)) 5) <|
 .next [(.bin .add .i64 (.v 2) (.bin .mul .i64 (.v 4) (.v 5))), (.bin .add .i64 (.v 3) (.z 1))])
 (
 .esc <|
 .done [(.vi .i64 (.v 2))])

def R_impl_TrtKeeps_1 : R :=
 .i (.get (.da 1) (.q [.s]) 3) <|
 .i (.call f_impl_dot [(.s (.v 0)), (.s (.v 3))] [.i .i64] 4) <|
 .i (.get (.da 2) (.q [.i .i64]) 5) <|
 .i (.get (.da 2) (.q [.i .i64]) 6) <|
 .i (.call f_impl_in [(.vi .i64 (.v 4)), (.vi .i64 (.bin .sub .i64 (.z 0) (.v 5))), (.vi .i64 (.v 6))] [.b] 7) <|
 .done [(.vb (.not (.v 7)))]

def R_impl_TrtKeeps : R :=
 .i (.call f_impl_TrtTreaty_ok [(.s (.v 0)), (.s (.v 1)), (.s (.v 2)), (.vi .i64 (.v 3)), (.s (.v 4))] [.b] 5) <|
 .ite (.not (.v 5))
 (
 .done [(.vb .ff)])
 (
 .i (.idx (.v 1) (.v 3) (.one (.i .i64)) 6) <|
 .i (.call f_slices_ContainsFunc_SSint_Sint [(.s (.v 2)), (.fn f_impl_TrtKeeps_1 (.cons (.q (.cons (.s (.v 4)) .nil)) (.cons (.q (.cons (.vi .i64 (.v 6)) .nil)) .nil)))] [.b] 7) <|
 .done [(.vb (.not (.v 7)))])

def R_impl_rules_unpinned : R :=
 .loop 4 [(.z 0)] <|
 .ite (.cmp .lt (.v 4) (.len (.v 3)))
 (
 .i (.idx (.v 3) (.v 4) (.one (.i .i64)) 5) <|
 .ite (.not (.cmp .eq (.v 5) (.z 0)))
 (
 .i (.idx (.v 2) (.v 4) (.one (.b)) 6) <|
 .ite (.v 6)
 (
 .esc <|
 .done [(.vb .ff)])
 (
 .next [(.bin .add .i64 (.v 4) (.z 1))]))
 (
 .next [(.bin .add .i64 (.v 4) (.z 1))]))
 (
 .esc <|
 .done [(.vb .tt)])

def R_impl_rules_keeps : R :=
 .i (.call f_impl_TrtKeeps [(.s (.v 3)), (.s (.v 4)), (.s (.v 1)), (.vi .i64 (.v 5)), (.s (.v 6))] [.b] 7) <|
 .ite (.v 7)
 (
 .i (.call f_impl_rules_unpinned [(.s (.v 0)), (.s (.v 1)), (.s (.v 2)), (.s (.v 6))] [.b] 8) <|
 .done [(.vb (.v 8))])
 (
 .done [(.vb .ff)])

def R_slices_IndexFunc_Simpl_PlnDone_impl_PlnDone : R :=
 .loop 2 [(.z 0)] <|
 .ite (.cmp .lt (.v 2) (.len (.v 0)))
 (
 .i (.idx (.v 0) (.v 2) (.g [.i .i64, .i .i64, .s]) 3) <|
 .i (.callv (.da 1) [(.vi .i64 (.v 3)), (.vi .i64 (.v 4)), (.s (.v 5))] [some 3] [.b] 6) <|
 .ite (.v 6)
 (
 .esc <|
 .done [(.vi .i64 (.v 2))])
 (
 .next [(.bin .add .i64 (.v 2) (.z 1))]))
 (
 .esc <|
 .done [(.vi .i64 (.z (-1)))])

def R_slices_ContainsFunc_Simpl_PlnDone_impl_PlnDone : R :=
 .i (.call f_slices_IndexFunc_Simpl_PlnDone_impl_PlnDone [(.s (.v 0)), (.da 1)] [.i .i64] 2) <|
 .done [(.vb (.cmp .le (.z 0) (.v 2)))]

def R_impl_ResResult_none : R :=
 .ite (.cmp .eq (.v 0) (.z 0))
 (
 .done [(.vb (.cmp .eq (.len (.v 1)) (.z 0)))])
 (
 .done [(.vb .ff)])

def R_impl_codeWords : R :=
 .done [(.s (.cons (.vc (.string (strV []))) (.cons (.vc (.string (strV [100, 111, 110, 101]))) (.cons (.vc (.string (strV [115, 116, 111, 112, 112, 101, 100]))) (.cons (.vc (.string (strV [111, 118, 101, 114]))) .nil)))))]

def R_impl_ResText : R :=
 .i (.call f_impl_in [(.vi .i64 (.v 0)), (.vi .i64 (.z 1)), (.vi .i64 (.z 3))] [.b] 2) <|
 .ite (.not (.v 2))
 (
 .done [(.vc (.string (strV [])))])
 (
 .ite (.cmp .lt (.z 6) (.len (.v 1)))
 (
 .done [(.vc (.string (strV [])))])
 (
 .ite (.not (.cmp .eq (.v 0) (.z 1)))
 (
 .ite (.cmp .lt (.z 0) (.len (.v 1)))
 (
 .done [(.vc (.string (strV [])))])
 (
 .i (.call f_impl_within [(.s (.v 1)), (.vi .i64 (.len (.v 1))), (.vi .i64 (.z 999999999999))] [.b] 3) <|
 .ite (.not (.v 3))
 (
 .done [(.vc (.string (strV [])))])
 (
 .i (.call f_impl_codeWords [] [.s] 4) <|
 .i (.chk (.cmp .le (.z 0) (.v 0))) <|
 .i (.chk (.cmp .lt (.v 0) (.len (.v 4)))) <|
 .i (.idx (.v 4) (.v 0) (.one (.d)) 5) <|
 .i (.call f_impl_joined [(.s (.v 1))] [.d] 6) <|
 .i (.prim .cat [(.da 5), (.da 6)] (.d) 7) <|
 .done [(.da 7)])))
 (
 .i (.call f_impl_within [(.s (.v 1)), (.vi .i64 (.len (.v 1))), (.vi .i64 (.z 999999999999))] [.b] 3) <|
 .ite (.not (.v 3))
 (
 .done [(.vc (.string (strV [])))])
 (
 .i (.call f_impl_codeWords [] [.s] 4) <|
 .i (.chk (.cmp .le (.z 0) (.v 0))) <|
 .i (.chk (.cmp .lt (.v 0) (.len (.v 4)))) <|
 .i (.idx (.v 4) (.v 0) (.one (.d)) 5) <|
 .i (.call f_impl_joined [(.s (.v 1))] [.d] 6) <|
 .i (.prim .cat [(.da 5), (.da 6)] (.d) 7) <|
 .done [(.da 7)]))))

def R_impl_ResOk : R :=
 .i (.call f_impl_ResText [(.vi .i64 (.v 0)), (.s (.v 1))] [.d] 2) <|
 .i (.prim .seq [(.da 2), (.vc (.string (strV [])))] (.b) 3) <|
 .done [(.vb (.not (.v 3)))]

def R_impl_PlnDone_ok : R :=
 .ite (.cmp .eq (.v 0) (.z 0))
 (
 .i (.call f_impl_ResResult_none [(.vi .i64 (.v 1)), (.s (.v 2))] [.b] 3) <|
 .done [(.vb (.v 3))])
 (
 .i (.call f_impl_in [(.vi .i64 (.v 0)), (.vi .i64 (.z 1)), (.vi .i64 (.z 300))] [.b] 3) <|
 .ite (.v 3)
 (
 .i (.call f_impl_ResOk [(.vi .i64 (.v 1)), (.s (.v 2))] [.b] 4) <|
 .done [(.vb (.v 4))])
 (
 .done [(.vb .ff)]))

def R_impl_PlnPlan_doneOk_1 : R :=
 .i (.call f_impl_PlnDone_ok [(.vi .i64 (.v 0)), (.vi .i64 (.v 1)), (.s (.v 2))] [.b] 3) <|
 .done [(.vb (.not (.v 3)))]

def R_impl_PlnPlan_doneOk : R :=
 .ite (.cmp .eq (.len (.v 4)) (.v 0))
 (
 .i (.call f_slices_ContainsFunc_Simpl_PlnDone_impl_PlnDone [(.s (.v 4)), (.fn f_impl_PlnPlan_doneOk_1 .nil)] [.b] 5) <|
 .done [(.vb (.not (.v 5)))])
 (
 .done [(.vb .ff)])

def R_impl_PlnPlan_siteOk : R :=
 .i (.call f_impl_PlnPlan_isSite [(.vi .i64 (.v 0)), (.s (.v 1)), (.s (.v 2)), (.s (.v 3)), (.vi .i64 (.v 13))] [.b] 14) <|
 .ite (.v 14)
 (
 .i (.call f_impl_in [(.vi .i64 (.v 9)), (.vi .i64 (.z 0)), (.vi .i64 (.z 200))] [.b] 15) <|
 .ite (.v 15)
 (
 .i (.call f_impl_ValOk [(.s (.v 10))] [.b] 16) <|
 .ite (.v 16)
 (
 .i (.call f_impl_PlnPlan_treaty [(.vi .i64 (.v 0)), (.s (.v 1)), (.s (.v 2)), (.s (.v 3)), (.s (.v 10))] [.s, .s] 17) <|
 .i (.call f_impl_rules_keeps [(.s (.v 4)), (.s (.v 5)), (.s (.v 6)), (.s (.v 17)), (.s (.v 18)), (.vi .i64 (.v 13)), (.s (.v 11))] [.b] 19) <|
 .ite (.v 19)
 (
 .i (.call f_impl_PlnPlan_doneOk [(.vi .i64 (.v 0)), (.s (.v 1)), (.s (.v 2)), (.s (.v 3)), (.s (.v 12))] [.b] 20) <|
 .done [(.vb (.v 20))])
 (
 .done [(.vb .ff)]))
 (
 .done [(.vb .ff)]))
 (
 .done [(.vb .ff)]))
 (
 .done [(.vb .ff)])

def R_impl_SitOk : R :=
 .i (.call f_impl_PlnOk [(.vi .i64 (.v 0)), (.s (.v 1)), (.s (.v 2)), (.s (.v 3))] [.b] 11) <|
 .ite (.v 11)
 (
 .i (.call f_impl_rulesOf [(.s (.v 1))] [.s, .s, .s] 12) <|
 .i (.call f_impl_PlnPlan_siteOk [(.vi .i64 (.v 0)), (.s (.v 1)), (.s (.v 2)), (.s (.v 3)), (.s (.v 12)), (.s (.v 13)), (.s (.v 14)), (.vb (.v 4)), (.vb (.v 5)), (.vi .i64 (.v 6)), (.s (.v 7)), (.s (.v 8)), (.s (.v 9)), (.vi .i64 (.v 10))] [.b] 15) <|
 .done [(.vb (.v 15))])
 (
 .done [(.vb .ff)])

def R_laws_eqIntS : R :=
 .ite (.not (.cmp .eq (.len (.v 0)) (.len (.v 1))))
 (
 .done [(.vb .ff)])
 (
 .loop 2 [(.z 0)] <|
 .ite (.cmp .lt (.v 2) (.len (.v 0)))
 (
 .i (.idx (.v 0) (.v 2) (.one (.i .i64)) 3) <|
 .i (.idx (.v 1) (.v 2) (.one (.i .i64)) 4) <|
 .ite (.not (.cmp .eq (.v 3) (.v 4)))
 (
 .esc <|
 .done [(.vb .ff)])
 (
 .next [(.bin .add .i64 (.v 2) (.z 1))]))
 (
 .esc <|
 .done [(.vb .tt)]))

def R_laws_eqFrmForm : R :=
 .i (.call f_laws_eqIntS [(.s (.v 0)), (.s (.v 3))] [.b] 6) <|
 .ite (.not (.v 6))
 (
 .done [(.vb .ff)])
 (
 .i (.call f_laws_eqIntS [(.s (.v 1)), (.s (.v 4))] [.b] 7) <|
 .ite (.not (.v 7))
 (
 .done [(.vb .ff)])
 (
 .ite (.not (.cmp .eq (.v 2) (.v 5)))
 (
 .done [(.vb .ff)])
 (
 .done [(.vb .tt)])))

def R_laws_eqActLine : R :=
 .ite (.not (.cmp .eq (.v 0) (.v 6)))
 (
 .done [(.vb .ff)])
 (
 .ite (.not (.cmp .eq (.v 1) (.v 7)))
 (
 .done [(.vb .ff)])
 (
 .ite (.not (.cmp .eq (.v 2) (.v 8)))
 (
 .done [(.vb .ff)])
 (
 .i (.call f_laws_eqFrmForm [(.s (.v 3)), (.s (.v 4)), (.vi .i64 (.v 5)), (.s (.v 9)), (.s (.v 10)), (.vi .i64 (.v 11))] [.b] 12) <|
 .ite (.not (.v 12))
 (
 .done [(.vb .ff)])
 (
 .done [(.vb .tt)]))))

def R_laws_eqActLineS : R :=
 .ite (.not (.cmp .eq (.len (.v 0)) (.len (.v 1))))
 (
 .done [(.vb .ff)])
 (
 .loop 2 [(.z 0)] <|
 .ite (.cmp .lt (.v 2) (.len (.v 0)))
 (
 .i (.idx (.v 0) (.v 2) (.g [.i .i64, .i .i64, .i .i64, .s, .s, .i .i64]) 3) <|
 .i (.idx (.v 1) (.v 2) (.g [.i .i64, .i .i64, .i .i64, .s, .s, .i .i64]) 9) <|
 .i (.call f_laws_eqActLine [(.vi .i64 (.v 3)), (.vi .i64 (.v 4)), (.vi .i64 (.v 5)), (.s (.v 6)), (.s (.v 7)), (.vi .i64 (.v 8)), (.vi .i64 (.v 9)), (.vi .i64 (.v 10)), (.vi .i64 (.v 11)), (.s (.v 12)), (.s (.v 13)), (.vi .i64 (.v 14))] [.b] 15) <|
 .ite (.not (.v 15))
 (
 .esc <|
 .done [(.vb .ff)])
 (
 .next [(.bin .add .i64 (.v 2) (.z 1))]))
 (
 .esc <|
 .done [(.vb .tt)]))

def R_laws_eqActLineSS : R :=
 .ite (.not (.cmp .eq (.len (.v 0)) (.len (.v 1))))
 (
 .done [(.vb .ff)])
 (
 .loop 2 [(.z 0)] <|
 .ite (.cmp .lt (.v 2) (.len (.v 0)))
 (
 .i (.idx (.v 0) (.v 2) (.one (.s)) 3) <|
 .i (.idx (.v 1) (.v 2) (.one (.s)) 4) <|
 .i (.call f_laws_eqActLineS [(.s (.v 3)), (.s (.v 4))] [.b] 5) <|
 .ite (.not (.v 5))
 (
 .esc <|
 .done [(.vb .ff)])
 (
 .next [(.bin .add .i64 (.v 2) (.z 1))]))
 (
 .esc <|
 .done [(.vb .tt)]))

def R_laws_eqPlnPlan : R :=
 .ite (.not (.cmp .eq (.v 0) (.v 4)))
 (
 .done [(.vb .ff)])
 (
 .i (.call f_laws_eqActLineSS [(.s (.v 1)), (.s (.v 5))] [.b] 8) <|
 .ite (.not (.v 8))
 (
 .done [(.vb .ff)])
 (
 .i (.call f_laws_eqIntS [(.s (.v 2)), (.s (.v 6))] [.b] 9) <|
 .ite (.not (.v 9))
 (
 .done [(.vb .ff)])
 (
 .i (.call f_laws_eqIntS [(.s (.v 3)), (.s (.v 7))] [.b] 10) <|
 .ite (.not (.v 10))
 (
 .done [(.vb .ff)])
 (
 .done [(.vb .tt)]))))

def R_laws_eqResResult : R :=
 .ite (.not (.cmp .eq (.v 0) (.v 2)))
 (
 .done [(.vb .ff)])
 (
 .i (.call f_laws_eqIntS [(.s (.v 1)), (.s (.v 3))] [.b] 4) <|
 .ite (.not (.v 4))
 (
 .done [(.vb .ff)])
 (
 .done [(.vb .tt)]))

def R_laws_eqPlnDone : R :=
 .ite (.not (.cmp .eq (.v 0) (.v 3)))
 (
 .done [(.vb .ff)])
 (
 .i (.call f_laws_eqResResult [(.vi .i64 (.v 1)), (.s (.v 2)), (.vi .i64 (.v 4)), (.s (.v 5))] [.b] 6) <|
 .ite (.not (.v 6))
 (
 .done [(.vb .ff)])
 (
 .done [(.vb .tt)]))

def R_laws_eqPlnDoneS : R :=
 .ite (.not (.cmp .eq (.len (.v 0)) (.len (.v 1))))
 (
 .done [(.vb .ff)])
 (
 .loop 2 [(.z 0)] <|
 .ite (.cmp .lt (.v 2) (.len (.v 0)))
 (
 .i (.idx (.v 0) (.v 2) (.g [.i .i64, .i .i64, .s]) 3) <|
 .i (.idx (.v 1) (.v 2) (.g [.i .i64, .i .i64, .s]) 6) <|
 .i (.call f_laws_eqPlnDone [(.vi .i64 (.v 3)), (.vi .i64 (.v 4)), (.s (.v 5)), (.vi .i64 (.v 6)), (.vi .i64 (.v 7)), (.s (.v 8))] [.b] 9) <|
 .ite (.not (.v 9))
 (
 .esc <|
 .done [(.vb .ff)])
 (
 .next [(.bin .add .i64 (.v 2) (.z 1))]))
 (
 .esc <|
 .done [(.vb .tt)]))

def R_laws_eqSitSite : R :=
 .ite (.not (.beq (.v 0) (.v 6)))
 (
 .done [(.vb .ff)])
 (
 .ite (.not (.beq (.v 1) (.v 7)))
 (
 .done [(.vb .ff)])
 (
 .ite (.not (.cmp .eq (.v 2) (.v 8)))
 (
 .done [(.vb .ff)])
 (
 .i (.call f_laws_eqIntS [(.s (.v 3)), (.s (.v 9))] [.b] 12) <|
 .ite (.not (.v 12))
 (
 .done [(.vb .ff)])
 (
 .i (.call f_laws_eqIntS [(.s (.v 4)), (.s (.v 10))] [.b] 13) <|
 .ite (.not (.v 13))
 (
 .done [(.vb .ff)])
 (
 .i (.call f_laws_eqPlnDoneS [(.s (.v 5)), (.s (.v 11))] [.b] 14) <|
 .ite (.not (.v 14))
 (
 .done [(.vb .ff)])
 (
 .done [(.vb .tt)]))))))

def R_laws_FnExactSitOk : R :=
 .i (.call f_laws_szPlnPlan [(.vi .i64 (.v 0)), (.s (.v 1)), (.s (.v 2)), (.s (.v 3)), (.vi .i64 (.z 1048576))] [.i .i64] 11) <|
 .ite (.cmp .lt (.v 11) (.z 0))
 (
 .done [(.vb .tt)])
 (
 .i (.call f_laws_szSitSite [(.vb (.v 4)), (.vb (.v 5)), (.vi .i64 (.v 6)), (.s (.v 7)), (.s (.v 8)), (.s (.v 9)), (.vi .i64 (.v 11))] [.i .i64] 12) <|
 .ite (.cmp .lt (.v 12) (.z 0))
 (
 .done [(.vb .tt)])
 (
 .i (.call f_laws_toPlnPlan [(.vi .i64 (.v 0)), (.s (.v 1)), (.s (.v 2)), (.s (.v 3))] [.i .i64, .s, .s, .s] 13) <|
 .i (.call f_laws_toSitSite [(.vb (.v 4)), (.vb (.v 5)), (.vi .i64 (.v 6)), (.s (.v 7)), (.s (.v 8)), (.s (.v 9))] [.b, .b, .i .i64, .s, .s, .s] 17) <|
 .i (.call f_spec_SitOk [(.vi .i64 (.v 13)), (.s (.v 14)), (.s (.v 15)), (.s (.v 16)), (.vb (.v 17)), (.vb (.v 18)), (.vi .i64 (.v 19)), (.s (.v 20)), (.s (.v 21)), (.s (.v 22)), (.vi .i64 (.v 10))] [.b] 23) <|
 .i (.call f_laws_toPlnPlan [(.vi .i64 (.v 0)), (.s (.v 1)), (.s (.v 2)), (.s (.v 3))] [.i .i64, .s, .s, .s] 24) <|
 .i (.call f_laws_toSitSite [(.vb (.v 4)), (.vb (.v 5)), (.vi .i64 (.v 6)), (.s (.v 7)), (.s (.v 8)), (.s (.v 9))] [.b, .b, .i .i64, .s, .s, .s] 28) <|
 .i (.call f_impl_SitOk [(.vi .i64 (.v 24)), (.s (.v 25)), (.s (.v 26)), (.s (.v 27)), (.vb (.v 28)), (.vb (.v 29)), (.vi .i64 (.v 30)), (.s (.v 31)), (.s (.v 32)), (.s (.v 33)), (.vi .i64 (.v 10))] [.b] 34) <|
 .ite (.not (.beq (.v 34) (.v 23)))
 (
 .done [(.vb .ff)])
 (
 .i (.call f_laws_toPlnPlan [(.vi .i64 (.v 0)), (.s (.v 1)), (.s (.v 2)), (.s (.v 3))] [.i .i64, .s, .s, .s] 35) <|
 .i (.call f_laws_eqPlnPlan [(.vi .i64 (.v 24)), (.s (.v 25)), (.s (.v 26)), (.s (.v 27)), (.vi .i64 (.v 35)), (.s (.v 36)), (.s (.v 37)), (.s (.v 38))] [.b] 39) <|
 .ite (.not (.v 39))
 (
 .done [(.vb .ff)])
 (
 .i (.call f_laws_toSitSite [(.vb (.v 4)), (.vb (.v 5)), (.vi .i64 (.v 6)), (.s (.v 7)), (.s (.v 8)), (.s (.v 9))] [.b, .b, .i .i64, .s, .s, .s] 40) <|
 .i (.call f_laws_eqSitSite [(.vb (.v 28)), (.vb (.v 29)), (.vi .i64 (.v 30)), (.s (.v 31)), (.s (.v 32)), (.s (.v 33)), (.vb (.v 40)), (.vb (.v 41)), (.vi .i64 (.v 42)), (.s (.v 43)), (.s (.v 44)), (.s (.v 45))] [.b] 46) <|
 .ite (.not (.v 46))
 (
 .done [(.vb .ff)])
 (
 .done [(.vb .tt)])))))
def S_laws_szIntS : Sig := .d ⟨[(.one (.s)), (.one (.i .i64))], (.one (.one (.i .i64))), true⟩
def H_laws_szIntS : Hint := ⟨[0, 1, 4, 10], 0, [], [], false, [], []⟩
def E_laws_szIntS : Entry := ⟨S_laws_szIntS, .r H_laws_szIntS R_laws_szIntS⟩
def S_laws_szFrmForm : Sig := .d ⟨[(.g [.s, .s, .i .i64]), (.one (.i .i64))], (.one (.one (.i .i64))), true⟩
def H_laws_szFrmForm : Hint := ⟨[0, 1, 2, 4, 10, 16], 0, [], [], false, [], []⟩
def E_laws_szFrmForm : Entry := ⟨S_laws_szFrmForm, .r H_laws_szFrmForm R_laws_szFrmForm⟩
def S_laws_szActLine : Sig := .d ⟨[(.g [.i .i64, .i .i64, .i .i64, .s, .s, .i .i64]), (.one (.i .i64))], (.one (.one (.i .i64))), true⟩
def H_laws_szActLine : Hint := ⟨[0, 1, 2, 4, 10], 0, [], [], false, [], []⟩
def E_laws_szActLine : Entry := ⟨S_laws_szActLine, .r H_laws_szActLine R_laws_szActLine⟩
def S_laws_szActLineS : Sig := .d ⟨[(.one (.s)), (.one (.i .i64))], (.one (.one (.i .i64))), true⟩
def H_laws_szActLineS : Hint := ⟨[0, 1, 4, 5, 11, 15, 25], 0, [], [(5, ⟨[5, 1], [], [], [], []⟩)], false, [], []⟩
def E_laws_szActLineS : Entry := ⟨S_laws_szActLineS, .r H_laws_szActLineS R_laws_szActLineS⟩
def S_laws_szActLineSS : Sig := .d ⟨[(.one (.s)), (.one (.i .i64))], (.one (.one (.i .i64))), true⟩
def H_laws_szActLineSS : Hint := ⟨[0, 1, 4, 5, 11, 15, 25], 0, [], [(5, ⟨[5, 1], [], [], [], []⟩)], false, [], []⟩
def E_laws_szActLineSS : Entry := ⟨S_laws_szActLineSS, .r H_laws_szActLineSS R_laws_szActLineSS⟩
def S_laws_szPlnPlan : Sig := .d ⟨[(.g [.i .i64, .s, .s, .s]), (.one (.i .i64))], (.one (.one (.i .i64))), true⟩
def H_laws_szPlnPlan : Hint := ⟨[0, 1, 2, 4, 10, 16, 22], 0, [], [], false, [], []⟩
def E_laws_szPlnPlan : Entry := ⟨S_laws_szPlnPlan, .r H_laws_szPlnPlan R_laws_szPlnPlan⟩
def S_laws_szResResult : Sig := .d ⟨[(.g [.i .i64, .s]), (.one (.i .i64))], (.one (.one (.i .i64))), true⟩
def H_laws_szResResult : Hint := ⟨[0, 1, 2, 4, 10], 0, [], [], false, [], []⟩
def E_laws_szResResult : Entry := ⟨S_laws_szResResult, .r H_laws_szResResult R_laws_szResResult⟩
def S_laws_szPlnDone : Sig := .d ⟨[(.g [.i .i64, .i .i64, .s]), (.one (.i .i64))], (.one (.one (.i .i64))), true⟩
def H_laws_szPlnDone : Hint := ⟨[0, 1, 2, 4, 10], 0, [], [], false, [], []⟩
def E_laws_szPlnDone : Entry := ⟨S_laws_szPlnDone, .r H_laws_szPlnDone R_laws_szPlnDone⟩
def S_laws_szPlnDoneS : Sig := .d ⟨[(.one (.s)), (.one (.i .i64))], (.one (.one (.i .i64))), true⟩
def H_laws_szPlnDoneS : Hint := ⟨[0, 1, 4, 5, 11, 15, 25], 0, [], [(5, ⟨[5, 1], [], [], [], []⟩)], false, [], []⟩
def E_laws_szPlnDoneS : Entry := ⟨S_laws_szPlnDoneS, .r H_laws_szPlnDoneS R_laws_szPlnDoneS⟩
def S_laws_szSitSite : Sig := .d ⟨[(.g [.b, .b, .i .i64, .s, .s, .s]), (.one (.i .i64))], (.one (.one (.i .i64))), true⟩
def H_laws_szSitSite : Hint := ⟨[0, 1, 2, 4, 10, 16, 22], 0, [], [], false, [], []⟩
def E_laws_szSitSite : Entry := ⟨S_laws_szSitSite, .r H_laws_szSitSite R_laws_szSitSite⟩
def S_laws_toIntS : Sig := .x ⟨[(.d (.s (.v 0)))], [], [.s], (.o 0 (.v 0)), [(.arr 3 1 (.v 0) true true)], [.s], false⟩
def H_laws_toIntS : Hint := ⟨[0, 2, 3, 4, 11], 0, [], [(3, ⟨[4], [], [112], [], []⟩)], true, [], []⟩
def E_laws_toIntS : Entry := ⟨S_laws_toIntS, .r H_laws_toIntS R_laws_toIntS⟩
def S_laws_toFrmForm : Sig := .x ⟨[(.g [(.d (.s (.v 0))), (.d (.s (.v 1))), (.d (.vi .i64 (.v 2)))])], [], [.s, .s, .i .i64], (.g [(.o 0 (.v 0)), (.o 1 (.v 1)), (.d (.vi .i64 (.v 2)))]), [(.arr 3 1 (.v 0) true true), (.arr 3 1 (.v 1) true true)], [.s, .s, .i .i64], false⟩
def H_laws_toFrmForm : Hint := ⟨[0, 1, 2, 3], 0, [], [], true, [], []⟩
def E_laws_toFrmForm : Entry := ⟨S_laws_toFrmForm, .r H_laws_toFrmForm R_laws_toFrmForm⟩
def S_laws_toActLine : Sig := .x ⟨[(.g [(.d (.vi .i64 (.v 0))), (.d (.vi .i64 (.v 1))), (.d (.vi .i64 (.v 2))), (.d (.s (.v 3))), (.d (.s (.v 4))), (.d (.vi .i64 (.v 5)))])], [], [.i .i64, .i .i64, .i .i64, .s, .s, .i .i64], (.g [(.d (.vi .i64 (.v 0))), (.d (.vi .i64 (.v 1))), (.d (.vi .i64 (.v 2))), (.o 0 (.v 3)), (.o 1 (.v 4)), (.d (.vi .i64 (.v 5)))]), [(.arr 3 1 (.v 3) true true), (.arr 3 1 (.v 4) true true)], [.i .i64, .i .i64, .i .i64, .s, .s, .i .i64], false⟩
def H_laws_toActLine : Hint := ⟨[0, 1, 2, 3], 0, [], [], true, [], []⟩
def E_laws_toActLine : Entry := ⟨S_laws_toActLine, .r H_laws_toActLine R_laws_toActLine⟩
def S_laws_toActLineS : Sig := .x ⟨[(.d (.s (.v 0)))], [], [.s], (.o 0 (.v 0)), [(.arr 201 6 (.v 0) true true)], [.s], false⟩
def H_laws_toActLineS : Hint := ⟨[0, 2, 3, 4, 11], 0, [], [(3, ⟨[4], [], [112], [], []⟩)], true, [], []⟩
def E_laws_toActLineS : Entry := ⟨S_laws_toActLineS, .r H_laws_toActLineS R_laws_toActLineS⟩
def S_laws_toActLineSS : Sig := .x ⟨[(.d (.s (.v 0)))], [], [.s], (.o 0 (.v 0)), [(.arr 154 1 (.v 0) true true)], [.s], false⟩
def H_laws_toActLineSS : Hint := ⟨[0, 2, 3, 4, 11], 0, [], [(3, ⟨[4], [], [112], [], []⟩)], true, [], []⟩
def E_laws_toActLineSS : Entry := ⟨S_laws_toActLineSS, .r H_laws_toActLineSS R_laws_toActLineSS⟩
def S_laws_toPlnPlan : Sig := .x ⟨[(.g [(.d (.vi .i64 (.v 0))), (.d (.s (.v 1))), (.d (.s (.v 2))), (.d (.s (.v 3)))])], [], [.i .i64, .s, .s, .s], (.g [(.d (.vi .i64 (.v 0))), (.o 0 (.v 1)), (.o 1 (.v 2)), (.o 2 (.v 3))]), [(.arr 154 1 (.v 1) true true), (.arr 3 1 (.v 2) true true), (.arr 3 1 (.v 3) true true)], [.i .i64, .s, .s, .s], false⟩
def H_laws_toPlnPlan : Hint := ⟨[0, 1, 2, 3], 0, [], [], true, [], []⟩
def E_laws_toPlnPlan : Entry := ⟨S_laws_toPlnPlan, .r H_laws_toPlnPlan R_laws_toPlnPlan⟩
def S_laws_toResResult : Sig := .x ⟨[(.g [(.d (.vi .i64 (.v 0))), (.d (.s (.v 1)))])], [], [.i .i64, .s], (.g [(.d (.vi .i64 (.v 0))), (.o 0 (.v 1))]), [(.arr 3 1 (.v 1) true true)], [.i .i64, .s], false⟩
def H_laws_toResResult : Hint := ⟨[0, 1, 2, 3], 0, [], [], true, [], []⟩
def E_laws_toResResult : Entry := ⟨S_laws_toResResult, .r H_laws_toResResult R_laws_toResResult⟩
def S_laws_toPlnDone : Sig := .x ⟨[(.g [(.d (.vi .i64 (.v 0))), (.d (.vi .i64 (.v 1))), (.d (.s (.v 2)))])], [], [.i .i64, .i .i64, .s], (.g [(.d (.vi .i64 (.v 0))), (.d (.vi .i64 (.v 1))), (.o 0 (.v 2))]), [(.arr 3 1 (.v 2) true true)], [.i .i64, .i .i64, .s], false⟩
def H_laws_toPlnDone : Hint := ⟨[0, 1, 2, 3], 0, [], [], true, [], []⟩
def E_laws_toPlnDone : Entry := ⟨S_laws_toPlnDone, .r H_laws_toPlnDone R_laws_toPlnDone⟩
def S_laws_toPlnDoneS : Sig := .x ⟨[(.d (.s (.v 0)))], [], [.s], (.o 0 (.v 0)), [(.arr 142 3 (.v 0) true true)], [.s], false⟩
def H_laws_toPlnDoneS : Hint := ⟨[0, 2, 3, 4, 11], 0, [], [(3, ⟨[4], [], [112], [], []⟩)], true, [], []⟩
def E_laws_toPlnDoneS : Entry := ⟨S_laws_toPlnDoneS, .r H_laws_toPlnDoneS R_laws_toPlnDoneS⟩
def S_laws_toSitSite : Sig := .x ⟨[(.g [(.d (.vb (.v 0))), (.d (.vb (.v 1))), (.d (.vi .i64 (.v 2))), (.d (.s (.v 3))), (.d (.s (.v 4))), (.d (.s (.v 5)))])], [], [.b, .b, .i .i64, .s, .s, .s], (.g [(.d (.vb (.v 0))), (.d (.vb (.v 1))), (.d (.vi .i64 (.v 2))), (.o 0 (.v 3)), (.o 1 (.v 4)), (.o 2 (.v 5))]), [(.arr 3 1 (.v 3) true true), (.arr 3 1 (.v 4) true true), (.arr 142 3 (.v 5) true true)], [.b, .b, .i .i64, .s, .s, .s], false⟩
def H_laws_toSitSite : Hint := ⟨[0, 1, 2, 3], 0, [], [], true, [], []⟩
def E_laws_toSitSite : Entry := ⟨S_laws_toSitSite, .r H_laws_toSitSite R_laws_toSitSite⟩
def S_spec_l1In : Sig := .d ⟨[(.one (.i .i64)), (.one (.i .i64)), (.one (.i .i64))], (.one (.one (.b))), true⟩
def H_spec_l1In : Hint := ⟨[0, 1, 2, 6], 0, [], [], false, [], []⟩
def E_spec_l1In : Entry := ⟨S_spec_l1In, .r H_spec_l1In R_spec_l1In⟩
def S_spec_l1All : Sig := .d ⟨[(.one (.s)), (.one (.i .i64)), (.one (.i .i64))], (.one (.one (.b))), true⟩
def H_spec_l1All : Hint := ⟨[0, 1, 2, 6, 7, 11, 15, 26], 0, [], [(4, ⟨[7], [], [], [], []⟩)], false, [], []⟩
def E_spec_l1All : Entry := ⟨S_spec_l1All, .r H_spec_l1All R_spec_l1All⟩
def S_spec_l2Small : Sig := .d ⟨[(.g [.s, .s, .i .i64])], (.one (.one (.b))), true⟩
def H_spec_l2Small : Hint := ⟨[0, 1, 2], 0, [], [], false, [], []⟩
def E_spec_l2Small : Entry := ⟨S_spec_l2Small, .r H_spec_l2Small R_spec_l2Small⟩
def S_spec_l2Line : Sig := .d ⟨[(.g [.i .i64, .i .i64, .i .i64, .s, .s, .i .i64])], (.one (.one (.b))), true⟩
def H_spec_l2Line : Hint := ⟨[0, 1, 2, 4, 5, 20, 35], 0, [], [], false, [], []⟩
def E_spec_l2Line : Entry := ⟨S_spec_l2Line, .r H_spec_l2Line R_spec_l2Line⟩
def S_spec_ActOk : Sig := .d ⟨[(.one (.s))], (.one (.one (.b))), true⟩
def H_spec_ActOk : Hint := ⟨[0, 2, 3, 4, 8, 16, 22], 0, [], [(3, ⟨[4, 3], [], [], [], []⟩)], false, [], []⟩
def E_spec_ActOk : Entry := ⟨S_spec_ActOk, .r H_spec_ActOk R_spec_ActOk⟩
def S_spec_CatOk : Sig := .d ⟨[(.one (.s))], (.one (.one (.b))), true⟩
def H_spec_CatOk : Hint := ⟨[0, 2, 3, 7, 11, 19], 0, [], [(4, ⟨[3], [], [], [], []⟩)], false, [], []⟩
def E_spec_CatOk : Entry := ⟨S_spec_CatOk, .r H_spec_CatOk R_spec_CatOk⟩
def S_spec_ValOk : Sig := .d ⟨[(.one (.s))], (.one (.one (.b))), true⟩
def H_spec_ValOk : Hint := ⟨[0, 2], 0, [], [], false, [], []⟩
def E_spec_ValOk : Entry := ⟨S_spec_ValOk, .r H_spec_ValOk R_spec_ValOk⟩
def S_spec_TrtOk : Sig := .d ⟨[(.g [.s, .s])], (.one (.one (.b))), true⟩
def H_spec_TrtOk : Hint := ⟨[0, 1, 2, 3, 14, 19, 28], 0, [], [(4, ⟨[3], [], [], [], []⟩)], false, [], []⟩
def E_spec_TrtOk : Entry := ⟨S_spec_TrtOk, .r H_spec_TrtOk R_spec_TrtOk⟩
def S_spec_PlnOk : Sig := .d ⟨[(.g [.i .i64, .s, .s, .s])], (.one (.one (.b))), true⟩
def H_spec_PlnOk : Hint := ⟨[0, 1, 2], 0, [], [], false, [], []⟩
def E_spec_PlnOk : Entry := ⟨S_spec_PlnOk, .r H_spec_PlnOk R_spec_PlnOk⟩
def S_spec_FrmZero : Sig := .x ⟨[], [], [], (.g [(.o 0 (.v 0)), (.o 1 (.v 1)), (.d (.vi .i64 (.v 2)))]), [(.arr 3 1 (.v 0) false true), (.arr 3 1 (.v 1) false true)], [.s, .s, .i .i64], false⟩
def H_spec_FrmZero : Hint := ⟨[0], 0, [], [], false, [], []⟩
def E_spec_FrmZero : Entry := ⟨S_spec_FrmZero, .r H_spec_FrmZero R_spec_FrmZero⟩
def S_spec_FrmPot : Sig := .x ⟨[(.d (.vi .i64 (.v 0)))], [], [.i .i64], (.g [(.o 0 (.v 0)), (.o 1 (.v 1)), (.d (.vi .i64 (.v 2)))]), [(.arr 3 1 (.v 0) false true), (.arr 3 1 (.v 1) false true)], [.s, .s, .i .i64], false⟩
def H_spec_FrmPot : Hint := ⟨[0, 2, 3, 6], 0, [(999999, ⟨(.cell 32 0), 900000, 3, 1, false, false⟩), (999999, ⟨(.cell 32 1), 900001, 3, 1, false, false⟩)], [], false, [], []⟩
def E_spec_FrmPot : Entry := ⟨S_spec_FrmPot, .r H_spec_FrmPot R_spec_FrmPot⟩
def S_spec_l1Sum : Sig := .x ⟨[(.g [(.d (.s (.v 0))), (.d (.s (.v 1))), (.d (.vi .i64 (.v 2)))]), (.g [(.d (.s (.v 3))), (.d (.s (.v 4))), (.d (.vi .i64 (.v 5)))]), (.d (.vi .i64 (.v 6)))], [], [.s, .s, .i .i64, .s, .s, .i .i64, .i .i64], (.g [(.o 0 (.v 0)), (.o 1 (.v 1)), (.d (.vi .i64 (.v 2)))]), [(.arr 3 1 (.v 0) false true), (.arr 3 1 (.v 1) false true)], [.s, .s, .i .i64], false⟩
def H_spec_l1Sum : Hint := ⟨[0, 1, 2, 3, 4, 6, 7, 8, 9, 12, 33], 0, [], [(7, ⟨[9], [], [161], [], []⟩), (3, ⟨[8], [], [160], [], []⟩)], false, [], []⟩
def E_spec_l1Sum : Entry := ⟨S_spec_l1Sum, .r H_spec_l1Sum R_spec_l1Sum⟩
def S_spec_l3Copy : Sig := .x ⟨[(.d (.s (.v 0)))], [], [.s], (.o 0 (.v 0)), [(.arr 139 3 (.v 0) false true)], [.s], false⟩
def H_spec_l3Copy : Hint := ⟨[0, 2, 3, 4, 9], 0, [], [(3, ⟨[4], [], [80], [], []⟩)], false, [], []⟩
def E_spec_l3Copy : Entry := ⟨S_spec_l3Copy, .r H_spec_l3Copy R_spec_l3Copy⟩
def S_spec_FrmOk : Sig := .d ⟨[(.g [.s, .s, .i .i64])], (.one (.one (.b))), true⟩
def H_spec_FrmOk : Hint := ⟨[0, 1, 2], 0, [], [], false, [], []⟩
def E_spec_FrmOk : Entry := ⟨S_spec_FrmOk, .r H_spec_FrmOk R_spec_FrmOk⟩
def S_spec_FrmInto : Sig := .x ⟨[(.g [(.d (.s (.v 0))), (.d (.s (.v 1))), (.d (.vi .i64 (.v 2)))]), (.d (.s (.v 3)))], [], [.s, .s, .i .i64, .s], (.g [(.o 0 (.v 0)), (.o 1 (.v 1)), (.d (.vi .i64 (.v 2)))]), [(.arr 3 1 (.v 0) false true), (.arr 3 1 (.v 1) false true)], [.s, .s, .i .i64], false⟩
def H_spec_FrmInto : Hint := ⟨[0, 1, 2, 4, 5, 6, 35, 46, 62], 0, [(999999, ⟨(.cell 64 0), 900000, 3, 1, false, false⟩), (999999, ⟨(.cell 64 1), 900001, 3, 1, false, false⟩)], [(5, ⟨[6], [(80, 2)], [592, 608], [], []⟩)], false, [], []⟩
def E_spec_FrmInto : Entry := ⟨S_spec_FrmInto, .r H_spec_FrmInto R_spec_FrmInto⟩
def S_spec_l3Minus : Sig := .x ⟨[(.g [(.d (.s (.v 0))), (.d (.s (.v 1))), (.d (.vi .i64 (.v 2)))])], [], [.s, .s, .i .i64], (.g [(.o 0 (.v 0)), (.o 1 (.v 1)), (.d (.vi .i64 (.v 2)))]), [(.arr 3 1 (.v 0) false true), (.arr 3 1 (.v 1) false true)], [.s, .s, .i .i64], false⟩
def H_spec_l3Minus : Hint := ⟨[0, 1, 2, 3], 0, [], [], false, [], []⟩
def E_spec_l3Minus : Entry := ⟨S_spec_l3Minus, .r H_spec_l3Minus R_spec_l3Minus⟩
def S_spec_l3Row : Sig := .x ⟨[(.d (.s (.v 0))), (.d (.s (.v 1))), (.d (.s (.v 2)))], [], [.s, .s, .s], (.g [(.o 0 (.v 0)), (.o 1 (.v 1)), (.o 2 (.v 2)), (.d (.vb (.v 3)))]), [(.arr 139 3 (.v 0) false true), (.arr 139 3 (.v 1) false true), (.arr 139 3 (.v 2) false true)], [.s, .s, .s, .b], false⟩
def H_spec_l3Row : Hint := ⟨[0, 1, 2, 6, 7, 8, 15], 0, [(3, ⟨(.cell 112 1), 121, 139, 3, false, false⟩)], [(3, ⟨[8], [], [121], [], []⟩)], false, [], []⟩
def E_spec_l3Row : Entry := ⟨S_spec_l3Row, .r H_spec_l3Row R_spec_l3Row⟩
def S_spec_l3Walk : Sig := .x ⟨[(.d (.s (.v 0))), (.d (.vi .i64 (.v 1))), (.d (.s (.v 2))), (.d (.s (.v 3))), (.d (.s (.v 4)))], [], [.s, .i .i64, .s, .s, .s], (.o 0 (.v 0)), [(.arr 169 4 (.v 0) false true)], [.s], false⟩
def H_spec_l3Walk : Hint := ⟨[0, 1, 2, 3, 4, 10, 11, 12, 13, 14, 15, 20, 29, 39, 45, 80], 0, [], [(2, ⟨[11, 4, 2], [], [], [], []⟩)], false, [], []⟩
def E_spec_l3Walk : Entry := ⟨S_spec_l3Walk, .r H_spec_l3Walk R_spec_l3Walk⟩
def S_spec_RowsOf : Sig := .x ⟨[(.d (.s (.v 0)))], [], [.s], (.o 0 (.v 0)), [(.arr 169 4 (.v 0) false true)], [.s], false⟩
def H_spec_RowsOf : Hint := ⟨[0, 2, 5], 0, [], [], false, [], []⟩
def E_spec_RowsOf : Entry := ⟨S_spec_RowsOf, .r H_spec_RowsOf R_spec_RowsOf⟩
def S_spec_l4Reads : Sig := .x ⟨[(.d (.s (.v 0))), (.d (.s (.v 1)))], [], [.s, .s], (.o 0 (.v 0)), [(.arr 4 1 (.v 0) false true)], [.s], false⟩
def H_spec_l4Reads : Hint := ⟨[0, 1, 4, 5, 6, 7, 14, 18, 29], 0, [], [(3, ⟨[6], [], [128], [], []⟩), (6, ⟨[7], [], [128], [], []⟩)], false, [], []⟩
def E_spec_l4Reads : Entry := ⟨S_spec_l4Reads, .r H_spec_l4Reads R_spec_l4Reads⟩
def S_spec_CatPart : Sig := .x ⟨[(.g [(.d (.s (.v 0))), (.d (.s (.v 1))), (.d (.vi .i64 (.v 2)))])], [], [.s, .s, .i .i64], (.o 0 (.v 0)), [(.arr 3 1 (.v 0) false true)], [.s], false⟩
def H_spec_CatPart : Hint := ⟨[0, 1, 2, 3, 4, 5, 11, 23, 33], 0, [], [(4, ⟨[5, 4], [], [96], [], []⟩)], false, [], []⟩
def E_spec_CatPart : Entry := ⟨S_spec_CatPart, .r H_spec_CatPart R_spec_CatPart⟩
def S_spec_l4Same : Sig := .d ⟨[(.one (.s)), (.one (.s))], (.one (.one (.b))), true⟩
def H_spec_l4Same : Hint := ⟨[0, 1, 4, 5, 10, 14, 25], 0, [], [(4, ⟨[5], [], [], [], []⟩)], false, [], []⟩
def E_spec_l4Same : Entry := ⟨S_spec_l4Same, .r H_spec_l4Same R_spec_l4Same⟩
def S_spec_CatHas : Sig := .d ⟨[(.one (.s)), (.one (.s))], (.one (.one (.i .i64))), true⟩
def H_spec_CatHas : Hint := ⟨[0, 1, 4, 5, 9, 17], 0, [], [(2, ⟨[5], [], [], [], []⟩)], false, [], []⟩
def E_spec_CatHas : Entry := ⟨S_spec_CatHas, .r H_spec_CatHas R_spec_CatHas⟩
def S_spec_l4Both : Sig := .x ⟨[(.d (.s (.v 0)))], [], [.s], (.t [(.o 0 (.v 0)), (.o 1 (.v 1))]), [(.arr 23 1 (.v 0) false true), (.arr 4 1 (.v 1) false true)], [.s, .s], false⟩
def H_spec_l4Both : Hint := ⟨[0, 2, 3, 4, 5, 6, 7, 8, 9, 10, 11, 15, 27, 38, 61, 83], 0, [], [(8, ⟨[7], [], [192, 208], [], []⟩), (12, ⟨[9], [], [192, 208], [], []⟩), (16, ⟨[10], [], [192], [], []⟩), (4, ⟨[6], [], [192], [], []⟩)], false, [], []⟩
def E_spec_l4Both : Entry := ⟨S_spec_l4Both, .r H_spec_l4Both R_spec_l4Both⟩
def S_spec_l8Treaty : Sig := .d ⟨[(.g [.i .i64, .s, .s, .s]), (.g [.b, .b, .i .i64, .s, .s, .s])], (.one (.g [.s, .s])), false⟩
def H_spec_l8Treaty : Hint := ⟨[0, 1, 2, 3, 4], 0, [], [], false, [], []⟩
def E_spec_l8Treaty : Entry := ⟨S_spec_l8Treaty, .r H_spec_l8Treaty R_spec_l8Treaty⟩
def S_spec_l5Parts : Sig := .d ⟨[(.one (.s))], (.one (.one (.b))), true⟩
def H_spec_l5Parts : Hint := ⟨[0, 2, 3, 7, 15], 0, [], [(2, ⟨[3], [], [], [], []⟩)], false, [], []⟩
def E_spec_l5Parts : Entry := ⟨S_spec_l5Parts, .r H_spec_l5Parts R_spec_l5Parts⟩
def S_spec_l5Times : Sig := .d ⟨[(.one (.s)), (.one (.s))], (.one (.one (.i .i64))), true⟩
def H_spec_l5Times : Hint := ⟨[0, 1, 4, 5, 6, 8], 0, [], [(3, ⟨[6, 5], [], [], [], []⟩)], false, [], []⟩
def E_spec_l5Times : Entry := ⟨S_spec_l5Times, .r H_spec_l5Times R_spec_l5Times⟩
def S_spec_TrtKeeps : Sig := .d ⟨[(.g [.s, .s]), (.one (.s)), (.one (.i .i64)), (.one (.s))], (.one (.one (.b))), true⟩
def H_spec_TrtKeeps : Hint := ⟨[0, 1, 2, 3, 4, 8, 9, 31, 35, 56], 0, [], [(4, ⟨[9], [], [], [], []⟩)], false, [], []⟩
def E_spec_TrtKeeps : Entry := ⟨S_spec_TrtKeeps, .r H_spec_TrtKeeps R_spec_TrtKeeps⟩
def S_spec_l5Still : Sig := .d ⟨[(.one (.s)), (.one (.s))], (.one (.one (.b))), true⟩
def H_spec_l5Still : Hint := ⟨[0, 1, 4, 5, 7, 20], 0, [], [(2, ⟨[5], [], [], [], []⟩)], false, [], []⟩
def E_spec_l5Still : Entry := ⟨S_spec_l5Still, .r H_spec_l5Still R_spec_l5Still⟩
def S_spec_l1Digits : Sig := .d ⟨[(.one (.i .i64))], (.one (.one (.d))), false⟩
def E_spec_l1Digits : Entry := ⟨S_spec_l1Digits, .m digitsF⟩
def S_spec_ResText : Sig := .d ⟨[(.g [.i .i64, .s])], (.one (.one (.d))), false⟩
def H_spec_ResText : Hint := ⟨[0, 1, 2, 3, 4, 5, 36, 46], 0, [], [(6, ⟨[5, 4], [], [], [], []⟩)], false, [], []⟩
def E_spec_ResText : Entry := ⟨S_spec_ResText, .r H_spec_ResText R_spec_ResText⟩
def S_spec_ResOk : Sig := .d ⟨[(.g [.i .i64, .s])], (.one (.one (.b))), true⟩
def H_spec_ResOk : Hint := ⟨[0, 1, 2], 0, [], [], false, [], []⟩
def E_spec_ResOk : Entry := ⟨S_spec_ResOk, .r H_spec_ResOk R_spec_ResOk⟩
def S_spec_l6Done : Sig := .d ⟨[(.g [.i .i64, .s, .s, .s]), (.one (.s))], (.one (.one (.b))), true⟩
def H_spec_l6Done : Hint := ⟨[0, 1, 2, 4, 5, 10, 14, 74], 0, [], [(4, ⟨[5], [], [], [], []⟩)], false, [], []⟩
def E_spec_l6Done : Entry := ⟨S_spec_l6Done, .r H_spec_l6Done R_spec_l6Done⟩
def S_spec_l8Ok : Sig := .d ⟨[(.g [.i .i64, .s, .s, .s]), (.one (.s)), (.one (.s)), (.g [.b, .b, .i .i64, .s, .s, .s]), (.one (.i .i64))], (.one (.one (.b))), true⟩
def H_spec_l8Ok : Hint := ⟨[0, 1, 2, 3, 4, 5, 8, 10], 0, [], [], false, [], []⟩
def E_spec_l8Ok : Entry := ⟨S_spec_l8Ok, .r H_spec_l8Ok R_spec_l8Ok⟩
def S_spec_SitOk : Sig := .d ⟨[(.g [.i .i64, .s, .s, .s]), (.g [.b, .b, .i .i64, .s, .s, .s]), (.one (.i .i64))], (.one (.one (.b))), true⟩
def H_spec_SitOk : Hint := ⟨[0, 1, 2, 3, 4, 6, 7, 8, 20], 0, [], [], false, [], []⟩
def E_spec_SitOk : Entry := ⟨S_spec_SitOk, .r H_spec_SitOk R_spec_SitOk⟩
def S_impl_in : Sig := .d ⟨[(.one (.i .i64)), (.one (.i .i64)), (.one (.i .i64))], (.one (.one (.b))), true⟩
def H_impl_in : Hint := ⟨[0, 1, 2, 6], 0, [], [], false, [], []⟩
def E_impl_in : Entry := ⟨S_impl_in, .r H_impl_in R_impl_in⟩
def S_slices_IndexFunc_SSimpl_ActLine_Simpl_ActLine : Sig := .d ⟨[(.one (.s)), (.one (.d))], (.one (.one (.i .i64))), true⟩
def H_slices_IndexFunc_SSimpl_ActLine_Simpl_ActLine : Hint := ⟨[0, 1, 4, 5, 7, 8, 9, 16], 0, [], [(2, ⟨[8], [], [], [], []⟩)], false, [], []⟩
def E_slices_IndexFunc_SSimpl_ActLine_Simpl_ActLine : Entry := ⟨S_slices_IndexFunc_SSimpl_ActLine_Simpl_ActLine, .r H_slices_IndexFunc_SSimpl_ActLine_Simpl_ActLine R_slices_IndexFunc_SSimpl_ActLine_Simpl_ActLine⟩
def S_slices_ContainsFunc_SSimpl_ActLine_Simpl_ActLine : Sig := .d ⟨[(.one (.s)), (.one (.d))], (.one (.one (.b))), true⟩
def H_slices_ContainsFunc_SSimpl_ActLine_Simpl_ActLine : Hint := ⟨[0, 1, 4], 0, [], [], false, [], []⟩
def E_slices_ContainsFunc_SSimpl_ActLine_Simpl_ActLine : Entry := ⟨S_slices_ContainsFunc_SSimpl_ActLine_Simpl_ActLine, .r H_slices_ContainsFunc_SSimpl_ActLine_Simpl_ActLine R_slices_ContainsFunc_SSimpl_ActLine_Simpl_ActLine⟩
def S_impl_within_1 : Sig := .d ⟨[(.one (.i .i64)), (.one (.d))], (.one (.one (.b))), true⟩
def H_impl_within_1 : Hint := ⟨[0, 1, 3], 0, [], [], false, [], []⟩
def E_impl_within_1 : Entry := ⟨S_impl_within_1, .r H_impl_within_1 R_impl_within_1⟩
def S_slices_IndexFunc_Sint_int : Sig := .d ⟨[(.one (.s)), (.one (.d))], (.one (.one (.i .i64))), true⟩
def H_slices_IndexFunc_Sint_int : Hint := ⟨[0, 1, 4, 5, 7, 8, 9, 16], 0, [], [(2, ⟨[8], [], [], [], []⟩)], false, [], []⟩
def E_slices_IndexFunc_Sint_int : Entry := ⟨S_slices_IndexFunc_Sint_int, .r H_slices_IndexFunc_Sint_int R_slices_IndexFunc_Sint_int⟩
def S_slices_ContainsFunc_Sint_int : Sig := .d ⟨[(.one (.s)), (.one (.d))], (.one (.one (.b))), true⟩
def H_slices_ContainsFunc_Sint_int : Hint := ⟨[0, 1, 4], 0, [], [], false, [], []⟩
def E_slices_ContainsFunc_Sint_int : Entry := ⟨S_slices_ContainsFunc_Sint_int, .r H_slices_ContainsFunc_Sint_int R_slices_ContainsFunc_Sint_int⟩
def S_impl_within : Sig := .d ⟨[(.one (.s)), (.one (.i .i64)), (.one (.i .i64))], (.one (.one (.b))), true⟩
def H_impl_within : Hint := ⟨[0, 1, 2, 5, 6], 0, [], [], false, [], []⟩
def E_impl_within : Entry := ⟨S_impl_within, .r H_impl_within R_impl_within⟩
def S_impl_FrmForm_small : Sig := .d ⟨[(.g [.s, .s, .i .i64])], (.one (.one (.b))), true⟩
def H_impl_FrmForm_small : Hint := ⟨[0, 1, 2], 0, [], [], false, [], []⟩
def E_impl_FrmForm_small : Entry := ⟨S_impl_FrmForm_small, .r H_impl_FrmForm_small R_impl_FrmForm_small⟩
def S_slices_Equal_Sint_int : Sig := .d ⟨[(.one (.s)), (.one (.s))], (.one (.one (.b))), true⟩
def H_slices_Equal_Sint_int : Hint := ⟨[0, 1, 4, 5, 10, 12, 13, 14, 24], 0, [], [(4, ⟨[13], [], [], [], []⟩)], false, [], []⟩
def E_slices_Equal_Sint_int : Entry := ⟨S_slices_Equal_Sint_int, .r H_slices_Equal_Sint_int R_slices_Equal_Sint_int⟩
def S_impl_FrmForm_same : Sig := .d ⟨[(.g [.s, .s, .i .i64]), (.g [.s, .s, .i .i64])], (.one (.one (.b))), true⟩
def H_impl_FrmForm_same : Hint := ⟨[0, 1, 2, 3, 4], 0, [], [], false, [], []⟩
def E_impl_FrmForm_same : Entry := ⟨S_impl_FrmForm_same, .r H_impl_FrmForm_same R_impl_FrmForm_same⟩
def S_impl_ActLine_ok : Sig := .d ⟨[(.g [.i .i64, .i .i64, .i .i64, .s, .s, .i .i64])], (.one (.one (.b))), true⟩
def H_impl_ActLine_ok : Hint := ⟨[0, 1, 2, 4, 5, 20, 35, 50], 0, [], [], false, [], []⟩
def E_impl_ActLine_ok : Entry := ⟨S_impl_ActLine_ok, .r H_impl_ActLine_ok R_impl_ActLine_ok⟩
def S_impl_ActOk : Sig := .d ⟨[(.one (.s))], (.one (.one (.b))), true⟩
def H_impl_ActOk : Hint := ⟨[0, 2, 3, 5, 6, 7, 8, 9, 14, 17], 0, [], [(3, ⟨[8, 3], [], [], [], []⟩)], false, [], []⟩
def E_impl_ActOk : Entry := ⟨S_impl_ActOk, .r H_impl_ActOk R_impl_ActOk⟩
def S_impl_CatOk_1 : Sig := .d ⟨[(.one (.s))], (.one (.one (.b))), true⟩
def H_impl_CatOk_1 : Hint := ⟨[0, 2], 0, [], [], false, [], []⟩
def E_impl_CatOk_1 : Entry := ⟨S_impl_CatOk_1, .r H_impl_CatOk_1 R_impl_CatOk_1⟩
def S_impl_CatOk : Sig := .d ⟨[(.one (.s))], (.one (.one (.b))), true⟩
def H_impl_CatOk : Hint := ⟨[0, 2], 0, [], [], false, [], []⟩
def E_impl_CatOk : Entry := ⟨S_impl_CatOk, .r H_impl_CatOk R_impl_CatOk⟩
def S_impl_PlnPlan_treaty : Sig := .d ⟨[(.g [.i .i64, .s, .s, .s]), (.one (.s))], (.one (.g [.s, .s])), false⟩
def H_impl_PlnPlan_treaty : Hint := ⟨[0, 1, 2, 4], 0, [], [], false, [], []⟩
def E_impl_PlnPlan_treaty : Entry := ⟨S_impl_PlnPlan_treaty, .r H_impl_PlnPlan_treaty R_impl_PlnPlan_treaty⟩
def S_impl_TrtOk_1 : Sig := .d ⟨[(.one (.i .i64))], (.one (.one (.b))), true⟩
def H_impl_TrtOk_1 : Hint := ⟨[0, 2], 0, [], [], false, [], []⟩
def E_impl_TrtOk_1 : Entry := ⟨S_impl_TrtOk_1, .r H_impl_TrtOk_1 R_impl_TrtOk_1⟩
def S_impl_ValOk : Sig := .d ⟨[(.one (.s))], (.one (.one (.b))), true⟩
def H_impl_ValOk : Hint := ⟨[0, 2], 0, [], [], false, [], []⟩
def E_impl_ValOk : Entry := ⟨S_impl_ValOk, .r H_impl_ValOk R_impl_ValOk⟩
def S_impl_TrtOk : Sig := .d ⟨[(.g [.s, .s])], (.one (.one (.b))), true⟩
def H_impl_TrtOk : Hint := ⟨[0, 1, 2, 3], 0, [], [], false, [], []⟩
def E_impl_TrtOk : Entry := ⟨S_impl_TrtOk, .r H_impl_TrtOk R_impl_TrtOk⟩
def S_impl_PlnOk : Sig := .d ⟨[(.g [.i .i64, .s, .s, .s])], (.one (.one (.b))), true⟩
def H_impl_PlnOk : Hint := ⟨[0, 1, 2], 0, [], [], false, [], []⟩
def E_impl_PlnOk : Entry := ⟨S_impl_PlnOk, .r H_impl_PlnOk R_impl_PlnOk⟩
def S_impl_FrmZero : Sig := .x ⟨[], [], [], (.g [(.o 0 (.v 0)), (.o 1 (.v 1)), (.d (.vi .i64 (.v 2)))]), [(.arr 3 1 (.v 0) false true), (.arr 3 1 (.v 1) false true)], [.s, .s, .i .i64], false⟩
def H_impl_FrmZero : Hint := ⟨[0], 0, [], [], false, [], []⟩
def E_impl_FrmZero : Entry := ⟨S_impl_FrmZero, .r H_impl_FrmZero R_impl_FrmZero⟩
def S_impl_FrmPot : Sig := .x ⟨[(.d (.vi .i64 (.v 0)))], [], [.i .i64], (.g [(.o 0 (.v 0)), (.o 1 (.v 1)), (.d (.vi .i64 (.v 2)))]), [(.arr 3 1 (.v 0) false true), (.arr 3 1 (.v 1) false true)], [.s, .s, .i .i64], false⟩
def H_impl_FrmPot : Hint := ⟨[0, 2, 3, 6], 0, [(999999, ⟨(.cell 32 0), 900000, 3, 1, false, false⟩), (999999, ⟨(.cell 32 1), 900001, 3, 1, false, false⟩)], [], false, [], []⟩
def E_impl_FrmPot : Entry := ⟨S_impl_FrmPot, .r H_impl_FrmPot R_impl_FrmPot⟩
def S_slices_Clone_Sint_int : Sig := .x ⟨[(.d (.s (.v 0)))], [], [.s], (.o 0 (.v 0)), [(.arr 3 1 (.v 0) false true)], [.s], false⟩
def H_slices_Clone_Sint_int : Hint := ⟨[0, 2, 4], 0, [(999999, ⟨(.slot 2), 900000, 3, 1, false, false⟩)], [], false, [], []⟩
def E_slices_Clone_Sint_int : Entry := ⟨S_slices_Clone_Sint_int, .r H_slices_Clone_Sint_int R_slices_Clone_Sint_int⟩
def S_impl_FrmForm_copied : Sig := .x ⟨[(.g [(.d (.s (.v 0))), (.d (.s (.v 1))), (.d (.vi .i64 (.v 2)))])], [], [.s, .s, .i .i64], (.g [(.o 0 (.v 0)), (.o 1 (.v 1)), (.d (.vi .i64 (.v 2)))]), [(.arr 3 1 (.v 0) false true), (.arr 3 1 (.v 1) false true)], [.s, .s, .i .i64], false⟩
def H_impl_FrmForm_copied : Hint := ⟨[0, 1, 2], 0, [], [], false, [], []⟩
def E_impl_FrmForm_copied : Entry := ⟨S_impl_FrmForm_copied, .r H_impl_FrmForm_copied R_impl_FrmForm_copied⟩
def S_impl_forms : Sig := .x ⟨[(.d (.s (.v 0)))], [], [.s], (.o 0 (.v 0)), [(.arr 139 3 (.v 0) true true)], [.s], false⟩
def H_impl_forms : Hint := ⟨[0, 2, 3, 5, 6, 7, 8, 9], 0, [(3, ⟨(.slot 3), 63, 139, 3, true, false⟩)], [(3, ⟨[8], [], [63], [], []⟩)], true, [], []⟩
def E_impl_forms : Entry := ⟨S_impl_forms, .r H_impl_forms R_impl_forms⟩
def S_impl_FrmOk : Sig := .d ⟨[(.g [.s, .s, .i .i64])], (.one (.one (.b))), true⟩
def H_impl_FrmOk : Hint := ⟨[0, 1, 2], 0, [], [], false, [], []⟩
def E_impl_FrmOk : Entry := ⟨S_impl_FrmOk, .r H_impl_FrmOk R_impl_FrmOk⟩
def S_slices_IndexFunc_Simpl_FrmForm_impl_FrmForm : Sig := .d ⟨[(.one (.s)), (.one (.d))], (.one (.one (.i .i64))), true⟩
def H_slices_IndexFunc_Simpl_FrmForm_impl_FrmForm : Hint := ⟨[0, 1, 4, 5, 7, 8, 9, 16], 0, [], [(2, ⟨[8], [], [], [], []⟩)], false, [], []⟩
def E_slices_IndexFunc_Simpl_FrmForm_impl_FrmForm : Entry := ⟨S_slices_IndexFunc_Simpl_FrmForm_impl_FrmForm, .r H_slices_IndexFunc_Simpl_FrmForm_impl_FrmForm R_slices_IndexFunc_Simpl_FrmForm_impl_FrmForm⟩
def S_slices_ContainsFunc_Simpl_FrmForm_impl_FrmForm : Sig := .d ⟨[(.one (.s)), (.one (.d))], (.one (.one (.b))), true⟩
def H_slices_ContainsFunc_Simpl_FrmForm_impl_FrmForm : Hint := ⟨[0, 1, 4], 0, [], [], false, [], []⟩
def E_slices_ContainsFunc_Simpl_FrmForm_impl_FrmForm : Entry := ⟨S_slices_ContainsFunc_Simpl_FrmForm_impl_FrmForm, .r H_slices_ContainsFunc_Simpl_FrmForm_impl_FrmForm R_slices_ContainsFunc_Simpl_FrmForm_impl_FrmForm⟩
def S_impl_FrmInto_1 : Sig := .d ⟨[(.g [.s, .s, .i .i64])], (.one (.one (.b))), true⟩
def H_impl_FrmInto_1 : Hint := ⟨[0, 1, 2], 0, [], [], false, [], []⟩
def E_impl_FrmInto_1 : Entry := ⟨S_impl_FrmInto_1, .r H_impl_FrmInto_1 R_impl_FrmInto_1⟩
def S_impl_FrmForm_add : Sig := .x ⟨[(.p 0 0), (.g [(.d (.s (.v 3))), (.d (.s (.v 4))), (.d (.vi .i64 (.v 5)))]), (.d (.vi .i64 (.v 6)))], [(.box [(.o 1 (.v 0)), (.o 2 (.v 1)), (.d (.vi .i64 (.v 2)))]), (.arr 3 1 (.v 0) false true), (.arr 3 1 (.v 1) false true)], [.s, .s, .i .i64, .s, .s, .i .i64, .i .i64], (.t []), [(.box [(.o 1 (.v 1)), (.o 2 (.v 2)), (.d (.vi .i64 (.v 0)))]), (.arr 3 1 (.v 1) false true), (.arr 3 1 (.v 2) false true)], [.i .i64, .s, .s], false⟩
def H_impl_FrmForm_add : Hint := ⟨[0, 1, 2, 4, 6, 7, 8, 9, 11, 12, 13, 14, 32, 33, 34, 35], 3, [], [(7, ⟨[34], [], [2], [], []⟩), (2, ⟨[13], [], [1], [], []⟩)], false, [], []⟩
def E_impl_FrmForm_add : Entry := ⟨S_impl_FrmForm_add, .r H_impl_FrmForm_add R_impl_FrmForm_add⟩
def S_impl_checked : Sig := .x ⟨[(.g [(.o 0 (.v 0)), (.o 1 (.v 1)), (.d (.vi .i64 (.v 2)))])], [(.arr 3 1 (.v 0) false true), (.arr 3 1 (.v 1) false true)], [.s, .s, .i .i64], (.g [(.o 2 (.v 0)), (.o 3 (.v 1)), (.d (.vi .i64 (.v 2)))]), [.dead, .dead, (.arr 3 1 (.v 0) false true), (.arr 3 1 (.v 1) false true)], [.s, .s, .i .i64], false⟩
def H_impl_checked : Hint := ⟨[0, 1, 2, 5], 2, [(999999, ⟨(.cell 32 0), 900000, 3, 1, false, true⟩), (999999, ⟨(.cell 32 1), 900001, 3, 1, false, true⟩), (999999, ⟨(.kill 0), 910000, 0, 0, false, false⟩), (999999, ⟨(.kill 1), 910001, 0, 0, false, false⟩)], [], false, [], []⟩
def E_impl_checked : Entry := ⟨S_impl_checked, .r H_impl_checked R_impl_checked⟩
def S_impl_FrmInto : Sig := .x ⟨[(.g [(.d (.s (.v 0))), (.d (.s (.v 1))), (.d (.vi .i64 (.v 2)))]), (.d (.s (.v 3)))], [], [.s, .s, .i .i64, .s], (.g [(.o 0 (.v 0)), (.o 1 (.v 1)), (.d (.vi .i64 (.v 2)))]), [(.arr 3 1 (.v 0) false true), (.arr 3 1 (.v 1) false true)], [.s, .s, .i .i64], false⟩
def H_impl_FrmInto : Hint := ⟨[0, 1, 2, 4, 5, 6, 7, 19, 22, 23, 24, 25], 0, [(999999, ⟨(.cell 64 0), 900000, 3, 1, false, false⟩), (999999, ⟨(.cell 64 1), 900001, 3, 1, false, false⟩)], [(5, ⟨[24], [(80, 2)], [336, 337], [], []⟩)], false, [], []⟩
def E_impl_FrmInto : Entry := ⟨S_impl_FrmInto, .r H_impl_FrmInto R_impl_FrmInto⟩
def S_impl_FrmTimes : Sig := .x ⟨[(.g [(.d (.s (.v 0))), (.d (.s (.v 1))), (.d (.vi .i64 (.v 2)))]), (.d (.vi .i64 (.v 3)))], [], [.s, .s, .i .i64, .i .i64], (.g [(.o 0 (.v 0)), (.o 1 (.v 1)), (.d (.vi .i64 (.v 2)))]), [(.arr 3 1 (.v 0) false true), (.arr 3 1 (.v 1) false true)], [.s, .s, .i .i64], false⟩
def H_impl_FrmTimes : Hint := ⟨[0, 1, 2, 4, 5, 13], 0, [(999999, ⟨(.cell 64 0), 900000, 3, 1, false, false⟩), (999999, ⟨(.cell 64 1), 900001, 3, 1, false, false⟩)], [], false, [], []⟩
def E_impl_FrmTimes : Entry := ⟨S_impl_FrmTimes, .r H_impl_FrmTimes R_impl_FrmTimes⟩
def S_impl_FrmAdd : Sig := .x ⟨[(.g [(.d (.s (.v 0))), (.d (.s (.v 1))), (.d (.vi .i64 (.v 2)))]), (.g [(.d (.s (.v 3))), (.d (.s (.v 4))), (.d (.vi .i64 (.v 5)))])], [], [.s, .s, .i .i64, .s, .s, .i .i64], (.g [(.o 0 (.v 0)), (.o 1 (.v 1)), (.d (.vi .i64 (.v 2)))]), [(.arr 3 1 (.v 0) false true), (.arr 3 1 (.v 1) false true)], [.s, .s, .i .i64], false⟩
def H_impl_FrmAdd : Hint := ⟨[0, 1, 2, 3, 4, 5, 13], 0, [(999999, ⟨(.cell 64 0), 900000, 3, 1, false, false⟩), (999999, ⟨(.cell 64 1), 900001, 3, 1, false, false⟩)], [], false, [], []⟩
def E_impl_FrmAdd : Entry := ⟨S_impl_FrmAdd, .r H_impl_FrmAdd R_impl_FrmAdd⟩
def S_impl_walker_walk : Sig := .x ⟨[(.p 0 0), (.d (.vi .i64 (.v 2))), (.d (.s (.v 3))), (.d (.s (.v 4))), (.d (.s (.v 5)))], [(.box [(.d (.s (.v 0))), (.o 1 (.v 1))]), (.arr 169 4 (.v 1) true true)], [.s, .s, .i .i64, .s, .s, .s], (.t []), [(.box [(.d (.s (.v 0))), (.o 1 (.v 1))]), (.arr 169 4 (.v 1) true true)], [.s, .s], false⟩
def H_impl_walker_walk : Hint := ⟨[0, 1, 2, 3, 4, 10, 11, 12, 13, 14, 15, 22, 34, 52, 53, 83, 98, 110, 111, 112, 113], 2, [(20, ⟨(.cell 208 1), 217, 139, 3, true, false⟩)], [(20, ⟨[112], [], [217], [], []⟩), (0, ⟨[1, 4, 3, 2], [(0, 0)], [1], [], []⟩)], true, [50, 59, 61, 62, 64, 66, 67, 69, 75, 77, 78, 86, 96, 101, 103, 104, 121, 122, 123], []⟩
def E_impl_walker_walk : Entry := ⟨S_impl_walker_walk, .r H_impl_walker_walk R_impl_walker_walk⟩
def S_impl_RowsOf : Sig := .x ⟨[(.d (.s (.v 0)))], [], [.s], (.o 0 (.v 0)), [(.arr 169 4 (.v 0) true true)], [.s], false⟩
def H_impl_RowsOf : Hint := ⟨[0, 2, 3, 4, 5, 8, 12, 13], 0, [(10, ⟨(.cell 176 1), 185, 169, 4, true, false⟩), (6, ⟨(.slot 4), 79, 139, 3, true, false⟩), (999999, ⟨(.slot 2), 900000, 169, 4, true, false⟩)], [(6, ⟨[12], [], [79], [], []⟩)], true, [], []⟩
def E_impl_RowsOf : Entry := ⟨S_impl_RowsOf, .r H_impl_RowsOf R_impl_RowsOf⟩
def S_impl_CatPart_1 : Sig := .d ⟨[(.one (.i .i64))], (.one (.one (.b))), true⟩
def H_impl_CatPart_1 : Hint := ⟨[0, 2], 0, [], [], false, [], []⟩
def E_impl_CatPart_1 : Entry := ⟨S_impl_CatPart_1, .r H_impl_CatPart_1 R_impl_CatPart_1⟩
def S_impl_CatPart : Sig := .x ⟨[(.g [(.d (.s (.v 0))), (.d (.s (.v 1))), (.d (.vi .i64 (.v 2)))])], [], [.s, .s, .i .i64], (.o 0 (.v 0)), [(.arr 3 1 (.v 0) false true)], [.s], false⟩
def H_impl_CatPart : Hint := ⟨[0, 1, 2, 3, 4, 5, 19, 21, 22, 23], 0, [], [(5, ⟨[22], [], [128], [], []⟩)], false, [], []⟩
def E_impl_CatPart : Entry := ⟨S_impl_CatPart, .r H_impl_CatPart R_impl_CatPart⟩
def S_impl_zeros_1 : Sig := .d ⟨[(.one (.i .i64))], (.one (.one (.b))), true⟩
def H_impl_zeros_1 : Hint := ⟨[0, 2], 0, [], [], false, [], []⟩
def E_impl_zeros_1 : Entry := ⟨S_impl_zeros_1, .r H_impl_zeros_1 R_impl_zeros_1⟩
def S_impl_zeros : Sig := .d ⟨[(.one (.s))], (.one (.one (.b))), true⟩
def H_impl_zeros : Hint := ⟨[0, 2], 0, [], [], false, [], []⟩
def E_impl_zeros : Entry := ⟨S_impl_zeros, .r H_impl_zeros R_impl_zeros⟩
def S_impl_CatHas_1 : Sig := .d ⟨[(.one (.s)), (.one (.d))], (.one (.one (.b))), true⟩
def H_impl_CatHas_1 : Hint := ⟨[0, 1, 3], 0, [], [], false, [], []⟩
def E_impl_CatHas_1 : Entry := ⟨S_impl_CatHas_1, .r H_impl_CatHas_1 R_impl_CatHas_1⟩
def S_slices_IndexFunc_SSint_Sint : Sig := .d ⟨[(.one (.s)), (.one (.d))], (.one (.one (.i .i64))), true⟩
def H_slices_IndexFunc_SSint_Sint : Hint := ⟨[0, 1, 4, 5, 7, 8, 9, 16], 0, [], [(2, ⟨[8], [], [], [], []⟩)], false, [], []⟩
def E_slices_IndexFunc_SSint_Sint : Entry := ⟨S_slices_IndexFunc_SSint_Sint, .r H_slices_IndexFunc_SSint_Sint R_slices_IndexFunc_SSint_Sint⟩
def S_impl_CatHas : Sig := .d ⟨[(.one (.s)), (.one (.s))], (.one (.one (.i .i64))), true⟩
def H_impl_CatHas : Hint := ⟨[0, 1, 3, 4], 0, [], [], false, [], []⟩
def E_impl_CatHas : Entry := ⟨S_impl_CatHas, .r H_impl_CatHas R_impl_CatHas⟩
def S_impl_CatForms : Sig := .x ⟨[(.d (.s (.v 0)))], [], [.s], (.o 0 (.v 0)), [(.arr 23 1 (.v 0) true true)], [.s], false⟩
def H_impl_CatForms : Hint := ⟨[0, 2, 3, 4, 6, 8, 10, 11, 14, 15, 16, 25, 26, 27, 28, 32, 33, 34, 35, 39, 40, 41, 42, 55], 0, [(5, ⟨(.slot 3), 63, 23, 1, true, false⟩), (999999, ⟨(.slot 2), 900000, 23, 1, true, false⟩)], [(10, ⟨[27], [], [63], [], []⟩), (13, ⟨[34], [], [63], [], []⟩), (16, ⟨[41], [], [63], [], []⟩), (5, ⟨[15], [], [63], [], []⟩)], true, [32], []⟩
def E_impl_CatForms : Entry := ⟨S_impl_CatForms, .r H_impl_CatForms R_impl_CatForms⟩
def S_impl_pots : Sig := .x ⟨[(.d (.s (.v 0))), (.d (.da 1))], [], [.s, .d], (.o 0 (.v 0)), [(.arr 4 1 (.v 0) false true)], [.s], false⟩
def H_impl_pots : Hint := ⟨[0, 1, 4, 5, 7, 9, 10, 12, 13, 14, 15, 19, 20, 21, 22, 26, 27, 28], 0, [], [(3, ⟨[14], [], [176], [], []⟩), (6, ⟨[21], [], [176], [], []⟩), (9, ⟨[27], [], [176], [], []⟩)], false, [], []⟩
def E_impl_pots : Entry := ⟨S_impl_pots, .r H_impl_pots R_impl_pots⟩
def S_slices_Grow_Simpl_FrmForm_impl_FrmForm : Sig := .x ⟨[(.d (.vc (.slice none 0 0))), (.d (.vi .i64 (.v 0)))], [], [.i .i64], (.o 0 (.v 0)), [(.arr 139 3 (.v 0) false true)], [.s], false⟩
def H_slices_Grow_Simpl_FrmForm_impl_FrmForm : Hint := ⟨[0, 1, 4, 6, 16], 0, [(999999, ⟨(.slot 4), 900000, 139, 3, false, false⟩)], [], false, [], []⟩
def E_slices_Grow_Simpl_FrmForm_impl_FrmForm : Entry := ⟨S_slices_Grow_Simpl_FrmForm_impl_FrmForm, .r H_slices_Grow_Simpl_FrmForm_impl_FrmForm R_slices_Grow_Simpl_FrmForm_impl_FrmForm⟩
def S_slices_Concat_Simpl_FrmForm_impl_FrmForm : Sig := .x ⟨[(.d (.s (.v 0)))], [], [.s], (.o 0 (.v 0)), [(.arr 139 3 (.v 0) false true)], [.s], false⟩
def H_slices_Concat_Simpl_FrmForm_impl_FrmForm : Hint := ⟨[0, 2, 3, 5, 6, 8, 9, 10, 11, 12, 20, 25, 26, 27, 28], 0, [], [(11, ⟨[27], [], [384], [], []⟩), (3, ⟨[11, 3], [], [], [], []⟩)], false, [], []⟩
def E_slices_Concat_Simpl_FrmForm_impl_FrmForm : Entry := ⟨S_slices_Concat_Simpl_FrmForm_impl_FrmForm, .r H_slices_Concat_Simpl_FrmForm_impl_FrmForm R_slices_Concat_Simpl_FrmForm_impl_FrmForm⟩
def S_impl_RowRow_reads_1 : Sig := .d ⟨[(.g [.s, .s, .i .i64]), (.one (.d))], (.one (.one (.b))), true⟩
def H_impl_RowRow_reads_1 : Hint := ⟨[0, 1, 2, 3], 0, [], [], false, [], []⟩
def E_impl_RowRow_reads_1 : Entry := ⟨S_impl_RowRow_reads_1, .r H_impl_RowRow_reads_1 R_impl_RowRow_reads_1⟩
def S_impl_RowRow_reads : Sig := .d ⟨[(.g [.s, .s, .s, .b]), (.one (.i .i64))], (.one (.one (.b))), true⟩
def H_impl_RowRow_reads : Hint := ⟨[0, 1, 2, 3, 4], 0, [], [], false, [], []⟩
def E_impl_RowRow_reads : Entry := ⟨S_impl_RowRow_reads, .r H_impl_RowRow_reads R_impl_RowRow_reads⟩
def S_impl_CatPins : Sig := .x ⟨[(.d (.s (.v 0)))], [], [.s], (.o 0 (.v 0)), [(.arr 4 1 (.v 0) false true)], [.s], false⟩
def H_impl_CatPins : Hint := ⟨[0, 2, 5], 0, [(999999, ⟨(.slot 2), 900000, 4, 1, false, false⟩)], [], false, [], []⟩
def E_impl_CatPins : Entry := ⟨S_impl_CatPins, .r H_impl_CatPins R_impl_CatPins⟩
def S_impl_rulesOf : Sig := .x ⟨[(.d (.s (.v 0)))], [], [.s], (.g [(.d (.s (.v 0))), (.o 0 (.v 1)), (.o 1 (.v 2))]), [(.arr 23 1 (.v 1) false true), (.arr 4 1 (.v 2) false true)], [.s, .s, .s], false⟩
def H_impl_rulesOf : Hint := ⟨[0, 2], 0, [], [], false, [], []⟩
def E_impl_rulesOf : Entry := ⟨S_impl_rulesOf, .r H_impl_rulesOf R_impl_rulesOf⟩
def S_impl_PlnPlan_isSite : Sig := .d ⟨[(.g [.i .i64, .s, .s, .s]), (.one (.i .i64))], (.one (.one (.b))), true⟩
def H_impl_PlnPlan_isSite : Hint := ⟨[0, 1, 2, 4], 0, [], [], false, [], []⟩
def E_impl_PlnPlan_isSite : Entry := ⟨S_impl_PlnPlan_isSite, .r H_impl_PlnPlan_isSite R_impl_PlnPlan_isSite⟩
def S_slices_ContainsFunc_SSint_Sint : Sig := .d ⟨[(.one (.s)), (.one (.d))], (.one (.one (.b))), true⟩
def H_slices_ContainsFunc_SSint_Sint : Hint := ⟨[0, 1, 4], 0, [], [], false, [], []⟩
def E_slices_ContainsFunc_SSint_Sint : Entry := ⟨S_slices_ContainsFunc_SSint_Sint, .r H_slices_ContainsFunc_SSint_Sint R_slices_ContainsFunc_SSint_Sint⟩
def S_impl_partsOk_1 : Sig := .d ⟨[(.one (.s))], (.one (.one (.b))), true⟩
def H_impl_partsOk_1 : Hint := ⟨[0, 2], 0, [], [], false, [], []⟩
def E_impl_partsOk_1 : Entry := ⟨S_impl_partsOk_1, .r H_impl_partsOk_1 R_impl_partsOk_1⟩
def S_impl_partsOk : Sig := .d ⟨[(.one (.s))], (.one (.one (.b))), true⟩
def H_impl_partsOk : Hint := ⟨[0, 2], 0, [], [], false, [], []⟩
def E_impl_partsOk : Entry := ⟨S_impl_partsOk, .r H_impl_partsOk R_impl_partsOk⟩
def S_impl_addedOk : Sig := .d ⟨[(.one (.s))], (.one (.one (.b))), true⟩
def H_impl_addedOk : Hint := ⟨[0, 2], 0, [], [], false, [], []⟩
def E_impl_addedOk : Entry := ⟨S_impl_addedOk, .r H_impl_addedOk R_impl_addedOk⟩
def S_impl_TrtTreaty_ok : Sig := .d ⟨[(.g [.s, .s]), (.one (.s)), (.one (.i .i64)), (.one (.s))], (.one (.one (.b))), true⟩
def H_impl_TrtTreaty_ok : Hint := ⟨[0, 1, 2, 3, 4, 8], 0, [], [], false, [], []⟩
def E_impl_TrtTreaty_ok : Entry := ⟨S_impl_TrtTreaty_ok, .r H_impl_TrtTreaty_ok R_impl_TrtTreaty_ok⟩
def S_impl_dot : Sig := .d ⟨[(.one (.s)), (.one (.s))], (.one (.one (.i .i64))), true⟩
def H_impl_dot : Hint := ⟨[0, 1, 4, 5, 6, 7, 8, 9, 10, 11], 0, [], [(3, ⟨[10, 5], [], [], [], []⟩)], false, [], []⟩
def E_impl_dot : Entry := ⟨S_impl_dot, .r H_impl_dot R_impl_dot⟩
def S_impl_TrtKeeps_1 : Sig := .d ⟨[(.one (.s)), (.one (.d)), (.one (.d))], (.one (.one (.b))), true⟩
def H_impl_TrtKeeps_1 : Hint := ⟨[0, 1, 2, 4], 0, [], [], false, [], []⟩
def E_impl_TrtKeeps_1 : Entry := ⟨S_impl_TrtKeeps_1, .r H_impl_TrtKeeps_1 R_impl_TrtKeeps_1⟩
def S_impl_TrtKeeps : Sig := .d ⟨[(.g [.s, .s]), (.one (.s)), (.one (.i .i64)), (.one (.s))], (.one (.one (.b))), true⟩
def H_impl_TrtKeeps : Hint := ⟨[0, 1, 2, 3, 4, 7, 8, 9, 15], 0, [], [], false, [], []⟩
def E_impl_TrtKeeps : Entry := ⟨S_impl_TrtKeeps, .r H_impl_TrtKeeps R_impl_TrtKeeps⟩
def S_impl_rules_unpinned : Sig := .d ⟨[(.g [.s, .s, .s]), (.one (.s))], (.one (.one (.b))), true⟩
def H_impl_rules_unpinned : Hint := ⟨[0, 1, 2, 4, 5, 6, 7, 8, 9, 10, 22], 0, [], [(2, ⟨[9], [], [], [], []⟩)], false, [], []⟩
def E_impl_rules_unpinned : Entry := ⟨S_impl_rules_unpinned, .r H_impl_rules_unpinned R_impl_rules_unpinned⟩
def S_impl_rules_keeps : Sig := .d ⟨[(.g [.s, .s, .s]), (.g [.s, .s]), (.one (.i .i64)), (.one (.s))], (.one (.one (.b))), true⟩
def H_impl_rules_keeps : Hint := ⟨[0, 1, 2, 3, 4, 5, 8], 0, [], [], false, [], []⟩
def E_impl_rules_keeps : Entry := ⟨S_impl_rules_keeps, .r H_impl_rules_keeps R_impl_rules_keeps⟩
def S_slices_IndexFunc_Simpl_PlnDone_impl_PlnDone : Sig := .d ⟨[(.one (.s)), (.one (.d))], (.one (.one (.i .i64))), true⟩
def H_slices_IndexFunc_Simpl_PlnDone_impl_PlnDone : Hint := ⟨[0, 1, 4, 5, 7, 8, 9, 16], 0, [], [(2, ⟨[8], [], [], [], []⟩)], false, [], []⟩
def E_slices_IndexFunc_Simpl_PlnDone_impl_PlnDone : Entry := ⟨S_slices_IndexFunc_Simpl_PlnDone_impl_PlnDone, .r H_slices_IndexFunc_Simpl_PlnDone_impl_PlnDone R_slices_IndexFunc_Simpl_PlnDone_impl_PlnDone⟩
def S_slices_ContainsFunc_Simpl_PlnDone_impl_PlnDone : Sig := .d ⟨[(.one (.s)), (.one (.d))], (.one (.one (.b))), true⟩
def H_slices_ContainsFunc_Simpl_PlnDone_impl_PlnDone : Hint := ⟨[0, 1, 4], 0, [], [], false, [], []⟩
def E_slices_ContainsFunc_Simpl_PlnDone_impl_PlnDone : Entry := ⟨S_slices_ContainsFunc_Simpl_PlnDone_impl_PlnDone, .r H_slices_ContainsFunc_Simpl_PlnDone_impl_PlnDone R_slices_ContainsFunc_Simpl_PlnDone_impl_PlnDone⟩
def S_impl_ResResult_none : Sig := .d ⟨[(.g [.i .i64, .s])], (.one (.one (.b))), true⟩
def H_impl_ResResult_none : Hint := ⟨[0, 1, 2], 0, [], [], false, [], []⟩
def E_impl_ResResult_none : Entry := ⟨S_impl_ResResult_none, .r H_impl_ResResult_none R_impl_ResResult_none⟩
def S_impl_codeWords : Sig := .x ⟨[], [], [], (.o 0 (.v 0)), [(.arr 9 1 (.v 0) false true)], [.s], false⟩
def H_impl_codeWords : Hint := ⟨[0], 0, [], [], false, [], []⟩
def E_impl_codeWords : Entry := ⟨S_impl_codeWords, .r H_impl_codeWords R_impl_codeWords⟩
def S_impl_joined : Sig := .d ⟨[(.one (.s))], (.one (.one (.d))), false⟩
def E_impl_joined : Entry := ⟨S_impl_joined, .m joinedF⟩
def S_impl_ResText : Sig := .d ⟨[(.g [.i .i64, .s])], (.one (.one (.d))), false⟩
def H_impl_ResText : Hint := ⟨[0, 1, 2, 32], 0, [], [], false, [], []⟩
def E_impl_ResText : Entry := ⟨S_impl_ResText, .r H_impl_ResText R_impl_ResText⟩
def S_impl_ResOk : Sig := .d ⟨[(.g [.i .i64, .s])], (.one (.one (.b))), true⟩
def H_impl_ResOk : Hint := ⟨[0, 1, 2], 0, [], [], false, [], []⟩
def E_impl_ResOk : Entry := ⟨S_impl_ResOk, .r H_impl_ResOk R_impl_ResOk⟩
def S_impl_PlnDone_ok : Sig := .d ⟨[(.g [.i .i64, .i .i64, .s])], (.one (.one (.b))), true⟩
def H_impl_PlnDone_ok : Hint := ⟨[0, 1, 2, 5], 0, [], [], false, [], []⟩
def E_impl_PlnDone_ok : Entry := ⟨S_impl_PlnDone_ok, .r H_impl_PlnDone_ok R_impl_PlnDone_ok⟩
def S_impl_PlnPlan_doneOk_1 : Sig := .d ⟨[(.g [.i .i64, .i .i64, .s])], (.one (.one (.b))), true⟩
def H_impl_PlnPlan_doneOk_1 : Hint := ⟨[0, 1, 2], 0, [], [], false, [], []⟩
def E_impl_PlnPlan_doneOk_1 : Entry := ⟨S_impl_PlnPlan_doneOk_1, .r H_impl_PlnPlan_doneOk_1 R_impl_PlnPlan_doneOk_1⟩
def S_impl_PlnPlan_doneOk : Sig := .d ⟨[(.g [.i .i64, .s, .s, .s]), (.one (.s))], (.one (.one (.b))), true⟩
def H_impl_PlnPlan_doneOk : Hint := ⟨[0, 1, 2, 4], 0, [], [], false, [], []⟩
def E_impl_PlnPlan_doneOk : Entry := ⟨S_impl_PlnPlan_doneOk, .r H_impl_PlnPlan_doneOk R_impl_PlnPlan_doneOk⟩
def S_impl_PlnPlan_siteOk : Sig := .d ⟨[(.g [.i .i64, .s, .s, .s]), (.g [.s, .s, .s]), (.g [.b, .b, .i .i64, .s, .s, .s]), (.one (.i .i64))], (.one (.one (.b))), true⟩
def H_impl_PlnPlan_siteOk : Hint := ⟨[0, 1, 2, 3, 4, 5, 6, 8], 0, [], [], false, [], []⟩
def E_impl_PlnPlan_siteOk : Entry := ⟨S_impl_PlnPlan_siteOk, .r H_impl_PlnPlan_siteOk R_impl_PlnPlan_siteOk⟩
def S_impl_SitOk : Sig := .d ⟨[(.g [.i .i64, .s, .s, .s]), (.g [.b, .b, .i .i64, .s, .s, .s]), (.one (.i .i64))], (.one (.one (.b))), true⟩
def H_impl_SitOk : Hint := ⟨[0, 1, 2, 3, 4, 6], 0, [], [], false, [], []⟩
def E_impl_SitOk : Entry := ⟨S_impl_SitOk, .r H_impl_SitOk R_impl_SitOk⟩
def S_laws_eqIntS : Sig := .d ⟨[(.one (.s)), (.one (.s))], (.one (.one (.b))), true⟩
def H_laws_eqIntS : Hint := ⟨[0, 1, 4, 5, 10, 14, 25], 0, [], [(4, ⟨[5], [], [], [], []⟩)], false, [], []⟩
def E_laws_eqIntS : Entry := ⟨S_laws_eqIntS, .r H_laws_eqIntS R_laws_eqIntS⟩
def S_laws_eqFrmForm : Sig := .d ⟨[(.g [.s, .s, .i .i64]), (.g [.s, .s, .i .i64])], (.one (.one (.b))), true⟩
def H_laws_eqFrmForm : Hint := ⟨[0, 1, 2, 3, 4, 10, 16, 21], 0, [], [], false, [], []⟩
def E_laws_eqFrmForm : Entry := ⟨S_laws_eqFrmForm, .r H_laws_eqFrmForm R_laws_eqFrmForm⟩
def S_laws_eqActLine : Sig := .d ⟨[(.g [.i .i64, .i .i64, .i .i64, .s, .s, .i .i64]), (.g [.i .i64, .i .i64, .i .i64, .s, .s, .i .i64])], (.one (.one (.b))), true⟩
def H_laws_eqActLine : Hint := ⟨[0, 1, 2, 3, 4, 9, 14, 19, 25], 0, [], [], false, [], []⟩
def E_laws_eqActLine : Entry := ⟨S_laws_eqActLine, .r H_laws_eqActLine R_laws_eqActLine⟩
def S_laws_eqActLineS : Sig := .d ⟨[(.one (.s)), (.one (.s))], (.one (.one (.b))), true⟩
def H_laws_eqActLineS : Hint := ⟨[0, 1, 4, 5, 10, 14, 26], 0, [], [(4, ⟨[5], [], [], [], []⟩)], false, [], []⟩
def E_laws_eqActLineS : Entry := ⟨S_laws_eqActLineS, .r H_laws_eqActLineS R_laws_eqActLineS⟩
def S_laws_eqActLineSS : Sig := .d ⟨[(.one (.s)), (.one (.s))], (.one (.one (.b))), true⟩
def H_laws_eqActLineSS : Hint := ⟨[0, 1, 4, 5, 10, 14, 26], 0, [], [(4, ⟨[5], [], [], [], []⟩)], false, [], []⟩
def E_laws_eqActLineSS : Entry := ⟨S_laws_eqActLineSS, .r H_laws_eqActLineSS R_laws_eqActLineSS⟩
def S_laws_eqPlnPlan : Sig := .d ⟨[(.g [.i .i64, .s, .s, .s]), (.g [.i .i64, .s, .s, .s])], (.one (.one (.b))), true⟩
def H_laws_eqPlnPlan : Hint := ⟨[0, 1, 2, 3, 4, 9, 15, 21, 27], 0, [], [], false, [], []⟩
def E_laws_eqPlnPlan : Entry := ⟨S_laws_eqPlnPlan, .r H_laws_eqPlnPlan R_laws_eqPlnPlan⟩
def S_laws_eqResResult : Sig := .d ⟨[(.g [.i .i64, .s]), (.g [.i .i64, .s])], (.one (.one (.b))), true⟩
def H_laws_eqResResult : Hint := ⟨[0, 1, 2, 3, 4, 9, 15], 0, [], [], false, [], []⟩
def E_laws_eqResResult : Entry := ⟨S_laws_eqResResult, .r H_laws_eqResResult R_laws_eqResResult⟩
def S_laws_eqPlnDone : Sig := .d ⟨[(.g [.i .i64, .i .i64, .s]), (.g [.i .i64, .i .i64, .s])], (.one (.one (.b))), true⟩
def H_laws_eqPlnDone : Hint := ⟨[0, 1, 2, 3, 4, 9, 15], 0, [], [], false, [], []⟩
def E_laws_eqPlnDone : Entry := ⟨S_laws_eqPlnDone, .r H_laws_eqPlnDone R_laws_eqPlnDone⟩
def S_laws_eqPlnDoneS : Sig := .d ⟨[(.one (.s)), (.one (.s))], (.one (.one (.b))), true⟩
def H_laws_eqPlnDoneS : Hint := ⟨[0, 1, 4, 5, 10, 14, 26], 0, [], [(4, ⟨[5], [], [], [], []⟩)], false, [], []⟩
def E_laws_eqPlnDoneS : Entry := ⟨S_laws_eqPlnDoneS, .r H_laws_eqPlnDoneS R_laws_eqPlnDoneS⟩
def S_laws_eqSitSite : Sig := .d ⟨[(.g [.b, .b, .i .i64, .s, .s, .s]), (.g [.b, .b, .i .i64, .s, .s, .s])], (.one (.one (.b))), true⟩
def H_laws_eqSitSite : Hint := ⟨[0, 1, 2, 3, 4, 9, 14, 19, 25, 31, 37], 0, [], [], false, [], []⟩
def E_laws_eqSitSite : Entry := ⟨S_laws_eqSitSite, .r H_laws_eqSitSite R_laws_eqSitSite⟩
def S_laws_FnExactSitOk : Sig := .d ⟨[(.g [.i .i64, .s, .s, .s]), (.g [.b, .b, .i .i64, .s, .s, .s]), (.one (.i .i64))], (.one (.one (.b))), true⟩
def H_laws_FnExactSitOk : Hint := ⟨[0, 1, 2, 3, 4, 6, 7, 8, 9, 10, 11, 16, 21, 38, 43, 48], 0, [], [], true, [], []⟩
def E_laws_FnExactSitOk : Entry := ⟨S_laws_FnExactSitOk, .r H_laws_FnExactSitOk R_laws_FnExactSitOk⟩
def L : Tabl := [(f_laws_szIntS, E_laws_szIntS), (f_laws_szFrmForm, E_laws_szFrmForm), (f_laws_szActLine, E_laws_szActLine), (f_laws_szActLineS, E_laws_szActLineS), (f_laws_szActLineSS, E_laws_szActLineSS), (f_laws_szPlnPlan, E_laws_szPlnPlan), (f_laws_szResResult, E_laws_szResResult), (f_laws_szPlnDone, E_laws_szPlnDone), (f_laws_szPlnDoneS, E_laws_szPlnDoneS), (f_laws_szSitSite, E_laws_szSitSite), (f_laws_toIntS, E_laws_toIntS), (f_laws_toFrmForm, E_laws_toFrmForm), (f_laws_toActLine, E_laws_toActLine), (f_laws_toActLineS, E_laws_toActLineS), (f_laws_toActLineSS, E_laws_toActLineSS), (f_laws_toPlnPlan, E_laws_toPlnPlan), (f_laws_toResResult, E_laws_toResResult), (f_laws_toPlnDone, E_laws_toPlnDone), (f_laws_toPlnDoneS, E_laws_toPlnDoneS), (f_laws_toSitSite, E_laws_toSitSite), (f_spec_l1In, E_spec_l1In), (f_spec_l1All, E_spec_l1All), (f_spec_l2Small, E_spec_l2Small), (f_spec_l2Line, E_spec_l2Line), (f_spec_ActOk, E_spec_ActOk), (f_spec_CatOk, E_spec_CatOk), (f_spec_ValOk, E_spec_ValOk), (f_spec_TrtOk, E_spec_TrtOk), (f_spec_PlnOk, E_spec_PlnOk), (f_spec_FrmZero, E_spec_FrmZero), (f_spec_FrmPot, E_spec_FrmPot), (f_spec_l1Sum, E_spec_l1Sum), (f_spec_l3Copy, E_spec_l3Copy), (f_spec_FrmOk, E_spec_FrmOk), (f_spec_FrmInto, E_spec_FrmInto), (f_spec_l3Minus, E_spec_l3Minus), (f_spec_l3Row, E_spec_l3Row), (f_spec_l3Walk, E_spec_l3Walk), (f_spec_RowsOf, E_spec_RowsOf), (f_spec_l4Reads, E_spec_l4Reads), (f_spec_CatPart, E_spec_CatPart), (f_spec_l4Same, E_spec_l4Same), (f_spec_CatHas, E_spec_CatHas), (f_spec_l4Both, E_spec_l4Both), (f_spec_l8Treaty, E_spec_l8Treaty), (f_spec_l5Parts, E_spec_l5Parts), (f_spec_l5Times, E_spec_l5Times), (f_spec_TrtKeeps, E_spec_TrtKeeps), (f_spec_l5Still, E_spec_l5Still), (f_spec_l1Digits, E_spec_l1Digits), (f_spec_ResText, E_spec_ResText), (f_spec_ResOk, E_spec_ResOk), (f_spec_l6Done, E_spec_l6Done), (f_spec_l8Ok, E_spec_l8Ok), (f_spec_SitOk, E_spec_SitOk), (f_impl_in, E_impl_in), (f_slices_IndexFunc_SSimpl_ActLine_Simpl_ActLine, E_slices_IndexFunc_SSimpl_ActLine_Simpl_ActLine), (f_slices_ContainsFunc_SSimpl_ActLine_Simpl_ActLine, E_slices_ContainsFunc_SSimpl_ActLine_Simpl_ActLine), (f_impl_within_1, E_impl_within_1), (f_slices_IndexFunc_Sint_int, E_slices_IndexFunc_Sint_int), (f_slices_ContainsFunc_Sint_int, E_slices_ContainsFunc_Sint_int), (f_impl_within, E_impl_within), (f_impl_FrmForm_small, E_impl_FrmForm_small), (f_slices_Equal_Sint_int, E_slices_Equal_Sint_int), (f_impl_FrmForm_same, E_impl_FrmForm_same), (f_impl_ActLine_ok, E_impl_ActLine_ok), (f_impl_ActOk, E_impl_ActOk), (f_impl_CatOk_1, E_impl_CatOk_1), (f_impl_CatOk, E_impl_CatOk), (f_impl_PlnPlan_treaty, E_impl_PlnPlan_treaty), (f_impl_TrtOk_1, E_impl_TrtOk_1), (f_impl_ValOk, E_impl_ValOk), (f_impl_TrtOk, E_impl_TrtOk), (f_impl_PlnOk, E_impl_PlnOk), (f_impl_FrmZero, E_impl_FrmZero), (f_impl_FrmPot, E_impl_FrmPot), (f_slices_Clone_Sint_int, E_slices_Clone_Sint_int), (f_impl_FrmForm_copied, E_impl_FrmForm_copied), (f_impl_forms, E_impl_forms), (f_impl_FrmOk, E_impl_FrmOk), (f_slices_IndexFunc_Simpl_FrmForm_impl_FrmForm, E_slices_IndexFunc_Simpl_FrmForm_impl_FrmForm), (f_slices_ContainsFunc_Simpl_FrmForm_impl_FrmForm, E_slices_ContainsFunc_Simpl_FrmForm_impl_FrmForm), (f_impl_FrmInto_1, E_impl_FrmInto_1), (f_impl_FrmForm_add, E_impl_FrmForm_add), (f_impl_checked, E_impl_checked), (f_impl_FrmInto, E_impl_FrmInto), (f_impl_FrmTimes, E_impl_FrmTimes), (f_impl_FrmAdd, E_impl_FrmAdd), (f_impl_walker_walk, E_impl_walker_walk), (f_impl_RowsOf, E_impl_RowsOf), (f_impl_CatPart_1, E_impl_CatPart_1), (f_impl_CatPart, E_impl_CatPart), (f_impl_zeros_1, E_impl_zeros_1), (f_impl_zeros, E_impl_zeros), (f_impl_CatHas_1, E_impl_CatHas_1), (f_slices_IndexFunc_SSint_Sint, E_slices_IndexFunc_SSint_Sint), (f_impl_CatHas, E_impl_CatHas), (f_impl_CatForms, E_impl_CatForms), (f_impl_pots, E_impl_pots), (f_slices_Grow_Simpl_FrmForm_impl_FrmForm, E_slices_Grow_Simpl_FrmForm_impl_FrmForm), (f_slices_Concat_Simpl_FrmForm_impl_FrmForm, E_slices_Concat_Simpl_FrmForm_impl_FrmForm), (f_impl_RowRow_reads_1, E_impl_RowRow_reads_1), (f_impl_RowRow_reads, E_impl_RowRow_reads), (f_impl_CatPins, E_impl_CatPins), (f_impl_rulesOf, E_impl_rulesOf), (f_impl_PlnPlan_isSite, E_impl_PlnPlan_isSite), (f_slices_ContainsFunc_SSint_Sint, E_slices_ContainsFunc_SSint_Sint), (f_impl_partsOk_1, E_impl_partsOk_1), (f_impl_partsOk, E_impl_partsOk), (f_impl_addedOk, E_impl_addedOk), (f_impl_TrtTreaty_ok, E_impl_TrtTreaty_ok), (f_impl_dot, E_impl_dot), (f_impl_TrtKeeps_1, E_impl_TrtKeeps_1), (f_impl_TrtKeeps, E_impl_TrtKeeps), (f_impl_rules_unpinned, E_impl_rules_unpinned), (f_impl_rules_keeps, E_impl_rules_keeps), (f_slices_IndexFunc_Simpl_PlnDone_impl_PlnDone, E_slices_IndexFunc_Simpl_PlnDone_impl_PlnDone), (f_slices_ContainsFunc_Simpl_PlnDone_impl_PlnDone, E_slices_ContainsFunc_Simpl_PlnDone_impl_PlnDone), (f_impl_ResResult_none, E_impl_ResResult_none), (f_impl_codeWords, E_impl_codeWords), (f_impl_joined, E_impl_joined), (f_impl_ResText, E_impl_ResText), (f_impl_ResOk, E_impl_ResOk), (f_impl_PlnDone_ok, E_impl_PlnDone_ok), (f_impl_PlnPlan_doneOk_1, E_impl_PlnPlan_doneOk_1), (f_impl_PlnPlan_doneOk, E_impl_PlnPlan_doneOk), (f_impl_PlnPlan_siteOk, E_impl_PlnPlan_siteOk), (f_impl_SitOk, E_impl_SitOk), (f_laws_eqIntS, E_laws_eqIntS), (f_laws_eqFrmForm, E_laws_eqFrmForm), (f_laws_eqActLine, E_laws_eqActLine), (f_laws_eqActLineS, E_laws_eqActLineS), (f_laws_eqActLineSS, E_laws_eqActLineSS), (f_laws_eqPlnPlan, E_laws_eqPlnPlan), (f_laws_eqResResult, E_laws_eqResResult), (f_laws_eqPlnDone, E_laws_eqPlnDone), (f_laws_eqPlnDoneS, E_laws_eqPlnDoneS), (f_laws_eqSitSite, E_laws_eqSitSite), (f_laws_FnExactSitOk, E_laws_FnExactSitOk)]
set_option maxRecDepth 100000 in
theorem L_laws_szIntS : L.lookup f_laws_szIntS = some ⟨S_laws_szIntS, .r H_laws_szIntS R_laws_szIntS⟩ := rfl
set_option maxRecDepth 100000 in
theorem L_laws_szFrmForm : L.lookup f_laws_szFrmForm = some ⟨S_laws_szFrmForm, .r H_laws_szFrmForm R_laws_szFrmForm⟩ := rfl
set_option maxRecDepth 100000 in
theorem L_laws_szActLine : L.lookup f_laws_szActLine = some ⟨S_laws_szActLine, .r H_laws_szActLine R_laws_szActLine⟩ := rfl
set_option maxRecDepth 100000 in
theorem L_laws_szActLineS : L.lookup f_laws_szActLineS = some ⟨S_laws_szActLineS, .r H_laws_szActLineS R_laws_szActLineS⟩ := rfl
set_option maxRecDepth 100000 in
theorem L_laws_szActLineSS : L.lookup f_laws_szActLineSS = some ⟨S_laws_szActLineSS, .r H_laws_szActLineSS R_laws_szActLineSS⟩ := rfl
set_option maxRecDepth 100000 in
theorem L_laws_szPlnPlan : L.lookup f_laws_szPlnPlan = some ⟨S_laws_szPlnPlan, .r H_laws_szPlnPlan R_laws_szPlnPlan⟩ := rfl
set_option maxRecDepth 100000 in
theorem L_laws_szResResult : L.lookup f_laws_szResResult = some ⟨S_laws_szResResult, .r H_laws_szResResult R_laws_szResResult⟩ := rfl
set_option maxRecDepth 100000 in
theorem L_laws_szPlnDone : L.lookup f_laws_szPlnDone = some ⟨S_laws_szPlnDone, .r H_laws_szPlnDone R_laws_szPlnDone⟩ := rfl
set_option maxRecDepth 100000 in
theorem L_laws_szPlnDoneS : L.lookup f_laws_szPlnDoneS = some ⟨S_laws_szPlnDoneS, .r H_laws_szPlnDoneS R_laws_szPlnDoneS⟩ := rfl
set_option maxRecDepth 100000 in
theorem L_laws_szSitSite : L.lookup f_laws_szSitSite = some ⟨S_laws_szSitSite, .r H_laws_szSitSite R_laws_szSitSite⟩ := rfl
set_option maxRecDepth 100000 in
theorem L_laws_toIntS : L.lookup f_laws_toIntS = some ⟨S_laws_toIntS, .r H_laws_toIntS R_laws_toIntS⟩ := rfl
set_option maxRecDepth 100000 in
theorem L_laws_toFrmForm : L.lookup f_laws_toFrmForm = some ⟨S_laws_toFrmForm, .r H_laws_toFrmForm R_laws_toFrmForm⟩ := rfl
set_option maxRecDepth 100000 in
theorem L_laws_toActLine : L.lookup f_laws_toActLine = some ⟨S_laws_toActLine, .r H_laws_toActLine R_laws_toActLine⟩ := rfl
set_option maxRecDepth 100000 in
theorem L_laws_toActLineS : L.lookup f_laws_toActLineS = some ⟨S_laws_toActLineS, .r H_laws_toActLineS R_laws_toActLineS⟩ := rfl
set_option maxRecDepth 100000 in
theorem L_laws_toActLineSS : L.lookup f_laws_toActLineSS = some ⟨S_laws_toActLineSS, .r H_laws_toActLineSS R_laws_toActLineSS⟩ := rfl
set_option maxRecDepth 100000 in
theorem L_laws_toPlnPlan : L.lookup f_laws_toPlnPlan = some ⟨S_laws_toPlnPlan, .r H_laws_toPlnPlan R_laws_toPlnPlan⟩ := rfl
set_option maxRecDepth 100000 in
theorem L_laws_toResResult : L.lookup f_laws_toResResult = some ⟨S_laws_toResResult, .r H_laws_toResResult R_laws_toResResult⟩ := rfl
set_option maxRecDepth 100000 in
theorem L_laws_toPlnDone : L.lookup f_laws_toPlnDone = some ⟨S_laws_toPlnDone, .r H_laws_toPlnDone R_laws_toPlnDone⟩ := rfl
set_option maxRecDepth 100000 in
theorem L_laws_toPlnDoneS : L.lookup f_laws_toPlnDoneS = some ⟨S_laws_toPlnDoneS, .r H_laws_toPlnDoneS R_laws_toPlnDoneS⟩ := rfl
set_option maxRecDepth 100000 in
theorem L_laws_toSitSite : L.lookup f_laws_toSitSite = some ⟨S_laws_toSitSite, .r H_laws_toSitSite R_laws_toSitSite⟩ := rfl
set_option maxRecDepth 100000 in
theorem L_spec_l1In : L.lookup f_spec_l1In = some ⟨S_spec_l1In, .r H_spec_l1In R_spec_l1In⟩ := rfl
set_option maxRecDepth 100000 in
theorem L_spec_l1All : L.lookup f_spec_l1All = some ⟨S_spec_l1All, .r H_spec_l1All R_spec_l1All⟩ := rfl
set_option maxRecDepth 100000 in
theorem L_spec_l2Small : L.lookup f_spec_l2Small = some ⟨S_spec_l2Small, .r H_spec_l2Small R_spec_l2Small⟩ := rfl
set_option maxRecDepth 100000 in
theorem L_spec_l2Line : L.lookup f_spec_l2Line = some ⟨S_spec_l2Line, .r H_spec_l2Line R_spec_l2Line⟩ := rfl
set_option maxRecDepth 100000 in
theorem L_spec_ActOk : L.lookup f_spec_ActOk = some ⟨S_spec_ActOk, .r H_spec_ActOk R_spec_ActOk⟩ := rfl
set_option maxRecDepth 100000 in
theorem L_spec_CatOk : L.lookup f_spec_CatOk = some ⟨S_spec_CatOk, .r H_spec_CatOk R_spec_CatOk⟩ := rfl
set_option maxRecDepth 100000 in
theorem L_spec_ValOk : L.lookup f_spec_ValOk = some ⟨S_spec_ValOk, .r H_spec_ValOk R_spec_ValOk⟩ := rfl
set_option maxRecDepth 100000 in
theorem L_spec_TrtOk : L.lookup f_spec_TrtOk = some ⟨S_spec_TrtOk, .r H_spec_TrtOk R_spec_TrtOk⟩ := rfl
set_option maxRecDepth 100000 in
theorem L_spec_PlnOk : L.lookup f_spec_PlnOk = some ⟨S_spec_PlnOk, .r H_spec_PlnOk R_spec_PlnOk⟩ := rfl
set_option maxRecDepth 100000 in
theorem L_spec_FrmZero : L.lookup f_spec_FrmZero = some ⟨S_spec_FrmZero, .r H_spec_FrmZero R_spec_FrmZero⟩ := rfl
set_option maxRecDepth 100000 in
theorem L_spec_FrmPot : L.lookup f_spec_FrmPot = some ⟨S_spec_FrmPot, .r H_spec_FrmPot R_spec_FrmPot⟩ := rfl
set_option maxRecDepth 100000 in
theorem L_spec_l1Sum : L.lookup f_spec_l1Sum = some ⟨S_spec_l1Sum, .r H_spec_l1Sum R_spec_l1Sum⟩ := rfl
set_option maxRecDepth 100000 in
theorem L_spec_l3Copy : L.lookup f_spec_l3Copy = some ⟨S_spec_l3Copy, .r H_spec_l3Copy R_spec_l3Copy⟩ := rfl
set_option maxRecDepth 100000 in
theorem L_spec_FrmOk : L.lookup f_spec_FrmOk = some ⟨S_spec_FrmOk, .r H_spec_FrmOk R_spec_FrmOk⟩ := rfl
set_option maxRecDepth 100000 in
theorem L_spec_FrmInto : L.lookup f_spec_FrmInto = some ⟨S_spec_FrmInto, .r H_spec_FrmInto R_spec_FrmInto⟩ := rfl
set_option maxRecDepth 100000 in
theorem L_spec_l3Minus : L.lookup f_spec_l3Minus = some ⟨S_spec_l3Minus, .r H_spec_l3Minus R_spec_l3Minus⟩ := rfl
set_option maxRecDepth 100000 in
theorem L_spec_l3Row : L.lookup f_spec_l3Row = some ⟨S_spec_l3Row, .r H_spec_l3Row R_spec_l3Row⟩ := rfl
set_option maxRecDepth 100000 in
theorem L_spec_l3Walk : L.lookup f_spec_l3Walk = some ⟨S_spec_l3Walk, .r H_spec_l3Walk R_spec_l3Walk⟩ := rfl
set_option maxRecDepth 100000 in
theorem L_spec_RowsOf : L.lookup f_spec_RowsOf = some ⟨S_spec_RowsOf, .r H_spec_RowsOf R_spec_RowsOf⟩ := rfl
set_option maxRecDepth 100000 in
theorem L_spec_l4Reads : L.lookup f_spec_l4Reads = some ⟨S_spec_l4Reads, .r H_spec_l4Reads R_spec_l4Reads⟩ := rfl
set_option maxRecDepth 100000 in
theorem L_spec_CatPart : L.lookup f_spec_CatPart = some ⟨S_spec_CatPart, .r H_spec_CatPart R_spec_CatPart⟩ := rfl
set_option maxRecDepth 100000 in
theorem L_spec_l4Same : L.lookup f_spec_l4Same = some ⟨S_spec_l4Same, .r H_spec_l4Same R_spec_l4Same⟩ := rfl
set_option maxRecDepth 100000 in
theorem L_spec_CatHas : L.lookup f_spec_CatHas = some ⟨S_spec_CatHas, .r H_spec_CatHas R_spec_CatHas⟩ := rfl
set_option maxRecDepth 100000 in
theorem L_spec_l4Both : L.lookup f_spec_l4Both = some ⟨S_spec_l4Both, .r H_spec_l4Both R_spec_l4Both⟩ := rfl
set_option maxRecDepth 100000 in
theorem L_spec_l8Treaty : L.lookup f_spec_l8Treaty = some ⟨S_spec_l8Treaty, .r H_spec_l8Treaty R_spec_l8Treaty⟩ := rfl
set_option maxRecDepth 100000 in
theorem L_spec_l5Parts : L.lookup f_spec_l5Parts = some ⟨S_spec_l5Parts, .r H_spec_l5Parts R_spec_l5Parts⟩ := rfl
set_option maxRecDepth 100000 in
theorem L_spec_l5Times : L.lookup f_spec_l5Times = some ⟨S_spec_l5Times, .r H_spec_l5Times R_spec_l5Times⟩ := rfl
set_option maxRecDepth 100000 in
theorem L_spec_TrtKeeps : L.lookup f_spec_TrtKeeps = some ⟨S_spec_TrtKeeps, .r H_spec_TrtKeeps R_spec_TrtKeeps⟩ := rfl
set_option maxRecDepth 100000 in
theorem L_spec_l5Still : L.lookup f_spec_l5Still = some ⟨S_spec_l5Still, .r H_spec_l5Still R_spec_l5Still⟩ := rfl
set_option maxRecDepth 100000 in
theorem L_spec_l1Digits : L.lookup f_spec_l1Digits = some ⟨S_spec_l1Digits, .m digitsF⟩ := rfl
set_option maxRecDepth 100000 in
theorem L_spec_ResText : L.lookup f_spec_ResText = some ⟨S_spec_ResText, .r H_spec_ResText R_spec_ResText⟩ := rfl
set_option maxRecDepth 100000 in
theorem L_spec_ResOk : L.lookup f_spec_ResOk = some ⟨S_spec_ResOk, .r H_spec_ResOk R_spec_ResOk⟩ := rfl
set_option maxRecDepth 100000 in
theorem L_spec_l6Done : L.lookup f_spec_l6Done = some ⟨S_spec_l6Done, .r H_spec_l6Done R_spec_l6Done⟩ := rfl
set_option maxRecDepth 100000 in
theorem L_spec_l8Ok : L.lookup f_spec_l8Ok = some ⟨S_spec_l8Ok, .r H_spec_l8Ok R_spec_l8Ok⟩ := rfl
set_option maxRecDepth 100000 in
theorem L_spec_SitOk : L.lookup f_spec_SitOk = some ⟨S_spec_SitOk, .r H_spec_SitOk R_spec_SitOk⟩ := rfl
set_option maxRecDepth 100000 in
theorem L_impl_in : L.lookup f_impl_in = some ⟨S_impl_in, .r H_impl_in R_impl_in⟩ := rfl
set_option maxRecDepth 100000 in
theorem L_slices_IndexFunc_SSimpl_ActLine_Simpl_ActLine : L.lookup f_slices_IndexFunc_SSimpl_ActLine_Simpl_ActLine = some ⟨S_slices_IndexFunc_SSimpl_ActLine_Simpl_ActLine, .r H_slices_IndexFunc_SSimpl_ActLine_Simpl_ActLine R_slices_IndexFunc_SSimpl_ActLine_Simpl_ActLine⟩ := rfl
set_option maxRecDepth 100000 in
theorem L_slices_ContainsFunc_SSimpl_ActLine_Simpl_ActLine : L.lookup f_slices_ContainsFunc_SSimpl_ActLine_Simpl_ActLine = some ⟨S_slices_ContainsFunc_SSimpl_ActLine_Simpl_ActLine, .r H_slices_ContainsFunc_SSimpl_ActLine_Simpl_ActLine R_slices_ContainsFunc_SSimpl_ActLine_Simpl_ActLine⟩ := rfl
set_option maxRecDepth 100000 in
theorem L_impl_within_1 : L.lookup f_impl_within_1 = some ⟨S_impl_within_1, .r H_impl_within_1 R_impl_within_1⟩ := rfl
set_option maxRecDepth 100000 in
theorem L_slices_IndexFunc_Sint_int : L.lookup f_slices_IndexFunc_Sint_int = some ⟨S_slices_IndexFunc_Sint_int, .r H_slices_IndexFunc_Sint_int R_slices_IndexFunc_Sint_int⟩ := rfl
set_option maxRecDepth 100000 in
theorem L_slices_ContainsFunc_Sint_int : L.lookup f_slices_ContainsFunc_Sint_int = some ⟨S_slices_ContainsFunc_Sint_int, .r H_slices_ContainsFunc_Sint_int R_slices_ContainsFunc_Sint_int⟩ := rfl
set_option maxRecDepth 100000 in
theorem L_impl_within : L.lookup f_impl_within = some ⟨S_impl_within, .r H_impl_within R_impl_within⟩ := rfl
set_option maxRecDepth 100000 in
theorem L_impl_FrmForm_small : L.lookup f_impl_FrmForm_small = some ⟨S_impl_FrmForm_small, .r H_impl_FrmForm_small R_impl_FrmForm_small⟩ := rfl
set_option maxRecDepth 100000 in
theorem L_slices_Equal_Sint_int : L.lookup f_slices_Equal_Sint_int = some ⟨S_slices_Equal_Sint_int, .r H_slices_Equal_Sint_int R_slices_Equal_Sint_int⟩ := rfl
set_option maxRecDepth 100000 in
theorem L_impl_FrmForm_same : L.lookup f_impl_FrmForm_same = some ⟨S_impl_FrmForm_same, .r H_impl_FrmForm_same R_impl_FrmForm_same⟩ := rfl
set_option maxRecDepth 100000 in
theorem L_impl_ActLine_ok : L.lookup f_impl_ActLine_ok = some ⟨S_impl_ActLine_ok, .r H_impl_ActLine_ok R_impl_ActLine_ok⟩ := rfl
set_option maxRecDepth 100000 in
theorem L_impl_ActOk : L.lookup f_impl_ActOk = some ⟨S_impl_ActOk, .r H_impl_ActOk R_impl_ActOk⟩ := rfl
set_option maxRecDepth 100000 in
theorem L_impl_CatOk_1 : L.lookup f_impl_CatOk_1 = some ⟨S_impl_CatOk_1, .r H_impl_CatOk_1 R_impl_CatOk_1⟩ := rfl
set_option maxRecDepth 100000 in
theorem L_impl_CatOk : L.lookup f_impl_CatOk = some ⟨S_impl_CatOk, .r H_impl_CatOk R_impl_CatOk⟩ := rfl
set_option maxRecDepth 100000 in
theorem L_impl_PlnPlan_treaty : L.lookup f_impl_PlnPlan_treaty = some ⟨S_impl_PlnPlan_treaty, .r H_impl_PlnPlan_treaty R_impl_PlnPlan_treaty⟩ := rfl
set_option maxRecDepth 100000 in
theorem L_impl_TrtOk_1 : L.lookup f_impl_TrtOk_1 = some ⟨S_impl_TrtOk_1, .r H_impl_TrtOk_1 R_impl_TrtOk_1⟩ := rfl
set_option maxRecDepth 100000 in
theorem L_impl_ValOk : L.lookup f_impl_ValOk = some ⟨S_impl_ValOk, .r H_impl_ValOk R_impl_ValOk⟩ := rfl
set_option maxRecDepth 100000 in
theorem L_impl_TrtOk : L.lookup f_impl_TrtOk = some ⟨S_impl_TrtOk, .r H_impl_TrtOk R_impl_TrtOk⟩ := rfl
set_option maxRecDepth 100000 in
theorem L_impl_PlnOk : L.lookup f_impl_PlnOk = some ⟨S_impl_PlnOk, .r H_impl_PlnOk R_impl_PlnOk⟩ := rfl
set_option maxRecDepth 100000 in
theorem L_impl_FrmZero : L.lookup f_impl_FrmZero = some ⟨S_impl_FrmZero, .r H_impl_FrmZero R_impl_FrmZero⟩ := rfl
set_option maxRecDepth 100000 in
theorem L_impl_FrmPot : L.lookup f_impl_FrmPot = some ⟨S_impl_FrmPot, .r H_impl_FrmPot R_impl_FrmPot⟩ := rfl
set_option maxRecDepth 100000 in
theorem L_slices_Clone_Sint_int : L.lookup f_slices_Clone_Sint_int = some ⟨S_slices_Clone_Sint_int, .r H_slices_Clone_Sint_int R_slices_Clone_Sint_int⟩ := rfl
set_option maxRecDepth 100000 in
theorem L_impl_FrmForm_copied : L.lookup f_impl_FrmForm_copied = some ⟨S_impl_FrmForm_copied, .r H_impl_FrmForm_copied R_impl_FrmForm_copied⟩ := rfl
set_option maxRecDepth 100000 in
theorem L_impl_forms : L.lookup f_impl_forms = some ⟨S_impl_forms, .r H_impl_forms R_impl_forms⟩ := rfl
set_option maxRecDepth 100000 in
theorem L_impl_FrmOk : L.lookup f_impl_FrmOk = some ⟨S_impl_FrmOk, .r H_impl_FrmOk R_impl_FrmOk⟩ := rfl
set_option maxRecDepth 100000 in
theorem L_slices_IndexFunc_Simpl_FrmForm_impl_FrmForm : L.lookup f_slices_IndexFunc_Simpl_FrmForm_impl_FrmForm = some ⟨S_slices_IndexFunc_Simpl_FrmForm_impl_FrmForm, .r H_slices_IndexFunc_Simpl_FrmForm_impl_FrmForm R_slices_IndexFunc_Simpl_FrmForm_impl_FrmForm⟩ := rfl
set_option maxRecDepth 100000 in
theorem L_slices_ContainsFunc_Simpl_FrmForm_impl_FrmForm : L.lookup f_slices_ContainsFunc_Simpl_FrmForm_impl_FrmForm = some ⟨S_slices_ContainsFunc_Simpl_FrmForm_impl_FrmForm, .r H_slices_ContainsFunc_Simpl_FrmForm_impl_FrmForm R_slices_ContainsFunc_Simpl_FrmForm_impl_FrmForm⟩ := rfl
set_option maxRecDepth 100000 in
theorem L_impl_FrmInto_1 : L.lookup f_impl_FrmInto_1 = some ⟨S_impl_FrmInto_1, .r H_impl_FrmInto_1 R_impl_FrmInto_1⟩ := rfl
set_option maxRecDepth 100000 in
theorem L_impl_FrmForm_add : L.lookup f_impl_FrmForm_add = some ⟨S_impl_FrmForm_add, .r H_impl_FrmForm_add R_impl_FrmForm_add⟩ := rfl
set_option maxRecDepth 100000 in
theorem L_impl_checked : L.lookup f_impl_checked = some ⟨S_impl_checked, .r H_impl_checked R_impl_checked⟩ := rfl
set_option maxRecDepth 100000 in
theorem L_impl_FrmInto : L.lookup f_impl_FrmInto = some ⟨S_impl_FrmInto, .r H_impl_FrmInto R_impl_FrmInto⟩ := rfl
set_option maxRecDepth 100000 in
theorem L_impl_FrmTimes : L.lookup f_impl_FrmTimes = some ⟨S_impl_FrmTimes, .r H_impl_FrmTimes R_impl_FrmTimes⟩ := rfl
set_option maxRecDepth 100000 in
theorem L_impl_FrmAdd : L.lookup f_impl_FrmAdd = some ⟨S_impl_FrmAdd, .r H_impl_FrmAdd R_impl_FrmAdd⟩ := rfl
set_option maxRecDepth 100000 in
theorem L_impl_walker_walk : L.lookup f_impl_walker_walk = some ⟨S_impl_walker_walk, .r H_impl_walker_walk R_impl_walker_walk⟩ := rfl
set_option maxRecDepth 100000 in
theorem L_impl_RowsOf : L.lookup f_impl_RowsOf = some ⟨S_impl_RowsOf, .r H_impl_RowsOf R_impl_RowsOf⟩ := rfl
set_option maxRecDepth 100000 in
theorem L_impl_CatPart_1 : L.lookup f_impl_CatPart_1 = some ⟨S_impl_CatPart_1, .r H_impl_CatPart_1 R_impl_CatPart_1⟩ := rfl
set_option maxRecDepth 100000 in
theorem L_impl_CatPart : L.lookup f_impl_CatPart = some ⟨S_impl_CatPart, .r H_impl_CatPart R_impl_CatPart⟩ := rfl
set_option maxRecDepth 100000 in
theorem L_impl_zeros_1 : L.lookup f_impl_zeros_1 = some ⟨S_impl_zeros_1, .r H_impl_zeros_1 R_impl_zeros_1⟩ := rfl
set_option maxRecDepth 100000 in
theorem L_impl_zeros : L.lookup f_impl_zeros = some ⟨S_impl_zeros, .r H_impl_zeros R_impl_zeros⟩ := rfl
set_option maxRecDepth 100000 in
theorem L_impl_CatHas_1 : L.lookup f_impl_CatHas_1 = some ⟨S_impl_CatHas_1, .r H_impl_CatHas_1 R_impl_CatHas_1⟩ := rfl
set_option maxRecDepth 100000 in
theorem L_slices_IndexFunc_SSint_Sint : L.lookup f_slices_IndexFunc_SSint_Sint = some ⟨S_slices_IndexFunc_SSint_Sint, .r H_slices_IndexFunc_SSint_Sint R_slices_IndexFunc_SSint_Sint⟩ := rfl
set_option maxRecDepth 100000 in
theorem L_impl_CatHas : L.lookup f_impl_CatHas = some ⟨S_impl_CatHas, .r H_impl_CatHas R_impl_CatHas⟩ := rfl
set_option maxRecDepth 100000 in
theorem L_impl_CatForms : L.lookup f_impl_CatForms = some ⟨S_impl_CatForms, .r H_impl_CatForms R_impl_CatForms⟩ := rfl
set_option maxRecDepth 100000 in
theorem L_impl_pots : L.lookup f_impl_pots = some ⟨S_impl_pots, .r H_impl_pots R_impl_pots⟩ := rfl
set_option maxRecDepth 100000 in
theorem L_slices_Grow_Simpl_FrmForm_impl_FrmForm : L.lookup f_slices_Grow_Simpl_FrmForm_impl_FrmForm = some ⟨S_slices_Grow_Simpl_FrmForm_impl_FrmForm, .r H_slices_Grow_Simpl_FrmForm_impl_FrmForm R_slices_Grow_Simpl_FrmForm_impl_FrmForm⟩ := rfl
set_option maxRecDepth 100000 in
theorem L_slices_Concat_Simpl_FrmForm_impl_FrmForm : L.lookup f_slices_Concat_Simpl_FrmForm_impl_FrmForm = some ⟨S_slices_Concat_Simpl_FrmForm_impl_FrmForm, .r H_slices_Concat_Simpl_FrmForm_impl_FrmForm R_slices_Concat_Simpl_FrmForm_impl_FrmForm⟩ := rfl
set_option maxRecDepth 100000 in
theorem L_impl_RowRow_reads_1 : L.lookup f_impl_RowRow_reads_1 = some ⟨S_impl_RowRow_reads_1, .r H_impl_RowRow_reads_1 R_impl_RowRow_reads_1⟩ := rfl
set_option maxRecDepth 100000 in
theorem L_impl_RowRow_reads : L.lookup f_impl_RowRow_reads = some ⟨S_impl_RowRow_reads, .r H_impl_RowRow_reads R_impl_RowRow_reads⟩ := rfl
set_option maxRecDepth 100000 in
theorem L_impl_CatPins : L.lookup f_impl_CatPins = some ⟨S_impl_CatPins, .r H_impl_CatPins R_impl_CatPins⟩ := rfl
set_option maxRecDepth 100000 in
theorem L_impl_rulesOf : L.lookup f_impl_rulesOf = some ⟨S_impl_rulesOf, .r H_impl_rulesOf R_impl_rulesOf⟩ := rfl
set_option maxRecDepth 100000 in
theorem L_impl_PlnPlan_isSite : L.lookup f_impl_PlnPlan_isSite = some ⟨S_impl_PlnPlan_isSite, .r H_impl_PlnPlan_isSite R_impl_PlnPlan_isSite⟩ := rfl
set_option maxRecDepth 100000 in
theorem L_slices_ContainsFunc_SSint_Sint : L.lookup f_slices_ContainsFunc_SSint_Sint = some ⟨S_slices_ContainsFunc_SSint_Sint, .r H_slices_ContainsFunc_SSint_Sint R_slices_ContainsFunc_SSint_Sint⟩ := rfl
set_option maxRecDepth 100000 in
theorem L_impl_partsOk_1 : L.lookup f_impl_partsOk_1 = some ⟨S_impl_partsOk_1, .r H_impl_partsOk_1 R_impl_partsOk_1⟩ := rfl
set_option maxRecDepth 100000 in
theorem L_impl_partsOk : L.lookup f_impl_partsOk = some ⟨S_impl_partsOk, .r H_impl_partsOk R_impl_partsOk⟩ := rfl
set_option maxRecDepth 100000 in
theorem L_impl_addedOk : L.lookup f_impl_addedOk = some ⟨S_impl_addedOk, .r H_impl_addedOk R_impl_addedOk⟩ := rfl
set_option maxRecDepth 100000 in
theorem L_impl_TrtTreaty_ok : L.lookup f_impl_TrtTreaty_ok = some ⟨S_impl_TrtTreaty_ok, .r H_impl_TrtTreaty_ok R_impl_TrtTreaty_ok⟩ := rfl
set_option maxRecDepth 100000 in
theorem L_impl_dot : L.lookup f_impl_dot = some ⟨S_impl_dot, .r H_impl_dot R_impl_dot⟩ := rfl
set_option maxRecDepth 100000 in
theorem L_impl_TrtKeeps_1 : L.lookup f_impl_TrtKeeps_1 = some ⟨S_impl_TrtKeeps_1, .r H_impl_TrtKeeps_1 R_impl_TrtKeeps_1⟩ := rfl
set_option maxRecDepth 100000 in
theorem L_impl_TrtKeeps : L.lookup f_impl_TrtKeeps = some ⟨S_impl_TrtKeeps, .r H_impl_TrtKeeps R_impl_TrtKeeps⟩ := rfl
set_option maxRecDepth 100000 in
theorem L_impl_rules_unpinned : L.lookup f_impl_rules_unpinned = some ⟨S_impl_rules_unpinned, .r H_impl_rules_unpinned R_impl_rules_unpinned⟩ := rfl
set_option maxRecDepth 100000 in
theorem L_impl_rules_keeps : L.lookup f_impl_rules_keeps = some ⟨S_impl_rules_keeps, .r H_impl_rules_keeps R_impl_rules_keeps⟩ := rfl
set_option maxRecDepth 100000 in
theorem L_slices_IndexFunc_Simpl_PlnDone_impl_PlnDone : L.lookup f_slices_IndexFunc_Simpl_PlnDone_impl_PlnDone = some ⟨S_slices_IndexFunc_Simpl_PlnDone_impl_PlnDone, .r H_slices_IndexFunc_Simpl_PlnDone_impl_PlnDone R_slices_IndexFunc_Simpl_PlnDone_impl_PlnDone⟩ := rfl
set_option maxRecDepth 100000 in
theorem L_slices_ContainsFunc_Simpl_PlnDone_impl_PlnDone : L.lookup f_slices_ContainsFunc_Simpl_PlnDone_impl_PlnDone = some ⟨S_slices_ContainsFunc_Simpl_PlnDone_impl_PlnDone, .r H_slices_ContainsFunc_Simpl_PlnDone_impl_PlnDone R_slices_ContainsFunc_Simpl_PlnDone_impl_PlnDone⟩ := rfl
set_option maxRecDepth 100000 in
theorem L_impl_ResResult_none : L.lookup f_impl_ResResult_none = some ⟨S_impl_ResResult_none, .r H_impl_ResResult_none R_impl_ResResult_none⟩ := rfl
set_option maxRecDepth 100000 in
theorem L_impl_codeWords : L.lookup f_impl_codeWords = some ⟨S_impl_codeWords, .r H_impl_codeWords R_impl_codeWords⟩ := rfl
set_option maxRecDepth 100000 in
theorem L_impl_joined : L.lookup f_impl_joined = some ⟨S_impl_joined, .m joinedF⟩ := rfl
set_option maxRecDepth 100000 in
theorem L_impl_ResText : L.lookup f_impl_ResText = some ⟨S_impl_ResText, .r H_impl_ResText R_impl_ResText⟩ := rfl
set_option maxRecDepth 100000 in
theorem L_impl_ResOk : L.lookup f_impl_ResOk = some ⟨S_impl_ResOk, .r H_impl_ResOk R_impl_ResOk⟩ := rfl
set_option maxRecDepth 100000 in
theorem L_impl_PlnDone_ok : L.lookup f_impl_PlnDone_ok = some ⟨S_impl_PlnDone_ok, .r H_impl_PlnDone_ok R_impl_PlnDone_ok⟩ := rfl
set_option maxRecDepth 100000 in
theorem L_impl_PlnPlan_doneOk_1 : L.lookup f_impl_PlnPlan_doneOk_1 = some ⟨S_impl_PlnPlan_doneOk_1, .r H_impl_PlnPlan_doneOk_1 R_impl_PlnPlan_doneOk_1⟩ := rfl
set_option maxRecDepth 100000 in
theorem L_impl_PlnPlan_doneOk : L.lookup f_impl_PlnPlan_doneOk = some ⟨S_impl_PlnPlan_doneOk, .r H_impl_PlnPlan_doneOk R_impl_PlnPlan_doneOk⟩ := rfl
set_option maxRecDepth 100000 in
theorem L_impl_PlnPlan_siteOk : L.lookup f_impl_PlnPlan_siteOk = some ⟨S_impl_PlnPlan_siteOk, .r H_impl_PlnPlan_siteOk R_impl_PlnPlan_siteOk⟩ := rfl
set_option maxRecDepth 100000 in
theorem L_impl_SitOk : L.lookup f_impl_SitOk = some ⟨S_impl_SitOk, .r H_impl_SitOk R_impl_SitOk⟩ := rfl
set_option maxRecDepth 100000 in
theorem L_laws_eqIntS : L.lookup f_laws_eqIntS = some ⟨S_laws_eqIntS, .r H_laws_eqIntS R_laws_eqIntS⟩ := rfl
set_option maxRecDepth 100000 in
theorem L_laws_eqFrmForm : L.lookup f_laws_eqFrmForm = some ⟨S_laws_eqFrmForm, .r H_laws_eqFrmForm R_laws_eqFrmForm⟩ := rfl
set_option maxRecDepth 100000 in
theorem L_laws_eqActLine : L.lookup f_laws_eqActLine = some ⟨S_laws_eqActLine, .r H_laws_eqActLine R_laws_eqActLine⟩ := rfl
set_option maxRecDepth 100000 in
theorem L_laws_eqActLineS : L.lookup f_laws_eqActLineS = some ⟨S_laws_eqActLineS, .r H_laws_eqActLineS R_laws_eqActLineS⟩ := rfl
set_option maxRecDepth 100000 in
theorem L_laws_eqActLineSS : L.lookup f_laws_eqActLineSS = some ⟨S_laws_eqActLineSS, .r H_laws_eqActLineSS R_laws_eqActLineSS⟩ := rfl
set_option maxRecDepth 100000 in
theorem L_laws_eqPlnPlan : L.lookup f_laws_eqPlnPlan = some ⟨S_laws_eqPlnPlan, .r H_laws_eqPlnPlan R_laws_eqPlnPlan⟩ := rfl
set_option maxRecDepth 100000 in
theorem L_laws_eqResResult : L.lookup f_laws_eqResResult = some ⟨S_laws_eqResResult, .r H_laws_eqResResult R_laws_eqResResult⟩ := rfl
set_option maxRecDepth 100000 in
theorem L_laws_eqPlnDone : L.lookup f_laws_eqPlnDone = some ⟨S_laws_eqPlnDone, .r H_laws_eqPlnDone R_laws_eqPlnDone⟩ := rfl
set_option maxRecDepth 100000 in
theorem L_laws_eqPlnDoneS : L.lookup f_laws_eqPlnDoneS = some ⟨S_laws_eqPlnDoneS, .r H_laws_eqPlnDoneS R_laws_eqPlnDoneS⟩ := rfl
set_option maxRecDepth 100000 in
theorem L_laws_eqSitSite : L.lookup f_laws_eqSitSite = some ⟨S_laws_eqSitSite, .r H_laws_eqSitSite R_laws_eqSitSite⟩ := rfl
set_option maxRecDepth 100000 in
theorem L_laws_FnExactSitOk : L.lookup f_laws_FnExactSitOk = some ⟨S_laws_FnExactSitOk, .r H_laws_FnExactSitOk R_laws_FnExactSitOk⟩ := rfl
end Go.Proofs.YtdibnlhlngodeaaGreatDoor

/- The residual programs of the functions, and the table of them. -/
import Derived.Test.YtdibnlhlngodeaaGreatDoorTd
set_option linter.unusedVariables false
set_option linter.unusedSimpArgs false
namespace Go.Proofs.YtdibnlhlngodeaaGreatDoor
open Go Go.Tm
abbrev aI (k : Nat) : E := .vi .i64 (.v k)
abbrev aS (k : Nat) : E := .s (.v k)
abbrev aB (k : Nat) : E := .vb (.v k)
abbrev aZ (k : Int) : E := .vi .i64 (.z k)
abbrev f_laws_szIntS : Nat := 52
abbrev f_laws_szFrmForm : Nat := 203
abbrev f_laws_szActLine : Nat := 157
abbrev f_laws_szActLineS : Nat := 103
abbrev f_laws_szActLineSS : Nat := 51
abbrev f_laws_szPlnPlan : Nat := 10
abbrev f_laws_szResResult : Nat := 158
abbrev f_laws_szPlnDone : Nat := 104
abbrev f_laws_szPlnDoneS : Nat := 53
abbrev f_laws_szPlnCall : Nat := 23
abbrev f_laws_szPlnCallS : Nat := 73
abbrev f_laws_szClkGot : Nat := 141
abbrev f_laws_szClkGotS : Nat := 74
abbrev f_laws_szClkClerk : Nat := 28
abbrev f_laws_toIntS : Nat := 56
abbrev f_laws_toFrmForm : Nat := 205
abbrev f_laws_toActLine : Nat := 160
abbrev f_laws_toActLineS : Nat := 110
abbrev f_laws_toActLineSS : Nat := 55
abbrev f_laws_toPlnPlan : Nat := 13
abbrev f_laws_toResResult : Nat := 161
abbrev f_laws_toPlnDone : Nat := 111
abbrev f_laws_toPlnDoneS : Nat := 57
abbrev f_laws_toPlnCall : Nat := 25
abbrev f_laws_toPlnCallS : Nat := 76
abbrev f_laws_toClkGot : Nat := 143
abbrev f_laws_toClkGotS : Nat := 77
abbrev f_laws_toClkClerk : Nat := 30
abbrev f_spec_l1In : Nat := 63
abbrev f_spec_l1All : Nat := 98
abbrev f_spec_l2Small : Nat := 241
abbrev f_spec_l2Line : Nat := 202
abbrev f_spec_ActOk : Nat := 156
abbrev f_spec_CatOk : Nat := 97
abbrev f_spec_ValOk : Nat := 108
abbrev f_spec_TrtOk : Nat := 99
abbrev f_spec_PlnOk : Nat := 47
abbrev f_spec_FrmZero : Nat := 132
abbrev f_spec_FrmPot : Nat := 126
abbrev f_spec_l1Sum : Nat := 216
abbrev f_spec_l3Copy : Nat := 213
abbrev f_spec_FrmOk : Nat := 246
abbrev f_spec_FrmInto : Nat := 214
abbrev f_spec_l3Minus : Nat := 215
abbrev f_spec_l3Row : Nat := 217
abbrev f_spec_l3Walk : Nat := 176
abbrev f_spec_RowsOf : Nat := 127
abbrev f_spec_l4Reads : Nat := 128
abbrev f_spec_CatPart : Nat := 129
abbrev f_spec_l4Same : Nat := 131
abbrev f_spec_CatHas : Nat := 130
abbrev f_spec_l4Both : Nat := 64
abbrev f_spec_l1Digits : Nat := 242
abbrev f_spec_ResText : Nat := 204
abbrev f_spec_ResOk : Nat := 159
abbrev f_spec_l6Done : Nat := 109
abbrev f_spec_l5Parts : Nat := 177
abbrev f_spec_l5Times : Nat := 178
abbrev f_spec_TrtKeeps : Nat := 133
abbrev f_spec_l5Still : Nat := 134
abbrev f_spec_l7Seqs : Nat := 107
abbrev f_spec_l9Got : Nat := 142
abbrev f_spec_ArgOk : Nat := 138
abbrev f_spec_l6Call : Nat := 105
abbrev f_spec_l9Has : Nat := 81
abbrev f_spec_l9Ok : Nat := 75
abbrev f_spec_ClkOk : Nat := 29
abbrev f_impl_in : Nat := 112
abbrev f_slices_IndexFunc_SSimpl_ActLine_Simpl_ActLine : Nat := 206
abbrev f_slices_ContainsFunc_SSimpl_ActLine_Simpl_ActLine : Nat := 162
abbrev f_impl_within_1 : Nat := 166
abbrev f_slices_IndexFunc_Sint_int : Nat := 208
abbrev f_slices_ContainsFunc_Sint_int : Nat := 165
abbrev f_impl_within : Nat := 114
abbrev f_impl_FrmForm_small : Nat := 243
abbrev f_slices_Equal_Sint_int : Nat := 227
abbrev f_impl_FrmForm_same : Nat := 244
abbrev f_impl_ActLine_ok : Nat := 207
abbrev f_impl_ActOk : Nat := 164
abbrev f_impl_CatOk_1 : Nat := 163
abbrev f_impl_CatOk : Nat := 113
abbrev f_impl_PlnPlan_treaty : Nat := 116
abbrev f_impl_TrtOk_1 : Nat := 167
abbrev f_impl_ValOk : Nat := 122
abbrev f_impl_TrtOk : Nat := 115
abbrev f_impl_PlnOk : Nat := 58
abbrev f_impl_FrmZero : Nat := 101
abbrev f_impl_FrmPot : Nat := 181
abbrev f_slices_Clone_Sint_int : Nat := 149
abbrev f_impl_FrmForm_copied : Nat := 260
abbrev f_impl_forms : Nat := 248
abbrev f_impl_FrmOk : Nat := 100
abbrev f_slices_IndexFunc_Simpl_FrmForm_impl_FrmForm : Nat := 237
abbrev f_slices_ContainsFunc_Simpl_FrmForm_impl_FrmForm : Nat := 194
abbrev f_impl_FrmInto_1 : Nat := 261
abbrev f_impl_FrmForm_add : Nat := 262
abbrev f_impl_checked : Nat := 263
abbrev f_impl_FrmInto : Nat := 249
abbrev f_impl_FrmTimes : Nat := 250
abbrev f_impl_FrmAdd : Nat := 251
abbrev f_impl_walker_walk : Nat := 222
abbrev f_impl_RowsOf : Nat := 182
abbrev f_impl_CatPart_1 : Nat := 223
abbrev f_impl_CatPart : Nat := 183
abbrev f_impl_zeros_1 : Nat := 224
abbrev f_impl_zeros : Nat := 184
abbrev f_impl_CatHas_1 : Nat := 226
abbrev f_slices_IndexFunc_SSint_Sint : Nat := 225
abbrev f_impl_CatHas : Nat := 185
abbrev f_impl_CatForms : Nat := 136
abbrev f_impl_pots : Nat := 186
abbrev f_slices_Grow_Simpl_FrmForm_impl_FrmForm : Nat := 252
abbrev f_slices_Concat_Simpl_FrmForm_impl_FrmForm : Nat := 228
abbrev f_impl_RowRow_reads_1 : Nat := 229
abbrev f_impl_RowRow_reads : Nat := 187
abbrev f_impl_CatPins : Nat := 137
abbrev f_impl_rulesOf : Nat := 67
abbrev f_slices_IndexFunc_Simpl_PlnDone_impl_PlnDone : Nat := 209
abbrev f_slices_ContainsFunc_Simpl_PlnDone_impl_PlnDone : Nat := 171
abbrev f_impl_ResResult_none : Nat := 210
abbrev f_impl_codeWords : Nat := 257
abbrev f_impl_joined : Nat := 258
abbrev f_impl_ResText : Nat := 245
abbrev f_impl_ResOk : Nat := 211
abbrev f_impl_PlnDone_ok : Nat := 173
abbrev f_impl_PlnPlan_doneOk_1 : Nat := 172
abbrev f_impl_PlnPlan_doneOk : Nat := 123
abbrev f_impl_PlnPlan_isClient : Nat := 168
abbrev f_impl_ArgOk : Nat := 169
abbrev f_impl_PlnPlan_callOk : Nat := 118
abbrev f_slices_ContainsFunc_SSint_Sint : Nat := 219
abbrev f_impl_partsOk_1 : Nat := 259
abbrev f_impl_partsOk : Nat := 247
abbrev f_impl_addedOk : Nat := 120
abbrev f_impl_TrtTreaty_ok : Nat := 218
abbrev f_impl_dot : Nat := 221
abbrev f_impl_TrtKeeps_1 : Nat := 220
abbrev f_impl_TrtKeeps : Nat := 179
abbrev f_impl_rules_unpinned : Nat := 180
abbrev f_impl_rules_keeps : Nat := 135
abbrev f_impl_PlnPlan_seqsOk_1 : Nat := 170
abbrev f_impl_PlnPlan_seqsOk : Nat := 121
abbrev f_impl_ClkGot_none : Nat := 144
abbrev f_impl_PlnPlan_clerkOk : Nat := 78
abbrev f_impl_ClkOk : Nat := 31
abbrev f_laws_eqIntS : Nat := 61
abbrev f_laws_eqFrmForm : Nat := 212
abbrev f_laws_eqActLine : Nat := 174
abbrev f_laws_eqActLineS : Nat := 124
abbrev f_laws_eqActLineSS : Nat := 60
abbrev f_laws_eqPlnPlan : Nat := 16
abbrev f_laws_eqResResult : Nat := 175
abbrev f_laws_eqPlnDone : Nat := 125
abbrev f_laws_eqPlnDoneS : Nat := 62
abbrev f_laws_eqPlnCall : Nat := 27
abbrev f_laws_eqPlnCallS : Nat := 79
abbrev f_laws_eqClkGot : Nat := 145
abbrev f_laws_eqClkGotS : Nat := 80
abbrev f_laws_eqClkClerk : Nat := 32
abbrev f_laws_FnExactClkOk : Nat := 6

def R_laws_szIntS : R :=
 .ite (.cmp .lt (.bin .sub .i64 (.v 1) (.len (.v 0))) (.z 0))
 (
 .done [(.vi .i64 (.z (-1)))])
 (
 .done [(.vi .i64 (.bin .sub .i64 (.v 1) (.len (.v 0))))])

def R_laws_szFrmForm : R :=
 .i (.call f_laws_szIntS [(aS 0), (aI 3)] [.i .i64] 4) <|
 .ite (.cmp .lt (.v 4) (.z 0))
 (
 .done [(.vi .i64 (.z (-1)))])
 (
 .i (.call f_laws_szIntS [(aS 1), (aI 4)] [.i .i64] 5) <|
 .ite (.cmp .lt (.v 5) (.z 0))
 (
 .done [(.vi .i64 (.z (-1)))])
 (
 .done [(aI 5)]))

def R_laws_szActLine : R :=
 .i (.call f_laws_szFrmForm [(aS 3), (aS 4), (aI 5), (aI 6)] [.i .i64] 7) <|
 .ite (.cmp .lt (.v 7) (.z 0))
 (
 .done [(.vi .i64 (.z (-1)))])
 (
 .done [(aI 7)])

def R_laws_szActLineS : R :=
 .ite (.cmp .lt (.bin .sub .i64 (.v 1) (.len (.v 0))) (.z 0))
 (
 .done [(.vi .i64 (.z (-1)))])
 (
 .loop 2 [(.bin .sub .i64 (.v 1) (.len (.v 0))), (.z 0)] <|
 .ite (.cmp .lt (.v 3) (.len (.v 0)))
 (
 .i (.idx (.v 0) (.v 3) (.g [.i .i64, .i .i64, .i .i64, .s, .s, .i .i64]) 4) <|
 .i (.call f_laws_szActLine [(aI 4), (aI 5), (aI 6), (aS 7), (aS 8), (aI 9), (aI 2)] [.i .i64] 10) <|
 .ite (.cmp .lt (.v 10) (.z 0))
 (
 .esc <|
 .done [(.vi .i64 (.z (-1)))])
 (
 .next [(.v 10), (.bin .add .i64 (.v 3) (.z 1))]))
 (
 .esc <|
 .done [(aI 2)]))

def R_laws_szActLineSS : R :=
 .ite (.cmp .lt (.bin .sub .i64 (.v 1) (.len (.v 0))) (.z 0))
 (
 .done [(.vi .i64 (.z (-1)))])
 (
 .loop 2 [(.bin .sub .i64 (.v 1) (.len (.v 0))), (.z 0)] <|
 .ite (.cmp .lt (.v 3) (.len (.v 0)))
 (
 .i (.idx (.v 0) (.v 3) (.one (.s)) 4) <|
 .i (.call f_laws_szActLineS [(aS 4), (aI 2)] [.i .i64] 5) <|
 .ite (.cmp .lt (.v 5) (.z 0))
 (
 .esc <|
 .done [(.vi .i64 (.z (-1)))])
 (
 .next [(.v 5), (.bin .add .i64 (.v 3) (.z 1))]))
 (
 .esc <|
 .done [(aI 2)]))

def R_laws_szPlnPlan : R :=
 .i (.call f_laws_szActLineSS [(aS 1), (aI 4)] [.i .i64] 5) <|
 .ite (.cmp .lt (.v 5) (.z 0))
 (
 .done [(.vi .i64 (.z (-1)))])
 (
 .i (.call f_laws_szIntS [(aS 2), (aI 5)] [.i .i64] 6) <|
 .ite (.cmp .lt (.v 6) (.z 0))
 (
 .done [(.vi .i64 (.z (-1)))])
 (
 .i (.call f_laws_szIntS [(aS 3), (aI 6)] [.i .i64] 7) <|
 .ite (.cmp .lt (.v 7) (.z 0))
 (
 .done [(.vi .i64 (.z (-1)))])
 (
 .done [(aI 7)])))

def R_laws_szResResult : R :=
 .i (.call f_laws_szIntS [(aS 1), (aI 2)] [.i .i64] 3) <|
 .ite (.cmp .lt (.v 3) (.z 0))
 (
 .done [(.vi .i64 (.z (-1)))])
 (
 .done [(aI 3)])

def R_laws_szPlnDone : R :=
 .i (.call f_laws_szResResult [(aI 1), (aS 2), (aI 3)] [.i .i64] 4) <|
 .ite (.cmp .lt (.v 4) (.z 0))
 (
 .done [(.vi .i64 (.z (-1)))])
 (
 .done [(aI 4)])

def R_laws_szPlnDoneS : R :=
 .ite (.cmp .lt (.bin .sub .i64 (.v 1) (.len (.v 0))) (.z 0))
 (
 .done [(.vi .i64 (.z (-1)))])
 (
 .loop 2 [(.bin .sub .i64 (.v 1) (.len (.v 0))), (.z 0)] <|
 .ite (.cmp .lt (.v 3) (.len (.v 0)))
 (
 .i (.idx (.v 0) (.v 3) (.g [.i .i64, .i .i64, .s]) 4) <|
 .i (.call f_laws_szPlnDone [(aI 4), (aI 5), (aS 6), (aI 2)] [.i .i64] 7) <|
 .ite (.cmp .lt (.v 7) (.z 0))
 (
 .esc <|
 .done [(.vi .i64 (.z (-1)))])
 (
 .next [(.v 7), (.bin .add .i64 (.v 3) (.z 1))]))
 (
 .esc <|
 .done [(aI 2)]))

def R_laws_szPlnCall : R :=
 .i (.call f_laws_szIntS [(aS 3), (aI 4)] [.i .i64] 5) <|
 .ite (.cmp .lt (.v 5) (.z 0))
 (
 .done [(.vi .i64 (.z (-1)))])
 (
 .done [(aI 5)])

def R_laws_szPlnCallS : R :=
 .ite (.cmp .lt (.bin .sub .i64 (.v 1) (.len (.v 0))) (.z 0))
 (
 .done [(.vi .i64 (.z (-1)))])
 (
 .loop 2 [(.bin .sub .i64 (.v 1) (.len (.v 0))), (.z 0)] <|
 .ite (.cmp .lt (.v 3) (.len (.v 0)))
 (
 .i (.idx (.v 0) (.v 3) (.g [.i .i64, .i .i64, .i .i64, .s]) 4) <|
 .i (.call f_laws_szPlnCall [(aI 4), (aI 5), (aI 6), (aS 7), (aI 2)] [.i .i64] 8) <|
 .ite (.cmp .lt (.v 8) (.z 0))
 (
 .esc <|
 .done [(.vi .i64 (.z (-1)))])
 (
 .next [(.v 8), (.bin .add .i64 (.v 3) (.z 1))]))
 (
 .esc <|
 .done [(aI 2)]))

def R_laws_szClkGot : R :=
 .i (.call f_laws_szIntS [(aS 1), (aI 3)] [.i .i64] 4) <|
 .ite (.cmp .lt (.v 4) (.z 0))
 (
 .done [(.vi .i64 (.z (-1)))])
 (
 .i (.call f_laws_szIntS [(aS 2), (aI 4)] [.i .i64] 5) <|
 .ite (.cmp .lt (.v 5) (.z 0))
 (
 .done [(.vi .i64 (.z (-1)))])
 (
 .done [(aI 5)]))

def R_laws_szClkGotS : R :=
 .ite (.cmp .lt (.bin .sub .i64 (.v 1) (.len (.v 0))) (.z 0))
 (
 .done [(.vi .i64 (.z (-1)))])
 (
 .loop 2 [(.bin .sub .i64 (.v 1) (.len (.v 0))), (.z 0)] <|
 .ite (.cmp .lt (.v 3) (.len (.v 0)))
 (
 .i (.idx (.v 0) (.v 3) (.g [.b, .s, .s]) 4) <|
 .i (.call f_laws_szClkGot [(aB 4), (aS 5), (aS 6), (aI 2)] [.i .i64] 7) <|
 .ite (.cmp .lt (.v 7) (.z 0))
 (
 .esc <|
 .done [(.vi .i64 (.z (-1)))])
 (
 .next [(.v 7), (.bin .add .i64 (.v 3) (.z 1))]))
 (
 .esc <|
 .done [(aI 2)]))

def R_laws_szClkClerk : R :=
 .i (.call f_laws_szIntS [(aS 2), (aI 6)] [.i .i64] 7) <|
 .ite (.cmp .lt (.v 7) (.z 0))
 (
 .done [(.vi .i64 (.z (-1)))])
 (
 .i (.call f_laws_szPlnDoneS [(aS 3), (aI 7)] [.i .i64] 8) <|
 .ite (.cmp .lt (.v 8) (.z 0))
 (
 .done [(.vi .i64 (.z (-1)))])
 (
 .i (.call f_laws_szPlnCallS [(aS 4), (aI 8)] [.i .i64] 9) <|
 .ite (.cmp .lt (.v 9) (.z 0))
 (
 .done [(.vi .i64 (.z (-1)))])
 (
 .i (.call f_laws_szClkGotS [(aS 5), (aI 9)] [.i .i64] 10) <|
 .ite (.cmp .lt (.v 10) (.z 0))
 (
 .done [(.vi .i64 (.z (-1)))])
 (
 .done [(aI 10)]))))

def R_laws_toIntS : R :=
 .i (.chk (.cmp .le (.z 0) (.len (.v 0)))) <|
 .i (.chk (.cmp .le (.len (.v 0)) (.z 8796093022208))) <|
 .loop 1 [(.rep (.len (.v 0)) (aZ 0)), (.z 0)] <|
 .ite (.cmp .lt (.v 2) (.len (.v 0)))
 (
 .i (.idx (.v 0) (.v 2) (.one (.i .i64)) 3) <|
 .i (.chk (.cmp .le (.z 0) (.v 2))) <|
 .i (.chk (.cmp .lt (.v 2) (.len (.v 1)))) <|
 .i (.idx (.v 1) (.v 2) (.one (.i .i64)) 4) <|
 .next [(.set (.v 1) (.v 2) (aI 3)), (.bin .add .i64 (.v 2) (.z 1))])
 (
 .esc <|
 .done [(aS 1)])

def R_laws_toFrmForm : R :=
 .i (.call f_laws_toIntS [(aS 0)] [.s] 3) <|
 .i (.call f_laws_toIntS [(aS 1)] [.s] 4) <|
 .done [(aS 3), (aS 4), (aI 2)]

def R_laws_toActLine : R :=
 .i (.call f_laws_toFrmForm [(aS 3), (aS 4), (aI 5)] [.s, .s, .i .i64] 6) <|
 .done [(aI 0), (aI 1), (aI 2), (aS 6), (aS 7), (aI 8)]

def R_laws_toActLineS : R :=
 .i (.chk (.cmp .le (.z 0) (.len (.v 0)))) <|
 .i (.chk (.cmp .le (.len (.v 0)) (.z 879609302220))) <|
 .loop 1 [(.rep (.len (.v 0)) (.g (.cons (aZ 0) (.cons (aZ 0) (.cons (aZ 0) (.cons (.s .nil) (.cons (.s .nil) (.cons (aZ 0) .nil)))))))), (.z 0)] <|
 .ite (.cmp .lt (.v 2) (.len (.v 0)))
 (
 .i (.idx (.v 0) (.v 2) (.g [.i .i64, .i .i64, .i .i64, .s, .s, .i .i64]) 3) <|
 .i (.call f_laws_toActLine [(aI 3), (aI 4), (aI 5), (aS 6), (aS 7), (aI 8)] [.i .i64, .i .i64, .i .i64, .s, .s, .i .i64] 9) <|
 .i (.chk (.cmp .le (.z 0) (.v 2))) <|
 .i (.chk (.cmp .lt (.v 2) (.len (.v 1)))) <|
 .i (.idx (.v 1) (.v 2) (.g [.i .i64, .i .i64, .i .i64, .s, .s, .i .i64]) 15) <|
 .next [(.set (.v 1) (.v 2) (.g (.cons (aI 9) (.cons (aI 10) (.cons (aI 11) (.cons (aS 12) (.cons (aS 13) (.cons (aI 14) .nil)))))))), (.bin .add .i64 (.v 2) (.z 1))])
 (
 .esc <|
 .done [(aS 1)])

def R_laws_toActLineSS : R :=
 .i (.chk (.cmp .le (.z 0) (.len (.v 0)))) <|
 .i (.chk (.cmp .le (.len (.v 0)) (.z 2932031007402))) <|
 .loop 1 [(.rep (.len (.v 0)) (.s .nil)), (.z 0)] <|
 .ite (.cmp .lt (.v 2) (.len (.v 0)))
 (
 .i (.idx (.v 0) (.v 2) (.one (.s)) 3) <|
 .i (.call f_laws_toActLineS [(aS 3)] [.s] 4) <|
 .i (.chk (.cmp .le (.z 0) (.v 2))) <|
 .i (.chk (.cmp .lt (.v 2) (.len (.v 1)))) <|
 .i (.idx (.v 1) (.v 2) (.one (.s)) 5) <|
 .next [(.set (.v 1) (.v 2) (aS 4)), (.bin .add .i64 (.v 2) (.z 1))])
 (
 .esc <|
 .done [(aS 1)])

def R_laws_toPlnPlan : R :=
 .i (.call f_laws_toActLineSS [(aS 1)] [.s] 4) <|
 .i (.call f_laws_toIntS [(aS 2)] [.s] 5) <|
 .i (.call f_laws_toIntS [(aS 3)] [.s] 6) <|
 .done [(aI 0), (aS 4), (aS 5), (aS 6)]

def R_laws_toResResult : R :=
 .i (.call f_laws_toIntS [(aS 1)] [.s] 2) <|
 .done [(aI 0), (aS 2)]

def R_laws_toPlnDone : R :=
 .i (.call f_laws_toResResult [(aI 1), (aS 2)] [.i .i64, .s] 3) <|
 .done [(aI 0), (aI 3), (aS 4)]

def R_laws_toPlnDoneS : R :=
 .i (.chk (.cmp .le (.z 0) (.len (.v 0)))) <|
 .i (.chk (.cmp .le (.len (.v 0)) (.z 1759218604441))) <|
 .loop 1 [(.rep (.len (.v 0)) (.g (.cons (aZ 0) (.cons (aZ 0) (.cons (.s .nil) .nil))))), (.z 0)] <|
 .ite (.cmp .lt (.v 2) (.len (.v 0)))
 (
 .i (.idx (.v 0) (.v 2) (.g [.i .i64, .i .i64, .s]) 3) <|
 .i (.call f_laws_toPlnDone [(aI 3), (aI 4), (aS 5)] [.i .i64, .i .i64, .s] 6) <|
 .i (.chk (.cmp .le (.z 0) (.v 2))) <|
 .i (.chk (.cmp .lt (.v 2) (.len (.v 1)))) <|
 .i (.idx (.v 1) (.v 2) (.g [.i .i64, .i .i64, .s]) 9) <|
 .next [(.set (.v 1) (.v 2) (.g (.cons (aI 6) (.cons (aI 7) (.cons (aS 8) .nil))))), (.bin .add .i64 (.v 2) (.z 1))])
 (
 .esc <|
 .done [(aS 1)])

def R_laws_toPlnCall : R :=
 .i (.call f_laws_toIntS [(aS 3)] [.s] 4) <|
 .done [(aI 0), (aI 1), (aI 2), (aS 4)]

def R_laws_toPlnCallS : R :=
 .i (.chk (.cmp .le (.z 0) (.len (.v 0)))) <|
 .i (.chk (.cmp .le (.len (.v 0)) (.z 1466015503701))) <|
 .loop 1 [(.rep (.len (.v 0)) (.g (.cons (aZ 0) (.cons (aZ 0) (.cons (aZ 0) (.cons (.s .nil) .nil)))))), (.z 0)] <|
 .ite (.cmp .lt (.v 2) (.len (.v 0)))
 (
 .i (.idx (.v 0) (.v 2) (.g [.i .i64, .i .i64, .i .i64, .s]) 3) <|
 .i (.call f_laws_toPlnCall [(aI 3), (aI 4), (aI 5), (aS 6)] [.i .i64, .i .i64, .i .i64, .s] 7) <|
 .i (.chk (.cmp .le (.z 0) (.v 2))) <|
 .i (.chk (.cmp .lt (.v 2) (.len (.v 1)))) <|
 .i (.idx (.v 1) (.v 2) (.g [.i .i64, .i .i64, .i .i64, .s]) 11) <|
 .next [(.set (.v 1) (.v 2) (.g (.cons (aI 7) (.cons (aI 8) (.cons (aI 9) (.cons (aS 10) .nil)))))), (.bin .add .i64 (.v 2) (.z 1))])
 (
 .esc <|
 .done [(aS 1)])

def R_laws_toClkGot : R :=
 .i (.call f_laws_toIntS [(aS 1)] [.s] 3) <|
 .i (.call f_laws_toIntS [(aS 2)] [.s] 4) <|
 .done [(aB 0), (aS 3), (aS 4)]

def R_laws_toClkGotS : R :=
 .i (.chk (.cmp .le (.z 0) (.len (.v 0)))) <|
 .i (.chk (.cmp .le (.len (.v 0)) (.z 1256584717458))) <|
 .loop 1 [(.rep (.len (.v 0)) (.g (.cons (.vb .ff) (.cons (.s .nil) (.cons (.s .nil) .nil))))), (.z 0)] <|
 .ite (.cmp .lt (.v 2) (.len (.v 0)))
 (
 .i (.idx (.v 0) (.v 2) (.g [.b, .s, .s]) 3) <|
 .i (.call f_laws_toClkGot [(aB 3), (aS 4), (aS 5)] [.b, .s, .s] 6) <|
 .i (.chk (.cmp .le (.z 0) (.v 2))) <|
 .i (.chk (.cmp .lt (.v 2) (.len (.v 1)))) <|
 .i (.idx (.v 1) (.v 2) (.g [.b, .s, .s]) 9) <|
 .next [(.set (.v 1) (.v 2) (.g (.cons (aB 6) (.cons (aS 7) (.cons (aS 8) .nil))))), (.bin .add .i64 (.v 2) (.z 1))])
 (
 .esc <|
 .done [(aS 1)])

def R_laws_toClkClerk : R :=
 .i (.call f_laws_toIntS [(aS 2)] [.s] 6) <|
 .i (.call f_laws_toPlnDoneS [(aS 3)] [.s] 7) <|
 .i (.call f_laws_toPlnCallS [(aS 4)] [.s] 8) <|
 .i (.call f_laws_toClkGotS [(aS 5)] [.s] 9) <|
 .done [(aB 0), (aI 1), (aS 6), (aS 7), (aS 8), (aS 9)]

def R_spec_l1In : R :=
 .ite (.cmp .le (.v 1) (.v 0))
 (
 .done [(.vb (.cmp .le (.v 0) (.v 2)))])
 (
 .done [(.vb .ff)])

def R_spec_l1All : R :=
 .ite (.not (.cmp .eq (.len (.v 0)) (.v 1)))
 (
 .done [(.vb .ff)])
 (
 .loop 3 [(.z 0)] <|
 .ite (.cmp .lt (.v 3) (.len (.v 0)))
 (
 .i (.idx (.v 0) (.v 3) (.one (.i .i64)) 4) <|
 .i (.call f_spec_l1In [(aI 4), (.vi .i64 (.bin .sub .i64 (.z 0) (.v 2))), (aI 2)] [.b] 5) <|
 .ite (.not (.v 5))
 (
 .esc <|
 .done [(.vb .ff)])
 (
 .next [(.bin .add .i64 (.v 3) (.z 1))]))
 (
 .esc <|
 .done [(.vb .tt)]))

def R_spec_l2Small : R :=
 .i (.call f_spec_l1All [(aS 0), (aZ 3), (aZ 2)] [.b] 3) <|
 .ite (.v 3)
 (
 .i (.call f_spec_l1All [(aS 1), (aZ 2), (aZ 2)] [.b] 4) <|
 .ite (.v 4)
 (
 .i (.call f_spec_l1In [(aI 2), (.vi .i64 (.z (-20))), (aZ 20)] [.b] 5) <|
 .done [(aB 5)])
 (
 .done [(.vb .ff)]))
 (
 .done [(.vb .ff)])

def R_spec_l2Line : R :=
 .ite (.cmp .eq (.v 0) (.z 1))
 (
 .ite (.cmp .eq (.v 1) (.z 0))
 (
 .i (.call f_spec_l1In [(aI 2), (aZ 1), (aZ 6)] [.b] 6) <|
 .ite (.v 6)
 (
 .i (.call f_spec_l2Small [(aS 3), (aS 4), (aI 5)] [.b] 7) <|
 .done [(aB 7)])
 (
 .done [(.vb .ff)]))
 (
 .done [(.vb .ff)]))
 (
 .ite (.cmp .eq (.v 0) (.z 2))
 (
 .i (.call f_spec_l1In [(aI 1), (aZ 0), (aZ 2)] [.b] 6) <|
 .ite (.v 6)
 (
 .ite (.cmp .eq (.v 2) (.z 0))
 (
 .i (.call f_spec_l2Small [(aS 3), (aS 4), (aI 5)] [.b] 7) <|
 .done [(aB 7)])
 (
 .done [(.vb .ff)]))
 (
 .done [(.vb .ff)]))
 (
 .ite (.cmp .eq (.v 0) (.z 3))
 (
 .ite (.cmp .eq (.v 1) (.z 0))
 (
 .ite (.cmp .eq (.v 2) (.z 0))
 (
 .i (.call f_spec_l2Small [(aS 3), (aS 4), (aI 5)] [.b] 6) <|
 .done [(aB 6)])
 (
 .done [(.vb .ff)]))
 (
 .done [(.vb .ff)]))
 (
 .ite (.cmp .eq (.v 0) (.z 4))
 (
 .ite (.cmp .eq (.v 1) (.z 0))
 (
 .ite (.cmp .eq (.v 2) (.z 0))
 (
 .ite (.cmp .eq (.bin .add .i64 (.len (.v 3)) (.len (.v 4))) (.z 0))
 (
 .done [(.vb (.cmp .eq (.v 5) (.z 0)))])
 (
 .done [(.vb .ff)]))
 (
 .done [(.vb .ff)]))
 (
 .done [(.vb .ff)]))
 (
 .done [(.vb .ff)]))))

def R_spec_ActOk : R :=
 .loop 1 [(.z 0), (.z 0)] <|
 .ite (.cmp .lt (.v 2) (.len (.v 0)))
 (
 .i (.idx (.v 0) (.v 2) (.g [.i .i64, .i .i64, .i .i64, .s, .s, .i .i64]) 3) <|
 .i (.call f_spec_l2Line [(aI 3), (aI 4), (aI 5), (aS 6), (aS 7), (aI 8)] [.b] 9) <|
 .ite (.not (.v 9))
 (
 .esc <|
 .done [(.vb .ff)])
 (
 .i (.idx (.v 0) (.v 2) (.g [.i .i64, .i .i64, .i .i64, .s, .s, .i .i64]) 10) <|
 .ite (.cmp .eq (.v 10) (.z 1))
 (
 .next [(.bin .add .i64 (.v 1) (.z 1)), (.bin .add .i64 (.v 2) (.z 1))])
 (
 .next [(.v 1), (.bin .add .i64 (.v 2) (.z 1))])))
 (
 .esc <|
 .ite (.cmp .le (.len (.v 0)) (.z 6))
 (
 .done [(.vb (.cmp .le (.v 1) (.z 3)))])
 (
 .done [(.vb .ff)]))

def R_spec_CatOk : R :=
 .i (.call f_spec_l1In [(.vi .i64 (.len (.v 0))), (aZ 1), (aZ 4)] [.b] 1) <|
 .ite (.not (.v 1))
 (
 .done [(.vb .ff)])
 (
 .loop 2 [(.z 0)] <|
 .ite (.cmp .lt (.v 2) (.len (.v 0)))
 (
 .i (.idx (.v 0) (.v 2) (.one (.s)) 3) <|
 .i (.call f_spec_ActOk [(aS 3)] [.b] 4) <|
 .ite (.not (.v 4))
 (
 .esc <|
 .done [(.vb .ff)])
 (
 .next [(.bin .add .i64 (.v 2) (.z 1))]))
 (
 .esc <|
 .done [(.vb .tt)]))

def R_spec_ValOk : R :=
 .i (.call f_spec_l1All [(aS 0), (aZ 3), (aZ 10000)] [.b] 1) <|
 .done [(aB 1)]

def R_spec_TrtOk : R :=
 .i (.call f_spec_ValOk [(aS 0)] [.b] 2) <|
 .ite (.not (.v 2))
 (
 .done [(.vb .ff)])
 (
 .i (.call f_spec_l1In [(.vi .i64 (.len (.v 1))), (aZ 1), (aZ 3)] [.b] 3) <|
 .ite (.not (.v 3))
 (
 .done [(.vb .ff)])
 (
 .loop 4 [(.z 0)] <|
 .ite (.cmp .lt (.v 4) (.len (.v 1)))
 (
 .i (.idx (.v 1) (.v 4) (.one (.i .i64)) 5) <|
 .i (.call f_spec_l1In [(aI 5), (aZ 0), (aZ 50)] [.b] 6) <|
 .ite (.not (.v 6))
 (
 .esc <|
 .done [(.vb .ff)])
 (
 .next [(.bin .add .i64 (.v 4) (.z 1))]))
 (
 .esc <|
 .done [(.vb .tt)])))

def R_spec_PlnOk : R :=
 .i (.call f_spec_l1In [(aI 0), (aZ 1), (aZ 4)] [.b] 4) <|
 .ite (.v 4)
 (
 .i (.call f_spec_CatOk [(aS 1)] [.b] 5) <|
 .ite (.v 5)
 (
 .i (.call f_spec_l1All [(aS 3), (aZ 3), (aZ 1000)] [.b] 6) <|
 .ite (.v 6)
 (
 .i (.call f_spec_TrtOk [(aS 3), (aS 2)] [.b] 7) <|
 .done [(aB 7)])
 (
 .done [(.vb .ff)]))
 (
 .done [(.vb .ff)]))
 (
 .done [(.vb .ff)])

def R_spec_FrmZero : R :=
 .done [(.s (.cons (aZ 0) (.cons (aZ 0) (.cons (aZ 0) .nil)))), (.s (.cons (aZ 0) (.cons (aZ 0) .nil))), (aZ 0)]

def R_spec_FrmPot : R :=
 .i (.call f_spec_l1In [(aI 0), (aZ 0), (aZ 2)] [.b] 1) <|
 .ite (.not (.v 1))
 (
 .done [(.s .nil), (.s .nil), (aZ 0)])
 (
 .i (.call f_spec_FrmZero [] [.s, .s, .i .i64] 2) <|
 .i (.chk (.cmp .le (.z 0) (.v 0))) <|
 .i (.chk (.cmp .lt (.v 0) (.len (.v 2)))) <|
 .i (.idx (.v 2) (.v 0) (.one (.i .i64)) 5) <|
 .done [(.s (.set (.v 2) (.v 0) (aZ 1))), (aS 3), (aI 4)])

def R_spec_l1Sum : R :=
 .i (.call f_spec_FrmZero [] [.s, .s, .i .i64] 7) <|
 .loop 10 [(.v 7), (.z 0)] <|
 .ite (.cmp .lt (.v 11) (.z 3))
 (
 .i (.idx (.v 0) (.v 11) (.one (.i .i64)) 12) <|
 .i (.idx (.v 3) (.v 11) (.one (.i .i64)) 13) <|
 .i (.chk (.cmp .le (.z 0) (.v 11))) <|
 .i (.chk (.cmp .lt (.v 11) (.len (.v 10)))) <|
 .i (.idx (.v 10) (.v 11) (.one (.i .i64)) 14) <|
 .next [(.set (.v 10) (.v 11) (.vi .i64 (.bin .add .i64 (.v 12) (.bin .mul .i64 (.v 6) (.v 13))))), (.bin .add .i64 (.v 11) (.z 1))])
 (
 .esc <|
 .loop 12 [(.v 8), (.z 0)] <|
 .ite (.cmp .lt (.v 13) (.z 2))
 (
 .i (.idx (.v 1) (.v 13) (.one (.i .i64)) 14) <|
 .i (.idx (.v 4) (.v 13) (.one (.i .i64)) 15) <|
 .i (.chk (.cmp .le (.z 0) (.v 13))) <|
 .i (.chk (.cmp .lt (.v 13) (.len (.v 12)))) <|
 .i (.idx (.v 12) (.v 13) (.one (.i .i64)) 16) <|
 .next [(.set (.v 12) (.v 13) (.vi .i64 (.bin .add .i64 (.v 14) (.bin .mul .i64 (.v 6) (.v 15))))), (.bin .add .i64 (.v 13) (.z 1))])
 (
 .esc <|
 .done [(aS 10), (aS 12), (.vi .i64 (.bin .add .i64 (.v 2) (.bin .mul .i64 (.v 6) (.v 5))))]))

def R_spec_l3Copy : R :=
 .loop 1 [.nil, (.z 0)] <|
 .ite (.cmp .lt (.v 2) (.len (.v 0)))
 (
 .i (.call f_spec_FrmZero [] [.s, .s, .i .i64] 3) <|
 .i (.idx (.v 0) (.v 2) (.g [.s, .s, .i .i64]) 6) <|
 .i (.call f_spec_l1Sum [(aS 3), (aS 4), (aI 5), (aS 6), (aS 7), (aI 8), (aZ 1)] [.s, .s, .i .i64] 9) <|
 .i (.chk (.cmp .le (.len (.app (.v 1) (.cons (.g (.cons (aS 9) (.cons (aS 10) (.cons (aI 11) .nil)))) .nil))) (.z 1256584717458))) <|
 .next [(.app (.v 1) (.cons (.g (.cons (aS 9) (.cons (aS 10) (.cons (aI 11) .nil)))) .nil)), (.bin .add .i64 (.v 2) (.z 1))])
 (
 .esc <|
 .done [(aS 1)])

def R_spec_FrmOk : R :=
 .i (.call f_spec_l1All [(aS 0), (aZ 3), (aZ 10000000)] [.b] 3) <|
 .ite (.v 3)
 (
 .i (.call f_spec_l1All [(aS 1), (aZ 2), (aZ 10000000)] [.b] 4) <|
 .ite (.v 4)
 (
 .i (.call f_spec_l1In [(aI 2), (.vi .i64 (.z (-10000000))), (aZ 10000000)] [.b] 5) <|
 .done [(aB 5)])
 (
 .done [(.vb .ff)]))
 (
 .done [(.vb .ff)])

def R_spec_FrmInto : R :=
 .i (.call f_spec_FrmOk [(aS 0), (aS 1), (aI 2)] [.b] 4) <|
 .ite (.not (.v 4))
 (
 .done [(.s .nil), (.s .nil), (aZ 0)])
 (
 .ite (.not (.cmp .eq (.len (.v 3)) (.z 3)))
 (
 .done [(.s .nil), (.s .nil), (aZ 0)])
 (
 .i (.idx (.v 3) (.z 0) (.g [.s, .s, .i .i64]) 5) <|
 .i (.call f_spec_FrmOk [(aS 5), (aS 6), (aI 7)] [.b] 8) <|
 .ite (.not (.v 8))
 (
 .done [(.s .nil), (.s .nil), (aZ 0)])
 (
 .i (.idx (.v 3) (.z 1) (.g [.s, .s, .i .i64]) 9) <|
 .i (.call f_spec_FrmOk [(aS 9), (aS 10), (aI 11)] [.b] 12) <|
 .ite (.not (.v 12))
 (
 .done [(.s .nil), (.s .nil), (aZ 0)])
 (
 .i (.idx (.v 3) (.z 2) (.g [.s, .s, .i .i64]) 13) <|
 .i (.call f_spec_FrmOk [(aS 13), (aS 14), (aI 15)] [.b] 16) <|
 .ite (.not (.v 16))
 (
 .done [(.s .nil), (.s .nil), (aZ 0)])
 (
 .i (.chk (.cmp .le (.len (.v 1)) (.z 8796093022208))) <|
 .i (.head 1 (.v 1)) <|
 .i (.chk (.cmp .le (.len (.app .nil (.v 1))) (.z 8796093022208))) <|
 .loop 17 [(.cons (aZ 0) (.cons (aZ 0) (.cons (aZ 0) .nil))), (.app .nil (.v 1)), (.z 0), (.v 2)] <|
 .ite (.cmp .lt (.v 19) (.z 3))
 (
 .i (.idx (.v 3) (.v 19) (.g [.s, .s, .i .i64]) 21) <|
 .i (.idx (.v 0) (.v 19) (.one (.i .i64)) 24) <|
 .i (.call f_spec_l1Sum [(aS 17), (aS 18), (aI 20), (aS 21), (aS 22), (aI 23), (aI 24)] [.s, .s, .i .i64] 25) <|
 .next [(.v 25), (.v 26), (.bin .add .i64 (.v 19) (.z 1)), (.v 27)])
 (
 .esc <|
 .i (.call f_spec_FrmOk [(aS 17), (aS 18), (aI 20)] [.b] 21) <|
 .ite (.not (.v 21))
 (
 .done [(.s .nil), (.s .nil), (aZ 0)])
 (
 .done [(aS 17), (aS 18), (aI 20)])))))))

def R_spec_l3Minus : R :=
 .i (.call f_spec_FrmZero [] [.s, .s, .i .i64] 3) <|
 .i (.call f_spec_l1Sum [(aS 3), (aS 4), (aI 5), (aS 0), (aS 1), (aI 2), (.vi .i64 (.z (-1)))] [.s, .s, .i .i64] 6) <|
 .done [(aS 6), (aS 7), (.vi .i64 (.bin .sub .i64 (.v 8) (.z 1)))]

def R_spec_l3Row : R :=
 .i (.call f_spec_l3Copy [(aS 1)] [.s] 3) <|
 .i (.call f_spec_l3Copy [(aS 2)] [.s] 4) <|
 .loop 5 [.nil, (.z 0)] <|
 .ite (.cmp .lt (.v 6) (.z 3))
 (
 .i (.idx (.v 0) (.v 6) (.g [.s, .s, .i .i64]) 7) <|
 .i (.call f_spec_FrmPot [(aI 6)] [.s, .s, .i .i64] 10) <|
 .i (.call f_spec_l1Sum [(aS 7), (aS 8), (aI 9), (aS 10), (aS 11), (aI 12), (.vi .i64 (.z (-1)))] [.s, .s, .i .i64] 13) <|
 .i (.chk (.cmp .le (.len (.app (.v 5) (.cons (.g (.cons (aS 13) (.cons (aS 14) (.cons (aI 15) .nil)))) .nil))) (.z 1256584717458))) <|
 .next [(.app (.v 5) (.cons (.g (.cons (aS 13) (.cons (aS 14) (.cons (aI 15) .nil)))) .nil)), (.bin .add .i64 (.v 6) (.z 1))])
 (
 .esc <|
 .done [(aS 3), (aS 5), (aS 4), (.vb .ff)])

def R_spec_l3Walk : R :=
 .loop 5 [(.v 2), (.v 4), (.v 1)] <|
 .ite (.cmp .lt (.v 7) (.len (.v 0)))
 (
 .i (.idx (.v 0) (.v 7) (.g [.i .i64, .i .i64, .i .i64, .s, .s, .i .i64]) 8) <|
 .ite (.cmp .eq (.v 8) (.z 4))
 (
 .i (.call f_spec_l3Copy [(aS 3)] [.s] 14) <|
 .esc <|
 .done [(.s (.cons (.g (.cons (aS 14) (.cons (.s .nil) (.cons (.s .nil) (.cons (.vb .tt) .nil))))) .nil))])
 (
 .i (.call f_spec_FrmInto [(aS 11), (aS 12), (aI 13), (aS 5)] [.s, .s, .i .i64] 14) <|
 .ite (.cmp .eq (.v 8) (.z 1))
 (
 .i (.call f_spec_l3Copy [(aS 5)] [.s] 17) <|
 .i (.call f_spec_l3Copy [(aS 3)] [.s] 18) <|
 .i (.chk (.cmp .le (.len (.app (.v 18) (.cons (.g (.cons (aS 14) (.cons (aS 15) (.cons (aI 16) .nil)))) .nil))) (.z 1256584717458))) <|
 .i (.call f_spec_l3Copy [(aS 6)] [.s] 19) <|
 .i (.call f_spec_l3Walk [(aS 0), (.vi .i64 (.bin .add .i64 (.v 7) (.z 1))), (aS 17), (.s (.app (.v 18) (.cons (.g (.cons (aS 14) (.cons (aS 15) (.cons (aI 16) .nil)))) .nil))), (aS 19)] [.s] 20) <|
 .i (.call f_spec_l3Copy [(aS 5)] [.s] 21) <|
 .i (.call f_spec_l3Copy [(aS 3)] [.s] 22) <|
 .i (.call f_spec_l3Minus [(aS 14), (aS 15), (aI 16)] [.s, .s, .i .i64] 23) <|
 .i (.chk (.cmp .le (.len (.app (.v 22) (.cons (.g (.cons (aS 23) (.cons (aS 24) (.cons (aI 25) .nil)))) .nil))) (.z 1256584717458))) <|
 .i (.call f_spec_l3Copy [(aS 6)] [.s] 26) <|
 .i (.call f_spec_l3Walk [(aS 0), (.vi .i64 (.bin .add .i64 (.bin .add .i64 (.v 7) (.z 1)) (.v 10))), (aS 21), (.s (.app (.v 22) (.cons (.g (.cons (aS 23) (.cons (aS 24) (.cons (aI 25) .nil)))) .nil))), (aS 26)] [.s] 27) <|
 .i (.chk (.cmp .le (.len (.v 27)) (.z 879609302220))) <|
 .i (.head 4 (.v 27)) <|
 .i (.chk (.cmp .le (.len (.app (.v 20) (.v 27))) (.z 879609302220))) <|
 .esc <|
 .done [(.s (.app (.v 20) (.v 27)))])
 (
 .ite (.cmp .eq (.v 8) (.z 2))
 (
 .i (.call f_spec_l3Copy [(aS 5)] [.s] 17) <|
 .i (.chk (.cmp .le (.z 0) (.v 9))) <|
 .i (.chk (.cmp .lt (.v 9) (.len (.v 17)))) <|
 .i (.idx (.v 17) (.v 9) (.g [.s, .s, .i .i64]) 18) <|
 .i (.call f_spec_l1Sum [(aS 18), (aS 19), (aI 20), (aS 14), (aS 15), (aI 16), (aZ 1)] [.s, .s, .i .i64] 21) <|
 .i (.chk (.cmp .le (.z 0) (.v 9))) <|
 .i (.chk (.cmp .lt (.v 9) (.len (.v 17)))) <|
 .i (.idx (.v 17) (.v 9) (.g [.s, .s, .i .i64]) 24) <|
 .next [(.set (.v 17) (.v 9) (.g (.cons (aS 21) (.cons (aS 22) (.cons (aI 23) .nil))))), (.v 6), (.bin .add .i64 (.v 7) (.z 1))])
 (
 .i (.call f_spec_l3Copy [(aS 6)] [.s] 17) <|
 .i (.chk (.cmp .le (.len (.app (.v 17) (.cons (.g (.cons (aS 14) (.cons (aS 15) (.cons (aI 16) .nil)))) .nil))) (.z 1256584717458))) <|
 .next [(.v 5), (.app (.v 17) (.cons (.g (.cons (aS 14) (.cons (aS 15) (.cons (aI 16) .nil)))) .nil)), (.bin .add .i64 (.v 7) (.z 1))]))))
 (
 .esc <|
 .i (.call f_spec_l3Row [(aS 5), (aS 3), (aS 6)] [.s, .s, .s, .b] 8) <|
 .done [(.s (.cons (.g (.cons (aS 8) (.cons (aS 9) (.cons (aS 10) (.cons (aB 11) .nil))))) .nil))])

def R_spec_RowsOf : R :=
 .i (.call f_spec_ActOk [(aS 0)] [.b] 1) <|
 .ite (.not (.v 1))
 (
 .done [(.s .nil)])
 (
 .i (.call f_spec_FrmPot [(aZ 0)] [.s, .s, .i .i64] 2) <|
 .i (.call f_spec_FrmPot [(aZ 1)] [.s, .s, .i .i64] 5) <|
 .i (.call f_spec_FrmPot [(aZ 2)] [.s, .s, .i .i64] 8) <|
 .i (.call f_spec_l3Walk [(aS 0), (aZ 0), (.s (.cons (.g (.cons (aS 2) (.cons (aS 3) (.cons (aI 4) .nil)))) (.cons (.g (.cons (aS 5) (.cons (aS 6) (.cons (aI 7) .nil)))) (.cons (.g (.cons (aS 8) (.cons (aS 9) (.cons (aI 10) .nil)))) .nil)))), (.s .nil), (.s .nil)] [.s] 11) <|
 .done [(aS 11)])

def R_spec_l4Reads : R :=
 .i (.chk (.cmp .le (.len (.v 0)) (.z 70368744177664))) <|
 .i (.head 1 (.v 0)) <|
 .i (.chk (.cmp .le (.len (.app .nil (.v 0))) (.z 70368744177664))) <|
 .loop 2 [(.app .nil (.v 0)), (.z 0)] <|
 .ite (.cmp .lt (.v 3) (.len (.v 1)))
 (
 .loop 4 [(.v 2), (.z 0)] <|
 .ite (.cmp .lt (.v 5) (.z 3))
 (
 .i (.idx (.v 1) (.v 3) (.g [.s, .s, .i .i64]) 6) <|
 .i (.idx (.v 6) (.v 5) (.one (.i .i64)) 9) <|
 .ite (.not (.cmp .eq (.v 9) (.z 0)))
 (
 .i (.chk (.cmp .le (.z 0) (.v 5))) <|
 .i (.chk (.cmp .lt (.v 5) (.len (.v 4)))) <|
 .i (.idx (.v 4) (.v 5) (.one (.b)) 10) <|
 .next [(.set (.v 4) (.v 5) (.vb .tt)), (.bin .add .i64 (.v 5) (.z 1))])
 (
 .next [(.v 4), (.bin .add .i64 (.v 5) (.z 1))]))
 (
 .esc <|
 .next [(.v 4), (.bin .add .i64 (.v 3) (.z 1))]))
 (
 .esc <|
 .done [(aS 2)])

def R_spec_CatPart : R :=
 .loop 3 [.nil, (.z 0), (.z 0)] <|
 .ite (.cmp .lt (.v 5) (.len (.v 0)))
 (
 .ite (.cmp .eq (.v 4) (.z 0))
 (
 .i (.idx (.v 0) (.v 5) (.one (.i .i64)) 6) <|
 .ite (.cmp .lt (.z 0) (.v 6))
 (
 .i (.idx (.v 0) (.v 5) (.one (.i .i64)) 7) <|
 .i (.chk (.cmp .le (.len (.app (.v 3) (.cons (.vi .i64 (.bin .mul .i64 (.z 1) (.v 7))) .nil))) (.z 8796093022208))) <|
 .next [(.app (.v 3) (.cons (.vi .i64 (.bin .mul .i64 (.z 1) (.v 7))) .nil)), (.z 1), (.bin .add .i64 (.v 5) (.z 1))])
 (
 .ite (.cmp .eq (.v 4) (.z 0))
 (
 .i (.idx (.v 0) (.v 5) (.one (.i .i64)) 7) <|
 .ite (.cmp .lt (.v 7) (.z 0))
 (
 .i (.idx (.v 0) (.v 5) (.one (.i .i64)) 8) <|
 .i (.chk (.cmp .le (.len (.app (.v 3) (.cons (.vi .i64 (.bin .mul .i64 (.z (-1)) (.v 8))) .nil))) (.z 8796093022208))) <|
 .next [(.app (.v 3) (.cons (.vi .i64 (.bin .mul .i64 (.z (-1)) (.v 8))) .nil)), (.z (-1)), (.bin .add .i64 (.v 5) (.z 1))])
 (
 .i (.idx (.v 0) (.v 5) (.one (.i .i64)) 8) <|
 .i (.chk (.cmp .le (.len (.app (.v 3) (.cons (.vi .i64 (.bin .mul .i64 (.v 4) (.v 8))) .nil))) (.z 8796093022208))) <|
 .next [(.app (.v 3) (.cons (.vi .i64 (.bin .mul .i64 (.v 4) (.v 8))) .nil)), (.v 4), (.bin .add .i64 (.v 5) (.z 1))]))
 (
 .i (.idx (.v 0) (.v 5) (.one (.i .i64)) 7) <|
 .i (.chk (.cmp .le (.len (.app (.v 3) (.cons (.vi .i64 (.bin .mul .i64 (.v 4) (.v 7))) .nil))) (.z 8796093022208))) <|
 .next [(.app (.v 3) (.cons (.vi .i64 (.bin .mul .i64 (.v 4) (.v 7))) .nil)), (.v 4), (.bin .add .i64 (.v 5) (.z 1))])))
 (
 .ite (.cmp .eq (.v 4) (.z 0))
 (
 .i (.idx (.v 0) (.v 5) (.one (.i .i64)) 6) <|
 .ite (.cmp .lt (.v 6) (.z 0))
 (
 .i (.idx (.v 0) (.v 5) (.one (.i .i64)) 7) <|
 .i (.chk (.cmp .le (.len (.app (.v 3) (.cons (.vi .i64 (.bin .mul .i64 (.z (-1)) (.v 7))) .nil))) (.z 8796093022208))) <|
 .next [(.app (.v 3) (.cons (.vi .i64 (.bin .mul .i64 (.z (-1)) (.v 7))) .nil)), (.z (-1)), (.bin .add .i64 (.v 5) (.z 1))])
 (
 .i (.idx (.v 0) (.v 5) (.one (.i .i64)) 7) <|
 .i (.chk (.cmp .le (.len (.app (.v 3) (.cons (.vi .i64 (.bin .mul .i64 (.v 4) (.v 7))) .nil))) (.z 8796093022208))) <|
 .next [(.app (.v 3) (.cons (.vi .i64 (.bin .mul .i64 (.v 4) (.v 7))) .nil)), (.v 4), (.bin .add .i64 (.v 5) (.z 1))]))
 (
 .i (.idx (.v 0) (.v 5) (.one (.i .i64)) 6) <|
 .i (.chk (.cmp .le (.len (.app (.v 3) (.cons (.vi .i64 (.bin .mul .i64 (.v 4) (.v 6))) .nil))) (.z 8796093022208))) <|
 .next [(.app (.v 3) (.cons (.vi .i64 (.bin .mul .i64 (.v 4) (.v 6))) .nil)), (.v 4), (.bin .add .i64 (.v 5) (.z 1))])))
 (
 .esc <|
 .done [(aS 3)])

def R_spec_l4Same : R :=
 .ite (.not (.cmp .eq (.len (.v 0)) (.len (.v 1))))
 (
 .done [(.vb .ff)])
 (
 .loop 2 [(.z 0)] <|
 .ite (.cmp .lt (.v 2) (.len (.v 0)))
 (
 .i (.idx (.v 0) (.v 2) (.one (.i .i64)) 3) <|
 .i (.idx (.v 1) (.v 2) (.one (.i .i64)) 4) <|
 .ite (.not (.cmp .eq (.v 3) (.v 4)))
 (
 .esc <|
 .done [(.vb .ff)])
 (
 .next [(.bin .add .i64 (.v 2) (.z 1))]))
 (
 .esc <|
 .done [(.vb .tt)]))

def R_spec_CatHas : R :=
 .loop 2 [(.z 0)] <|
 .ite (.cmp .lt (.v 2) (.len (.v 0)))
 (
 .i (.idx (.v 0) (.v 2) (.one (.s)) 3) <|
 .i (.call f_spec_l4Same [(aS 3), (aS 1)] [.b] 4) <|
 .ite (.v 4)
 (
 .esc <|
 .done [(aI 2)])
 (
 .next [(.bin .add .i64 (.v 2) (.z 1))]))
 (
 .esc <|
 .done [(.vi .i64 (.z (-1)))])

def R_spec_l4Both : R :=
 .loop 1 [.nil, (.z 0)] <|
 .ite (.cmp .lt (.v 2) (.z 3))
 (
 .i (.call f_spec_FrmPot [(aI 2)] [.s, .s, .i .i64] 3) <|
 .i (.chk (.cmp .le (.len (.app (.v 1) (.cons (aS 3) .nil))) (.z 2932031007402))) <|
 .next [(.app (.v 1) (.cons (aS 3) .nil)), (.bin .add .i64 (.v 2) (.z 1))])
 (
 .esc <|
 .loop 3 [(.v 1), (.cons (.vb .ff) (.cons (.vb .ff) (.cons (.vb .ff) .nil))), (.z 0)] <|
 .ite (.cmp .lt (.v 5) (.len (.v 0)))
 (
 .i (.idx (.v 0) (.v 5) (.one (.s)) 6) <|
 .i (.call f_spec_RowsOf [(aS 6)] [.s] 7) <|
 .loop 8 [(.v 3), (.v 4), (.z 0)] <|
 .ite (.cmp .lt (.v 10) (.len (.v 7)))
 (
 .i (.chk (.cmp .le (.z 0) (.v 10))) <|
 .i (.chk (.cmp .lt (.v 10) (.len (.v 7)))) <|
 .i (.idx (.v 7) (.v 10) (.g [.s, .s, .s, .b]) 11) <|
 .i (.call f_spec_l4Reads [(aS 9), (aS 12)] [.s] 15) <|
 .i (.chk (.cmp .le (.z 0) (.v 10))) <|
 .i (.chk (.cmp .lt (.v 10) (.len (.v 7)))) <|
 .i (.idx (.v 7) (.v 10) (.g [.s, .s, .s, .b]) 16) <|
 .i (.call f_spec_l4Reads [(aS 15), (aS 18)] [.s] 20) <|
 .loop 21 [(.v 8), (.z 0)] <|
 .i (.chk (.cmp .le (.z 0) (.v 10))) <|
 .i (.chk (.cmp .lt (.v 10) (.len (.v 7)))) <|
 .i (.idx (.v 7) (.v 10) (.g [.s, .s, .s, .b]) 23) <|
 .ite (.cmp .lt (.v 22) (.len (.v 23)))
 (
 .i (.chk (.cmp .le (.z 0) (.v 10))) <|
 .i (.chk (.cmp .lt (.v 10) (.len (.v 7)))) <|
 .i (.idx (.v 7) (.v 10) (.g [.s, .s, .s, .b]) 27) <|
 .i (.idx (.v 27) (.v 22) (.g [.s, .s, .i .i64]) 31) <|
 .i (.call f_spec_CatPart [(aS 31), (aS 32), (aI 33)] [.s] 34) <|
 .i (.call f_spec_CatHas [(aS 21), (aS 34)] [.i .i64] 35) <|
 .ite (.cmp .lt (.v 35) (.z 0))
 (
 .i (.call f_spec_FrmZero [] [.s, .s, .i .i64] 36) <|
 .i (.call f_spec_l4Same [(aS 34), (aS 36)] [.b] 39) <|
 .ite (.not (.v 39))
 (
 .i (.chk (.cmp .le (.len (.app (.v 21) (.cons (aS 34) .nil))) (.z 2932031007402))) <|
 .next [(.app (.v 21) (.cons (aS 34) .nil)), (.bin .add .i64 (.v 22) (.z 1))])
 (
 .next [(.v 21), (.bin .add .i64 (.v 22) (.z 1))]))
 (
 .next [(.v 21), (.bin .add .i64 (.v 22) (.z 1))]))
 (
 .esc <|
 .next [(.v 21), (.v 20), (.bin .add .i64 (.v 10) (.z 1))]))
 (
 .esc <|
 .next [(.v 8), (.v 9), (.bin .add .i64 (.v 5) (.z 1))]))
 (
 .esc <|
 .done [(aS 3), (aS 4)]))

def R_spec_ResText : R :=
 .i (.call f_spec_l1In [(aI 0), (aZ 1), (aZ 3)] [.b] 2) <|
 .ite (.not (.v 2))
 (
 .done [(.vc (.string (strV [])))])
 (
 .ite (.not (.cmp .eq (.v 0) (.z 1)))
 (
 .ite (.cmp .lt (.z 0) (.len (.v 1)))
 (
 .done [(.vc (.string (strV [])))])
 (
 .ite (.cmp .lt (.z 6) (.len (.v 1)))
 (
 .done [(.vc (.string (strV [])))])
 (
 .i (.call f_spec_l1All [(aS 1), (.vi .i64 (.len (.v 1))), (aZ 999999999999)] [.b] 3) <|
 .ite (.not (.v 3))
 (
 .done [(.vc (.string (strV [])))])
 (
 .i (.chk (.cmp .le (.z 0) (.v 0))) <|
 .i (.chk (.cmp .lt (.v 0) (.z 4))) <|
 .i (.idx (.cons (.vc (.string (strV []))) (.cons (.vc (.string (strV [100, 111, 110, 101]))) (.cons (.vc (.string (strV [115, 116, 111, 112, 112, 101, 100]))) (.cons (.vc (.string (strV [111, 118, 101, 114]))) .nil)))) (.v 0) (.one (.d)) 4) <|
 .loop 5 [(.da 4), (.z 0)] <|
 .ite (.cmp .lt (.v 6) (.len (.v 1)))
 (
 .i (.prim .cat [(.da 5), (.vc (.string (strV [32])))] (.d) 7) <|
 .i (.idx (.v 1) (.v 6) (.one (.i .i64)) 8) <|
 .i (.call f_spec_l1Digits [(aI 8)] [.d] 9) <|
 .i (.prim .cat [(.da 7), (.da 9)] (.d) 10) <|
 .next [(.da 10), (.bin .add .i64 (.v 6) (.z 1))])
 (
 .esc <|
 .done [(.da 5)])))))
 (
 .ite (.cmp .lt (.z 6) (.len (.v 1)))
 (
 .done [(.vc (.string (strV [])))])
 (
 .i (.call f_spec_l1All [(aS 1), (.vi .i64 (.len (.v 1))), (aZ 999999999999)] [.b] 3) <|
 .ite (.not (.v 3))
 (
 .done [(.vc (.string (strV [])))])
 (
 .i (.chk (.cmp .le (.z 0) (.v 0))) <|
 .i (.chk (.cmp .lt (.v 0) (.z 4))) <|
 .i (.idx (.cons (.vc (.string (strV []))) (.cons (.vc (.string (strV [100, 111, 110, 101]))) (.cons (.vc (.string (strV [115, 116, 111, 112, 112, 101, 100]))) (.cons (.vc (.string (strV [111, 118, 101, 114]))) .nil)))) (.v 0) (.one (.d)) 4) <|
 .loop 5 [(.da 4), (.z 0)] <|
 .ite (.cmp .lt (.v 6) (.len (.v 1)))
 (
 .i (.prim .cat [(.da 5), (.vc (.string (strV [32])))] (.d) 7) <|
 .i (.idx (.v 1) (.v 6) (.one (.i .i64)) 8) <|
 .i (.call f_spec_l1Digits [(aI 8)] [.d] 9) <|
 .i (.prim .cat [(.da 7), (.da 9)] (.d) 10) <|
 .next [(.da 10), (.bin .add .i64 (.v 6) (.z 1))])
 (
 .esc <|
 .done [(.da 5)])))))

def R_spec_ResOk : R :=
 .i (.call f_spec_ResText [(aI 0), (aS 1)] [.d] 2) <|
 .i (.prim .seq [(.da 2), (.vc (.string (strV [])))] (.b) 3) <|
 .done [(.vb (.not (.v 3)))]

def R_spec_l6Done : R :=
 .ite (.not (.cmp .eq (.len (.v 4)) (.v 0)))
 (
 .done [(.vb .ff)])
 (
 .loop 5 [(.z 0)] <|
 .ite (.cmp .lt (.v 5) (.len (.v 4)))
 (
 .i (.idx (.v 4) (.v 5) (.g [.i .i64, .i .i64, .s]) 6) <|
 .i (.call f_spec_l1In [(aI 6), (aZ 0), (aZ 300)] [.b] 9) <|
 .ite (.not (.v 9))
 (
 .esc <|
 .done [(.vb .ff)])
 (
 .i (.idx (.v 4) (.v 5) (.g [.i .i64, .i .i64, .s]) 10) <|
 .i (.idx (.v 4) (.v 5) (.g [.i .i64, .i .i64, .s]) 13) <|
 .ite (.not (.beq (.cmp .eq (.v 10) (.z 0)) (.cmp .eq (.v 14) (.z 0))))
 (
 .esc <|
 .done [(.vb .ff)])
 (
 .i (.idx (.v 4) (.v 5) (.g [.i .i64, .i .i64, .s]) 16) <|
 .ite (.cmp .eq (.v 16) (.z 0))
 (
 .i (.idx (.v 4) (.v 5) (.g [.i .i64, .i .i64, .s]) 19) <|
 .ite (.cmp .lt (.z 0) (.len (.v 21)))
 (
 .esc <|
 .done [(.vb .ff)])
 (
 .i (.idx (.v 4) (.v 5) (.g [.i .i64, .i .i64, .s]) 22) <|
 .ite (.cmp .lt (.z 0) (.v 22))
 (
 .i (.idx (.v 4) (.v 5) (.g [.i .i64, .i .i64, .s]) 25) <|
 .i (.call f_spec_ResOk [(aI 26), (aS 27)] [.b] 28) <|
 .ite (.not (.v 28))
 (
 .esc <|
 .done [(.vb .ff)])
 (
 .next [(.bin .add .i64 (.v 5) (.z 1))]))
 (
 .next [(.bin .add .i64 (.v 5) (.z 1))])))
 (
 .i (.idx (.v 4) (.v 5) (.g [.i .i64, .i .i64, .s]) 19) <|
 .ite (.cmp .lt (.z 0) (.v 19))
 (
 .i (.idx (.v 4) (.v 5) (.g [.i .i64, .i .i64, .s]) 22) <|
 .i (.call f_spec_ResOk [(aI 23), (aS 24)] [.b] 25) <|
 .ite (.not (.v 25))
 (
 .esc <|
 .done [(.vb .ff)])
 (
 .next [(.bin .add .i64 (.v 5) (.z 1))]))
 (
 .next [(.bin .add .i64 (.v 5) (.z 1))])))))
 (
 .esc <|
 .done [(.vb .tt)]))

def R_spec_l5Parts : R :=
 .loop 1 [(.z 0)] <|
 .ite (.cmp .lt (.v 1) (.len (.v 0)))
 (
 .i (.idx (.v 0) (.v 1) (.one (.s)) 2) <|
 .i (.call f_spec_l1All [(aS 2), (aZ 3), (aZ 10000000)] [.b] 3) <|
 .ite (.not (.v 3))
 (
 .esc <|
 .done [(.vb .ff)])
 (
 .next [(.bin .add .i64 (.v 1) (.z 1))]))
 (
 .esc <|
 .done [(.vb .tt)])

def R_spec_l5Times : R :=
 .loop 2 [(.z 0), (.z 0)] <|
 .ite (.cmp .lt (.v 3) (.z 3))
 (
 .i (.idx (.v 0) (.v 3) (.one (.i .i64)) 4) <|
 .i (.idx (.v 1) (.v 3) (.one (.i .i64)) 5) <|
 .next [(.bin .add .i64 (.v 2) (.bin .mul .i64 (.v 4) (.v 5))), (.bin .add .i64 (.v 3) (.z 1))])
 (
 .esc <|
 .done [(aI 2)])

def R_spec_TrtKeeps : R :=
 .i (.call f_spec_TrtOk [(aS 0), (aS 1)] [.b] 5) <|
 .ite (.not (.v 5))
 (
 .done [(.vb .ff)])
 (
 .i (.call f_spec_l5Parts [(aS 2)] [.b] 6) <|
 .ite (.not (.v 6))
 (
 .done [(.vb .ff)])
 (
 .i (.call f_spec_l1In [(aI 3), (aZ 0), (.vi .i64 (.bin .sub .i64 (.len (.v 1)) (.z 1)))] [.b] 7) <|
 .ite (.not (.v 7))
 (
 .done [(.vb .ff)])
 (
 .i (.call f_spec_l1All [(aS 4), (aZ 3), (aZ 20000)] [.b] 8) <|
 .ite (.not (.v 8))
 (
 .done [(.vb .ff)])
 (
 .loop 9 [(.z 0)] <|
 .ite (.cmp .lt (.v 9) (.len (.v 2)))
 (
 .i (.idx (.v 2) (.v 9) (.one (.s)) 10) <|
 .i (.call f_spec_l5Times [(aS 10), (aS 4)] [.i .i64] 11) <|
 .i (.idx (.v 1) (.v 3) (.one (.i .i64)) 12) <|
 .i (.idx (.v 1) (.v 3) (.one (.i .i64)) 13) <|
 .i (.call f_spec_l1In [(aI 11), (.vi .i64 (.bin .sub .i64 (.z 0) (.v 12))), (aI 13)] [.b] 14) <|
 .ite (.not (.v 14))
 (
 .esc <|
 .done [(.vb .ff)])
 (
 .next [(.bin .add .i64 (.v 9) (.z 1))]))
 (
 .esc <|
 .done [(.vb .tt)])))))

def R_spec_l5Still : R :=
 .loop 2 [(.z 0)] <|
 .ite (.cmp .lt (.v 2) (.z 3))
 (
 .i (.idx (.v 0) (.v 2) (.one (.b)) 3) <|
 .ite (.v 3)
 (
 .i (.idx (.v 1) (.v 2) (.one (.i .i64)) 4) <|
 .ite (.not (.cmp .eq (.v 4) (.z 0)))
 (
 .esc <|
 .done [(.vb .ff)])
 (
 .next [(.bin .add .i64 (.v 2) (.z 1))]))
 (
 .next [(.bin .add .i64 (.v 2) (.z 1))]))
 (
 .esc <|
 .done [(.vb .tt)])

def R_spec_l7Seqs : R :=
 .ite (.not (.cmp .eq (.len (.v 4)) (.v 0)))
 (
 .done [(.vb .ff)])
 (
 .loop 5 [(.z 0)] <|
 .ite (.cmp .lt (.v 5) (.len (.v 4)))
 (
 .i (.idx (.v 4) (.v 5) (.one (.i .i64)) 6) <|
 .i (.call f_spec_l1In [(aI 6), (aZ 0), (aZ 300)] [.b] 7) <|
 .ite (.not (.v 7))
 (
 .esc <|
 .done [(.vb .ff)])
 (
 .next [(.bin .add .i64 (.v 5) (.z 1))]))
 (
 .esc <|
 .done [(.vb .tt)]))

def R_spec_l9Got : R :=
 .ite (.not (.cmp .eq (.len (.v 11)) (.len (.v 2))))
 (
 .done [(.vb .ff)])
 (
 .loop 12 [(.z 0)] <|
 .ite (.cmp .lt (.v 12) (.len (.v 11)))
 (
 .i (.idx (.v 11) (.v 12) (.g [.b, .s, .s]) 13) <|
 .ite (.not (.v 13))
 (
 .ite (.cmp .lt (.z 0) (.bin .add .i64 (.len (.v 14)) (.len (.v 15))))
 (
 .esc <|
 .done [(.vb .ff)])
 (
 .ite (.v 13)
 (
 .i (.call f_spec_TrtKeeps [(aS 8), (aS 2), (aS 4), (aI 12), (aS 14)] [.b] 16) <|
 .ite (.not (.v 16))
 (
 .esc <|
 .done [(.vb .ff)])
 (
 .i (.call f_spec_l5Still [(aS 5), (aS 14)] [.b] 17) <|
 .ite (.not (.v 17))
 (
 .esc <|
 .done [(.vb .ff)])
 (
 .i (.call f_spec_l7Seqs [(aI 0), (aS 1), (aS 2), (aS 3), (aS 15)] [.b] 18) <|
 .ite (.not (.v 18))
 (
 .esc <|
 .done [(.vb .ff)])
 (
 .next [(.bin .add .i64 (.v 12) (.z 1))]))))
 (
 .next [(.bin .add .i64 (.v 12) (.z 1))])))
 (
 .ite (.v 13)
 (
 .i (.call f_spec_TrtKeeps [(aS 8), (aS 2), (aS 4), (aI 12), (aS 14)] [.b] 16) <|
 .ite (.not (.v 16))
 (
 .esc <|
 .done [(.vb .ff)])
 (
 .i (.call f_spec_l5Still [(aS 5), (aS 14)] [.b] 17) <|
 .ite (.not (.v 17))
 (
 .esc <|
 .done [(.vb .ff)])
 (
 .i (.call f_spec_l7Seqs [(aI 0), (aS 1), (aS 2), (aS 3), (aS 15)] [.b] 18) <|
 .ite (.not (.v 18))
 (
 .esc <|
 .done [(.vb .ff)])
 (
 .next [(.bin .add .i64 (.v 12) (.z 1))]))))
 (
 .next [(.bin .add .i64 (.v 12) (.z 1))])))
 (
 .esc <|
 .done [(.vb .tt)]))

def R_spec_ArgOk : R :=
 .i (.call f_spec_l1All [(aS 0), (aZ 2), (aZ 9)] [.b] 1) <|
 .done [(aB 1)]

def R_spec_l6Call : R :=
 .i (.call f_spec_l1In [(aI 4), (aZ 0), (.vi .i64 (.bin .sub .i64 (.v 0) (.z 1)))] [.b] 8) <|
 .ite (.v 8)
 (
 .i (.call f_spec_l1In [(aI 5), (aZ 1), (aZ 300)] [.b] 9) <|
 .ite (.v 9)
 (
 .i (.call f_spec_l1In [(aI 6), (aZ 0), (.vi .i64 (.bin .sub .i64 (.len (.v 1)) (.z 1)))] [.b] 10) <|
 .ite (.v 10)
 (
 .i (.call f_spec_ArgOk [(aS 7)] [.b] 11) <|
 .done [(aB 11)])
 (
 .done [(.vb .ff)]))
 (
 .done [(.vb .ff)]))
 (
 .done [(.vb .ff)])

def R_spec_l9Has : R :=
 .loop 6 [(.z 0), (.z 0)] <|
 .ite (.cmp .lt (.v 7) (.len (.v 5)))
 (
 .i (.idx (.v 5) (.v 7) (.g [.b, .s, .s]) 8) <|
 .ite (.v 8)
 (
 .next [(.bin .add .i64 (.v 6) (.z 1)), (.bin .add .i64 (.v 7) (.z 1))])
 (
 .next [(.v 6), (.bin .add .i64 (.v 7) (.z 1))]))
 (
 .esc <|
 .done [(aI 6)])

def R_spec_l9Ok : R :=
 .i (.call f_spec_l1In [(aI 7), (aZ 0), (aZ 200)] [.b] 12) <|
 .ite (.not (.v 12))
 (
 .done [(.vb .ff)])
 (
 .i (.call f_spec_ValOk [(aS 8)] [.b] 13) <|
 .ite (.not (.v 13))
 (
 .done [(.vb .ff)])
 (
 .i (.call f_spec_l6Done [(aI 0), (aS 1), (aS 2), (aS 3), (aS 9)] [.b] 14) <|
 .ite (.not (.v 14))
 (
 .done [(.vb .ff)])
 (
 .i (.call f_spec_l9Got [(aI 0), (aS 1), (aS 2), (aS 3), (aS 4), (aS 5), (aB 6), (aI 7), (aS 8), (aS 9), (aS 10), (aS 11)] [.b] 15) <|
 .ite (.not (.v 15))
 (
 .done [(.vb .ff)])
 (
 .loop 16 [(.z 0)] <|
 .ite (.cmp .lt (.v 16) (.len (.v 10)))
 (
 .i (.idx (.v 10) (.v 16) (.g [.i .i64, .i .i64, .i .i64, .s]) 17) <|
 .i (.call f_spec_l6Call [(aI 0), (aS 1), (aS 2), (aS 3), (aI 17), (aI 18), (aI 19), (aS 20)] [.b] 21) <|
 .ite (.not (.v 21))
 (
 .esc <|
 .done [(.vb .ff)])
 (
 .ite (.cmp .lt (.z 0) (.v 16))
 (
 .i (.idx (.v 10) (.bin .sub .i64 (.v 16) (.z 1)) (.g [.i .i64, .i .i64, .i .i64, .s]) 22) <|
 .i (.idx (.v 10) (.v 16) (.g [.i .i64, .i .i64, .i .i64, .s]) 26) <|
 .ite (.cmp .le (.v 26) (.v 22))
 (
 .esc <|
 .done [(.vb .ff)])
 (
 .next [(.bin .add .i64 (.v 16) (.z 1))]))
 (
 .next [(.bin .add .i64 (.v 16) (.z 1))])))
 (
 .esc <|
 .ite (.v 6)
 (
 .done [(.vb .tt)])
 (
 .ite (.cmp .eq (.len (.v 10)) (.z 0))
 (
 .i (.call f_spec_l9Has [(aB 6), (aI 7), (aS 8), (aS 9), (aS 10), (aS 11)] [.i .i64] 17) <|
 .done [(.vb (.cmp .eq (.v 17) (.z 0)))])
 (
 .done [(.vb .ff)])))))))

def R_spec_ClkOk : R :=
 .i (.call f_spec_PlnOk [(aI 0), (aS 1), (aS 2), (aS 3)] [.b] 10) <|
 .ite (.not (.v 10))
 (
 .done [(.vb .ff)])
 (
 .i (.call f_spec_l4Both [(aS 1)] [.s, .s] 11) <|
 .i (.call f_spec_l9Ok [(aI 0), (aS 1), (aS 2), (aS 3), (aS 11), (aS 12), (aB 4), (aI 5), (aS 6), (aS 7), (aS 8), (aS 9)] [.b] 13) <|
 .done [(aB 13)])

def R_impl_in : R :=
 .ite (.cmp .le (.v 1) (.v 0))
 (
 .done [(.vb (.cmp .le (.v 0) (.v 2)))])
 (
 .done [(.vb .ff)])

def R_slices_IndexFunc_SSimpl_ActLine_Simpl_ActLine : R :=
 .loop 2 [(.z 0)] <|
 .ite (.cmp .lt (.v 2) (.len (.v 0)))
 (
 .i (.idx (.v 0) (.v 2) (.one (.s)) 3) <|
 .i (.callv (.da 1) [(aS 3)] [none] [.b] 4) <|
 .ite (.v 4)
 (
 .esc <|
 .done [(aI 2)])
 (
 .next [(.bin .add .i64 (.v 2) (.z 1))]))
 (
 .esc <|
 .done [(.vi .i64 (.z (-1)))])

def R_slices_ContainsFunc_SSimpl_ActLine_Simpl_ActLine : R :=
 .i (.call f_slices_IndexFunc_SSimpl_ActLine_Simpl_ActLine [(aS 0), (.da 1)] [.i .i64] 2) <|
 .done [(.vb (.cmp .le (.z 0) (.v 2)))]

def R_impl_within_1 : R :=
 .i (.get (.da 1) (.q [.i .i64]) 2) <|
 .i (.get (.da 1) (.q [.i .i64]) 3) <|
 .i (.call f_impl_in [(aI 0), (.vi .i64 (.bin .sub .i64 (.z 0) (.v 2))), (aI 3)] [.b] 4) <|
 .done [(.vb (.not (.v 4)))]

def R_slices_IndexFunc_Sint_int : R :=
 .loop 2 [(.z 0)] <|
 .ite (.cmp .lt (.v 2) (.len (.v 0)))
 (
 .i (.idx (.v 0) (.v 2) (.one (.i .i64)) 3) <|
 .i (.callv (.da 1) [(aI 3)] [none] [.b] 4) <|
 .ite (.v 4)
 (
 .esc <|
 .done [(aI 2)])
 (
 .next [(.bin .add .i64 (.v 2) (.z 1))]))
 (
 .esc <|
 .done [(.vi .i64 (.z (-1)))])

def R_slices_ContainsFunc_Sint_int : R :=
 .i (.call f_slices_IndexFunc_Sint_int [(aS 0), (.da 1)] [.i .i64] 2) <|
 .done [(.vb (.cmp .le (.z 0) (.v 2)))]

def R_impl_within : R :=
 .ite (.cmp .eq (.len (.v 0)) (.v 1))
 (
 .i (.call f_slices_ContainsFunc_Sint_int [(aS 0), (.fn f_impl_within_1 (.cons (.q (.cons (aI 2) .nil)) .nil))] [.b] 3) <|
 .done [(.vb (.not (.v 3)))])
 (
 .done [(.vb .ff)])

def R_impl_FrmForm_small : R :=
 .i (.call f_impl_within [(aS 0), (aZ 3), (aZ 2)] [.b] 3) <|
 .ite (.v 3)
 (
 .i (.call f_impl_within [(aS 1), (aZ 2), (aZ 2)] [.b] 4) <|
 .ite (.v 4)
 (
 .i (.call f_impl_in [(aI 2), (.vi .i64 (.z (-20))), (aZ 20)] [.b] 5) <|
 .done [(aB 5)])
 (
 .done [(.vb .ff)]))
 (
 .done [(.vb .ff)])

def R_slices_Equal_Sint_int : R :=
 .ite (.not (.cmp .eq (.len (.v 0)) (.len (.v 1))))
 (
 .done [(.vb .ff)])
 (
 .loop 2 [(.z 0)] <|
 .ite (.cmp .lt (.v 2) (.len (.v 0)))
 (
 .i (.idx (.v 0) (.v 2) (.one (.i .i64)) 3) <|
 .i (.idx (.v 1) (.v 2) (.one (.i .i64)) 4) <|
 .ite (.not (.cmp .eq (.v 3) (.v 4)))
 (
 .esc <|
 .done [(.vb .ff)])
 (
 .next [(.bin .add .i64 (.v 2) (.z 1))]))
 (
 .esc <|
 .done [(.vb .tt)]))

def R_impl_FrmForm_same : R :=
 .ite (.cmp .eq (.v 2) (.v 5))
 (
 .i (.call f_slices_Equal_Sint_int [(aS 0), (aS 3)] [.b] 6) <|
 .ite (.v 6)
 (
 .i (.call f_slices_Equal_Sint_int [(aS 1), (aS 4)] [.b] 7) <|
 .done [(aB 7)])
 (
 .done [(.vb .ff)]))
 (
 .done [(.vb .ff)])

def R_impl_ActLine_ok : R :=
 .ite (.cmp .eq (.v 0) (.z 1))
 (
 .i (.call f_impl_in [(aI 2), (aZ 1), (aZ 6)] [.b] 6) <|
 .ite (.v 6)
 (
 .ite (.cmp .eq (.v 1) (.z 0))
 (
 .i (.call f_impl_FrmForm_small [(aS 3), (aS 4), (aI 5)] [.b] 7) <|
 .done [(aB 7)])
 (
 .done [(.vb .ff)]))
 (
 .done [(.vb .ff)]))
 (
 .ite (.cmp .eq (.v 0) (.z 2))
 (
 .i (.call f_impl_in [(aI 1), (aZ 0), (aZ 2)] [.b] 6) <|
 .ite (.v 6)
 (
 .ite (.cmp .eq (.v 2) (.z 0))
 (
 .i (.call f_impl_FrmForm_small [(aS 3), (aS 4), (aI 5)] [.b] 7) <|
 .done [(aB 7)])
 (
 .done [(.vb .ff)]))
 (
 .done [(.vb .ff)]))
 (
 .ite (.cmp .eq (.v 0) (.z 3))
 (
 .ite (.cmp .eq (.v 1) (.z 0))
 (
 .ite (.cmp .eq (.v 2) (.z 0))
 (
 .i (.call f_impl_FrmForm_small [(aS 3), (aS 4), (aI 5)] [.b] 6) <|
 .done [(aB 6)])
 (
 .done [(.vb .ff)]))
 (
 .done [(.vb .ff)]))
 (
 .ite (.cmp .eq (.v 0) (.z 4))
 (
 .ite (.cmp .eq (.v 1) (.z 0))
 (
 .ite (.cmp .eq (.v 2) (.z 0))
 (
 .i (.call f_impl_FrmForm_same [(aS 3), (aS 4), (aI 5), (.s .nil), (.s .nil), (aZ 0)] [.b] 6) <|
 .done [(aB 6)])
 (
 .done [(.vb .ff)]))
 (
 .done [(.vb .ff)]))
 (
 .done [(.vb .ff)]))))

def R_impl_ActOk : R :=
 .loop 1 [(.z 0), (.z 0)] <|
 .ite (.cmp .lt (.v 2) (.len (.v 0)))
 (
 .i (.idx (.v 0) (.v 2) (.g [.i .i64, .i .i64, .i .i64, .s, .s, .i .i64]) 3) <|
 .i (.call f_impl_ActLine_ok [(aI 3), (aI 4), (aI 5), (aS 6), (aS 7), (aI 8)] [.b] 9) <|
 .ite (.not (.v 9))
 (
 .esc <|
 .done [(.vb .ff)])
 (
 .ite (.cmp .eq (.v 3) (.z 1))
 (
 .next [(.bin .add .i64 (.v 1) (.z 1)), (.bin .add .i64 (.v 2) (.z 1))])
 (
 .next [(.v 1), (.bin .add .i64 (.v 2) (.z 1))])))
 (
 .esc <|
 .ite (.cmp .le (.len (.v 0)) (.z 6))
 (
 .done [(.vb (.cmp .le (.v 1) (.z 3)))])
 (
 .done [(.vb .ff)]))

def R_impl_CatOk_1 : R :=
 .i (.call f_impl_ActOk [(aS 0)] [.b] 1) <|
 .done [(.vb (.not (.v 1)))]

def R_impl_CatOk : R :=
 .i (.call f_impl_in [(.vi .i64 (.len (.v 0))), (aZ 1), (aZ 4)] [.b] 1) <|
 .ite (.v 1)
 (
 .i (.call f_slices_ContainsFunc_SSimpl_ActLine_Simpl_ActLine [(aS 0), (.fn f_impl_CatOk_1 .nil)] [.b] 2) <|
 .done [(.vb (.not (.v 2)))])
 (
 .done [(.vb .ff)])

def R_impl_PlnPlan_treaty : R :=
 .done [(aS 4), (aS 2)]

def R_impl_TrtOk_1 : R :=
 .i (.call f_impl_in [(aI 0), (aZ 0), (aZ 50)] [.b] 1) <|
 .done [(.vb (.not (.v 1)))]

def R_impl_ValOk : R :=
 .i (.call f_impl_within [(aS 0), (aZ 3), (aZ 10000)] [.b] 1) <|
 .done [(aB 1)]

def R_impl_TrtOk : R :=
 .i (.call f_impl_ValOk [(aS 0)] [.b] 2) <|
 .ite (.v 2)
 (
 .i (.call f_impl_in [(.vi .i64 (.len (.v 1))), (aZ 1), (aZ 3)] [.b] 3) <|
 .ite (.v 3)
 (
 .i (.call f_slices_ContainsFunc_Sint_int [(aS 1), (.fn f_impl_TrtOk_1 .nil)] [.b] 4) <|
 .done [(.vb (.not (.v 4)))])
 (
 .done [(.vb .ff)]))
 (
 .done [(.vb .ff)])

def R_impl_PlnOk : R :=
 .i (.call f_impl_in [(aI 0), (aZ 1), (aZ 4)] [.b] 4) <|
 .ite (.v 4)
 (
 .i (.call f_impl_CatOk [(aS 1)] [.b] 5) <|
 .ite (.v 5)
 (
 .i (.call f_impl_within [(aS 3), (aZ 3), (aZ 1000)] [.b] 6) <|
 .ite (.v 6)
 (
 .i (.call f_impl_PlnPlan_treaty [(aI 0), (aS 1), (aS 2), (aS 3), (aS 3)] [.s, .s] 7) <|
 .i (.call f_impl_TrtOk [(aS 7), (aS 8)] [.b] 9) <|
 .done [(aB 9)])
 (
 .done [(.vb .ff)]))
 (
 .done [(.vb .ff)]))
 (
 .done [(.vb .ff)])

def R_impl_FrmZero : R :=
 .done [(.s (.cons (aZ 0) (.cons (aZ 0) (.cons (aZ 0) .nil)))), (.s (.cons (aZ 0) (.cons (aZ 0) .nil))), (aZ 0)]

def R_impl_FrmPot : R :=
 .i (.call f_impl_in [(aI 0), (aZ 0), (aZ 2)] [.b] 1) <|
 .ite (.not (.v 1))
 (
 .done [(.s .nil), (.s .nil), (aZ 0)])
 (
 .i (.call f_impl_FrmZero [] [.s, .s, .i .i64] 2) <|
 .i (.chk (.cmp .le (.z 0) (.v 0))) <|
 .i (.chk (.cmp .lt (.v 0) (.len (.v 2)))) <|
 .i (.idx (.v 2) (.v 0) (.one (.i .i64)) 5) <|
 .done [(.s (.set (.v 2) (.v 0) (aZ 1))), (aS 3), (aI 4)])

def R_slices_Clone_Sint_int : R :=
 .nilq 1 (.v 0)
 (
 .done [(.s .nil)])
 (
 .i (.chk (.cmp .le (.len (.v 0)) (.z 8796093022208))) <|
 .i (.head 1 (.v 0)) <|
 .i (.chk (.cmp .le (.len (.app .nil (.v 0))) (.z 8796093022208))) <|
 .done [(.s (.app .nil (.v 0)))])

def R_impl_FrmForm_copied : R :=
 .i (.call f_slices_Clone_Sint_int [(aS 0)] [.s] 3) <|
 .i (.call f_slices_Clone_Sint_int [(aS 1)] [.s] 4) <|
 .done [(aS 3), (aS 4), (aI 2)]

def R_impl_forms : R :=
 .loop 1 [.nil, (.z 0)] <|
 .ite (.cmp .lt (.v 2) (.len (.v 0)))
 (
 .i (.idx (.v 0) (.v 2) (.g [.s, .s, .i .i64]) 3) <|
 .i (.call f_impl_FrmForm_copied [(aS 3), (aS 4), (aI 5)] [.s, .s, .i .i64] 6) <|
 .i (.fl (.v 6)) <|
 .i (.fl (.v 7)) <|
 .i (.chk (.cmp .le (.len (.app (.v 1) (.cons (.g (.cons (aS 6) (.cons (aS 7) (.cons (aI 8) .nil)))) .nil))) (.z 1256584717458))) <|
 .next [(.app (.v 1) (.cons (.g (.cons (aS 6) (.cons (aS 7) (.cons (aI 8) .nil)))) .nil)), (.bin .add .i64 (.v 2) (.z 1))])
 (
 .esc <|
 .done [(aS 1)])

def R_impl_FrmOk : R :=
 .i (.call f_impl_within [(aS 0), (aZ 3), (aZ 10000000)] [.b] 3) <|
 .ite (.v 3)
 (
 .i (.call f_impl_within [(aS 1), (aZ 2), (aZ 10000000)] [.b] 4) <|
 .ite (.v 4)
 (
 .i (.call f_impl_in [(aI 2), (.vi .i64 (.z (-10000000))), (aZ 10000000)] [.b] 5) <|
 .done [(aB 5)])
 (
 .done [(.vb .ff)]))
 (
 .done [(.vb .ff)])

def R_slices_IndexFunc_Simpl_FrmForm_impl_FrmForm : R :=
 .loop 2 [(.z 0)] <|
 .ite (.cmp .lt (.v 2) (.len (.v 0)))
 (
 .i (.idx (.v 0) (.v 2) (.g [.s, .s, .i .i64]) 3) <|
 .i (.callv (.da 1) [(aS 3), (aS 4), (aI 5)] [some 3] [.b] 6) <|
 .ite (.v 6)
 (
 .esc <|
 .done [(aI 2)])
 (
 .next [(.bin .add .i64 (.v 2) (.z 1))]))
 (
 .esc <|
 .done [(.vi .i64 (.z (-1)))])

def R_slices_ContainsFunc_Simpl_FrmForm_impl_FrmForm : R :=
 .i (.call f_slices_IndexFunc_Simpl_FrmForm_impl_FrmForm [(aS 0), (.da 1)] [.i .i64] 2) <|
 .done [(.vb (.cmp .le (.z 0) (.v 2)))]

def R_impl_FrmInto_1 : R :=
 .i (.call f_impl_FrmOk [(aS 0), (aS 1), (aI 2)] [.b] 3) <|
 .done [(.vb (.not (.v 3)))]

def R_impl_FrmForm_add : R :=
 .loop 7 [(.v 0), (.z 0)] <|
 .ite (.cmp .lt (.v 8) (.len (.v 3)))
 (
 .i (.idx (.v 3) (.v 8) (.one (.i .i64)) 9) <|
 .i (.chk (.cmp .le (.z 0) (.v 8))) <|
 .i (.chk (.cmp .lt (.v 8) (.len (.v 7)))) <|
 .i (.idx (.v 7) (.v 8) (.one (.i .i64)) 10) <|
 .i (.chk (.cmp .le (.z 0) (.v 8))) <|
 .i (.chk (.cmp .lt (.v 8) (.len (.v 7)))) <|
 .i (.idx (.v 7) (.v 8) (.one (.i .i64)) 11) <|
 .next [(.set (.v 7) (.v 8) (.vi .i64 (.bin .add .i64 (.v 10) (.bin .mul .i64 (.v 6) (.v 9))))), (.bin .add .i64 (.v 8) (.z 1))])
 (
 .esc <|
 .loop 9 [(.v 1), (.z 0)] <|
 .ite (.cmp .lt (.v 10) (.len (.v 4)))
 (
 .i (.idx (.v 4) (.v 10) (.one (.i .i64)) 11) <|
 .i (.chk (.cmp .le (.z 0) (.v 10))) <|
 .i (.chk (.cmp .lt (.v 10) (.len (.v 9)))) <|
 .i (.idx (.v 9) (.v 10) (.one (.i .i64)) 12) <|
 .i (.chk (.cmp .le (.z 0) (.v 10))) <|
 .i (.chk (.cmp .lt (.v 10) (.len (.v 9)))) <|
 .i (.idx (.v 9) (.v 10) (.one (.i .i64)) 13) <|
 .next [(.set (.v 9) (.v 10) (.vi .i64 (.bin .add .i64 (.v 12) (.bin .mul .i64 (.v 6) (.v 11))))), (.bin .add .i64 (.v 10) (.z 1))])
 (
 .esc <|
 .done [(.vi .i64 (.bin .add .i64 (.v 2) (.bin .mul .i64 (.v 6) (.v 5)))), (aS 7), (aS 9)]))

def R_impl_checked : R :=
 .i (.call f_impl_FrmOk [(aS 0), (aS 1), (aI 2)] [.b] 3) <|
 .ite (.not (.v 3))
 (
 .done [(.s .nil), (.s .nil), (aZ 0)])
 (
 .done [(aS 0), (aS 1), (aI 2)])

def R_impl_FrmInto : R :=
 .i (.call f_impl_FrmOk [(aS 0), (aS 1), (aI 2)] [.b] 4) <|
 .ite (.not (.v 4))
 (
 .done [(.s .nil), (.s .nil), (aZ 0)])
 (
 .ite (.not (.cmp .eq (.len (.v 3)) (.z 3)))
 (
 .done [(.s .nil), (.s .nil), (aZ 0)])
 (
 .i (.call f_slices_ContainsFunc_Simpl_FrmForm_impl_FrmForm [(aS 3), (.fn f_impl_FrmInto_1 .nil)] [.b] 5) <|
 .ite (.v 5)
 (
 .done [(.s .nil), (.s .nil), (aZ 0)])
 (
 .i (.call f_impl_FrmZero [] [.s, .s, .i .i64] 6) <|
 .loop 9 [(.v 6), (.v 7), (.z 0), (.v 8)] <|
 .ite (.cmp .lt (.v 11) (.len (.v 3)))
 (
 .i (.idx (.v 3) (.v 11) (.g [.s, .s, .i .i64]) 13) <|
 .i (.idx (.v 0) (.v 11) (.one (.i .i64)) 16) <|
 .i (.call f_impl_FrmForm_add [(aS 9), (aS 10), (aI 12), (aS 13), (aS 14), (aI 15), (aI 16)] [.i .i64, .s, .s] 17) <|
 .next [(.v 18), (.v 19), (.bin .add .i64 (.v 11) (.z 1)), (.v 17)])
 (
 .esc <|
 .i (.call f_impl_FrmForm_add [(aS 9), (aS 10), (aI 12), (.s .nil), (aS 1), (aI 2), (aZ 1)] [.i .i64, .s, .s] 13) <|
 .i (.call f_impl_checked [(aS 14), (aS 15), (aI 13)] [.s, .s, .i .i64] 16) <|
 .done [(aS 16), (aS 17), (aI 18)]))))

def R_impl_FrmTimes : R :=
 .i (.call f_impl_FrmOk [(aS 0), (aS 1), (aI 2)] [.b] 4) <|
 .ite (.not (.v 4))
 (
 .done [(.s .nil), (.s .nil), (aZ 0)])
 (
 .i (.call f_impl_in [(aI 3), (.vi .i64 (.z (-10000000))), (aZ 10000000)] [.b] 5) <|
 .ite (.not (.v 5))
 (
 .done [(.s .nil), (.s .nil), (aZ 0)])
 (
 .i (.call f_impl_FrmZero [] [.s, .s, .i .i64] 6) <|
 .i (.call f_impl_FrmForm_add [(aS 6), (aS 7), (aI 8), (aS 0), (aS 1), (aI 2), (aI 3)] [.i .i64, .s, .s] 9) <|
 .i (.call f_impl_checked [(aS 10), (aS 11), (aI 9)] [.s, .s, .i .i64] 12) <|
 .done [(aS 12), (aS 13), (aI 14)]))

def R_impl_FrmAdd : R :=
 .i (.call f_impl_FrmOk [(aS 0), (aS 1), (aI 2)] [.b] 6) <|
 .ite (.not (.v 6))
 (
 .done [(.s .nil), (.s .nil), (aZ 0)])
 (
 .i (.call f_impl_FrmOk [(aS 3), (aS 4), (aI 5)] [.b] 7) <|
 .ite (.not (.v 7))
 (
 .done [(.s .nil), (.s .nil), (aZ 0)])
 (
 .i (.call f_impl_FrmZero [] [.s, .s, .i .i64] 8) <|
 .i (.call f_impl_FrmForm_add [(aS 8), (aS 9), (aI 10), (aS 0), (aS 1), (aI 2), (aZ 1)] [.i .i64, .s, .s] 11) <|
 .i (.call f_impl_FrmForm_add [(aS 12), (aS 13), (aI 11), (aS 3), (aS 4), (aI 5), (aZ 1)] [.i .i64, .s, .s] 14) <|
 .i (.call f_impl_checked [(aS 15), (aS 16), (aI 14)] [.s, .s, .i .i64] 17) <|
 .done [(aS 17), (aS 18), (aI 19)]))

def R_impl_walker_walk : R :=
 .loop 6 [(.v 1), (.v 2), (.v 3), (.v 4), (.v 5), (.v 0)] <|
 .ite (.cmp .lt (.v 7) (.len (.v 11)))
 (
 .i (.idx (.v 11) (.v 7) (.g [.i .i64, .i .i64, .i .i64, .s, .s, .i .i64]) 12) <|
 .ite (.cmp .eq (.v 12) (.z 4))
 (
 .i (.call f_impl_forms [(aS 8)] [.s] 18) <|
 .i (.chk (.cmp .le (.len (.app (.v 6) (.cons (.g (.cons (aS 18) (.cons (.s .nil) (.cons (.s .nil) (.cons (.vb .tt) .nil))))) .nil))) (.z 879609302220))) <|
 .esc <|
 .done [(aS 11), (.s (.app (.v 6) (.cons (.g (.cons (aS 18) (.cons (.s .nil) (.cons (.s .nil) (.cons (.vb .tt) .nil))))) .nil)))])
 (
 .i (.call f_impl_FrmInto [(aS 15), (aS 16), (aI 17), (aS 9)] [.s, .s, .i .i64] 18) <|
 .ite (.cmp .eq (.v 12) (.z 1))
 (
 .i (.call f_impl_forms [(aS 8)] [.s] 21) <|
 .i (.chk (.cmp .le (.len (.app (.v 21) (.cons (.g (.cons (aS 18) (.cons (aS 19) (.cons (aI 20) .nil)))) .nil))) (.z 1256584717458))) <|
 .i (.call f_impl_forms [(aS 9)] [.s] 22) <|
 .i (.call f_impl_forms [(aS 10)] [.s] 23) <|
 .i (.call f_impl_walker_walk [(aS 11), (aS 6), (.vi .i64 (.bin .add .i64 (.v 7) (.z 1))), (.s (.app (.v 21) (.cons (.g (.cons (aS 18) (.cons (aS 19) (.cons (aI 20) .nil)))) .nil))), (aS 22), (aS 23)] [.s, .s] 24) <|
 .i (.call f_impl_FrmTimes [(aS 18), (aS 19), (aI 20), (.vi .i64 (.z (-1)))] [.s, .s, .i .i64] 26) <|
 .i (.call f_impl_forms [(aS 8)] [.s] 29) <|
 .i (.chk (.cmp .le (.len (.app (.v 29) (.cons (.g (.cons (aS 26) (.cons (aS 27) (.cons (.vi .i64 (.bin .sub .i64 (.v 28) (.z 1))) .nil)))) .nil))) (.z 1256584717458))) <|
 .next [(.v 25), (.bin .add .i64 (.bin .add .i64 (.v 7) (.v 14)) (.z 1)), (.app (.v 29) (.cons (.g (.cons (aS 26) (.cons (aS 27) (.cons (.vi .i64 (.bin .sub .i64 (.v 28) (.z 1))) .nil)))) .nil)), (.v 9), (.v 10), (.v 24)])
 (
 .ite (.cmp .eq (.v 12) (.z 2))
 (
 .i (.call f_impl_forms [(aS 9)] [.s] 21) <|
 .i (.chk (.cmp .le (.z 0) (.v 13))) <|
 .i (.chk (.cmp .lt (.v 13) (.len (.v 21)))) <|
 .i (.idx (.v 21) (.v 13) (.g [.s, .s, .i .i64]) 22) <|
 .i (.call f_impl_FrmAdd [(aS 22), (aS 23), (aI 24), (aS 18), (aS 19), (aI 20)] [.s, .s, .i .i64] 25) <|
 .i (.chk (.cmp .le (.z 0) (.v 13))) <|
 .i (.chk (.cmp .lt (.v 13) (.len (.v 21)))) <|
 .i (.idx (.v 21) (.v 13) (.g [.s, .s, .i .i64]) 28) <|
 .next [(.v 6), (.bin .add .i64 (.v 7) (.z 1)), (.v 8), (.set (.v 21) (.v 13) (.g (.cons (aS 25) (.cons (aS 26) (.cons (aI 27) .nil))))), (.v 10), (.v 11)])
 (
 .ite (.cmp .eq (.v 12) (.z 3))
 (
 .i (.call f_impl_forms [(aS 10)] [.s] 21) <|
 .i (.chk (.cmp .le (.len (.app (.v 21) (.cons (.g (.cons (aS 18) (.cons (aS 19) (.cons (aI 20) .nil)))) .nil))) (.z 1256584717458))) <|
 .next [(.v 6), (.bin .add .i64 (.v 7) (.z 1)), (.v 8), (.v 9), (.app (.v 21) (.cons (.g (.cons (aS 18) (.cons (aS 19) (.cons (aI 20) .nil)))) .nil)), (.v 11)])
 (
 .next [(.v 6), (.bin .add .i64 (.v 7) (.z 1)), (.v 8), (.v 9), (.v 10), (.v 11)])))))
 (
 .esc <|
 .i (.call f_impl_forms [(aS 8)] [.s] 12) <|
 .i (.call f_impl_forms [(aS 10)] [.s] 13) <|
 .loop 14 [.nil, (.z 0)] <|
 .ite (.cmp .lt (.v 15) (.len (.v 9)))
 (
 .i (.idx (.v 9) (.v 15) (.g [.s, .s, .i .i64]) 16) <|
 .i (.call f_impl_FrmPot [(aI 15)] [.s, .s, .i .i64] 19) <|
 .i (.call f_impl_FrmTimes [(aS 19), (aS 20), (aI 21), (.vi .i64 (.z (-1)))] [.s, .s, .i .i64] 22) <|
 .i (.call f_impl_FrmAdd [(aS 16), (aS 17), (aI 18), (aS 22), (aS 23), (aI 24)] [.s, .s, .i .i64] 25) <|
 .i (.fl (.v 25)) <|
 .i (.fl (.v 26)) <|
 .i (.chk (.cmp .le (.len (.app (.v 14) (.cons (.g (.cons (aS 25) (.cons (aS 26) (.cons (aI 27) .nil)))) .nil))) (.z 1256584717458))) <|
 .next [(.app (.v 14) (.cons (.g (.cons (aS 25) (.cons (aS 26) (.cons (aI 27) .nil)))) .nil)), (.bin .add .i64 (.v 15) (.z 1))])
 (
 .esc <|
 .i (.chk (.cmp .le (.len (.app (.v 6) (.cons (.g (.cons (aS 12) (.cons (aS 14) (.cons (aS 13) (.cons (.vb .ff) .nil))))) .nil))) (.z 879609302220))) <|
 .done [(aS 11), (.s (.app (.v 6) (.cons (.g (.cons (aS 12) (.cons (aS 14) (.cons (aS 13) (.cons (.vb .ff) .nil))))) .nil)))]))

def R_impl_RowsOf : R :=
 .i (.call f_impl_ActOk [(aS 0)] [.b] 1) <|
 .ite (.not (.v 1))
 (
 .done [(.s .nil)])
 (
 .loop 2 [.nil, (.z 0)] <|
 .ite (.cmp .lt (.v 3) (.z 3))
 (
 .i (.call f_impl_FrmPot [(aI 3)] [.s, .s, .i .i64] 4) <|
 .i (.fl (.v 4)) <|
 .i (.fl (.v 5)) <|
 .i (.chk (.cmp .le (.len (.app (.v 2) (.cons (.g (.cons (aS 4) (.cons (aS 5) (.cons (aI 6) .nil)))) .nil))) (.z 1256584717458))) <|
 .next [(.app (.v 2) (.cons (.g (.cons (aS 4) (.cons (aS 5) (.cons (aI 6) .nil)))) .nil)), (.bin .add .i64 (.v 3) (.z 1))])
 (
 .esc <|
 .i (.call f_impl_walker_walk [(aS 0), (.s .nil), (aZ 0), (.s .nil), (aS 2), (.s .nil)] [.s, .s] 4) <|
 .done [(aS 5)]))

def R_impl_CatPart_1 : R :=
 .done [(.vb (.not (.cmp .eq (.v 0) (.z 0))))]

def R_impl_CatPart : R :=
 .i (.call f_slices_Clone_Sint_int [(aS 0)] [.s] 3) <|
 .i (.call f_slices_IndexFunc_Sint_int [(aS 3), (.fn f_impl_CatPart_1 .nil)] [.i .i64] 4) <|
 .ite (.cmp .le (.z 0) (.v 4))
 (
 .i (.chk (.cmp .le (.z 0) (.v 4))) <|
 .i (.chk (.cmp .lt (.v 4) (.len (.v 3)))) <|
 .i (.idx (.v 3) (.v 4) (.one (.i .i64)) 5) <|
 .ite (.cmp .lt (.v 5) (.z 0))
 (
 .loop 6 [(.v 3), (.z 0)] <|
 .ite (.cmp .lt (.v 7) (.len (.v 3)))
 (
 .i (.chk (.cmp .le (.z 0) (.v 7))) <|
 .i (.chk (.cmp .lt (.v 7) (.len (.v 6)))) <|
 .i (.idx (.v 6) (.v 7) (.one (.i .i64)) 8) <|
 .i (.chk (.cmp .le (.z 0) (.v 7))) <|
 .i (.chk (.cmp .lt (.v 7) (.len (.v 6)))) <|
 .i (.idx (.v 6) (.v 7) (.one (.i .i64)) 9) <|
 .next [(.set (.v 6) (.v 7) (.vi .i64 (.bin .sub .i64 (.z 0) (.v 8)))), (.bin .add .i64 (.v 7) (.z 1))])
 (
 .esc <|
 .done [(aS 6)]))
 (
 .done [(aS 3)]))
 (
 .done [(aS 3)])

def R_impl_zeros_1 : R :=
 .done [(.vb (.not (.cmp .eq (.v 0) (.z 0))))]

def R_impl_zeros : R :=
 .i (.call f_slices_ContainsFunc_Sint_int [(aS 0), (.fn f_impl_zeros_1 .nil)] [.b] 1) <|
 .done [(.vb (.not (.v 1)))]

def R_impl_CatHas_1 : R :=
 .i (.get (.da 1) (.q [.s]) 2) <|
 .i (.call f_slices_Equal_Sint_int [(aS 0), (aS 2)] [.b] 3) <|
 .done [(aB 3)]

def R_slices_IndexFunc_SSint_Sint : R :=
 .loop 2 [(.z 0)] <|
 .ite (.cmp .lt (.v 2) (.len (.v 0)))
 (
 .i (.idx (.v 0) (.v 2) (.one (.s)) 3) <|
 .i (.callv (.da 1) [(aS 3)] [none] [.b] 4) <|
 .ite (.v 4)
 (
 .esc <|
 .done [(aI 2)])
 (
 .next [(.bin .add .i64 (.v 2) (.z 1))]))
 (
 .esc <|
 .done [(.vi .i64 (.z (-1)))])

def R_impl_CatHas : R :=
 .i (.call f_slices_IndexFunc_SSint_Sint [(aS 0), (.fn f_impl_CatHas_1 (.cons (.q (.cons (aS 1) .nil)) .nil))] [.i .i64] 2) <|
 .done [(aI 2)]

def R_impl_CatForms : R :=
 .i (.call f_impl_CatOk [(aS 0)] [.b] 1) <|
 .ite (.not (.v 1))
 (
 .done [(.s .nil)])
 (
 .loop 2 [.nil, (.z 0)] <|
 .ite (.cmp .lt (.v 3) (.z 3))
 (
 .i (.call f_impl_FrmPot [(aI 3)] [.s, .s, .i .i64] 4) <|
 .i (.fl (.v 4)) <|
 .i (.chk (.cmp .le (.len (.app (.v 2) (.cons (aS 4) .nil))) (.z 2932031007402))) <|
 .next [(.app (.v 2) (.cons (aS 4) .nil)), (.bin .add .i64 (.v 3) (.z 1))])
 (
 .esc <|
 .loop 4 [(.v 2), (.z 0)] <|
 .ite (.cmp .lt (.v 5) (.len (.v 0)))
 (
 .i (.idx (.v 0) (.v 5) (.one (.s)) 6) <|
 .i (.call f_impl_RowsOf [(aS 6)] [.s] 7) <|
 .loop 8 [(.v 4), (.z 0)] <|
 .ite (.cmp .lt (.v 9) (.len (.v 7)))
 (
 .i (.chk (.cmp .le (.z 0) (.v 9))) <|
 .i (.chk (.cmp .lt (.v 9) (.len (.v 7)))) <|
 .i (.idx (.v 7) (.v 9) (.g [.s, .s, .s, .b]) 10) <|
 .loop 14 [(.v 8), (.z 0)] <|
 .ite (.cmp .lt (.v 15) (.len (.v 10)))
 (
 .i (.idx (.v 10) (.v 15) (.g [.s, .s, .i .i64]) 16) <|
 .i (.call f_impl_CatPart [(aS 16), (aS 17), (aI 18)] [.s] 19) <|
 .i (.call f_impl_zeros [(aS 19)] [.b] 20) <|
 .ite (.not (.v 20))
 (
 .i (.call f_impl_CatHas [(aS 14), (aS 19)] [.i .i64] 21) <|
 .ite (.cmp .lt (.v 21) (.z 0))
 (
 .i (.fl (.v 19)) <|
 .i (.chk (.cmp .le (.len (.app (.v 14) (.cons (aS 19) .nil))) (.z 2932031007402))) <|
 .next [(.app (.v 14) (.cons (aS 19) .nil)), (.bin .add .i64 (.v 15) (.z 1))])
 (
 .next [(.v 14), (.bin .add .i64 (.v 15) (.z 1))]))
 (
 .next [(.v 14), (.bin .add .i64 (.v 15) (.z 1))]))
 (
 .esc <|
 .next [(.v 14), (.bin .add .i64 (.v 9) (.z 1))]))
 (
 .esc <|
 .next [(.v 8), (.bin .add .i64 (.v 5) (.z 1))]))
 (
 .esc <|
 .done [(aS 4)])))

def R_impl_pots : R :=
 .loop 2 [(.cons (.vb .ff) (.cons (.vb .ff) (.cons (.vb .ff) .nil))), (.z 0)] <|
 .ite (.cmp .lt (.v 3) (.len (.v 0)))
 (
 .i (.idx (.v 0) (.v 3) (.one (.s)) 4) <|
 .i (.call f_impl_RowsOf [(aS 4)] [.s] 5) <|
 .loop 6 [(.v 2), (.z 0)] <|
 .ite (.cmp .lt (.v 7) (.len (.v 5)))
 (
 .i (.chk (.cmp .le (.z 0) (.v 7))) <|
 .i (.chk (.cmp .lt (.v 7) (.len (.v 5)))) <|
 .i (.idx (.v 5) (.v 7) (.g [.s, .s, .s, .b]) 8) <|
 .loop 12 [(.v 6), (.z 0)] <|
 .ite (.cmp .lt (.v 13) (.len (.v 6)))
 (
 .i (.chk (.cmp .le (.z 0) (.v 13))) <|
 .i (.chk (.cmp .lt (.v 13) (.len (.v 12)))) <|
 .i (.idx (.v 12) (.v 13) (.one (.b)) 14) <|
 .ite (.v 14)
 (
 .i (.chk (.cmp .le (.z 0) (.v 13))) <|
 .i (.chk (.cmp .lt (.v 13) (.len (.v 12)))) <|
 .i (.idx (.v 12) (.v 13) (.one (.b)) 15) <|
 .next [(.set (.v 12) (.v 13) (.vb .tt)), (.bin .add .i64 (.v 13) (.z 1))])
 (
 .i (.callv (.da 1) [(aS 8), (aS 9), (aS 10), (aB 11), (aI 13)] [some 4, none] [.b] 15) <|
 .i (.chk (.cmp .le (.z 0) (.v 13))) <|
 .i (.chk (.cmp .lt (.v 13) (.len (.v 12)))) <|
 .i (.idx (.v 12) (.v 13) (.one (.b)) 16) <|
 .next [(.set (.v 12) (.v 13) (aB 15)), (.bin .add .i64 (.v 13) (.z 1))]))
 (
 .esc <|
 .next [(.v 12), (.bin .add .i64 (.v 7) (.z 1))]))
 (
 .esc <|
 .next [(.v 6), (.bin .add .i64 (.v 3) (.z 1))]))
 (
 .esc <|
 .done [(aS 2)])

def R_slices_Grow_Simpl_FrmForm_impl_FrmForm : R :=
 .ite (.cmp .lt (.v 0) (.z 0))
 (
 .i (.chk .ff) <|
 .done [])
 (
 .ite (.cmp .lt (.z 0) (.bin .sub .i64 (.v 0) (.bin .sub .i64 (.z 0) (.z 0))))
 (
 .i (.chk (.cmp .lt (.z 0) (.bin .sub .i64 (.v 0) (.bin .sub .i64 (.z 0) (.z 0))))) <|
 .i (.chk (.cmp .le (.bin .sub .i64 (.v 0) (.bin .sub .i64 (.z 0) (.z 0))) (.z 1256584717458))) <|
 .i (.chk (.cmp .le (.z 0) (.len (.rep (.bin .sub .i64 (.v 0) (.bin .sub .i64 (.z 0) (.z 0))) (.g (.cons (.s .nil) (.cons (.s .nil) (.cons (aZ 0) .nil)))))))) <|
 .done [(.s (.take (.rep (.bin .sub .i64 (.v 0) (.bin .sub .i64 (.z 0) (.z 0))) (.g (.cons (.s .nil) (.cons (.s .nil) (.cons (aZ 0) .nil))))) (.z 0)))])
 (
 .done [(.s .nil)]))

def R_slices_Concat_Simpl_FrmForm_impl_FrmForm : R :=
 .loop 1 [(.z 0), (.z 0)] <|
 .ite (.cmp .lt (.v 2) (.len (.v 0)))
 (
 .i (.idx (.v 0) (.v 2) (.one (.s)) 3) <|
 .ite (.cmp .lt (.bin .add .i64 (.v 1) (.len (.v 3))) (.z 0))
 (
 .i (.chk .ff) <|
 .done [])
 (
 .next [(.bin .add .i64 (.v 1) (.len (.v 3))), (.bin .add .i64 (.v 2) (.z 1))]))
 (
 .esc <|
 .i (.call f_slices_Grow_Simpl_FrmForm_impl_FrmForm [(aI 1)] [.s] 3) <|
 .loop 4 [(.v 3), (.z 0)] <|
 .ite (.cmp .lt (.v 5) (.len (.v 0)))
 (
 .i (.idx (.v 0) (.v 5) (.one (.s)) 6) <|
 .i (.chk (.cmp .le (.len (.v 6)) (.z 1256584717458))) <|
 .i (.head 3 (.v 6)) <|
 .i (.chk (.cmp .le (.len (.app (.v 4) (.v 6))) (.z 1256584717458))) <|
 .next [(.app (.v 4) (.v 6)), (.bin .add .i64 (.v 5) (.z 1))])
 (
 .esc <|
 .done [(aS 4)]))

def R_impl_RowRow_reads_1 : R :=
 .i (.get (.da 3) (.q [.i .i64]) 4) <|
 .i (.idx (.v 0) (.v 4) (.one (.i .i64)) 5) <|
 .done [(.vb (.not (.cmp .eq (.v 5) (.z 0))))]

def R_impl_RowRow_reads : R :=
 .i (.call f_slices_Concat_Simpl_FrmForm_impl_FrmForm [(.s (.cons (aS 1) (.cons (aS 2) .nil)))] [.s] 5) <|
 .i (.call f_slices_ContainsFunc_Simpl_FrmForm_impl_FrmForm [(aS 5), (.fn f_impl_RowRow_reads_1 (.cons (.q (.cons (aI 4) .nil)) .nil))] [.b] 6) <|
 .done [(aB 6)]

def R_impl_CatPins : R :=
 .i (.call f_impl_CatOk [(aS 0)] [.b] 1) <|
 .ite (.not (.v 1))
 (
 .done [(.s .nil)])
 (
 .i (.call f_impl_pots [(aS 0), (.fn f_impl_RowRow_reads .nil)] [.s] 2) <|
 .done [(aS 2)])

def R_impl_rulesOf : R :=
 .i (.call f_impl_CatForms [(aS 0)] [.s] 1) <|
 .i (.call f_impl_CatPins [(aS 0)] [.s] 2) <|
 .done [(aS 0), (aS 1), (aS 2)]

def R_slices_IndexFunc_Simpl_PlnDone_impl_PlnDone : R :=
 .loop 2 [(.z 0)] <|
 .ite (.cmp .lt (.v 2) (.len (.v 0)))
 (
 .i (.idx (.v 0) (.v 2) (.g [.i .i64, .i .i64, .s]) 3) <|
 .i (.callv (.da 1) [(aI 3), (aI 4), (aS 5)] [some 3] [.b] 6) <|
 .ite (.v 6)
 (
 .esc <|
 .done [(aI 2)])
 (
 .next [(.bin .add .i64 (.v 2) (.z 1))]))
 (
 .esc <|
 .done [(.vi .i64 (.z (-1)))])

def R_slices_ContainsFunc_Simpl_PlnDone_impl_PlnDone : R :=
 .i (.call f_slices_IndexFunc_Simpl_PlnDone_impl_PlnDone [(aS 0), (.da 1)] [.i .i64] 2) <|
 .done [(.vb (.cmp .le (.z 0) (.v 2)))]

def R_impl_ResResult_none : R :=
 .ite (.cmp .eq (.v 0) (.z 0))
 (
 .done [(.vb (.cmp .eq (.len (.v 1)) (.z 0)))])
 (
 .done [(.vb .ff)])

def R_impl_codeWords : R :=
 .done [(.s (.cons (.vc (.string (strV []))) (.cons (.vc (.string (strV [100, 111, 110, 101]))) (.cons (.vc (.string (strV [115, 116, 111, 112, 112, 101, 100]))) (.cons (.vc (.string (strV [111, 118, 101, 114]))) .nil)))))]

def R_impl_ResText : R :=
 .i (.call f_impl_in [(aI 0), (aZ 1), (aZ 3)] [.b] 2) <|
 .ite (.not (.v 2))
 (
 .done [(.vc (.string (strV [])))])
 (
 .ite (.cmp .lt (.z 6) (.len (.v 1)))
 (
 .done [(.vc (.string (strV [])))])
 (
 .ite (.not (.cmp .eq (.v 0) (.z 1)))
 (
 .ite (.cmp .lt (.z 0) (.len (.v 1)))
 (
 .done [(.vc (.string (strV [])))])
 (
 .i (.call f_impl_within [(aS 1), (.vi .i64 (.len (.v 1))), (aZ 999999999999)] [.b] 3) <|
 .ite (.not (.v 3))
 (
 .done [(.vc (.string (strV [])))])
 (
 .i (.call f_impl_codeWords [] [.s] 4) <|
 .i (.chk (.cmp .le (.z 0) (.v 0))) <|
 .i (.chk (.cmp .lt (.v 0) (.len (.v 4)))) <|
 .i (.idx (.v 4) (.v 0) (.one (.d)) 5) <|
 .i (.call f_impl_joined [(aS 1)] [.d] 6) <|
 .i (.prim .cat [(.da 5), (.da 6)] (.d) 7) <|
 .done [(.da 7)])))
 (
 .i (.call f_impl_within [(aS 1), (.vi .i64 (.len (.v 1))), (aZ 999999999999)] [.b] 3) <|
 .ite (.not (.v 3))
 (
 .done [(.vc (.string (strV [])))])
 (
 .i (.call f_impl_codeWords [] [.s] 4) <|
 .i (.chk (.cmp .le (.z 0) (.v 0))) <|
 .i (.chk (.cmp .lt (.v 0) (.len (.v 4)))) <|
 .i (.idx (.v 4) (.v 0) (.one (.d)) 5) <|
 .i (.call f_impl_joined [(aS 1)] [.d] 6) <|
 .i (.prim .cat [(.da 5), (.da 6)] (.d) 7) <|
 .done [(.da 7)]))))

def R_impl_ResOk : R :=
 .i (.call f_impl_ResText [(aI 0), (aS 1)] [.d] 2) <|
 .i (.prim .seq [(.da 2), (.vc (.string (strV [])))] (.b) 3) <|
 .done [(.vb (.not (.v 3)))]

def R_impl_PlnDone_ok : R :=
 .ite (.cmp .eq (.v 0) (.z 0))
 (
 .i (.call f_impl_ResResult_none [(aI 1), (aS 2)] [.b] 3) <|
 .done [(aB 3)])
 (
 .i (.call f_impl_in [(aI 0), (aZ 1), (aZ 300)] [.b] 3) <|
 .ite (.v 3)
 (
 .i (.call f_impl_ResOk [(aI 1), (aS 2)] [.b] 4) <|
 .done [(aB 4)])
 (
 .done [(.vb .ff)]))

def R_impl_PlnPlan_doneOk_1 : R :=
 .i (.call f_impl_PlnDone_ok [(aI 0), (aI 1), (aS 2)] [.b] 3) <|
 .done [(.vb (.not (.v 3)))]

def R_impl_PlnPlan_doneOk : R :=
 .ite (.cmp .eq (.len (.v 4)) (.v 0))
 (
 .i (.call f_slices_ContainsFunc_Simpl_PlnDone_impl_PlnDone [(aS 4), (.fn f_impl_PlnPlan_doneOk_1 .nil)] [.b] 5) <|
 .done [(.vb (.not (.v 5)))])
 (
 .done [(.vb .ff)])

def R_impl_PlnPlan_isClient : R :=
 .i (.call f_impl_in [(aI 4), (aZ 0), (.vi .i64 (.bin .sub .i64 (.v 0) (.z 1)))] [.b] 5) <|
 .done [(aB 5)]

def R_impl_ArgOk : R :=
 .i (.call f_impl_within [(aS 0), (aZ 2), (aZ 9)] [.b] 1) <|
 .done [(aB 1)]

def R_impl_PlnPlan_callOk : R :=
 .i (.call f_impl_PlnPlan_isClient [(aI 0), (aS 1), (aS 2), (aS 3), (aI 4)] [.b] 8) <|
 .ite (.v 8)
 (
 .i (.call f_impl_in [(aI 6), (aZ 0), (.vi .i64 (.bin .sub .i64 (.len (.v 1)) (.z 1)))] [.b] 9) <|
 .ite (.v 9)
 (
 .i (.call f_impl_in [(aI 5), (aZ 1), (aZ 300)] [.b] 10) <|
 .ite (.v 10)
 (
 .i (.call f_impl_ArgOk [(aS 7)] [.b] 11) <|
 .done [(aB 11)])
 (
 .done [(.vb .ff)]))
 (
 .done [(.vb .ff)]))
 (
 .done [(.vb .ff)])

def R_slices_ContainsFunc_SSint_Sint : R :=
 .i (.call f_slices_IndexFunc_SSint_Sint [(aS 0), (.da 1)] [.i .i64] 2) <|
 .done [(.vb (.cmp .le (.z 0) (.v 2)))]

def R_impl_partsOk_1 : R :=
 .i (.call f_impl_within [(aS 0), (aZ 3), (aZ 10000000)] [.b] 1) <|
 .done [(.vb (.not (.v 1)))]

def R_impl_partsOk : R :=
 .i (.call f_slices_ContainsFunc_SSint_Sint [(aS 0), (.fn f_impl_partsOk_1 .nil)] [.b] 1) <|
 .done [(.vb (.not (.v 1)))]

def R_impl_addedOk : R :=
 .i (.call f_impl_within [(aS 0), (aZ 3), (aZ 20000)] [.b] 1) <|
 .done [(aB 1)]

def R_impl_TrtTreaty_ok : R :=
 .i (.call f_impl_TrtOk [(aS 0), (aS 1)] [.b] 5) <|
 .ite (.v 5)
 (
 .i (.call f_impl_partsOk [(aS 2)] [.b] 6) <|
 .ite (.v 6)
 (
 .i (.call f_impl_in [(aI 3), (aZ 0), (.vi .i64 (.bin .sub .i64 (.len (.v 1)) (.z 1)))] [.b] 7) <|
 .ite (.v 7)
 (
 .i (.call f_impl_addedOk [(aS 4)] [.b] 8) <|
 .done [(aB 8)])
 (
 .done [(.vb .ff)]))
 (
 .done [(.vb .ff)]))
 (
 .done [(.vb .ff)])

def R_impl_dot : R :=
 .loop 2 [(.z 0), (.z 0)] <|
 .ite (.cmp .lt (.v 3) (.len (.v 0)))
 (
 .i (.idx (.v 0) (.v 3) (.one (.i .i64)) 4) <|
 .i (.idx (.v 1) (.v 3) (.one (.i .i64)) 5) <|
 .next [(.bin .add .i64 (.v 2) (.bin .mul .i64 (.v 4) (.v 5))), (.bin .add .i64 (.v 3) (.z 1))])
 (
 .esc <|
 .done [(aI 2)])

def R_impl_TrtKeeps_1 : R :=
 .i (.get (.da 1) (.q [.s]) 3) <|
 .i (.call f_impl_dot [(aS 0), (aS 3)] [.i .i64] 4) <|
 .i (.get (.da 2) (.q [.i .i64]) 5) <|
 .i (.get (.da 2) (.q [.i .i64]) 6) <|
 .i (.call f_impl_in [(aI 4), (.vi .i64 (.bin .sub .i64 (.z 0) (.v 5))), (aI 6)] [.b] 7) <|
 .done [(.vb (.not (.v 7)))]

def R_impl_TrtKeeps : R :=
 .i (.call f_impl_TrtTreaty_ok [(aS 0), (aS 1), (aS 2), (aI 3), (aS 4)] [.b] 5) <|
 .ite (.not (.v 5))
 (
 .done [(.vb .ff)])
 (
 .i (.idx (.v 1) (.v 3) (.one (.i .i64)) 6) <|
 .i (.call f_slices_ContainsFunc_SSint_Sint [(aS 2), (.fn f_impl_TrtKeeps_1 (.cons (.q (.cons (aS 4) .nil)) (.cons (.q (.cons (aI 6) .nil)) .nil)))] [.b] 7) <|
 .done [(.vb (.not (.v 7)))])

def R_impl_rules_unpinned : R :=
 .loop 4 [(.z 0)] <|
 .ite (.cmp .lt (.v 4) (.len (.v 3)))
 (
 .i (.idx (.v 3) (.v 4) (.one (.i .i64)) 5) <|
 .ite (.not (.cmp .eq (.v 5) (.z 0)))
 (
 .i (.idx (.v 2) (.v 4) (.one (.b)) 6) <|
 .ite (.v 6)
 (
 .esc <|
 .done [(.vb .ff)])
 (
 .next [(.bin .add .i64 (.v 4) (.z 1))]))
 (
 .next [(.bin .add .i64 (.v 4) (.z 1))]))
 (
 .esc <|
 .done [(.vb .tt)])

def R_impl_rules_keeps : R :=
 .i (.call f_impl_TrtKeeps [(aS 3), (aS 4), (aS 1), (aI 5), (aS 6)] [.b] 7) <|
 .ite (.v 7)
 (
 .i (.call f_impl_rules_unpinned [(aS 0), (aS 1), (aS 2), (aS 6)] [.b] 8) <|
 .done [(aB 8)])
 (
 .done [(.vb .ff)])

def R_impl_PlnPlan_seqsOk_1 : R :=
 .i (.call f_impl_in [(aI 0), (aZ 0), (aZ 300)] [.b] 1) <|
 .done [(.vb (.not (.v 1)))]

def R_impl_PlnPlan_seqsOk : R :=
 .ite (.cmp .eq (.len (.v 4)) (.v 0))
 (
 .i (.call f_slices_ContainsFunc_Sint_int [(aS 4), (.fn f_impl_PlnPlan_seqsOk_1 .nil)] [.b] 5) <|
 .done [(.vb (.not (.v 5)))])
 (
 .done [(.vb .ff)])

def R_impl_ClkGot_none : R :=
 .ite (.not (.v 0))
 (
 .ite (.cmp .eq (.len (.v 1)) (.z 0))
 (
 .done [(.vb (.cmp .eq (.len (.v 2)) (.z 0)))])
 (
 .done [(.vb .ff)]))
 (
 .done [(.vb .ff)])

def R_impl_PlnPlan_clerkOk : R :=
 .i (.call f_impl_in [(aI 8), (aZ 0), (aZ 200)] [.b] 13) <|
 .ite (.not (.v 13))
 (
 .done [(.vb .ff)])
 (
 .i (.call f_impl_ValOk [(aS 9)] [.b] 14) <|
 .ite (.not (.v 14))
 (
 .done [(.vb .ff)])
 (
 .i (.call f_impl_PlnPlan_doneOk [(aI 0), (aS 1), (aS 2), (aS 3), (aS 10)] [.b] 15) <|
 .ite (.not (.v 15))
 (
 .done [(.vb .ff)])
 (
 .ite (.not (.cmp .eq (.len (.v 12)) (.len (.v 2))))
 (
 .done [(.vb .ff)])
 (
 .loop 16 [(.z 0)] <|
 .ite (.cmp .lt (.v 16) (.len (.v 11)))
 (
 .i (.idx (.v 11) (.v 16) (.g [.i .i64, .i .i64, .i .i64, .s]) 17) <|
 .i (.call f_impl_PlnPlan_callOk [(aI 0), (aS 1), (aS 2), (aS 3), (aI 17), (aI 18), (aI 19), (aS 20)] [.b] 21) <|
 .ite (.not (.v 21))
 (
 .esc <|
 .done [(.vb .ff)])
 (
 .ite (.cmp .lt (.z 0) (.v 16))
 (
 .i (.idx (.v 11) (.bin .sub .i64 (.v 16) (.z 1)) (.g [.i .i64, .i .i64, .i .i64, .s]) 22) <|
 .ite (.cmp .le (.v 17) (.v 22))
 (
 .esc <|
 .done [(.vb .ff)])
 (
 .ite (.not (.v 7))
 (
 .esc <|
 .done [(.vb .ff)])
 (
 .next [(.bin .add .i64 (.v 16) (.z 1))])))
 (
 .ite (.not (.v 7))
 (
 .esc <|
 .done [(.vb .ff)])
 (
 .next [(.bin .add .i64 (.v 16) (.z 1))]))))
 (
 .esc <|
 .loop 17 [(.z 0)] <|
 .ite (.cmp .lt (.v 17) (.len (.v 12)))
 (
 .i (.idx (.v 12) (.v 17) (.g [.b, .s, .s]) 18) <|
 .ite (.v 7)
 (
 .ite (.v 18)
 (
 .i (.call f_impl_PlnPlan_treaty [(aI 0), (aS 1), (aS 2), (aS 3), (aS 9)] [.s, .s] 21) <|
 .i (.call f_impl_rules_keeps [(aS 4), (aS 5), (aS 6), (aS 21), (aS 22), (aI 17), (aS 19)] [.b] 23) <|
 .ite (.v 23)
 (
 .i (.call f_impl_PlnPlan_seqsOk [(aI 0), (aS 1), (aS 2), (aS 3), (aS 20)] [.b] 24) <|
 .ite (.not (.v 24))
 (
 .i (.call f_impl_ClkGot_none [(aB 18), (aS 19), (aS 20)] [.b] 25) <|
 .ite (.not (.v 25))
 (
 .esc <|
 .done [(.vb .ff)])
 (
 .next [(.bin .add .i64 (.v 17) (.z 1))]))
 (
 .next [(.bin .add .i64 (.v 17) (.z 1))]))
 (
 .i (.call f_impl_ClkGot_none [(aB 18), (aS 19), (aS 20)] [.b] 24) <|
 .ite (.not (.v 24))
 (
 .esc <|
 .done [(.vb .ff)])
 (
 .next [(.bin .add .i64 (.v 17) (.z 1))])))
 (
 .i (.call f_impl_ClkGot_none [(aB 18), (aS 19), (aS 20)] [.b] 21) <|
 .ite (.not (.v 21))
 (
 .esc <|
 .done [(.vb .ff)])
 (
 .next [(.bin .add .i64 (.v 17) (.z 1))])))
 (
 .i (.call f_impl_ClkGot_none [(aB 18), (aS 19), (aS 20)] [.b] 21) <|
 .ite (.not (.v 21))
 (
 .esc <|
 .done [(.vb .ff)])
 (
 .next [(.bin .add .i64 (.v 17) (.z 1))])))
 (
 .esc <|
 .done [(.vb .tt)]))))))

def R_impl_ClkOk : R :=
 .i (.call f_impl_PlnOk [(aI 0), (aS 1), (aS 2), (aS 3)] [.b] 10) <|
 .ite (.v 10)
 (
 .i (.call f_impl_rulesOf [(aS 1)] [.s, .s, .s] 11) <|
 .i (.call f_impl_PlnPlan_clerkOk [(aI 0), (aS 1), (aS 2), (aS 3), (aS 11), (aS 12), (aS 13), (aB 4), (aI 5), (aS 6), (aS 7), (aS 8), (aS 9)] [.b] 14) <|
 .done [(aB 14)])
 (
 .done [(.vb .ff)])

def R_laws_eqIntS : R :=
 .ite (.not (.cmp .eq (.len (.v 0)) (.len (.v 1))))
 (
 .done [(.vb .ff)])
 (
 .loop 2 [(.z 0)] <|
 .ite (.cmp .lt (.v 2) (.len (.v 0)))
 (
 .i (.idx (.v 0) (.v 2) (.one (.i .i64)) 3) <|
 .i (.idx (.v 1) (.v 2) (.one (.i .i64)) 4) <|
 .ite (.not (.cmp .eq (.v 3) (.v 4)))
 (
 .esc <|
 .done [(.vb .ff)])
 (
 .next [(.bin .add .i64 (.v 2) (.z 1))]))
 (
 .esc <|
 .done [(.vb .tt)]))

def R_laws_eqFrmForm : R :=
 .i (.call f_laws_eqIntS [(aS 0), (aS 3)] [.b] 6) <|
 .ite (.not (.v 6))
 (
 .done [(.vb .ff)])
 (
 .i (.call f_laws_eqIntS [(aS 1), (aS 4)] [.b] 7) <|
 .ite (.not (.v 7))
 (
 .done [(.vb .ff)])
 (
 .ite (.not (.cmp .eq (.v 2) (.v 5)))
 (
 .done [(.vb .ff)])
 (
 .done [(.vb .tt)])))

def R_laws_eqActLine : R :=
 .ite (.not (.cmp .eq (.v 0) (.v 6)))
 (
 .done [(.vb .ff)])
 (
 .ite (.not (.cmp .eq (.v 1) (.v 7)))
 (
 .done [(.vb .ff)])
 (
 .ite (.not (.cmp .eq (.v 2) (.v 8)))
 (
 .done [(.vb .ff)])
 (
 .i (.call f_laws_eqFrmForm [(aS 3), (aS 4), (aI 5), (aS 9), (aS 10), (aI 11)] [.b] 12) <|
 .ite (.not (.v 12))
 (
 .done [(.vb .ff)])
 (
 .done [(.vb .tt)]))))

def R_laws_eqActLineS : R :=
 .ite (.not (.cmp .eq (.len (.v 0)) (.len (.v 1))))
 (
 .done [(.vb .ff)])
 (
 .loop 2 [(.z 0)] <|
 .ite (.cmp .lt (.v 2) (.len (.v 0)))
 (
 .i (.idx (.v 0) (.v 2) (.g [.i .i64, .i .i64, .i .i64, .s, .s, .i .i64]) 3) <|
 .i (.idx (.v 1) (.v 2) (.g [.i .i64, .i .i64, .i .i64, .s, .s, .i .i64]) 9) <|
 .i (.call f_laws_eqActLine [(aI 3), (aI 4), (aI 5), (aS 6), (aS 7), (aI 8), (aI 9), (aI 10), (aI 11), (aS 12), (aS 13), (aI 14)] [.b] 15) <|
 .ite (.not (.v 15))
 (
 .esc <|
 .done [(.vb .ff)])
 (
 .next [(.bin .add .i64 (.v 2) (.z 1))]))
 (
 .esc <|
 .done [(.vb .tt)]))

def R_laws_eqActLineSS : R :=
 .ite (.not (.cmp .eq (.len (.v 0)) (.len (.v 1))))
 (
 .done [(.vb .ff)])
 (
 .loop 2 [(.z 0)] <|
 .ite (.cmp .lt (.v 2) (.len (.v 0)))
 (
 .i (.idx (.v 0) (.v 2) (.one (.s)) 3) <|
 .i (.idx (.v 1) (.v 2) (.one (.s)) 4) <|
 .i (.call f_laws_eqActLineS [(aS 3), (aS 4)] [.b] 5) <|
 .ite (.not (.v 5))
 (
 .esc <|
 .done [(.vb .ff)])
 (
 .next [(.bin .add .i64 (.v 2) (.z 1))]))
 (
 .esc <|
 .done [(.vb .tt)]))

def R_laws_eqPlnPlan : R :=
 .ite (.not (.cmp .eq (.v 0) (.v 4)))
 (
 .done [(.vb .ff)])
 (
 .i (.call f_laws_eqActLineSS [(aS 1), (aS 5)] [.b] 8) <|
 .ite (.not (.v 8))
 (
 .done [(.vb .ff)])
 (
 .i (.call f_laws_eqIntS [(aS 2), (aS 6)] [.b] 9) <|
 .ite (.not (.v 9))
 (
 .done [(.vb .ff)])
 (
 .i (.call f_laws_eqIntS [(aS 3), (aS 7)] [.b] 10) <|
 .ite (.not (.v 10))
 (
 .done [(.vb .ff)])
 (
 .done [(.vb .tt)]))))

def R_laws_eqResResult : R :=
 .ite (.not (.cmp .eq (.v 0) (.v 2)))
 (
 .done [(.vb .ff)])
 (
 .i (.call f_laws_eqIntS [(aS 1), (aS 3)] [.b] 4) <|
 .ite (.not (.v 4))
 (
 .done [(.vb .ff)])
 (
 .done [(.vb .tt)]))

def R_laws_eqPlnDone : R :=
 .ite (.not (.cmp .eq (.v 0) (.v 3)))
 (
 .done [(.vb .ff)])
 (
 .i (.call f_laws_eqResResult [(aI 1), (aS 2), (aI 4), (aS 5)] [.b] 6) <|
 .ite (.not (.v 6))
 (
 .done [(.vb .ff)])
 (
 .done [(.vb .tt)]))

def R_laws_eqPlnDoneS : R :=
 .ite (.not (.cmp .eq (.len (.v 0)) (.len (.v 1))))
 (
 .done [(.vb .ff)])
 (
 .loop 2 [(.z 0)] <|
 .ite (.cmp .lt (.v 2) (.len (.v 0)))
 (
 .i (.idx (.v 0) (.v 2) (.g [.i .i64, .i .i64, .s]) 3) <|
 .i (.idx (.v 1) (.v 2) (.g [.i .i64, .i .i64, .s]) 6) <|
 .i (.call f_laws_eqPlnDone [(aI 3), (aI 4), (aS 5), (aI 6), (aI 7), (aS 8)] [.b] 9) <|
 .ite (.not (.v 9))
 (
 .esc <|
 .done [(.vb .ff)])
 (
 .next [(.bin .add .i64 (.v 2) (.z 1))]))
 (
 .esc <|
 .done [(.vb .tt)]))

def R_laws_eqPlnCall : R :=
 .ite (.not (.cmp .eq (.v 0) (.v 4)))
 (
 .done [(.vb .ff)])
 (
 .ite (.not (.cmp .eq (.v 1) (.v 5)))
 (
 .done [(.vb .ff)])
 (
 .ite (.not (.cmp .eq (.v 2) (.v 6)))
 (
 .done [(.vb .ff)])
 (
 .i (.call f_laws_eqIntS [(aS 3), (aS 7)] [.b] 8) <|
 .ite (.not (.v 8))
 (
 .done [(.vb .ff)])
 (
 .done [(.vb .tt)]))))

def R_laws_eqPlnCallS : R :=
 .ite (.not (.cmp .eq (.len (.v 0)) (.len (.v 1))))
 (
 .done [(.vb .ff)])
 (
 .loop 2 [(.z 0)] <|
 .ite (.cmp .lt (.v 2) (.len (.v 0)))
 (
 .i (.idx (.v 0) (.v 2) (.g [.i .i64, .i .i64, .i .i64, .s]) 3) <|
 .i (.idx (.v 1) (.v 2) (.g [.i .i64, .i .i64, .i .i64, .s]) 7) <|
 .i (.call f_laws_eqPlnCall [(aI 3), (aI 4), (aI 5), (aS 6), (aI 7), (aI 8), (aI 9), (aS 10)] [.b] 11) <|
 .ite (.not (.v 11))
 (
 .esc <|
 .done [(.vb .ff)])
 (
 .next [(.bin .add .i64 (.v 2) (.z 1))]))
 (
 .esc <|
 .done [(.vb .tt)]))

def R_laws_eqClkGot : R :=
 .ite (.not (.beq (.v 0) (.v 3)))
 (
 .done [(.vb .ff)])
 (
 .i (.call f_laws_eqIntS [(aS 1), (aS 4)] [.b] 6) <|
 .ite (.not (.v 6))
 (
 .done [(.vb .ff)])
 (
 .i (.call f_laws_eqIntS [(aS 2), (aS 5)] [.b] 7) <|
 .ite (.not (.v 7))
 (
 .done [(.vb .ff)])
 (
 .done [(.vb .tt)])))

def R_laws_eqClkGotS : R :=
 .ite (.not (.cmp .eq (.len (.v 0)) (.len (.v 1))))
 (
 .done [(.vb .ff)])
 (
 .loop 2 [(.z 0)] <|
 .ite (.cmp .lt (.v 2) (.len (.v 0)))
 (
 .i (.idx (.v 0) (.v 2) (.g [.b, .s, .s]) 3) <|
 .i (.idx (.v 1) (.v 2) (.g [.b, .s, .s]) 6) <|
 .i (.call f_laws_eqClkGot [(aB 3), (aS 4), (aS 5), (aB 6), (aS 7), (aS 8)] [.b] 9) <|
 .ite (.not (.v 9))
 (
 .esc <|
 .done [(.vb .ff)])
 (
 .next [(.bin .add .i64 (.v 2) (.z 1))]))
 (
 .esc <|
 .done [(.vb .tt)]))

def R_laws_eqClkClerk : R :=
 .ite (.not (.beq (.v 0) (.v 6)))
 (
 .done [(.vb .ff)])
 (
 .ite (.not (.cmp .eq (.v 1) (.v 7)))
 (
 .done [(.vb .ff)])
 (
 .i (.call f_laws_eqIntS [(aS 2), (aS 8)] [.b] 12) <|
 .ite (.not (.v 12))
 (
 .done [(.vb .ff)])
 (
 .i (.call f_laws_eqPlnDoneS [(aS 3), (aS 9)] [.b] 13) <|
 .ite (.not (.v 13))
 (
 .done [(.vb .ff)])
 (
 .i (.call f_laws_eqPlnCallS [(aS 4), (aS 10)] [.b] 14) <|
 .ite (.not (.v 14))
 (
 .done [(.vb .ff)])
 (
 .i (.call f_laws_eqClkGotS [(aS 5), (aS 11)] [.b] 15) <|
 .ite (.not (.v 15))
 (
 .done [(.vb .ff)])
 (
 .done [(.vb .tt)]))))))

def R_laws_FnExactClkOk : R :=
 .i (.call f_laws_szPlnPlan [(aI 0), (aS 1), (aS 2), (aS 3), (aZ 1048576)] [.i .i64] 10) <|
 .ite (.cmp .lt (.v 10) (.z 0))
 (
 .done [(.vb .tt)])
 (
 .i (.call f_laws_szClkClerk [(aB 4), (aI 5), (aS 6), (aS 7), (aS 8), (aS 9), (aI 10)] [.i .i64] 11) <|
 .ite (.cmp .lt (.v 11) (.z 0))
 (
 .done [(.vb .tt)])
 (
 .i (.call f_laws_toPlnPlan [(aI 0), (aS 1), (aS 2), (aS 3)] [.i .i64, .s, .s, .s] 12) <|
 .i (.call f_laws_toClkClerk [(aB 4), (aI 5), (aS 6), (aS 7), (aS 8), (aS 9)] [.b, .i .i64, .s, .s, .s, .s] 16) <|
 .i (.call f_spec_ClkOk [(aI 12), (aS 13), (aS 14), (aS 15), (aB 16), (aI 17), (aS 18), (aS 19), (aS 20), (aS 21)] [.b] 22) <|
 .i (.call f_laws_toPlnPlan [(aI 0), (aS 1), (aS 2), (aS 3)] [.i .i64, .s, .s, .s] 23) <|
 .i (.call f_laws_toClkClerk [(aB 4), (aI 5), (aS 6), (aS 7), (aS 8), (aS 9)] [.b, .i .i64, .s, .s, .s, .s] 27) <|
 .i (.call f_impl_ClkOk [(aI 23), (aS 24), (aS 25), (aS 26), (aB 27), (aI 28), (aS 29), (aS 30), (aS 31), (aS 32)] [.b] 33) <|
 .ite (.not (.beq (.v 33) (.v 22)))
 (
 .done [(.vb .ff)])
 (
 .i (.call f_laws_toPlnPlan [(aI 0), (aS 1), (aS 2), (aS 3)] [.i .i64, .s, .s, .s] 34) <|
 .i (.call f_laws_eqPlnPlan [(aI 23), (aS 24), (aS 25), (aS 26), (aI 34), (aS 35), (aS 36), (aS 37)] [.b] 38) <|
 .ite (.not (.v 38))
 (
 .done [(.vb .ff)])
 (
 .i (.call f_laws_toClkClerk [(aB 4), (aI 5), (aS 6), (aS 7), (aS 8), (aS 9)] [.b, .i .i64, .s, .s, .s, .s] 39) <|
 .i (.call f_laws_eqClkClerk [(aB 27), (aI 28), (aS 29), (aS 30), (aS 31), (aS 32), (aB 39), (aI 40), (aS 41), (aS 42), (aS 43), (aS 44)] [.b] 45) <|
 .ite (.not (.v 45))
 (
 .done [(.vb .ff)])
 (
 .done [(.vb .tt)])))))
def E_laws_szIntS : Entry := ⟨.d ⟨[(.one (.s)), (.one (.i .i64))], (.one (.one (.i .i64))), true⟩, .r ⟨[0, 1, 4, 10], 0, [], [], false, [], []⟩ R_laws_szIntS⟩
def E_laws_szFrmForm : Entry := ⟨.d ⟨[(.g [.s, .s, .i .i64]), (.one (.i .i64))], (.one (.one (.i .i64))), true⟩, .r ⟨[0, 1, 2, 4, 10, 16], 0, [], [], false, [], []⟩ R_laws_szFrmForm⟩
def E_laws_szActLine : Entry := ⟨.d ⟨[(.g [.i .i64, .i .i64, .i .i64, .s, .s, .i .i64]), (.one (.i .i64))], (.one (.one (.i .i64))), true⟩, .r ⟨[0, 1, 2, 4, 10], 0, [], [], false, [], []⟩ R_laws_szActLine⟩
def E_laws_szActLineS : Entry := ⟨.d ⟨[(.one (.s)), (.one (.i .i64))], (.one (.one (.i .i64))), true⟩, .r ⟨[0, 1, 4, 5, 11, 15, 25], 0, [], [(5, ⟨[5, 1], [], [], [], []⟩)], false, [], []⟩ R_laws_szActLineS⟩
def E_laws_szActLineSS : Entry := ⟨.d ⟨[(.one (.s)), (.one (.i .i64))], (.one (.one (.i .i64))), true⟩, .r ⟨[0, 1, 4, 5, 11, 15, 25], 0, [], [(5, ⟨[5, 1], [], [], [], []⟩)], false, [], []⟩ R_laws_szActLineSS⟩
def E_laws_szPlnPlan : Entry := ⟨.d ⟨[(.g [.i .i64, .s, .s, .s]), (.one (.i .i64))], (.one (.one (.i .i64))), true⟩, .r ⟨[0, 1, 2, 4, 10, 16, 22], 0, [], [], false, [], []⟩ R_laws_szPlnPlan⟩
def E_laws_szResResult : Entry := ⟨.d ⟨[(.g [.i .i64, .s]), (.one (.i .i64))], (.one (.one (.i .i64))), true⟩, .r ⟨[0, 1, 2, 4, 10], 0, [], [], false, [], []⟩ R_laws_szResResult⟩
def E_laws_szPlnDone : Entry := ⟨.d ⟨[(.g [.i .i64, .i .i64, .s]), (.one (.i .i64))], (.one (.one (.i .i64))), true⟩, .r ⟨[0, 1, 2, 4, 10], 0, [], [], false, [], []⟩ R_laws_szPlnDone⟩
def E_laws_szPlnDoneS : Entry := ⟨.d ⟨[(.one (.s)), (.one (.i .i64))], (.one (.one (.i .i64))), true⟩, .r ⟨[0, 1, 4, 5, 11, 15, 25], 0, [], [(5, ⟨[5, 1], [], [], [], []⟩)], false, [], []⟩ R_laws_szPlnDoneS⟩
def E_laws_szPlnCall : Entry := ⟨.d ⟨[(.g [.i .i64, .i .i64, .i .i64, .s]), (.one (.i .i64))], (.one (.one (.i .i64))), true⟩, .r ⟨[0, 1, 2, 4, 10], 0, [], [], false, [], []⟩ R_laws_szPlnCall⟩
def E_laws_szPlnCallS : Entry := ⟨.d ⟨[(.one (.s)), (.one (.i .i64))], (.one (.one (.i .i64))), true⟩, .r ⟨[0, 1, 4, 5, 11, 15, 25], 0, [], [(5, ⟨[5, 1], [], [], [], []⟩)], false, [], []⟩ R_laws_szPlnCallS⟩
def E_laws_szClkGot : Entry := ⟨.d ⟨[(.g [.b, .s, .s]), (.one (.i .i64))], (.one (.one (.i .i64))), true⟩, .r ⟨[0, 1, 2, 4, 10, 16], 0, [], [], false, [], []⟩ R_laws_szClkGot⟩
def E_laws_szClkGotS : Entry := ⟨.d ⟨[(.one (.s)), (.one (.i .i64))], (.one (.one (.i .i64))), true⟩, .r ⟨[0, 1, 4, 5, 11, 15, 25], 0, [], [(5, ⟨[5, 1], [], [], [], []⟩)], false, [], []⟩ R_laws_szClkGotS⟩
def E_laws_szClkClerk : Entry := ⟨.d ⟨[(.g [.b, .i .i64, .s, .s, .s, .s]), (.one (.i .i64))], (.one (.one (.i .i64))), true⟩, .r ⟨[0, 1, 2, 4, 10, 16, 22, 28], 0, [], [], false, [], []⟩ R_laws_szClkClerk⟩
def E_laws_toIntS : Entry := ⟨.x ⟨[(.d (aS 0))], [], [.s], (.o 0 (.v 0)), [(.arr 3 1 (.v 0) true true)], [.s], false⟩, .r ⟨[0, 2, 3, 4, 11], 0, [], [(3, ⟨[4], [], [112], [], []⟩)], true, [], []⟩ R_laws_toIntS⟩
def E_laws_toFrmForm : Entry := ⟨.x ⟨[(.g [(.d (aS 0)), (.d (aS 1)), (.d (aI 2))])], [], [.s, .s, .i .i64], (.g [(.o 0 (.v 0)), (.o 1 (.v 1)), (.d (aI 2))]), [(.arr 3 1 (.v 0) true true), (.arr 3 1 (.v 1) true true)], [.s, .s, .i .i64], false⟩, .r ⟨[0, 1, 2, 3], 0, [], [], true, [], []⟩ R_laws_toFrmForm⟩
def E_laws_toActLine : Entry := ⟨.x ⟨[(.g [(.d (aI 0)), (.d (aI 1)), (.d (aI 2)), (.d (aS 3)), (.d (aS 4)), (.d (aI 5))])], [], [.i .i64, .i .i64, .i .i64, .s, .s, .i .i64], (.g [(.d (aI 0)), (.d (aI 1)), (.d (aI 2)), (.o 0 (.v 3)), (.o 1 (.v 4)), (.d (aI 5))]), [(.arr 3 1 (.v 3) true true), (.arr 3 1 (.v 4) true true)], [.i .i64, .i .i64, .i .i64, .s, .s, .i .i64], false⟩, .r ⟨[0, 1, 2, 3], 0, [], [], true, [], []⟩ R_laws_toActLine⟩
def E_laws_toActLineS : Entry := ⟨.x ⟨[(.d (aS 0))], [], [.s], (.o 0 (.v 0)), [(.arr 201 6 (.v 0) true true)], [.s], false⟩, .r ⟨[0, 2, 3, 4, 11], 0, [], [(3, ⟨[4], [], [112], [], []⟩)], true, [], []⟩ R_laws_toActLineS⟩
def E_laws_toActLineSS : Entry := ⟨.x ⟨[(.d (aS 0))], [], [.s], (.o 0 (.v 0)), [(.arr 154 1 (.v 0) true true)], [.s], false⟩, .r ⟨[0, 2, 3, 4, 11], 0, [], [(3, ⟨[4], [], [112], [], []⟩)], true, [], []⟩ R_laws_toActLineSS⟩
def E_laws_toPlnPlan : Entry := ⟨.x ⟨[(.g [(.d (aI 0)), (.d (aS 1)), (.d (aS 2)), (.d (aS 3))])], [], [.i .i64, .s, .s, .s], (.g [(.d (aI 0)), (.o 0 (.v 1)), (.o 1 (.v 2)), (.o 2 (.v 3))]), [(.arr 154 1 (.v 1) true true), (.arr 3 1 (.v 2) true true), (.arr 3 1 (.v 3) true true)], [.i .i64, .s, .s, .s], false⟩, .r ⟨[0, 1, 2, 3], 0, [], [], true, [], []⟩ R_laws_toPlnPlan⟩
def E_laws_toResResult : Entry := ⟨.x ⟨[(.g [(.d (aI 0)), (.d (aS 1))])], [], [.i .i64, .s], (.g [(.d (aI 0)), (.o 0 (.v 1))]), [(.arr 3 1 (.v 1) true true)], [.i .i64, .s], false⟩, .r ⟨[0, 1, 2, 3], 0, [], [], true, [], []⟩ R_laws_toResResult⟩
def E_laws_toPlnDone : Entry := ⟨.x ⟨[(.g [(.d (aI 0)), (.d (aI 1)), (.d (aS 2))])], [], [.i .i64, .i .i64, .s], (.g [(.d (aI 0)), (.d (aI 1)), (.o 0 (.v 2))]), [(.arr 3 1 (.v 2) true true)], [.i .i64, .i .i64, .s], false⟩, .r ⟨[0, 1, 2, 3], 0, [], [], true, [], []⟩ R_laws_toPlnDone⟩
def E_laws_toPlnDoneS : Entry := ⟨.x ⟨[(.d (aS 0))], [], [.s], (.o 0 (.v 0)), [(.arr 142 3 (.v 0) true true)], [.s], false⟩, .r ⟨[0, 2, 3, 4, 11], 0, [], [(3, ⟨[4], [], [112], [], []⟩)], true, [], []⟩ R_laws_toPlnDoneS⟩
def E_laws_toPlnCall : Entry := ⟨.x ⟨[(.g [(.d (aI 0)), (.d (aI 1)), (.d (aI 2)), (.d (aS 3))])], [], [.i .i64, .i .i64, .i .i64, .s], (.g [(.d (aI 0)), (.d (aI 1)), (.d (aI 2)), (.o 0 (.v 3))]), [(.arr 3 1 (.v 3) true true)], [.i .i64, .i .i64, .i .i64, .s], false⟩, .r ⟨[0, 1, 2, 3], 0, [], [], true, [], []⟩ R_laws_toPlnCall⟩
def E_laws_toPlnCallS : Entry := ⟨.x ⟨[(.d (aS 0))], [], [.s], (.o 0 (.v 0)), [(.arr 38 4 (.v 0) true true)], [.s], false⟩, .r ⟨[0, 2, 3, 4, 11], 0, [], [(3, ⟨[4], [], [112], [], []⟩)], true, [], []⟩ R_laws_toPlnCallS⟩
def E_laws_toClkGot : Entry := ⟨.x ⟨[(.g [(.d (aB 0)), (.d (aS 1)), (.d (aS 2))])], [], [.b, .s, .s], (.g [(.d (aB 0)), (.o 0 (.v 1)), (.o 1 (.v 2))]), [(.arr 3 1 (.v 1) true true), (.arr 3 1 (.v 2) true true)], [.b, .s, .s], false⟩, .r ⟨[0, 1, 2, 3], 0, [], [], true, [], []⟩ R_laws_toClkGot⟩
def E_laws_toClkGotS : Entry := ⟨.x ⟨[(.d (aS 0))], [], [.s], (.o 0 (.v 0)), [(.arr 132 3 (.v 0) true true)], [.s], false⟩, .r ⟨[0, 2, 3, 4, 11], 0, [], [(3, ⟨[4], [], [112], [], []⟩)], true, [], []⟩ R_laws_toClkGotS⟩
def E_laws_toClkClerk : Entry := ⟨.x ⟨[(.g [(.d (aB 0)), (.d (aI 1)), (.d (aS 2)), (.d (aS 3)), (.d (aS 4)), (.d (aS 5))])], [], [.b, .i .i64, .s, .s, .s, .s], (.g [(.d (aB 0)), (.d (aI 1)), (.o 0 (.v 2)), (.o 1 (.v 3)), (.o 2 (.v 4)), (.o 3 (.v 5))]), [(.arr 3 1 (.v 2) true true), (.arr 142 3 (.v 3) true true), (.arr 38 4 (.v 4) true true), (.arr 132 3 (.v 5) true true)], [.b, .i .i64, .s, .s, .s, .s], false⟩, .r ⟨[0, 1, 2, 3], 0, [], [], true, [], []⟩ R_laws_toClkClerk⟩
def E_spec_l1In : Entry := ⟨.d ⟨[(.one (.i .i64)), (.one (.i .i64)), (.one (.i .i64))], (.one (.one (.b))), true⟩, .r ⟨[0, 1, 2, 6], 0, [], [], false, [], []⟩ R_spec_l1In⟩
def E_spec_l1All : Entry := ⟨.d ⟨[(.one (.s)), (.one (.i .i64)), (.one (.i .i64))], (.one (.one (.b))), true⟩, .r ⟨[0, 1, 2, 6, 7, 11, 15, 26], 0, [], [(4, ⟨[7], [], [], [], []⟩)], false, [], []⟩ R_spec_l1All⟩
def E_spec_l2Small : Entry := ⟨.d ⟨[(.g [.s, .s, .i .i64])], (.one (.one (.b))), true⟩, .r ⟨[0, 1, 2], 0, [], [], false, [], []⟩ R_spec_l2Small⟩
def E_spec_l2Line : Entry := ⟨.d ⟨[(.g [.i .i64, .i .i64, .i .i64, .s, .s, .i .i64])], (.one (.one (.b))), true⟩, .r ⟨[0, 1, 2, 4, 5, 20, 35], 0, [], [], false, [], []⟩ R_spec_l2Line⟩
def E_spec_ActOk : Entry := ⟨.d ⟨[(.one (.s))], (.one (.one (.b))), true⟩, .r ⟨[0, 2, 3, 4, 8, 16, 22], 0, [], [(3, ⟨[4, 3], [], [], [], []⟩)], false, [], []⟩ R_spec_ActOk⟩
def E_spec_CatOk : Entry := ⟨.d ⟨[(.one (.s))], (.one (.one (.b))), true⟩, .r ⟨[0, 2, 3, 7, 11, 19], 0, [], [(4, ⟨[3], [], [], [], []⟩)], false, [], []⟩ R_spec_CatOk⟩
def E_spec_ValOk : Entry := ⟨.d ⟨[(.one (.s))], (.one (.one (.b))), true⟩, .r ⟨[0, 2], 0, [], [], false, [], []⟩ R_spec_ValOk⟩
def E_spec_TrtOk : Entry := ⟨.d ⟨[(.g [.s, .s])], (.one (.one (.b))), true⟩, .r ⟨[0, 1, 2, 3, 14, 19, 28], 0, [], [(4, ⟨[3], [], [], [], []⟩)], false, [], []⟩ R_spec_TrtOk⟩
def E_spec_PlnOk : Entry := ⟨.d ⟨[(.g [.i .i64, .s, .s, .s])], (.one (.one (.b))), true⟩, .r ⟨[0, 1, 2], 0, [], [], false, [], []⟩ R_spec_PlnOk⟩
def E_spec_FrmZero : Entry := ⟨.x ⟨[], [], [], (.g [(.o 0 (.v 0)), (.o 1 (.v 1)), (.d (aI 2))]), [(.arr 3 1 (.v 0) false true), (.arr 3 1 (.v 1) false true)], [.s, .s, .i .i64], false⟩, .r ⟨[0], 0, [], [], false, [], []⟩ R_spec_FrmZero⟩
def E_spec_FrmPot : Entry := ⟨.x ⟨[(.d (aI 0))], [], [.i .i64], (.g [(.o 0 (.v 0)), (.o 1 (.v 1)), (.d (aI 2))]), [(.arr 3 1 (.v 0) false true), (.arr 3 1 (.v 1) false true)], [.s, .s, .i .i64], false⟩, .r ⟨[0, 2, 3, 6], 0, [(999999, ⟨(.cell 32 0), 900000, 3, 1, false, false⟩), (999999, ⟨(.cell 32 1), 900001, 3, 1, false, false⟩)], [], false, [], []⟩ R_spec_FrmPot⟩
def E_spec_l1Sum : Entry := ⟨.x ⟨[(.g [(.d (aS 0)), (.d (aS 1)), (.d (aI 2))]), (.g [(.d (aS 3)), (.d (aS 4)), (.d (aI 5))]), (.d (aI 6))], [], [.s, .s, .i .i64, .s, .s, .i .i64, .i .i64], (.g [(.o 0 (.v 0)), (.o 1 (.v 1)), (.d (aI 2))]), [(.arr 3 1 (.v 0) false true), (.arr 3 1 (.v 1) false true)], [.s, .s, .i .i64], false⟩, .r ⟨[0, 1, 2, 3, 4, 6, 7, 8, 9, 12, 33], 0, [], [(7, ⟨[9], [], [161], [], []⟩), (3, ⟨[8], [], [160], [], []⟩)], false, [], []⟩ R_spec_l1Sum⟩
def E_spec_l3Copy : Entry := ⟨.x ⟨[(.d (aS 0))], [], [.s], (.o 0 (.v 0)), [(.arr 139 3 (.v 0) false true)], [.s], false⟩, .r ⟨[0, 2, 3, 4, 9], 0, [], [(3, ⟨[4], [], [80], [], []⟩)], false, [], []⟩ R_spec_l3Copy⟩
def E_spec_FrmOk : Entry := ⟨.d ⟨[(.g [.s, .s, .i .i64])], (.one (.one (.b))), true⟩, .r ⟨[0, 1, 2], 0, [], [], false, [], []⟩ R_spec_FrmOk⟩
def E_spec_FrmInto : Entry := ⟨.x ⟨[(.g [(.d (aS 0)), (.d (aS 1)), (.d (aI 2))]), (.d (aS 3))], [], [.s, .s, .i .i64, .s], (.g [(.o 0 (.v 0)), (.o 1 (.v 1)), (.d (aI 2))]), [(.arr 3 1 (.v 0) false true), (.arr 3 1 (.v 1) false true)], [.s, .s, .i .i64], false⟩, .r ⟨[0, 1, 2, 4, 5, 6, 35, 46, 62], 0, [(999999, ⟨(.cell 64 0), 900000, 3, 1, false, false⟩), (999999, ⟨(.cell 64 1), 900001, 3, 1, false, false⟩)], [(5, ⟨[6], [(80, 2)], [592, 608], [], []⟩)], false, [], []⟩ R_spec_FrmInto⟩
def E_spec_l3Minus : Entry := ⟨.x ⟨[(.g [(.d (aS 0)), (.d (aS 1)), (.d (aI 2))])], [], [.s, .s, .i .i64], (.g [(.o 0 (.v 0)), (.o 1 (.v 1)), (.d (aI 2))]), [(.arr 3 1 (.v 0) false true), (.arr 3 1 (.v 1) false true)], [.s, .s, .i .i64], false⟩, .r ⟨[0, 1, 2, 3], 0, [], [], false, [], []⟩ R_spec_l3Minus⟩
def E_spec_l3Row : Entry := ⟨.x ⟨[(.d (aS 0)), (.d (aS 1)), (.d (aS 2))], [], [.s, .s, .s], (.g [(.o 0 (.v 0)), (.o 1 (.v 1)), (.o 2 (.v 2)), (.d (aB 3))]), [(.arr 139 3 (.v 0) false true), (.arr 139 3 (.v 1) false true), (.arr 139 3 (.v 2) false true)], [.s, .s, .s, .b], false⟩, .r ⟨[0, 1, 2, 6, 7, 8, 15], 0, [(3, ⟨(.cell 112 1), 121, 139, 3, false, false⟩)], [(3, ⟨[8], [], [121], [], []⟩)], false, [], []⟩ R_spec_l3Row⟩
def E_spec_l3Walk : Entry := ⟨.x ⟨[(.d (aS 0)), (.d (aI 1)), (.d (aS 2)), (.d (aS 3)), (.d (aS 4))], [], [.s, .i .i64, .s, .s, .s], (.o 0 (.v 0)), [(.arr 169 4 (.v 0) false true)], [.s], false⟩, .r ⟨[0, 1, 2, 3, 4, 10, 11, 12, 13, 14, 15, 20, 29, 39, 45, 80], 0, [], [(2, ⟨[11, 4, 2], [], [], [], []⟩)], false, [], []⟩ R_spec_l3Walk⟩
def E_spec_RowsOf : Entry := ⟨.x ⟨[(.d (aS 0))], [], [.s], (.o 0 (.v 0)), [(.arr 169 4 (.v 0) false true)], [.s], false⟩, .r ⟨[0, 2, 5], 0, [], [], false, [], []⟩ R_spec_RowsOf⟩
def E_spec_l4Reads : Entry := ⟨.x ⟨[(.d (aS 0)), (.d (aS 1))], [], [.s, .s], (.o 0 (.v 0)), [(.arr 4 1 (.v 0) false true)], [.s], false⟩, .r ⟨[0, 1, 4, 5, 6, 7, 14, 18, 29], 0, [], [(3, ⟨[6], [], [128], [], []⟩), (6, ⟨[7], [], [128], [], []⟩)], false, [], []⟩ R_spec_l4Reads⟩
def E_spec_CatPart : Entry := ⟨.x ⟨[(.g [(.d (aS 0)), (.d (aS 1)), (.d (aI 2))])], [], [.s, .s, .i .i64], (.o 0 (.v 0)), [(.arr 3 1 (.v 0) false true)], [.s], false⟩, .r ⟨[0, 1, 2, 3, 4, 5, 11, 23, 33], 0, [], [(4, ⟨[5, 4], [], [96], [], []⟩)], false, [], []⟩ R_spec_CatPart⟩
def E_spec_l4Same : Entry := ⟨.d ⟨[(.one (.s)), (.one (.s))], (.one (.one (.b))), true⟩, .r ⟨[0, 1, 4, 5, 10, 14, 25], 0, [], [(4, ⟨[5], [], [], [], []⟩)], false, [], []⟩ R_spec_l4Same⟩
def E_spec_CatHas : Entry := ⟨.d ⟨[(.one (.s)), (.one (.s))], (.one (.one (.i .i64))), true⟩, .r ⟨[0, 1, 4, 5, 9, 17], 0, [], [(2, ⟨[5], [], [], [], []⟩)], false, [], []⟩ R_spec_CatHas⟩
def E_spec_l4Both : Entry := ⟨.x ⟨[(.d (aS 0))], [], [.s], (.t [(.o 0 (.v 0)), (.o 1 (.v 1))]), [(.arr 23 1 (.v 0) false true), (.arr 4 1 (.v 1) false true)], [.s, .s], false⟩, .r ⟨[0, 2, 3, 4, 5, 6, 7, 8, 9, 10, 11, 15, 27, 38, 61, 83], 0, [], [(8, ⟨[7], [], [192, 208], [], []⟩), (12, ⟨[9], [], [192, 208], [], []⟩), (16, ⟨[10], [], [192], [], []⟩), (4, ⟨[6], [], [192], [], []⟩)], false, [], []⟩ R_spec_l4Both⟩
def E_spec_l1Digits : Entry := ⟨.d ⟨[(.one (.i .i64))], (.one (.one (.d))), false⟩, .m digitsF⟩
def E_spec_ResText : Entry := ⟨.d ⟨[(.g [.i .i64, .s])], (.one (.one (.d))), false⟩, .r ⟨[0, 1, 2, 3, 4, 5, 36, 46], 0, [], [(6, ⟨[5, 4], [], [], [], []⟩)], false, [], []⟩ R_spec_ResText⟩
def E_spec_ResOk : Entry := ⟨.d ⟨[(.g [.i .i64, .s])], (.one (.one (.b))), true⟩, .r ⟨[0, 1, 2], 0, [], [], false, [], []⟩ R_spec_ResOk⟩
def E_spec_l6Done : Entry := ⟨.d ⟨[(.g [.i .i64, .s, .s, .s]), (.one (.s))], (.one (.one (.b))), true⟩, .r ⟨[0, 1, 2, 4, 5, 10, 14, 74], 0, [], [(4, ⟨[5], [], [], [], []⟩)], false, [], []⟩ R_spec_l6Done⟩
def E_spec_l5Parts : Entry := ⟨.d ⟨[(.one (.s))], (.one (.one (.b))), true⟩, .r ⟨[0, 2, 3, 7, 15], 0, [], [(2, ⟨[3], [], [], [], []⟩)], false, [], []⟩ R_spec_l5Parts⟩
def E_spec_l5Times : Entry := ⟨.d ⟨[(.one (.s)), (.one (.s))], (.one (.one (.i .i64))), true⟩, .r ⟨[0, 1, 4, 5, 6, 8], 0, [], [(3, ⟨[6, 5], [], [], [], []⟩)], false, [], []⟩ R_spec_l5Times⟩
def E_spec_TrtKeeps : Entry := ⟨.d ⟨[(.g [.s, .s]), (.one (.s)), (.one (.i .i64)), (.one (.s))], (.one (.one (.b))), true⟩, .r ⟨[0, 1, 2, 3, 4, 8, 9, 31, 35, 56], 0, [], [(4, ⟨[9], [], [], [], []⟩)], false, [], []⟩ R_spec_TrtKeeps⟩
def E_spec_l5Still : Entry := ⟨.d ⟨[(.one (.s)), (.one (.s))], (.one (.one (.b))), true⟩, .r ⟨[0, 1, 4, 5, 7, 20], 0, [], [(2, ⟨[5], [], [], [], []⟩)], false, [], []⟩ R_spec_l5Still⟩
def E_spec_l7Seqs : Entry := ⟨.d ⟨[(.g [.i .i64, .s, .s, .s]), (.one (.s))], (.one (.one (.b))), true⟩, .r ⟨[0, 1, 2, 4, 5, 10, 14, 22], 0, [], [(4, ⟨[5], [], [], [], []⟩)], false, [], []⟩ R_spec_l7Seqs⟩
def E_spec_l9Got : Entry := ⟨.d ⟨[(.g [.i .i64, .s, .s, .s]), (.one (.s)), (.one (.s)), (.g [.b, .i .i64, .s, .s, .s, .s])], (.one (.one (.b))), true⟩, .r ⟨[0, 1, 2, 3, 4, 7, 8, 9, 10, 11, 18, 28, 75], 0, [], [(5, ⟨[10], [], [], [], []⟩)], false, [], []⟩ R_spec_l9Got⟩
def E_spec_ArgOk : Entry := ⟨.d ⟨[(.one (.s))], (.one (.one (.b))), true⟩, .r ⟨[0, 2], 0, [], [], false, [], []⟩ R_spec_ArgOk⟩
def E_spec_l6Call : Entry := ⟨.d ⟨[(.g [.i .i64, .s, .s, .s]), (.g [.i .i64, .i .i64, .i .i64, .s])], (.one (.one (.b))), true⟩, .r ⟨[0, 1, 2, 3, 4], 0, [], [], false, [], []⟩ R_spec_l6Call⟩
def E_spec_l9Has : Entry := ⟨.d ⟨[(.g [.b, .i .i64, .s, .s, .s, .s])], (.one (.one (.i .i64))), true⟩, .r ⟨[0, 1, 2, 3, 4, 9, 17], 0, [], [(3, ⟨[4, 3], [], [], [], []⟩)], false, [], []⟩ R_spec_l9Has⟩
def E_spec_l9Ok : Entry := ⟨.d ⟨[(.g [.i .i64, .s, .s, .s]), (.one (.s)), (.one (.s)), (.g [.b, .i .i64, .s, .s, .s, .s])], (.one (.one (.b))), true⟩, .r ⟨[0, 1, 2, 3, 4, 7, 8, 9, 34, 39, 69], 0, [], [(4, ⟨[9], [], [], [], []⟩)], false, [], []⟩ R_spec_l9Ok⟩
def E_spec_ClkOk : Entry := ⟨.d ⟨[(.g [.i .i64, .s, .s, .s]), (.g [.b, .i .i64, .s, .s, .s, .s])], (.one (.one (.b))), true⟩, .r ⟨[0, 1, 2, 3, 4, 5, 6, 9], 0, [], [], false, [], []⟩ R_spec_ClkOk⟩
def E_impl_in : Entry := ⟨.d ⟨[(.one (.i .i64)), (.one (.i .i64)), (.one (.i .i64))], (.one (.one (.b))), true⟩, .r ⟨[0, 1, 2, 6], 0, [], [], false, [], []⟩ R_impl_in⟩
def E_slices_IndexFunc_SSimpl_ActLine_Simpl_ActLine : Entry := ⟨.d ⟨[(.one (.s)), (.one (.d))], (.one (.one (.i .i64))), true⟩, .r ⟨[0, 1, 4, 5, 7, 8, 9, 16], 0, [], [(2, ⟨[8], [], [], [], []⟩)], false, [], []⟩ R_slices_IndexFunc_SSimpl_ActLine_Simpl_ActLine⟩
def E_slices_ContainsFunc_SSimpl_ActLine_Simpl_ActLine : Entry := ⟨.d ⟨[(.one (.s)), (.one (.d))], (.one (.one (.b))), true⟩, .r ⟨[0, 1, 4], 0, [], [], false, [], []⟩ R_slices_ContainsFunc_SSimpl_ActLine_Simpl_ActLine⟩
def E_impl_within_1 : Entry := ⟨.d ⟨[(.one (.i .i64)), (.one (.d))], (.one (.one (.b))), true⟩, .r ⟨[0, 1, 3], 0, [], [], false, [], []⟩ R_impl_within_1⟩
def E_slices_IndexFunc_Sint_int : Entry := ⟨.d ⟨[(.one (.s)), (.one (.d))], (.one (.one (.i .i64))), true⟩, .r ⟨[0, 1, 4, 5, 7, 8, 9, 16], 0, [], [(2, ⟨[8], [], [], [], []⟩)], false, [], []⟩ R_slices_IndexFunc_Sint_int⟩
def E_slices_ContainsFunc_Sint_int : Entry := ⟨.d ⟨[(.one (.s)), (.one (.d))], (.one (.one (.b))), true⟩, .r ⟨[0, 1, 4], 0, [], [], false, [], []⟩ R_slices_ContainsFunc_Sint_int⟩
def E_impl_within : Entry := ⟨.d ⟨[(.one (.s)), (.one (.i .i64)), (.one (.i .i64))], (.one (.one (.b))), true⟩, .r ⟨[0, 1, 2, 5, 6], 0, [], [], false, [], []⟩ R_impl_within⟩
def E_impl_FrmForm_small : Entry := ⟨.d ⟨[(.g [.s, .s, .i .i64])], (.one (.one (.b))), true⟩, .r ⟨[0, 1, 2], 0, [], [], false, [], []⟩ R_impl_FrmForm_small⟩
def E_slices_Equal_Sint_int : Entry := ⟨.d ⟨[(.one (.s)), (.one (.s))], (.one (.one (.b))), true⟩, .r ⟨[0, 1, 4, 5, 10, 12, 13, 14, 24], 0, [], [(4, ⟨[13], [], [], [], []⟩)], false, [], []⟩ R_slices_Equal_Sint_int⟩
def E_impl_FrmForm_same : Entry := ⟨.d ⟨[(.g [.s, .s, .i .i64]), (.g [.s, .s, .i .i64])], (.one (.one (.b))), true⟩, .r ⟨[0, 1, 2, 3, 4], 0, [], [], false, [], []⟩ R_impl_FrmForm_same⟩
def E_impl_ActLine_ok : Entry := ⟨.d ⟨[(.g [.i .i64, .i .i64, .i .i64, .s, .s, .i .i64])], (.one (.one (.b))), true⟩, .r ⟨[0, 1, 2, 4, 5, 20, 35, 50], 0, [], [], false, [], []⟩ R_impl_ActLine_ok⟩
def E_impl_ActOk : Entry := ⟨.d ⟨[(.one (.s))], (.one (.one (.b))), true⟩, .r ⟨[0, 2, 3, 5, 6, 7, 8, 9, 14, 17], 0, [], [(3, ⟨[8, 3], [], [], [], []⟩)], false, [], []⟩ R_impl_ActOk⟩
def E_impl_CatOk_1 : Entry := ⟨.d ⟨[(.one (.s))], (.one (.one (.b))), true⟩, .r ⟨[0, 2], 0, [], [], false, [], []⟩ R_impl_CatOk_1⟩
def E_impl_CatOk : Entry := ⟨.d ⟨[(.one (.s))], (.one (.one (.b))), true⟩, .r ⟨[0, 2], 0, [], [], false, [], []⟩ R_impl_CatOk⟩
def E_impl_PlnPlan_treaty : Entry := ⟨.d ⟨[(.g [.i .i64, .s, .s, .s]), (.one (.s))], (.one (.g [.s, .s])), false⟩, .r ⟨[0, 1, 2, 4], 0, [], [], false, [], []⟩ R_impl_PlnPlan_treaty⟩
def E_impl_TrtOk_1 : Entry := ⟨.d ⟨[(.one (.i .i64))], (.one (.one (.b))), true⟩, .r ⟨[0, 2], 0, [], [], false, [], []⟩ R_impl_TrtOk_1⟩
def E_impl_ValOk : Entry := ⟨.d ⟨[(.one (.s))], (.one (.one (.b))), true⟩, .r ⟨[0, 2], 0, [], [], false, [], []⟩ R_impl_ValOk⟩
def E_impl_TrtOk : Entry := ⟨.d ⟨[(.g [.s, .s])], (.one (.one (.b))), true⟩, .r ⟨[0, 1, 2, 3], 0, [], [], false, [], []⟩ R_impl_TrtOk⟩
def E_impl_PlnOk : Entry := ⟨.d ⟨[(.g [.i .i64, .s, .s, .s])], (.one (.one (.b))), true⟩, .r ⟨[0, 1, 2], 0, [], [], false, [], []⟩ R_impl_PlnOk⟩
def E_impl_FrmZero : Entry := ⟨.x ⟨[], [], [], (.g [(.o 0 (.v 0)), (.o 1 (.v 1)), (.d (aI 2))]), [(.arr 3 1 (.v 0) false true), (.arr 3 1 (.v 1) false true)], [.s, .s, .i .i64], false⟩, .r ⟨[0], 0, [], [], false, [], []⟩ R_impl_FrmZero⟩
def E_impl_FrmPot : Entry := ⟨.x ⟨[(.d (aI 0))], [], [.i .i64], (.g [(.o 0 (.v 0)), (.o 1 (.v 1)), (.d (aI 2))]), [(.arr 3 1 (.v 0) false true), (.arr 3 1 (.v 1) false true)], [.s, .s, .i .i64], false⟩, .r ⟨[0, 2, 3, 6], 0, [(999999, ⟨(.cell 32 0), 900000, 3, 1, false, false⟩), (999999, ⟨(.cell 32 1), 900001, 3, 1, false, false⟩)], [], false, [], []⟩ R_impl_FrmPot⟩
def E_slices_Clone_Sint_int : Entry := ⟨.x ⟨[(.d (aS 0))], [], [.s], (.o 0 (.v 0)), [(.arr 3 1 (.v 0) false true)], [.s], false⟩, .r ⟨[0, 2, 4], 0, [(999999, ⟨(.slot 2), 900000, 3, 1, false, false⟩)], [], false, [], []⟩ R_slices_Clone_Sint_int⟩
def E_impl_FrmForm_copied : Entry := ⟨.x ⟨[(.g [(.d (aS 0)), (.d (aS 1)), (.d (aI 2))])], [], [.s, .s, .i .i64], (.g [(.o 0 (.v 0)), (.o 1 (.v 1)), (.d (aI 2))]), [(.arr 3 1 (.v 0) false true), (.arr 3 1 (.v 1) false true)], [.s, .s, .i .i64], false⟩, .r ⟨[0, 1, 2], 0, [], [], false, [], []⟩ R_impl_FrmForm_copied⟩
def E_impl_forms : Entry := ⟨.x ⟨[(.d (aS 0))], [], [.s], (.o 0 (.v 0)), [(.arr 139 3 (.v 0) true true)], [.s], false⟩, .r ⟨[0, 2, 3, 5, 6, 7, 8, 9], 0, [(3, ⟨(.slot 3), 63, 139, 3, true, false⟩)], [(3, ⟨[8], [], [63], [], []⟩)], true, [], []⟩ R_impl_forms⟩
def E_impl_FrmOk : Entry := ⟨.d ⟨[(.g [.s, .s, .i .i64])], (.one (.one (.b))), true⟩, .r ⟨[0, 1, 2], 0, [], [], false, [], []⟩ R_impl_FrmOk⟩
def E_slices_IndexFunc_Simpl_FrmForm_impl_FrmForm : Entry := ⟨.d ⟨[(.one (.s)), (.one (.d))], (.one (.one (.i .i64))), true⟩, .r ⟨[0, 1, 4, 5, 7, 8, 9, 16], 0, [], [(2, ⟨[8], [], [], [], []⟩)], false, [], []⟩ R_slices_IndexFunc_Simpl_FrmForm_impl_FrmForm⟩
def E_slices_ContainsFunc_Simpl_FrmForm_impl_FrmForm : Entry := ⟨.d ⟨[(.one (.s)), (.one (.d))], (.one (.one (.b))), true⟩, .r ⟨[0, 1, 4], 0, [], [], false, [], []⟩ R_slices_ContainsFunc_Simpl_FrmForm_impl_FrmForm⟩
def E_impl_FrmInto_1 : Entry := ⟨.d ⟨[(.g [.s, .s, .i .i64])], (.one (.one (.b))), true⟩, .r ⟨[0, 1, 2], 0, [], [], false, [], []⟩ R_impl_FrmInto_1⟩
def E_impl_FrmForm_add : Entry := ⟨.x ⟨[(.p 0 0), (.g [(.d (aS 3)), (.d (aS 4)), (.d (aI 5))]), (.d (aI 6))], [(.box [(.o 1 (.v 0)), (.o 2 (.v 1)), (.d (aI 2))]), (.arr 3 1 (.v 0) false true), (.arr 3 1 (.v 1) false true)], [.s, .s, .i .i64, .s, .s, .i .i64, .i .i64], (.t []), [(.box [(.o 1 (.v 1)), (.o 2 (.v 2)), (.d (aI 0))]), (.arr 3 1 (.v 1) false true), (.arr 3 1 (.v 2) false true)], [.i .i64, .s, .s], false⟩, .r ⟨[0, 1, 2, 4, 6, 7, 8, 9, 11, 12, 13, 14, 32, 33, 34, 35], 3, [], [(7, ⟨[34], [], [2], [], []⟩), (2, ⟨[13], [], [1], [], []⟩)], false, [], []⟩ R_impl_FrmForm_add⟩
def E_impl_checked : Entry := ⟨.x ⟨[(.g [(.o 0 (.v 0)), (.o 1 (.v 1)), (.d (aI 2))])], [(.arr 3 1 (.v 0) false true), (.arr 3 1 (.v 1) false true)], [.s, .s, .i .i64], (.g [(.o 2 (.v 0)), (.o 3 (.v 1)), (.d (aI 2))]), [.dead, .dead, (.arr 3 1 (.v 0) false true), (.arr 3 1 (.v 1) false true)], [.s, .s, .i .i64], false⟩, .r ⟨[0, 1, 2, 5], 2, [(999999, ⟨(.cell 32 0), 900000, 3, 1, false, true⟩), (999999, ⟨(.cell 32 1), 900001, 3, 1, false, true⟩), (999999, ⟨(.kill 0), 910000, 0, 0, false, false⟩), (999999, ⟨(.kill 1), 910001, 0, 0, false, false⟩)], [], false, [], []⟩ R_impl_checked⟩
def E_impl_FrmInto : Entry := ⟨.x ⟨[(.g [(.d (aS 0)), (.d (aS 1)), (.d (aI 2))]), (.d (aS 3))], [], [.s, .s, .i .i64, .s], (.g [(.o 0 (.v 0)), (.o 1 (.v 1)), (.d (aI 2))]), [(.arr 3 1 (.v 0) false true), (.arr 3 1 (.v 1) false true)], [.s, .s, .i .i64], false⟩, .r ⟨[0, 1, 2, 4, 5, 6, 7, 19, 22, 23, 24, 25], 0, [(999999, ⟨(.cell 64 0), 900000, 3, 1, false, false⟩), (999999, ⟨(.cell 64 1), 900001, 3, 1, false, false⟩)], [(5, ⟨[24], [(80, 2)], [336, 337], [], []⟩)], false, [], []⟩ R_impl_FrmInto⟩
def E_impl_FrmTimes : Entry := ⟨.x ⟨[(.g [(.d (aS 0)), (.d (aS 1)), (.d (aI 2))]), (.d (aI 3))], [], [.s, .s, .i .i64, .i .i64], (.g [(.o 0 (.v 0)), (.o 1 (.v 1)), (.d (aI 2))]), [(.arr 3 1 (.v 0) false true), (.arr 3 1 (.v 1) false true)], [.s, .s, .i .i64], false⟩, .r ⟨[0, 1, 2, 4, 5, 13], 0, [(999999, ⟨(.cell 64 0), 900000, 3, 1, false, false⟩), (999999, ⟨(.cell 64 1), 900001, 3, 1, false, false⟩)], [], false, [], []⟩ R_impl_FrmTimes⟩
def E_impl_FrmAdd : Entry := ⟨.x ⟨[(.g [(.d (aS 0)), (.d (aS 1)), (.d (aI 2))]), (.g [(.d (aS 3)), (.d (aS 4)), (.d (aI 5))])], [], [.s, .s, .i .i64, .s, .s, .i .i64], (.g [(.o 0 (.v 0)), (.o 1 (.v 1)), (.d (aI 2))]), [(.arr 3 1 (.v 0) false true), (.arr 3 1 (.v 1) false true)], [.s, .s, .i .i64], false⟩, .r ⟨[0, 1, 2, 3, 4, 5, 13], 0, [(999999, ⟨(.cell 64 0), 900000, 3, 1, false, false⟩), (999999, ⟨(.cell 64 1), 900001, 3, 1, false, false⟩)], [], false, [], []⟩ R_impl_FrmAdd⟩
def E_impl_walker_walk : Entry := ⟨.x ⟨[(.p 0 0), (.d (aI 2)), (.d (aS 3)), (.d (aS 4)), (.d (aS 5))], [(.box [(.d (aS 0)), (.o 1 (.v 1))]), (.arr 169 4 (.v 1) true true)], [.s, .s, .i .i64, .s, .s, .s], (.t []), [(.box [(.d (aS 0)), (.o 1 (.v 1))]), (.arr 169 4 (.v 1) true true)], [.s, .s], false⟩, .r ⟨[0, 1, 2, 3, 4, 10, 11, 12, 13, 14, 15, 22, 34, 52, 53, 83, 98, 110, 111, 112, 113], 2, [(20, ⟨(.cell 208 1), 217, 139, 3, true, false⟩)], [(20, ⟨[112], [], [217], [], []⟩), (0, ⟨[1, 4, 3, 2], [(0, 0)], [1], [], []⟩)], true, [50, 59, 61, 62, 64, 66, 67, 69, 75, 77, 78, 86, 96, 101, 103, 104, 121, 122, 123], []⟩ R_impl_walker_walk⟩
def E_impl_RowsOf : Entry := ⟨.x ⟨[(.d (aS 0))], [], [.s], (.o 0 (.v 0)), [(.arr 169 4 (.v 0) true true)], [.s], false⟩, .r ⟨[0, 2, 3, 4, 5, 8, 12, 13], 0, [(10, ⟨(.cell 176 1), 185, 169, 4, true, false⟩), (6, ⟨(.slot 4), 79, 139, 3, true, false⟩), (999999, ⟨(.slot 2), 900000, 169, 4, true, false⟩)], [(6, ⟨[12], [], [79], [], []⟩)], true, [], []⟩ R_impl_RowsOf⟩
def E_impl_CatPart_1 : Entry := ⟨.d ⟨[(.one (.i .i64))], (.one (.one (.b))), true⟩, .r ⟨[0, 2], 0, [], [], false, [], []⟩ R_impl_CatPart_1⟩
def E_impl_CatPart : Entry := ⟨.x ⟨[(.g [(.d (aS 0)), (.d (aS 1)), (.d (aI 2))])], [], [.s, .s, .i .i64], (.o 0 (.v 0)), [(.arr 3 1 (.v 0) false true)], [.s], false⟩, .r ⟨[0, 1, 2, 3, 4, 5, 19, 21, 22, 23], 0, [], [(5, ⟨[22], [], [128], [], []⟩)], false, [], []⟩ R_impl_CatPart⟩
def E_impl_zeros_1 : Entry := ⟨.d ⟨[(.one (.i .i64))], (.one (.one (.b))), true⟩, .r ⟨[0, 2], 0, [], [], false, [], []⟩ R_impl_zeros_1⟩
def E_impl_zeros : Entry := ⟨.d ⟨[(.one (.s))], (.one (.one (.b))), true⟩, .r ⟨[0, 2], 0, [], [], false, [], []⟩ R_impl_zeros⟩
def E_impl_CatHas_1 : Entry := ⟨.d ⟨[(.one (.s)), (.one (.d))], (.one (.one (.b))), true⟩, .r ⟨[0, 1, 3], 0, [], [], false, [], []⟩ R_impl_CatHas_1⟩
def E_slices_IndexFunc_SSint_Sint : Entry := ⟨.d ⟨[(.one (.s)), (.one (.d))], (.one (.one (.i .i64))), true⟩, .r ⟨[0, 1, 4, 5, 7, 8, 9, 16], 0, [], [(2, ⟨[8], [], [], [], []⟩)], false, [], []⟩ R_slices_IndexFunc_SSint_Sint⟩
def E_impl_CatHas : Entry := ⟨.d ⟨[(.one (.s)), (.one (.s))], (.one (.one (.i .i64))), true⟩, .r ⟨[0, 1, 3, 4], 0, [], [], false, [], []⟩ R_impl_CatHas⟩
def E_impl_CatForms : Entry := ⟨.x ⟨[(.d (aS 0))], [], [.s], (.o 0 (.v 0)), [(.arr 23 1 (.v 0) true true)], [.s], false⟩, .r ⟨[0, 2, 3, 4, 6, 8, 10, 11, 14, 15, 16, 25, 26, 27, 28, 32, 33, 34, 35, 39, 40, 41, 42, 55], 0, [(5, ⟨(.slot 3), 63, 23, 1, true, false⟩), (999999, ⟨(.slot 2), 900000, 23, 1, true, false⟩)], [(10, ⟨[27], [], [63], [], []⟩), (13, ⟨[34], [], [63], [], []⟩), (16, ⟨[41], [], [63], [], []⟩), (5, ⟨[15], [], [63], [], []⟩)], true, [32], []⟩ R_impl_CatForms⟩
def E_impl_pots : Entry := ⟨.x ⟨[(.d (aS 0)), (.d (.da 1))], [], [.s, .d], (.o 0 (.v 0)), [(.arr 4 1 (.v 0) false true)], [.s], false⟩, .r ⟨[0, 1, 4, 5, 7, 9, 10, 12, 13, 14, 15, 19, 20, 21, 22, 26, 27, 28], 0, [], [(3, ⟨[14], [], [176], [], []⟩), (6, ⟨[21], [], [176], [], []⟩), (9, ⟨[27], [], [176], [], []⟩)], false, [], []⟩ R_impl_pots⟩
def E_slices_Grow_Simpl_FrmForm_impl_FrmForm : Entry := ⟨.x ⟨[(.d (.vc (.slice none 0 0))), (.d (aI 0))], [], [.i .i64], (.o 0 (.v 0)), [(.arr 139 3 (.v 0) false true)], [.s], false⟩, .r ⟨[0, 1, 4, 6, 16], 0, [(999999, ⟨(.slot 4), 900000, 139, 3, false, false⟩)], [], false, [], []⟩ R_slices_Grow_Simpl_FrmForm_impl_FrmForm⟩
def E_slices_Concat_Simpl_FrmForm_impl_FrmForm : Entry := ⟨.x ⟨[(.d (aS 0))], [], [.s], (.o 0 (.v 0)), [(.arr 139 3 (.v 0) false true)], [.s], false⟩, .r ⟨[0, 2, 3, 5, 6, 8, 9, 10, 11, 12, 20, 25, 26, 27, 28], 0, [], [(11, ⟨[27], [], [384], [], []⟩), (3, ⟨[11, 3], [], [], [], []⟩)], false, [], []⟩ R_slices_Concat_Simpl_FrmForm_impl_FrmForm⟩
def E_impl_RowRow_reads_1 : Entry := ⟨.d ⟨[(.g [.s, .s, .i .i64]), (.one (.d))], (.one (.one (.b))), true⟩, .r ⟨[0, 1, 2, 3], 0, [], [], false, [], []⟩ R_impl_RowRow_reads_1⟩
def E_impl_RowRow_reads : Entry := ⟨.d ⟨[(.g [.s, .s, .s, .b]), (.one (.i .i64))], (.one (.one (.b))), true⟩, .r ⟨[0, 1, 2, 3, 4], 0, [], [], false, [], []⟩ R_impl_RowRow_reads⟩
def E_impl_CatPins : Entry := ⟨.x ⟨[(.d (aS 0))], [], [.s], (.o 0 (.v 0)), [(.arr 4 1 (.v 0) false true)], [.s], false⟩, .r ⟨[0, 2, 5], 0, [(999999, ⟨(.slot 2), 900000, 4, 1, false, false⟩)], [], false, [], []⟩ R_impl_CatPins⟩
def E_impl_rulesOf : Entry := ⟨.x ⟨[(.d (aS 0))], [], [.s], (.g [(.d (aS 0)), (.o 0 (.v 1)), (.o 1 (.v 2))]), [(.arr 23 1 (.v 1) false true), (.arr 4 1 (.v 2) false true)], [.s, .s, .s], false⟩, .r ⟨[0, 2], 0, [], [], false, [], []⟩ R_impl_rulesOf⟩
def E_slices_IndexFunc_Simpl_PlnDone_impl_PlnDone : Entry := ⟨.d ⟨[(.one (.s)), (.one (.d))], (.one (.one (.i .i64))), true⟩, .r ⟨[0, 1, 4, 5, 7, 8, 9, 16], 0, [], [(2, ⟨[8], [], [], [], []⟩)], false, [], []⟩ R_slices_IndexFunc_Simpl_PlnDone_impl_PlnDone⟩
def E_slices_ContainsFunc_Simpl_PlnDone_impl_PlnDone : Entry := ⟨.d ⟨[(.one (.s)), (.one (.d))], (.one (.one (.b))), true⟩, .r ⟨[0, 1, 4], 0, [], [], false, [], []⟩ R_slices_ContainsFunc_Simpl_PlnDone_impl_PlnDone⟩
def E_impl_ResResult_none : Entry := ⟨.d ⟨[(.g [.i .i64, .s])], (.one (.one (.b))), true⟩, .r ⟨[0, 1, 2], 0, [], [], false, [], []⟩ R_impl_ResResult_none⟩
def E_impl_codeWords : Entry := ⟨.x ⟨[], [], [], (.o 0 (.v 0)), [(.arr 9 1 (.v 0) false true)], [.s], false⟩, .r ⟨[0], 0, [], [], false, [], []⟩ R_impl_codeWords⟩
def E_impl_joined : Entry := ⟨.d ⟨[(.one (.s))], (.one (.one (.d))), false⟩, .m joinedF⟩
def E_impl_ResText : Entry := ⟨.d ⟨[(.g [.i .i64, .s])], (.one (.one (.d))), false⟩, .r ⟨[0, 1, 2, 32], 0, [], [], false, [], []⟩ R_impl_ResText⟩
def E_impl_ResOk : Entry := ⟨.d ⟨[(.g [.i .i64, .s])], (.one (.one (.b))), true⟩, .r ⟨[0, 1, 2], 0, [], [], false, [], []⟩ R_impl_ResOk⟩
def E_impl_PlnDone_ok : Entry := ⟨.d ⟨[(.g [.i .i64, .i .i64, .s])], (.one (.one (.b))), true⟩, .r ⟨[0, 1, 2, 5], 0, [], [], false, [], []⟩ R_impl_PlnDone_ok⟩
def E_impl_PlnPlan_doneOk_1 : Entry := ⟨.d ⟨[(.g [.i .i64, .i .i64, .s])], (.one (.one (.b))), true⟩, .r ⟨[0, 1, 2], 0, [], [], false, [], []⟩ R_impl_PlnPlan_doneOk_1⟩
def E_impl_PlnPlan_doneOk : Entry := ⟨.d ⟨[(.g [.i .i64, .s, .s, .s]), (.one (.s))], (.one (.one (.b))), true⟩, .r ⟨[0, 1, 2, 4], 0, [], [], false, [], []⟩ R_impl_PlnPlan_doneOk⟩
def E_impl_PlnPlan_isClient : Entry := ⟨.d ⟨[(.g [.i .i64, .s, .s, .s]), (.one (.i .i64))], (.one (.one (.b))), true⟩, .r ⟨[0, 1, 2, 4], 0, [], [], false, [], []⟩ R_impl_PlnPlan_isClient⟩
def E_impl_ArgOk : Entry := ⟨.d ⟨[(.one (.s))], (.one (.one (.b))), true⟩, .r ⟨[0, 2], 0, [], [], false, [], []⟩ R_impl_ArgOk⟩
def E_impl_PlnPlan_callOk : Entry := ⟨.d ⟨[(.g [.i .i64, .s, .s, .s]), (.g [.i .i64, .i .i64, .i .i64, .s])], (.one (.one (.b))), true⟩, .r ⟨[0, 1, 2, 3, 4], 0, [], [], false, [], []⟩ R_impl_PlnPlan_callOk⟩
def E_slices_ContainsFunc_SSint_Sint : Entry := ⟨.d ⟨[(.one (.s)), (.one (.d))], (.one (.one (.b))), true⟩, .r ⟨[0, 1, 4], 0, [], [], false, [], []⟩ R_slices_ContainsFunc_SSint_Sint⟩
def E_impl_partsOk_1 : Entry := ⟨.d ⟨[(.one (.s))], (.one (.one (.b))), true⟩, .r ⟨[0, 2], 0, [], [], false, [], []⟩ R_impl_partsOk_1⟩
def E_impl_partsOk : Entry := ⟨.d ⟨[(.one (.s))], (.one (.one (.b))), true⟩, .r ⟨[0, 2], 0, [], [], false, [], []⟩ R_impl_partsOk⟩
def E_impl_addedOk : Entry := ⟨.d ⟨[(.one (.s))], (.one (.one (.b))), true⟩, .r ⟨[0, 2], 0, [], [], false, [], []⟩ R_impl_addedOk⟩
def E_impl_TrtTreaty_ok : Entry := ⟨.d ⟨[(.g [.s, .s]), (.one (.s)), (.one (.i .i64)), (.one (.s))], (.one (.one (.b))), true⟩, .r ⟨[0, 1, 2, 3, 4, 8], 0, [], [], false, [], []⟩ R_impl_TrtTreaty_ok⟩
def E_impl_dot : Entry := ⟨.d ⟨[(.one (.s)), (.one (.s))], (.one (.one (.i .i64))), true⟩, .r ⟨[0, 1, 4, 5, 6, 7, 8, 9, 10, 11], 0, [], [(3, ⟨[10, 5], [], [], [], []⟩)], false, [], []⟩ R_impl_dot⟩
def E_impl_TrtKeeps_1 : Entry := ⟨.d ⟨[(.one (.s)), (.one (.d)), (.one (.d))], (.one (.one (.b))), true⟩, .r ⟨[0, 1, 2, 4], 0, [], [], false, [], []⟩ R_impl_TrtKeeps_1⟩
def E_impl_TrtKeeps : Entry := ⟨.d ⟨[(.g [.s, .s]), (.one (.s)), (.one (.i .i64)), (.one (.s))], (.one (.one (.b))), true⟩, .r ⟨[0, 1, 2, 3, 4, 7, 8, 9, 15], 0, [], [], false, [], []⟩ R_impl_TrtKeeps⟩
def E_impl_rules_unpinned : Entry := ⟨.d ⟨[(.g [.s, .s, .s]), (.one (.s))], (.one (.one (.b))), true⟩, .r ⟨[0, 1, 2, 4, 5, 6, 7, 8, 9, 10, 22], 0, [], [(2, ⟨[9], [], [], [], []⟩)], false, [], []⟩ R_impl_rules_unpinned⟩
def E_impl_rules_keeps : Entry := ⟨.d ⟨[(.g [.s, .s, .s]), (.g [.s, .s]), (.one (.i .i64)), (.one (.s))], (.one (.one (.b))), true⟩, .r ⟨[0, 1, 2, 3, 4, 5, 8], 0, [], [], false, [], []⟩ R_impl_rules_keeps⟩
def E_impl_PlnPlan_seqsOk_1 : Entry := ⟨.d ⟨[(.one (.i .i64))], (.one (.one (.b))), true⟩, .r ⟨[0, 2], 0, [], [], false, [], []⟩ R_impl_PlnPlan_seqsOk_1⟩
def E_impl_PlnPlan_seqsOk : Entry := ⟨.d ⟨[(.g [.i .i64, .s, .s, .s]), (.one (.s))], (.one (.one (.b))), true⟩, .r ⟨[0, 1, 2, 4], 0, [], [], false, [], []⟩ R_impl_PlnPlan_seqsOk⟩
def E_impl_ClkGot_none : Entry := ⟨.d ⟨[(.g [.b, .s, .s])], (.one (.one (.b))), true⟩, .r ⟨[0, 1, 2], 0, [], [], false, [], []⟩ R_impl_ClkGot_none⟩
def E_impl_PlnPlan_clerkOk : Entry := ⟨.d ⟨[(.g [.i .i64, .s, .s, .s]), (.g [.s, .s, .s]), (.g [.b, .i .i64, .s, .s, .s, .s])], (.one (.one (.b))), true⟩, .r ⟨[0, 1, 2, 3, 4, 5, 6, 7, 8, 9, 10, 11, 37, 39, 40, 41, 42, 70, 73, 74, 75, 76, 109], 0, [], [(10, ⟨[75], [], [], [], []⟩), (4, ⟨[41], [], [], [], []⟩)], false, [], []⟩ R_impl_PlnPlan_clerkOk⟩
def E_impl_ClkOk : Entry := ⟨.d ⟨[(.g [.i .i64, .s, .s, .s]), (.g [.b, .i .i64, .s, .s, .s, .s])], (.one (.one (.b))), true⟩, .r ⟨[0, 1, 2, 3, 4], 0, [], [], false, [], []⟩ R_impl_ClkOk⟩
def E_laws_eqIntS : Entry := ⟨.d ⟨[(.one (.s)), (.one (.s))], (.one (.one (.b))), true⟩, .r ⟨[0, 1, 4, 5, 10, 14, 25], 0, [], [(4, ⟨[5], [], [], [], []⟩)], false, [], []⟩ R_laws_eqIntS⟩
def E_laws_eqFrmForm : Entry := ⟨.d ⟨[(.g [.s, .s, .i .i64]), (.g [.s, .s, .i .i64])], (.one (.one (.b))), true⟩, .r ⟨[0, 1, 2, 3, 4, 10, 16, 21], 0, [], [], false, [], []⟩ R_laws_eqFrmForm⟩
def E_laws_eqActLine : Entry := ⟨.d ⟨[(.g [.i .i64, .i .i64, .i .i64, .s, .s, .i .i64]), (.g [.i .i64, .i .i64, .i .i64, .s, .s, .i .i64])], (.one (.one (.b))), true⟩, .r ⟨[0, 1, 2, 3, 4, 9, 14, 19, 25], 0, [], [], false, [], []⟩ R_laws_eqActLine⟩
def E_laws_eqActLineS : Entry := ⟨.d ⟨[(.one (.s)), (.one (.s))], (.one (.one (.b))), true⟩, .r ⟨[0, 1, 4, 5, 10, 14, 26], 0, [], [(4, ⟨[5], [], [], [], []⟩)], false, [], []⟩ R_laws_eqActLineS⟩
def E_laws_eqActLineSS : Entry := ⟨.d ⟨[(.one (.s)), (.one (.s))], (.one (.one (.b))), true⟩, .r ⟨[0, 1, 4, 5, 10, 14, 26], 0, [], [(4, ⟨[5], [], [], [], []⟩)], false, [], []⟩ R_laws_eqActLineSS⟩
def E_laws_eqPlnPlan : Entry := ⟨.d ⟨[(.g [.i .i64, .s, .s, .s]), (.g [.i .i64, .s, .s, .s])], (.one (.one (.b))), true⟩, .r ⟨[0, 1, 2, 3, 4, 9, 15, 21, 27], 0, [], [], false, [], []⟩ R_laws_eqPlnPlan⟩
def E_laws_eqResResult : Entry := ⟨.d ⟨[(.g [.i .i64, .s]), (.g [.i .i64, .s])], (.one (.one (.b))), true⟩, .r ⟨[0, 1, 2, 3, 4, 9, 15], 0, [], [], false, [], []⟩ R_laws_eqResResult⟩
def E_laws_eqPlnDone : Entry := ⟨.d ⟨[(.g [.i .i64, .i .i64, .s]), (.g [.i .i64, .i .i64, .s])], (.one (.one (.b))), true⟩, .r ⟨[0, 1, 2, 3, 4, 9, 15], 0, [], [], false, [], []⟩ R_laws_eqPlnDone⟩
def E_laws_eqPlnDoneS : Entry := ⟨.d ⟨[(.one (.s)), (.one (.s))], (.one (.one (.b))), true⟩, .r ⟨[0, 1, 4, 5, 10, 14, 26], 0, [], [(4, ⟨[5], [], [], [], []⟩)], false, [], []⟩ R_laws_eqPlnDoneS⟩
def E_laws_eqPlnCall : Entry := ⟨.d ⟨[(.g [.i .i64, .i .i64, .i .i64, .s]), (.g [.i .i64, .i .i64, .i .i64, .s])], (.one (.one (.b))), true⟩, .r ⟨[0, 1, 2, 3, 4, 9, 14, 19, 25], 0, [], [], false, [], []⟩ R_laws_eqPlnCall⟩
def E_laws_eqPlnCallS : Entry := ⟨.d ⟨[(.one (.s)), (.one (.s))], (.one (.one (.b))), true⟩, .r ⟨[0, 1, 4, 5, 10, 14, 26], 0, [], [(4, ⟨[5], [], [], [], []⟩)], false, [], []⟩ R_laws_eqPlnCallS⟩
def E_laws_eqClkGot : Entry := ⟨.d ⟨[(.g [.b, .s, .s]), (.g [.b, .s, .s])], (.one (.one (.b))), true⟩, .r ⟨[0, 1, 2, 3, 4, 9, 15, 21], 0, [], [], false, [], []⟩ R_laws_eqClkGot⟩
def E_laws_eqClkGotS : Entry := ⟨.d ⟨[(.one (.s)), (.one (.s))], (.one (.one (.b))), true⟩, .r ⟨[0, 1, 4, 5, 10, 14, 26], 0, [], [(4, ⟨[5], [], [], [], []⟩)], false, [], []⟩ R_laws_eqClkGotS⟩
def E_laws_eqClkClerk : Entry := ⟨.d ⟨[(.g [.b, .i .i64, .s, .s, .s, .s]), (.g [.b, .i .i64, .s, .s, .s, .s])], (.one (.one (.b))), true⟩, .r ⟨[0, 1, 2, 3, 4, 9, 14, 20, 26, 32, 38], 0, [], [], false, [], []⟩ R_laws_eqClkClerk⟩
def E_laws_FnExactClkOk : Entry := ⟨.d ⟨[(.g [.i .i64, .s, .s, .s]), (.g [.b, .i .i64, .s, .s, .s, .s])], (.one (.one (.b))), true⟩, .r ⟨[0, 1, 2, 3, 4, 5, 6, 7, 8, 9, 14, 19, 34, 39, 44], 0, [], [], true, [], []⟩ R_laws_FnExactClkOk⟩
def L : Tabl := [(f_laws_szIntS, E_laws_szIntS), (f_laws_szFrmForm, E_laws_szFrmForm), (f_laws_szActLine, E_laws_szActLine), (f_laws_szActLineS, E_laws_szActLineS), (f_laws_szActLineSS, E_laws_szActLineSS), (f_laws_szPlnPlan, E_laws_szPlnPlan), (f_laws_szResResult, E_laws_szResResult), (f_laws_szPlnDone, E_laws_szPlnDone), (f_laws_szPlnDoneS, E_laws_szPlnDoneS), (f_laws_szPlnCall, E_laws_szPlnCall), (f_laws_szPlnCallS, E_laws_szPlnCallS), (f_laws_szClkGot, E_laws_szClkGot), (f_laws_szClkGotS, E_laws_szClkGotS), (f_laws_szClkClerk, E_laws_szClkClerk), (f_laws_toIntS, E_laws_toIntS), (f_laws_toFrmForm, E_laws_toFrmForm), (f_laws_toActLine, E_laws_toActLine), (f_laws_toActLineS, E_laws_toActLineS), (f_laws_toActLineSS, E_laws_toActLineSS), (f_laws_toPlnPlan, E_laws_toPlnPlan), (f_laws_toResResult, E_laws_toResResult), (f_laws_toPlnDone, E_laws_toPlnDone), (f_laws_toPlnDoneS, E_laws_toPlnDoneS), (f_laws_toPlnCall, E_laws_toPlnCall), (f_laws_toPlnCallS, E_laws_toPlnCallS), (f_laws_toClkGot, E_laws_toClkGot), (f_laws_toClkGotS, E_laws_toClkGotS), (f_laws_toClkClerk, E_laws_toClkClerk), (f_spec_l1In, E_spec_l1In), (f_spec_l1All, E_spec_l1All), (f_spec_l2Small, E_spec_l2Small), (f_spec_l2Line, E_spec_l2Line), (f_spec_ActOk, E_spec_ActOk), (f_spec_CatOk, E_spec_CatOk), (f_spec_ValOk, E_spec_ValOk), (f_spec_TrtOk, E_spec_TrtOk), (f_spec_PlnOk, E_spec_PlnOk), (f_spec_FrmZero, E_spec_FrmZero), (f_spec_FrmPot, E_spec_FrmPot), (f_spec_l1Sum, E_spec_l1Sum), (f_spec_l3Copy, E_spec_l3Copy), (f_spec_FrmOk, E_spec_FrmOk), (f_spec_FrmInto, E_spec_FrmInto), (f_spec_l3Minus, E_spec_l3Minus), (f_spec_l3Row, E_spec_l3Row), (f_spec_l3Walk, E_spec_l3Walk), (f_spec_RowsOf, E_spec_RowsOf), (f_spec_l4Reads, E_spec_l4Reads), (f_spec_CatPart, E_spec_CatPart), (f_spec_l4Same, E_spec_l4Same), (f_spec_CatHas, E_spec_CatHas), (f_spec_l4Both, E_spec_l4Both), (f_spec_l1Digits, E_spec_l1Digits), (f_spec_ResText, E_spec_ResText), (f_spec_ResOk, E_spec_ResOk), (f_spec_l6Done, E_spec_l6Done), (f_spec_l5Parts, E_spec_l5Parts), (f_spec_l5Times, E_spec_l5Times), (f_spec_TrtKeeps, E_spec_TrtKeeps), (f_spec_l5Still, E_spec_l5Still), (f_spec_l7Seqs, E_spec_l7Seqs), (f_spec_l9Got, E_spec_l9Got), (f_spec_ArgOk, E_spec_ArgOk), (f_spec_l6Call, E_spec_l6Call), (f_spec_l9Has, E_spec_l9Has), (f_spec_l9Ok, E_spec_l9Ok), (f_spec_ClkOk, E_spec_ClkOk), (f_impl_in, E_impl_in), (f_slices_IndexFunc_SSimpl_ActLine_Simpl_ActLine, E_slices_IndexFunc_SSimpl_ActLine_Simpl_ActLine), (f_slices_ContainsFunc_SSimpl_ActLine_Simpl_ActLine, E_slices_ContainsFunc_SSimpl_ActLine_Simpl_ActLine), (f_impl_within_1, E_impl_within_1), (f_slices_IndexFunc_Sint_int, E_slices_IndexFunc_Sint_int), (f_slices_ContainsFunc_Sint_int, E_slices_ContainsFunc_Sint_int), (f_impl_within, E_impl_within), (f_impl_FrmForm_small, E_impl_FrmForm_small), (f_slices_Equal_Sint_int, E_slices_Equal_Sint_int), (f_impl_FrmForm_same, E_impl_FrmForm_same), (f_impl_ActLine_ok, E_impl_ActLine_ok), (f_impl_ActOk, E_impl_ActOk), (f_impl_CatOk_1, E_impl_CatOk_1), (f_impl_CatOk, E_impl_CatOk), (f_impl_PlnPlan_treaty, E_impl_PlnPlan_treaty), (f_impl_TrtOk_1, E_impl_TrtOk_1), (f_impl_ValOk, E_impl_ValOk), (f_impl_TrtOk, E_impl_TrtOk), (f_impl_PlnOk, E_impl_PlnOk), (f_impl_FrmZero, E_impl_FrmZero), (f_impl_FrmPot, E_impl_FrmPot), (f_slices_Clone_Sint_int, E_slices_Clone_Sint_int), (f_impl_FrmForm_copied, E_impl_FrmForm_copied), (f_impl_forms, E_impl_forms), (f_impl_FrmOk, E_impl_FrmOk), (f_slices_IndexFunc_Simpl_FrmForm_impl_FrmForm, E_slices_IndexFunc_Simpl_FrmForm_impl_FrmForm), (f_slices_ContainsFunc_Simpl_FrmForm_impl_FrmForm, E_slices_ContainsFunc_Simpl_FrmForm_impl_FrmForm), (f_impl_FrmInto_1, E_impl_FrmInto_1), (f_impl_FrmForm_add, E_impl_FrmForm_add), (f_impl_checked, E_impl_checked), (f_impl_FrmInto, E_impl_FrmInto), (f_impl_FrmTimes, E_impl_FrmTimes), (f_impl_FrmAdd, E_impl_FrmAdd), (f_impl_walker_walk, E_impl_walker_walk), (f_impl_RowsOf, E_impl_RowsOf), (f_impl_CatPart_1, E_impl_CatPart_1), (f_impl_CatPart, E_impl_CatPart), (f_impl_zeros_1, E_impl_zeros_1), (f_impl_zeros, E_impl_zeros), (f_impl_CatHas_1, E_impl_CatHas_1), (f_slices_IndexFunc_SSint_Sint, E_slices_IndexFunc_SSint_Sint), (f_impl_CatHas, E_impl_CatHas), (f_impl_CatForms, E_impl_CatForms), (f_impl_pots, E_impl_pots), (f_slices_Grow_Simpl_FrmForm_impl_FrmForm, E_slices_Grow_Simpl_FrmForm_impl_FrmForm), (f_slices_Concat_Simpl_FrmForm_impl_FrmForm, E_slices_Concat_Simpl_FrmForm_impl_FrmForm), (f_impl_RowRow_reads_1, E_impl_RowRow_reads_1), (f_impl_RowRow_reads, E_impl_RowRow_reads), (f_impl_CatPins, E_impl_CatPins), (f_impl_rulesOf, E_impl_rulesOf), (f_slices_IndexFunc_Simpl_PlnDone_impl_PlnDone, E_slices_IndexFunc_Simpl_PlnDone_impl_PlnDone), (f_slices_ContainsFunc_Simpl_PlnDone_impl_PlnDone, E_slices_ContainsFunc_Simpl_PlnDone_impl_PlnDone), (f_impl_ResResult_none, E_impl_ResResult_none), (f_impl_codeWords, E_impl_codeWords), (f_impl_joined, E_impl_joined), (f_impl_ResText, E_impl_ResText), (f_impl_ResOk, E_impl_ResOk), (f_impl_PlnDone_ok, E_impl_PlnDone_ok), (f_impl_PlnPlan_doneOk_1, E_impl_PlnPlan_doneOk_1), (f_impl_PlnPlan_doneOk, E_impl_PlnPlan_doneOk), (f_impl_PlnPlan_isClient, E_impl_PlnPlan_isClient), (f_impl_ArgOk, E_impl_ArgOk), (f_impl_PlnPlan_callOk, E_impl_PlnPlan_callOk), (f_slices_ContainsFunc_SSint_Sint, E_slices_ContainsFunc_SSint_Sint), (f_impl_partsOk_1, E_impl_partsOk_1), (f_impl_partsOk, E_impl_partsOk), (f_impl_addedOk, E_impl_addedOk), (f_impl_TrtTreaty_ok, E_impl_TrtTreaty_ok), (f_impl_dot, E_impl_dot), (f_impl_TrtKeeps_1, E_impl_TrtKeeps_1), (f_impl_TrtKeeps, E_impl_TrtKeeps), (f_impl_rules_unpinned, E_impl_rules_unpinned), (f_impl_rules_keeps, E_impl_rules_keeps), (f_impl_PlnPlan_seqsOk_1, E_impl_PlnPlan_seqsOk_1), (f_impl_PlnPlan_seqsOk, E_impl_PlnPlan_seqsOk), (f_impl_ClkGot_none, E_impl_ClkGot_none), (f_impl_PlnPlan_clerkOk, E_impl_PlnPlan_clerkOk), (f_impl_ClkOk, E_impl_ClkOk), (f_laws_eqIntS, E_laws_eqIntS), (f_laws_eqFrmForm, E_laws_eqFrmForm), (f_laws_eqActLine, E_laws_eqActLine), (f_laws_eqActLineS, E_laws_eqActLineS), (f_laws_eqActLineSS, E_laws_eqActLineSS), (f_laws_eqPlnPlan, E_laws_eqPlnPlan), (f_laws_eqResResult, E_laws_eqResResult), (f_laws_eqPlnDone, E_laws_eqPlnDone), (f_laws_eqPlnDoneS, E_laws_eqPlnDoneS), (f_laws_eqPlnCall, E_laws_eqPlnCall), (f_laws_eqPlnCallS, E_laws_eqPlnCallS), (f_laws_eqClkGot, E_laws_eqClkGot), (f_laws_eqClkGotS, E_laws_eqClkGotS), (f_laws_eqClkClerk, E_laws_eqClkClerk), (f_laws_FnExactClkOk, E_laws_FnExactClkOk)]
set_option maxRecDepth 100000
theorem L_laws_szIntS : L.lookup f_laws_szIntS = some E_laws_szIntS := rfl
theorem L_laws_szFrmForm : L.lookup f_laws_szFrmForm = some E_laws_szFrmForm := rfl
theorem L_laws_szActLine : L.lookup f_laws_szActLine = some E_laws_szActLine := rfl
theorem L_laws_szActLineS : L.lookup f_laws_szActLineS = some E_laws_szActLineS := rfl
theorem L_laws_szActLineSS : L.lookup f_laws_szActLineSS = some E_laws_szActLineSS := rfl
theorem L_laws_szPlnPlan : L.lookup f_laws_szPlnPlan = some E_laws_szPlnPlan := rfl
theorem L_laws_szResResult : L.lookup f_laws_szResResult = some E_laws_szResResult := rfl
theorem L_laws_szPlnDone : L.lookup f_laws_szPlnDone = some E_laws_szPlnDone := rfl
theorem L_laws_szPlnDoneS : L.lookup f_laws_szPlnDoneS = some E_laws_szPlnDoneS := rfl
theorem L_laws_szPlnCall : L.lookup f_laws_szPlnCall = some E_laws_szPlnCall := rfl
theorem L_laws_szPlnCallS : L.lookup f_laws_szPlnCallS = some E_laws_szPlnCallS := rfl
theorem L_laws_szClkGot : L.lookup f_laws_szClkGot = some E_laws_szClkGot := rfl
theorem L_laws_szClkGotS : L.lookup f_laws_szClkGotS = some E_laws_szClkGotS := rfl
theorem L_laws_szClkClerk : L.lookup f_laws_szClkClerk = some E_laws_szClkClerk := rfl
theorem L_laws_toIntS : L.lookup f_laws_toIntS = some E_laws_toIntS := rfl
theorem L_laws_toFrmForm : L.lookup f_laws_toFrmForm = some E_laws_toFrmForm := rfl
theorem L_laws_toActLine : L.lookup f_laws_toActLine = some E_laws_toActLine := rfl
theorem L_laws_toActLineS : L.lookup f_laws_toActLineS = some E_laws_toActLineS := rfl
theorem L_laws_toActLineSS : L.lookup f_laws_toActLineSS = some E_laws_toActLineSS := rfl
theorem L_laws_toPlnPlan : L.lookup f_laws_toPlnPlan = some E_laws_toPlnPlan := rfl
theorem L_laws_toResResult : L.lookup f_laws_toResResult = some E_laws_toResResult := rfl
theorem L_laws_toPlnDone : L.lookup f_laws_toPlnDone = some E_laws_toPlnDone := rfl
theorem L_laws_toPlnDoneS : L.lookup f_laws_toPlnDoneS = some E_laws_toPlnDoneS := rfl
theorem L_laws_toPlnCall : L.lookup f_laws_toPlnCall = some E_laws_toPlnCall := rfl
theorem L_laws_toPlnCallS : L.lookup f_laws_toPlnCallS = some E_laws_toPlnCallS := rfl
theorem L_laws_toClkGot : L.lookup f_laws_toClkGot = some E_laws_toClkGot := rfl
theorem L_laws_toClkGotS : L.lookup f_laws_toClkGotS = some E_laws_toClkGotS := rfl
theorem L_laws_toClkClerk : L.lookup f_laws_toClkClerk = some E_laws_toClkClerk := rfl
theorem L_spec_l1In : L.lookup f_spec_l1In = some E_spec_l1In := rfl
theorem L_spec_l1All : L.lookup f_spec_l1All = some E_spec_l1All := rfl
theorem L_spec_l2Small : L.lookup f_spec_l2Small = some E_spec_l2Small := rfl
theorem L_spec_l2Line : L.lookup f_spec_l2Line = some E_spec_l2Line := rfl
theorem L_spec_ActOk : L.lookup f_spec_ActOk = some E_spec_ActOk := rfl
theorem L_spec_CatOk : L.lookup f_spec_CatOk = some E_spec_CatOk := rfl
theorem L_spec_ValOk : L.lookup f_spec_ValOk = some E_spec_ValOk := rfl
theorem L_spec_TrtOk : L.lookup f_spec_TrtOk = some E_spec_TrtOk := rfl
theorem L_spec_PlnOk : L.lookup f_spec_PlnOk = some E_spec_PlnOk := rfl
theorem L_spec_FrmZero : L.lookup f_spec_FrmZero = some E_spec_FrmZero := rfl
theorem L_spec_FrmPot : L.lookup f_spec_FrmPot = some E_spec_FrmPot := rfl
theorem L_spec_l1Sum : L.lookup f_spec_l1Sum = some E_spec_l1Sum := rfl
theorem L_spec_l3Copy : L.lookup f_spec_l3Copy = some E_spec_l3Copy := rfl
theorem L_spec_FrmOk : L.lookup f_spec_FrmOk = some E_spec_FrmOk := rfl
theorem L_spec_FrmInto : L.lookup f_spec_FrmInto = some E_spec_FrmInto := rfl
theorem L_spec_l3Minus : L.lookup f_spec_l3Minus = some E_spec_l3Minus := rfl
theorem L_spec_l3Row : L.lookup f_spec_l3Row = some E_spec_l3Row := rfl
theorem L_spec_l3Walk : L.lookup f_spec_l3Walk = some E_spec_l3Walk := rfl
theorem L_spec_RowsOf : L.lookup f_spec_RowsOf = some E_spec_RowsOf := rfl
theorem L_spec_l4Reads : L.lookup f_spec_l4Reads = some E_spec_l4Reads := rfl
theorem L_spec_CatPart : L.lookup f_spec_CatPart = some E_spec_CatPart := rfl
theorem L_spec_l4Same : L.lookup f_spec_l4Same = some E_spec_l4Same := rfl
theorem L_spec_CatHas : L.lookup f_spec_CatHas = some E_spec_CatHas := rfl
theorem L_spec_l4Both : L.lookup f_spec_l4Both = some E_spec_l4Both := rfl
theorem L_spec_l1Digits : L.lookup f_spec_l1Digits = some E_spec_l1Digits := rfl
theorem L_spec_ResText : L.lookup f_spec_ResText = some E_spec_ResText := rfl
theorem L_spec_ResOk : L.lookup f_spec_ResOk = some E_spec_ResOk := rfl
theorem L_spec_l6Done : L.lookup f_spec_l6Done = some E_spec_l6Done := rfl
theorem L_spec_l5Parts : L.lookup f_spec_l5Parts = some E_spec_l5Parts := rfl
theorem L_spec_l5Times : L.lookup f_spec_l5Times = some E_spec_l5Times := rfl
theorem L_spec_TrtKeeps : L.lookup f_spec_TrtKeeps = some E_spec_TrtKeeps := rfl
theorem L_spec_l5Still : L.lookup f_spec_l5Still = some E_spec_l5Still := rfl
theorem L_spec_l7Seqs : L.lookup f_spec_l7Seqs = some E_spec_l7Seqs := rfl
theorem L_spec_l9Got : L.lookup f_spec_l9Got = some E_spec_l9Got := rfl
theorem L_spec_ArgOk : L.lookup f_spec_ArgOk = some E_spec_ArgOk := rfl
theorem L_spec_l6Call : L.lookup f_spec_l6Call = some E_spec_l6Call := rfl
theorem L_spec_l9Has : L.lookup f_spec_l9Has = some E_spec_l9Has := rfl
theorem L_spec_l9Ok : L.lookup f_spec_l9Ok = some E_spec_l9Ok := rfl
theorem L_spec_ClkOk : L.lookup f_spec_ClkOk = some E_spec_ClkOk := rfl
theorem L_impl_in : L.lookup f_impl_in = some E_impl_in := rfl
theorem L_slices_IndexFunc_SSimpl_ActLine_Simpl_ActLine : L.lookup f_slices_IndexFunc_SSimpl_ActLine_Simpl_ActLine = some E_slices_IndexFunc_SSimpl_ActLine_Simpl_ActLine := rfl
theorem L_slices_ContainsFunc_SSimpl_ActLine_Simpl_ActLine : L.lookup f_slices_ContainsFunc_SSimpl_ActLine_Simpl_ActLine = some E_slices_ContainsFunc_SSimpl_ActLine_Simpl_ActLine := rfl
theorem L_impl_within_1 : L.lookup f_impl_within_1 = some E_impl_within_1 := rfl
theorem L_slices_IndexFunc_Sint_int : L.lookup f_slices_IndexFunc_Sint_int = some E_slices_IndexFunc_Sint_int := rfl
theorem L_slices_ContainsFunc_Sint_int : L.lookup f_slices_ContainsFunc_Sint_int = some E_slices_ContainsFunc_Sint_int := rfl
theorem L_impl_within : L.lookup f_impl_within = some E_impl_within := rfl
theorem L_impl_FrmForm_small : L.lookup f_impl_FrmForm_small = some E_impl_FrmForm_small := rfl
theorem L_slices_Equal_Sint_int : L.lookup f_slices_Equal_Sint_int = some E_slices_Equal_Sint_int := rfl
theorem L_impl_FrmForm_same : L.lookup f_impl_FrmForm_same = some E_impl_FrmForm_same := rfl
theorem L_impl_ActLine_ok : L.lookup f_impl_ActLine_ok = some E_impl_ActLine_ok := rfl
theorem L_impl_ActOk : L.lookup f_impl_ActOk = some E_impl_ActOk := rfl
theorem L_impl_CatOk_1 : L.lookup f_impl_CatOk_1 = some E_impl_CatOk_1 := rfl
theorem L_impl_CatOk : L.lookup f_impl_CatOk = some E_impl_CatOk := rfl
theorem L_impl_PlnPlan_treaty : L.lookup f_impl_PlnPlan_treaty = some E_impl_PlnPlan_treaty := rfl
theorem L_impl_TrtOk_1 : L.lookup f_impl_TrtOk_1 = some E_impl_TrtOk_1 := rfl
theorem L_impl_ValOk : L.lookup f_impl_ValOk = some E_impl_ValOk := rfl
theorem L_impl_TrtOk : L.lookup f_impl_TrtOk = some E_impl_TrtOk := rfl
theorem L_impl_PlnOk : L.lookup f_impl_PlnOk = some E_impl_PlnOk := rfl
theorem L_impl_FrmZero : L.lookup f_impl_FrmZero = some E_impl_FrmZero := rfl
theorem L_impl_FrmPot : L.lookup f_impl_FrmPot = some E_impl_FrmPot := rfl
theorem L_slices_Clone_Sint_int : L.lookup f_slices_Clone_Sint_int = some E_slices_Clone_Sint_int := rfl
theorem L_impl_FrmForm_copied : L.lookup f_impl_FrmForm_copied = some E_impl_FrmForm_copied := rfl
theorem L_impl_forms : L.lookup f_impl_forms = some E_impl_forms := rfl
theorem L_impl_FrmOk : L.lookup f_impl_FrmOk = some E_impl_FrmOk := rfl
theorem L_slices_IndexFunc_Simpl_FrmForm_impl_FrmForm : L.lookup f_slices_IndexFunc_Simpl_FrmForm_impl_FrmForm = some E_slices_IndexFunc_Simpl_FrmForm_impl_FrmForm := rfl
theorem L_slices_ContainsFunc_Simpl_FrmForm_impl_FrmForm : L.lookup f_slices_ContainsFunc_Simpl_FrmForm_impl_FrmForm = some E_slices_ContainsFunc_Simpl_FrmForm_impl_FrmForm := rfl
theorem L_impl_FrmInto_1 : L.lookup f_impl_FrmInto_1 = some E_impl_FrmInto_1 := rfl
theorem L_impl_FrmForm_add : L.lookup f_impl_FrmForm_add = some E_impl_FrmForm_add := rfl
theorem L_impl_checked : L.lookup f_impl_checked = some E_impl_checked := rfl
theorem L_impl_FrmInto : L.lookup f_impl_FrmInto = some E_impl_FrmInto := rfl
theorem L_impl_FrmTimes : L.lookup f_impl_FrmTimes = some E_impl_FrmTimes := rfl
theorem L_impl_FrmAdd : L.lookup f_impl_FrmAdd = some E_impl_FrmAdd := rfl
theorem L_impl_walker_walk : L.lookup f_impl_walker_walk = some E_impl_walker_walk := rfl
theorem L_impl_RowsOf : L.lookup f_impl_RowsOf = some E_impl_RowsOf := rfl
theorem L_impl_CatPart_1 : L.lookup f_impl_CatPart_1 = some E_impl_CatPart_1 := rfl
theorem L_impl_CatPart : L.lookup f_impl_CatPart = some E_impl_CatPart := rfl
theorem L_impl_zeros_1 : L.lookup f_impl_zeros_1 = some E_impl_zeros_1 := rfl
theorem L_impl_zeros : L.lookup f_impl_zeros = some E_impl_zeros := rfl
theorem L_impl_CatHas_1 : L.lookup f_impl_CatHas_1 = some E_impl_CatHas_1 := rfl
theorem L_slices_IndexFunc_SSint_Sint : L.lookup f_slices_IndexFunc_SSint_Sint = some E_slices_IndexFunc_SSint_Sint := rfl
theorem L_impl_CatHas : L.lookup f_impl_CatHas = some E_impl_CatHas := rfl
theorem L_impl_CatForms : L.lookup f_impl_CatForms = some E_impl_CatForms := rfl
theorem L_impl_pots : L.lookup f_impl_pots = some E_impl_pots := rfl
theorem L_slices_Grow_Simpl_FrmForm_impl_FrmForm : L.lookup f_slices_Grow_Simpl_FrmForm_impl_FrmForm = some E_slices_Grow_Simpl_FrmForm_impl_FrmForm := rfl
theorem L_slices_Concat_Simpl_FrmForm_impl_FrmForm : L.lookup f_slices_Concat_Simpl_FrmForm_impl_FrmForm = some E_slices_Concat_Simpl_FrmForm_impl_FrmForm := rfl
theorem L_impl_RowRow_reads_1 : L.lookup f_impl_RowRow_reads_1 = some E_impl_RowRow_reads_1 := rfl
theorem L_impl_RowRow_reads : L.lookup f_impl_RowRow_reads = some E_impl_RowRow_reads := rfl
theorem L_impl_CatPins : L.lookup f_impl_CatPins = some E_impl_CatPins := rfl
theorem L_impl_rulesOf : L.lookup f_impl_rulesOf = some E_impl_rulesOf := rfl
theorem L_slices_IndexFunc_Simpl_PlnDone_impl_PlnDone : L.lookup f_slices_IndexFunc_Simpl_PlnDone_impl_PlnDone = some E_slices_IndexFunc_Simpl_PlnDone_impl_PlnDone := rfl
theorem L_slices_ContainsFunc_Simpl_PlnDone_impl_PlnDone : L.lookup f_slices_ContainsFunc_Simpl_PlnDone_impl_PlnDone = some E_slices_ContainsFunc_Simpl_PlnDone_impl_PlnDone := rfl
theorem L_impl_ResResult_none : L.lookup f_impl_ResResult_none = some E_impl_ResResult_none := rfl
theorem L_impl_codeWords : L.lookup f_impl_codeWords = some E_impl_codeWords := rfl
theorem L_impl_joined : L.lookup f_impl_joined = some E_impl_joined := rfl
theorem L_impl_ResText : L.lookup f_impl_ResText = some E_impl_ResText := rfl
theorem L_impl_ResOk : L.lookup f_impl_ResOk = some E_impl_ResOk := rfl
theorem L_impl_PlnDone_ok : L.lookup f_impl_PlnDone_ok = some E_impl_PlnDone_ok := rfl
theorem L_impl_PlnPlan_doneOk_1 : L.lookup f_impl_PlnPlan_doneOk_1 = some E_impl_PlnPlan_doneOk_1 := rfl
theorem L_impl_PlnPlan_doneOk : L.lookup f_impl_PlnPlan_doneOk = some E_impl_PlnPlan_doneOk := rfl
theorem L_impl_PlnPlan_isClient : L.lookup f_impl_PlnPlan_isClient = some E_impl_PlnPlan_isClient := rfl
theorem L_impl_ArgOk : L.lookup f_impl_ArgOk = some E_impl_ArgOk := rfl
theorem L_impl_PlnPlan_callOk : L.lookup f_impl_PlnPlan_callOk = some E_impl_PlnPlan_callOk := rfl
theorem L_slices_ContainsFunc_SSint_Sint : L.lookup f_slices_ContainsFunc_SSint_Sint = some E_slices_ContainsFunc_SSint_Sint := rfl
theorem L_impl_partsOk_1 : L.lookup f_impl_partsOk_1 = some E_impl_partsOk_1 := rfl
theorem L_impl_partsOk : L.lookup f_impl_partsOk = some E_impl_partsOk := rfl
theorem L_impl_addedOk : L.lookup f_impl_addedOk = some E_impl_addedOk := rfl
theorem L_impl_TrtTreaty_ok : L.lookup f_impl_TrtTreaty_ok = some E_impl_TrtTreaty_ok := rfl
theorem L_impl_dot : L.lookup f_impl_dot = some E_impl_dot := rfl
theorem L_impl_TrtKeeps_1 : L.lookup f_impl_TrtKeeps_1 = some E_impl_TrtKeeps_1 := rfl
theorem L_impl_TrtKeeps : L.lookup f_impl_TrtKeeps = some E_impl_TrtKeeps := rfl
theorem L_impl_rules_unpinned : L.lookup f_impl_rules_unpinned = some E_impl_rules_unpinned := rfl
theorem L_impl_rules_keeps : L.lookup f_impl_rules_keeps = some E_impl_rules_keeps := rfl
theorem L_impl_PlnPlan_seqsOk_1 : L.lookup f_impl_PlnPlan_seqsOk_1 = some E_impl_PlnPlan_seqsOk_1 := rfl
theorem L_impl_PlnPlan_seqsOk : L.lookup f_impl_PlnPlan_seqsOk = some E_impl_PlnPlan_seqsOk := rfl
theorem L_impl_ClkGot_none : L.lookup f_impl_ClkGot_none = some E_impl_ClkGot_none := rfl
theorem L_impl_PlnPlan_clerkOk : L.lookup f_impl_PlnPlan_clerkOk = some E_impl_PlnPlan_clerkOk := rfl
theorem L_impl_ClkOk : L.lookup f_impl_ClkOk = some E_impl_ClkOk := rfl
theorem L_laws_eqIntS : L.lookup f_laws_eqIntS = some E_laws_eqIntS := rfl
theorem L_laws_eqFrmForm : L.lookup f_laws_eqFrmForm = some E_laws_eqFrmForm := rfl
theorem L_laws_eqActLine : L.lookup f_laws_eqActLine = some E_laws_eqActLine := rfl
theorem L_laws_eqActLineS : L.lookup f_laws_eqActLineS = some E_laws_eqActLineS := rfl
theorem L_laws_eqActLineSS : L.lookup f_laws_eqActLineSS = some E_laws_eqActLineSS := rfl
theorem L_laws_eqPlnPlan : L.lookup f_laws_eqPlnPlan = some E_laws_eqPlnPlan := rfl
theorem L_laws_eqResResult : L.lookup f_laws_eqResResult = some E_laws_eqResResult := rfl
theorem L_laws_eqPlnDone : L.lookup f_laws_eqPlnDone = some E_laws_eqPlnDone := rfl
theorem L_laws_eqPlnDoneS : L.lookup f_laws_eqPlnDoneS = some E_laws_eqPlnDoneS := rfl
theorem L_laws_eqPlnCall : L.lookup f_laws_eqPlnCall = some E_laws_eqPlnCall := rfl
theorem L_laws_eqPlnCallS : L.lookup f_laws_eqPlnCallS = some E_laws_eqPlnCallS := rfl
theorem L_laws_eqClkGot : L.lookup f_laws_eqClkGot = some E_laws_eqClkGot := rfl
theorem L_laws_eqClkGotS : L.lookup f_laws_eqClkGotS = some E_laws_eqClkGotS := rfl
theorem L_laws_eqClkClerk : L.lookup f_laws_eqClkClerk = some E_laws_eqClkClerk := rfl
theorem L_laws_FnExactClkOk : L.lookup f_laws_FnExactClkOk = some E_laws_FnExactClkOk := rfl
end Go.Proofs.YtdibnlhlngodeaaGreatDoor

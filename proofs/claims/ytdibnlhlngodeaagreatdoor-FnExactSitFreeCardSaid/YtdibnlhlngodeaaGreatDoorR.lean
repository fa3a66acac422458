/- The residual programs of the functions, and the table of them. -/
import Derived.Test.YtdibnlhlngodeaaGreatDoorTd
set_option linter.unusedVariables false
set_option linter.unusedSimpArgs false
namespace Go.Proofs.YtdibnlhlngodeaaGreatDoor
open Go Go.Tm
theorem sCA {α : Type} {a : α} {as bs : List α} : (a :: as) ++ bs = a :: (as ++ bs) := rfl
theorem sNA {α : Type} {as : List α} : [] ++ as = as := rfl
abbrev aI (k : Nat) : E := .vi .i64 (.v k)
abbrev aS (k : Nat) : E := .s (.v k)
abbrev aB (k : Nat) : E := .vb (.v k)
abbrev aZ (k : Int) : E := .vi .i64 (.z k)
abbrev f_k0 : Nat := 52
abbrev f_k1 : Nat := 203
abbrev f_k2 : Nat := 157
abbrev f_k3 : Nat := 103
abbrev f_k4 : Nat := 51
abbrev f_k5 : Nat := 10
abbrev f_k6 : Nat := 158
abbrev f_k7 : Nat := 104
abbrev f_k8 : Nat := 53
abbrev f_k9 : Nat := 18
abbrev f_ka : Nat := 23
abbrev f_kb : Nat := 56
abbrev f_kc : Nat := 205
abbrev f_kd : Nat := 160
abbrev f_ke : Nat := 110
abbrev f_kf : Nat := 55
abbrev f_kg : Nat := 13
abbrev f_kh : Nat := 161
abbrev f_ki : Nat := 111
abbrev f_kj : Nat := 57
abbrev f_kk : Nat := 20
abbrev f_kl : Nat := 25
abbrev f_km : Nat := 63
abbrev f_kn : Nat := 98
abbrev f_ko : Nat := 241
abbrev f_kp : Nat := 202
abbrev f_kq : Nat := 156
abbrev f_kr : Nat := 97
abbrev f_ks : Nat := 108
abbrev f_kt : Nat := 99
abbrev f_ku : Nat := 47
abbrev f_kv : Nat := 132
abbrev f_kw : Nat := 126
abbrev f_kx : Nat := 216
abbrev f_ky : Nat := 213
abbrev f_kz : Nat := 246
abbrev f_k10 : Nat := 214
abbrev f_k11 : Nat := 215
abbrev f_k12 : Nat := 217
abbrev f_k13 : Nat := 176
abbrev f_k14 : Nat := 127
abbrev f_k15 : Nat := 128
abbrev f_k16 : Nat := 129
abbrev f_k17 : Nat := 131
abbrev f_k18 : Nat := 130
abbrev f_k19 : Nat := 64
abbrev f_k1a : Nat := 70
abbrev f_k1b : Nat := 177
abbrev f_k1c : Nat := 178
abbrev f_k1d : Nat := 133
abbrev f_k1e : Nat := 134
abbrev f_k1f : Nat := 242
abbrev f_k1g : Nat := 204
abbrev f_k1h : Nat := 159
abbrev f_k1i : Nat := 109
abbrev f_k1j : Nat := 65
abbrev f_k1k : Nat := 19
abbrev f_k1l : Nat := 138
abbrev f_k1m : Nat := 105
abbrev f_k1n : Nat := 68
abbrev f_k1o : Nat := 232
abbrev f_k1p : Nat := 234
abbrev f_k1q : Nat := 253
abbrev f_k1r : Nat := 230
abbrev f_k1s : Nat := 188
abbrev f_k1t : Nat := 231
abbrev f_k1u : Nat := 233
abbrev f_k1v : Nat := 189
abbrev f_k1w : Nat := 139
abbrev f_k1x : Nat := 69
abbrev f_k1y : Nat := 24
abbrev f_k1z : Nat := 112
abbrev f_k20 : Nat := 206
abbrev f_k21 : Nat := 162
abbrev f_k22 : Nat := 166
abbrev f_k23 : Nat := 208
abbrev f_k24 : Nat := 165
abbrev f_k25 : Nat := 114
abbrev f_k26 : Nat := 243
abbrev f_k27 : Nat := 227
abbrev f_k28 : Nat := 244
abbrev f_k29 : Nat := 207
abbrev f_k2a : Nat := 164
abbrev f_k2b : Nat := 163
abbrev f_k2c : Nat := 113
abbrev f_k2d : Nat := 116
abbrev f_k2e : Nat := 167
abbrev f_k2f : Nat := 122
abbrev f_k2g : Nat := 115
abbrev f_k2h : Nat := 58
abbrev f_k2i : Nat := 101
abbrev f_k2j : Nat := 181
abbrev f_k2k : Nat := 149
abbrev f_k2l : Nat := 260
abbrev f_k2m : Nat := 248
abbrev f_k2n : Nat := 100
abbrev f_k2o : Nat := 237
abbrev f_k2p : Nat := 194
abbrev f_k2q : Nat := 261
abbrev f_k2r : Nat := 262
abbrev f_k2s : Nat := 263
abbrev f_k2t : Nat := 249
abbrev f_k2u : Nat := 250
abbrev f_k2v : Nat := 251
abbrev f_k2w : Nat := 222
abbrev f_k2x : Nat := 182
abbrev f_k2y : Nat := 223
abbrev f_k2z : Nat := 183
abbrev f_k30 : Nat := 224
abbrev f_k31 : Nat := 184
abbrev f_k32 : Nat := 226
abbrev f_k33 : Nat := 225
abbrev f_k34 : Nat := 185
abbrev f_k35 : Nat := 136
abbrev f_k36 : Nat := 186
abbrev f_k37 : Nat := 252
abbrev f_k38 : Nat := 228
abbrev f_k39 : Nat := 229
abbrev f_k3a : Nat := 187
abbrev f_k3b : Nat := 137
abbrev f_k3c : Nat := 67
abbrev f_k3d : Nat := 119
abbrev f_k3e : Nat := 219
abbrev f_k3f : Nat := 259
abbrev f_k3g : Nat := 247
abbrev f_k3h : Nat := 120
abbrev f_k3i : Nat := 218
abbrev f_k3j : Nat := 221
abbrev f_k3k : Nat := 220
abbrev f_k3l : Nat := 179
abbrev f_k3m : Nat := 180
abbrev f_k3n : Nat := 135
abbrev f_k3o : Nat := 209
abbrev f_k3p : Nat := 171
abbrev f_k3q : Nat := 210
abbrev f_k3r : Nat := 257
abbrev f_k3s : Nat := 258
abbrev f_k3t : Nat := 245
abbrev f_k3u : Nat := 211
abbrev f_k3v : Nat := 173
abbrev f_k3w : Nat := 172
abbrev f_k3x : Nat := 123
abbrev f_k3y : Nat := 66
abbrev f_k3z : Nat := 21
abbrev f_k40 : Nat := 168
abbrev f_k41 : Nat := 169
abbrev f_k42 : Nat := 118
abbrev f_k43 : Nat := 71
abbrev f_k44 : Nat := 196
abbrev f_k45 : Nat := 235
abbrev f_k46 : Nat := 236
abbrev f_k47 : Nat := 191
abbrev f_k48 : Nat := 190
abbrev f_k49 : Nat := 193
abbrev f_k4a : Nat := 192
abbrev f_k4b : Nat := 195
abbrev f_k4c : Nat := 140
abbrev f_k4d : Nat := 72
abbrev f_k4e : Nat := 26
abbrev f_k4f : Nat := 61
abbrev f_k4g : Nat := 212
abbrev f_k4h : Nat := 174
abbrev f_k4i : Nat := 124
abbrev f_k4j : Nat := 60
abbrev f_k4k : Nat := 16
abbrev f_k4l : Nat := 175
abbrev f_k4m : Nat := 125
abbrev f_k4n : Nat := 62
abbrev f_k4o : Nat := 22
abbrev f_k4p : Nat := 27
abbrev f_k4q : Nat := 5

def R_k0 : R :=
 .ite (.cmp .lt (.bin .sub .i64 (.v 1) (.len (.v 0))) (.z 0))
 (
 .done [(.vi .i64 (.z (-1)))])
 (
 .done [(.vi .i64 (.bin .sub .i64 (.v 1) (.len (.v 0))))])

def R_k1 : R :=
 .i (.call f_k0 [(aS 0), (aI 3)] [.i .i64] 4) <|
 .ite (.cmp .lt (.v 4) (.z 0))
 (
 .done [(.vi .i64 (.z (-1)))])
 (
 .i (.call f_k0 [(aS 1), (aI 4)] [.i .i64] 5) <|
 .ite (.cmp .lt (.v 5) (.z 0))
 (
 .done [(.vi .i64 (.z (-1)))])
 (
 .done [(aI 5)]))

def R_k2 : R :=
 .i (.call f_k1 [(aS 3), (aS 4), (aI 5), (aI 6)] [.i .i64] 7) <|
 .ite (.cmp .lt (.v 7) (.z 0))
 (
 .done [(.vi .i64 (.z (-1)))])
 (
 .done [(aI 7)])

def R_k3 : R :=
 .ite (.cmp .lt (.bin .sub .i64 (.v 1) (.len (.v 0))) (.z 0))
 (
 .done [(.vi .i64 (.z (-1)))])
 (
 .loop 2 [(.bin .sub .i64 (.v 1) (.len (.v 0))), (.z 0)] <|
 .ite (.cmp .lt (.v 3) (.len (.v 0)))
 (
 .i (.idx (.v 0) (.v 3) (.g [.i .i64, .i .i64, .i .i64, .s, .s, .i .i64]) 4) <|
 .i (.call f_k2 [(aI 4), (aI 5), (aI 6), (aS 7), (aS 8), (aI 9), (aI 2)] [.i .i64] 10) <|
 .ite (.cmp .lt (.v 10) (.z 0))
 (
 .esc <|
 .done [(.vi .i64 (.z (-1)))])
 (
 .next [(.v 10), (.bin .add .i64 (.v 3) (.z 1))]))
 (
 .esc <|
 .done [(aI 2)]))

def R_k4 : R :=
 .ite (.cmp .lt (.bin .sub .i64 (.v 1) (.len (.v 0))) (.z 0))
 (
 .done [(.vi .i64 (.z (-1)))])
 (
 .loop 2 [(.bin .sub .i64 (.v 1) (.len (.v 0))), (.z 0)] <|
 .ite (.cmp .lt (.v 3) (.len (.v 0)))
 (
 .i (.idx (.v 0) (.v 3) (.one (.s)) 4) <|
 .i (.call f_k3 [(aS 4), (aI 2)] [.i .i64] 5) <|
 .ite (.cmp .lt (.v 5) (.z 0))
 (
 .esc <|
 .done [(.vi .i64 (.z (-1)))])
 (
 .next [(.v 5), (.bin .add .i64 (.v 3) (.z 1))]))
 (
 .esc <|
 .done [(aI 2)]))

def R_k5 : R :=
 .i (.call f_k4 [(aS 1), (aI 4)] [.i .i64] 5) <|
 .ite (.cmp .lt (.v 5) (.z 0))
 (
 .done [(.vi .i64 (.z (-1)))])
 (
 .i (.call f_k0 [(aS 2), (aI 5)] [.i .i64] 6) <|
 .ite (.cmp .lt (.v 6) (.z 0))
 (
 .done [(.vi .i64 (.z (-1)))])
 (
 .i (.call f_k0 [(aS 3), (aI 6)] [.i .i64] 7) <|
 .ite (.cmp .lt (.v 7) (.z 0))
 (
 .done [(.vi .i64 (.z (-1)))])
 (
 .done [(aI 7)])))

def R_k6 : R :=
 .i (.call f_k0 [(aS 1), (aI 2)] [.i .i64] 3) <|
 .ite (.cmp .lt (.v 3) (.z 0))
 (
 .done [(.vi .i64 (.z (-1)))])
 (
 .done [(aI 3)])

def R_k7 : R :=
 .i (.call f_k6 [(aI 1), (aS 2), (aI 3)] [.i .i64] 4) <|
 .ite (.cmp .lt (.v 4) (.z 0))
 (
 .done [(.vi .i64 (.z (-1)))])
 (
 .done [(aI 4)])

def R_k8 : R :=
 .ite (.cmp .lt (.bin .sub .i64 (.v 1) (.len (.v 0))) (.z 0))
 (
 .done [(.vi .i64 (.z (-1)))])
 (
 .loop 2 [(.bin .sub .i64 (.v 1) (.len (.v 0))), (.z 0)] <|
 .ite (.cmp .lt (.v 3) (.len (.v 0)))
 (
 .i (.idx (.v 0) (.v 3) (.g [.i .i64, .i .i64, .s]) 4) <|
 .i (.call f_k7 [(aI 4), (aI 5), (aS 6), (aI 2)] [.i .i64] 7) <|
 .ite (.cmp .lt (.v 7) (.z 0))
 (
 .esc <|
 .done [(.vi .i64 (.z (-1)))])
 (
 .next [(.v 7), (.bin .add .i64 (.v 3) (.z 1))]))
 (
 .esc <|
 .done [(aI 2)]))

def R_k9 : R :=
 .i (.call f_k0 [(aS 3), (aI 6)] [.i .i64] 7) <|
 .ite (.cmp .lt (.v 7) (.z 0))
 (
 .done [(.vi .i64 (.z (-1)))])
 (
 .i (.call f_k0 [(aS 4), (aI 7)] [.i .i64] 8) <|
 .ite (.cmp .lt (.v 8) (.z 0))
 (
 .done [(.vi .i64 (.z (-1)))])
 (
 .i (.call f_k8 [(aS 5), (aI 8)] [.i .i64] 9) <|
 .ite (.cmp .lt (.v 9) (.z 0))
 (
 .done [(.vi .i64 (.z (-1)))])
 (
 .done [(aI 9)])))

def R_ka : R :=
 .i (.call f_k0 [(aS 3), (aI 4)] [.i .i64] 5) <|
 .ite (.cmp .lt (.v 5) (.z 0))
 (
 .done [(.vi .i64 (.z (-1)))])
 (
 .done [(aI 5)])

def R_kb : R :=
 .i (.chk (.cmp .le (.z 0) (.len (.v 0)))) <|
 .i (.chk (.cmp .le (.len (.v 0)) (.z 8796093022208))) <|
 .loop 1 [(.rep (.len (.v 0)) (aZ 0)), (.z 0)] <|
 .ite (.cmp .lt (.v 2) (.len (.v 0)))
 (
 .i (.idx (.v 0) (.v 2) (.one (.i .i64)) 3) <|
 .i (.chk (.cmp .le (.z 0) (.v 2))) <|
 .i (.chk (.cmp .lt (.v 2) (.len (.v 1)))) <|
 .i (.idx (.v 1) (.v 2) (.one (.i .i64)) 4) <|
 .next [(.set (.v 1) (.v 2) (aI 3)), (.bin .add .i64 (.v 2) (.z 1))])
 (
 .esc <|
 .done [(aS 1)])

def R_kc : R :=
 .i (.call f_kb [(aS 0)] [.s] 3) <|
 .i (.call f_kb [(aS 1)] [.s] 4) <|
 .done [(aS 3), (aS 4), (aI 2)]

def R_kd : R :=
 .i (.call f_kc [(aS 3), (aS 4), (aI 5)] [.s, .s, .i .i64] 6) <|
 .done [(aI 0), (aI 1), (aI 2), (aS 6), (aS 7), (aI 8)]

def R_ke : R :=
 .i (.chk (.cmp .le (.z 0) (.len (.v 0)))) <|
 .i (.chk (.cmp .le (.len (.v 0)) (.z 879609302220))) <|
 .loop 1 [(.rep (.len (.v 0)) (.g (.cons (aZ 0) (.cons (aZ 0) (.cons (aZ 0) (.cons (.s .nil) (.cons (.s .nil) (.cons (aZ 0) .nil)))))))), (.z 0)] <|
 .ite (.cmp .lt (.v 2) (.len (.v 0)))
 (
 .i (.idx (.v 0) (.v 2) (.g [.i .i64, .i .i64, .i .i64, .s, .s, .i .i64]) 3) <|
 .i (.call f_kd [(aI 3), (aI 4), (aI 5), (aS 6), (aS 7), (aI 8)] [.i .i64, .i .i64, .i .i64, .s, .s, .i .i64] 9) <|
 .i (.chk (.cmp .le (.z 0) (.v 2))) <|
 .i (.chk (.cmp .lt (.v 2) (.len (.v 1)))) <|
 .i (.idx (.v 1) (.v 2) (.g [.i .i64, .i .i64, .i .i64, .s, .s, .i .i64]) 15) <|
 .next [(.set (.v 1) (.v 2) (.g (.cons (aI 9) (.cons (aI 10) (.cons (aI 11) (.cons (aS 12) (.cons (aS 13) (.cons (aI 14) .nil)))))))), (.bin .add .i64 (.v 2) (.z 1))])
 (
 .esc <|
 .done [(aS 1)])

def R_kf : R :=
 .i (.chk (.cmp .le (.z 0) (.len (.v 0)))) <|
 .i (.chk (.cmp .le (.len (.v 0)) (.z 2932031007402))) <|
 .loop 1 [(.rep (.len (.v 0)) (.s .nil)), (.z 0)] <|
 .ite (.cmp .lt (.v 2) (.len (.v 0)))
 (
 .i (.idx (.v 0) (.v 2) (.one (.s)) 3) <|
 .i (.call f_ke [(aS 3)] [.s] 4) <|
 .i (.chk (.cmp .le (.z 0) (.v 2))) <|
 .i (.chk (.cmp .lt (.v 2) (.len (.v 1)))) <|
 .i (.idx (.v 1) (.v 2) (.one (.s)) 5) <|
 .next [(.set (.v 1) (.v 2) (aS 4)), (.bin .add .i64 (.v 2) (.z 1))])
 (
 .esc <|
 .done [(aS 1)])

def R_kg : R :=
 .i (.call f_kf [(aS 1)] [.s] 4) <|
 .i (.call f_kb [(aS 2)] [.s] 5) <|
 .i (.call f_kb [(aS 3)] [.s] 6) <|
 .done [(aI 0), (aS 4), (aS 5), (aS 6)]

def R_kh : R :=
 .i (.call f_kb [(aS 1)] [.s] 2) <|
 .done [(aI 0), (aS 2)]

def R_ki : R :=
 .i (.call f_kh [(aI 1), (aS 2)] [.i .i64, .s] 3) <|
 .done [(aI 0), (aI 3), (aS 4)]

def R_kj : R :=
 .i (.chk (.cmp .le (.z 0) (.len (.v 0)))) <|
 .i (.chk (.cmp .le (.len (.v 0)) (.z 1759218604441))) <|
 .loop 1 [(.rep (.len (.v 0)) (.g (.cons (aZ 0) (.cons (aZ 0) (.cons (.s .nil) .nil))))), (.z 0)] <|
 .ite (.cmp .lt (.v 2) (.len (.v 0)))
 (
 .i (.idx (.v 0) (.v 2) (.g [.i .i64, .i .i64, .s]) 3) <|
 .i (.call f_ki [(aI 3), (aI 4), (aS 5)] [.i .i64, .i .i64, .s] 6) <|
 .i (.chk (.cmp .le (.z 0) (.v 2))) <|
 .i (.chk (.cmp .lt (.v 2) (.len (.v 1)))) <|
 .i (.idx (.v 1) (.v 2) (.g [.i .i64, .i .i64, .s]) 9) <|
 .next [(.set (.v 1) (.v 2) (.g (.cons (aI 6) (.cons (aI 7) (.cons (aS 8) .nil))))), (.bin .add .i64 (.v 2) (.z 1))])
 (
 .esc <|
 .done [(aS 1)])

def R_kk : R :=
 .i (.call f_kb [(aS 3)] [.s] 6) <|
 .i (.call f_kb [(aS 4)] [.s] 7) <|
 .i (.call f_kj [(aS 5)] [.s] 8) <|
 .done [(aB 0), (aB 1), (aI 2), (aS 6), (aS 7), (aS 8)]

def R_kl : R :=
 .i (.call f_kb [(aS 3)] [.s] 4) <|
 .done [(aI 0), (aI 1), (aI 2), (aS 4)]

def R_km : R :=
 .ite (.cmp .le (.v 1) (.v 0))
 (
 .done [(.vb (.cmp .le (.v 0) (.v 2)))])
 (
 .done [(.vb .ff)])

def R_kn : R :=
 .ite (.not (.cmp .eq (.len (.v 0)) (.v 1)))
 (
 .done [(.vb .ff)])
 (
 .loop 3 [(.z 0)] <|
 .ite (.cmp .lt (.v 3) (.len (.v 0)))
 (
 .i (.idx (.v 0) (.v 3) (.one (.i .i64)) 4) <|
 .i (.call f_km [(aI 4), (.vi .i64 (.bin .sub .i64 (.z 0) (.v 2))), (aI 2)] [.b] 5) <|
 .ite (.not (.v 5))
 (
 .esc <|
 .done [(.vb .ff)])
 (
 .next [(.bin .add .i64 (.v 3) (.z 1))]))
 (
 .esc <|
 .done [(.vb .tt)]))

def R_ko : R :=
 .i (.call f_kn [(aS 0), (aZ 3), (aZ 2)] [.b] 3) <|
 .ite (.v 3)
 (
 .i (.call f_kn [(aS 1), (aZ 2), (aZ 2)] [.b] 4) <|
 .ite (.v 4)
 (
 .i (.call f_km [(aI 2), (.vi .i64 (.z (-20))), (aZ 20)] [.b] 5) <|
 .done [(aB 5)])
 (
 .done [(.vb .ff)]))
 (
 .done [(.vb .ff)])

def R_kp : R :=
 .ite (.cmp .eq (.v 0) (.z 1))
 (
 .ite (.cmp .eq (.v 1) (.z 0))
 (
 .i (.call f_km [(aI 2), (aZ 1), (aZ 6)] [.b] 6) <|
 .ite (.v 6)
 (
 .i (.call f_ko [(aS 3), (aS 4), (aI 5)] [.b] 7) <|
 .done [(aB 7)])
 (
 .done [(.vb .ff)]))
 (
 .done [(.vb .ff)]))
 (
 .ite (.cmp .eq (.v 0) (.z 2))
 (
 .i (.call f_km [(aI 1), (aZ 0), (aZ 2)] [.b] 6) <|
 .ite (.v 6)
 (
 .ite (.cmp .eq (.v 2) (.z 0))
 (
 .i (.call f_ko [(aS 3), (aS 4), (aI 5)] [.b] 7) <|
 .done [(aB 7)])
 (
 .done [(.vb .ff)]))
 (
 .done [(.vb .ff)]))
 (
 .ite (.cmp .eq (.v 0) (.z 3))
 (
 .ite (.cmp .eq (.v 1) (.z 0))
 (
 .ite (.cmp .eq (.v 2) (.z 0))
 (
 .i (.call f_ko [(aS 3), (aS 4), (aI 5)] [.b] 6) <|
 .done [(aB 6)])
 (
 .done [(.vb .ff)]))
 (
 .done [(.vb .ff)]))
 (
 .ite (.cmp .eq (.v 0) (.z 4))
 (
 .ite (.cmp .eq (.v 1) (.z 0))
 (
 .ite (.cmp .eq (.v 2) (.z 0))
 (
 .ite (.cmp .eq (.bin .add .i64 (.len (.v 3)) (.len (.v 4))) (.z 0))
 (
 .done [(.vb (.cmp .eq (.v 5) (.z 0)))])
 (
 .done [(.vb .ff)]))
 (
 .done [(.vb .ff)]))
 (
 .done [(.vb .ff)]))
 (
 .done [(.vb .ff)]))))

def R_kq : R :=
 .loop 1 [(.z 0), (.z 0)] <|
 .ite (.cmp .lt (.v 2) (.len (.v 0)))
 (
 .i (.idx (.v 0) (.v 2) (.g [.i .i64, .i .i64, .i .i64, .s, .s, .i .i64]) 3) <|
 .i (.call f_kp [(aI 3), (aI 4), (aI 5), (aS 6), (aS 7), (aI 8)] [.b] 9) <|
 .ite (.not (.v 9))
 (
 .esc <|
 .done [(.vb .ff)])
 (
 .i (.idx (.v 0) (.v 2) (.g [.i .i64, .i .i64, .i .i64, .s, .s, .i .i64]) 10) <|
 .ite (.cmp .eq (.v 10) (.z 1))
 (
 .next [(.bin .add .i64 (.v 1) (.z 1)), (.bin .add .i64 (.v 2) (.z 1))])
 (
 .next [(.v 1), (.bin .add .i64 (.v 2) (.z 1))])))
 (
 .esc <|
 .ite (.cmp .le (.len (.v 0)) (.z 6))
 (
 .done [(.vb (.cmp .le (.v 1) (.z 3)))])
 (
 .done [(.vb .ff)]))

def R_kr : R :=
 .i (.call f_km [(.vi .i64 (.len (.v 0))), (aZ 1), (aZ 4)] [.b] 1) <|
 .ite (.not (.v 1))
 (
 .done [(.vb .ff)])
 (
 .loop 2 [(.z 0)] <|
 .ite (.cmp .lt (.v 2) (.len (.v 0)))
 (
 .i (.idx (.v 0) (.v 2) (.one (.s)) 3) <|
 .i (.call f_kq [(aS 3)] [.b] 4) <|
 .ite (.not (.v 4))
 (
 .esc <|
 .done [(.vb .ff)])
 (
 .next [(.bin .add .i64 (.v 2) (.z 1))]))
 (
 .esc <|
 .done [(.vb .tt)]))

def R_ks : R :=
 .i (.call f_kn [(aS 0), (aZ 3), (aZ 10000)] [.b] 1) <|
 .done [(aB 1)]

def R_kt : R :=
 .i (.call f_ks [(aS 0)] [.b] 2) <|
 .ite (.not (.v 2))
 (
 .done [(.vb .ff)])
 (
 .i (.call f_km [(.vi .i64 (.len (.v 1))), (aZ 1), (aZ 3)] [.b] 3) <|
 .ite (.not (.v 3))
 (
 .done [(.vb .ff)])
 (
 .loop 4 [(.z 0)] <|
 .ite (.cmp .lt (.v 4) (.len (.v 1)))
 (
 .i (.idx (.v 1) (.v 4) (.one (.i .i64)) 5) <|
 .i (.call f_km [(aI 5), (aZ 0), (aZ 50)] [.b] 6) <|
 .ite (.not (.v 6))
 (
 .esc <|
 .done [(.vb .ff)])
 (
 .next [(.bin .add .i64 (.v 4) (.z 1))]))
 (
 .esc <|
 .done [(.vb .tt)])))

def R_ku : R :=
 .i (.call f_km [(aI 0), (aZ 1), (aZ 4)] [.b] 4) <|
 .ite (.v 4)
 (
 .i (.call f_kr [(aS 1)] [.b] 5) <|
 .ite (.v 5)
 (
 .i (.call f_kn [(aS 3), (aZ 3), (aZ 1000)] [.b] 6) <|
 .ite (.v 6)
 (
 .i (.call f_kt [(aS 3), (aS 2)] [.b] 7) <|
 .done [(aB 7)])
 (
 .done [(.vb .ff)]))
 (
 .done [(.vb .ff)]))
 (
 .done [(.vb .ff)])

def R_kv : R :=
 .done [(.s (.cons (aZ 0) (.cons (aZ 0) (.cons (aZ 0) .nil)))), (.s (.cons (aZ 0) (.cons (aZ 0) .nil))), (aZ 0)]

def R_kw : R :=
 .i (.call f_km [(aI 0), (aZ 0), (aZ 2)] [.b] 1) <|
 .ite (.not (.v 1))
 (
 .done [(.s .nil), (.s .nil), (aZ 0)])
 (
 .i (.call f_kv [] [.s, .s, .i .i64] 2) <|
 .i (.chk (.cmp .le (.z 0) (.v 0))) <|
 .i (.chk (.cmp .lt (.v 0) (.len (.v 2)))) <|
 .i (.idx (.v 2) (.v 0) (.one (.i .i64)) 5) <|
 .done [(.s (.set (.v 2) (.v 0) (aZ 1))), (aS 3), (aI 4)])

def R_kx : R :=
 .i (.call f_kv [] [.s, .s, .i .i64] 7) <|
 .loop 10 [(.v 7), (.z 0)] <|
 .ite (.cmp .lt (.v 11) (.z 3))
 (
 .i (.idx (.v 0) (.v 11) (.one (.i .i64)) 12) <|
 .i (.idx (.v 3) (.v 11) (.one (.i .i64)) 13) <|
 .i (.chk (.cmp .le (.z 0) (.v 11))) <|
 .i (.chk (.cmp .lt (.v 11) (.len (.v 10)))) <|
 .i (.idx (.v 10) (.v 11) (.one (.i .i64)) 14) <|
 .next [(.set (.v 10) (.v 11) (.vi .i64 (.bin .add .i64 (.v 12) (.bin .mul .i64 (.v 6) (.v 13))))), (.bin .add .i64 (.v 11) (.z 1))])
 (
 .esc <|
 .loop 12 [(.v 8), (.z 0)] <|
 .ite (.cmp .lt (.v 13) (.z 2))
 (
 .i (.idx (.v 1) (.v 13) (.one (.i .i64)) 14) <|
 .i (.idx (.v 4) (.v 13) (.one (.i .i64)) 15) <|
 .i (.chk (.cmp .le (.z 0) (.v 13))) <|
 .i (.chk (.cmp .lt (.v 13) (.len (.v 12)))) <|
 .i (.idx (.v 12) (.v 13) (.one (.i .i64)) 16) <|
 .next [(.set (.v 12) (.v 13) (.vi .i64 (.bin .add .i64 (.v 14) (.bin .mul .i64 (.v 6) (.v 15))))), (.bin .add .i64 (.v 13) (.z 1))])
 (
 .esc <|
 .done [(aS 10), (aS 12), (.vi .i64 (.bin .add .i64 (.v 2) (.bin .mul .i64 (.v 6) (.v 5))))]))

def R_ky : R :=
 .loop 1 [.nil, (.z 0)] <|
 .ite (.cmp .lt (.v 2) (.len (.v 0)))
 (
 .i (.call f_kv [] [.s, .s, .i .i64] 3) <|
 .i (.idx (.v 0) (.v 2) (.g [.s, .s, .i .i64]) 6) <|
 .i (.call f_kx [(aS 3), (aS 4), (aI 5), (aS 6), (aS 7), (aI 8), (aZ 1)] [.s, .s, .i .i64] 9) <|
 .i (.chk (.cmp .le (.len (.app (.v 1) (.cons (.g (.cons (aS 9) (.cons (aS 10) (.cons (aI 11) .nil)))) .nil))) (.z 1256584717458))) <|
 .next [(.app (.v 1) (.cons (.g (.cons (aS 9) (.cons (aS 10) (.cons (aI 11) .nil)))) .nil)), (.bin .add .i64 (.v 2) (.z 1))])
 (
 .esc <|
 .done [(aS 1)])

def R_kz : R :=
 .i (.call f_kn [(aS 0), (aZ 3), (aZ 10000000)] [.b] 3) <|
 .ite (.v 3)
 (
 .i (.call f_kn [(aS 1), (aZ 2), (aZ 10000000)] [.b] 4) <|
 .ite (.v 4)
 (
 .i (.call f_km [(aI 2), (.vi .i64 (.z (-10000000))), (aZ 10000000)] [.b] 5) <|
 .done [(aB 5)])
 (
 .done [(.vb .ff)]))
 (
 .done [(.vb .ff)])

def R_k10 : R :=
 .i (.call f_kz [(aS 0), (aS 1), (aI 2)] [.b] 4) <|
 .ite (.not (.v 4))
 (
 .done [(.s .nil), (.s .nil), (aZ 0)])
 (
 .ite (.not (.cmp .eq (.len (.v 3)) (.z 3)))
 (
 .done [(.s .nil), (.s .nil), (aZ 0)])
 (
 .i (.idx (.v 3) (.z 0) (.g [.s, .s, .i .i64]) 5) <|
 .i (.call f_kz [(aS 5), (aS 6), (aI 7)] [.b] 8) <|
 .ite (.not (.v 8))
 (
 .done [(.s .nil), (.s .nil), (aZ 0)])
 (
 .i (.idx (.v 3) (.z 1) (.g [.s, .s, .i .i64]) 9) <|
 .i (.call f_kz [(aS 9), (aS 10), (aI 11)] [.b] 12) <|
 .ite (.not (.v 12))
 (
 .done [(.s .nil), (.s .nil), (aZ 0)])
 (
 .i (.idx (.v 3) (.z 2) (.g [.s, .s, .i .i64]) 13) <|
 .i (.call f_kz [(aS 13), (aS 14), (aI 15)] [.b] 16) <|
 .ite (.not (.v 16))
 (
 .done [(.s .nil), (.s .nil), (aZ 0)])
 (
 .i (.chk (.cmp .le (.len (.v 1)) (.z 8796093022208))) <|
 .i (.head 1 (.v 1)) <|
 .i (.chk (.cmp .le (.len (.app .nil (.v 1))) (.z 8796093022208))) <|
 .loop 17 [(.cons (aZ 0) (.cons (aZ 0) (.cons (aZ 0) .nil))), (.app .nil (.v 1)), (.z 0), (.v 2)] <|
 .ite (.cmp .lt (.v 19) (.z 3))
 (
 .i (.idx (.v 3) (.v 19) (.g [.s, .s, .i .i64]) 21) <|
 .i (.idx (.v 0) (.v 19) (.one (.i .i64)) 24) <|
 .i (.call f_kx [(aS 17), (aS 18), (aI 20), (aS 21), (aS 22), (aI 23), (aI 24)] [.s, .s, .i .i64] 25) <|
 .next [(.v 25), (.v 26), (.bin .add .i64 (.v 19) (.z 1)), (.v 27)])
 (
 .esc <|
 .i (.call f_kz [(aS 17), (aS 18), (aI 20)] [.b] 21) <|
 .ite (.not (.v 21))
 (
 .done [(.s .nil), (.s .nil), (aZ 0)])
 (
 .done [(aS 17), (aS 18), (aI 20)])))))))

def R_k11 : R :=
 .i (.call f_kv [] [.s, .s, .i .i64] 3) <|
 .i (.call f_kx [(aS 3), (aS 4), (aI 5), (aS 0), (aS 1), (aI 2), (.vi .i64 (.z (-1)))] [.s, .s, .i .i64] 6) <|
 .done [(aS 6), (aS 7), (.vi .i64 (.bin .sub .i64 (.v 8) (.z 1)))]

def R_k12 : R :=
 .i (.call f_ky [(aS 1)] [.s] 3) <|
 .i (.call f_ky [(aS 2)] [.s] 4) <|
 .loop 5 [.nil, (.z 0)] <|
 .ite (.cmp .lt (.v 6) (.z 3))
 (
 .i (.idx (.v 0) (.v 6) (.g [.s, .s, .i .i64]) 7) <|
 .i (.call f_kw [(aI 6)] [.s, .s, .i .i64] 10) <|
 .i (.call f_kx [(aS 7), (aS 8), (aI 9), (aS 10), (aS 11), (aI 12), (.vi .i64 (.z (-1)))] [.s, .s, .i .i64] 13) <|
 .i (.chk (.cmp .le (.len (.app (.v 5) (.cons (.g (.cons (aS 13) (.cons (aS 14) (.cons (aI 15) .nil)))) .nil))) (.z 1256584717458))) <|
 .next [(.app (.v 5) (.cons (.g (.cons (aS 13) (.cons (aS 14) (.cons (aI 15) .nil)))) .nil)), (.bin .add .i64 (.v 6) (.z 1))])
 (
 .esc <|
 .done [(aS 3), (aS 5), (aS 4), (.vb .ff)])

def R_k13 : R :=
 .loop 5 [(.v 2), (.v 4), (.v 1)] <|
 .ite (.cmp .lt (.v 7) (.len (.v 0)))
 (
 .i (.idx (.v 0) (.v 7) (.g [.i .i64, .i .i64, .i .i64, .s, .s, .i .i64]) 8) <|
 .ite (.cmp .eq (.v 8) (.z 4))
 (
 .i (.call f_ky [(aS 3)] [.s] 14) <|
 .esc <|
 .done [(.s (.cons (.g (.cons (aS 14) (.cons (.s .nil) (.cons (.s .nil) (.cons (.vb .tt) .nil))))) .nil))])
 (
 .i (.call f_k10 [(aS 11), (aS 12), (aI 13), (aS 5)] [.s, .s, .i .i64] 14) <|
 .ite (.cmp .eq (.v 8) (.z 1))
 (
 .i (.call f_ky [(aS 5)] [.s] 17) <|
 .i (.call f_ky [(aS 3)] [.s] 18) <|
 .i (.chk (.cmp .le (.len (.app (.v 18) (.cons (.g (.cons (aS 14) (.cons (aS 15) (.cons (aI 16) .nil)))) .nil))) (.z 1256584717458))) <|
 .i (.call f_ky [(aS 6)] [.s] 19) <|
 .i (.call f_k13 [(aS 0), (.vi .i64 (.bin .add .i64 (.v 7) (.z 1))), (aS 17), (.s (.app (.v 18) (.cons (.g (.cons (aS 14) (.cons (aS 15) (.cons (aI 16) .nil)))) .nil))), (aS 19)] [.s] 20) <|
 .i (.call f_ky [(aS 5)] [.s] 21) <|
 .i (.call f_ky [(aS 3)] [.s] 22) <|
 .i (.call f_k11 [(aS 14), (aS 15), (aI 16)] [.s, .s, .i .i64] 23) <|
 .i (.chk (.cmp .le (.len (.app (.v 22) (.cons (.g (.cons (aS 23) (.cons (aS 24) (.cons (aI 25) .nil)))) .nil))) (.z 1256584717458))) <|
 .i (.call f_ky [(aS 6)] [.s] 26) <|
 .i (.call f_k13 [(aS 0), (.vi .i64 (.bin .add .i64 (.bin .add .i64 (.v 7) (.z 1)) (.v 10))), (aS 21), (.s (.app (.v 22) (.cons (.g (.cons (aS 23) (.cons (aS 24) (.cons (aI 25) .nil)))) .nil))), (aS 26)] [.s] 27) <|
 .i (.chk (.cmp .le (.len (.v 27)) (.z 879609302220))) <|
 .i (.head 4 (.v 27)) <|
 .i (.chk (.cmp .le (.len (.app (.v 20) (.v 27))) (.z 879609302220))) <|
 .esc <|
 .done [(.s (.app (.v 20) (.v 27)))])
 (
 .ite (.cmp .eq (.v 8) (.z 2))
 (
 .i (.call f_ky [(aS 5)] [.s] 17) <|
 .i (.chk (.cmp .le (.z 0) (.v 9))) <|
 .i (.chk (.cmp .lt (.v 9) (.len (.v 17)))) <|
 .i (.idx (.v 17) (.v 9) (.g [.s, .s, .i .i64]) 18) <|
 .i (.call f_kx [(aS 18), (aS 19), (aI 20), (aS 14), (aS 15), (aI 16), (aZ 1)] [.s, .s, .i .i64] 21) <|
 .i (.chk (.cmp .le (.z 0) (.v 9))) <|
 .i (.chk (.cmp .lt (.v 9) (.len (.v 17)))) <|
 .i (.idx (.v 17) (.v 9) (.g [.s, .s, .i .i64]) 24) <|
 .next [(.set (.v 17) (.v 9) (.g (.cons (aS 21) (.cons (aS 22) (.cons (aI 23) .nil))))), (.v 6), (.bin .add .i64 (.v 7) (.z 1))])
 (
 .i (.call f_ky [(aS 6)] [.s] 17) <|
 .i (.chk (.cmp .le (.len (.app (.v 17) (.cons (.g (.cons (aS 14) (.cons (aS 15) (.cons (aI 16) .nil)))) .nil))) (.z 1256584717458))) <|
 .next [(.v 5), (.app (.v 17) (.cons (.g (.cons (aS 14) (.cons (aS 15) (.cons (aI 16) .nil)))) .nil)), (.bin .add .i64 (.v 7) (.z 1))]))))
 (
 .esc <|
 .i (.call f_k12 [(aS 5), (aS 3), (aS 6)] [.s, .s, .s, .b] 8) <|
 .done [(.s (.cons (.g (.cons (aS 8) (.cons (aS 9) (.cons (aS 10) (.cons (aB 11) .nil))))) .nil))])

def R_k14 : R :=
 .i (.call f_kq [(aS 0)] [.b] 1) <|
 .ite (.not (.v 1))
 (
 .done [(.s .nil)])
 (
 .i (.call f_kw [(aZ 0)] [.s, .s, .i .i64] 2) <|
 .i (.call f_kw [(aZ 1)] [.s, .s, .i .i64] 5) <|
 .i (.call f_kw [(aZ 2)] [.s, .s, .i .i64] 8) <|
 .i (.call f_k13 [(aS 0), (aZ 0), (.s (.cons (.g (.cons (aS 2) (.cons (aS 3) (.cons (aI 4) .nil)))) (.cons (.g (.cons (aS 5) (.cons (aS 6) (.cons (aI 7) .nil)))) (.cons (.g (.cons (aS 8) (.cons (aS 9) (.cons (aI 10) .nil)))) .nil)))), (.s .nil), (.s .nil)] [.s] 11) <|
 .done [(aS 11)])

def R_k15 : R :=
 .i (.chk (.cmp .le (.len (.v 0)) (.z 70368744177664))) <|
 .i (.head 1 (.v 0)) <|
 .i (.chk (.cmp .le (.len (.app .nil (.v 0))) (.z 70368744177664))) <|
 .loop 2 [(.app .nil (.v 0)), (.z 0)] <|
 .ite (.cmp .lt (.v 3) (.len (.v 1)))
 (
 .loop 4 [(.v 2), (.z 0)] <|
 .ite (.cmp .lt (.v 5) (.z 3))
 (
 .i (.idx (.v 1) (.v 3) (.g [.s, .s, .i .i64]) 6) <|
 .i (.idx (.v 6) (.v 5) (.one (.i .i64)) 9) <|
 .ite (.not (.cmp .eq (.v 9) (.z 0)))
 (
 .i (.chk (.cmp .le (.z 0) (.v 5))) <|
 .i (.chk (.cmp .lt (.v 5) (.len (.v 4)))) <|
 .i (.idx (.v 4) (.v 5) (.one (.b)) 10) <|
 .next [(.set (.v 4) (.v 5) (.vb .tt)), (.bin .add .i64 (.v 5) (.z 1))])
 (
 .next [(.v 4), (.bin .add .i64 (.v 5) (.z 1))]))
 (
 .esc <|
 .next [(.v 4), (.bin .add .i64 (.v 3) (.z 1))]))
 (
 .esc <|
 .done [(aS 2)])

def R_k16 : R :=
 .loop 3 [.nil, (.z 0), (.z 0)] <|
 .ite (.cmp .lt (.v 5) (.len (.v 0)))
 (
 .ite (.cmp .eq (.v 4) (.z 0))
 (
 .i (.idx (.v 0) (.v 5) (.one (.i .i64)) 6) <|
 .ite (.cmp .lt (.z 0) (.v 6))
 (
 .i (.idx (.v 0) (.v 5) (.one (.i .i64)) 7) <|
 .i (.chk (.cmp .le (.len (.app (.v 3) (.cons (.vi .i64 (.bin .mul .i64 (.z 1) (.v 7))) .nil))) (.z 8796093022208))) <|
 .next [(.app (.v 3) (.cons (.vi .i64 (.bin .mul .i64 (.z 1) (.v 7))) .nil)), (.z 1), (.bin .add .i64 (.v 5) (.z 1))])
 (
 .ite (.cmp .eq (.v 4) (.z 0))
 (
 .i (.idx (.v 0) (.v 5) (.one (.i .i64)) 7) <|
 .ite (.cmp .lt (.v 7) (.z 0))
 (
 .i (.idx (.v 0) (.v 5) (.one (.i .i64)) 8) <|
 .i (.chk (.cmp .le (.len (.app (.v 3) (.cons (.vi .i64 (.bin .mul .i64 (.z (-1)) (.v 8))) .nil))) (.z 8796093022208))) <|
 .next [(.app (.v 3) (.cons (.vi .i64 (.bin .mul .i64 (.z (-1)) (.v 8))) .nil)), (.z (-1)), (.bin .add .i64 (.v 5) (.z 1))])
 (
 .i (.idx (.v 0) (.v 5) (.one (.i .i64)) 8) <|
 .i (.chk (.cmp .le (.len (.app (.v 3) (.cons (.vi .i64 (.bin .mul .i64 (.v 4) (.v 8))) .nil))) (.z 8796093022208))) <|
 .next [(.app (.v 3) (.cons (.vi .i64 (.bin .mul .i64 (.v 4) (.v 8))) .nil)), (.v 4), (.bin .add .i64 (.v 5) (.z 1))]))
 (
 .i (.idx (.v 0) (.v 5) (.one (.i .i64)) 7) <|
 .i (.chk (.cmp .le (.len (.app (.v 3) (.cons (.vi .i64 (.bin .mul .i64 (.v 4) (.v 7))) .nil))) (.z 8796093022208))) <|
 .next [(.app (.v 3) (.cons (.vi .i64 (.bin .mul .i64 (.v 4) (.v 7))) .nil)), (.v 4), (.bin .add .i64 (.v 5) (.z 1))])))
 (
 .ite (.cmp .eq (.v 4) (.z 0))
 (
 .i (.idx (.v 0) (.v 5) (.one (.i .i64)) 6) <|
 .ite (.cmp .lt (.v 6) (.z 0))
 (
 .i (.idx (.v 0) (.v 5) (.one (.i .i64)) 7) <|
 .i (.chk (.cmp .le (.len (.app (.v 3) (.cons (.vi .i64 (.bin .mul .i64 (.z (-1)) (.v 7))) .nil))) (.z 8796093022208))) <|
 .next [(.app (.v 3) (.cons (.vi .i64 (.bin .mul .i64 (.z (-1)) (.v 7))) .nil)), (.z (-1)), (.bin .add .i64 (.v 5) (.z 1))])
 (
 .i (.idx (.v 0) (.v 5) (.one (.i .i64)) 7) <|
 .i (.chk (.cmp .le (.len (.app (.v 3) (.cons (.vi .i64 (.bin .mul .i64 (.v 4) (.v 7))) .nil))) (.z 8796093022208))) <|
 .next [(.app (.v 3) (.cons (.vi .i64 (.bin .mul .i64 (.v 4) (.v 7))) .nil)), (.v 4), (.bin .add .i64 (.v 5) (.z 1))]))
 (
 .i (.idx (.v 0) (.v 5) (.one (.i .i64)) 6) <|
 .i (.chk (.cmp .le (.len (.app (.v 3) (.cons (.vi .i64 (.bin .mul .i64 (.v 4) (.v 6))) .nil))) (.z 8796093022208))) <|
 .next [(.app (.v 3) (.cons (.vi .i64 (.bin .mul .i64 (.v 4) (.v 6))) .nil)), (.v 4), (.bin .add .i64 (.v 5) (.z 1))])))
 (
 .esc <|
 .done [(aS 3)])

def R_k17 : R :=
 .ite (.not (.cmp .eq (.len (.v 0)) (.len (.v 1))))
 (
 .done [(.vb .ff)])
 (
 .loop 2 [(.z 0)] <|
 .ite (.cmp .lt (.v 2) (.len (.v 0)))
 (
 .i (.idx (.v 0) (.v 2) (.one (.i .i64)) 3) <|
 .i (.idx (.v 1) (.v 2) (.one (.i .i64)) 4) <|
 .ite (.not (.cmp .eq (.v 3) (.v 4)))
 (
 .esc <|
 .done [(.vb .ff)])
 (
 .next [(.bin .add .i64 (.v 2) (.z 1))]))
 (
 .esc <|
 .done [(.vb .tt)]))

def R_k18 : R :=
 .loop 2 [(.z 0)] <|
 .ite (.cmp .lt (.v 2) (.len (.v 0)))
 (
 .i (.idx (.v 0) (.v 2) (.one (.s)) 3) <|
 .i (.call f_k17 [(aS 3), (aS 1)] [.b] 4) <|
 .ite (.v 4)
 (
 .esc <|
 .done [(aI 2)])
 (
 .next [(.bin .add .i64 (.v 2) (.z 1))]))
 (
 .esc <|
 .done [(.vi .i64 (.z (-1)))])

def R_k19 : R :=
 .loop 1 [.nil, (.z 0)] <|
 .ite (.cmp .lt (.v 2) (.z 3))
 (
 .i (.call f_kw [(aI 2)] [.s, .s, .i .i64] 3) <|
 .i (.chk (.cmp .le (.len (.app (.v 1) (.cons (aS 3) .nil))) (.z 2932031007402))) <|
 .next [(.app (.v 1) (.cons (aS 3) .nil)), (.bin .add .i64 (.v 2) (.z 1))])
 (
 .esc <|
 .loop 3 [(.v 1), (.cons (.vb .ff) (.cons (.vb .ff) (.cons (.vb .ff) .nil))), (.z 0)] <|
 .ite (.cmp .lt (.v 5) (.len (.v 0)))
 (
 .i (.idx (.v 0) (.v 5) (.one (.s)) 6) <|
 .i (.call f_k14 [(aS 6)] [.s] 7) <|
 .loop 8 [(.v 3), (.v 4), (.z 0)] <|
 .ite (.cmp .lt (.v 10) (.len (.v 7)))
 (
 .i (.chk (.cmp .le (.z 0) (.v 10))) <|
 .i (.chk (.cmp .lt (.v 10) (.len (.v 7)))) <|
 .i (.idx (.v 7) (.v 10) (.g [.s, .s, .s, .b]) 11) <|
 .i (.call f_k15 [(aS 9), (aS 12)] [.s] 15) <|
 .i (.chk (.cmp .le (.z 0) (.v 10))) <|
 .i (.chk (.cmp .lt (.v 10) (.len (.v 7)))) <|
 .i (.idx (.v 7) (.v 10) (.g [.s, .s, .s, .b]) 16) <|
 .i (.call f_k15 [(aS 15), (aS 18)] [.s] 20) <|
 .loop 21 [(.v 8), (.z 0)] <|
 .i (.chk (.cmp .le (.z 0) (.v 10))) <|
 .i (.chk (.cmp .lt (.v 10) (.len (.v 7)))) <|
 .i (.idx (.v 7) (.v 10) (.g [.s, .s, .s, .b]) 23) <|
 .ite (.cmp .lt (.v 22) (.len (.v 23)))
 (
 .i (.chk (.cmp .le (.z 0) (.v 10))) <|
 .i (.chk (.cmp .lt (.v 10) (.len (.v 7)))) <|
 .i (.idx (.v 7) (.v 10) (.g [.s, .s, .s, .b]) 27) <|
 .i (.idx (.v 27) (.v 22) (.g [.s, .s, .i .i64]) 31) <|
 .i (.call f_k16 [(aS 31), (aS 32), (aI 33)] [.s] 34) <|
 .i (.call f_k18 [(aS 21), (aS 34)] [.i .i64] 35) <|
 .ite (.cmp .lt (.v 35) (.z 0))
 (
 .i (.call f_kv [] [.s, .s, .i .i64] 36) <|
 .i (.call f_k17 [(aS 34), (aS 36)] [.b] 39) <|
 .ite (.not (.v 39))
 (
 .i (.chk (.cmp .le (.len (.app (.v 21) (.cons (aS 34) .nil))) (.z 2932031007402))) <|
 .next [(.app (.v 21) (.cons (aS 34) .nil)), (.bin .add .i64 (.v 22) (.z 1))])
 (
 .next [(.v 21), (.bin .add .i64 (.v 22) (.z 1))]))
 (
 .next [(.v 21), (.bin .add .i64 (.v 22) (.z 1))]))
 (
 .esc <|
 .next [(.v 21), (.v 20), (.bin .add .i64 (.v 10) (.z 1))]))
 (
 .esc <|
 .next [(.v 8), (.v 9), (.bin .add .i64 (.v 5) (.z 1))]))
 (
 .esc <|
 .done [(aS 3), (aS 4)]))

def R_k1a : R :=
 .done [(aS 7), (aS 2)]

def R_k1b : R :=
 .loop 1 [(.z 0)] <|
 .ite (.cmp .lt (.v 1) (.len (.v 0)))
 (
 .i (.idx (.v 0) (.v 1) (.one (.s)) 2) <|
 .i (.call f_kn [(aS 2), (aZ 3), (aZ 10000000)] [.b] 3) <|
 .ite (.not (.v 3))
 (
 .esc <|
 .done [(.vb .ff)])
 (
 .next [(.bin .add .i64 (.v 1) (.z 1))]))
 (
 .esc <|
 .done [(.vb .tt)])

def R_k1c : R :=
 .loop 2 [(.z 0), (.z 0)] <|
 .ite (.cmp .lt (.v 3) (.z 3))
 (
 .i (.idx (.v 0) (.v 3) (.one (.i .i64)) 4) <|
 .i (.idx (.v 1) (.v 3) (.one (.i .i64)) 5) <|
 .next [(.bin .add .i64 (.v 2) (.bin .mul .i64 (.v 4) (.v 5))), (.bin .add .i64 (.v 3) (.z 1))])
 (
 .esc <|
 .done [(aI 2)])

def R_k1d : R :=
 .i (.call f_kt [(aS 0), (aS 1)] [.b] 5) <|
 .ite (.not (.v 5))
 (
 .done [(.vb .ff)])
 (
 .i (.call f_k1b [(aS 2)] [.b] 6) <|
 .ite (.not (.v 6))
 (
 .done [(.vb .ff)])
 (
 .i (.call f_km [(aI 3), (aZ 0), (.vi .i64 (.bin .sub .i64 (.len (.v 1)) (.z 1)))] [.b] 7) <|
 .ite (.not (.v 7))
 (
 .done [(.vb .ff)])
 (
 .i (.call f_kn [(aS 4), (aZ 3), (aZ 20000)] [.b] 8) <|
 .ite (.not (.v 8))
 (
 .done [(.vb .ff)])
 (
 .loop 9 [(.z 0)] <|
 .ite (.cmp .lt (.v 9) (.len (.v 2)))
 (
 .i (.idx (.v 2) (.v 9) (.one (.s)) 10) <|
 .i (.call f_k1c [(aS 10), (aS 4)] [.i .i64] 11) <|
 .i (.idx (.v 1) (.v 3) (.one (.i .i64)) 12) <|
 .i (.idx (.v 1) (.v 3) (.one (.i .i64)) 13) <|
 .i (.call f_km [(aI 11), (.vi .i64 (.bin .sub .i64 (.z 0) (.v 12))), (aI 13)] [.b] 14) <|
 .ite (.not (.v 14))
 (
 .esc <|
 .done [(.vb .ff)])
 (
 .next [(.bin .add .i64 (.v 9) (.z 1))]))
 (
 .esc <|
 .done [(.vb .tt)])))))

def R_k1e : R :=
 .loop 2 [(.z 0)] <|
 .ite (.cmp .lt (.v 2) (.z 3))
 (
 .i (.idx (.v 0) (.v 2) (.one (.b)) 3) <|
 .ite (.v 3)
 (
 .i (.idx (.v 1) (.v 2) (.one (.i .i64)) 4) <|
 .ite (.not (.cmp .eq (.v 4) (.z 0)))
 (
 .esc <|
 .done [(.vb .ff)])
 (
 .next [(.bin .add .i64 (.v 2) (.z 1))]))
 (
 .next [(.bin .add .i64 (.v 2) (.z 1))]))
 (
 .esc <|
 .done [(.vb .tt)])

def R_k1g : R :=
 .i (.call f_km [(aI 0), (aZ 1), (aZ 3)] [.b] 2) <|
 .ite (.not (.v 2))
 (
 .done [(.vc (.string (strV [])))])
 (
 .ite (.not (.cmp .eq (.v 0) (.z 1)))
 (
 .ite (.cmp .lt (.z 0) (.len (.v 1)))
 (
 .done [(.vc (.string (strV [])))])
 (
 .ite (.cmp .lt (.z 6) (.len (.v 1)))
 (
 .done [(.vc (.string (strV [])))])
 (
 .i (.call f_kn [(aS 1), (.vi .i64 (.len (.v 1))), (aZ 999999999999)] [.b] 3) <|
 .ite (.not (.v 3))
 (
 .done [(.vc (.string (strV [])))])
 (
 .i (.chk (.cmp .le (.z 0) (.v 0))) <|
 .i (.chk (.cmp .lt (.v 0) (.z 4))) <|
 .i (.idx (.cons (.vc (.string (strV []))) (.cons (.vc (.string (strV [100, 111, 110, 101]))) (.cons (.vc (.string (strV [115, 116, 111, 112, 112, 101, 100]))) (.cons (.vc (.string (strV [111, 118, 101, 114]))) .nil)))) (.v 0) (.one (.d)) 4) <|
 .loop 5 [(.da 4), (.z 0)] <|
 .ite (.cmp .lt (.v 6) (.len (.v 1)))
 (
 .i (.prim .cat [(.da 5), (.vc (.string (strV [32])))] (.d) 7) <|
 .i (.idx (.v 1) (.v 6) (.one (.i .i64)) 8) <|
 .i (.call f_k1f [(aI 8)] [.d] 9) <|
 .i (.prim .cat [(.da 7), (.da 9)] (.d) 10) <|
 .next [(.da 10), (.bin .add .i64 (.v 6) (.z 1))])
 (
 .esc <|
 .done [(.da 5)])))))
 (
 .ite (.cmp .lt (.z 6) (.len (.v 1)))
 (
 .done [(.vc (.string (strV [])))])
 (
 .i (.call f_kn [(aS 1), (.vi .i64 (.len (.v 1))), (aZ 999999999999)] [.b] 3) <|
 .ite (.not (.v 3))
 (
 .done [(.vc (.string (strV [])))])
 (
 .i (.chk (.cmp .le (.z 0) (.v 0))) <|
 .i (.chk (.cmp .lt (.v 0) (.z 4))) <|
 .i (.idx (.cons (.vc (.string (strV []))) (.cons (.vc (.string (strV [100, 111, 110, 101]))) (.cons (.vc (.string (strV [115, 116, 111, 112, 112, 101, 100]))) (.cons (.vc (.string (strV [111, 118, 101, 114]))) .nil)))) (.v 0) (.one (.d)) 4) <|
 .loop 5 [(.da 4), (.z 0)] <|
 .ite (.cmp .lt (.v 6) (.len (.v 1)))
 (
 .i (.prim .cat [(.da 5), (.vc (.string (strV [32])))] (.d) 7) <|
 .i (.idx (.v 1) (.v 6) (.one (.i .i64)) 8) <|
 .i (.call f_k1f [(aI 8)] [.d] 9) <|
 .i (.prim .cat [(.da 7), (.da 9)] (.d) 10) <|
 .next [(.da 10), (.bin .add .i64 (.v 6) (.z 1))])
 (
 .esc <|
 .done [(.da 5)])))))

def R_k1h : R :=
 .i (.call f_k1g [(aI 0), (aS 1)] [.d] 2) <|
 .i (.prim .seq [(.da 2), (.vc (.string (strV [])))] (.b) 3) <|
 .done [(.vb (.not (.v 3)))]

def R_k1i : R :=
 .ite (.not (.cmp .eq (.len (.v 4)) (.v 0)))
 (
 .done [(.vb .ff)])
 (
 .loop 5 [(.z 0)] <|
 .ite (.cmp .lt (.v 5) (.len (.v 4)))
 (
 .i (.idx (.v 4) (.v 5) (.g [.i .i64, .i .i64, .s]) 6) <|
 .i (.call f_km [(aI 6), (aZ 0), (aZ 300)] [.b] 9) <|
 .ite (.not (.v 9))
 (
 .esc <|
 .done [(.vb .ff)])
 (
 .i (.idx (.v 4) (.v 5) (.g [.i .i64, .i .i64, .s]) 10) <|
 .i (.idx (.v 4) (.v 5) (.g [.i .i64, .i .i64, .s]) 13) <|
 .ite (.not (.beq (.cmp .eq (.v 10) (.z 0)) (.cmp .eq (.v 14) (.z 0))))
 (
 .esc <|
 .done [(.vb .ff)])
 (
 .i (.idx (.v 4) (.v 5) (.g [.i .i64, .i .i64, .s]) 16) <|
 .ite (.cmp .eq (.v 16) (.z 0))
 (
 .i (.idx (.v 4) (.v 5) (.g [.i .i64, .i .i64, .s]) 19) <|
 .ite (.cmp .lt (.z 0) (.len (.v 21)))
 (
 .esc <|
 .done [(.vb .ff)])
 (
 .i (.idx (.v 4) (.v 5) (.g [.i .i64, .i .i64, .s]) 22) <|
 .ite (.cmp .lt (.z 0) (.v 22))
 (
 .i (.idx (.v 4) (.v 5) (.g [.i .i64, .i .i64, .s]) 25) <|
 .i (.call f_k1h [(aI 26), (aS 27)] [.b] 28) <|
 .ite (.not (.v 28))
 (
 .esc <|
 .done [(.vb .ff)])
 (
 .next [(.bin .add .i64 (.v 5) (.z 1))]))
 (
 .next [(.bin .add .i64 (.v 5) (.z 1))])))
 (
 .i (.idx (.v 4) (.v 5) (.g [.i .i64, .i .i64, .s]) 19) <|
 .ite (.cmp .lt (.z 0) (.v 19))
 (
 .i (.idx (.v 4) (.v 5) (.g [.i .i64, .i .i64, .s]) 22) <|
 .i (.call f_k1h [(aI 23), (aS 24)] [.b] 25) <|
 .ite (.not (.v 25))
 (
 .esc <|
 .done [(.vb .ff)])
 (
 .next [(.bin .add .i64 (.v 5) (.z 1))]))
 (
 .next [(.bin .add .i64 (.v 5) (.z 1))])))))
 (
 .esc <|
 .done [(.vb .tt)]))

def R_k1j : R :=
 .i (.call f_km [(aI 8), (aZ 0), (aZ 200)] [.b] 13) <|
 .ite (.v 13)
 (
 .i (.call f_ks [(aS 9)] [.b] 14) <|
 .ite (.v 14)
 (
 .i (.call f_k1a [(aI 0), (aS 1), (aS 2), (aS 3), (aB 6), (aB 7), (aI 8), (aS 9), (aS 10), (aS 11)] [.s, .s] 15) <|
 .i (.call f_k1d [(aS 15), (aS 16), (aS 4), (aI 12), (aS 10)] [.b] 17) <|
 .ite (.v 17)
 (
 .i (.call f_k1e [(aS 5), (aS 10)] [.b] 18) <|
 .ite (.v 18)
 (
 .i (.call f_k1i [(aI 0), (aS 1), (aS 2), (aS 3), (aS 11)] [.b] 19) <|
 .done [(aB 19)])
 (
 .done [(.vb .ff)]))
 (
 .done [(.vb .ff)]))
 (
 .done [(.vb .ff)]))
 (
 .done [(.vb .ff)])

def R_k1k : R :=
 .i (.call f_ku [(aI 0), (aS 1), (aS 2), (aS 3)] [.b] 11) <|
 .ite (.not (.v 11))
 (
 .done [(.vb .ff)])
 (
 .i (.call f_km [(aI 10), (aZ 0), (.vi .i64 (.bin .sub .i64 (.len (.v 2)) (.z 1)))] [.b] 12) <|
 .ite (.not (.v 12))
 (
 .done [(.vb .ff)])
 (
 .i (.call f_k19 [(aS 1)] [.s, .s] 13) <|
 .i (.call f_k1j [(aI 0), (aS 1), (aS 2), (aS 3), (aS 13), (aS 14), (aB 4), (aB 5), (aI 6), (aS 7), (aS 8), (aS 9), (aI 10)] [.b] 15) <|
 .done [(aB 15)]))

def R_k1l : R :=
 .i (.call f_kn [(aS 0), (aZ 2), (aZ 9)] [.b] 1) <|
 .done [(aB 1)]

def R_k1m : R :=
 .i (.call f_km [(aI 4), (aZ 0), (.vi .i64 (.bin .sub .i64 (.v 0) (.z 1)))] [.b] 8) <|
 .ite (.v 8)
 (
 .i (.call f_km [(aI 5), (aZ 1), (aZ 300)] [.b] 9) <|
 .ite (.v 9)
 (
 .i (.call f_km [(aI 6), (aZ 0), (.vi .i64 (.bin .sub .i64 (.len (.v 1)) (.z 1)))] [.b] 10) <|
 .ite (.v 10)
 (
 .i (.call f_k1l [(aS 7)] [.b] 11) <|
 .done [(aB 11)])
 (
 .done [(.vb .ff)]))
 (
 .done [(.vb .ff)]))
 (
 .done [(.vb .ff)])

def R_k1n : R :=
 .i (.call f_ku [(aI 0), (aS 1), (aS 2), (aS 3)] [.b] 8) <|
 .ite (.v 8)
 (
 .i (.call f_k1m [(aI 0), (aS 1), (aS 2), (aS 3), (aI 4), (aI 5), (aI 6), (aS 7)] [.b] 9) <|
 .done [(aB 9)])
 (
 .done [(.vb .ff)])

def R_k1o : R :=
 .loop 2 [.nil, (.z 0)] <|
 .ite (.cmp .lt (.v 3) (.z 3))
 (
 .i (.idx (.v 0) (.v 3) (.one (.i .i64)) 4) <|
 .i (.idx (.v 1) (.v 3) (.one (.i .i64)) 5) <|
 .i (.chk (.cmp .le (.len (.app (.v 2) (.cons (.vi .i64 (.bin .add .i64 (.v 4) (.v 5))) .nil))) (.z 8796093022208))) <|
 .next [(.app (.v 2) (.cons (.vi .i64 (.bin .add .i64 (.v 4) (.v 5))) .nil)), (.bin .add .i64 (.v 3) (.z 1))])
 (
 .esc <|
 .done [(aS 2)])

def R_k1p : R :=
 .loop 5 [(.v 2), (.z 0)] <|
 .ite (.cmp .lt (.v 6) (.z 3))
 (
 .i (.idx (.v 0) (.v 6) (.one (.i .i64)) 7) <|
 .i (.idx (.v 3) (.v 6) (.one (.i .i64)) 8) <|
 .next [(.bin .add .i64 (.v 5) (.bin .mul .i64 (.v 7) (.v 8))), (.bin .add .i64 (.v 6) (.z 1))])
 (
 .esc <|
 .loop 7 [(.v 5), (.z 0)] <|
 .ite (.cmp .lt (.v 8) (.z 2))
 (
 .i (.idx (.v 1) (.v 8) (.one (.i .i64)) 9) <|
 .i (.idx (.v 4) (.v 8) (.one (.i .i64)) 10) <|
 .next [(.bin .add .i64 (.v 7) (.bin .mul .i64 (.v 9) (.v 10))), (.bin .add .i64 (.v 8) (.z 1))])
 (
 .esc <|
 .done [(aI 7)]))

def R_k1q : R :=
 .loop 3 [(.z 0), (.z 0)] <|
 .ite (.cmp .lt (.v 4) (.len (.v 1)))
 (
 .ite (.not (.cmp .eq (.v 4) (.v 2)))
 (
 .i (.idx (.v 1) (.v 4) (.one (.i .i64)) 5) <|
 .next [(.bin .add .i64 (.v 3) (.v 5)), (.bin .add .i64 (.v 4) (.z 1))])
 (
 .next [(.v 3), (.bin .add .i64 (.v 4) (.z 1))]))
 (
 .esc <|
 .done [(aI 3)])

def R_k1r : R :=
 .i (.call f_kt [(aS 0), (aS 1)] [.b] 9) <|
 .ite (.not (.v 9))
 (
 .done [(aZ 0), (aZ 0), (.vb .ff)])
 (
 .i (.call f_k1b [(aS 2)] [.b] 10) <|
 .ite (.not (.v 10))
 (
 .done [(aZ 0), (aZ 0), (.vb .ff)])
 (
 .i (.call f_km [(aI 3), (aZ 0), (.vi .i64 (.bin .sub .i64 (.len (.v 1)) (.z 1)))] [.b] 11) <|
 .ite (.not (.v 11))
 (
 .done [(aZ 0), (aZ 0), (.vb .ff)])
 (
 .i (.call f_kn [(aS 4), (aZ 3), (aZ 20000)] [.b] 12) <|
 .ite (.not (.v 12))
 (
 .done [(aZ 0), (aZ 0), (.vb .ff)])
 (
 .i (.call f_kz [(aS 5), (aS 6), (aI 7)] [.b] 13) <|
 .ite (.not (.v 13))
 (
 .done [(aZ 0), (aZ 0), (.vb .ff)])
 (
 .i (.call f_k1l [(aS 8)] [.b] 14) <|
 .ite (.not (.v 14))
 (
 .done [(aZ 0), (aZ 0), (.vb .ff)])
 (
 .i (.call f_k1o [(aS 0), (aS 4)] [.s] 15) <|
 .i (.call f_k1p [(aS 5), (aS 6), (aI 7), (aS 15), (aS 8)] [.i .i64] 16) <|
 .i (.call f_k16 [(aS 5), (aS 6), (aI 7)] [.s] 17) <|
 .i (.call f_kv [] [.s, .s, .i .i64] 18) <|
 .i (.call f_k17 [(aS 17), (aS 18)] [.b] 21) <|
 .ite (.v 21)
 (
 .done [(aI 16), (aI 16), (.vb .tt)])
 (
 .i (.call f_k18 [(aS 2), (aS 17)] [.i .i64] 22) <|
 .ite (.cmp .lt (.v 22) (.z 0))
 (
 .done [(aZ 0), (aZ 0), (.vb .ff)])
 (
 .i (.call f_k1q [(aS 0), (aS 1), (aI 3)] [.i .i64] 23) <|
 .i (.call f_k1q [(aS 0), (aS 1), (aI 3)] [.i .i64] 24) <|
 .done [(.vi .i64 (.bin .sub .i64 (.v 16) (.v 23))), (.vi .i64 (.bin .add .i64 (.v 16) (.v 24))), (.vb .tt)]))))))))

def R_k1s : R :=
 .loop 10 [(.z 0)] <|
 .ite (.cmp .lt (.v 10) (.len (.v 5)))
 (
 .i (.idx (.v 5) (.v 10) (.g [.s, .s, .i .i64]) 11) <|
 .i (.call f_k1r [(aS 0), (aS 1), (aS 2), (aI 3), (aS 4), (aS 11), (aS 12), (aI 13), (aS 9)] [.i .i64, .i .i64, .b] 14) <|
 .ite (.not (.v 16))
 (
 .esc <|
 .done [(.vb .ff)])
 (
 .ite (.cmp .lt (.v 14) (.z 0))
 (
 .esc <|
 .done [(.vb .ff)])
 (
 .next [(.bin .add .i64 (.v 10) (.z 1))])))
 (
 .esc <|
 .done [(.vb .tt)])

def R_k1t : R :=
 .loop 8 [.nil, (.z 0)] <|
 .ite (.cmp .lt (.v 9) (.z 3))
 (
 .i (.idx (.v 4) (.v 9) (.g [.s, .s, .i .i64]) 10) <|
 .i (.call f_k1p [(aS 10), (aS 11), (aI 12), (aS 0), (aS 7)] [.i .i64] 13) <|
 .i (.idx (.v 2) (.v 9) (.one (.b)) 14) <|
 .ite (.v 14)
 (
 .ite (.not (.cmp .eq (.v 13) (.z 0)))
 (
 .esc <|
 .done [(.s (.cons (aZ 0) (.cons (aZ 0) (.cons (aZ 0) .nil)))), (.vb .ff)])
 (
 .i (.chk (.cmp .le (.len (.app (.v 8) (.cons (aI 13) .nil))) (.z 8796093022208))) <|
 .next [(.app (.v 8) (.cons (aI 13) .nil)), (.bin .add .i64 (.v 9) (.z 1))]))
 (
 .i (.chk (.cmp .le (.len (.app (.v 8) (.cons (aI 13) .nil))) (.z 8796093022208))) <|
 .next [(.app (.v 8) (.cons (aI 13) .nil)), (.bin .add .i64 (.v 9) (.z 1))]))
 (
 .esc <|
 .done [(aS 8), (.vb .tt)])

def R_k1u : R :=
 .loop 5 [(.z 1), (.z 0)] <|
 .ite (.cmp .lt (.v 6) (.z 3))
 (
 .i (.call f_kw [(aI 6)] [.s, .s, .i .i64] 7) <|
 .i (.call f_k1r [(aS 0), (aS 1), (aS 2), (aI 3), (aS 4), (aS 7), (aS 8), (aI 9), (.s (.cons (aZ 0) (.cons (aZ 0) .nil)))] [.i .i64, .i .i64, .b] 10) <|
 .ite (.v 12)
 (
 .ite (.cmp .lt (.z 10000) (.v 10))
 (
 .esc <|
 .done [(aZ 2)])
 (
 .ite (.cmp .lt (.v 11) (.z (-10000)))
 (
 .esc <|
 .done [(aZ 2)])
 (
 .ite (.not (.v 12))
 (
 .next [(.z 0), (.bin .add .i64 (.v 6) (.z 1))])
 (
 .ite (.cmp .lt (.v 10) (.z (-10000)))
 (
 .next [(.z 0), (.bin .add .i64 (.v 6) (.z 1))])
 (
 .ite (.cmp .lt (.z 10000) (.v 11))
 (
 .next [(.z 0), (.bin .add .i64 (.v 6) (.z 1))])
 (
 .next [(.v 5), (.bin .add .i64 (.v 6) (.z 1))]))))))
 (
 .ite (.not (.v 12))
 (
 .next [(.z 0), (.bin .add .i64 (.v 6) (.z 1))])
 (
 .ite (.cmp .lt (.v 10) (.z (-10000)))
 (
 .next [(.z 0), (.bin .add .i64 (.v 6) (.z 1))])
 (
 .ite (.cmp .lt (.z 10000) (.v 11))
 (
 .next [(.z 0), (.bin .add .i64 (.v 6) (.z 1))])
 (
 .next [(.v 5), (.bin .add .i64 (.v 6) (.z 1))])))))
 (
 .esc <|
 .done [(aI 5)])

def R_k1v : R :=
 .ite (.v 9)
 (
 .i (.chk (.cmp .le (.len (.v 5)) (.z 8796093022208))) <|
 .i (.head 1 (.v 5)) <|
 .i (.chk (.cmp .le (.len (.app .nil (.v 5))) (.z 8796093022208))) <|
 .done [(aZ 2), (.s .nil), (.s (.app .nil (.v 5))), (.vb .tt)])
 (
 .i (.call f_k1t [(aS 0), (aS 1), (aS 3), (aS 6), (aS 7), (aS 8), (aB 9), (aS 10)] [.s, .b] 11) <|
 .i (.call f_k1o [(aS 5), (aS 11)] [.s] 13) <|
 .ite (.not (.v 12))
 (
 .i (.chk (.cmp .le (.len (.v 5)) (.z 8796093022208))) <|
 .i (.head 1 (.v 5)) <|
 .i (.chk (.cmp .le (.len (.app .nil (.v 5))) (.z 8796093022208))) <|
 .done [(aZ 0), (.s .nil), (.s (.app .nil (.v 5))), (.vb .ff)])
 (
 .i (.call f_kn [(aS 13), (aZ 3), (aZ 20000)] [.b] 14) <|
 .ite (.not (.v 14))
 (
 .i (.chk (.cmp .le (.len (.v 5)) (.z 8796093022208))) <|
 .i (.head 1 (.v 5)) <|
 .i (.chk (.cmp .le (.len (.app .nil (.v 5))) (.z 8796093022208))) <|
 .done [(aZ 0), (.s .nil), (.s (.app .nil (.v 5))), (.vb .ff)])
 (
 .i (.call f_k1u [(aS 0), (aS 1), (aS 2), (aI 4), (aS 13)] [.i .i64] 15) <|
 .ite (.cmp .eq (.v 15) (.z 2))
 (
 .i (.chk (.cmp .le (.len (.v 5)) (.z 8796093022208))) <|
 .i (.head 1 (.v 5)) <|
 .i (.chk (.cmp .le (.len (.app .nil (.v 5))) (.z 8796093022208))) <|
 .done [(aZ 3), (.s .nil), (.s (.app .nil (.v 5))), (.vb .tt)])
 (
 .ite (.cmp .eq (.v 15) (.z 0))
 (
 .i (.chk (.cmp .le (.len (.v 5)) (.z 8796093022208))) <|
 .i (.head 1 (.v 5)) <|
 .i (.chk (.cmp .le (.len (.app .nil (.v 5))) (.z 8796093022208))) <|
 .done [(aZ 0), (.s .nil), (.s (.app .nil (.v 5))), (.vb .ff)])
 (
 .i (.call f_k1d [(aS 0), (aS 1), (aS 2), (aI 4), (aS 13)] [.b] 16) <|
 .ite (.not (.v 16))
 (
 .i (.chk (.cmp .le (.len (.v 5)) (.z 8796093022208))) <|
 .i (.head 1 (.v 5)) <|
 .i (.chk (.cmp .le (.len (.app .nil (.v 5))) (.z 8796093022208))) <|
 .done [(aZ 0), (.s .nil), (.s (.app .nil (.v 5))), (.vb .ff)])
 (
 .loop 17 [.nil, (.z 0)] <|
 .ite (.cmp .lt (.v 18) (.len (.v 8)))
 (
 .i (.idx (.v 8) (.v 18) (.g [.s, .s, .i .i64]) 19) <|
 .i (.call f_k1p [(aS 19), (aS 20), (aI 21), (aS 0), (aS 10)] [.i .i64] 22) <|
 .i (.chk (.cmp .le (.len (.app (.v 17) (.cons (aI 22) .nil))) (.z 8796093022208))) <|
 .next [(.app (.v 17) (.cons (aI 22) .nil)), (.bin .add .i64 (.v 18) (.z 1))])
 (
 .esc <|
 .done [(aZ 1), (aS 17), (aS 13), (.vb .tt)])))))))

def R_k1w : R :=
 .i (.idx (.v 0) (.v 7) (.one (.s)) 9) <|
 .i (.call f_k14 [(aS 9)] [.s] 10) <|
 .loop 11 [(.z 0)] <|
 .ite (.cmp .lt (.v 11) (.len (.v 10)))
 (
 .i (.chk (.cmp .le (.z 0) (.v 11))) <|
 .i (.chk (.cmp .lt (.v 11) (.len (.v 10)))) <|
 .i (.idx (.v 10) (.v 11) (.g [.s, .s, .s, .b]) 12) <|
 .i (.call f_k1s [(aS 3), (aS 4), (aS 1), (aI 5), (aS 6), (aS 12), (aS 13), (aS 14), (aB 15), (aS 8)] [.b] 16) <|
 .ite (.v 16)
 (
 .i (.chk (.cmp .le (.z 0) (.v 11))) <|
 .i (.chk (.cmp .lt (.v 11) (.len (.v 10)))) <|
 .i (.idx (.v 10) (.v 11) (.g [.s, .s, .s, .b]) 17) <|
 .i (.call f_k1v [(aS 3), (aS 4), (aS 1), (aS 2), (aI 5), (aS 6), (aS 17), (aS 18), (aS 19), (aB 20), (aS 8)] [.i .i64, .s, .s, .b] 21) <|
 .esc <|
 .done [(aI 21), (aS 22), (aS 23), (aB 24)])
 (
 .next [(.bin .add .i64 (.v 11) (.z 1))]))
 (
 .esc <|
 .i (.chk (.cmp .le (.len (.v 6)) (.z 8796093022208))) <|
 .i (.head 1 (.v 6)) <|
 .i (.chk (.cmp .le (.len (.app .nil (.v 6))) (.z 8796093022208))) <|
 .done [(aZ 0), (.s .nil), (.s (.app .nil (.v 6))), (.vb .ff)])

def R_k1x : R :=
 .i (.call f_kr [(aS 0)] [.b] 7) <|
 .ite (.not (.v 7))
 (
 .done [(aZ 0), (.s .nil), (.s .nil), (.vb .ff)])
 (
 .i (.call f_km [(aI 5), (aZ 0), (.vi .i64 (.bin .sub .i64 (.len (.v 0)) (.z 1)))] [.b] 8) <|
 .ite (.not (.v 8))
 (
 .done [(aZ 0), (.s .nil), (.s .nil), (.vb .ff)])
 (
 .i (.call f_k1l [(aS 6)] [.b] 9) <|
 .ite (.not (.v 9))
 (
 .done [(aZ 0), (.s .nil), (.s .nil), (.vb .ff)])
 (
 .i (.call f_k19 [(aS 0)] [.s, .s] 10) <|
 .i (.call f_k1d [(aS 1), (aS 2), (aS 10), (aI 3), (aS 4)] [.b] 12) <|
 .ite (.not (.v 12))
 (
 .done [(aZ 0), (.s .nil), (.s .nil), (.vb .ff)])
 (
 .i (.call f_k1e [(aS 11), (aS 4)] [.b] 13) <|
 .ite (.not (.v 13))
 (
 .done [(aZ 0), (.s .nil), (.s .nil), (.vb .ff)])
 (
 .i (.call f_k1w [(aS 0), (aS 10), (aS 11), (aS 1), (aS 2), (aI 3), (aS 4), (aI 5), (aS 6)] [.i .i64, .s, .s, .b] 14) <|
 .done [(aI 14), (aS 15), (aS 16), (aB 17)])))))

def R_k1y : R :=
 .i (.call f_k1k [(aI 0), (aS 1), (aS 2), (aS 3), (aB 4), (aB 5), (aI 6), (aS 7), (aS 8), (aS 9), (aI 10)] [.b] 15) <|
 .ite (.not (.v 15))
 (
 .done [(.vb .ff)])
 (
 .i (.call f_k1n [(aI 0), (aS 1), (aS 2), (aS 3), (aI 11), (aI 12), (aI 13), (aS 14)] [.b] 16) <|
 .ite (.not (.v 16))
 (
 .done [(.vb .ff)])
 (
 .ite (.not (.v 4))
 (
 .done [(.vb .ff)])
 (
 .ite (.v 5)
 (
 .done [(.vb .ff)])
 (
 .i (.call f_k1a [(aI 0), (aS 1), (aS 2), (aS 3), (aB 4), (aB 5), (aI 6), (aS 7), (aS 8), (aS 9)] [.s, .s] 17) <|
 .i (.call f_k1x [(aS 1), (aS 17), (aS 18), (aI 10), (aS 8), (aI 13), (aS 14)] [.i .i64, .s, .s, .b] 19) <|
 .done [(aB 22)]))))

def R_k1z : R :=
 .ite (.cmp .le (.v 1) (.v 0))
 (
 .done [(.vb (.cmp .le (.v 0) (.v 2)))])
 (
 .done [(.vb .ff)])

def R_k20 : R :=
 .loop 2 [(.z 0)] <|
 .ite (.cmp .lt (.v 2) (.len (.v 0)))
 (
 .i (.idx (.v 0) (.v 2) (.one (.s)) 3) <|
 .i (.callv (.da 1) [(aS 3)] [none] [.b] 4) <|
 .ite (.v 4)
 (
 .esc <|
 .done [(aI 2)])
 (
 .next [(.bin .add .i64 (.v 2) (.z 1))]))
 (
 .esc <|
 .done [(.vi .i64 (.z (-1)))])

def R_k21 : R :=
 .i (.call f_k20 [(aS 0), (.da 1)] [.i .i64] 2) <|
 .done [(.vb (.cmp .le (.z 0) (.v 2)))]

def R_k22 : R :=
 .i (.get (.da 1) (.q [.i .i64]) 2) <|
 .i (.get (.da 1) (.q [.i .i64]) 3) <|
 .i (.call f_k1z [(aI 0), (.vi .i64 (.bin .sub .i64 (.z 0) (.v 2))), (aI 3)] [.b] 4) <|
 .done [(.vb (.not (.v 4)))]

def R_k23 : R :=
 .loop 2 [(.z 0)] <|
 .ite (.cmp .lt (.v 2) (.len (.v 0)))
 (
 .i (.idx (.v 0) (.v 2) (.one (.i .i64)) 3) <|
 .i (.callv (.da 1) [(aI 3)] [none] [.b] 4) <|
 .ite (.v 4)
 (
 .esc <|
 .done [(aI 2)])
 (
 .next [(.bin .add .i64 (.v 2) (.z 1))]))
 (
 .esc <|
 .done [(.vi .i64 (.z (-1)))])

def R_k24 : R :=
 .i (.call f_k23 [(aS 0), (.da 1)] [.i .i64] 2) <|
 .done [(.vb (.cmp .le (.z 0) (.v 2)))]

def R_k25 : R :=
 .ite (.cmp .eq (.len (.v 0)) (.v 1))
 (
 .i (.call f_k24 [(aS 0), (.fn f_k22 (.cons (.q (.cons (aI 2) .nil)) .nil))] [.b] 3) <|
 .done [(.vb (.not (.v 3)))])
 (
 .done [(.vb .ff)])

def R_k26 : R :=
 .i (.call f_k25 [(aS 0), (aZ 3), (aZ 2)] [.b] 3) <|
 .ite (.v 3)
 (
 .i (.call f_k25 [(aS 1), (aZ 2), (aZ 2)] [.b] 4) <|
 .ite (.v 4)
 (
 .i (.call f_k1z [(aI 2), (.vi .i64 (.z (-20))), (aZ 20)] [.b] 5) <|
 .done [(aB 5)])
 (
 .done [(.vb .ff)]))
 (
 .done [(.vb .ff)])

def R_k27 : R :=
 .ite (.not (.cmp .eq (.len (.v 0)) (.len (.v 1))))
 (
 .done [(.vb .ff)])
 (
 .loop 2 [(.z 0)] <|
 .ite (.cmp .lt (.v 2) (.len (.v 0)))
 (
 .i (.idx (.v 0) (.v 2) (.one (.i .i64)) 3) <|
 .i (.idx (.v 1) (.v 2) (.one (.i .i64)) 4) <|
 .ite (.not (.cmp .eq (.v 3) (.v 4)))
 (
 .esc <|
 .done [(.vb .ff)])
 (
 .next [(.bin .add .i64 (.v 2) (.z 1))]))
 (
 .esc <|
 .done [(.vb .tt)]))

def R_k28 : R :=
 .ite (.cmp .eq (.v 2) (.v 5))
 (
 .i (.call f_k27 [(aS 0), (aS 3)] [.b] 6) <|
 .ite (.v 6)
 (
 .i (.call f_k27 [(aS 1), (aS 4)] [.b] 7) <|
 .done [(aB 7)])
 (
 .done [(.vb .ff)]))
 (
 .done [(.vb .ff)])

def R_k29 : R :=
 .ite (.cmp .eq (.v 0) (.z 1))
 (
 .i (.call f_k1z [(aI 2), (aZ 1), (aZ 6)] [.b] 6) <|
 .ite (.v 6)
 (
 .ite (.cmp .eq (.v 1) (.z 0))
 (
 .i (.call f_k26 [(aS 3), (aS 4), (aI 5)] [.b] 7) <|
 .done [(aB 7)])
 (
 .done [(.vb .ff)]))
 (
 .done [(.vb .ff)]))
 (
 .ite (.cmp .eq (.v 0) (.z 2))
 (
 .i (.call f_k1z [(aI 1), (aZ 0), (aZ 2)] [.b] 6) <|
 .ite (.v 6)
 (
 .ite (.cmp .eq (.v 2) (.z 0))
 (
 .i (.call f_k26 [(aS 3), (aS 4), (aI 5)] [.b] 7) <|
 .done [(aB 7)])
 (
 .done [(.vb .ff)]))
 (
 .done [(.vb .ff)]))
 (
 .ite (.cmp .eq (.v 0) (.z 3))
 (
 .ite (.cmp .eq (.v 1) (.z 0))
 (
 .ite (.cmp .eq (.v 2) (.z 0))
 (
 .i (.call f_k26 [(aS 3), (aS 4), (aI 5)] [.b] 6) <|
 .done [(aB 6)])
 (
 .done [(.vb .ff)]))
 (
 .done [(.vb .ff)]))
 (
 .ite (.cmp .eq (.v 0) (.z 4))
 (
 .ite (.cmp .eq (.v 1) (.z 0))
 (
 .ite (.cmp .eq (.v 2) (.z 0))
 (
 .i (.call f_k28 [(aS 3), (aS 4), (aI 5), (.s .nil), (.s .nil), (aZ 0)] [.b] 6) <|
 .done [(aB 6)])
 (
 .done [(.vb .ff)]))
 (
 .done [(.vb .ff)]))
 (
 .done [(.vb .ff)]))))

def R_k2a : R :=
 .loop 1 [(.z 0), (.z 0)] <|
 .ite (.cmp .lt (.v 2) (.len (.v 0)))
 (
 .i (.idx (.v 0) (.v 2) (.g [.i .i64, .i .i64, .i .i64, .s, .s, .i .i64]) 3) <|
 .i (.call f_k29 [(aI 3), (aI 4), (aI 5), (aS 6), (aS 7), (aI 8)] [.b] 9) <|
 .ite (.not (.v 9))
 (
 .esc <|
 .done [(.vb .ff)])
 (
 .ite (.cmp .eq (.v 3) (.z 1))
 (
 .next [(.bin .add .i64 (.v 1) (.z 1)), (.bin .add .i64 (.v 2) (.z 1))])
 (
 .next [(.v 1), (.bin .add .i64 (.v 2) (.z 1))])))
 (
 .esc <|
 .ite (.cmp .le (.len (.v 0)) (.z 6))
 (
 .done [(.vb (.cmp .le (.v 1) (.z 3)))])
 (
 .done [(.vb .ff)]))

def R_k2b : R :=
 .i (.call f_k2a [(aS 0)] [.b] 1) <|
 .done [(.vb (.not (.v 1)))]

def R_k2c : R :=
 .i (.call f_k1z [(.vi .i64 (.len (.v 0))), (aZ 1), (aZ 4)] [.b] 1) <|
 .ite (.v 1)
 (
 .i (.call f_k21 [(aS 0), (.fn f_k2b .nil)] [.b] 2) <|
 .done [(.vb (.not (.v 2)))])
 (
 .done [(.vb .ff)])

def R_k2d : R :=
 .done [(aS 4), (aS 2)]

def R_k2e : R :=
 .i (.call f_k1z [(aI 0), (aZ 0), (aZ 50)] [.b] 1) <|
 .done [(.vb (.not (.v 1)))]

def R_k2f : R :=
 .i (.call f_k25 [(aS 0), (aZ 3), (aZ 10000)] [.b] 1) <|
 .done [(aB 1)]

def R_k2g : R :=
 .i (.call f_k2f [(aS 0)] [.b] 2) <|
 .ite (.v 2)
 (
 .i (.call f_k1z [(.vi .i64 (.len (.v 1))), (aZ 1), (aZ 3)] [.b] 3) <|
 .ite (.v 3)
 (
 .i (.call f_k24 [(aS 1), (.fn f_k2e .nil)] [.b] 4) <|
 .done [(.vb (.not (.v 4)))])
 (
 .done [(.vb .ff)]))
 (
 .done [(.vb .ff)])

def R_k2h : R :=
 .i (.call f_k1z [(aI 0), (aZ 1), (aZ 4)] [.b] 4) <|
 .ite (.v 4)
 (
 .i (.call f_k2c [(aS 1)] [.b] 5) <|
 .ite (.v 5)
 (
 .i (.call f_k25 [(aS 3), (aZ 3), (aZ 1000)] [.b] 6) <|
 .ite (.v 6)
 (
 .i (.call f_k2d [(aI 0), (aS 1), (aS 2), (aS 3), (aS 3)] [.s, .s] 7) <|
 .i (.call f_k2g [(aS 7), (aS 8)] [.b] 9) <|
 .done [(aB 9)])
 (
 .done [(.vb .ff)]))
 (
 .done [(.vb .ff)]))
 (
 .done [(.vb .ff)])

def R_k2i : R :=
 .done [(.s (.cons (aZ 0) (.cons (aZ 0) (.cons (aZ 0) .nil)))), (.s (.cons (aZ 0) (.cons (aZ 0) .nil))), (aZ 0)]

def R_k2j : R :=
 .i (.call f_k1z [(aI 0), (aZ 0), (aZ 2)] [.b] 1) <|
 .ite (.not (.v 1))
 (
 .done [(.s .nil), (.s .nil), (aZ 0)])
 (
 .i (.call f_k2i [] [.s, .s, .i .i64] 2) <|
 .i (.chk (.cmp .le (.z 0) (.v 0))) <|
 .i (.chk (.cmp .lt (.v 0) (.len (.v 2)))) <|
 .i (.idx (.v 2) (.v 0) (.one (.i .i64)) 5) <|
 .done [(.s (.set (.v 2) (.v 0) (aZ 1))), (aS 3), (aI 4)])

def R_k2k : R :=
 .nilq 1 (.v 0)
 (
 .done [(.s .nil)])
 (
 .i (.chk (.cmp .le (.len (.v 0)) (.z 8796093022208))) <|
 .i (.head 1 (.v 0)) <|
 .i (.chk (.cmp .le (.len (.app .nil (.v 0))) (.z 8796093022208))) <|
 .done [(.s (.app .nil (.v 0)))])

def R_k2l : R :=
 .i (.call f_k2k [(aS 0)] [.s] 3) <|
 .i (.call f_k2k [(aS 1)] [.s] 4) <|
 .done [(aS 3), (aS 4), (aI 2)]

def R_k2m : R :=
 .loop 1 [.nil, (.z 0)] <|
 .ite (.cmp .lt (.v 2) (.len (.v 0)))
 (
 .i (.idx (.v 0) (.v 2) (.g [.s, .s, .i .i64]) 3) <|
 .i (.call f_k2l [(aS 3), (aS 4), (aI 5)] [.s, .s, .i .i64] 6) <|
 .i (.fl (.v 6)) <|
 .i (.fl (.v 7)) <|
 .i (.chk (.cmp .le (.len (.app (.v 1) (.cons (.g (.cons (aS 6) (.cons (aS 7) (.cons (aI 8) .nil)))) .nil))) (.z 1256584717458))) <|
 .next [(.app (.v 1) (.cons (.g (.cons (aS 6) (.cons (aS 7) (.cons (aI 8) .nil)))) .nil)), (.bin .add .i64 (.v 2) (.z 1))])
 (
 .esc <|
 .done [(aS 1)])

def R_k2n : R :=
 .i (.call f_k25 [(aS 0), (aZ 3), (aZ 10000000)] [.b] 3) <|
 .ite (.v 3)
 (
 .i (.call f_k25 [(aS 1), (aZ 2), (aZ 10000000)] [.b] 4) <|
 .ite (.v 4)
 (
 .i (.call f_k1z [(aI 2), (.vi .i64 (.z (-10000000))), (aZ 10000000)] [.b] 5) <|
 .done [(aB 5)])
 (
 .done [(.vb .ff)]))
 (
 .done [(.vb .ff)])

def R_k2o : R :=
 .loop 2 [(.z 0)] <|
 .ite (.cmp .lt (.v 2) (.len (.v 0)))
 (
 .i (.idx (.v 0) (.v 2) (.g [.s, .s, .i .i64]) 3) <|
 .i (.callv (.da 1) [(aS 3), (aS 4), (aI 5)] [some 3] [.b] 6) <|
 .ite (.v 6)
 (
 .esc <|
 .done [(aI 2)])
 (
 .next [(.bin .add .i64 (.v 2) (.z 1))]))
 (
 .esc <|
 .done [(.vi .i64 (.z (-1)))])

def R_k2p : R :=
 .i (.call f_k2o [(aS 0), (.da 1)] [.i .i64] 2) <|
 .done [(.vb (.cmp .le (.z 0) (.v 2)))]

def R_k2q : R :=
 .i (.call f_k2n [(aS 0), (aS 1), (aI 2)] [.b] 3) <|
 .done [(.vb (.not (.v 3)))]

def R_k2r : R :=
 .loop 7 [(.v 0), (.z 0)] <|
 .ite (.cmp .lt (.v 8) (.len (.v 3)))
 (
 .i (.idx (.v 3) (.v 8) (.one (.i .i64)) 9) <|
 .i (.chk (.cmp .le (.z 0) (.v 8))) <|
 .i (.chk (.cmp .lt (.v 8) (.len (.v 7)))) <|
 .i (.idx (.v 7) (.v 8) (.one (.i .i64)) 10) <|
 .i (.chk (.cmp .le (.z 0) (.v 8))) <|
 .i (.chk (.cmp .lt (.v 8) (.len (.v 7)))) <|
 .i (.idx (.v 7) (.v 8) (.one (.i .i64)) 11) <|
 .next [(.set (.v 7) (.v 8) (.vi .i64 (.bin .add .i64 (.v 10) (.bin .mul .i64 (.v 6) (.v 9))))), (.bin .add .i64 (.v 8) (.z 1))])
 (
 .esc <|
 .loop 9 [(.v 1), (.z 0)] <|
 .ite (.cmp .lt (.v 10) (.len (.v 4)))
 (
 .i (.idx (.v 4) (.v 10) (.one (.i .i64)) 11) <|
 .i (.chk (.cmp .le (.z 0) (.v 10))) <|
 .i (.chk (.cmp .lt (.v 10) (.len (.v 9)))) <|
 .i (.idx (.v 9) (.v 10) (.one (.i .i64)) 12) <|
 .i (.chk (.cmp .le (.z 0) (.v 10))) <|
 .i (.chk (.cmp .lt (.v 10) (.len (.v 9)))) <|
 .i (.idx (.v 9) (.v 10) (.one (.i .i64)) 13) <|
 .next [(.set (.v 9) (.v 10) (.vi .i64 (.bin .add .i64 (.v 12) (.bin .mul .i64 (.v 6) (.v 11))))), (.bin .add .i64 (.v 10) (.z 1))])
 (
 .esc <|
 .done [(.vi .i64 (.bin .add .i64 (.v 2) (.bin .mul .i64 (.v 6) (.v 5)))), (aS 7), (aS 9)]))

def R_k2s : R :=
 .i (.call f_k2n [(aS 0), (aS 1), (aI 2)] [.b] 3) <|
 .ite (.not (.v 3))
 (
 .done [(.s .nil), (.s .nil), (aZ 0)])
 (
 .done [(aS 0), (aS 1), (aI 2)])

def R_k2t : R :=
 .i (.call f_k2n [(aS 0), (aS 1), (aI 2)] [.b] 4) <|
 .ite (.not (.v 4))
 (
 .done [(.s .nil), (.s .nil), (aZ 0)])
 (
 .ite (.not (.cmp .eq (.len (.v 3)) (.z 3)))
 (
 .done [(.s .nil), (.s .nil), (aZ 0)])
 (
 .i (.call f_k2p [(aS 3), (.fn f_k2q .nil)] [.b] 5) <|
 .ite (.v 5)
 (
 .done [(.s .nil), (.s .nil), (aZ 0)])
 (
 .i (.call f_k2i [] [.s, .s, .i .i64] 6) <|
 .loop 9 [(.v 6), (.v 7), (.z 0), (.v 8)] <|
 .ite (.cmp .lt (.v 11) (.len (.v 3)))
 (
 .i (.idx (.v 3) (.v 11) (.g [.s, .s, .i .i64]) 13) <|
 .i (.idx (.v 0) (.v 11) (.one (.i .i64)) 16) <|
 .i (.call f_k2r [(aS 9), (aS 10), (aI 12), (aS 13), (aS 14), (aI 15), (aI 16)] [.i .i64, .s, .s] 17) <|
 .next [(.v 18), (.v 19), (.bin .add .i64 (.v 11) (.z 1)), (.v 17)])
 (
 .esc <|
 .i (.call f_k2r [(aS 9), (aS 10), (aI 12), (.s .nil), (aS 1), (aI 2), (aZ 1)] [.i .i64, .s, .s] 13) <|
 .i (.call f_k2s [(aS 14), (aS 15), (aI 13)] [.s, .s, .i .i64] 16) <|
 .done [(aS 16), (aS 17), (aI 18)]))))

def R_k2u : R :=
 .i (.call f_k2n [(aS 0), (aS 1), (aI 2)] [.b] 4) <|
 .ite (.not (.v 4))
 (
 .done [(.s .nil), (.s .nil), (aZ 0)])
 (
 .i (.call f_k1z [(aI 3), (.vi .i64 (.z (-10000000))), (aZ 10000000)] [.b] 5) <|
 .ite (.not (.v 5))
 (
 .done [(.s .nil), (.s .nil), (aZ 0)])
 (
 .i (.call f_k2i [] [.s, .s, .i .i64] 6) <|
 .i (.call f_k2r [(aS 6), (aS 7), (aI 8), (aS 0), (aS 1), (aI 2), (aI 3)] [.i .i64, .s, .s] 9) <|
 .i (.call f_k2s [(aS 10), (aS 11), (aI 9)] [.s, .s, .i .i64] 12) <|
 .done [(aS 12), (aS 13), (aI 14)]))

def R_k2v : R :=
 .i (.call f_k2n [(aS 0), (aS 1), (aI 2)] [.b] 6) <|
 .ite (.not (.v 6))
 (
 .done [(.s .nil), (.s .nil), (aZ 0)])
 (
 .i (.call f_k2n [(aS 3), (aS 4), (aI 5)] [.b] 7) <|
 .ite (.not (.v 7))
 (
 .done [(.s .nil), (.s .nil), (aZ 0)])
 (
 .i (.call f_k2i [] [.s, .s, .i .i64] 8) <|
 .i (.call f_k2r [(aS 8), (aS 9), (aI 10), (aS 0), (aS 1), (aI 2), (aZ 1)] [.i .i64, .s, .s] 11) <|
 .i (.call f_k2r [(aS 12), (aS 13), (aI 11), (aS 3), (aS 4), (aI 5), (aZ 1)] [.i .i64, .s, .s] 14) <|
 .i (.call f_k2s [(aS 15), (aS 16), (aI 14)] [.s, .s, .i .i64] 17) <|
 .done [(aS 17), (aS 18), (aI 19)]))

def R_k2w : R :=
 .loop 6 [(.v 1), (.v 2), (.v 3), (.v 4), (.v 5), (.v 0)] <|
 .ite (.cmp .lt (.v 7) (.len (.v 11)))
 (
 .i (.idx (.v 11) (.v 7) (.g [.i .i64, .i .i64, .i .i64, .s, .s, .i .i64]) 12) <|
 .ite (.cmp .eq (.v 12) (.z 4))
 (
 .i (.call f_k2m [(aS 8)] [.s] 18) <|
 .i (.chk (.cmp .le (.len (.app (.v 6) (.cons (.g (.cons (aS 18) (.cons (.s .nil) (.cons (.s .nil) (.cons (.vb .tt) .nil))))) .nil))) (.z 879609302220))) <|
 .esc <|
 .done [(aS 11), (.s (.app (.v 6) (.cons (.g (.cons (aS 18) (.cons (.s .nil) (.cons (.s .nil) (.cons (.vb .tt) .nil))))) .nil)))])
 (
 .i (.call f_k2t [(aS 15), (aS 16), (aI 17), (aS 9)] [.s, .s, .i .i64] 18) <|
 .ite (.cmp .eq (.v 12) (.z 1))
 (
 .i (.call f_k2m [(aS 8)] [.s] 21) <|
 .i (.chk (.cmp .le (.len (.app (.v 21) (.cons (.g (.cons (aS 18) (.cons (aS 19) (.cons (aI 20) .nil)))) .nil))) (.z 1256584717458))) <|
 .i (.call f_k2m [(aS 9)] [.s] 22) <|
 .i (.call f_k2m [(aS 10)] [.s] 23) <|
 .i (.call f_k2w [(aS 11), (aS 6), (.vi .i64 (.bin .add .i64 (.v 7) (.z 1))), (.s (.app (.v 21) (.cons (.g (.cons (aS 18) (.cons (aS 19) (.cons (aI 20) .nil)))) .nil))), (aS 22), (aS 23)] [.s, .s] 24) <|
 .i (.call f_k2u [(aS 18), (aS 19), (aI 20), (.vi .i64 (.z (-1)))] [.s, .s, .i .i64] 26) <|
 .i (.call f_k2m [(aS 8)] [.s] 29) <|
 .i (.chk (.cmp .le (.len (.app (.v 29) (.cons (.g (.cons (aS 26) (.cons (aS 27) (.cons (.vi .i64 (.bin .sub .i64 (.v 28) (.z 1))) .nil)))) .nil))) (.z 1256584717458))) <|
 .next [(.v 25), (.bin .add .i64 (.bin .add .i64 (.v 7) (.v 14)) (.z 1)), (.app (.v 29) (.cons (.g (.cons (aS 26) (.cons (aS 27) (.cons (.vi .i64 (.bin .sub .i64 (.v 28) (.z 1))) .nil)))) .nil)), (.v 9), (.v 10), (.v 24)])
 (
 .ite (.cmp .eq (.v 12) (.z 2))
 (
 .i (.call f_k2m [(aS 9)] [.s] 21) <|
 .i (.chk (.cmp .le (.z 0) (.v 13))) <|
 .i (.chk (.cmp .lt (.v 13) (.len (.v 21)))) <|
 .i (.idx (.v 21) (.v 13) (.g [.s, .s, .i .i64]) 22) <|
 .i (.call f_k2v [(aS 22), (aS 23), (aI 24), (aS 18), (aS 19), (aI 20)] [.s, .s, .i .i64] 25) <|
 .i (.chk (.cmp .le (.z 0) (.v 13))) <|
 .i (.chk (.cmp .lt (.v 13) (.len (.v 21)))) <|
 .i (.idx (.v 21) (.v 13) (.g [.s, .s, .i .i64]) 28) <|
 .next [(.v 6), (.bin .add .i64 (.v 7) (.z 1)), (.v 8), (.set (.v 21) (.v 13) (.g (.cons (aS 25) (.cons (aS 26) (.cons (aI 27) .nil))))), (.v 10), (.v 11)])
 (
 .ite (.cmp .eq (.v 12) (.z 3))
 (
 .i (.call f_k2m [(aS 10)] [.s] 21) <|
 .i (.chk (.cmp .le (.len (.app (.v 21) (.cons (.g (.cons (aS 18) (.cons (aS 19) (.cons (aI 20) .nil)))) .nil))) (.z 1256584717458))) <|
 .next [(.v 6), (.bin .add .i64 (.v 7) (.z 1)), (.v 8), (.v 9), (.app (.v 21) (.cons (.g (.cons (aS 18) (.cons (aS 19) (.cons (aI 20) .nil)))) .nil)), (.v 11)])
 (
 .next [(.v 6), (.bin .add .i64 (.v 7) (.z 1)), (.v 8), (.v 9), (.v 10), (.v 11)])))))
 (
 .esc <|
 .i (.call f_k2m [(aS 8)] [.s] 12) <|
 .i (.call f_k2m [(aS 10)] [.s] 13) <|
 .loop 14 [.nil, (.z 0)] <|
 .ite (.cmp .lt (.v 15) (.len (.v 9)))
 (
 .i (.idx (.v 9) (.v 15) (.g [.s, .s, .i .i64]) 16) <|
 .i (.call f_k2j [(aI 15)] [.s, .s, .i .i64] 19) <|
 .i (.call f_k2u [(aS 19), (aS 20), (aI 21), (.vi .i64 (.z (-1)))] [.s, .s, .i .i64] 22) <|
 .i (.call f_k2v [(aS 16), (aS 17), (aI 18), (aS 22), (aS 23), (aI 24)] [.s, .s, .i .i64] 25) <|
 .i (.fl (.v 25)) <|
 .i (.fl (.v 26)) <|
 .i (.chk (.cmp .le (.len (.app (.v 14) (.cons (.g (.cons (aS 25) (.cons (aS 26) (.cons (aI 27) .nil)))) .nil))) (.z 1256584717458))) <|
 .next [(.app (.v 14) (.cons (.g (.cons (aS 25) (.cons (aS 26) (.cons (aI 27) .nil)))) .nil)), (.bin .add .i64 (.v 15) (.z 1))])
 (
 .esc <|
 .i (.chk (.cmp .le (.len (.app (.v 6) (.cons (.g (.cons (aS 12) (.cons (aS 14) (.cons (aS 13) (.cons (.vb .ff) .nil))))) .nil))) (.z 879609302220))) <|
 .done [(aS 11), (.s (.app (.v 6) (.cons (.g (.cons (aS 12) (.cons (aS 14) (.cons (aS 13) (.cons (.vb .ff) .nil))))) .nil)))]))

def R_k2x : R :=
 .i (.call f_k2a [(aS 0)] [.b] 1) <|
 .ite (.not (.v 1))
 (
 .done [(.s .nil)])
 (
 .loop 2 [.nil, (.z 0)] <|
 .ite (.cmp .lt (.v 3) (.z 3))
 (
 .i (.call f_k2j [(aI 3)] [.s, .s, .i .i64] 4) <|
 .i (.fl (.v 4)) <|
 .i (.fl (.v 5)) <|
 .i (.chk (.cmp .le (.len (.app (.v 2) (.cons (.g (.cons (aS 4) (.cons (aS 5) (.cons (aI 6) .nil)))) .nil))) (.z 1256584717458))) <|
 .next [(.app (.v 2) (.cons (.g (.cons (aS 4) (.cons (aS 5) (.cons (aI 6) .nil)))) .nil)), (.bin .add .i64 (.v 3) (.z 1))])
 (
 .esc <|
 .i (.call f_k2w [(aS 0), (.s .nil), (aZ 0), (.s .nil), (aS 2), (.s .nil)] [.s, .s] 4) <|
 .done [(aS 5)]))

def R_k2y : R :=
 .done [(.vb (.not (.cmp .eq (.v 0) (.z 0))))]

def R_k2z : R :=
 .i (.call f_k2k [(aS 0)] [.s] 3) <|
 .i (.call f_k23 [(aS 3), (.fn f_k2y .nil)] [.i .i64] 4) <|
 .ite (.cmp .le (.z 0) (.v 4))
 (
 .i (.chk (.cmp .le (.z 0) (.v 4))) <|
 .i (.chk (.cmp .lt (.v 4) (.len (.v 3)))) <|
 .i (.idx (.v 3) (.v 4) (.one (.i .i64)) 5) <|
 .ite (.cmp .lt (.v 5) (.z 0))
 (
 .loop 6 [(.v 3), (.z 0)] <|
 .ite (.cmp .lt (.v 7) (.len (.v 3)))
 (
 .i (.chk (.cmp .le (.z 0) (.v 7))) <|
 .i (.chk (.cmp .lt (.v 7) (.len (.v 6)))) <|
 .i (.idx (.v 6) (.v 7) (.one (.i .i64)) 8) <|
 .i (.chk (.cmp .le (.z 0) (.v 7))) <|
 .i (.chk (.cmp .lt (.v 7) (.len (.v 6)))) <|
 .i (.idx (.v 6) (.v 7) (.one (.i .i64)) 9) <|
 .next [(.set (.v 6) (.v 7) (.vi .i64 (.bin .sub .i64 (.z 0) (.v 8)))), (.bin .add .i64 (.v 7) (.z 1))])
 (
 .esc <|
 .done [(aS 6)]))
 (
 .done [(aS 3)]))
 (
 .done [(aS 3)])

def R_k30 : R :=
 .done [(.vb (.not (.cmp .eq (.v 0) (.z 0))))]

def R_k31 : R :=
 .i (.call f_k24 [(aS 0), (.fn f_k30 .nil)] [.b] 1) <|
 .done [(.vb (.not (.v 1)))]

def R_k32 : R :=
 .i (.get (.da 1) (.q [.s]) 2) <|
 .i (.call f_k27 [(aS 0), (aS 2)] [.b] 3) <|
 .done [(aB 3)]

def R_k33 : R :=
 .loop 2 [(.z 0)] <|
 .ite (.cmp .lt (.v 2) (.len (.v 0)))
 (
 .i (.idx (.v 0) (.v 2) (.one (.s)) 3) <|
 .i (.callv (.da 1) [(aS 3)] [none] [.b] 4) <|
 .ite (.v 4)
 (
 .esc <|
 .done [(aI 2)])
 (
 .next [(.bin .add .i64 (.v 2) (.z 1))]))
 (
 .esc <|
 .done [(.vi .i64 (.z (-1)))])

def R_k34 : R :=
 .i (.call f_k33 [(aS 0), (.fn f_k32 (.cons (.q (.cons (aS 1) .nil)) .nil))] [.i .i64] 2) <|
 .done [(aI 2)]

def R_k35 : R :=
 .i (.call f_k2c [(aS 0)] [.b] 1) <|
 .ite (.not (.v 1))
 (
 .done [(.s .nil)])
 (
 .loop 2 [.nil, (.z 0)] <|
 .ite (.cmp .lt (.v 3) (.z 3))
 (
 .i (.call f_k2j [(aI 3)] [.s, .s, .i .i64] 4) <|
 .i (.fl (.v 4)) <|
 .i (.chk (.cmp .le (.len (.app (.v 2) (.cons (aS 4) .nil))) (.z 2932031007402))) <|
 .next [(.app (.v 2) (.cons (aS 4) .nil)), (.bin .add .i64 (.v 3) (.z 1))])
 (
 .esc <|
 .loop 4 [(.v 2), (.z 0)] <|
 .ite (.cmp .lt (.v 5) (.len (.v 0)))
 (
 .i (.idx (.v 0) (.v 5) (.one (.s)) 6) <|
 .i (.call f_k2x [(aS 6)] [.s] 7) <|
 .loop 8 [(.v 4), (.z 0)] <|
 .ite (.cmp .lt (.v 9) (.len (.v 7)))
 (
 .i (.chk (.cmp .le (.z 0) (.v 9))) <|
 .i (.chk (.cmp .lt (.v 9) (.len (.v 7)))) <|
 .i (.idx (.v 7) (.v 9) (.g [.s, .s, .s, .b]) 10) <|
 .loop 14 [(.v 8), (.z 0)] <|
 .ite (.cmp .lt (.v 15) (.len (.v 10)))
 (
 .i (.idx (.v 10) (.v 15) (.g [.s, .s, .i .i64]) 16) <|
 .i (.call f_k2z [(aS 16), (aS 17), (aI 18)] [.s] 19) <|
 .i (.call f_k31 [(aS 19)] [.b] 20) <|
 .ite (.not (.v 20))
 (
 .i (.call f_k34 [(aS 14), (aS 19)] [.i .i64] 21) <|
 .ite (.cmp .lt (.v 21) (.z 0))
 (
 .i (.fl (.v 19)) <|
 .i (.chk (.cmp .le (.len (.app (.v 14) (.cons (aS 19) .nil))) (.z 2932031007402))) <|
 .next [(.app (.v 14) (.cons (aS 19) .nil)), (.bin .add .i64 (.v 15) (.z 1))])
 (
 .next [(.v 14), (.bin .add .i64 (.v 15) (.z 1))]))
 (
 .next [(.v 14), (.bin .add .i64 (.v 15) (.z 1))]))
 (
 .esc <|
 .next [(.v 14), (.bin .add .i64 (.v 9) (.z 1))]))
 (
 .esc <|
 .next [(.v 8), (.bin .add .i64 (.v 5) (.z 1))]))
 (
 .esc <|
 .done [(aS 4)])))

def R_k36 : R :=
 .loop 2 [(.cons (.vb .ff) (.cons (.vb .ff) (.cons (.vb .ff) .nil))), (.z 0)] <|
 .ite (.cmp .lt (.v 3) (.len (.v 0)))
 (
 .i (.idx (.v 0) (.v 3) (.one (.s)) 4) <|
 .i (.call f_k2x [(aS 4)] [.s] 5) <|
 .loop 6 [(.v 2), (.z 0)] <|
 .ite (.cmp .lt (.v 7) (.len (.v 5)))
 (
 .i (.chk (.cmp .le (.z 0) (.v 7))) <|
 .i (.chk (.cmp .lt (.v 7) (.len (.v 5)))) <|
 .i (.idx (.v 5) (.v 7) (.g [.s, .s, .s, .b]) 8) <|
 .loop 12 [(.v 6), (.z 0)] <|
 .ite (.cmp .lt (.v 13) (.len (.v 6)))
 (
 .i (.chk (.cmp .le (.z 0) (.v 13))) <|
 .i (.chk (.cmp .lt (.v 13) (.len (.v 12)))) <|
 .i (.idx (.v 12) (.v 13) (.one (.b)) 14) <|
 .ite (.v 14)
 (
 .i (.chk (.cmp .le (.z 0) (.v 13))) <|
 .i (.chk (.cmp .lt (.v 13) (.len (.v 12)))) <|
 .i (.idx (.v 12) (.v 13) (.one (.b)) 15) <|
 .next [(.set (.v 12) (.v 13) (.vb .tt)), (.bin .add .i64 (.v 13) (.z 1))])
 (
 .i (.callv (.da 1) [(aS 8), (aS 9), (aS 10), (aB 11), (aI 13)] [some 4, none] [.b] 15) <|
 .i (.chk (.cmp .le (.z 0) (.v 13))) <|
 .i (.chk (.cmp .lt (.v 13) (.len (.v 12)))) <|
 .i (.idx (.v 12) (.v 13) (.one (.b)) 16) <|
 .next [(.set (.v 12) (.v 13) (aB 15)), (.bin .add .i64 (.v 13) (.z 1))]))
 (
 .esc <|
 .next [(.v 12), (.bin .add .i64 (.v 7) (.z 1))]))
 (
 .esc <|
 .next [(.v 6), (.bin .add .i64 (.v 3) (.z 1))]))
 (
 .esc <|
 .done [(aS 2)])

def R_k37 : R :=
 .ite (.cmp .lt (.v 0) (.z 0))
 (
 .i (.chk .ff) <|
 .done [])
 (
 .ite (.cmp .lt (.z 0) (.bin .sub .i64 (.v 0) (.bin .sub .i64 (.z 0) (.z 0))))
 (
 .i (.chk (.cmp .lt (.z 0) (.bin .sub .i64 (.v 0) (.bin .sub .i64 (.z 0) (.z 0))))) <|
 .i (.chk (.cmp .le (.bin .sub .i64 (.v 0) (.bin .sub .i64 (.z 0) (.z 0))) (.z 1256584717458))) <|
 .i (.chk (.cmp .le (.z 0) (.len (.rep (.bin .sub .i64 (.v 0) (.bin .sub .i64 (.z 0) (.z 0))) (.g (.cons (.s .nil) (.cons (.s .nil) (.cons (aZ 0) .nil)))))))) <|
 .done [(.s (.take (.rep (.bin .sub .i64 (.v 0) (.bin .sub .i64 (.z 0) (.z 0))) (.g (.cons (.s .nil) (.cons (.s .nil) (.cons (aZ 0) .nil))))) (.z 0)))])
 (
 .done [(.s .nil)]))

def R_k38 : R :=
 .loop 1 [(.z 0), (.z 0)] <|
 .ite (.cmp .lt (.v 2) (.len (.v 0)))
 (
 .i (.idx (.v 0) (.v 2) (.one (.s)) 3) <|
 .ite (.cmp .lt (.bin .add .i64 (.v 1) (.len (.v 3))) (.z 0))
 (
 .i (.chk .ff) <|
 .done [])
 (
 .next [(.bin .add .i64 (.v 1) (.len (.v 3))), (.bin .add .i64 (.v 2) (.z 1))]))
 (
 .esc <|
 .i (.call f_k37 [(aI 1)] [.s] 3) <|
 .loop 4 [(.v 3), (.z 0)] <|
 .ite (.cmp .lt (.v 5) (.len (.v 0)))
 (
 .i (.idx (.v 0) (.v 5) (.one (.s)) 6) <|
 .i (.chk (.cmp .le (.len (.v 6)) (.z 1256584717458))) <|
 .i (.head 3 (.v 6)) <|
 .i (.chk (.cmp .le (.len (.app (.v 4) (.v 6))) (.z 1256584717458))) <|
 .next [(.app (.v 4) (.v 6)), (.bin .add .i64 (.v 5) (.z 1))])
 (
 .esc <|
 .done [(aS 4)]))

def R_k39 : R :=
 .i (.get (.da 3) (.q [.i .i64]) 4) <|
 .i (.idx (.v 0) (.v 4) (.one (.i .i64)) 5) <|
 .done [(.vb (.not (.cmp .eq (.v 5) (.z 0))))]

def R_k3a : R :=
 .i (.call f_k38 [(.s (.cons (aS 1) (.cons (aS 2) .nil)))] [.s] 5) <|
 .i (.call f_k2p [(aS 5), (.fn f_k39 (.cons (.q (.cons (aI 4) .nil)) .nil))] [.b] 6) <|
 .done [(aB 6)]

def R_k3b : R :=
 .i (.call f_k2c [(aS 0)] [.b] 1) <|
 .ite (.not (.v 1))
 (
 .done [(.s .nil)])
 (
 .i (.call f_k36 [(aS 0), (.fn f_k3a .nil)] [.s] 2) <|
 .done [(aS 2)])

def R_k3c : R :=
 .i (.call f_k35 [(aS 0)] [.s] 1) <|
 .i (.call f_k3b [(aS 0)] [.s] 2) <|
 .done [(aS 0), (aS 1), (aS 2)]

def R_k3d : R :=
 .i (.call f_k1z [(aI 4), (aZ 0), (.vi .i64 (.bin .sub .i64 (.len (.v 2)) (.z 1)))] [.b] 5) <|
 .done [(aB 5)]

def R_k3e : R :=
 .i (.call f_k33 [(aS 0), (.da 1)] [.i .i64] 2) <|
 .done [(.vb (.cmp .le (.z 0) (.v 2)))]

def R_k3f : R :=
 .i (.call f_k25 [(aS 0), (aZ 3), (aZ 10000000)] [.b] 1) <|
 .done [(.vb (.not (.v 1)))]

def R_k3g : R :=
 .i (.call f_k3e [(aS 0), (.fn f_k3f .nil)] [.b] 1) <|
 .done [(.vb (.not (.v 1)))]

def R_k3h : R :=
 .i (.call f_k25 [(aS 0), (aZ 3), (aZ 20000)] [.b] 1) <|
 .done [(aB 1)]

def R_k3i : R :=
 .i (.call f_k2g [(aS 0), (aS 1)] [.b] 5) <|
 .ite (.v 5)
 (
 .i (.call f_k3g [(aS 2)] [.b] 6) <|
 .ite (.v 6)
 (
 .i (.call f_k1z [(aI 3), (aZ 0), (.vi .i64 (.bin .sub .i64 (.len (.v 1)) (.z 1)))] [.b] 7) <|
 .ite (.v 7)
 (
 .i (.call f_k3h [(aS 4)] [.b] 8) <|
 .done [(aB 8)])
 (
 .done [(.vb .ff)]))
 (
 .done [(.vb .ff)]))
 (
 .done [(.vb .ff)])

def R_k3j : R :=
 .loop 2 [(.z 0), (.z 0)] <|
 .ite (.cmp .lt (.v 3) (.len (.v 0)))
 (
 .i (.idx (.v 0) (.v 3) (.one (.i .i64)) 4) <|
 .i (.idx (.v 1) (.v 3) (.one (.i .i64)) 5) <|
 .next [(.bin .add .i64 (.v 2) (.bin .mul .i64 (.v 4) (.v 5))), (.bin .add .i64 (.v 3) (.z 1))])
 (
 .esc <|
 .done [(aI 2)])

def R_k3k : R :=
 .i (.get (.da 1) (.q [.s]) 3) <|
 .i (.call f_k3j [(aS 0), (aS 3)] [.i .i64] 4) <|
 .i (.get (.da 2) (.q [.i .i64]) 5) <|
 .i (.get (.da 2) (.q [.i .i64]) 6) <|
 .i (.call f_k1z [(aI 4), (.vi .i64 (.bin .sub .i64 (.z 0) (.v 5))), (aI 6)] [.b] 7) <|
 .done [(.vb (.not (.v 7)))]

def R_k3l : R :=
 .i (.call f_k3i [(aS 0), (aS 1), (aS 2), (aI 3), (aS 4)] [.b] 5) <|
 .ite (.not (.v 5))
 (
 .done [(.vb .ff)])
 (
 .i (.idx (.v 1) (.v 3) (.one (.i .i64)) 6) <|
 .i (.call f_k3e [(aS 2), (.fn f_k3k (.cons (.q (.cons (aS 4) .nil)) (.cons (.q (.cons (aI 6) .nil)) .nil)))] [.b] 7) <|
 .done [(.vb (.not (.v 7)))])

def R_k3m : R :=
 .loop 4 [(.z 0)] <|
 .ite (.cmp .lt (.v 4) (.len (.v 3)))
 (
 .i (.idx (.v 3) (.v 4) (.one (.i .i64)) 5) <|
 .ite (.not (.cmp .eq (.v 5) (.z 0)))
 (
 .i (.idx (.v 2) (.v 4) (.one (.b)) 6) <|
 .ite (.v 6)
 (
 .esc <|
 .done [(.vb .ff)])
 (
 .next [(.bin .add .i64 (.v 4) (.z 1))]))
 (
 .next [(.bin .add .i64 (.v 4) (.z 1))]))
 (
 .esc <|
 .done [(.vb .tt)])

def R_k3n : R :=
 .i (.call f_k3l [(aS 3), (aS 4), (aS 1), (aI 5), (aS 6)] [.b] 7) <|
 .ite (.v 7)
 (
 .i (.call f_k3m [(aS 0), (aS 1), (aS 2), (aS 6)] [.b] 8) <|
 .done [(aB 8)])
 (
 .done [(.vb .ff)])

def R_k3o : R :=
 .loop 2 [(.z 0)] <|
 .ite (.cmp .lt (.v 2) (.len (.v 0)))
 (
 .i (.idx (.v 0) (.v 2) (.g [.i .i64, .i .i64, .s]) 3) <|
 .i (.callv (.da 1) [(aI 3), (aI 4), (aS 5)] [some 3] [.b] 6) <|
 .ite (.v 6)
 (
 .esc <|
 .done [(aI 2)])
 (
 .next [(.bin .add .i64 (.v 2) (.z 1))]))
 (
 .esc <|
 .done [(.vi .i64 (.z (-1)))])

def R_k3p : R :=
 .i (.call f_k3o [(aS 0), (.da 1)] [.i .i64] 2) <|
 .done [(.vb (.cmp .le (.z 0) (.v 2)))]

def R_k3q : R :=
 .ite (.cmp .eq (.v 0) (.z 0))
 (
 .done [(.vb (.cmp .eq (.len (.v 1)) (.z 0)))])
 (
 .done [(.vb .ff)])

def R_k3r : R :=
 .done [(.s (.cons (.vc (.string (strV []))) (.cons (.vc (.string (strV [100, 111, 110, 101]))) (.cons (.vc (.string (strV [115, 116, 111, 112, 112, 101, 100]))) (.cons (.vc (.string (strV [111, 118, 101, 114]))) .nil)))))]

def R_k3t : R :=
 .i (.call f_k1z [(aI 0), (aZ 1), (aZ 3)] [.b] 2) <|
 .ite (.not (.v 2))
 (
 .done [(.vc (.string (strV [])))])
 (
 .ite (.cmp .lt (.z 6) (.len (.v 1)))
 (
 .done [(.vc (.string (strV [])))])
 (
 .ite (.not (.cmp .eq (.v 0) (.z 1)))
 (
 .ite (.cmp .lt (.z 0) (.len (.v 1)))
 (
 .done [(.vc (.string (strV [])))])
 (
 .i (.call f_k25 [(aS 1), (.vi .i64 (.len (.v 1))), (aZ 999999999999)] [.b] 3) <|
 .ite (.not (.v 3))
 (
 .done [(.vc (.string (strV [])))])
 (
 .i (.call f_k3r [] [.s] 4) <|
 .i (.chk (.cmp .le (.z 0) (.v 0))) <|
 .i (.chk (.cmp .lt (.v 0) (.len (.v 4)))) <|
 .i (.idx (.v 4) (.v 0) (.one (.d)) 5) <|
 .i (.call f_k3s [(aS 1)] [.d] 6) <|
 .i (.prim .cat [(.da 5), (.da 6)] (.d) 7) <|
 .done [(.da 7)])))
 (
 .i (.call f_k25 [(aS 1), (.vi .i64 (.len (.v 1))), (aZ 999999999999)] [.b] 3) <|
 .ite (.not (.v 3))
 (
 .done [(.vc (.string (strV [])))])
 (
 .i (.call f_k3r [] [.s] 4) <|
 .i (.chk (.cmp .le (.z 0) (.v 0))) <|
 .i (.chk (.cmp .lt (.v 0) (.len (.v 4)))) <|
 .i (.idx (.v 4) (.v 0) (.one (.d)) 5) <|
 .i (.call f_k3s [(aS 1)] [.d] 6) <|
 .i (.prim .cat [(.da 5), (.da 6)] (.d) 7) <|
 .done [(.da 7)]))))

def R_k3u : R :=
 .i (.call f_k3t [(aI 0), (aS 1)] [.d] 2) <|
 .i (.prim .seq [(.da 2), (.vc (.string (strV [])))] (.b) 3) <|
 .done [(.vb (.not (.v 3)))]

def R_k3v : R :=
 .ite (.cmp .eq (.v 0) (.z 0))
 (
 .i (.call f_k3q [(aI 1), (aS 2)] [.b] 3) <|
 .done [(aB 3)])
 (
 .i (.call f_k1z [(aI 0), (aZ 1), (aZ 300)] [.b] 3) <|
 .ite (.v 3)
 (
 .i (.call f_k3u [(aI 1), (aS 2)] [.b] 4) <|
 .done [(aB 4)])
 (
 .done [(.vb .ff)]))

def R_k3w : R :=
 .i (.call f_k3v [(aI 0), (aI 1), (aS 2)] [.b] 3) <|
 .done [(.vb (.not (.v 3)))]

def R_k3x : R :=
 .ite (.cmp .eq (.len (.v 4)) (.v 0))
 (
 .i (.call f_k3p [(aS 4), (.fn f_k3w .nil)] [.b] 5) <|
 .done [(.vb (.not (.v 5)))])
 (
 .done [(.vb .ff)])

def R_k3y : R :=
 .i (.call f_k3d [(aI 0), (aS 1), (aS 2), (aS 3), (aI 13)] [.b] 14) <|
 .ite (.v 14)
 (
 .i (.call f_k1z [(aI 9), (aZ 0), (aZ 200)] [.b] 15) <|
 .ite (.v 15)
 (
 .i (.call f_k2f [(aS 10)] [.b] 16) <|
 .ite (.v 16)
 (
 .i (.call f_k2d [(aI 0), (aS 1), (aS 2), (aS 3), (aS 10)] [.s, .s] 17) <|
 .i (.call f_k3n [(aS 4), (aS 5), (aS 6), (aS 17), (aS 18), (aI 13), (aS 11)] [.b] 19) <|
 .ite (.v 19)
 (
 .i (.call f_k3x [(aI 0), (aS 1), (aS 2), (aS 3), (aS 12)] [.b] 20) <|
 .done [(aB 20)])
 (
 .done [(.vb .ff)]))
 (
 .done [(.vb .ff)]))
 (
 .done [(.vb .ff)]))
 (
 .done [(.vb .ff)])

def R_k3z : R :=
 .i (.call f_k2h [(aI 0), (aS 1), (aS 2), (aS 3)] [.b] 11) <|
 .ite (.v 11)
 (
 .i (.call f_k3c [(aS 1)] [.s, .s, .s] 12) <|
 .i (.call f_k3y [(aI 0), (aS 1), (aS 2), (aS 3), (aS 12), (aS 13), (aS 14), (aB 4), (aB 5), (aI 6), (aS 7), (aS 8), (aS 9), (aI 10)] [.b] 15) <|
 .done [(aB 15)])
 (
 .done [(.vb .ff)])

def R_k40 : R :=
 .i (.call f_k1z [(aI 4), (aZ 0), (.vi .i64 (.bin .sub .i64 (.v 0) (.z 1)))] [.b] 5) <|
 .done [(aB 5)]

def R_k41 : R :=
 .i (.call f_k25 [(aS 0), (aZ 2), (aZ 9)] [.b] 1) <|
 .done [(aB 1)]

def R_k42 : R :=
 .i (.call f_k40 [(aI 0), (aS 1), (aS 2), (aS 3), (aI 4)] [.b] 8) <|
 .ite (.v 8)
 (
 .i (.call f_k1z [(aI 6), (aZ 0), (.vi .i64 (.bin .sub .i64 (.len (.v 1)) (.z 1)))] [.b] 9) <|
 .ite (.v 9)
 (
 .i (.call f_k1z [(aI 5), (aZ 1), (aZ 300)] [.b] 10) <|
 .ite (.v 10)
 (
 .i (.call f_k41 [(aS 7)] [.b] 11) <|
 .done [(aB 11)])
 (
 .done [(.vb .ff)]))
 (
 .done [(.vb .ff)]))
 (
 .done [(.vb .ff)])

def R_k43 : R :=
 .i (.call f_k2h [(aI 0), (aS 1), (aS 2), (aS 3)] [.b] 8) <|
 .ite (.v 8)
 (
 .i (.call f_k42 [(aI 0), (aS 1), (aS 2), (aS 3), (aI 4), (aI 5), (aI 6), (aS 7)] [.b] 9) <|
 .done [(aB 9)])
 (
 .done [(.vb .ff)])

def R_k44 : R :=
 .i (.call f_k2k [(aS 0)] [.s] 2) <|
 .loop 3 [(.v 2), (.z 0)] <|
 .ite (.cmp .lt (.v 4) (.len (.v 1)))
 (
 .i (.idx (.v 1) (.v 4) (.one (.i .i64)) 5) <|
 .i (.chk (.cmp .le (.z 0) (.v 4))) <|
 .i (.chk (.cmp .lt (.v 4) (.len (.v 3)))) <|
 .i (.idx (.v 3) (.v 4) (.one (.i .i64)) 6) <|
 .i (.chk (.cmp .le (.z 0) (.v 4))) <|
 .i (.chk (.cmp .lt (.v 4) (.len (.v 3)))) <|
 .i (.idx (.v 3) (.v 4) (.one (.i .i64)) 7) <|
 .next [(.set (.v 3) (.v 4) (.vi .i64 (.bin .add .i64 (.v 6) (.v 5)))), (.bin .add .i64 (.v 4) (.z 1))])
 (
 .esc <|
 .done [(aS 3)])

def R_k45 : R :=
 .i (.call f_k3j [(aS 0), (aS 3)] [.i .i64] 5) <|
 .i (.call f_k3j [(aS 1), (aS 4)] [.i .i64] 6) <|
 .done [(.vi .i64 (.bin .add .i64 (.bin .add .i64 (.v 5) (.v 6)) (.v 2)))]

def R_k46 : R :=
 .loop 3 [(.z 0), (.z 0)] <|
 .ite (.cmp .lt (.v 4) (.len (.v 1)))
 (
 .i (.idx (.v 1) (.v 4) (.one (.i .i64)) 5) <|
 .ite (.not (.cmp .eq (.v 4) (.v 2)))
 (
 .next [(.bin .add .i64 (.v 3) (.v 5)), (.bin .add .i64 (.v 4) (.z 1))])
 (
 .next [(.v 3), (.bin .add .i64 (.v 4) (.z 1))]))
 (
 .esc <|
 .done [(aI 3)])

def R_k47 : R :=
 .i (.call f_k3i [(aS 0), (aS 1), (aS 2), (aI 3), (aS 4)] [.b] 9) <|
 .ite (.not (.v 9))
 (
 .done [(aZ 0), (aZ 0), (.vb .ff)])
 (
 .i (.call f_k2n [(aS 5), (aS 6), (aI 7)] [.b] 10) <|
 .ite (.not (.v 10))
 (
 .done [(aZ 0), (aZ 0), (.vb .ff)])
 (
 .i (.call f_k41 [(aS 8)] [.b] 11) <|
 .ite (.not (.v 11))
 (
 .done [(aZ 0), (aZ 0), (.vb .ff)])
 (
 .i (.call f_k44 [(aS 0), (aS 4)] [.s] 12) <|
 .i (.call f_k45 [(aS 5), (aS 6), (aI 7), (aS 12), (aS 8)] [.i .i64] 13) <|
 .i (.call f_k46 [(aS 0), (aS 1), (aI 3)] [.i .i64] 14) <|
 .i (.call f_k31 [(aS 5)] [.b] 15) <|
 .ite (.v 15)
 (
 .done [(aI 13), (aI 13), (.vb .tt)])
 (
 .i (.call f_k2z [(aS 5), (aS 6), (aI 7)] [.s] 16) <|
 .i (.call f_k34 [(aS 2), (aS 16)] [.i .i64] 17) <|
 .ite (.cmp .le (.z 0) (.v 17))
 (
 .done [(.vi .i64 (.bin .sub .i64 (.v 13) (.v 14))), (.vi .i64 (.bin .add .i64 (.v 13) (.v 14))), (.vb .tt)])
 (
 .done [(aZ 0), (aZ 0), (.vb .ff)])))))

def R_k48 : R :=
 .i (.get (.da 3) (.q [.s, .s]) 8) <|
 .i (.get (.da 4) (.q [.s, .s, .s]) 10) <|
 .i (.get (.da 5) (.q [.i .i64]) 13) <|
 .i (.get (.da 6) (.q [.s]) 14) <|
 .i (.get (.da 7) (.q [.s]) 15) <|
 .i (.call f_k47 [(aS 8), (aS 9), (aS 11), (aI 13), (aS 14), (aS 0), (aS 1), (aI 2), (aS 15)] [.i .i64, .i .i64, .b] 16) <|
 .ite (.not (.v 18))
 (
 .done [(.vb .tt)])
 (
 .done [(.vb (.cmp .lt (.v 16) (.z 0)))])

def R_k49 : R :=
 .i (.get (.da 4) (.q [.d]) 5) <|
 .i (.call f_k2p [(aS 0), (.da 5)] [.b] 6) <|
 .done [(.vb (.not (.v 6)))]

def R_k4a : R :=
 .loop 2 [(.z 0)] <|
 .ite (.cmp .lt (.v 2) (.len (.v 0)))
 (
 .i (.idx (.v 0) (.v 2) (.g [.s, .s, .s, .b]) 3) <|
 .i (.callv (.da 1) [(aS 3), (aS 4), (aS 5), (aB 6)] [some 4] [.b] 7) <|
 .ite (.v 7)
 (
 .esc <|
 .done [(aI 2)])
 (
 .next [(.bin .add .i64 (.v 2) (.z 1))]))
 (
 .esc <|
 .done [(.vi .i64 (.z (-1)))])

def R_k4b : R :=
 .loop 3 [.nil, (.z 0)] <|
 .ite (.cmp .lt (.v 4) (.len (.v 0)))
 (
 .i (.idx (.v 0) (.v 4) (.g [.s, .s, .i .i64]) 5) <|
 .i (.call f_k45 [(aS 5), (aS 6), (aI 7), (aS 1), (aS 2)] [.i .i64] 8) <|
 .i (.chk (.cmp .le (.len (.app (.v 3) (.cons (aI 8) .nil))) (.z 8796093022208))) <|
 .next [(.app (.v 3) (.cons (aI 8) .nil)), (.bin .add .i64 (.v 4) (.z 1))])
 (
 .esc <|
 .done [(aS 3)])

def R_k4c : R :=
 .i (.call f_k2c [(aS 0)] [.b] 7) <|
 .ite (.not (.v 7))
 (
 .done [(aZ 0), (.s .nil), (.s .nil), (.vb .ff)])
 (
 .i (.call f_k41 [(aS 6)] [.b] 8) <|
 .ite (.not (.v 8))
 (
 .done [(aZ 0), (.s .nil), (.s .nil), (.vb .ff)])
 (
 .i (.call f_k1z [(aI 5), (aZ 0), (.vi .i64 (.bin .sub .i64 (.len (.v 0)) (.z 1)))] [.b] 9) <|
 .ite (.not (.v 9))
 (
 .done [(aZ 0), (.s .nil), (.s .nil), (.vb .ff)])
 (
 .i (.call f_k3c [(aS 0)] [.s, .s, .s] 10) <|
 .i (.call f_k3n [(aS 10), (aS 11), (aS 12), (aS 1), (aS 2), (aI 3), (aS 4)] [.b] 13) <|
 .ite (.not (.v 13))
 (
 .done [(aZ 0), (.s .nil), (.s .nil), (.vb .ff)])
 (
 .i (.call f_k2k [(aS 4)] [.s] 14) <|
 .i (.idx (.v 0) (.v 5) (.one (.s)) 15) <|
 .i (.call f_k2x [(aS 15)] [.s] 16) <|
 .i (.call f_k4a [(aS 16), (.fn f_k49 (.cons (.q (.cons (.fn f_k48 (.cons (.q (.cons (aS 1) (.cons (aS 2) .nil))) (.cons (.q (.cons (aS 10) (.cons (aS 11) (.cons (aS 12) .nil)))) (.cons (.q (.cons (aI 3) .nil)) (.cons (.q (.cons (aS 4) .nil)) (.cons (.q (.cons (aS 6) .nil)) .nil)))))) .nil)) .nil))] [.i .i64] 17) <|
 .ite (.cmp .lt (.v 17) (.z 0))
 (
 .done [(aZ 0), (.s .nil), (aS 14), (.vb .ff)])
 (
 .i (.chk (.cmp .le (.z 0) (.v 17))) <|
 .i (.chk (.cmp .lt (.v 17) (.len (.v 16)))) <|
 .i (.idx (.v 16) (.v 17) (.g [.s, .s, .s, .b]) 18) <|
 .ite (.v 21)
 (
 .done [(aZ 2), (.s .nil), (aS 14), (.vb .tt)])
 (
 .i (.chk (.cmp .le (.z 0) (.v 17))) <|
 .i (.chk (.cmp .lt (.v 17) (.len (.v 16)))) <|
 .i (.idx (.v 16) (.v 17) (.g [.s, .s, .s, .b]) 22) <|
 .i (.call f_k4b [(aS 23), (aS 1), (aS 6)] [.s] 26) <|
 .i (.call f_k44 [(aS 4), (aS 26)] [.s] 27) <|
 .i (.call f_k3m [(aS 10), (aS 11), (aS 12), (aS 26)] [.b] 28) <|
 .ite (.not (.v 28))
 (
 .done [(aZ 0), (.s .nil), (aS 14), (.vb .ff)])
 (
 .i (.call f_k3h [(aS 27)] [.b] 29) <|
 .ite (.not (.v 29))
 (
 .done [(aZ 0), (.s .nil), (aS 14), (.vb .ff)])
 (
 .loop 30 [.ff, .ff, (.z 0)] <|
 .ite (.cmp .lt (.v 32) (.z 3))
 (
 .i (.call f_k2j [(aI 32)] [.s, .s, .i .i64] 33) <|
 .i (.call f_k47 [(aS 1), (aS 2), (aS 11), (aI 3), (aS 27), (aS 33), (aS 34), (aI 35), (aS 6)] [.i .i64, .i .i64, .b] 36) <|
 .ite (.v 30)
 (
 .ite (.v 31)
 (
 .next [.tt, .tt, (.bin .add .i64 (.v 32) (.z 1))])
 (
 .ite (.cmp .lt (.v 36) (.z (-10000)))
 (
 .next [.tt, .tt, (.bin .add .i64 (.v 32) (.z 1))])
 (
 .next [.tt, (.cmp .lt (.z 10000) (.v 37)), (.bin .add .i64 (.v 32) (.z 1))])))
 (
 .ite (.cmp .lt (.z 10000) (.v 36))
 (
 .ite (.v 31)
 (
 .next [.tt, .tt, (.bin .add .i64 (.v 32) (.z 1))])
 (
 .ite (.cmp .lt (.v 36) (.z (-10000)))
 (
 .next [.tt, .tt, (.bin .add .i64 (.v 32) (.z 1))])
 (
 .next [.tt, (.cmp .lt (.z 10000) (.v 37)), (.bin .add .i64 (.v 32) (.z 1))])))
 (
 .ite (.v 31)
 (
 .next [(.cmp .lt (.v 37) (.z (-10000))), .tt, (.bin .add .i64 (.v 32) (.z 1))])
 (
 .ite (.cmp .lt (.v 36) (.z (-10000)))
 (
 .next [(.cmp .lt (.v 37) (.z (-10000))), .tt, (.bin .add .i64 (.v 32) (.z 1))])
 (
 .next [(.cmp .lt (.v 37) (.z (-10000))), (.cmp .lt (.z 10000) (.v 37)), (.bin .add .i64 (.v 32) (.z 1))])))))
 (
 .esc <|
 .ite (.v 30)
 (
 .done [(aZ 3), (.s .nil), (aS 14), (.vb .tt)])
 (
 .ite (.v 31)
 (
 .done [(aZ 0), (.s .nil), (aS 14), (.vb .ff)])
 (
 .i (.call f_k3l [(aS 1), (aS 2), (aS 11), (aI 3), (aS 27)] [.b] 33) <|
 .ite (.not (.v 33))
 (
 .done [(aZ 0), (.s .nil), (aS 14), (.vb .ff)])
 (
 .i (.chk (.cmp .le (.z 0) (.v 17))) <|
 .i (.chk (.cmp .lt (.v 17) (.len (.v 16)))) <|
 .i (.idx (.v 16) (.v 17) (.g [.s, .s, .s, .b]) 34) <|
 .i (.call f_k4b [(aS 36), (aS 1), (aS 6)] [.s] 38) <|
 .done [(aZ 1), (aS 38), (aS 27), (.vb .tt)]))))))))))))

def R_k4d : R :=
 .i (.call f_k2d [(aI 6), (aS 7), (aS 8), (aS 9), (aS 3)] [.s, .s] 15) <|
 .i (.call f_k4c [(aS 7), (aS 15), (aS 16), (aI 10), (aS 4), (aI 13), (aS 14)] [.i .i64, .s, .s, .b] 17) <|
 .done [(aI 17), (aS 18), (aS 19), (aB 20), (aB 0), (aB 1), (aI 2), (aS 3), (aS 4), (aS 5)]

def R_k4e : R :=
 .i (.call f_k3z [(aI 0), (aS 1), (aS 2), (aS 3), (aB 4), (aB 5), (aI 6), (aS 7), (aS 8), (aS 9), (aI 10)] [.b] 15) <|
 .ite (.not (.v 15))
 (
 .done [(.vb .ff)])
 (
 .i (.call f_k43 [(aI 0), (aS 1), (aS 2), (aS 3), (aI 11), (aI 12), (aI 13), (aS 14)] [.b] 16) <|
 .ite (.not (.v 16))
 (
 .done [(.vb .ff)])
 (
 .ite (.not (.v 4))
 (
 .done [(.vb .ff)])
 (
 .ite (.v 5)
 (
 .done [(.vb .ff)])
 (
 .i (.call f_k4d [(aB 4), (aB 5), (aI 6), (aS 7), (aS 8), (aS 9), (aI 0), (aS 1), (aS 2), (aS 3), (aI 10), (aI 11), (aI 12), (aI 13), (aS 14)] [.i .i64, .s, .s, .b, .b, .b, .i .i64, .s, .s, .s] 17) <|
 .done [(aB 20)]))))

def R_k4f : R :=
 .ite (.not (.cmp .eq (.len (.v 0)) (.len (.v 1))))
 (
 .done [(.vb .ff)])
 (
 .loop 2 [(.z 0)] <|
 .ite (.cmp .lt (.v 2) (.len (.v 0)))
 (
 .i (.idx (.v 0) (.v 2) (.one (.i .i64)) 3) <|
 .i (.idx (.v 1) (.v 2) (.one (.i .i64)) 4) <|
 .ite (.not (.cmp .eq (.v 3) (.v 4)))
 (
 .esc <|
 .done [(.vb .ff)])
 (
 .next [(.bin .add .i64 (.v 2) (.z 1))]))
 (
 .esc <|
 .done [(.vb .tt)]))

def R_k4g : R :=
 .i (.call f_k4f [(aS 0), (aS 3)] [.b] 6) <|
 .ite (.not (.v 6))
 (
 .done [(.vb .ff)])
 (
 .i (.call f_k4f [(aS 1), (aS 4)] [.b] 7) <|
 .ite (.not (.v 7))
 (
 .done [(.vb .ff)])
 (
 .ite (.not (.cmp .eq (.v 2) (.v 5)))
 (
 .done [(.vb .ff)])
 (
 .done [(.vb .tt)])))

def R_k4h : R :=
 .ite (.not (.cmp .eq (.v 0) (.v 6)))
 (
 .done [(.vb .ff)])
 (
 .ite (.not (.cmp .eq (.v 1) (.v 7)))
 (
 .done [(.vb .ff)])
 (
 .ite (.not (.cmp .eq (.v 2) (.v 8)))
 (
 .done [(.vb .ff)])
 (
 .i (.call f_k4g [(aS 3), (aS 4), (aI 5), (aS 9), (aS 10), (aI 11)] [.b] 12) <|
 .ite (.not (.v 12))
 (
 .done [(.vb .ff)])
 (
 .done [(.vb .tt)]))))

def R_k4i : R :=
 .ite (.not (.cmp .eq (.len (.v 0)) (.len (.v 1))))
 (
 .done [(.vb .ff)])
 (
 .loop 2 [(.z 0)] <|
 .ite (.cmp .lt (.v 2) (.len (.v 0)))
 (
 .i (.idx (.v 0) (.v 2) (.g [.i .i64, .i .i64, .i .i64, .s, .s, .i .i64]) 3) <|
 .i (.idx (.v 1) (.v 2) (.g [.i .i64, .i .i64, .i .i64, .s, .s, .i .i64]) 9) <|
 .i (.call f_k4h [(aI 3), (aI 4), (aI 5), (aS 6), (aS 7), (aI 8), (aI 9), (aI 10), (aI 11), (aS 12), (aS 13), (aI 14)] [.b] 15) <|
 .ite (.not (.v 15))
 (
 .esc <|
 .done [(.vb .ff)])
 (
 .next [(.bin .add .i64 (.v 2) (.z 1))]))
 (
 .esc <|
 .done [(.vb .tt)]))

def R_k4j : R :=
 .ite (.not (.cmp .eq (.len (.v 0)) (.len (.v 1))))
 (
 .done [(.vb .ff)])
 (
 .loop 2 [(.z 0)] <|
 .ite (.cmp .lt (.v 2) (.len (.v 0)))
 (
 .i (.idx (.v 0) (.v 2) (.one (.s)) 3) <|
 .i (.idx (.v 1) (.v 2) (.one (.s)) 4) <|
 .i (.call f_k4i [(aS 3), (aS 4)] [.b] 5) <|
 .ite (.not (.v 5))
 (
 .esc <|
 .done [(.vb .ff)])
 (
 .next [(.bin .add .i64 (.v 2) (.z 1))]))
 (
 .esc <|
 .done [(.vb .tt)]))

def R_k4k : R :=
 .ite (.not (.cmp .eq (.v 0) (.v 4)))
 (
 .done [(.vb .ff)])
 (
 .i (.call f_k4j [(aS 1), (aS 5)] [.b] 8) <|
 .ite (.not (.v 8))
 (
 .done [(.vb .ff)])
 (
 .i (.call f_k4f [(aS 2), (aS 6)] [.b] 9) <|
 .ite (.not (.v 9))
 (
 .done [(.vb .ff)])
 (
 .i (.call f_k4f [(aS 3), (aS 7)] [.b] 10) <|
 .ite (.not (.v 10))
 (
 .done [(.vb .ff)])
 (
 .done [(.vb .tt)]))))

def R_k4l : R :=
 .ite (.not (.cmp .eq (.v 0) (.v 2)))
 (
 .done [(.vb .ff)])
 (
 .i (.call f_k4f [(aS 1), (aS 3)] [.b] 4) <|
 .ite (.not (.v 4))
 (
 .done [(.vb .ff)])
 (
 .done [(.vb .tt)]))

def R_k4m : R :=
 .ite (.not (.cmp .eq (.v 0) (.v 3)))
 (
 .done [(.vb .ff)])
 (
 .i (.call f_k4l [(aI 1), (aS 2), (aI 4), (aS 5)] [.b] 6) <|
 .ite (.not (.v 6))
 (
 .done [(.vb .ff)])
 (
 .done [(.vb .tt)]))

def R_k4n : R :=
 .ite (.not (.cmp .eq (.len (.v 0)) (.len (.v 1))))
 (
 .done [(.vb .ff)])
 (
 .loop 2 [(.z 0)] <|
 .ite (.cmp .lt (.v 2) (.len (.v 0)))
 (
 .i (.idx (.v 0) (.v 2) (.g [.i .i64, .i .i64, .s]) 3) <|
 .i (.idx (.v 1) (.v 2) (.g [.i .i64, .i .i64, .s]) 6) <|
 .i (.call f_k4m [(aI 3), (aI 4), (aS 5), (aI 6), (aI 7), (aS 8)] [.b] 9) <|
 .ite (.not (.v 9))
 (
 .esc <|
 .done [(.vb .ff)])
 (
 .next [(.bin .add .i64 (.v 2) (.z 1))]))
 (
 .esc <|
 .done [(.vb .tt)]))

def R_k4o : R :=
 .ite (.not (.beq (.v 0) (.v 6)))
 (
 .done [(.vb .ff)])
 (
 .ite (.not (.beq (.v 1) (.v 7)))
 (
 .done [(.vb .ff)])
 (
 .ite (.not (.cmp .eq (.v 2) (.v 8)))
 (
 .done [(.vb .ff)])
 (
 .i (.call f_k4f [(aS 3), (aS 9)] [.b] 12) <|
 .ite (.not (.v 12))
 (
 .done [(.vb .ff)])
 (
 .i (.call f_k4f [(aS 4), (aS 10)] [.b] 13) <|
 .ite (.not (.v 13))
 (
 .done [(.vb .ff)])
 (
 .i (.call f_k4n [(aS 5), (aS 11)] [.b] 14) <|
 .ite (.not (.v 14))
 (
 .done [(.vb .ff)])
 (
 .done [(.vb .tt)]))))))

def R_k4p : R :=
 .ite (.not (.cmp .eq (.v 0) (.v 4)))
 (
 .done [(.vb .ff)])
 (
 .ite (.not (.cmp .eq (.v 1) (.v 5)))
 (
 .done [(.vb .ff)])
 (
 .ite (.not (.cmp .eq (.v 2) (.v 6)))
 (
 .done [(.vb .ff)])
 (
 .i (.call f_k4f [(aS 3), (aS 7)] [.b] 8) <|
 .ite (.not (.v 8))
 (
 .done [(.vb .ff)])
 (
 .done [(.vb .tt)]))))

def R_k4q : R :=
 .i (.call f_k5 [(aI 0), (aS 1), (aS 2), (aS 3), (aZ 1048576)] [.i .i64] 15) <|
 .ite (.cmp .lt (.v 15) (.z 0))
 (
 .done [(.vb .tt)])
 (
 .i (.call f_k9 [(aB 4), (aB 5), (aI 6), (aS 7), (aS 8), (aS 9), (aI 15)] [.i .i64] 16) <|
 .ite (.cmp .lt (.v 16) (.z 0))
 (
 .done [(.vb .tt)])
 (
 .i (.call f_ka [(aI 11), (aI 12), (aI 13), (aS 14), (aI 16)] [.i .i64] 17) <|
 .ite (.cmp .lt (.v 17) (.z 0))
 (
 .done [(.vb .tt)])
 (
 .i (.call f_kg [(aI 0), (aS 1), (aS 2), (aS 3)] [.i .i64, .s, .s, .s] 18) <|
 .i (.call f_kk [(aB 4), (aB 5), (aI 6), (aS 7), (aS 8), (aS 9)] [.b, .b, .i .i64, .s, .s, .s] 22) <|
 .i (.call f_kl [(aI 11), (aI 12), (aI 13), (aS 14)] [.i .i64, .i .i64, .i .i64, .s] 28) <|
 .i (.call f_k1y [(aI 18), (aS 19), (aS 20), (aS 21), (aB 22), (aB 23), (aI 24), (aS 25), (aS 26), (aS 27), (aI 10), (aI 28), (aI 29), (aI 30), (aS 31)] [.b] 32) <|
 .i (.call f_kg [(aI 0), (aS 1), (aS 2), (aS 3)] [.i .i64, .s, .s, .s] 33) <|
 .i (.call f_kk [(aB 4), (aB 5), (aI 6), (aS 7), (aS 8), (aS 9)] [.b, .b, .i .i64, .s, .s, .s] 37) <|
 .i (.call f_kl [(aI 11), (aI 12), (aI 13), (aS 14)] [.i .i64, .i .i64, .i .i64, .s] 43) <|
 .i (.call f_k4e [(aI 33), (aS 34), (aS 35), (aS 36), (aB 37), (aB 38), (aI 39), (aS 40), (aS 41), (aS 42), (aI 10), (aI 43), (aI 44), (aI 45), (aS 46)] [.b] 47) <|
 .ite (.not (.beq (.v 47) (.v 32)))
 (
 .done [(.vb .ff)])
 (
 .i (.call f_kg [(aI 0), (aS 1), (aS 2), (aS 3)] [.i .i64, .s, .s, .s] 48) <|
 .i (.call f_k4k [(aI 33), (aS 34), (aS 35), (aS 36), (aI 48), (aS 49), (aS 50), (aS 51)] [.b] 52) <|
 .ite (.not (.v 52))
 (
 .done [(.vb .ff)])
 (
 .i (.call f_kk [(aB 4), (aB 5), (aI 6), (aS 7), (aS 8), (aS 9)] [.b, .b, .i .i64, .s, .s, .s] 53) <|
 .i (.call f_k4o [(aB 37), (aB 38), (aI 39), (aS 40), (aS 41), (aS 42), (aB 53), (aB 54), (aI 55), (aS 56), (aS 57), (aS 58)] [.b] 59) <|
 .ite (.not (.v 59))
 (
 .done [(.vb .ff)])
 (
 .i (.call f_kl [(aI 11), (aI 12), (aI 13), (aS 14)] [.i .i64, .i .i64, .i .i64, .s] 60) <|
 .i (.call f_k4p [(aI 43), (aI 44), (aI 45), (aS 46), (aI 60), (aI 61), (aI 62), (aS 63)] [.b] 64) <|
 .ite (.not (.v 64))
 (
 .done [(.vb .ff)])
 (
 .done [(.vb .tt)])))))))
def E_k0 : Entry := ⟨.d ⟨[(.one (.s)), (.one (.i .i64))], (.one (.one (.i .i64))), true⟩, .r ⟨[0, 1, 4, 10], 0, [], [], false, [], [], []⟩ R_k0⟩
def E_k1 : Entry := ⟨.d ⟨[(.g [.s, .s, .i .i64]), (.one (.i .i64))], (.one (.one (.i .i64))), true⟩, .r ⟨[0, 1, 2, 4, 10, 16], 0, [], [], false, [], [], []⟩ R_k1⟩
def E_k2 : Entry := ⟨.d ⟨[(.g [.i .i64, .i .i64, .i .i64, .s, .s, .i .i64]), (.one (.i .i64))], (.one (.one (.i .i64))), true⟩, .r ⟨[0, 1, 2, 4, 10], 0, [], [], false, [], [], []⟩ R_k2⟩
def E_k3 : Entry := ⟨.d ⟨[(.one (.s)), (.one (.i .i64))], (.one (.one (.i .i64))), true⟩, .r ⟨[0, 1, 4, 5, 11, 15, 25], 0, [], [(5, ⟨[5, 1], [], [], [], []⟩)], false, [], [], []⟩ R_k3⟩
def E_k4 : Entry := ⟨.d ⟨[(.one (.s)), (.one (.i .i64))], (.one (.one (.i .i64))), true⟩, .r ⟨[0, 1, 4, 5, 11, 15, 25], 0, [], [(5, ⟨[5, 1], [], [], [], []⟩)], false, [], [], []⟩ R_k4⟩
def E_k5 : Entry := ⟨.d ⟨[(.g [.i .i64, .s, .s, .s]), (.one (.i .i64))], (.one (.one (.i .i64))), true⟩, .r ⟨[0, 1, 2, 4, 10, 16, 22], 0, [], [], false, [], [], []⟩ R_k5⟩
def E_k6 : Entry := ⟨.d ⟨[(.g [.i .i64, .s]), (.one (.i .i64))], (.one (.one (.i .i64))), true⟩, .r ⟨[0, 1, 2, 4, 10], 0, [], [], false, [], [], []⟩ R_k6⟩
def E_k7 : Entry := ⟨.d ⟨[(.g [.i .i64, .i .i64, .s]), (.one (.i .i64))], (.one (.one (.i .i64))), true⟩, .r ⟨[0, 1, 2, 4, 10], 0, [], [], false, [], [], []⟩ R_k7⟩
def E_k8 : Entry := ⟨.d ⟨[(.one (.s)), (.one (.i .i64))], (.one (.one (.i .i64))), true⟩, .r ⟨[0, 1, 4, 5, 11, 15, 25], 0, [], [(5, ⟨[5, 1], [], [], [], []⟩)], false, [], [], []⟩ R_k8⟩
def E_k9 : Entry := ⟨.d ⟨[(.g [.b, .b, .i .i64, .s, .s, .s]), (.one (.i .i64))], (.one (.one (.i .i64))), true⟩, .r ⟨[0, 1, 2, 4, 10, 16, 22], 0, [], [], false, [], [], []⟩ R_k9⟩
def E_ka : Entry := ⟨.d ⟨[(.g [.i .i64, .i .i64, .i .i64, .s]), (.one (.i .i64))], (.one (.one (.i .i64))), true⟩, .r ⟨[0, 1, 2, 4, 10], 0, [], [], false, [], [], []⟩ R_ka⟩
def E_kb : Entry := ⟨.x ⟨[(.d (aS 0))], [], [.s], (.o 0 (.v 0)), [(.arr 3 1 (.v 0) true true)], [.s], false⟩, .r ⟨[0, 2, 3, 4, 11], 0, [], [(3, ⟨[4], [], [112], [], []⟩)], true, [], [], []⟩ R_kb⟩
def E_kc : Entry := ⟨.x ⟨[(.g [(.d (aS 0)), (.d (aS 1)), (.d (aI 2))])], [], [.s, .s, .i .i64], (.g [(.o 0 (.v 0)), (.o 1 (.v 1)), (.d (aI 2))]), [(.arr 3 1 (.v 0) true true), (.arr 3 1 (.v 1) true true)], [.s, .s, .i .i64], false⟩, .r ⟨[0, 1, 2, 3], 0, [], [], true, [], [], []⟩ R_kc⟩
def E_kd : Entry := ⟨.x ⟨[(.g [(.d (aI 0)), (.d (aI 1)), (.d (aI 2)), (.d (aS 3)), (.d (aS 4)), (.d (aI 5))])], [], [.i .i64, .i .i64, .i .i64, .s, .s, .i .i64], (.g [(.d (aI 0)), (.d (aI 1)), (.d (aI 2)), (.o 0 (.v 3)), (.o 1 (.v 4)), (.d (aI 5))]), [(.arr 3 1 (.v 3) true true), (.arr 3 1 (.v 4) true true)], [.i .i64, .i .i64, .i .i64, .s, .s, .i .i64], false⟩, .r ⟨[0, 1, 2, 3], 0, [], [], true, [], [], []⟩ R_kd⟩
def E_ke : Entry := ⟨.x ⟨[(.d (aS 0))], [], [.s], (.o 0 (.v 0)), [(.arr 201 6 (.v 0) true true)], [.s], false⟩, .r ⟨[0, 2, 3, 4, 11], 0, [], [(3, ⟨[4], [], [112], [], []⟩)], true, [], [], []⟩ R_ke⟩
def E_kf : Entry := ⟨.x ⟨[(.d (aS 0))], [], [.s], (.o 0 (.v 0)), [(.arr 154 1 (.v 0) true true)], [.s], false⟩, .r ⟨[0, 2, 3, 4, 11], 0, [], [(3, ⟨[4], [], [112], [], []⟩)], true, [], [], []⟩ R_kf⟩
def E_kg : Entry := ⟨.x ⟨[(.g [(.d (aI 0)), (.d (aS 1)), (.d (aS 2)), (.d (aS 3))])], [], [.i .i64, .s, .s, .s], (.g [(.d (aI 0)), (.o 0 (.v 1)), (.o 1 (.v 2)), (.o 2 (.v 3))]), [(.arr 154 1 (.v 1) true true), (.arr 3 1 (.v 2) true true), (.arr 3 1 (.v 3) true true)], [.i .i64, .s, .s, .s], false⟩, .r ⟨[0, 1, 2, 3], 0, [], [], true, [], [], []⟩ R_kg⟩
def E_kh : Entry := ⟨.x ⟨[(.g [(.d (aI 0)), (.d (aS 1))])], [], [.i .i64, .s], (.g [(.d (aI 0)), (.o 0 (.v 1))]), [(.arr 3 1 (.v 1) true true)], [.i .i64, .s], false⟩, .r ⟨[0, 1, 2, 3], 0, [], [], true, [], [], []⟩ R_kh⟩
def E_ki : Entry := ⟨.x ⟨[(.g [(.d (aI 0)), (.d (aI 1)), (.d (aS 2))])], [], [.i .i64, .i .i64, .s], (.g [(.d (aI 0)), (.d (aI 1)), (.o 0 (.v 2))]), [(.arr 3 1 (.v 2) true true)], [.i .i64, .i .i64, .s], false⟩, .r ⟨[0, 1, 2, 3], 0, [], [], true, [], [], []⟩ R_ki⟩
def E_kj : Entry := ⟨.x ⟨[(.d (aS 0))], [], [.s], (.o 0 (.v 0)), [(.arr 142 3 (.v 0) true true)], [.s], false⟩, .r ⟨[0, 2, 3, 4, 11], 0, [], [(3, ⟨[4], [], [112], [], []⟩)], true, [], [], []⟩ R_kj⟩
def E_kk : Entry := ⟨.x ⟨[(.g [(.d (aB 0)), (.d (aB 1)), (.d (aI 2)), (.d (aS 3)), (.d (aS 4)), (.d (aS 5))])], [], [.b, .b, .i .i64, .s, .s, .s], (.g [(.d (aB 0)), (.d (aB 1)), (.d (aI 2)), (.o 0 (.v 3)), (.o 1 (.v 4)), (.o 2 (.v 5))]), [(.arr 3 1 (.v 3) true true), (.arr 3 1 (.v 4) true true), (.arr 142 3 (.v 5) true true)], [.b, .b, .i .i64, .s, .s, .s], false⟩, .r ⟨[0, 1, 2, 3], 0, [], [], true, [], [], []⟩ R_kk⟩
def E_kl : Entry := ⟨.x ⟨[(.g [(.d (aI 0)), (.d (aI 1)), (.d (aI 2)), (.d (aS 3))])], [], [.i .i64, .i .i64, .i .i64, .s], (.g [(.d (aI 0)), (.d (aI 1)), (.d (aI 2)), (.o 0 (.v 3))]), [(.arr 3 1 (.v 3) true true)], [.i .i64, .i .i64, .i .i64, .s], false⟩, .r ⟨[0, 1, 2, 3], 0, [], [], true, [], [], []⟩ R_kl⟩
def E_km : Entry := ⟨.d ⟨[(.one (.i .i64)), (.one (.i .i64)), (.one (.i .i64))], (.one (.one (.b))), true⟩, .r ⟨[0, 1, 2, 6], 0, [], [], false, [], [], []⟩ R_km⟩
def E_kn : Entry := ⟨.d ⟨[(.one (.s)), (.one (.i .i64)), (.one (.i .i64))], (.one (.one (.b))), true⟩, .r ⟨[0, 1, 2, 6, 7, 11, 15, 26], 0, [], [(4, ⟨[7], [], [], [], []⟩)], false, [], [], []⟩ R_kn⟩
def E_ko : Entry := ⟨.d ⟨[(.g [.s, .s, .i .i64])], (.one (.one (.b))), true⟩, .r ⟨[0, 1, 2], 0, [], [], false, [], [], []⟩ R_ko⟩
def E_kp : Entry := ⟨.d ⟨[(.g [.i .i64, .i .i64, .i .i64, .s, .s, .i .i64])], (.one (.one (.b))), true⟩, .r ⟨[0, 1, 2, 4, 5, 20, 35], 0, [], [], false, [], [], []⟩ R_kp⟩
def E_kq : Entry := ⟨.d ⟨[(.one (.s))], (.one (.one (.b))), true⟩, .r ⟨[0, 2, 3, 4, 8, 16, 22], 0, [], [(3, ⟨[4, 3], [], [], [], []⟩)], false, [], [], []⟩ R_kq⟩
def E_kr : Entry := ⟨.d ⟨[(.one (.s))], (.one (.one (.b))), true⟩, .r ⟨[0, 2, 3, 7, 11, 19], 0, [], [(4, ⟨[3], [], [], [], []⟩)], false, [], [], []⟩ R_kr⟩
def E_ks : Entry := ⟨.d ⟨[(.one (.s))], (.one (.one (.b))), true⟩, .r ⟨[0, 2], 0, [], [], false, [], [], []⟩ R_ks⟩
def E_kt : Entry := ⟨.d ⟨[(.g [.s, .s])], (.one (.one (.b))), true⟩, .r ⟨[0, 1, 2, 3, 14, 19, 28], 0, [], [(4, ⟨[3], [], [], [], []⟩)], false, [], [], []⟩ R_kt⟩
def E_ku : Entry := ⟨.d ⟨[(.g [.i .i64, .s, .s, .s])], (.one (.one (.b))), true⟩, .r ⟨[0, 1, 2], 0, [], [], false, [], [], []⟩ R_ku⟩
def E_kv : Entry := ⟨.x ⟨[], [], [], (.g [(.o 0 (.v 0)), (.o 1 (.v 1)), (.d (aI 2))]), [(.arr 3 1 (.v 0) false true), (.arr 3 1 (.v 1) false true)], [.s, .s, .i .i64], false⟩, .r ⟨[0], 0, [], [], false, [], [], []⟩ R_kv⟩
def E_kw : Entry := ⟨.x ⟨[(.d (aI 0))], [], [.i .i64], (.g [(.o 0 (.v 0)), (.o 1 (.v 1)), (.d (aI 2))]), [(.arr 3 1 (.v 0) false true), (.arr 3 1 (.v 1) false true)], [.s, .s, .i .i64], false⟩, .r ⟨[0, 2, 3, 6], 0, [(999999, ⟨(.cell 32 0), 900000, 3, 1, false, false⟩), (999999, ⟨(.cell 32 1), 900001, 3, 1, false, false⟩)], [], false, [], [], []⟩ R_kw⟩
def E_kx : Entry := ⟨.x ⟨[(.g [(.d (aS 0)), (.d (aS 1)), (.d (aI 2))]), (.g [(.d (aS 3)), (.d (aS 4)), (.d (aI 5))]), (.d (aI 6))], [], [.s, .s, .i .i64, .s, .s, .i .i64, .i .i64], (.g [(.o 0 (.v 0)), (.o 1 (.v 1)), (.d (aI 2))]), [(.arr 3 1 (.v 0) false true), (.arr 3 1 (.v 1) false true)], [.s, .s, .i .i64], false⟩, .r ⟨[0, 1, 2, 3, 4, 6, 7, 8, 9, 12, 33], 0, [], [(7, ⟨[9], [], [161], [], []⟩), (3, ⟨[8], [], [160], [], []⟩)], false, [], [], []⟩ R_kx⟩
def E_ky : Entry := ⟨.x ⟨[(.d (aS 0))], [], [.s], (.o 0 (.v 0)), [(.arr 139 3 (.v 0) false true)], [.s], false⟩, .r ⟨[0, 2, 3, 4, 9], 0, [], [(3, ⟨[4], [], [80], [], []⟩)], false, [], [], []⟩ R_ky⟩
def E_kz : Entry := ⟨.d ⟨[(.g [.s, .s, .i .i64])], (.one (.one (.b))), true⟩, .r ⟨[0, 1, 2], 0, [], [], false, [], [], []⟩ R_kz⟩
def E_k10 : Entry := ⟨.x ⟨[(.g [(.d (aS 0)), (.d (aS 1)), (.d (aI 2))]), (.d (aS 3))], [], [.s, .s, .i .i64, .s], (.g [(.o 0 (.v 0)), (.o 1 (.v 1)), (.d (aI 2))]), [(.arr 3 1 (.v 0) false true), (.arr 3 1 (.v 1) false true)], [.s, .s, .i .i64], false⟩, .r ⟨[0, 1, 2, 4, 5, 6, 35, 46, 62], 0, [(999999, ⟨(.cell 64 0), 900000, 3, 1, false, false⟩), (999999, ⟨(.cell 64 1), 900001, 3, 1, false, false⟩)], [(5, ⟨[6], [(80, 2)], [592, 608], [], []⟩)], false, [], [], []⟩ R_k10⟩
def E_k11 : Entry := ⟨.x ⟨[(.g [(.d (aS 0)), (.d (aS 1)), (.d (aI 2))])], [], [.s, .s, .i .i64], (.g [(.o 0 (.v 0)), (.o 1 (.v 1)), (.d (aI 2))]), [(.arr 3 1 (.v 0) false true), (.arr 3 1 (.v 1) false true)], [.s, .s, .i .i64], false⟩, .r ⟨[0, 1, 2, 3], 0, [], [], false, [], [], []⟩ R_k11⟩
def E_k12 : Entry := ⟨.x ⟨[(.d (aS 0)), (.d (aS 1)), (.d (aS 2))], [], [.s, .s, .s], (.g [(.o 0 (.v 0)), (.o 1 (.v 1)), (.o 2 (.v 2)), (.d (aB 3))]), [(.arr 139 3 (.v 0) false true), (.arr 139 3 (.v 1) false true), (.arr 139 3 (.v 2) false true)], [.s, .s, .s, .b], false⟩, .r ⟨[0, 1, 2, 6, 7, 8, 15], 0, [(3, ⟨(.cell 112 1), 121, 139, 3, false, false⟩)], [(3, ⟨[8], [], [121], [], []⟩)], false, [], [], []⟩ R_k12⟩
def E_k13 : Entry := ⟨.x ⟨[(.d (aS 0)), (.d (aI 1)), (.d (aS 2)), (.d (aS 3)), (.d (aS 4))], [], [.s, .i .i64, .s, .s, .s], (.o 0 (.v 0)), [(.arr 169 4 (.v 0) false true)], [.s], false⟩, .r ⟨[0, 1, 2, 3, 4, 10, 11, 12, 13, 14, 15, 20, 29, 39, 45, 80], 0, [], [(2, ⟨[11, 4, 2], [], [], [], []⟩)], false, [], [], []⟩ R_k13⟩
def E_k14 : Entry := ⟨.x ⟨[(.d (aS 0))], [], [.s], (.o 0 (.v 0)), [(.arr 169 4 (.v 0) false true)], [.s], false⟩, .r ⟨[0, 2, 5], 0, [], [], false, [], [], []⟩ R_k14⟩
def E_k15 : Entry := ⟨.x ⟨[(.d (aS 0)), (.d (aS 1))], [], [.s, .s], (.o 0 (.v 0)), [(.arr 4 1 (.v 0) false true)], [.s], false⟩, .r ⟨[0, 1, 4, 5, 6, 7, 14, 18, 29], 0, [], [(3, ⟨[6], [], [128], [], []⟩), (6, ⟨[7], [], [128], [], []⟩)], false, [], [], []⟩ R_k15⟩
def E_k16 : Entry := ⟨.x ⟨[(.g [(.d (aS 0)), (.d (aS 1)), (.d (aI 2))])], [], [.s, .s, .i .i64], (.o 0 (.v 0)), [(.arr 3 1 (.v 0) false true)], [.s], false⟩, .r ⟨[0, 1, 2, 3, 4, 5, 11, 23, 33], 0, [], [(4, ⟨[5, 4], [], [96], [], []⟩)], false, [], [], []⟩ R_k16⟩
def E_k17 : Entry := ⟨.d ⟨[(.one (.s)), (.one (.s))], (.one (.one (.b))), true⟩, .r ⟨[0, 1, 4, 5, 10, 14, 25], 0, [], [(4, ⟨[5], [], [], [], []⟩)], false, [], [], []⟩ R_k17⟩
def E_k18 : Entry := ⟨.d ⟨[(.one (.s)), (.one (.s))], (.one (.one (.i .i64))), true⟩, .r ⟨[0, 1, 4, 5, 9, 17], 0, [], [(2, ⟨[5], [], [], [], []⟩)], false, [], [], []⟩ R_k18⟩
def E_k19 : Entry := ⟨.x ⟨[(.d (aS 0))], [], [.s], (.t [(.o 0 (.v 0)), (.o 1 (.v 1))]), [(.arr 23 1 (.v 0) false true), (.arr 4 1 (.v 1) false true)], [.s, .s], false⟩, .r ⟨[0, 2, 3, 4, 5, 6, 7, 8, 9, 10, 11, 15, 27, 38, 61, 83], 0, [], [(8, ⟨[7], [], [192, 208], [], []⟩), (12, ⟨[9], [], [192, 208], [], []⟩), (16, ⟨[10], [], [192], [], []⟩), (4, ⟨[6], [], [192], [], []⟩)], false, [], [], []⟩ R_k19⟩
def E_k1a : Entry := ⟨.d ⟨[(.g [.i .i64, .s, .s, .s]), (.g [.b, .b, .i .i64, .s, .s, .s])], (.one (.g [.s, .s])), false⟩, .r ⟨[0, 1, 2, 3, 4], 0, [], [], false, [], [], []⟩ R_k1a⟩
def E_k1b : Entry := ⟨.d ⟨[(.one (.s))], (.one (.one (.b))), true⟩, .r ⟨[0, 2, 3, 7, 15], 0, [], [(2, ⟨[3], [], [], [], []⟩)], false, [], [], []⟩ R_k1b⟩
def E_k1c : Entry := ⟨.d ⟨[(.one (.s)), (.one (.s))], (.one (.one (.i .i64))), true⟩, .r ⟨[0, 1, 4, 5, 6, 8], 0, [], [(3, ⟨[6, 5], [], [], [], []⟩)], false, [], [], []⟩ R_k1c⟩
def E_k1d : Entry := ⟨.d ⟨[(.g [.s, .s]), (.one (.s)), (.one (.i .i64)), (.one (.s))], (.one (.one (.b))), true⟩, .r ⟨[0, 1, 2, 3, 4, 8, 9, 31, 35, 56], 0, [], [(4, ⟨[9], [], [], [], []⟩)], false, [], [], []⟩ R_k1d⟩
def E_k1e : Entry := ⟨.d ⟨[(.one (.s)), (.one (.s))], (.one (.one (.b))), true⟩, .r ⟨[0, 1, 4, 5, 7, 20], 0, [], [(2, ⟨[5], [], [], [], []⟩)], false, [], [], []⟩ R_k1e⟩
def E_k1f : Entry := ⟨.d ⟨[(.one (.i .i64))], (.one (.one (.d))), false⟩, .m digitsF⟩
def E_k1g : Entry := ⟨.d ⟨[(.g [.i .i64, .s])], (.one (.one (.d))), false⟩, .r ⟨[0, 1, 2, 3, 4, 5, 36, 46], 0, [], [(6, ⟨[5, 4], [], [], [], []⟩)], false, [], [], []⟩ R_k1g⟩
def E_k1h : Entry := ⟨.d ⟨[(.g [.i .i64, .s])], (.one (.one (.b))), true⟩, .r ⟨[0, 1, 2], 0, [], [], false, [], [], []⟩ R_k1h⟩
def E_k1i : Entry := ⟨.d ⟨[(.g [.i .i64, .s, .s, .s]), (.one (.s))], (.one (.one (.b))), true⟩, .r ⟨[0, 1, 2, 4, 5, 10, 14, 74], 0, [], [(4, ⟨[5], [], [], [], []⟩)], false, [], [], []⟩ R_k1i⟩
def E_k1j : Entry := ⟨.d ⟨[(.g [.i .i64, .s, .s, .s]), (.one (.s)), (.one (.s)), (.g [.b, .b, .i .i64, .s, .s, .s]), (.one (.i .i64))], (.one (.one (.b))), true⟩, .r ⟨[0, 1, 2, 3, 4, 5, 8, 10], 0, [], [], false, [], [], []⟩ R_k1j⟩
def E_k1k : Entry := ⟨.d ⟨[(.g [.i .i64, .s, .s, .s]), (.g [.b, .b, .i .i64, .s, .s, .s]), (.one (.i .i64))], (.one (.one (.b))), true⟩, .r ⟨[0, 1, 2, 3, 4, 6, 7, 8, 20], 0, [], [], false, [], [], []⟩ R_k1k⟩
def E_k1l : Entry := ⟨.d ⟨[(.one (.s))], (.one (.one (.b))), true⟩, .r ⟨[0, 2], 0, [], [], false, [], [], []⟩ R_k1l⟩
def E_k1m : Entry := ⟨.d ⟨[(.g [.i .i64, .s, .s, .s]), (.g [.i .i64, .i .i64, .i .i64, .s])], (.one (.one (.b))), true⟩, .r ⟨[0, 1, 2, 3, 4], 0, [], [], false, [], [], []⟩ R_k1m⟩
def E_k1n : Entry := ⟨.d ⟨[(.g [.i .i64, .s, .s, .s]), (.g [.i .i64, .i .i64, .i .i64, .s])], (.one (.one (.b))), true⟩, .r ⟨[0, 1, 2, 3, 4], 0, [], [], false, [], [], []⟩ R_k1n⟩
def E_k1o : Entry := ⟨.x ⟨[(.d (aS 0)), (.d (aS 1))], [], [.s, .s], (.o 0 (.v 0)), [(.arr 3 1 (.v 0) false true)], [.s], false⟩, .r ⟨[0, 1, 4, 5, 6, 9], 0, [], [(3, ⟨[6], [], [112], [], []⟩)], false, [], [], []⟩ R_k1o⟩
def E_k1p : Entry := ⟨.d ⟨[(.g [.s, .s, .i .i64]), (.one (.s)), (.one (.s))], (.one (.one (.i .i64))), true⟩, .r ⟨[0, 1, 2, 3, 6, 7, 8, 9, 13, 29], 0, [], [(7, ⟨[9, 7], [], [], [], []⟩), (3, ⟨[8, 7], [], [], [], []⟩)], false, [], [], []⟩ R_k1p⟩
def E_k1q : Entry := ⟨.d ⟨[(.g [.s, .s]), (.one (.i .i64))], (.one (.one (.i .i64))), true⟩, .r ⟨[0, 1, 2, 4, 5, 6, 11, 16], 0, [], [(3, ⟨[6, 5], [], [], [], []⟩)], false, [], [], []⟩ R_k1q⟩
def E_k1r : Entry := ⟨.d ⟨[(.g [.s, .s]), (.one (.s)), (.one (.i .i64)), (.one (.s)), (.g [.s, .s, .i .i64]), (.one (.s))], (.tup [(.one (.i .i64)), (.one (.i .i64)), (.one (.b))]), true⟩, .r ⟨[0, 1, 2, 3, 4, 5, 6, 10, 12, 13, 14, 15, 16, 48, 61, 67], 0, [], [], false, [], [], []⟩ R_k1r⟩
def E_k1s : Entry := ⟨.d ⟨[(.g [.s, .s]), (.one (.s)), (.one (.i .i64)), (.one (.s)), (.g [.s, .s, .s, .b]), (.one (.s))], (.one (.one (.b))), true⟩, .r ⟨[0, 1, 2, 3, 4, 5, 6, 10, 12, 13, 14, 16, 21, 44], 0, [], [(2, ⟨[13], [], [], [], []⟩)], false, [], [], []⟩ R_k1s⟩
def E_k1t : Entry := ⟨.x ⟨[(.g [(.d (aS 0)), (.d (aS 1))]), (.d (aS 2)), (.g [(.d (aS 3)), (.d (aS 4)), (.d (aS 5)), (.d (aB 6))]), (.d (aS 7))], [], [.s, .s, .s, .s, .s, .s, .b, .s], (.t [(.o 0 (.v 0)), (.d (aB 1))]), [(.arr 3 1 (.v 0) false true)], [.s, .b], false⟩, .r ⟨[0, 1, 2, 3, 4, 6, 8, 9, 10, 11, 12, 15, 34], 0, [], [(3, ⟨[11], [], [208], [], []⟩)], false, [], [], []⟩ R_k1t⟩
def E_k1u : Entry := ⟨.d ⟨[(.g [.s, .s]), (.one (.s)), (.one (.i .i64)), (.one (.s))], (.one (.one (.i .i64))), true⟩, .r ⟨[0, 1, 2, 3, 4, 8, 9, 10, 11, 12, 13, 15, 38, 48], 0, [], [(3, ⟨[10, 9], [], [], [], []⟩)], false, [], [], []⟩ R_k1u⟩
def E_k1v : Entry := ⟨.x ⟨[(.g [(.d (aS 0)), (.d (aS 1))]), (.d (aS 2)), (.d (aS 3)), (.d (aI 4)), (.d (aS 5)), (.g [(.d (aS 6)), (.d (aS 7)), (.d (aS 8)), (.d (aB 9))]), (.d (aS 10))], [], [.s, .s, .s, .s, .i .i64, .s, .s, .s, .s, .b, .s], (.t [(.g [(.d (aI 0)), (.o 0 (.v 1))]), (.o 1 (.v 2)), (.d (aB 3))]), [(.arr 3 1 (.v 1) false true), (.arr 3 1 (.v 2) false true)], [.i .i64, .s, .s, .b], false⟩, .r ⟨[0, 1, 2, 3, 4, 5, 6, 7, 12, 14, 15, 16, 17, 18, 19, 20, 21, 23, 45, 54, 55, 61, 72, 82], 0, [(999999, ⟨(.cell 224 1), 900000, 3, 1, false, false⟩)], [(16, ⟨[21], [], [1232], [], []⟩)], false, [], [], []⟩ R_k1v⟩
def E_k1w : Entry := ⟨.x ⟨[(.d (aS 0)), (.d (aS 1)), (.d (aS 2)), (.g [(.d (aS 3)), (.d (aS 4))]), (.d (aI 5)), (.d (aS 6)), (.d (aI 7)), (.d (aS 8))], [], [.s, .s, .s, .s, .s, .i .i64, .s, .i .i64, .s], (.t [(.g [(.d (aI 0)), (.o 0 (.v 1))]), (.o 1 (.v 2)), (.d (aB 3))]), [(.arr 3 1 (.v 1) false true), (.arr 3 1 (.v 2) false true)], [.i .i64, .s, .s, .b], false⟩, .r ⟨[0, 1, 2, 3, 4, 5, 6, 7, 11, 16, 17, 18, 19, 20, 29, 41], 0, [(999999, ⟨(.cell 256 1), 900000, 3, 1, false, false⟩)], [(3, ⟨[20], [], [], [], []⟩)], false, [], [], []⟩ R_k1w⟩
def E_k1x : Entry := ⟨.x ⟨[(.d (aS 0)), (.g [(.d (aS 1)), (.d (aS 2))]), (.d (aI 3)), (.d (aS 4)), (.d (aI 5)), (.d (aS 6))], [], [.s, .s, .s, .i .i64, .s, .i .i64, .s], (.t [(.g [(.d (aI 0)), (.o 0 (.v 1))]), (.o 1 (.v 2)), (.d (aB 3))]), [(.arr 3 1 (.v 1) false true), (.arr 3 1 (.v 2) false true)], [.i .i64, .s, .s, .b], false⟩, .r ⟨[0, 1, 2, 3, 4, 5, 7, 12, 13, 14, 15, 16, 32, 51], 0, [(999999, ⟨(.cell 192 1), 900000, 3, 1, false, false⟩)], [], false, [], [], []⟩ R_k1x⟩
def E_k1y : Entry := ⟨.d ⟨[(.g [.i .i64, .s, .s, .s]), (.g [.b, .b, .i .i64, .s, .s, .s]), (.one (.i .i64)), (.g [.i .i64, .i .i64, .i .i64, .s])], (.one (.one (.b))), true⟩, .r ⟨[0, 1, 2, 3, 4, 5, 7, 8, 11, 31], 0, [], [], false, [], [], []⟩ R_k1y⟩
def E_k1z : Entry := ⟨.d ⟨[(.one (.i .i64)), (.one (.i .i64)), (.one (.i .i64))], (.one (.one (.b))), true⟩, .r ⟨[0, 1, 2, 6], 0, [], [], false, [], [], []⟩ R_k1z⟩
def E_k20 : Entry := ⟨.d ⟨[(.one (.s)), (.one (.d))], (.one (.one (.i .i64))), true⟩, .r ⟨[0, 1, 4, 5, 7, 8, 9, 16], 0, [], [(2, ⟨[8], [], [], [], []⟩)], false, [], [], []⟩ R_k20⟩
def E_k21 : Entry := ⟨.d ⟨[(.one (.s)), (.one (.d))], (.one (.one (.b))), true⟩, .r ⟨[0, 1, 4], 0, [], [], false, [], [], []⟩ R_k21⟩
def E_k22 : Entry := ⟨.d ⟨[(.one (.i .i64)), (.one (.d))], (.one (.one (.b))), true⟩, .r ⟨[0, 1, 3], 0, [], [], false, [], [], []⟩ R_k22⟩
def E_k23 : Entry := ⟨.d ⟨[(.one (.s)), (.one (.d))], (.one (.one (.i .i64))), true⟩, .r ⟨[0, 1, 4, 5, 7, 8, 9, 16], 0, [], [(2, ⟨[8], [], [], [], []⟩)], false, [], [], []⟩ R_k23⟩
def E_k24 : Entry := ⟨.d ⟨[(.one (.s)), (.one (.d))], (.one (.one (.b))), true⟩, .r ⟨[0, 1, 4], 0, [], [], false, [], [], []⟩ R_k24⟩
def E_k25 : Entry := ⟨.d ⟨[(.one (.s)), (.one (.i .i64)), (.one (.i .i64))], (.one (.one (.b))), true⟩, .r ⟨[0, 1, 2, 5, 6], 0, [], [], false, [], [], []⟩ R_k25⟩
def E_k26 : Entry := ⟨.d ⟨[(.g [.s, .s, .i .i64])], (.one (.one (.b))), true⟩, .r ⟨[0, 1, 2], 0, [], [], false, [], [], []⟩ R_k26⟩
def E_k27 : Entry := ⟨.d ⟨[(.one (.s)), (.one (.s))], (.one (.one (.b))), true⟩, .r ⟨[0, 1, 4, 5, 10, 12, 13, 14, 24], 0, [], [(4, ⟨[13], [], [], [], []⟩)], false, [], [], []⟩ R_k27⟩
def E_k28 : Entry := ⟨.d ⟨[(.g [.s, .s, .i .i64]), (.g [.s, .s, .i .i64])], (.one (.one (.b))), true⟩, .r ⟨[0, 1, 2, 3, 4], 0, [], [], false, [], [], []⟩ R_k28⟩
def E_k29 : Entry := ⟨.d ⟨[(.g [.i .i64, .i .i64, .i .i64, .s, .s, .i .i64])], (.one (.one (.b))), true⟩, .r ⟨[0, 1, 2, 4, 5, 20, 35, 50], 0, [], [], false, [], [], []⟩ R_k29⟩
def E_k2a : Entry := ⟨.d ⟨[(.one (.s))], (.one (.one (.b))), true⟩, .r ⟨[0, 2, 3, 5, 6, 7, 8, 9, 14, 17], 0, [], [(3, ⟨[8, 3], [], [], [], []⟩)], false, [], [], []⟩ R_k2a⟩
def E_k2b : Entry := ⟨.d ⟨[(.one (.s))], (.one (.one (.b))), true⟩, .r ⟨[0, 2], 0, [], [], false, [], [], []⟩ R_k2b⟩
def E_k2c : Entry := ⟨.d ⟨[(.one (.s))], (.one (.one (.b))), true⟩, .r ⟨[0, 2], 0, [], [], false, [], [], []⟩ R_k2c⟩
def E_k2d : Entry := ⟨.d ⟨[(.g [.i .i64, .s, .s, .s]), (.one (.s))], (.one (.g [.s, .s])), false⟩, .r ⟨[0, 1, 2, 4], 0, [], [], false, [], [], []⟩ R_k2d⟩
def E_k2e : Entry := ⟨.d ⟨[(.one (.i .i64))], (.one (.one (.b))), true⟩, .r ⟨[0, 2], 0, [], [], false, [], [], []⟩ R_k2e⟩
def E_k2f : Entry := ⟨.d ⟨[(.one (.s))], (.one (.one (.b))), true⟩, .r ⟨[0, 2], 0, [], [], false, [], [], []⟩ R_k2f⟩
def E_k2g : Entry := ⟨.d ⟨[(.g [.s, .s])], (.one (.one (.b))), true⟩, .r ⟨[0, 1, 2, 3], 0, [], [], false, [], [], []⟩ R_k2g⟩
def E_k2h : Entry := ⟨.d ⟨[(.g [.i .i64, .s, .s, .s])], (.one (.one (.b))), true⟩, .r ⟨[0, 1, 2], 0, [], [], false, [], [], []⟩ R_k2h⟩
def E_k2i : Entry := ⟨.x ⟨[], [], [], (.g [(.o 0 (.v 0)), (.o 1 (.v 1)), (.d (aI 2))]), [(.arr 3 1 (.v 0) false true), (.arr 3 1 (.v 1) false true)], [.s, .s, .i .i64], false⟩, .r ⟨[0], 0, [], [], false, [], [], []⟩ R_k2i⟩
def E_k2j : Entry := ⟨.x ⟨[(.d (aI 0))], [], [.i .i64], (.g [(.o 0 (.v 0)), (.o 1 (.v 1)), (.d (aI 2))]), [(.arr 3 1 (.v 0) false true), (.arr 3 1 (.v 1) false true)], [.s, .s, .i .i64], false⟩, .r ⟨[0, 2, 3, 6], 0, [(999999, ⟨(.cell 32 0), 900000, 3, 1, false, false⟩), (999999, ⟨(.cell 32 1), 900001, 3, 1, false, false⟩)], [], false, [], [], []⟩ R_k2j⟩
def E_k2k : Entry := ⟨.x ⟨[(.d (aS 0))], [], [.s], (.o 0 (.v 0)), [(.arr 3 1 (.v 0) false true)], [.s], false⟩, .r ⟨[0, 2, 4], 0, [(999999, ⟨(.slot 2), 900000, 3, 1, false, false⟩)], [], false, [], [], []⟩ R_k2k⟩
def E_k2l : Entry := ⟨.x ⟨[(.g [(.d (aS 0)), (.d (aS 1)), (.d (aI 2))])], [], [.s, .s, .i .i64], (.g [(.o 0 (.v 0)), (.o 1 (.v 1)), (.d (aI 2))]), [(.arr 3 1 (.v 0) false true), (.arr 3 1 (.v 1) false true)], [.s, .s, .i .i64], false⟩, .r ⟨[0, 1, 2], 0, [], [], false, [], [], []⟩ R_k2l⟩
def E_k2m : Entry := ⟨.x ⟨[(.d (aS 0))], [], [.s], (.o 0 (.v 0)), [(.arr 139 3 (.v 0) true true)], [.s], false⟩, .r ⟨[0, 2, 3, 5, 6, 7, 8, 9], 0, [(3, ⟨(.slot 3), 63, 139, 3, true, false⟩)], [(3, ⟨[8], [], [63], [], []⟩)], true, [], [], []⟩ R_k2m⟩
def E_k2n : Entry := ⟨.d ⟨[(.g [.s, .s, .i .i64])], (.one (.one (.b))), true⟩, .r ⟨[0, 1, 2], 0, [], [], false, [], [], []⟩ R_k2n⟩
def E_k2o : Entry := ⟨.d ⟨[(.one (.s)), (.one (.d))], (.one (.one (.i .i64))), true⟩, .r ⟨[0, 1, 4, 5, 7, 8, 9, 16], 0, [], [(2, ⟨[8], [], [], [], []⟩)], false, [], [], []⟩ R_k2o⟩
def E_k2p : Entry := ⟨.d ⟨[(.one (.s)), (.one (.d))], (.one (.one (.b))), true⟩, .r ⟨[0, 1, 4], 0, [], [], false, [], [], []⟩ R_k2p⟩
def E_k2q : Entry := ⟨.d ⟨[(.g [.s, .s, .i .i64])], (.one (.one (.b))), true⟩, .r ⟨[0, 1, 2], 0, [], [], false, [], [], []⟩ R_k2q⟩
def E_k2r : Entry := ⟨.x ⟨[(.p 0 0), (.g [(.d (aS 3)), (.d (aS 4)), (.d (aI 5))]), (.d (aI 6))], [(.box [(.o 1 (.v 0)), (.o 2 (.v 1)), (.d (aI 2))]), (.arr 3 1 (.v 0) false true), (.arr 3 1 (.v 1) false true)], [.s, .s, .i .i64, .s, .s, .i .i64, .i .i64], (.t []), [(.box [(.o 1 (.v 1)), (.o 2 (.v 2)), (.d (aI 0))]), (.arr 3 1 (.v 1) false true), (.arr 3 1 (.v 2) false true)], [.i .i64, .s, .s], false⟩, .r ⟨[0, 1, 2, 4, 6, 7, 8, 9, 11, 12, 13, 14, 32, 33, 34, 35], 3, [], [(7, ⟨[34], [], [2], [], []⟩), (2, ⟨[13], [], [1], [], []⟩)], false, [], [], []⟩ R_k2r⟩
def E_k2s : Entry := ⟨.x ⟨[(.g [(.o 0 (.v 0)), (.o 1 (.v 1)), (.d (aI 2))])], [(.arr 3 1 (.v 0) false true), (.arr 3 1 (.v 1) false true)], [.s, .s, .i .i64], (.g [(.o 2 (.v 0)), (.o 3 (.v 1)), (.d (aI 2))]), [.dead, .dead, (.arr 3 1 (.v 0) false true), (.arr 3 1 (.v 1) false true)], [.s, .s, .i .i64], false⟩, .r ⟨[0, 1, 2, 5], 2, [(999999, ⟨(.cell 32 0), 900000, 3, 1, false, true⟩), (999999, ⟨(.cell 32 1), 900001, 3, 1, false, true⟩), (999999, ⟨(.kill 0), 910000, 0, 0, false, false⟩), (999999, ⟨(.kill 1), 910001, 0, 0, false, false⟩)], [], false, [], [], []⟩ R_k2s⟩
def E_k2t : Entry := ⟨.x ⟨[(.g [(.d (aS 0)), (.d (aS 1)), (.d (aI 2))]), (.d (aS 3))], [], [.s, .s, .i .i64, .s], (.g [(.o 0 (.v 0)), (.o 1 (.v 1)), (.d (aI 2))]), [(.arr 3 1 (.v 0) false true), (.arr 3 1 (.v 1) false true)], [.s, .s, .i .i64], false⟩, .r ⟨[0, 1, 2, 4, 5, 6, 7, 19, 22, 23, 24, 25], 0, [(999999, ⟨(.cell 64 0), 900000, 3, 1, false, false⟩), (999999, ⟨(.cell 64 1), 900001, 3, 1, false, false⟩)], [(5, ⟨[24], [(80, 2)], [336, 337], [], []⟩)], false, [], [], []⟩ R_k2t⟩
def E_k2u : Entry := ⟨.x ⟨[(.g [(.d (aS 0)), (.d (aS 1)), (.d (aI 2))]), (.d (aI 3))], [], [.s, .s, .i .i64, .i .i64], (.g [(.o 0 (.v 0)), (.o 1 (.v 1)), (.d (aI 2))]), [(.arr 3 1 (.v 0) false true), (.arr 3 1 (.v 1) false true)], [.s, .s, .i .i64], false⟩, .r ⟨[0, 1, 2, 4, 5, 13], 0, [(999999, ⟨(.cell 64 0), 900000, 3, 1, false, false⟩), (999999, ⟨(.cell 64 1), 900001, 3, 1, false, false⟩)], [], false, [], [], []⟩ R_k2u⟩
def E_k2v : Entry := ⟨.x ⟨[(.g [(.d (aS 0)), (.d (aS 1)), (.d (aI 2))]), (.g [(.d (aS 3)), (.d (aS 4)), (.d (aI 5))])], [], [.s, .s, .i .i64, .s, .s, .i .i64], (.g [(.o 0 (.v 0)), (.o 1 (.v 1)), (.d (aI 2))]), [(.arr 3 1 (.v 0) false true), (.arr 3 1 (.v 1) false true)], [.s, .s, .i .i64], false⟩, .r ⟨[0, 1, 2, 3, 4, 5, 13], 0, [(999999, ⟨(.cell 64 0), 900000, 3, 1, false, false⟩), (999999, ⟨(.cell 64 1), 900001, 3, 1, false, false⟩)], [], false, [], [], []⟩ R_k2v⟩
def E_k2w : Entry := ⟨.x ⟨[(.p 0 0), (.d (aI 2)), (.d (aS 3)), (.d (aS 4)), (.d (aS 5))], [(.box [(.d (aS 0)), (.o 1 (.v 1))]), (.arr 169 4 (.v 1) true true)], [.s, .s, .i .i64, .s, .s, .s], (.t []), [(.box [(.d (aS 0)), (.o 1 (.v 1))]), (.arr 169 4 (.v 1) true true)], [.s, .s], false⟩, .r ⟨[0, 1, 2, 3, 4, 10, 11, 12, 13, 14, 15, 22, 34, 52, 53, 83, 98, 110, 111, 112, 113], 2, [(20, ⟨(.cell 208 1), 217, 139, 3, true, false⟩)], [(20, ⟨[112], [], [217], [], []⟩), (0, ⟨[1, 4, 3, 2], [(0, 0)], [1], [], []⟩)], true, [50, 59, 61, 62, 64, 66, 67, 69, 75, 77, 78, 86, 96, 101, 103, 104, 121, 122, 123], [], []⟩ R_k2w⟩
def E_k2x : Entry := ⟨.x ⟨[(.d (aS 0))], [], [.s], (.o 0 (.v 0)), [(.arr 169 4 (.v 0) true true)], [.s], false⟩, .r ⟨[0, 2, 3, 4, 5, 8, 12, 13], 0, [(10, ⟨(.cell 176 1), 185, 169, 4, true, false⟩), (6, ⟨(.slot 4), 79, 139, 3, true, false⟩), (999999, ⟨(.slot 2), 900000, 169, 4, true, false⟩)], [(6, ⟨[12], [], [79], [], []⟩)], true, [], [], []⟩ R_k2x⟩
def E_k2y : Entry := ⟨.d ⟨[(.one (.i .i64))], (.one (.one (.b))), true⟩, .r ⟨[0, 2], 0, [], [], false, [], [], []⟩ R_k2y⟩
def E_k2z : Entry := ⟨.x ⟨[(.g [(.d (aS 0)), (.d (aS 1)), (.d (aI 2))])], [], [.s, .s, .i .i64], (.o 0 (.v 0)), [(.arr 3 1 (.v 0) false true)], [.s], false⟩, .r ⟨[0, 1, 2, 3, 4, 5, 19, 21, 22, 23], 0, [], [(5, ⟨[22], [], [128], [], []⟩)], false, [], [], []⟩ R_k2z⟩
def E_k30 : Entry := ⟨.d ⟨[(.one (.i .i64))], (.one (.one (.b))), true⟩, .r ⟨[0, 2], 0, [], [], false, [], [], []⟩ R_k30⟩
def E_k31 : Entry := ⟨.d ⟨[(.one (.s))], (.one (.one (.b))), true⟩, .r ⟨[0, 2], 0, [], [], false, [], [], []⟩ R_k31⟩
def E_k32 : Entry := ⟨.d ⟨[(.one (.s)), (.one (.d))], (.one (.one (.b))), true⟩, .r ⟨[0, 1, 3], 0, [], [], false, [], [], []⟩ R_k32⟩
def E_k33 : Entry := ⟨.d ⟨[(.one (.s)), (.one (.d))], (.one (.one (.i .i64))), true⟩, .r ⟨[0, 1, 4, 5, 7, 8, 9, 16], 0, [], [(2, ⟨[8], [], [], [], []⟩)], false, [], [], []⟩ R_k33⟩
def E_k34 : Entry := ⟨.d ⟨[(.one (.s)), (.one (.s))], (.one (.one (.i .i64))), true⟩, .r ⟨[0, 1, 3, 4], 0, [], [], false, [], [], []⟩ R_k34⟩
def E_k35 : Entry := ⟨.x ⟨[(.d (aS 0))], [], [.s], (.o 0 (.v 0)), [(.arr 23 1 (.v 0) true true)], [.s], false⟩, .r ⟨[0, 2, 3, 4, 6, 8, 10, 11, 14, 15, 16, 25, 26, 27, 28, 32, 33, 34, 35, 39, 40, 41, 42, 55], 0, [(5, ⟨(.slot 3), 63, 23, 1, true, false⟩), (999999, ⟨(.slot 2), 900000, 23, 1, true, false⟩)], [(10, ⟨[27], [], [63], [], []⟩), (13, ⟨[34], [], [63], [], []⟩), (16, ⟨[41], [], [63], [], []⟩), (5, ⟨[15], [], [63], [], []⟩)], true, [32], [], []⟩ R_k35⟩
def E_k36 : Entry := ⟨.x ⟨[(.d (aS 0)), (.d (.da 1))], [], [.s, .d], (.o 0 (.v 0)), [(.arr 4 1 (.v 0) false true)], [.s], false⟩, .r ⟨[0, 1, 4, 5, 7, 9, 10, 12, 13, 14, 15, 19, 20, 21, 22, 26, 27, 28], 0, [], [(3, ⟨[14], [], [176], [], []⟩), (6, ⟨[21], [], [176], [], []⟩), (9, ⟨[27], [], [176], [], []⟩)], false, [], [], []⟩ R_k36⟩
def E_k37 : Entry := ⟨.x ⟨[(.d (.vc (.slice none 0 0))), (.d (aI 0))], [], [.i .i64], (.o 0 (.v 0)), [(.arr 139 3 (.v 0) false true)], [.s], false⟩, .r ⟨[0, 1, 4, 6, 16], 0, [(999999, ⟨(.slot 4), 900000, 139, 3, false, false⟩)], [], false, [], [], []⟩ R_k37⟩
def E_k38 : Entry := ⟨.x ⟨[(.d (aS 0))], [], [.s], (.o 0 (.v 0)), [(.arr 139 3 (.v 0) false true)], [.s], false⟩, .r ⟨[0, 2, 3, 5, 6, 8, 9, 10, 11, 12, 20, 25, 26, 27, 28], 0, [], [(11, ⟨[27], [], [384], [], []⟩), (3, ⟨[11, 3], [], [], [], []⟩)], false, [], [], []⟩ R_k38⟩
def E_k39 : Entry := ⟨.d ⟨[(.g [.s, .s, .i .i64]), (.one (.d))], (.one (.one (.b))), true⟩, .r ⟨[0, 1, 2, 3], 0, [], [], false, [], [], []⟩ R_k39⟩
def E_k3a : Entry := ⟨.d ⟨[(.g [.s, .s, .s, .b]), (.one (.i .i64))], (.one (.one (.b))), true⟩, .r ⟨[0, 1, 2, 3, 4], 0, [], [], false, [], [], []⟩ R_k3a⟩
def E_k3b : Entry := ⟨.x ⟨[(.d (aS 0))], [], [.s], (.o 0 (.v 0)), [(.arr 4 1 (.v 0) false true)], [.s], false⟩, .r ⟨[0, 2, 5], 0, [(999999, ⟨(.slot 2), 900000, 4, 1, false, false⟩)], [], false, [], [], []⟩ R_k3b⟩
def E_k3c : Entry := ⟨.x ⟨[(.d (aS 0))], [], [.s], (.g [(.d (aS 0)), (.o 0 (.v 1)), (.o 1 (.v 2))]), [(.arr 23 1 (.v 1) false true), (.arr 4 1 (.v 2) false true)], [.s, .s, .s], false⟩, .r ⟨[0, 2], 0, [], [], false, [], [], []⟩ R_k3c⟩
def E_k3d : Entry := ⟨.d ⟨[(.g [.i .i64, .s, .s, .s]), (.one (.i .i64))], (.one (.one (.b))), true⟩, .r ⟨[0, 1, 2, 4], 0, [], [], false, [], [], []⟩ R_k3d⟩
def E_k3e : Entry := ⟨.d ⟨[(.one (.s)), (.one (.d))], (.one (.one (.b))), true⟩, .r ⟨[0, 1, 4], 0, [], [], false, [], [], []⟩ R_k3e⟩
def E_k3f : Entry := ⟨.d ⟨[(.one (.s))], (.one (.one (.b))), true⟩, .r ⟨[0, 2], 0, [], [], false, [], [], []⟩ R_k3f⟩
def E_k3g : Entry := ⟨.d ⟨[(.one (.s))], (.one (.one (.b))), true⟩, .r ⟨[0, 2], 0, [], [], false, [], [], []⟩ R_k3g⟩
def E_k3h : Entry := ⟨.d ⟨[(.one (.s))], (.one (.one (.b))), true⟩, .r ⟨[0, 2], 0, [], [], false, [], [], []⟩ R_k3h⟩
def E_k3i : Entry := ⟨.d ⟨[(.g [.s, .s]), (.one (.s)), (.one (.i .i64)), (.one (.s))], (.one (.one (.b))), true⟩, .r ⟨[0, 1, 2, 3, 4, 8], 0, [], [], false, [], [], []⟩ R_k3i⟩
def E_k3j : Entry := ⟨.d ⟨[(.one (.s)), (.one (.s))], (.one (.one (.i .i64))), true⟩, .r ⟨[0, 1, 4, 5, 6, 7, 8, 9, 10, 11], 0, [], [(3, ⟨[10, 5], [], [], [], []⟩)], false, [], [], []⟩ R_k3j⟩
def E_k3k : Entry := ⟨.d ⟨[(.one (.s)), (.one (.d)), (.one (.d))], (.one (.one (.b))), true⟩, .r ⟨[0, 1, 2, 4], 0, [], [], false, [], [], []⟩ R_k3k⟩
def E_k3l : Entry := ⟨.d ⟨[(.g [.s, .s]), (.one (.s)), (.one (.i .i64)), (.one (.s))], (.one (.one (.b))), true⟩, .r ⟨[0, 1, 2, 3, 4, 7, 8, 9, 15], 0, [], [], false, [], [], []⟩ R_k3l⟩
def E_k3m : Entry := ⟨.d ⟨[(.g [.s, .s, .s]), (.one (.s))], (.one (.one (.b))), true⟩, .r ⟨[0, 1, 2, 4, 5, 6, 7, 8, 9, 10, 22], 0, [], [(2, ⟨[9], [], [], [], []⟩)], false, [], [], []⟩ R_k3m⟩
def E_k3n : Entry := ⟨.d ⟨[(.g [.s, .s, .s]), (.g [.s, .s]), (.one (.i .i64)), (.one (.s))], (.one (.one (.b))), true⟩, .r ⟨[0, 1, 2, 3, 4, 5, 8], 0, [], [], false, [], [], []⟩ R_k3n⟩
def E_k3o : Entry := ⟨.d ⟨[(.one (.s)), (.one (.d))], (.one (.one (.i .i64))), true⟩, .r ⟨[0, 1, 4, 5, 7, 8, 9, 16], 0, [], [(2, ⟨[8], [], [], [], []⟩)], false, [], [], []⟩ R_k3o⟩
def E_k3p : Entry := ⟨.d ⟨[(.one (.s)), (.one (.d))], (.one (.one (.b))), true⟩, .r ⟨[0, 1, 4], 0, [], [], false, [], [], []⟩ R_k3p⟩
def E_k3q : Entry := ⟨.d ⟨[(.g [.i .i64, .s])], (.one (.one (.b))), true⟩, .r ⟨[0, 1, 2], 0, [], [], false, [], [], []⟩ R_k3q⟩
def E_k3r : Entry := ⟨.x ⟨[], [], [], (.o 0 (.v 0)), [(.arr 9 1 (.v 0) false true)], [.s], false⟩, .r ⟨[0], 0, [], [], false, [], [], []⟩ R_k3r⟩
def E_k3s : Entry := ⟨.d ⟨[(.one (.s))], (.one (.one (.d))), false⟩, .m joinedF⟩
def E_k3t : Entry := ⟨.d ⟨[(.g [.i .i64, .s])], (.one (.one (.d))), false⟩, .r ⟨[0, 1, 2, 32], 0, [], [], false, [], [], []⟩ R_k3t⟩
def E_k3u : Entry := ⟨.d ⟨[(.g [.i .i64, .s])], (.one (.one (.b))), true⟩, .r ⟨[0, 1, 2], 0, [], [], false, [], [], []⟩ R_k3u⟩
def E_k3v : Entry := ⟨.d ⟨[(.g [.i .i64, .i .i64, .s])], (.one (.one (.b))), true⟩, .r ⟨[0, 1, 2, 5], 0, [], [], false, [], [], []⟩ R_k3v⟩
def E_k3w : Entry := ⟨.d ⟨[(.g [.i .i64, .i .i64, .s])], (.one (.one (.b))), true⟩, .r ⟨[0, 1, 2], 0, [], [], false, [], [], []⟩ R_k3w⟩
def E_k3x : Entry := ⟨.d ⟨[(.g [.i .i64, .s, .s, .s]), (.one (.s))], (.one (.one (.b))), true⟩, .r ⟨[0, 1, 2, 4], 0, [], [], false, [], [], []⟩ R_k3x⟩
def E_k3y : Entry := ⟨.d ⟨[(.g [.i .i64, .s, .s, .s]), (.g [.s, .s, .s]), (.g [.b, .b, .i .i64, .s, .s, .s]), (.one (.i .i64))], (.one (.one (.b))), true⟩, .r ⟨[0, 1, 2, 3, 4, 5, 6, 8], 0, [], [], false, [], [], []⟩ R_k3y⟩
def E_k3z : Entry := ⟨.d ⟨[(.g [.i .i64, .s, .s, .s]), (.g [.b, .b, .i .i64, .s, .s, .s]), (.one (.i .i64))], (.one (.one (.b))), true⟩, .r ⟨[0, 1, 2, 3, 4, 6], 0, [], [], false, [], [], []⟩ R_k3z⟩
def E_k40 : Entry := ⟨.d ⟨[(.g [.i .i64, .s, .s, .s]), (.one (.i .i64))], (.one (.one (.b))), true⟩, .r ⟨[0, 1, 2, 4], 0, [], [], false, [], [], []⟩ R_k40⟩
def E_k41 : Entry := ⟨.d ⟨[(.one (.s))], (.one (.one (.b))), true⟩, .r ⟨[0, 2], 0, [], [], false, [], [], []⟩ R_k41⟩
def E_k42 : Entry := ⟨.d ⟨[(.g [.i .i64, .s, .s, .s]), (.g [.i .i64, .i .i64, .i .i64, .s])], (.one (.one (.b))), true⟩, .r ⟨[0, 1, 2, 3, 4], 0, [], [], false, [], [], []⟩ R_k42⟩
def E_k43 : Entry := ⟨.d ⟨[(.g [.i .i64, .s, .s, .s]), (.g [.i .i64, .i .i64, .i .i64, .s])], (.one (.one (.b))), true⟩, .r ⟨[0, 1, 2, 3, 4], 0, [], [], false, [], [], []⟩ R_k43⟩
def E_k44 : Entry := ⟨.x ⟨[(.d (aS 0)), (.d (aS 1))], [], [.s, .s], (.o 0 (.v 0)), [(.arr 3 1 (.v 0) false true)], [.s], false⟩, .r ⟨[0, 1, 4, 5, 6, 7, 10, 11, 12, 13], 0, [], [(3, ⟨[12], [], [144], [], []⟩)], false, [], [], []⟩ R_k44⟩
def E_k45 : Entry := ⟨.d ⟨[(.g [.s, .s, .i .i64]), (.one (.s)), (.one (.s))], (.one (.one (.i .i64))), true⟩, .r ⟨[0, 1, 2, 3, 6], 0, [], [], false, [], [], []⟩ R_k45⟩
def E_k46 : Entry := ⟨.d ⟨[(.g [.s, .s]), (.one (.i .i64))], (.one (.one (.i .i64))), true⟩, .r ⟨[0, 1, 2, 4, 5, 6, 7, 9, 10, 11, 12, 18], 0, [], [(3, ⟨[11, 5], [], [], [], []⟩)], false, [], [], []⟩ R_k46⟩
def E_k47 : Entry := ⟨.d ⟨[(.g [.s, .s]), (.one (.s)), (.one (.i .i64)), (.one (.s)), (.g [.s, .s, .i .i64]), (.one (.s))], (.tup [(.one (.i .i64)), (.one (.i .i64)), (.one (.b))]), true⟩, .r ⟨[0, 1, 2, 3, 4, 5, 6, 10, 12, 13, 14, 15, 16, 32, 43, 49], 0, [], [], false, [], [], []⟩ R_k47⟩
def E_k48 : Entry := ⟨.d ⟨[(.g [.s, .s, .i .i64]), (.one (.d)), (.one (.d)), (.one (.d)), (.one (.d)), (.one (.d))], (.one (.one (.b))), true⟩, .r ⟨[0, 1, 2, 3, 4, 5, 6, 7, 8, 10], 0, [], [], false, [], [], []⟩ R_k48⟩
def E_k49 : Entry := ⟨.d ⟨[(.g [.s, .s, .s, .b]), (.one (.d))], (.one (.one (.b))), true⟩, .r ⟨[0, 1, 2, 3], 0, [], [], false, [], [], []⟩ R_k49⟩
def E_k4a : Entry := ⟨.d ⟨[(.one (.s)), (.one (.d))], (.one (.one (.i .i64))), true⟩, .r ⟨[0, 1, 4, 5, 7, 8, 9, 16], 0, [], [(2, ⟨[8], [], [], [], []⟩)], false, [], [], []⟩ R_k4a⟩
def E_k4b : Entry := ⟨.x ⟨[(.d (aS 0)), (.d (aS 1)), (.d (aS 2))], [], [.s, .s, .s], (.o 0 (.v 0)), [(.arr 3 1 (.v 0) false true)], [.s], false⟩, .r ⟨[0, 1, 2, 6, 7, 9, 10, 11, 12, 13], 0, [(3, ⟨(.slot 7), 127, 3, 1, false, false⟩)], [(3, ⟨[12], [], [127], [], []⟩)], false, [], [], []⟩ R_k4b⟩
def E_k4c : Entry := ⟨.x ⟨[(.d (aS 0)), (.g [(.d (aS 1)), (.d (aS 2))]), (.d (aI 3)), (.d (aS 4)), (.d (aI 5)), (.d (aS 6))], [], [.s, .s, .s, .i .i64, .s, .i .i64, .s], (.t [(.g [(.d (aI 0)), (.o 0 (.v 1))]), (.o 1 (.v 2)), (.d (aB 3))]), [(.arr 3 1 (.v 1) false true), (.arr 3 1 (.v 2) false true)], [.i .i64, .s, .s, .b], false⟩, .r ⟨[0, 1, 2, 3, 4, 5, 7, 8, 9, 11, 12, 13, 14, 15, 16, 17, 18, 19, 20, 21, 22, 23, 24, 25, 26, 43, 52, 65, 70, 98, 101, 102, 136, 140], 0, [(999999, ⟨(.cell 192 1), 900000, 3, 1, false, false⟩), (999999, ⟨(.slot 13), 900001, 3, 1, false, false⟩)], [(20, ⟨[101, 23, 22], [], [], [], []⟩)], false, [], [], []⟩ R_k4c⟩
def E_k4d : Entry := ⟨.x ⟨[(.p 0 0), (.g [(.d (aI 6)), (.d (aS 7)), (.d (aS 8)), (.d (aS 9))]), (.d (aI 10)), (.g [(.d (aI 11)), (.d (aI 12)), (.d (aI 13)), (.d (aS 14))])], [(.box [(.d (aB 0)), (.d (aB 1)), (.d (aI 2)), (.d (aS 3)), (.d (aS 4)), (.d (aS 5))])], [.b, .b, .i .i64, .s, .s, .s, .i .i64, .s, .s, .s, .i .i64, .i .i64, .i .i64, .i .i64, .s], (.t [(.g [(.d (aI 0)), (.o 1 (.v 1))]), (.o 2 (.v 2)), (.d (aB 3))]), [(.box [(.d (aB 4)), (.d (aB 5)), (.d (aI 6)), (.d (aS 7)), (.d (aS 8)), (.d (aS 9))]), (.arr 3 1 (.v 1) false true), (.arr 3 1 (.v 2) false true)], [.i .i64, .s, .s, .b, .b, .b, .i .i64, .s, .s, .s], false⟩, .r ⟨[0, 1, 2, 3, 5, 7, 8, 9, 10], 1, [], [], false, [], [], []⟩ R_k4d⟩
def E_k4e : Entry := ⟨.d ⟨[(.g [.i .i64, .s, .s, .s]), (.g [.b, .b, .i .i64, .s, .s, .s]), (.one (.i .i64)), (.g [.i .i64, .i .i64, .i .i64, .s])], (.one (.one (.b))), true⟩, .r ⟨[0, 1, 2, 3, 4, 5, 7, 8, 11, 31], 0, [], [], false, [], [], []⟩ R_k4e⟩
def E_k4f : Entry := ⟨.d ⟨[(.one (.s)), (.one (.s))], (.one (.one (.b))), true⟩, .r ⟨[0, 1, 4, 5, 10, 14, 25], 0, [], [(4, ⟨[5], [], [], [], []⟩)], false, [], [], []⟩ R_k4f⟩
def E_k4g : Entry := ⟨.d ⟨[(.g [.s, .s, .i .i64]), (.g [.s, .s, .i .i64])], (.one (.one (.b))), true⟩, .r ⟨[0, 1, 2, 3, 4, 10, 16, 21], 0, [], [], false, [], [], []⟩ R_k4g⟩
def E_k4h : Entry := ⟨.d ⟨[(.g [.i .i64, .i .i64, .i .i64, .s, .s, .i .i64]), (.g [.i .i64, .i .i64, .i .i64, .s, .s, .i .i64])], (.one (.one (.b))), true⟩, .r ⟨[0, 1, 2, 3, 4, 9, 14, 19, 25], 0, [], [], false, [], [], []⟩ R_k4h⟩
def E_k4i : Entry := ⟨.d ⟨[(.one (.s)), (.one (.s))], (.one (.one (.b))), true⟩, .r ⟨[0, 1, 4, 5, 10, 14, 26], 0, [], [(4, ⟨[5], [], [], [], []⟩)], false, [], [], []⟩ R_k4i⟩
def E_k4j : Entry := ⟨.d ⟨[(.one (.s)), (.one (.s))], (.one (.one (.b))), true⟩, .r ⟨[0, 1, 4, 5, 10, 14, 26], 0, [], [(4, ⟨[5], [], [], [], []⟩)], false, [], [], []⟩ R_k4j⟩
def E_k4k : Entry := ⟨.d ⟨[(.g [.i .i64, .s, .s, .s]), (.g [.i .i64, .s, .s, .s])], (.one (.one (.b))), true⟩, .r ⟨[0, 1, 2, 3, 4, 9, 15, 21, 27], 0, [], [], false, [], [], []⟩ R_k4k⟩
def E_k4l : Entry := ⟨.d ⟨[(.g [.i .i64, .s]), (.g [.i .i64, .s])], (.one (.one (.b))), true⟩, .r ⟨[0, 1, 2, 3, 4, 9, 15], 0, [], [], false, [], [], []⟩ R_k4l⟩
def E_k4m : Entry := ⟨.d ⟨[(.g [.i .i64, .i .i64, .s]), (.g [.i .i64, .i .i64, .s])], (.one (.one (.b))), true⟩, .r ⟨[0, 1, 2, 3, 4, 9, 15], 0, [], [], false, [], [], []⟩ R_k4m⟩
def E_k4n : Entry := ⟨.d ⟨[(.one (.s)), (.one (.s))], (.one (.one (.b))), true⟩, .r ⟨[0, 1, 4, 5, 10, 14, 26], 0, [], [(4, ⟨[5], [], [], [], []⟩)], false, [], [], []⟩ R_k4n⟩
def E_k4o : Entry := ⟨.d ⟨[(.g [.b, .b, .i .i64, .s, .s, .s]), (.g [.b, .b, .i .i64, .s, .s, .s])], (.one (.one (.b))), true⟩, .r ⟨[0, 1, 2, 3, 4, 9, 14, 19, 25, 31, 37], 0, [], [], false, [], [], []⟩ R_k4o⟩
def E_k4p : Entry := ⟨.d ⟨[(.g [.i .i64, .i .i64, .i .i64, .s]), (.g [.i .i64, .i .i64, .i .i64, .s])], (.one (.one (.b))), true⟩, .r ⟨[0, 1, 2, 3, 4, 9, 14, 19, 25], 0, [], [], false, [], [], []⟩ R_k4p⟩
def E_k4q : Entry := ⟨.d ⟨[(.g [.i .i64, .s, .s, .s]), (.g [.b, .b, .i .i64, .s, .s, .s]), (.one (.i .i64)), (.g [.i .i64, .i .i64, .i .i64, .s])], (.one (.one (.b))), true⟩, .r ⟨[0, 1, 2, 3, 4, 5, 7, 8, 9, 10, 11, 12, 13, 14, 19, 24, 29, 51, 56, 61, 66], 0, [], [], true, [], [], []⟩ R_k4q⟩
def L : Tabl := [(f_k0, E_k0), (f_k1, E_k1), (f_k2, E_k2), (f_k3, E_k3), (f_k4, E_k4), (f_k5, E_k5), (f_k6, E_k6), (f_k7, E_k7), (f_k8, E_k8), (f_k9, E_k9), (f_ka, E_ka), (f_kb, E_kb), (f_kc, E_kc), (f_kd, E_kd), (f_ke, E_ke), (f_kf, E_kf), (f_kg, E_kg), (f_kh, E_kh), (f_ki, E_ki), (f_kj, E_kj), (f_kk, E_kk), (f_kl, E_kl), (f_km, E_km), (f_kn, E_kn), (f_ko, E_ko), (f_kp, E_kp), (f_kq, E_kq), (f_kr, E_kr), (f_ks, E_ks), (f_kt, E_kt), (f_ku, E_ku), (f_kv, E_kv), (f_kw, E_kw), (f_kx, E_kx), (f_ky, E_ky), (f_kz, E_kz), (f_k10, E_k10), (f_k11, E_k11), (f_k12, E_k12), (f_k13, E_k13), (f_k14, E_k14), (f_k15, E_k15), (f_k16, E_k16), (f_k17, E_k17), (f_k18, E_k18), (f_k19, E_k19), (f_k1a, E_k1a), (f_k1b, E_k1b), (f_k1c, E_k1c), (f_k1d, E_k1d), (f_k1e, E_k1e), (f_k1f, E_k1f), (f_k1g, E_k1g), (f_k1h, E_k1h), (f_k1i, E_k1i), (f_k1j, E_k1j), (f_k1k, E_k1k), (f_k1l, E_k1l), (f_k1m, E_k1m), (f_k1n, E_k1n), (f_k1o, E_k1o), (f_k1p, E_k1p), (f_k1q, E_k1q), (f_k1r, E_k1r), (f_k1s, E_k1s), (f_k1t, E_k1t), (f_k1u, E_k1u), (f_k1v, E_k1v), (f_k1w, E_k1w), (f_k1x, E_k1x), (f_k1y, E_k1y), (f_k1z, E_k1z), (f_k20, E_k20), (f_k21, E_k21), (f_k22, E_k22), (f_k23, E_k23), (f_k24, E_k24), (f_k25, E_k25), (f_k26, E_k26), (f_k27, E_k27), (f_k28, E_k28), (f_k29, E_k29), (f_k2a, E_k2a), (f_k2b, E_k2b), (f_k2c, E_k2c), (f_k2d, E_k2d), (f_k2e, E_k2e), (f_k2f, E_k2f), (f_k2g, E_k2g), (f_k2h, E_k2h), (f_k2i, E_k2i), (f_k2j, E_k2j), (f_k2k, E_k2k), (f_k2l, E_k2l), (f_k2m, E_k2m), (f_k2n, E_k2n), (f_k2o, E_k2o), (f_k2p, E_k2p), (f_k2q, E_k2q), (f_k2r, E_k2r), (f_k2s, E_k2s), (f_k2t, E_k2t), (f_k2u, E_k2u), (f_k2v, E_k2v), (f_k2w, E_k2w), (f_k2x, E_k2x), (f_k2y, E_k2y), (f_k2z, E_k2z), (f_k30, E_k30), (f_k31, E_k31), (f_k32, E_k32), (f_k33, E_k33), (f_k34, E_k34), (f_k35, E_k35), (f_k36, E_k36), (f_k37, E_k37), (f_k38, E_k38), (f_k39, E_k39), (f_k3a, E_k3a), (f_k3b, E_k3b), (f_k3c, E_k3c), (f_k3d, E_k3d), (f_k3e, E_k3e), (f_k3f, E_k3f), (f_k3g, E_k3g), (f_k3h, E_k3h), (f_k3i, E_k3i), (f_k3j, E_k3j), (f_k3k, E_k3k), (f_k3l, E_k3l), (f_k3m, E_k3m), (f_k3n, E_k3n), (f_k3o, E_k3o), (f_k3p, E_k3p), (f_k3q, E_k3q), (f_k3r, E_k3r), (f_k3s, E_k3s), (f_k3t, E_k3t), (f_k3u, E_k3u), (f_k3v, E_k3v), (f_k3w, E_k3w), (f_k3x, E_k3x), (f_k3y, E_k3y), (f_k3z, E_k3z), (f_k40, E_k40), (f_k41, E_k41), (f_k42, E_k42), (f_k43, E_k43), (f_k44, E_k44), (f_k45, E_k45), (f_k46, E_k46), (f_k47, E_k47), (f_k48, E_k48), (f_k49, E_k49), (f_k4a, E_k4a), (f_k4b, E_k4b), (f_k4c, E_k4c), (f_k4d, E_k4d), (f_k4e, E_k4e), (f_k4f, E_k4f), (f_k4g, E_k4g), (f_k4h, E_k4h), (f_k4i, E_k4i), (f_k4j, E_k4j), (f_k4k, E_k4k), (f_k4l, E_k4l), (f_k4m, E_k4m), (f_k4n, E_k4n), (f_k4o, E_k4o), (f_k4p, E_k4p), (f_k4q, E_k4q)]
set_option maxRecDepth 100000
theorem L_k0 : L.lookup f_k0 = some E_k0 := rfl
theorem L_k1 : L.lookup f_k1 = some E_k1 := rfl
theorem L_k2 : L.lookup f_k2 = some E_k2 := rfl
theorem L_k3 : L.lookup f_k3 = some E_k3 := rfl
theorem L_k4 : L.lookup f_k4 = some E_k4 := rfl
theorem L_k5 : L.lookup f_k5 = some E_k5 := rfl
theorem L_k6 : L.lookup f_k6 = some E_k6 := rfl
theorem L_k7 : L.lookup f_k7 = some E_k7 := rfl
theorem L_k8 : L.lookup f_k8 = some E_k8 := rfl
theorem L_k9 : L.lookup f_k9 = some E_k9 := rfl
theorem L_ka : L.lookup f_ka = some E_ka := rfl
theorem L_kb : L.lookup f_kb = some E_kb := rfl
theorem L_kc : L.lookup f_kc = some E_kc := rfl
theorem L_kd : L.lookup f_kd = some E_kd := rfl
theorem L_ke : L.lookup f_ke = some E_ke := rfl
theorem L_kf : L.lookup f_kf = some E_kf := rfl
theorem L_kg : L.lookup f_kg = some E_kg := rfl
theorem L_kh : L.lookup f_kh = some E_kh := rfl
theorem L_ki : L.lookup f_ki = some E_ki := rfl
theorem L_kj : L.lookup f_kj = some E_kj := rfl
theorem L_kk : L.lookup f_kk = some E_kk := rfl
theorem L_kl : L.lookup f_kl = some E_kl := rfl
theorem L_km : L.lookup f_km = some E_km := rfl
theorem L_kn : L.lookup f_kn = some E_kn := rfl
theorem L_ko : L.lookup f_ko = some E_ko := rfl
theorem L_kp : L.lookup f_kp = some E_kp := rfl
theorem L_kq : L.lookup f_kq = some E_kq := rfl
theorem L_kr : L.lookup f_kr = some E_kr := rfl
theorem L_ks : L.lookup f_ks = some E_ks := rfl
theorem L_kt : L.lookup f_kt = some E_kt := rfl
theorem L_ku : L.lookup f_ku = some E_ku := rfl
theorem L_kv : L.lookup f_kv = some E_kv := rfl
theorem L_kw : L.lookup f_kw = some E_kw := rfl
theorem L_kx : L.lookup f_kx = some E_kx := rfl
theorem L_ky : L.lookup f_ky = some E_ky := rfl
theorem L_kz : L.lookup f_kz = some E_kz := rfl
theorem L_k10 : L.lookup f_k10 = some E_k10 := rfl
theorem L_k11 : L.lookup f_k11 = some E_k11 := rfl
theorem L_k12 : L.lookup f_k12 = some E_k12 := rfl
theorem L_k13 : L.lookup f_k13 = some E_k13 := rfl
theorem L_k14 : L.lookup f_k14 = some E_k14 := rfl
theorem L_k15 : L.lookup f_k15 = some E_k15 := rfl
theorem L_k16 : L.lookup f_k16 = some E_k16 := rfl
theorem L_k17 : L.lookup f_k17 = some E_k17 := rfl
theorem L_k18 : L.lookup f_k18 = some E_k18 := rfl
theorem L_k19 : L.lookup f_k19 = some E_k19 := rfl
theorem L_k1a : L.lookup f_k1a = some E_k1a := rfl
theorem L_k1b : L.lookup f_k1b = some E_k1b := rfl
theorem L_k1c : L.lookup f_k1c = some E_k1c := rfl
theorem L_k1d : L.lookup f_k1d = some E_k1d := rfl
theorem L_k1e : L.lookup f_k1e = some E_k1e := rfl
theorem L_k1f : L.lookup f_k1f = some E_k1f := rfl
theorem L_k1g : L.lookup f_k1g = some E_k1g := rfl
theorem L_k1h : L.lookup f_k1h = some E_k1h := rfl
theorem L_k1i : L.lookup f_k1i = some E_k1i := rfl
theorem L_k1j : L.lookup f_k1j = some E_k1j := rfl
theorem L_k1k : L.lookup f_k1k = some E_k1k := rfl
theorem L_k1l : L.lookup f_k1l = some E_k1l := rfl
theorem L_k1m : L.lookup f_k1m = some E_k1m := rfl
theorem L_k1n : L.lookup f_k1n = some E_k1n := rfl
theorem L_k1o : L.lookup f_k1o = some E_k1o := rfl
theorem L_k1p : L.lookup f_k1p = some E_k1p := rfl
theorem L_k1q : L.lookup f_k1q = some E_k1q := rfl
theorem L_k1r : L.lookup f_k1r = some E_k1r := rfl
theorem L_k1s : L.lookup f_k1s = some E_k1s := rfl
theorem L_k1t : L.lookup f_k1t = some E_k1t := rfl
theorem L_k1u : L.lookup f_k1u = some E_k1u := rfl
theorem L_k1v : L.lookup f_k1v = some E_k1v := rfl
theorem L_k1w : L.lookup f_k1w = some E_k1w := rfl
theorem L_k1x : L.lookup f_k1x = some E_k1x := rfl
theorem L_k1y : L.lookup f_k1y = some E_k1y := rfl
theorem L_k1z : L.lookup f_k1z = some E_k1z := rfl
theorem L_k20 : L.lookup f_k20 = some E_k20 := rfl
theorem L_k21 : L.lookup f_k21 = some E_k21 := rfl
theorem L_k22 : L.lookup f_k22 = some E_k22 := rfl
theorem L_k23 : L.lookup f_k23 = some E_k23 := rfl
theorem L_k24 : L.lookup f_k24 = some E_k24 := rfl
theorem L_k25 : L.lookup f_k25 = some E_k25 := rfl
theorem L_k26 : L.lookup f_k26 = some E_k26 := rfl
theorem L_k27 : L.lookup f_k27 = some E_k27 := rfl
theorem L_k28 : L.lookup f_k28 = some E_k28 := rfl
theorem L_k29 : L.lookup f_k29 = some E_k29 := rfl
theorem L_k2a : L.lookup f_k2a = some E_k2a := rfl
theorem L_k2b : L.lookup f_k2b = some E_k2b := rfl
theorem L_k2c : L.lookup f_k2c = some E_k2c := rfl
theorem L_k2d : L.lookup f_k2d = some E_k2d := rfl
theorem L_k2e : L.lookup f_k2e = some E_k2e := rfl
theorem L_k2f : L.lookup f_k2f = some E_k2f := rfl
theorem L_k2g : L.lookup f_k2g = some E_k2g := rfl
theorem L_k2h : L.lookup f_k2h = some E_k2h := rfl
theorem L_k2i : L.lookup f_k2i = some E_k2i := rfl
theorem L_k2j : L.lookup f_k2j = some E_k2j := rfl
theorem L_k2k : L.lookup f_k2k = some E_k2k := rfl
theorem L_k2l : L.lookup f_k2l = some E_k2l := rfl
theorem L_k2m : L.lookup f_k2m = some E_k2m := rfl
theorem L_k2n : L.lookup f_k2n = some E_k2n := rfl
theorem L_k2o : L.lookup f_k2o = some E_k2o := rfl
theorem L_k2p : L.lookup f_k2p = some E_k2p := rfl
theorem L_k2q : L.lookup f_k2q = some E_k2q := rfl
theorem L_k2r : L.lookup f_k2r = some E_k2r := rfl
theorem L_k2s : L.lookup f_k2s = some E_k2s := rfl
theorem L_k2t : L.lookup f_k2t = some E_k2t := rfl
theorem L_k2u : L.lookup f_k2u = some E_k2u := rfl
theorem L_k2v : L.lookup f_k2v = some E_k2v := rfl
theorem L_k2w : L.lookup f_k2w = some E_k2w := rfl
theorem L_k2x : L.lookup f_k2x = some E_k2x := rfl
theorem L_k2y : L.lookup f_k2y = some E_k2y := rfl
theorem L_k2z : L.lookup f_k2z = some E_k2z := rfl
theorem L_k30 : L.lookup f_k30 = some E_k30 := rfl
theorem L_k31 : L.lookup f_k31 = some E_k31 := rfl
theorem L_k32 : L.lookup f_k32 = some E_k32 := rfl
theorem L_k33 : L.lookup f_k33 = some E_k33 := rfl
theorem L_k34 : L.lookup f_k34 = some E_k34 := rfl
theorem L_k35 : L.lookup f_k35 = some E_k35 := rfl
theorem L_k36 : L.lookup f_k36 = some E_k36 := rfl
theorem L_k37 : L.lookup f_k37 = some E_k37 := rfl
theorem L_k38 : L.lookup f_k38 = some E_k38 := rfl
theorem L_k39 : L.lookup f_k39 = some E_k39 := rfl
theorem L_k3a : L.lookup f_k3a = some E_k3a := rfl
theorem L_k3b : L.lookup f_k3b = some E_k3b := rfl
theorem L_k3c : L.lookup f_k3c = some E_k3c := rfl
theorem L_k3d : L.lookup f_k3d = some E_k3d := rfl
theorem L_k3e : L.lookup f_k3e = some E_k3e := rfl
theorem L_k3f : L.lookup f_k3f = some E_k3f := rfl
theorem L_k3g : L.lookup f_k3g = some E_k3g := rfl
theorem L_k3h : L.lookup f_k3h = some E_k3h := rfl
theorem L_k3i : L.lookup f_k3i = some E_k3i := rfl
theorem L_k3j : L.lookup f_k3j = some E_k3j := rfl
theorem L_k3k : L.lookup f_k3k = some E_k3k := rfl
theorem L_k3l : L.lookup f_k3l = some E_k3l := rfl
theorem L_k3m : L.lookup f_k3m = some E_k3m := rfl
theorem L_k3n : L.lookup f_k3n = some E_k3n := rfl
theorem L_k3o : L.lookup f_k3o = some E_k3o := rfl
theorem L_k3p : L.lookup f_k3p = some E_k3p := rfl
theorem L_k3q : L.lookup f_k3q = some E_k3q := rfl
theorem L_k3r : L.lookup f_k3r = some E_k3r := rfl
theorem L_k3s : L.lookup f_k3s = some E_k3s := rfl
theorem L_k3t : L.lookup f_k3t = some E_k3t := rfl
theorem L_k3u : L.lookup f_k3u = some E_k3u := rfl
theorem L_k3v : L.lookup f_k3v = some E_k3v := rfl
theorem L_k3w : L.lookup f_k3w = some E_k3w := rfl
theorem L_k3x : L.lookup f_k3x = some E_k3x := rfl
theorem L_k3y : L.lookup f_k3y = some E_k3y := rfl
theorem L_k3z : L.lookup f_k3z = some E_k3z := rfl
theorem L_k40 : L.lookup f_k40 = some E_k40 := rfl
theorem L_k41 : L.lookup f_k41 = some E_k41 := rfl
theorem L_k42 : L.lookup f_k42 = some E_k42 := rfl
theorem L_k43 : L.lookup f_k43 = some E_k43 := rfl
theorem L_k44 : L.lookup f_k44 = some E_k44 := rfl
theorem L_k45 : L.lookup f_k45 = some E_k45 := rfl
theorem L_k46 : L.lookup f_k46 = some E_k46 := rfl
theorem L_k47 : L.lookup f_k47 = some E_k47 := rfl
theorem L_k48 : L.lookup f_k48 = some E_k48 := rfl
theorem L_k49 : L.lookup f_k49 = some E_k49 := rfl
theorem L_k4a : L.lookup f_k4a = some E_k4a := rfl
theorem L_k4b : L.lookup f_k4b = some E_k4b := rfl
theorem L_k4c : L.lookup f_k4c = some E_k4c := rfl
theorem L_k4d : L.lookup f_k4d = some E_k4d := rfl
theorem L_k4e : L.lookup f_k4e = some E_k4e := rfl
theorem L_k4f : L.lookup f_k4f = some E_k4f := rfl
theorem L_k4g : L.lookup f_k4g = some E_k4g := rfl
theorem L_k4h : L.lookup f_k4h = some E_k4h := rfl
theorem L_k4i : L.lookup f_k4i = some E_k4i := rfl
theorem L_k4j : L.lookup f_k4j = some E_k4j := rfl
theorem L_k4k : L.lookup f_k4k = some E_k4k := rfl
theorem L_k4l : L.lookup f_k4l = some E_k4l := rfl
theorem L_k4m : L.lookup f_k4m = some E_k4m := rfl
theorem L_k4n : L.lookup f_k4n = some E_k4n := rfl
theorem L_k4o : L.lookup f_k4o = some E_k4o := rfl
theorem L_k4p : L.lookup f_k4p = some E_k4p := rfl
theorem L_k4q : L.lookup f_k4q = some E_k4q := rfl
end Go.Proofs.YtdibnlhlngodeaaGreatDoor

/- The residual programs of the functions, and the table of them. -/
import Derived.Test.YtdibnlhlngodeaaGreatDoorTd
set_option linter.unusedVariables false
set_option linter.unusedSimpArgs false
namespace Go.Proofs.YtdibnlhlngodeaaGreatDoor
open Go Go.Tm
theorem sCA {α : Type} {a : α} {as bs : List α} : (a :: as) ++ bs = a :: (as ++ bs) := rfl
theorem sNA {α : Type} {as : List α} : [] ++ as = as := rfl
abbrev aI (k : Nat) : E := .vi .i64 (.v k)
abbrev aS (k : Nat) : E := .s (.v k)
abbrev aB (k : Nat) : E := .vb (.v k)
abbrev aZ (k : Int) : E := .vi .i64 (.z k)
abbrev f_k0 : Nat := 52
abbrev f_k1 : Nat := 203
abbrev f_k2 : Nat := 157
abbrev f_k3 : Nat := 103
abbrev f_k4 : Nat := 51
abbrev f_k5 : Nat := 10
abbrev f_k6 : Nat := 158
abbrev f_k7 : Nat := 104
abbrev f_k8 : Nat := 53
abbrev f_k9 : Nat := 18
abbrev f_ka : Nat := 56
abbrev f_kb : Nat := 205
abbrev f_kc : Nat := 160
abbrev f_kd : Nat := 110
abbrev f_ke : Nat := 55
abbrev f_kf : Nat := 13
abbrev f_kg : Nat := 161
abbrev f_kh : Nat := 111
abbrev f_ki : Nat := 57
abbrev f_kj : Nat := 20
abbrev f_kk : Nat := 63
abbrev f_kl : Nat := 98
abbrev f_km : Nat := 241
abbrev f_kn : Nat := 202
abbrev f_ko : Nat := 156
abbrev f_kp : Nat := 97
abbrev f_kq : Nat := 108
abbrev f_kr : Nat := 99
abbrev f_ks : Nat := 47
abbrev f_kt : Nat := 132
abbrev f_ku : Nat := 126
abbrev f_kv : Nat := 216
abbrev f_kw : Nat := 213
abbrev f_kx : Nat := 246
abbrev f_ky : Nat := 214
abbrev f_kz : Nat := 215
abbrev f_k10 : Nat := 217
abbrev f_k11 : Nat := 176
abbrev f_k12 : Nat := 127
abbrev f_k13 : Nat := 128
abbrev f_k14 : Nat := 129
abbrev f_k15 : Nat := 131
abbrev f_k16 : Nat := 130
abbrev f_k17 : Nat := 64
abbrev f_k18 : Nat := 70
abbrev f_k19 : Nat := 177
abbrev f_k1a : Nat := 178
abbrev f_k1b : Nat := 133
abbrev f_k1c : Nat := 134
abbrev f_k1d : Nat := 242
abbrev f_k1e : Nat := 204
abbrev f_k1f : Nat := 159
abbrev f_k1g : Nat := 109
abbrev f_k1h : Nat := 65
abbrev f_k1i : Nat := 19
abbrev f_k1j : Nat := 198
abbrev f_k1k : Nat := 148
abbrev f_k1l : Nat := 83
abbrev f_k1m : Nat := 35
abbrev f_k1n : Nat := 112
abbrev f_k1o : Nat := 206
abbrev f_k1p : Nat := 162
abbrev f_k1q : Nat := 166
abbrev f_k1r : Nat := 208
abbrev f_k1s : Nat := 165
abbrev f_k1t : Nat := 114
abbrev f_k1u : Nat := 243
abbrev f_k1v : Nat := 227
abbrev f_k1w : Nat := 244
abbrev f_k1x : Nat := 207
abbrev f_k1y : Nat := 164
abbrev f_k1z : Nat := 163
abbrev f_k20 : Nat := 113
abbrev f_k21 : Nat := 116
abbrev f_k22 : Nat := 167
abbrev f_k23 : Nat := 122
abbrev f_k24 : Nat := 115
abbrev f_k25 : Nat := 58
abbrev f_k26 : Nat := 101
abbrev f_k27 : Nat := 181
abbrev f_k28 : Nat := 149
abbrev f_k29 : Nat := 260
abbrev f_k2a : Nat := 248
abbrev f_k2b : Nat := 100
abbrev f_k2c : Nat := 237
abbrev f_k2d : Nat := 194
abbrev f_k2e : Nat := 261
abbrev f_k2f : Nat := 262
abbrev f_k2g : Nat := 263
abbrev f_k2h : Nat := 249
abbrev f_k2i : Nat := 250
abbrev f_k2j : Nat := 251
abbrev f_k2k : Nat := 222
abbrev f_k2l : Nat := 182
abbrev f_k2m : Nat := 223
abbrev f_k2n : Nat := 183
abbrev f_k2o : Nat := 224
abbrev f_k2p : Nat := 184
abbrev f_k2q : Nat := 226
abbrev f_k2r : Nat := 225
abbrev f_k2s : Nat := 185
abbrev f_k2t : Nat := 136
abbrev f_k2u : Nat := 186
abbrev f_k2v : Nat := 252
abbrev f_k2w : Nat := 228
abbrev f_k2x : Nat := 229
abbrev f_k2y : Nat := 187
abbrev f_k2z : Nat := 137
abbrev f_k30 : Nat := 67
abbrev f_k31 : Nat := 119
abbrev f_k32 : Nat := 219
abbrev f_k33 : Nat := 259
abbrev f_k34 : Nat := 247
abbrev f_k35 : Nat := 120
abbrev f_k36 : Nat := 218
abbrev f_k37 : Nat := 221
abbrev f_k38 : Nat := 220
abbrev f_k39 : Nat := 179
abbrev f_k3a : Nat := 180
abbrev f_k3b : Nat := 135
abbrev f_k3c : Nat := 209
abbrev f_k3d : Nat := 171
abbrev f_k3e : Nat := 210
abbrev f_k3f : Nat := 257
abbrev f_k3g : Nat := 258
abbrev f_k3h : Nat := 245
abbrev f_k3i : Nat := 211
abbrev f_k3j : Nat := 173
abbrev f_k3k : Nat := 172
abbrev f_k3l : Nat := 123
abbrev f_k3m : Nat := 66
abbrev f_k3n : Nat := 21
abbrev f_k3o : Nat := 199
abbrev f_k3p : Nat := 150
abbrev f_k3q : Nat := 84
abbrev f_k3r : Nat := 36
abbrev f_k3s : Nat := 61
abbrev f_k3t : Nat := 175
abbrev f_k3u : Nat := 125
abbrev f_k3v : Nat := 62
abbrev f_k3w : Nat := 22
abbrev f_k3x : Nat := 212
abbrev f_k3y : Nat := 174
abbrev f_k3z : Nat := 124
abbrev f_k40 : Nat := 60
abbrev f_k41 : Nat := 16
abbrev f_k42 : Nat := 86
abbrev f_k43 : Nat := 151
abbrev f_k44 : Nat := 85
abbrev f_k45 : Nat := 37
abbrev f_k46 : Nat := 87
abbrev f_k47 : Nat := 38
abbrev f_k48 : Nat := 88
abbrev f_k49 : Nat := 89
abbrev f_k4a : Nat := 39
abbrev f_k4b : Nat := 8

def R_k0 : R :=
 .ite (.cmp .lt (.bin .sub .i64 (.v 1) (.len (.v 0))) (.z 0))
 (
 .done [(.vi .i64 (.z (-1)))])
 (
 .done [(.vi .i64 (.bin .sub .i64 (.v 1) (.len (.v 0))))])

def R_k1 : R :=
 .i (.call f_k0 [(aS 0), (aI 3)] [.i .i64] 4) <|
 .ite (.cmp .lt (.v 4) (.z 0))
 (
 .done [(.vi .i64 (.z (-1)))])
 (
 .i (.call f_k0 [(aS 1), (aI 4)] [.i .i64] 5) <|
 .ite (.cmp .lt (.v 5) (.z 0))
 (
 .done [(.vi .i64 (.z (-1)))])
 (
 .done [(aI 5)]))

def R_k2 : R :=
 .i (.call f_k1 [(aS 3), (aS 4), (aI 5), (aI 6)] [.i .i64] 7) <|
 .ite (.cmp .lt (.v 7) (.z 0))
 (
 .done [(.vi .i64 (.z (-1)))])
 (
 .done [(aI 7)])

def R_k3 : R :=
 .ite (.cmp .lt (.bin .sub .i64 (.v 1) (.len (.v 0))) (.z 0))
 (
 .done [(.vi .i64 (.z (-1)))])
 (
 .loop 2 [(.bin .sub .i64 (.v 1) (.len (.v 0))), (.z 0)] <|
 .ite (.cmp .lt (.v 3) (.len (.v 0)))
 (
 .i (.idx (.v 0) (.v 3) (.g [.i .i64, .i .i64, .i .i64, .s, .s, .i .i64]) 4) <|
 .i (.call f_k2 [(aI 4), (aI 5), (aI 6), (aS 7), (aS 8), (aI 9), (aI 2)] [.i .i64] 10) <|
 .ite (.cmp .lt (.v 10) (.z 0))
 (
 .esc <|
 .done [(.vi .i64 (.z (-1)))])
 (
 .next [(.v 10), (.bin .add .i64 (.v 3) (.z 1))]))
 (
 .esc <|
 .done [(aI 2)]))

def R_k4 : R :=
 .ite (.cmp .lt (.bin .sub .i64 (.v 1) (.len (.v 0))) (.z 0))
 (
 .done [(.vi .i64 (.z (-1)))])
 (
 .loop 2 [(.bin .sub .i64 (.v 1) (.len (.v 0))), (.z 0)] <|
 .ite (.cmp .lt (.v 3) (.len (.v 0)))
 (
 .i (.idx (.v 0) (.v 3) (.one (.s)) 4) <|
 .i (.call f_k3 [(aS 4), (aI 2)] [.i .i64] 5) <|
 .ite (.cmp .lt (.v 5) (.z 0))
 (
 .esc <|
 .done [(.vi .i64 (.z (-1)))])
 (
 .next [(.v 5), (.bin .add .i64 (.v 3) (.z 1))]))
 (
 .esc <|
 .done [(aI 2)]))

def R_k5 : R :=
 .i (.call f_k4 [(aS 1), (aI 4)] [.i .i64] 5) <|
 .ite (.cmp .lt (.v 5) (.z 0))
 (
 .done [(.vi .i64 (.z (-1)))])
 (
 .i (.call f_k0 [(aS 2), (aI 5)] [.i .i64] 6) <|
 .ite (.cmp .lt (.v 6) (.z 0))
 (
 .done [(.vi .i64 (.z (-1)))])
 (
 .i (.call f_k0 [(aS 3), (aI 6)] [.i .i64] 7) <|
 .ite (.cmp .lt (.v 7) (.z 0))
 (
 .done [(.vi .i64 (.z (-1)))])
 (
 .done [(aI 7)])))

def R_k6 : R :=
 .i (.call f_k0 [(aS 1), (aI 2)] [.i .i64] 3) <|
 .ite (.cmp .lt (.v 3) (.z 0))
 (
 .done [(.vi .i64 (.z (-1)))])
 (
 .done [(aI 3)])

def R_k7 : R :=
 .i (.call f_k6 [(aI 1), (aS 2), (aI 3)] [.i .i64] 4) <|
 .ite (.cmp .lt (.v 4) (.z 0))
 (
 .done [(.vi .i64 (.z (-1)))])
 (
 .done [(aI 4)])

def R_k8 : R :=
 .ite (.cmp .lt (.bin .sub .i64 (.v 1) (.len (.v 0))) (.z 0))
 (
 .done [(.vi .i64 (.z (-1)))])
 (
 .loop 2 [(.bin .sub .i64 (.v 1) (.len (.v 0))), (.z 0)] <|
 .ite (.cmp .lt (.v 3) (.len (.v 0)))
 (
 .i (.idx (.v 0) (.v 3) (.g [.i .i64, .i .i64, .s]) 4) <|
 .i (.call f_k7 [(aI 4), (aI 5), (aS 6), (aI 2)] [.i .i64] 7) <|
 .ite (.cmp .lt (.v 7) (.z 0))
 (
 .esc <|
 .done [(.vi .i64 (.z (-1)))])
 (
 .next [(.v 7), (.bin .add .i64 (.v 3) (.z 1))]))
 (
 .esc <|
 .done [(aI 2)]))

def R_k9 : R :=
 .i (.call f_k0 [(aS 3), (aI 6)] [.i .i64] 7) <|
 .ite (.cmp .lt (.v 7) (.z 0))
 (
 .done [(.vi .i64 (.z (-1)))])
 (
 .i (.call f_k0 [(aS 4), (aI 7)] [.i .i64] 8) <|
 .ite (.cmp .lt (.v 8) (.z 0))
 (
 .done [(.vi .i64 (.z (-1)))])
 (
 .i (.call f_k8 [(aS 5), (aI 8)] [.i .i64] 9) <|
 .ite (.cmp .lt (.v 9) (.z 0))
 (
 .done [(.vi .i64 (.z (-1)))])
 (
 .done [(aI 9)])))

def R_ka : R :=
 .i (.chk (.cmp .le (.z 0) (.len (.v 0)))) <|
 .i (.chk (.cmp .le (.len (.v 0)) (.z 8796093022208))) <|
 .loop 1 [(.rep (.len (.v 0)) (aZ 0)), (.z 0)] <|
 .ite (.cmp .lt (.v 2) (.len (.v 0)))
 (
 .i (.idx (.v 0) (.v 2) (.one (.i .i64)) 3) <|
 .i (.chk (.cmp .le (.z 0) (.v 2))) <|
 .i (.chk (.cmp .lt (.v 2) (.len (.v 1)))) <|
 .i (.idx (.v 1) (.v 2) (.one (.i .i64)) 4) <|
 .next [(.set (.v 1) (.v 2) (aI 3)), (.bin .add .i64 (.v 2) (.z 1))])
 (
 .esc <|
 .done [(aS 1)])

def R_kb : R :=
 .i (.call f_ka [(aS 0)] [.s] 3) <|
 .i (.call f_ka [(aS 1)] [.s] 4) <|
 .done [(aS 3), (aS 4), (aI 2)]

def R_kc : R :=
 .i (.call f_kb [(aS 3), (aS 4), (aI 5)] [.s, .s, .i .i64] 6) <|
 .done [(aI 0), (aI 1), (aI 2), (aS 6), (aS 7), (aI 8)]

def R_kd : R :=
 .i (.chk (.cmp .le (.z 0) (.len (.v 0)))) <|
 .i (.chk (.cmp .le (.len (.v 0)) (.z 879609302220))) <|
 .loop 1 [(.rep (.len (.v 0)) (.g (.cons (aZ 0) (.cons (aZ 0) (.cons (aZ 0) (.cons (.s .nil) (.cons (.s .nil) (.cons (aZ 0) .nil)))))))), (.z 0)] <|
 .ite (.cmp .lt (.v 2) (.len (.v 0)))
 (
 .i (.idx (.v 0) (.v 2) (.g [.i .i64, .i .i64, .i .i64, .s, .s, .i .i64]) 3) <|
 .i (.call f_kc [(aI 3), (aI 4), (aI 5), (aS 6), (aS 7), (aI 8)] [.i .i64, .i .i64, .i .i64, .s, .s, .i .i64] 9) <|
 .i (.chk (.cmp .le (.z 0) (.v 2))) <|
 .i (.chk (.cmp .lt (.v 2) (.len (.v 1)))) <|
 .i (.idx (.v 1) (.v 2) (.g [.i .i64, .i .i64, .i .i64, .s, .s, .i .i64]) 15) <|
 .next [(.set (.v 1) (.v 2) (.g (.cons (aI 9) (.cons (aI 10) (.cons (aI 11) (.cons (aS 12) (.cons (aS 13) (.cons (aI 14) .nil)))))))), (.bin .add .i64 (.v 2) (.z 1))])
 (
 .esc <|
 .done [(aS 1)])

def R_ke : R :=
 .i (.chk (.cmp .le (.z 0) (.len (.v 0)))) <|
 .i (.chk (.cmp .le (.len (.v 0)) (.z 2932031007402))) <|
 .loop 1 [(.rep (.len (.v 0)) (.s .nil)), (.z 0)] <|
 .ite (.cmp .lt (.v 2) (.len (.v 0)))
 (
 .i (.idx (.v 0) (.v 2) (.one (.s)) 3) <|
 .i (.call f_kd [(aS 3)] [.s] 4) <|
 .i (.chk (.cmp .le (.z 0) (.v 2))) <|
 .i (.chk (.cmp .lt (.v 2) (.len (.v 1)))) <|
 .i (.idx (.v 1) (.v 2) (.one (.s)) 5) <|
 .next [(.set (.v 1) (.v 2) (aS 4)), (.bin .add .i64 (.v 2) (.z 1))])
 (
 .esc <|
 .done [(aS 1)])

def R_kf : R :=
 .i (.call f_ke [(aS 1)] [.s] 4) <|
 .i (.call f_ka [(aS 2)] [.s] 5) <|
 .i (.call f_ka [(aS 3)] [.s] 6) <|
 .done [(aI 0), (aS 4), (aS 5), (aS 6)]

def R_kg : R :=
 .i (.call f_ka [(aS 1)] [.s] 2) <|
 .done [(aI 0), (aS 2)]

def R_kh : R :=
 .i (.call f_kg [(aI 1), (aS 2)] [.i .i64, .s] 3) <|
 .done [(aI 0), (aI 3), (aS 4)]

def R_ki : R :=
 .i (.chk (.cmp .le (.z 0) (.len (.v 0)))) <|
 .i (.chk (.cmp .le (.len (.v 0)) (.z 1759218604441))) <|
 .loop 1 [(.rep (.len (.v 0)) (.g (.cons (aZ 0) (.cons (aZ 0) (.cons (.s .nil) .nil))))), (.z 0)] <|
 .ite (.cmp .lt (.v 2) (.len (.v 0)))
 (
 .i (.idx (.v 0) (.v 2) (.g [.i .i64, .i .i64, .s]) 3) <|
 .i (.call f_kh [(aI 3), (aI 4), (aS 5)] [.i .i64, .i .i64, .s] 6) <|
 .i (.chk (.cmp .le (.z 0) (.v 2))) <|
 .i (.chk (.cmp .lt (.v 2) (.len (.v 1)))) <|
 .i (.idx (.v 1) (.v 2) (.g [.i .i64, .i .i64, .s]) 9) <|
 .next [(.set (.v 1) (.v 2) (.g (.cons (aI 6) (.cons (aI 7) (.cons (aS 8) .nil))))), (.bin .add .i64 (.v 2) (.z 1))])
 (
 .esc <|
 .done [(aS 1)])

def R_kj : R :=
 .i (.call f_ka [(aS 3)] [.s] 6) <|
 .i (.call f_ka [(aS 4)] [.s] 7) <|
 .i (.call f_ki [(aS 5)] [.s] 8) <|
 .done [(aB 0), (aB 1), (aI 2), (aS 6), (aS 7), (aS 8)]

def R_kk : R :=
 .ite (.cmp .le (.v 1) (.v 0))
 (
 .done [(.vb (.cmp .le (.v 0) (.v 2)))])
 (
 .done [(.vb .ff)])

def R_kl : R :=
 .ite (.not (.cmp .eq (.len (.v 0)) (.v 1)))
 (
 .done [(.vb .ff)])
 (
 .loop 3 [(.z 0)] <|
 .ite (.cmp .lt (.v 3) (.len (.v 0)))
 (
 .i (.idx (.v 0) (.v 3) (.one (.i .i64)) 4) <|
 .i (.call f_kk [(aI 4), (.vi .i64 (.bin .sub .i64 (.z 0) (.v 2))), (aI 2)] [.b] 5) <|
 .ite (.not (.v 5))
 (
 .esc <|
 .done [(.vb .ff)])
 (
 .next [(.bin .add .i64 (.v 3) (.z 1))]))
 (
 .esc <|
 .done [(.vb .tt)]))

def R_km : R :=
 .i (.call f_kl [(aS 0), (aZ 3), (aZ 2)] [.b] 3) <|
 .ite (.v 3)
 (
 .i (.call f_kl [(aS 1), (aZ 2), (aZ 2)] [.b] 4) <|
 .ite (.v 4)
 (
 .i (.call f_kk [(aI 2), (.vi .i64 (.z (-20))), (aZ 20)] [.b] 5) <|
 .done [(aB 5)])
 (
 .done [(.vb .ff)]))
 (
 .done [(.vb .ff)])

def R_kn : R :=
 .ite (.cmp .eq (.v 0) (.z 1))
 (
 .ite (.cmp .eq (.v 1) (.z 0))
 (
 .i (.call f_kk [(aI 2), (aZ 1), (aZ 6)] [.b] 6) <|
 .ite (.v 6)
 (
 .i (.call f_km [(aS 3), (aS 4), (aI 5)] [.b] 7) <|
 .done [(aB 7)])
 (
 .done [(.vb .ff)]))
 (
 .done [(.vb .ff)]))
 (
 .ite (.cmp .eq (.v 0) (.z 2))
 (
 .i (.call f_kk [(aI 1), (aZ 0), (aZ 2)] [.b] 6) <|
 .ite (.v 6)
 (
 .ite (.cmp .eq (.v 2) (.z 0))
 (
 .i (.call f_km [(aS 3), (aS 4), (aI 5)] [.b] 7) <|
 .done [(aB 7)])
 (
 .done [(.vb .ff)]))
 (
 .done [(.vb .ff)]))
 (
 .ite (.cmp .eq (.v 0) (.z 3))
 (
 .ite (.cmp .eq (.v 1) (.z 0))
 (
 .ite (.cmp .eq (.v 2) (.z 0))
 (
 .i (.call f_km [(aS 3), (aS 4), (aI 5)] [.b] 6) <|
 .done [(aB 6)])
 (
 .done [(.vb .ff)]))
 (
 .done [(.vb .ff)]))
 (
 .ite (.cmp .eq (.v 0) (.z 4))
 (
 .ite (.cmp .eq (.v 1) (.z 0))
 (
 .ite (.cmp .eq (.v 2) (.z 0))
 (
 .ite (.cmp .eq (.bin .add .i64 (.len (.v 3)) (.len (.v 4))) (.z 0))
 (
 .done [(.vb (.cmp .eq (.v 5) (.z 0)))])
 (
 .done [(.vb .ff)]))
 (
 .done [(.vb .ff)]))
 (
 .done [(.vb .ff)]))
 (
 .done [(.vb .ff)]))))

def R_ko : R :=
 .loop 1 [(.z 0), (.z 0)] <|
 .ite (.cmp .lt (.v 2) (.len (.v 0)))
 (
 .i (.idx (.v 0) (.v 2) (.g [.i .i64, .i .i64, .i .i64, .s, .s, .i .i64]) 3) <|
 .i (.call f_kn [(aI 3), (aI 4), (aI 5), (aS 6), (aS 7), (aI 8)] [.b] 9) <|
 .ite (.not (.v 9))
 (
 .esc <|
 .done [(.vb .ff)])
 (
 .i (.idx (.v 0) (.v 2) (.g [.i .i64, .i .i64, .i .i64, .s, .s, .i .i64]) 10) <|
 .ite (.cmp .eq (.v 10) (.z 1))
 (
 .next [(.bin .add .i64 (.v 1) (.z 1)), (.bin .add .i64 (.v 2) (.z 1))])
 (
 .next [(.v 1), (.bin .add .i64 (.v 2) (.z 1))])))
 (
 .esc <|
 .ite (.cmp .le (.len (.v 0)) (.z 6))
 (
 .done [(.vb (.cmp .le (.v 1) (.z 3)))])
 (
 .done [(.vb .ff)]))

def R_kp : R :=
 .i (.call f_kk [(.vi .i64 (.len (.v 0))), (aZ 1), (aZ 4)] [.b] 1) <|
 .ite (.not (.v 1))
 (
 .done [(.vb .ff)])
 (
 .loop 2 [(.z 0)] <|
 .ite (.cmp .lt (.v 2) (.len (.v 0)))
 (
 .i (.idx (.v 0) (.v 2) (.one (.s)) 3) <|
 .i (.call f_ko [(aS 3)] [.b] 4) <|
 .ite (.not (.v 4))
 (
 .esc <|
 .done [(.vb .ff)])
 (
 .next [(.bin .add .i64 (.v 2) (.z 1))]))
 (
 .esc <|
 .done [(.vb .tt)]))

def R_kq : R :=
 .i (.call f_kl [(aS 0), (aZ 3), (aZ 10000)] [.b] 1) <|
 .done [(aB 1)]

def R_kr : R :=
 .i (.call f_kq [(aS 0)] [.b] 2) <|
 .ite (.not (.v 2))
 (
 .done [(.vb .ff)])
 (
 .i (.call f_kk [(.vi .i64 (.len (.v 1))), (aZ 1), (aZ 3)] [.b] 3) <|
 .ite (.not (.v 3))
 (
 .done [(.vb .ff)])
 (
 .loop 4 [(.z 0)] <|
 .ite (.cmp .lt (.v 4) (.len (.v 1)))
 (
 .i (.idx (.v 1) (.v 4) (.one (.i .i64)) 5) <|
 .i (.call f_kk [(aI 5), (aZ 0), (aZ 50)] [.b] 6) <|
 .ite (.not (.v 6))
 (
 .esc <|
 .done [(.vb .ff)])
 (
 .next [(.bin .add .i64 (.v 4) (.z 1))]))
 (
 .esc <|
 .done [(.vb .tt)])))

def R_ks : R :=
 .i (.call f_kk [(aI 0), (aZ 1), (aZ 4)] [.b] 4) <|
 .ite (.v 4)
 (
 .i (.call f_kp [(aS 1)] [.b] 5) <|
 .ite (.v 5)
 (
 .i (.call f_kl [(aS 3), (aZ 3), (aZ 1000)] [.b] 6) <|
 .ite (.v 6)
 (
 .i (.call f_kr [(aS 3), (aS 2)] [.b] 7) <|
 .done [(aB 7)])
 (
 .done [(.vb .ff)]))
 (
 .done [(.vb .ff)]))
 (
 .done [(.vb .ff)])

def R_kt : R :=
 .done [(.s (.cons (aZ 0) (.cons (aZ 0) (.cons (aZ 0) .nil)))), (.s (.cons (aZ 0) (.cons (aZ 0) .nil))), (aZ 0)]

def R_ku : R :=
 .i (.call f_kk [(aI 0), (aZ 0), (aZ 2)] [.b] 1) <|
 .ite (.not (.v 1))
 (
 .done [(.s .nil), (.s .nil), (aZ 0)])
 (
 .i (.call f_kt [] [.s, .s, .i .i64] 2) <|
 .i (.chk (.cmp .le (.z 0) (.v 0))) <|
 .i (.chk (.cmp .lt (.v 0) (.len (.v 2)))) <|
 .i (.idx (.v 2) (.v 0) (.one (.i .i64)) 5) <|
 .done [(.s (.set (.v 2) (.v 0) (aZ 1))), (aS 3), (aI 4)])

def R_kv : R :=
 .i (.call f_kt [] [.s, .s, .i .i64] 7) <|
 .loop 10 [(.v 7), (.z 0)] <|
 .ite (.cmp .lt (.v 11) (.z 3))
 (
 .i (.idx (.v 0) (.v 11) (.one (.i .i64)) 12) <|
 .i (.idx (.v 3) (.v 11) (.one (.i .i64)) 13) <|
 .i (.chk (.cmp .le (.z 0) (.v 11))) <|
 .i (.chk (.cmp .lt (.v 11) (.len (.v 10)))) <|
 .i (.idx (.v 10) (.v 11) (.one (.i .i64)) 14) <|
 .next [(.set (.v 10) (.v 11) (.vi .i64 (.bin .add .i64 (.v 12) (.bin .mul .i64 (.v 6) (.v 13))))), (.bin .add .i64 (.v 11) (.z 1))])
 (
 .esc <|
 .loop 12 [(.v 8), (.z 0)] <|
 .ite (.cmp .lt (.v 13) (.z 2))
 (
 .i (.idx (.v 1) (.v 13) (.one (.i .i64)) 14) <|
 .i (.idx (.v 4) (.v 13) (.one (.i .i64)) 15) <|
 .i (.chk (.cmp .le (.z 0) (.v 13))) <|
 .i (.chk (.cmp .lt (.v 13) (.len (.v 12)))) <|
 .i (.idx (.v 12) (.v 13) (.one (.i .i64)) 16) <|
 .next [(.set (.v 12) (.v 13) (.vi .i64 (.bin .add .i64 (.v 14) (.bin .mul .i64 (.v 6) (.v 15))))), (.bin .add .i64 (.v 13) (.z 1))])
 (
 .esc <|
 .done [(aS 10), (aS 12), (.vi .i64 (.bin .add .i64 (.v 2) (.bin .mul .i64 (.v 6) (.v 5))))]))

def R_kw : R :=
 .loop 1 [.nil, (.z 0)] <|
 .ite (.cmp .lt (.v 2) (.len (.v 0)))
 (
 .i (.call f_kt [] [.s, .s, .i .i64] 3) <|
 .i (.idx (.v 0) (.v 2) (.g [.s, .s, .i .i64]) 6) <|
 .i (.call f_kv [(aS 3), (aS 4), (aI 5), (aS 6), (aS 7), (aI 8), (aZ 1)] [.s, .s, .i .i64] 9) <|
 .i (.chk (.cmp .le (.len (.app (.v 1) (.cons (.g (.cons (aS 9) (.cons (aS 10) (.cons (aI 11) .nil)))) .nil))) (.z 1256584717458))) <|
 .next [(.app (.v 1) (.cons (.g (.cons (aS 9) (.cons (aS 10) (.cons (aI 11) .nil)))) .nil)), (.bin .add .i64 (.v 2) (.z 1))])
 (
 .esc <|
 .done [(aS 1)])

def R_kx : R :=
 .i (.call f_kl [(aS 0), (aZ 3), (aZ 10000000)] [.b] 3) <|
 .ite (.v 3)
 (
 .i (.call f_kl [(aS 1), (aZ 2), (aZ 10000000)] [.b] 4) <|
 .ite (.v 4)
 (
 .i (.call f_kk [(aI 2), (.vi .i64 (.z (-10000000))), (aZ 10000000)] [.b] 5) <|
 .done [(aB 5)])
 (
 .done [(.vb .ff)]))
 (
 .done [(.vb .ff)])

def R_ky : R :=
 .i (.call f_kx [(aS 0), (aS 1), (aI 2)] [.b] 4) <|
 .ite (.not (.v 4))
 (
 .done [(.s .nil), (.s .nil), (aZ 0)])
 (
 .ite (.not (.cmp .eq (.len (.v 3)) (.z 3)))
 (
 .done [(.s .nil), (.s .nil), (aZ 0)])
 (
 .i (.idx (.v 3) (.z 0) (.g [.s, .s, .i .i64]) 5) <|
 .i (.call f_kx [(aS 5), (aS 6), (aI 7)] [.b] 8) <|
 .ite (.not (.v 8))
 (
 .done [(.s .nil), (.s .nil), (aZ 0)])
 (
 .i (.idx (.v 3) (.z 1) (.g [.s, .s, .i .i64]) 9) <|
 .i (.call f_kx [(aS 9), (aS 10), (aI 11)] [.b] 12) <|
 .ite (.not (.v 12))
 (
 .done [(.s .nil), (.s .nil), (aZ 0)])
 (
 .i (.idx (.v 3) (.z 2) (.g [.s, .s, .i .i64]) 13) <|
 .i (.call f_kx [(aS 13), (aS 14), (aI 15)] [.b] 16) <|
 .ite (.not (.v 16))
 (
 .done [(.s .nil), (.s .nil), (aZ 0)])
 (
 .i (.chk (.cmp .le (.len (.v 1)) (.z 8796093022208))) <|
 .i (.head 1 (.v 1)) <|
 .i (.chk (.cmp .le (.len (.app .nil (.v 1))) (.z 8796093022208))) <|
 .loop 17 [(.cons (aZ 0) (.cons (aZ 0) (.cons (aZ 0) .nil))), (.app .nil (.v 1)), (.z 0), (.v 2)] <|
 .ite (.cmp .lt (.v 19) (.z 3))
 (
 .i (.idx (.v 3) (.v 19) (.g [.s, .s, .i .i64]) 21) <|
 .i (.idx (.v 0) (.v 19) (.one (.i .i64)) 24) <|
 .i (.call f_kv [(aS 17), (aS 18), (aI 20), (aS 21), (aS 22), (aI 23), (aI 24)] [.s, .s, .i .i64] 25) <|
 .next [(.v 25), (.v 26), (.bin .add .i64 (.v 19) (.z 1)), (.v 27)])
 (
 .esc <|
 .i (.call f_kx [(aS 17), (aS 18), (aI 20)] [.b] 21) <|
 .ite (.not (.v 21))
 (
 .done [(.s .nil), (.s .nil), (aZ 0)])
 (
 .done [(aS 17), (aS 18), (aI 20)])))))))

def R_kz : R :=
 .i (.call f_kt [] [.s, .s, .i .i64] 3) <|
 .i (.call f_kv [(aS 3), (aS 4), (aI 5), (aS 0), (aS 1), (aI 2), (.vi .i64 (.z (-1)))] [.s, .s, .i .i64] 6) <|
 .done [(aS 6), (aS 7), (.vi .i64 (.bin .sub .i64 (.v 8) (.z 1)))]

def R_k10 : R :=
 .i (.call f_kw [(aS 1)] [.s] 3) <|
 .i (.call f_kw [(aS 2)] [.s] 4) <|
 .loop 5 [.nil, (.z 0)] <|
 .ite (.cmp .lt (.v 6) (.z 3))
 (
 .i (.idx (.v 0) (.v 6) (.g [.s, .s, .i .i64]) 7) <|
 .i (.call f_ku [(aI 6)] [.s, .s, .i .i64] 10) <|
 .i (.call f_kv [(aS 7), (aS 8), (aI 9), (aS 10), (aS 11), (aI 12), (.vi .i64 (.z (-1)))] [.s, .s, .i .i64] 13) <|
 .i (.chk (.cmp .le (.len (.app (.v 5) (.cons (.g (.cons (aS 13) (.cons (aS 14) (.cons (aI 15) .nil)))) .nil))) (.z 1256584717458))) <|
 .next [(.app (.v 5) (.cons (.g (.cons (aS 13) (.cons (aS 14) (.cons (aI 15) .nil)))) .nil)), (.bin .add .i64 (.v 6) (.z 1))])
 (
 .esc <|
 .done [(aS 3), (aS 5), (aS 4), (.vb .ff)])

def R_k11 : R :=
 .loop 5 [(.v 2), (.v 4), (.v 1)] <|
 .ite (.cmp .lt (.v 7) (.len (.v 0)))
 (
 .i (.idx (.v 0) (.v 7) (.g [.i .i64, .i .i64, .i .i64, .s, .s, .i .i64]) 8) <|
 .ite (.cmp .eq (.v 8) (.z 4))
 (
 .i (.call f_kw [(aS 3)] [.s] 14) <|
 .esc <|
 .done [(.s (.cons (.g (.cons (aS 14) (.cons (.s .nil) (.cons (.s .nil) (.cons (.vb .tt) .nil))))) .nil))])
 (
 .i (.call f_ky [(aS 11), (aS 12), (aI 13), (aS 5)] [.s, .s, .i .i64] 14) <|
 .ite (.cmp .eq (.v 8) (.z 1))
 (
 .i (.call f_kw [(aS 5)] [.s] 17) <|
 .i (.call f_kw [(aS 3)] [.s] 18) <|
 .i (.chk (.cmp .le (.len (.app (.v 18) (.cons (.g (.cons (aS 14) (.cons (aS 15) (.cons (aI 16) .nil)))) .nil))) (.z 1256584717458))) <|
 .i (.call f_kw [(aS 6)] [.s] 19) <|
 .i (.call f_k11 [(aS 0), (.vi .i64 (.bin .add .i64 (.v 7) (.z 1))), (aS 17), (.s (.app (.v 18) (.cons (.g (.cons (aS 14) (.cons (aS 15) (.cons (aI 16) .nil)))) .nil))), (aS 19)] [.s] 20) <|
 .i (.call f_kw [(aS 5)] [.s] 21) <|
 .i (.call f_kw [(aS 3)] [.s] 22) <|
 .i (.call f_kz [(aS 14), (aS 15), (aI 16)] [.s, .s, .i .i64] 23) <|
 .i (.chk (.cmp .le (.len (.app (.v 22) (.cons (.g (.cons (aS 23) (.cons (aS 24) (.cons (aI 25) .nil)))) .nil))) (.z 1256584717458))) <|
 .i (.call f_kw [(aS 6)] [.s] 26) <|
 .i (.call f_k11 [(aS 0), (.vi .i64 (.bin .add .i64 (.bin .add .i64 (.v 7) (.z 1)) (.v 10))), (aS 21), (.s (.app (.v 22) (.cons (.g (.cons (aS 23) (.cons (aS 24) (.cons (aI 25) .nil)))) .nil))), (aS 26)] [.s] 27) <|
 .i (.chk (.cmp .le (.len (.v 27)) (.z 879609302220))) <|
 .i (.head 4 (.v 27)) <|
 .i (.chk (.cmp .le (.len (.app (.v 20) (.v 27))) (.z 879609302220))) <|
 .esc <|
 .done [(.s (.app (.v 20) (.v 27)))])
 (
 .ite (.cmp .eq (.v 8) (.z 2))
 (
 .i (.call f_kw [(aS 5)] [.s] 17) <|
 .i (.chk (.cmp .le (.z 0) (.v 9))) <|
 .i (.chk (.cmp .lt (.v 9) (.len (.v 17)))) <|
 .i (.idx (.v 17) (.v 9) (.g [.s, .s, .i .i64]) 18) <|
 .i (.call f_kv [(aS 18), (aS 19), (aI 20), (aS 14), (aS 15), (aI 16), (aZ 1)] [.s, .s, .i .i64] 21) <|
 .i (.chk (.cmp .le (.z 0) (.v 9))) <|
 .i (.chk (.cmp .lt (.v 9) (.len (.v 17)))) <|
 .i (.idx (.v 17) (.v 9) (.g [.s, .s, .i .i64]) 24) <|
 .next [(.set (.v 17) (.v 9) (.g (.cons (aS 21) (.cons (aS 22) (.cons (aI 23) .nil))))), (.v 6), (.bin .add .i64 (.v 7) (.z 1))])
 (
 .i (.call f_kw [(aS 6)] [.s] 17) <|
 .i (.chk (.cmp .le (.len (.app (.v 17) (.cons (.g (.cons (aS 14) (.cons (aS 15) (.cons (aI 16) .nil)))) .nil))) (.z 1256584717458))) <|
 .next [(.v 5), (.app (.v 17) (.cons (.g (.cons (aS 14) (.cons (aS 15) (.cons (aI 16) .nil)))) .nil)), (.bin .add .i64 (.v 7) (.z 1))]))))
 (
 .esc <|
 .i (.call f_k10 [(aS 5), (aS 3), (aS 6)] [.s, .s, .s, .b] 8) <|
 .done [(.s (.cons (.g (.cons (aS 8) (.cons (aS 9) (.cons (aS 10) (.cons (aB 11) .nil))))) .nil))])

def R_k12 : R :=
 .i (.call f_ko [(aS 0)] [.b] 1) <|
 .ite (.not (.v 1))
 (
 .done [(.s .nil)])
 (
 .i (.call f_ku [(aZ 0)] [.s, .s, .i .i64] 2) <|
 .i (.call f_ku [(aZ 1)] [.s, .s, .i .i64] 5) <|
 .i (.call f_ku [(aZ 2)] [.s, .s, .i .i64] 8) <|
 .i (.call f_k11 [(aS 0), (aZ 0), (.s (.cons (.g (.cons (aS 2) (.cons (aS 3) (.cons (aI 4) .nil)))) (.cons (.g (.cons (aS 5) (.cons (aS 6) (.cons (aI 7) .nil)))) (.cons (.g (.cons (aS 8) (.cons (aS 9) (.cons (aI 10) .nil)))) .nil)))), (.s .nil), (.s .nil)] [.s] 11) <|
 .done [(aS 11)])

def R_k13 : R :=
 .i (.chk (.cmp .le (.len (.v 0)) (.z 70368744177664))) <|
 .i (.head 1 (.v 0)) <|
 .i (.chk (.cmp .le (.len (.app .nil (.v 0))) (.z 70368744177664))) <|
 .loop 2 [(.app .nil (.v 0)), (.z 0)] <|
 .ite (.cmp .lt (.v 3) (.len (.v 1)))
 (
 .loop 4 [(.v 2), (.z 0)] <|
 .ite (.cmp .lt (.v 5) (.z 3))
 (
 .i (.idx (.v 1) (.v 3) (.g [.s, .s, .i .i64]) 6) <|
 .i (.idx (.v 6) (.v 5) (.one (.i .i64)) 9) <|
 .ite (.not (.cmp .eq (.v 9) (.z 0)))
 (
 .i (.chk (.cmp .le (.z 0) (.v 5))) <|
 .i (.chk (.cmp .lt (.v 5) (.len (.v 4)))) <|
 .i (.idx (.v 4) (.v 5) (.one (.b)) 10) <|
 .next [(.set (.v 4) (.v 5) (.vb .tt)), (.bin .add .i64 (.v 5) (.z 1))])
 (
 .next [(.v 4), (.bin .add .i64 (.v 5) (.z 1))]))
 (
 .esc <|
 .next [(.v 4), (.bin .add .i64 (.v 3) (.z 1))]))
 (
 .esc <|
 .done [(aS 2)])

def R_k14 : R :=
 .loop 3 [.nil, (.z 0), (.z 0)] <|
 .ite (.cmp .lt (.v 5) (.len (.v 0)))
 (
 .ite (.cmp .eq (.v 4) (.z 0))
 (
 .i (.idx (.v 0) (.v 5) (.one (.i .i64)) 6) <|
 .ite (.cmp .lt (.z 0) (.v 6))
 (
 .i (.idx (.v 0) (.v 5) (.one (.i .i64)) 7) <|
 .i (.chk (.cmp .le (.len (.app (.v 3) (.cons (.vi .i64 (.bin .mul .i64 (.z 1) (.v 7))) .nil))) (.z 8796093022208))) <|
 .next [(.app (.v 3) (.cons (.vi .i64 (.bin .mul .i64 (.z 1) (.v 7))) .nil)), (.z 1), (.bin .add .i64 (.v 5) (.z 1))])
 (
 .ite (.cmp .eq (.v 4) (.z 0))
 (
 .i (.idx (.v 0) (.v 5) (.one (.i .i64)) 7) <|
 .ite (.cmp .lt (.v 7) (.z 0))
 (
 .i (.idx (.v 0) (.v 5) (.one (.i .i64)) 8) <|
 .i (.chk (.cmp .le (.len (.app (.v 3) (.cons (.vi .i64 (.bin .mul .i64 (.z (-1)) (.v 8))) .nil))) (.z 8796093022208))) <|
 .next [(.app (.v 3) (.cons (.vi .i64 (.bin .mul .i64 (.z (-1)) (.v 8))) .nil)), (.z (-1)), (.bin .add .i64 (.v 5) (.z 1))])
 (
 .i (.idx (.v 0) (.v 5) (.one (.i .i64)) 8) <|
 .i (.chk (.cmp .le (.len (.app (.v 3) (.cons (.vi .i64 (.bin .mul .i64 (.v 4) (.v 8))) .nil))) (.z 8796093022208))) <|
 .next [(.app (.v 3) (.cons (.vi .i64 (.bin .mul .i64 (.v 4) (.v 8))) .nil)), (.v 4), (.bin .add .i64 (.v 5) (.z 1))]))
 (
 .i (.idx (.v 0) (.v 5) (.one (.i .i64)) 7) <|
 .i (.chk (.cmp .le (.len (.app (.v 3) (.cons (.vi .i64 (.bin .mul .i64 (.v 4) (.v 7))) .nil))) (.z 8796093022208))) <|
 .next [(.app (.v 3) (.cons (.vi .i64 (.bin .mul .i64 (.v 4) (.v 7))) .nil)), (.v 4), (.bin .add .i64 (.v 5) (.z 1))])))
 (
 .ite (.cmp .eq (.v 4) (.z 0))
 (
 .i (.idx (.v 0) (.v 5) (.one (.i .i64)) 6) <|
 .ite (.cmp .lt (.v 6) (.z 0))
 (
 .i (.idx (.v 0) (.v 5) (.one (.i .i64)) 7) <|
 .i (.chk (.cmp .le (.len (.app (.v 3) (.cons (.vi .i64 (.bin .mul .i64 (.z (-1)) (.v 7))) .nil))) (.z 8796093022208))) <|
 .next [(.app (.v 3) (.cons (.vi .i64 (.bin .mul .i64 (.z (-1)) (.v 7))) .nil)), (.z (-1)), (.bin .add .i64 (.v 5) (.z 1))])
 (
 .i (.idx (.v 0) (.v 5) (.one (.i .i64)) 7) <|
 .i (.chk (.cmp .le (.len (.app (.v 3) (.cons (.vi .i64 (.bin .mul .i64 (.v 4) (.v 7))) .nil))) (.z 8796093022208))) <|
 .next [(.app (.v 3) (.cons (.vi .i64 (.bin .mul .i64 (.v 4) (.v 7))) .nil)), (.v 4), (.bin .add .i64 (.v 5) (.z 1))]))
 (
 .i (.idx (.v 0) (.v 5) (.one (.i .i64)) 6) <|
 .i (.chk (.cmp .le (.len (.app (.v 3) (.cons (.vi .i64 (.bin .mul .i64 (.v 4) (.v 6))) .nil))) (.z 8796093022208))) <|
 .next [(.app (.v 3) (.cons (.vi .i64 (.bin .mul .i64 (.v 4) (.v 6))) .nil)), (.v 4), (.bin .add .i64 (.v 5) (.z 1))])))
 (
 .esc <|
 .done [(aS 3)])

def R_k15 : R :=
 .ite (.not (.cmp .eq (.len (.v 0)) (.len (.v 1))))
 (
 .done [(.vb .ff)])
 (
 .loop 2 [(.z 0)] <|
 .ite (.cmp .lt (.v 2) (.len (.v 0)))
 (
 .i (.idx (.v 0) (.v 2) (.one (.i .i64)) 3) <|
 .i (.idx (.v 1) (.v 2) (.one (.i .i64)) 4) <|
 .ite (.not (.cmp .eq (.v 3) (.v 4)))
 (
 .esc <|
 .done [(.vb .ff)])
 (
 .next [(.bin .add .i64 (.v 2) (.z 1))]))
 (
 .esc <|
 .done [(.vb .tt)]))

def R_k16 : R :=
 .loop 2 [(.z 0)] <|
 .ite (.cmp .lt (.v 2) (.len (.v 0)))
 (
 .i (.idx (.v 0) (.v 2) (.one (.s)) 3) <|
 .i (.call f_k15 [(aS 3), (aS 1)] [.b] 4) <|
 .ite (.v 4)
 (
 .esc <|
 .done [(aI 2)])
 (
 .next [(.bin .add .i64 (.v 2) (.z 1))]))
 (
 .esc <|
 .done [(.vi .i64 (.z (-1)))])

def R_k17 : R :=
 .loop 1 [.nil, (.z 0)] <|
 .ite (.cmp .lt (.v 2) (.z 3))
 (
 .i (.call f_ku [(aI 2)] [.s, .s, .i .i64] 3) <|
 .i (.chk (.cmp .le (.len (.app (.v 1) (.cons (aS 3) .nil))) (.z 2932031007402))) <|
 .next [(.app (.v 1) (.cons (aS 3) .nil)), (.bin .add .i64 (.v 2) (.z 1))])
 (
 .esc <|
 .loop 3 [(.v 1), (.cons (.vb .ff) (.cons (.vb .ff) (.cons (.vb .ff) .nil))), (.z 0)] <|
 .ite (.cmp .lt (.v 5) (.len (.v 0)))
 (
 .i (.idx (.v 0) (.v 5) (.one (.s)) 6) <|
 .i (.call f_k12 [(aS 6)] [.s] 7) <|
 .loop 8 [(.v 3), (.v 4), (.z 0)] <|
 .ite (.cmp .lt (.v 10) (.len (.v 7)))
 (
 .i (.chk (.cmp .le (.z 0) (.v 10))) <|
 .i (.chk (.cmp .lt (.v 10) (.len (.v 7)))) <|
 .i (.idx (.v 7) (.v 10) (.g [.s, .s, .s, .b]) 11) <|
 .i (.call f_k13 [(aS 9), (aS 12)] [.s] 15) <|
 .i (.chk (.cmp .le (.z 0) (.v 10))) <|
 .i (.chk (.cmp .lt (.v 10) (.len (.v 7)))) <|
 .i (.idx (.v 7) (.v 10) (.g [.s, .s, .s, .b]) 16) <|
 .i (.call f_k13 [(aS 15), (aS 18)] [.s] 20) <|
 .loop 21 [(.v 8), (.z 0)] <|
 .i (.chk (.cmp .le (.z 0) (.v 10))) <|
 .i (.chk (.cmp .lt (.v 10) (.len (.v 7)))) <|
 .i (.idx (.v 7) (.v 10) (.g [.s, .s, .s, .b]) 23) <|
 .ite (.cmp .lt (.v 22) (.len (.v 23)))
 (
 .i (.chk (.cmp .le (.z 0) (.v 10))) <|
 .i (.chk (.cmp .lt (.v 10) (.len (.v 7)))) <|
 .i (.idx (.v 7) (.v 10) (.g [.s, .s, .s, .b]) 27) <|
 .i (.idx (.v 27) (.v 22) (.g [.s, .s, .i .i64]) 31) <|
 .i (.call f_k14 [(aS 31), (aS 32), (aI 33)] [.s] 34) <|
 .i (.call f_k16 [(aS 21), (aS 34)] [.i .i64] 35) <|
 .ite (.cmp .lt (.v 35) (.z 0))
 (
 .i (.call f_kt [] [.s, .s, .i .i64] 36) <|
 .i (.call f_k15 [(aS 34), (aS 36)] [.b] 39) <|
 .ite (.not (.v 39))
 (
 .i (.chk (.cmp .le (.len (.app (.v 21) (.cons (aS 34) .nil))) (.z 2932031007402))) <|
 .next [(.app (.v 21) (.cons (aS 34) .nil)), (.bin .add .i64 (.v 22) (.z 1))])
 (
 .next [(.v 21), (.bin .add .i64 (.v 22) (.z 1))]))
 (
 .next [(.v 21), (.bin .add .i64 (.v 22) (.z 1))]))
 (
 .esc <|
 .next [(.v 21), (.v 20), (.bin .add .i64 (.v 10) (.z 1))]))
 (
 .esc <|
 .next [(.v 8), (.v 9), (.bin .add .i64 (.v 5) (.z 1))]))
 (
 .esc <|
 .done [(aS 3), (aS 4)]))

def R_k18 : R :=
 .done [(aS 7), (aS 2)]

def R_k19 : R :=
 .loop 1 [(.z 0)] <|
 .ite (.cmp .lt (.v 1) (.len (.v 0)))
 (
 .i (.idx (.v 0) (.v 1) (.one (.s)) 2) <|
 .i (.call f_kl [(aS 2), (aZ 3), (aZ 10000000)] [.b] 3) <|
 .ite (.not (.v 3))
 (
 .esc <|
 .done [(.vb .ff)])
 (
 .next [(.bin .add .i64 (.v 1) (.z 1))]))
 (
 .esc <|
 .done [(.vb .tt)])

def R_k1a : R :=
 .loop 2 [(.z 0), (.z 0)] <|
 .ite (.cmp .lt (.v 3) (.z 3))
 (
 .i (.idx (.v 0) (.v 3) (.one (.i .i64)) 4) <|
 .i (.idx (.v 1) (.v 3) (.one (.i .i64)) 5) <|
 .next [(.bin .add .i64 (.v 2) (.bin .mul .i64 (.v 4) (.v 5))), (.bin .add .i64 (.v 3) (.z 1))])
 (
 .esc <|
 .done [(aI 2)])

def R_k1b : R :=
 .i (.call f_kr [(aS 0), (aS 1)] [.b] 5) <|
 .ite (.not (.v 5))
 (
 .done [(.vb .ff)])
 (
 .i (.call f_k19 [(aS 2)] [.b] 6) <|
 .ite (.not (.v 6))
 (
 .done [(.vb .ff)])
 (
 .i (.call f_kk [(aI 3), (aZ 0), (.vi .i64 (.bin .sub .i64 (.len (.v 1)) (.z 1)))] [.b] 7) <|
 .ite (.not (.v 7))
 (
 .done [(.vb .ff)])
 (
 .i (.call f_kl [(aS 4), (aZ 3), (aZ 20000)] [.b] 8) <|
 .ite (.not (.v 8))
 (
 .done [(.vb .ff)])
 (
 .loop 9 [(.z 0)] <|
 .ite (.cmp .lt (.v 9) (.len (.v 2)))
 (
 .i (.idx (.v 2) (.v 9) (.one (.s)) 10) <|
 .i (.call f_k1a [(aS 10), (aS 4)] [.i .i64] 11) <|
 .i (.idx (.v 1) (.v 3) (.one (.i .i64)) 12) <|
 .i (.idx (.v 1) (.v 3) (.one (.i .i64)) 13) <|
 .i (.call f_kk [(aI 11), (.vi .i64 (.bin .sub .i64 (.z 0) (.v 12))), (aI 13)] [.b] 14) <|
 .ite (.not (.v 14))
 (
 .esc <|
 .done [(.vb .ff)])
 (
 .next [(.bin .add .i64 (.v 9) (.z 1))]))
 (
 .esc <|
 .done [(.vb .tt)])))))

def R_k1c : R :=
 .loop 2 [(.z 0)] <|
 .ite (.cmp .lt (.v 2) (.z 3))
 (
 .i (.idx (.v 0) (.v 2) (.one (.b)) 3) <|
 .ite (.v 3)
 (
 .i (.idx (.v 1) (.v 2) (.one (.i .i64)) 4) <|
 .ite (.not (.cmp .eq (.v 4) (.z 0)))
 (
 .esc <|
 .done [(.vb .ff)])
 (
 .next [(.bin .add .i64 (.v 2) (.z 1))]))
 (
 .next [(.bin .add .i64 (.v 2) (.z 1))]))
 (
 .esc <|
 .done [(.vb .tt)])

def R_k1e : R :=
 .i (.call f_kk [(aI 0), (aZ 1), (aZ 3)] [.b] 2) <|
 .ite (.not (.v 2))
 (
 .done [(.vc (.string (strV [])))])
 (
 .ite (.not (.cmp .eq (.v 0) (.z 1)))
 (
 .ite (.cmp .lt (.z 0) (.len (.v 1)))
 (
 .done [(.vc (.string (strV [])))])
 (
 .ite (.cmp .lt (.z 6) (.len (.v 1)))
 (
 .done [(.vc (.string (strV [])))])
 (
 .i (.call f_kl [(aS 1), (.vi .i64 (.len (.v 1))), (aZ 999999999999)] [.b] 3) <|
 .ite (.not (.v 3))
 (
 .done [(.vc (.string (strV [])))])
 (
 .i (.chk (.cmp .le (.z 0) (.v 0))) <|
 .i (.chk (.cmp .lt (.v 0) (.z 4))) <|
 .i (.idx (.cons (.vc (.string (strV []))) (.cons (.vc (.string (strV [100, 111, 110, 101]))) (.cons (.vc (.string (strV [115, 116, 111, 112, 112, 101, 100]))) (.cons (.vc (.string (strV [111, 118, 101, 114]))) .nil)))) (.v 0) (.one (.d)) 4) <|
 .loop 5 [(.da 4), (.z 0)] <|
 .ite (.cmp .lt (.v 6) (.len (.v 1)))
 (
 .i (.prim .cat [(.da 5), (.vc (.string (strV [32])))] (.d) 7) <|
 .i (.idx (.v 1) (.v 6) (.one (.i .i64)) 8) <|
 .i (.call f_k1d [(aI 8)] [.d] 9) <|
 .i (.prim .cat [(.da 7), (.da 9)] (.d) 10) <|
 .next [(.da 10), (.bin .add .i64 (.v 6) (.z 1))])
 (
 .esc <|
 .done [(.da 5)])))))
 (
 .ite (.cmp .lt (.z 6) (.len (.v 1)))
 (
 .done [(.vc (.string (strV [])))])
 (
 .i (.call f_kl [(aS 1), (.vi .i64 (.len (.v 1))), (aZ 999999999999)] [.b] 3) <|
 .ite (.not (.v 3))
 (
 .done [(.vc (.string (strV [])))])
 (
 .i (.chk (.cmp .le (.z 0) (.v 0))) <|
 .i (.chk (.cmp .lt (.v 0) (.z 4))) <|
 .i (.idx (.cons (.vc (.string (strV []))) (.cons (.vc (.string (strV [100, 111, 110, 101]))) (.cons (.vc (.string (strV [115, 116, 111, 112, 112, 101, 100]))) (.cons (.vc (.string (strV [111, 118, 101, 114]))) .nil)))) (.v 0) (.one (.d)) 4) <|
 .loop 5 [(.da 4), (.z 0)] <|
 .ite (.cmp .lt (.v 6) (.len (.v 1)))
 (
 .i (.prim .cat [(.da 5), (.vc (.string (strV [32])))] (.d) 7) <|
 .i (.idx (.v 1) (.v 6) (.one (.i .i64)) 8) <|
 .i (.call f_k1d [(aI 8)] [.d] 9) <|
 .i (.prim .cat [(.da 7), (.da 9)] (.d) 10) <|
 .next [(.da 10), (.bin .add .i64 (.v 6) (.z 1))])
 (
 .esc <|
 .done [(.da 5)])))))

def R_k1f : R :=
 .i (.call f_k1e [(aI 0), (aS 1)] [.d] 2) <|
 .i (.prim .seq [(.da 2), (.vc (.string (strV [])))] (.b) 3) <|
 .done [(.vb (.not (.v 3)))]

def R_k1g : R :=
 .ite (.not (.cmp .eq (.len (.v 4)) (.v 0)))
 (
 .done [(.vb .ff)])
 (
 .loop 5 [(.z 0)] <|
 .ite (.cmp .lt (.v 5) (.len (.v 4)))
 (
 .i (.idx (.v 4) (.v 5) (.g [.i .i64, .i .i64, .s]) 6) <|
 .i (.call f_kk [(aI 6), (aZ 0), (aZ 300)] [.b] 9) <|
 .ite (.not (.v 9))
 (
 .esc <|
 .done [(.vb .ff)])
 (
 .i (.idx (.v 4) (.v 5) (.g [.i .i64, .i .i64, .s]) 10) <|
 .i (.idx (.v 4) (.v 5) (.g [.i .i64, .i .i64, .s]) 13) <|
 .ite (.not (.beq (.cmp .eq (.v 10) (.z 0)) (.cmp .eq (.v 14) (.z 0))))
 (
 .esc <|
 .done [(.vb .ff)])
 (
 .i (.idx (.v 4) (.v 5) (.g [.i .i64, .i .i64, .s]) 16) <|
 .ite (.cmp .eq (.v 16) (.z 0))
 (
 .i (.idx (.v 4) (.v 5) (.g [.i .i64, .i .i64, .s]) 19) <|
 .ite (.cmp .lt (.z 0) (.len (.v 21)))
 (
 .esc <|
 .done [(.vb .ff)])
 (
 .i (.idx (.v 4) (.v 5) (.g [.i .i64, .i .i64, .s]) 22) <|
 .ite (.cmp .lt (.z 0) (.v 22))
 (
 .i (.idx (.v 4) (.v 5) (.g [.i .i64, .i .i64, .s]) 25) <|
 .i (.call f_k1f [(aI 26), (aS 27)] [.b] 28) <|
 .ite (.not (.v 28))
 (
 .esc <|
 .done [(.vb .ff)])
 (
 .next [(.bin .add .i64 (.v 5) (.z 1))]))
 (
 .next [(.bin .add .i64 (.v 5) (.z 1))])))
 (
 .i (.idx (.v 4) (.v 5) (.g [.i .i64, .i .i64, .s]) 19) <|
 .ite (.cmp .lt (.z 0) (.v 19))
 (
 .i (.idx (.v 4) (.v 5) (.g [.i .i64, .i .i64, .s]) 22) <|
 .i (.call f_k1f [(aI 23), (aS 24)] [.b] 25) <|
 .ite (.not (.v 25))
 (
 .esc <|
 .done [(.vb .ff)])
 (
 .next [(.bin .add .i64 (.v 5) (.z 1))]))
 (
 .next [(.bin .add .i64 (.v 5) (.z 1))])))))
 (
 .esc <|
 .done [(.vb .tt)]))

def R_k1h : R :=
 .i (.call f_kk [(aI 8), (aZ 0), (aZ 200)] [.b] 13) <|
 .ite (.v 13)
 (
 .i (.call f_kq [(aS 9)] [.b] 14) <|
 .ite (.v 14)
 (
 .i (.call f_k18 [(aI 0), (aS 1), (aS 2), (aS 3), (aB 6), (aB 7), (aI 8), (aS 9), (aS 10), (aS 11)] [.s, .s] 15) <|
 .i (.call f_k1b [(aS 15), (aS 16), (aS 4), (aI 12), (aS 10)] [.b] 17) <|
 .ite (.v 17)
 (
 .i (.call f_k1c [(aS 5), (aS 10)] [.b] 18) <|
 .ite (.v 18)
 (
 .i (.call f_k1g [(aI 0), (aS 1), (aS 2), (aS 3), (aS 11)] [.b] 19) <|
 .done [(aB 19)])
 (
 .done [(.vb .ff)]))
 (
 .done [(.vb .ff)]))
 (
 .done [(.vb .ff)]))
 (
 .done [(.vb .ff)])

def R_k1i : R :=
 .i (.call f_ks [(aI 0), (aS 1), (aS 2), (aS 3)] [.b] 11) <|
 .ite (.not (.v 11))
 (
 .done [(.vb .ff)])
 (
 .i (.call f_kk [(aI 10), (aZ 0), (.vi .i64 (.bin .sub .i64 (.len (.v 2)) (.z 1)))] [.b] 12) <|
 .ite (.not (.v 12))
 (
 .done [(.vb .ff)])
 (
 .i (.call f_k17 [(aS 1)] [.s, .s] 13) <|
 .i (.call f_k1h [(aI 0), (aS 1), (aS 2), (aS 3), (aS 13), (aS 14), (aB 4), (aB 5), (aI 6), (aS 7), (aS 8), (aS 9), (aI 10)] [.b] 15) <|
 .done [(aB 15)]))

def R_k1j : R :=
 .i (.chk (.cmp .le (.len (.v 1)) (.z 8796093022208))) <|
 .i (.head 1 (.v 1)) <|
 .i (.chk (.cmp .le (.len (.app .nil (.v 1))) (.z 8796093022208))) <|
 .done [(aI 0), (.s (.app .nil (.v 1)))]

def R_k1k : R :=
 .loop 1 [.nil, (.z 0)] <|
 .ite (.cmp .lt (.v 2) (.len (.v 0)))
 (
 .i (.idx (.v 0) (.v 2) (.g [.i .i64, .i .i64, .s]) 3) <|
 .i (.idx (.v 0) (.v 2) (.g [.i .i64, .i .i64, .s]) 6) <|
 .i (.call f_k1j [(aI 7), (aS 8)] [.i .i64, .s] 9) <|
 .i (.chk (.cmp .le (.len (.app (.v 1) (.cons (.g (.cons (aI 3) (.cons (aI 9) (.cons (aS 10) .nil)))) .nil))) (.z 1759218604441))) <|
 .next [(.app (.v 1) (.cons (.g (.cons (aI 3) (.cons (aI 9) (.cons (aS 10) .nil)))) .nil)), (.bin .add .i64 (.v 2) (.z 1))])
 (
 .esc <|
 .done [(aS 1)])

def R_k1l : R :=
 .i (.chk (.cmp .le (.len (.v 3)) (.z 8796093022208))) <|
 .i (.head 1 (.v 3)) <|
 .i (.chk (.cmp .le (.len (.app .nil (.v 3))) (.z 8796093022208))) <|
 .i (.chk (.cmp .le (.len (.v 4)) (.z 8796093022208))) <|
 .i (.head 1 (.v 4)) <|
 .i (.chk (.cmp .le (.len (.app .nil (.v 4))) (.z 8796093022208))) <|
 .i (.call f_k1k [(aS 5)] [.s] 6) <|
 .done [(aB 0), (aB 1), (aI 2), (.s (.app .nil (.v 3))), (.s (.app .nil (.v 4))), (aS 6)]

def R_k1m : R :=
 .i (.call f_k1i [(aI 0), (aS 1), (aS 2), (aS 3), (aB 4), (aB 5), (aI 6), (aS 7), (aS 8), (aS 9), (aI 10)] [.b] 12) <|
 .ite (.not (.v 12))
 (
 .done [(.vb .ff), (.vb .ff), (aZ 0), (.s .nil), (.s .nil), (.s .nil)])
 (
 .i (.call f_k1l [(aB 4), (aB 5), (aI 6), (aS 7), (aS 8), (aS 9)] [.b, .b, .i .i64, .s, .s, .s] 13) <|
 .done [(aB 11), (aB 14), (aI 15), (aS 16), (aS 17), (aS 18)])

def R_k1n : R :=
 .ite (.cmp .le (.v 1) (.v 0))
 (
 .done [(.vb (.cmp .le (.v 0) (.v 2)))])
 (
 .done [(.vb .ff)])

def R_k1o : R :=
 .loop 2 [(.z 0)] <|
 .ite (.cmp .lt (.v 2) (.len (.v 0)))
 (
 .i (.idx (.v 0) (.v 2) (.one (.s)) 3) <|
 .i (.callv (.da 1) [(aS 3)] [none] [.b] 4) <|
 .ite (.v 4)
 (
 .esc <|
 .done [(aI 2)])
 (
 .next [(.bin .add .i64 (.v 2) (.z 1))]))
 (
 .esc <|
 .done [(.vi .i64 (.z (-1)))])

def R_k1p : R :=
 .i (.call f_k1o [(aS 0), (.da 1)] [.i .i64] 2) <|
 .done [(.vb (.cmp .le (.z 0) (.v 2)))]

def R_k1q : R :=
 .i (.get (.da 1) (.q [.i .i64]) 2) <|
 .i (.get (.da 1) (.q [.i .i64]) 3) <|
 .i (.call f_k1n [(aI 0), (.vi .i64 (.bin .sub .i64 (.z 0) (.v 2))), (aI 3)] [.b] 4) <|
 .done [(.vb (.not (.v 4)))]

def R_k1r : R :=
 .loop 2 [(.z 0)] <|
 .ite (.cmp .lt (.v 2) (.len (.v 0)))
 (
 .i (.idx (.v 0) (.v 2) (.one (.i .i64)) 3) <|
 .i (.callv (.da 1) [(aI 3)] [none] [.b] 4) <|
 .ite (.v 4)
 (
 .esc <|
 .done [(aI 2)])
 (
 .next [(.bin .add .i64 (.v 2) (.z 1))]))
 (
 .esc <|
 .done [(.vi .i64 (.z (-1)))])

def R_k1s : R :=
 .i (.call f_k1r [(aS 0), (.da 1)] [.i .i64] 2) <|
 .done [(.vb (.cmp .le (.z 0) (.v 2)))]

def R_k1t : R :=
 .ite (.cmp .eq (.len (.v 0)) (.v 1))
 (
 .i (.call f_k1s [(aS 0), (.fn f_k1q (.cons (.q (.cons (aI 2) .nil)) .nil))] [.b] 3) <|
 .done [(.vb (.not (.v 3)))])
 (
 .done [(.vb .ff)])

def R_k1u : R :=
 .i (.call f_k1t [(aS 0), (aZ 3), (aZ 2)] [.b] 3) <|
 .ite (.v 3)
 (
 .i (.call f_k1t [(aS 1), (aZ 2), (aZ 2)] [.b] 4) <|
 .ite (.v 4)
 (
 .i (.call f_k1n [(aI 2), (.vi .i64 (.z (-20))), (aZ 20)] [.b] 5) <|
 .done [(aB 5)])
 (
 .done [(.vb .ff)]))
 (
 .done [(.vb .ff)])

def R_k1v : R :=
 .ite (.not (.cmp .eq (.len (.v 0)) (.len (.v 1))))
 (
 .done [(.vb .ff)])
 (
 .loop 2 [(.z 0)] <|
 .ite (.cmp .lt (.v 2) (.len (.v 0)))
 (
 .i (.idx (.v 0) (.v 2) (.one (.i .i64)) 3) <|
 .i (.idx (.v 1) (.v 2) (.one (.i .i64)) 4) <|
 .ite (.not (.cmp .eq (.v 3) (.v 4)))
 (
 .esc <|
 .done [(.vb .ff)])
 (
 .next [(.bin .add .i64 (.v 2) (.z 1))]))
 (
 .esc <|
 .done [(.vb .tt)]))

def R_k1w : R :=
 .ite (.cmp .eq (.v 2) (.v 5))
 (
 .i (.call f_k1v [(aS 0), (aS 3)] [.b] 6) <|
 .ite (.v 6)
 (
 .i (.call f_k1v [(aS 1), (aS 4)] [.b] 7) <|
 .done [(aB 7)])
 (
 .done [(.vb .ff)]))
 (
 .done [(.vb .ff)])

def R_k1x : R :=
 .ite (.cmp .eq (.v 0) (.z 1))
 (
 .i (.call f_k1n [(aI 2), (aZ 1), (aZ 6)] [.b] 6) <|
 .ite (.v 6)
 (
 .ite (.cmp .eq (.v 1) (.z 0))
 (
 .i (.call f_k1u [(aS 3), (aS 4), (aI 5)] [.b] 7) <|
 .done [(aB 7)])
 (
 .done [(.vb .ff)]))
 (
 .done [(.vb .ff)]))
 (
 .ite (.cmp .eq (.v 0) (.z 2))
 (
 .i (.call f_k1n [(aI 1), (aZ 0), (aZ 2)] [.b] 6) <|
 .ite (.v 6)
 (
 .ite (.cmp .eq (.v 2) (.z 0))
 (
 .i (.call f_k1u [(aS 3), (aS 4), (aI 5)] [.b] 7) <|
 .done [(aB 7)])
 (
 .done [(.vb .ff)]))
 (
 .done [(.vb .ff)]))
 (
 .ite (.cmp .eq (.v 0) (.z 3))
 (
 .ite (.cmp .eq (.v 1) (.z 0))
 (
 .ite (.cmp .eq (.v 2) (.z 0))
 (
 .i (.call f_k1u [(aS 3), (aS 4), (aI 5)] [.b] 6) <|
 .done [(aB 6)])
 (
 .done [(.vb .ff)]))
 (
 .done [(.vb .ff)]))
 (
 .ite (.cmp .eq (.v 0) (.z 4))
 (
 .ite (.cmp .eq (.v 1) (.z 0))
 (
 .ite (.cmp .eq (.v 2) (.z 0))
 (
 .i (.call f_k1w [(aS 3), (aS 4), (aI 5), (.s .nil), (.s .nil), (aZ 0)] [.b] 6) <|
 .done [(aB 6)])
 (
 .done [(.vb .ff)]))
 (
 .done [(.vb .ff)]))
 (
 .done [(.vb .ff)]))))

def R_k1y : R :=
 .loop 1 [(.z 0), (.z 0)] <|
 .ite (.cmp .lt (.v 2) (.len (.v 0)))
 (
 .i (.idx (.v 0) (.v 2) (.g [.i .i64, .i .i64, .i .i64, .s, .s, .i .i64]) 3) <|
 .i (.call f_k1x [(aI 3), (aI 4), (aI 5), (aS 6), (aS 7), (aI 8)] [.b] 9) <|
 .ite (.not (.v 9))
 (
 .esc <|
 .done [(.vb .ff)])
 (
 .ite (.cmp .eq (.v 3) (.z 1))
 (
 .next [(.bin .add .i64 (.v 1) (.z 1)), (.bin .add .i64 (.v 2) (.z 1))])
 (
 .next [(.v 1), (.bin .add .i64 (.v 2) (.z 1))])))
 (
 .esc <|
 .ite (.cmp .le (.len (.v 0)) (.z 6))
 (
 .done [(.vb (.cmp .le (.v 1) (.z 3)))])
 (
 .done [(.vb .ff)]))

def R_k1z : R :=
 .i (.call f_k1y [(aS 0)] [.b] 1) <|
 .done [(.vb (.not (.v 1)))]

def R_k20 : R :=
 .i (.call f_k1n [(.vi .i64 (.len (.v 0))), (aZ 1), (aZ 4)] [.b] 1) <|
 .ite (.v 1)
 (
 .i (.call f_k1p [(aS 0), (.fn f_k1z .nil)] [.b] 2) <|
 .done [(.vb (.not (.v 2)))])
 (
 .done [(.vb .ff)])

def R_k21 : R :=
 .done [(aS 4), (aS 2)]

def R_k22 : R :=
 .i (.call f_k1n [(aI 0), (aZ 0), (aZ 50)] [.b] 1) <|
 .done [(.vb (.not (.v 1)))]

def R_k23 : R :=
 .i (.call f_k1t [(aS 0), (aZ 3), (aZ 10000)] [.b] 1) <|
 .done [(aB 1)]

def R_k24 : R :=
 .i (.call f_k23 [(aS 0)] [.b] 2) <|
 .ite (.v 2)
 (
 .i (.call f_k1n [(.vi .i64 (.len (.v 1))), (aZ 1), (aZ 3)] [.b] 3) <|
 .ite (.v 3)
 (
 .i (.call f_k1s [(aS 1), (.fn f_k22 .nil)] [.b] 4) <|
 .done [(.vb (.not (.v 4)))])
 (
 .done [(.vb .ff)]))
 (
 .done [(.vb .ff)])

def R_k25 : R :=
 .i (.call f_k1n [(aI 0), (aZ 1), (aZ 4)] [.b] 4) <|
 .ite (.v 4)
 (
 .i (.call f_k20 [(aS 1)] [.b] 5) <|
 .ite (.v 5)
 (
 .i (.call f_k1t [(aS 3), (aZ 3), (aZ 1000)] [.b] 6) <|
 .ite (.v 6)
 (
 .i (.call f_k21 [(aI 0), (aS 1), (aS 2), (aS 3), (aS 3)] [.s, .s] 7) <|
 .i (.call f_k24 [(aS 7), (aS 8)] [.b] 9) <|
 .done [(aB 9)])
 (
 .done [(.vb .ff)]))
 (
 .done [(.vb .ff)]))
 (
 .done [(.vb .ff)])

def R_k26 : R :=
 .done [(.s (.cons (aZ 0) (.cons (aZ 0) (.cons (aZ 0) .nil)))), (.s (.cons (aZ 0) (.cons (aZ 0) .nil))), (aZ 0)]

def R_k27 : R :=
 .i (.call f_k1n [(aI 0), (aZ 0), (aZ 2)] [.b] 1) <|
 .ite (.not (.v 1))
 (
 .done [(.s .nil), (.s .nil), (aZ 0)])
 (
 .i (.call f_k26 [] [.s, .s, .i .i64] 2) <|
 .i (.chk (.cmp .le (.z 0) (.v 0))) <|
 .i (.chk (.cmp .lt (.v 0) (.len (.v 2)))) <|
 .i (.idx (.v 2) (.v 0) (.one (.i .i64)) 5) <|
 .done [(.s (.set (.v 2) (.v 0) (aZ 1))), (aS 3), (aI 4)])

def R_k28 : R :=
 .nilq 1 (.v 0)
 (
 .done [(.s .nil)])
 (
 .i (.chk (.cmp .le (.len (.v 0)) (.z 8796093022208))) <|
 .i (.head 1 (.v 0)) <|
 .i (.chk (.cmp .le (.len (.app .nil (.v 0))) (.z 8796093022208))) <|
 .done [(.s (.app .nil (.v 0)))])

def R_k29 : R :=
 .i (.call f_k28 [(aS 0)] [.s] 3) <|
 .i (.call f_k28 [(aS 1)] [.s] 4) <|
 .done [(aS 3), (aS 4), (aI 2)]

def R_k2a : R :=
 .loop 1 [.nil, (.z 0)] <|
 .ite (.cmp .lt (.v 2) (.len (.v 0)))
 (
 .i (.idx (.v 0) (.v 2) (.g [.s, .s, .i .i64]) 3) <|
 .i (.call f_k29 [(aS 3), (aS 4), (aI 5)] [.s, .s, .i .i64] 6) <|
 .i (.fl (.v 6)) <|
 .i (.fl (.v 7)) <|
 .i (.chk (.cmp .le (.len (.app (.v 1) (.cons (.g (.cons (aS 6) (.cons (aS 7) (.cons (aI 8) .nil)))) .nil))) (.z 1256584717458))) <|
 .next [(.app (.v 1) (.cons (.g (.cons (aS 6) (.cons (aS 7) (.cons (aI 8) .nil)))) .nil)), (.bin .add .i64 (.v 2) (.z 1))])
 (
 .esc <|
 .done [(aS 1)])

def R_k2b : R :=
 .i (.call f_k1t [(aS 0), (aZ 3), (aZ 10000000)] [.b] 3) <|
 .ite (.v 3)
 (
 .i (.call f_k1t [(aS 1), (aZ 2), (aZ 10000000)] [.b] 4) <|
 .ite (.v 4)
 (
 .i (.call f_k1n [(aI 2), (.vi .i64 (.z (-10000000))), (aZ 10000000)] [.b] 5) <|
 .done [(aB 5)])
 (
 .done [(.vb .ff)]))
 (
 .done [(.vb .ff)])

def R_k2c : R :=
 .loop 2 [(.z 0)] <|
 .ite (.cmp .lt (.v 2) (.len (.v 0)))
 (
 .i (.idx (.v 0) (.v 2) (.g [.s, .s, .i .i64]) 3) <|
 .i (.callv (.da 1) [(aS 3), (aS 4), (aI 5)] [some 3] [.b] 6) <|
 .ite (.v 6)
 (
 .esc <|
 .done [(aI 2)])
 (
 .next [(.bin .add .i64 (.v 2) (.z 1))]))
 (
 .esc <|
 .done [(.vi .i64 (.z (-1)))])

def R_k2d : R :=
 .i (.call f_k2c [(aS 0), (.da 1)] [.i .i64] 2) <|
 .done [(.vb (.cmp .le (.z 0) (.v 2)))]

def R_k2e : R :=
 .i (.call f_k2b [(aS 0), (aS 1), (aI 2)] [.b] 3) <|
 .done [(.vb (.not (.v 3)))]

def R_k2f : R :=
 .loop 7 [(.v 0), (.z 0)] <|
 .ite (.cmp .lt (.v 8) (.len (.v 3)))
 (
 .i (.idx (.v 3) (.v 8) (.one (.i .i64)) 9) <|
 .i (.chk (.cmp .le (.z 0) (.v 8))) <|
 .i (.chk (.cmp .lt (.v 8) (.len (.v 7)))) <|
 .i (.idx (.v 7) (.v 8) (.one (.i .i64)) 10) <|
 .i (.chk (.cmp .le (.z 0) (.v 8))) <|
 .i (.chk (.cmp .lt (.v 8) (.len (.v 7)))) <|
 .i (.idx (.v 7) (.v 8) (.one (.i .i64)) 11) <|
 .next [(.set (.v 7) (.v 8) (.vi .i64 (.bin .add .i64 (.v 10) (.bin .mul .i64 (.v 6) (.v 9))))), (.bin .add .i64 (.v 8) (.z 1))])
 (
 .esc <|
 .loop 9 [(.v 1), (.z 0)] <|
 .ite (.cmp .lt (.v 10) (.len (.v 4)))
 (
 .i (.idx (.v 4) (.v 10) (.one (.i .i64)) 11) <|
 .i (.chk (.cmp .le (.z 0) (.v 10))) <|
 .i (.chk (.cmp .lt (.v 10) (.len (.v 9)))) <|
 .i (.idx (.v 9) (.v 10) (.one (.i .i64)) 12) <|
 .i (.chk (.cmp .le (.z 0) (.v 10))) <|
 .i (.chk (.cmp .lt (.v 10) (.len (.v 9)))) <|
 .i (.idx (.v 9) (.v 10) (.one (.i .i64)) 13) <|
 .next [(.set (.v 9) (.v 10) (.vi .i64 (.bin .add .i64 (.v 12) (.bin .mul .i64 (.v 6) (.v 11))))), (.bin .add .i64 (.v 10) (.z 1))])
 (
 .esc <|
 .done [(.vi .i64 (.bin .add .i64 (.v 2) (.bin .mul .i64 (.v 6) (.v 5)))), (aS 7), (aS 9)]))

def R_k2g : R :=
 .i (.call f_k2b [(aS 0), (aS 1), (aI 2)] [.b] 3) <|
 .ite (.not (.v 3))
 (
 .done [(.s .nil), (.s .nil), (aZ 0)])
 (
 .done [(aS 0), (aS 1), (aI 2)])

def R_k2h : R :=
 .i (.call f_k2b [(aS 0), (aS 1), (aI 2)] [.b] 4) <|
 .ite (.not (.v 4))
 (
 .done [(.s .nil), (.s .nil), (aZ 0)])
 (
 .ite (.not (.cmp .eq (.len (.v 3)) (.z 3)))
 (
 .done [(.s .nil), (.s .nil), (aZ 0)])
 (
 .i (.call f_k2d [(aS 3), (.fn f_k2e .nil)] [.b] 5) <|
 .ite (.v 5)
 (
 .done [(.s .nil), (.s .nil), (aZ 0)])
 (
 .i (.call f_k26 [] [.s, .s, .i .i64] 6) <|
 .loop 9 [(.v 6), (.v 7), (.z 0), (.v 8)] <|
 .ite (.cmp .lt (.v 11) (.len (.v 3)))
 (
 .i (.idx (.v 3) (.v 11) (.g [.s, .s, .i .i64]) 13) <|
 .i (.idx (.v 0) (.v 11) (.one (.i .i64)) 16) <|
 .i (.call f_k2f [(aS 9), (aS 10), (aI 12), (aS 13), (aS 14), (aI 15), (aI 16)] [.i .i64, .s, .s] 17) <|
 .next [(.v 18), (.v 19), (.bin .add .i64 (.v 11) (.z 1)), (.v 17)])
 (
 .esc <|
 .i (.call f_k2f [(aS 9), (aS 10), (aI 12), (.s .nil), (aS 1), (aI 2), (aZ 1)] [.i .i64, .s, .s] 13) <|
 .i (.call f_k2g [(aS 14), (aS 15), (aI 13)] [.s, .s, .i .i64] 16) <|
 .done [(aS 16), (aS 17), (aI 18)]))))

def R_k2i : R :=
 .i (.call f_k2b [(aS 0), (aS 1), (aI 2)] [.b] 4) <|
 .ite (.not (.v 4))
 (
 .done [(.s .nil), (.s .nil), (aZ 0)])
 (
 .i (.call f_k1n [(aI 3), (.vi .i64 (.z (-10000000))), (aZ 10000000)] [.b] 5) <|
 .ite (.not (.v 5))
 (
 .done [(.s .nil), (.s .nil), (aZ 0)])
 (
 .i (.call f_k26 [] [.s, .s, .i .i64] 6) <|
 .i (.call f_k2f [(aS 6), (aS 7), (aI 8), (aS 0), (aS 1), (aI 2), (aI 3)] [.i .i64, .s, .s] 9) <|
 .i (.call f_k2g [(aS 10), (aS 11), (aI 9)] [.s, .s, .i .i64] 12) <|
 .done [(aS 12), (aS 13), (aI 14)]))

def R_k2j : R :=
 .i (.call f_k2b [(aS 0), (aS 1), (aI 2)] [.b] 6) <|
 .ite (.not (.v 6))
 (
 .done [(.s .nil), (.s .nil), (aZ 0)])
 (
 .i (.call f_k2b [(aS 3), (aS 4), (aI 5)] [.b] 7) <|
 .ite (.not (.v 7))
 (
 .done [(.s .nil), (.s .nil), (aZ 0)])
 (
 .i (.call f_k26 [] [.s, .s, .i .i64] 8) <|
 .i (.call f_k2f [(aS 8), (aS 9), (aI 10), (aS 0), (aS 1), (aI 2), (aZ 1)] [.i .i64, .s, .s] 11) <|
 .i (.call f_k2f [(aS 12), (aS 13), (aI 11), (aS 3), (aS 4), (aI 5), (aZ 1)] [.i .i64, .s, .s] 14) <|
 .i (.call f_k2g [(aS 15), (aS 16), (aI 14)] [.s, .s, .i .i64] 17) <|
 .done [(aS 17), (aS 18), (aI 19)]))

def R_k2k : R :=
 .loop 6 [(.v 1), (.v 2), (.v 3), (.v 4), (.v 5), (.v 0)] <|
 .ite (.cmp .lt (.v 7) (.len (.v 11)))
 (
 .i (.idx (.v 11) (.v 7) (.g [.i .i64, .i .i64, .i .i64, .s, .s, .i .i64]) 12) <|
 .ite (.cmp .eq (.v 12) (.z 4))
 (
 .i (.call f_k2a [(aS 8)] [.s] 18) <|
 .i (.chk (.cmp .le (.len (.app (.v 6) (.cons (.g (.cons (aS 18) (.cons (.s .nil) (.cons (.s .nil) (.cons (.vb .tt) .nil))))) .nil))) (.z 879609302220))) <|
 .esc <|
 .done [(aS 11), (.s (.app (.v 6) (.cons (.g (.cons (aS 18) (.cons (.s .nil) (.cons (.s .nil) (.cons (.vb .tt) .nil))))) .nil)))])
 (
 .i (.call f_k2h [(aS 15), (aS 16), (aI 17), (aS 9)] [.s, .s, .i .i64] 18) <|
 .ite (.cmp .eq (.v 12) (.z 1))
 (
 .i (.call f_k2a [(aS 8)] [.s] 21) <|
 .i (.chk (.cmp .le (.len (.app (.v 21) (.cons (.g (.cons (aS 18) (.cons (aS 19) (.cons (aI 20) .nil)))) .nil))) (.z 1256584717458))) <|
 .i (.call f_k2a [(aS 9)] [.s] 22) <|
 .i (.call f_k2a [(aS 10)] [.s] 23) <|
 .i (.call f_k2k [(aS 11), (aS 6), (.vi .i64 (.bin .add .i64 (.v 7) (.z 1))), (.s (.app (.v 21) (.cons (.g (.cons (aS 18) (.cons (aS 19) (.cons (aI 20) .nil)))) .nil))), (aS 22), (aS 23)] [.s, .s] 24) <|
 .i (.call f_k2i [(aS 18), (aS 19), (aI 20), (.vi .i64 (.z (-1)))] [.s, .s, .i .i64] 26) <|
 .i (.call f_k2a [(aS 8)] [.s] 29) <|
 .i (.chk (.cmp .le (.len (.app (.v 29) (.cons (.g (.cons (aS 26) (.cons (aS 27) (.cons (.vi .i64 (.bin .sub .i64 (.v 28) (.z 1))) .nil)))) .nil))) (.z 1256584717458))) <|
 .next [(.v 25), (.bin .add .i64 (.bin .add .i64 (.v 7) (.v 14)) (.z 1)), (.app (.v 29) (.cons (.g (.cons (aS 26) (.cons (aS 27) (.cons (.vi .i64 (.bin .sub .i64 (.v 28) (.z 1))) .nil)))) .nil)), (.v 9), (.v 10), (.v 24)])
 (
 .ite (.cmp .eq (.v 12) (.z 2))
 (
 .i (.call f_k2a [(aS 9)] [.s] 21) <|
 .i (.chk (.cmp .le (.z 0) (.v 13))) <|
 .i (.chk (.cmp .lt (.v 13) (.len (.v 21)))) <|
 .i (.idx (.v 21) (.v 13) (.g [.s, .s, .i .i64]) 22) <|
 .i (.call f_k2j [(aS 22), (aS 23), (aI 24), (aS 18), (aS 19), (aI 20)] [.s, .s, .i .i64] 25) <|
 .i (.chk (.cmp .le (.z 0) (.v 13))) <|
 .i (.chk (.cmp .lt (.v 13) (.len (.v 21)))) <|
 .i (.idx (.v 21) (.v 13) (.g [.s, .s, .i .i64]) 28) <|
 .next [(.v 6), (.bin .add .i64 (.v 7) (.z 1)), (.v 8), (.set (.v 21) (.v 13) (.g (.cons (aS 25) (.cons (aS 26) (.cons (aI 27) .nil))))), (.v 10), (.v 11)])
 (
 .ite (.cmp .eq (.v 12) (.z 3))
 (
 .i (.call f_k2a [(aS 10)] [.s] 21) <|
 .i (.chk (.cmp .le (.len (.app (.v 21) (.cons (.g (.cons (aS 18) (.cons (aS 19) (.cons (aI 20) .nil)))) .nil))) (.z 1256584717458))) <|
 .next [(.v 6), (.bin .add .i64 (.v 7) (.z 1)), (.v 8), (.v 9), (.app (.v 21) (.cons (.g (.cons (aS 18) (.cons (aS 19) (.cons (aI 20) .nil)))) .nil)), (.v 11)])
 (
 .next [(.v 6), (.bin .add .i64 (.v 7) (.z 1)), (.v 8), (.v 9), (.v 10), (.v 11)])))))
 (
 .esc <|
 .i (.call f_k2a [(aS 8)] [.s] 12) <|
 .i (.call f_k2a [(aS 10)] [.s] 13) <|
 .loop 14 [.nil, (.z 0)] <|
 .ite (.cmp .lt (.v 15) (.len (.v 9)))
 (
 .i (.idx (.v 9) (.v 15) (.g [.s, .s, .i .i64]) 16) <|
 .i (.call f_k27 [(aI 15)] [.s, .s, .i .i64] 19) <|
 .i (.call f_k2i [(aS 19), (aS 20), (aI 21), (.vi .i64 (.z (-1)))] [.s, .s, .i .i64] 22) <|
 .i (.call f_k2j [(aS 16), (aS 17), (aI 18), (aS 22), (aS 23), (aI 24)] [.s, .s, .i .i64] 25) <|
 .i (.fl (.v 25)) <|
 .i (.fl (.v 26)) <|
 .i (.chk (.cmp .le (.len (.app (.v 14) (.cons (.g (.cons (aS 25) (.cons (aS 26) (.cons (aI 27) .nil)))) .nil))) (.z 1256584717458))) <|
 .next [(.app (.v 14) (.cons (.g (.cons (aS 25) (.cons (aS 26) (.cons (aI 27) .nil)))) .nil)), (.bin .add .i64 (.v 15) (.z 1))])
 (
 .esc <|
 .i (.chk (.cmp .le (.len (.app (.v 6) (.cons (.g (.cons (aS 12) (.cons (aS 14) (.cons (aS 13) (.cons (.vb .ff) .nil))))) .nil))) (.z 879609302220))) <|
 .done [(aS 11), (.s (.app (.v 6) (.cons (.g (.cons (aS 12) (.cons (aS 14) (.cons (aS 13) (.cons (.vb .ff) .nil))))) .nil)))]))

def R_k2l : R :=
 .i (.call f_k1y [(aS 0)] [.b] 1) <|
 .ite (.not (.v 1))
 (
 .done [(.s .nil)])
 (
 .loop 2 [.nil, (.z 0)] <|
 .ite (.cmp .lt (.v 3) (.z 3))
 (
 .i (.call f_k27 [(aI 3)] [.s, .s, .i .i64] 4) <|
 .i (.fl (.v 4)) <|
 .i (.fl (.v 5)) <|
 .i (.chk (.cmp .le (.len (.app (.v 2) (.cons (.g (.cons (aS 4) (.cons (aS 5) (.cons (aI 6) .nil)))) .nil))) (.z 1256584717458))) <|
 .next [(.app (.v 2) (.cons (.g (.cons (aS 4) (.cons (aS 5) (.cons (aI 6) .nil)))) .nil)), (.bin .add .i64 (.v 3) (.z 1))])
 (
 .esc <|
 .i (.call f_k2k [(aS 0), (.s .nil), (aZ 0), (.s .nil), (aS 2), (.s .nil)] [.s, .s] 4) <|
 .done [(aS 5)]))

def R_k2m : R :=
 .done [(.vb (.not (.cmp .eq (.v 0) (.z 0))))]

def R_k2n : R :=
 .i (.call f_k28 [(aS 0)] [.s] 3) <|
 .i (.call f_k1r [(aS 3), (.fn f_k2m .nil)] [.i .i64] 4) <|
 .ite (.cmp .le (.z 0) (.v 4))
 (
 .i (.chk (.cmp .le (.z 0) (.v 4))) <|
 .i (.chk (.cmp .lt (.v 4) (.len (.v 3)))) <|
 .i (.idx (.v 3) (.v 4) (.one (.i .i64)) 5) <|
 .ite (.cmp .lt (.v 5) (.z 0))
 (
 .loop 6 [(.v 3), (.z 0)] <|
 .ite (.cmp .lt (.v 7) (.len (.v 3)))
 (
 .i (.chk (.cmp .le (.z 0) (.v 7))) <|
 .i (.chk (.cmp .lt (.v 7) (.len (.v 6)))) <|
 .i (.idx (.v 6) (.v 7) (.one (.i .i64)) 8) <|
 .i (.chk (.cmp .le (.z 0) (.v 7))) <|
 .i (.chk (.cmp .lt (.v 7) (.len (.v 6)))) <|
 .i (.idx (.v 6) (.v 7) (.one (.i .i64)) 9) <|
 .next [(.set (.v 6) (.v 7) (.vi .i64 (.bin .sub .i64 (.z 0) (.v 8)))), (.bin .add .i64 (.v 7) (.z 1))])
 (
 .esc <|
 .done [(aS 6)]))
 (
 .done [(aS 3)]))
 (
 .done [(aS 3)])

def R_k2o : R :=
 .done [(.vb (.not (.cmp .eq (.v 0) (.z 0))))]

def R_k2p : R :=
 .i (.call f_k1s [(aS 0), (.fn f_k2o .nil)] [.b] 1) <|
 .done [(.vb (.not (.v 1)))]

def R_k2q : R :=
 .i (.get (.da 1) (.q [.s]) 2) <|
 .i (.call f_k1v [(aS 0), (aS 2)] [.b] 3) <|
 .done [(aB 3)]

def R_k2r : R :=
 .loop 2 [(.z 0)] <|
 .ite (.cmp .lt (.v 2) (.len (.v 0)))
 (
 .i (.idx (.v 0) (.v 2) (.one (.s)) 3) <|
 .i (.callv (.da 1) [(aS 3)] [none] [.b] 4) <|
 .ite (.v 4)
 (
 .esc <|
 .done [(aI 2)])
 (
 .next [(.bin .add .i64 (.v 2) (.z 1))]))
 (
 .esc <|
 .done [(.vi .i64 (.z (-1)))])

def R_k2s : R :=
 .i (.call f_k2r [(aS 0), (.fn f_k2q (.cons (.q (.cons (aS 1) .nil)) .nil))] [.i .i64] 2) <|
 .done [(aI 2)]

def R_k2t : R :=
 .i (.call f_k20 [(aS 0)] [.b] 1) <|
 .ite (.not (.v 1))
 (
 .done [(.s .nil)])
 (
 .loop 2 [.nil, (.z 0)] <|
 .ite (.cmp .lt (.v 3) (.z 3))
 (
 .i (.call f_k27 [(aI 3)] [.s, .s, .i .i64] 4) <|
 .i (.fl (.v 4)) <|
 .i (.chk (.cmp .le (.len (.app (.v 2) (.cons (aS 4) .nil))) (.z 2932031007402))) <|
 .next [(.app (.v 2) (.cons (aS 4) .nil)), (.bin .add .i64 (.v 3) (.z 1))])
 (
 .esc <|
 .loop 4 [(.v 2), (.z 0)] <|
 .ite (.cmp .lt (.v 5) (.len (.v 0)))
 (
 .i (.idx (.v 0) (.v 5) (.one (.s)) 6) <|
 .i (.call f_k2l [(aS 6)] [.s] 7) <|
 .loop 8 [(.v 4), (.z 0)] <|
 .ite (.cmp .lt (.v 9) (.len (.v 7)))
 (
 .i (.chk (.cmp .le (.z 0) (.v 9))) <|
 .i (.chk (.cmp .lt (.v 9) (.len (.v 7)))) <|
 .i (.idx (.v 7) (.v 9) (.g [.s, .s, .s, .b]) 10) <|
 .loop 14 [(.v 8), (.z 0)] <|
 .ite (.cmp .lt (.v 15) (.len (.v 10)))
 (
 .i (.idx (.v 10) (.v 15) (.g [.s, .s, .i .i64]) 16) <|
 .i (.call f_k2n [(aS 16), (aS 17), (aI 18)] [.s] 19) <|
 .i (.call f_k2p [(aS 19)] [.b] 20) <|
 .ite (.not (.v 20))
 (
 .i (.call f_k2s [(aS 14), (aS 19)] [.i .i64] 21) <|
 .ite (.cmp .lt (.v 21) (.z 0))
 (
 .i (.fl (.v 19)) <|
 .i (.chk (.cmp .le (.len (.app (.v 14) (.cons (aS 19) .nil))) (.z 2932031007402))) <|
 .next [(.app (.v 14) (.cons (aS 19) .nil)), (.bin .add .i64 (.v 15) (.z 1))])
 (
 .next [(.v 14), (.bin .add .i64 (.v 15) (.z 1))]))
 (
 .next [(.v 14), (.bin .add .i64 (.v 15) (.z 1))]))
 (
 .esc <|
 .next [(.v 14), (.bin .add .i64 (.v 9) (.z 1))]))
 (
 .esc <|
 .next [(.v 8), (.bin .add .i64 (.v 5) (.z 1))]))
 (
 .esc <|
 .done [(aS 4)])))

def R_k2u : R :=
 .loop 2 [(.cons (.vb .ff) (.cons (.vb .ff) (.cons (.vb .ff) .nil))), (.z 0)] <|
 .ite (.cmp .lt (.v 3) (.len (.v 0)))
 (
 .i (.idx (.v 0) (.v 3) (.one (.s)) 4) <|
 .i (.call f_k2l [(aS 4)] [.s] 5) <|
 .loop 6 [(.v 2), (.z 0)] <|
 .ite (.cmp .lt (.v 7) (.len (.v 5)))
 (
 .i (.chk (.cmp .le (.z 0) (.v 7))) <|
 .i (.chk (.cmp .lt (.v 7) (.len (.v 5)))) <|
 .i (.idx (.v 5) (.v 7) (.g [.s, .s, .s, .b]) 8) <|
 .loop 12 [(.v 6), (.z 0)] <|
 .ite (.cmp .lt (.v 13) (.len (.v 6)))
 (
 .i (.chk (.cmp .le (.z 0) (.v 13))) <|
 .i (.chk (.cmp .lt (.v 13) (.len (.v 12)))) <|
 .i (.idx (.v 12) (.v 13) (.one (.b)) 14) <|
 .ite (.v 14)
 (
 .i (.chk (.cmp .le (.z 0) (.v 13))) <|
 .i (.chk (.cmp .lt (.v 13) (.len (.v 12)))) <|
 .i (.idx (.v 12) (.v 13) (.one (.b)) 15) <|
 .next [(.set (.v 12) (.v 13) (.vb .tt)), (.bin .add .i64 (.v 13) (.z 1))])
 (
 .i (.callv (.da 1) [(aS 8), (aS 9), (aS 10), (aB 11), (aI 13)] [some 4, none] [.b] 15) <|
 .i (.chk (.cmp .le (.z 0) (.v 13))) <|
 .i (.chk (.cmp .lt (.v 13) (.len (.v 12)))) <|
 .i (.idx (.v 12) (.v 13) (.one (.b)) 16) <|
 .next [(.set (.v 12) (.v 13) (aB 15)), (.bin .add .i64 (.v 13) (.z 1))]))
 (
 .esc <|
 .next [(.v 12), (.bin .add .i64 (.v 7) (.z 1))]))
 (
 .esc <|
 .next [(.v 6), (.bin .add .i64 (.v 3) (.z 1))]))
 (
 .esc <|
 .done [(aS 2)])

def R_k2v : R :=
 .ite (.cmp .lt (.v 0) (.z 0))
 (
 .i (.chk .ff) <|
 .done [])
 (
 .ite (.cmp .lt (.z 0) (.bin .sub .i64 (.v 0) (.bin .sub .i64 (.z 0) (.z 0))))
 (
 .i (.chk (.cmp .lt (.z 0) (.bin .sub .i64 (.v 0) (.bin .sub .i64 (.z 0) (.z 0))))) <|
 .i (.chk (.cmp .le (.bin .sub .i64 (.v 0) (.bin .sub .i64 (.z 0) (.z 0))) (.z 1256584717458))) <|
 .i (.chk (.cmp .le (.z 0) (.len (.rep (.bin .sub .i64 (.v 0) (.bin .sub .i64 (.z 0) (.z 0))) (.g (.cons (.s .nil) (.cons (.s .nil) (.cons (aZ 0) .nil)))))))) <|
 .done [(.s (.take (.rep (.bin .sub .i64 (.v 0) (.bin .sub .i64 (.z 0) (.z 0))) (.g (.cons (.s .nil) (.cons (.s .nil) (.cons (aZ 0) .nil))))) (.z 0)))])
 (
 .done [(.s .nil)]))

def R_k2w : R :=
 .loop 1 [(.z 0), (.z 0)] <|
 .ite (.cmp .lt (.v 2) (.len (.v 0)))
 (
 .i (.idx (.v 0) (.v 2) (.one (.s)) 3) <|
 .ite (.cmp .lt (.bin .add .i64 (.v 1) (.len (.v 3))) (.z 0))
 (
 .i (.chk .ff) <|
 .done [])
 (
 .next [(.bin .add .i64 (.v 1) (.len (.v 3))), (.bin .add .i64 (.v 2) (.z 1))]))
 (
 .esc <|
 .i (.call f_k2v [(aI 1)] [.s] 3) <|
 .loop 4 [(.v 3), (.z 0)] <|
 .ite (.cmp .lt (.v 5) (.len (.v 0)))
 (
 .i (.idx (.v 0) (.v 5) (.one (.s)) 6) <|
 .i (.chk (.cmp .le (.len (.v 6)) (.z 1256584717458))) <|
 .i (.head 3 (.v 6)) <|
 .i (.chk (.cmp .le (.len (.app (.v 4) (.v 6))) (.z 1256584717458))) <|
 .next [(.app (.v 4) (.v 6)), (.bin .add .i64 (.v 5) (.z 1))])
 (
 .esc <|
 .done [(aS 4)]))

def R_k2x : R :=
 .i (.get (.da 3) (.q [.i .i64]) 4) <|
 .i (.idx (.v 0) (.v 4) (.one (.i .i64)) 5) <|
 .done [(.vb (.not (.cmp .eq (.v 5) (.z 0))))]

def R_k2y : R :=
 .i (.call f_k2w [(.s (.cons (aS 1) (.cons (aS 2) .nil)))] [.s] 5) <|
 .i (.call f_k2d [(aS 5), (.fn f_k2x (.cons (.q (.cons (aI 4) .nil)) .nil))] [.b] 6) <|
 .done [(aB 6)]

def R_k2z : R :=
 .i (.call f_k20 [(aS 0)] [.b] 1) <|
 .ite (.not (.v 1))
 (
 .done [(.s .nil)])
 (
 .i (.call f_k2u [(aS 0), (.fn f_k2y .nil)] [.s] 2) <|
 .done [(aS 2)])

def R_k30 : R :=
 .i (.call f_k2t [(aS 0)] [.s] 1) <|
 .i (.call f_k2z [(aS 0)] [.s] 2) <|
 .done [(aS 0), (aS 1), (aS 2)]

def R_k31 : R :=
 .i (.call f_k1n [(aI 4), (aZ 0), (.vi .i64 (.bin .sub .i64 (.len (.v 2)) (.z 1)))] [.b] 5) <|
 .done [(aB 5)]

def R_k32 : R :=
 .i (.call f_k2r [(aS 0), (.da 1)] [.i .i64] 2) <|
 .done [(.vb (.cmp .le (.z 0) (.v 2)))]

def R_k33 : R :=
 .i (.call f_k1t [(aS 0), (aZ 3), (aZ 10000000)] [.b] 1) <|
 .done [(.vb (.not (.v 1)))]

def R_k34 : R :=
 .i (.call f_k32 [(aS 0), (.fn f_k33 .nil)] [.b] 1) <|
 .done [(.vb (.not (.v 1)))]

def R_k35 : R :=
 .i (.call f_k1t [(aS 0), (aZ 3), (aZ 20000)] [.b] 1) <|
 .done [(aB 1)]

def R_k36 : R :=
 .i (.call f_k24 [(aS 0), (aS 1)] [.b] 5) <|
 .ite (.v 5)
 (
 .i (.call f_k34 [(aS 2)] [.b] 6) <|
 .ite (.v 6)
 (
 .i (.call f_k1n [(aI 3), (aZ 0), (.vi .i64 (.bin .sub .i64 (.len (.v 1)) (.z 1)))] [.b] 7) <|
 .ite (.v 7)
 (
 .i (.call f_k35 [(aS 4)] [.b] 8) <|
 .done [(aB 8)])
 (
 .done [(.vb .ff)]))
 (
 .done [(.vb .ff)]))
 (
 .done [(.vb .ff)])

def R_k37 : R :=
 .loop 2 [(.z 0), (.z 0)] <|
 .ite (.cmp .lt (.v 3) (.len (.v 0)))
 (
 .i (.idx (.v 0) (.v 3) (.one (.i .i64)) 4) <|
 .i (.idx (.v 1) (.v 3) (.one (.i .i64)) 5) <|
 .next [(.bin .add .i64 (.v 2) (.bin .mul .i64 (.v 4) (.v 5))), (.bin .add .i64 (.v 3) (.z 1))])
 (
 .esc <|
 .done [(aI 2)])

def R_k38 : R :=
 .i (.get (.da 1) (.q [.s]) 3) <|
 .i (.call f_k37 [(aS 0), (aS 3)] [.i .i64] 4) <|
 .i (.get (.da 2) (.q [.i .i64]) 5) <|
 .i (.get (.da 2) (.q [.i .i64]) 6) <|
 .i (.call f_k1n [(aI 4), (.vi .i64 (.bin .sub .i64 (.z 0) (.v 5))), (aI 6)] [.b] 7) <|
 .done [(.vb (.not (.v 7)))]

def R_k39 : R :=
 .i (.call f_k36 [(aS 0), (aS 1), (aS 2), (aI 3), (aS 4)] [.b] 5) <|
 .ite (.not (.v 5))
 (
 .done [(.vb .ff)])
 (
 .i (.idx (.v 1) (.v 3) (.one (.i .i64)) 6) <|
 .i (.call f_k32 [(aS 2), (.fn f_k38 (.cons (.q (.cons (aS 4) .nil)) (.cons (.q (.cons (aI 6) .nil)) .nil)))] [.b] 7) <|
 .done [(.vb (.not (.v 7)))])

def R_k3a : R :=
 .loop 4 [(.z 0)] <|
 .ite (.cmp .lt (.v 4) (.len (.v 3)))
 (
 .i (.idx (.v 3) (.v 4) (.one (.i .i64)) 5) <|
 .ite (.not (.cmp .eq (.v 5) (.z 0)))
 (
 .i (.idx (.v 2) (.v 4) (.one (.b)) 6) <|
 .ite (.v 6)
 (
 .esc <|
 .done [(.vb .ff)])
 (
 .next [(.bin .add .i64 (.v 4) (.z 1))]))
 (
 .next [(.bin .add .i64 (.v 4) (.z 1))]))
 (
 .esc <|
 .done [(.vb .tt)])

def R_k3b : R :=
 .i (.call f_k39 [(aS 3), (aS 4), (aS 1), (aI 5), (aS 6)] [.b] 7) <|
 .ite (.v 7)
 (
 .i (.call f_k3a [(aS 0), (aS 1), (aS 2), (aS 6)] [.b] 8) <|
 .done [(aB 8)])
 (
 .done [(.vb .ff)])

def R_k3c : R :=
 .loop 2 [(.z 0)] <|
 .ite (.cmp .lt (.v 2) (.len (.v 0)))
 (
 .i (.idx (.v 0) (.v 2) (.g [.i .i64, .i .i64, .s]) 3) <|
 .i (.callv (.da 1) [(aI 3), (aI 4), (aS 5)] [some 3] [.b] 6) <|
 .ite (.v 6)
 (
 .esc <|
 .done [(aI 2)])
 (
 .next [(.bin .add .i64 (.v 2) (.z 1))]))
 (
 .esc <|
 .done [(.vi .i64 (.z (-1)))])

def R_k3d : R :=
 .i (.call f_k3c [(aS 0), (.da 1)] [.i .i64] 2) <|
 .done [(.vb (.cmp .le (.z 0) (.v 2)))]

def R_k3e : R :=
 .ite (.cmp .eq (.v 0) (.z 0))
 (
 .done [(.vb (.cmp .eq (.len (.v 1)) (.z 0)))])
 (
 .done [(.vb .ff)])

def R_k3f : R :=
 .done [(.s (.cons (.vc (.string (strV []))) (.cons (.vc (.string (strV [100, 111, 110, 101]))) (.cons (.vc (.string (strV [115, 116, 111, 112, 112, 101, 100]))) (.cons (.vc (.string (strV [111, 118, 101, 114]))) .nil)))))]

def R_k3h : R :=
 .i (.call f_k1n [(aI 0), (aZ 1), (aZ 3)] [.b] 2) <|
 .ite (.not (.v 2))
 (
 .done [(.vc (.string (strV [])))])
 (
 .ite (.cmp .lt (.z 6) (.len (.v 1)))
 (
 .done [(.vc (.string (strV [])))])
 (
 .ite (.not (.cmp .eq (.v 0) (.z 1)))
 (
 .ite (.cmp .lt (.z 0) (.len (.v 1)))
 (
 .done [(.vc (.string (strV [])))])
 (
 .i (.call f_k1t [(aS 1), (.vi .i64 (.len (.v 1))), (aZ 999999999999)] [.b] 3) <|
 .ite (.not (.v 3))
 (
 .done [(.vc (.string (strV [])))])
 (
 .i (.call f_k3f [] [.s] 4) <|
 .i (.chk (.cmp .le (.z 0) (.v 0))) <|
 .i (.chk (.cmp .lt (.v 0) (.len (.v 4)))) <|
 .i (.idx (.v 4) (.v 0) (.one (.d)) 5) <|
 .i (.call f_k3g [(aS 1)] [.d] 6) <|
 .i (.prim .cat [(.da 5), (.da 6)] (.d) 7) <|
 .done [(.da 7)])))
 (
 .i (.call f_k1t [(aS 1), (.vi .i64 (.len (.v 1))), (aZ 999999999999)] [.b] 3) <|
 .ite (.not (.v 3))
 (
 .done [(.vc (.string (strV [])))])
 (
 .i (.call f_k3f [] [.s] 4) <|
 .i (.chk (.cmp .le (.z 0) (.v 0))) <|
 .i (.chk (.cmp .lt (.v 0) (.len (.v 4)))) <|
 .i (.idx (.v 4) (.v 0) (.one (.d)) 5) <|
 .i (.call f_k3g [(aS 1)] [.d] 6) <|
 .i (.prim .cat [(.da 5), (.da 6)] (.d) 7) <|
 .done [(.da 7)]))))

def R_k3i : R :=
 .i (.call f_k3h [(aI 0), (aS 1)] [.d] 2) <|
 .i (.prim .seq [(.da 2), (.vc (.string (strV [])))] (.b) 3) <|
 .done [(.vb (.not (.v 3)))]

def R_k3j : R :=
 .ite (.cmp .eq (.v 0) (.z 0))
 (
 .i (.call f_k3e [(aI 1), (aS 2)] [.b] 3) <|
 .done [(aB 3)])
 (
 .i (.call f_k1n [(aI 0), (aZ 1), (aZ 300)] [.b] 3) <|
 .ite (.v 3)
 (
 .i (.call f_k3i [(aI 1), (aS 2)] [.b] 4) <|
 .done [(aB 4)])
 (
 .done [(.vb .ff)]))

def R_k3k : R :=
 .i (.call f_k3j [(aI 0), (aI 1), (aS 2)] [.b] 3) <|
 .done [(.vb (.not (.v 3)))]

def R_k3l : R :=
 .ite (.cmp .eq (.len (.v 4)) (.v 0))
 (
 .i (.call f_k3d [(aS 4), (.fn f_k3k .nil)] [.b] 5) <|
 .done [(.vb (.not (.v 5)))])
 (
 .done [(.vb .ff)])

def R_k3m : R :=
 .i (.call f_k31 [(aI 0), (aS 1), (aS 2), (aS 3), (aI 13)] [.b] 14) <|
 .ite (.v 14)
 (
 .i (.call f_k1n [(aI 9), (aZ 0), (aZ 200)] [.b] 15) <|
 .ite (.v 15)
 (
 .i (.call f_k23 [(aS 10)] [.b] 16) <|
 .ite (.v 16)
 (
 .i (.call f_k21 [(aI 0), (aS 1), (aS 2), (aS 3), (aS 10)] [.s, .s] 17) <|
 .i (.call f_k3b [(aS 4), (aS 5), (aS 6), (aS 17), (aS 18), (aI 13), (aS 11)] [.b] 19) <|
 .ite (.v 19)
 (
 .i (.call f_k3l [(aI 0), (aS 1), (aS 2), (aS 3), (aS 12)] [.b] 20) <|
 .done [(aB 20)])
 (
 .done [(.vb .ff)]))
 (
 .done [(.vb .ff)]))
 (
 .done [(.vb .ff)]))
 (
 .done [(.vb .ff)])

def R_k3n : R :=
 .i (.call f_k25 [(aI 0), (aS 1), (aS 2), (aS 3)] [.b] 11) <|
 .ite (.v 11)
 (
 .i (.call f_k30 [(aS 1)] [.s, .s, .s] 12) <|
 .i (.call f_k3m [(aI 0), (aS 1), (aS 2), (aS 3), (aS 12), (aS 13), (aS 14), (aB 4), (aB 5), (aI 6), (aS 7), (aS 8), (aS 9), (aI 10)] [.b] 15) <|
 .done [(aB 15)])
 (
 .done [(.vb .ff)])

def R_k3o : R :=
 .i (.call f_k28 [(aS 1)] [.s] 2) <|
 .done [(aI 0), (aS 2)]

def R_k3p : R :=
 .loop 1 [.nil, (.z 0)] <|
 .ite (.cmp .lt (.v 2) (.len (.v 0)))
 (
 .i (.idx (.v 0) (.v 2) (.g [.i .i64, .i .i64, .s]) 3) <|
 .i (.call f_k3o [(aI 4), (aS 5)] [.i .i64, .s] 6) <|
 .i (.fl (.v 7)) <|
 .i (.chk (.cmp .le (.len (.app (.v 1) (.cons (.g (.cons (aI 3) (.cons (aI 6) (.cons (aS 7) .nil)))) .nil))) (.z 1759218604441))) <|
 .next [(.app (.v 1) (.cons (.g (.cons (aI 3) (.cons (aI 6) (.cons (aS 7) .nil)))) .nil)), (.bin .add .i64 (.v 2) (.z 1))])
 (
 .esc <|
 .done [(aS 1)])

def R_k3q : R :=
 .i (.call f_k28 [(aS 3)] [.s] 6) <|
 .i (.call f_k28 [(aS 4)] [.s] 7) <|
 .i (.call f_k3p [(aS 5)] [.s] 8) <|
 .done [(aB 0), (aB 1), (aI 2), (aS 6), (aS 7), (aS 8)]

def R_k3r : R :=
 .i (.call f_k3n [(aI 0), (aS 1), (aS 2), (aS 3), (aB 4), (aB 5), (aI 6), (aS 7), (aS 8), (aS 9), (aI 10)] [.b] 12) <|
 .ite (.not (.v 12))
 (
 .done [(.vb .ff), (.vb .ff), (aZ 0), (.s .nil), (.s .nil), (.s .nil)])
 (
 .i (.call f_k3q [(aB 4), (aB 5), (aI 6), (aS 7), (aS 8), (aS 9)] [.b, .b, .i .i64, .s, .s, .s] 13) <|
 .done [(aB 11), (aB 14), (aI 15), (aS 16), (aS 17), (aS 18)])

def R_k3s : R :=
 .ite (.not (.cmp .eq (.len (.v 0)) (.len (.v 1))))
 (
 .done [(.vb .ff)])
 (
 .loop 2 [(.z 0)] <|
 .ite (.cmp .lt (.v 2) (.len (.v 0)))
 (
 .i (.idx (.v 0) (.v 2) (.one (.i .i64)) 3) <|
 .i (.idx (.v 1) (.v 2) (.one (.i .i64)) 4) <|
 .ite (.not (.cmp .eq (.v 3) (.v 4)))
 (
 .esc <|
 .done [(.vb .ff)])
 (
 .next [(.bin .add .i64 (.v 2) (.z 1))]))
 (
 .esc <|
 .done [(.vb .tt)]))

def R_k3t : R :=
 .ite (.not (.cmp .eq (.v 0) (.v 2)))
 (
 .done [(.vb .ff)])
 (
 .i (.call f_k3s [(aS 1), (aS 3)] [.b] 4) <|
 .ite (.not (.v 4))
 (
 .done [(.vb .ff)])
 (
 .done [(.vb .tt)]))

def R_k3u : R :=
 .ite (.not (.cmp .eq (.v 0) (.v 3)))
 (
 .done [(.vb .ff)])
 (
 .i (.call f_k3t [(aI 1), (aS 2), (aI 4), (aS 5)] [.b] 6) <|
 .ite (.not (.v 6))
 (
 .done [(.vb .ff)])
 (
 .done [(.vb .tt)]))

def R_k3v : R :=
 .ite (.not (.cmp .eq (.len (.v 0)) (.len (.v 1))))
 (
 .done [(.vb .ff)])
 (
 .loop 2 [(.z 0)] <|
 .ite (.cmp .lt (.v 2) (.len (.v 0)))
 (
 .i (.idx (.v 0) (.v 2) (.g [.i .i64, .i .i64, .s]) 3) <|
 .i (.idx (.v 1) (.v 2) (.g [.i .i64, .i .i64, .s]) 6) <|
 .i (.call f_k3u [(aI 3), (aI 4), (aS 5), (aI 6), (aI 7), (aS 8)] [.b] 9) <|
 .ite (.not (.v 9))
 (
 .esc <|
 .done [(.vb .ff)])
 (
 .next [(.bin .add .i64 (.v 2) (.z 1))]))
 (
 .esc <|
 .done [(.vb .tt)]))

def R_k3w : R :=
 .ite (.not (.beq (.v 0) (.v 6)))
 (
 .done [(.vb .ff)])
 (
 .ite (.not (.beq (.v 1) (.v 7)))
 (
 .done [(.vb .ff)])
 (
 .ite (.not (.cmp .eq (.v 2) (.v 8)))
 (
 .done [(.vb .ff)])
 (
 .i (.call f_k3s [(aS 3), (aS 9)] [.b] 12) <|
 .ite (.not (.v 12))
 (
 .done [(.vb .ff)])
 (
 .i (.call f_k3s [(aS 4), (aS 10)] [.b] 13) <|
 .ite (.not (.v 13))
 (
 .done [(.vb .ff)])
 (
 .i (.call f_k3v [(aS 5), (aS 11)] [.b] 14) <|
 .ite (.not (.v 14))
 (
 .done [(.vb .ff)])
 (
 .done [(.vb .tt)]))))))

def R_k3x : R :=
 .i (.call f_k3s [(aS 0), (aS 3)] [.b] 6) <|
 .ite (.not (.v 6))
 (
 .done [(.vb .ff)])
 (
 .i (.call f_k3s [(aS 1), (aS 4)] [.b] 7) <|
 .ite (.not (.v 7))
 (
 .done [(.vb .ff)])
 (
 .ite (.not (.cmp .eq (.v 2) (.v 5)))
 (
 .done [(.vb .ff)])
 (
 .done [(.vb .tt)])))

def R_k3y : R :=
 .ite (.not (.cmp .eq (.v 0) (.v 6)))
 (
 .done [(.vb .ff)])
 (
 .ite (.not (.cmp .eq (.v 1) (.v 7)))
 (
 .done [(.vb .ff)])
 (
 .ite (.not (.cmp .eq (.v 2) (.v 8)))
 (
 .done [(.vb .ff)])
 (
 .i (.call f_k3x [(aS 3), (aS 4), (aI 5), (aS 9), (aS 10), (aI 11)] [.b] 12) <|
 .ite (.not (.v 12))
 (
 .done [(.vb .ff)])
 (
 .done [(.vb .tt)]))))

def R_k3z : R :=
 .ite (.not (.cmp .eq (.len (.v 0)) (.len (.v 1))))
 (
 .done [(.vb .ff)])
 (
 .loop 2 [(.z 0)] <|
 .ite (.cmp .lt (.v 2) (.len (.v 0)))
 (
 .i (.idx (.v 0) (.v 2) (.g [.i .i64, .i .i64, .i .i64, .s, .s, .i .i64]) 3) <|
 .i (.idx (.v 1) (.v 2) (.g [.i .i64, .i .i64, .i .i64, .s, .s, .i .i64]) 9) <|
 .i (.call f_k3y [(aI 3), (aI 4), (aI 5), (aS 6), (aS 7), (aI 8), (aI 9), (aI 10), (aI 11), (aS 12), (aS 13), (aI 14)] [.b] 15) <|
 .ite (.not (.v 15))
 (
 .esc <|
 .done [(.vb .ff)])
 (
 .next [(.bin .add .i64 (.v 2) (.z 1))]))
 (
 .esc <|
 .done [(.vb .tt)]))

def R_k40 : R :=
 .ite (.not (.cmp .eq (.len (.v 0)) (.len (.v 1))))
 (
 .done [(.vb .ff)])
 (
 .loop 2 [(.z 0)] <|
 .ite (.cmp .lt (.v 2) (.len (.v 0)))
 (
 .i (.idx (.v 0) (.v 2) (.one (.s)) 3) <|
 .i (.idx (.v 1) (.v 2) (.one (.s)) 4) <|
 .i (.call f_k3z [(aS 3), (aS 4)] [.b] 5) <|
 .ite (.not (.v 5))
 (
 .esc <|
 .done [(.vb .ff)])
 (
 .next [(.bin .add .i64 (.v 2) (.z 1))]))
 (
 .esc <|
 .done [(.vb .tt)]))

def R_k41 : R :=
 .ite (.not (.cmp .eq (.v 0) (.v 4)))
 (
 .done [(.vb .ff)])
 (
 .i (.call f_k40 [(aS 1), (aS 5)] [.b] 8) <|
 .ite (.not (.v 8))
 (
 .done [(.vb .ff)])
 (
 .i (.call f_k3s [(aS 2), (aS 6)] [.b] 9) <|
 .ite (.not (.v 9))
 (
 .done [(.vb .ff)])
 (
 .i (.call f_k3s [(aS 3), (aS 7)] [.b] 10) <|
 .ite (.not (.v 10))
 (
 .done [(.vb .ff)])
 (
 .done [(.vb .tt)]))))

def R_k42 : R :=
 .loop 2 [(.v 0), (.v 1), (.z 0)] <|
 .ite (.cmp .lt (.v 4) (.len (.v 2)))
 (
 .i (.chk (.cmp .le (.z 0) (.v 4))) <|
 .i (.chk (.cmp .lt (.v 4) (.len (.v 2)))) <|
 .i (.idx (.v 2) (.v 4) (.one (.i .i64)) 5) <|
 .next [(.set (.v 2) (.v 4) (aI 3)), (.bin .add .i64 (.v 3) (.z 1)), (.bin .add .i64 (.v 4) (.z 1))])
 (
 .esc <|
 .done [(aI 3), (aS 2)])

def R_k43 : R :=
 .loop 2 [(.v 0), (.v 1), (.z 0)] <|
 .ite (.cmp .lt (.v 4) (.len (.v 2)))
 (
 .i (.chk (.cmp .le (.z 0) (.v 4))) <|
 .i (.chk (.cmp .lt (.v 4) (.len (.v 2)))) <|
 .i (.idx (.v 2) (.v 4) (.g [.i .i64, .i .i64, .i .i64, .s, .s, .i .i64]) 5) <|
 .i (.chk (.cmp .le (.z 0) (.v 4))) <|
 .i (.chk (.cmp .lt (.v 4) (.len (.v 2)))) <|
 .i (.idx (.set (.v 2) (.v 4) (.g (.cons (aI 3) (.cons (aI 6) (.cons (aI 7) (.cons (aS 8) (.cons (aS 9) (.cons (aI 10) .nil)))))))) (.v 4) (.g [.i .i64, .i .i64, .i .i64, .s, .s, .i .i64]) 11) <|
 .i (.chk (.cmp .le (.z 0) (.v 4))) <|
 .i (.chk (.cmp .lt (.v 4) (.len (.v 2)))) <|
 .i (.idx (.set (.set (.v 2) (.v 4) (.g (.cons (aI 3) (.cons (aI 6) (.cons (aI 7) (.cons (aS 8) (.cons (aS 9) (.cons (aI 10) .nil)))))))) (.v 4) (.g (.cons (aI 11) (.cons (.vi .i64 (.bin .add .i64 (.v 3) (.z 1))) (.cons (aI 13) (.cons (aS 14) (.cons (aS 15) (.cons (aI 16) .nil)))))))) (.v 4) (.g [.i .i64, .i .i64, .i .i64, .s, .s, .i .i64]) 17) <|
 .i (.chk (.cmp .le (.z 0) (.v 4))) <|
 .i (.chk (.cmp .lt (.v 4) (.len (.v 2)))) <|
 .i (.idx (.set (.set (.set (.v 2) (.v 4) (.g (.cons (aI 3) (.cons (aI 6) (.cons (aI 7) (.cons (aS 8) (.cons (aS 9) (.cons (aI 10) .nil)))))))) (.v 4) (.g (.cons (aI 11) (.cons (.vi .i64 (.bin .add .i64 (.v 3) (.z 1))) (.cons (aI 13) (.cons (aS 14) (.cons (aS 15) (.cons (aI 16) .nil)))))))) (.v 4) (.g (.cons (aI 17) (.cons (aI 18) (.cons (.vi .i64 (.bin .add .i64 (.bin .add .i64 (.v 3) (.z 1)) (.z 1))) (.cons (aS 20) (.cons (aS 21) (.cons (aI 22) .nil)))))))) (.v 4) (.g [.i .i64, .i .i64, .i .i64, .s, .s, .i .i64]) 23) <|
 .i (.call f_k42 [(aS 26), (.vi .i64 (.bin .add .i64 (.bin .add .i64 (.bin .add .i64 (.v 3) (.z 1)) (.z 1)) (.z 1)))] [.i .i64, .s] 29) <|
 .i (.chk (.cmp .eq (.len (.v 30)) (.len (.v 26)))) <|
 .i (.chk (.cmp .le (.z 0) (.v 4))) <|
 .i (.chk (.cmp .lt (.v 4) (.len (.v 2)))) <|
 .i (.idx (.set (.set (.set (.set (.v 2) (.v 4) (.g (.cons (aI 3) (.cons (aI 6) (.cons (aI 7) (.cons (aS 8) (.cons (aS 9) (.cons (aI 10) .nil)))))))) (.v 4) (.g (.cons (aI 11) (.cons (.vi .i64 (.bin .add .i64 (.v 3) (.z 1))) (.cons (aI 13) (.cons (aS 14) (.cons (aS 15) (.cons (aI 16) .nil)))))))) (.v 4) (.g (.cons (aI 17) (.cons (aI 18) (.cons (.vi .i64 (.bin .add .i64 (.bin .add .i64 (.v 3) (.z 1)) (.z 1))) (.cons (aS 20) (.cons (aS 21) (.cons (aI 22) .nil)))))))) (.v 4) (.g (.cons (aI 23) (.cons (aI 24) (.cons (aI 25) (.cons (aS 30) (.cons (aS 27) (.cons (aI 28) .nil)))))))) (.v 4) (.g [.i .i64, .i .i64, .i .i64, .s, .s, .i .i64]) 31) <|
 .i (.call f_k42 [(aS 35), (aI 29)] [.i .i64, .s] 37) <|
 .i (.chk (.cmp .eq (.len (.v 38)) (.len (.v 35)))) <|
 .i (.chk (.cmp .le (.z 0) (.v 4))) <|
 .i (.chk (.cmp .lt (.v 4) (.len (.v 2)))) <|
 .i (.idx (.set (.set (.set (.set (.set (.v 2) (.v 4) (.g (.cons (aI 3) (.cons (aI 6) (.cons (aI 7) (.cons (aS 8) (.cons (aS 9) (.cons (aI 10) .nil)))))))) (.v 4) (.g (.cons (aI 11) (.cons (.vi .i64 (.bin .add .i64 (.v 3) (.z 1))) (.cons (aI 13) (.cons (aS 14) (.cons (aS 15) (.cons (aI 16) .nil)))))))) (.v 4) (.g (.cons (aI 17) (.cons (aI 18) (.cons (.vi .i64 (.bin .add .i64 (.bin .add .i64 (.v 3) (.z 1)) (.z 1))) (.cons (aS 20) (.cons (aS 21) (.cons (aI 22) .nil)))))))) (.v 4) (.g (.cons (aI 23) (.cons (aI 24) (.cons (aI 25) (.cons (aS 30) (.cons (aS 27) (.cons (aI 28) .nil)))))))) (.v 4) (.g (.cons (aI 31) (.cons (aI 32) (.cons (aI 33) (.cons (aS 34) (.cons (aS 38) (.cons (aI 36) .nil)))))))) (.v 4) (.g [.i .i64, .i .i64, .i .i64, .s, .s, .i .i64]) 39) <|
 .next [(.set (.set (.set (.set (.set (.set (.v 2) (.v 4) (.g (.cons (aI 3) (.cons (aI 6) (.cons (aI 7) (.cons (aS 8) (.cons (aS 9) (.cons (aI 10) .nil)))))))) (.v 4) (.g (.cons (aI 11) (.cons (.vi .i64 (.bin .add .i64 (.v 3) (.z 1))) (.cons (aI 13) (.cons (aS 14) (.cons (aS 15) (.cons (aI 16) .nil)))))))) (.v 4) (.g (.cons (aI 17) (.cons (aI 18) (.cons (.vi .i64 (.bin .add .i64 (.bin .add .i64 (.v 3) (.z 1)) (.z 1))) (.cons (aS 20) (.cons (aS 21) (.cons (aI 22) .nil)))))))) (.v 4) (.g (.cons (aI 23) (.cons (aI 24) (.cons (aI 25) (.cons (aS 30) (.cons (aS 27) (.cons (aI 28) .nil)))))))) (.v 4) (.g (.cons (aI 31) (.cons (aI 32) (.cons (aI 33) (.cons (aS 34) (.cons (aS 38) (.cons (aI 36) .nil)))))))) (.v 4) (.g (.cons (aI 39) (.cons (aI 40) (.cons (aI 41) (.cons (aS 42) (.cons (aS 43) (.cons (aI 37) .nil)))))))), (.bin .add .i64 (.v 37) (.z 1)), (.bin .add .i64 (.v 4) (.z 1))])
 (
 .esc <|
 .done [(aI 3), (aS 2)])

def R_k44 : R :=
 .loop 2 [(.v 0), (.v 1), (.z 0)] <|
 .ite (.cmp .lt (.v 4) (.len (.v 2)))
 (
 .i (.chk (.cmp .le (.z 0) (.v 4))) <|
 .i (.chk (.cmp .lt (.v 4) (.len (.v 2)))) <|
 .i (.idx (.v 2) (.v 4) (.one (.s)) 5) <|
 .i (.call f_k43 [(aS 5), (aI 3)] [.i .i64, .s] 6) <|
 .i (.chk (.cmp .eq (.len (.v 7)) (.len (.v 5)))) <|
 .next [(.set (.v 2) (.v 4) (aS 7)), (.v 6), (.bin .add .i64 (.v 4) (.z 1))])
 (
 .esc <|
 .done [(aI 3), (aS 2)])

def R_k45 : R :=
 .i (.call f_k44 [(aS 1), (aI 4)] [.i .i64, .s] 5) <|
 .i (.call f_k42 [(aS 2), (aI 5)] [.i .i64, .s] 7) <|
 .i (.call f_k42 [(aS 3), (aI 7)] [.i .i64, .s] 9) <|
 .done [(aI 9), (aS 6), (aS 8), (aS 10)]

def R_k46 : R :=
 .loop 2 [(.v 0), (.v 1), (.z 0)] <|
 .ite (.cmp .lt (.v 4) (.len (.v 2)))
 (
 .i (.chk (.cmp .le (.z 0) (.v 4))) <|
 .i (.chk (.cmp .lt (.v 4) (.len (.v 2)))) <|
 .i (.idx (.v 2) (.v 4) (.g [.i .i64, .i .i64, .s]) 5) <|
 .i (.chk (.cmp .le (.z 0) (.v 4))) <|
 .i (.chk (.cmp .lt (.v 4) (.len (.v 2)))) <|
 .i (.idx (.set (.v 2) (.v 4) (.g (.cons (aI 3) (.cons (aI 6) (.cons (aS 7) .nil))))) (.v 4) (.g [.i .i64, .i .i64, .s]) 8) <|
 .i (.chk (.cmp .le (.z 0) (.v 4))) <|
 .i (.chk (.cmp .lt (.v 4) (.len (.v 2)))) <|
 .i (.idx (.set (.set (.v 2) (.v 4) (.g (.cons (aI 3) (.cons (aI 6) (.cons (aS 7) .nil))))) (.v 4) (.g (.cons (aI 8) (.cons (.vi .i64 (.bin .add .i64 (.v 3) (.z 1))) (.cons (aS 10) .nil))))) (.v 4) (.g [.i .i64, .i .i64, .s]) 11) <|
 .i (.call f_k42 [(aS 13), (.vi .i64 (.bin .add .i64 (.bin .add .i64 (.v 3) (.z 1)) (.z 1)))] [.i .i64, .s] 14) <|
 .i (.chk (.cmp .eq (.len (.v 15)) (.len (.v 13)))) <|
 .next [(.set (.set (.set (.v 2) (.v 4) (.g (.cons (aI 3) (.cons (aI 6) (.cons (aS 7) .nil))))) (.v 4) (.g (.cons (aI 8) (.cons (.vi .i64 (.bin .add .i64 (.v 3) (.z 1))) (.cons (aS 10) .nil))))) (.v 4) (.g (.cons (aI 11) (.cons (aI 12) (.cons (aS 15) .nil))))), (.v 14), (.bin .add .i64 (.v 4) (.z 1))])
 (
 .esc <|
 .done [(aI 3), (aS 2)])

def R_k47 : R :=
 .i (.call f_k42 [(aS 3), (aI 6)] [.i .i64, .s] 7) <|
 .i (.call f_k42 [(aS 4), (aI 7)] [.i .i64, .s] 9) <|
 .i (.call f_k46 [(aS 5), (aI 9)] [.i .i64, .s] 11) <|
 .done [(aI 11), (aS 8), (aS 10), (aS 12)]

def R_k48 : R :=
 .loop 2 [(.v 1), (.z 0)] <|
 .ite (.cmp .lt (.v 3) (.len (.v 0)))
 (
 .i (.idx (.v 0) (.v 3) (.one (.i .i64)) 4) <|
 .ite (.not (.cmp .eq (.v 4) (.v 2)))
 (
 .esc <|
 .done [(.vi .i64 (.z (-1)))])
 (
 .next [(.bin .add .i64 (.v 2) (.z 1)), (.bin .add .i64 (.v 3) (.z 1))]))
 (
 .esc <|
 .done [(aI 2)])

def R_k49 : R :=
 .loop 2 [(.v 1), (.z 0)] <|
 .ite (.cmp .lt (.v 3) (.len (.v 0)))
 (
 .i (.idx (.v 0) (.v 3) (.g [.i .i64, .i .i64, .s]) 4) <|
 .ite (.not (.cmp .eq (.v 4) (.v 2)))
 (
 .esc <|
 .done [(.vi .i64 (.z (-1)))])
 (
 .i (.idx (.v 0) (.v 3) (.g [.i .i64, .i .i64, .s]) 7) <|
 .ite (.not (.cmp .eq (.v 8) (.bin .add .i64 (.v 2) (.z 1))))
 (
 .esc <|
 .done [(.vi .i64 (.z (-1)))])
 (
 .i (.idx (.v 0) (.v 3) (.g [.i .i64, .i .i64, .s]) 10) <|
 .i (.call f_k48 [(aS 12), (.vi .i64 (.bin .add .i64 (.bin .add .i64 (.v 2) (.z 1)) (.z 1)))] [.i .i64] 13) <|
 .ite (.cmp .lt (.v 13) (.z 0))
 (
 .esc <|
 .done [(.vi .i64 (.z (-1)))])
 (
 .next [(.v 13), (.bin .add .i64 (.v 3) (.z 1))]))))
 (
 .esc <|
 .done [(aI 2)])

def R_k4a : R :=
 .i (.call f_k48 [(aS 3), (aI 6)] [.i .i64] 7) <|
 .ite (.cmp .lt (.v 7) (.z 0))
 (
 .done [(.vi .i64 (.z (-1)))])
 (
 .i (.call f_k48 [(aS 4), (aI 7)] [.i .i64] 8) <|
 .ite (.cmp .lt (.v 8) (.z 0))
 (
 .done [(.vi .i64 (.z (-1)))])
 (
 .i (.call f_k49 [(aS 5), (aI 8)] [.i .i64] 9) <|
 .ite (.cmp .lt (.v 9) (.z 0))
 (
 .done [(.vi .i64 (.z (-1)))])
 (
 .done [(aI 9)])))

def R_k4b : R :=
 .i (.call f_k5 [(aI 0), (aS 1), (aS 2), (aS 3), (aZ 1048576)] [.i .i64] 12) <|
 .ite (.cmp .lt (.v 12) (.z 0))
 (
 .done [(.vb .tt)])
 (
 .i (.call f_k9 [(aB 4), (aB 5), (aI 6), (aS 7), (aS 8), (aS 9), (aI 12)] [.i .i64] 13) <|
 .ite (.cmp .lt (.v 13) (.z 0))
 (
 .done [(.vb .tt)])
 (
 .i (.call f_kf [(aI 0), (aS 1), (aS 2), (aS 3)] [.i .i64, .s, .s, .s] 14) <|
 .i (.call f_kj [(aB 4), (aB 5), (aI 6), (aS 7), (aS 8), (aS 9)] [.b, .b, .i .i64, .s, .s, .s] 18) <|
 .i (.call f_k1m [(aI 14), (aS 15), (aS 16), (aS 17), (aB 18), (aB 19), (aI 20), (aS 21), (aS 22), (aS 23), (aI 10), (aB 11)] [.b, .b, .i .i64, .s, .s, .s] 24) <|
 .i (.call f_kf [(aI 0), (aS 1), (aS 2), (aS 3)] [.i .i64, .s, .s, .s] 30) <|
 .i (.call f_kj [(aB 4), (aB 5), (aI 6), (aS 7), (aS 8), (aS 9)] [.b, .b, .i .i64, .s, .s, .s] 34) <|
 .i (.call f_k3r [(aI 30), (aS 31), (aS 32), (aS 33), (aB 34), (aB 35), (aI 36), (aS 37), (aS 38), (aS 39), (aI 10), (aB 11)] [.b, .b, .i .i64, .s, .s, .s] 40) <|
 .i (.fl (.v 43)) <|
 .i (.fl (.v 44)) <|
 .i (.call f_k3w [(aB 40), (aB 41), (aI 42), (aS 43), (aS 44), (aS 45), (aB 24), (aB 25), (aI 26), (aS 27), (aS 28), (aS 29)] [.b] 46) <|
 .ite (.not (.v 46))
 (
 .done [(.vb .ff)])
 (
 .i (.call f_kf [(aI 0), (aS 1), (aS 2), (aS 3)] [.i .i64, .s, .s, .s] 47) <|
 .i (.call f_k41 [(aI 30), (aS 31), (aS 32), (aS 33), (aI 47), (aS 48), (aS 49), (aS 50)] [.b] 51) <|
 .ite (.not (.v 51))
 (
 .done [(.vb .ff)])
 (
 .i (.call f_kj [(aB 4), (aB 5), (aI 6), (aS 7), (aS 8), (aS 9)] [.b, .b, .i .i64, .s, .s, .s] 52) <|
 .i (.call f_k3w [(aB 34), (aB 35), (aI 36), (aS 37), (aS 38), (aS 39), (aB 52), (aB 53), (aI 54), (aS 55), (aS 56), (aS 57)] [.b] 58) <|
 .ite (.not (.v 58))
 (
 .done [(.vb .ff)])
 (
 .i (.call f_k45 [(aI 30), (aS 31), (aS 32), (aS 33), (aZ 1)] [.i .i64, .s, .s, .s] 59) <|
 .i (.call f_k47 [(aB 34), (aB 35), (aI 36), (aS 37), (aS 38), (aS 39), (aI 59)] [.i .i64, .s, .s, .s] 63) <|
 .ite (.cmp .lt (.v 63) (.z 0))
 (
 .done [(.vb .ff)])
 (
 .i (.call f_k3w [(aB 40), (aB 41), (aI 42), (aS 43), (aS 44), (aS 45), (aB 24), (aB 25), (aI 26), (aS 27), (aS 28), (aS 29)] [.b] 67) <|
 .ite (.not (.v 67))
 (
 .done [(.vb .ff)])
 (
 .i (.call f_k47 [(aB 40), (aB 41), (aI 42), (aS 43), (aS 44), (aS 45), (aZ 1)] [.i .i64, .s, .s, .s] 68) <|
 .i (.chk (.cmp .eq (.len (.v 43)) (.len (.v 69)))) <|
 .i (.chk (.cmp .eq (.len (.v 44)) (.len (.v 70)))) <|
 .i (.chk (.cmp .eq (.len (.v 45)) (.len (.v 71)))) <|
 .i (.call f_k4a [(aB 40), (aB 41), (aI 42), (aS 69), (aS 70), (aS 71), (aZ 1)] [.i .i64] 72) <|
 .ite (.cmp .lt (.v 72) (.z 0))
 (
 .done [(.vb .ff)])
 (
 .ite (.not (.cmp .eq (.v 72) (.v 68)))
 (
 .done [(.vb .ff)])
 (
 .i (.call f_kf [(aI 0), (aS 1), (aS 2), (aS 3)] [.i .i64, .s, .s, .s] 73) <|
 .i (.call f_kj [(aB 4), (aB 5), (aI 6), (aS 7), (aS 8), (aS 9)] [.b, .b, .i .i64, .s, .s, .s] 77) <|
 .i (.call f_k3r [(aI 73), (aS 74), (aS 75), (aS 76), (aB 77), (aB 78), (aI 79), (aS 80), (aS 81), (aS 82), (aI 10), (aB 11)] [.b, .b, .i .i64, .s, .s, .s] 83) <|
 .i (.fl (.v 86)) <|
 .i (.fl (.v 87)) <|
 .i (.call f_k3w [(aB 83), (aB 84), (aI 85), (aS 86), (aS 87), (aS 88), (aB 24), (aB 25), (aI 26), (aS 27), (aS 28), (aS 29)] [.b] 89) <|
 .ite (.not (.v 89))
 (
 .done [(.vb .ff)])
 (
 .i (.chk (.cmp .eq (.len (.v 43)) (.len (.v 69)))) <|
 .i (.chk (.cmp .eq (.len (.v 44)) (.len (.v 70)))) <|
 .i (.chk (.cmp .eq (.len (.v 45)) (.len (.v 71)))) <|
 .i (.call f_k4a [(aB 40), (aB 41), (aI 42), (aS 69), (aS 70), (aS 71), (aZ 1)] [.i .i64] 90) <|
 .ite (.cmp .lt (.v 90) (.z 0))
 (
 .done [(.vb .ff)])
 (
 .ite (.not (.cmp .eq (.v 90) (.v 68)))
 (
 .done [(.vb .ff)])
 (
 .done [(.vb .tt)]))))))))))))
def E_k0 : Entry := ⟨.d ⟨[(.one (.s)), (.one (.i .i64))], (.one (.one (.i .i64))), true⟩, .r ⟨[0, 1, 4, 10], 0, [], [], false, [], []⟩ R_k0⟩
def E_k1 : Entry := ⟨.d ⟨[(.g [.s, .s, .i .i64]), (.one (.i .i64))], (.one (.one (.i .i64))), true⟩, .r ⟨[0, 1, 2, 4, 10, 16], 0, [], [], false, [], []⟩ R_k1⟩
def E_k2 : Entry := ⟨.d ⟨[(.g [.i .i64, .i .i64, .i .i64, .s, .s, .i .i64]), (.one (.i .i64))], (.one (.one (.i .i64))), true⟩, .r ⟨[0, 1, 2, 4, 10], 0, [], [], false, [], []⟩ R_k2⟩
def E_k3 : Entry := ⟨.d ⟨[(.one (.s)), (.one (.i .i64))], (.one (.one (.i .i64))), true⟩, .r ⟨[0, 1, 4, 5, 11, 15, 25], 0, [], [(5, ⟨[5, 1], [], [], [], []⟩)], false, [], []⟩ R_k3⟩
def E_k4 : Entry := ⟨.d ⟨[(.one (.s)), (.one (.i .i64))], (.one (.one (.i .i64))), true⟩, .r ⟨[0, 1, 4, 5, 11, 15, 25], 0, [], [(5, ⟨[5, 1], [], [], [], []⟩)], false, [], []⟩ R_k4⟩
def E_k5 : Entry := ⟨.d ⟨[(.g [.i .i64, .s, .s, .s]), (.one (.i .i64))], (.one (.one (.i .i64))), true⟩, .r ⟨[0, 1, 2, 4, 10, 16, 22], 0, [], [], false, [], []⟩ R_k5⟩
def E_k6 : Entry := ⟨.d ⟨[(.g [.i .i64, .s]), (.one (.i .i64))], (.one (.one (.i .i64))), true⟩, .r ⟨[0, 1, 2, 4, 10], 0, [], [], false, [], []⟩ R_k6⟩
def E_k7 : Entry := ⟨.d ⟨[(.g [.i .i64, .i .i64, .s]), (.one (.i .i64))], (.one (.one (.i .i64))), true⟩, .r ⟨[0, 1, 2, 4, 10], 0, [], [], false, [], []⟩ R_k7⟩
def E_k8 : Entry := ⟨.d ⟨[(.one (.s)), (.one (.i .i64))], (.one (.one (.i .i64))), true⟩, .r ⟨[0, 1, 4, 5, 11, 15, 25], 0, [], [(5, ⟨[5, 1], [], [], [], []⟩)], false, [], []⟩ R_k8⟩
def E_k9 : Entry := ⟨.d ⟨[(.g [.b, .b, .i .i64, .s, .s, .s]), (.one (.i .i64))], (.one (.one (.i .i64))), true⟩, .r ⟨[0, 1, 2, 4, 10, 16, 22], 0, [], [], false, [], []⟩ R_k9⟩
def E_ka : Entry := ⟨.x ⟨[(.d (aS 0))], [], [.s], (.o 0 (.v 0)), [(.arr 3 1 (.v 0) true true)], [.s], false⟩, .r ⟨[0, 2, 3, 4, 11], 0, [], [(3, ⟨[4], [], [112], [], []⟩)], true, [], []⟩ R_ka⟩
def E_kb : Entry := ⟨.x ⟨[(.g [(.d (aS 0)), (.d (aS 1)), (.d (aI 2))])], [], [.s, .s, .i .i64], (.g [(.o 0 (.v 0)), (.o 1 (.v 1)), (.d (aI 2))]), [(.arr 3 1 (.v 0) true true), (.arr 3 1 (.v 1) true true)], [.s, .s, .i .i64], false⟩, .r ⟨[0, 1, 2, 3], 0, [], [], true, [], []⟩ R_kb⟩
def E_kc : Entry := ⟨.x ⟨[(.g [(.d (aI 0)), (.d (aI 1)), (.d (aI 2)), (.d (aS 3)), (.d (aS 4)), (.d (aI 5))])], [], [.i .i64, .i .i64, .i .i64, .s, .s, .i .i64], (.g [(.d (aI 0)), (.d (aI 1)), (.d (aI 2)), (.o 0 (.v 3)), (.o 1 (.v 4)), (.d (aI 5))]), [(.arr 3 1 (.v 3) true true), (.arr 3 1 (.v 4) true true)], [.i .i64, .i .i64, .i .i64, .s, .s, .i .i64], false⟩, .r ⟨[0, 1, 2, 3], 0, [], [], true, [], []⟩ R_kc⟩
def E_kd : Entry := ⟨.x ⟨[(.d (aS 0))], [], [.s], (.o 0 (.v 0)), [(.arr 201 6 (.v 0) true true)], [.s], false⟩, .r ⟨[0, 2, 3, 4, 11], 0, [], [(3, ⟨[4], [], [112], [], []⟩)], true, [], []⟩ R_kd⟩
def E_ke : Entry := ⟨.x ⟨[(.d (aS 0))], [], [.s], (.o 0 (.v 0)), [(.arr 154 1 (.v 0) true true)], [.s], false⟩, .r ⟨[0, 2, 3, 4, 11], 0, [], [(3, ⟨[4], [], [112], [], []⟩)], true, [], []⟩ R_ke⟩
def E_kf : Entry := ⟨.x ⟨[(.g [(.d (aI 0)), (.d (aS 1)), (.d (aS 2)), (.d (aS 3))])], [], [.i .i64, .s, .s, .s], (.g [(.d (aI 0)), (.o 0 (.v 1)), (.o 1 (.v 2)), (.o 2 (.v 3))]), [(.arr 154 1 (.v 1) true true), (.arr 3 1 (.v 2) true true), (.arr 3 1 (.v 3) true true)], [.i .i64, .s, .s, .s], false⟩, .r ⟨[0, 1, 2, 3], 0, [], [], true, [], []⟩ R_kf⟩
def E_kg : Entry := ⟨.x ⟨[(.g [(.d (aI 0)), (.d (aS 1))])], [], [.i .i64, .s], (.g [(.d (aI 0)), (.o 0 (.v 1))]), [(.arr 3 1 (.v 1) true true)], [.i .i64, .s], false⟩, .r ⟨[0, 1, 2, 3], 0, [], [], true, [], []⟩ R_kg⟩
def E_kh : Entry := ⟨.x ⟨[(.g [(.d (aI 0)), (.d (aI 1)), (.d (aS 2))])], [], [.i .i64, .i .i64, .s], (.g [(.d (aI 0)), (.d (aI 1)), (.o 0 (.v 2))]), [(.arr 3 1 (.v 2) true true)], [.i .i64, .i .i64, .s], false⟩, .r ⟨[0, 1, 2, 3], 0, [], [], true, [], []⟩ R_kh⟩
def E_ki : Entry := ⟨.x ⟨[(.d (aS 0))], [], [.s], (.o 0 (.v 0)), [(.arr 142 3 (.v 0) true true)], [.s], false⟩, .r ⟨[0, 2, 3, 4, 11], 0, [], [(3, ⟨[4], [], [112], [], []⟩)], true, [], []⟩ R_ki⟩
def E_kj : Entry := ⟨.x ⟨[(.g [(.d (aB 0)), (.d (aB 1)), (.d (aI 2)), (.d (aS 3)), (.d (aS 4)), (.d (aS 5))])], [], [.b, .b, .i .i64, .s, .s, .s], (.g [(.d (aB 0)), (.d (aB 1)), (.d (aI 2)), (.o 0 (.v 3)), (.o 1 (.v 4)), (.o 2 (.v 5))]), [(.arr 3 1 (.v 3) true true), (.arr 3 1 (.v 4) true true), (.arr 142 3 (.v 5) true true)], [.b, .b, .i .i64, .s, .s, .s], false⟩, .r ⟨[0, 1, 2, 3], 0, [], [], true, [], []⟩ R_kj⟩
def E_kk : Entry := ⟨.d ⟨[(.one (.i .i64)), (.one (.i .i64)), (.one (.i .i64))], (.one (.one (.b))), true⟩, .r ⟨[0, 1, 2, 6], 0, [], [], false, [], []⟩ R_kk⟩
def E_kl : Entry := ⟨.d ⟨[(.one (.s)), (.one (.i .i64)), (.one (.i .i64))], (.one (.one (.b))), true⟩, .r ⟨[0, 1, 2, 6, 7, 11, 15, 26], 0, [], [(4, ⟨[7], [], [], [], []⟩)], false, [], []⟩ R_kl⟩
def E_km : Entry := ⟨.d ⟨[(.g [.s, .s, .i .i64])], (.one (.one (.b))), true⟩, .r ⟨[0, 1, 2], 0, [], [], false, [], []⟩ R_km⟩
def E_kn : Entry := ⟨.d ⟨[(.g [.i .i64, .i .i64, .i .i64, .s, .s, .i .i64])], (.one (.one (.b))), true⟩, .r ⟨[0, 1, 2, 4, 5, 20, 35], 0, [], [], false, [], []⟩ R_kn⟩
def E_ko : Entry := ⟨.d ⟨[(.one (.s))], (.one (.one (.b))), true⟩, .r ⟨[0, 2, 3, 4, 8, 16, 22], 0, [], [(3, ⟨[4, 3], [], [], [], []⟩)], false, [], []⟩ R_ko⟩
def E_kp : Entry := ⟨.d ⟨[(.one (.s))], (.one (.one (.b))), true⟩, .r ⟨[0, 2, 3, 7, 11, 19], 0, [], [(4, ⟨[3], [], [], [], []⟩)], false, [], []⟩ R_kp⟩
def E_kq : Entry := ⟨.d ⟨[(.one (.s))], (.one (.one (.b))), true⟩, .r ⟨[0, 2], 0, [], [], false, [], []⟩ R_kq⟩
def E_kr : Entry := ⟨.d ⟨[(.g [.s, .s])], (.one (.one (.b))), true⟩, .r ⟨[0, 1, 2, 3, 14, 19, 28], 0, [], [(4, ⟨[3], [], [], [], []⟩)], false, [], []⟩ R_kr⟩
def E_ks : Entry := ⟨.d ⟨[(.g [.i .i64, .s, .s, .s])], (.one (.one (.b))), true⟩, .r ⟨[0, 1, 2], 0, [], [], false, [], []⟩ R_ks⟩
def E_kt : Entry := ⟨.x ⟨[], [], [], (.g [(.o 0 (.v 0)), (.o 1 (.v 1)), (.d (aI 2))]), [(.arr 3 1 (.v 0) false true), (.arr 3 1 (.v 1) false true)], [.s, .s, .i .i64], false⟩, .r ⟨[0], 0, [], [], false, [], []⟩ R_kt⟩
def E_ku : Entry := ⟨.x ⟨[(.d (aI 0))], [], [.i .i64], (.g [(.o 0 (.v 0)), (.o 1 (.v 1)), (.d (aI 2))]), [(.arr 3 1 (.v 0) false true), (.arr 3 1 (.v 1) false true)], [.s, .s, .i .i64], false⟩, .r ⟨[0, 2, 3, 6], 0, [(999999, ⟨(.cell 32 0), 900000, 3, 1, false, false⟩), (999999, ⟨(.cell 32 1), 900001, 3, 1, false, false⟩)], [], false, [], []⟩ R_ku⟩
def E_kv : Entry := ⟨.x ⟨[(.g [(.d (aS 0)), (.d (aS 1)), (.d (aI 2))]), (.g [(.d (aS 3)), (.d (aS 4)), (.d (aI 5))]), (.d (aI 6))], [], [.s, .s, .i .i64, .s, .s, .i .i64, .i .i64], (.g [(.o 0 (.v 0)), (.o 1 (.v 1)), (.d (aI 2))]), [(.arr 3 1 (.v 0) false true), (.arr 3 1 (.v 1) false true)], [.s, .s, .i .i64], false⟩, .r ⟨[0, 1, 2, 3, 4, 6, 7, 8, 9, 12, 33], 0, [], [(7, ⟨[9], [], [161], [], []⟩), (3, ⟨[8], [], [160], [], []⟩)], false, [], []⟩ R_kv⟩
def E_kw : Entry := ⟨.x ⟨[(.d (aS 0))], [], [.s], (.o 0 (.v 0)), [(.arr 139 3 (.v 0) false true)], [.s], false⟩, .r ⟨[0, 2, 3, 4, 9], 0, [], [(3, ⟨[4], [], [80], [], []⟩)], false, [], []⟩ R_kw⟩
def E_kx : Entry := ⟨.d ⟨[(.g [.s, .s, .i .i64])], (.one (.one (.b))), true⟩, .r ⟨[0, 1, 2], 0, [], [], false, [], []⟩ R_kx⟩
def E_ky : Entry := ⟨.x ⟨[(.g [(.d (aS 0)), (.d (aS 1)), (.d (aI 2))]), (.d (aS 3))], [], [.s, .s, .i .i64, .s], (.g [(.o 0 (.v 0)), (.o 1 (.v 1)), (.d (aI 2))]), [(.arr 3 1 (.v 0) false true), (.arr 3 1 (.v 1) false true)], [.s, .s, .i .i64], false⟩, .r ⟨[0, 1, 2, 4, 5, 6, 35, 46, 62], 0, [(999999, ⟨(.cell 64 0), 900000, 3, 1, false, false⟩), (999999, ⟨(.cell 64 1), 900001, 3, 1, false, false⟩)], [(5, ⟨[6], [(80, 2)], [592, 608], [], []⟩)], false, [], []⟩ R_ky⟩
def E_kz : Entry := ⟨.x ⟨[(.g [(.d (aS 0)), (.d (aS 1)), (.d (aI 2))])], [], [.s, .s, .i .i64], (.g [(.o 0 (.v 0)), (.o 1 (.v 1)), (.d (aI 2))]), [(.arr 3 1 (.v 0) false true), (.arr 3 1 (.v 1) false true)], [.s, .s, .i .i64], false⟩, .r ⟨[0, 1, 2, 3], 0, [], [], false, [], []⟩ R_kz⟩
def E_k10 : Entry := ⟨.x ⟨[(.d (aS 0)), (.d (aS 1)), (.d (aS 2))], [], [.s, .s, .s], (.g [(.o 0 (.v 0)), (.o 1 (.v 1)), (.o 2 (.v 2)), (.d (aB 3))]), [(.arr 139 3 (.v 0) false true), (.arr 139 3 (.v 1) false true), (.arr 139 3 (.v 2) false true)], [.s, .s, .s, .b], false⟩, .r ⟨[0, 1, 2, 6, 7, 8, 15], 0, [(3, ⟨(.cell 112 1), 121, 139, 3, false, false⟩)], [(3, ⟨[8], [], [121], [], []⟩)], false, [], []⟩ R_k10⟩
def E_k11 : Entry := ⟨.x ⟨[(.d (aS 0)), (.d (aI 1)), (.d (aS 2)), (.d (aS 3)), (.d (aS 4))], [], [.s, .i .i64, .s, .s, .s], (.o 0 (.v 0)), [(.arr 169 4 (.v 0) false true)], [.s], false⟩, .r ⟨[0, 1, 2, 3, 4, 10, 11, 12, 13, 14, 15, 20, 29, 39, 45, 80], 0, [], [(2, ⟨[11, 4, 2], [], [], [], []⟩)], false, [], []⟩ R_k11⟩
def E_k12 : Entry := ⟨.x ⟨[(.d (aS 0))], [], [.s], (.o 0 (.v 0)), [(.arr 169 4 (.v 0) false true)], [.s], false⟩, .r ⟨[0, 2, 5], 0, [], [], false, [], []⟩ R_k12⟩
def E_k13 : Entry := ⟨.x ⟨[(.d (aS 0)), (.d (aS 1))], [], [.s, .s], (.o 0 (.v 0)), [(.arr 4 1 (.v 0) false true)], [.s], false⟩, .r ⟨[0, 1, 4, 5, 6, 7, 14, 18, 29], 0, [], [(3, ⟨[6], [], [128], [], []⟩), (6, ⟨[7], [], [128], [], []⟩)], false, [], []⟩ R_k13⟩
def E_k14 : Entry := ⟨.x ⟨[(.g [(.d (aS 0)), (.d (aS 1)), (.d (aI 2))])], [], [.s, .s, .i .i64], (.o 0 (.v 0)), [(.arr 3 1 (.v 0) false true)], [.s], false⟩, .r ⟨[0, 1, 2, 3, 4, 5, 11, 23, 33], 0, [], [(4, ⟨[5, 4], [], [96], [], []⟩)], false, [], []⟩ R_k14⟩
def E_k15 : Entry := ⟨.d ⟨[(.one (.s)), (.one (.s))], (.one (.one (.b))), true⟩, .r ⟨[0, 1, 4, 5, 10, 14, 25], 0, [], [(4, ⟨[5], [], [], [], []⟩)], false, [], []⟩ R_k15⟩
def E_k16 : Entry := ⟨.d ⟨[(.one (.s)), (.one (.s))], (.one (.one (.i .i64))), true⟩, .r ⟨[0, 1, 4, 5, 9, 17], 0, [], [(2, ⟨[5], [], [], [], []⟩)], false, [], []⟩ R_k16⟩
def E_k17 : Entry := ⟨.x ⟨[(.d (aS 0))], [], [.s], (.t [(.o 0 (.v 0)), (.o 1 (.v 1))]), [(.arr 23 1 (.v 0) false true), (.arr 4 1 (.v 1) false true)], [.s, .s], false⟩, .r ⟨[0, 2, 3, 4, 5, 6, 7, 8, 9, 10, 11, 15, 27, 38, 61, 83], 0, [], [(8, ⟨[7], [], [192, 208], [], []⟩), (12, ⟨[9], [], [192, 208], [], []⟩), (16, ⟨[10], [], [192], [], []⟩), (4, ⟨[6], [], [192], [], []⟩)], false, [], []⟩ R_k17⟩
def E_k18 : Entry := ⟨.d ⟨[(.g [.i .i64, .s, .s, .s]), (.g [.b, .b, .i .i64, .s, .s, .s])], (.one (.g [.s, .s])), false⟩, .r ⟨[0, 1, 2, 3, 4], 0, [], [], false, [], []⟩ R_k18⟩
def E_k19 : Entry := ⟨.d ⟨[(.one (.s))], (.one (.one (.b))), true⟩, .r ⟨[0, 2, 3, 7, 15], 0, [], [(2, ⟨[3], [], [], [], []⟩)], false, [], []⟩ R_k19⟩
def E_k1a : Entry := ⟨.d ⟨[(.one (.s)), (.one (.s))], (.one (.one (.i .i64))), true⟩, .r ⟨[0, 1, 4, 5, 6, 8], 0, [], [(3, ⟨[6, 5], [], [], [], []⟩)], false, [], []⟩ R_k1a⟩
def E_k1b : Entry := ⟨.d ⟨[(.g [.s, .s]), (.one (.s)), (.one (.i .i64)), (.one (.s))], (.one (.one (.b))), true⟩, .r ⟨[0, 1, 2, 3, 4, 8, 9, 31, 35, 56], 0, [], [(4, ⟨[9], [], [], [], []⟩)], false, [], []⟩ R_k1b⟩
def E_k1c : Entry := ⟨.d ⟨[(.one (.s)), (.one (.s))], (.one (.one (.b))), true⟩, .r ⟨[0, 1, 4, 5, 7, 20], 0, [], [(2, ⟨[5], [], [], [], []⟩)], false, [], []⟩ R_k1c⟩
def E_k1d : Entry := ⟨.d ⟨[(.one (.i .i64))], (.one (.one (.d))), false⟩, .m digitsF⟩
def E_k1e : Entry := ⟨.d ⟨[(.g [.i .i64, .s])], (.one (.one (.d))), false⟩, .r ⟨[0, 1, 2, 3, 4, 5, 36, 46], 0, [], [(6, ⟨[5, 4], [], [], [], []⟩)], false, [], []⟩ R_k1e⟩
def E_k1f : Entry := ⟨.d ⟨[(.g [.i .i64, .s])], (.one (.one (.b))), true⟩, .r ⟨[0, 1, 2], 0, [], [], false, [], []⟩ R_k1f⟩
def E_k1g : Entry := ⟨.d ⟨[(.g [.i .i64, .s, .s, .s]), (.one (.s))], (.one (.one (.b))), true⟩, .r ⟨[0, 1, 2, 4, 5, 10, 14, 74], 0, [], [(4, ⟨[5], [], [], [], []⟩)], false, [], []⟩ R_k1g⟩
def E_k1h : Entry := ⟨.d ⟨[(.g [.i .i64, .s, .s, .s]), (.one (.s)), (.one (.s)), (.g [.b, .b, .i .i64, .s, .s, .s]), (.one (.i .i64))], (.one (.one (.b))), true⟩, .r ⟨[0, 1, 2, 3, 4, 5, 8, 10], 0, [], [], false, [], []⟩ R_k1h⟩
def E_k1i : Entry := ⟨.d ⟨[(.g [.i .i64, .s, .s, .s]), (.g [.b, .b, .i .i64, .s, .s, .s]), (.one (.i .i64))], (.one (.one (.b))), true⟩, .r ⟨[0, 1, 2, 3, 4, 6, 7, 8, 20], 0, [], [], false, [], []⟩ R_k1i⟩
def E_k1j : Entry := ⟨.x ⟨[(.g [(.d (aI 0)), (.d (aS 1))])], [], [.i .i64, .s], (.g [(.d (aI 0)), (.o 0 (.v 1))]), [(.arr 3 1 (.v 1) false true)], [.i .i64, .s], false⟩, .r ⟨[0, 1, 2], 0, [], [], false, [], []⟩ R_k1j⟩
def E_k1k : Entry := ⟨.x ⟨[(.d (aS 0))], [], [.s], (.o 0 (.v 0)), [(.arr 142 3 (.v 0) false true)], [.s], false⟩, .r ⟨[0, 2, 3, 4, 9], 0, [], [(3, ⟨[4], [], [80], [], []⟩)], false, [], []⟩ R_k1k⟩
def E_k1l : Entry := ⟨.x ⟨[(.g [(.d (aB 0)), (.d (aB 1)), (.d (aI 2)), (.d (aS 3)), (.d (aS 4)), (.d (aS 5))])], [], [.b, .b, .i .i64, .s, .s, .s], (.g [(.d (aB 0)), (.d (aB 1)), (.d (aI 2)), (.o 0 (.v 3)), (.o 1 (.v 4)), (.o 2 (.v 5))]), [(.arr 3 1 (.v 3) false true), (.arr 3 1 (.v 4) false true), (.arr 142 3 (.v 5) false true)], [.b, .b, .i .i64, .s, .s, .s], false⟩, .r ⟨[0, 1, 2], 0, [], [], false, [], []⟩ R_k1l⟩
def E_k1m : Entry := ⟨.x ⟨[(.g [(.d (aI 0)), (.d (aS 1)), (.d (aS 2)), (.d (aS 3))]), (.g [(.d (aB 4)), (.d (aB 5)), (.d (aI 6)), (.d (aS 7)), (.d (aS 8)), (.d (aS 9))]), (.d (aI 10)), (.d (aB 11))], [], [.i .i64, .s, .s, .s, .b, .b, .i .i64, .s, .s, .s, .i .i64, .b], (.g [(.d (aB 0)), (.d (aB 1)), (.d (aI 2)), (.o 0 (.v 3)), (.o 1 (.v 4)), (.o 2 (.v 5))]), [(.arr 3 1 (.v 3) false true), (.arr 3 1 (.v 4) false true), (.arr 142 3 (.v 5) false true)], [.b, .b, .i .i64, .s, .s, .s], false⟩, .r ⟨[0, 1, 2, 3, 4, 5, 8, 9, 14], 0, [(999999, ⟨(.cell 128 3), 900000, 3, 1, false, false⟩), (999999, ⟨(.cell 128 4), 900001, 3, 1, false, false⟩), (999999, ⟨(.cell 128 5), 900002, 142, 3, false, false⟩)], [], false, [], []⟩ R_k1m⟩
def E_k1n : Entry := ⟨.d ⟨[(.one (.i .i64)), (.one (.i .i64)), (.one (.i .i64))], (.one (.one (.b))), true⟩, .r ⟨[0, 1, 2, 6], 0, [], [], false, [], []⟩ R_k1n⟩
def E_k1o : Entry := ⟨.d ⟨[(.one (.s)), (.one (.d))], (.one (.one (.i .i64))), true⟩, .r ⟨[0, 1, 4, 5, 7, 8, 9, 16], 0, [], [(2, ⟨[8], [], [], [], []⟩)], false, [], []⟩ R_k1o⟩
def E_k1p : Entry := ⟨.d ⟨[(.one (.s)), (.one (.d))], (.one (.one (.b))), true⟩, .r ⟨[0, 1, 4], 0, [], [], false, [], []⟩ R_k1p⟩
def E_k1q : Entry := ⟨.d ⟨[(.one (.i .i64)), (.one (.d))], (.one (.one (.b))), true⟩, .r ⟨[0, 1, 3], 0, [], [], false, [], []⟩ R_k1q⟩
def E_k1r : Entry := ⟨.d ⟨[(.one (.s)), (.one (.d))], (.one (.one (.i .i64))), true⟩, .r ⟨[0, 1, 4, 5, 7, 8, 9, 16], 0, [], [(2, ⟨[8], [], [], [], []⟩)], false, [], []⟩ R_k1r⟩
def E_k1s : Entry := ⟨.d ⟨[(.one (.s)), (.one (.d))], (.one (.one (.b))), true⟩, .r ⟨[0, 1, 4], 0, [], [], false, [], []⟩ R_k1s⟩
def E_k1t : Entry := ⟨.d ⟨[(.one (.s)), (.one (.i .i64)), (.one (.i .i64))], (.one (.one (.b))), true⟩, .r ⟨[0, 1, 2, 5, 6], 0, [], [], false, [], []⟩ R_k1t⟩
def E_k1u : Entry := ⟨.d ⟨[(.g [.s, .s, .i .i64])], (.one (.one (.b))), true⟩, .r ⟨[0, 1, 2], 0, [], [], false, [], []⟩ R_k1u⟩
def E_k1v : Entry := ⟨.d ⟨[(.one (.s)), (.one (.s))], (.one (.one (.b))), true⟩, .r ⟨[0, 1, 4, 5, 10, 12, 13, 14, 24], 0, [], [(4, ⟨[13], [], [], [], []⟩)], false, [], []⟩ R_k1v⟩
def E_k1w : Entry := ⟨.d ⟨[(.g [.s, .s, .i .i64]), (.g [.s, .s, .i .i64])], (.one (.one (.b))), true⟩, .r ⟨[0, 1, 2, 3, 4], 0, [], [], false, [], []⟩ R_k1w⟩
def E_k1x : Entry := ⟨.d ⟨[(.g [.i .i64, .i .i64, .i .i64, .s, .s, .i .i64])], (.one (.one (.b))), true⟩, .r ⟨[0, 1, 2, 4, 5, 20, 35, 50], 0, [], [], false, [], []⟩ R_k1x⟩
def E_k1y : Entry := ⟨.d ⟨[(.one (.s))], (.one (.one (.b))), true⟩, .r ⟨[0, 2, 3, 5, 6, 7, 8, 9, 14, 17], 0, [], [(3, ⟨[8, 3], [], [], [], []⟩)], false, [], []⟩ R_k1y⟩
def E_k1z : Entry := ⟨.d ⟨[(.one (.s))], (.one (.one (.b))), true⟩, .r ⟨[0, 2], 0, [], [], false, [], []⟩ R_k1z⟩
def E_k20 : Entry := ⟨.d ⟨[(.one (.s))], (.one (.one (.b))), true⟩, .r ⟨[0, 2], 0, [], [], false, [], []⟩ R_k20⟩
def E_k21 : Entry := ⟨.d ⟨[(.g [.i .i64, .s, .s, .s]), (.one (.s))], (.one (.g [.s, .s])), false⟩, .r ⟨[0, 1, 2, 4], 0, [], [], false, [], []⟩ R_k21⟩
def E_k22 : Entry := ⟨.d ⟨[(.one (.i .i64))], (.one (.one (.b))), true⟩, .r ⟨[0, 2], 0, [], [], false, [], []⟩ R_k22⟩
def E_k23 : Entry := ⟨.d ⟨[(.one (.s))], (.one (.one (.b))), true⟩, .r ⟨[0, 2], 0, [], [], false, [], []⟩ R_k23⟩
def E_k24 : Entry := ⟨.d ⟨[(.g [.s, .s])], (.one (.one (.b))), true⟩, .r ⟨[0, 1, 2, 3], 0, [], [], false, [], []⟩ R_k24⟩
def E_k25 : Entry := ⟨.d ⟨[(.g [.i .i64, .s, .s, .s])], (.one (.one (.b))), true⟩, .r ⟨[0, 1, 2], 0, [], [], false, [], []⟩ R_k25⟩
def E_k26 : Entry := ⟨.x ⟨[], [], [], (.g [(.o 0 (.v 0)), (.o 1 (.v 1)), (.d (aI 2))]), [(.arr 3 1 (.v 0) false true), (.arr 3 1 (.v 1) false true)], [.s, .s, .i .i64], false⟩, .r ⟨[0], 0, [], [], false, [], []⟩ R_k26⟩
def E_k27 : Entry := ⟨.x ⟨[(.d (aI 0))], [], [.i .i64], (.g [(.o 0 (.v 0)), (.o 1 (.v 1)), (.d (aI 2))]), [(.arr 3 1 (.v 0) false true), (.arr 3 1 (.v 1) false true)], [.s, .s, .i .i64], false⟩, .r ⟨[0, 2, 3, 6], 0, [(999999, ⟨(.cell 32 0), 900000, 3, 1, false, false⟩), (999999, ⟨(.cell 32 1), 900001, 3, 1, false, false⟩)], [], false, [], []⟩ R_k27⟩
def E_k28 : Entry := ⟨.x ⟨[(.d (aS 0))], [], [.s], (.o 0 (.v 0)), [(.arr 3 1 (.v 0) false true)], [.s], false⟩, .r ⟨[0, 2, 4], 0, [(999999, ⟨(.slot 2), 900000, 3, 1, false, false⟩)], [], false, [], []⟩ R_k28⟩
def E_k29 : Entry := ⟨.x ⟨[(.g [(.d (aS 0)), (.d (aS 1)), (.d (aI 2))])], [], [.s, .s, .i .i64], (.g [(.o 0 (.v 0)), (.o 1 (.v 1)), (.d (aI 2))]), [(.arr 3 1 (.v 0) false true), (.arr 3 1 (.v 1) false true)], [.s, .s, .i .i64], false⟩, .r ⟨[0, 1, 2], 0, [], [], false, [], []⟩ R_k29⟩
def E_k2a : Entry := ⟨.x ⟨[(.d (aS 0))], [], [.s], (.o 0 (.v 0)), [(.arr 139 3 (.v 0) true true)], [.s], false⟩, .r ⟨[0, 2, 3, 5, 6, 7, 8, 9], 0, [(3, ⟨(.slot 3), 63, 139, 3, true, false⟩)], [(3, ⟨[8], [], [63], [], []⟩)], true, [], []⟩ R_k2a⟩
def E_k2b : Entry := ⟨.d ⟨[(.g [.s, .s, .i .i64])], (.one (.one (.b))), true⟩, .r ⟨[0, 1, 2], 0, [], [], false, [], []⟩ R_k2b⟩
def E_k2c : Entry := ⟨.d ⟨[(.one (.s)), (.one (.d))], (.one (.one (.i .i64))), true⟩, .r ⟨[0, 1, 4, 5, 7, 8, 9, 16], 0, [], [(2, ⟨[8], [], [], [], []⟩)], false, [], []⟩ R_k2c⟩
def E_k2d : Entry := ⟨.d ⟨[(.one (.s)), (.one (.d))], (.one (.one (.b))), true⟩, .r ⟨[0, 1, 4], 0, [], [], false, [], []⟩ R_k2d⟩
def E_k2e : Entry := ⟨.d ⟨[(.g [.s, .s, .i .i64])], (.one (.one (.b))), true⟩, .r ⟨[0, 1, 2], 0, [], [], false, [], []⟩ R_k2e⟩
def E_k2f : Entry := ⟨.x ⟨[(.p 0 0), (.g [(.d (aS 3)), (.d (aS 4)), (.d (aI 5))]), (.d (aI 6))], [(.box [(.o 1 (.v 0)), (.o 2 (.v 1)), (.d (aI 2))]), (.arr 3 1 (.v 0) false true), (.arr 3 1 (.v 1) false true)], [.s, .s, .i .i64, .s, .s, .i .i64, .i .i64], (.t []), [(.box [(.o 1 (.v 1)), (.o 2 (.v 2)), (.d (aI 0))]), (.arr 3 1 (.v 1) false true), (.arr 3 1 (.v 2) false true)], [.i .i64, .s, .s], false⟩, .r ⟨[0, 1, 2, 4, 6, 7, 8, 9, 11, 12, 13, 14, 32, 33, 34, 35], 3, [], [(7, ⟨[34], [], [2], [], []⟩), (2, ⟨[13], [], [1], [], []⟩)], false, [], []⟩ R_k2f⟩
def E_k2g : Entry := ⟨.x ⟨[(.g [(.o 0 (.v 0)), (.o 1 (.v 1)), (.d (aI 2))])], [(.arr 3 1 (.v 0) false true), (.arr 3 1 (.v 1) false true)], [.s, .s, .i .i64], (.g [(.o 2 (.v 0)), (.o 3 (.v 1)), (.d (aI 2))]), [.dead, .dead, (.arr 3 1 (.v 0) false true), (.arr 3 1 (.v 1) false true)], [.s, .s, .i .i64], false⟩, .r ⟨[0, 1, 2, 5], 2, [(999999, ⟨(.cell 32 0), 900000, 3, 1, false, true⟩), (999999, ⟨(.cell 32 1), 900001, 3, 1, false, true⟩), (999999, ⟨(.kill 0), 910000, 0, 0, false, false⟩), (999999, ⟨(.kill 1), 910001, 0, 0, false, false⟩)], [], false, [], []⟩ R_k2g⟩
def E_k2h : Entry := ⟨.x ⟨[(.g [(.d (aS 0)), (.d (aS 1)), (.d (aI 2))]), (.d (aS 3))], [], [.s, .s, .i .i64, .s], (.g [(.o 0 (.v 0)), (.o 1 (.v 1)), (.d (aI 2))]), [(.arr 3 1 (.v 0) false true), (.arr 3 1 (.v 1) false true)], [.s, .s, .i .i64], false⟩, .r ⟨[0, 1, 2, 4, 5, 6, 7, 19, 22, 23, 24, 25], 0, [(999999, ⟨(.cell 64 0), 900000, 3, 1, false, false⟩), (999999, ⟨(.cell 64 1), 900001, 3, 1, false, false⟩)], [(5, ⟨[24], [(80, 2)], [336, 337], [], []⟩)], false, [], []⟩ R_k2h⟩
def E_k2i : Entry := ⟨.x ⟨[(.g [(.d (aS 0)), (.d (aS 1)), (.d (aI 2))]), (.d (aI 3))], [], [.s, .s, .i .i64, .i .i64], (.g [(.o 0 (.v 0)), (.o 1 (.v 1)), (.d (aI 2))]), [(.arr 3 1 (.v 0) false true), (.arr 3 1 (.v 1) false true)], [.s, .s, .i .i64], false⟩, .r ⟨[0, 1, 2, 4, 5, 13], 0, [(999999, ⟨(.cell 64 0), 900000, 3, 1, false, false⟩), (999999, ⟨(.cell 64 1), 900001, 3, 1, false, false⟩)], [], false, [], []⟩ R_k2i⟩
def E_k2j : Entry := ⟨.x ⟨[(.g [(.d (aS 0)), (.d (aS 1)), (.d (aI 2))]), (.g [(.d (aS 3)), (.d (aS 4)), (.d (aI 5))])], [], [.s, .s, .i .i64, .s, .s, .i .i64], (.g [(.o 0 (.v 0)), (.o 1 (.v 1)), (.d (aI 2))]), [(.arr 3 1 (.v 0) false true), (.arr 3 1 (.v 1) false true)], [.s, .s, .i .i64], false⟩, .r ⟨[0, 1, 2, 3, 4, 5, 13], 0, [(999999, ⟨(.cell 64 0), 900000, 3, 1, false, false⟩), (999999, ⟨(.cell 64 1), 900001, 3, 1, false, false⟩)], [], false, [], []⟩ R_k2j⟩
def E_k2k : Entry := ⟨.x ⟨[(.p 0 0), (.d (aI 2)), (.d (aS 3)), (.d (aS 4)), (.d (aS 5))], [(.box [(.d (aS 0)), (.o 1 (.v 1))]), (.arr 169 4 (.v 1) true true)], [.s, .s, .i .i64, .s, .s, .s], (.t []), [(.box [(.d (aS 0)), (.o 1 (.v 1))]), (.arr 169 4 (.v 1) true true)], [.s, .s], false⟩, .r ⟨[0, 1, 2, 3, 4, 10, 11, 12, 13, 14, 15, 22, 34, 52, 53, 83, 98, 110, 111, 112, 113], 2, [(20, ⟨(.cell 208 1), 217, 139, 3, true, false⟩)], [(20, ⟨[112], [], [217], [], []⟩), (0, ⟨[1, 4, 3, 2], [(0, 0)], [1], [], []⟩)], true, [50, 59, 61, 62, 64, 66, 67, 69, 75, 77, 78, 86, 96, 101, 103, 104, 121, 122, 123], []⟩ R_k2k⟩
def E_k2l : Entry := ⟨.x ⟨[(.d (aS 0))], [], [.s], (.o 0 (.v 0)), [(.arr 169 4 (.v 0) true true)], [.s], false⟩, .r ⟨[0, 2, 3, 4, 5, 8, 12, 13], 0, [(10, ⟨(.cell 176 1), 185, 169, 4, true, false⟩), (6, ⟨(.slot 4), 79, 139, 3, true, false⟩), (999999, ⟨(.slot 2), 900000, 169, 4, true, false⟩)], [(6, ⟨[12], [], [79], [], []⟩)], true, [], []⟩ R_k2l⟩
def E_k2m : Entry := ⟨.d ⟨[(.one (.i .i64))], (.one (.one (.b))), true⟩, .r ⟨[0, 2], 0, [], [], false, [], []⟩ R_k2m⟩
def E_k2n : Entry := ⟨.x ⟨[(.g [(.d (aS 0)), (.d (aS 1)), (.d (aI 2))])], [], [.s, .s, .i .i64], (.o 0 (.v 0)), [(.arr 3 1 (.v 0) false true)], [.s], false⟩, .r ⟨[0, 1, 2, 3, 4, 5, 19, 21, 22, 23], 0, [], [(5, ⟨[22], [], [128], [], []⟩)], false, [], []⟩ R_k2n⟩
def E_k2o : Entry := ⟨.d ⟨[(.one (.i .i64))], (.one (.one (.b))), true⟩, .r ⟨[0, 2], 0, [], [], false, [], []⟩ R_k2o⟩
def E_k2p : Entry := ⟨.d ⟨[(.one (.s))], (.one (.one (.b))), true⟩, .r ⟨[0, 2], 0, [], [], false, [], []⟩ R_k2p⟩
def E_k2q : Entry := ⟨.d ⟨[(.one (.s)), (.one (.d))], (.one (.one (.b))), true⟩, .r ⟨[0, 1, 3], 0, [], [], false, [], []⟩ R_k2q⟩
def E_k2r : Entry := ⟨.d ⟨[(.one (.s)), (.one (.d))], (.one (.one (.i .i64))), true⟩, .r ⟨[0, 1, 4, 5, 7, 8, 9, 16], 0, [], [(2, ⟨[8], [], [], [], []⟩)], false, [], []⟩ R_k2r⟩
def E_k2s : Entry := ⟨.d ⟨[(.one (.s)), (.one (.s))], (.one (.one (.i .i64))), true⟩, .r ⟨[0, 1, 3, 4], 0, [], [], false, [], []⟩ R_k2s⟩
def E_k2t : Entry := ⟨.x ⟨[(.d (aS 0))], [], [.s], (.o 0 (.v 0)), [(.arr 23 1 (.v 0) true true)], [.s], false⟩, .r ⟨[0, 2, 3, 4, 6, 8, 10, 11, 14, 15, 16, 25, 26, 27, 28, 32, 33, 34, 35, 39, 40, 41, 42, 55], 0, [(5, ⟨(.slot 3), 63, 23, 1, true, false⟩), (999999, ⟨(.slot 2), 900000, 23, 1, true, false⟩)], [(10, ⟨[27], [], [63], [], []⟩), (13, ⟨[34], [], [63], [], []⟩), (16, ⟨[41], [], [63], [], []⟩), (5, ⟨[15], [], [63], [], []⟩)], true, [32], []⟩ R_k2t⟩
def E_k2u : Entry := ⟨.x ⟨[(.d (aS 0)), (.d (.da 1))], [], [.s, .d], (.o 0 (.v 0)), [(.arr 4 1 (.v 0) false true)], [.s], false⟩, .r ⟨[0, 1, 4, 5, 7, 9, 10, 12, 13, 14, 15, 19, 20, 21, 22, 26, 27, 28], 0, [], [(3, ⟨[14], [], [176], [], []⟩), (6, ⟨[21], [], [176], [], []⟩), (9, ⟨[27], [], [176], [], []⟩)], false, [], []⟩ R_k2u⟩
def E_k2v : Entry := ⟨.x ⟨[(.d (.vc (.slice none 0 0))), (.d (aI 0))], [], [.i .i64], (.o 0 (.v 0)), [(.arr 139 3 (.v 0) false true)], [.s], false⟩, .r ⟨[0, 1, 4, 6, 16], 0, [(999999, ⟨(.slot 4), 900000, 139, 3, false, false⟩)], [], false, [], []⟩ R_k2v⟩
def E_k2w : Entry := ⟨.x ⟨[(.d (aS 0))], [], [.s], (.o 0 (.v 0)), [(.arr 139 3 (.v 0) false true)], [.s], false⟩, .r ⟨[0, 2, 3, 5, 6, 8, 9, 10, 11, 12, 20, 25, 26, 27, 28], 0, [], [(11, ⟨[27], [], [384], [], []⟩), (3, ⟨[11, 3], [], [], [], []⟩)], false, [], []⟩ R_k2w⟩
def E_k2x : Entry := ⟨.d ⟨[(.g [.s, .s, .i .i64]), (.one (.d))], (.one (.one (.b))), true⟩, .r ⟨[0, 1, 2, 3], 0, [], [], false, [], []⟩ R_k2x⟩
def E_k2y : Entry := ⟨.d ⟨[(.g [.s, .s, .s, .b]), (.one (.i .i64))], (.one (.one (.b))), true⟩, .r ⟨[0, 1, 2, 3, 4], 0, [], [], false, [], []⟩ R_k2y⟩
def E_k2z : Entry := ⟨.x ⟨[(.d (aS 0))], [], [.s], (.o 0 (.v 0)), [(.arr 4 1 (.v 0) false true)], [.s], false⟩, .r ⟨[0, 2, 5], 0, [(999999, ⟨(.slot 2), 900000, 4, 1, false, false⟩)], [], false, [], []⟩ R_k2z⟩
def E_k30 : Entry := ⟨.x ⟨[(.d (aS 0))], [], [.s], (.g [(.d (aS 0)), (.o 0 (.v 1)), (.o 1 (.v 2))]), [(.arr 23 1 (.v 1) false true), (.arr 4 1 (.v 2) false true)], [.s, .s, .s], false⟩, .r ⟨[0, 2], 0, [], [], false, [], []⟩ R_k30⟩
def E_k31 : Entry := ⟨.d ⟨[(.g [.i .i64, .s, .s, .s]), (.one (.i .i64))], (.one (.one (.b))), true⟩, .r ⟨[0, 1, 2, 4], 0, [], [], false, [], []⟩ R_k31⟩
def E_k32 : Entry := ⟨.d ⟨[(.one (.s)), (.one (.d))], (.one (.one (.b))), true⟩, .r ⟨[0, 1, 4], 0, [], [], false, [], []⟩ R_k32⟩
def E_k33 : Entry := ⟨.d ⟨[(.one (.s))], (.one (.one (.b))), true⟩, .r ⟨[0, 2], 0, [], [], false, [], []⟩ R_k33⟩
def E_k34 : Entry := ⟨.d ⟨[(.one (.s))], (.one (.one (.b))), true⟩, .r ⟨[0, 2], 0, [], [], false, [], []⟩ R_k34⟩
def E_k35 : Entry := ⟨.d ⟨[(.one (.s))], (.one (.one (.b))), true⟩, .r ⟨[0, 2], 0, [], [], false, [], []⟩ R_k35⟩
def E_k36 : Entry := ⟨.d ⟨[(.g [.s, .s]), (.one (.s)), (.one (.i .i64)), (.one (.s))], (.one (.one (.b))), true⟩, .r ⟨[0, 1, 2, 3, 4, 8], 0, [], [], false, [], []⟩ R_k36⟩
def E_k37 : Entry := ⟨.d ⟨[(.one (.s)), (.one (.s))], (.one (.one (.i .i64))), true⟩, .r ⟨[0, 1, 4, 5, 6, 7, 8, 9, 10, 11], 0, [], [(3, ⟨[10, 5], [], [], [], []⟩)], false, [], []⟩ R_k37⟩
def E_k38 : Entry := ⟨.d ⟨[(.one (.s)), (.one (.d)), (.one (.d))], (.one (.one (.b))), true⟩, .r ⟨[0, 1, 2, 4], 0, [], [], false, [], []⟩ R_k38⟩
def E_k39 : Entry := ⟨.d ⟨[(.g [.s, .s]), (.one (.s)), (.one (.i .i64)), (.one (.s))], (.one (.one (.b))), true⟩, .r ⟨[0, 1, 2, 3, 4, 7, 8, 9, 15], 0, [], [], false, [], []⟩ R_k39⟩
def E_k3a : Entry := ⟨.d ⟨[(.g [.s, .s, .s]), (.one (.s))], (.one (.one (.b))), true⟩, .r ⟨[0, 1, 2, 4, 5, 6, 7, 8, 9, 10, 22], 0, [], [(2, ⟨[9], [], [], [], []⟩)], false, [], []⟩ R_k3a⟩
def E_k3b : Entry := ⟨.d ⟨[(.g [.s, .s, .s]), (.g [.s, .s]), (.one (.i .i64)), (.one (.s))], (.one (.one (.b))), true⟩, .r ⟨[0, 1, 2, 3, 4, 5, 8], 0, [], [], false, [], []⟩ R_k3b⟩
def E_k3c : Entry := ⟨.d ⟨[(.one (.s)), (.one (.d))], (.one (.one (.i .i64))), true⟩, .r ⟨[0, 1, 4, 5, 7, 8, 9, 16], 0, [], [(2, ⟨[8], [], [], [], []⟩)], false, [], []⟩ R_k3c⟩
def E_k3d : Entry := ⟨.d ⟨[(.one (.s)), (.one (.d))], (.one (.one (.b))), true⟩, .r ⟨[0, 1, 4], 0, [], [], false, [], []⟩ R_k3d⟩
def E_k3e : Entry := ⟨.d ⟨[(.g [.i .i64, .s])], (.one (.one (.b))), true⟩, .r ⟨[0, 1, 2], 0, [], [], false, [], []⟩ R_k3e⟩
def E_k3f : Entry := ⟨.x ⟨[], [], [], (.o 0 (.v 0)), [(.arr 9 1 (.v 0) false true)], [.s], false⟩, .r ⟨[0], 0, [], [], false, [], []⟩ R_k3f⟩
def E_k3g : Entry := ⟨.d ⟨[(.one (.s))], (.one (.one (.d))), false⟩, .m joinedF⟩
def E_k3h : Entry := ⟨.d ⟨[(.g [.i .i64, .s])], (.one (.one (.d))), false⟩, .r ⟨[0, 1, 2, 32], 0, [], [], false, [], []⟩ R_k3h⟩
def E_k3i : Entry := ⟨.d ⟨[(.g [.i .i64, .s])], (.one (.one (.b))), true⟩, .r ⟨[0, 1, 2], 0, [], [], false, [], []⟩ R_k3i⟩
def E_k3j : Entry := ⟨.d ⟨[(.g [.i .i64, .i .i64, .s])], (.one (.one (.b))), true⟩, .r ⟨[0, 1, 2, 5], 0, [], [], false, [], []⟩ R_k3j⟩
def E_k3k : Entry := ⟨.d ⟨[(.g [.i .i64, .i .i64, .s])], (.one (.one (.b))), true⟩, .r ⟨[0, 1, 2], 0, [], [], false, [], []⟩ R_k3k⟩
def E_k3l : Entry := ⟨.d ⟨[(.g [.i .i64, .s, .s, .s]), (.one (.s))], (.one (.one (.b))), true⟩, .r ⟨[0, 1, 2, 4], 0, [], [], false, [], []⟩ R_k3l⟩
def E_k3m : Entry := ⟨.d ⟨[(.g [.i .i64, .s, .s, .s]), (.g [.s, .s, .s]), (.g [.b, .b, .i .i64, .s, .s, .s]), (.one (.i .i64))], (.one (.one (.b))), true⟩, .r ⟨[0, 1, 2, 3, 4, 5, 6, 8], 0, [], [], false, [], []⟩ R_k3m⟩
def E_k3n : Entry := ⟨.d ⟨[(.g [.i .i64, .s, .s, .s]), (.g [.b, .b, .i .i64, .s, .s, .s]), (.one (.i .i64))], (.one (.one (.b))), true⟩, .r ⟨[0, 1, 2, 3, 4, 6], 0, [], [], false, [], []⟩ R_k3n⟩
def E_k3o : Entry := ⟨.x ⟨[(.g [(.d (aI 0)), (.d (aS 1))])], [], [.i .i64, .s], (.g [(.d (aI 0)), (.o 0 (.v 1))]), [(.arr 3 1 (.v 1) false true)], [.i .i64, .s], false⟩, .r ⟨[0, 1, 2], 0, [], [], false, [], []⟩ R_k3o⟩
def E_k3p : Entry := ⟨.x ⟨[(.d (aS 0))], [], [.s], (.o 0 (.v 0)), [(.arr 142 3 (.v 0) true true)], [.s], false⟩, .r ⟨[0, 2, 3, 5, 6, 7, 8, 9], 0, [(3, ⟨(.slot 3), 63, 142, 3, true, false⟩)], [(3, ⟨[8], [], [63], [], []⟩)], true, [], []⟩ R_k3p⟩
def E_k3q : Entry := ⟨.x ⟨[(.g [(.d (aB 0)), (.d (aB 1)), (.d (aI 2)), (.d (aS 3)), (.d (aS 4)), (.d (aS 5))])], [], [.b, .b, .i .i64, .s, .s, .s], (.g [(.d (aB 0)), (.d (aB 1)), (.d (aI 2)), (.o 0 (.v 3)), (.o 1 (.v 4)), (.o 2 (.v 5))]), [(.arr 3 1 (.v 3) false true), (.arr 3 1 (.v 4) false true), (.arr 142 3 (.v 5) true true)], [.b, .b, .i .i64, .s, .s, .s], false⟩, .r ⟨[0, 1, 2], 0, [], [], true, [], []⟩ R_k3q⟩
def E_k3r : Entry := ⟨.x ⟨[(.g [(.d (aI 0)), (.d (aS 1)), (.d (aS 2)), (.d (aS 3))]), (.g [(.d (aB 4)), (.d (aB 5)), (.d (aI 6)), (.d (aS 7)), (.d (aS 8)), (.d (aS 9))]), (.d (aI 10)), (.d (aB 11))], [], [.i .i64, .s, .s, .s, .b, .b, .i .i64, .s, .s, .s, .i .i64, .b], (.g [(.d (aB 0)), (.d (aB 1)), (.d (aI 2)), (.o 0 (.v 3)), (.o 1 (.v 4)), (.o 2 (.v 5))]), [(.arr 3 1 (.v 3) false true), (.arr 3 1 (.v 4) false true), (.arr 142 3 (.v 5) true true)], [.b, .b, .i .i64, .s, .s, .s], true⟩, .r ⟨[0, 1, 2, 3, 4, 5, 8, 9, 14], 0, [(999999, ⟨(.cell 128 3), 900000, 3, 1, false, false⟩), (999999, ⟨(.cell 128 4), 900001, 3, 1, false, false⟩), (999999, ⟨(.cell 128 5), 900002, 142, 3, true, false⟩)], [], true, [], []⟩ R_k3r⟩
def E_k3s : Entry := ⟨.d ⟨[(.one (.s)), (.one (.s))], (.one (.one (.b))), true⟩, .r ⟨[0, 1, 4, 5, 10, 14, 25], 0, [], [(4, ⟨[5], [], [], [], []⟩)], false, [], []⟩ R_k3s⟩
def E_k3t : Entry := ⟨.d ⟨[(.g [.i .i64, .s]), (.g [.i .i64, .s])], (.one (.one (.b))), true⟩, .r ⟨[0, 1, 2, 3, 4, 9, 15], 0, [], [], false, [], []⟩ R_k3t⟩
def E_k3u : Entry := ⟨.d ⟨[(.g [.i .i64, .i .i64, .s]), (.g [.i .i64, .i .i64, .s])], (.one (.one (.b))), true⟩, .r ⟨[0, 1, 2, 3, 4, 9, 15], 0, [], [], false, [], []⟩ R_k3u⟩
def E_k3v : Entry := ⟨.d ⟨[(.one (.s)), (.one (.s))], (.one (.one (.b))), true⟩, .r ⟨[0, 1, 4, 5, 10, 14, 26], 0, [], [(4, ⟨[5], [], [], [], []⟩)], false, [], []⟩ R_k3v⟩
def E_k3w : Entry := ⟨.d ⟨[(.g [.b, .b, .i .i64, .s, .s, .s]), (.g [.b, .b, .i .i64, .s, .s, .s])], (.one (.one (.b))), true⟩, .r ⟨[0, 1, 2, 3, 4, 9, 14, 19, 25, 31, 37], 0, [], [], false, [], []⟩ R_k3w⟩
def E_k3x : Entry := ⟨.d ⟨[(.g [.s, .s, .i .i64]), (.g [.s, .s, .i .i64])], (.one (.one (.b))), true⟩, .r ⟨[0, 1, 2, 3, 4, 10, 16, 21], 0, [], [], false, [], []⟩ R_k3x⟩
def E_k3y : Entry := ⟨.d ⟨[(.g [.i .i64, .i .i64, .i .i64, .s, .s, .i .i64]), (.g [.i .i64, .i .i64, .i .i64, .s, .s, .i .i64])], (.one (.one (.b))), true⟩, .r ⟨[0, 1, 2, 3, 4, 9, 14, 19, 25], 0, [], [], false, [], []⟩ R_k3y⟩
def E_k3z : Entry := ⟨.d ⟨[(.one (.s)), (.one (.s))], (.one (.one (.b))), true⟩, .r ⟨[0, 1, 4, 5, 10, 14, 26], 0, [], [(4, ⟨[5], [], [], [], []⟩)], false, [], []⟩ R_k3z⟩
def E_k40 : Entry := ⟨.d ⟨[(.one (.s)), (.one (.s))], (.one (.one (.b))), true⟩, .r ⟨[0, 1, 4, 5, 10, 14, 26], 0, [], [(4, ⟨[5], [], [], [], []⟩)], false, [], []⟩ R_k40⟩
def E_k41 : Entry := ⟨.d ⟨[(.g [.i .i64, .s, .s, .s]), (.g [.i .i64, .s, .s, .s])], (.one (.one (.b))), true⟩, .r ⟨[0, 1, 2, 3, 4, 9, 15, 21, 27], 0, [], [], false, [], []⟩ R_k41⟩
def E_k42 : Entry := ⟨.x ⟨[(.o 0 (.v 0)), (.d (aI 1))], [(.arr 3 1 (.v 0) true true)], [.s, .i .i64], (.d (aI 0)), [(.arr 3 1 (.v 1) true true)], [.i .i64, .s], false⟩, .r ⟨[0, 1, 4, 5, 9], 1, [], [(2, ⟨[5, 1], [], [0], [], []⟩)], false, [], []⟩ R_k42⟩
def E_k43 : Entry := ⟨.x ⟨[(.o 0 (.v 0)), (.d (aI 1))], [(.arr 201 6 (.v 0) true true)], [.s, .i .i64], (.d (aI 0)), [(.arr 201 6 (.v 1) true true)], [.i .i64, .s], false⟩, .r ⟨[0, 1, 4, 5, 9], 1, [], [(2, ⟨[5, 1], [], [0], [], []⟩)], false, [], [10, 11]⟩ R_k43⟩
def E_k44 : Entry := ⟨.x ⟨[(.o 0 (.v 0)), (.d (aI 1))], [(.arr 154 1 (.v 0) true true)], [.s, .i .i64], (.d (aI 0)), [(.arr 154 1 (.v 1) true true)], [.i .i64, .s], false⟩, .r ⟨[0, 1, 4, 5, 9], 1, [], [(2, ⟨[5, 1], [], [0], [], []⟩)], false, [], [4]⟩ R_k44⟩
def E_k45 : Entry := ⟨.x ⟨[(.g [(.d (aI 0)), (.o 0 (.v 1)), (.o 1 (.v 2)), (.o 2 (.v 3))]), (.d (aI 4))], [(.arr 154 1 (.v 1) true true), (.arr 3 1 (.v 2) true true), (.arr 3 1 (.v 3) true true)], [.i .i64, .s, .s, .s, .i .i64], (.d (aI 0)), [(.arr 154 1 (.v 1) true true), (.arr 3 1 (.v 2) true true), (.arr 3 1 (.v 3) true true)], [.i .i64, .s, .s, .s], false⟩, .r ⟨[0, 1, 2, 4], 3, [], [], false, [], []⟩ R_k45⟩
def E_k46 : Entry := ⟨.x ⟨[(.o 0 (.v 0)), (.d (aI 1))], [(.arr 142 3 (.v 0) true true)], [.s, .i .i64], (.d (aI 0)), [(.arr 142 3 (.v 1) true true)], [.i .i64, .s], false⟩, .r ⟨[0, 1, 4, 5, 9], 1, [], [(2, ⟨[5, 1], [], [0], [], []⟩)], false, [], [8]⟩ R_k46⟩
def E_k47 : Entry := ⟨.x ⟨[(.g [(.d (aB 0)), (.d (aB 1)), (.d (aI 2)), (.o 0 (.v 3)), (.o 1 (.v 4)), (.o 2 (.v 5))]), (.d (aI 6))], [(.arr 3 1 (.v 3) true true), (.arr 3 1 (.v 4) true true), (.arr 142 3 (.v 5) true true)], [.b, .b, .i .i64, .s, .s, .s, .i .i64], (.d (aI 0)), [(.arr 3 1 (.v 1) true true), (.arr 3 1 (.v 2) true true), (.arr 142 3 (.v 3) true true)], [.i .i64, .s, .s, .s], false⟩, .r ⟨[0, 1, 2, 4], 3, [], [], false, [], []⟩ R_k47⟩
def E_k48 : Entry := ⟨.d ⟨[(.one (.s)), (.one (.i .i64))], (.one (.one (.i .i64))), true⟩, .r ⟨[0, 1, 4, 5, 9, 17], 0, [], [(2, ⟨[5, 1], [], [], [], []⟩)], false, [], []⟩ R_k48⟩
def E_k49 : Entry := ⟨.d ⟨[(.one (.s)), (.one (.i .i64))], (.one (.one (.i .i64))), true⟩, .r ⟨[0, 1, 4, 5, 9, 18, 28, 40], 0, [], [(2, ⟨[5, 1], [], [], [], []⟩)], false, [], []⟩ R_k49⟩
def E_k4a : Entry := ⟨.d ⟨[(.g [.b, .b, .i .i64, .s, .s, .s]), (.one (.i .i64))], (.one (.one (.i .i64))), true⟩, .r ⟨[0, 1, 2, 4, 10, 16, 22], 0, [], [], false, [], []⟩ R_k4a⟩
def E_k4b : Entry := ⟨.d ⟨[(.g [.i .i64, .s, .s, .s]), (.g [.b, .b, .i .i64, .s, .s, .s]), (.one (.i .i64)), (.one (.b))], (.one (.one (.b))), true⟩, .r ⟨[0, 1, 2, 3, 4, 5, 8, 9, 10, 11, 12, 13, 14, 15, 16, 17, 22, 27, 47, 52, 57, 71, 79, 82, 93, 98, 101], 0, [], [], true, [], []⟩ R_k4b⟩
def L : Tabl := [(f_k0, E_k0), (f_k1, E_k1), (f_k2, E_k2), (f_k3, E_k3), (f_k4, E_k4), (f_k5, E_k5), (f_k6, E_k6), (f_k7, E_k7), (f_k8, E_k8), (f_k9, E_k9), (f_ka, E_ka), (f_kb, E_kb), (f_kc, E_kc), (f_kd, E_kd), (f_ke, E_ke), (f_kf, E_kf), (f_kg, E_kg), (f_kh, E_kh), (f_ki, E_ki), (f_kj, E_kj), (f_kk, E_kk), (f_kl, E_kl), (f_km, E_km), (f_kn, E_kn), (f_ko, E_ko), (f_kp, E_kp), (f_kq, E_kq), (f_kr, E_kr), (f_ks, E_ks), (f_kt, E_kt), (f_ku, E_ku), (f_kv, E_kv), (f_kw, E_kw), (f_kx, E_kx), (f_ky, E_ky), (f_kz, E_kz), (f_k10, E_k10), (f_k11, E_k11), (f_k12, E_k12), (f_k13, E_k13), (f_k14, E_k14), (f_k15, E_k15), (f_k16, E_k16), (f_k17, E_k17), (f_k18, E_k18), (f_k19, E_k19), (f_k1a, E_k1a), (f_k1b, E_k1b), (f_k1c, E_k1c), (f_k1d, E_k1d), (f_k1e, E_k1e), (f_k1f, E_k1f), (f_k1g, E_k1g), (f_k1h, E_k1h), (f_k1i, E_k1i), (f_k1j, E_k1j), (f_k1k, E_k1k), (f_k1l, E_k1l), (f_k1m, E_k1m), (f_k1n, E_k1n), (f_k1o, E_k1o), (f_k1p, E_k1p), (f_k1q, E_k1q), (f_k1r, E_k1r), (f_k1s, E_k1s), (f_k1t, E_k1t), (f_k1u, E_k1u), (f_k1v, E_k1v), (f_k1w, E_k1w), (f_k1x, E_k1x), (f_k1y, E_k1y), (f_k1z, E_k1z), (f_k20, E_k20), (f_k21, E_k21), (f_k22, E_k22), (f_k23, E_k23), (f_k24, E_k24), (f_k25, E_k25), (f_k26, E_k26), (f_k27, E_k27), (f_k28, E_k28), (f_k29, E_k29), (f_k2a, E_k2a), (f_k2b, E_k2b), (f_k2c, E_k2c), (f_k2d, E_k2d), (f_k2e, E_k2e), (f_k2f, E_k2f), (f_k2g, E_k2g), (f_k2h, E_k2h), (f_k2i, E_k2i), (f_k2j, E_k2j), (f_k2k, E_k2k), (f_k2l, E_k2l), (f_k2m, E_k2m), (f_k2n, E_k2n), (f_k2o, E_k2o), (f_k2p, E_k2p), (f_k2q, E_k2q), (f_k2r, E_k2r), (f_k2s, E_k2s), (f_k2t, E_k2t), (f_k2u, E_k2u), (f_k2v, E_k2v), (f_k2w, E_k2w), (f_k2x, E_k2x), (f_k2y, E_k2y), (f_k2z, E_k2z), (f_k30, E_k30), (f_k31, E_k31), (f_k32, E_k32), (f_k33, E_k33), (f_k34, E_k34), (f_k35, E_k35), (f_k36, E_k36), (f_k37, E_k37), (f_k38, E_k38), (f_k39, E_k39), (f_k3a, E_k3a), (f_k3b, E_k3b), (f_k3c, E_k3c), (f_k3d, E_k3d), (f_k3e, E_k3e), (f_k3f, E_k3f), (f_k3g, E_k3g), (f_k3h, E_k3h), (f_k3i, E_k3i), (f_k3j, E_k3j), (f_k3k, E_k3k), (f_k3l, E_k3l), (f_k3m, E_k3m), (f_k3n, E_k3n), (f_k3o, E_k3o), (f_k3p, E_k3p), (f_k3q, E_k3q), (f_k3r, E_k3r), (f_k3s, E_k3s), (f_k3t, E_k3t), (f_k3u, E_k3u), (f_k3v, E_k3v), (f_k3w, E_k3w), (f_k3x, E_k3x), (f_k3y, E_k3y), (f_k3z, E_k3z), (f_k40, E_k40), (f_k41, E_k41), (f_k42, E_k42), (f_k43, E_k43), (f_k44, E_k44), (f_k45, E_k45), (f_k46, E_k46), (f_k47, E_k47), (f_k48, E_k48), (f_k49, E_k49), (f_k4a, E_k4a), (f_k4b, E_k4b)]
set_option maxRecDepth 100000
theorem L_k0 : L.lookup f_k0 = some E_k0 := rfl
theorem L_k1 : L.lookup f_k1 = some E_k1 := rfl
theorem L_k2 : L.lookup f_k2 = some E_k2 := rfl
theorem L_k3 : L.lookup f_k3 = some E_k3 := rfl
theorem L_k4 : L.lookup f_k4 = some E_k4 := rfl
theorem L_k5 : L.lookup f_k5 = some E_k5 := rfl
theorem L_k6 : L.lookup f_k6 = some E_k6 := rfl
theorem L_k7 : L.lookup f_k7 = some E_k7 := rfl
theorem L_k8 : L.lookup f_k8 = some E_k8 := rfl
theorem L_k9 : L.lookup f_k9 = some E_k9 := rfl
theorem L_ka : L.lookup f_ka = some E_ka := rfl
theorem L_kb : L.lookup f_kb = some E_kb := rfl
theorem L_kc : L.lookup f_kc = some E_kc := rfl
theorem L_kd : L.lookup f_kd = some E_kd := rfl
theorem L_ke : L.lookup f_ke = some E_ke := rfl
theorem L_kf : L.lookup f_kf = some E_kf := rfl
theorem L_kg : L.lookup f_kg = some E_kg := rfl
theorem L_kh : L.lookup f_kh = some E_kh := rfl
theorem L_ki : L.lookup f_ki = some E_ki := rfl
theorem L_kj : L.lookup f_kj = some E_kj := rfl
theorem L_kk : L.lookup f_kk = some E_kk := rfl
theorem L_kl : L.lookup f_kl = some E_kl := rfl
theorem L_km : L.lookup f_km = some E_km := rfl
theorem L_kn : L.lookup f_kn = some E_kn := rfl
theorem L_ko : L.lookup f_ko = some E_ko := rfl
theorem L_kp : L.lookup f_kp = some E_kp := rfl
theorem L_kq : L.lookup f_kq = some E_kq := rfl
theorem L_kr : L.lookup f_kr = some E_kr := rfl
theorem L_ks : L.lookup f_ks = some E_ks := rfl
theorem L_kt : L.lookup f_kt = some E_kt := rfl
theorem L_ku : L.lookup f_ku = some E_ku := rfl
theorem L_kv : L.lookup f_kv = some E_kv := rfl
theorem L_kw : L.lookup f_kw = some E_kw := rfl
theorem L_kx : L.lookup f_kx = some E_kx := rfl
theorem L_ky : L.lookup f_ky = some E_ky := rfl
theorem L_kz : L.lookup f_kz = some E_kz := rfl
theorem L_k10 : L.lookup f_k10 = some E_k10 := rfl
theorem L_k11 : L.lookup f_k11 = some E_k11 := rfl
theorem L_k12 : L.lookup f_k12 = some E_k12 := rfl
theorem L_k13 : L.lookup f_k13 = some E_k13 := rfl
theorem L_k14 : L.lookup f_k14 = some E_k14 := rfl
theorem L_k15 : L.lookup f_k15 = some E_k15 := rfl
theorem L_k16 : L.lookup f_k16 = some E_k16 := rfl
theorem L_k17 : L.lookup f_k17 = some E_k17 := rfl
theorem L_k18 : L.lookup f_k18 = some E_k18 := rfl
theorem L_k19 : L.lookup f_k19 = some E_k19 := rfl
theorem L_k1a : L.lookup f_k1a = some E_k1a := rfl
theorem L_k1b : L.lookup f_k1b = some E_k1b := rfl
theorem L_k1c : L.lookup f_k1c = some E_k1c := rfl
theorem L_k1d : L.lookup f_k1d = some E_k1d := rfl
theorem L_k1e : L.lookup f_k1e = some E_k1e := rfl
theorem L_k1f : L.lookup f_k1f = some E_k1f := rfl
theorem L_k1g : L.lookup f_k1g = some E_k1g := rfl
theorem L_k1h : L.lookup f_k1h = some E_k1h := rfl
theorem L_k1i : L.lookup f_k1i = some E_k1i := rfl
theorem L_k1j : L.lookup f_k1j = some E_k1j := rfl
theorem L_k1k : L.lookup f_k1k = some E_k1k := rfl
theorem L_k1l : L.lookup f_k1l = some E_k1l := rfl
theorem L_k1m : L.lookup f_k1m = some E_k1m := rfl
theorem L_k1n : L.lookup f_k1n = some E_k1n := rfl
theorem L_k1o : L.lookup f_k1o = some E_k1o := rfl
theorem L_k1p : L.lookup f_k1p = some E_k1p := rfl
theorem L_k1q : L.lookup f_k1q = some E_k1q := rfl
theorem L_k1r : L.lookup f_k1r = some E_k1r := rfl
theorem L_k1s : L.lookup f_k1s = some E_k1s := rfl
theorem L_k1t : L.lookup f_k1t = some E_k1t := rfl
theorem L_k1u : L.lookup f_k1u = some E_k1u := rfl
theorem L_k1v : L.lookup f_k1v = some E_k1v := rfl
theorem L_k1w : L.lookup f_k1w = some E_k1w := rfl
theorem L_k1x : L.lookup f_k1x = some E_k1x := rfl
theorem L_k1y : L.lookup f_k1y = some E_k1y := rfl
theorem L_k1z : L.lookup f_k1z = some E_k1z := rfl
theorem L_k20 : L.lookup f_k20 = some E_k20 := rfl
theorem L_k21 : L.lookup f_k21 = some E_k21 := rfl
theorem L_k22 : L.lookup f_k22 = some E_k22 := rfl
theorem L_k23 : L.lookup f_k23 = some E_k23 := rfl
theorem L_k24 : L.lookup f_k24 = some E_k24 := rfl
theorem L_k25 : L.lookup f_k25 = some E_k25 := rfl
theorem L_k26 : L.lookup f_k26 = some E_k26 := rfl
theorem L_k27 : L.lookup f_k27 = some E_k27 := rfl
theorem L_k28 : L.lookup f_k28 = some E_k28 := rfl
theorem L_k29 : L.lookup f_k29 = some E_k29 := rfl
theorem L_k2a : L.lookup f_k2a = some E_k2a := rfl
theorem L_k2b : L.lookup f_k2b = some E_k2b := rfl
theorem L_k2c : L.lookup f_k2c = some E_k2c := rfl
theorem L_k2d : L.lookup f_k2d = some E_k2d := rfl
theorem L_k2e : L.lookup f_k2e = some E_k2e := rfl
theorem L_k2f : L.lookup f_k2f = some E_k2f := rfl
theorem L_k2g : L.lookup f_k2g = some E_k2g := rfl
theorem L_k2h : L.lookup f_k2h = some E_k2h := rfl
theorem L_k2i : L.lookup f_k2i = some E_k2i := rfl
theorem L_k2j : L.lookup f_k2j = some E_k2j := rfl
theorem L_k2k : L.lookup f_k2k = some E_k2k := rfl
theorem L_k2l : L.lookup f_k2l = some E_k2l := rfl
theorem L_k2m : L.lookup f_k2m = some E_k2m := rfl
theorem L_k2n : L.lookup f_k2n = some E_k2n := rfl
theorem L_k2o : L.lookup f_k2o = some E_k2o := rfl
theorem L_k2p : L.lookup f_k2p = some E_k2p := rfl
theorem L_k2q : L.lookup f_k2q = some E_k2q := rfl
theorem L_k2r : L.lookup f_k2r = some E_k2r := rfl
theorem L_k2s : L.lookup f_k2s = some E_k2s := rfl
theorem L_k2t : L.lookup f_k2t = some E_k2t := rfl
theorem L_k2u : L.lookup f_k2u = some E_k2u := rfl
theorem L_k2v : L.lookup f_k2v = some E_k2v := rfl
theorem L_k2w : L.lookup f_k2w = some E_k2w := rfl
theorem L_k2x : L.lookup f_k2x = some E_k2x := rfl
theorem L_k2y : L.lookup f_k2y = some E_k2y := rfl
theorem L_k2z : L.lookup f_k2z = some E_k2z := rfl
theorem L_k30 : L.lookup f_k30 = some E_k30 := rfl
theorem L_k31 : L.lookup f_k31 = some E_k31 := rfl
theorem L_k32 : L.lookup f_k32 = some E_k32 := rfl
theorem L_k33 : L.lookup f_k33 = some E_k33 := rfl
theorem L_k34 : L.lookup f_k34 = some E_k34 := rfl
theorem L_k35 : L.lookup f_k35 = some E_k35 := rfl
theorem L_k36 : L.lookup f_k36 = some E_k36 := rfl
theorem L_k37 : L.lookup f_k37 = some E_k37 := rfl
theorem L_k38 : L.lookup f_k38 = some E_k38 := rfl
theorem L_k39 : L.lookup f_k39 = some E_k39 := rfl
theorem L_k3a : L.lookup f_k3a = some E_k3a := rfl
theorem L_k3b : L.lookup f_k3b = some E_k3b := rfl
theorem L_k3c : L.lookup f_k3c = some E_k3c := rfl
theorem L_k3d : L.lookup f_k3d = some E_k3d := rfl
theorem L_k3e : L.lookup f_k3e = some E_k3e := rfl
theorem L_k3f : L.lookup f_k3f = some E_k3f := rfl
theorem L_k3g : L.lookup f_k3g = some E_k3g := rfl
theorem L_k3h : L.lookup f_k3h = some E_k3h := rfl
theorem L_k3i : L.lookup f_k3i = some E_k3i := rfl
theorem L_k3j : L.lookup f_k3j = some E_k3j := rfl
theorem L_k3k : L.lookup f_k3k = some E_k3k := rfl
theorem L_k3l : L.lookup f_k3l = some E_k3l := rfl
theorem L_k3m : L.lookup f_k3m = some E_k3m := rfl
theorem L_k3n : L.lookup f_k3n = some E_k3n := rfl
theorem L_k3o : L.lookup f_k3o = some E_k3o := rfl
theorem L_k3p : L.lookup f_k3p = some E_k3p := rfl
theorem L_k3q : L.lookup f_k3q = some E_k3q := rfl
theorem L_k3r : L.lookup f_k3r = some E_k3r := rfl
theorem L_k3s : L.lookup f_k3s = some E_k3s := rfl
theorem L_k3t : L.lookup f_k3t = some E_k3t := rfl
theorem L_k3u : L.lookup f_k3u = some E_k3u := rfl
theorem L_k3v : L.lookup f_k3v = some E_k3v := rfl
theorem L_k3w : L.lookup f_k3w = some E_k3w := rfl
theorem L_k3x : L.lookup f_k3x = some E_k3x := rfl
theorem L_k3y : L.lookup f_k3y = some E_k3y := rfl
theorem L_k3z : L.lookup f_k3z = some E_k3z := rfl
theorem L_k40 : L.lookup f_k40 = some E_k40 := rfl
theorem L_k41 : L.lookup f_k41 = some E_k41 := rfl
theorem L_k42 : L.lookup f_k42 = some E_k42 := rfl
theorem L_k43 : L.lookup f_k43 = some E_k43 := rfl
theorem L_k44 : L.lookup f_k44 = some E_k44 := rfl
theorem L_k45 : L.lookup f_k45 = some E_k45 := rfl
theorem L_k46 : L.lookup f_k46 = some E_k46 := rfl
theorem L_k47 : L.lookup f_k47 = some E_k47 := rfl
theorem L_k48 : L.lookup f_k48 = some E_k48 := rfl
theorem L_k49 : L.lookup f_k49 = some E_k49 := rfl
theorem L_k4a : L.lookup f_k4a = some E_k4a := rfl
theorem L_k4b : L.lookup f_k4b = some E_k4b := rfl
end Go.Proofs.YtdibnlhlngodeaaGreatDoor

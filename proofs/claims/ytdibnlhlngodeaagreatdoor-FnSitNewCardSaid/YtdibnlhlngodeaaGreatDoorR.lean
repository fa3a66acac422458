/- The residual programs of the functions, and the table of them. -/
import Derived.Test.YtdibnlhlngodeaaGreatDoorTd
set_option linter.unusedVariables false
set_option linter.unusedSimpArgs false
namespace Go.Proofs.YtdibnlhlngodeaaGreatDoor
open Go Go.Tm
theorem sCA {α : Type} {a : α} {as bs : List α} : (a :: as) ++ bs = a :: (as ++ bs) := rfl
theorem sNA {α : Type} {as : List α} : [] ++ as = as := rfl
abbrev aI (k : Nat) : E := .vi .i64 (.v k)
abbrev aS (k : Nat) : E := .s (.v k)
abbrev aB (k : Nat) : E := .vb (.v k)
abbrev aZ (k : Int) : E := .vi .i64 (.z k)
abbrev f_k0 : Nat := 91
abbrev f_k1 : Nat := 153
abbrev f_k2 : Nat := 132
abbrev f_k3 : Nat := 255
abbrev f_k4 : Nat := 254
abbrev f_k5 : Nat := 240
abbrev f_k6 : Nat := 256
abbrev f_k7 : Nat := 63
abbrev f_k8 : Nat := 98
abbrev f_k9 : Nat := 241
abbrev f_ka : Nat := 202
abbrev f_kb : Nat := 156
abbrev f_kc : Nat := 238
abbrev f_kd : Nat := 200
abbrev f_ke : Nat := 152
abbrev f_kf : Nat := 239
abbrev f_kg : Nat := 201
abbrev f_kh : Nat := 154
abbrev f_ki : Nat := 90
abbrev f_kj : Nat := 40
abbrev f_kk : Nat := 112
abbrev f_kl : Nat := 206
abbrev f_km : Nat := 162
abbrev f_kn : Nat := 166
abbrev f_ko : Nat := 208
abbrev f_kp : Nat := 165
abbrev f_kq : Nat := 114
abbrev f_kr : Nat := 243
abbrev f_ks : Nat := 227
abbrev f_kt : Nat := 244
abbrev f_ku : Nat := 207
abbrev f_kv : Nat := 164
abbrev f_kw : Nat := 163
abbrev f_kx : Nat := 113
abbrev f_ky : Nat := 116
abbrev f_kz : Nat := 167
abbrev f_k10 : Nat := 122
abbrev f_k11 : Nat := 115
abbrev f_k12 : Nat := 58
abbrev f_k13 : Nat := 149
abbrev f_k14 : Nat := 92
abbrev f_k15 : Nat := 41
abbrev f_k16 : Nat := 93
abbrev f_k17 : Nat := 42
abbrev f_k18 : Nat := 97
abbrev f_k19 : Nat := 108
abbrev f_k1a : Nat := 99
abbrev f_k1b : Nat := 47
abbrev f_k1c : Nat := 94
abbrev f_k1d : Nat := 44
abbrev f_k1e : Nat := 49
abbrev f_k1f : Nat := 102
abbrev f_k1g : Nat := 50
abbrev f_k1h : Nat := 43
abbrev f_k1i : Nat := 96
abbrev f_k1j : Nat := 46
abbrev f_k1k : Nat := 155
abbrev f_k1l : Nat := 95
abbrev f_k1m : Nat := 45
abbrev f_k1n : Nat := 101
abbrev f_k1o : Nat := 100
abbrev f_k1p : Nat := 48
abbrev f_k1q : Nat := 181
abbrev f_k1r : Nat := 260
abbrev f_k1s : Nat := 248
abbrev f_k1t : Nat := 237
abbrev f_k1u : Nat := 194
abbrev f_k1v : Nat := 261
abbrev f_k1w : Nat := 262
abbrev f_k1x : Nat := 263
abbrev f_k1y : Nat := 249
abbrev f_k1z : Nat := 250
abbrev f_k20 : Nat := 251
abbrev f_k21 : Nat := 222
abbrev f_k22 : Nat := 182
abbrev f_k23 : Nat := 223
abbrev f_k24 : Nat := 183
abbrev f_k25 : Nat := 224
abbrev f_k26 : Nat := 184
abbrev f_k27 : Nat := 226
abbrev f_k28 : Nat := 225
abbrev f_k29 : Nat := 185
abbrev f_k2a : Nat := 136
abbrev f_k2b : Nat := 186
abbrev f_k2c : Nat := 252
abbrev f_k2d : Nat := 228
abbrev f_k2e : Nat := 229
abbrev f_k2f : Nat := 187
abbrev f_k2g : Nat := 137
abbrev f_k2h : Nat := 67
abbrev f_k2i : Nat := 119
abbrev f_k2j : Nat := 219
abbrev f_k2k : Nat := 259
abbrev f_k2l : Nat := 247
abbrev f_k2m : Nat := 120
abbrev f_k2n : Nat := 218
abbrev f_k2o : Nat := 221
abbrev f_k2p : Nat := 220
abbrev f_k2q : Nat := 179
abbrev f_k2r : Nat := 180
abbrev f_k2s : Nat := 135
abbrev f_k2t : Nat := 209
abbrev f_k2u : Nat := 171
abbrev f_k2v : Nat := 210
abbrev f_k2w : Nat := 257
abbrev f_k2x : Nat := 258
abbrev f_k2y : Nat := 245
abbrev f_k2z : Nat := 211
abbrev f_k30 : Nat := 173
abbrev f_k31 : Nat := 172
abbrev f_k32 : Nat := 123
abbrev f_k33 : Nat := 66
abbrev f_k34 : Nat := 21
abbrev f_k35 : Nat := 168
abbrev f_k36 : Nat := 169
abbrev f_k37 : Nat := 118
abbrev f_k38 : Nat := 170
abbrev f_k39 : Nat := 121
abbrev f_k3a : Nat := 144
abbrev f_k3b : Nat := 78
abbrev f_k3c : Nat := 31
abbrev f_k3d : Nat := 197
abbrev f_k3e : Nat := 146
abbrev f_k3f : Nat := 147
abbrev f_k3g : Nat := 82
abbrev f_k3h : Nat := 34
abbrev f_k3i : Nat := 9

def R_k0 : R :=
 .ite (.cmp .lt (.z 2000) (.len (.v 0)))
 (
 .i (.chk (.cmp .le (.z 2000) (.len (.v 0)))) <|
 .done [(.s (.take (.v 0) (.z 2000))), (aZ 0)])
 (
 .done [(aS 0), (aZ 0)])

def R_k1 : R :=
 .ite (.cmp .lt (.v 2) (.z 1))
 (
 .done [(aZ 0), (aS 0), (.vi .i64 (.bin .add .i64 (.v 1) (.z 1)))])
 (
 .ite (.cmp .eq (.len (.v 0)) (.z 0))
 (
 .done [(aZ 0), (aS 0), (.vi .i64 (.bin .add .i64 (.v 1) (.z 1)))])
 (
 .ite (.cmp .lt (.bin .sub .i64 (.bin .add .i64 (.v 1) (.z 1)) (.z 1)) (.len (.v 0)))
 (
 .i (.idx (.v 0) (.bin .sub .i64 (.bin .add .i64 (.v 1) (.z 1)) (.z 1)) (.one (.i .u8)) 3) <|
 .i (.chk (.not (.cmp .eq (.v 2) (.z 0)))) <|
 .done [(.vi .i64 (.bin .rem .i64 (.cv .i64 (.v 3)) (.v 2))), (aS 0), (.vi .i64 (.bin .add .i64 (.v 1) (.z 1)))])
 (
 .i (.chk (.not (.cmp .eq (.len (.v 0)) (.z 0)))) <|
 .i (.idx (.v 0) (.bin .rem .i64 (.bin .sub .i64 (.bin .add .i64 (.v 1) (.z 1)) (.z 1)) (.len (.v 0))) (.one (.i .u8)) 3) <|
 .i (.chk (.not (.cmp .eq (.len (.v 0)) (.z 0)))) <|
 .i (.idx (.v 0) (.bin .rem .i64 (.bin .add .i64 (.bin .mul .i64 (.bin .sub .i64 (.bin .add .i64 (.v 1) (.z 1)) (.z 1)) (.z 7)) (.z 3)) (.len (.v 0))) (.one (.i .u8)) 4) <|
 .i (.chk (.not (.cmp .eq (.len (.v 0)) (.z 0)))) <|
 .i (.chk (.not (.cmp .eq (.z 64) (.z 0)))) <|
 .i (.chk (.not (.cmp .eq (.v 2) (.z 0)))) <|
 .done [(.vi .i64 (.bin .rem .i64 (.bin .xor .i64 (.bin .add .i64 (.bin .add .i64 (.bin .add .i64 (.bin .mul .i64 (.cv .i64 (.v 3)) (.z 131)) (.bin .mul .i64 (.cv .i64 (.v 4)) (.z 1117))) (.bin .mul .i64 (.bin .sub .i64 (.bin .add .i64 (.v 1) (.z 1)) (.z 1)) (.z 29))) (.bin .mul .i64 (.bin .quo .i64 (.bin .sub .i64 (.bin .add .i64 (.v 1) (.z 1)) (.z 1)) (.len (.v 0))) (.z 53))) (.bin .quo .i64 (.bin .add .i64 (.bin .add .i64 (.bin .add .i64 (.bin .mul .i64 (.cv .i64 (.v 3)) (.z 131)) (.bin .mul .i64 (.cv .i64 (.v 4)) (.z 1117))) (.bin .mul .i64 (.bin .sub .i64 (.bin .add .i64 (.v 1) (.z 1)) (.z 1)) (.z 29))) (.bin .mul .i64 (.bin .quo .i64 (.bin .sub .i64 (.bin .add .i64 (.v 1) (.z 1)) (.z 1)) (.len (.v 0))) (.z 53))) (.z 64))) (.v 2))), (aS 0), (.vi .i64 (.bin .add .i64 (.v 1) (.z 1)))])))

def R_k2 : R :=
 .done [(.s (.cons (aZ 0) (.cons (aZ 0) (.cons (aZ 0) .nil)))), (.s (.cons (aZ 0) (.cons (aZ 0) .nil))), (aZ 0)]

def R_k3 : R :=
 .i (.call f_k2 [] [.s, .s, .i .i64] 3) <|
 .i (.chk (.cmp .lt (.z 0) (.len (.v 4)))) <|
 .i (.idx (.v 4) (.z 0) (.one (.i .i64)) 6) <|
 .i (.chk (.cmp .lt (.z 1) (.len (.v 4)))) <|
 .i (.idx (.set (.v 4) (.z 0) (aI 0)) (.z 1) (.one (.i .i64)) 7) <|
 .done [(aS 3), (.s (.set (.set (.v 4) (.z 0) (aI 0)) (.z 1) (aI 1))), (aI 2)]

def R_k4 : R :=
 .i (.chk (.cmp .le (.z 0) (.v 3))) <|
 .i (.chk (.cmp .lt (.v 3) (.len (.v 0)))) <|
 .i (.idx (.v 0) (.v 3) (.one (.i .i64)) 5) <|
 .done [(aI 2), (.s (.set (.v 0) (.v 3) (aI 4))), (aS 1)]

def R_k5 : R :=
 .i (.call f_k2 [] [.s, .s, .i .i64] 2) <|
 .loop 5 [(.v 2), (.z 0), (.v 1), (.v 0)] <|
 .ite (.cmp .lt (.v 6) (.z 3))
 (
 .i (.call f_k1 [(aS 8), (aI 7), (aZ 6)] [.i .i64, .s, .i .i64] 9) <|
 .i (.chk (.cmp .le (.z 0) (.v 9))) <|
 .i (.chk (.cmp .lt (.v 9) (.z 6))) <|
 .i (.idx (.cons (aZ 0) (.cons (aZ 0) (.cons (aZ 0) (.cons (aZ 1) (.cons (.vi .i64 (.z (-1))) (.cons (aZ 2) .nil)))))) (.v 9) (.one (.i .i64)) 12) <|
 .i (.chk (.cmp .le (.z 0) (.v 6))) <|
 .i (.chk (.cmp .lt (.v 6) (.len (.v 5)))) <|
 .i (.idx (.v 5) (.v 6) (.one (.i .i64)) 13) <|
 .next [(.set (.v 5) (.v 6) (aI 12)), (.bin .add .i64 (.v 6) (.z 1)), (.v 11), (.v 10)])
 (
 .esc <|
 .loop 9 [(.v 3), (.z 0), (.v 7), (.v 8)] <|
 .ite (.cmp .lt (.v 10) (.z 2))
 (
 .i (.call f_k1 [(aS 12), (aI 11), (aZ 5)] [.i .i64, .s, .i .i64] 13) <|
 .i (.chk (.cmp .le (.z 0) (.v 13))) <|
 .i (.chk (.cmp .lt (.v 13) (.z 5))) <|
 .i (.idx (.cons (aZ 0) (.cons (aZ 0) (.cons (aZ 1) (.cons (.vi .i64 (.z (-1))) (.cons (aZ 2) .nil))))) (.v 13) (.one (.i .i64)) 16) <|
 .i (.chk (.cmp .le (.z 0) (.v 10))) <|
 .i (.chk (.cmp .lt (.v 10) (.len (.v 9)))) <|
 .i (.idx (.v 9) (.v 10) (.one (.i .i64)) 17) <|
 .next [(.set (.v 9) (.v 10) (aI 16)), (.bin .add .i64 (.v 10) (.z 1)), (.v 15), (.v 14)])
 (
 .esc <|
 .i (.call f_k1 [(aS 12), (aI 11), (aZ 8)] [.i .i64, .s, .i .i64] 13) <|
 .i (.chk (.cmp .le (.z 0) (.v 13))) <|
 .i (.chk (.cmp .lt (.v 13) (.z 8))) <|
 .i (.idx (.cons (aZ 0) (.cons (aZ 0) (.cons (aZ 1) (.cons (.vi .i64 (.z (-1))) (.cons (aZ 5) (.cons (.vi .i64 (.z (-5))) (.cons (aZ 20) (.cons (.vi .i64 (.z (-20))) .nil)))))))) (.v 13) (.one (.i .i64)) 16) <|
 .done [(aS 5), (aS 9), (aI 16), (aS 14), (aI 15)]))

def R_k6 : R :=
 .i (.call f_k1 [(aS 0), (aI 1), (aZ 7)] [.i .i64, .s, .i .i64] 2) <|
 .ite (.cmp .eq (.v 2) (.z 0))
 (
 .i (.call f_k1 [(aS 3), (aI 4), (aZ 3)] [.i .i64, .s, .i .i64] 5) <|
 .i (.call f_k5 [(aS 6), (aI 7)] [.s, .s, .i .i64, .s, .i .i64] 8) <|
 .done [(aZ 1), (aZ 0), (.vi .i64 (.bin .add .i64 (.z 1) (.v 5))), (aS 8), (aS 9), (aI 10), (aS 11), (aI 12)])
 (
 .ite (.cmp .eq (.v 2) (.z 1))
 (
 .i (.call f_k1 [(aS 3), (aI 4), (aZ 3)] [.i .i64, .s, .i .i64] 5) <|
 .i (.call f_k5 [(aS 6), (aI 7)] [.s, .s, .i .i64, .s, .i .i64] 8) <|
 .done [(aZ 1), (aZ 0), (.vi .i64 (.bin .add .i64 (.z 1) (.v 5))), (aS 8), (aS 9), (aI 10), (aS 11), (aI 12)])
 (
 .ite (.cmp .eq (.v 2) (.z 2))
 (
 .i (.call f_k5 [(aS 3), (aI 4)] [.s, .s, .i .i64, .s, .i .i64] 5) <|
 .i (.call f_k1 [(aS 8), (aI 9), (aZ 3)] [.i .i64, .s, .i .i64] 10) <|
 .ite (.cmp .lt (.z 0) (.v 10))
 (
 .i (.call f_k1 [(aS 11), (aI 12), (aZ 3)] [.i .i64, .s, .i .i64] 13) <|
 .done [(aZ 2), (aI 13), (aZ 0), (.s (.cons (aZ 0) (.cons (aZ 0) (.cons (aZ 0) .nil)))), (aS 6), (aI 7), (aS 14), (aI 15)])
 (
 .i (.call f_k1 [(aS 11), (aI 12), (aZ 3)] [.i .i64, .s, .i .i64] 13) <|
 .done [(aZ 2), (aI 13), (aZ 0), (aS 5), (aS 6), (aI 7), (aS 14), (aI 15)]))
 (
 .ite (.cmp .eq (.v 2) (.z 3))
 (
 .i (.call f_k5 [(aS 3), (aI 4)] [.s, .s, .i .i64, .s, .i .i64] 5) <|
 .i (.call f_k1 [(aS 8), (aI 9), (aZ 3)] [.i .i64, .s, .i .i64] 10) <|
 .ite (.cmp .lt (.z 0) (.v 10))
 (
 .i (.call f_k1 [(aS 11), (aI 12), (aZ 3)] [.i .i64, .s, .i .i64] 13) <|
 .done [(aZ 2), (aI 13), (aZ 0), (.s (.cons (aZ 0) (.cons (aZ 0) (.cons (aZ 0) .nil)))), (aS 6), (aI 7), (aS 14), (aI 15)])
 (
 .i (.call f_k1 [(aS 11), (aI 12), (aZ 3)] [.i .i64, .s, .i .i64] 13) <|
 .done [(aZ 2), (aI 13), (aZ 0), (aS 5), (aS 6), (aI 7), (aS 14), (aI 15)]))
 (
 .ite (.cmp .eq (.v 2) (.z 4))
 (
 .i (.call f_k5 [(aS 3), (aI 4)] [.s, .s, .i .i64, .s, .i .i64] 5) <|
 .i (.call f_k1 [(aS 8), (aI 9), (aZ 3)] [.i .i64, .s, .i .i64] 10) <|
 .ite (.cmp .lt (.z 0) (.v 10))
 (
 .i (.call f_k1 [(aS 11), (aI 12), (aZ 3)] [.i .i64, .s, .i .i64] 13) <|
 .done [(aZ 2), (aI 13), (aZ 0), (.s (.cons (aZ 0) (.cons (aZ 0) (.cons (aZ 0) .nil)))), (aS 6), (aI 7), (aS 14), (aI 15)])
 (
 .i (.call f_k1 [(aS 11), (aI 12), (aZ 3)] [.i .i64, .s, .i .i64] 13) <|
 .done [(aZ 2), (aI 13), (aZ 0), (aS 5), (aS 6), (aI 7), (aS 14), (aI 15)]))
 (
 .ite (.cmp .eq (.v 2) (.z 5))
 (
 .i (.call f_k5 [(aS 3), (aI 4)] [.s, .s, .i .i64, .s, .i .i64] 5) <|
 .done [(aZ 3), (aZ 0), (aZ 0), (aS 5), (aS 6), (aI 7), (aS 8), (aI 9)])
 (
 .done [(aZ 4), (aZ 0), (aZ 0), (.s .nil), (.s .nil), (aZ 0), (aS 3), (aI 4)]))))))

def R_k7 : R :=
 .ite (.cmp .le (.v 1) (.v 0))
 (
 .done [(.vb (.cmp .le (.v 0) (.v 2)))])
 (
 .done [(.vb .ff)])

def R_k8 : R :=
 .ite (.not (.cmp .eq (.len (.v 0)) (.v 1)))
 (
 .done [(.vb .ff)])
 (
 .loop 3 [(.z 0)] <|
 .ite (.cmp .lt (.v 3) (.len (.v 0)))
 (
 .i (.idx (.v 0) (.v 3) (.one (.i .i64)) 4) <|
 .i (.call f_k7 [(aI 4), (.vi .i64 (.bin .sub .i64 (.z 0) (.v 2))), (aI 2)] [.b] 5) <|
 .ite (.not (.v 5))
 (
 .esc <|
 .done [(.vb .ff)])
 (
 .next [(.bin .add .i64 (.v 3) (.z 1))]))
 (
 .esc <|
 .done [(.vb .tt)]))

def R_k9 : R :=
 .i (.call f_k8 [(aS 0), (aZ 3), (aZ 2)] [.b] 3) <|
 .ite (.v 3)
 (
 .i (.call f_k8 [(aS 1), (aZ 2), (aZ 2)] [.b] 4) <|
 .ite (.v 4)
 (
 .i (.call f_k7 [(aI 2), (.vi .i64 (.z (-20))), (aZ 20)] [.b] 5) <|
 .done [(aB 5)])
 (
 .done [(.vb .ff)]))
 (
 .done [(.vb .ff)])

def R_ka : R :=
 .ite (.cmp .eq (.v 0) (.z 1))
 (
 .ite (.cmp .eq (.v 1) (.z 0))
 (
 .i (.call f_k7 [(aI 2), (aZ 1), (aZ 6)] [.b] 6) <|
 .ite (.v 6)
 (
 .i (.call f_k9 [(aS 3), (aS 4), (aI 5)] [.b] 7) <|
 .done [(aB 7)])
 (
 .done [(.vb .ff)]))
 (
 .done [(.vb .ff)]))
 (
 .ite (.cmp .eq (.v 0) (.z 2))
 (
 .i (.call f_k7 [(aI 1), (aZ 0), (aZ 2)] [.b] 6) <|
 .ite (.v 6)
 (
 .ite (.cmp .eq (.v 2) (.z 0))
 (
 .i (.call f_k9 [(aS 3), (aS 4), (aI 5)] [.b] 7) <|
 .done [(aB 7)])
 (
 .done [(.vb .ff)]))
 (
 .done [(.vb .ff)]))
 (
 .ite (.cmp .eq (.v 0) (.z 3))
 (
 .ite (.cmp .eq (.v 1) (.z 0))
 (
 .ite (.cmp .eq (.v 2) (.z 0))
 (
 .i (.call f_k9 [(aS 3), (aS 4), (aI 5)] [.b] 6) <|
 .done [(aB 6)])
 (
 .done [(.vb .ff)]))
 (
 .done [(.vb .ff)]))
 (
 .ite (.cmp .eq (.v 0) (.z 4))
 (
 .ite (.cmp .eq (.v 1) (.z 0))
 (
 .ite (.cmp .eq (.v 2) (.z 0))
 (
 .ite (.cmp .eq (.bin .add .i64 (.len (.v 3)) (.len (.v 4))) (.z 0))
 (
 .done [(.vb (.cmp .eq (.v 5) (.z 0)))])
 (
 .done [(.vb .ff)]))
 (
 .done [(.vb .ff)]))
 (
 .done [(.vb .ff)]))
 (
 .done [(.vb .ff)]))))

def R_kb : R :=
 .loop 1 [(.z 0), (.z 0)] <|
 .ite (.cmp .lt (.v 2) (.len (.v 0)))
 (
 .i (.idx (.v 0) (.v 2) (.g [.i .i64, .i .i64, .i .i64, .s, .s, .i .i64]) 3) <|
 .i (.call f_ka [(aI 3), (aI 4), (aI 5), (aS 6), (aS 7), (aI 8)] [.b] 9) <|
 .ite (.not (.v 9))
 (
 .esc <|
 .done [(.vb .ff)])
 (
 .i (.idx (.v 0) (.v 2) (.g [.i .i64, .i .i64, .i .i64, .s, .s, .i .i64]) 10) <|
 .ite (.cmp .eq (.v 10) (.z 1))
 (
 .next [(.bin .add .i64 (.v 1) (.z 1)), (.bin .add .i64 (.v 2) (.z 1))])
 (
 .next [(.v 1), (.bin .add .i64 (.v 2) (.z 1))])))
 (
 .esc <|
 .ite (.cmp .le (.len (.v 0)) (.z 6))
 (
 .done [(.vb (.cmp .le (.v 1) (.z 3)))])
 (
 .done [(.vb .ff)]))

def R_kc : R :=
 .i (.call f_k1 [(aS 0), (aI 1), (aZ 2)] [.i .i64, .s, .i .i64] 2) <|
 .i (.call f_k1 [(aS 3), (aI 4), (aZ 8)] [.i .i64, .s, .i .i64] 5) <|
 .ite (.cmp .eq (.v 5) (.z 0))
 (
 .i (.call f_k3 [(.vi .i64 (.z (-1))), (aZ 0), (aZ 0)] [.s, .s, .i .i64] 8) <|
 .i (.call f_k4 [(aS 8), (aS 9), (aI 10), (aI 2), (aZ 1)] [.i .i64, .s, .s] 11) <|
 .i (.call f_k3 [(.vi .i64 (.z (-1))), (aZ 0), (aZ 0)] [.s, .s, .i .i64] 14) <|
 .i (.call f_k3 [(aZ 1), (aZ 0), (aZ 0)] [.s, .s, .i .i64] 17) <|
 .i (.call f_k3 [(aZ 1), (aZ 0), (.vi .i64 (.z (-9)))] [.s, .s, .i .i64] 20) <|
 .done [(.s (.cons (.g (.cons (aZ 1) (.cons (aZ 0) (.cons (aZ 2) (.cons (aS 12) (.cons (aS 13) (.cons (aI 11) .nil))))))) (.cons (.g (.cons (aZ 2) (.cons (aI 2) (.cons (aZ 0) (.cons (aS 14) (.cons (aS 15) (.cons (aI 16) .nil))))))) (.cons (.g (.cons (aZ 3) (.cons (aZ 0) (.cons (aZ 0) (.cons (aS 17) (.cons (aS 18) (.cons (aI 19) .nil))))))) (.cons (.g (.cons (aZ 1) (.cons (aZ 0) (.cons (aZ 1) (.cons (aS 20) (.cons (aS 21) (.cons (aI 22) .nil))))))) (.cons (.g (.cons (aZ 4) (.cons (aZ 0) (.cons (aZ 0) (.cons (.s .nil) (.cons (.s .nil) (.cons (aZ 0) .nil))))))) .nil)))))), (aS 6), (aI 7)])
 (
 .ite (.cmp .eq (.v 5) (.z 1))
 (
 .i (.call f_k3 [(.vi .i64 (.z (-1))), (aZ 0), (aZ 0)] [.s, .s, .i .i64] 8) <|
 .i (.call f_k4 [(aS 8), (aS 9), (aI 10), (aI 2), (aZ 1)] [.i .i64, .s, .s] 11) <|
 .i (.call f_k3 [(.vi .i64 (.z (-1))), (aZ 0), (aZ 0)] [.s, .s, .i .i64] 14) <|
 .i (.call f_k3 [(aZ 1), (aZ 0), (aZ 0)] [.s, .s, .i .i64] 17) <|
 .i (.call f_k3 [(aZ 1), (aZ 0), (.vi .i64 (.z (-9)))] [.s, .s, .i .i64] 20) <|
 .done [(.s (.cons (.g (.cons (aZ 1) (.cons (aZ 0) (.cons (aZ 2) (.cons (aS 12) (.cons (aS 13) (.cons (aI 11) .nil))))))) (.cons (.g (.cons (aZ 2) (.cons (aI 2) (.cons (aZ 0) (.cons (aS 14) (.cons (aS 15) (.cons (aI 16) .nil))))))) (.cons (.g (.cons (aZ 3) (.cons (aZ 0) (.cons (aZ 0) (.cons (aS 17) (.cons (aS 18) (.cons (aI 19) .nil))))))) (.cons (.g (.cons (aZ 1) (.cons (aZ 0) (.cons (aZ 1) (.cons (aS 20) (.cons (aS 21) (.cons (aI 22) .nil))))))) (.cons (.g (.cons (aZ 4) (.cons (aZ 0) (.cons (aZ 0) (.cons (.s .nil) (.cons (.s .nil) (.cons (aZ 0) .nil))))))) .nil)))))), (aS 6), (aI 7)])
 (
 .ite (.cmp .eq (.v 5) (.z 2))
 (
 .i (.call f_k3 [(aZ 1), (aZ 0), (aZ 0)] [.s, .s, .i .i64] 8) <|
 .done [(.s (.cons (.g (.cons (aZ 2) (.cons (aI 2) (.cons (aZ 0) (.cons (aS 8) (.cons (aS 9) (.cons (aI 10) .nil))))))) .nil)), (aS 6), (aI 7)])
 (
 .ite (.cmp .eq (.v 5) (.z 3))
 (
 .i (.call f_k3 [(.vi .i64 (.z (-1))), (aZ 0), (aZ 0)] [.s, .s, .i .i64] 8) <|
 .i (.call f_k4 [(aS 8), (aS 9), (aI 10), (aI 2), (aZ 1)] [.i .i64, .s, .s] 11) <|
 .i (.call f_k3 [(.vi .i64 (.z (-1))), (aZ 0), (aZ 0)] [.s, .s, .i .i64] 14) <|
 .i (.call f_k3 [(aZ 1), (aZ 0), (aZ 0)] [.s, .s, .i .i64] 17) <|
 .done [(.s (.cons (.g (.cons (aZ 1) (.cons (aZ 0) (.cons (aZ 2) (.cons (aS 12) (.cons (aS 13) (.cons (aI 11) .nil))))))) (.cons (.g (.cons (aZ 2) (.cons (aI 2) (.cons (aZ 0) (.cons (aS 14) (.cons (aS 15) (.cons (aI 16) .nil))))))) (.cons (.g (.cons (aZ 2) (.cons (.vi .i64 (.bin .sub .i64 (.z 1) (.v 2))) (.cons (aZ 0) (.cons (aS 17) (.cons (aS 18) (.cons (aI 19) .nil))))))) .nil)))), (aS 6), (aI 7)])
 (
 .ite (.cmp .eq (.v 5) (.z 4))
 (
 .i (.call f_k3 [(aZ 0), (aZ 0), (aZ 0)] [.s, .s, .i .i64] 8) <|
 .i (.call f_k4 [(aS 8), (aS 9), (aI 10), (aZ 2), (aZ 1)] [.i .i64, .s, .s] 11) <|
 .done [(.s (.cons (.g (.cons (aZ 3) (.cons (aZ 0) (.cons (aZ 0) (.cons (aS 12) (.cons (aS 13) (.cons (aI 11) .nil))))))) .nil)), (aS 6), (aI 7)])
 (
 .ite (.cmp .eq (.v 5) (.z 5))
 (
 .i (.call f_k3 [(aZ 0), (aZ 1), (aZ 5)] [.s, .s, .i .i64] 8) <|
 .i (.call f_k4 [(aS 8), (aS 9), (aI 10), (aZ 0), (aZ 1)] [.i .i64, .s, .s] 11) <|
 .i (.call f_k4 [(aS 12), (aS 13), (aI 11), (aZ 1), (.vi .i64 (.z (-1)))] [.i .i64, .s, .s] 14) <|
 .i (.call f_k3 [(aZ 0), (aZ 0), (aZ 1)] [.s, .s, .i .i64] 17) <|
 .done [(.s (.cons (.g (.cons (aZ 1) (.cons (aZ 0) (.cons (aZ 1) (.cons (aS 15) (.cons (aS 16) (.cons (aI 14) .nil))))))) (.cons (.g (.cons (aZ 2) (.cons (aZ 2) (.cons (aZ 0) (.cons (aS 17) (.cons (aS 18) (.cons (aI 19) .nil))))))) .nil))), (aS 6), (aI 7)])
 (
 .i (.call f_k1 [(aS 6), (aI 7), (aZ 5)] [.i .i64, .s, .i .i64] 8) <|
 .loop 11 [.nil, (.bin .add .i64 (.z 1) (.v 8)), (.v 10), (.v 9)] <|
 .ite (.cmp .lt (.z 0) (.v 12))
 (
 .i (.call f_k6 [(aS 14), (aI 13)] [.i .i64, .i .i64, .i .i64, .s, .s, .i .i64, .s, .i .i64] 15) <|
 .i (.chk (.cmp .le (.len (.v 11)) (.z 879609302220))) <|
 .i (.head 6 (.v 11)) <|
 .i (.chk (.cmp .le (.len (.app .nil (.v 11))) (.z 879609302220))) <|
 .i (.chk (.cmp .le (.len (.app (.app .nil (.v 11)) (.cons (.g (.cons (aI 15) (.cons (aI 16) (.cons (aI 17) (.cons (aS 18) (.cons (aS 19) (.cons (aI 20) .nil))))))) .nil))) (.z 879609302220))) <|
 .i (.call f_kb [(.s (.app (.app .nil (.v 11)) (.cons (.g (.cons (aI 15) (.cons (aI 16) (.cons (aI 17) (.cons (aS 18) (.cons (aS 19) (.cons (aI 20) .nil))))))) .nil)))] [.b] 23) <|
 .ite (.v 23)
 (
 .i (.chk (.cmp .le (.len (.app (.v 11) (.cons (.g (.cons (aI 15) (.cons (aI 16) (.cons (aI 17) (.cons (aS 18) (.cons (aS 19) (.cons (aI 20) .nil))))))) .nil))) (.z 879609302220))) <|
 .next [(.app (.v 11) (.cons (.g (.cons (aI 15) (.cons (aI 16) (.cons (aI 17) (.cons (aS 18) (.cons (aS 19) (.cons (aI 20) .nil))))))) .nil)), (.bin .sub .i64 (.v 12) (.z 1)), (.v 22), (.v 21)])
 (
 .next [(.v 11), (.bin .sub .i64 (.v 12) (.z 1)), (.v 22), (.v 21)]))
 (
 .esc <|
 .done [(aS 11), (aS 14), (aI 13)])))))))

def R_kd : R :=
 .i (.call f_k1 [(aS 0), (aI 1), (aZ 4)] [.i .i64, .s, .i .i64] 2) <|
 .loop 5 [.nil, (.bin .add .i64 (.z 1) (.v 2)), (.v 4), (.v 3)] <|
 .ite (.cmp .lt (.z 0) (.v 6))
 (
 .i (.call f_kc [(aS 8), (aI 7)] [.s, .s, .i .i64] 9) <|
 .i (.chk (.cmp .le (.len (.app (.v 5) (.cons (aS 9) .nil))) (.z 2932031007402))) <|
 .next [(.app (.v 5) (.cons (aS 9) .nil)), (.bin .sub .i64 (.v 6) (.z 1)), (.v 11), (.v 10)])
 (
 .esc <|
 .done [(aS 5), (aS 8), (aI 7)])

def R_ke : R :=
 .i (.call f_k1 [(aS 0), (aI 1), (aZ 4)] [.i .i64, .s, .i .i64] 2) <|
 .i (.call f_kd [(aS 3), (aI 4)] [.s, .s, .i .i64] 5) <|
 .i (.call f_k1 [(aS 6), (aI 7), (aZ 3)] [.i .i64, .s, .i .i64] 8) <|
 .loop 11 [.nil, (.bin .add .i64 (.z 1) (.v 8)), (.v 10), (.v 9)] <|
 .ite (.cmp .lt (.z 0) (.v 12))
 (
 .i (.call f_k1 [(aS 14), (aI 13), (aZ 5)] [.i .i64, .s, .i .i64] 15) <|
 .i (.chk (.cmp .le (.z 0) (.v 15))) <|
 .i (.chk (.cmp .lt (.v 15) (.z 5))) <|
 .i (.idx (.cons (aZ 0) (.cons (aZ 3) (.cons (aZ 9) (.cons (aZ 20) (.cons (aZ 50) .nil))))) (.v 15) (.one (.i .i64)) 18) <|
 .i (.chk (.cmp .le (.len (.app (.v 11) (.cons (aI 18) .nil))) (.z 8796093022208))) <|
 .next [(.app (.v 11) (.cons (aI 18) .nil)), (.bin .sub .i64 (.v 12) (.z 1)), (.v 17), (.v 16)])
 (
 .esc <|
 .loop 15 [.nil, (.z 0), (.v 13), (.v 14)] <|
 .ite (.cmp .lt (.v 16) (.z 3))
 (
 .i (.call f_k1 [(aS 18), (aI 17), (aZ 6)] [.i .i64, .s, .i .i64] 19) <|
 .i (.chk (.cmp .le (.z 0) (.v 19))) <|
 .i (.chk (.cmp .lt (.v 19) (.z 6))) <|
 .i (.idx (.cons (aZ 0) (.cons (aZ 5) (.cons (aZ 20) (.cons (aZ 60) (.cons (aZ 200) (.cons (.vi .i64 (.z (-8))) .nil)))))) (.v 19) (.one (.i .i64)) 22) <|
 .i (.chk (.cmp .le (.len (.app (.v 15) (.cons (aI 22) .nil))) (.z 8796093022208))) <|
 .next [(.app (.v 15) (.cons (aI 22) .nil)), (.bin .add .i64 (.v 16) (.z 1)), (.v 21), (.v 20)])
 (
 .esc <|
 .done [(.vi .i64 (.bin .add .i64 (.z 1) (.v 2))), (aS 5), (aS 11), (aS 15), (aS 18), (aI 17)]))

def R_kf : R :=
 .i (.call f_k5 [(aS 0), (aI 1)] [.s, .s, .i .i64, .s, .i .i64] 3) <|
 .i (.call f_k1 [(aS 6), (aI 7), (aZ 4)] [.i .i64, .s, .i .i64] 8) <|
 .ite (.cmp .eq (.v 8) (.z 0))
 (
 .i (.call f_k1 [(aS 9), (aI 10), (aZ 3)] [.i .i64, .s, .i .i64] 11) <|
 .i (.call f_k1 [(aS 12), (aI 13), (aZ 4)] [.i .i64, .s, .i .i64] 14) <|
 .i (.chk (.cmp .le (.z 0) (.v 14))) <|
 .i (.chk (.cmp .lt (.v 14) (.z 4))) <|
 .i (.idx (.cons (aZ 10000000) (.cons (.vi .i64 (.z (-10000000))) (.cons (aZ 1000) (.cons (aZ 77) .nil)))) (.v 14) (.one (.i .i64)) 17) <|
 .i (.chk (.cmp .le (.z 0) (.v 11))) <|
 .i (.chk (.cmp .lt (.v 11) (.len (.v 3)))) <|
 .i (.idx (.v 3) (.v 11) (.one (.i .i64)) 18) <|
 .i (.call f_k1 [(aS 15), (aI 16), (aI 2)] [.i .i64, .s, .i .i64] 19) <|
 .ite (.cmp .lt (.z 0) (.v 19))
 (
 .done [(.s (.set (.v 3) (.v 11) (aI 17))), (aS 4), (aI 5), (aS 20), (aI 21)])
 (
 .i (.call f_k1 [(aS 20), (aI 21), (aZ 4)] [.i .i64, .s, .i .i64] 22) <|
 .ite (.cmp .eq (.v 22) (.z 0))
 (
 .i (.chk (.cmp .le (.z 2) (.len (.set (.v 3) (.v 11) (aI 17))))) <|
 .done [(.s (.take (.set (.v 3) (.v 11) (aI 17)) (.z 2))), (aS 4), (aI 5), (aS 23), (aI 24)])
 (
 .ite (.cmp .eq (.v 22) (.z 1))
 (
 .i (.chk (.cmp .le (.len (.app (.v 4) (.cons (aZ 0) .nil))) (.z 8796093022208))) <|
 .done [(.s (.set (.v 3) (.v 11) (aI 17))), (.s (.app (.v 4) (.cons (aZ 0) .nil))), (aI 5), (aS 23), (aI 24)])
 (
 .ite (.cmp .eq (.v 22) (.z 2))
 (
 .i (.call f_k1 [(aS 23), (aI 24), (aZ 3)] [.i .i64, .s, .i .i64] 25) <|
 .i (.chk (.cmp .le (.z 0) (.v 25))) <|
 .i (.chk (.cmp .lt (.v 25) (.z 3))) <|
 .i (.idx (.cons (aZ 10000001) (.cons (.vi .i64 (.z (-10000001))) (.cons (aZ 10000000) .nil))) (.v 25) (.one (.i .i64)) 28) <|
 .done [(.s (.set (.v 3) (.v 11) (aI 17))), (aS 4), (aI 28), (aS 26), (aI 27)])
 (
 .i (.call f_k1 [(aS 23), (aI 24), (aZ 3)] [.i .i64, .s, .i .i64] 25) <|
 .i (.call f_k1 [(aS 26), (aI 27), (aZ 2)] [.i .i64, .s, .i .i64] 28) <|
 .i (.chk (.cmp .le (.z 0) (.v 28))) <|
 .i (.chk (.cmp .lt (.v 28) (.z 2))) <|
 .i (.idx (.cons (aZ 10000001) (.cons (.vi .i64 (.z (-10000001))) .nil)) (.v 28) (.one (.i .i64)) 31) <|
 .i (.chk (.cmp .le (.z 0) (.v 25))) <|
 .i (.chk (.cmp .lt (.v 25) (.len (.v 3)))) <|
 .i (.idx (.set (.v 3) (.v 11) (aI 17)) (.v 25) (.one (.i .i64)) 32) <|
 .done [(.s (.set (.set (.v 3) (.v 11) (aI 17)) (.v 25) (aI 31))), (aS 4), (aI 5), (aS 29), (aI 30)])))))
 (
 .i (.call f_k1 [(aS 9), (aI 10), (aI 2)] [.i .i64, .s, .i .i64] 11) <|
 .ite (.cmp .lt (.z 0) (.v 11))
 (
 .done [(aS 3), (aS 4), (aI 5), (aS 12), (aI 13)])
 (
 .i (.call f_k1 [(aS 12), (aI 13), (aZ 4)] [.i .i64, .s, .i .i64] 14) <|
 .ite (.cmp .eq (.v 14) (.z 0))
 (
 .i (.chk (.cmp .le (.z 2) (.len (.v 3)))) <|
 .done [(.s (.take (.v 3) (.z 2))), (aS 4), (aI 5), (aS 15), (aI 16)])
 (
 .ite (.cmp .eq (.v 14) (.z 1))
 (
 .i (.chk (.cmp .le (.len (.app (.v 4) (.cons (aZ 0) .nil))) (.z 8796093022208))) <|
 .done [(aS 3), (.s (.app (.v 4) (.cons (aZ 0) .nil))), (aI 5), (aS 15), (aI 16)])
 (
 .ite (.cmp .eq (.v 14) (.z 2))
 (
 .i (.call f_k1 [(aS 15), (aI 16), (aZ 3)] [.i .i64, .s, .i .i64] 17) <|
 .i (.chk (.cmp .le (.z 0) (.v 17))) <|
 .i (.chk (.cmp .lt (.v 17) (.z 3))) <|
 .i (.idx (.cons (aZ 10000001) (.cons (.vi .i64 (.z (-10000001))) (.cons (aZ 10000000) .nil))) (.v 17) (.one (.i .i64)) 20) <|
 .done [(aS 3), (aS 4), (aI 20), (aS 18), (aI 19)])
 (
 .i (.call f_k1 [(aS 15), (aI 16), (aZ 3)] [.i .i64, .s, .i .i64] 17) <|
 .i (.call f_k1 [(aS 18), (aI 19), (aZ 2)] [.i .i64, .s, .i .i64] 20) <|
 .i (.chk (.cmp .le (.z 0) (.v 20))) <|
 .i (.chk (.cmp .lt (.v 20) (.z 2))) <|
 .i (.idx (.cons (aZ 10000001) (.cons (.vi .i64 (.z (-10000001))) .nil)) (.v 20) (.one (.i .i64)) 23) <|
 .i (.chk (.cmp .le (.z 0) (.v 17))) <|
 .i (.chk (.cmp .lt (.v 17) (.len (.v 3)))) <|
 .i (.idx (.v 3) (.v 17) (.one (.i .i64)) 24) <|
 .done [(.s (.set (.v 3) (.v 17) (aI 23))), (aS 4), (aI 5), (aS 21), (aI 22)])))))

def R_kg : R :=
 .i (.call f_kc [(aS 0), (aI 1)] [.s, .s, .i .i64] 3) <|
 .ite (.cmp .eq (.len (.v 3)) (.z 0))
 (
 .done [(aS 3), (aS 4), (aI 5)])
 (
 .i (.call f_k1 [(aS 4), (aI 5), (aI 2)] [.i .i64, .s, .i .i64] 6) <|
 .ite (.cmp .lt (.z 0) (.v 6))
 (
 .done [(aS 3), (aS 7), (aI 8)])
 (
 .i (.call f_k1 [(aS 7), (aI 8), (.vi .i64 (.len (.v 3)))] [.i .i64, .s, .i .i64] 9) <|
 .i (.call f_k1 [(aS 10), (aI 11), (aZ 6)] [.i .i64, .s, .i .i64] 12) <|
 .ite (.cmp .eq (.v 12) (.z 0))
 (
 .i (.call f_k1 [(aS 13), (aI 14), (aZ 4)] [.i .i64, .s, .i .i64] 15) <|
 .i (.chk (.cmp .le (.z 0) (.v 15))) <|
 .i (.chk (.cmp .lt (.v 15) (.z 4))) <|
 .i (.idx (.cons (aZ 0) (.cons (aZ 5) (.cons (aZ 4) (.cons (aZ 1) .nil)))) (.v 15) (.one (.i .i64)) 18) <|
 .i (.chk (.cmp .le (.z 0) (.v 9))) <|
 .i (.chk (.cmp .lt (.v 9) (.len (.v 3)))) <|
 .i (.idx (.v 3) (.v 9) (.g [.i .i64, .i .i64, .i .i64, .s, .s, .i .i64]) 19) <|
 .done [(.s (.set (.v 3) (.v 9) (.g (.cons (aI 18) (.cons (aI 20) (.cons (aI 21) (.cons (aS 22) (.cons (aS 23) (.cons (aI 24) .nil))))))))), (aS 16), (aI 17)])
 (
 .ite (.cmp .eq (.v 12) (.z 1))
 (
 .i (.call f_k1 [(aS 13), (aI 14), (aZ 3)] [.i .i64, .s, .i .i64] 15) <|
 .i (.chk (.cmp .le (.z 0) (.v 15))) <|
 .i (.chk (.cmp .lt (.v 15) (.z 3))) <|
 .i (.idx (.cons (.vi .i64 (.z (-1))) (.cons (aZ 3) (.cons (aZ 2) .nil))) (.v 15) (.one (.i .i64)) 18) <|
 .i (.chk (.cmp .le (.z 0) (.v 9))) <|
 .i (.chk (.cmp .lt (.v 9) (.len (.v 3)))) <|
 .i (.idx (.v 3) (.v 9) (.g [.i .i64, .i .i64, .i .i64, .s, .s, .i .i64]) 19) <|
 .done [(.s (.set (.v 3) (.v 9) (.g (.cons (aI 19) (.cons (aI 18) (.cons (aI 21) (.cons (aS 22) (.cons (aS 23) (.cons (aI 24) .nil))))))))), (aS 16), (aI 17)])
 (
 .ite (.cmp .eq (.v 12) (.z 2))
 (
 .i (.call f_k1 [(aS 13), (aI 14), (aZ 4)] [.i .i64, .s, .i .i64] 15) <|
 .i (.chk (.cmp .le (.z 0) (.v 15))) <|
 .i (.chk (.cmp .lt (.v 15) (.z 4))) <|
 .i (.idx (.cons (aZ 0) (.cons (.vi .i64 (.z (-1))) (.cons (aZ 7) (.cons (aZ 6) .nil)))) (.v 15) (.one (.i .i64)) 18) <|
 .i (.chk (.cmp .le (.z 0) (.v 9))) <|
 .i (.chk (.cmp .lt (.v 9) (.len (.v 3)))) <|
 .i (.idx (.v 3) (.v 9) (.g [.i .i64, .i .i64, .i .i64, .s, .s, .i .i64]) 19) <|
 .done [(.s (.set (.v 3) (.v 9) (.g (.cons (aI 19) (.cons (aI 20) (.cons (aI 18) (.cons (aS 22) (.cons (aS 23) (.cons (aI 24) .nil))))))))), (aS 16), (aI 17)])
 (
 .ite (.cmp .eq (.v 12) (.z 3))
 (
 .i (.call f_kf [(aS 13), (aI 14), (aZ 2)] [.s, .s, .i .i64, .s, .i .i64] 15) <|
 .i (.chk (.cmp .le (.z 0) (.v 9))) <|
 .i (.chk (.cmp .lt (.v 9) (.len (.v 3)))) <|
 .i (.idx (.v 3) (.v 9) (.g [.i .i64, .i .i64, .i .i64, .s, .s, .i .i64]) 20) <|
 .done [(.s (.set (.v 3) (.v 9) (.g (.cons (aI 20) (.cons (aI 21) (.cons (aI 22) (.cons (aS 15) (.cons (aS 16) (.cons (aI 17) .nil))))))))), (aS 18), (aI 19)])
 (
 .ite (.cmp .eq (.v 12) (.z 4))
 (
 .loop 15 [(.v 3)] <|
 .ite (.cmp .le (.len (.v 15)) (.z 6))
 (
 .i (.chk (.cmp .le (.z 0) (.v 9))) <|
 .i (.chk (.cmp .lt (.v 9) (.len (.v 15)))) <|
 .i (.idx (.v 15) (.v 9) (.g [.i .i64, .i .i64, .i .i64, .s, .s, .i .i64]) 16) <|
 .i (.chk (.cmp .le (.len (.app (.v 15) (.cons (.g (.cons (aI 16) (.cons (aI 17) (.cons (aI 18) (.cons (aS 19) (.cons (aS 20) (.cons (aI 21) .nil))))))) .nil))) (.z 879609302220))) <|
 .next [(.app (.v 15) (.cons (.g (.cons (aI 16) (.cons (aI 17) (.cons (aI 18) (.cons (aS 19) (.cons (aS 20) (.cons (aI 21) .nil))))))) .nil))])
 (
 .esc <|
 .done [(aS 15), (aS 13), (aI 14)]))
 (
 .i (.call f_k5 [(aS 13), (aI 14)] [.s, .s, .i .i64, .s, .i .i64] 15) <|
 .i (.call f_k5 [(aS 18), (aI 19)] [.s, .s, .i .i64, .s, .i .i64] 20) <|
 .i (.chk (.cmp .le (.len (.app (.v 3) (.cons (.g (.cons (aZ 1) (.cons (aZ 0) (.cons (aZ 1) (.cons (aS 15) (.cons (aS 16) (.cons (aI 17) .nil))))))) (.cons (.g (.cons (aZ 1) (.cons (aZ 0) (.cons (aZ 1) (.cons (aS 20) (.cons (aS 21) (.cons (aI 22) .nil))))))) .nil)))) (.z 879609302220))) <|
 .done [(.s (.app (.v 3) (.cons (.g (.cons (aZ 1) (.cons (aZ 0) (.cons (aZ 1) (.cons (aS 15) (.cons (aS 16) (.cons (aI 17) .nil))))))) (.cons (.g (.cons (aZ 1) (.cons (aZ 0) (.cons (aZ 1) (.cons (aS 20) (.cons (aS 21) (.cons (aI 22) .nil))))))) .nil)))), (aS 23), (aI 24)])))))))

def R_kh : R :=
 .i (.call f_kd [(aS 0), (aI 1)] [.s, .s, .i .i64] 3) <|
 .i (.call f_k1 [(aS 4), (aI 5), (aI 2)] [.i .i64, .s, .i .i64] 6) <|
 .ite (.cmp .lt (.z 0) (.v 6))
 (
 .done [(aS 3), (aS 7), (aI 8)])
 (
 .i (.call f_k1 [(aS 7), (aI 8), (aZ 3)] [.i .i64, .s, .i .i64] 9) <|
 .ite (.cmp .eq (.v 9) (.z 0))
 (
 .i (.call f_kg [(aS 10), (aI 11), (aZ 1)] [.s, .s, .i .i64] 12) <|
 .i (.chk (.cmp .lt (.z 0) (.len (.v 3)))) <|
 .i (.idx (.v 3) (.z 0) (.one (.s)) 15) <|
 .done [(.s (.set (.v 3) (.z 0) (aS 12))), (aS 13), (aI 14)])
 (
 .ite (.cmp .eq (.v 9) (.z 1))
 (
 .done [(.s .nil), (aS 10), (aI 11)])
 (
 .loop 12 [(.v 3)] <|
 .ite (.cmp .le (.len (.v 12)) (.z 4))
 (
 .i (.chk (.cmp .lt (.z 0) (.len (.v 12)))) <|
 .i (.idx (.v 12) (.z 0) (.one (.s)) 13) <|
 .i (.chk (.cmp .le (.len (.app (.v 12) (.cons (aS 13) .nil))) (.z 2932031007402))) <|
 .next [(.app (.v 12) (.cons (aS 13) .nil))])
 (
 .esc <|
 .done [(aS 12), (aS 10), (aI 11)]))))

def R_ki : R :=
 .i (.call f_ke [(aS 0), (aI 1)] [.i .i64, .s, .s, .s, .s, .i .i64] 3) <|
 .i (.call f_k1 [(aS 7), (aI 8), (aI 2)] [.i .i64, .s, .i .i64] 9) <|
 .ite (.cmp .lt (.z 0) (.v 9))
 (
 .done [(aI 3), (aS 4), (aS 5), (aS 6), (aS 10), (aI 11)])
 (
 .i (.call f_k1 [(aS 10), (aI 11), (aZ 5)] [.i .i64, .s, .i .i64] 12) <|
 .ite (.cmp .eq (.v 12) (.z 0))
 (
 .i (.call f_k1 [(aS 13), (aI 14), (aZ 3)] [.i .i64, .s, .i .i64] 15) <|
 .i (.chk (.cmp .le (.z 0) (.v 15))) <|
 .i (.chk (.cmp .lt (.v 15) (.z 3))) <|
 .i (.idx (.cons (aZ 0) (.cons (aZ 5) (.cons (.vi .i64 (.z (-1))) .nil))) (.v 15) (.one (.i .i64)) 18) <|
 .done [(aI 18), (aS 4), (aS 5), (aS 6), (aS 16), (aI 17)])
 (
 .ite (.cmp .eq (.v 12) (.z 1))
 (
 .i (.call f_kh [(aS 13), (aI 14), (aZ 1)] [.s, .s, .i .i64] 15) <|
 .done [(aI 3), (aS 15), (aS 5), (aS 6), (aS 16), (aI 17)])
 (
 .ite (.cmp .eq (.v 12) (.z 2))
 (
 .i (.call f_k1 [(aS 13), (aI 14), (aZ 4)] [.i .i64, .s, .i .i64] 15) <|
 .i (.chk (.cmp .le (.z 0) (.v 15))) <|
 .i (.chk (.cmp .lt (.v 15) (.z 4))) <|
 .i (.idx (.cons (.vi .i64 (.z (-1))) (.cons (aZ 51) (.cons (aZ 3) (.cons (aZ 3) .nil)))) (.v 15) (.one (.i .i64)) 18) <|
 .i (.chk (.cmp .le (.len (.app (.v 5) (.cons (aI 18) (.cons (aZ 4) (.cons (aZ 4) .nil))))) (.z 8796093022208))) <|
 .done [(aI 3), (aS 4), (.s (.app (.v 5) (.cons (aI 18) (.cons (aZ 4) (.cons (aZ 4) .nil))))), (aS 6), (aS 16), (aI 17)])
 (
 .ite (.cmp .eq (.v 12) (.z 3))
 (
 .i (.call f_k1 [(aS 13), (aI 14), (aZ 3)] [.i .i64, .s, .i .i64] 15) <|
 .i (.chk (.cmp .le (.z 0) (.v 15))) <|
 .i (.chk (.cmp .lt (.v 15) (.z 3))) <|
 .i (.idx (.cons (aZ 1001) (.cons (.vi .i64 (.z (-1000))) (.cons (aZ 1000) .nil))) (.v 15) (.one (.i .i64)) 18) <|
 .i (.chk (.cmp .lt (.z 0) (.len (.v 6)))) <|
 .i (.idx (.v 6) (.z 0) (.one (.i .i64)) 19) <|
 .done [(aI 3), (aS 4), (aS 5), (.s (.set (.v 6) (.z 0) (aI 18))), (aS 16), (aI 17)])
 (
 .i (.chk (.cmp .le (.z 2) (.len (.v 6)))) <|
 .done [(aI 3), (aS 4), (aS 5), (.s (.take (.v 6) (.z 2))), (aS 13), (aI 14)])))))

def R_kj : R :=
 .i (.call f_k0 [(aS 0)] [.s, .i .i64] 1) <|
 .i (.call f_ki [(aS 1), (aI 2), (aZ 6)] [.i .i64, .s, .s, .s, .s, .i .i64] 3) <|
 .done [(aI 3), (aS 4), (aS 5), (aS 6)]

def R_kk : R :=
 .ite (.cmp .le (.v 1) (.v 0))
 (
 .done [(.vb (.cmp .le (.v 0) (.v 2)))])
 (
 .done [(.vb .ff)])

def R_kl : R :=
 .loop 2 [(.z 0)] <|
 .ite (.cmp .lt (.v 2) (.len (.v 0)))
 (
 .i (.idx (.v 0) (.v 2) (.one (.s)) 3) <|
 .i (.callv (.da 1) [(aS 3)] [none] [.b] 4) <|
 .ite (.v 4)
 (
 .esc <|
 .done [(aI 2)])
 (
 .next [(.bin .add .i64 (.v 2) (.z 1))]))
 (
 .esc <|
 .done [(.vi .i64 (.z (-1)))])

def R_km : R :=
 .i (.call f_kl [(aS 0), (.da 1)] [.i .i64] 2) <|
 .done [(.vb (.cmp .le (.z 0) (.v 2)))]

def R_kn : R :=
 .i (.get (.da 1) (.q [.i .i64]) 2) <|
 .i (.get (.da 1) (.q [.i .i64]) 3) <|
 .i (.call f_kk [(aI 0), (.vi .i64 (.bin .sub .i64 (.z 0) (.v 2))), (aI 3)] [.b] 4) <|
 .done [(.vb (.not (.v 4)))]

def R_ko : R :=
 .loop 2 [(.z 0)] <|
 .ite (.cmp .lt (.v 2) (.len (.v 0)))
 (
 .i (.idx (.v 0) (.v 2) (.one (.i .i64)) 3) <|
 .i (.callv (.da 1) [(aI 3)] [none] [.b] 4) <|
 .ite (.v 4)
 (
 .esc <|
 .done [(aI 2)])
 (
 .next [(.bin .add .i64 (.v 2) (.z 1))]))
 (
 .esc <|
 .done [(.vi .i64 (.z (-1)))])

def R_kp : R :=
 .i (.call f_ko [(aS 0), (.da 1)] [.i .i64] 2) <|
 .done [(.vb (.cmp .le (.z 0) (.v 2)))]

def R_kq : R :=
 .ite (.cmp .eq (.len (.v 0)) (.v 1))
 (
 .i (.call f_kp [(aS 0), (.fn f_kn (.cons (.q (.cons (aI 2) .nil)) .nil))] [.b] 3) <|
 .done [(.vb (.not (.v 3)))])
 (
 .done [(.vb .ff)])

def R_kr : R :=
 .i (.call f_kq [(aS 0), (aZ 3), (aZ 2)] [.b] 3) <|
 .ite (.v 3)
 (
 .i (.call f_kq [(aS 1), (aZ 2), (aZ 2)] [.b] 4) <|
 .ite (.v 4)
 (
 .i (.call f_kk [(aI 2), (.vi .i64 (.z (-20))), (aZ 20)] [.b] 5) <|
 .done [(aB 5)])
 (
 .done [(.vb .ff)]))
 (
 .done [(.vb .ff)])

def R_ks : R :=
 .ite (.not (.cmp .eq (.len (.v 0)) (.len (.v 1))))
 (
 .done [(.vb .ff)])
 (
 .loop 2 [(.z 0)] <|
 .ite (.cmp .lt (.v 2) (.len (.v 0)))
 (
 .i (.idx (.v 0) (.v 2) (.one (.i .i64)) 3) <|
 .i (.idx (.v 1) (.v 2) (.one (.i .i64)) 4) <|
 .ite (.not (.cmp .eq (.v 3) (.v 4)))
 (
 .esc <|
 .done [(.vb .ff)])
 (
 .next [(.bin .add .i64 (.v 2) (.z 1))]))
 (
 .esc <|
 .done [(.vb .tt)]))

def R_kt : R :=
 .ite (.cmp .eq (.v 2) (.v 5))
 (
 .i (.call f_ks [(aS 0), (aS 3)] [.b] 6) <|
 .ite (.v 6)
 (
 .i (.call f_ks [(aS 1), (aS 4)] [.b] 7) <|
 .done [(aB 7)])
 (
 .done [(.vb .ff)]))
 (
 .done [(.vb .ff)])

def R_ku : R :=
 .ite (.cmp .eq (.v 0) (.z 1))
 (
 .i (.call f_kk [(aI 2), (aZ 1), (aZ 6)] [.b] 6) <|
 .ite (.v 6)
 (
 .ite (.cmp .eq (.v 1) (.z 0))
 (
 .i (.call f_kr [(aS 3), (aS 4), (aI 5)] [.b] 7) <|
 .done [(aB 7)])
 (
 .done [(.vb .ff)]))
 (
 .done [(.vb .ff)]))
 (
 .ite (.cmp .eq (.v 0) (.z 2))
 (
 .i (.call f_kk [(aI 1), (aZ 0), (aZ 2)] [.b] 6) <|
 .ite (.v 6)
 (
 .ite (.cmp .eq (.v 2) (.z 0))
 (
 .i (.call f_kr [(aS 3), (aS 4), (aI 5)] [.b] 7) <|
 .done [(aB 7)])
 (
 .done [(.vb .ff)]))
 (
 .done [(.vb .ff)]))
 (
 .ite (.cmp .eq (.v 0) (.z 3))
 (
 .ite (.cmp .eq (.v 1) (.z 0))
 (
 .ite (.cmp .eq (.v 2) (.z 0))
 (
 .i (.call f_kr [(aS 3), (aS 4), (aI 5)] [.b] 6) <|
 .done [(aB 6)])
 (
 .done [(.vb .ff)]))
 (
 .done [(.vb .ff)]))
 (
 .ite (.cmp .eq (.v 0) (.z 4))
 (
 .ite (.cmp .eq (.v 1) (.z 0))
 (
 .ite (.cmp .eq (.v 2) (.z 0))
 (
 .i (.call f_kt [(aS 3), (aS 4), (aI 5), (.s .nil), (.s .nil), (aZ 0)] [.b] 6) <|
 .done [(aB 6)])
 (
 .done [(.vb .ff)]))
 (
 .done [(.vb .ff)]))
 (
 .done [(.vb .ff)]))))

def R_kv : R :=
 .loop 1 [(.z 0), (.z 0)] <|
 .ite (.cmp .lt (.v 2) (.len (.v 0)))
 (
 .i (.idx (.v 0) (.v 2) (.g [.i .i64, .i .i64, .i .i64, .s, .s, .i .i64]) 3) <|
 .i (.call f_ku [(aI 3), (aI 4), (aI 5), (aS 6), (aS 7), (aI 8)] [.b] 9) <|
 .ite (.not (.v 9))
 (
 .esc <|
 .done [(.vb .ff)])
 (
 .ite (.cmp .eq (.v 3) (.z 1))
 (
 .next [(.bin .add .i64 (.v 1) (.z 1)), (.bin .add .i64 (.v 2) (.z 1))])
 (
 .next [(.v 1), (.bin .add .i64 (.v 2) (.z 1))])))
 (
 .esc <|
 .ite (.cmp .le (.len (.v 0)) (.z 6))
 (
 .done [(.vb (.cmp .le (.v 1) (.z 3)))])
 (
 .done [(.vb .ff)]))

def R_kw : R :=
 .i (.call f_kv [(aS 0)] [.b] 1) <|
 .done [(.vb (.not (.v 1)))]

def R_kx : R :=
 .i (.call f_kk [(.vi .i64 (.len (.v 0))), (aZ 1), (aZ 4)] [.b] 1) <|
 .ite (.v 1)
 (
 .i (.call f_km [(aS 0), (.fn f_kw .nil)] [.b] 2) <|
 .done [(.vb (.not (.v 2)))])
 (
 .done [(.vb .ff)])

def R_ky : R :=
 .done [(aS 4), (aS 2)]

def R_kz : R :=
 .i (.call f_kk [(aI 0), (aZ 0), (aZ 50)] [.b] 1) <|
 .done [(.vb (.not (.v 1)))]

def R_k10 : R :=
 .i (.call f_kq [(aS 0), (aZ 3), (aZ 10000)] [.b] 1) <|
 .done [(aB 1)]

def R_k11 : R :=
 .i (.call f_k10 [(aS 0)] [.b] 2) <|
 .ite (.v 2)
 (
 .i (.call f_kk [(.vi .i64 (.len (.v 1))), (aZ 1), (aZ 3)] [.b] 3) <|
 .ite (.v 3)
 (
 .i (.call f_kp [(aS 1), (.fn f_kz .nil)] [.b] 4) <|
 .done [(.vb (.not (.v 4)))])
 (
 .done [(.vb .ff)]))
 (
 .done [(.vb .ff)])

def R_k12 : R :=
 .i (.call f_kk [(aI 0), (aZ 1), (aZ 4)] [.b] 4) <|
 .ite (.v 4)
 (
 .i (.call f_kx [(aS 1)] [.b] 5) <|
 .ite (.v 5)
 (
 .i (.call f_kq [(aS 3), (aZ 3), (aZ 1000)] [.b] 6) <|
 .ite (.v 6)
 (
 .i (.call f_ky [(aI 0), (aS 1), (aS 2), (aS 3), (aS 3)] [.s, .s] 7) <|
 .i (.call f_k11 [(aS 7), (aS 8)] [.b] 9) <|
 .done [(aB 9)])
 (
 .done [(.vb .ff)]))
 (
 .done [(.vb .ff)]))
 (
 .done [(.vb .ff)])

def R_k13 : R :=
 .nilq 1 (.v 0)
 (
 .done [(.s .nil)])
 (
 .i (.chk (.cmp .le (.len (.v 0)) (.z 8796093022208))) <|
 .i (.head 1 (.v 0)) <|
 .i (.chk (.cmp .le (.len (.app .nil (.v 0))) (.z 8796093022208))) <|
 .done [(.s (.app .nil (.v 0)))])

def R_k14 : R :=
 .i (.call f_k13 [(aS 3)] [.s] 4) <|
 .i (.chk (.cmp .le (.z 0) (.v 0))) <|
 .i (.chk (.cmp .le (.v 0) (.z 1759218604441))) <|
 .done [(.vb .tt), (.vb .ff), (aZ 0), (aS 4), (.s (.cons (aZ 0) (.cons (aZ 0) (.cons (aZ 0) .nil)))), (.s (.rep (.v 0) (.g (.cons (aZ 0) (.cons (aZ 0) (.cons (.s .nil) .nil))))))]

def R_k15 : R :=
 .i (.call f_k12 [(aI 0), (aS 1), (aS 2), (aS 3)] [.b] 4) <|
 .ite (.not (.v 4))
 (
 .done [(.vb .ff), (.vb .ff), (aZ 0), (.s .nil), (.s .nil), (.s .nil)])
 (
 .i (.call f_k14 [(aI 0), (aS 1), (aS 2), (aS 3)] [.b, .b, .i .i64, .s, .s, .s] 5) <|
 .done [(aB 5), (aB 6), (aI 7), (aS 8), (aS 9), (aS 10)])

def R_k16 : R :=
 .i (.call f_k13 [(aS 3)] [.s] 4) <|
 .i (.chk (.cmp .le (.z 0) (.v 0))) <|
 .i (.chk (.cmp .le (.v 0) (.z 1759218604441))) <|
 .i (.chk (.cmp .le (.z 0) (.len (.v 2)))) <|
 .i (.chk (.cmp .le (.len (.v 2)) (.z 1256584717458))) <|
 .done [(.vb .tt), (aZ 0), (aS 4), (.s (.rep (.v 0) (.g (.cons (aZ 0) (.cons (aZ 0) (.cons (.s .nil) .nil)))))), (.s .nil), (.s (.rep (.len (.v 2)) (.g (.cons (.vb .ff) (.cons (.s .nil) (.cons (.s .nil) .nil))))))]

def R_k17 : R :=
 .i (.call f_k12 [(aI 0), (aS 1), (aS 2), (aS 3)] [.b] 4) <|
 .ite (.not (.v 4))
 (
 .done [(.vb .ff), (aZ 0), (.s .nil), (.s .nil), (.s .nil), (.s .nil)])
 (
 .i (.call f_k16 [(aI 0), (aS 1), (aS 2), (aS 3)] [.b, .i .i64, .s, .s, .s, .s] 5) <|
 .done [(aB 5), (aI 6), (aS 7), (aS 8), (aS 9), (aS 10)])

def R_k18 : R :=
 .i (.call f_k7 [(.vi .i64 (.len (.v 0))), (aZ 1), (aZ 4)] [.b] 1) <|
 .ite (.not (.v 1))
 (
 .done [(.vb .ff)])
 (
 .loop 2 [(.z 0)] <|
 .ite (.cmp .lt (.v 2) (.len (.v 0)))
 (
 .i (.idx (.v 0) (.v 2) (.one (.s)) 3) <|
 .i (.call f_kb [(aS 3)] [.b] 4) <|
 .ite (.not (.v 4))
 (
 .esc <|
 .done [(.vb .ff)])
 (
 .next [(.bin .add .i64 (.v 2) (.z 1))]))
 (
 .esc <|
 .done [(.vb .tt)]))

def R_k19 : R :=
 .i (.call f_k8 [(aS 0), (aZ 3), (aZ 10000)] [.b] 1) <|
 .done [(aB 1)]

def R_k1a : R :=
 .i (.call f_k19 [(aS 0)] [.b] 2) <|
 .ite (.not (.v 2))
 (
 .done [(.vb .ff)])
 (
 .i (.call f_k7 [(.vi .i64 (.len (.v 1))), (aZ 1), (aZ 3)] [.b] 3) <|
 .ite (.not (.v 3))
 (
 .done [(.vb .ff)])
 (
 .loop 4 [(.z 0)] <|
 .ite (.cmp .lt (.v 4) (.len (.v 1)))
 (
 .i (.idx (.v 1) (.v 4) (.one (.i .i64)) 5) <|
 .i (.call f_k7 [(aI 5), (aZ 0), (aZ 50)] [.b] 6) <|
 .ite (.not (.v 6))
 (
 .esc <|
 .done [(.vb .ff)])
 (
 .next [(.bin .add .i64 (.v 4) (.z 1))]))
 (
 .esc <|
 .done [(.vb .tt)])))

def R_k1b : R :=
 .i (.call f_k7 [(aI 0), (aZ 1), (aZ 4)] [.b] 4) <|
 .ite (.v 4)
 (
 .i (.call f_k18 [(aS 1)] [.b] 5) <|
 .ite (.v 5)
 (
 .i (.call f_k8 [(aS 3), (aZ 3), (aZ 1000)] [.b] 6) <|
 .ite (.v 6)
 (
 .i (.call f_k1a [(aS 3), (aS 2)] [.b] 7) <|
 .done [(aB 7)])
 (
 .done [(.vb .ff)]))
 (
 .done [(.vb .ff)]))
 (
 .done [(.vb .ff)])

def R_k1c : R :=
 .loop 4 [.nil, (.z 0)] <|
 .ite (.cmp .lt (.v 5) (.v 0))
 (
 .i (.chk (.cmp .le (.len (.app (.v 4) (.cons (.g (.cons (aZ 0) (.cons (aZ 0) (.cons (.s .nil) .nil)))) .nil))) (.z 1759218604441))) <|
 .next [(.app (.v 4) (.cons (.g (.cons (aZ 0) (.cons (aZ 0) (.cons (.s .nil) .nil)))) .nil)), (.bin .add .i64 (.v 5) (.z 1))])
 (
 .esc <|
 .done [(aS 4)])

def R_k1d : R :=
 .i (.call f_k1b [(aI 0), (aS 1), (aS 2), (aS 3)] [.b] 4) <|
 .ite (.not (.v 4))
 (
 .done [(.vb .ff), (.vb .ff), (aZ 0), (.s .nil), (.s .nil), (.s .nil)])
 (
 .i (.chk (.cmp .le (.len (.v 3)) (.z 8796093022208))) <|
 .i (.head 1 (.v 3)) <|
 .i (.chk (.cmp .le (.len (.app .nil (.v 3))) (.z 8796093022208))) <|
 .i (.call f_k1c [(aI 0), (aS 1), (aS 2), (aS 3)] [.s] 5) <|
 .done [(.vb .tt), (.vb .ff), (aZ 0), (.s (.app .nil (.v 3))), (.s (.cons (aZ 0) (.cons (aZ 0) (.cons (aZ 0) .nil)))), (aS 5)])

def R_k1e : R :=
 .ite (.not (.cmp .eq (.len (.v 0)) (.len (.v 1))))
 (
 .done [(.vb .ff)])
 (
 .loop 2 [(.z 0)] <|
 .ite (.cmp .lt (.v 2) (.len (.v 0)))
 (
 .i (.idx (.v 0) (.v 2) (.one (.i .i64)) 3) <|
 .i (.idx (.v 1) (.v 2) (.one (.i .i64)) 4) <|
 .ite (.not (.cmp .eq (.v 3) (.v 4)))
 (
 .esc <|
 .done [(.vb .ff)])
 (
 .next [(.bin .add .i64 (.v 2) (.z 1))]))
 (
 .esc <|
 .done [(.vb .tt)]))

def R_k1f : R :=
 .ite (.cmp .eq (.v 0) (.v 2))
 (
 .i (.call f_k1e [(aS 1), (aS 3)] [.b] 4) <|
 .done [(aB 4)])
 (
 .done [(.vb .ff)])

def R_k1g : R :=
 .ite (.not (.cmp .eq (.len (.v 0)) (.len (.v 1))))
 (
 .done [(.vb .ff)])
 (
 .loop 2 [(.z 0)] <|
 .ite (.cmp .lt (.v 2) (.len (.v 0)))
 (
 .i (.idx (.v 0) (.v 2) (.g [.i .i64, .i .i64, .s]) 3) <|
 .i (.idx (.v 1) (.v 2) (.g [.i .i64, .i .i64, .s]) 6) <|
 .ite (.not (.cmp .eq (.v 3) (.v 6)))
 (
 .esc <|
 .done [(.vb .ff)])
 (
 .i (.idx (.v 0) (.v 2) (.g [.i .i64, .i .i64, .s]) 9) <|
 .i (.idx (.v 1) (.v 2) (.g [.i .i64, .i .i64, .s]) 12) <|
 .i (.call f_k1f [(aI 10), (aS 11), (aI 13), (aS 14)] [.b] 15) <|
 .ite (.not (.v 15))
 (
 .esc <|
 .done [(.vb .ff)])
 (
 .next [(.bin .add .i64 (.v 2) (.z 1))])))
 (
 .esc <|
 .done [(.vb .tt)]))

def R_k1h : R :=
 .ite (.beq (.v 0) (.v 6))
 (
 .ite (.beq (.v 1) (.v 7))
 (
 .ite (.cmp .eq (.v 2) (.v 8))
 (
 .i (.call f_k1e [(aS 3), (aS 9)] [.b] 12) <|
 .ite (.v 12)
 (
 .i (.call f_k1e [(aS 4), (aS 10)] [.b] 13) <|
 .ite (.v 13)
 (
 .i (.call f_k1g [(aS 5), (aS 11)] [.b] 14) <|
 .done [(aB 14)])
 (
 .done [(.vb .ff)]))
 (
 .done [(.vb .ff)]))
 (
 .done [(.vb .ff)]))
 (
 .done [(.vb .ff)]))
 (
 .done [(.vb .ff)])

def R_k1i : R :=
 .loop 4 [.nil, (.z 0)] <|
 .ite (.cmp .lt (.v 5) (.len (.v 2)))
 (
 .i (.chk (.cmp .le (.len (.app (.v 4) (.cons (.g (.cons (.vb .ff) (.cons (.s .nil) (.cons (.s .nil) .nil)))) .nil))) (.z 1256584717458))) <|
 .next [(.app (.v 4) (.cons (.g (.cons (.vb .ff) (.cons (.s .nil) (.cons (.s .nil) .nil)))) .nil)), (.bin .add .i64 (.v 5) (.z 1))])
 (
 .esc <|
 .done [(aS 4)])

def R_k1j : R :=
 .i (.call f_k1b [(aI 0), (aS 1), (aS 2), (aS 3)] [.b] 4) <|
 .ite (.not (.v 4))
 (
 .done [(.vb .ff), (aZ 0), (.s .nil), (.s .nil), (.s .nil), (.s .nil)])
 (
 .i (.chk (.cmp .le (.len (.v 3)) (.z 8796093022208))) <|
 .i (.head 1 (.v 3)) <|
 .i (.chk (.cmp .le (.len (.app .nil (.v 3))) (.z 8796093022208))) <|
 .i (.call f_k1c [(aI 0), (aS 1), (aS 2), (aS 3)] [.s] 5) <|
 .i (.call f_k1i [(aI 0), (aS 1), (aS 2), (aS 3)] [.s] 6) <|
 .done [(.vb .tt), (aZ 0), (.s (.app .nil (.v 3))), (aS 5), (.s .nil), (aS 6)])

def R_k1k : R :=
 .ite (.cmp .eq (.v 0) (.v 4))
 (
 .ite (.cmp .eq (.v 1) (.v 5))
 (
 .ite (.cmp .eq (.v 2) (.v 6))
 (
 .i (.call f_k1e [(aS 3), (aS 7)] [.b] 8) <|
 .done [(aB 8)])
 (
 .done [(.vb .ff)]))
 (
 .done [(.vb .ff)]))
 (
 .done [(.vb .ff)])

def R_k1l : R :=
 .ite (.not (.cmp .eq (.len (.v 0)) (.len (.v 1))))
 (
 .done [(.vb .ff)])
 (
 .loop 2 [(.z 0)] <|
 .ite (.cmp .lt (.v 2) (.len (.v 0)))
 (
 .i (.idx (.v 0) (.v 2) (.g [.i .i64, .i .i64, .i .i64, .s]) 3) <|
 .i (.idx (.v 1) (.v 2) (.g [.i .i64, .i .i64, .i .i64, .s]) 7) <|
 .i (.call f_k1k [(aI 3), (aI 4), (aI 5), (aS 6), (aI 7), (aI 8), (aI 9), (aS 10)] [.b] 11) <|
 .ite (.not (.v 11))
 (
 .esc <|
 .done [(.vb .ff)])
 (
 .next [(.bin .add .i64 (.v 2) (.z 1))]))
 (
 .esc <|
 .done [(.vb .tt)]))

def R_k1m : R :=
 .ite (.not (.beq (.v 0) (.v 6)))
 (
 .done [(.vb .ff)])
 (
 .ite (.not (.cmp .eq (.v 1) (.v 7)))
 (
 .done [(.vb .ff)])
 (
 .i (.call f_k1e [(aS 2), (aS 8)] [.b] 12) <|
 .ite (.not (.v 12))
 (
 .done [(.vb .ff)])
 (
 .i (.call f_k1g [(aS 3), (aS 9)] [.b] 13) <|
 .ite (.not (.v 13))
 (
 .done [(.vb .ff)])
 (
 .i (.call f_k1l [(aS 4), (aS 10)] [.b] 14) <|
 .ite (.not (.v 14))
 (
 .done [(.vb .ff)])
 (
 .ite (.not (.cmp .eq (.len (.v 5)) (.len (.v 11))))
 (
 .done [(.vb .ff)])
 (
 .loop 15 [(.z 0)] <|
 .ite (.cmp .lt (.v 15) (.len (.v 5)))
 (
 .i (.idx (.v 5) (.v 15) (.g [.b, .s, .s]) 16) <|
 .i (.idx (.v 11) (.v 15) (.g [.b, .s, .s]) 19) <|
 .ite (.not (.beq (.v 16) (.v 19)))
 (
 .esc <|
 .done [(.vb .ff)])
 (
 .i (.idx (.v 5) (.v 15) (.g [.b, .s, .s]) 22) <|
 .i (.idx (.v 11) (.v 15) (.g [.b, .s, .s]) 25) <|
 .i (.call f_k1e [(aS 23), (aS 26)] [.b] 28) <|
 .ite (.not (.v 28))
 (
 .esc <|
 .done [(.vb .ff)])
 (
 .i (.idx (.v 5) (.v 15) (.g [.b, .s, .s]) 29) <|
 .i (.idx (.v 11) (.v 15) (.g [.b, .s, .s]) 32) <|
 .i (.call f_k1e [(aS 31), (aS 34)] [.b] 35) <|
 .ite (.not (.v 35))
 (
 .esc <|
 .done [(.vb .ff)])
 (
 .next [(.bin .add .i64 (.v 15) (.z 1))]))))
 (
 .esc <|
 .done [(.vb .tt)])))))))

def R_k1n : R :=
 .done [(.s (.cons (aZ 0) (.cons (aZ 0) (.cons (aZ 0) .nil)))), (.s (.cons (aZ 0) (.cons (aZ 0) .nil))), (aZ 0)]

def R_k1o : R :=
 .i (.call f_kq [(aS 0), (aZ 3), (aZ 10000000)] [.b] 3) <|
 .ite (.v 3)
 (
 .i (.call f_kq [(aS 1), (aZ 2), (aZ 10000000)] [.b] 4) <|
 .ite (.v 4)
 (
 .i (.call f_kk [(aI 2), (.vi .i64 (.z (-10000000))), (aZ 10000000)] [.b] 5) <|
 .done [(aB 5)])
 (
 .done [(.vb .ff)]))
 (
 .done [(.vb .ff)])

def R_k1p : R :=
 .i (.call f_k1n [] [.s, .s, .i .i64] 0) <|
 .i (.call f_k1o [(aS 0), (aS 1), (aI 2)] [.b] 3) <|
 .done [(aB 3)]

def R_k1q : R :=
 .i (.call f_kk [(aI 0), (aZ 0), (aZ 2)] [.b] 1) <|
 .ite (.not (.v 1))
 (
 .done [(.s .nil), (.s .nil), (aZ 0)])
 (
 .i (.call f_k1n [] [.s, .s, .i .i64] 2) <|
 .i (.chk (.cmp .le (.z 0) (.v 0))) <|
 .i (.chk (.cmp .lt (.v 0) (.len (.v 2)))) <|
 .i (.idx (.v 2) (.v 0) (.one (.i .i64)) 5) <|
 .done [(.s (.set (.v 2) (.v 0) (aZ 1))), (aS 3), (aI 4)])

def R_k1r : R :=
 .i (.call f_k13 [(aS 0)] [.s] 3) <|
 .i (.call f_k13 [(aS 1)] [.s] 4) <|
 .done [(aS 3), (aS 4), (aI 2)]

def R_k1s : R :=
 .loop 1 [.nil, (.z 0)] <|
 .ite (.cmp .lt (.v 2) (.len (.v 0)))
 (
 .i (.idx (.v 0) (.v 2) (.g [.s, .s, .i .i64]) 3) <|
 .i (.call f_k1r [(aS 3), (aS 4), (aI 5)] [.s, .s, .i .i64] 6) <|
 .i (.fl (.v 6)) <|
 .i (.fl (.v 7)) <|
 .i (.chk (.cmp .le (.len (.app (.v 1) (.cons (.g (.cons (aS 6) (.cons (aS 7) (.cons (aI 8) .nil)))) .nil))) (.z 1256584717458))) <|
 .next [(.app (.v 1) (.cons (.g (.cons (aS 6) (.cons (aS 7) (.cons (aI 8) .nil)))) .nil)), (.bin .add .i64 (.v 2) (.z 1))])
 (
 .esc <|
 .done [(aS 1)])

def R_k1t : R :=
 .loop 2 [(.z 0)] <|
 .ite (.cmp .lt (.v 2) (.len (.v 0)))
 (
 .i (.idx (.v 0) (.v 2) (.g [.s, .s, .i .i64]) 3) <|
 .i (.callv (.da 1) [(aS 3), (aS 4), (aI 5)] [some 3] [.b] 6) <|
 .ite (.v 6)
 (
 .esc <|
 .done [(aI 2)])
 (
 .next [(.bin .add .i64 (.v 2) (.z 1))]))
 (
 .esc <|
 .done [(.vi .i64 (.z (-1)))])

def R_k1u : R :=
 .i (.call f_k1t [(aS 0), (.da 1)] [.i .i64] 2) <|
 .done [(.vb (.cmp .le (.z 0) (.v 2)))]

def R_k1v : R :=
 .i (.call f_k1o [(aS 0), (aS 1), (aI 2)] [.b] 3) <|
 .done [(.vb (.not (.v 3)))]

def R_k1w : R :=
 .loop 7 [(.v 0), (.z 0)] <|
 .ite (.cmp .lt (.v 8) (.len (.v 3)))
 (
 .i (.idx (.v 3) (.v 8) (.one (.i .i64)) 9) <|
 .i (.chk (.cmp .le (.z 0) (.v 8))) <|
 .i (.chk (.cmp .lt (.v 8) (.len (.v 7)))) <|
 .i (.idx (.v 7) (.v 8) (.one (.i .i64)) 10) <|
 .i (.chk (.cmp .le (.z 0) (.v 8))) <|
 .i (.chk (.cmp .lt (.v 8) (.len (.v 7)))) <|
 .i (.idx (.v 7) (.v 8) (.one (.i .i64)) 11) <|
 .next [(.set (.v 7) (.v 8) (.vi .i64 (.bin .add .i64 (.v 10) (.bin .mul .i64 (.v 6) (.v 9))))), (.bin .add .i64 (.v 8) (.z 1))])
 (
 .esc <|
 .loop 9 [(.v 1), (.z 0)] <|
 .ite (.cmp .lt (.v 10) (.len (.v 4)))
 (
 .i (.idx (.v 4) (.v 10) (.one (.i .i64)) 11) <|
 .i (.chk (.cmp .le (.z 0) (.v 10))) <|
 .i (.chk (.cmp .lt (.v 10) (.len (.v 9)))) <|
 .i (.idx (.v 9) (.v 10) (.one (.i .i64)) 12) <|
 .i (.chk (.cmp .le (.z 0) (.v 10))) <|
 .i (.chk (.cmp .lt (.v 10) (.len (.v 9)))) <|
 .i (.idx (.v 9) (.v 10) (.one (.i .i64)) 13) <|
 .next [(.set (.v 9) (.v 10) (.vi .i64 (.bin .add .i64 (.v 12) (.bin .mul .i64 (.v 6) (.v 11))))), (.bin .add .i64 (.v 10) (.z 1))])
 (
 .esc <|
 .done [(.vi .i64 (.bin .add .i64 (.v 2) (.bin .mul .i64 (.v 6) (.v 5)))), (aS 7), (aS 9)]))

def R_k1x : R :=
 .i (.call f_k1o [(aS 0), (aS 1), (aI 2)] [.b] 3) <|
 .ite (.not (.v 3))
 (
 .done [(.s .nil), (.s .nil), (aZ 0)])
 (
 .done [(aS 0), (aS 1), (aI 2)])

def R_k1y : R :=
 .i (.call f_k1o [(aS 0), (aS 1), (aI 2)] [.b] 4) <|
 .ite (.not (.v 4))
 (
 .done [(.s .nil), (.s .nil), (aZ 0)])
 (
 .ite (.not (.cmp .eq (.len (.v 3)) (.z 3)))
 (
 .done [(.s .nil), (.s .nil), (aZ 0)])
 (
 .i (.call f_k1u [(aS 3), (.fn f_k1v .nil)] [.b] 5) <|
 .ite (.v 5)
 (
 .done [(.s .nil), (.s .nil), (aZ 0)])
 (
 .i (.call f_k1n [] [.s, .s, .i .i64] 6) <|
 .loop 9 [(.v 6), (.v 7), (.z 0), (.v 8)] <|
 .ite (.cmp .lt (.v 11) (.len (.v 3)))
 (
 .i (.idx (.v 3) (.v 11) (.g [.s, .s, .i .i64]) 13) <|
 .i (.idx (.v 0) (.v 11) (.one (.i .i64)) 16) <|
 .i (.call f_k1w [(aS 9), (aS 10), (aI 12), (aS 13), (aS 14), (aI 15), (aI 16)] [.i .i64, .s, .s] 17) <|
 .next [(.v 18), (.v 19), (.bin .add .i64 (.v 11) (.z 1)), (.v 17)])
 (
 .esc <|
 .i (.call f_k1w [(aS 9), (aS 10), (aI 12), (.s .nil), (aS 1), (aI 2), (aZ 1)] [.i .i64, .s, .s] 13) <|
 .i (.call f_k1x [(aS 14), (aS 15), (aI 13)] [.s, .s, .i .i64] 16) <|
 .done [(aS 16), (aS 17), (aI 18)]))))

def R_k1z : R :=
 .i (.call f_k1o [(aS 0), (aS 1), (aI 2)] [.b] 4) <|
 .ite (.not (.v 4))
 (
 .done [(.s .nil), (.s .nil), (aZ 0)])
 (
 .i (.call f_kk [(aI 3), (.vi .i64 (.z (-10000000))), (aZ 10000000)] [.b] 5) <|
 .ite (.not (.v 5))
 (
 .done [(.s .nil), (.s .nil), (aZ 0)])
 (
 .i (.call f_k1n [] [.s, .s, .i .i64] 6) <|
 .i (.call f_k1w [(aS 6), (aS 7), (aI 8), (aS 0), (aS 1), (aI 2), (aI 3)] [.i .i64, .s, .s] 9) <|
 .i (.call f_k1x [(aS 10), (aS 11), (aI 9)] [.s, .s, .i .i64] 12) <|
 .done [(aS 12), (aS 13), (aI 14)]))

def R_k20 : R :=
 .i (.call f_k1o [(aS 0), (aS 1), (aI 2)] [.b] 6) <|
 .ite (.not (.v 6))
 (
 .done [(.s .nil), (.s .nil), (aZ 0)])
 (
 .i (.call f_k1o [(aS 3), (aS 4), (aI 5)] [.b] 7) <|
 .ite (.not (.v 7))
 (
 .done [(.s .nil), (.s .nil), (aZ 0)])
 (
 .i (.call f_k1n [] [.s, .s, .i .i64] 8) <|
 .i (.call f_k1w [(aS 8), (aS 9), (aI 10), (aS 0), (aS 1), (aI 2), (aZ 1)] [.i .i64, .s, .s] 11) <|
 .i (.call f_k1w [(aS 12), (aS 13), (aI 11), (aS 3), (aS 4), (aI 5), (aZ 1)] [.i .i64, .s, .s] 14) <|
 .i (.call f_k1x [(aS 15), (aS 16), (aI 14)] [.s, .s, .i .i64] 17) <|
 .done [(aS 17), (aS 18), (aI 19)]))

def R_k21 : R :=
 .loop 6 [(.v 1), (.v 2), (.v 3), (.v 4), (.v 5), (.v 0)] <|
 .ite (.cmp .lt (.v 7) (.len (.v 11)))
 (
 .i (.idx (.v 11) (.v 7) (.g [.i .i64, .i .i64, .i .i64, .s, .s, .i .i64]) 12) <|
 .ite (.cmp .eq (.v 12) (.z 4))
 (
 .i (.call f_k1s [(aS 8)] [.s] 18) <|
 .i (.chk (.cmp .le (.len (.app (.v 6) (.cons (.g (.cons (aS 18) (.cons (.s .nil) (.cons (.s .nil) (.cons (.vb .tt) .nil))))) .nil))) (.z 879609302220))) <|
 .esc <|
 .done [(aS 11), (.s (.app (.v 6) (.cons (.g (.cons (aS 18) (.cons (.s .nil) (.cons (.s .nil) (.cons (.vb .tt) .nil))))) .nil)))])
 (
 .i (.call f_k1y [(aS 15), (aS 16), (aI 17), (aS 9)] [.s, .s, .i .i64] 18) <|
 .ite (.cmp .eq (.v 12) (.z 1))
 (
 .i (.call f_k1s [(aS 8)] [.s] 21) <|
 .i (.chk (.cmp .le (.len (.app (.v 21) (.cons (.g (.cons (aS 18) (.cons (aS 19) (.cons (aI 20) .nil)))) .nil))) (.z 1256584717458))) <|
 .i (.call f_k1s [(aS 9)] [.s] 22) <|
 .i (.call f_k1s [(aS 10)] [.s] 23) <|
 .i (.call f_k21 [(aS 11), (aS 6), (.vi .i64 (.bin .add .i64 (.v 7) (.z 1))), (.s (.app (.v 21) (.cons (.g (.cons (aS 18) (.cons (aS 19) (.cons (aI 20) .nil)))) .nil))), (aS 22), (aS 23)] [.s, .s] 24) <|
 .i (.call f_k1z [(aS 18), (aS 19), (aI 20), (.vi .i64 (.z (-1)))] [.s, .s, .i .i64] 26) <|
 .i (.call f_k1s [(aS 8)] [.s] 29) <|
 .i (.chk (.cmp .le (.len (.app (.v 29) (.cons (.g (.cons (aS 26) (.cons (aS 27) (.cons (.vi .i64 (.bin .sub .i64 (.v 28) (.z 1))) .nil)))) .nil))) (.z 1256584717458))) <|
 .next [(.v 25), (.bin .add .i64 (.bin .add .i64 (.v 7) (.v 14)) (.z 1)), (.app (.v 29) (.cons (.g (.cons (aS 26) (.cons (aS 27) (.cons (.vi .i64 (.bin .sub .i64 (.v 28) (.z 1))) .nil)))) .nil)), (.v 9), (.v 10), (.v 24)])
 (
 .ite (.cmp .eq (.v 12) (.z 2))
 (
 .i (.call f_k1s [(aS 9)] [.s] 21) <|
 .i (.chk (.cmp .le (.z 0) (.v 13))) <|
 .i (.chk (.cmp .lt (.v 13) (.len (.v 21)))) <|
 .i (.idx (.v 21) (.v 13) (.g [.s, .s, .i .i64]) 22) <|
 .i (.call f_k20 [(aS 22), (aS 23), (aI 24), (aS 18), (aS 19), (aI 20)] [.s, .s, .i .i64] 25) <|
 .i (.chk (.cmp .le (.z 0) (.v 13))) <|
 .i (.chk (.cmp .lt (.v 13) (.len (.v 21)))) <|
 .i (.idx (.v 21) (.v 13) (.g [.s, .s, .i .i64]) 28) <|
 .next [(.v 6), (.bin .add .i64 (.v 7) (.z 1)), (.v 8), (.set (.v 21) (.v 13) (.g (.cons (aS 25) (.cons (aS 26) (.cons (aI 27) .nil))))), (.v 10), (.v 11)])
 (
 .ite (.cmp .eq (.v 12) (.z 3))
 (
 .i (.call f_k1s [(aS 10)] [.s] 21) <|
 .i (.chk (.cmp .le (.len (.app (.v 21) (.cons (.g (.cons (aS 18) (.cons (aS 19) (.cons (aI 20) .nil)))) .nil))) (.z 1256584717458))) <|
 .next [(.v 6), (.bin .add .i64 (.v 7) (.z 1)), (.v 8), (.v 9), (.app (.v 21) (.cons (.g (.cons (aS 18) (.cons (aS 19) (.cons (aI 20) .nil)))) .nil)), (.v 11)])
 (
 .next [(.v 6), (.bin .add .i64 (.v 7) (.z 1)), (.v 8), (.v 9), (.v 10), (.v 11)])))))
 (
 .esc <|
 .i (.call f_k1s [(aS 8)] [.s] 12) <|
 .i (.call f_k1s [(aS 10)] [.s] 13) <|
 .loop 14 [.nil, (.z 0)] <|
 .ite (.cmp .lt (.v 15) (.len (.v 9)))
 (
 .i (.idx (.v 9) (.v 15) (.g [.s, .s, .i .i64]) 16) <|
 .i (.call f_k1q [(aI 15)] [.s, .s, .i .i64] 19) <|
 .i (.call f_k1z [(aS 19), (aS 20), (aI 21), (.vi .i64 (.z (-1)))] [.s, .s, .i .i64] 22) <|
 .i (.call f_k20 [(aS 16), (aS 17), (aI 18), (aS 22), (aS 23), (aI 24)] [.s, .s, .i .i64] 25) <|
 .i (.fl (.v 25)) <|
 .i (.fl (.v 26)) <|
 .i (.chk (.cmp .le (.len (.app (.v 14) (.cons (.g (.cons (aS 25) (.cons (aS 26) (.cons (aI 27) .nil)))) .nil))) (.z 1256584717458))) <|
 .next [(.app (.v 14) (.cons (.g (.cons (aS 25) (.cons (aS 26) (.cons (aI 27) .nil)))) .nil)), (.bin .add .i64 (.v 15) (.z 1))])
 (
 .esc <|
 .i (.chk (.cmp .le (.len (.app (.v 6) (.cons (.g (.cons (aS 12) (.cons (aS 14) (.cons (aS 13) (.cons (.vb .ff) .nil))))) .nil))) (.z 879609302220))) <|
 .done [(aS 11), (.s (.app (.v 6) (.cons (.g (.cons (aS 12) (.cons (aS 14) (.cons (aS 13) (.cons (.vb .ff) .nil))))) .nil)))]))

def R_k22 : R :=
 .i (.call f_kv [(aS 0)] [.b] 1) <|
 .ite (.not (.v 1))
 (
 .done [(.s .nil)])
 (
 .loop 2 [.nil, (.z 0)] <|
 .ite (.cmp .lt (.v 3) (.z 3))
 (
 .i (.call f_k1q [(aI 3)] [.s, .s, .i .i64] 4) <|
 .i (.fl (.v 4)) <|
 .i (.fl (.v 5)) <|
 .i (.chk (.cmp .le (.len (.app (.v 2) (.cons (.g (.cons (aS 4) (.cons (aS 5) (.cons (aI 6) .nil)))) .nil))) (.z 1256584717458))) <|
 .next [(.app (.v 2) (.cons (.g (.cons (aS 4) (.cons (aS 5) (.cons (aI 6) .nil)))) .nil)), (.bin .add .i64 (.v 3) (.z 1))])
 (
 .esc <|
 .i (.call f_k21 [(aS 0), (.s .nil), (aZ 0), (.s .nil), (aS 2), (.s .nil)] [.s, .s] 4) <|
 .done [(aS 5)]))

def R_k23 : R :=
 .done [(.vb (.not (.cmp .eq (.v 0) (.z 0))))]

def R_k24 : R :=
 .i (.call f_k13 [(aS 0)] [.s] 3) <|
 .i (.call f_ko [(aS 3), (.fn f_k23 .nil)] [.i .i64] 4) <|
 .ite (.cmp .le (.z 0) (.v 4))
 (
 .i (.chk (.cmp .le (.z 0) (.v 4))) <|
 .i (.chk (.cmp .lt (.v 4) (.len (.v 3)))) <|
 .i (.idx (.v 3) (.v 4) (.one (.i .i64)) 5) <|
 .ite (.cmp .lt (.v 5) (.z 0))
 (
 .loop 6 [(.v 3), (.z 0)] <|
 .ite (.cmp .lt (.v 7) (.len (.v 3)))
 (
 .i (.chk (.cmp .le (.z 0) (.v 7))) <|
 .i (.chk (.cmp .lt (.v 7) (.len (.v 6)))) <|
 .i (.idx (.v 6) (.v 7) (.one (.i .i64)) 8) <|
 .i (.chk (.cmp .le (.z 0) (.v 7))) <|
 .i (.chk (.cmp .lt (.v 7) (.len (.v 6)))) <|
 .i (.idx (.v 6) (.v 7) (.one (.i .i64)) 9) <|
 .next [(.set (.v 6) (.v 7) (.vi .i64 (.bin .sub .i64 (.z 0) (.v 8)))), (.bin .add .i64 (.v 7) (.z 1))])
 (
 .esc <|
 .done [(aS 6)]))
 (
 .done [(aS 3)]))
 (
 .done [(aS 3)])

def R_k25 : R :=
 .done [(.vb (.not (.cmp .eq (.v 0) (.z 0))))]

def R_k26 : R :=
 .i (.call f_kp [(aS 0), (.fn f_k25 .nil)] [.b] 1) <|
 .done [(.vb (.not (.v 1)))]

def R_k27 : R :=
 .i (.get (.da 1) (.q [.s]) 2) <|
 .i (.call f_ks [(aS 0), (aS 2)] [.b] 3) <|
 .done [(aB 3)]

def R_k28 : R :=
 .loop 2 [(.z 0)] <|
 .ite (.cmp .lt (.v 2) (.len (.v 0)))
 (
 .i (.idx (.v 0) (.v 2) (.one (.s)) 3) <|
 .i (.callv (.da 1) [(aS 3)] [none] [.b] 4) <|
 .ite (.v 4)
 (
 .esc <|
 .done [(aI 2)])
 (
 .next [(.bin .add .i64 (.v 2) (.z 1))]))
 (
 .esc <|
 .done [(.vi .i64 (.z (-1)))])

def R_k29 : R :=
 .i (.call f_k28 [(aS 0), (.fn f_k27 (.cons (.q (.cons (aS 1) .nil)) .nil))] [.i .i64] 2) <|
 .done [(aI 2)]

def R_k2a : R :=
 .i (.call f_kx [(aS 0)] [.b] 1) <|
 .ite (.not (.v 1))
 (
 .done [(.s .nil)])
 (
 .loop 2 [.nil, (.z 0)] <|
 .ite (.cmp .lt (.v 3) (.z 3))
 (
 .i (.call f_k1q [(aI 3)] [.s, .s, .i .i64] 4) <|
 .i (.fl (.v 4)) <|
 .i (.chk (.cmp .le (.len (.app (.v 2) (.cons (aS 4) .nil))) (.z 2932031007402))) <|
 .next [(.app (.v 2) (.cons (aS 4) .nil)), (.bin .add .i64 (.v 3) (.z 1))])
 (
 .esc <|
 .loop 4 [(.v 2), (.z 0)] <|
 .ite (.cmp .lt (.v 5) (.len (.v 0)))
 (
 .i (.idx (.v 0) (.v 5) (.one (.s)) 6) <|
 .i (.call f_k22 [(aS 6)] [.s] 7) <|
 .loop 8 [(.v 4), (.z 0)] <|
 .ite (.cmp .lt (.v 9) (.len (.v 7)))
 (
 .i (.chk (.cmp .le (.z 0) (.v 9))) <|
 .i (.chk (.cmp .lt (.v 9) (.len (.v 7)))) <|
 .i (.idx (.v 7) (.v 9) (.g [.s, .s, .s, .b]) 10) <|
 .loop 14 [(.v 8), (.z 0)] <|
 .ite (.cmp .lt (.v 15) (.len (.v 10)))
 (
 .i (.idx (.v 10) (.v 15) (.g [.s, .s, .i .i64]) 16) <|
 .i (.call f_k24 [(aS 16), (aS 17), (aI 18)] [.s] 19) <|
 .i (.call f_k26 [(aS 19)] [.b] 20) <|
 .ite (.not (.v 20))
 (
 .i (.call f_k29 [(aS 14), (aS 19)] [.i .i64] 21) <|
 .ite (.cmp .lt (.v 21) (.z 0))
 (
 .i (.fl (.v 19)) <|
 .i (.chk (.cmp .le (.len (.app (.v 14) (.cons (aS 19) .nil))) (.z 2932031007402))) <|
 .next [(.app (.v 14) (.cons (aS 19) .nil)), (.bin .add .i64 (.v 15) (.z 1))])
 (
 .next [(.v 14), (.bin .add .i64 (.v 15) (.z 1))]))
 (
 .next [(.v 14), (.bin .add .i64 (.v 15) (.z 1))]))
 (
 .esc <|
 .next [(.v 14), (.bin .add .i64 (.v 9) (.z 1))]))
 (
 .esc <|
 .next [(.v 8), (.bin .add .i64 (.v 5) (.z 1))]))
 (
 .esc <|
 .done [(aS 4)])))

def R_k2b : R :=
 .loop 2 [(.cons (.vb .ff) (.cons (.vb .ff) (.cons (.vb .ff) .nil))), (.z 0)] <|
 .ite (.cmp .lt (.v 3) (.len (.v 0)))
 (
 .i (.idx (.v 0) (.v 3) (.one (.s)) 4) <|
 .i (.call f_k22 [(aS 4)] [.s] 5) <|
 .loop 6 [(.v 2), (.z 0)] <|
 .ite (.cmp .lt (.v 7) (.len (.v 5)))
 (
 .i (.chk (.cmp .le (.z 0) (.v 7))) <|
 .i (.chk (.cmp .lt (.v 7) (.len (.v 5)))) <|
 .i (.idx (.v 5) (.v 7) (.g [.s, .s, .s, .b]) 8) <|
 .loop 12 [(.v 6), (.z 0)] <|
 .ite (.cmp .lt (.v 13) (.len (.v 6)))
 (
 .i (.chk (.cmp .le (.z 0) (.v 13))) <|
 .i (.chk (.cmp .lt (.v 13) (.len (.v 12)))) <|
 .i (.idx (.v 12) (.v 13) (.one (.b)) 14) <|
 .ite (.v 14)
 (
 .i (.chk (.cmp .le (.z 0) (.v 13))) <|
 .i (.chk (.cmp .lt (.v 13) (.len (.v 12)))) <|
 .i (.idx (.v 12) (.v 13) (.one (.b)) 15) <|
 .next [(.set (.v 12) (.v 13) (.vb .tt)), (.bin .add .i64 (.v 13) (.z 1))])
 (
 .i (.callv (.da 1) [(aS 8), (aS 9), (aS 10), (aB 11), (aI 13)] [some 4, none] [.b] 15) <|
 .i (.chk (.cmp .le (.z 0) (.v 13))) <|
 .i (.chk (.cmp .lt (.v 13) (.len (.v 12)))) <|
 .i (.idx (.v 12) (.v 13) (.one (.b)) 16) <|
 .next [(.set (.v 12) (.v 13) (aB 15)), (.bin .add .i64 (.v 13) (.z 1))]))
 (
 .esc <|
 .next [(.v 12), (.bin .add .i64 (.v 7) (.z 1))]))
 (
 .esc <|
 .next [(.v 6), (.bin .add .i64 (.v 3) (.z 1))]))
 (
 .esc <|
 .done [(aS 2)])

def R_k2c : R :=
 .ite (.cmp .lt (.v 0) (.z 0))
 (
 .i (.chk .ff) <|
 .done [])
 (
 .ite (.cmp .lt (.z 0) (.bin .sub .i64 (.v 0) (.bin .sub .i64 (.z 0) (.z 0))))
 (
 .i (.chk (.cmp .lt (.z 0) (.bin .sub .i64 (.v 0) (.bin .sub .i64 (.z 0) (.z 0))))) <|
 .i (.chk (.cmp .le (.bin .sub .i64 (.v 0) (.bin .sub .i64 (.z 0) (.z 0))) (.z 1256584717458))) <|
 .i (.chk (.cmp .le (.z 0) (.len (.rep (.bin .sub .i64 (.v 0) (.bin .sub .i64 (.z 0) (.z 0))) (.g (.cons (.s .nil) (.cons (.s .nil) (.cons (aZ 0) .nil)))))))) <|
 .done [(.s (.take (.rep (.bin .sub .i64 (.v 0) (.bin .sub .i64 (.z 0) (.z 0))) (.g (.cons (.s .nil) (.cons (.s .nil) (.cons (aZ 0) .nil))))) (.z 0)))])
 (
 .done [(.s .nil)]))

def R_k2d : R :=
 .loop 1 [(.z 0), (.z 0)] <|
 .ite (.cmp .lt (.v 2) (.len (.v 0)))
 (
 .i (.idx (.v 0) (.v 2) (.one (.s)) 3) <|
 .ite (.cmp .lt (.bin .add .i64 (.v 1) (.len (.v 3))) (.z 0))
 (
 .i (.chk .ff) <|
 .done [])
 (
 .next [(.bin .add .i64 (.v 1) (.len (.v 3))), (.bin .add .i64 (.v 2) (.z 1))]))
 (
 .esc <|
 .i (.call f_k2c [(aI 1)] [.s] 3) <|
 .loop 4 [(.v 3), (.z 0)] <|
 .ite (.cmp .lt (.v 5) (.len (.v 0)))
 (
 .i (.idx (.v 0) (.v 5) (.one (.s)) 6) <|
 .i (.chk (.cmp .le (.len (.v 6)) (.z 1256584717458))) <|
 .i (.head 3 (.v 6)) <|
 .i (.chk (.cmp .le (.len (.app (.v 4) (.v 6))) (.z 1256584717458))) <|
 .next [(.app (.v 4) (.v 6)), (.bin .add .i64 (.v 5) (.z 1))])
 (
 .esc <|
 .done [(aS 4)]))

def R_k2e : R :=
 .i (.get (.da 3) (.q [.i .i64]) 4) <|
 .i (.idx (.v 0) (.v 4) (.one (.i .i64)) 5) <|
 .done [(.vb (.not (.cmp .eq (.v 5) (.z 0))))]

def R_k2f : R :=
 .i (.call f_k2d [(.s (.cons (aS 1) (.cons (aS 2) .nil)))] [.s] 5) <|
 .i (.call f_k1u [(aS 5), (.fn f_k2e (.cons (.q (.cons (aI 4) .nil)) .nil))] [.b] 6) <|
 .done [(aB 6)]

def R_k2g : R :=
 .i (.call f_kx [(aS 0)] [.b] 1) <|
 .ite (.not (.v 1))
 (
 .done [(.s .nil)])
 (
 .i (.call f_k2b [(aS 0), (.fn f_k2f .nil)] [.s] 2) <|
 .done [(aS 2)])

def R_k2h : R :=
 .i (.call f_k2a [(aS 0)] [.s] 1) <|
 .i (.call f_k2g [(aS 0)] [.s] 2) <|
 .done [(aS 0), (aS 1), (aS 2)]

def R_k2i : R :=
 .i (.call f_kk [(aI 4), (aZ 0), (.vi .i64 (.bin .sub .i64 (.len (.v 2)) (.z 1)))] [.b] 5) <|
 .done [(aB 5)]

def R_k2j : R :=
 .i (.call f_k28 [(aS 0), (.da 1)] [.i .i64] 2) <|
 .done [(.vb (.cmp .le (.z 0) (.v 2)))]

def R_k2k : R :=
 .i (.call f_kq [(aS 0), (aZ 3), (aZ 10000000)] [.b] 1) <|
 .done [(.vb (.not (.v 1)))]

def R_k2l : R :=
 .i (.call f_k2j [(aS 0), (.fn f_k2k .nil)] [.b] 1) <|
 .done [(.vb (.not (.v 1)))]

def R_k2m : R :=
 .i (.call f_kq [(aS 0), (aZ 3), (aZ 20000)] [.b] 1) <|
 .done [(aB 1)]

def R_k2n : R :=
 .i (.call f_k11 [(aS 0), (aS 1)] [.b] 5) <|
 .ite (.v 5)
 (
 .i (.call f_k2l [(aS 2)] [.b] 6) <|
 .ite (.v 6)
 (
 .i (.call f_kk [(aI 3), (aZ 0), (.vi .i64 (.bin .sub .i64 (.len (.v 1)) (.z 1)))] [.b] 7) <|
 .ite (.v 7)
 (
 .i (.call f_k2m [(aS 4)] [.b] 8) <|
 .done [(aB 8)])
 (
 .done [(.vb .ff)]))
 (
 .done [(.vb .ff)]))
 (
 .done [(.vb .ff)])

def R_k2o : R :=
 .loop 2 [(.z 0), (.z 0)] <|
 .ite (.cmp .lt (.v 3) (.len (.v 0)))
 (
 .i (.idx (.v 0) (.v 3) (.one (.i .i64)) 4) <|
 .i (.idx (.v 1) (.v 3) (.one (.i .i64)) 5) <|
 .next [(.bin .add .i64 (.v 2) (.bin .mul .i64 (.v 4) (.v 5))), (.bin .add .i64 (.v 3) (.z 1))])
 (
 .esc <|
 .done [(aI 2)])

def R_k2p : R :=
 .i (.get (.da 1) (.q [.s]) 3) <|
 .i (.call f_k2o [(aS 0), (aS 3)] [.i .i64] 4) <|
 .i (.get (.da 2) (.q [.i .i64]) 5) <|
 .i (.get (.da 2) (.q [.i .i64]) 6) <|
 .i (.call f_kk [(aI 4), (.vi .i64 (.bin .sub .i64 (.z 0) (.v 5))), (aI 6)] [.b] 7) <|
 .done [(.vb (.not (.v 7)))]

def R_k2q : R :=
 .i (.call f_k2n [(aS 0), (aS 1), (aS 2), (aI 3), (aS 4)] [.b] 5) <|
 .ite (.not (.v 5))
 (
 .done [(.vb .ff)])
 (
 .i (.idx (.v 1) (.v 3) (.one (.i .i64)) 6) <|
 .i (.call f_k2j [(aS 2), (.fn f_k2p (.cons (.q (.cons (aS 4) .nil)) (.cons (.q (.cons (aI 6) .nil)) .nil)))] [.b] 7) <|
 .done [(.vb (.not (.v 7)))])

def R_k2r : R :=
 .loop 4 [(.z 0)] <|
 .ite (.cmp .lt (.v 4) (.len (.v 3)))
 (
 .i (.idx (.v 3) (.v 4) (.one (.i .i64)) 5) <|
 .ite (.not (.cmp .eq (.v 5) (.z 0)))
 (
 .i (.idx (.v 2) (.v 4) (.one (.b)) 6) <|
 .ite (.v 6)
 (
 .esc <|
 .done [(.vb .ff)])
 (
 .next [(.bin .add .i64 (.v 4) (.z 1))]))
 (
 .next [(.bin .add .i64 (.v 4) (.z 1))]))
 (
 .esc <|
 .done [(.vb .tt)])

def R_k2s : R :=
 .i (.call f_k2q [(aS 3), (aS 4), (aS 1), (aI 5), (aS 6)] [.b] 7) <|
 .ite (.v 7)
 (
 .i (.call f_k2r [(aS 0), (aS 1), (aS 2), (aS 6)] [.b] 8) <|
 .done [(aB 8)])
 (
 .done [(.vb .ff)])

def R_k2t : R :=
 .loop 2 [(.z 0)] <|
 .ite (.cmp .lt (.v 2) (.len (.v 0)))
 (
 .i (.idx (.v 0) (.v 2) (.g [.i .i64, .i .i64, .s]) 3) <|
 .i (.callv (.da 1) [(aI 3), (aI 4), (aS 5)] [some 3] [.b] 6) <|
 .ite (.v 6)
 (
 .esc <|
 .done [(aI 2)])
 (
 .next [(.bin .add .i64 (.v 2) (.z 1))]))
 (
 .esc <|
 .done [(.vi .i64 (.z (-1)))])

def R_k2u : R :=
 .i (.call f_k2t [(aS 0), (.da 1)] [.i .i64] 2) <|
 .done [(.vb (.cmp .le (.z 0) (.v 2)))]

def R_k2v : R :=
 .ite (.cmp .eq (.v 0) (.z 0))
 (
 .done [(.vb (.cmp .eq (.len (.v 1)) (.z 0)))])
 (
 .done [(.vb .ff)])

def R_k2w : R :=
 .done [(.s (.cons (.vc (.string (strV []))) (.cons (.vc (.string (strV [100, 111, 110, 101]))) (.cons (.vc (.string (strV [115, 116, 111, 112, 112, 101, 100]))) (.cons (.vc (.string (strV [111, 118, 101, 114]))) .nil)))))]

def R_k2y : R :=
 .i (.call f_kk [(aI 0), (aZ 1), (aZ 3)] [.b] 2) <|
 .ite (.not (.v 2))
 (
 .done [(.vc (.string (strV [])))])
 (
 .ite (.cmp .lt (.z 6) (.len (.v 1)))
 (
 .done [(.vc (.string (strV [])))])
 (
 .ite (.not (.cmp .eq (.v 0) (.z 1)))
 (
 .ite (.cmp .lt (.z 0) (.len (.v 1)))
 (
 .done [(.vc (.string (strV [])))])
 (
 .i (.call f_kq [(aS 1), (.vi .i64 (.len (.v 1))), (aZ 999999999999)] [.b] 3) <|
 .ite (.not (.v 3))
 (
 .done [(.vc (.string (strV [])))])
 (
 .i (.call f_k2w [] [.s] 4) <|
 .i (.chk (.cmp .le (.z 0) (.v 0))) <|
 .i (.chk (.cmp .lt (.v 0) (.len (.v 4)))) <|
 .i (.idx (.v 4) (.v 0) (.one (.d)) 5) <|
 .i (.call f_k2x [(aS 1)] [.d] 6) <|
 .i (.prim .cat [(.da 5), (.da 6)] (.d) 7) <|
 .done [(.da 7)])))
 (
 .i (.call f_kq [(aS 1), (.vi .i64 (.len (.v 1))), (aZ 999999999999)] [.b] 3) <|
 .ite (.not (.v 3))
 (
 .done [(.vc (.string (strV [])))])
 (
 .i (.call f_k2w [] [.s] 4) <|
 .i (.chk (.cmp .le (.z 0) (.v 0))) <|
 .i (.chk (.cmp .lt (.v 0) (.len (.v 4)))) <|
 .i (.idx (.v 4) (.v 0) (.one (.d)) 5) <|
 .i (.call f_k2x [(aS 1)] [.d] 6) <|
 .i (.prim .cat [(.da 5), (.da 6)] (.d) 7) <|
 .done [(.da 7)]))))

def R_k2z : R :=
 .i (.call f_k2y [(aI 0), (aS 1)] [.d] 2) <|
 .i (.prim .seq [(.da 2), (.vc (.string (strV [])))] (.b) 3) <|
 .done [(.vb (.not (.v 3)))]

def R_k30 : R :=
 .ite (.cmp .eq (.v 0) (.z 0))
 (
 .i (.call f_k2v [(aI 1), (aS 2)] [.b] 3) <|
 .done [(aB 3)])
 (
 .i (.call f_kk [(aI 0), (aZ 1), (aZ 300)] [.b] 3) <|
 .ite (.v 3)
 (
 .i (.call f_k2z [(aI 1), (aS 2)] [.b] 4) <|
 .done [(aB 4)])
 (
 .done [(.vb .ff)]))

def R_k31 : R :=
 .i (.call f_k30 [(aI 0), (aI 1), (aS 2)] [.b] 3) <|
 .done [(.vb (.not (.v 3)))]

def R_k32 : R :=
 .ite (.cmp .eq (.len (.v 4)) (.v 0))
 (
 .i (.call f_k2u [(aS 4), (.fn f_k31 .nil)] [.b] 5) <|
 .done [(.vb (.not (.v 5)))])
 (
 .done [(.vb .ff)])

def R_k33 : R :=
 .i (.call f_k2i [(aI 0), (aS 1), (aS 2), (aS 3), (aI 13)] [.b] 14) <|
 .ite (.v 14)
 (
 .i (.call f_kk [(aI 9), (aZ 0), (aZ 200)] [.b] 15) <|
 .ite (.v 15)
 (
 .i (.call f_k10 [(aS 10)] [.b] 16) <|
 .ite (.v 16)
 (
 .i (.call f_ky [(aI 0), (aS 1), (aS 2), (aS 3), (aS 10)] [.s, .s] 17) <|
 .i (.call f_k2s [(aS 4), (aS 5), (aS 6), (aS 17), (aS 18), (aI 13), (aS 11)] [.b] 19) <|
 .ite (.v 19)
 (
 .i (.call f_k32 [(aI 0), (aS 1), (aS 2), (aS 3), (aS 12)] [.b] 20) <|
 .done [(aB 20)])
 (
 .done [(.vb .ff)]))
 (
 .done [(.vb .ff)]))
 (
 .done [(.vb .ff)]))
 (
 .done [(.vb .ff)])

def R_k34 : R :=
 .i (.call f_k12 [(aI 0), (aS 1), (aS 2), (aS 3)] [.b] 11) <|
 .ite (.v 11)
 (
 .i (.call f_k2h [(aS 1)] [.s, .s, .s] 12) <|
 .i (.call f_k33 [(aI 0), (aS 1), (aS 2), (aS 3), (aS 12), (aS 13), (aS 14), (aB 4), (aB 5), (aI 6), (aS 7), (aS 8), (aS 9), (aI 10)] [.b] 15) <|
 .done [(aB 15)])
 (
 .done [(.vb .ff)])

def R_k35 : R :=
 .i (.call f_kk [(aI 4), (aZ 0), (.vi .i64 (.bin .sub .i64 (.v 0) (.z 1)))] [.b] 5) <|
 .done [(aB 5)]

def R_k36 : R :=
 .i (.call f_kq [(aS 0), (aZ 2), (aZ 9)] [.b] 1) <|
 .done [(aB 1)]

def R_k37 : R :=
 .i (.call f_k35 [(aI 0), (aS 1), (aS 2), (aS 3), (aI 4)] [.b] 8) <|
 .ite (.v 8)
 (
 .i (.call f_kk [(aI 6), (aZ 0), (.vi .i64 (.bin .sub .i64 (.len (.v 1)) (.z 1)))] [.b] 9) <|
 .ite (.v 9)
 (
 .i (.call f_kk [(aI 5), (aZ 1), (aZ 300)] [.b] 10) <|
 .ite (.v 10)
 (
 .i (.call f_k36 [(aS 7)] [.b] 11) <|
 .done [(aB 11)])
 (
 .done [(.vb .ff)]))
 (
 .done [(.vb .ff)]))
 (
 .done [(.vb .ff)])

def R_k38 : R :=
 .i (.call f_kk [(aI 0), (aZ 0), (aZ 300)] [.b] 1) <|
 .done [(.vb (.not (.v 1)))]

def R_k39 : R :=
 .ite (.cmp .eq (.len (.v 4)) (.v 0))
 (
 .i (.call f_kp [(aS 4), (.fn f_k38 .nil)] [.b] 5) <|
 .done [(.vb (.not (.v 5)))])
 (
 .done [(.vb .ff)])

def R_k3a : R :=
 .ite (.not (.v 0))
 (
 .ite (.cmp .eq (.len (.v 1)) (.z 0))
 (
 .done [(.vb (.cmp .eq (.len (.v 2)) (.z 0)))])
 (
 .done [(.vb .ff)]))
 (
 .done [(.vb .ff)])

def R_k3b : R :=
 .i (.call f_kk [(aI 8), (aZ 0), (aZ 200)] [.b] 13) <|
 .ite (.not (.v 13))
 (
 .done [(.vb .ff)])
 (
 .i (.call f_k10 [(aS 9)] [.b] 14) <|
 .ite (.not (.v 14))
 (
 .done [(.vb .ff)])
 (
 .i (.call f_k32 [(aI 0), (aS 1), (aS 2), (aS 3), (aS 10)] [.b] 15) <|
 .ite (.not (.v 15))
 (
 .done [(.vb .ff)])
 (
 .ite (.not (.cmp .eq (.len (.v 12)) (.len (.v 2))))
 (
 .done [(.vb .ff)])
 (
 .loop 16 [(.z 0)] <|
 .ite (.cmp .lt (.v 16) (.len (.v 11)))
 (
 .i (.idx (.v 11) (.v 16) (.g [.i .i64, .i .i64, .i .i64, .s]) 17) <|
 .i (.call f_k37 [(aI 0), (aS 1), (aS 2), (aS 3), (aI 17), (aI 18), (aI 19), (aS 20)] [.b] 21) <|
 .ite (.not (.v 21))
 (
 .esc <|
 .done [(.vb .ff)])
 (
 .ite (.cmp .lt (.z 0) (.v 16))
 (
 .i (.idx (.v 11) (.bin .sub .i64 (.v 16) (.z 1)) (.g [.i .i64, .i .i64, .i .i64, .s]) 22) <|
 .ite (.cmp .le (.v 17) (.v 22))
 (
 .esc <|
 .done [(.vb .ff)])
 (
 .ite (.not (.v 7))
 (
 .esc <|
 .done [(.vb .ff)])
 (
 .next [(.bin .add .i64 (.v 16) (.z 1))])))
 (
 .ite (.not (.v 7))
 (
 .esc <|
 .done [(.vb .ff)])
 (
 .next [(.bin .add .i64 (.v 16) (.z 1))]))))
 (
 .esc <|
 .loop 17 [(.z 0)] <|
 .ite (.cmp .lt (.v 17) (.len (.v 12)))
 (
 .i (.idx (.v 12) (.v 17) (.g [.b, .s, .s]) 18) <|
 .ite (.v 7)
 (
 .ite (.v 18)
 (
 .i (.call f_ky [(aI 0), (aS 1), (aS 2), (aS 3), (aS 9)] [.s, .s] 21) <|
 .i (.call f_k2s [(aS 4), (aS 5), (aS 6), (aS 21), (aS 22), (aI 17), (aS 19)] [.b] 23) <|
 .ite (.v 23)
 (
 .i (.call f_k39 [(aI 0), (aS 1), (aS 2), (aS 3), (aS 20)] [.b] 24) <|
 .ite (.not (.v 24))
 (
 .i (.call f_k3a [(aB 18), (aS 19), (aS 20)] [.b] 25) <|
 .ite (.not (.v 25))
 (
 .esc <|
 .done [(.vb .ff)])
 (
 .next [(.bin .add .i64 (.v 17) (.z 1))]))
 (
 .next [(.bin .add .i64 (.v 17) (.z 1))]))
 (
 .i (.call f_k3a [(aB 18), (aS 19), (aS 20)] [.b] 24) <|
 .ite (.not (.v 24))
 (
 .esc <|
 .done [(.vb .ff)])
 (
 .next [(.bin .add .i64 (.v 17) (.z 1))])))
 (
 .i (.call f_k3a [(aB 18), (aS 19), (aS 20)] [.b] 21) <|
 .ite (.not (.v 21))
 (
 .esc <|
 .done [(.vb .ff)])
 (
 .next [(.bin .add .i64 (.v 17) (.z 1))])))
 (
 .i (.call f_k3a [(aB 18), (aS 19), (aS 20)] [.b] 21) <|
 .ite (.not (.v 21))
 (
 .esc <|
 .done [(.vb .ff)])
 (
 .next [(.bin .add .i64 (.v 17) (.z 1))])))
 (
 .esc <|
 .done [(.vb .tt)]))))))

def R_k3c : R :=
 .i (.call f_k12 [(aI 0), (aS 1), (aS 2), (aS 3)] [.b] 10) <|
 .ite (.v 10)
 (
 .i (.call f_k2h [(aS 1)] [.s, .s, .s] 11) <|
 .i (.call f_k3b [(aI 0), (aS 1), (aS 2), (aS 3), (aS 11), (aS 12), (aS 13), (aB 4), (aI 5), (aS 6), (aS 7), (aS 8), (aS 9)] [.b] 14) <|
 .done [(aB 14)])
 (
 .done [(.vb .ff)])

def R_k3d : R :=
 .loop 2 [(.z 0)] <|
 .ite (.cmp .lt (.v 2) (.len (.v 0)))
 (
 .i (.idx (.v 0) (.v 2) (.g [.b, .s, .s]) 3) <|
 .i (.callv (.da 1) [(aB 3), (aS 4), (aS 5)] [some 3] [.b] 6) <|
 .ite (.v 6)
 (
 .esc <|
 .done [(aI 2)])
 (
 .next [(.bin .add .i64 (.v 2) (.z 1))]))
 (
 .esc <|
 .done [(.vi .i64 (.z (-1)))])

def R_k3e : R :=
 .i (.call f_k3d [(aS 0), (.da 1)] [.i .i64] 2) <|
 .done [(.vb (.cmp .le (.z 0) (.v 2)))]

def R_k3f : R :=
 .done [(.vb (.not (.v 0)))]

def R_k3g : R :=
 .i (.call f_k3e [(aS 5), (.fn f_k3f .nil)] [.b] 6) <|
 .done [(.vb (.not (.v 6))), (aB 0), (aI 1), (aS 2), (aS 3), (aS 4), (aS 5)]

def R_k3h : R :=
 .i (.call f_k3c [(aI 0), (aS 1), (aS 2), (aS 3), (aB 4), (aI 5), (aS 6), (aS 7), (aS 8), (aS 9)] [.b] 10) <|
 .ite (.v 10)
 (
 .i (.call f_k3g [(aB 4), (aI 5), (aS 6), (aS 7), (aS 8), (aS 9)] [.b, .b, .i .i64, .s, .s, .s, .s] 11) <|
 .done [(aB 11)])
 (
 .done [(.vb .ff)])

def R_k3i : R :=
 .ite (.cmp .lt (.z 1048576) (.len (.v 0)))
 (
 .done [(.vb .tt)])
 (
 .i (.call f_kj [(aS 0)] [.i .i64, .s, .s, .s] 1) <|
 .i (.call f_k15 [(aI 1), (aS 2), (aS 3), (aS 4)] [.b, .b, .i .i64, .s, .s, .s] 5) <|
 .i (.call f_k17 [(aI 1), (aS 2), (aS 3), (aS 4)] [.b, .i .i64, .s, .s, .s, .s] 11) <|
 .i (.call f_k1d [(aI 1), (aS 2), (aS 3), (aS 4)] [.b, .b, .i .i64, .s, .s, .s] 17) <|
 .i (.call f_k1h [(aB 5), (aB 6), (aI 7), (aS 8), (aS 9), (aS 10), (aB 17), (aB 18), (aI 19), (aS 20), (aS 21), (aS 22)] [.b] 23) <|
 .ite (.not (.v 23))
 (
 .done [(.vb .ff)])
 (
 .i (.call f_k1j [(aI 1), (aS 2), (aS 3), (aS 4)] [.b, .i .i64, .s, .s, .s, .s] 24) <|
 .i (.call f_k1m [(aB 11), (aI 12), (aS 13), (aS 14), (aS 15), (aS 16), (aB 24), (aI 25), (aS 26), (aS 27), (aS 28), (aS 29)] [.b] 30) <|
 .ite (.not (.v 30))
 (
 .done [(.vb .ff)])
 (
 .i (.call f_k1b [(aI 1), (aS 2), (aS 3), (aS 4)] [.b] 31) <|
 .ite (.not (.v 31))
 (
 .i (.call f_k1h [(aB 5), (aB 6), (aI 7), (aS 8), (aS 9), (aS 10), (.vb .ff), (.vb .ff), (aZ 0), (.s .nil), (.s .nil), (.s .nil)] [.b] 32) <|
 .ite (.v 32)
 (
 .i (.call f_k1m [(aB 11), (aI 12), (aS 13), (aS 14), (aS 15), (aS 16), (.vb .ff), (aZ 0), (.s .nil), (.s .nil), (.s .nil), (.s .nil)] [.b] 33) <|
 .ite (.v 33)
 (
 .i (.call f_k1p [] [.b] 34) <|
 .done [(aB 34)])
 (
 .done [(.vb .ff)]))
 (
 .done [(.vb .ff)]))
 (
 .i (.call f_k34 [(aI 1), (aS 2), (aS 3), (aS 4), (aB 5), (aB 6), (aI 7), (aS 8), (aS 9), (aS 10), (aZ 0)] [.b] 32) <|
 .ite (.v 32)
 (
 .i (.call f_k3c [(aI 1), (aS 2), (aS 3), (aS 4), (aB 11), (aI 12), (aS 13), (aS 14), (aS 15), (aS 16)] [.b] 33) <|
 .ite (.v 33)
 (
 .i (.call f_k1e [(aS 8), (aS 4)] [.b] 34) <|
 .ite (.v 34)
 (
 .i (.call f_k1e [(aS 13), (aS 4)] [.b] 35) <|
 .ite (.v 35)
 (
 .i (.call f_k1g [(aS 10), (aS 14)] [.b] 36) <|
 .ite (.v 36)
 (
 .ite (.cmp .eq (.bin .add .i64 (.v 7) (.v 12)) (.z 0))
 (
 .ite (.cmp .eq (.len (.v 15)) (.z 0))
 (
 .i (.call f_k3h [(aI 1), (aS 2), (aS 3), (aS 4), (aB 11), (aI 12), (aS 13), (aS 14), (aS 15), (aS 16)] [.b] 37) <|
 .done [(.vb (.not (.v 37)))])
 (
 .done [(.vb .ff)]))
 (
 .done [(.vb .ff)]))
 (
 .done [(.vb .ff)]))
 (
 .done [(.vb .ff)]))
 (
 .done [(.vb .ff)]))
 (
 .done [(.vb .ff)]))
 (
 .done [(.vb .ff)])))))
def E_k0 : Entry := ⟨.x ⟨[(.d (aS 0))], [], [.s], (.p 0 0), [(.box [(.d (aS 0)), (.d (aI 1))])], [.s, .i .i64], false⟩, .r ⟨[0, 2, 5], 0, [], [], false, [], []⟩ R_k0⟩
def E_k1 : Entry := ⟨.x ⟨[(.p 0 0), (.d (aI 2))], [(.box [(.d (aS 0)), (.d (aI 1))])], [.s, .i .i64, .i .i64], (.d (aI 0)), [(.box [(.d (aS 1)), (.d (aI 2))])], [.i .i64, .s, .i .i64], false⟩, .r ⟨[0, 1, 4, 5, 6, 24, 36], 1, [], [], false, [], []⟩ R_k1⟩
def E_k2 : Entry := ⟨.x ⟨[], [], [], (.g [(.o 0 (.v 0)), (.o 1 (.v 1)), (.d (aI 2))]), [(.arr 3 1 (.v 0) false true), (.arr 3 1 (.v 1) false true)], [.s, .s, .i .i64], false⟩, .r ⟨[0], 0, [], [], false, [], []⟩ R_k2⟩
def E_k3 : Entry := ⟨.x ⟨[(.d (aI 0)), (.d (aI 1)), (.d (aI 2))], [], [.i .i64, .i .i64, .i .i64], (.g [(.o 0 (.v 0)), (.o 1 (.v 1)), (.d (aI 2))]), [(.arr 3 1 (.v 0) false true), (.arr 3 1 (.v 1) false true)], [.s, .s, .i .i64], false⟩, .r ⟨[0, 1, 2, 6, 7], 0, [], [], false, [], []⟩ R_k3⟩
def E_k4 : Entry := ⟨.x ⟨[(.g [(.o 0 (.v 0)), (.o 1 (.v 1)), (.d (aI 2))]), (.d (aI 3)), (.d (aI 4))], [(.arr 3 1 (.v 0) false true), (.arr 3 1 (.v 1) false true)], [.s, .s, .i .i64, .i .i64, .i .i64], (.g [(.o 0 (.v 1)), (.o 1 (.v 2)), (.d (aI 0))]), [(.arr 3 1 (.v 1) false true), (.arr 3 1 (.v 2) false true)], [.i .i64, .s, .s], false⟩, .r ⟨[0, 1, 2, 3, 6], 2, [], [], false, [], []⟩ R_k4⟩
def E_k5 : Entry := ⟨.x ⟨[(.p 0 0)], [(.box [(.d (aS 0)), (.d (aI 1))])], [.s, .i .i64], (.g [(.o 1 (.v 0)), (.o 2 (.v 1)), (.d (aI 2))]), [(.box [(.d (aS 3)), (.d (aI 4))]), (.arr 3 1 (.v 0) false true), (.arr 3 1 (.v 1) false true)], [.s, .s, .i .i64, .s, .i .i64], false⟩, .r ⟨[0, 2, 3, 4, 5, 8, 21], 1, [], [(7, ⟨[5], [(0, 1), (0, 0)], [97], [], []⟩), (3, ⟨[4], [(0, 1), (0, 0)], [96], [], []⟩)], false, [], []⟩ R_k5⟩
def E_k6 : Entry := ⟨.x ⟨[(.p 0 0)], [(.box [(.d (aS 0)), (.d (aI 1))])], [.s, .i .i64], (.g [(.d (aI 0)), (.d (aI 1)), (.d (aI 2)), (.o 1 (.v 3)), (.o 2 (.v 4)), (.d (aI 5))]), [(.box [(.d (aS 6)), (.d (aI 7))]), (.arr 3 1 (.v 3) false true), (.arr 3 1 (.v 4) false true)], [.i .i64, .i .i64, .i .i64, .s, .s, .i .i64, .s, .i .i64], false⟩, .r ⟨[0, 2, 3, 5, 6, 15, 23, 30], 1, [(999999, ⟨(.cell 32 3), 900000, 3, 1, false, false⟩), (999999, ⟨(.cell 32 4), 900001, 3, 1, false, false⟩)], [], false, [], []⟩ R_k6⟩
def E_k7 : Entry := ⟨.d ⟨[(.one (.i .i64)), (.one (.i .i64)), (.one (.i .i64))], (.one (.one (.b))), true⟩, .r ⟨[0, 1, 2, 6], 0, [], [], false, [], []⟩ R_k7⟩
def E_k8 : Entry := ⟨.d ⟨[(.one (.s)), (.one (.i .i64)), (.one (.i .i64))], (.one (.one (.b))), true⟩, .r ⟨[0, 1, 2, 6, 7, 11, 15, 26], 0, [], [(4, ⟨[7], [], [], [], []⟩)], false, [], []⟩ R_k8⟩
def E_k9 : Entry := ⟨.d ⟨[(.g [.s, .s, .i .i64])], (.one (.one (.b))), true⟩, .r ⟨[0, 1, 2], 0, [], [], false, [], []⟩ R_k9⟩
def E_ka : Entry := ⟨.d ⟨[(.g [.i .i64, .i .i64, .i .i64, .s, .s, .i .i64])], (.one (.one (.b))), true⟩, .r ⟨[0, 1, 2, 4, 5, 20, 35], 0, [], [], false, [], []⟩ R_ka⟩
def E_kb : Entry := ⟨.d ⟨[(.one (.s))], (.one (.one (.b))), true⟩, .r ⟨[0, 2, 3, 4, 8, 16, 22], 0, [], [(3, ⟨[4, 3], [], [], [], []⟩)], false, [], []⟩ R_kb⟩
def E_kc : Entry := ⟨.x ⟨[(.p 0 0)], [(.box [(.d (aS 0)), (.d (aI 1))])], [.s, .i .i64], (.o 1 (.v 0)), [(.box [(.d (aS 1)), (.d (aI 2))]), (.arr 201 6 (.v 0) false true)], [.s, .s, .i .i64], false⟩, .r ⟨[0, 2, 3, 4, 5, 6, 10, 11, 27, 33, 47, 53, 67, 78], 1, [], [(16, ⟨[5], [(0, 1), (0, 0)], [992], [], []⟩)], false, [], []⟩ R_kc⟩
def E_kd : Entry := ⟨.x ⟨[(.p 0 0)], [(.box [(.d (aS 0)), (.d (aI 1))])], [.s, .i .i64], (.o 1 (.v 0)), [(.box [(.d (aS 1)), (.d (aI 2))]), (.arr 154 1 (.v 0) false true)], [.s, .s, .i .i64], false⟩, .r ⟨[0, 2, 3, 4, 10], 1, [], [(3, ⟨[4], [(0, 1), (0, 0)], [80], [], []⟩)], false, [], []⟩ R_kd⟩
def E_ke : Entry := ⟨.x ⟨[(.p 0 0)], [(.box [(.d (aS 0)), (.d (aI 1))])], [.s, .i .i64], (.g [(.d (aI 0)), (.o 1 (.v 1)), (.o 2 (.v 2)), (.o 3 (.v 3))]), [(.box [(.d (aS 4)), (.d (aI 5))]), (.arr 154 1 (.v 1) false true), (.arr 3 1 (.v 2) false true), (.arr 3 1 (.v 3) false true)], [.i .i64, .s, .s, .s, .s, .i .i64], false⟩, .r ⟨[0, 2, 3, 4, 5, 16, 30], 1, [(7, ⟨(.cell 48 3), 59, 3, 1, false, false⟩), (3, ⟨(.cell 48 2), 58, 3, 1, false, false⟩)], [(7, ⟨[5], [(0, 1), (0, 0)], [59], [], []⟩), (3, ⟨[4], [(0, 1), (0, 0)], [58], [], []⟩)], false, [], []⟩ R_ke⟩
def E_kf : Entry := ⟨.x ⟨[(.p 0 0), (.d (aI 2))], [(.box [(.d (aS 0)), (.d (aI 1))])], [.s, .i .i64, .i .i64], (.g [(.o 1 (.v 0)), (.o 2 (.v 1)), (.d (aI 2))]), [(.box [(.d (aS 3)), (.d (aI 4))]), (.arr 3 1 (.v 0) false true), (.arr 3 1 (.v 1) false true)], [.s, .s, .i .i64, .s, .i .i64], false⟩, .r ⟨[0, 1, 4, 5, 10, 24, 27, 38, 44, 51], 1, [], [], false, [], []⟩ R_kf⟩
def E_kg : Entry := ⟨.x ⟨[(.p 0 0), (.d (aI 2))], [(.box [(.d (aS 0)), (.d (aI 1))])], [.s, .i .i64, .i .i64], (.o 1 (.v 0)), [(.box [(.d (aS 1)), (.d (aI 2))]), (.arr 201 6 (.v 0) false true)], [.s, .s, .i .i64], false⟩, .r ⟨[0, 1, 4, 5, 6, 17, 24, 34, 45, 56, 67, 75, 79], 1, [], [(16, ⟨[], [], [128], [], []⟩)], false, [], []⟩ R_kg⟩
def E_kh : Entry := ⟨.x ⟨[(.p 0 0), (.d (aI 2))], [(.box [(.d (aS 0)), (.d (aI 1))])], [.s, .i .i64, .i .i64], (.o 1 (.v 0)), [(.box [(.d (aS 1)), (.d (aI 2))]), (.arr 154 1 (.v 0) false true)], [.s, .s, .i .i64], false⟩, .r ⟨[0, 1, 4, 5, 11, 14, 17, 24, 30], 1, [], [(5, ⟨[], [], [112], [], []⟩)], false, [], []⟩ R_kh⟩
def E_ki : Entry := ⟨.x ⟨[(.p 0 0), (.d (aI 2))], [(.box [(.d (aS 0)), (.d (aI 1))])], [.s, .i .i64, .i .i64], (.g [(.d (aI 0)), (.o 1 (.v 1)), (.o 2 (.v 2)), (.o 3 (.v 3))]), [(.box [(.d (aS 4)), (.d (aI 5))]), (.arr 154 1 (.v 1) false true), (.arr 3 1 (.v 2) false true), (.arr 3 1 (.v 3) false true)], [.i .i64, .s, .s, .s, .s, .i .i64], false⟩, .r ⟨[0, 1, 4, 5, 11, 14, 19, 27, 32, 44], 1, [], [], false, [], []⟩ R_ki⟩
def E_kj : Entry := ⟨.x ⟨[(.d (aS 0))], [], [.s], (.g [(.d (aI 0)), (.o 0 (.v 1)), (.o 1 (.v 2)), (.o 2 (.v 3))]), [(.arr 154 1 (.v 1) false true), (.arr 3 1 (.v 2) false true), (.arr 3 1 (.v 3) false true)], [.i .i64, .s, .s, .s], false⟩, .r ⟨[0, 2], 0, [], [], false, [], []⟩ R_kj⟩
def E_kk : Entry := ⟨.d ⟨[(.one (.i .i64)), (.one (.i .i64)), (.one (.i .i64))], (.one (.one (.b))), true⟩, .r ⟨[0, 1, 2, 6], 0, [], [], false, [], []⟩ R_kk⟩
def E_kl : Entry := ⟨.d ⟨[(.one (.s)), (.one (.d))], (.one (.one (.i .i64))), true⟩, .r ⟨[0, 1, 4, 5, 7, 8, 9, 16], 0, [], [(2, ⟨[8], [], [], [], []⟩)], false, [], []⟩ R_kl⟩
def E_km : Entry := ⟨.d ⟨[(.one (.s)), (.one (.d))], (.one (.one (.b))), true⟩, .r ⟨[0, 1, 4], 0, [], [], false, [], []⟩ R_km⟩
def E_kn : Entry := ⟨.d ⟨[(.one (.i .i64)), (.one (.d))], (.one (.one (.b))), true⟩, .r ⟨[0, 1, 3], 0, [], [], false, [], []⟩ R_kn⟩
def E_ko : Entry := ⟨.d ⟨[(.one (.s)), (.one (.d))], (.one (.one (.i .i64))), true⟩, .r ⟨[0, 1, 4, 5, 7, 8, 9, 16], 0, [], [(2, ⟨[8], [], [], [], []⟩)], false, [], []⟩ R_ko⟩
def E_kp : Entry := ⟨.d ⟨[(.one (.s)), (.one (.d))], (.one (.one (.b))), true⟩, .r ⟨[0, 1, 4], 0, [], [], false, [], []⟩ R_kp⟩
def E_kq : Entry := ⟨.d ⟨[(.one (.s)), (.one (.i .i64)), (.one (.i .i64))], (.one (.one (.b))), true⟩, .r ⟨[0, 1, 2, 5, 6], 0, [], [], false, [], []⟩ R_kq⟩
def E_kr : Entry := ⟨.d ⟨[(.g [.s, .s, .i .i64])], (.one (.one (.b))), true⟩, .r ⟨[0, 1, 2], 0, [], [], false, [], []⟩ R_kr⟩
def E_ks : Entry := ⟨.d ⟨[(.one (.s)), (.one (.s))], (.one (.one (.b))), true⟩, .r ⟨[0, 1, 4, 5, 10, 12, 13, 14, 24], 0, [], [(4, ⟨[13], [], [], [], []⟩)], false, [], []⟩ R_ks⟩
def E_kt : Entry := ⟨.d ⟨[(.g [.s, .s, .i .i64]), (.g [.s, .s, .i .i64])], (.one (.one (.b))), true⟩, .r ⟨[0, 1, 2, 3, 4], 0, [], [], false, [], []⟩ R_kt⟩
def E_ku : Entry := ⟨.d ⟨[(.g [.i .i64, .i .i64, .i .i64, .s, .s, .i .i64])], (.one (.one (.b))), true⟩, .r ⟨[0, 1, 2, 4, 5, 20, 35, 50], 0, [], [], false, [], []⟩ R_ku⟩
def E_kv : Entry := ⟨.d ⟨[(.one (.s))], (.one (.one (.b))), true⟩, .r ⟨[0, 2, 3, 5, 6, 7, 8, 9, 14, 17], 0, [], [(3, ⟨[8, 3], [], [], [], []⟩)], false, [], []⟩ R_kv⟩
def E_kw : Entry := ⟨.d ⟨[(.one (.s))], (.one (.one (.b))), true⟩, .r ⟨[0, 2], 0, [], [], false, [], []⟩ R_kw⟩
def E_kx : Entry := ⟨.d ⟨[(.one (.s))], (.one (.one (.b))), true⟩, .r ⟨[0, 2], 0, [], [], false, [], []⟩ R_kx⟩
def E_ky : Entry := ⟨.d ⟨[(.g [.i .i64, .s, .s, .s]), (.one (.s))], (.one (.g [.s, .s])), false⟩, .r ⟨[0, 1, 2, 4], 0, [], [], false, [], []⟩ R_ky⟩
def E_kz : Entry := ⟨.d ⟨[(.one (.i .i64))], (.one (.one (.b))), true⟩, .r ⟨[0, 2], 0, [], [], false, [], []⟩ R_kz⟩
def E_k10 : Entry := ⟨.d ⟨[(.one (.s))], (.one (.one (.b))), true⟩, .r ⟨[0, 2], 0, [], [], false, [], []⟩ R_k10⟩
def E_k11 : Entry := ⟨.d ⟨[(.g [.s, .s])], (.one (.one (.b))), true⟩, .r ⟨[0, 1, 2, 3], 0, [], [], false, [], []⟩ R_k11⟩
def E_k12 : Entry := ⟨.d ⟨[(.g [.i .i64, .s, .s, .s])], (.one (.one (.b))), true⟩, .r ⟨[0, 1, 2], 0, [], [], false, [], []⟩ R_k12⟩
def E_k13 : Entry := ⟨.x ⟨[(.d (aS 0))], [], [.s], (.o 0 (.v 0)), [(.arr 3 1 (.v 0) false true)], [.s], false⟩, .r ⟨[0, 2, 4], 0, [(999999, ⟨(.slot 2), 900000, 3, 1, false, false⟩)], [], false, [], []⟩ R_k13⟩
def E_k14 : Entry := ⟨.x ⟨[(.g [(.d (aI 0)), (.d (aS 1)), (.d (aS 2)), (.d (aS 3))])], [], [.i .i64, .s, .s, .s], (.g [(.d (aB 0)), (.d (aB 1)), (.d (aI 2)), (.o 0 (.v 3)), (.o 1 (.v 4)), (.o 2 (.v 5))]), [(.arr 3 1 (.v 3) false true), (.arr 3 1 (.v 4) true true), (.arr 142 3 (.v 5) true true)], [.b, .b, .i .i64, .s, .s, .s], false⟩, .r ⟨[0, 1, 2], 0, [], [], true, [], []⟩ R_k14⟩
def E_k15 : Entry := ⟨.x ⟨[(.g [(.d (aI 0)), (.d (aS 1)), (.d (aS 2)), (.d (aS 3))])], [], [.i .i64, .s, .s, .s], (.g [(.d (aB 0)), (.d (aB 1)), (.d (aI 2)), (.o 0 (.v 3)), (.o 1 (.v 4)), (.o 2 (.v 5))]), [(.arr 3 1 (.v 3) false true), (.arr 3 1 (.v 4) false true), (.arr 142 3 (.v 5) false true)], [.b, .b, .i .i64, .s, .s, .s], false⟩, .r ⟨[0, 1, 2, 5], 0, [(999999, ⟨(.cell 32 3), 900000, 3, 1, false, false⟩), (999999, ⟨(.cell 32 4), 900001, 3, 1, false, false⟩), (999999, ⟨(.cell 32 5), 900002, 142, 3, false, false⟩)], [], false, [], []⟩ R_k15⟩
def E_k16 : Entry := ⟨.x ⟨[(.g [(.d (aI 0)), (.d (aS 1)), (.d (aS 2)), (.d (aS 3))])], [], [.i .i64, .s, .s, .s], (.g [(.d (aB 0)), (.d (aI 1)), (.o 0 (.v 2)), (.o 1 (.v 3)), (.o 2 (.v 4)), (.o 3 (.v 5))]), [(.arr 3 1 (.v 2) false true), (.arr 142 3 (.v 3) true true), (.arr 38 4 (.v 4) false true), (.arr 132 3 (.v 5) true true)], [.b, .i .i64, .s, .s, .s, .s], false⟩, .r ⟨[0, 1, 2], 0, [(999999, ⟨(.cell 32 4), 900000, 38, 4, false, false⟩)], [], true, [], []⟩ R_k16⟩
def E_k17 : Entry := ⟨.x ⟨[(.g [(.d (aI 0)), (.d (aS 1)), (.d (aS 2)), (.d (aS 3))])], [], [.i .i64, .s, .s, .s], (.g [(.d (aB 0)), (.d (aI 1)), (.o 0 (.v 2)), (.o 1 (.v 3)), (.o 2 (.v 4)), (.o 3 (.v 5))]), [(.arr 3 1 (.v 2) false true), (.arr 142 3 (.v 3) false true), (.arr 38 4 (.v 4) false true), (.arr 132 3 (.v 5) false true)], [.b, .i .i64, .s, .s, .s, .s], false⟩, .r ⟨[0, 1, 2, 5], 0, [(999999, ⟨(.cell 32 2), 900000, 3, 1, false, false⟩), (999999, ⟨(.cell 32 3), 900001, 142, 3, false, false⟩), (999999, ⟨(.cell 32 4), 900002, 38, 4, false, false⟩), (999999, ⟨(.cell 32 5), 900003, 132, 3, false, false⟩)], [], false, [], []⟩ R_k17⟩
def E_k18 : Entry := ⟨.d ⟨[(.one (.s))], (.one (.one (.b))), true⟩, .r ⟨[0, 2, 3, 7, 11, 19], 0, [], [(4, ⟨[3], [], [], [], []⟩)], false, [], []⟩ R_k18⟩
def E_k19 : Entry := ⟨.d ⟨[(.one (.s))], (.one (.one (.b))), true⟩, .r ⟨[0, 2], 0, [], [], false, [], []⟩ R_k19⟩
def E_k1a : Entry := ⟨.d ⟨[(.g [.s, .s])], (.one (.one (.b))), true⟩, .r ⟨[0, 1, 2, 3, 14, 19, 28], 0, [], [(4, ⟨[3], [], [], [], []⟩)], false, [], []⟩ R_k1a⟩
def E_k1b : Entry := ⟨.d ⟨[(.g [.i .i64, .s, .s, .s])], (.one (.one (.b))), true⟩, .r ⟨[0, 1, 2], 0, [], [], false, [], []⟩ R_k1b⟩
def E_k1c : Entry := ⟨.x ⟨[(.g [(.d (aI 0)), (.d (aS 1)), (.d (aS 2)), (.d (aS 3))])], [], [.i .i64, .s, .s, .s], (.o 0 (.v 0)), [(.arr 142 3 (.v 0) false true)], [.s], false⟩, .r ⟨[0, 1, 2, 3, 4, 9], 0, [], [(3, ⟨[4], [], [80], [], []⟩)], false, [], []⟩ R_k1c⟩
def E_k1d : Entry := ⟨.x ⟨[(.g [(.d (aI 0)), (.d (aS 1)), (.d (aS 2)), (.d (aS 3))])], [], [.i .i64, .s, .s, .s], (.g [(.d (aB 0)), (.d (aB 1)), (.d (aI 2)), (.o 0 (.v 3)), (.o 1 (.v 4)), (.o 2 (.v 5))]), [(.arr 3 1 (.v 3) false true), (.arr 3 1 (.v 4) false true), (.arr 142 3 (.v 5) false true)], [.b, .b, .i .i64, .s, .s, .s], false⟩, .r ⟨[0, 1, 2, 5], 0, [(999999, ⟨(.cell 32 3), 900000, 3, 1, false, false⟩), (999999, ⟨(.cell 32 4), 900001, 3, 1, false, false⟩), (999999, ⟨(.cell 32 5), 900002, 142, 3, false, false⟩)], [], false, [], []⟩ R_k1d⟩
def E_k1e : Entry := ⟨.d ⟨[(.one (.s)), (.one (.s))], (.one (.one (.b))), true⟩, .r ⟨[0, 1, 4, 5, 10, 14, 25], 0, [], [(4, ⟨[5], [], [], [], []⟩)], false, [], []⟩ R_k1e⟩
def E_k1f : Entry := ⟨.d ⟨[(.g [.i .i64, .s]), (.g [.i .i64, .s])], (.one (.one (.b))), true⟩, .r ⟨[0, 1, 2, 3, 4], 0, [], [], false, [], []⟩ R_k1f⟩
def E_k1g : Entry := ⟨.d ⟨[(.one (.s)), (.one (.s))], (.one (.one (.b))), true⟩, .r ⟨[0, 1, 4, 5, 10, 14, 41], 0, [], [(4, ⟨[5], [], [], [], []⟩)], false, [], []⟩ R_k1g⟩
def E_k1h : Entry := ⟨.d ⟨[(.g [.b, .b, .i .i64, .s, .s, .s]), (.g [.b, .b, .i .i64, .s, .s, .s])], (.one (.one (.b))), true⟩, .r ⟨[0, 1, 2, 3, 4], 0, [], [], false, [], []⟩ R_k1h⟩
def E_k1i : Entry := ⟨.x ⟨[(.g [(.d (aI 0)), (.d (aS 1)), (.d (aS 2)), (.d (aS 3))])], [], [.i .i64, .s, .s, .s], (.o 0 (.v 0)), [(.arr 132 3 (.v 0) false true)], [.s], false⟩, .r ⟨[0, 1, 2, 3, 4, 10], 0, [], [(3, ⟨[4], [], [80], [], []⟩)], false, [], []⟩ R_k1i⟩
def E_k1j : Entry := ⟨.x ⟨[(.g [(.d (aI 0)), (.d (aS 1)), (.d (aS 2)), (.d (aS 3))])], [], [.i .i64, .s, .s, .s], (.g [(.d (aB 0)), (.d (aI 1)), (.o 0 (.v 2)), (.o 1 (.v 3)), (.o 2 (.v 4)), (.o 3 (.v 5))]), [(.arr 3 1 (.v 2) false true), (.arr 142 3 (.v 3) false true), (.arr 38 4 (.v 4) false true), (.arr 132 3 (.v 5) false true)], [.b, .i .i64, .s, .s, .s, .s], false⟩, .r ⟨[0, 1, 2, 5], 0, [(999999, ⟨(.cell 32 2), 900000, 3, 1, false, false⟩), (999999, ⟨(.cell 32 3), 900001, 142, 3, false, false⟩), (999999, ⟨(.cell 32 4), 900002, 38, 4, false, false⟩), (999999, ⟨(.cell 32 5), 900003, 132, 3, false, false⟩)], [], false, [], []⟩ R_k1j⟩
def E_k1k : Entry := ⟨.d ⟨[(.g [.i .i64, .i .i64, .i .i64, .s]), (.g [.i .i64, .i .i64, .i .i64, .s])], (.one (.one (.b))), true⟩, .r ⟨[0, 1, 2, 3, 4], 0, [], [], false, [], []⟩ R_k1k⟩
def E_k1l : Entry := ⟨.d ⟨[(.one (.s)), (.one (.s))], (.one (.one (.b))), true⟩, .r ⟨[0, 1, 4, 5, 10, 14, 26], 0, [], [(4, ⟨[5], [], [], [], []⟩)], false, [], []⟩ R_k1l⟩
def E_k1m : Entry := ⟨.d ⟨[(.g [.b, .i .i64, .s, .s, .s, .s]), (.g [.b, .i .i64, .s, .s, .s, .s])], (.one (.one (.b))), true⟩, .r ⟨[0, 1, 2, 3, 4, 5, 50, 55, 102], 0, [], [(4, ⟨[5], [], [], [], []⟩)], false, [], []⟩ R_k1m⟩
def E_k1n : Entry := ⟨.x ⟨[], [], [], (.g [(.o 0 (.v 0)), (.o 1 (.v 1)), (.d (aI 2))]), [(.arr 3 1 (.v 0) false true), (.arr 3 1 (.v 1) false true)], [.s, .s, .i .i64], false⟩, .r ⟨[0], 0, [], [], false, [], []⟩ R_k1n⟩
def E_k1o : Entry := ⟨.d ⟨[(.g [.s, .s, .i .i64])], (.one (.one (.b))), true⟩, .r ⟨[0, 1, 2], 0, [], [], false, [], []⟩ R_k1o⟩
def E_k1p : Entry := ⟨.d ⟨[], (.one (.one (.b))), true⟩, .r ⟨[0], 0, [], [], false, [], []⟩ R_k1p⟩
def E_k1q : Entry := ⟨.x ⟨[(.d (aI 0))], [], [.i .i64], (.g [(.o 0 (.v 0)), (.o 1 (.v 1)), (.d (aI 2))]), [(.arr 3 1 (.v 0) false true), (.arr 3 1 (.v 1) false true)], [.s, .s, .i .i64], false⟩, .r ⟨[0, 2, 3, 6], 0, [(999999, ⟨(.cell 32 0), 900000, 3, 1, false, false⟩), (999999, ⟨(.cell 32 1), 900001, 3, 1, false, false⟩)], [], false, [], []⟩ R_k1q⟩
def E_k1r : Entry := ⟨.x ⟨[(.g [(.d (aS 0)), (.d (aS 1)), (.d (aI 2))])], [], [.s, .s, .i .i64], (.g [(.o 0 (.v 0)), (.o 1 (.v 1)), (.d (aI 2))]), [(.arr 3 1 (.v 0) false true), (.arr 3 1 (.v 1) false true)], [.s, .s, .i .i64], false⟩, .r ⟨[0, 1, 2], 0, [], [], false, [], []⟩ R_k1r⟩
def E_k1s : Entry := ⟨.x ⟨[(.d (aS 0))], [], [.s], (.o 0 (.v 0)), [(.arr 139 3 (.v 0) true true)], [.s], false⟩, .r ⟨[0, 2, 3, 5, 6, 7, 8, 9], 0, [(3, ⟨(.slot 3), 63, 139, 3, true, false⟩)], [(3, ⟨[8], [], [63], [], []⟩)], true, [], []⟩ R_k1s⟩
def E_k1t : Entry := ⟨.d ⟨[(.one (.s)), (.one (.d))], (.one (.one (.i .i64))), true⟩, .r ⟨[0, 1, 4, 5, 7, 8, 9, 16], 0, [], [(2, ⟨[8], [], [], [], []⟩)], false, [], []⟩ R_k1t⟩
def E_k1u : Entry := ⟨.d ⟨[(.one (.s)), (.one (.d))], (.one (.one (.b))), true⟩, .r ⟨[0, 1, 4], 0, [], [], false, [], []⟩ R_k1u⟩
def E_k1v : Entry := ⟨.d ⟨[(.g [.s, .s, .i .i64])], (.one (.one (.b))), true⟩, .r ⟨[0, 1, 2], 0, [], [], false, [], []⟩ R_k1v⟩
def E_k1w : Entry := ⟨.x ⟨[(.p 0 0), (.g [(.d (aS 3)), (.d (aS 4)), (.d (aI 5))]), (.d (aI 6))], [(.box [(.o 1 (.v 0)), (.o 2 (.v 1)), (.d (aI 2))]), (.arr 3 1 (.v 0) false true), (.arr 3 1 (.v 1) false true)], [.s, .s, .i .i64, .s, .s, .i .i64, .i .i64], (.t []), [(.box [(.o 1 (.v 1)), (.o 2 (.v 2)), (.d (aI 0))]), (.arr 3 1 (.v 1) false true), (.arr 3 1 (.v 2) false true)], [.i .i64, .s, .s], false⟩, .r ⟨[0, 1, 2, 4, 6, 7, 8, 9, 11, 12, 13, 14, 32, 33, 34, 35], 3, [], [(7, ⟨[34], [], [2], [], []⟩), (2, ⟨[13], [], [1], [], []⟩)], false, [], []⟩ R_k1w⟩
def E_k1x : Entry := ⟨.x ⟨[(.g [(.o 0 (.v 0)), (.o 1 (.v 1)), (.d (aI 2))])], [(.arr 3 1 (.v 0) false true), (.arr 3 1 (.v 1) false true)], [.s, .s, .i .i64], (.g [(.o 2 (.v 0)), (.o 3 (.v 1)), (.d (aI 2))]), [.dead, .dead, (.arr 3 1 (.v 0) false true), (.arr 3 1 (.v 1) false true)], [.s, .s, .i .i64], false⟩, .r ⟨[0, 1, 2, 5], 2, [(999999, ⟨(.cell 32 0), 900000, 3, 1, false, true⟩), (999999, ⟨(.cell 32 1), 900001, 3, 1, false, true⟩), (999999, ⟨(.kill 0), 910000, 0, 0, false, false⟩), (999999, ⟨(.kill 1), 910001, 0, 0, false, false⟩)], [], false, [], []⟩ R_k1x⟩
def E_k1y : Entry := ⟨.x ⟨[(.g [(.d (aS 0)), (.d (aS 1)), (.d (aI 2))]), (.d (aS 3))], [], [.s, .s, .i .i64, .s], (.g [(.o 0 (.v 0)), (.o 1 (.v 1)), (.d (aI 2))]), [(.arr 3 1 (.v 0) false true), (.arr 3 1 (.v 1) false true)], [.s, .s, .i .i64], false⟩, .r ⟨[0, 1, 2, 4, 5, 6, 7, 19, 22, 23, 24, 25], 0, [(999999, ⟨(.cell 64 0), 900000, 3, 1, false, false⟩), (999999, ⟨(.cell 64 1), 900001, 3, 1, false, false⟩)], [(5, ⟨[24], [(80, 2)], [336, 337], [], []⟩)], false, [], []⟩ R_k1y⟩
def E_k1z : Entry := ⟨.x ⟨[(.g [(.d (aS 0)), (.d (aS 1)), (.d (aI 2))]), (.d (aI 3))], [], [.s, .s, .i .i64, .i .i64], (.g [(.o 0 (.v 0)), (.o 1 (.v 1)), (.d (aI 2))]), [(.arr 3 1 (.v 0) false true), (.arr 3 1 (.v 1) false true)], [.s, .s, .i .i64], false⟩, .r ⟨[0, 1, 2, 4, 5, 13], 0, [(999999, ⟨(.cell 64 0), 900000, 3, 1, false, false⟩), (999999, ⟨(.cell 64 1), 900001, 3, 1, false, false⟩)], [], false, [], []⟩ R_k1z⟩
def E_k20 : Entry := ⟨.x ⟨[(.g [(.d (aS 0)), (.d (aS 1)), (.d (aI 2))]), (.g [(.d (aS 3)), (.d (aS 4)), (.d (aI 5))])], [], [.s, .s, .i .i64, .s, .s, .i .i64], (.g [(.o 0 (.v 0)), (.o 1 (.v 1)), (.d (aI 2))]), [(.arr 3 1 (.v 0) false true), (.arr 3 1 (.v 1) false true)], [.s, .s, .i .i64], false⟩, .r ⟨[0, 1, 2, 3, 4, 5, 13], 0, [(999999, ⟨(.cell 64 0), 900000, 3, 1, false, false⟩), (999999, ⟨(.cell 64 1), 900001, 3, 1, false, false⟩)], [], false, [], []⟩ R_k20⟩
def E_k21 : Entry := ⟨.x ⟨[(.p 0 0), (.d (aI 2)), (.d (aS 3)), (.d (aS 4)), (.d (aS 5))], [(.box [(.d (aS 0)), (.o 1 (.v 1))]), (.arr 169 4 (.v 1) true true)], [.s, .s, .i .i64, .s, .s, .s], (.t []), [(.box [(.d (aS 0)), (.o 1 (.v 1))]), (.arr 169 4 (.v 1) true true)], [.s, .s], false⟩, .r ⟨[0, 1, 2, 3, 4, 10, 11, 12, 13, 14, 15, 22, 34, 52, 53, 83, 98, 110, 111, 112, 113], 2, [(20, ⟨(.cell 208 1), 217, 139, 3, true, false⟩)], [(20, ⟨[112], [], [217], [], []⟩), (0, ⟨[1, 4, 3, 2], [(0, 0)], [1], [], []⟩)], true, [50, 59, 61, 62, 64, 66, 67, 69, 75, 77, 78, 86, 96, 101, 103, 104, 121, 122, 123], []⟩ R_k21⟩
def E_k22 : Entry := ⟨.x ⟨[(.d (aS 0))], [], [.s], (.o 0 (.v 0)), [(.arr 169 4 (.v 0) true true)], [.s], false⟩, .r ⟨[0, 2, 3, 4, 5, 8, 12, 13], 0, [(10, ⟨(.cell 176 1), 185, 169, 4, true, false⟩), (6, ⟨(.slot 4), 79, 139, 3, true, false⟩), (999999, ⟨(.slot 2), 900000, 169, 4, true, false⟩)], [(6, ⟨[12], [], [79], [], []⟩)], true, [], []⟩ R_k22⟩
def E_k23 : Entry := ⟨.d ⟨[(.one (.i .i64))], (.one (.one (.b))), true⟩, .r ⟨[0, 2], 0, [], [], false, [], []⟩ R_k23⟩
def E_k24 : Entry := ⟨.x ⟨[(.g [(.d (aS 0)), (.d (aS 1)), (.d (aI 2))])], [], [.s, .s, .i .i64], (.o 0 (.v 0)), [(.arr 3 1 (.v 0) false true)], [.s], false⟩, .r ⟨[0, 1, 2, 3, 4, 5, 19, 21, 22, 23], 0, [], [(5, ⟨[22], [], [128], [], []⟩)], false, [], []⟩ R_k24⟩
def E_k25 : Entry := ⟨.d ⟨[(.one (.i .i64))], (.one (.one (.b))), true⟩, .r ⟨[0, 2], 0, [], [], false, [], []⟩ R_k25⟩
def E_k26 : Entry := ⟨.d ⟨[(.one (.s))], (.one (.one (.b))), true⟩, .r ⟨[0, 2], 0, [], [], false, [], []⟩ R_k26⟩
def E_k27 : Entry := ⟨.d ⟨[(.one (.s)), (.one (.d))], (.one (.one (.b))), true⟩, .r ⟨[0, 1, 3], 0, [], [], false, [], []⟩ R_k27⟩
def E_k28 : Entry := ⟨.d ⟨[(.one (.s)), (.one (.d))], (.one (.one (.i .i64))), true⟩, .r ⟨[0, 1, 4, 5, 7, 8, 9, 16], 0, [], [(2, ⟨[8], [], [], [], []⟩)], false, [], []⟩ R_k28⟩
def E_k29 : Entry := ⟨.d ⟨[(.one (.s)), (.one (.s))], (.one (.one (.i .i64))), true⟩, .r ⟨[0, 1, 3, 4], 0, [], [], false, [], []⟩ R_k29⟩
def E_k2a : Entry := ⟨.x ⟨[(.d (aS 0))], [], [.s], (.o 0 (.v 0)), [(.arr 23 1 (.v 0) true true)], [.s], false⟩, .r ⟨[0, 2, 3, 4, 6, 8, 10, 11, 14, 15, 16, 25, 26, 27, 28, 32, 33, 34, 35, 39, 40, 41, 42, 55], 0, [(5, ⟨(.slot 3), 63, 23, 1, true, false⟩), (999999, ⟨(.slot 2), 900000, 23, 1, true, false⟩)], [(10, ⟨[27], [], [63], [], []⟩), (13, ⟨[34], [], [63], [], []⟩), (16, ⟨[41], [], [63], [], []⟩), (5, ⟨[15], [], [63], [], []⟩)], true, [32], []⟩ R_k2a⟩
def E_k2b : Entry := ⟨.x ⟨[(.d (aS 0)), (.d (.da 1))], [], [.s, .d], (.o 0 (.v 0)), [(.arr 4 1 (.v 0) false true)], [.s], false⟩, .r ⟨[0, 1, 4, 5, 7, 9, 10, 12, 13, 14, 15, 19, 20, 21, 22, 26, 27, 28], 0, [], [(3, ⟨[14], [], [176], [], []⟩), (6, ⟨[21], [], [176], [], []⟩), (9, ⟨[27], [], [176], [], []⟩)], false, [], []⟩ R_k2b⟩
def E_k2c : Entry := ⟨.x ⟨[(.d (.vc (.slice none 0 0))), (.d (aI 0))], [], [.i .i64], (.o 0 (.v 0)), [(.arr 139 3 (.v 0) false true)], [.s], false⟩, .r ⟨[0, 1, 4, 6, 16], 0, [(999999, ⟨(.slot 4), 900000, 139, 3, false, false⟩)], [], false, [], []⟩ R_k2c⟩
def E_k2d : Entry := ⟨.x ⟨[(.d (aS 0))], [], [.s], (.o 0 (.v 0)), [(.arr 139 3 (.v 0) false true)], [.s], false⟩, .r ⟨[0, 2, 3, 5, 6, 8, 9, 10, 11, 12, 20, 25, 26, 27, 28], 0, [], [(11, ⟨[27], [], [384], [], []⟩), (3, ⟨[11, 3], [], [], [], []⟩)], false, [], []⟩ R_k2d⟩
def E_k2e : Entry := ⟨.d ⟨[(.g [.s, .s, .i .i64]), (.one (.d))], (.one (.one (.b))), true⟩, .r ⟨[0, 1, 2, 3], 0, [], [], false, [], []⟩ R_k2e⟩
def E_k2f : Entry := ⟨.d ⟨[(.g [.s, .s, .s, .b]), (.one (.i .i64))], (.one (.one (.b))), true⟩, .r ⟨[0, 1, 2, 3, 4], 0, [], [], false, [], []⟩ R_k2f⟩
def E_k2g : Entry := ⟨.x ⟨[(.d (aS 0))], [], [.s], (.o 0 (.v 0)), [(.arr 4 1 (.v 0) false true)], [.s], false⟩, .r ⟨[0, 2, 5], 0, [(999999, ⟨(.slot 2), 900000, 4, 1, false, false⟩)], [], false, [], []⟩ R_k2g⟩
def E_k2h : Entry := ⟨.x ⟨[(.d (aS 0))], [], [.s], (.g [(.d (aS 0)), (.o 0 (.v 1)), (.o 1 (.v 2))]), [(.arr 23 1 (.v 1) false true), (.arr 4 1 (.v 2) false true)], [.s, .s, .s], false⟩, .r ⟨[0, 2], 0, [], [], false, [], []⟩ R_k2h⟩
def E_k2i : Entry := ⟨.d ⟨[(.g [.i .i64, .s, .s, .s]), (.one (.i .i64))], (.one (.one (.b))), true⟩, .r ⟨[0, 1, 2, 4], 0, [], [], false, [], []⟩ R_k2i⟩
def E_k2j : Entry := ⟨.d ⟨[(.one (.s)), (.one (.d))], (.one (.one (.b))), true⟩, .r ⟨[0, 1, 4], 0, [], [], false, [], []⟩ R_k2j⟩
def E_k2k : Entry := ⟨.d ⟨[(.one (.s))], (.one (.one (.b))), true⟩, .r ⟨[0, 2], 0, [], [], false, [], []⟩ R_k2k⟩
def E_k2l : Entry := ⟨.d ⟨[(.one (.s))], (.one (.one (.b))), true⟩, .r ⟨[0, 2], 0, [], [], false, [], []⟩ R_k2l⟩
def E_k2m : Entry := ⟨.d ⟨[(.one (.s))], (.one (.one (.b))), true⟩, .r ⟨[0, 2], 0, [], [], false, [], []⟩ R_k2m⟩
def E_k2n : Entry := ⟨.d ⟨[(.g [.s, .s]), (.one (.s)), (.one (.i .i64)), (.one (.s))], (.one (.one (.b))), true⟩, .r ⟨[0, 1, 2, 3, 4, 8], 0, [], [], false, [], []⟩ R_k2n⟩
def E_k2o : Entry := ⟨.d ⟨[(.one (.s)), (.one (.s))], (.one (.one (.i .i64))), true⟩, .r ⟨[0, 1, 4, 5, 6, 7, 8, 9, 10, 11], 0, [], [(3, ⟨[10, 5], [], [], [], []⟩)], false, [], []⟩ R_k2o⟩
def E_k2p : Entry := ⟨.d ⟨[(.one (.s)), (.one (.d)), (.one (.d))], (.one (.one (.b))), true⟩, .r ⟨[0, 1, 2, 4], 0, [], [], false, [], []⟩ R_k2p⟩
def E_k2q : Entry := ⟨.d ⟨[(.g [.s, .s]), (.one (.s)), (.one (.i .i64)), (.one (.s))], (.one (.one (.b))), true⟩, .r ⟨[0, 1, 2, 3, 4, 7, 8, 9, 15], 0, [], [], false, [], []⟩ R_k2q⟩
def E_k2r : Entry := ⟨.d ⟨[(.g [.s, .s, .s]), (.one (.s))], (.one (.one (.b))), true⟩, .r ⟨[0, 1, 2, 4, 5, 6, 7, 8, 9, 10, 22], 0, [], [(2, ⟨[9], [], [], [], []⟩)], false, [], []⟩ R_k2r⟩
def E_k2s : Entry := ⟨.d ⟨[(.g [.s, .s, .s]), (.g [.s, .s]), (.one (.i .i64)), (.one (.s))], (.one (.one (.b))), true⟩, .r ⟨[0, 1, 2, 3, 4, 5, 8], 0, [], [], false, [], []⟩ R_k2s⟩
def E_k2t : Entry := ⟨.d ⟨[(.one (.s)), (.one (.d))], (.one (.one (.i .i64))), true⟩, .r ⟨[0, 1, 4, 5, 7, 8, 9, 16], 0, [], [(2, ⟨[8], [], [], [], []⟩)], false, [], []⟩ R_k2t⟩
def E_k2u : Entry := ⟨.d ⟨[(.one (.s)), (.one (.d))], (.one (.one (.b))), true⟩, .r ⟨[0, 1, 4], 0, [], [], false, [], []⟩ R_k2u⟩
def E_k2v : Entry := ⟨.d ⟨[(.g [.i .i64, .s])], (.one (.one (.b))), true⟩, .r ⟨[0, 1, 2], 0, [], [], false, [], []⟩ R_k2v⟩
def E_k2w : Entry := ⟨.x ⟨[], [], [], (.o 0 (.v 0)), [(.arr 9 1 (.v 0) false true)], [.s], false⟩, .r ⟨[0], 0, [], [], false, [], []⟩ R_k2w⟩
def E_k2x : Entry := ⟨.d ⟨[(.one (.s))], (.one (.one (.d))), false⟩, .m joinedF⟩
def E_k2y : Entry := ⟨.d ⟨[(.g [.i .i64, .s])], (.one (.one (.d))), false⟩, .r ⟨[0, 1, 2, 32], 0, [], [], false, [], []⟩ R_k2y⟩
def E_k2z : Entry := ⟨.d ⟨[(.g [.i .i64, .s])], (.one (.one (.b))), true⟩, .r ⟨[0, 1, 2], 0, [], [], false, [], []⟩ R_k2z⟩
def E_k30 : Entry := ⟨.d ⟨[(.g [.i .i64, .i .i64, .s])], (.one (.one (.b))), true⟩, .r ⟨[0, 1, 2, 5], 0, [], [], false, [], []⟩ R_k30⟩
def E_k31 : Entry := ⟨.d ⟨[(.g [.i .i64, .i .i64, .s])], (.one (.one (.b))), true⟩, .r ⟨[0, 1, 2], 0, [], [], false, [], []⟩ R_k31⟩
def E_k32 : Entry := ⟨.d ⟨[(.g [.i .i64, .s, .s, .s]), (.one (.s))], (.one (.one (.b))), true⟩, .r ⟨[0, 1, 2, 4], 0, [], [], false, [], []⟩ R_k32⟩
def E_k33 : Entry := ⟨.d ⟨[(.g [.i .i64, .s, .s, .s]), (.g [.s, .s, .s]), (.g [.b, .b, .i .i64, .s, .s, .s]), (.one (.i .i64))], (.one (.one (.b))), true⟩, .r ⟨[0, 1, 2, 3, 4, 5, 6, 8], 0, [], [], false, [], []⟩ R_k33⟩
def E_k34 : Entry := ⟨.d ⟨[(.g [.i .i64, .s, .s, .s]), (.g [.b, .b, .i .i64, .s, .s, .s]), (.one (.i .i64))], (.one (.one (.b))), true⟩, .r ⟨[0, 1, 2, 3, 4, 6], 0, [], [], false, [], []⟩ R_k34⟩
def E_k35 : Entry := ⟨.d ⟨[(.g [.i .i64, .s, .s, .s]), (.one (.i .i64))], (.one (.one (.b))), true⟩, .r ⟨[0, 1, 2, 4], 0, [], [], false, [], []⟩ R_k35⟩
def E_k36 : Entry := ⟨.d ⟨[(.one (.s))], (.one (.one (.b))), true⟩, .r ⟨[0, 2], 0, [], [], false, [], []⟩ R_k36⟩
def E_k37 : Entry := ⟨.d ⟨[(.g [.i .i64, .s, .s, .s]), (.g [.i .i64, .i .i64, .i .i64, .s])], (.one (.one (.b))), true⟩, .r ⟨[0, 1, 2, 3, 4], 0, [], [], false, [], []⟩ R_k37⟩
def E_k38 : Entry := ⟨.d ⟨[(.one (.i .i64))], (.one (.one (.b))), true⟩, .r ⟨[0, 2], 0, [], [], false, [], []⟩ R_k38⟩
def E_k39 : Entry := ⟨.d ⟨[(.g [.i .i64, .s, .s, .s]), (.one (.s))], (.one (.one (.b))), true⟩, .r ⟨[0, 1, 2, 4], 0, [], [], false, [], []⟩ R_k39⟩
def E_k3a : Entry := ⟨.d ⟨[(.g [.b, .s, .s])], (.one (.one (.b))), true⟩, .r ⟨[0, 1, 2], 0, [], [], false, [], []⟩ R_k3a⟩
def E_k3b : Entry := ⟨.d ⟨[(.g [.i .i64, .s, .s, .s]), (.g [.s, .s, .s]), (.g [.b, .i .i64, .s, .s, .s, .s])], (.one (.one (.b))), true⟩, .r ⟨[0, 1, 2, 3, 4, 5, 6, 7, 8, 9, 10, 11, 37, 39, 40, 41, 42, 70, 73, 74, 75, 76, 109], 0, [], [(10, ⟨[75], [], [], [], []⟩), (4, ⟨[41], [], [], [], []⟩)], false, [], []⟩ R_k3b⟩
def E_k3c : Entry := ⟨.d ⟨[(.g [.i .i64, .s, .s, .s]), (.g [.b, .i .i64, .s, .s, .s, .s])], (.one (.one (.b))), true⟩, .r ⟨[0, 1, 2, 3, 4], 0, [], [], false, [], []⟩ R_k3c⟩
def E_k3d : Entry := ⟨.d ⟨[(.one (.s)), (.one (.d))], (.one (.one (.i .i64))), true⟩, .r ⟨[0, 1, 4, 5, 7, 8, 9, 16], 0, [], [(2, ⟨[8], [], [], [], []⟩)], false, [], []⟩ R_k3d⟩
def E_k3e : Entry := ⟨.d ⟨[(.one (.s)), (.one (.d))], (.one (.one (.b))), true⟩, .r ⟨[0, 1, 4], 0, [], [], false, [], []⟩ R_k3e⟩
def E_k3f : Entry := ⟨.d ⟨[(.g [.b, .s, .s])], (.one (.one (.b))), true⟩, .r ⟨[0, 1, 2], 0, [], [], false, [], []⟩ R_k3f⟩
def E_k3g : Entry := ⟨.x ⟨[(.p 0 0)], [(.box [(.d (aB 0)), (.d (aI 1)), (.d (aS 2)), (.d (aS 3)), (.d (aS 4)), (.d (aS 5))])], [.b, .i .i64, .s, .s, .s, .s], (.d (aB 0)), [(.box [(.d (aB 1)), (.d (aI 2)), (.d (aS 3)), (.d (aS 4)), (.d (aS 5)), (.d (aS 6))])], [.b, .b, .i .i64, .s, .s, .s, .s], false⟩, .r ⟨[0, 2], 1, [], [], false, [], []⟩ R_k3g⟩
def E_k3h : Entry := ⟨.d ⟨[(.g [.i .i64, .s, .s, .s]), (.g [.b, .i .i64, .s, .s, .s, .s])], (.one (.one (.b))), true⟩, .r ⟨[0, 1, 2, 3, 4], 0, [], [], false, [], []⟩ R_k3h⟩
def E_k3i : Entry := ⟨.d ⟨[(.one (.s))], (.one (.one (.b))), true⟩, .r ⟨[0, 2, 3, 4, 5, 8, 26, 29], 0, [], [], false, [], []⟩ R_k3i⟩
def L : Tabl := [(f_k0, E_k0), (f_k1, E_k1), (f_k2, E_k2), (f_k3, E_k3), (f_k4, E_k4), (f_k5, E_k5), (f_k6, E_k6), (f_k7, E_k7), (f_k8, E_k8), (f_k9, E_k9), (f_ka, E_ka), (f_kb, E_kb), (f_kc, E_kc), (f_kd, E_kd), (f_ke, E_ke), (f_kf, E_kf), (f_kg, E_kg), (f_kh, E_kh), (f_ki, E_ki), (f_kj, E_kj), (f_kk, E_kk), (f_kl, E_kl), (f_km, E_km), (f_kn, E_kn), (f_ko, E_ko), (f_kp, E_kp), (f_kq, E_kq), (f_kr, E_kr), (f_ks, E_ks), (f_kt, E_kt), (f_ku, E_ku), (f_kv, E_kv), (f_kw, E_kw), (f_kx, E_kx), (f_ky, E_ky), (f_kz, E_kz), (f_k10, E_k10), (f_k11, E_k11), (f_k12, E_k12), (f_k13, E_k13), (f_k14, E_k14), (f_k15, E_k15), (f_k16, E_k16), (f_k17, E_k17), (f_k18, E_k18), (f_k19, E_k19), (f_k1a, E_k1a), (f_k1b, E_k1b), (f_k1c, E_k1c), (f_k1d, E_k1d), (f_k1e, E_k1e), (f_k1f, E_k1f), (f_k1g, E_k1g), (f_k1h, E_k1h), (f_k1i, E_k1i), (f_k1j, E_k1j), (f_k1k, E_k1k), (f_k1l, E_k1l), (f_k1m, E_k1m), (f_k1n, E_k1n), (f_k1o, E_k1o), (f_k1p, E_k1p), (f_k1q, E_k1q), (f_k1r, E_k1r), (f_k1s, E_k1s), (f_k1t, E_k1t), (f_k1u, E_k1u), (f_k1v, E_k1v), (f_k1w, E_k1w), (f_k1x, E_k1x), (f_k1y, E_k1y), (f_k1z, E_k1z), (f_k20, E_k20), (f_k21, E_k21), (f_k22, E_k22), (f_k23, E_k23), (f_k24, E_k24), (f_k25, E_k25), (f_k26, E_k26), (f_k27, E_k27), (f_k28, E_k28), (f_k29, E_k29), (f_k2a, E_k2a), (f_k2b, E_k2b), (f_k2c, E_k2c), (f_k2d, E_k2d), (f_k2e, E_k2e), (f_k2f, E_k2f), (f_k2g, E_k2g), (f_k2h, E_k2h), (f_k2i, E_k2i), (f_k2j, E_k2j), (f_k2k, E_k2k), (f_k2l, E_k2l), (f_k2m, E_k2m), (f_k2n, E_k2n), (f_k2o, E_k2o), (f_k2p, E_k2p), (f_k2q, E_k2q), (f_k2r, E_k2r), (f_k2s, E_k2s), (f_k2t, E_k2t), (f_k2u, E_k2u), (f_k2v, E_k2v), (f_k2w, E_k2w), (f_k2x, E_k2x), (f_k2y, E_k2y), (f_k2z, E_k2z), (f_k30, E_k30), (f_k31, E_k31), (f_k32, E_k32), (f_k33, E_k33), (f_k34, E_k34), (f_k35, E_k35), (f_k36, E_k36), (f_k37, E_k37), (f_k38, E_k38), (f_k39, E_k39), (f_k3a, E_k3a), (f_k3b, E_k3b), (f_k3c, E_k3c), (f_k3d, E_k3d), (f_k3e, E_k3e), (f_k3f, E_k3f), (f_k3g, E_k3g), (f_k3h, E_k3h), (f_k3i, E_k3i)]
set_option maxRecDepth 100000
theorem L_k0 : L.lookup f_k0 = some E_k0 := rfl
theorem L_k1 : L.lookup f_k1 = some E_k1 := rfl
theorem L_k2 : L.lookup f_k2 = some E_k2 := rfl
theorem L_k3 : L.lookup f_k3 = some E_k3 := rfl
theorem L_k4 : L.lookup f_k4 = some E_k4 := rfl
theorem L_k5 : L.lookup f_k5 = some E_k5 := rfl
theorem L_k6 : L.lookup f_k6 = some E_k6 := rfl
theorem L_k7 : L.lookup f_k7 = some E_k7 := rfl
theorem L_k8 : L.lookup f_k8 = some E_k8 := rfl
theorem L_k9 : L.lookup f_k9 = some E_k9 := rfl
theorem L_ka : L.lookup f_ka = some E_ka := rfl
theorem L_kb : L.lookup f_kb = some E_kb := rfl
theorem L_kc : L.lookup f_kc = some E_kc := rfl
theorem L_kd : L.lookup f_kd = some E_kd := rfl
theorem L_ke : L.lookup f_ke = some E_ke := rfl
theorem L_kf : L.lookup f_kf = some E_kf := rfl
theorem L_kg : L.lookup f_kg = some E_kg := rfl
theorem L_kh : L.lookup f_kh = some E_kh := rfl
theorem L_ki : L.lookup f_ki = some E_ki := rfl
theorem L_kj : L.lookup f_kj = some E_kj := rfl
theorem L_kk : L.lookup f_kk = some E_kk := rfl
theorem L_kl : L.lookup f_kl = some E_kl := rfl
theorem L_km : L.lookup f_km = some E_km := rfl
theorem L_kn : L.lookup f_kn = some E_kn := rfl
theorem L_ko : L.lookup f_ko = some E_ko := rfl
theorem L_kp : L.lookup f_kp = some E_kp := rfl
theorem L_kq : L.lookup f_kq = some E_kq := rfl
theorem L_kr : L.lookup f_kr = some E_kr := rfl
theorem L_ks : L.lookup f_ks = some E_ks := rfl
theorem L_kt : L.lookup f_kt = some E_kt := rfl
theorem L_ku : L.lookup f_ku = some E_ku := rfl
theorem L_kv : L.lookup f_kv = some E_kv := rfl
theorem L_kw : L.lookup f_kw = some E_kw := rfl
theorem L_kx : L.lookup f_kx = some E_kx := rfl
theorem L_ky : L.lookup f_ky = some E_ky := rfl
theorem L_kz : L.lookup f_kz = some E_kz := rfl
theorem L_k10 : L.lookup f_k10 = some E_k10 := rfl
theorem L_k11 : L.lookup f_k11 = some E_k11 := rfl
theorem L_k12 : L.lookup f_k12 = some E_k12 := rfl
theorem L_k13 : L.lookup f_k13 = some E_k13 := rfl
theorem L_k14 : L.lookup f_k14 = some E_k14 := rfl
theorem L_k15 : L.lookup f_k15 = some E_k15 := rfl
theorem L_k16 : L.lookup f_k16 = some E_k16 := rfl
theorem L_k17 : L.lookup f_k17 = some E_k17 := rfl
theorem L_k18 : L.lookup f_k18 = some E_k18 := rfl
theorem L_k19 : L.lookup f_k19 = some E_k19 := rfl
theorem L_k1a : L.lookup f_k1a = some E_k1a := rfl
theorem L_k1b : L.lookup f_k1b = some E_k1b := rfl
theorem L_k1c : L.lookup f_k1c = some E_k1c := rfl
theorem L_k1d : L.lookup f_k1d = some E_k1d := rfl
theorem L_k1e : L.lookup f_k1e = some E_k1e := rfl
theorem L_k1f : L.lookup f_k1f = some E_k1f := rfl
theorem L_k1g : L.lookup f_k1g = some E_k1g := rfl
theorem L_k1h : L.lookup f_k1h = some E_k1h := rfl
theorem L_k1i : L.lookup f_k1i = some E_k1i := rfl
theorem L_k1j : L.lookup f_k1j = some E_k1j := rfl
theorem L_k1k : L.lookup f_k1k = some E_k1k := rfl
theorem L_k1l : L.lookup f_k1l = some E_k1l := rfl
theorem L_k1m : L.lookup f_k1m = some E_k1m := rfl
theorem L_k1n : L.lookup f_k1n = some E_k1n := rfl
theorem L_k1o : L.lookup f_k1o = some E_k1o := rfl
theorem L_k1p : L.lookup f_k1p = some E_k1p := rfl
theorem L_k1q : L.lookup f_k1q = some E_k1q := rfl
theorem L_k1r : L.lookup f_k1r = some E_k1r := rfl
theorem L_k1s : L.lookup f_k1s = some E_k1s := rfl
theorem L_k1t : L.lookup f_k1t = some E_k1t := rfl
theorem L_k1u : L.lookup f_k1u = some E_k1u := rfl
theorem L_k1v : L.lookup f_k1v = some E_k1v := rfl
theorem L_k1w : L.lookup f_k1w = some E_k1w := rfl
theorem L_k1x : L.lookup f_k1x = some E_k1x := rfl
theorem L_k1y : L.lookup f_k1y = some E_k1y := rfl
theorem L_k1z : L.lookup f_k1z = some E_k1z := rfl
theorem L_k20 : L.lookup f_k20 = some E_k20 := rfl
theorem L_k21 : L.lookup f_k21 = some E_k21 := rfl
theorem L_k22 : L.lookup f_k22 = some E_k22 := rfl
theorem L_k23 : L.lookup f_k23 = some E_k23 := rfl
theorem L_k24 : L.lookup f_k24 = some E_k24 := rfl
theorem L_k25 : L.lookup f_k25 = some E_k25 := rfl
theorem L_k26 : L.lookup f_k26 = some E_k26 := rfl
theorem L_k27 : L.lookup f_k27 = some E_k27 := rfl
theorem L_k28 : L.lookup f_k28 = some E_k28 := rfl
theorem L_k29 : L.lookup f_k29 = some E_k29 := rfl
theorem L_k2a : L.lookup f_k2a = some E_k2a := rfl
theorem L_k2b : L.lookup f_k2b = some E_k2b := rfl
theorem L_k2c : L.lookup f_k2c = some E_k2c := rfl
theorem L_k2d : L.lookup f_k2d = some E_k2d := rfl
theorem L_k2e : L.lookup f_k2e = some E_k2e := rfl
theorem L_k2f : L.lookup f_k2f = some E_k2f := rfl
theorem L_k2g : L.lookup f_k2g = some E_k2g := rfl
theorem L_k2h : L.lookup f_k2h = some E_k2h := rfl
theorem L_k2i : L.lookup f_k2i = some E_k2i := rfl
theorem L_k2j : L.lookup f_k2j = some E_k2j := rfl
theorem L_k2k : L.lookup f_k2k = some E_k2k := rfl
theorem L_k2l : L.lookup f_k2l = some E_k2l := rfl
theorem L_k2m : L.lookup f_k2m = some E_k2m := rfl
theorem L_k2n : L.lookup f_k2n = some E_k2n := rfl
theorem L_k2o : L.lookup f_k2o = some E_k2o := rfl
theorem L_k2p : L.lookup f_k2p = some E_k2p := rfl
theorem L_k2q : L.lookup f_k2q = some E_k2q := rfl
theorem L_k2r : L.lookup f_k2r = some E_k2r := rfl
theorem L_k2s : L.lookup f_k2s = some E_k2s := rfl
theorem L_k2t : L.lookup f_k2t = some E_k2t := rfl
theorem L_k2u : L.lookup f_k2u = some E_k2u := rfl
theorem L_k2v : L.lookup f_k2v = some E_k2v := rfl
theorem L_k2w : L.lookup f_k2w = some E_k2w := rfl
theorem L_k2x : L.lookup f_k2x = some E_k2x := rfl
theorem L_k2y : L.lookup f_k2y = some E_k2y := rfl
theorem L_k2z : L.lookup f_k2z = some E_k2z := rfl
theorem L_k30 : L.lookup f_k30 = some E_k30 := rfl
theorem L_k31 : L.lookup f_k31 = some E_k31 := rfl
theorem L_k32 : L.lookup f_k32 = some E_k32 := rfl
theorem L_k33 : L.lookup f_k33 = some E_k33 := rfl
theorem L_k34 : L.lookup f_k34 = some E_k34 := rfl
theorem L_k35 : L.lookup f_k35 = some E_k35 := rfl
theorem L_k36 : L.lookup f_k36 = some E_k36 := rfl
theorem L_k37 : L.lookup f_k37 = some E_k37 := rfl
theorem L_k38 : L.lookup f_k38 = some E_k38 := rfl
theorem L_k39 : L.lookup f_k39 = some E_k39 := rfl
theorem L_k3a : L.lookup f_k3a = some E_k3a := rfl
theorem L_k3b : L.lookup f_k3b = some E_k3b := rfl
theorem L_k3c : L.lookup f_k3c = some E_k3c := rfl
theorem L_k3d : L.lookup f_k3d = some E_k3d := rfl
theorem L_k3e : L.lookup f_k3e = some E_k3e := rfl
theorem L_k3f : L.lookup f_k3f = some E_k3f := rfl
theorem L_k3g : L.lookup f_k3g = some E_k3g := rfl
theorem L_k3h : L.lookup f_k3h = some E_k3h := rfl
theorem L_k3i : L.lookup f_k3i = some E_k3i := rfl
end Go.Proofs.YtdibnlhlngodeaaGreatDoor

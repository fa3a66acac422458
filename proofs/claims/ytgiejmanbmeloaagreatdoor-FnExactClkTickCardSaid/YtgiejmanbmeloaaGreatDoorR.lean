/- The residual programs of the functions,and the table of them. -/
import Derived.Test.YtgiejmanbmeloaaGreatDoorTd
set_option linter.unusedVariables false
set_option linter.unusedSimpArgs false
namespace Go.Proofs.YtgiejmanbmeloaaGreatDoor
open Go Go.Tm
theorem sC {α : Type} {a : α} {as bs : List α} : (a :: as) ++ bs = a :: (as ++ bs) := rfl
theorem sN {α : Type} {as : List α} : [] ++ as = as := rfl
abbrev aI (k : Nat) : E := .vi .i64 (.v k)
abbrev aS (k : Nat) : E := .s (.v k)
abbrev aB (k : Nat) : E := .vb (.v k)
abbrev aZ (k : Int) : E := .vi .i64 (.z k)
abbrev f_k0 : Nat := 43
abbrev f_k1 : Nat := 172
abbrev f_k2 : Nat := 132
abbrev f_k3 : Nat := 80
abbrev f_k4 : Nat := 42
abbrev f_k5 : Nat := 6
abbrev f_k6 : Nat := 133
abbrev f_k7 : Nat := 81
abbrev f_k8 : Nat := 44
abbrev f_k9 : Nat := 20
abbrev f_ka : Nat := 45
abbrev f_kb : Nat := 82
abbrev f_kc : Nat := 46
abbrev f_kd : Nat := 7
abbrev f_ke : Nat := 50
abbrev f_kf : Nat := 175
abbrev f_kg : Nat := 140
abbrev f_kh : Nat := 87
abbrev f_ki : Nat := 49
abbrev f_kj : Nat := 9
abbrev f_kk : Nat := 141
abbrev f_kl : Nat := 88
abbrev f_km : Nat := 51
abbrev f_kn : Nat := 23
abbrev f_ko : Nat := 52
abbrev f_kp : Nat := 89
abbrev f_kq : Nat := 53
abbrev f_kr : Nat := 10
abbrev f_ks : Nat := 100
abbrev f_kt : Nat := 135
abbrev f_ku : Nat := 233
abbrev f_kv : Nat := 197
abbrev f_kw : Nat := 158
abbrev f_kx : Nat := 134
abbrev f_ky : Nat := 124
abbrev f_kz : Nat := 136
abbrev f_k10 : Nat := 83
abbrev f_k11 : Nat := 109
abbrev f_k12 : Nat := 103
abbrev f_k13 : Nat := 201
abbrev f_k14 : Nat := 198
abbrev f_k15 : Nat := 234
abbrev f_k16 : Nat := 199
abbrev f_k17 : Nat := 200
abbrev f_k18 : Nat := 202
abbrev f_k19 : Nat := 159
abbrev f_k1a : Nat := 104
abbrev f_k1b : Nat := 105
abbrev f_k1c : Nat := 106
abbrev f_k1d : Nat := 108
abbrev f_k1e : Nat := 107
abbrev f_k1f : Nat := 70
abbrev f_k1g : Nat := 241
abbrev f_k1h : Nat := 215
abbrev f_k1i : Nat := 173
abbrev f_k1j : Nat := 137
abbrev f_k1k : Nat := 195
abbrev f_k1l : Nat := 196
abbrev f_k1m : Nat := 155
abbrev f_k1n : Nat := 156
abbrev f_k1o : Nat := 174
abbrev f_k1p : Nat := 138
abbrev f_k1q : Nat := 157
abbrev f_k1r : Nat := 102
abbrev f_k1s : Nat := 86
abbrev f_k1t : Nat := 84
abbrev f_k1u : Nat := 47
abbrev f_k1v : Nat := 111
abbrev f_k1w : Nat := 160
abbrev f_k1x : Nat := 139
abbrev f_k1y : Nat := 85
abbrev f_k1z : Nat := 48
abbrev f_k20 : Nat := 8
abbrev f_k21 : Nat := 142
abbrev f_k22 : Nat := 216
abbrev f_k23 : Nat := 176
abbrev f_k24 : Nat := 179
abbrev f_k25 : Nat := 217
abbrev f_k26 : Nat := 178
abbrev f_k27 : Nat := 144
abbrev f_k28 : Nat := 239
abbrev f_k29 : Nat := 230
abbrev f_k2a : Nat := 240
abbrev f_k2b : Nat := 213
abbrev f_k2c : Nat := 170
abbrev f_k2d : Nat := 177
abbrev f_k2e : Nat := 143
abbrev f_k2f : Nat := 146
abbrev f_k2g : Nat := 180
abbrev f_k2h : Nat := 129
abbrev f_k2i : Nat := 145
abbrev f_k2j : Nat := 90
abbrev f_k2k : Nat := 224
abbrev f_k2l : Nat := 187
abbrev f_k2m : Nat := 117
abbrev f_k2n : Nat := 252
abbrev f_k2o : Nat := 244
abbrev f_k2p : Nat := 236
abbrev f_k2q : Nat := 238
abbrev f_k2r : Nat := 210
abbrev f_k2s : Nat := 253
abbrev f_k2t : Nat := 254
abbrev f_k2u : Nat := 255
abbrev f_k2v : Nat := 245
abbrev f_k2w : Nat := 246
abbrev f_k2x : Nat := 247
abbrev f_k2y : Nat := 225
abbrev f_k2z : Nat := 188
abbrev f_k30 : Nat := 226
abbrev f_k31 : Nat := 189
abbrev f_k32 : Nat := 227
abbrev f_k33 : Nat := 190
abbrev f_k34 : Nat := 229
abbrev f_k35 : Nat := 228
abbrev f_k36 : Nat := 191
abbrev f_k37 : Nat := 151
abbrev f_k38 : Nat := 192
abbrev f_k39 : Nat := 248
abbrev f_k3a : Nat := 231
abbrev f_k3b : Nat := 232
abbrev f_k3c : Nat := 193
abbrev f_k3d : Nat := 152
abbrev f_k3e : Nat := 92
abbrev f_k3f : Nat := 218
abbrev f_k3g : Nat := 181
abbrev f_k3h : Nat := 219
abbrev f_k3i : Nat := 249
abbrev f_k3j : Nat := 250
abbrev f_k3k : Nat := 242
abbrev f_k3l : Nat := 220
abbrev f_k3m : Nat := 183
abbrev f_k3n : Nat := 182
abbrev f_k3o : Nat := 147
abbrev f_k3p : Nat := 164
abbrev f_k3q : Nat := 165
abbrev f_k3r : Nat := 116
abbrev f_k3s : Nat := 222
abbrev f_k3t : Nat := 251
abbrev f_k3u : Nat := 243
abbrev f_k3v : Nat := 212
abbrev f_k3w : Nat := 221
abbrev f_k3x : Nat := 214
abbrev f_k3y : Nat := 223
abbrev f_k3z : Nat := 184
abbrev f_k40 : Nat := 185
abbrev f_k41 : Nat := 148
abbrev f_k42 : Nat := 186
abbrev f_k43 : Nat := 149
abbrev f_k44 : Nat := 150
abbrev f_k45 : Nat := 91
abbrev f_k46 : Nat := 54
abbrev f_k47 : Nat := 119
abbrev f_k48 : Nat := 118
abbrev f_k49 : Nat := 93
abbrev f_k4a : Nat := 153
abbrev f_k4b : Nat := 94
abbrev f_k4c : Nat := 95
abbrev f_k4d : Nat := 56
abbrev f_k4e : Nat := 55
abbrev f_k4f : Nat := 11
abbrev f_k4g : Nat := 59
abbrev f_k4h : Nat := 27
abbrev f_k4i : Nat := 26
abbrev f_k4j : Nat := 97
abbrev f_k4k : Nat := 60
abbrev f_k4l : Nat := 57
abbrev f_k4m : Nat := 12
abbrev f_k4n : Nat := 194
abbrev f_k4o : Nat := 154
abbrev f_k4p : Nat := 96
abbrev f_k4q : Nat := 58
abbrev f_k4r : Nat := 13
abbrev f_k4s : Nat := 35
abbrev f_k4t : Nat := 98
abbrev f_k4u : Nat := 61
abbrev f_k4v : Nat := 14
abbrev f_k4w : Nat := 63
abbrev f_k4x : Nat := 99
abbrev f_k4y : Nat := 62
abbrev f_k4z : Nat := 15
abbrev f_k50 : Nat := 64
abbrev f_k51 : Nat := 37
abbrev f_k52 : Nat := 65
abbrev f_k53 : Nat := 16
abbrev f_k54 : Nat := 17
abbrev f_k55 : Nat := 66
abbrev f_k56 : Nat := 67
abbrev f_k57 : Nat := 18
abbrev f_k58 : Nat := 3
abbrev aF : R := .done [.vb .ff]
abbrev aT : R := .done [.vb .tt]
abbrev aP (k : Nat) : E := .bin .add .i64 (.v k) (.z 1)
abbrev aL (a b : E) : E := .cmp .lt a b
abbrev oI : Sh := .one (.i .i64)
abbrev sI : List Sh1 := [.i .i64]
abbrev v0 : E := .v 0
abbrev v1 : E := .v 1
abbrev v2 : E := .v 2
abbrev v3 : E := .v 3
abbrev v4 : E := .v 4
abbrev v5 : E := .v 5
abbrev v6 : E := .v 6
abbrev v7 : E := .v 7
abbrev v8 : E := .v 8
abbrev v9 : E := .v 9
abbrev v10 : E := .v 10
abbrev v11 : E := .v 11
abbrev v12 : E := .v 12
abbrev v13 : E := .v 13
abbrev v14 : E := .v 14
abbrev v15 : E := .v 15
abbrev v16 : E := .v 16
abbrev v17 : E := .v 17
abbrev v18 : E := .v 18
abbrev v19 : E := .v 19
abbrev v20 : E := .v 20
abbrev v21 : E := .v 21
abbrev v22 : E := .v 22
abbrev v23 : E := .v 23
abbrev v24 : E := .v 24
abbrev v25 : E := .v 25
abbrev v26 : E := .v 26
abbrev v27 : E := .v 27
abbrev v28 : E := .v 28
abbrev v29 : E := .v 29
abbrev v30 : E := .v 30
abbrev v33 : E := .v 33
abbrev v34 : E := .v 34
abbrev v35 : E := .v 35
abbrev v38 : E := .v 38
abbrev v39 : E := .v 39
abbrev v40 : E := .v 40
abbrev v46 : E := .v 46
abbrev v51 : E := .v 51
abbrev v52 : E := .v 52
abbrev v56 : E := .v 56
abbrev v57 : E := .v 57
abbrev v58 : E := .v 58
abbrev v59 : E := .v 59
abbrev v64 : E := .v 64
abbrev v71 : E := .v 71
abbrev v72 : E := .v 72
abbrev v76 : E := .v 76
abbrev v89 : E := .v 89
abbrev v92 : E := .v 92
abbrev v94 : E := .v 94
abbrev v103 : E := .v 103
abbrev v104 : E := .v 104
abbrev v107 : E := .v 107
abbrev v116 : E := .v 116
abbrev v117 : E := .v 117
abbrev v120 : E := .v 120
abbrev v128 : E := .v 128
abbrev v131 : E := .v 131
abbrev v132 : E := .v 132
abbrev v133 : E := .v 133
def R_k0 : R :=
 .ite (aL (.bin .sub .i64 v1 (.len v0)) (.z 0))
 (.done [aZ (-1)])
 (.done [.vi .i64 (.bin .sub .i64 v1 (.len v0))])
def R_k1 : R :=
 .i (.call f_k0 [aS 0,aI 3] sI 4) <|
 .ite (aL v4 (.z 0))
 (.done [aZ (-1)])
 (
 .i (.call f_k0 [aS 1,aI 4] sI 5) <|
 .ite (aL v5 (.z 0))
 (.done [aZ (-1)])
 (.done [aI 5]))
def R_k2 : R :=
 .i (.call f_k1 [aS 3,aS 4,aI 5,aI 6] sI 7) <|
 .ite (aL v7 (.z 0))
 (.done [aZ (-1)])
 (.done [aI 7])
def R_k3 : R :=
 .ite (aL (.bin .sub .i64 v1 (.len v0)) (.z 0))
 (.done [aZ (-1)])
 (
 .loop 2 [.bin .sub .i64 v1 (.len v0),.z 0] <|
 .ite (aL v3 (.len v0))
 (
 .i (.idx v0 v3 (.g [.i .i64,.i .i64,.i .i64,.s,.s,.i .i64]) 4) <|
 .i (.call f_k2 [aI 4,aI 5,aI 6,aS 7,aS 8,aI 9,aI 2] sI 10) <|
 .ite (aL v10 (.z 0))
 (.esc <| .done [aZ (-1)])
 (
 .next [v10,aP 3]))
 (.esc <| .done [aI 2]))
def R_k4 : R :=
 .ite (aL (.bin .sub .i64 v1 (.len v0)) (.z 0))
 (.done [aZ (-1)])
 (
 .loop 2 [.bin .sub .i64 v1 (.len v0),.z 0] <|
 .ite (aL v3 (.len v0))
 (
 .i (.idx v0 v3 (.one .s) 4) <|
 .i (.call f_k3 [aS 4,aI 2] sI 5) <|
 .ite (aL v5 (.z 0))
 (.esc <| .done [aZ (-1)])
 (
 .next [v5,aP 3]))
 (.esc <| .done [aI 2]))
def R_k5 : R :=
 .i (.call f_k4 [aS 1,aI 4] sI 5) <|
 .ite (aL v5 (.z 0))
 (.done [aZ (-1)])
 (
 .i (.call f_k0 [aS 2,aI 5] sI 6) <|
 .ite (aL v6 (.z 0))
 (.done [aZ (-1)])
 (
 .i (.call f_k0 [aS 3,aI 6] sI 7) <|
 .ite (aL v7 (.z 0))
 (.done [aZ (-1)])
 (.done [aI 7])))
def R_k6 : R :=
 .i (.call f_k0 [aS 1,aI 2] sI 3) <|
 .ite (aL v3 (.z 0))
 (.done [aZ (-1)])
 (.done [aI 3])
def R_k7 : R :=
 .i (.call f_k6 [aI 1,aS 2,aI 3] sI 4) <|
 .ite (aL v4 (.z 0))
 (.done [aZ (-1)])
 (.done [aI 4])
def R_k8 : R :=
 .ite (aL (.bin .sub .i64 v1 (.len v0)) (.z 0))
 (.done [aZ (-1)])
 (
 .loop 2 [.bin .sub .i64 v1 (.len v0),.z 0] <|
 .ite (aL v3 (.len v0))
 (
 .i (.idx v0 v3 (.g [.i .i64,.i .i64,.s]) 4) <|
 .i (.call f_k7 [aI 4,aI 5,aS 6,aI 2] sI 7) <|
 .ite (aL v7 (.z 0))
 (.esc <| .done [aZ (-1)])
 (
 .next [v7,aP 3]))
 (.esc <| .done [aI 2]))
def R_k9 : R :=
 .i (.call f_k0 [aS 3,aI 4] sI 5) <|
 .ite (aL v5 (.z 0))
 (.done [aZ (-1)])
 (.done [aI 5])
def R_ka : R :=
 .ite (aL (.bin .sub .i64 v1 (.len v0)) (.z 0))
 (.done [aZ (-1)])
 (
 .loop 2 [.bin .sub .i64 v1 (.len v0),.z 0] <|
 .ite (aL v3 (.len v0))
 (
 .i (.idx v0 v3 (.g [.i .i64,.i .i64,.i .i64,.s]) 4) <|
 .i (.call f_k9 [aI 4,aI 5,aI 6,aS 7,aI 2] sI 8) <|
 .ite (aL v8 (.z 0))
 (.esc <| .done [aZ (-1)])
 (
 .next [v8,aP 3]))
 (.esc <| .done [aI 2]))
def R_kb : R :=
 .i (.call f_k0 [aS 1,aI 3] sI 4) <|
 .ite (aL v4 (.z 0))
 (.done [aZ (-1)])
 (
 .i (.call f_k0 [aS 2,aI 4] sI 5) <|
 .ite (aL v5 (.z 0))
 (.done [aZ (-1)])
 (.done [aI 5]))
def R_kc : R :=
 .ite (aL (.bin .sub .i64 v1 (.len v0)) (.z 0))
 (.done [aZ (-1)])
 (
 .loop 2 [.bin .sub .i64 v1 (.len v0),.z 0] <|
 .ite (aL v3 (.len v0))
 (
 .i (.idx v0 v3 (.g [.b,.s,.s]) 4) <|
 .i (.call f_kb [aB 4,aS 5,aS 6,aI 2] sI 7) <|
 .ite (aL v7 (.z 0))
 (.esc <| .done [aZ (-1)])
 (
 .next [v7,aP 3]))
 (.esc <| .done [aI 2]))
def R_kd : R :=
 .i (.call f_k0 [aS 2,aI 6] sI 7) <|
 .ite (aL v7 (.z 0))
 (.done [aZ (-1)])
 (
 .i (.call f_k8 [aS 3,aI 7] sI 8) <|
 .ite (aL v8 (.z 0))
 (.done [aZ (-1)])
 (
 .i (.call f_ka [aS 4,aI 8] sI 9) <|
 .ite (aL v9 (.z 0))
 (.done [aZ (-1)])
 (
 .i (.call f_kc [aS 5,aI 9] sI 10) <|
 .ite (aL v10 (.z 0))
 (.done [aZ (-1)])
 (.done [aI 10]))))
def R_ke : R :=
 .i (.chk (.cmp .le (.z 0) (.len v0))) <|
 .i (.chk (.cmp .le (.len v0) (.z 8796093022208))) <|
 .loop 1 [.rep (.len v0) (aZ 0),.z 0] <|
 .ite (aL v2 (.len v0))
 (
 .i (.idx v0 v2 (oI) 3) <|
 .i (.chk (.cmp .le (.z 0) v2)) <|
 .i (.chk (aL v2 (.len v1))) <|
 .i (.idx v1 v2 (oI) 4) <|
 .next [.set v1 v2 (aI 3),aP 2])
 (.esc <| .done [aS 1])
def R_kf : R :=
 .i (.call f_ke [aS 0] [.s] 3) <|
 .i (.call f_ke [aS 1] [.s] 4) <|
 .done [aS 3,aS 4,aI 2]
def R_kg : R :=
 .i (.call f_kf [aS 3,aS 4,aI 5] [.s,.s,.i .i64] 6) <|
 .done [aI 0,aI 1,aI 2,aS 6,aS 7,aI 8]
def R_kh : R :=
 .i (.chk (.cmp .le (.z 0) (.len v0))) <|
 .i (.chk (.cmp .le (.len v0) (.z 879609302220))) <|
 .loop 1 [.rep (.len v0) (.g (.cons (aZ 0) (.cons (aZ 0) (.cons (aZ 0) (.cons (.s .nil) (.cons (.s .nil) (.cons (aZ 0) .nil))))))),.z 0] <|
 .ite (aL v2 (.len v0))
 (
 .i (.idx v0 v2 (.g [.i .i64,.i .i64,.i .i64,.s,.s,.i .i64]) 3) <|
 .i (.call f_kg [aI 3,aI 4,aI 5,aS 6,aS 7,aI 8] [.i .i64,.i .i64,.i .i64,.s,.s,.i .i64] 9) <|
 .i (.chk (.cmp .le (.z 0) v2)) <|
 .i (.chk (aL v2 (.len v1))) <|
 .i (.idx v1 v2 (.g [.i .i64,.i .i64,.i .i64,.s,.s,.i .i64]) 15) <|
 .next [.set v1 v2 (.g (.cons (aI 9) (.cons (aI 10) (.cons (aI 11) (.cons (aS 12) (.cons (aS 13) (.cons (aI 14) .nil))))))),aP 2])
 (.esc <| .done [aS 1])
def R_ki : R :=
 .i (.chk (.cmp .le (.z 0) (.len v0))) <|
 .i (.chk (.cmp .le (.len v0) (.z 2932031007402))) <|
 .loop 1 [.rep (.len v0) (.s .nil),.z 0] <|
 .ite (aL v2 (.len v0))
 (
 .i (.idx v0 v2 (.one .s) 3) <|
 .i (.call f_kh [aS 3] [.s] 4) <|
 .i (.chk (.cmp .le (.z 0) v2)) <|
 .i (.chk (aL v2 (.len v1))) <|
 .i (.idx v1 v2 (.one .s) 5) <|
 .next [.set v1 v2 (aS 4),aP 2])
 (.esc <| .done [aS 1])
def R_kj : R :=
 .i (.call f_ki [aS 1] [.s] 4) <|
 .i (.call f_ke [aS 2] [.s] 5) <|
 .i (.call f_ke [aS 3] [.s] 6) <|
 .done [aI 0,aS 4,aS 5,aS 6]
def R_kk : R :=
 .i (.call f_ke [aS 1] [.s] 2) <|
 .done [aI 0,aS 2]
def R_kl : R :=
 .i (.call f_kk [aI 1,aS 2] [.i .i64,.s] 3) <|
 .done [aI 0,aI 3,aS 4]
def R_km : R :=
 .i (.chk (.cmp .le (.z 0) (.len v0))) <|
 .i (.chk (.cmp .le (.len v0) (.z 1759218604441))) <|
 .loop 1 [.rep (.len v0) (.g (.cons (aZ 0) (.cons (aZ 0) (.cons (.s .nil) .nil)))),.z 0] <|
 .ite (aL v2 (.len v0))
 (
 .i (.idx v0 v2 (.g [.i .i64,.i .i64,.s]) 3) <|
 .i (.call f_kl [aI 3,aI 4,aS 5] [.i .i64,.i .i64,.s] 6) <|
 .i (.chk (.cmp .le (.z 0) v2)) <|
 .i (.chk (aL v2 (.len v1))) <|
 .i (.idx v1 v2 (.g [.i .i64,.i .i64,.s]) 9) <|
 .next [.set v1 v2 (.g (.cons (aI 6) (.cons (aI 7) (.cons (aS 8) .nil)))),aP 2])
 (.esc <| .done [aS 1])
def R_kn : R :=
 .i (.call f_ke [aS 3] [.s] 4) <|
 .done [aI 0,aI 1,aI 2,aS 4]
def R_ko : R :=
 .i (.chk (.cmp .le (.z 0) (.len v0))) <|
 .i (.chk (.cmp .le (.len v0) (.z 1466015503701))) <|
 .loop 1 [.rep (.len v0) (.g (.cons (aZ 0) (.cons (aZ 0) (.cons (aZ 0) (.cons (.s .nil) .nil))))),.z 0] <|
 .ite (aL v2 (.len v0))
 (
 .i (.idx v0 v2 (.g [.i .i64,.i .i64,.i .i64,.s]) 3) <|
 .i (.call f_kn [aI 3,aI 4,aI 5,aS 6] [.i .i64,.i .i64,.i .i64,.s] 7) <|
 .i (.chk (.cmp .le (.z 0) v2)) <|
 .i (.chk (aL v2 (.len v1))) <|
 .i (.idx v1 v2 (.g [.i .i64,.i .i64,.i .i64,.s]) 11) <|
 .next [.set v1 v2 (.g (.cons (aI 7) (.cons (aI 8) (.cons (aI 9) (.cons (aS 10) .nil))))),aP 2])
 (.esc <| .done [aS 1])
def R_kp : R :=
 .i (.call f_ke [aS 1] [.s] 3) <|
 .i (.call f_ke [aS 2] [.s] 4) <|
 .done [aB 0,aS 3,aS 4]
def R_kq : R :=
 .i (.chk (.cmp .le (.z 0) (.len v0))) <|
 .i (.chk (.cmp .le (.len v0) (.z 1256584717458))) <|
 .loop 1 [.rep (.len v0) (.g (.cons (.vb .ff) (.cons (.s .nil) (.cons (.s .nil) .nil)))),.z 0] <|
 .ite (aL v2 (.len v0))
 (
 .i (.idx v0 v2 (.g [.b,.s,.s]) 3) <|
 .i (.call f_kp [aB 3,aS 4,aS 5] [.b,.s,.s] 6) <|
 .i (.chk (.cmp .le (.z 0) v2)) <|
 .i (.chk (aL v2 (.len v1))) <|
 .i (.idx v1 v2 (.g [.b,.s,.s]) 9) <|
 .next [.set v1 v2 (.g (.cons (aB 6) (.cons (aS 7) (.cons (aS 8) .nil)))),aP 2])
 (.esc <| .done [aS 1])
def R_kr : R :=
 .i (.call f_ke [aS 2] [.s] 6) <|
 .i (.call f_km [aS 3] [.s] 7) <|
 .i (.call f_ko [aS 4] [.s] 8) <|
 .i (.call f_kq [aS 5] [.s] 9) <|
 .done [aB 0,aI 1,aS 6,aS 7,aS 8,aS 9]
def R_ks : R :=
 .ite (.cmp .le v1 v0)
 (.done [.vb (.cmp .le v0 v2)])
 aF
def R_kt : R :=
 .ite (.not (.cmp .eq (.len v0) v1))
 aF
 (
 .loop 3 [.z 0] <|
 .ite (aL v3 (.len v0))
 (
 .i (.idx v0 v3 (oI) 4) <|
 .i (.call f_ks [aI 4,.vi .i64 (.bin .sub .i64 (.z 0) v2),aI 2] [.b] 5) <|
 .ite (.not v5)
 (.esc <| .done [.vb .ff])
 (
 .next [aP 3]))
 (.esc <| .done [.vb .tt]))
def R_ku : R :=
 .i (.call f_kt [aS 0,aZ 3,aZ 2] [.b] 3) <|
 .ite v3
 (
 .i (.call f_kt [aS 1,aZ 2,aZ 2] [.b] 4) <|
 .ite v4
 (
 .i (.call f_ks [aI 2,aZ (-20),aZ 20] [.b] 5) <|
 .done [aB 5])
 aF)
 aF
def R_kv : R :=
 .ite (.cmp .eq v0 (.z 1))
 (
 .ite (.cmp .eq v1 (.z 0))
 (
 .i (.call f_ks [aI 2,aZ 1,aZ 6] [.b] 6) <|
 .ite v6
 (
 .i (.call f_ku [aS 3,aS 4,aI 5] [.b] 7) <|
 .done [aB 7])
 aF)
 aF)
 (
 .ite (.cmp .eq v0 (.z 2))
 (
 .i (.call f_ks [aI 1,aZ 0,aZ 2] [.b] 6) <|
 .ite v6
 (
 .ite (.cmp .eq v2 (.z 0))
 (
 .i (.call f_ku [aS 3,aS 4,aI 5] [.b] 7) <|
 .done [aB 7])
 aF)
 aF)
 (
 .ite (.cmp .eq v0 (.z 3))
 (
 .ite (.cmp .eq v1 (.z 0))
 (
 .ite (.cmp .eq v2 (.z 0))
 (
 .i (.call f_ku [aS 3,aS 4,aI 5] [.b] 6) <|
 .done [aB 6])
 aF)
 aF)
 (
 .ite (.cmp .eq v0 (.z 4))
 (
 .ite (.cmp .eq v1 (.z 0))
 (
 .ite (.cmp .eq v2 (.z 0))
 (
 .ite (.cmp .eq (.bin .add .i64 (.len v3) (.len v4)) (.z 0))
 (.done [.vb (.cmp .eq v5 (.z 0))])
 aF)
 aF)
 aF)
 aF)))
def R_kw : R :=
 .loop 1 [.z 0,.z 0] <|
 .ite (aL v2 (.len v0))
 (
 .i (.idx v0 v2 (.g [.i .i64,.i .i64,.i .i64,.s,.s,.i .i64]) 3) <|
 .i (.call f_kv [aI 3,aI 4,aI 5,aS 6,aS 7,aI 8] [.b] 9) <|
 .ite (.not v9)
 (.esc <| .done [.vb .ff])
 (
 .i (.idx v0 v2 (.g [.i .i64,.i .i64,.i .i64,.s,.s,.i .i64]) 10) <|
 .ite (.cmp .eq v10 (.z 1))
 (
 .next [aP 1,aP 2])
 (
 .next [v1,aP 2])))
 (
 .esc <|
 .ite (.cmp .le (.len v0) (.z 6))
 (.done [.vb (.cmp .le v1 (.z 3))])
 aF)
def R_kx : R :=
 .i (.call f_ks [.vi .i64 (.len v0),aZ 1,aZ 4] [.b] 1) <|
 .ite (.not v1)
 aF
 (
 .loop 2 [.z 0] <|
 .ite (aL v2 (.len v0))
 (
 .i (.idx v0 v2 (.one .s) 3) <|
 .i (.call f_kw [aS 3] [.b] 4) <|
 .ite (.not v4)
 (.esc <| .done [.vb .ff])
 (
 .next [aP 2]))
 (.esc <| .done [.vb .tt]))
def R_ky : R :=
 .i (.call f_kt [aS 0,aZ 3,aZ 10000] [.b] 1) <|
 .done [aB 1]
def R_kz : R :=
 .i (.call f_ky [aS 0] [.b] 2) <|
 .ite (.not v2)
 aF
 (
 .i (.call f_ks [.vi .i64 (.len v1),aZ 1,aZ 3] [.b] 3) <|
 .ite (.not v3)
 aF
 (
 .loop 4 [.z 0] <|
 .ite (aL v4 (.len v1))
 (
 .i (.idx v1 v4 (oI) 5) <|
 .i (.call f_ks [aI 5,aZ 0,aZ 50] [.b] 6) <|
 .ite (.not v6)
 (.esc <| .done [.vb .ff])
 (
 .next [aP 4]))
 (.esc <| .done [.vb .tt])))
def R_k10 : R :=
 .i (.call f_ks [aI 0,aZ 1,aZ 4] [.b] 4) <|
 .ite v4
 (
 .i (.call f_kx [aS 1] [.b] 5) <|
 .ite v5
 (
 .i (.call f_kt [aS 3,aZ 3,aZ 1000] [.b] 6) <|
 .ite v6
 (
 .i (.call f_kz [aS 3,aS 2] [.b] 7) <|
 .done [aB 7])
 aF)
 aF)
 aF
def R_k11 : R :=
 .done [.s (.cons (aZ 0) (.cons (aZ 0) (.cons (aZ 0) .nil))),.s (.cons (aZ 0) (.cons (aZ 0) .nil)),aZ 0]
def R_k12 : R :=
 .i (.call f_ks [aI 0,aZ 0,aZ 2] [.b] 1) <|
 .ite (.not v1)
 (.done [.s .nil,.s .nil,aZ 0])
 (
 .i (.call f_k11 [] [.s,.s,.i .i64] 2) <|
 .i (.chk (.cmp .le (.z 0) v0)) <|
 .i (.chk (aL v0 (.len v2))) <|
 .i (.idx v2 v0 (oI) 5) <|
 .done [.s (.set v2 v0 (aZ 1)),aS 3,aI 4])
def R_k13 : R :=
 .i (.call f_k11 [] [.s,.s,.i .i64] 7) <|
 .loop 10 [v7,.z 0] <|
 .ite (aL v11 (.z 3))
 (
 .i (.idx v0 v11 (oI) 12) <|
 .i (.idx v3 v11 (oI) 13) <|
 .i (.chk (.cmp .le (.z 0) v11)) <|
 .i (.chk (aL v11 (.len v10))) <|
 .i (.idx v10 v11 (oI) 14) <|
 .next [.set v10 v11 (.vi .i64 (.bin .add .i64 v12 (.bin .mul .i64 v6 v13))),aP 11])
 (
 .esc <|
 .loop 12 [v8,.z 0] <|
 .ite (aL v13 (.z 2))
 (
 .i (.idx v1 v13 (oI) 14) <|
 .i (.idx v4 v13 (oI) 15) <|
 .i (.chk (.cmp .le (.z 0) v13)) <|
 .i (.chk (aL v13 (.len v12))) <|
 .i (.idx v12 v13 (oI) 16) <|
 .next [.set v12 v13 (.vi .i64 (.bin .add .i64 v14 (.bin .mul .i64 v6 v15))),aP 13])
 (.esc <| .done [aS 10,aS 12,.vi .i64 (.bin .add .i64 v2 (.bin .mul .i64 v6 v5))]))
def R_k14 : R :=
 .loop 1 [.nil,.z 0] <|
 .ite (aL v2 (.len v0))
 (
 .i (.call f_k11 [] [.s,.s,.i .i64] 3) <|
 .i (.idx v0 v2 (.g [.s,.s,.i .i64]) 6) <|
 .i (.call f_k13 [aS 3,aS 4,aI 5,aS 6,aS 7,aI 8,aZ 1] [.s,.s,.i .i64] 9) <|
 .i (.chk (.cmp .le (.len (.app v1 (.cons (.g (.cons (aS 9) (.cons (aS 10) (.cons (aI 11) .nil)))) .nil))) (.z 1256584717458))) <|
 .next [.app v1 (.cons (.g (.cons (aS 9) (.cons (aS 10) (.cons (aI 11) .nil)))) .nil),aP 2])
 (.esc <| .done [aS 1])
def R_k15 : R :=
 .i (.call f_kt [aS 0,aZ 3,aZ 10000000] [.b] 3) <|
 .ite v3
 (
 .i (.call f_kt [aS 1,aZ 2,aZ 10000000] [.b] 4) <|
 .ite v4
 (
 .i (.call f_ks [aI 2,aZ (-10000000),aZ 10000000] [.b] 5) <|
 .done [aB 5])
 aF)
 aF
def R_k16 : R :=
 .i (.call f_k15 [aS 0,aS 1,aI 2] [.b] 4) <|
 .ite (.not v4)
 (.done [.s .nil,.s .nil,aZ 0])
 (
 .ite (.not (.cmp .eq (.len v3) (.z 3)))
 (.done [.s .nil,.s .nil,aZ 0])
 (
 .i (.idx v3 (.z 0) (.g [.s,.s,.i .i64]) 5) <|
 .i (.call f_k15 [aS 5,aS 6,aI 7] [.b] 8) <|
 .ite (.not v8)
 (.done [.s .nil,.s .nil,aZ 0])
 (
 .i (.idx v3 (.z 1) (.g [.s,.s,.i .i64]) 9) <|
 .i (.call f_k15 [aS 9,aS 10,aI 11] [.b] 12) <|
 .ite (.not v12)
 (.done [.s .nil,.s .nil,aZ 0])
 (
 .i (.idx v3 (.z 2) (.g [.s,.s,.i .i64]) 13) <|
 .i (.call f_k15 [aS 13,aS 14,aI 15] [.b] 16) <|
 .ite (.not v16)
 (.done [.s .nil,.s .nil,aZ 0])
 (
 .i (.chk (.cmp .le (.len v1) (.z 8796093022208))) <|
 .i (.head 1 v1) <|
 .i (.chk (.cmp .le (.len (.app .nil v1)) (.z 8796093022208))) <|
 .loop 17 [.cons (aZ 0) (.cons (aZ 0) (.cons (aZ 0) .nil)),.app .nil v1,.z 0,v2] <|
 .ite (aL v19 (.z 3))
 (
 .i (.idx v3 v19 (.g [.s,.s,.i .i64]) 21) <|
 .i (.idx v0 v19 (oI) 24) <|
 .i (.call f_k13 [aS 17,aS 18,aI 20,aS 21,aS 22,aI 23,aI 24] [.s,.s,.i .i64] 25) <|
 .next [v25,v26,aP 19,v27])
 (
 .esc <|
 .i (.call f_k15 [aS 17,aS 18,aI 20] [.b] 21) <|
 .ite (.not v21)
 (.done [.s .nil,.s .nil,aZ 0])
 (.done [aS 17,aS 18,aI 20])))))))
def R_k17 : R :=
 .i (.call f_k11 [] [.s,.s,.i .i64] 3) <|
 .i (.call f_k13 [aS 3,aS 4,aI 5,aS 0,aS 1,aI 2,aZ (-1)] [.s,.s,.i .i64] 6) <|
 .done [aS 6,aS 7,.vi .i64 (.bin .sub .i64 v8 (.z 1))]
def R_k18 : R :=
 .i (.call f_k14 [aS 1] [.s] 3) <|
 .i (.call f_k14 [aS 2] [.s] 4) <|
 .loop 5 [.nil,.z 0] <|
 .ite (aL v6 (.z 3))
 (
 .i (.idx v0 v6 (.g [.s,.s,.i .i64]) 7) <|
 .i (.call f_k12 [aI 6] [.s,.s,.i .i64] 10) <|
 .i (.call f_k13 [aS 7,aS 8,aI 9,aS 10,aS 11,aI 12,aZ (-1)] [.s,.s,.i .i64] 13) <|
 .i (.chk (.cmp .le (.len (.app v5 (.cons (.g (.cons (aS 13) (.cons (aS 14) (.cons (aI 15) .nil)))) .nil))) (.z 1256584717458))) <|
 .next [.app v5 (.cons (.g (.cons (aS 13) (.cons (aS 14) (.cons (aI 15) .nil)))) .nil),aP 6])
 (.esc <| .done [aS 3,aS 5,aS 4,.vb .ff])
def R_k19 : R :=
 .loop 5 [v2,v4,v1] <|
 .ite (aL v7 (.len v0))
 (
 .i (.idx v0 v7 (.g [.i .i64,.i .i64,.i .i64,.s,.s,.i .i64]) 8) <|
 .ite (.cmp .eq v8 (.z 4))
 (
 .i (.call f_k14 [aS 3] [.s] 14) <|
 .esc <|
 .done [.s (.cons (.g (.cons (aS 14) (.cons (.s .nil) (.cons (.s .nil) (.cons (.vb .tt) .nil))))) .nil)])
 (
 .i (.call f_k16 [aS 11,aS 12,aI 13,aS 5] [.s,.s,.i .i64] 14) <|
 .ite (.cmp .eq v8 (.z 1))
 (
 .i (.call f_k14 [aS 5] [.s] 17) <|
 .i (.call f_k14 [aS 3] [.s] 18) <|
 .i (.chk (.cmp .le (.len (.app v18 (.cons (.g (.cons (aS 14) (.cons (aS 15) (.cons (aI 16) .nil)))) .nil))) (.z 1256584717458))) <|
 .i (.call f_k14 [aS 6] [.s] 19) <|
 .i (.call f_k19 [aS 0,.vi .i64 (aP 7),aS 17,.s (.app v18 (.cons (.g (.cons (aS 14) (.cons (aS 15) (.cons (aI 16) .nil)))) .nil)),aS 19] [.s] 20) <|
 .i (.call f_k14 [aS 5] [.s] 21) <|
 .i (.call f_k14 [aS 3] [.s] 22) <|
 .i (.call f_k17 [aS 14,aS 15,aI 16] [.s,.s,.i .i64] 23) <|
 .i (.chk (.cmp .le (.len (.app v22 (.cons (.g (.cons (aS 23) (.cons (aS 24) (.cons (aI 25) .nil)))) .nil))) (.z 1256584717458))) <|
 .i (.call f_k14 [aS 6] [.s] 26) <|
 .i (.call f_k19 [aS 0,.vi .i64 (.bin .add .i64 (aP 7) v10),aS 21,.s (.app v22 (.cons (.g (.cons (aS 23) (.cons (aS 24) (.cons (aI 25) .nil)))) .nil)),aS 26] [.s] 27) <|
 .i (.chk (.cmp .le (.len v27) (.z 879609302220))) <|
 .i (.head 4 v27) <|
 .i (.chk (.cmp .le (.len (.app v20 v27)) (.z 879609302220))) <|
 .esc <|
 .done [.s (.app v20 v27)])
 (
 .ite (.cmp .eq v8 (.z 2))
 (
 .i (.call f_k14 [aS 5] [.s] 17) <|
 .i (.chk (.cmp .le (.z 0) v9)) <|
 .i (.chk (aL v9 (.len v17))) <|
 .i (.idx v17 v9 (.g [.s,.s,.i .i64]) 18) <|
 .i (.call f_k13 [aS 18,aS 19,aI 20,aS 14,aS 15,aI 16,aZ 1] [.s,.s,.i .i64] 21) <|
 .i (.chk (.cmp .le (.z 0) v9)) <|
 .i (.chk (aL v9 (.len v17))) <|
 .i (.idx v17 v9 (.g [.s,.s,.i .i64]) 24) <|
 .next [.set v17 v9 (.g (.cons (aS 21) (.cons (aS 22) (.cons (aI 23) .nil)))),v6,aP 7])
 (
 .i (.call f_k14 [aS 6] [.s] 17) <|
 .i (.chk (.cmp .le (.len (.app v17 (.cons (.g (.cons (aS 14) (.cons (aS 15) (.cons (aI 16) .nil)))) .nil))) (.z 1256584717458))) <|
 .next [v5,.app v17 (.cons (.g (.cons (aS 14) (.cons (aS 15) (.cons (aI 16) .nil)))) .nil),aP 7]))))
 (
 .esc <|
 .i (.call f_k18 [aS 5,aS 3,aS 6] [.s,.s,.s,.b] 8) <|
 .done [.s (.cons (.g (.cons (aS 8) (.cons (aS 9) (.cons (aS 10) (.cons (aB 11) .nil))))) .nil)])
def R_k1a : R :=
 .i (.call f_kw [aS 0] [.b] 1) <|
 .ite (.not v1)
 (.done [.s .nil])
 (
 .i (.call f_k12 [aZ 0] [.s,.s,.i .i64] 2) <|
 .i (.call f_k12 [aZ 1] [.s,.s,.i .i64] 5) <|
 .i (.call f_k12 [aZ 2] [.s,.s,.i .i64] 8) <|
 .i (.call f_k19 [aS 0,aZ 0,.s (.cons (.g (.cons (aS 2) (.cons (aS 3) (.cons (aI 4) .nil)))) (.cons (.g (.cons (aS 5) (.cons (aS 6) (.cons (aI 7) .nil)))) (.cons (.g (.cons (aS 8) (.cons (aS 9) (.cons (aI 10) .nil)))) .nil))),.s .nil,.s .nil] [.s] 11) <|
 .done [aS 11])
def R_k1b : R :=
 .i (.chk (.cmp .le (.len v0) (.z 70368744177664))) <|
 .i (.head 1 v0) <|
 .i (.chk (.cmp .le (.len (.app .nil v0)) (.z 70368744177664))) <|
 .loop 2 [.app .nil v0,.z 0] <|
 .ite (aL v3 (.len v1))
 (
 .loop 4 [v2,.z 0] <|
 .ite (aL v5 (.z 3))
 (
 .i (.idx v1 v3 (.g [.s,.s,.i .i64]) 6) <|
 .i (.idx v6 v5 (oI) 9) <|
 .ite (.not (.cmp .eq v9 (.z 0)))
 (
 .i (.chk (.cmp .le (.z 0) v5)) <|
 .i (.chk (aL v5 (.len v4))) <|
 .i (.idx v4 v5 (.one .b) 10) <|
 .next [.set v4 v5 (.vb .tt),aP 5])
 (
 .next [v4,aP 5]))
 (
 .esc <|
 .next [v4,aP 3]))
 (.esc <| .done [aS 2])
def R_k1c : R :=
 .loop 3 [.nil,.z 0,.z 0] <|
 .ite (aL v5 (.len v0))
 (
 .ite (.cmp .eq v4 (.z 0))
 (
 .i (.idx v0 v5 (oI) 6) <|
 .ite (aL (.z 0) v6)
 (
 .i (.idx v0 v5 (oI) 7) <|
 .i (.chk (.cmp .le (.len (.app v3 (.cons (.vi .i64 (.bin .mul .i64 (.z 1) v7)) .nil))) (.z 8796093022208))) <|
 .next [.app v3 (.cons (.vi .i64 (.bin .mul .i64 (.z 1) v7)) .nil),.z 1,aP 5])
 (
 .ite (.cmp .eq v4 (.z 0))
 (
 .i (.idx v0 v5 (oI) 7) <|
 .ite (aL v7 (.z 0))
 (
 .i (.idx v0 v5 (oI) 8) <|
 .i (.chk (.cmp .le (.len (.app v3 (.cons (.vi .i64 (.bin .mul .i64 (.z (-1)) v8)) .nil))) (.z 8796093022208))) <|
 .next [.app v3 (.cons (.vi .i64 (.bin .mul .i64 (.z (-1)) v8)) .nil),.z (-1),aP 5])
 (
 .i (.idx v0 v5 (oI) 8) <|
 .i (.chk (.cmp .le (.len (.app v3 (.cons (.vi .i64 (.bin .mul .i64 v4 v8)) .nil))) (.z 8796093022208))) <|
 .next [.app v3 (.cons (.vi .i64 (.bin .mul .i64 v4 v8)) .nil),v4,aP 5]))
 (
 .i (.idx v0 v5 (oI) 7) <|
 .i (.chk (.cmp .le (.len (.app v3 (.cons (.vi .i64 (.bin .mul .i64 v4 v7)) .nil))) (.z 8796093022208))) <|
 .next [.app v3 (.cons (.vi .i64 (.bin .mul .i64 v4 v7)) .nil),v4,aP 5])))
 (
 .ite (.cmp .eq v4 (.z 0))
 (
 .i (.idx v0 v5 (oI) 6) <|
 .ite (aL v6 (.z 0))
 (
 .i (.idx v0 v5 (oI) 7) <|
 .i (.chk (.cmp .le (.len (.app v3 (.cons (.vi .i64 (.bin .mul .i64 (.z (-1)) v7)) .nil))) (.z 8796093022208))) <|
 .next [.app v3 (.cons (.vi .i64 (.bin .mul .i64 (.z (-1)) v7)) .nil),.z (-1),aP 5])
 (
 .i (.idx v0 v5 (oI) 7) <|
 .i (.chk (.cmp .le (.len (.app v3 (.cons (.vi .i64 (.bin .mul .i64 v4 v7)) .nil))) (.z 8796093022208))) <|
 .next [.app v3 (.cons (.vi .i64 (.bin .mul .i64 v4 v7)) .nil),v4,aP 5]))
 (
 .i (.idx v0 v5 (oI) 6) <|
 .i (.chk (.cmp .le (.len (.app v3 (.cons (.vi .i64 (.bin .mul .i64 v4 v6)) .nil))) (.z 8796093022208))) <|
 .next [.app v3 (.cons (.vi .i64 (.bin .mul .i64 v4 v6)) .nil),v4,aP 5])))
 (.esc <| .done [aS 3])
def R_k1d : R :=
 .ite (.not (.cmp .eq (.len v0) (.len v1)))
 aF
 (
 .loop 2 [.z 0] <|
 .ite (aL v2 (.len v0))
 (
 .i (.idx v0 v2 (oI) 3) <|
 .i (.idx v1 v2 (oI) 4) <|
 .ite (.not (.cmp .eq v3 v4))
 (.esc <| .done [.vb .ff])
 (
 .next [aP 2]))
 (.esc <| .done [.vb .tt]))
def R_k1e : R :=
 .loop 2 [.z 0] <|
 .ite (aL v2 (.len v0))
 (
 .i (.idx v0 v2 (.one .s) 3) <|
 .i (.call f_k1d [aS 3,aS 1] [.b] 4) <|
 .ite v4
 (.esc <| .done [aI 2])
 (
 .next [aP 2]))
 (.esc <| .done [aZ (-1)])
def R_k1f : R :=
 .loop 1 [.nil,.z 0] <|
 .ite (aL v2 (.z 3))
 (
 .i (.call f_k12 [aI 2] [.s,.s,.i .i64] 3) <|
 .i (.chk (.cmp .le (.len (.app v1 (.cons (aS 3) .nil))) (.z 2932031007402))) <|
 .next [.app v1 (.cons (aS 3) .nil),aP 2])
 (
 .esc <|
 .loop 3 [v1,.cons (.vb .ff) (.cons (.vb .ff) (.cons (.vb .ff) .nil)),.z 0] <|
 .ite (aL v5 (.len v0))
 (
 .i (.idx v0 v5 (.one .s) 6) <|
 .i (.call f_k1a [aS 6] [.s] 7) <|
 .loop 8 [v3,v4,.z 0] <|
 .ite (aL v10 (.len v7))
 (
 .i (.chk (.cmp .le (.z 0) v10)) <|
 .i (.chk (aL v10 (.len v7))) <|
 .i (.idx v7 v10 (.g [.s,.s,.s,.b]) 11) <|
 .i (.call f_k1b [aS 9,aS 12] [.s] 15) <|
 .i (.chk (.cmp .le (.z 0) v10)) <|
 .i (.chk (aL v10 (.len v7))) <|
 .i (.idx v7 v10 (.g [.s,.s,.s,.b]) 16) <|
 .i (.call f_k1b [aS 15,aS 18] [.s] 20) <|
 .loop 21 [v8,.z 0] <|
 .i (.chk (.cmp .le (.z 0) v10)) <|
 .i (.chk (aL v10 (.len v7))) <|
 .i (.idx v7 v10 (.g [.s,.s,.s,.b]) 23) <|
 .ite (aL v22 (.len v23))
 (
 .i (.chk (.cmp .le (.z 0) v10)) <|
 .i (.chk (aL v10 (.len v7))) <|
 .i (.idx v7 v10 (.g [.s,.s,.s,.b]) 27) <|
 .i (.idx v27 v22 (.g [.s,.s,.i .i64]) 31) <|
 .i (.call f_k1c [aS 31,aS 32,aI 33] [.s] 34) <|
 .i (.call f_k1e [aS 21,aS 34] sI 35) <|
 .ite (aL v35 (.z 0))
 (
 .i (.call f_k11 [] [.s,.s,.i .i64] 36) <|
 .i (.call f_k1d [aS 34,aS 36] [.b] 39) <|
 .ite (.not v39)
 (
 .i (.chk (.cmp .le (.len (.app v21 (.cons (aS 34) .nil))) (.z 2932031007402))) <|
 .next [.app v21 (.cons (aS 34) .nil),aP 22])
 (
 .next [v21,aP 22]))
 (
 .next [v21,aP 22]))
 (
 .esc <|
 .next [v21,v20,aP 10]))
 (
 .esc <|
 .next [v8,v9,aP 5]))
 (.esc <| .done [aS 3,aS 4]))
def R_k1h : R :=
 .i (.call f_ks [aI 0,aZ 1,aZ 3] [.b] 2) <|
 .ite (.not v2)
 (.done [.vc (.string (strV []))])
 (
 .ite (.not (.cmp .eq v0 (.z 1)))
 (
 .ite (aL (.z 0) (.len v1))
 (.done [.vc (.string (strV []))])
 (
 .ite (aL (.z 6) (.len v1))
 (.done [.vc (.string (strV []))])
 (
 .i (.call f_kt [aS 1,.vi .i64 (.len v1),aZ 999999999999] [.b] 3) <|
 .ite (.not v3)
 (.done [.vc (.string (strV []))])
 (
 .i (.chk (.cmp .le (.z 0) v0)) <|
 .i (.chk (aL v0 (.z 4))) <|
 .i (.idx (.cons (.vc (.string (strV []))) (.cons (.vc (.string (strV [100,111,110,101]))) (.cons (.vc (.string (strV [115,116,111,112,112,101,100]))) (.cons (.vc (.string (strV [111,118,101,114]))) .nil)))) v0 (.one .d) 4) <|
 .loop 5 [.da 4,.z 0] <|
 .ite (aL v6 (.len v1))
 (
 .i (.prim .cat [.da 5,.vc (.string (strV [32]))] .d 7) <|
 .i (.idx v1 v6 (oI) 8) <|
 .i (.call f_k1g [aI 8] [.d] 9) <|
 .i (.prim .cat [.da 7,.da 9] .d 10) <|
 .next [.da 10,aP 6])
 (.esc <| .done [.da 5])))))
 (
 .ite (aL (.z 6) (.len v1))
 (.done [.vc (.string (strV []))])
 (
 .i (.call f_kt [aS 1,.vi .i64 (.len v1),aZ 999999999999] [.b] 3) <|
 .ite (.not v3)
 (.done [.vc (.string (strV []))])
 (
 .i (.chk (.cmp .le (.z 0) v0)) <|
 .i (.chk (aL v0 (.z 4))) <|
 .i (.idx (.cons (.vc (.string (strV []))) (.cons (.vc (.string (strV [100,111,110,101]))) (.cons (.vc (.string (strV [115,116,111,112,112,101,100]))) (.cons (.vc (.string (strV [111,118,101,114]))) .nil)))) v0 (.one .d) 4) <|
 .loop 5 [.da 4,.z 0] <|
 .ite (aL v6 (.len v1))
 (
 .i (.prim .cat [.da 5,.vc (.string (strV [32]))] .d 7) <|
 .i (.idx v1 v6 (oI) 8) <|
 .i (.call f_k1g [aI 8] [.d] 9) <|
 .i (.prim .cat [.da 7,.da 9] .d 10) <|
 .next [.da 10,aP 6])
 (.esc <| .done [.da 5])))))
def R_k1i : R :=
 .i (.call f_k1h [aI 0,aS 1] [.d] 2) <|
 .i (.prim .seq [.da 2,.vc (.string (strV []))] .b 3) <|
 .done [.vb (.not v3)]
def R_k1j : R :=
 .ite (.not (.cmp .eq (.len v4) v0))
 aF
 (
 .loop 5 [.z 0] <|
 .ite (aL v5 (.len v4))
 (
 .i (.idx v4 v5 (.g [.i .i64,.i .i64,.s]) 6) <|
 .i (.call f_ks [aI 6,aZ 0,aZ 300] [.b] 9) <|
 .ite (.not v9)
 (.esc <| .done [.vb .ff])
 (
 .i (.idx v4 v5 (.g [.i .i64,.i .i64,.s]) 10) <|
 .i (.idx v4 v5 (.g [.i .i64,.i .i64,.s]) 13) <|
 .ite (.not (.beq (.cmp .eq v10 (.z 0)) (.cmp .eq v14 (.z 0))))
 (.esc <| .done [.vb .ff])
 (
 .i (.idx v4 v5 (.g [.i .i64,.i .i64,.s]) 16) <|
 .ite (.cmp .eq v16 (.z 0))
 (
 .i (.idx v4 v5 (.g [.i .i64,.i .i64,.s]) 19) <|
 .ite (aL (.z 0) (.len v21))
 (.esc <| .done [.vb .ff])
 (
 .i (.idx v4 v5 (.g [.i .i64,.i .i64,.s]) 22) <|
 .ite (aL (.z 0) v22)
 (
 .i (.idx v4 v5 (.g [.i .i64,.i .i64,.s]) 25) <|
 .i (.call f_k1i [aI 26,aS 27] [.b] 28) <|
 .ite (.not v28)
 (.esc <| .done [.vb .ff])
 (
 .next [aP 5]))
 (
 .next [aP 5])))
 (
 .i (.idx v4 v5 (.g [.i .i64,.i .i64,.s]) 19) <|
 .ite (aL (.z 0) v19)
 (
 .i (.idx v4 v5 (.g [.i .i64,.i .i64,.s]) 22) <|
 .i (.call f_k1i [aI 23,aS 24] [.b] 25) <|
 .ite (.not v25)
 (.esc <| .done [.vb .ff])
 (
 .next [aP 5]))
 (
 .next [aP 5])))))
 (.esc <| .done [.vb .tt]))
def R_k1k : R :=
 .loop 1 [.z 0] <|
 .ite (aL v1 (.len v0))
 (
 .i (.idx v0 v1 (.one .s) 2) <|
 .i (.call f_kt [aS 2,aZ 3,aZ 10000000] [.b] 3) <|
 .ite (.not v3)
 (.esc <| .done [.vb .ff])
 (
 .next [aP 1]))
 (.esc <| .done [.vb .tt])
def R_k1l : R :=
 .loop 2 [.z 0,.z 0] <|
 .ite (aL v3 (.z 3))
 (
 .i (.idx v0 v3 (oI) 4) <|
 .i (.idx v1 v3 (oI) 5) <|
 .next [.bin .add .i64 v2 (.bin .mul .i64 v4 v5),aP 3])
 (.esc <| .done [aI 2])
def R_k1m : R :=
 .i (.call f_kz [aS 0,aS 1] [.b] 5) <|
 .ite (.not v5)
 aF
 (
 .i (.call f_k1k [aS 2] [.b] 6) <|
 .ite (.not v6)
 aF
 (
 .i (.call f_ks [aI 3,aZ 0,.vi .i64 (.bin .sub .i64 (.len v1) (.z 1))] [.b] 7) <|
 .ite (.not v7)
 aF
 (
 .i (.call f_kt [aS 4,aZ 3,aZ 20000] [.b] 8) <|
 .ite (.not v8)
 aF
 (
 .loop 9 [.z 0] <|
 .ite (aL v9 (.len v2))
 (
 .i (.idx v2 v9 (.one .s) 10) <|
 .i (.call f_k1l [aS 10,aS 4] sI 11) <|
 .i (.idx v1 v3 (oI) 12) <|
 .i (.idx v1 v3 (oI) 13) <|
 .i (.call f_ks [aI 11,.vi .i64 (.bin .sub .i64 (.z 0) v12),aI 13] [.b] 14) <|
 .ite (.not v14)
 (.esc <| .done [.vb .ff])
 (
 .next [aP 9]))
 (.esc <| .done [.vb .tt])))))
def R_k1n : R :=
 .loop 2 [.z 0] <|
 .ite (aL v2 (.z 3))
 (
 .i (.idx v0 v2 (.one .b) 3) <|
 .ite v3
 (
 .i (.idx v1 v2 (oI) 4) <|
 .ite (.not (.cmp .eq v4 (.z 0)))
 (.esc <| .done [.vb .ff])
 (
 .next [aP 2]))
 (
 .next [aP 2]))
 (.esc <| .done [.vb .tt])
def R_k1o : R :=
 .ite (.not (.cmp .eq (.len v4) v0))
 aF
 (
 .loop 5 [.z 0] <|
 .ite (aL v5 (.len v4))
 (
 .i (.idx v4 v5 (oI) 6) <|
 .i (.call f_ks [aI 6,aZ 0,aZ 300] [.b] 7) <|
 .ite (.not v7)
 (.esc <| .done [.vb .ff])
 (
 .next [aP 5]))
 (.esc <| .done [.vb .tt]))
def R_k1p : R :=
 .ite (.not (.cmp .eq (.len v11) (.len v2)))
 aF
 (
 .loop 12 [.z 0] <|
 .ite (aL v12 (.len v11))
 (
 .i (.idx v11 v12 (.g [.b,.s,.s]) 13) <|
 .ite (.not v13)
 (
 .ite (aL (.z 0) (.bin .add .i64 (.len v14) (.len v15)))
 (.esc <| .done [.vb .ff])
 (
 .ite v13
 (
 .i (.call f_k1m [aS 8,aS 2,aS 4,aI 12,aS 14] [.b] 16) <|
 .ite (.not v16)
 (.esc <| .done [.vb .ff])
 (
 .i (.call f_k1n [aS 5,aS 14] [.b] 17) <|
 .ite (.not v17)
 (.esc <| .done [.vb .ff])
 (
 .i (.call f_k1o [aI 0,aS 1,aS 2,aS 3,aS 15] [.b] 18) <|
 .ite (.not v18)
 (.esc <| .done [.vb .ff])
 (
 .next [aP 12]))))
 (
 .next [aP 12])))
 (
 .ite v13
 (
 .i (.call f_k1m [aS 8,aS 2,aS 4,aI 12,aS 14] [.b] 16) <|
 .ite (.not v16)
 (.esc <| .done [.vb .ff])
 (
 .i (.call f_k1n [aS 5,aS 14] [.b] 17) <|
 .ite (.not v17)
 (.esc <| .done [.vb .ff])
 (
 .i (.call f_k1o [aI 0,aS 1,aS 2,aS 3,aS 15] [.b] 18) <|
 .ite (.not v18)
 (.esc <| .done [.vb .ff])
 (
 .next [aP 12]))))
 (
 .next [aP 12])))
 (.esc <| .done [.vb .tt]))
def R_k1q : R :=
 .i (.call f_kt [aS 0,aZ 2,aZ 9] [.b] 1) <|
 .done [aB 1]
def R_k1r : R :=
 .i (.call f_ks [aI 4,aZ 0,.vi .i64 (.bin .sub .i64 v0 (.z 1))] [.b] 8) <|
 .ite v8
 (
 .i (.call f_ks [aI 5,aZ 1,aZ 300] [.b] 9) <|
 .ite v9
 (
 .i (.call f_ks [aI 6,aZ 0,.vi .i64 (.bin .sub .i64 (.len v1) (.z 1))] [.b] 10) <|
 .ite v10
 (
 .i (.call f_k1q [aS 7] [.b] 11) <|
 .done [aB 11])
 aF)
 aF)
 aF
def R_k1s : R :=
 .loop 6 [.z 0,.z 0] <|
 .ite (aL v7 (.len v5))
 (
 .i (.idx v5 v7 (.g [.b,.s,.s]) 8) <|
 .ite v8
 (
 .next [aP 6,aP 7])
 (
 .next [v6,aP 7]))
 (.esc <| .done [aI 6])
def R_k1t : R :=
 .i (.call f_ks [aI 7,aZ 0,aZ 200] [.b] 12) <|
 .ite (.not v12)
 aF
 (
 .i (.call f_ky [aS 8] [.b] 13) <|
 .ite (.not v13)
 aF
 (
 .i (.call f_k1j [aI 0,aS 1,aS 2,aS 3,aS 9] [.b] 14) <|
 .ite (.not v14)
 aF
 (
 .i (.call f_k1p [aI 0,aS 1,aS 2,aS 3,aS 4,aS 5,aB 6,aI 7,aS 8,aS 9,aS 10,aS 11] [.b] 15) <|
 .ite (.not v15)
 aF
 (
 .loop 16 [.z 0] <|
 .ite (aL v16 (.len v10))
 (
 .i (.idx v10 v16 (.g [.i .i64,.i .i64,.i .i64,.s]) 17) <|
 .i (.call f_k1r [aI 0,aS 1,aS 2,aS 3,aI 17,aI 18,aI 19,aS 20] [.b] 21) <|
 .ite (.not v21)
 (.esc <| .done [.vb .ff])
 (
 .ite (aL (.z 0) v16)
 (
 .i (.idx v10 (.bin .sub .i64 v16 (.z 1)) (.g [.i .i64,.i .i64,.i .i64,.s]) 22) <|
 .i (.idx v10 v16 (.g [.i .i64,.i .i64,.i .i64,.s]) 26) <|
 .ite (.cmp .le v26 v22)
 (.esc <| .done [.vb .ff])
 (
 .next [aP 16]))
 (
 .next [aP 16])))
 (
 .esc <|
 .ite v6
 aT
 (
 .ite (.cmp .eq (.len v10) (.z 0))
 (
 .i (.call f_k1s [aB 6,aI 7,aS 8,aS 9,aS 10,aS 11] sI 17) <|
 .done [.vb (.cmp .eq v17 (.z 0))])
 aF))))))
def R_k1u : R :=
 .i (.call f_k10 [aI 0,aS 1,aS 2,aS 3] [.b] 10) <|
 .ite (.not v10)
 aF
 (
 .i (.call f_k1f [aS 1] [.s,.s] 11) <|
 .i (.call f_k1t [aI 0,aS 1,aS 2,aS 3,aS 11,aS 12,aB 4,aI 5,aS 6,aS 7,aS 8,aS 9] [.b] 13) <|
 .done [aB 13])
def R_k1v : R :=
 .i (.chk (.cmp .le (.len v1) (.z 8796093022208))) <|
 .i (.head 1 v1) <|
 .i (.chk (.cmp .le (.len (.app .nil v1)) (.z 8796093022208))) <|
 .done [aI 0,.s (.app .nil v1)]
def R_k1w : R :=
 .loop 1 [.nil,.z 0] <|
 .ite (aL v2 (.len v0))
 (
 .i (.idx v0 v2 (.g [.i .i64,.i .i64,.s]) 3) <|
 .i (.idx v0 v2 (.g [.i .i64,.i .i64,.s]) 6) <|
 .i (.call f_k1v [aI 7,aS 8] [.i .i64,.s] 9) <|
 .i (.chk (.cmp .le (.len (.app v1 (.cons (.g (.cons (aI 3) (.cons (aI 9) (.cons (aS 10) .nil)))) .nil))) (.z 1759218604441))) <|
 .next [.app v1 (.cons (.g (.cons (aI 3) (.cons (aI 9) (.cons (aS 10) .nil)))) .nil),aP 2])
 (.esc <| .done [aS 1])
def R_k1x : R :=
 .i (.chk (.cmp .le (.len v2) (.z 8796093022208))) <|
 .i (.head 1 v2) <|
 .i (.chk (.cmp .le (.len (.app .nil v2)) (.z 8796093022208))) <|
 .i (.call f_k1w [aS 3] [.s] 7) <|
 .done [aZ 4,aI 6,aZ 0,aI 1,aZ 0,aZ 0,aZ 0,.s .nil,.s (.app .nil v2),.s .nil,aS 7]
def R_k1y : R :=
 .loop 10 [.nil,.z 0] <|
 .ite (aL v11 (.len v2))
 (
 .i (.call f_k1x [aB 4,aI 5,aS 6,aS 7,aS 8,aS 9,aI 11] [.i .i64,.i .i64,.i .i64,.i .i64,.i .i64,.i .i64,.i .i64,.s,.s,.s,.s] 12) <|
 .i (.chk (.cmp .le (.len (.app v10 (.cons (.g (.cons (aI 12) (.cons (aI 13) (.cons (aI 14) (.cons (aI 15) (.cons (aI 16) (.cons (aI 17) (.cons (aI 18) (.cons (aS 19) (.cons (aS 20) (.cons (aS 21) (.cons (aS 22) .nil)))))))))))) .nil))) (.z 462952264326))) <|
 .next [.app v10 (.cons (.g (.cons (aI 12) (.cons (aI 13) (.cons (aI 14) (.cons (aI 15) (.cons (aI 16) (.cons (aI 17) (.cons (aI 18) (.cons (aS 19) (.cons (aS 20) (.cons (aS 21) (.cons (aS 22) .nil)))))))))))) .nil),aP 11])
 (.esc <| .done [aS 10])
def R_k1z : R :=
 .ite (.not v4)
 (.done [.s .nil])
 (
 .i (.call f_k1y [aI 0,aS 1,aS 2,aS 3,aB 4,aI 5,aS 6,aS 7,aS 8,aS 9] [.s] 10) <|
 .loop 11 [v10,.z 0] <|
 .ite (aL v12 (.len v2))
 (
 .ite (aL (.z 0) (.len v8))
 (
 .i (.chk (.cmp .le (.len (.app v11 (.cons (.g (.cons (aZ 2) (.cons (aI 12) (.cons (aZ 0) (.cons (aI 5) (.cons (aZ 0) (.cons (aZ 0) (.cons (aZ 0) (.cons (.s .nil) (.cons (.s .nil) (.cons (.s .nil) (.cons (.s .nil) .nil)))))))))))) .nil))) (.z 462952264326))) <|
 .next [.app v11 (.cons (.g (.cons (aZ 2) (.cons (aI 12) (.cons (aZ 0) (.cons (aI 5) (.cons (aZ 0) (.cons (aZ 0) (.cons (aZ 0) (.cons (.s .nil) (.cons (.s .nil) (.cons (.s .nil) (.cons (.s .nil) .nil)))))))))))) .nil),aP 12])
 (
 .i (.call f_k1s [aB 4,aI 5,aS 6,aS 7,aS 8,aS 9] sI 13) <|
 .ite (aL (.z 0) v13)
 (
 .i (.chk (.cmp .le (.len (.app v11 (.cons (.g (.cons (aZ 2) (.cons (aI 12) (.cons (aZ 0) (.cons (aI 5) (.cons (aZ 0) (.cons (aZ 0) (.cons (aZ 0) (.cons (.s .nil) (.cons (.s .nil) (.cons (.s .nil) (.cons (.s .nil) .nil)))))))))))) .nil))) (.z 462952264326))) <|
 .next [.app v11 (.cons (.g (.cons (aZ 2) (.cons (aI 12) (.cons (aZ 0) (.cons (aI 5) (.cons (aZ 0) (.cons (aZ 0) (.cons (aZ 0) (.cons (.s .nil) (.cons (.s .nil) (.cons (.s .nil) (.cons (.s .nil) .nil)))))))))))) .nil),aP 12])
 (.esc <| .done [aS 11])))
 (.esc <| .done [aS 11]))
def R_k20 : R :=
 .i (.call f_k1u [aI 0,aS 1,aS 2,aS 3,aB 4,aI 5,aS 6,aS 7,aS 8,aS 9] [.b] 10) <|
 .ite (.not v10)
 (.done [.s .nil])
 (
 .i (.call f_k1z [aI 0,aS 1,aS 2,aS 3,aB 4,aI 5,aS 6,aS 7,aS 8,aS 9] [.s] 11) <|
 .done [aS 11])
def R_k21 : R :=
 .ite (.cmp .le v1 v0)
 (.done [.vb (.cmp .le v0 v2)])
 aF
def R_k22 : R :=
 .loop 2 [.z 0] <|
 .ite (aL v2 (.len v0))
 (
 .i (.idx v0 v2 (.one .s) 3) <|
 .i (.callv (.da 1) [aS 3] [none] [.b] 4) <|
 .ite v4
 (.esc <| .done [aI 2])
 (
 .next [aP 2]))
 (.esc <| .done [aZ (-1)])
def R_k23 : R :=
 .i (.call f_k22 [aS 0,.da 1] sI 2) <|
 .done [.vb (.cmp .le (.z 0) v2)]
def R_k24 : R :=
 .i (.get (.da 1) (.q sI) 2) <|
 .i (.get (.da 1) (.q sI) 3) <|
 .i (.call f_k21 [aI 0,.vi .i64 (.bin .sub .i64 (.z 0) v2),aI 3] [.b] 4) <|
 .done [.vb (.not v4)]
def R_k25 : R :=
 .loop 2 [.z 0] <|
 .ite (aL v2 (.len v0))
 (
 .i (.idx v0 v2 (oI) 3) <|
 .i (.callv (.da 1) [aI 3] [none] [.b] 4) <|
 .ite v4
 (.esc <| .done [aI 2])
 (
 .next [aP 2]))
 (.esc <| .done [aZ (-1)])
def R_k26 : R :=
 .i (.call f_k25 [aS 0,.da 1] sI 2) <|
 .done [.vb (.cmp .le (.z 0) v2)]
def R_k27 : R :=
 .ite (.cmp .eq (.len v0) v1)
 (
 .i (.call f_k26 [aS 0,.fn f_k24 (.cons (.q (.cons (aI 2) .nil)) .nil)] [.b] 3) <|
 .done [.vb (.not v3)])
 aF
def R_k28 : R :=
 .i (.call f_k27 [aS 0,aZ 3,aZ 2] [.b] 3) <|
 .ite v3
 (
 .i (.call f_k27 [aS 1,aZ 2,aZ 2] [.b] 4) <|
 .ite v4
 (
 .i (.call f_k21 [aI 2,aZ (-20),aZ 20] [.b] 5) <|
 .done [aB 5])
 aF)
 aF
def R_k29 : R :=
 .ite (.not (.cmp .eq (.len v0) (.len v1)))
 aF
 (
 .loop 2 [.z 0] <|
 .ite (aL v2 (.len v0))
 (
 .i (.idx v0 v2 (oI) 3) <|
 .i (.idx v1 v2 (oI) 4) <|
 .ite (.not (.cmp .eq v3 v4))
 (.esc <| .done [.vb .ff])
 (
 .next [aP 2]))
 (.esc <| .done [.vb .tt]))
def R_k2a : R :=
 .ite (.cmp .eq v2 v5)
 (
 .i (.call f_k29 [aS 0,aS 3] [.b] 6) <|
 .ite v6
 (
 .i (.call f_k29 [aS 1,aS 4] [.b] 7) <|
 .done [aB 7])
 aF)
 aF
def R_k2b : R :=
 .ite (.cmp .eq v0 (.z 1))
 (
 .i (.call f_k21 [aI 2,aZ 1,aZ 6] [.b] 6) <|
 .ite v6
 (
 .ite (.cmp .eq v1 (.z 0))
 (
 .i (.call f_k28 [aS 3,aS 4,aI 5] [.b] 7) <|
 .done [aB 7])
 aF)
 aF)
 (
 .ite (.cmp .eq v0 (.z 2))
 (
 .i (.call f_k21 [aI 1,aZ 0,aZ 2] [.b] 6) <|
 .ite v6
 (
 .ite (.cmp .eq v2 (.z 0))
 (
 .i (.call f_k28 [aS 3,aS 4,aI 5] [.b] 7) <|
 .done [aB 7])
 aF)
 aF)
 (
 .ite (.cmp .eq v0 (.z 3))
 (
 .ite (.cmp .eq v1 (.z 0))
 (
 .ite (.cmp .eq v2 (.z 0))
 (
 .i (.call f_k28 [aS 3,aS 4,aI 5] [.b] 6) <|
 .done [aB 6])
 aF)
 aF)
 (
 .ite (.cmp .eq v0 (.z 4))
 (
 .ite (.cmp .eq v1 (.z 0))
 (
 .ite (.cmp .eq v2 (.z 0))
 (
 .i (.call f_k2a [aS 3,aS 4,aI 5,.s .nil,.s .nil,aZ 0] [.b] 6) <|
 .done [aB 6])
 aF)
 aF)
 aF)))
def R_k2c : R :=
 .loop 1 [.z 0,.z 0] <|
 .ite (aL v2 (.len v0))
 (
 .i (.idx v0 v2 (.g [.i .i64,.i .i64,.i .i64,.s,.s,.i .i64]) 3) <|
 .i (.call f_k2b [aI 3,aI 4,aI 5,aS 6,aS 7,aI 8] [.b] 9) <|
 .ite (.not v9)
 (.esc <| .done [.vb .ff])
 (
 .ite (.cmp .eq v3 (.z 1))
 (
 .next [aP 1,aP 2])
 (
 .next [v1,aP 2])))
 (
 .esc <|
 .ite (.cmp .le (.len v0) (.z 6))
 (.done [.vb (.cmp .le v1 (.z 3))])
 aF)
def R_k2d : R :=
 .i (.call f_k2c [aS 0] [.b] 1) <|
 .done [.vb (.not v1)]
def R_k2e : R :=
 .i (.call f_k21 [.vi .i64 (.len v0),aZ 1,aZ 4] [.b] 1) <|
 .ite v1
 (
 .i (.call f_k23 [aS 0,.fn f_k2d .nil] [.b] 2) <|
 .done [.vb (.not v2)])
 aF
def R_k2f : R :=
 .done [aS 4,aS 2]
def R_k2g : R :=
 .i (.call f_k21 [aI 0,aZ 0,aZ 50] [.b] 1) <|
 .done [.vb (.not v1)]
def R_k2h : R :=
 .i (.call f_k27 [aS 0,aZ 3,aZ 10000] [.b] 1) <|
 .done [aB 1]
def R_k2i : R :=
 .i (.call f_k2h [aS 0] [.b] 2) <|
 .ite v2
 (
 .i (.call f_k21 [.vi .i64 (.len v1),aZ 1,aZ 3] [.b] 3) <|
 .ite v3
 (
 .i (.call f_k26 [aS 1,.fn f_k2g .nil] [.b] 4) <|
 .done [.vb (.not v4)])
 aF)
 aF
def R_k2j : R :=
 .i (.call f_k21 [aI 0,aZ 1,aZ 4] [.b] 4) <|
 .ite v4
 (
 .i (.call f_k2e [aS 1] [.b] 5) <|
 .ite v5
 (
 .i (.call f_k27 [aS 3,aZ 3,aZ 1000] [.b] 6) <|
 .ite v6
 (
 .i (.call f_k2f [aI 0,aS 1,aS 2,aS 3,aS 3] [.s,.s] 7) <|
 .i (.call f_k2i [aS 7,aS 8] [.b] 9) <|
 .done [aB 9])
 aF)
 aF)
 aF
def R_k2k : R :=
 .done [.s (.cons (aZ 0) (.cons (aZ 0) (.cons (aZ 0) .nil))),.s (.cons (aZ 0) (.cons (aZ 0) .nil)),aZ 0]
def R_k2l : R :=
 .i (.call f_k21 [aI 0,aZ 0,aZ 2] [.b] 1) <|
 .ite (.not v1)
 (.done [.s .nil,.s .nil,aZ 0])
 (
 .i (.call f_k2k [] [.s,.s,.i .i64] 2) <|
 .i (.chk (.cmp .le (.z 0) v0)) <|
 .i (.chk (aL v0 (.len v2))) <|
 .i (.idx v2 v0 (oI) 5) <|
 .done [.s (.set v2 v0 (aZ 1)),aS 3,aI 4])
def R_k2m : R :=
 .nilq 1 v0
 (.done [.s .nil])
 (
 .i (.chk (.cmp .le (.len v0) (.z 8796093022208))) <|
 .i (.head 1 v0) <|
 .i (.chk (.cmp .le (.len (.app .nil v0)) (.z 8796093022208))) <|
 .done [.s (.app .nil v0)])
def R_k2n : R :=
 .i (.call f_k2m [aS 0] [.s] 3) <|
 .i (.call f_k2m [aS 1] [.s] 4) <|
 .done [aS 3,aS 4,aI 2]
def R_k2o : R :=
 .loop 1 [.nil,.z 0] <|
 .ite (aL v2 (.len v0))
 (
 .i (.idx v0 v2 (.g [.s,.s,.i .i64]) 3) <|
 .i (.call f_k2n [aS 3,aS 4,aI 5] [.s,.s,.i .i64] 6) <|
 .i (.fl v6) <|
 .i (.fl v7) <|
 .i (.chk (.cmp .le (.len (.app v1 (.cons (.g (.cons (aS 6) (.cons (aS 7) (.cons (aI 8) .nil)))) .nil))) (.z 1256584717458))) <|
 .next [.app v1 (.cons (.g (.cons (aS 6) (.cons (aS 7) (.cons (aI 8) .nil)))) .nil),aP 2])
 (.esc <| .done [aS 1])
def R_k2p : R :=
 .i (.call f_k27 [aS 0,aZ 3,aZ 10000000] [.b] 3) <|
 .ite v3
 (
 .i (.call f_k27 [aS 1,aZ 2,aZ 10000000] [.b] 4) <|
 .ite v4
 (
 .i (.call f_k21 [aI 2,aZ (-10000000),aZ 10000000] [.b] 5) <|
 .done [aB 5])
 aF)
 aF
def R_k2q : R :=
 .loop 2 [.z 0] <|
 .ite (aL v2 (.len v0))
 (
 .i (.idx v0 v2 (.g [.s,.s,.i .i64]) 3) <|
 .i (.callv (.da 1) [aS 3,aS 4,aI 5] [some 3] [.b] 6) <|
 .ite v6
 (.esc <| .done [aI 2])
 (
 .next [aP 2]))
 (.esc <| .done [aZ (-1)])
def R_k2r : R :=
 .i (.call f_k2q [aS 0,.da 1] sI 2) <|
 .done [.vb (.cmp .le (.z 0) v2)]
def R_k2s : R :=
 .i (.call f_k2p [aS 0,aS 1,aI 2] [.b] 3) <|
 .done [.vb (.not v3)]
def R_k2t : R :=
 .loop 7 [v0,.z 0] <|
 .ite (aL v8 (.len v3))
 (
 .i (.idx v3 v8 (oI) 9) <|
 .i (.chk (.cmp .le (.z 0) v8)) <|
 .i (.chk (aL v8 (.len v7))) <|
 .i (.idx v7 v8 (oI) 10) <|
 .i (.chk (.cmp .le (.z 0) v8)) <|
 .i (.chk (aL v8 (.len v7))) <|
 .i (.idx v7 v8 (oI) 11) <|
 .next [.set v7 v8 (.vi .i64 (.bin .add .i64 v10 (.bin .mul .i64 v6 v9))),aP 8])
 (
 .esc <|
 .loop 9 [v1,.z 0] <|
 .ite (aL v10 (.len v4))
 (
 .i (.idx v4 v10 (oI) 11) <|
 .i (.chk (.cmp .le (.z 0) v10)) <|
 .i (.chk (aL v10 (.len v9))) <|
 .i (.idx v9 v10 (oI) 12) <|
 .i (.chk (.cmp .le (.z 0) v10)) <|
 .i (.chk (aL v10 (.len v9))) <|
 .i (.idx v9 v10 (oI) 13) <|
 .next [.set v9 v10 (.vi .i64 (.bin .add .i64 v12 (.bin .mul .i64 v6 v11))),aP 10])
 (.esc <| .done [.vi .i64 (.bin .add .i64 v2 (.bin .mul .i64 v6 v5)),aS 7,aS 9]))
def R_k2u : R :=
 .i (.call f_k2p [aS 0,aS 1,aI 2] [.b] 3) <|
 .ite (.not v3)
 (.done [.s .nil,.s .nil,aZ 0])
 (.done [aS 0,aS 1,aI 2])
def R_k2v : R :=
 .i (.call f_k2p [aS 0,aS 1,aI 2] [.b] 4) <|
 .ite (.not v4)
 (.done [.s .nil,.s .nil,aZ 0])
 (
 .ite (.not (.cmp .eq (.len v3) (.z 3)))
 (.done [.s .nil,.s .nil,aZ 0])
 (
 .i (.call f_k2r [aS 3,.fn f_k2s .nil] [.b] 5) <|
 .ite v5
 (.done [.s .nil,.s .nil,aZ 0])
 (
 .i (.call f_k2k [] [.s,.s,.i .i64] 6) <|
 .loop 9 [v6,v7,.z 0,v8] <|
 .ite (aL v11 (.len v3))
 (
 .i (.idx v3 v11 (.g [.s,.s,.i .i64]) 13) <|
 .i (.idx v0 v11 (oI) 16) <|
 .i (.call f_k2t [aS 9,aS 10,aI 12,aS 13,aS 14,aI 15,aI 16] [.i .i64,.s,.s] 17) <|
 .next [v18,v19,aP 11,v17])
 (
 .esc <|
 .i (.call f_k2t [aS 9,aS 10,aI 12,.s .nil,aS 1,aI 2,aZ 1] [.i .i64,.s,.s] 13) <|
 .i (.call f_k2u [aS 14,aS 15,aI 13] [.s,.s,.i .i64] 16) <|
 .done [aS 16,aS 17,aI 18]))))
def R_k2w : R :=
 .i (.call f_k2p [aS 0,aS 1,aI 2] [.b] 4) <|
 .ite (.not v4)
 (.done [.s .nil,.s .nil,aZ 0])
 (
 .i (.call f_k21 [aI 3,aZ (-10000000),aZ 10000000] [.b] 5) <|
 .ite (.not v5)
 (.done [.s .nil,.s .nil,aZ 0])
 (
 .i (.call f_k2k [] [.s,.s,.i .i64] 6) <|
 .i (.call f_k2t [aS 6,aS 7,aI 8,aS 0,aS 1,aI 2,aI 3] [.i .i64,.s,.s] 9) <|
 .i (.call f_k2u [aS 10,aS 11,aI 9] [.s,.s,.i .i64] 12) <|
 .done [aS 12,aS 13,aI 14]))
def R_k2x : R :=
 .i (.call f_k2p [aS 0,aS 1,aI 2] [.b] 6) <|
 .ite (.not v6)
 (.done [.s .nil,.s .nil,aZ 0])
 (
 .i (.call f_k2p [aS 3,aS 4,aI 5] [.b] 7) <|
 .ite (.not v7)
 (.done [.s .nil,.s .nil,aZ 0])
 (
 .i (.call f_k2k [] [.s,.s,.i .i64] 8) <|
 .i (.call f_k2t [aS 8,aS 9,aI 10,aS 0,aS 1,aI 2,aZ 1] [.i .i64,.s,.s] 11) <|
 .i (.call f_k2t [aS 12,aS 13,aI 11,aS 3,aS 4,aI 5,aZ 1] [.i .i64,.s,.s] 14) <|
 .i (.call f_k2u [aS 15,aS 16,aI 14] [.s,.s,.i .i64] 17) <|
 .done [aS 17,aS 18,aI 19]))
def R_k2y : R :=
 .loop 6 [v1,v2,v3,v4,v5,v0] <|
 .ite (aL v7 (.len v11))
 (
 .i (.idx v11 v7 (.g [.i .i64,.i .i64,.i .i64,.s,.s,.i .i64]) 12) <|
 .ite (.cmp .eq v12 (.z 4))
 (
 .i (.call f_k2o [aS 8] [.s] 18) <|
 .i (.chk (.cmp .le (.len (.app v6 (.cons (.g (.cons (aS 18) (.cons (.s .nil) (.cons (.s .nil) (.cons (.vb .tt) .nil))))) .nil))) (.z 879609302220))) <|
 .esc <|
 .done [aS 11,.s (.app v6 (.cons (.g (.cons (aS 18) (.cons (.s .nil) (.cons (.s .nil) (.cons (.vb .tt) .nil))))) .nil))])
 (
 .i (.call f_k2v [aS 15,aS 16,aI 17,aS 9] [.s,.s,.i .i64] 18) <|
 .ite (.cmp .eq v12 (.z 1))
 (
 .i (.call f_k2o [aS 8] [.s] 21) <|
 .i (.chk (.cmp .le (.len (.app v21 (.cons (.g (.cons (aS 18) (.cons (aS 19) (.cons (aI 20) .nil)))) .nil))) (.z 1256584717458))) <|
 .i (.call f_k2o [aS 9] [.s] 22) <|
 .i (.call f_k2o [aS 10] [.s] 23) <|
 .i (.call f_k2y [aS 11,aS 6,.vi .i64 (aP 7),.s (.app v21 (.cons (.g (.cons (aS 18) (.cons (aS 19) (.cons (aI 20) .nil)))) .nil)),aS 22,aS 23] [.s,.s] 24) <|
 .i (.call f_k2w [aS 18,aS 19,aI 20,aZ (-1)] [.s,.s,.i .i64] 26) <|
 .i (.call f_k2o [aS 8] [.s] 29) <|
 .i (.chk (.cmp .le (.len (.app v29 (.cons (.g (.cons (aS 26) (.cons (aS 27) (.cons (.vi .i64 (.bin .sub .i64 v28 (.z 1))) .nil)))) .nil))) (.z 1256584717458))) <|
 .next [v25,.bin .add .i64 (.bin .add .i64 v7 v14) (.z 1),.app v29 (.cons (.g (.cons (aS 26) (.cons (aS 27) (.cons (.vi .i64 (.bin .sub .i64 v28 (.z 1))) .nil)))) .nil),v9,v10,v24])
 (
 .ite (.cmp .eq v12 (.z 2))
 (
 .i (.call f_k2o [aS 9] [.s] 21) <|
 .i (.chk (.cmp .le (.z 0) v13)) <|
 .i (.chk (aL v13 (.len v21))) <|
 .i (.idx v21 v13 (.g [.s,.s,.i .i64]) 22) <|
 .i (.call f_k2x [aS 22,aS 23,aI 24,aS 18,aS 19,aI 20] [.s,.s,.i .i64] 25) <|
 .i (.chk (.cmp .le (.z 0) v13)) <|
 .i (.chk (aL v13 (.len v21))) <|
 .i (.idx v21 v13 (.g [.s,.s,.i .i64]) 28) <|
 .next [v6,aP 7,v8,.set v21 v13 (.g (.cons (aS 25) (.cons (aS 26) (.cons (aI 27) .nil)))),v10,v11])
 (
 .ite (.cmp .eq v12 (.z 3))
 (
 .i (.call f_k2o [aS 10] [.s] 21) <|
 .i (.chk (.cmp .le (.len (.app v21 (.cons (.g (.cons (aS 18) (.cons (aS 19) (.cons (aI 20) .nil)))) .nil))) (.z 1256584717458))) <|
 .next [v6,aP 7,v8,v9,.app v21 (.cons (.g (.cons (aS 18) (.cons (aS 19) (.cons (aI 20) .nil)))) .nil),v11])
 (
 .next [v6,aP 7,v8,v9,v10,v11])))))
 (
 .esc <|
 .i (.call f_k2o [aS 8] [.s] 12) <|
 .i (.call f_k2o [aS 10] [.s] 13) <|
 .loop 14 [.nil,.z 0] <|
 .ite (aL v15 (.len v9))
 (
 .i (.idx v9 v15 (.g [.s,.s,.i .i64]) 16) <|
 .i (.call f_k2l [aI 15] [.s,.s,.i .i64] 19) <|
 .i (.call f_k2w [aS 19,aS 20,aI 21,aZ (-1)] [.s,.s,.i .i64] 22) <|
 .i (.call f_k2x [aS 16,aS 17,aI 18,aS 22,aS 23,aI 24] [.s,.s,.i .i64] 25) <|
 .i (.fl v25) <|
 .i (.fl v26) <|
 .i (.chk (.cmp .le (.len (.app v14 (.cons (.g (.cons (aS 25) (.cons (aS 26) (.cons (aI 27) .nil)))) .nil))) (.z 1256584717458))) <|
 .next [.app v14 (.cons (.g (.cons (aS 25) (.cons (aS 26) (.cons (aI 27) .nil)))) .nil),aP 15])
 (
 .esc <|
 .i (.chk (.cmp .le (.len (.app v6 (.cons (.g (.cons (aS 12) (.cons (aS 14) (.cons (aS 13) (.cons (.vb .ff) .nil))))) .nil))) (.z 879609302220))) <|
 .done [aS 11,.s (.app v6 (.cons (.g (.cons (aS 12) (.cons (aS 14) (.cons (aS 13) (.cons (.vb .ff) .nil))))) .nil))]))
def R_k2z : R :=
 .i (.call f_k2c [aS 0] [.b] 1) <|
 .ite (.not v1)
 (.done [.s .nil])
 (
 .loop 2 [.nil,.z 0] <|
 .ite (aL v3 (.z 3))
 (
 .i (.call f_k2l [aI 3] [.s,.s,.i .i64] 4) <|
 .i (.fl v4) <|
 .i (.fl v5) <|
 .i (.chk (.cmp .le (.len (.app v2 (.cons (.g (.cons (aS 4) (.cons (aS 5) (.cons (aI 6) .nil)))) .nil))) (.z 1256584717458))) <|
 .next [.app v2 (.cons (.g (.cons (aS 4) (.cons (aS 5) (.cons (aI 6) .nil)))) .nil),aP 3])
 (
 .esc <|
 .i (.call f_k2y [aS 0,.s .nil,aZ 0,.s .nil,aS 2,.s .nil] [.s,.s] 4) <|
 .done [aS 5]))
def R_k30 : R :=
 .done [.vb (.not (.cmp .eq v0 (.z 0)))]
def R_k31 : R :=
 .i (.call f_k2m [aS 0] [.s] 3) <|
 .i (.call f_k25 [aS 3,.fn f_k30 .nil] sI 4) <|
 .ite (.cmp .le (.z 0) v4)
 (
 .i (.chk (.cmp .le (.z 0) v4)) <|
 .i (.chk (aL v4 (.len v3))) <|
 .i (.idx v3 v4 (oI) 5) <|
 .ite (aL v5 (.z 0))
 (
 .loop 6 [v3,.z 0] <|
 .ite (aL v7 (.len v3))
 (
 .i (.chk (.cmp .le (.z 0) v7)) <|
 .i (.chk (aL v7 (.len v6))) <|
 .i (.idx v6 v7 (oI) 8) <|
 .i (.chk (.cmp .le (.z 0) v7)) <|
 .i (.chk (aL v7 (.len v6))) <|
 .i (.idx v6 v7 (oI) 9) <|
 .next [.set v6 v7 (.vi .i64 (.bin .sub .i64 (.z 0) v8)),aP 7])
 (.esc <| .done [aS 6]))
 (.done [aS 3]))
 (.done [aS 3])
def R_k32 : R :=
 .done [.vb (.not (.cmp .eq v0 (.z 0)))]
def R_k33 : R :=
 .i (.call f_k26 [aS 0,.fn f_k32 .nil] [.b] 1) <|
 .done [.vb (.not v1)]
def R_k34 : R :=
 .i (.get (.da 1) (.q [.s]) 2) <|
 .i (.call f_k29 [aS 0,aS 2] [.b] 3) <|
 .done [aB 3]
def R_k35 : R :=
 .loop 2 [.z 0] <|
 .ite (aL v2 (.len v0))
 (
 .i (.idx v0 v2 (.one .s) 3) <|
 .i (.callv (.da 1) [aS 3] [none] [.b] 4) <|
 .ite v4
 (.esc <| .done [aI 2])
 (
 .next [aP 2]))
 (.esc <| .done [aZ (-1)])
def R_k36 : R :=
 .i (.call f_k35 [aS 0,.fn f_k34 (.cons (.q (.cons (aS 1) .nil)) .nil)] sI 2) <|
 .done [aI 2]
def R_k37 : R :=
 .i (.call f_k2e [aS 0] [.b] 1) <|
 .ite (.not v1)
 (.done [.s .nil])
 (
 .loop 2 [.nil,.z 0] <|
 .ite (aL v3 (.z 3))
 (
 .i (.call f_k2l [aI 3] [.s,.s,.i .i64] 4) <|
 .i (.fl v4) <|
 .i (.chk (.cmp .le (.len (.app v2 (.cons (aS 4) .nil))) (.z 2932031007402))) <|
 .next [.app v2 (.cons (aS 4) .nil),aP 3])
 (
 .esc <|
 .loop 4 [v2,.z 0] <|
 .ite (aL v5 (.len v0))
 (
 .i (.idx v0 v5 (.one .s) 6) <|
 .i (.call f_k2z [aS 6] [.s] 7) <|
 .loop 8 [v4,.z 0] <|
 .ite (aL v9 (.len v7))
 (
 .i (.chk (.cmp .le (.z 0) v9)) <|
 .i (.chk (aL v9 (.len v7))) <|
 .i (.idx v7 v9 (.g [.s,.s,.s,.b]) 10) <|
 .loop 14 [v8,.z 0] <|
 .ite (aL v15 (.len v10))
 (
 .i (.idx v10 v15 (.g [.s,.s,.i .i64]) 16) <|
 .i (.call f_k31 [aS 16,aS 17,aI 18] [.s] 19) <|
 .i (.call f_k33 [aS 19] [.b] 20) <|
 .ite (.not v20)
 (
 .i (.call f_k36 [aS 14,aS 19] sI 21) <|
 .ite (aL v21 (.z 0))
 (
 .i (.fl v19) <|
 .i (.chk (.cmp .le (.len (.app v14 (.cons (aS 19) .nil))) (.z 2932031007402))) <|
 .next [.app v14 (.cons (aS 19) .nil),aP 15])
 (
 .next [v14,aP 15]))
 (
 .next [v14,aP 15]))
 (
 .esc <|
 .next [v14,aP 9]))
 (
 .esc <|
 .next [v8,aP 5]))
 (.esc <| .done [aS 4])))
def R_k38 : R :=
 .loop 2 [.cons (.vb .ff) (.cons (.vb .ff) (.cons (.vb .ff) .nil)),.z 0] <|
 .ite (aL v3 (.len v0))
 (
 .i (.idx v0 v3 (.one .s) 4) <|
 .i (.call f_k2z [aS 4] [.s] 5) <|
 .loop 6 [v2,.z 0] <|
 .ite (aL v7 (.len v5))
 (
 .i (.chk (.cmp .le (.z 0) v7)) <|
 .i (.chk (aL v7 (.len v5))) <|
 .i (.idx v5 v7 (.g [.s,.s,.s,.b]) 8) <|
 .loop 12 [v6,.z 0] <|
 .ite (aL v13 (.len v6))
 (
 .i (.chk (.cmp .le (.z 0) v13)) <|
 .i (.chk (aL v13 (.len v12))) <|
 .i (.idx v12 v13 (.one .b) 14) <|
 .ite v14
 (
 .i (.chk (.cmp .le (.z 0) v13)) <|
 .i (.chk (aL v13 (.len v12))) <|
 .i (.idx v12 v13 (.one .b) 15) <|
 .next [.set v12 v13 (.vb .tt),aP 13])
 (
 .i (.callv (.da 1) [aS 8,aS 9,aS 10,aB 11,aI 13] [some 4,none] [.b] 15) <|
 .i (.chk (.cmp .le (.z 0) v13)) <|
 .i (.chk (aL v13 (.len v12))) <|
 .i (.idx v12 v13 (.one .b) 16) <|
 .next [.set v12 v13 (aB 15),aP 13]))
 (
 .esc <|
 .next [v12,aP 7]))
 (
 .esc <|
 .next [v6,aP 3]))
 (.esc <| .done [aS 2])
def R_k39 : R :=
 .ite (aL v0 (.z 0))
 (
 .i (.chk .ff) <|
 .done [])
 (
 .ite (aL (.z 0) (.bin .sub .i64 v0 (.bin .sub .i64 (.z 0) (.z 0))))
 (
 .i (.chk (aL (.z 0) (.bin .sub .i64 v0 (.bin .sub .i64 (.z 0) (.z 0))))) <|
 .i (.chk (.cmp .le (.bin .sub .i64 v0 (.bin .sub .i64 (.z 0) (.z 0))) (.z 1256584717458))) <|
 .i (.chk (.cmp .le (.z 0) (.len (.rep (.bin .sub .i64 v0 (.bin .sub .i64 (.z 0) (.z 0))) (.g (.cons (.s .nil) (.cons (.s .nil) (.cons (aZ 0) .nil)))))))) <|
 .done [.s (.take (.rep (.bin .sub .i64 v0 (.bin .sub .i64 (.z 0) (.z 0))) (.g (.cons (.s .nil) (.cons (.s .nil) (.cons (aZ 0) .nil))))) (.z 0))])
 (.done [.s .nil]))
def R_k3a : R :=
 .loop 1 [.z 0,.z 0] <|
 .ite (aL v2 (.len v0))
 (
 .i (.idx v0 v2 (.one .s) 3) <|
 .ite (aL (.bin .add .i64 v1 (.len v3)) (.z 0))
 (
 .i (.chk .ff) <|
 .done [])
 (
 .next [.bin .add .i64 v1 (.len v3),aP 2]))
 (
 .esc <|
 .i (.call f_k39 [aI 1] [.s] 3) <|
 .loop 4 [v3,.z 0] <|
 .ite (aL v5 (.len v0))
 (
 .i (.idx v0 v5 (.one .s) 6) <|
 .i (.chk (.cmp .le (.len v6) (.z 1256584717458))) <|
 .i (.head 3 v6) <|
 .i (.chk (.cmp .le (.len (.app v4 v6)) (.z 1256584717458))) <|
 .next [.app v4 v6,aP 5])
 (.esc <| .done [aS 4]))
def R_k3b : R :=
 .i (.get (.da 3) (.q sI) 4) <|
 .i (.idx v0 v4 (oI) 5) <|
 .done [.vb (.not (.cmp .eq v5 (.z 0)))]
def R_k3c : R :=
 .i (.call f_k3a [.s (.cons (aS 1) (.cons (aS 2) .nil))] [.s] 5) <|
 .i (.call f_k2r [aS 5,.fn f_k3b (.cons (.q (.cons (aI 4) .nil)) .nil)] [.b] 6) <|
 .done [aB 6]
def R_k3d : R :=
 .i (.call f_k2e [aS 0] [.b] 1) <|
 .ite (.not v1)
 (.done [.s .nil])
 (
 .i (.call f_k38 [aS 0,.fn f_k3c .nil] [.s] 2) <|
 .done [aS 2])
def R_k3e : R :=
 .i (.call f_k37 [aS 0] [.s] 1) <|
 .i (.call f_k3d [aS 0] [.s] 2) <|
 .done [aS 0,aS 1,aS 2]
def R_k3f : R :=
 .loop 2 [.z 0] <|
 .ite (aL v2 (.len v0))
 (
 .i (.idx v0 v2 (.g [.i .i64,.i .i64,.s]) 3) <|
 .i (.callv (.da 1) [aI 3,aI 4,aS 5] [some 3] [.b] 6) <|
 .ite v6
 (.esc <| .done [aI 2])
 (
 .next [aP 2]))
 (.esc <| .done [aZ (-1)])
def R_k3g : R :=
 .i (.call f_k3f [aS 0,.da 1] sI 2) <|
 .done [.vb (.cmp .le (.z 0) v2)]
def R_k3h : R :=
 .ite (.cmp .eq v0 (.z 0))
 (.done [.vb (.cmp .eq (.len v1) (.z 0))])
 aF
def R_k3i : R :=
 .done [.s (.cons (.vc (.string (strV []))) (.cons (.vc (.string (strV [100,111,110,101]))) (.cons (.vc (.string (strV [115,116,111,112,112,101,100]))) (.cons (.vc (.string (strV [111,118,101,114]))) .nil))))]
def R_k3k : R :=
 .i (.call f_k21 [aI 0,aZ 1,aZ 3] [.b] 2) <|
 .ite (.not v2)
 (.done [.vc (.string (strV []))])
 (
 .ite (aL (.z 6) (.len v1))
 (.done [.vc (.string (strV []))])
 (
 .ite (.not (.cmp .eq v0 (.z 1)))
 (
 .ite (aL (.z 0) (.len v1))
 (.done [.vc (.string (strV []))])
 (
 .i (.call f_k27 [aS 1,.vi .i64 (.len v1),aZ 999999999999] [.b] 3) <|
 .ite (.not v3)
 (.done [.vc (.string (strV []))])
 (
 .i (.call f_k3i [] [.s] 4) <|
 .i (.chk (.cmp .le (.z 0) v0)) <|
 .i (.chk (aL v0 (.len v4))) <|
 .i (.idx v4 v0 (.one .d) 5) <|
 .i (.call f_k3j [aS 1] [.d] 6) <|
 .i (.prim .cat [.da 5,.da 6] .d 7) <|
 .done [.da 7])))
 (
 .i (.call f_k27 [aS 1,.vi .i64 (.len v1),aZ 999999999999] [.b] 3) <|
 .ite (.not v3)
 (.done [.vc (.string (strV []))])
 (
 .i (.call f_k3i [] [.s] 4) <|
 .i (.chk (.cmp .le (.z 0) v0)) <|
 .i (.chk (aL v0 (.len v4))) <|
 .i (.idx v4 v0 (.one .d) 5) <|
 .i (.call f_k3j [aS 1] [.d] 6) <|
 .i (.prim .cat [.da 5,.da 6] .d 7) <|
 .done [.da 7]))))
def R_k3l : R :=
 .i (.call f_k3k [aI 0,aS 1] [.d] 2) <|
 .i (.prim .seq [.da 2,.vc (.string (strV []))] .b 3) <|
 .done [.vb (.not v3)]
def R_k3m : R :=
 .ite (.cmp .eq v0 (.z 0))
 (
 .i (.call f_k3h [aI 1,aS 2] [.b] 3) <|
 .done [aB 3])
 (
 .i (.call f_k21 [aI 0,aZ 1,aZ 300] [.b] 3) <|
 .ite v3
 (
 .i (.call f_k3l [aI 1,aS 2] [.b] 4) <|
 .done [aB 4])
 aF)
def R_k3n : R :=
 .i (.call f_k3m [aI 0,aI 1,aS 2] [.b] 3) <|
 .done [.vb (.not v3)]
def R_k3o : R :=
 .ite (.cmp .eq (.len v4) v0)
 (
 .i (.call f_k3g [aS 4,.fn f_k3n .nil] [.b] 5) <|
 .done [.vb (.not v5)])
 aF
def R_k3p : R :=
 .i (.call f_k21 [aI 4,aZ 0,.vi .i64 (.bin .sub .i64 v0 (.z 1))] [.b] 5) <|
 .done [aB 5]
def R_k3q : R :=
 .i (.call f_k27 [aS 0,aZ 2,aZ 9] [.b] 1) <|
 .done [aB 1]
def R_k3r : R :=
 .i (.call f_k3p [aI 0,aS 1,aS 2,aS 3,aI 4] [.b] 8) <|
 .ite v8
 (
 .i (.call f_k21 [aI 6,aZ 0,.vi .i64 (.bin .sub .i64 (.len v1) (.z 1))] [.b] 9) <|
 .ite v9
 (
 .i (.call f_k21 [aI 5,aZ 1,aZ 300] [.b] 10) <|
 .ite v10
 (
 .i (.call f_k3q [aS 7] [.b] 11) <|
 .done [aB 11])
 aF)
 aF)
 aF
def R_k3s : R :=
 .i (.call f_k35 [aS 0,.da 1] sI 2) <|
 .done [.vb (.cmp .le (.z 0) v2)]
def R_k3t : R :=
 .i (.call f_k27 [aS 0,aZ 3,aZ 10000000] [.b] 1) <|
 .done [.vb (.not v1)]
def R_k3u : R :=
 .i (.call f_k3s [aS 0,.fn f_k3t .nil] [.b] 1) <|
 .done [.vb (.not v1)]
def R_k3v : R :=
 .i (.call f_k27 [aS 0,aZ 3,aZ 20000] [.b] 1) <|
 .done [aB 1]
def R_k3w : R :=
 .i (.call f_k2i [aS 0,aS 1] [.b] 5) <|
 .ite v5
 (
 .i (.call f_k3u [aS 2] [.b] 6) <|
 .ite v6
 (
 .i (.call f_k21 [aI 3,aZ 0,.vi .i64 (.bin .sub .i64 (.len v1) (.z 1))] [.b] 7) <|
 .ite v7
 (
 .i (.call f_k3v [aS 4] [.b] 8) <|
 .done [aB 8])
 aF)
 aF)
 aF
def R_k3x : R :=
 .loop 2 [.z 0,.z 0] <|
 .ite (aL v3 (.len v0))
 (
 .i (.idx v0 v3 (oI) 4) <|
 .i (.idx v1 v3 (oI) 5) <|
 .next [.bin .add .i64 v2 (.bin .mul .i64 v4 v5),aP 3])
 (.esc <| .done [aI 2])
def R_k3y : R :=
 .i (.get (.da 1) (.q [.s]) 3) <|
 .i (.call f_k3x [aS 0,aS 3] sI 4) <|
 .i (.get (.da 2) (.q sI) 5) <|
 .i (.get (.da 2) (.q sI) 6) <|
 .i (.call f_k21 [aI 4,.vi .i64 (.bin .sub .i64 (.z 0) v5),aI 6] [.b] 7) <|
 .done [.vb (.not v7)]
def R_k3z : R :=
 .i (.call f_k3w [aS 0,aS 1,aS 2,aI 3,aS 4] [.b] 5) <|
 .ite (.not v5)
 aF
 (
 .i (.idx v1 v3 (oI) 6) <|
 .i (.call f_k3s [aS 2,.fn f_k3y (.cons (.q (.cons (aS 4) .nil)) (.cons (.q (.cons (aI 6) .nil)) .nil))] [.b] 7) <|
 .done [.vb (.not v7)])
def R_k40 : R :=
 .loop 4 [.z 0] <|
 .ite (aL v4 (.len v3))
 (
 .i (.idx v3 v4 (oI) 5) <|
 .ite (.not (.cmp .eq v5 (.z 0)))
 (
 .i (.idx v2 v4 (.one .b) 6) <|
 .ite v6
 (.esc <| .done [.vb .ff])
 (
 .next [aP 4]))
 (
 .next [aP 4]))
 (.esc <| .done [.vb .tt])
def R_k41 : R :=
 .i (.call f_k3z [aS 3,aS 4,aS 1,aI 5,aS 6] [.b] 7) <|
 .ite v7
 (
 .i (.call f_k40 [aS 0,aS 1,aS 2,aS 6] [.b] 8) <|
 .done [aB 8])
 aF
def R_k42 : R :=
 .i (.call f_k21 [aI 0,aZ 0,aZ 300] [.b] 1) <|
 .done [.vb (.not v1)]
def R_k43 : R :=
 .ite (.cmp .eq (.len v4) v0)
 (
 .i (.call f_k26 [aS 4,.fn f_k42 .nil] [.b] 5) <|
 .done [.vb (.not v5)])
 aF
def R_k44 : R :=
 .ite (.not v0)
 (
 .ite (.cmp .eq (.len v1) (.z 0))
 (.done [.vb (.cmp .eq (.len v2) (.z 0))])
 aF)
 aF
def R_k45 : R :=
 .i (.call f_k21 [aI 8,aZ 0,aZ 200] [.b] 13) <|
 .ite (.not v13)
 aF
 (
 .i (.call f_k2h [aS 9] [.b] 14) <|
 .ite (.not v14)
 aF
 (
 .i (.call f_k3o [aI 0,aS 1,aS 2,aS 3,aS 10] [.b] 15) <|
 .ite (.not v15)
 aF
 (
 .ite (.not (.cmp .eq (.len v12) (.len v2)))
 aF
 (
 .loop 16 [.z 0] <|
 .ite (aL v16 (.len v11))
 (
 .i (.idx v11 v16 (.g [.i .i64,.i .i64,.i .i64,.s]) 17) <|
 .i (.call f_k3r [aI 0,aS 1,aS 2,aS 3,aI 17,aI 18,aI 19,aS 20] [.b] 21) <|
 .ite (.not v21)
 (.esc <| .done [.vb .ff])
 (
 .ite (aL (.z 0) v16)
 (
 .i (.idx v11 (.bin .sub .i64 v16 (.z 1)) (.g [.i .i64,.i .i64,.i .i64,.s]) 22) <|
 .ite (.cmp .le v17 v22)
 (.esc <| .done [.vb .ff])
 (
 .ite (.not v7)
 (.esc <| .done [.vb .ff])
 (
 .next [aP 16])))
 (
 .ite (.not v7)
 (.esc <| .done [.vb .ff])
 (
 .next [aP 16]))))
 (
 .esc <|
 .loop 17 [.z 0] <|
 .ite (aL v17 (.len v12))
 (
 .i (.idx v12 v17 (.g [.b,.s,.s]) 18) <|
 .ite v7
 (
 .ite v18
 (
 .i (.call f_k2f [aI 0,aS 1,aS 2,aS 3,aS 9] [.s,.s] 21) <|
 .i (.call f_k41 [aS 4,aS 5,aS 6,aS 21,aS 22,aI 17,aS 19] [.b] 23) <|
 .ite v23
 (
 .i (.call f_k43 [aI 0,aS 1,aS 2,aS 3,aS 20] [.b] 24) <|
 .ite (.not v24)
 (
 .i (.call f_k44 [aB 18,aS 19,aS 20] [.b] 25) <|
 .ite (.not v25)
 (.esc <| .done [.vb .ff])
 (
 .next [aP 17]))
 (
 .next [aP 17]))
 (
 .i (.call f_k44 [aB 18,aS 19,aS 20] [.b] 24) <|
 .ite (.not v24)
 (.esc <| .done [.vb .ff])
 (
 .next [aP 17])))
 (
 .i (.call f_k44 [aB 18,aS 19,aS 20] [.b] 21) <|
 .ite (.not v21)
 (.esc <| .done [.vb .ff])
 (
 .next [aP 17])))
 (
 .i (.call f_k44 [aB 18,aS 19,aS 20] [.b] 21) <|
 .ite (.not v21)
 (.esc <| .done [.vb .ff])
 (
 .next [aP 17])))
 (.esc <| .done [.vb .tt]))))))
def R_k46 : R :=
 .i (.call f_k2j [aI 0,aS 1,aS 2,aS 3] [.b] 10) <|
 .ite v10
 (
 .i (.call f_k3e [aS 1] [.s,.s,.s] 11) <|
 .i (.call f_k45 [aI 0,aS 1,aS 2,aS 3,aS 11,aS 12,aS 13,aB 4,aI 5,aS 6,aS 7,aS 8,aS 9] [.b] 14) <|
 .done [aB 14])
 aF
def R_k47 : R :=
 .i (.call f_k2m [aS 1] [.s] 2) <|
 .done [aI 0,aS 2]
def R_k48 : R :=
 .loop 1 [.nil,.z 0] <|
 .ite (aL v2 (.len v0))
 (
 .i (.idx v0 v2 (.g [.i .i64,.i .i64,.s]) 3) <|
 .i (.call f_k47 [aI 4,aS 5] [.i .i64,.s] 6) <|
 .i (.fl v7) <|
 .i (.chk (.cmp .le (.len (.app v1 (.cons (.g (.cons (aI 3) (.cons (aI 6) (.cons (aS 7) .nil)))) .nil))) (.z 1759218604441))) <|
 .next [.app v1 (.cons (.g (.cons (aI 3) (.cons (aI 6) (.cons (aS 7) .nil)))) .nil),aP 2])
 (.esc <| .done [aS 1])
def R_k49 : R :=
 .loop 6 [.nil,.z 0] <|
 .ite (aL v7 (.len v5))
 (
 .i (.call f_k2m [aS 2] [.s] 8) <|
 .i (.call f_k48 [aS 3] [.s] 9) <|
 .i (.fl v8) <|
 .i (.chk (.cmp .le (.len (.app v6 (.cons (.g (.cons (aZ 4) (.cons (aI 7) (.cons (aZ 0) (.cons (aI 1) (.cons (aZ 0) (.cons (aZ 0) (.cons (aZ 0) (.cons (.s .nil) (.cons (aS 8) (.cons (.s .nil) (.cons (aS 9) .nil)))))))))))) .nil))) (.z 462952264326))) <|
 .next [.app v6 (.cons (.g (.cons (aZ 4) (.cons (aI 7) (.cons (aZ 0) (.cons (aI 1) (.cons (aZ 0) (.cons (aZ 0) (.cons (aZ 0) (.cons (.s .nil) (.cons (aS 8) (.cons (.s .nil) (.cons (aS 9) .nil)))))))))))) .nil),aP 7])
 (.esc <| .done [aS 6,aB 0,aI 1,aS 2,aS 3,aS 4,aS 5])
def R_k4a : R :=
 .loop 2 [.z 0] <|
 .ite (aL v2 (.len v0))
 (
 .i (.idx v0 v2 (.g [.b,.s,.s]) 3) <|
 .i (.callv (.da 1) [aB 3,aS 4,aS 5] [some 3] [.b] 6) <|
 .ite v6
 (.esc <| .done [aI 2])
 (
 .next [aP 2]))
 (.esc <| .done [aZ (-1)])
def R_k4b : R :=
 .i (.call f_k4a [aS 0,.da 1] sI 2) <|
 .done [.vb (.cmp .le (.z 0) v2)]
def R_k4c : R :=
 .done [aB 0]
def R_k4d : R :=
 .ite (.not v0)
 (.done [.s .nil,aB 0,aI 1,aS 2,aS 3,aS 4,aS 5])
 (
 .i (.call f_k49 [aB 0,aI 1,aS 2,aS 3,aS 4,aS 5] [.s,.b,.i .i64,.s,.s,.s,.s] 6) <|
 .ite (aL (.z 0) (.len v11))
 (
 .loop 13 [v6,.z 0] <|
 .ite (aL v14 (.len v12))
 (
 .i (.chk (.cmp .le (.len (.app v13 (.cons (.g (.cons (aZ 2) (.cons (aI 14) (.cons (aZ 0) (.cons (aI 8) (.cons (aZ 0) (.cons (aZ 0) (.cons (aZ 0) (.cons (.s .nil) (.cons (.s .nil) (.cons (.s .nil) (.cons (.s .nil) .nil)))))))))))) .nil))) (.z 462952264326))) <|
 .next [.app v13 (.cons (.g (.cons (aZ 2) (.cons (aI 14) (.cons (aZ 0) (.cons (aI 8) (.cons (aZ 0) (.cons (aZ 0) (.cons (aZ 0) (.cons (.s .nil) (.cons (.s .nil) (.cons (.s .nil) (.cons (.s .nil) .nil)))))))))))) .nil),aP 14])
 (.esc <| .done [aS 13,aB 7,aI 8,aS 9,aS 10,aS 11,aS 12]))
 (
 .i (.call f_k4b [aS 12,.fn f_k4c .nil] [.b] 13) <|
 .ite v13
 (
 .loop 14 [v6,.z 0] <|
 .ite (aL v15 (.len v12))
 (
 .i (.chk (.cmp .le (.len (.app v14 (.cons (.g (.cons (aZ 2) (.cons (aI 15) (.cons (aZ 0) (.cons (aI 8) (.cons (aZ 0) (.cons (aZ 0) (.cons (aZ 0) (.cons (.s .nil) (.cons (.s .nil) (.cons (.s .nil) (.cons (.s .nil) .nil)))))))))))) .nil))) (.z 462952264326))) <|
 .next [.app v14 (.cons (.g (.cons (aZ 2) (.cons (aI 15) (.cons (aZ 0) (.cons (aI 8) (.cons (aZ 0) (.cons (aZ 0) (.cons (aZ 0) (.cons (.s .nil) (.cons (.s .nil) (.cons (.s .nil) (.cons (.s .nil) .nil)))))))))))) .nil),aP 15])
 (.esc <| .done [aS 14,aB 7,aI 8,aS 9,aS 10,aS 11,aS 12]))
 (.done [aS 6,aB 7,aI 8,aS 9,aS 10,aS 11,aS 12])))
def R_k4e : R :=
 .i (.chk (.cmp .eq (.len v0) (.len v0))) <|
 .i (.chk (.cmp .eq (.len v0) (.len v0))) <|
 .done [aS 0]
def R_k4f : R :=
 .i (.call f_k46 [aI 0,aS 1,aS 2,aS 3,aB 4,aI 5,aS 6,aS 7,aS 8,aS 9] [.b] 10) <|
 .ite (.not v10)
 (.done [.s .nil])
 (
 .i (.call f_k4d [aB 4,aI 5,aS 6,aS 7,aS 8,aS 9] [.s,.b,.i .i64,.s,.s,.s,.s] 11) <|
 .i (.call f_k4e [aS 11] [.s] 18) <|
 .done [aS 18])
def R_k4g : R :=
 .ite (.not (.cmp .eq (.len v0) (.len v1)))
 aF
 (
 .loop 2 [.z 0] <|
 .ite (aL v2 (.len v0))
 (
 .i (.idx v0 v2 (oI) 3) <|
 .i (.idx v1 v2 (oI) 4) <|
 .ite (.not (.cmp .eq v3 v4))
 (.esc <| .done [.vb .ff])
 (
 .next [aP 2]))
 (.esc <| .done [.vb .tt]))
def R_k4h : R :=
 .ite (.not (.cmp .eq v0 v4))
 aF
 (
 .ite (.not (.cmp .eq v1 v5))
 aF
 (
 .ite (.not (.cmp .eq v2 v6))
 aF
 (
 .i (.call f_k4g [aS 3,aS 7] [.b] 8) <|
 .ite (.not v8)
 aF
 aT)))
def R_k4i : R :=
 .ite (.not (.cmp .eq v0 v2))
 aF
 (
 .i (.call f_k4g [aS 1,aS 3] [.b] 4) <|
 .ite (.not v4)
 aF
 aT)
def R_k4j : R :=
 .ite (.not (.cmp .eq v0 v3))
 aF
 (
 .i (.call f_k4i [aI 1,aS 2,aI 4,aS 5] [.b] 6) <|
 .ite (.not v6)
 aF
 aT)
def R_k4k : R :=
 .ite (.not (.cmp .eq (.len v0) (.len v1)))
 aF
 (
 .loop 2 [.z 0] <|
 .ite (aL v2 (.len v0))
 (
 .i (.idx v0 v2 (.g [.i .i64,.i .i64,.s]) 3) <|
 .i (.idx v1 v2 (.g [.i .i64,.i .i64,.s]) 6) <|
 .i (.call f_k4j [aI 3,aI 4,aS 5,aI 6,aI 7,aS 8] [.b] 9) <|
 .ite (.not v9)
 (.esc <| .done [.vb .ff])
 (
 .next [aP 2]))
 (.esc <| .done [.vb .tt]))
def R_k4l : R :=
 .ite (.not (.cmp .eq v0 v11))
 aF
 (
 .ite (.not (.cmp .eq v1 v12))
 aF
 (
 .ite (.not (.cmp .eq v2 v13))
 aF
 (
 .ite (.not (.cmp .eq v3 v14))
 aF
 (
 .i (.call f_k4h [aI 4,aI 5,aI 6,aS 7,aI 15,aI 16,aI 17,aS 18] [.b] 22) <|
 .ite (.not v22)
 aF
 (
 .i (.call f_k4g [aS 8,aS 19] [.b] 23) <|
 .ite (.not v23)
 aF
 (
 .i (.call f_k4g [aS 9,aS 20] [.b] 24) <|
 .ite (.not v24)
 aF
 (
 .i (.call f_k4k [aS 10,aS 21] [.b] 25) <|
 .ite (.not v25)
 aF
 aT)))))))
def R_k4m : R :=
 .ite (.not (.cmp .eq (.len v0) (.len v1)))
 aF
 (
 .loop 2 [.z 0] <|
 .ite (aL v2 (.len v0))
 (
 .i (.idx v0 v2 (.g [.i .i64,.i .i64,.i .i64,.i .i64,.i .i64,.i .i64,.i .i64,.s,.s,.s,.s]) 3) <|
 .i (.idx v1 v2 (.g [.i .i64,.i .i64,.i .i64,.i .i64,.i .i64,.i .i64,.i .i64,.s,.s,.s,.s]) 14) <|
 .i (.call f_k4l [aI 3,aI 4,aI 5,aI 6,aI 7,aI 8,aI 9,aS 10,aS 11,aS 12,aS 13,aI 14,aI 15,aI 16,aI 17,aI 18,aI 19,aI 20,aS 21,aS 22,aS 23,aS 24] [.b] 25) <|
 .ite (.not v25)
 (.esc <| .done [.vb .ff])
 (
 .next [aP 2]))
 (.esc <| .done [.vb .tt]))
def R_k4n : R :=
 .i (.call f_k4g [aS 0,aS 3] [.b] 6) <|
 .ite (.not v6)
 aF
 (
 .i (.call f_k4g [aS 1,aS 4] [.b] 7) <|
 .ite (.not v7)
 aF
 (
 .ite (.not (.cmp .eq v2 v5))
 aF
 aT))
def R_k4o : R :=
 .ite (.not (.cmp .eq v0 v6))
 aF
 (
 .ite (.not (.cmp .eq v1 v7))
 aF
 (
 .ite (.not (.cmp .eq v2 v8))
 aF
 (
 .i (.call f_k4n [aS 3,aS 4,aI 5,aS 9,aS 10,aI 11] [.b] 12) <|
 .ite (.not v12)
 aF
 aT)))
def R_k4p : R :=
 .ite (.not (.cmp .eq (.len v0) (.len v1)))
 aF
 (
 .loop 2 [.z 0] <|
 .ite (aL v2 (.len v0))
 (
 .i (.idx v0 v2 (.g [.i .i64,.i .i64,.i .i64,.s,.s,.i .i64]) 3) <|
 .i (.idx v1 v2 (.g [.i .i64,.i .i64,.i .i64,.s,.s,.i .i64]) 9) <|
 .i (.call f_k4o [aI 3,aI 4,aI 5,aS 6,aS 7,aI 8,aI 9,aI 10,aI 11,aS 12,aS 13,aI 14] [.b] 15) <|
 .ite (.not v15)
 (.esc <| .done [.vb .ff])
 (
 .next [aP 2]))
 (.esc <| .done [.vb .tt]))
def R_k4q : R :=
 .ite (.not (.cmp .eq (.len v0) (.len v1)))
 aF
 (
 .loop 2 [.z 0] <|
 .ite (aL v2 (.len v0))
 (
 .i (.idx v0 v2 (.one .s) 3) <|
 .i (.idx v1 v2 (.one .s) 4) <|
 .i (.call f_k4p [aS 3,aS 4] [.b] 5) <|
 .ite (.not v5)
 (.esc <| .done [.vb .ff])
 (
 .next [aP 2]))
 (.esc <| .done [.vb .tt]))
def R_k4r : R :=
 .ite (.not (.cmp .eq v0 v4))
 aF
 (
 .i (.call f_k4q [aS 1,aS 5] [.b] 8) <|
 .ite (.not v8)
 aF
 (
 .i (.call f_k4g [aS 2,aS 6] [.b] 9) <|
 .ite (.not v9)
 aF
 (
 .i (.call f_k4g [aS 3,aS 7] [.b] 10) <|
 .ite (.not v10)
 aF
 aT)))
def R_k4s : R :=
 .ite (.not (.cmp .eq (.len v0) (.len v1)))
 aF
 (
 .loop 2 [.z 0] <|
 .ite (aL v2 (.len v0))
 (
 .i (.idx v0 v2 (.g [.i .i64,.i .i64,.i .i64,.s]) 3) <|
 .i (.idx v1 v2 (.g [.i .i64,.i .i64,.i .i64,.s]) 7) <|
 .i (.call f_k4h [aI 3,aI 4,aI 5,aS 6,aI 7,aI 8,aI 9,aS 10] [.b] 11) <|
 .ite (.not v11)
 (.esc <| .done [.vb .ff])
 (
 .next [aP 2]))
 (.esc <| .done [.vb .tt]))
def R_k4t : R :=
 .ite (.not (.beq v0 v3))
 aF
 (
 .i (.call f_k4g [aS 1,aS 4] [.b] 6) <|
 .ite (.not v6)
 aF
 (
 .i (.call f_k4g [aS 2,aS 5] [.b] 7) <|
 .ite (.not v7)
 aF
 aT))
def R_k4u : R :=
 .ite (.not (.cmp .eq (.len v0) (.len v1)))
 aF
 (
 .loop 2 [.z 0] <|
 .ite (aL v2 (.len v0))
 (
 .i (.idx v0 v2 (.g [.b,.s,.s]) 3) <|
 .i (.idx v1 v2 (.g [.b,.s,.s]) 6) <|
 .i (.call f_k4t [aB 3,aS 4,aS 5,aB 6,aS 7,aS 8] [.b] 9) <|
 .ite (.not v9)
 (.esc <| .done [.vb .ff])
 (
 .next [aP 2]))
 (.esc <| .done [.vb .tt]))
def R_k4v : R :=
 .ite (.not (.beq v0 v6))
 aF
 (
 .ite (.not (.cmp .eq v1 v7))
 aF
 (
 .i (.call f_k4g [aS 2,aS 8] [.b] 12) <|
 .ite (.not v12)
 aF
 (
 .i (.call f_k4k [aS 3,aS 9] [.b] 13) <|
 .ite (.not v13)
 aF
 (
 .i (.call f_k4s [aS 4,aS 10] [.b] 14) <|
 .ite (.not v14)
 aF
 (
 .i (.call f_k4u [aS 5,aS 11] [.b] 15) <|
 .ite (.not v15)
 aF
 aT)))))
def R_k4w : R :=
 .loop 2 [v0,v1,.z 0] <|
 .ite (aL v4 (.len v2))
 (
 .i (.chk (.cmp .le (.z 0) v4)) <|
 .i (.chk (aL v4 (.len v2))) <|
 .i (.idx v2 v4 (oI) 5) <|
 .next [.set v2 v4 (aI 3),aP 3,aP 4])
 (.esc <| .done [aI 3,aS 2])
def R_k4x : R :=
 .loop 2 [v0,v1,.z 0] <|
 .ite (aL v4 (.len v2))
 (
 .i (.chk (.cmp .le (.z 0) v4)) <|
 .i (.chk (aL v4 (.len v2))) <|
 .i (.idx v2 v4 (.g [.i .i64,.i .i64,.i .i64,.s,.s,.i .i64]) 5) <|
 .i (.chk (.cmp .le (.z 0) v4)) <|
 .i (.chk (aL v4 (.len v2))) <|
 .i (.idx (.set v2 v4 (.g (.cons (aI 3) (.cons (aI 6) (.cons (aI 7) (.cons (aS 8) (.cons (aS 9) (.cons (aI 10) .nil)))))))) v4 (.g [.i .i64,.i .i64,.i .i64,.s,.s,.i .i64]) 11) <|
 .i (.chk (.cmp .le (.z 0) v4)) <|
 .i (.chk (aL v4 (.len v2))) <|
 .i (.idx (.set (.set v2 v4 (.g (.cons (aI 3) (.cons (aI 6) (.cons (aI 7) (.cons (aS 8) (.cons (aS 9) (.cons (aI 10) .nil)))))))) v4 (.g (.cons (aI 11) (.cons (.vi .i64 (aP 3)) (.cons (aI 13) (.cons (aS 14) (.cons (aS 15) (.cons (aI 16) .nil)))))))) v4 (.g [.i .i64,.i .i64,.i .i64,.s,.s,.i .i64]) 17) <|
 .i (.chk (.cmp .le (.z 0) v4)) <|
 .i (.chk (aL v4 (.len v2))) <|
 .i (.idx (.set (.set (.set v2 v4 (.g (.cons (aI 3) (.cons (aI 6) (.cons (aI 7) (.cons (aS 8) (.cons (aS 9) (.cons (aI 10) .nil)))))))) v4 (.g (.cons (aI 11) (.cons (.vi .i64 (aP 3)) (.cons (aI 13) (.cons (aS 14) (.cons (aS 15) (.cons (aI 16) .nil)))))))) v4 (.g (.cons (aI 17) (.cons (aI 18) (.cons (.vi .i64 (.bin .add .i64 (aP 3) (.z 1))) (.cons (aS 20) (.cons (aS 21) (.cons (aI 22) .nil)))))))) v4 (.g [.i .i64,.i .i64,.i .i64,.s,.s,.i .i64]) 23) <|
 .i (.call f_k4w [aS 26,.vi .i64 (.bin .add .i64 (.bin .add .i64 (aP 3) (.z 1)) (.z 1))] [.i .i64,.s] 29) <|
 .i (.chk (.cmp .eq (.len v30) (.len v26))) <|
 .i (.chk (.cmp .le (.z 0) v4)) <|
 .i (.chk (aL v4 (.len v2))) <|
 .i (.idx (.set (.set (.set (.set v2 v4 (.g (.cons (aI 3) (.cons (aI 6) (.cons (aI 7) (.cons (aS 8) (.cons (aS 9) (.cons (aI 10) .nil)))))))) v4 (.g (.cons (aI 11) (.cons (.vi .i64 (aP 3)) (.cons (aI 13) (.cons (aS 14) (.cons (aS 15) (.cons (aI 16) .nil)))))))) v4 (.g (.cons (aI 17) (.cons (aI 18) (.cons (.vi .i64 (.bin .add .i64 (aP 3) (.z 1))) (.cons (aS 20) (.cons (aS 21) (.cons (aI 22) .nil)))))))) v4 (.g (.cons (aI 23) (.cons (aI 24) (.cons (aI 25) (.cons (aS 30) (.cons (aS 27) (.cons (aI 28) .nil)))))))) v4 (.g [.i .i64,.i .i64,.i .i64,.s,.s,.i .i64]) 31) <|
 .i (.call f_k4w [aS 35,aI 29] [.i .i64,.s] 37) <|
 .i (.chk (.cmp .eq (.len v38) (.len v35))) <|
 .i (.chk (.cmp .le (.z 0) v4)) <|
 .i (.chk (aL v4 (.len v2))) <|
 .i (.idx (.set (.set (.set (.set (.set v2 v4 (.g (.cons (aI 3) (.cons (aI 6) (.cons (aI 7) (.cons (aS 8) (.cons (aS 9) (.cons (aI 10) .nil)))))))) v4 (.g (.cons (aI 11) (.cons (.vi .i64 (aP 3)) (.cons (aI 13) (.cons (aS 14) (.cons (aS 15) (.cons (aI 16) .nil)))))))) v4 (.g (.cons (aI 17) (.cons (aI 18) (.cons (.vi .i64 (.bin .add .i64 (aP 3) (.z 1))) (.cons (aS 20) (.cons (aS 21) (.cons (aI 22) .nil)))))))) v4 (.g (.cons (aI 23) (.cons (aI 24) (.cons (aI 25) (.cons (aS 30) (.cons (aS 27) (.cons (aI 28) .nil)))))))) v4 (.g (.cons (aI 31) (.cons (aI 32) (.cons (aI 33) (.cons (aS 34) (.cons (aS 38) (.cons (aI 36) .nil)))))))) v4 (.g [.i .i64,.i .i64,.i .i64,.s,.s,.i .i64]) 39) <|
 .next [.set (.set (.set (.set (.set (.set v2 v4 (.g (.cons (aI 3) (.cons (aI 6) (.cons (aI 7) (.cons (aS 8) (.cons (aS 9) (.cons (aI 10) .nil)))))))) v4 (.g (.cons (aI 11) (.cons (.vi .i64 (aP 3)) (.cons (aI 13) (.cons (aS 14) (.cons (aS 15) (.cons (aI 16) .nil)))))))) v4 (.g (.cons (aI 17) (.cons (aI 18) (.cons (.vi .i64 (.bin .add .i64 (aP 3) (.z 1))) (.cons (aS 20) (.cons (aS 21) (.cons (aI 22) .nil)))))))) v4 (.g (.cons (aI 23) (.cons (aI 24) (.cons (aI 25) (.cons (aS 30) (.cons (aS 27) (.cons (aI 28) .nil)))))))) v4 (.g (.cons (aI 31) (.cons (aI 32) (.cons (aI 33) (.cons (aS 34) (.cons (aS 38) (.cons (aI 36) .nil)))))))) v4 (.g (.cons (aI 39) (.cons (aI 40) (.cons (aI 41) (.cons (aS 42) (.cons (aS 43) (.cons (aI 37) .nil))))))),aP 37,aP 4])
 (.esc <| .done [aI 3,aS 2])
def R_k4y : R :=
 .loop 2 [v0,v1,.z 0] <|
 .ite (aL v4 (.len v2))
 (
 .i (.chk (.cmp .le (.z 0) v4)) <|
 .i (.chk (aL v4 (.len v2))) <|
 .i (.idx v2 v4 (.one .s) 5) <|
 .i (.call f_k4x [aS 5,aI 3] [.i .i64,.s] 6) <|
 .i (.chk (.cmp .eq (.len v7) (.len v5))) <|
 .next [.set v2 v4 (aS 7),v6,aP 4])
 (.esc <| .done [aI 3,aS 2])
def R_k4z : R :=
 .i (.call f_k4y [aS 1,aI 4] [.i .i64,.s] 5) <|
 .i (.call f_k4w [aS 2,aI 5] [.i .i64,.s] 7) <|
 .i (.call f_k4w [aS 3,aI 7] [.i .i64,.s] 9) <|
 .done [aI 9,aS 6,aS 8,aS 10]
def R_k50 : R :=
 .loop 2 [v0,v1,.z 0] <|
 .ite (aL v4 (.len v2))
 (
 .i (.chk (.cmp .le (.z 0) v4)) <|
 .i (.chk (aL v4 (.len v2))) <|
 .i (.idx v2 v4 (.g [.i .i64,.i .i64,.s]) 5) <|
 .i (.chk (.cmp .le (.z 0) v4)) <|
 .i (.chk (aL v4 (.len v2))) <|
 .i (.idx (.set v2 v4 (.g (.cons (aI 3) (.cons (aI 6) (.cons (aS 7) .nil))))) v4 (.g [.i .i64,.i .i64,.s]) 8) <|
 .i (.chk (.cmp .le (.z 0) v4)) <|
 .i (.chk (aL v4 (.len v2))) <|
 .i (.idx (.set (.set v2 v4 (.g (.cons (aI 3) (.cons (aI 6) (.cons (aS 7) .nil))))) v4 (.g (.cons (aI 8) (.cons (.vi .i64 (aP 3)) (.cons (aS 10) .nil))))) v4 (.g [.i .i64,.i .i64,.s]) 11) <|
 .i (.call f_k4w [aS 13,.vi .i64 (.bin .add .i64 (aP 3) (.z 1))] [.i .i64,.s] 14) <|
 .i (.chk (.cmp .eq (.len v15) (.len v13))) <|
 .next [.set (.set (.set v2 v4 (.g (.cons (aI 3) (.cons (aI 6) (.cons (aS 7) .nil))))) v4 (.g (.cons (aI 8) (.cons (.vi .i64 (aP 3)) (.cons (aS 10) .nil))))) v4 (.g (.cons (aI 11) (.cons (aI 12) (.cons (aS 15) .nil)))),v14,aP 4])
 (.esc <| .done [aI 3,aS 2])
def R_k51 : R :=
 .loop 2 [v0,v1,.z 0] <|
 .ite (aL v4 (.len v2))
 (
 .i (.chk (.cmp .le (.z 0) v4)) <|
 .i (.chk (aL v4 (.len v2))) <|
 .i (.idx v2 v4 (.g [.i .i64,.i .i64,.i .i64,.s]) 5) <|
 .i (.chk (.cmp .le (.z 0) v4)) <|
 .i (.chk (aL v4 (.len v2))) <|
 .i (.idx (.set v2 v4 (.g (.cons (aI 3) (.cons (aI 6) (.cons (aI 7) (.cons (aS 8) .nil)))))) v4 (.g [.i .i64,.i .i64,.i .i64,.s]) 9) <|
 .i (.chk (.cmp .le (.z 0) v4)) <|
 .i (.chk (aL v4 (.len v2))) <|
 .i (.idx (.set (.set v2 v4 (.g (.cons (aI 3) (.cons (aI 6) (.cons (aI 7) (.cons (aS 8) .nil)))))) v4 (.g (.cons (aI 9) (.cons (.vi .i64 (aP 3)) (.cons (aI 11) (.cons (aS 12) .nil)))))) v4 (.g [.i .i64,.i .i64,.i .i64,.s]) 13) <|
 .i (.chk (.cmp .le (.z 0) v4)) <|
 .i (.chk (aL v4 (.len v2))) <|
 .i (.idx (.set (.set (.set v2 v4 (.g (.cons (aI 3) (.cons (aI 6) (.cons (aI 7) (.cons (aS 8) .nil)))))) v4 (.g (.cons (aI 9) (.cons (.vi .i64 (aP 3)) (.cons (aI 11) (.cons (aS 12) .nil)))))) v4 (.g (.cons (aI 13) (.cons (aI 14) (.cons (.vi .i64 (.bin .add .i64 (aP 3) (.z 1))) (.cons (aS 16) .nil)))))) v4 (.g [.i .i64,.i .i64,.i .i64,.s]) 17) <|
 .i (.call f_k4w [aS 20,.vi .i64 (.bin .add .i64 (.bin .add .i64 (aP 3) (.z 1)) (.z 1))] [.i .i64,.s] 21) <|
 .i (.chk (.cmp .eq (.len v22) (.len v20))) <|
 .next [.set (.set (.set (.set v2 v4 (.g (.cons (aI 3) (.cons (aI 6) (.cons (aI 7) (.cons (aS 8) .nil)))))) v4 (.g (.cons (aI 9) (.cons (.vi .i64 (aP 3)) (.cons (aI 11) (.cons (aS 12) .nil)))))) v4 (.g (.cons (aI 13) (.cons (aI 14) (.cons (.vi .i64 (.bin .add .i64 (aP 3) (.z 1))) (.cons (aS 16) .nil)))))) v4 (.g (.cons (aI 17) (.cons (aI 18) (.cons (aI 19) (.cons (aS 22) .nil))))),v21,aP 4])
 (.esc <| .done [aI 3,aS 2])
def R_k52 : R :=
 .loop 2 [v0,v1,.z 0] <|
 .ite (aL v4 (.len v2))
 (
 .i (.chk (.not (.cmp .eq (.z 3) (.z 0)))) <|
 .i (.chk (.cmp .le (.z 0) v4)) <|
 .i (.chk (aL v4 (.len v2))) <|
 .i (.idx v2 v4 (.g [.b,.s,.s]) 5) <|
 .i (.chk (.cmp .le (.z 0) v4)) <|
 .i (.chk (aL v4 (.len v2))) <|
 .i (.idx (.set v2 v4 (.g (.cons (.vb (.cmp .eq (.bin .rem .i64 v3 (.z 3)) (.z 0))) (.cons (aS 6) (.cons (aS 7) .nil))))) v4 (.g [.b,.s,.s]) 8) <|
 .i (.call f_k4w [aS 9,.vi .i64 (aP 3)] [.i .i64,.s] 11) <|
 .i (.chk (.cmp .eq (.len v12) (.len v9))) <|
 .i (.chk (.cmp .le (.z 0) v4)) <|
 .i (.chk (aL v4 (.len v2))) <|
 .i (.idx (.set (.set v2 v4 (.g (.cons (.vb (.cmp .eq (.bin .rem .i64 v3 (.z 3)) (.z 0))) (.cons (aS 6) (.cons (aS 7) .nil))))) v4 (.g (.cons (aB 8) (.cons (aS 12) (.cons (aS 10) .nil))))) v4 (.g [.b,.s,.s]) 13) <|
 .i (.call f_k4w [aS 15,aI 11] [.i .i64,.s] 16) <|
 .i (.chk (.cmp .eq (.len v17) (.len v15))) <|
 .next [.set (.set (.set v2 v4 (.g (.cons (.vb (.cmp .eq (.bin .rem .i64 v3 (.z 3)) (.z 0))) (.cons (aS 6) (.cons (aS 7) .nil))))) v4 (.g (.cons (aB 8) (.cons (aS 12) (.cons (aS 10) .nil))))) v4 (.g (.cons (aB 13) (.cons (aS 14) (.cons (aS 17) .nil)))),v16,aP 4])
 (.esc <| .done [aI 3,aS 2])
def R_k53 : R :=
 .i (.call f_k4w [aS 2,aI 6] [.i .i64,.s] 7) <|
 .i (.call f_k50 [aS 3,aI 7] [.i .i64,.s] 9) <|
 .i (.call f_k51 [aS 4,aI 9] [.i .i64,.s] 11) <|
 .i (.call f_k52 [aS 5,aI 11] [.i .i64,.s] 13) <|
 .done [aI 13,aS 8,aS 10,aS 12,aS 14]
def R_k54 : R :=
 .loop 2 [v0,v1,.z 0] <|
 .ite (aL v4 (.len v2))
 (
 .i (.chk (.cmp .le (.z 0) v4)) <|
 .i (.chk (aL v4 (.len v2))) <|
 .i (.idx v2 v4 (.g [.i .i64,.i .i64,.i .i64,.i .i64,.i .i64,.i .i64,.i .i64,.s,.s,.s,.s]) 5) <|
 .i (.chk (.cmp .le (.z 0) v4)) <|
 .i (.chk (aL v4 (.len v2))) <|
 .i (.idx (.set v2 v4 (.g (.cons (aI 3) (.cons (aI 6) (.cons (aI 7) (.cons (aI 8) (.cons (aI 9) (.cons (aI 10) (.cons (aI 11) (.cons (aS 12) (.cons (aS 13) (.cons (aS 14) (.cons (aS 15) .nil))))))))))))) v4 (.g [.i .i64,.i .i64,.i .i64,.i .i64,.i .i64,.i .i64,.i .i64,.s,.s,.s,.s]) 16) <|
 .i (.chk (.cmp .le (.z 0) v4)) <|
 .i (.chk (aL v4 (.len v2))) <|
 .i (.idx (.set (.set v2 v4 (.g (.cons (aI 3) (.cons (aI 6) (.cons (aI 7) (.cons (aI 8) (.cons (aI 9) (.cons (aI 10) (.cons (aI 11) (.cons (aS 12) (.cons (aS 13) (.cons (aS 14) (.cons (aS 15) .nil))))))))))))) v4 (.g (.cons (aI 16) (.cons (.vi .i64 (aP 3)) (.cons (aI 18) (.cons (aI 19) (.cons (aI 20) (.cons (aI 21) (.cons (aI 22) (.cons (aS 23) (.cons (aS 24) (.cons (aS 25) (.cons (aS 26) .nil))))))))))))) v4 (.g [.i .i64,.i .i64,.i .i64,.i .i64,.i .i64,.i .i64,.i .i64,.s,.s,.s,.s]) 27) <|
 .i (.chk (.cmp .le (.z 0) v4)) <|
 .i (.chk (aL v4 (.len v2))) <|
 .i (.idx (.set (.set (.set v2 v4 (.g (.cons (aI 3) (.cons (aI 6) (.cons (aI 7) (.cons (aI 8) (.cons (aI 9) (.cons (aI 10) (.cons (aI 11) (.cons (aS 12) (.cons (aS 13) (.cons (aS 14) (.cons (aS 15) .nil))))))))))))) v4 (.g (.cons (aI 16) (.cons (.vi .i64 (aP 3)) (.cons (aI 18) (.cons (aI 19) (.cons (aI 20) (.cons (aI 21) (.cons (aI 22) (.cons (aS 23) (.cons (aS 24) (.cons (aS 25) (.cons (aS 26) .nil))))))))))))) v4 (.g (.cons (aI 27) (.cons (aI 28) (.cons (.vi .i64 (.bin .add .i64 (aP 3) (.z 1))) (.cons (aI 30) (.cons (aI 31) (.cons (aI 32) (.cons (aI 33) (.cons (aS 34) (.cons (aS 35) (.cons (aS 36) (.cons (aS 37) .nil))))))))))))) v4 (.g [.i .i64,.i .i64,.i .i64,.i .i64,.i .i64,.i .i64,.i .i64,.s,.s,.s,.s]) 38) <|
 .i (.chk (.cmp .le (.z 0) v4)) <|
 .i (.chk (aL v4 (.len v2))) <|
 .i (.idx (.set (.set (.set (.set v2 v4 (.g (.cons (aI 3) (.cons (aI 6) (.cons (aI 7) (.cons (aI 8) (.cons (aI 9) (.cons (aI 10) (.cons (aI 11) (.cons (aS 12) (.cons (aS 13) (.cons (aS 14) (.cons (aS 15) .nil))))))))))))) v4 (.g (.cons (aI 16) (.cons (.vi .i64 (aP 3)) (.cons (aI 18) (.cons (aI 19) (.cons (aI 20) (.cons (aI 21) (.cons (aI 22) (.cons (aS 23) (.cons (aS 24) (.cons (aS 25) (.cons (aS 26) .nil))))))))))))) v4 (.g (.cons (aI 27) (.cons (aI 28) (.cons (.vi .i64 (.bin .add .i64 (aP 3) (.z 1))) (.cons (aI 30) (.cons (aI 31) (.cons (aI 32) (.cons (aI 33) (.cons (aS 34) (.cons (aS 35) (.cons (aS 36) (.cons (aS 37) .nil))))))))))))) v4 (.g (.cons (aI 38) (.cons (aI 39) (.cons (aI 40) (.cons (.vi .i64 (.bin .add .i64 (.bin .add .i64 (aP 3) (.z 1)) (.z 1))) (.cons (aI 42) (.cons (aI 43) (.cons (aI 44) (.cons (aS 45) (.cons (aS 46) (.cons (aS 47) (.cons (aS 48) .nil))))))))))))) v4 (.g [.i .i64,.i .i64,.i .i64,.i .i64,.i .i64,.i .i64,.i .i64,.s,.s,.s,.s]) 49) <|
 .i (.chk (.cmp .le (.z 0) v4)) <|
 .i (.chk (aL v4 (.len v2))) <|
 .i (.idx (.set (.set (.set (.set (.set v2 v4 (.g (.cons (aI 3) (.cons (aI 6) (.cons (aI 7) (.cons (aI 8) (.cons (aI 9) (.cons (aI 10) (.cons (aI 11) (.cons (aS 12) (.cons (aS 13) (.cons (aS 14) (.cons (aS 15) .nil))))))))))))) v4 (.g (.cons (aI 16) (.cons (.vi .i64 (aP 3)) (.cons (aI 18) (.cons (aI 19) (.cons (aI 20) (.cons (aI 21) (.cons (aI 22) (.cons (aS 23) (.cons (aS 24) (.cons (aS 25) (.cons (aS 26) .nil))))))))))))) v4 (.g (.cons (aI 27) (.cons (aI 28) (.cons (.vi .i64 (.bin .add .i64 (aP 3) (.z 1))) (.cons (aI 30) (.cons (aI 31) (.cons (aI 32) (.cons (aI 33) (.cons (aS 34) (.cons (aS 35) (.cons (aS 36) (.cons (aS 37) .nil))))))))))))) v4 (.g (.cons (aI 38) (.cons (aI 39) (.cons (aI 40) (.cons (.vi .i64 (.bin .add .i64 (.bin .add .i64 (aP 3) (.z 1)) (.z 1))) (.cons (aI 42) (.cons (aI 43) (.cons (aI 44) (.cons (aS 45) (.cons (aS 46) (.cons (aS 47) (.cons (aS 48) .nil))))))))))))) v4 (.g (.cons (aI 49) (.cons (aI 50) (.cons (aI 51) (.cons (aI 52) (.cons (.vi .i64 (.bin .add .i64 (.bin .add .i64 (.bin .add .i64 (aP 3) (.z 1)) (.z 1)) (.z 1))) (.cons (aI 54) (.cons (aI 55) (.cons (aS 56) (.cons (aS 57) (.cons (aS 58) (.cons (aS 59) .nil))))))))))))) v4 (.g [.i .i64,.i .i64,.i .i64,.i .i64,.i .i64,.i .i64,.i .i64,.s,.s,.s,.s]) 60) <|
 .i (.chk (.cmp .le (.z 0) v4)) <|
 .i (.chk (aL v4 (.len v2))) <|
 .i (.idx (.set (.set (.set (.set (.set (.set v2 v4 (.g (.cons (aI 3) (.cons (aI 6) (.cons (aI 7) (.cons (aI 8) (.cons (aI 9) (.cons (aI 10) (.cons (aI 11) (.cons (aS 12) (.cons (aS 13) (.cons (aS 14) (.cons (aS 15) .nil))))))))))))) v4 (.g (.cons (aI 16) (.cons (.vi .i64 (aP 3)) (.cons (aI 18) (.cons (aI 19) (.cons (aI 20) (.cons (aI 21) (.cons (aI 22) (.cons (aS 23) (.cons (aS 24) (.cons (aS 25) (.cons (aS 26) .nil))))))))))))) v4 (.g (.cons (aI 27) (.cons (aI 28) (.cons (.vi .i64 (.bin .add .i64 (aP 3) (.z 1))) (.cons (aI 30) (.cons (aI 31) (.cons (aI 32) (.cons (aI 33) (.cons (aS 34) (.cons (aS 35) (.cons (aS 36) (.cons (aS 37) .nil))))))))))))) v4 (.g (.cons (aI 38) (.cons (aI 39) (.cons (aI 40) (.cons (.vi .i64 (.bin .add .i64 (.bin .add .i64 (aP 3) (.z 1)) (.z 1))) (.cons (aI 42) (.cons (aI 43) (.cons (aI 44) (.cons (aS 45) (.cons (aS 46) (.cons (aS 47) (.cons (aS 48) .nil))))))))))))) v4 (.g (.cons (aI 49) (.cons (aI 50) (.cons (aI 51) (.cons (aI 52) (.cons (.vi .i64 (.bin .add .i64 (.bin .add .i64 (.bin .add .i64 (aP 3) (.z 1)) (.z 1)) (.z 1))) (.cons (aI 54) (.cons (aI 55) (.cons (aS 56) (.cons (aS 57) (.cons (aS 58) (.cons (aS 59) .nil))))))))))))) v4 (.g (.cons (aI 60) (.cons (aI 61) (.cons (aI 62) (.cons (aI 63) (.cons (aI 64) (.cons (.vi .i64 (.bin .add .i64 (.bin .add .i64 (.bin .add .i64 (.bin .add .i64 (aP 3) (.z 1)) (.z 1)) (.z 1)) (.z 1))) (.cons (aI 66) (.cons (aS 67) (.cons (aS 68) (.cons (aS 69) (.cons (aS 70) .nil))))))))))))) v4 (.g [.i .i64,.i .i64,.i .i64,.i .i64,.i .i64,.i .i64,.i .i64,.s,.s,.s,.s]) 71) <|
 .i (.chk (.cmp .le (.z 0) v4)) <|
 .i (.chk (aL v4 (.len v2))) <|
 .i (.idx (.set (.set (.set (.set (.set (.set (.set v2 v4 (.g (.cons (aI 3) (.cons (aI 6) (.cons (aI 7) (.cons (aI 8) (.cons (aI 9) (.cons (aI 10) (.cons (aI 11) (.cons (aS 12) (.cons (aS 13) (.cons (aS 14) (.cons (aS 15) .nil))))))))))))) v4 (.g (.cons (aI 16) (.cons (.vi .i64 (aP 3)) (.cons (aI 18) (.cons (aI 19) (.cons (aI 20) (.cons (aI 21) (.cons (aI 22) (.cons (aS 23) (.cons (aS 24) (.cons (aS 25) (.cons (aS 26) .nil))))))))))))) v4 (.g (.cons (aI 27) (.cons (aI 28) (.cons (.vi .i64 (.bin .add .i64 (aP 3) (.z 1))) (.cons (aI 30) (.cons (aI 31) (.cons (aI 32) (.cons (aI 33) (.cons (aS 34) (.cons (aS 35) (.cons (aS 36) (.cons (aS 37) .nil))))))))))))) v4 (.g (.cons (aI 38) (.cons (aI 39) (.cons (aI 40) (.cons (.vi .i64 (.bin .add .i64 (.bin .add .i64 (aP 3) (.z 1)) (.z 1))) (.cons (aI 42) (.cons (aI 43) (.cons (aI 44) (.cons (aS 45) (.cons (aS 46) (.cons (aS 47) (.cons (aS 48) .nil))))))))))))) v4 (.g (.cons (aI 49) (.cons (aI 50) (.cons (aI 51) (.cons (aI 52) (.cons (.vi .i64 (.bin .add .i64 (.bin .add .i64 (.bin .add .i64 (aP 3) (.z 1)) (.z 1)) (.z 1))) (.cons (aI 54) (.cons (aI 55) (.cons (aS 56) (.cons (aS 57) (.cons (aS 58) (.cons (aS 59) .nil))))))))))))) v4 (.g (.cons (aI 60) (.cons (aI 61) (.cons (aI 62) (.cons (aI 63) (.cons (aI 64) (.cons (.vi .i64 (.bin .add .i64 (.bin .add .i64 (.bin .add .i64 (.bin .add .i64 (aP 3) (.z 1)) (.z 1)) (.z 1)) (.z 1))) (.cons (aI 66) (.cons (aS 67) (.cons (aS 68) (.cons (aS 69) (.cons (aS 70) .nil))))))))))))) v4 (.g (.cons (aI 71) (.cons (aI 72) (.cons (aI 73) (.cons (aI 74) (.cons (aI 75) (.cons (aI 76) (.cons (.vi .i64 (.bin .add .i64 (.bin .add .i64 (.bin .add .i64 (.bin .add .i64 (.bin .add .i64 (aP 3) (.z 1)) (.z 1)) (.z 1)) (.z 1)) (.z 1))) (.cons (aS 78) (.cons (aS 79) (.cons (aS 80) (.cons (aS 81) .nil))))))))))))) v4 (.g [.i .i64,.i .i64,.i .i64,.i .i64,.i .i64,.i .i64,.i .i64,.s,.s,.s,.s]) 82) <|
 .i (.call f_k4w [aS 89,.vi .i64 (.bin .add .i64 (.bin .add .i64 (.bin .add .i64 (.bin .add .i64 (.bin .add .i64 (.bin .add .i64 (aP 3) (.z 1)) (.z 1)) (.z 1)) (.z 1)) (.z 1)) (.z 1))] [.i .i64,.s] 93) <|
 .i (.chk (.cmp .eq (.len v94) (.len v89))) <|
 .i (.chk (.cmp .le (.z 0) v4)) <|
 .i (.chk (aL v4 (.len v2))) <|
 .i (.idx (.set (.set (.set (.set (.set (.set (.set (.set v2 v4 (.g (.cons (aI 3) (.cons (aI 6) (.cons (aI 7) (.cons (aI 8) (.cons (aI 9) (.cons (aI 10) (.cons (aI 11) (.cons (aS 12) (.cons (aS 13) (.cons (aS 14) (.cons (aS 15) .nil))))))))))))) v4 (.g (.cons (aI 16) (.cons (.vi .i64 (aP 3)) (.cons (aI 18) (.cons (aI 19) (.cons (aI 20) (.cons (aI 21) (.cons (aI 22) (.cons (aS 23) (.cons (aS 24) (.cons (aS 25) (.cons (aS 26) .nil))))))))))))) v4 (.g (.cons (aI 27) (.cons (aI 28) (.cons (.vi .i64 (.bin .add .i64 (aP 3) (.z 1))) (.cons (aI 30) (.cons (aI 31) (.cons (aI 32) (.cons (aI 33) (.cons (aS 34) (.cons (aS 35) (.cons (aS 36) (.cons (aS 37) .nil))))))))))))) v4 (.g (.cons (aI 38) (.cons (aI 39) (.cons (aI 40) (.cons (.vi .i64 (.bin .add .i64 (.bin .add .i64 (aP 3) (.z 1)) (.z 1))) (.cons (aI 42) (.cons (aI 43) (.cons (aI 44) (.cons (aS 45) (.cons (aS 46) (.cons (aS 47) (.cons (aS 48) .nil))))))))))))) v4 (.g (.cons (aI 49) (.cons (aI 50) (.cons (aI 51) (.cons (aI 52) (.cons (.vi .i64 (.bin .add .i64 (.bin .add .i64 (.bin .add .i64 (aP 3) (.z 1)) (.z 1)) (.z 1))) (.cons (aI 54) (.cons (aI 55) (.cons (aS 56) (.cons (aS 57) (.cons (aS 58) (.cons (aS 59) .nil))))))))))))) v4 (.g (.cons (aI 60) (.cons (aI 61) (.cons (aI 62) (.cons (aI 63) (.cons (aI 64) (.cons (.vi .i64 (.bin .add .i64 (.bin .add .i64 (.bin .add .i64 (.bin .add .i64 (aP 3) (.z 1)) (.z 1)) (.z 1)) (.z 1))) (.cons (aI 66) (.cons (aS 67) (.cons (aS 68) (.cons (aS 69) (.cons (aS 70) .nil))))))))))))) v4 (.g (.cons (aI 71) (.cons (aI 72) (.cons (aI 73) (.cons (aI 74) (.cons (aI 75) (.cons (aI 76) (.cons (.vi .i64 (.bin .add .i64 (.bin .add .i64 (.bin .add .i64 (.bin .add .i64 (.bin .add .i64 (aP 3) (.z 1)) (.z 1)) (.z 1)) (.z 1)) (.z 1))) (.cons (aS 78) (.cons (aS 79) (.cons (aS 80) (.cons (aS 81) .nil))))))))))))) v4 (.g (.cons (aI 82) (.cons (aI 83) (.cons (aI 84) (.cons (aI 85) (.cons (aI 86) (.cons (aI 87) (.cons (aI 88) (.cons (aS 94) (.cons (aS 90) (.cons (aS 91) (.cons (aS 92) .nil))))))))))))) v4 (.g [.i .i64,.i .i64,.i .i64,.i .i64,.i .i64,.i .i64,.i .i64,.s,.s,.s,.s]) 95) <|
 .i (.call f_k4w [aS 103,aI 93] [.i .i64,.s] 106) <|
 .i (.chk (.cmp .eq (.len v107) (.len v103))) <|
 .i (.chk (.cmp .le (.z 0) v4)) <|
 .i (.chk (aL v4 (.len v2))) <|
 .i (.idx (.set (.set (.set (.set (.set (.set (.set (.set (.set v2 v4 (.g (.cons (aI 3) (.cons (aI 6) (.cons (aI 7) (.cons (aI 8) (.cons (aI 9) (.cons (aI 10) (.cons (aI 11) (.cons (aS 12) (.cons (aS 13) (.cons (aS 14) (.cons (aS 15) .nil))))))))))))) v4 (.g (.cons (aI 16) (.cons (.vi .i64 (aP 3)) (.cons (aI 18) (.cons (aI 19) (.cons (aI 20) (.cons (aI 21) (.cons (aI 22) (.cons (aS 23) (.cons (aS 24) (.cons (aS 25) (.cons (aS 26) .nil))))))))))))) v4 (.g (.cons (aI 27) (.cons (aI 28) (.cons (.vi .i64 (.bin .add .i64 (aP 3) (.z 1))) (.cons (aI 30) (.cons (aI 31) (.cons (aI 32) (.cons (aI 33) (.cons (aS 34) (.cons (aS 35) (.cons (aS 36) (.cons (aS 37) .nil))))))))))))) v4 (.g (.cons (aI 38) (.cons (aI 39) (.cons (aI 40) (.cons (.vi .i64 (.bin .add .i64 (.bin .add .i64 (aP 3) (.z 1)) (.z 1))) (.cons (aI 42) (.cons (aI 43) (.cons (aI 44) (.cons (aS 45) (.cons (aS 46) (.cons (aS 47) (.cons (aS 48) .nil))))))))))))) v4 (.g (.cons (aI 49) (.cons (aI 50) (.cons (aI 51) (.cons (aI 52) (.cons (.vi .i64 (.bin .add .i64 (.bin .add .i64 (.bin .add .i64 (aP 3) (.z 1)) (.z 1)) (.z 1))) (.cons (aI 54) (.cons (aI 55) (.cons (aS 56) (.cons (aS 57) (.cons (aS 58) (.cons (aS 59) .nil))))))))))))) v4 (.g (.cons (aI 60) (.cons (aI 61) (.cons (aI 62) (.cons (aI 63) (.cons (aI 64) (.cons (.vi .i64 (.bin .add .i64 (.bin .add .i64 (.bin .add .i64 (.bin .add .i64 (aP 3) (.z 1)) (.z 1)) (.z 1)) (.z 1))) (.cons (aI 66) (.cons (aS 67) (.cons (aS 68) (.cons (aS 69) (.cons (aS 70) .nil))))))))))))) v4 (.g (.cons (aI 71) (.cons (aI 72) (.cons (aI 73) (.cons (aI 74) (.cons (aI 75) (.cons (aI 76) (.cons (.vi .i64 (.bin .add .i64 (.bin .add .i64 (.bin .add .i64 (.bin .add .i64 (.bin .add .i64 (aP 3) (.z 1)) (.z 1)) (.z 1)) (.z 1)) (.z 1))) (.cons (aS 78) (.cons (aS 79) (.cons (aS 80) (.cons (aS 81) .nil))))))))))))) v4 (.g (.cons (aI 82) (.cons (aI 83) (.cons (aI 84) (.cons (aI 85) (.cons (aI 86) (.cons (aI 87) (.cons (aI 88) (.cons (aS 94) (.cons (aS 90) (.cons (aS 91) (.cons (aS 92) .nil))))))))))))) v4 (.g (.cons (aI 95) (.cons (aI 96) (.cons (aI 97) (.cons (aI 98) (.cons (aI 99) (.cons (aI 100) (.cons (aI 101) (.cons (aS 102) (.cons (aS 107) (.cons (aS 104) (.cons (aS 105) .nil))))))))))))) v4 (.g [.i .i64,.i .i64,.i .i64,.i .i64,.i .i64,.i .i64,.i .i64,.s,.s,.s,.s]) 108) <|
 .i (.call f_k4w [aS 117,aI 106] [.i .i64,.s] 119) <|
 .i (.chk (.cmp .eq (.len v120) (.len v117))) <|
 .i (.chk (.cmp .le (.z 0) v4)) <|
 .i (.chk (aL v4 (.len v2))) <|
 .i (.idx (.set (.set (.set (.set (.set (.set (.set (.set (.set (.set v2 v4 (.g (.cons (aI 3) (.cons (aI 6) (.cons (aI 7) (.cons (aI 8) (.cons (aI 9) (.cons (aI 10) (.cons (aI 11) (.cons (aS 12) (.cons (aS 13) (.cons (aS 14) (.cons (aS 15) .nil))))))))))))) v4 (.g (.cons (aI 16) (.cons (.vi .i64 (aP 3)) (.cons (aI 18) (.cons (aI 19) (.cons (aI 20) (.cons (aI 21) (.cons (aI 22) (.cons (aS 23) (.cons (aS 24) (.cons (aS 25) (.cons (aS 26) .nil))))))))))))) v4 (.g (.cons (aI 27) (.cons (aI 28) (.cons (.vi .i64 (.bin .add .i64 (aP 3) (.z 1))) (.cons (aI 30) (.cons (aI 31) (.cons (aI 32) (.cons (aI 33) (.cons (aS 34) (.cons (aS 35) (.cons (aS 36) (.cons (aS 37) .nil))))))))))))) v4 (.g (.cons (aI 38) (.cons (aI 39) (.cons (aI 40) (.cons (.vi .i64 (.bin .add .i64 (.bin .add .i64 (aP 3) (.z 1)) (.z 1))) (.cons (aI 42) (.cons (aI 43) (.cons (aI 44) (.cons (aS 45) (.cons (aS 46) (.cons (aS 47) (.cons (aS 48) .nil))))))))))))) v4 (.g (.cons (aI 49) (.cons (aI 50) (.cons (aI 51) (.cons (aI 52) (.cons (.vi .i64 (.bin .add .i64 (.bin .add .i64 (.bin .add .i64 (aP 3) (.z 1)) (.z 1)) (.z 1))) (.cons (aI 54) (.cons (aI 55) (.cons (aS 56) (.cons (aS 57) (.cons (aS 58) (.cons (aS 59) .nil))))))))))))) v4 (.g (.cons (aI 60) (.cons (aI 61) (.cons (aI 62) (.cons (aI 63) (.cons (aI 64) (.cons (.vi .i64 (.bin .add .i64 (.bin .add .i64 (.bin .add .i64 (.bin .add .i64 (aP 3) (.z 1)) (.z 1)) (.z 1)) (.z 1))) (.cons (aI 66) (.cons (aS 67) (.cons (aS 68) (.cons (aS 69) (.cons (aS 70) .nil))))))))))))) v4 (.g (.cons (aI 71) (.cons (aI 72) (.cons (aI 73) (.cons (aI 74) (.cons (aI 75) (.cons (aI 76) (.cons (.vi .i64 (.bin .add .i64 (.bin .add .i64 (.bin .add .i64 (.bin .add .i64 (.bin .add .i64 (aP 3) (.z 1)) (.z 1)) (.z 1)) (.z 1)) (.z 1))) (.cons (aS 78) (.cons (aS 79) (.cons (aS 80) (.cons (aS 81) .nil))))))))))))) v4 (.g (.cons (aI 82) (.cons (aI 83) (.cons (aI 84) (.cons (aI 85) (.cons (aI 86) (.cons (aI 87) (.cons (aI 88) (.cons (aS 94) (.cons (aS 90) (.cons (aS 91) (.cons (aS 92) .nil))))))))))))) v4 (.g (.cons (aI 95) (.cons (aI 96) (.cons (aI 97) (.cons (aI 98) (.cons (aI 99) (.cons (aI 100) (.cons (aI 101) (.cons (aS 102) (.cons (aS 107) (.cons (aS 104) (.cons (aS 105) .nil))))))))))))) v4 (.g (.cons (aI 108) (.cons (aI 109) (.cons (aI 110) (.cons (aI 111) (.cons (aI 112) (.cons (aI 113) (.cons (aI 114) (.cons (aS 115) (.cons (aS 116) (.cons (aS 120) (.cons (aS 118) .nil))))))))))))) v4 (.g [.i .i64,.i .i64,.i .i64,.i .i64,.i .i64,.i .i64,.i .i64,.s,.s,.s,.s]) 121) <|
 .i (.call f_k50 [aS 131,aI 119] [.i .i64,.s] 132) <|
 .i (.chk (.cmp .eq (.len v133) (.len v131))) <|
 .next [.set (.set (.set (.set (.set (.set (.set (.set (.set (.set (.set v2 v4 (.g (.cons (aI 3) (.cons (aI 6) (.cons (aI 7) (.cons (aI 8) (.cons (aI 9) (.cons (aI 10) (.cons (aI 11) (.cons (aS 12) (.cons (aS 13) (.cons (aS 14) (.cons (aS 15) .nil))))))))))))) v4 (.g (.cons (aI 16) (.cons (.vi .i64 (aP 3)) (.cons (aI 18) (.cons (aI 19) (.cons (aI 20) (.cons (aI 21) (.cons (aI 22) (.cons (aS 23) (.cons (aS 24) (.cons (aS 25) (.cons (aS 26) .nil))))))))))))) v4 (.g (.cons (aI 27) (.cons (aI 28) (.cons (.vi .i64 (.bin .add .i64 (aP 3) (.z 1))) (.cons (aI 30) (.cons (aI 31) (.cons (aI 32) (.cons (aI 33) (.cons (aS 34) (.cons (aS 35) (.cons (aS 36) (.cons (aS 37) .nil))))))))))))) v4 (.g (.cons (aI 38) (.cons (aI 39) (.cons (aI 40) (.cons (.vi .i64 (.bin .add .i64 (.bin .add .i64 (aP 3) (.z 1)) (.z 1))) (.cons (aI 42) (.cons (aI 43) (.cons (aI 44) (.cons (aS 45) (.cons (aS 46) (.cons (aS 47) (.cons (aS 48) .nil))))))))))))) v4 (.g (.cons (aI 49) (.cons (aI 50) (.cons (aI 51) (.cons (aI 52) (.cons (.vi .i64 (.bin .add .i64 (.bin .add .i64 (.bin .add .i64 (aP 3) (.z 1)) (.z 1)) (.z 1))) (.cons (aI 54) (.cons (aI 55) (.cons (aS 56) (.cons (aS 57) (.cons (aS 58) (.cons (aS 59) .nil))))))))))))) v4 (.g (.cons (aI 60) (.cons (aI 61) (.cons (aI 62) (.cons (aI 63) (.cons (aI 64) (.cons (.vi .i64 (.bin .add .i64 (.bin .add .i64 (.bin .add .i64 (.bin .add .i64 (aP 3) (.z 1)) (.z 1)) (.z 1)) (.z 1))) (.cons (aI 66) (.cons (aS 67) (.cons (aS 68) (.cons (aS 69) (.cons (aS 70) .nil))))))))))))) v4 (.g (.cons (aI 71) (.cons (aI 72) (.cons (aI 73) (.cons (aI 74) (.cons (aI 75) (.cons (aI 76) (.cons (.vi .i64 (.bin .add .i64 (.bin .add .i64 (.bin .add .i64 (.bin .add .i64 (.bin .add .i64 (aP 3) (.z 1)) (.z 1)) (.z 1)) (.z 1)) (.z 1))) (.cons (aS 78) (.cons (aS 79) (.cons (aS 80) (.cons (aS 81) .nil))))))))))))) v4 (.g (.cons (aI 82) (.cons (aI 83) (.cons (aI 84) (.cons (aI 85) (.cons (aI 86) (.cons (aI 87) (.cons (aI 88) (.cons (aS 94) (.cons (aS 90) (.cons (aS 91) (.cons (aS 92) .nil))))))))))))) v4 (.g (.cons (aI 95) (.cons (aI 96) (.cons (aI 97) (.cons (aI 98) (.cons (aI 99) (.cons (aI 100) (.cons (aI 101) (.cons (aS 102) (.cons (aS 107) (.cons (aS 104) (.cons (aS 105) .nil))))))))))))) v4 (.g (.cons (aI 108) (.cons (aI 109) (.cons (aI 110) (.cons (aI 111) (.cons (aI 112) (.cons (aI 113) (.cons (aI 114) (.cons (aS 115) (.cons (aS 116) (.cons (aS 120) (.cons (aS 118) .nil))))))))))))) v4 (.g (.cons (aI 121) (.cons (aI 122) (.cons (aI 123) (.cons (aI 124) (.cons (aI 125) (.cons (aI 126) (.cons (aI 127) (.cons (aS 128) (.cons (aS 129) (.cons (aS 130) (.cons (aS 133) .nil)))))))))))),v132,aP 4])
 (.esc <| .done [aI 3,aS 2])
def R_k55 : R :=
 .loop 2 [v1,.z 0] <|
 .ite (aL v3 (.len v0))
 (
 .i (.idx v0 v3 (oI) 4) <|
 .ite (.not (.cmp .eq v4 v2))
 (.esc <| .done [aZ (-1)])
 (
 .next [aP 2,aP 3]))
 (.esc <| .done [aI 2])
def R_k56 : R :=
 .loop 2 [v1,.z 0] <|
 .ite (aL v3 (.len v0))
 (
 .i (.idx v0 v3 (.g [.i .i64,.i .i64,.s]) 4) <|
 .ite (.not (.cmp .eq v4 v2))
 (.esc <| .done [aZ (-1)])
 (
 .i (.idx v0 v3 (.g [.i .i64,.i .i64,.s]) 7) <|
 .ite (.not (.cmp .eq v8 (aP 2)))
 (.esc <| .done [aZ (-1)])
 (
 .i (.idx v0 v3 (.g [.i .i64,.i .i64,.s]) 10) <|
 .i (.call f_k55 [aS 12,.vi .i64 (.bin .add .i64 (aP 2) (.z 1))] sI 13) <|
 .ite (aL v13 (.z 0))
 (.esc <| .done [aZ (-1)])
 (
 .next [v13,aP 3]))))
 (.esc <| .done [aI 2])
def R_k57 : R :=
 .loop 2 [v1,.z 0] <|
 .ite (aL v3 (.len v0))
 (
 .i (.idx v0 v3 (.g [.i .i64,.i .i64,.i .i64,.i .i64,.i .i64,.i .i64,.i .i64,.s,.s,.s,.s]) 4) <|
 .ite (.not (.cmp .eq v4 v2))
 (.esc <| .done [aZ (-1)])
 (
 .i (.idx v0 v3 (.g [.i .i64,.i .i64,.i .i64,.i .i64,.i .i64,.i .i64,.i .i64,.s,.s,.s,.s]) 15) <|
 .ite (.not (.cmp .eq v16 (aP 2)))
 (.esc <| .done [aZ (-1)])
 (
 .i (.idx v0 v3 (.g [.i .i64,.i .i64,.i .i64,.i .i64,.i .i64,.i .i64,.i .i64,.s,.s,.s,.s]) 26) <|
 .ite (.not (.cmp .eq v28 (.bin .add .i64 (aP 2) (.z 1))))
 (.esc <| .done [aZ (-1)])
 (
 .i (.idx v0 v3 (.g [.i .i64,.i .i64,.i .i64,.i .i64,.i .i64,.i .i64,.i .i64,.s,.s,.s,.s]) 37) <|
 .ite (.not (.cmp .eq v40 (.bin .add .i64 (.bin .add .i64 (aP 2) (.z 1)) (.z 1))))
 (.esc <| .done [aZ (-1)])
 (
 .i (.idx v0 v3 (.g [.i .i64,.i .i64,.i .i64,.i .i64,.i .i64,.i .i64,.i .i64,.s,.s,.s,.s]) 48) <|
 .ite (.not (.cmp .eq v52 (.bin .add .i64 (.bin .add .i64 (.bin .add .i64 (aP 2) (.z 1)) (.z 1)) (.z 1))))
 (.esc <| .done [aZ (-1)])
 (
 .i (.idx v0 v3 (.g [.i .i64,.i .i64,.i .i64,.i .i64,.i .i64,.i .i64,.i .i64,.s,.s,.s,.s]) 59) <|
 .ite (.not (.cmp .eq v64 (.bin .add .i64 (.bin .add .i64 (.bin .add .i64 (.bin .add .i64 (aP 2) (.z 1)) (.z 1)) (.z 1)) (.z 1))))
 (.esc <| .done [aZ (-1)])
 (
 .i (.idx v0 v3 (.g [.i .i64,.i .i64,.i .i64,.i .i64,.i .i64,.i .i64,.i .i64,.s,.s,.s,.s]) 70) <|
 .ite (.not (.cmp .eq v76 (.bin .add .i64 (.bin .add .i64 (.bin .add .i64 (.bin .add .i64 (.bin .add .i64 (aP 2) (.z 1)) (.z 1)) (.z 1)) (.z 1)) (.z 1))))
 (.esc <| .done [aZ (-1)])
 (
 .i (.idx v0 v3 (.g [.i .i64,.i .i64,.i .i64,.i .i64,.i .i64,.i .i64,.i .i64,.s,.s,.s,.s]) 81) <|
 .i (.call f_k55 [aS 88,.vi .i64 (.bin .add .i64 (.bin .add .i64 (.bin .add .i64 (.bin .add .i64 (.bin .add .i64 (.bin .add .i64 (aP 2) (.z 1)) (.z 1)) (.z 1)) (.z 1)) (.z 1)) (.z 1))] sI 92) <|
 .ite (aL v92 (.z 0))
 (.esc <| .done [aZ (-1)])
 (
 .i (.idx v0 v3 (.g [.i .i64,.i .i64,.i .i64,.i .i64,.i .i64,.i .i64,.i .i64,.s,.s,.s,.s]) 93) <|
 .i (.call f_k55 [aS 101,aI 92] sI 104) <|
 .ite (aL v104 (.z 0))
 (.esc <| .done [aZ (-1)])
 (
 .i (.idx v0 v3 (.g [.i .i64,.i .i64,.i .i64,.i .i64,.i .i64,.i .i64,.i .i64,.s,.s,.s,.s]) 105) <|
 .i (.call f_k55 [aS 114,aI 104] sI 116) <|
 .ite (aL v116 (.z 0))
 (.esc <| .done [aZ (-1)])
 (
 .i (.idx v0 v3 (.g [.i .i64,.i .i64,.i .i64,.i .i64,.i .i64,.i .i64,.i .i64,.s,.s,.s,.s]) 117) <|
 .i (.call f_k56 [aS 127,aI 116] sI 128) <|
 .ite (aL v128 (.z 0))
 (.esc <| .done [aZ (-1)])
 (
 .next [v128,aP 3]))))))))))))
 (.esc <| .done [aI 2])
def R_k58 : R :=
 .i (.call f_k5 [aI 0,aS 1,aS 2,aS 3,aZ 1048576] sI 10) <|
 .ite (aL v10 (.z 0))
 aT
 (
 .i (.call f_kd [aB 4,aI 5,aS 6,aS 7,aS 8,aS 9,aI 10] sI 11) <|
 .ite (aL v11 (.z 0))
 aT
 (
 .i (.call f_kj [aI 0,aS 1,aS 2,aS 3] [.i .i64,.s,.s,.s] 12) <|
 .i (.call f_kr [aB 4,aI 5,aS 6,aS 7,aS 8,aS 9] [.b,.i .i64,.s,.s,.s,.s] 16) <|
 .i (.call f_k20 [aI 12,aS 13,aS 14,aS 15,aB 16,aI 17,aS 18,aS 19,aS 20,aS 21] [.s] 22) <|
 .i (.call f_kj [aI 0,aS 1,aS 2,aS 3] [.i .i64,.s,.s,.s] 23) <|
 .i (.call f_kr [aB 4,aI 5,aS 6,aS 7,aS 8,aS 9] [.b,.i .i64,.s,.s,.s,.s] 27) <|
 .i (.call f_k4f [aI 23,aS 24,aS 25,aS 26,aB 27,aI 28,aS 29,aS 30,aS 31,aS 32] [.s] 33) <|
 .i (.call f_k4m [aS 33,aS 22] [.b] 34) <|
 .ite (.not v34)
 aF
 (
 .i (.call f_kj [aI 0,aS 1,aS 2,aS 3] [.i .i64,.s,.s,.s] 35) <|
 .i (.call f_k4r [aI 23,aS 24,aS 25,aS 26,aI 35,aS 36,aS 37,aS 38] [.b] 39) <|
 .ite (.not v39)
 aF
 (
 .i (.call f_kr [aB 4,aI 5,aS 6,aS 7,aS 8,aS 9] [.b,.i .i64,.s,.s,.s,.s] 40) <|
 .i (.call f_k4v [aB 27,aI 28,aS 29,aS 30,aS 31,aS 32,aB 40,aI 41,aS 42,aS 43,aS 44,aS 45] [.b] 46) <|
 .ite (.not v46)
 aF
 (
 .i (.call f_k4z [aI 23,aS 24,aS 25,aS 26,aZ 1] [.i .i64,.s,.s,.s] 47) <|
 .i (.call f_k53 [aB 27,aI 28,aS 29,aS 30,aS 31,aS 32,aI 47] [.i .i64,.s,.s,.s,.s] 51) <|
 .ite (aL v51 (.z 0))
 aF
 (
 .i (.call f_k4m [aS 33,aS 22] [.b] 56) <|
 .ite (.not v56)
 aF
 (
 .i (.call f_k54 [aS 33,aZ 1] [.i .i64,.s] 57) <|
 .i (.chk (.cmp .eq (.len v33) (.len v58))) <|
 .i (.call f_k57 [aS 58,aZ 1] sI 59) <|
 .ite (aL v59 (.z 0))
 aF
 (
 .ite (.not (.cmp .eq v59 v57))
 aF
 (
 .i (.call f_kj [aI 0,aS 1,aS 2,aS 3] [.i .i64,.s,.s,.s] 60) <|
 .i (.call f_kr [aB 4,aI 5,aS 6,aS 7,aS 8,aS 9] [.b,.i .i64,.s,.s,.s,.s] 64) <|
 .i (.call f_k4f [aI 60,aS 61,aS 62,aS 63,aB 64,aI 65,aS 66,aS 67,aS 68,aS 69] [.s] 70) <|
 .i (.call f_k4m [aS 70,aS 22] [.b] 71) <|
 .ite (.not v71)
 aF
 (
 .i (.chk (.cmp .eq (.len v33) (.len v58))) <|
 .i (.call f_k57 [aS 58,aZ 1] sI 72) <|
 .ite (aL v72 (.z 0))
 aF
 (
 .ite (.not (.cmp .eq v72 v57))
 aF
 aT)))))))))))
def E_k0 : Entry := ⟨.d ⟨[.one .s,oI],.one (oI),true⟩,.r ⟨[0,1,4,10],0,[],[],false,[],[],[]⟩ R_k0⟩
def E_k1 : Entry := ⟨.d ⟨[.g [.s,.s,.i .i64],oI],.one (oI),true⟩,.r ⟨[0,1,2,4,10,16],0,[],[],false,[],[],[]⟩ R_k1⟩
def E_k2 : Entry := ⟨.d ⟨[.g [.i .i64,.i .i64,.i .i64,.s,.s,.i .i64],oI],.one (oI),true⟩,.r ⟨[0,1,2,4,10],0,[],[],false,[],[],[]⟩ R_k2⟩
def E_k3 : Entry := ⟨.d ⟨[.one .s,oI],.one (oI),true⟩,.r ⟨[0,1,4,5,11,15,25],0,[],[(5,⟨[5,1],[],[],[],[]⟩)],false,[],[],[]⟩ R_k3⟩
def E_k4 : Entry := ⟨.d ⟨[.one .s,oI],.one (oI),true⟩,.r ⟨[0,1,4,5,11,15,25],0,[],[(5,⟨[5,1],[],[],[],[]⟩)],false,[],[],[]⟩ R_k4⟩
def E_k5 : Entry := ⟨.d ⟨[.g [.i .i64,.s,.s,.s],oI],.one (oI),true⟩,.r ⟨[0,1,2,4,10,16,22],0,[],[],false,[],[],[]⟩ R_k5⟩
def E_k6 : Entry := ⟨.d ⟨[.g [.i .i64,.s],oI],.one (oI),true⟩,.r ⟨[0,1,2,4,10],0,[],[],false,[],[],[]⟩ R_k6⟩
def E_k7 : Entry := ⟨.d ⟨[.g [.i .i64,.i .i64,.s],oI],.one (oI),true⟩,.r ⟨[0,1,2,4,10],0,[],[],false,[],[],[]⟩ R_k7⟩
def E_k8 : Entry := ⟨.d ⟨[.one .s,oI],.one (oI),true⟩,.r ⟨[0,1,4,5,11,15,25],0,[],[(5,⟨[5,1],[],[],[],[]⟩)],false,[],[],[]⟩ R_k8⟩
def E_k9 : Entry := ⟨.d ⟨[.g [.i .i64,.i .i64,.i .i64,.s],oI],.one (oI),true⟩,.r ⟨[0,1,2,4,10],0,[],[],false,[],[],[]⟩ R_k9⟩
def E_ka : Entry := ⟨.d ⟨[.one .s,oI],.one (oI),true⟩,.r ⟨[0,1,4,5,11,15,25],0,[],[(5,⟨[5,1],[],[],[],[]⟩)],false,[],[],[]⟩ R_ka⟩
def E_kb : Entry := ⟨.d ⟨[.g [.b,.s,.s],oI],.one (oI),true⟩,.r ⟨[0,1,2,4,10,16],0,[],[],false,[],[],[]⟩ R_kb⟩
def E_kc : Entry := ⟨.d ⟨[.one .s,oI],.one (oI),true⟩,.r ⟨[0,1,4,5,11,15,25],0,[],[(5,⟨[5,1],[],[],[],[]⟩)],false,[],[],[]⟩ R_kc⟩
def E_kd : Entry := ⟨.d ⟨[.g [.b,.i .i64,.s,.s,.s,.s],oI],.one (oI),true⟩,.r ⟨[0,1,2,4,10,16,22,28],0,[],[],false,[],[],[]⟩ R_kd⟩
def E_ke : Entry := ⟨.x ⟨[.d (aS 0)],[],[.s],.o 0 v0,[.arr 3 1 v0 true true],[.s],false⟩,.r ⟨[0,2,3,4,11],0,[],[(3,⟨[4],[],[112],[],[]⟩)],true,[],[],[]⟩ R_ke⟩
def E_kf : Entry := ⟨.x ⟨[.g [.d (aS 0),.d (aS 1),.d (aI 2)]],[],[.s,.s,.i .i64],.g [.o 0 v0,.o 1 v1,.d (aI 2)],[.arr 3 1 v0 true true,.arr 3 1 v1 true true],[.s,.s,.i .i64],false⟩,.r ⟨[0,1,2,3],0,[],[],true,[],[],[]⟩ R_kf⟩
def E_kg : Entry := ⟨.x ⟨[.g [.d (aI 0),.d (aI 1),.d (aI 2),.d (aS 3),.d (aS 4),.d (aI 5)]],[],[.i .i64,.i .i64,.i .i64,.s,.s,.i .i64],.g [.d (aI 0),.d (aI 1),.d (aI 2),.o 0 v3,.o 1 v4,.d (aI 5)],[.arr 3 1 v3 true true,.arr 3 1 v4 true true],[.i .i64,.i .i64,.i .i64,.s,.s,.i .i64],false⟩,.r ⟨[0,1,2,3],0,[],[],true,[],[],[]⟩ R_kg⟩
def E_kh : Entry := ⟨.x ⟨[.d (aS 0)],[],[.s],.o 0 v0,[.arr 194 6 v0 true true],[.s],false⟩,.r ⟨[0,2,3,4,11],0,[],[(3,⟨[4],[],[112],[],[]⟩)],true,[],[],[]⟩ R_kh⟩
def E_ki : Entry := ⟨.x ⟨[.d (aS 0)],[],[.s],.o 0 v0,[.arr 129 1 v0 true true],[.s],false⟩,.r ⟨[0,2,3,4,11],0,[],[(3,⟨[4],[],[112],[],[]⟩)],true,[],[],[]⟩ R_ki⟩
def E_kj : Entry := ⟨.x ⟨[.g [.d (aI 0),.d (aS 1),.d (aS 2),.d (aS 3)]],[],[.i .i64,.s,.s,.s],.g [.d (aI 0),.o 0 v1,.o 1 v2,.o 2 v3],[.arr 129 1 v1 true true,.arr 3 1 v2 true true,.arr 3 1 v3 true true],[.i .i64,.s,.s,.s],false⟩,.r ⟨[0,1,2,3],0,[],[],true,[],[],[]⟩ R_kj⟩
def E_kk : Entry := ⟨.x ⟨[.g [.d (aI 0),.d (aS 1)]],[],[.i .i64,.s],.g [.d (aI 0),.o 0 v1],[.arr 3 1 v1 true true],[.i .i64,.s],false⟩,.r ⟨[0,1,2,3],0,[],[],true,[],[],[]⟩ R_kk⟩
def E_kl : Entry := ⟨.x ⟨[.g [.d (aI 0),.d (aI 1),.d (aS 2)]],[],[.i .i64,.i .i64,.s],.g [.d (aI 0),.d (aI 1),.o 0 v2],[.arr 3 1 v2 true true],[.i .i64,.i .i64,.s],false⟩,.r ⟨[0,1,2,3],0,[],[],true,[],[],[]⟩ R_kl⟩
def E_km : Entry := ⟨.x ⟨[.d (aS 0)],[],[.s],.o 0 v0,[.arr 132 3 v0 true true],[.s],false⟩,.r ⟨[0,2,3,4,11],0,[],[(3,⟨[4],[],[112],[],[]⟩)],true,[],[],[]⟩ R_km⟩
def E_kn : Entry := ⟨.x ⟨[.g [.d (aI 0),.d (aI 1),.d (aI 2),.d (aS 3)]],[],[.i .i64,.i .i64,.i .i64,.s],.g [.d (aI 0),.d (aI 1),.d (aI 2),.o 0 v3],[.arr 3 1 v3 true true],[.i .i64,.i .i64,.i .i64,.s],false⟩,.r ⟨[0,1,2,3],0,[],[],true,[],[],[]⟩ R_kn⟩
def E_ko : Entry := ⟨.x ⟨[.d (aS 0)],[],[.s],.o 0 v0,[.arr 65 4 v0 true true],[.s],false⟩,.r ⟨[0,2,3,4,11],0,[],[(3,⟨[4],[],[112],[],[]⟩)],true,[],[],[]⟩ R_ko⟩
def E_kp : Entry := ⟨.x ⟨[.g [.d (aB 0),.d (aS 1),.d (aS 2)]],[],[.b,.s,.s],.g [.d (aB 0),.o 0 v1,.o 1 v2],[.arr 3 1 v1 true true,.arr 3 1 v2 true true],[.b,.s,.s],false⟩,.r ⟨[0,1,2,3],0,[],[],true,[],[],[]⟩ R_kp⟩
def E_kq : Entry := ⟨.x ⟨[.d (aS 0)],[],[.s],.o 0 v0,[.arr 134 3 v0 true true],[.s],false⟩,.r ⟨[0,2,3,4,11],0,[],[(3,⟨[4],[],[112],[],[]⟩)],true,[],[],[]⟩ R_kq⟩
def E_kr : Entry := ⟨.x ⟨[.g [.d (aB 0),.d (aI 1),.d (aS 2),.d (aS 3),.d (aS 4),.d (aS 5)]],[],[.b,.i .i64,.s,.s,.s,.s],.g [.d (aB 0),.d (aI 1),.o 0 v2,.o 1 v3,.o 2 v4,.o 3 v5],[.arr 3 1 v2 true true,.arr 132 3 v3 true true,.arr 65 4 v4 true true,.arr 134 3 v5 true true],[.b,.i .i64,.s,.s,.s,.s],false⟩,.r ⟨[0,1,2,3],0,[],[],true,[],[],[]⟩ R_kr⟩
def E_ks : Entry := ⟨.d ⟨[oI,oI,oI],.one (.one .b),true⟩,.r ⟨[0,1,2,6],0,[],[],false,[],[],[]⟩ R_ks⟩
def E_kt : Entry := ⟨.d ⟨[.one .s,oI,oI],.one (.one .b),true⟩,.r ⟨[0,1,2,6,7,11,15,26],0,[],[(4,⟨[7],[],[],[],[]⟩)],false,[],[],[]⟩ R_kt⟩
def E_ku : Entry := ⟨.d ⟨[.g [.s,.s,.i .i64]],.one (.one .b),true⟩,.r ⟨[0,1,2],0,[],[],false,[],[],[]⟩ R_ku⟩
def E_kv : Entry := ⟨.d ⟨[.g [.i .i64,.i .i64,.i .i64,.s,.s,.i .i64]],.one (.one .b),true⟩,.r ⟨[0,1,2,4,5,20,35],0,[],[],false,[],[],[]⟩ R_kv⟩
def E_kw : Entry := ⟨.d ⟨[.one .s],.one (.one .b),true⟩,.r ⟨[0,2,3,4,8,16,22],0,[],[(3,⟨[4,3],[],[],[],[]⟩)],false,[],[],[]⟩ R_kw⟩
def E_kx : Entry := ⟨.d ⟨[.one .s],.one (.one .b),true⟩,.r ⟨[0,2,3,7,11,19],0,[],[(4,⟨[3],[],[],[],[]⟩)],false,[],[],[]⟩ R_kx⟩
def E_ky : Entry := ⟨.d ⟨[.one .s],.one (.one .b),true⟩,.r ⟨[0,2],0,[],[],false,[],[],[]⟩ R_ky⟩
def E_kz : Entry := ⟨.d ⟨[.g [.s,.s]],.one (.one .b),true⟩,.r ⟨[0,1,2,3,14,19,28],0,[],[(4,⟨[3],[],[],[],[]⟩)],false,[],[],[]⟩ R_kz⟩
def E_k10 : Entry := ⟨.d ⟨[.g [.i .i64,.s,.s,.s]],.one (.one .b),true⟩,.r ⟨[0,1,2],0,[],[],false,[],[],[]⟩ R_k10⟩
def E_k11 : Entry := ⟨.x ⟨[],[],[],.g [.o 0 v0,.o 1 v1,.d (aI 2)],[.arr 3 1 v0 false true,.arr 3 1 v1 false true],[.s,.s,.i .i64],false⟩,.r ⟨[0],0,[],[],false,[],[],[]⟩ R_k11⟩
def E_k12 : Entry := ⟨.x ⟨[.d (aI 0)],[],sI,.g [.o 0 v0,.o 1 v1,.d (aI 2)],[.arr 3 1 v0 false true,.arr 3 1 v1 false true],[.s,.s,.i .i64],false⟩,.r ⟨[0,2,3,6],0,[(999999,⟨.cell 32 0,900000,3,1,false,false⟩),(999999,⟨.cell 32 1,900001,3,1,false,false⟩)],[],false,[],[],[]⟩ R_k12⟩
def E_k13 : Entry := ⟨.x ⟨[.g [.d (aS 0),.d (aS 1),.d (aI 2)],.g [.d (aS 3),.d (aS 4),.d (aI 5)],.d (aI 6)],[],[.s,.s,.i .i64,.s,.s,.i .i64,.i .i64],.g [.o 0 v0,.o 1 v1,.d (aI 2)],[.arr 3 1 v0 false true,.arr 3 1 v1 false true],[.s,.s,.i .i64],false⟩,.r ⟨[0,1,2,3,4,6,7,8,9,12,33],0,[],[(7,⟨[9],[],[161],[],[]⟩),(3,⟨[8],[],[160],[],[]⟩)],false,[],[],[]⟩ R_k13⟩
def E_k14 : Entry := ⟨.x ⟨[.d (aS 0)],[],[.s],.o 0 v0,[.arr 150 3 v0 false true],[.s],false⟩,.r ⟨[0,2,3,4,9],0,[],[(3,⟨[4],[],[80],[],[]⟩)],false,[],[],[]⟩ R_k14⟩
def E_k15 : Entry := ⟨.d ⟨[.g [.s,.s,.i .i64]],.one (.one .b),true⟩,.r ⟨[0,1,2],0,[],[],false,[],[],[]⟩ R_k15⟩
def E_k16 : Entry := ⟨.x ⟨[.g [.d (aS 0),.d (aS 1),.d (aI 2)],.d (aS 3)],[],[.s,.s,.i .i64,.s],.g [.o 0 v0,.o 1 v1,.d (aI 2)],[.arr 3 1 v0 false true,.arr 3 1 v1 false true],[.s,.s,.i .i64],false⟩,.r ⟨[0,1,2,4,5,6,35,46,62],0,[(999999,⟨.cell 64 0,900000,3,1,false,false⟩),(999999,⟨.cell 64 1,900001,3,1,false,false⟩)],[(5,⟨[6],[(80,2)],[592,608],[],[]⟩)],false,[],[],[]⟩ R_k16⟩
def E_k17 : Entry := ⟨.x ⟨[.g [.d (aS 0),.d (aS 1),.d (aI 2)]],[],[.s,.s,.i .i64],.g [.o 0 v0,.o 1 v1,.d (aI 2)],[.arr 3 1 v0 false true,.arr 3 1 v1 false true],[.s,.s,.i .i64],false⟩,.r ⟨[0,1,2,3],0,[],[],false,[],[],[]⟩ R_k17⟩
def E_k18 : Entry := ⟨.x ⟨[.d (aS 0),.d (aS 1),.d (aS 2)],[],[.s,.s,.s],.g [.o 0 v0,.o 1 v1,.o 2 v2,.d (aB 3)],[.arr 150 3 v0 false true,.arr 150 3 v1 false true,.arr 150 3 v2 false true],[.s,.s,.s,.b],false⟩,.r ⟨[0,1,2,6,7,8,15],0,[(3,⟨.cell 112 1,121,150,3,false,false⟩)],[(3,⟨[8],[],[121],[],[]⟩)],false,[],[],[]⟩ R_k18⟩
def E_k19 : Entry := ⟨.x ⟨[.d (aS 0),.d (aI 1),.d (aS 2),.d (aS 3),.d (aS 4)],[],[.s,.i .i64,.s,.s,.s],.o 0 v0,[.arr 157 4 v0 false true],[.s],false⟩,.r ⟨[0,1,2,3,4,10,11,12,13,14,15,20,29,39,45,80],0,[],[(2,⟨[11,4,2],[],[],[],[]⟩)],false,[],[],[]⟩ R_k19⟩
def E_k1a : Entry := ⟨.x ⟨[.d (aS 0)],[],[.s],.o 0 v0,[.arr 157 4 v0 false true],[.s],false⟩,.r ⟨[0,2,5],0,[],[],false,[],[],[]⟩ R_k1a⟩
def E_k1b : Entry := ⟨.x ⟨[.d (aS 0),.d (aS 1)],[],[.s,.s],.o 0 v0,[.arr 4 1 v0 false true],[.s],false⟩,.r ⟨[0,1,4,5,6,7,14,18,29],0,[],[(3,⟨[6],[],[128],[],[]⟩),(6,⟨[7],[],[128],[],[]⟩)],false,[],[],[]⟩ R_k1b⟩
def E_k1c : Entry := ⟨.x ⟨[.g [.d (aS 0),.d (aS 1),.d (aI 2)]],[],[.s,.s,.i .i64],.o 0 v0,[.arr 3 1 v0 false true],[.s],false⟩,.r ⟨[0,1,2,3,4,5,11,23,33],0,[],[(4,⟨[5,4],[],[96],[],[]⟩)],false,[],[],[]⟩ R_k1c⟩
def E_k1d : Entry := ⟨.d ⟨[.one .s,.one .s],.one (.one .b),true⟩,.r ⟨[0,1,4,5,10,14,25],0,[],[(4,⟨[5],[],[],[],[]⟩)],false,[],[],[]⟩ R_k1d⟩
def E_k1e : Entry := ⟨.d ⟨[.one .s,.one .s],.one (oI),true⟩,.r ⟨[0,1,4,5,9,17],0,[],[(2,⟨[5],[],[],[],[]⟩)],false,[],[],[]⟩ R_k1e⟩
def E_k1f : Entry := ⟨.x ⟨[.d (aS 0)],[],[.s],.t [.o 0 v0,.o 1 v1],[.arr 23 1 v0 false true,.arr 4 1 v1 false true],[.s,.s],false⟩,.r ⟨[0,2,3,4,5,6,7,8,9,10,11,15,27,38,61,83],0,[],[(8,⟨[7],[],[192,208],[],[]⟩),(12,⟨[9],[],[192,208],[],[]⟩),(16,⟨[10],[],[192],[],[]⟩),(4,⟨[6],[],[192],[],[]⟩)],false,[],[],[]⟩ R_k1f⟩
def E_k1g : Entry := ⟨.d ⟨[oI],.one (.one .d),false⟩,.m digitsF⟩
def E_k1h : Entry := ⟨.d ⟨[.g [.i .i64,.s]],.one (.one .d),false⟩,.r ⟨[0,1,2,3,4,5,36,46],0,[],[(6,⟨[5,4],[],[],[],[]⟩)],false,[],[],[]⟩ R_k1h⟩
def E_k1i : Entry := ⟨.d ⟨[.g [.i .i64,.s]],.one (.one .b),true⟩,.r ⟨[0,1,2],0,[],[],false,[],[],[]⟩ R_k1i⟩
def E_k1j : Entry := ⟨.d ⟨[.g [.i .i64,.s,.s,.s],.one .s],.one (.one .b),true⟩,.r ⟨[0,1,2,4,5,10,14,74],0,[],[(4,⟨[5],[],[],[],[]⟩)],false,[],[],[]⟩ R_k1j⟩
def E_k1k : Entry := ⟨.d ⟨[.one .s],.one (.one .b),true⟩,.r ⟨[0,2,3,7,15],0,[],[(2,⟨[3],[],[],[],[]⟩)],false,[],[],[]⟩ R_k1k⟩
def E_k1l : Entry := ⟨.d ⟨[.one .s,.one .s],.one (oI),true⟩,.r ⟨[0,1,4,5,6,8],0,[],[(3,⟨[6,5],[],[],[],[]⟩)],false,[],[],[]⟩ R_k1l⟩
def E_k1m : Entry := ⟨.d ⟨[.g [.s,.s],.one .s,oI,.one .s],.one (.one .b),true⟩,.r ⟨[0,1,2,3,4,8,9,31,35,56],0,[],[(4,⟨[9],[],[],[],[]⟩)],false,[],[],[]⟩ R_k1m⟩
def E_k1n : Entry := ⟨.d ⟨[.one .s,.one .s],.one (.one .b),true⟩,.r ⟨[0,1,4,5,7,20],0,[],[(2,⟨[5],[],[],[],[]⟩)],false,[],[],[]⟩ R_k1n⟩
def E_k1o : Entry := ⟨.d ⟨[.g [.i .i64,.s,.s,.s],.one .s],.one (.one .b),true⟩,.r ⟨[0,1,2,4,5,10,14,22],0,[],[(4,⟨[5],[],[],[],[]⟩)],false,[],[],[]⟩ R_k1o⟩
def E_k1p : Entry := ⟨.d ⟨[.g [.i .i64,.s,.s,.s],.one .s,.one .s,.g [.b,.i .i64,.s,.s,.s,.s]],.one (.one .b),true⟩,.r ⟨[0,1,2,3,4,7,8,9,10,11,18,28,75],0,[],[(5,⟨[10],[],[],[],[]⟩)],false,[],[],[]⟩ R_k1p⟩
def E_k1q : Entry := ⟨.d ⟨[.one .s],.one (.one .b),true⟩,.r ⟨[0,2],0,[],[],false,[],[],[]⟩ R_k1q⟩
def E_k1r : Entry := ⟨.d ⟨[.g [.i .i64,.s,.s,.s],.g [.i .i64,.i .i64,.i .i64,.s]],.one (.one .b),true⟩,.r ⟨[0,1,2,3,4],0,[],[],false,[],[],[]⟩ R_k1r⟩
def E_k1s : Entry := ⟨.d ⟨[.g [.b,.i .i64,.s,.s,.s,.s]],.one (oI),true⟩,.r ⟨[0,1,2,3,4,9,17],0,[],[(3,⟨[4,3],[],[],[],[]⟩)],false,[],[],[]⟩ R_k1s⟩
def E_k1t : Entry := ⟨.d ⟨[.g [.i .i64,.s,.s,.s],.one .s,.one .s,.g [.b,.i .i64,.s,.s,.s,.s]],.one (.one .b),true⟩,.r ⟨[0,1,2,3,4,7,8,9,34,39,69],0,[],[(4,⟨[9],[],[],[],[]⟩)],false,[],[],[]⟩ R_k1t⟩
def E_k1u : Entry := ⟨.d ⟨[.g [.i .i64,.s,.s,.s],.g [.b,.i .i64,.s,.s,.s,.s]],.one (.one .b),true⟩,.r ⟨[0,1,2,3,4,5,6,9],0,[],[],false,[],[],[]⟩ R_k1u⟩
def E_k1v : Entry := ⟨.x ⟨[.g [.d (aI 0),.d (aS 1)]],[],[.i .i64,.s],.g [.d (aI 0),.o 0 v1],[.arr 3 1 v1 false true],[.i .i64,.s],false⟩,.r ⟨[0,1,2],0,[],[],false,[],[],[]⟩ R_k1v⟩
def E_k1w : Entry := ⟨.x ⟨[.d (aS 0)],[],[.s],.o 0 v0,[.arr 132 3 v0 false true],[.s],false⟩,.r ⟨[0,2,3,4,9],0,[],[(3,⟨[4],[],[80],[],[]⟩)],false,[],[],[]⟩ R_k1w⟩
def E_k1x : Entry := ⟨.x ⟨[.g [.d (aB 0),.d (aI 1),.d (aS 2),.d (aS 3),.d (aS 4),.d (aS 5)],.d (aI 6)],[],[.b,.i .i64,.s,.s,.s,.s,.i .i64],.g [.d (aI 0),.d (aI 1),.d (aI 2),.d (aI 3),.d (aI 4),.d (aI 5),.d (aI 6),.o 0 v7,.o 1 v8,.o 2 v9,.o 3 v10],[.arr 3 1 v7 false true,.arr 3 1 v8 false true,.arr 3 1 v9 false true,.arr 132 3 v10 false true],[.i .i64,.i .i64,.i .i64,.i .i64,.i .i64,.i .i64,.i .i64,.s,.s,.s,.s],false⟩,.r ⟨[0,1,2,4],0,[(999999,⟨.cell 64 7,900000,3,1,false,false⟩),(999999,⟨.cell 64 9,900001,3,1,false,false⟩)],[],false,[],[],[]⟩ R_k1x⟩
def E_k1y : Entry := ⟨.x ⟨[.g [.d (aI 0),.d (aS 1),.d (aS 2),.d (aS 3)],.g [.d (aB 4),.d (aI 5),.d (aS 6),.d (aS 7),.d (aS 8),.d (aS 9)]],[],[.i .i64,.s,.s,.s,.b,.i .i64,.s,.s,.s,.s],.o 0 v0,[.arr 94 11 v0 false true],[.s],false⟩,.r ⟨[0,1,2,3,4,5,6,12],0,[],[(3,⟨[6],[],[112],[],[]⟩)],false,[],[],[]⟩ R_k1y⟩
def E_k1z : Entry := ⟨.x ⟨[.g [.d (aI 0),.d (aS 1),.d (aS 2),.d (aS 3)],.g [.d (aB 4),.d (aI 5),.d (aS 6),.d (aS 7),.d (aS 8),.d (aS 9)]],[],[.i .i64,.s,.s,.s,.b,.i .i64,.s,.s,.s,.s],.o 0 v0,[.arr 94 11 v0 false true],[.s],false⟩,.r ⟨[0,1,2,3,4,5,6,9,29],0,[],[(5,⟨[6],[],[208],[],[]⟩)],false,[],[],[]⟩ R_k1z⟩
def E_k20 : Entry := ⟨.x ⟨[.g [.d (aI 0),.d (aS 1),.d (aS 2),.d (aS 3)],.g [.d (aB 4),.d (aI 5),.d (aS 6),.d (aS 7),.d (aS 8),.d (aS 9)]],[],[.i .i64,.s,.s,.s,.b,.i .i64,.s,.s,.s,.s],.o 0 v0,[.arr 94 11 v0 false true],[.s],false⟩,.r ⟨[0,1,2,3,4,8],0,[],[],false,[],[],[]⟩ R_k20⟩
def E_k21 : Entry := ⟨.d ⟨[oI,oI,oI],.one (.one .b),true⟩,.r ⟨[0,1,2,6],0,[],[],false,[],[],[]⟩ R_k21⟩
def E_k22 : Entry := ⟨.d ⟨[.one .s,.one .d],.one (oI),true⟩,.r ⟨[0,1,4,5,7,8,9,16],0,[],[(2,⟨[8],[],[],[],[]⟩)],false,[],[],[]⟩ R_k22⟩
def E_k23 : Entry := ⟨.d ⟨[.one .s,.one .d],.one (.one .b),true⟩,.r ⟨[0,1,4],0,[],[],false,[],[],[]⟩ R_k23⟩
def E_k24 : Entry := ⟨.d ⟨[oI,.one .d],.one (.one .b),true⟩,.r ⟨[0,1,3],0,[],[],false,[],[],[]⟩ R_k24⟩
def E_k25 : Entry := ⟨.d ⟨[.one .s,.one .d],.one (oI),true⟩,.r ⟨[0,1,4,5,7,8,9,16],0,[],[(2,⟨[8],[],[],[],[]⟩)],false,[],[],[]⟩ R_k25⟩
def E_k26 : Entry := ⟨.d ⟨[.one .s,.one .d],.one (.one .b),true⟩,.r ⟨[0,1,4],0,[],[],false,[],[],[]⟩ R_k26⟩
def E_k27 : Entry := ⟨.d ⟨[.one .s,oI,oI],.one (.one .b),true⟩,.r ⟨[0,1,2,5,6],0,[],[],false,[],[],[]⟩ R_k27⟩
def E_k28 : Entry := ⟨.d ⟨[.g [.s,.s,.i .i64]],.one (.one .b),true⟩,.r ⟨[0,1,2],0,[],[],false,[],[],[]⟩ R_k28⟩
def E_k29 : Entry := ⟨.d ⟨[.one .s,.one .s],.one (.one .b),true⟩,.r ⟨[0,1,4,5,10,12,13,14,24],0,[],[(4,⟨[13],[],[],[],[]⟩)],false,[],[],[]⟩ R_k29⟩
def E_k2a : Entry := ⟨.d ⟨[.g [.s,.s,.i .i64],.g [.s,.s,.i .i64]],.one (.one .b),true⟩,.r ⟨[0,1,2,3,4],0,[],[],false,[],[],[]⟩ R_k2a⟩
def E_k2b : Entry := ⟨.d ⟨[.g [.i .i64,.i .i64,.i .i64,.s,.s,.i .i64]],.one (.one .b),true⟩,.r ⟨[0,1,2,4,5,20,35,50],0,[],[],false,[],[],[]⟩ R_k2b⟩
def E_k2c : Entry := ⟨.d ⟨[.one .s],.one (.one .b),true⟩,.r ⟨[0,2,3,5,6,7,8,9,14,17],0,[],[(3,⟨[8,3],[],[],[],[]⟩)],false,[],[],[]⟩ R_k2c⟩
def E_k2d : Entry := ⟨.d ⟨[.one .s],.one (.one .b),true⟩,.r ⟨[0,2],0,[],[],false,[],[],[]⟩ R_k2d⟩
def E_k2e : Entry := ⟨.d ⟨[.one .s],.one (.one .b),true⟩,.r ⟨[0,2],0,[],[],false,[],[],[]⟩ R_k2e⟩
def E_k2f : Entry := ⟨.d ⟨[.g [.i .i64,.s,.s,.s],.one .s],.one (.g [.s,.s]),false⟩,.r ⟨[0,1,2,4],0,[],[],false,[],[],[]⟩ R_k2f⟩
def E_k2g : Entry := ⟨.d ⟨[oI],.one (.one .b),true⟩,.r ⟨[0,2],0,[],[],false,[],[],[]⟩ R_k2g⟩
def E_k2h : Entry := ⟨.d ⟨[.one .s],.one (.one .b),true⟩,.r ⟨[0,2],0,[],[],false,[],[],[]⟩ R_k2h⟩
def E_k2i : Entry := ⟨.d ⟨[.g [.s,.s]],.one (.one .b),true⟩,.r ⟨[0,1,2,3],0,[],[],false,[],[],[]⟩ R_k2i⟩
def E_k2j : Entry := ⟨.d ⟨[.g [.i .i64,.s,.s,.s]],.one (.one .b),true⟩,.r ⟨[0,1,2],0,[],[],false,[],[],[]⟩ R_k2j⟩
def E_k2k : Entry := ⟨.x ⟨[],[],[],.g [.o 0 v0,.o 1 v1,.d (aI 2)],[.arr 3 1 v0 false true,.arr 3 1 v1 false true],[.s,.s,.i .i64],false⟩,.r ⟨[0],0,[],[],false,[],[],[]⟩ R_k2k⟩
def E_k2l : Entry := ⟨.x ⟨[.d (aI 0)],[],sI,.g [.o 0 v0,.o 1 v1,.d (aI 2)],[.arr 3 1 v0 false true,.arr 3 1 v1 false true],[.s,.s,.i .i64],false⟩,.r ⟨[0,2,3,6],0,[(999999,⟨.cell 32 0,900000,3,1,false,false⟩),(999999,⟨.cell 32 1,900001,3,1,false,false⟩)],[],false,[],[],[]⟩ R_k2l⟩
def E_k2m : Entry := ⟨.x ⟨[.d (aS 0)],[],[.s],.o 0 v0,[.arr 3 1 v0 false true],[.s],false⟩,.r ⟨[0,2,4],0,[(999999,⟨.slot 2,900000,3,1,false,false⟩)],[],false,[],[],[]⟩ R_k2m⟩
def E_k2n : Entry := ⟨.x ⟨[.g [.d (aS 0),.d (aS 1),.d (aI 2)]],[],[.s,.s,.i .i64],.g [.o 0 v0,.o 1 v1,.d (aI 2)],[.arr 3 1 v0 false true,.arr 3 1 v1 false true],[.s,.s,.i .i64],false⟩,.r ⟨[0,1,2],0,[],[],false,[],[],[]⟩ R_k2n⟩
def E_k2o : Entry := ⟨.x ⟨[.d (aS 0)],[],[.s],.o 0 v0,[.arr 150 3 v0 true true],[.s],false⟩,.r ⟨[0,2,3,5,6,7,8,9],0,[(3,⟨.slot 3,63,150,3,true,false⟩)],[(3,⟨[8],[],[63],[],[]⟩)],true,[],[],[]⟩ R_k2o⟩
def E_k2p : Entry := ⟨.d ⟨[.g [.s,.s,.i .i64]],.one (.one .b),true⟩,.r ⟨[0,1,2],0,[],[],false,[],[],[]⟩ R_k2p⟩
def E_k2q : Entry := ⟨.d ⟨[.one .s,.one .d],.one (oI),true⟩,.r ⟨[0,1,4,5,7,8,9,16],0,[],[(2,⟨[8],[],[],[],[]⟩)],false,[],[],[]⟩ R_k2q⟩
def E_k2r : Entry := ⟨.d ⟨[.one .s,.one .d],.one (.one .b),true⟩,.r ⟨[0,1,4],0,[],[],false,[],[],[]⟩ R_k2r⟩
def E_k2s : Entry := ⟨.d ⟨[.g [.s,.s,.i .i64]],.one (.one .b),true⟩,.r ⟨[0,1,2],0,[],[],false,[],[],[]⟩ R_k2s⟩
def E_k2t : Entry := ⟨.x ⟨[.p 0 0,.g [.d (aS 3),.d (aS 4),.d (aI 5)],.d (aI 6)],[.box [.o 1 v0,.o 2 v1,.d (aI 2)],.arr 3 1 v0 false true,.arr 3 1 v1 false true],[.s,.s,.i .i64,.s,.s,.i .i64,.i .i64],.t [],[.box [.o 1 v1,.o 2 v2,.d (aI 0)],.arr 3 1 v1 false true,.arr 3 1 v2 false true],[.i .i64,.s,.s],false⟩,.r ⟨[0,1,2,4,6,7,8,9,11,12,13,14,32,33,34,35],3,[],[(7,⟨[34],[],[2],[],[]⟩),(2,⟨[13],[],[1],[],[]⟩)],false,[],[],[]⟩ R_k2t⟩
def E_k2u : Entry := ⟨.x ⟨[.g [.o 0 v0,.o 1 v1,.d (aI 2)]],[.arr 3 1 v0 false true,.arr 3 1 v1 false true],[.s,.s,.i .i64],.g [.o 2 v0,.o 3 v1,.d (aI 2)],[.dead,.dead,.arr 3 1 v0 false true,.arr 3 1 v1 false true],[.s,.s,.i .i64],false⟩,.r ⟨[0,1,2,5],2,[(999999,⟨.cell 32 0,900000,3,1,false,true⟩),(999999,⟨.cell 32 1,900001,3,1,false,true⟩),(999999,⟨.kill 0,910000,0,0,false,false⟩),(999999,⟨.kill 1,910001,0,0,false,false⟩)],[],false,[],[],[]⟩ R_k2u⟩
def E_k2v : Entry := ⟨.x ⟨[.g [.d (aS 0),.d (aS 1),.d (aI 2)],.d (aS 3)],[],[.s,.s,.i .i64,.s],.g [.o 0 v0,.o 1 v1,.d (aI 2)],[.arr 3 1 v0 false true,.arr 3 1 v1 false true],[.s,.s,.i .i64],false⟩,.r ⟨[0,1,2,4,5,6,7,19,22,23,24,25],0,[(999999,⟨.cell 64 0,900000,3,1,false,false⟩),(999999,⟨.cell 64 1,900001,3,1,false,false⟩)],[(5,⟨[24],[(80,2)],[336,337],[],[]⟩)],false,[],[],[]⟩ R_k2v⟩
def E_k2w : Entry := ⟨.x ⟨[.g [.d (aS 0),.d (aS 1),.d (aI 2)],.d (aI 3)],[],[.s,.s,.i .i64,.i .i64],.g [.o 0 v0,.o 1 v1,.d (aI 2)],[.arr 3 1 v0 false true,.arr 3 1 v1 false true],[.s,.s,.i .i64],false⟩,.r ⟨[0,1,2,4,5,13],0,[(999999,⟨.cell 64 0,900000,3,1,false,false⟩),(999999,⟨.cell 64 1,900001,3,1,false,false⟩)],[],false,[],[],[]⟩ R_k2w⟩
def E_k2x : Entry := ⟨.x ⟨[.g [.d (aS 0),.d (aS 1),.d (aI 2)],.g [.d (aS 3),.d (aS 4),.d (aI 5)]],[],[.s,.s,.i .i64,.s,.s,.i .i64],.g [.o 0 v0,.o 1 v1,.d (aI 2)],[.arr 3 1 v0 false true,.arr 3 1 v1 false true],[.s,.s,.i .i64],false⟩,.r ⟨[0,1,2,3,4,5,13],0,[(999999,⟨.cell 64 0,900000,3,1,false,false⟩),(999999,⟨.cell 64 1,900001,3,1,false,false⟩)],[],false,[],[],[]⟩ R_k2x⟩
def E_k2y : Entry := ⟨.x ⟨[.p 0 0,.d (aI 2),.d (aS 3),.d (aS 4),.d (aS 5)],[.box [.d (aS 0),.o 1 v1],.arr 157 4 v1 true true],[.s,.s,.i .i64,.s,.s,.s],.t [],[.box [.d (aS 0),.o 1 v1],.arr 157 4 v1 true true],[.s,.s],false⟩,.r ⟨[0,1,2,3,4,10,11,12,13,14,15,22,34,52,53,83,98,110,111,112,113],2,[(20,⟨.cell 208 1,217,150,3,true,false⟩)],[(20,⟨[112],[],[217],[],[]⟩),(0,⟨[1,4,3,2],[(0,0)],[1],[],[]⟩)],true,[50,59,61,62,64,66,67,69,75,77,78,86,96,101,103,104,121,122,123],[],[]⟩ R_k2y⟩
def E_k2z : Entry := ⟨.x ⟨[.d (aS 0)],[],[.s],.o 0 v0,[.arr 157 4 v0 true true],[.s],false⟩,.r ⟨[0,2,3,4,5,8,12,13],0,[(10,⟨.cell 176 1,185,157,4,true,false⟩),(6,⟨.slot 4,79,150,3,true,false⟩),(999999,⟨.slot 2,900000,157,4,true,false⟩)],[(6,⟨[12],[],[79],[],[]⟩)],true,[],[],[]⟩ R_k2z⟩
def E_k30 : Entry := ⟨.d ⟨[oI],.one (.one .b),true⟩,.r ⟨[0,2],0,[],[],false,[],[],[]⟩ R_k30⟩
def E_k31 : Entry := ⟨.x ⟨[.g [.d (aS 0),.d (aS 1),.d (aI 2)]],[],[.s,.s,.i .i64],.o 0 v0,[.arr 3 1 v0 false true],[.s],false⟩,.r ⟨[0,1,2,3,4,5,19,21,22,23],0,[],[(5,⟨[22],[],[128],[],[]⟩)],false,[],[],[]⟩ R_k31⟩
def E_k32 : Entry := ⟨.d ⟨[oI],.one (.one .b),true⟩,.r ⟨[0,2],0,[],[],false,[],[],[]⟩ R_k32⟩
def E_k33 : Entry := ⟨.d ⟨[.one .s],.one (.one .b),true⟩,.r ⟨[0,2],0,[],[],false,[],[],[]⟩ R_k33⟩
def E_k34 : Entry := ⟨.d ⟨[.one .s,.one .d],.one (.one .b),true⟩,.r ⟨[0,1,3],0,[],[],false,[],[],[]⟩ R_k34⟩
def E_k35 : Entry := ⟨.d ⟨[.one .s,.one .d],.one (oI),true⟩,.r ⟨[0,1,4,5,7,8,9,16],0,[],[(2,⟨[8],[],[],[],[]⟩)],false,[],[],[]⟩ R_k35⟩
def E_k36 : Entry := ⟨.d ⟨[.one .s,.one .s],.one (oI),true⟩,.r ⟨[0,1,3,4],0,[],[],false,[],[],[]⟩ R_k36⟩
def E_k37 : Entry := ⟨.x ⟨[.d (aS 0)],[],[.s],.o 0 v0,[.arr 23 1 v0 true true],[.s],false⟩,.r ⟨[0,2,3,4,6,8,10,11,14,15,16,25,26,27,28,32,33,34,35,39,40,41,42,55],0,[(5,⟨.slot 3,63,23,1,true,false⟩),(999999,⟨.slot 2,900000,23,1,true,false⟩)],[(10,⟨[27],[],[63],[],[]⟩),(13,⟨[34],[],[63],[],[]⟩),(16,⟨[41],[],[63],[],[]⟩),(5,⟨[15],[],[63],[],[]⟩)],true,[32],[],[]⟩ R_k37⟩
def E_k38 : Entry := ⟨.x ⟨[.d (aS 0),.d (.da 1)],[],[.s,.d],.o 0 v0,[.arr 4 1 v0 false true],[.s],false⟩,.r ⟨[0,1,4,5,7,9,10,12,13,14,15,19,20,21,22,26,27,28],0,[],[(3,⟨[14],[],[176],[],[]⟩),(6,⟨[21],[],[176],[],[]⟩),(9,⟨[27],[],[176],[],[]⟩)],false,[],[],[]⟩ R_k38⟩
def E_k39 : Entry := ⟨.x ⟨[.d (.vc (.slice none 0 0)),.d (aI 0)],[],sI,.o 0 v0,[.arr 150 3 v0 false true],[.s],false⟩,.r ⟨[0,1,4,6,16],0,[(999999,⟨.slot 4,900000,150,3,false,false⟩)],[],false,[],[],[]⟩ R_k39⟩
def E_k3a : Entry := ⟨.x ⟨[.d (aS 0)],[],[.s],.o 0 v0,[.arr 150 3 v0 false true],[.s],false⟩,.r ⟨[0,2,3,5,6,8,9,10,11,12,20,25,26,27,28],0,[],[(11,⟨[27],[],[384],[],[]⟩),(3,⟨[11,3],[],[],[],[]⟩)],false,[],[],[]⟩ R_k3a⟩
def E_k3b : Entry := ⟨.d ⟨[.g [.s,.s,.i .i64],.one .d],.one (.one .b),true⟩,.r ⟨[0,1,2,3],0,[],[],false,[],[],[]⟩ R_k3b⟩
def E_k3c : Entry := ⟨.d ⟨[.g [.s,.s,.s,.b],oI],.one (.one .b),true⟩,.r ⟨[0,1,2,3,4],0,[],[],false,[],[],[]⟩ R_k3c⟩
def E_k3d : Entry := ⟨.x ⟨[.d (aS 0)],[],[.s],.o 0 v0,[.arr 4 1 v0 false true],[.s],false⟩,.r ⟨[0,2,5],0,[(999999,⟨.slot 2,900000,4,1,false,false⟩)],[],false,[],[],[]⟩ R_k3d⟩
def E_k3e : Entry := ⟨.x ⟨[.d (aS 0)],[],[.s],.g [.d (aS 0),.o 0 v1,.o 1 v2],[.arr 23 1 v1 false true,.arr 4 1 v2 false true],[.s,.s,.s],false⟩,.r ⟨[0,2],0,[],[],false,[],[],[]⟩ R_k3e⟩
def E_k3f : Entry := ⟨.d ⟨[.one .s,.one .d],.one (oI),true⟩,.r ⟨[0,1,4,5,7,8,9,16],0,[],[(2,⟨[8],[],[],[],[]⟩)],false,[],[],[]⟩ R_k3f⟩
def E_k3g : Entry := ⟨.d ⟨[.one .s,.one .d],.one (.one .b),true⟩,.r ⟨[0,1,4],0,[],[],false,[],[],[]⟩ R_k3g⟩
def E_k3h : Entry := ⟨.d ⟨[.g [.i .i64,.s]],.one (.one .b),true⟩,.r ⟨[0,1,2],0,[],[],false,[],[],[]⟩ R_k3h⟩
def E_k3i : Entry := ⟨.x ⟨[],[],[],.o 0 v0,[.arr 9 1 v0 false true],[.s],false⟩,.r ⟨[0],0,[],[],false,[],[],[]⟩ R_k3i⟩
def E_k3j : Entry := ⟨.d ⟨[.one .s],.one (.one .d),false⟩,.m joinedF⟩
def E_k3k : Entry := ⟨.d ⟨[.g [.i .i64,.s]],.one (.one .d),false⟩,.r ⟨[0,1,2,32],0,[],[],false,[],[],[]⟩ R_k3k⟩
def E_k3l : Entry := ⟨.d ⟨[.g [.i .i64,.s]],.one (.one .b),true⟩,.r ⟨[0,1,2],0,[],[],false,[],[],[]⟩ R_k3l⟩
def E_k3m : Entry := ⟨.d ⟨[.g [.i .i64,.i .i64,.s]],.one (.one .b),true⟩,.r ⟨[0,1,2,5],0,[],[],false,[],[],[]⟩ R_k3m⟩
def E_k3n : Entry := ⟨.d ⟨[.g [.i .i64,.i .i64,.s]],.one (.one .b),true⟩,.r ⟨[0,1,2],0,[],[],false,[],[],[]⟩ R_k3n⟩
def E_k3o : Entry := ⟨.d ⟨[.g [.i .i64,.s,.s,.s],.one .s],.one (.one .b),true⟩,.r ⟨[0,1,2,4],0,[],[],false,[],[],[]⟩ R_k3o⟩
def E_k3p : Entry := ⟨.d ⟨[.g [.i .i64,.s,.s,.s],oI],.one (.one .b),true⟩,.r ⟨[0,1,2,4],0,[],[],false,[],[],[]⟩ R_k3p⟩
def E_k3q : Entry := ⟨.d ⟨[.one .s],.one (.one .b),true⟩,.r ⟨[0,2],0,[],[],false,[],[],[]⟩ R_k3q⟩
def E_k3r : Entry := ⟨.d ⟨[.g [.i .i64,.s,.s,.s],.g [.i .i64,.i .i64,.i .i64,.s]],.one (.one .b),true⟩,.r ⟨[0,1,2,3,4],0,[],[],false,[],[],[]⟩ R_k3r⟩
def E_k3s : Entry := ⟨.d ⟨[.one .s,.one .d],.one (.one .b),true⟩,.r ⟨[0,1,4],0,[],[],false,[],[],[]⟩ R_k3s⟩
def E_k3t : Entry := ⟨.d ⟨[.one .s],.one (.one .b),true⟩,.r ⟨[0,2],0,[],[],false,[],[],[]⟩ R_k3t⟩
def E_k3u : Entry := ⟨.d ⟨[.one .s],.one (.one .b),true⟩,.r ⟨[0,2],0,[],[],false,[],[],[]⟩ R_k3u⟩
def E_k3v : Entry := ⟨.d ⟨[.one .s],.one (.one .b),true⟩,.r ⟨[0,2],0,[],[],false,[],[],[]⟩ R_k3v⟩
def E_k3w : Entry := ⟨.d ⟨[.g [.s,.s],.one .s,oI,.one .s],.one (.one .b),true⟩,.r ⟨[0,1,2,3,4,8],0,[],[],false,[],[],[]⟩ R_k3w⟩
def E_k3x : Entry := ⟨.d ⟨[.one .s,.one .s],.one (oI),true⟩,.r ⟨[0,1,4,5,6,7,8,9,10,11],0,[],[(3,⟨[10,5],[],[],[],[]⟩)],false,[],[],[]⟩ R_k3x⟩
def E_k3y : Entry := ⟨.d ⟨[.one .s,.one .d,.one .d],.one (.one .b),true⟩,.r ⟨[0,1,2,4],0,[],[],false,[],[],[]⟩ R_k3y⟩
def E_k3z : Entry := ⟨.d ⟨[.g [.s,.s],.one .s,oI,.one .s],.one (.one .b),true⟩,.r ⟨[0,1,2,3,4,7,8,9,15],0,[],[],false,[],[],[]⟩ R_k3z⟩
def E_k40 : Entry := ⟨.d ⟨[.g [.s,.s,.s],.one .s],.one (.one .b),true⟩,.r ⟨[0,1,2,4,5,6,7,8,9,10,22],0,[],[(2,⟨[9],[],[],[],[]⟩)],false,[],[],[]⟩ R_k40⟩
def E_k41 : Entry := ⟨.d ⟨[.g [.s,.s,.s],.g [.s,.s],oI,.one .s],.one (.one .b),true⟩,.r ⟨[0,1,2,3,4,5,8],0,[],[],false,[],[],[]⟩ R_k41⟩
def E_k42 : Entry := ⟨.d ⟨[oI],.one (.one .b),true⟩,.r ⟨[0,2],0,[],[],false,[],[],[]⟩ R_k42⟩
def E_k43 : Entry := ⟨.d ⟨[.g [.i .i64,.s,.s,.s],.one .s],.one (.one .b),true⟩,.r ⟨[0,1,2,4],0,[],[],false,[],[],[]⟩ R_k43⟩
def E_k44 : Entry := ⟨.d ⟨[.g [.b,.s,.s]],.one (.one .b),true⟩,.r ⟨[0,1,2],0,[],[],false,[],[],[]⟩ R_k44⟩
def E_k45 : Entry := ⟨.d ⟨[.g [.i .i64,.s,.s,.s],.g [.s,.s,.s],.g [.b,.i .i64,.s,.s,.s,.s]],.one (.one .b),true⟩,.r ⟨[0,1,2,3,4,5,6,7,8,9,10,11,37,39,40,41,42,70,73,74,75,76,109],0,[],[(10,⟨[75],[],[],[],[]⟩),(4,⟨[41],[],[],[],[]⟩)],false,[],[],[]⟩ R_k45⟩
def E_k46 : Entry := ⟨.d ⟨[.g [.i .i64,.s,.s,.s],.g [.b,.i .i64,.s,.s,.s,.s]],.one (.one .b),true⟩,.r ⟨[0,1,2,3,4],0,[],[],false,[],[],[]⟩ R_k46⟩
def E_k47 : Entry := ⟨.x ⟨[.g [.d (aI 0),.d (aS 1)]],[],[.i .i64,.s],.g [.d (aI 0),.o 0 v1],[.arr 3 1 v1 false true],[.i .i64,.s],false⟩,.r ⟨[0,1,2],0,[],[],false,[],[],[]⟩ R_k47⟩
def E_k48 : Entry := ⟨.x ⟨[.d (aS 0)],[],[.s],.o 0 v0,[.arr 132 3 v0 true true],[.s],false⟩,.r ⟨[0,2,3,5,6,7,8,9],0,[(3,⟨.slot 3,63,132,3,true,false⟩)],[(3,⟨[8],[],[63],[],[]⟩)],true,[],[],[]⟩ R_k48⟩
def E_k49 : Entry := ⟨.x ⟨[.p 0 0],[.box [.d (aB 0),.d (aI 1),.d (aS 2),.d (aS 3),.d (aS 4),.d (aS 5)]],[.b,.i .i64,.s,.s,.s,.s],.o 1 v0,[.box [.d (aB 1),.d (aI 2),.d (aS 3),.d (aS 4),.d (aS 5),.d (aS 6)],.arr 94 11 v0 true true],[.s,.b,.i .i64,.s,.s,.s,.s],false⟩,.r ⟨[0,2,3,4,9,10,11],1,[(3,⟨.slot 3,63,94,11,true,false⟩)],[(3,⟨[10],[],[63],[],[]⟩)],true,[],[],[]⟩ R_k49⟩
def E_k4a : Entry := ⟨.d ⟨[.one .s,.one .d],.one (oI),true⟩,.r ⟨[0,1,4,5,7,8,9,16],0,[],[(2,⟨[8],[],[],[],[]⟩)],false,[],[],[]⟩ R_k4a⟩
def E_k4b : Entry := ⟨.d ⟨[.one .s,.one .d],.one (.one .b),true⟩,.r ⟨[0,1,4],0,[],[],false,[],[],[]⟩ R_k4b⟩
def E_k4c : Entry := ⟨.d ⟨[.g [.b,.s,.s]],.one (.one .b),true⟩,.r ⟨[0,1,2],0,[],[],false,[],[],[]⟩ R_k4c⟩
def E_k4d : Entry := ⟨.x ⟨[.p 0 0],[.box [.d (aB 0),.d (aI 1),.d (aS 2),.d (aS 3),.d (aS 4),.d (aS 5)]],[.b,.i .i64,.s,.s,.s,.s],.o 1 v0,[.box [.d (aB 1),.d (aI 2),.d (aS 3),.d (aS 4),.d (aS 5),.d (aS 6)],.arr 94 11 v0 true true],[.s,.b,.i .i64,.s,.s,.s,.s],false⟩,.r ⟨[0,2,3,4,9,24,29,30,31],1,[(999999,⟨.slot 2,900000,94,11,true,false⟩)],[(6,⟨[30],[],[176],[],[]⟩)],true,[],[],[]⟩ R_k4d⟩
def E_k4e : Entry := ⟨.x ⟨[.o 0 v0],[.arr 94 11 v0 true true],[.s],.o 1 v0,[.dead,.arr 94 11 v0 true true],[.s],false⟩,.r ⟨[0,2],1,[],[],true,[],[],[]⟩ R_k4e⟩
def E_k4f : Entry := ⟨.x ⟨[.g [.d (aI 0),.d (aS 1),.d (aS 2),.d (aS 3)],.g [.d (aB 4),.d (aI 5),.d (aS 6),.d (aS 7),.d (aS 8),.d (aS 9)]],[],[.i .i64,.s,.s,.s,.b,.i .i64,.s,.s,.s,.s],.o 0 v0,[.arr 94 11 v0 true true],[.s],true⟩,.r ⟨[0,1,2,3,4,8],0,[(999999,⟨.slot 4,900000,94,11,true,false⟩)],[],true,[],[],[]⟩ R_k4f⟩
def E_k4g : Entry := ⟨.d ⟨[.one .s,.one .s],.one (.one .b),true⟩,.r ⟨[0,1,4,5,10,14,25],0,[],[(4,⟨[5],[],[],[],[]⟩)],false,[],[],[]⟩ R_k4g⟩
def E_k4h : Entry := ⟨.d ⟨[.g [.i .i64,.i .i64,.i .i64,.s],.g [.i .i64,.i .i64,.i .i64,.s]],.one (.one .b),true⟩,.r ⟨[0,1,2,3,4,9,14,19,25],0,[],[],false,[],[],[]⟩ R_k4h⟩
def E_k4i : Entry := ⟨.d ⟨[.g [.i .i64,.s],.g [.i .i64,.s]],.one (.one .b),true⟩,.r ⟨[0,1,2,3,4,9,15],0,[],[],false,[],[],[]⟩ R_k4i⟩
def E_k4j : Entry := ⟨.d ⟨[.g [.i .i64,.i .i64,.s],.g [.i .i64,.i .i64,.s]],.one (.one .b),true⟩,.r ⟨[0,1,2,3,4,9,15],0,[],[],false,[],[],[]⟩ R_k4j⟩
def E_k4k : Entry := ⟨.d ⟨[.one .s,.one .s],.one (.one .b),true⟩,.r ⟨[0,1,4,5,10,14,26],0,[],[(4,⟨[5],[],[],[],[]⟩)],false,[],[],[]⟩ R_k4k⟩
def E_k4l : Entry := ⟨.d ⟨[.g [.i .i64,.i .i64,.i .i64,.i .i64,.i .i64,.i .i64,.i .i64,.s,.s,.s,.s],.g [.i .i64,.i .i64,.i .i64,.i .i64,.i .i64,.i .i64,.i .i64,.s,.s,.s,.s]],.one (.one .b),true⟩,.r ⟨[0,1,2,3,4,9,14,19,24,30,36,42,48],0,[],[],false,[],[],[]⟩ R_k4l⟩
def E_k4m : Entry := ⟨.d ⟨[.one .s,.one .s],.one (.one .b),true⟩,.r ⟨[0,1,4,5,10,14,26],0,[],[(4,⟨[5],[],[],[],[]⟩)],false,[],[],[]⟩ R_k4m⟩
def E_k4n : Entry := ⟨.d ⟨[.g [.s,.s,.i .i64],.g [.s,.s,.i .i64]],.one (.one .b),true⟩,.r ⟨[0,1,2,3,4,10,16,21],0,[],[],false,[],[],[]⟩ R_k4n⟩
def E_k4o : Entry := ⟨.d ⟨[.g [.i .i64,.i .i64,.i .i64,.s,.s,.i .i64],.g [.i .i64,.i .i64,.i .i64,.s,.s,.i .i64]],.one (.one .b),true⟩,.r ⟨[0,1,2,3,4,9,14,19,25],0,[],[],false,[],[],[]⟩ R_k4o⟩
def E_k4p : Entry := ⟨.d ⟨[.one .s,.one .s],.one (.one .b),true⟩,.r ⟨[0,1,4,5,10,14,26],0,[],[(4,⟨[5],[],[],[],[]⟩)],false,[],[],[]⟩ R_k4p⟩
def E_k4q : Entry := ⟨.d ⟨[.one .s,.one .s],.one (.one .b),true⟩,.r ⟨[0,1,4,5,10,14,26],0,[],[(4,⟨[5],[],[],[],[]⟩)],false,[],[],[]⟩ R_k4q⟩
def E_k4r : Entry := ⟨.d ⟨[.g [.i .i64,.s,.s,.s],.g [.i .i64,.s,.s,.s]],.one (.one .b),true⟩,.r ⟨[0,1,2,3,4,9,15,21,27],0,[],[],false,[],[],[]⟩ R_k4r⟩
def E_k4s : Entry := ⟨.d ⟨[.one .s,.one .s],.one (.one .b),true⟩,.r ⟨[0,1,4,5,10,14,26],0,[],[(4,⟨[5],[],[],[],[]⟩)],false,[],[],[]⟩ R_k4s⟩
def E_k4t : Entry := ⟨.d ⟨[.g [.b,.s,.s],.g [.b,.s,.s]],.one (.one .b),true⟩,.r ⟨[0,1,2,3,4,9,15,21],0,[],[],false,[],[],[]⟩ R_k4t⟩
def E_k4u : Entry := ⟨.d ⟨[.one .s,.one .s],.one (.one .b),true⟩,.r ⟨[0,1,4,5,10,14,26],0,[],[(4,⟨[5],[],[],[],[]⟩)],false,[],[],[]⟩ R_k4u⟩
def E_k4v : Entry := ⟨.d ⟨[.g [.b,.i .i64,.s,.s,.s,.s],.g [.b,.i .i64,.s,.s,.s,.s]],.one (.one .b),true⟩,.r ⟨[0,1,2,3,4,9,14,20,26,32,38],0,[],[],false,[],[],[]⟩ R_k4v⟩
def E_k4w : Entry := ⟨.x ⟨[.o 0 v0,.d (aI 1)],[.arr 3 1 v0 true true],[.s,.i .i64],.d (aI 0),[.arr 3 1 v1 true true],[.i .i64,.s],false⟩,.r ⟨[0,1,4,5,9],1,[],[(2,⟨[5,1],[],[0],[],[]⟩)],false,[],[],[]⟩ R_k4w⟩
def E_k4x : Entry := ⟨.x ⟨[.o 0 v0,.d (aI 1)],[.arr 194 6 v0 true true],[.s,.i .i64],.d (aI 0),[.arr 194 6 v1 true true],[.i .i64,.s],false⟩,.r ⟨[0,1,4,5,9],1,[],[(2,⟨[5,1],[],[0],[],[]⟩)],false,[],[10,11],[]⟩ R_k4x⟩
def E_k4y : Entry := ⟨.x ⟨[.o 0 v0,.d (aI 1)],[.arr 129 1 v0 true true],[.s,.i .i64],.d (aI 0),[.arr 129 1 v1 true true],[.i .i64,.s],false⟩,.r ⟨[0,1,4,5,9],1,[],[(2,⟨[5,1],[],[0],[],[]⟩)],false,[],[4],[]⟩ R_k4y⟩
def E_k4z : Entry := ⟨.x ⟨[.g [.d (aI 0),.o 0 v1,.o 1 v2,.o 2 v3],.d (aI 4)],[.arr 129 1 v1 true true,.arr 3 1 v2 true true,.arr 3 1 v3 true true],[.i .i64,.s,.s,.s,.i .i64],.d (aI 0),[.arr 129 1 v1 true true,.arr 3 1 v2 true true,.arr 3 1 v3 true true],[.i .i64,.s,.s,.s],false⟩,.r ⟨[0,1,2,4],3,[],[],false,[],[],[]⟩ R_k4z⟩
def E_k50 : Entry := ⟨.x ⟨[.o 0 v0,.d (aI 1)],[.arr 132 3 v0 true true],[.s,.i .i64],.d (aI 0),[.arr 132 3 v1 true true],[.i .i64,.s],false⟩,.r ⟨[0,1,4,5,9],1,[],[(2,⟨[5,1],[],[0],[],[]⟩)],false,[],[8],[]⟩ R_k50⟩
def E_k51 : Entry := ⟨.x ⟨[.o 0 v0,.d (aI 1)],[.arr 65 4 v0 true true],[.s,.i .i64],.d (aI 0),[.arr 65 4 v1 true true],[.i .i64,.s],false⟩,.r ⟨[0,1,4,5,9],1,[],[(2,⟨[5,1],[],[0],[],[]⟩)],false,[],[10],[]⟩ R_k51⟩
def E_k52 : Entry := ⟨.x ⟨[.o 0 v0,.d (aI 1)],[.arr 134 3 v0 true true],[.s,.i .i64],.d (aI 0),[.arr 134 3 v1 true true],[.i .i64,.s],false⟩,.r ⟨[0,1,4,5,9],1,[],[(2,⟨[5,1],[],[0],[],[]⟩)],false,[],[6,7],[]⟩ R_k52⟩
def E_k53 : Entry := ⟨.x ⟨[.g [.d (aB 0),.d (aI 1),.o 0 v2,.o 1 v3,.o 2 v4,.o 3 v5],.d (aI 6)],[.arr 3 1 v2 true true,.arr 132 3 v3 true true,.arr 65 4 v4 true true,.arr 134 3 v5 true true],[.b,.i .i64,.s,.s,.s,.s,.i .i64],.d (aI 0),[.arr 3 1 v1 true true,.arr 132 3 v2 true true,.arr 65 4 v3 true true,.arr 134 3 v4 true true],[.i .i64,.s,.s,.s,.s],false⟩,.r ⟨[0,1,2,4],4,[],[],false,[],[],[]⟩ R_k53⟩
def E_k54 : Entry := ⟨.x ⟨[.o 0 v0,.d (aI 1)],[.arr 94 11 v0 true true],[.s,.i .i64],.d (aI 0),[.arr 94 11 v1 true true],[.i .i64,.s],false⟩,.r ⟨[0,1,4,5,9],1,[],[(2,⟨[5,1],[],[0],[],[]⟩)],false,[],[18,19,20,21],[]⟩ R_k54⟩
def E_k55 : Entry := ⟨.d ⟨[.one .s,oI],.one (oI),true⟩,.r ⟨[0,1,4,5,9,17],0,[],[(2,⟨[5,1],[],[],[],[]⟩)],false,[],[],[]⟩ R_k55⟩
def E_k56 : Entry := ⟨.d ⟨[.one .s,oI],.one (oI),true⟩,.r ⟨[0,1,4,5,9,18,28,40],0,[],[(2,⟨[5,1],[],[],[],[]⟩)],false,[],[],[]⟩ R_k56⟩
def E_k57 : Entry := ⟨.d ⟨[.one .s,oI],.one (oI),true⟩,.r ⟨[0,1,4,5,9,18,27,36,45,55,65,75,87,96,105,114],0,[],[(2,⟨[5,1],[],[],[],[]⟩)],false,[],[],[]⟩ R_k57⟩
def E_k58 : Entry := ⟨.d ⟨[.g [.i .i64,.s,.s,.s],.g [.b,.i .i64,.s,.s,.s,.s]],.one (.one .b),true⟩,.r ⟨[0,1,2,3,4,5,6,7,8,9,10,11,12,13,18,23,39,44,49,63,71,74,83,88,91],0,[],[],true,[],[],[]⟩ R_k58⟩
def L : Tabl := [(f_k0,E_k0),(f_k1,E_k1),(f_k2,E_k2),(f_k3,E_k3),(f_k4,E_k4),(f_k5,E_k5),(f_k6,E_k6),(f_k7,E_k7),(f_k8,E_k8),(f_k9,E_k9),(f_ka,E_ka),(f_kb,E_kb),(f_kc,E_kc),(f_kd,E_kd),(f_ke,E_ke),(f_kf,E_kf),(f_kg,E_kg),(f_kh,E_kh),(f_ki,E_ki),(f_kj,E_kj),(f_kk,E_kk),(f_kl,E_kl),(f_km,E_km),(f_kn,E_kn),(f_ko,E_ko),(f_kp,E_kp),(f_kq,E_kq),(f_kr,E_kr),(f_ks,E_ks),(f_kt,E_kt),(f_ku,E_ku),(f_kv,E_kv),(f_kw,E_kw),(f_kx,E_kx),(f_ky,E_ky),(f_kz,E_kz),(f_k10,E_k10),(f_k11,E_k11),(f_k12,E_k12),(f_k13,E_k13),(f_k14,E_k14),(f_k15,E_k15),(f_k16,E_k16),(f_k17,E_k17),(f_k18,E_k18),(f_k19,E_k19),(f_k1a,E_k1a),(f_k1b,E_k1b),(f_k1c,E_k1c),(f_k1d,E_k1d),(f_k1e,E_k1e),(f_k1f,E_k1f),(f_k1g,E_k1g),(f_k1h,E_k1h),(f_k1i,E_k1i),(f_k1j,E_k1j),(f_k1k,E_k1k),(f_k1l,E_k1l),(f_k1m,E_k1m),(f_k1n,E_k1n),(f_k1o,E_k1o),(f_k1p,E_k1p),(f_k1q,E_k1q),(f_k1r,E_k1r),(f_k1s,E_k1s),(f_k1t,E_k1t),(f_k1u,E_k1u),(f_k1v,E_k1v),(f_k1w,E_k1w),(f_k1x,E_k1x),(f_k1y,E_k1y),(f_k1z,E_k1z),(f_k20,E_k20),(f_k21,E_k21),(f_k22,E_k22),(f_k23,E_k23),(f_k24,E_k24),(f_k25,E_k25),(f_k26,E_k26),(f_k27,E_k27),(f_k28,E_k28),(f_k29,E_k29),(f_k2a,E_k2a),(f_k2b,E_k2b),(f_k2c,E_k2c),(f_k2d,E_k2d),(f_k2e,E_k2e),(f_k2f,E_k2f),(f_k2g,E_k2g),(f_k2h,E_k2h),(f_k2i,E_k2i),(f_k2j,E_k2j),(f_k2k,E_k2k),(f_k2l,E_k2l),(f_k2m,E_k2m),(f_k2n,E_k2n),(f_k2o,E_k2o),(f_k2p,E_k2p),(f_k2q,E_k2q),(f_k2r,E_k2r),(f_k2s,E_k2s),(f_k2t,E_k2t),(f_k2u,E_k2u),(f_k2v,E_k2v),(f_k2w,E_k2w),(f_k2x,E_k2x),(f_k2y,E_k2y),(f_k2z,E_k2z),(f_k30,E_k30),(f_k31,E_k31),(f_k32,E_k32),(f_k33,E_k33),(f_k34,E_k34),(f_k35,E_k35),(f_k36,E_k36),(f_k37,E_k37),(f_k38,E_k38),(f_k39,E_k39),(f_k3a,E_k3a),(f_k3b,E_k3b),(f_k3c,E_k3c),(f_k3d,E_k3d),(f_k3e,E_k3e),(f_k3f,E_k3f),(f_k3g,E_k3g),(f_k3h,E_k3h),(f_k3i,E_k3i),(f_k3j,E_k3j),(f_k3k,E_k3k),(f_k3l,E_k3l),(f_k3m,E_k3m),(f_k3n,E_k3n),(f_k3o,E_k3o),(f_k3p,E_k3p),(f_k3q,E_k3q),(f_k3r,E_k3r),(f_k3s,E_k3s),(f_k3t,E_k3t),(f_k3u,E_k3u),(f_k3v,E_k3v),(f_k3w,E_k3w),(f_k3x,E_k3x),(f_k3y,E_k3y),(f_k3z,E_k3z),(f_k40,E_k40),(f_k41,E_k41),(f_k42,E_k42),(f_k43,E_k43),(f_k44,E_k44),(f_k45,E_k45),(f_k46,E_k46),(f_k47,E_k47),(f_k48,E_k48),(f_k49,E_k49),(f_k4a,E_k4a),(f_k4b,E_k4b),(f_k4c,E_k4c),(f_k4d,E_k4d),(f_k4e,E_k4e),(f_k4f,E_k4f),(f_k4g,E_k4g),(f_k4h,E_k4h),(f_k4i,E_k4i),(f_k4j,E_k4j),(f_k4k,E_k4k),(f_k4l,E_k4l),(f_k4m,E_k4m),(f_k4n,E_k4n),(f_k4o,E_k4o),(f_k4p,E_k4p),(f_k4q,E_k4q),(f_k4r,E_k4r),(f_k4s,E_k4s),(f_k4t,E_k4t),(f_k4u,E_k4u),(f_k4v,E_k4v),(f_k4w,E_k4w),(f_k4x,E_k4x),(f_k4y,E_k4y),(f_k4z,E_k4z),(f_k50,E_k50),(f_k51,E_k51),(f_k52,E_k52),(f_k53,E_k53),(f_k54,E_k54),(f_k55,E_k55),(f_k56,E_k56),(f_k57,E_k57),(f_k58,E_k58)]
set_option maxRecDepth 100000
theorem L_k0 : L.lookup f_k0 = some E_k0 := rfl
theorem L_k1 : L.lookup f_k1 = some E_k1 := rfl
theorem L_k2 : L.lookup f_k2 = some E_k2 := rfl
theorem L_k3 : L.lookup f_k3 = some E_k3 := rfl
theorem L_k4 : L.lookup f_k4 = some E_k4 := rfl
theorem L_k5 : L.lookup f_k5 = some E_k5 := rfl
theorem L_k6 : L.lookup f_k6 = some E_k6 := rfl
theorem L_k7 : L.lookup f_k7 = some E_k7 := rfl
theorem L_k8 : L.lookup f_k8 = some E_k8 := rfl
theorem L_k9 : L.lookup f_k9 = some E_k9 := rfl
theorem L_ka : L.lookup f_ka = some E_ka := rfl
theorem L_kb : L.lookup f_kb = some E_kb := rfl
theorem L_kc : L.lookup f_kc = some E_kc := rfl
theorem L_kd : L.lookup f_kd = some E_kd := rfl
theorem L_ke : L.lookup f_ke = some E_ke := rfl
theorem L_kf : L.lookup f_kf = some E_kf := rfl
theorem L_kg : L.lookup f_kg = some E_kg := rfl
theorem L_kh : L.lookup f_kh = some E_kh := rfl
theorem L_ki : L.lookup f_ki = some E_ki := rfl
theorem L_kj : L.lookup f_kj = some E_kj := rfl
theorem L_kk : L.lookup f_kk = some E_kk := rfl
theorem L_kl : L.lookup f_kl = some E_kl := rfl
theorem L_km : L.lookup f_km = some E_km := rfl
theorem L_kn : L.lookup f_kn = some E_kn := rfl
theorem L_ko : L.lookup f_ko = some E_ko := rfl
theorem L_kp : L.lookup f_kp = some E_kp := rfl
theorem L_kq : L.lookup f_kq = some E_kq := rfl
theorem L_kr : L.lookup f_kr = some E_kr := rfl
theorem L_ks : L.lookup f_ks = some E_ks := rfl
theorem L_kt : L.lookup f_kt = some E_kt := rfl
theorem L_ku : L.lookup f_ku = some E_ku := rfl
theorem L_kv : L.lookup f_kv = some E_kv := rfl
theorem L_kw : L.lookup f_kw = some E_kw := rfl
theorem L_kx : L.lookup f_kx = some E_kx := rfl
theorem L_ky : L.lookup f_ky = some E_ky := rfl
theorem L_kz : L.lookup f_kz = some E_kz := rfl
theorem L_k10 : L.lookup f_k10 = some E_k10 := rfl
theorem L_k11 : L.lookup f_k11 = some E_k11 := rfl
theorem L_k12 : L.lookup f_k12 = some E_k12 := rfl
theorem L_k13 : L.lookup f_k13 = some E_k13 := rfl
theorem L_k14 : L.lookup f_k14 = some E_k14 := rfl
theorem L_k15 : L.lookup f_k15 = some E_k15 := rfl
theorem L_k16 : L.lookup f_k16 = some E_k16 := rfl
theorem L_k17 : L.lookup f_k17 = some E_k17 := rfl
theorem L_k18 : L.lookup f_k18 = some E_k18 := rfl
theorem L_k19 : L.lookup f_k19 = some E_k19 := rfl
theorem L_k1a : L.lookup f_k1a = some E_k1a := rfl
theorem L_k1b : L.lookup f_k1b = some E_k1b := rfl
theorem L_k1c : L.lookup f_k1c = some E_k1c := rfl
theorem L_k1d : L.lookup f_k1d = some E_k1d := rfl
theorem L_k1e : L.lookup f_k1e = some E_k1e := rfl
theorem L_k1f : L.lookup f_k1f = some E_k1f := rfl
theorem L_k1g : L.lookup f_k1g = some E_k1g := rfl
theorem L_k1h : L.lookup f_k1h = some E_k1h := rfl
theorem L_k1i : L.lookup f_k1i = some E_k1i := rfl
theorem L_k1j : L.lookup f_k1j = some E_k1j := rfl
theorem L_k1k : L.lookup f_k1k = some E_k1k := rfl
theorem L_k1l : L.lookup f_k1l = some E_k1l := rfl
theorem L_k1m : L.lookup f_k1m = some E_k1m := rfl
theorem L_k1n : L.lookup f_k1n = some E_k1n := rfl
theorem L_k1o : L.lookup f_k1o = some E_k1o := rfl
theorem L_k1p : L.lookup f_k1p = some E_k1p := rfl
theorem L_k1q : L.lookup f_k1q = some E_k1q := rfl
theorem L_k1r : L.lookup f_k1r = some E_k1r := rfl
theorem L_k1s : L.lookup f_k1s = some E_k1s := rfl
theorem L_k1t : L.lookup f_k1t = some E_k1t := rfl
theorem L_k1u : L.lookup f_k1u = some E_k1u := rfl
theorem L_k1v : L.lookup f_k1v = some E_k1v := rfl
theorem L_k1w : L.lookup f_k1w = some E_k1w := rfl
theorem L_k1x : L.lookup f_k1x = some E_k1x := rfl
theorem L_k1y : L.lookup f_k1y = some E_k1y := rfl
theorem L_k1z : L.lookup f_k1z = some E_k1z := rfl
theorem L_k20 : L.lookup f_k20 = some E_k20 := rfl
theorem L_k21 : L.lookup f_k21 = some E_k21 := rfl
theorem L_k22 : L.lookup f_k22 = some E_k22 := rfl
theorem L_k23 : L.lookup f_k23 = some E_k23 := rfl
theorem L_k24 : L.lookup f_k24 = some E_k24 := rfl
theorem L_k25 : L.lookup f_k25 = some E_k25 := rfl
theorem L_k26 : L.lookup f_k26 = some E_k26 := rfl
theorem L_k27 : L.lookup f_k27 = some E_k27 := rfl
theorem L_k28 : L.lookup f_k28 = some E_k28 := rfl
theorem L_k29 : L.lookup f_k29 = some E_k29 := rfl
theorem L_k2a : L.lookup f_k2a = some E_k2a := rfl
theorem L_k2b : L.lookup f_k2b = some E_k2b := rfl
theorem L_k2c : L.lookup f_k2c = some E_k2c := rfl
theorem L_k2d : L.lookup f_k2d = some E_k2d := rfl
theorem L_k2e : L.lookup f_k2e = some E_k2e := rfl
theorem L_k2f : L.lookup f_k2f = some E_k2f := rfl
theorem L_k2g : L.lookup f_k2g = some E_k2g := rfl
theorem L_k2h : L.lookup f_k2h = some E_k2h := rfl
theorem L_k2i : L.lookup f_k2i = some E_k2i := rfl
theorem L_k2j : L.lookup f_k2j = some E_k2j := rfl
theorem L_k2k : L.lookup f_k2k = some E_k2k := rfl
theorem L_k2l : L.lookup f_k2l = some E_k2l := rfl
theorem L_k2m : L.lookup f_k2m = some E_k2m := rfl
theorem L_k2n : L.lookup f_k2n = some E_k2n := rfl
theorem L_k2o : L.lookup f_k2o = some E_k2o := rfl
theorem L_k2p : L.lookup f_k2p = some E_k2p := rfl
theorem L_k2q : L.lookup f_k2q = some E_k2q := rfl
theorem L_k2r : L.lookup f_k2r = some E_k2r := rfl
theorem L_k2s : L.lookup f_k2s = some E_k2s := rfl
theorem L_k2t : L.lookup f_k2t = some E_k2t := rfl
theorem L_k2u : L.lookup f_k2u = some E_k2u := rfl
theorem L_k2v : L.lookup f_k2v = some E_k2v := rfl
theorem L_k2w : L.lookup f_k2w = some E_k2w := rfl
theorem L_k2x : L.lookup f_k2x = some E_k2x := rfl
theorem L_k2y : L.lookup f_k2y = some E_k2y := rfl
theorem L_k2z : L.lookup f_k2z = some E_k2z := rfl
theorem L_k30 : L.lookup f_k30 = some E_k30 := rfl
theorem L_k31 : L.lookup f_k31 = some E_k31 := rfl
theorem L_k32 : L.lookup f_k32 = some E_k32 := rfl
theorem L_k33 : L.lookup f_k33 = some E_k33 := rfl
theorem L_k34 : L.lookup f_k34 = some E_k34 := rfl
theorem L_k35 : L.lookup f_k35 = some E_k35 := rfl
theorem L_k36 : L.lookup f_k36 = some E_k36 := rfl
theorem L_k37 : L.lookup f_k37 = some E_k37 := rfl
theorem L_k38 : L.lookup f_k38 = some E_k38 := rfl
theorem L_k39 : L.lookup f_k39 = some E_k39 := rfl
theorem L_k3a : L.lookup f_k3a = some E_k3a := rfl
theorem L_k3b : L.lookup f_k3b = some E_k3b := rfl
theorem L_k3c : L.lookup f_k3c = some E_k3c := rfl
theorem L_k3d : L.lookup f_k3d = some E_k3d := rfl
theorem L_k3e : L.lookup f_k3e = some E_k3e := rfl
theorem L_k3f : L.lookup f_k3f = some E_k3f := rfl
theorem L_k3g : L.lookup f_k3g = some E_k3g := rfl
theorem L_k3h : L.lookup f_k3h = some E_k3h := rfl
theorem L_k3i : L.lookup f_k3i = some E_k3i := rfl
theorem L_k3j : L.lookup f_k3j = some E_k3j := rfl
theorem L_k3k : L.lookup f_k3k = some E_k3k := rfl
theorem L_k3l : L.lookup f_k3l = some E_k3l := rfl
theorem L_k3m : L.lookup f_k3m = some E_k3m := rfl
theorem L_k3n : L.lookup f_k3n = some E_k3n := rfl
theorem L_k3o : L.lookup f_k3o = some E_k3o := rfl
theorem L_k3p : L.lookup f_k3p = some E_k3p := rfl
theorem L_k3q : L.lookup f_k3q = some E_k3q := rfl
theorem L_k3r : L.lookup f_k3r = some E_k3r := rfl
theorem L_k3s : L.lookup f_k3s = some E_k3s := rfl
theorem L_k3t : L.lookup f_k3t = some E_k3t := rfl
theorem L_k3u : L.lookup f_k3u = some E_k3u := rfl
theorem L_k3v : L.lookup f_k3v = some E_k3v := rfl
theorem L_k3w : L.lookup f_k3w = some E_k3w := rfl
theorem L_k3x : L.lookup f_k3x = some E_k3x := rfl
theorem L_k3y : L.lookup f_k3y = some E_k3y := rfl
theorem L_k3z : L.lookup f_k3z = some E_k3z := rfl
theorem L_k40 : L.lookup f_k40 = some E_k40 := rfl
theorem L_k41 : L.lookup f_k41 = some E_k41 := rfl
theorem L_k42 : L.lookup f_k42 = some E_k42 := rfl
theorem L_k43 : L.lookup f_k43 = some E_k43 := rfl
theorem L_k44 : L.lookup f_k44 = some E_k44 := rfl
theorem L_k45 : L.lookup f_k45 = some E_k45 := rfl
theorem L_k46 : L.lookup f_k46 = some E_k46 := rfl
theorem L_k47 : L.lookup f_k47 = some E_k47 := rfl
theorem L_k48 : L.lookup f_k48 = some E_k48 := rfl
theorem L_k49 : L.lookup f_k49 = some E_k49 := rfl
theorem L_k4a : L.lookup f_k4a = some E_k4a := rfl
theorem L_k4b : L.lookup f_k4b = some E_k4b := rfl
theorem L_k4c : L.lookup f_k4c = some E_k4c := rfl
theorem L_k4d : L.lookup f_k4d = some E_k4d := rfl
theorem L_k4e : L.lookup f_k4e = some E_k4e := rfl
theorem L_k4f : L.lookup f_k4f = some E_k4f := rfl
theorem L_k4g : L.lookup f_k4g = some E_k4g := rfl
theorem L_k4h : L.lookup f_k4h = some E_k4h := rfl
theorem L_k4i : L.lookup f_k4i = some E_k4i := rfl
theorem L_k4j : L.lookup f_k4j = some E_k4j := rfl
theorem L_k4k : L.lookup f_k4k = some E_k4k := rfl
theorem L_k4l : L.lookup f_k4l = some E_k4l := rfl
theorem L_k4m : L.lookup f_k4m = some E_k4m := rfl
theorem L_k4n : L.lookup f_k4n = some E_k4n := rfl
theorem L_k4o : L.lookup f_k4o = some E_k4o := rfl
theorem L_k4p : L.lookup f_k4p = some E_k4p := rfl
theorem L_k4q : L.lookup f_k4q = some E_k4q := rfl
theorem L_k4r : L.lookup f_k4r = some E_k4r := rfl
theorem L_k4s : L.lookup f_k4s = some E_k4s := rfl
theorem L_k4t : L.lookup f_k4t = some E_k4t := rfl
theorem L_k4u : L.lookup f_k4u = some E_k4u := rfl
theorem L_k4v : L.lookup f_k4v = some E_k4v := rfl
theorem L_k4w : L.lookup f_k4w = some E_k4w := rfl
theorem L_k4x : L.lookup f_k4x = some E_k4x := rfl
theorem L_k4y : L.lookup f_k4y = some E_k4y := rfl
theorem L_k4z : L.lookup f_k4z = some E_k4z := rfl
theorem L_k50 : L.lookup f_k50 = some E_k50 := rfl
theorem L_k51 : L.lookup f_k51 = some E_k51 := rfl
theorem L_k52 : L.lookup f_k52 = some E_k52 := rfl
theorem L_k53 : L.lookup f_k53 = some E_k53 := rfl
theorem L_k54 : L.lookup f_k54 = some E_k54 := rfl
theorem L_k55 : L.lookup f_k55 = some E_k55 := rfl
theorem L_k56 : L.lookup f_k56 = some E_k56 := rfl
theorem L_k57 : L.lookup f_k57 = some E_k57 := rfl
theorem L_k58 : L.lookup f_k58 = some E_k58 := rfl
end Go.Proofs.YtgiejmanbmeloaaGreatDoor

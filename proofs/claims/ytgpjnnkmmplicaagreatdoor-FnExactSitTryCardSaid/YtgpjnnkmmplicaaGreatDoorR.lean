/- The residual programs of the functions,and the table of them. -/
import Derived.Test.YtgpjnnkmmplicaaGreatDoorTd
set_option linter.unusedVariables false
set_option linter.unusedSimpArgs false
namespace Go.Proofs.YtgpjnnkmmplicaaGreatDoor
open Go Go.Tm
theorem sC {α:Type} {a:α} {as bs:List α}:(a::as)++bs=a::(as++bs):=rfl
theorem sN {α:Type} {as:List α}:[]++as=as:=rfl
abbrev aI (k:Nat):E:= .vi .i64 (.v k)
abbrev aS (k:Nat):E:= .s (.v k)
abbrev aB (k:Nat):E:= .vb (.v k)
abbrev aZ (k:Int):E:= .vi .i64 (.z k)
abbrev f_k0:Nat:=26
abbrev f_k1:Nat:=112
abbrev f_k2:Nat:=80
abbrev f_k3:Nat:=48
abbrev f_k4:Nat:=25
abbrev f_k5:Nat:=4
abbrev f_k6:Nat:=81
abbrev f_k7:Nat:=49
abbrev f_k8:Nat:=27
abbrev f_k9:Nat:=5
abbrev f_ka:Nat:=6
abbrev f_kb:Nat:=33
abbrev f_kc:Nat:=127
abbrev f_kd:Nat:=95
abbrev f_ke:Nat:=66
abbrev f_kf:Nat:=32
abbrev f_kg:Nat:=8
abbrev f_kh:Nat:=96
abbrev f_ki:Nat:=67
abbrev f_kj:Nat:=34
abbrev f_kk:Nat:=9
abbrev f_kl:Nat:=10
abbrev f_km:Nat:=51
abbrev f_kn:Nat:=83
abbrev f_ko:Nat:=156
abbrev f_kp:Nat:=116
abbrev f_kq:Nat:=90
abbrev f_kr:Nat:=82
abbrev f_ks:Nat:=85
abbrev f_kt:Nat:=84
abbrev f_ku:Nat:=50
abbrev f_kv:Nat:=60
abbrev f_kw:Nat:=54
abbrev f_kx:Nat:=120
abbrev f_ky:Nat:=117
abbrev f_kz:Nat:=157
abbrev f_k10:Nat:=118
abbrev f_k11:Nat:=119
abbrev f_k12:Nat:=121
abbrev f_k13:Nat:=91
abbrev f_k14:Nat:=55
abbrev f_k15:Nat:=56
abbrev f_k16:Nat:=57
abbrev f_k17:Nat:=59
abbrev f_k18:Nat:=58
abbrev f_k19:Nat:=30
abbrev f_k1a:Nat:=64
abbrev f_k1b:Nat:=113
abbrev f_k1c:Nat:=114
abbrev f_k1d:Nat:=86
abbrev f_k1e:Nat:=87
abbrev f_k1f:Nat:=182
abbrev f_k1g:Nat:=155
abbrev f_k1h:Nat:=115
abbrev f_k1i:Nat:=88
abbrev f_k1j:Nat:=52
abbrev f_k1k:Nat:=28
abbrev f_k1l:Nat:=89
abbrev f_k1m:Nat:=53
abbrev f_k1n:Nat:=29
abbrev f_k1o:Nat:=62
abbrev f_k1p:Nat:=92
abbrev f_k1q:Nat:=61
abbrev f_k1r:Nat:=124
abbrev f_k1s:Nat:=126
abbrev f_k1t:Nat:=158
abbrev f_k1u:Nat:=122
abbrev f_k1v:Nat:=93
abbrev f_k1w:Nat:=123
abbrev f_k1x:Nat:=125
abbrev f_k1y:Nat:=94
abbrev f_k1z:Nat:=63
abbrev f_k20:Nat:=65
abbrev f_k21:Nat:=31
abbrev f_k22:Nat:=7
abbrev f_k23:Nat:=97
abbrev f_k24:Nat:=159
abbrev f_k25:Nat:=128
abbrev f_k26:Nat:=132
abbrev f_k27:Nat:=161
abbrev f_k28:Nat:=131
abbrev f_k29:Nat:=99
abbrev f_k2a:Nat:=183
abbrev f_k2b:Nat:=175
abbrev f_k2c:Nat:=184
abbrev f_k2d:Nat:=160
abbrev f_k2e:Nat:=130
abbrev f_k2f:Nat:=129
abbrev f_k2g:Nat:=98
abbrev f_k2h:Nat:=101
abbrev f_k2i:Nat:=133
abbrev f_k2j:Nat:=103
abbrev f_k2k:Nat:=100
abbrev f_k2l:Nat:=68
abbrev f_k2m:Nat:=169
abbrev f_k2n:Nat:=139
abbrev f_k2o:Nat:=72
abbrev f_k2p:Nat:=195
abbrev f_k2q:Nat:=187
abbrev f_k2r:Nat:=178
abbrev f_k2s:Nat:=181
abbrev f_k2t:Nat:=150
abbrev f_k2u:Nat:=196
abbrev f_k2v:Nat:=197
abbrev f_k2w:Nat:=198
abbrev f_k2x:Nat:=188
abbrev f_k2y:Nat:=189
abbrev f_k2z:Nat:=190
abbrev f_k30:Nat:=170
abbrev f_k31:Nat:=140
abbrev f_k32:Nat:=171
abbrev f_k33:Nat:=141
abbrev f_k34:Nat:=172
abbrev f_k35:Nat:=142
abbrev f_k36:Nat:=174
abbrev f_k37:Nat:=173
abbrev f_k38:Nat:=143
abbrev f_k39:Nat:=106
abbrev f_k3a:Nat:=144
abbrev f_k3b:Nat:=191
abbrev f_k3c:Nat:=176
abbrev f_k3d:Nat:=177
abbrev f_k3e:Nat:=145
abbrev f_k3f:Nat:=107
abbrev f_k3g:Nat:=70
abbrev f_k3h:Nat:=102
abbrev f_k3i:Nat:=163
abbrev f_k3j:Nat:=192
abbrev f_k3k:Nat:=185
abbrev f_k3l:Nat:=153
abbrev f_k3m:Nat:=162
abbrev f_k3n:Nat:=165
abbrev f_k3o:Nat:=164
abbrev f_k3p:Nat:=134
abbrev f_k3q:Nat:=135
abbrev f_k3r:Nat:=104
abbrev f_k3s:Nat:=166
abbrev f_k3t:Nat:=136
abbrev f_k3u:Nat:=167
abbrev f_k3v:Nat:=193
abbrev f_k3w:Nat:=194
abbrev f_k3x:Nat:=186
abbrev f_k3y:Nat:=168
abbrev f_k3z:Nat:=138
abbrev f_k40:Nat:=137
abbrev f_k41:Nat:=105
abbrev f_k42:Nat:=69
abbrev f_k43:Nat:=35
abbrev f_k44:Nat:=108
abbrev f_k45:Nat:=109
abbrev f_k46:Nat:=71
abbrev f_k47:Nat:=36
abbrev f_k48:Nat:=74
abbrev f_k49:Nat:=73
abbrev f_k4a:Nat:=37
abbrev f_k4b:Nat:=152
abbrev f_k4c:Nat:=179
abbrev f_k4d:Nat:=180
abbrev f_k4e:Nat:=147
abbrev f_k4f:Nat:=146
abbrev f_k4g:Nat:=149
abbrev f_k4h:Nat:=148
abbrev f_k4i:Nat:=151
abbrev f_k4j:Nat:=110
abbrev f_k4k:Nat:=75
abbrev f_k4l:Nat:=1000075
abbrev f_k4m:Nat:=76
abbrev f_k4n:Nat:=38
abbrev f_k4o:Nat:=1000038
abbrev f_k4p:Nat:=11
abbrev f_k4q:Nat:=39
abbrev f_k4r:Nat:=13
abbrev f_k4s:Nat:=77
abbrev f_k4t:Nat:=40
abbrev f_k4u:Nat:=12
abbrev f_k4v:Nat:=16
abbrev f_k4w:Nat:=41
abbrev f_k4x:Nat:=14
abbrev f_k4y:Nat:=154
abbrev f_k4z:Nat:=111
abbrev f_k50:Nat:=78
abbrev f_k51:Nat:=42
abbrev f_k52:Nat:=15
abbrev f_k53:Nat:=44
abbrev f_k54:Nat:=79
abbrev f_k55:Nat:=43
abbrev f_k56:Nat:=17
abbrev f_k57:Nat:=45
abbrev f_k58:Nat:=18
abbrev f_k59:Nat:=19
abbrev f_k5a:Nat:=20
abbrev f_k5b:Nat:=21
abbrev f_k5c:Nat:=46
abbrev f_k5d:Nat:=47
abbrev f_k5e:Nat:=22
abbrev f_k5f:Nat:=23
abbrev f_k5g:Nat:=24
abbrev f_k5h:Nat:=3
abbrev aF:R:= .done [.vb .ff]
abbrev aT:R:= .done [.vb .tt]
abbrev aP (k:Nat):E:= .bin .add .i64 (.v k) (.z 1)
abbrev aL (a b:E):E:= .cmp .lt a b
abbrev oI:Sh:= .one (.i .i64)
abbrev sI:List Sh1:=[.i .i64]
abbrev v0:E:= .v 0
abbrev v1:E:= .v 1
abbrev v2:E:= .v 2
abbrev v3:E:= .v 3
abbrev v4:E:= .v 4
abbrev v5:E:= .v 5
abbrev v6:E:= .v 6
abbrev v7:E:= .v 7
abbrev v8:E:= .v 8
abbrev v9:E:= .v 9
abbrev v10:E:= .v 10
abbrev v11:E:= .v 11
abbrev v12:E:= .v 12
abbrev v13:E:= .v 13
abbrev v14:E:= .v 14
abbrev v15:E:= .v 15
abbrev v16:E:= .v 16
abbrev v17:E:= .v 17
abbrev v18:E:= .v 18
abbrev v19:E:= .v 19
abbrev v20:E:= .v 20
abbrev v21:E:= .v 21
abbrev v22:E:= .v 22
abbrev v23:E:= .v 23
abbrev v24:E:= .v 24
abbrev v25:E:= .v 25
abbrev v26:E:= .v 26
abbrev v27:E:= .v 27
abbrev v28:E:= .v 28
abbrev v29:E:= .v 29
abbrev v30:E:= .v 30
abbrev v31:E:= .v 31
abbrev v32:E:= .v 32
abbrev v33:E:= .v 33
abbrev v35:E:= .v 35
abbrev v36:E:= .v 36
abbrev v37:E:= .v 37
abbrev v38:E:= .v 38
abbrev v39:E:= .v 39
abbrev v40:E:= .v 40
abbrev v52:E:= .v 52
abbrev v58:E:= .v 58
abbrev v59:E:= .v 59
abbrev v60:E:= .v 60
abbrev v62:E:= .v 62
abbrev v63:E:= .v 63
abbrev v64:E:= .v 64
abbrev v65:E:= .v 65
abbrev v66:E:= .v 66
abbrev v71:E:= .v 71
abbrev v76:E:= .v 76
abbrev v78:E:= .v 78
abbrev v83:E:= .v 83
abbrev v89:E:= .v 89
abbrev v92:E:= .v 92
abbrev v94:E:= .v 94
abbrev v95:E:= .v 95
abbrev v96:E:= .v 96
abbrev v98:E:= .v 98
abbrev v99:E:= .v 99
abbrev v100:E:= .v 100
abbrev v102:E:= .v 102
abbrev Jo9:E:= .v 103
abbrev Jph:E:= .v 104
abbrev v105:E:= .v 105
abbrev v106:E:= .v 106
abbrev Jpn:E:= .v 107
abbrev v116:E:= .v 116
abbrev v117:E:= .v 117
abbrev v120:E:= .v 120
abbrev v125:E:= .v 125
abbrev v126:E:= .v 126
abbrev v128:E:= .v 128
abbrev v131:E:= .v 131
abbrev v132:E:= .v 132
abbrev v133:E:= .v 133
abbrev v134:E:= .v 134
abbrev v135:E:= .v 135
abbrev v136:E:= .v 136
abbrev zRa:R:= .done [aZ (-1)]
abbrev zSa:List Sh1:=[.s,.s,.i .i64]
abbrev zRb:R:= .done [.vb .tt]
abbrev zRc:R:= .done [.vb .ff]
abbrev zRd:R:= .done [.s .nil]
abbrev zSb:List Sh1:=[.i .i64,.s,.s]
abbrev zEa:List E:=[aS 3,aS 4,aI 5]
abbrev zEb:List E:=[aS 0,aS 1,aI 2]
abbrev zRe:R:= .next [.z 0,aP 6]
abbrev zSc:List Sh1:=[.i .i64,.s,.s,.b]
abbrev zSd:List Sh1:=[.i .i64,.s,.s,.s]
abbrev zRf:R:= .esc<|
.done [aI 2]
abbrev zRg:R:= .esc<|
.done [aS 1]
abbrev zEc:List E:=[aZ 0,aZ 0,.vb .ff]
abbrev zVa:List SV:=[.d (aI 0),.o 0 v1]
abbrev zVb:List SV:=[.o 0 v0,.d (aI 1)]
abbrev zSe:List Sh1:=[.i .i64,.i .i64,.s]
abbrev zRh:R:= .done [.vb (.not v3)]
abbrev zEd:List E:=[aI 0,aS 1,aS 2,aS 3]
abbrev zRi:R:= .done [.vb (.not v1)]
abbrev zVc:List SV:=[.d (aS 0),.d (aS 1)]
abbrev zEe:List E:=[.s .nil,.s .nil,aZ 0]
abbrev zOa:List Jg:=[.arr 3 1 v1 true true]
abbrev zSf:List Sh1:=[.b,.b,.i .i64,.s,.s,.s]
abbrev zRj:R:= .i (.chk .ff)<|
.done []
abbrev zRk:R:= .esc<|
.done [aI 3,aS 2]
abbrev zOb:List Jg:=[.arr 3 1 v0 false true]
abbrev zEf:List E:=[.vc (.string (Jbm []))]
abbrev zEg:List E:=[aI 11,aI 12,aI 13,aS 14]
abbrev zEh:List E:=[.vb (.cmp .le (.z 0) v2)]
abbrev zVd:List SV:=[.o 0 v0,.o 1 v1,.d (aI 2)]
abbrev zSg:List Sh1:=[.i .i64,.i .i64,.i .i64,.s]
abbrev zEi:List E:=[aZ 0,.s .nil,aS 14,.vb .ff]
abbrev zEj:List E:=[aZ 0,.s .nil,.s .nil,.vb .ff]
abbrev zEk:List E:=[aB 4,aB 5,aI 6,aS 7,aS 8,aS 9]
abbrev zVe:List SV:=[.d (aS 0),.d (aS 1),.d (aI 2)]
abbrev zEl:List E:=[.bin .sub .i64 v1 (.len v0),.z 0]
abbrev zSh:List Sh1:=[.b,.b,.i .i64,.s,.s,.s,.i .i64,.s,.s]
abbrev zSi:List Sh1:=[.i .i64,.i .i64,.i .i64,.s,.s,.i .i64]
abbrev zVf:List SV:=[.d (aI 0),.d (aI 1),.d (aI 2),.o 0 v3]
abbrev zEm:List E:=[aZ 0,.s .nil,.s (.app .nil v5),.vb .ff]
abbrev zEn:List E:=[aS 1,.vi .i64 (.len v1),aZ 999999999999]
abbrev zVg:List SV:=[.d (aI 0),.d (aI 1),.d (aI 2),.d (aS 3)]
abbrev zVh:List SV:=[.d (aI 6),.d (aS 7),.d (aS 8),.d (aS 9)]
abbrev zVi:List SV:=[.g zVa,.o 1 v2,.d (aB 3)]
abbrev zRl:R:= .ite v4 zRf<|
.next [aP 2]
abbrev zVj:List SV:=[.d (aI 11),.d (aI 12),.d (aI 13),.d (aS 14)]
abbrev zOc:List Jg:=[.arr 3 1 v0 false true,.arr 3 1 v1 false true]
abbrev zOd:List Jg:=[.arr 3 1 v1 false true,.arr 3 1 v2 false true]
abbrev zEo:List E:=[aZ 0,.s .nil,.s .nil,aB 0,aB 1,aI 2,aS 3,aS 5,aS 4]
abbrev zEp:List E:=[aI 3,aZ 0,.vi .i64 (.bin .sub .i64 (.len v1) (.z 1))]
abbrev zVk:List SV:=[.d (aB 0),.d (aB 1),.d (aI 2),.o 0 v3,.o 1 v4,.o 2 v5]
abbrev zEq:List E:=[aB 17,aB 18,aI 19,aS 20,aS 21,aS 22,aZ 0,.s .nil,.s .nil]
abbrev zVl:List SV:=[.d (aB 0),.d (aB 1),.d (aI 2),.d (aS 3),.d (aS 4),.d (aS 5)]
abbrev zEr:List E:=[.app v3 (.cons (.vi .i64 (.bin .mul .i64 v4 v7)) .nil),v4,aP 5]
abbrev zEs:List E:=[.vb .ff,.vb .ff,aZ 0,.s .nil,.s .nil,.s .nil,aZ 0,.s .nil,.s .nil]
abbrev zRm:R:= .ite (.not (.cmp .eq v3 v4)) (.esc zRc)<|
.next [aP 2]
abbrev zOe:List Jg:=[.arr 98 1 v1 true true,.arr 3 1 v2 true true,.arr 3 1 v3 true true]
abbrev zSj:List Sh1:=[.i .i64,.i .i64,.i .i64,.i .i64,.i .i64,.i .i64,.i .i64,.s,.s,.s,.s]
abbrev zOf:List Jg:=[.arr 3 1 v3 true true,.arr 3 1 v4 true true,.arr 108 3 v5 true true]
abbrev zRn:R:= .ite (.cmp .le (.len v0) (.z 6)) (.done [.vb (.cmp .le v1 (.z 3))]) aF
abbrev zEt:List E:=[aB 55,aB 56,aI 57,aS 58,aS 59,aS 60,aB 32,aB 33,aI 34,aS 35,aS 36,aS 37]
abbrev zRo:R:= .i (.idx v1 v3 oI 5)<|
.next [.bin .add .i64 v2 (.bin .mul .i64 v4 v5),aP 3]
abbrev zSk:List Sh1:=[.b,.b,.i .i64,.s,.s,.s,.i .i64,.s,.s,.s,.i .i64,.i .i64,.i .i64,.i .i64,.s]
abbrev zRp:R:= .i (.call f_k3w [aS 1] [.d] 6)<|
.i (.prim .cat [.da 5,.da 6] .d 7)<|
.done [.da 7]
abbrev zEu:List E:=[aB 17,aB 18,aI 19,aS 20,aS 21,aS 22,aI 0,aS 1,aS 2,aS 3,aI 10,aI 11,aI 12,aI 13,aS 14]
abbrev zRq:R:= .ite (aL v36 (.z (-10000))) (.next [.tt,.tt,aP 32])<|
.next [.tt,aL (.z 10000) v37,aP 32]
abbrev zRr:R:= .i (.call f_k1f [aI 8] [.d] 9)<|
.i (.prim .cat [.da 7,.da 9] .d 10)<|
.next [.da 10,aP 6]
abbrev zRs:R:= .i (.chk (aL v0 (.len v2)))<|
.i (.idx v2 v0 oI 5)<|
.done [.s (.set v2 v0 (aZ 1)),aS 3,aI 4]
abbrev zEv:List E:=[.s (.cons (aZ 0) (.cons (aZ 0) (.cons (aZ 0) .nil))),.s (.cons (aZ 0) (.cons (aZ 0) .nil)),aZ 0]
abbrev zRt:R:= .i (.chk (.cmp .le (.len (.app .nil v5)) (.z 8796093022208)))<|
.done zEm
abbrev zRu:R:= .ite (aL v10 (.z (-10000))) zRe<|
.ite (aL (.z 10000) v11) zRe<|
.next [v5,aP 6]
abbrev zRv:R:= .i (.idx v0 v2 oI 3)<|
.i (.idx v1 v2 oI 4) zRm
abbrev zRw:R:= .i (.idx v0 v2 (.one .s) 3)<|
.i (.callv (.da 1) [aS 3] [none] [.b] 4) zRl
abbrev zRx:R:= .i (.chk (.cmp .le (.len (.app v8 (.cons (aI 13) .nil))) (.z 8796093022208)))<|
.next [.app v8 (.cons (aI 13) .nil),aP 9]
abbrev zRy:R:= .ite (aL v2 (.len v0)) zRv<|
.esc zRb
abbrev zRz:R:= .i (.prim .cat [.da 5,.vc (.string (Jbm [32]))] .d 7)<|
.i (.idx v1 v6 oI 8) zRr
abbrev zRaa:R:= .i (.chk (.cmp .le (.len (.app v3 (.cons (.vi .i64 (.bin .mul .i64 v4 v7)) .nil))) (.z 8796093022208)))<|
.next zEr
abbrev zRab:R:= .i (.chk (.cmp .le (.z 0) v0))<|
.i (.chk (aL v0 (.len v4)))<|
.i (.idx v4 v0 (.one .d) 5) zRp
abbrev Jom:R:= .i (.chk (.cmp .le (.len v5) (.z 8796093022208)))<|
.i (.head 1 v5) zRt
abbrev zVm:List SV:=[.d (.q (.cons (aB 0) (.cons (aB 1) (.cons (aI 2) (.cons (aS 3) (.cons (aS 4) (.cons (aS 5) .nil))))))),.g zVh,.d (aI 10),.g zVj]
abbrev Jo3:R:= .ite (.not (.cmp .eq (.len v0) (.len v1))) aF<|
.loop 2 [.z 0] zRy
abbrev zRae:R:= .loop 5 [.da 4,.z 0]<|
.ite (aL v6 (.len v1)) zRz<|
.esc<|
.done [.da 5]
abbrev zRaf:R:= .i (.call f_k29 zEn [.b] 3)<|
.ite (.not v3) (.done zEf)<|
.i (.call f_k3v [] [.s] 4) zRab
abbrev zRag:R:= .i (.idx (.cons (.vc (.string (Jbm []))) (.cons (.vc (.string (Jbm [100,111,110,101]))) (.cons (.vc (.string (Jbm [115,116,111,112,112,101,100]))) (.cons (.vc (.string (Jbm [111,118,101,114]))) .nil)))) v0 (.one .d) 4) zRae
abbrev zRah:R:= .ite (.not v3) (.done zEf)<|
.i (.chk (.cmp .le (.z 0) v0))<|
.i (.chk (aL v0 (.z 4))) zRag
abbrev zRai:R:= .ite (aL (.z 6) (.len v1)) (.done zEf)<|
.i (.call f_kn zEn [.b] 3) zRah
abbrev iC (f:Nat) (a:List E) (s:List Sh1) (n:Nat) (r:R):R:= .i (.call f a s n) r
abbrev iK (b:E) (r:R):R:= .i (.chk b) r
abbrev iX (l i:E) (s:Sh) (n:Nat) (r:R):R:= .i (.idx l i s n) r
abbrev aE (x y:E):E:= .cmp .eq x y
abbrev aM (x y:E):E:= .cmp .le x y
abbrev aA:E:= .z 0
abbrev z1:E:= .z 1
abbrev zM:E:= .z 1466015503701
def R_k0:R:= .ite (aL (.bin .sub .i64 v1 (.len v0)) aA) zRa<|
.done [.vi .i64 (.bin .sub .i64 v1 (.len v0))]
def R_k1:R:= iC f_k0 [aS 0,aI 3] sI 4<|
.ite (aL v4 aA) zRa<|
 iC f_k0 [aS 1,aI 4] sI 5<|
.ite (aL v5 aA) zRa<|
.done [aI 5]
def R_k2:R:= iC f_k1 [aS 3,aS 4,aI 5,aI 6] sI 7<|
.ite (aL v7 aA) zRa<|
.done [aI 7]
def R_k3:R:= .ite (aL (.bin .sub .i64 v1 (.len v0)) aA) zRa<|
.loop 2 zEl<|
.ite (aL v3 (.len v0)) (iX v0 v3 (.g zSi) 4<|
 iC f_k2 [aI 4,aI 5,aI 6,aS 7,aS 8,aI 9,aI 2] sI 10<|
.ite (aL v10 aA) (.esc zRa)<|
.next [v10,aP 3]) zRf
def R_k4:R:= .ite (aL (.bin .sub .i64 v1 (.len v0)) aA) zRa<|
.loop 2 zEl<|
.ite (aL v3 (.len v0)) (iX v0 v3 (.one .s) 4<|
 iC f_k3 [aS 4,aI 2] sI 5<|
.ite (aL v5 aA) (.esc zRa)<|
.next [v5,aP 3]) zRf
def R_k5:R:= iC f_k4 [aS 1,aI 4] sI 5<|
.ite (aL v5 aA) zRa<|
 iC f_k0 [aS 2,aI 5] sI 6<|
.ite (aL v6 aA) zRa<|
 iC f_k0 [aS 3,aI 6] sI 7<|
.ite (aL v7 aA) zRa<|
.done [aI 7]
def R_k6:R:= iC f_k0 [aS 1,aI 2] sI 3<|
.ite (aL v3 aA) zRa<|
.done [aI 3]
def R_k7:R:= iC f_k6 [aI 1,aS 2,aI 3] sI 4<|
.ite (aL v4 aA) zRa<|
.done [aI 4]
def R_k8:R:= .ite (aL (.bin .sub .i64 v1 (.len v0)) aA) zRa<|
.loop 2 zEl<|
.ite (aL v3 (.len v0)) (iX v0 v3 (.g zSe) 4<|
 iC f_k7 [aI 4,aI 5,aS 6,aI 2] sI 7<|
.ite (aL v7 aA) (.esc zRa)<|
.next [v7,aP 3]) zRf
def R_k9:R:= iC f_k0 [aS 3,aI 6] sI 7<|
.ite (aL v7 aA) zRa<|
 iC f_k0 [aS 4,aI 7] sI 8<|
.ite (aL v8 aA) zRa<|
 iC f_k8 [aS 5,aI 8] sI 9<|
.ite (aL v9 aA) zRa<|
.done [aI 9]
def R_ka:R:= iC f_k0 [aS 3,aI 4] sI 5<|
.ite (aL v5 aA) zRa<|
.done [aI 5]
def R_kb:R:= iK (aM aA (.len v0))<|
 iK (aM (.len v0) (.z 8796093022208))<|
.loop 1 [.rep (.len v0) (aZ 0),.z 0]<|
.ite (aL v2 (.len v0)) (iX v0 v2 oI 3<|
 iK (aM aA v2)<|
 iK (aL v2 (.len v1))<|
 iX v1 v2 oI 4<|
.next [.set v1 v2 (aI 3),aP 2]) zRg
def R_kc:R:= iC f_kb [aS 0] [.s] 3<|
 iC f_kb [aS 1] [.s] 4<|
.done [aS 3,aS 4,aI 2]
def R_kd:R:= iC f_kc zEa zSa 6<|
.done [aI 0,aI 1,aI 2,aS 6,aS 7,aI 8]
def R_ke:R:= iK (aM aA (.len v0))<|
 iK (aM (.len v0) (.z 879609302220))<|
.loop 1 [.rep (.len v0) (.g (.cons (aZ 0) (.cons (aZ 0) (.cons (aZ 0) (.cons (.s .nil) (.cons (.s .nil) (.cons (aZ 0) .nil))))))),.z 0]<|
.ite (aL v2 (.len v0)) (iX v0 v2 (.g zSi) 3<|
 iC f_kd [aI 3,aI 4,aI 5,aS 6,aS 7,aI 8] zSi 9<|
 iK (aM aA v2)<|
 iK (aL v2 (.len v1))<|
 iX v1 v2 (.g zSi) 15<|
.next [.set v1 v2 (.g (.cons (aI 9) (.cons (aI 10) (.cons (aI 11) (.cons (aS 12) (.cons (aS 13) (.cons (aI 14) .nil))))))),aP 2]) zRg
def R_kf:R:= iK (aM aA (.len v0))<|
 iK (aM (.len v0) (.z 2932031007402))<|
.loop 1 [.rep (.len v0) (.s .nil),.z 0]<|
.ite (aL v2 (.len v0)) (iX v0 v2 (.one .s) 3<|
 iC f_ke [aS 3] [.s] 4<|
 iK (aM aA v2)<|
 iK (aL v2 (.len v1))<|
 iX v1 v2 (.one .s) 5<|
.next [.set v1 v2 (aS 4),aP 2]) zRg
def R_kg:R:= iC f_kf [aS 1] [.s] 4<|
 iC f_kb [aS 2] [.s] 5<|
 iC f_kb [aS 3] [.s] 6<|
.done [aI 0,aS 4,aS 5,aS 6]
def R_kh:R:= iC f_kb [aS 1] [.s] 2<|
.done [aI 0,aS 2]
def R_ki:R:= iC f_kh [aI 1,aS 2] [.i .i64,.s] 3<|
.done [aI 0,aI 3,aS 4]
def R_kj:R:= iK (aM aA (.len v0))<|
 iK (aM (.len v0) (.z 1759218604441))<|
.loop 1 [.rep (.len v0) (.g (.cons (aZ 0) (.cons (aZ 0) (.cons (.s .nil) .nil)))),.z 0]<|
.ite (aL v2 (.len v0)) (iX v0 v2 (.g zSe) 3<|
 iC f_ki [aI 3,aI 4,aS 5] zSe 6<|
 iK (aM aA v2)<|
 iK (aL v2 (.len v1))<|
 iX v1 v2 (.g zSe) 9<|
.next [.set v1 v2 (.g (.cons (aI 6) (.cons (aI 7) (.cons (aS 8) .nil)))),aP 2]) zRg
def R_kk:R:= iC f_kb [aS 3] [.s] 6<|
 iC f_kb [aS 4] [.s] 7<|
 iC f_kj [aS 5] [.s] 8<|
.done [aB 0,aB 1,aI 2,aS 6,aS 7,aS 8]
def R_kl:R:= iC f_kb [aS 3] [.s] 4<|
.done [aI 0,aI 1,aI 2,aS 4]
def R_km:R:= .ite (aM v1 v0) (.done [.vb (aM v0 v2)]) aF
def R_kn:R:= .ite (.not (aE (.len v0) v1)) aF<|
.loop 3 [.z 0]<|
.ite (aL v3 (.len v0)) (iX v0 v3 oI 4<|
 iC f_km [aI 4,.vi .i64 (.bin .sub .i64 aA v2),aI 2] [.b] 5<|
.ite (.not v5) (.esc zRc)<|
.next [aP 3])<|
.esc zRb
def R_ko:R:= iC f_kn [aS 0,aZ 3,aZ 2] [.b] 3<|
.ite v3 (iC f_kn [aS 1,aZ 2,aZ 2] [.b] 4<|
.ite v4 (iC f_km [aI 2,aZ (-20),aZ 20] [.b] 5<|
.done [aB 5]) aF) aF
def R_kp:R:= .ite (aE v0 z1) (.ite (aE v1 aA) (iC f_km [aI 2,aZ 1,aZ 6] [.b] 6<|
.ite v6 (iC f_ko zEa [.b] 7<|
.done [aB 7]) aF) aF)<|
.ite (aE v0 (.z 2)) (iC f_km [aI 1,aZ 0,aZ 2] [.b] 6<|
.ite v6 (.ite (aE v2 aA) (iC f_ko zEa [.b] 7<|
.done [aB 7]) aF) aF)<|
.ite (aE v0 (.z 3)) (.ite (aE v1 aA) (.ite (aE v2 aA) (iC f_ko zEa [.b] 6<|
.done [aB 6]) aF) aF)<|
.ite (aE v0 (.z 4)) (.ite (aE v1 aA) (.ite (aE v2 aA) (.ite (aE (.bin .add .i64 (.len v3) (.len v4)) aA) (.done [.vb (aE v5 aA)]) aF) aF) aF) aF
def R_kq:R:= .loop 1 [.z 0,.z 0]<|
.ite (aL v2 (.len v0)) (iX v0 v2 (.g zSi) 3<|
 iC f_kp [aI 3,aI 4,aI 5,aS 6,aS 7,aI 8] [.b] 9<|
.ite (.not v9) (.esc zRc)<|
 iX v0 v2 (.g zSi) 10<|
.ite (aE v10 z1) (.next [aP 1,aP 2])<|
.next [v1,aP 2])<|
.esc zRn
def R_kr:R:= iC f_km [.vi .i64 (.len v0),aZ 1,aZ 4] [.b] 1<|
.ite (.not v1) aF<|
.loop 2 [.z 0]<|
.ite (aL v2 (.len v0)) (iX v0 v2 (.one .s) 3<|
 iC f_kq [aS 3] [.b] 4<|
.ite (.not v4) (.esc zRc)<|
.next [aP 2])<|
.esc zRb
def R_ks:R:= iC f_kn [aS 0,aZ 3,aZ 10000] [.b] 1<|
.done [aB 1]
def R_kt:R:= iC f_ks [aS 0] [.b] 2<|
.ite (.not v2) aF<|
 iC f_km [.vi .i64 (.len v1),aZ 1,aZ 3] [.b] 3<|
.ite (.not v3) aF<|
.loop 4 [.z 0]<|
.ite (aL v4 (.len v1)) (iX v1 v4 oI 5<|
 iC f_km [aI 5,aZ 0,aZ 50] [.b] 6<|
.ite (.not v6) (.esc zRc)<|
.next [aP 4])<|
.esc zRb
def R_ku:R:= iC f_km [aI 0,aZ 1,aZ 4] [.b] 4<|
.ite v4 (iC f_kr [aS 1] [.b] 5<|
.ite v5 (iC f_kn [aS 3,aZ 3,aZ 1000] [.b] 6<|
.ite v6 (iC f_kt [aS 3,aS 2] [.b] 7<|
.done [aB 7]) aF) aF) aF
def R_kv:R:= .done zEv
def R_kw:R:= iC f_km [aI 0,aZ 0,aZ 2] [.b] 1<|
.ite (.not v1) (.done zEe)<|
 iC f_kv [] zSa 2<|
 iK (aM aA v0) zRs
def R_kx:R:= iC f_kv [] zSa 7<|
.loop 10 [v7,.z 0]<|
.ite (aL v11 (.z 3)) (iX v0 v11 oI 12<|
 iX v3 v11 oI 13<|
 iK (aM aA v11)<|
 iK (aL v11 (.len v10))<|
 iX v10 v11 oI 14<|
.next [.set v10 v11 (.vi .i64 (.bin .add .i64 v12 (.bin .mul .i64 v6 v13))),aP 11])<|
.esc<|
.loop 12 [v8,.z 0]<|
.ite (aL v13 (.z 2)) (iX v1 v13 oI 14<|
 iX v4 v13 oI 15<|
 iK (aM aA v13)<|
 iK (aL v13 (.len v12))<|
 iX v12 v13 oI 16<|
.next [.set v12 v13 (.vi .i64 (.bin .add .i64 v14 (.bin .mul .i64 v6 v15))),aP 13])<|
.esc<|
.done [aS 10,aS 12,.vi .i64 (.bin .add .i64 v2 (.bin .mul .i64 v6 v5))]
def R_ky:R:= .loop 1 [.nil,.z 0]<|
.ite (aL v2 (.len v0)) (iC f_kv [] zSa 3<|
 iX v0 v2 (.g zSa) 6<|
 iC f_kx [aS 3,aS 4,aI 5,aS 6,aS 7,aI 8,aZ 1] zSa 9<|
 iK (aM (.len (.app v1 (.cons (.g (.cons (aS 9) (.cons (aS 10) (.cons (aI 11) .nil)))) .nil))) (.z 1256584717458))<|
.next [.app v1 (.cons (.g (.cons (aS 9) (.cons (aS 10) (.cons (aI 11) .nil)))) .nil),aP 2]) zRg
def R_kz:R:= iC f_kn [aS 0,aZ 3,aZ 10000000] [.b] 3<|
.ite v3 (iC f_kn [aS 1,aZ 2,aZ 10000000] [.b] 4<|
.ite v4 (iC f_km [aI 2,aZ (-10000000),aZ 10000000] [.b] 5<|
.done [aB 5]) aF) aF
def R_k10:R:= iC f_kz zEb [.b] 4<|
.ite (.not v4) (.done zEe)<|
.ite (.not (aE (.len v3) (.z 3))) (.done zEe)<|
 iX v3 aA (.g zSa) 5<|
 iC f_kz [aS 5,aS 6,aI 7] [.b] 8<|
.ite (.not v8) (.done zEe)<|
 iX v3 z1 (.g zSa) 9<|
 iC f_kz [aS 9,aS 10,aI 11] [.b] 12<|
.ite (.not v12) (.done zEe)<|
 iX v3 (.z 2) (.g zSa) 13<|
 iC f_kz [aS 13,aS 14,aI 15] [.b] 16<|
.ite (.not v16) (.done zEe)<|
 iK (aM (.len v1) (.z 8796093022208))<|
.i (.head 1 v1)<|
 iK (aM (.len (.app .nil v1)) (.z 8796093022208))<|
.loop 17 [.cons (aZ 0) (.cons (aZ 0) (.cons (aZ 0) .nil)),.app .nil v1,.z 0,v2]<|
.ite (aL v19 (.z 3)) (iX v3 v19 (.g zSa) 21<|
 iX v0 v19 oI 24<|
 iC f_kx [aS 17,aS 18,aI 20,aS 21,aS 22,aI 23,aI 24] zSa 25<|
.next [v25,v26,aP 19,v27])<|
.esc<|
 iC f_kz [aS 17,aS 18,aI 20] [.b] 21<|
.ite (.not v21) (.done zEe)<|
.done [aS 17,aS 18,aI 20]
def R_k11:R:= iC f_kv [] zSa 3<|
 iC f_kx [aS 3,aS 4,aI 5,aS 0,aS 1,aI 2,aZ (-1)] zSa 6<|
.done [aS 6,aS 7,.vi .i64 (.bin .sub .i64 v8 z1)]
def R_k12:R:= iC f_ky [aS 1] [.s] 3<|
 iC f_ky [aS 2] [.s] 4<|
.loop 5 [.nil,.z 0]<|
.ite (aL v6 (.z 3)) (iX v0 v6 (.g zSa) 7<|
 iC f_kw [aI 6] zSa 10<|
 iC f_kx [aS 7,aS 8,aI 9,aS 10,aS 11,aI 12,aZ (-1)] zSa 13<|
 iK (aM (.len (.app v5 (.cons (.g (.cons (aS 13) (.cons (aS 14) (.cons (aI 15) .nil)))) .nil))) (.z 1256584717458))<|
.next [.app v5 (.cons (.g (.cons (aS 13) (.cons (aS 14) (.cons (aI 15) .nil)))) .nil),aP 6])<|
.esc<|
.done [aS 3,aS 5,aS 4,.vb .ff]
def R_k13:R:= .loop 5 [v2,v4,v1]<|
.ite (aL v7 (.len v0)) (iX v0 v7 (.g zSi) 8<|
.ite (aE v8 (.z 4)) (iC f_ky [aS 3] [.s] 14<|
.esc<|
.done [.s (.cons (.g (.cons (aS 14) (.cons (.s .nil) (.cons (.s .nil) (.cons (.vb .tt) .nil))))) .nil)])<|
 iC f_k10 [aS 11,aS 12,aI 13,aS 5] zSa 14<|
.ite (aE v8 z1) (iC f_ky [aS 5] [.s] 17<|
 iC f_ky [aS 3] [.s] 18<|
 iK (aM (.len (.app v18 (.cons (.g (.cons (aS 14) (.cons (aS 15) (.cons (aI 16) .nil)))) .nil))) (.z 1256584717458))<|
 iC f_ky [aS 6] [.s] 19<|
 iC f_k13 [aS 0,.vi .i64 (aP 7),aS 17,.s (.app v18 (.cons (.g (.cons (aS 14) (.cons (aS 15) (.cons (aI 16) .nil)))) .nil)),aS 19] [.s] 20<|
 iC f_ky [aS 5] [.s] 21<|
 iC f_ky [aS 3] [.s] 22<|
 iC f_k11 [aS 14,aS 15,aI 16] zSa 23<|
 iK (aM (.len (.app v22 (.cons (.g (.cons (aS 23) (.cons (aS 24) (.cons (aI 25) .nil)))) .nil))) (.z 1256584717458))<|
 iC f_ky [aS 6] [.s] 26<|
 iC f_k13 [aS 0,.vi .i64 (.bin .add .i64 (aP 7) v10),aS 21,.s (.app v22 (.cons (.g (.cons (aS 23) (.cons (aS 24) (.cons (aI 25) .nil)))) .nil)),aS 26] [.s] 27<|
 iK (aM (.len v27) (.z 879609302220))<|
.i (.head 4 v27)<|
 iK (aM (.len (.app v20 v27)) (.z 879609302220))<|
.esc<|
.done [.s (.app v20 v27)])<|
.ite (aE v8 (.z 2)) (iC f_ky [aS 5] [.s] 17<|
 iK (aM aA v9)<|
 iK (aL v9 (.len v17))<|
 iX v17 v9 (.g zSa) 18<|
 iC f_kx [aS 18,aS 19,aI 20,aS 14,aS 15,aI 16,aZ 1] zSa 21<|
 iK (aM aA v9)<|
 iK (aL v9 (.len v17))<|
 iX v17 v9 (.g zSa) 24<|
.next [.set v17 v9 (.g (.cons (aS 21) (.cons (aS 22) (.cons (aI 23) .nil)))),v6,aP 7])<|
 iC f_ky [aS 6] [.s] 17<|
 iK (aM (.len (.app v17 (.cons (.g (.cons (aS 14) (.cons (aS 15) (.cons (aI 16) .nil)))) .nil))) (.z 1256584717458))<|
.next [v5,.app v17 (.cons (.g (.cons (aS 14) (.cons (aS 15) (.cons (aI 16) .nil)))) .nil),aP 7])<|
.esc<|
 iC f_k12 [aS 5,aS 3,aS 6] [.s,.s,.s,.b] 8<|
.done [.s (.cons (.g (.cons (aS 8) (.cons (aS 9) (.cons (aS 10) (.cons (aB 11) .nil))))) .nil)]
def R_k14:R:= iC f_kq [aS 0] [.b] 1<|
.ite (.not v1) zRd<|
 iC f_kw [aZ 0] zSa 2<|
 iC f_kw [aZ 1] zSa 5<|
 iC f_kw [aZ 2] zSa 8<|
 iC f_k13 [aS 0,aZ 0,.s (.cons (.g (.cons (aS 2) (.cons (aS 3) (.cons (aI 4) .nil)))) (.cons (.g (.cons (aS 5) (.cons (aS 6) (.cons (aI 7) .nil)))) (.cons (.g (.cons (aS 8) (.cons (aS 9) (.cons (aI 10) .nil)))) .nil))),.s .nil,.s .nil] [.s] 11<|
.done [aS 11]
def R_k15:R:= iK (aM (.len v0) (.z 70368744177664))<|
.i (.head 1 v0)<|
 iK (aM (.len (.app .nil v0)) (.z 70368744177664))<|
.loop 2 [.app .nil v0,.z 0]<|
.ite (aL v3 (.len v1)) (.loop 4 [v2,.z 0]<|
.ite (aL v5 (.z 3)) (iX v1 v3 (.g zSa) 6<|
 iX v6 v5 oI 9<|
.ite (.not (aE v9 aA)) (iK (aM aA v5)<|
 iK (aL v5 (.len v4))<|
 iX v4 v5 (.one .b) 10<|
.next [.set v4 v5 (.vb .tt),aP 5])<|
.next [v4,aP 5])<|
.esc<|
.next [v4,aP 3])<|
.esc<|
.done [aS 2]
def R_k16:R:= .loop 3 [.nil,.z 0,.z 0]<|
.ite (aL v5 (.len v0)) (.ite (aE v4 aA) (iX v0 v5 oI 6<|
.ite (aL aA v6) (iX v0 v5 oI 7<|
 iK (aM (.len (.app v3 (.cons (.vi .i64 (.bin .mul .i64 z1 v7)) .nil))) (.z 8796093022208))<|
.next [.app v3 (.cons (.vi .i64 (.bin .mul .i64 z1 v7)) .nil),.z 1,aP 5])<|
.ite (aE v4 aA) (iX v0 v5 oI 7<|
.ite (aL v7 aA) (iX v0 v5 oI 8<|
 iK (aM (.len (.app v3 (.cons (.vi .i64 (.bin .mul .i64 (.z (-1)) v8)) .nil))) (.z 8796093022208))<|
.next [.app v3 (.cons (.vi .i64 (.bin .mul .i64 (.z (-1)) v8)) .nil),.z (-1),aP 5])<|
 iX v0 v5 oI 8<|
 iK (aM (.len (.app v3 (.cons (.vi .i64 (.bin .mul .i64 v4 v8)) .nil))) (.z 8796093022208))<|
.next [.app v3 (.cons (.vi .i64 (.bin .mul .i64 v4 v8)) .nil),v4,aP 5])<|
 iX v0 v5 oI 7 zRaa)<|
.ite (aE v4 aA) (iX v0 v5 oI 6<|
.ite (aL v6 aA) (iX v0 v5 oI 7<|
 iK (aM (.len (.app v3 (.cons (.vi .i64 (.bin .mul .i64 (.z (-1)) v7)) .nil))) (.z 8796093022208))<|
.next [.app v3 (.cons (.vi .i64 (.bin .mul .i64 (.z (-1)) v7)) .nil),.z (-1),aP 5])<|
 iX v0 v5 oI 7 zRaa)<|
 iX v0 v5 oI 6<|
 iK (aM (.len (.app v3 (.cons (.vi .i64 (.bin .mul .i64 v4 v6)) .nil))) (.z 8796093022208))<|
.next [.app v3 (.cons (.vi .i64 (.bin .mul .i64 v4 v6)) .nil),v4,aP 5])<|
.esc<|
.done [aS 3]
def R_k17:R:=Jo3
def R_k18:R:= .loop 2 [.z 0]<|
.ite (aL v2 (.len v0)) (iX v0 v2 (.one .s) 3<|
 iC f_k17 [aS 3,aS 1] [.b] 4 zRl)<|
.esc zRa
def R_k19:R:= .loop 1 [.nil,.z 0]<|
.ite (aL v2 (.z 3)) (iC f_kw [aI 2] zSa 3<|
 iK (aM (.len (.app v1 (.cons (aS 3) .nil))) (.z 2932031007402))<|
.next [.app v1 (.cons (aS 3) .nil),aP 2])<|
.esc<|
.loop 3 [v1,.cons (.vb .ff) (.cons (.vb .ff) (.cons (.vb .ff) .nil)),.z 0]<|
.ite (aL v5 (.len v0)) (iX v0 v5 (.one .s) 6<|
 iC f_k14 [aS 6] [.s] 7<|
.loop 8 [v3,v4,.z 0]<|
.ite (aL v10 (.len v7)) (iK (aM aA v10)<|
 iK (aL v10 (.len v7))<|
 iX v7 v10 (.g [.s,.s,.s,.b]) 11<|
 iC f_k15 [aS 9,aS 12] [.s] 15<|
 iK (aM aA v10)<|
 iK (aL v10 (.len v7))<|
 iX v7 v10 (.g [.s,.s,.s,.b]) 16<|
 iC f_k15 [aS 15,aS 18] [.s] 20<|
.loop 21 [v8,.z 0]<|
 iK (aM aA v10)<|
 iK (aL v10 (.len v7))<|
 iX v7 v10 (.g [.s,.s,.s,.b]) 23<|
.ite (aL v22 (.len v23)) (iK (aM aA v10)<|
 iK (aL v10 (.len v7))<|
 iX v7 v10 (.g [.s,.s,.s,.b]) 27<|
 iX v27 v22 (.g zSa) 31<|
 iC f_k16 [aS 31,aS 32,aI 33] [.s] 34<|
 iC f_k18 [aS 21,aS 34] sI 35<|
.ite (aL v35 aA) (iC f_kv [] zSa 36<|
 iC f_k17 [aS 34,aS 36] [.b] 39<|
.ite (.not v39) (iK (aM (.len (.app v21 (.cons (aS 34) .nil))) (.z 2932031007402))<|
.next [.app v21 (.cons (aS 34) .nil),aP 22])<|
.next [v21,aP 22])<|
.next [v21,aP 22])<|
.esc<|
.next [v21,v20,aP 10])<|
.esc<|
.next [v8,v9,aP 5])<|
.esc<|
.done [aS 3,aS 4]
def R_k1a:R:= .done [aS 7,aS 2]
def R_k1b:R:= .loop 1 [.z 0]<|
.ite (aL v1 (.len v0)) (iX v0 v1 (.one .s) 2<|
 iC f_kn [aS 2,aZ 3,aZ 10000000] [.b] 3<|
.ite (.not v3) (.esc zRc)<|
.next [aP 1])<|
.esc zRb
def R_k1c:R:= .loop 2 [.z 0,.z 0]<|
.ite (aL v3 (.z 3)) (iX v0 v3 oI 4 zRo) zRf
def R_k1d:R:= iC f_kt [aS 0,aS 1] [.b] 5<|
.ite (.not v5) aF<|
 iC f_k1b [aS 2] [.b] 6<|
.ite (.not v6) aF<|
 iC f_km zEp [.b] 7<|
.ite (.not v7) aF<|
 iC f_kn [aS 4,aZ 3,aZ 20000] [.b] 8<|
.ite (.not v8) aF<|
.loop 9 [.z 0]<|
.ite (aL v9 (.len v2)) (iX v2 v9 (.one .s) 10<|
 iC f_k1c [aS 10,aS 4] sI 11<|
 iX v1 v3 oI 12<|
 iX v1 v3 oI 13<|
 iC f_km [aI 11,.vi .i64 (.bin .sub .i64 aA v12),aI 13] [.b] 14<|
.ite (.not v14) (.esc zRc)<|
.next [aP 9])<|
.esc zRb
def R_k1e:R:= .loop 2 [.z 0]<|
.ite (aL v2 (.z 3)) (iX v0 v2 (.one .b) 3<|
.ite v3 (iX v1 v2 oI 4<|
.ite (.not (aE v4 aA)) (.esc zRc)<|
.next [aP 2])<|
.next [aP 2])<|
.esc zRb
def R_k1g:R:= iC f_km [aI 0,aZ 1,aZ 3] [.b] 2<|
.ite (.not v2) (.done zEf)<|
.ite (.not (aE v0 z1)) (.ite (aL aA (.len v1)) (.done zEf) zRai) zRai
def R_k1h:R:= iC f_k1g [aI 0,aS 1] [.d] 2<|
.i (.prim .seq [.da 2,.vc (.string (Jbm []))] .b 3) zRh
def R_k1i:R:= .ite (.not (aE (.len v4) v0)) aF<|
.loop 5 [.z 0]<|
.ite (aL v5 (.len v4)) (iX v4 v5 (.g zSe) 6<|
 iC f_km [aI 6,aZ 0,aZ 300] [.b] 9<|
.ite (.not v9) (.esc zRc)<|
 iX v4 v5 (.g zSe) 10<|
 iX v4 v5 (.g zSe) 13<|
.ite (.not (.beq (aE v10 aA) (aE v14 aA))) (.esc zRc)<|
 iX v4 v5 (.g zSe) 16<|
.ite (aE v16 aA) (iX v4 v5 (.g zSe) 19<|
.ite (aL aA (.len v21)) (.esc zRc)<|
 iX v4 v5 (.g zSe) 22<|
.ite (aL aA v22) (iX v4 v5 (.g zSe) 25<|
 iC f_k1h [aI 26,aS 27] [.b] 28<|
.ite (.not v28) (.esc zRc)<|
.next [aP 5])<|
.next [aP 5])<|
 iX v4 v5 (.g zSe) 19<|
.ite (aL aA v19) (iX v4 v5 (.g zSe) 22<|
 iC f_k1h [aI 23,aS 24] [.b] 25<|
.ite (.not v25) (.esc zRc)<|
.next [aP 5])<|
.next [aP 5])<|
.esc zRb
def R_k1j:R:= iC f_km [aI 8,aZ 0,aZ 200] [.b] 13<|
.ite v13 (iC f_ks [aS 9] [.b] 14<|
.ite v14 (iC f_k1a [aI 0,aS 1,aS 2,aS 3,aB 6,aB 7,aI 8,aS 9,aS 10,aS 11] [.s,.s] 15<|
 iC f_k1d [aS 15,aS 16,aS 4,aI 12,aS 10] [.b] 17<|
.ite v17 (iC f_k1e [aS 5,aS 10] [.b] 18<|
.ite v18 (iC f_k1i [aI 0,aS 1,aS 2,aS 3,aS 11] [.b] 19<|
.done [aB 19]) aF) aF) aF) aF
def R_k1k:R:= iC f_ku zEd [.b] 11<|
.ite (.not v11) aF<|
 iC f_km [aI 10,aZ 0,.vi .i64 (.bin .sub .i64 (.len v2) z1)] [.b] 12<|
.ite (.not v12) aF<|
 iC f_k19 [aS 1] [.s,.s] 13<|
 iC f_k1j [aI 0,aS 1,aS 2,aS 3,aS 13,aS 14,aB 4,aB 5,aI 6,aS 7,aS 8,aS 9,aI 10] [.b] 15<|
.done [aB 15]
def R_k1l:R:= iC f_kn [aS 0,aZ 2,aZ 9] [.b] 1<|
.done [aB 1]
def R_k1m:R:= iC f_km [aI 4,aZ 0,.vi .i64 (.bin .sub .i64 v0 z1)] [.b] 8<|
.ite v8 (iC f_km [aI 5,aZ 1,aZ 300] [.b] 9<|
.ite v9 (iC f_km [aI 6,aZ 0,.vi .i64 (.bin .sub .i64 (.len v1) z1)] [.b] 10<|
.ite v10 (iC f_k1l [aS 7] [.b] 11<|
.done [aB 11]) aF) aF) aF
def R_k1n:R:= iC f_ku zEd [.b] 8<|
.ite v8 (iC f_k1m [aI 0,aS 1,aS 2,aS 3,aI 4,aI 5,aI 6,aS 7] [.b] 9<|
.done [aB 9]) aF
def R_k1o:R:= iK (aM (.len v1) (.z 8796093022208))<|
.i (.head 1 v1)<|
 iK (aM (.len (.app .nil v1)) (.z 8796093022208))<|
.done [aI 0,.s (.app .nil v1)]
def R_k1p:R:= .loop 1 [.nil,.z 0]<|
.ite (aL v2 (.len v0)) (iX v0 v2 (.g zSe) 3<|
 iX v0 v2 (.g zSe) 6<|
 iC f_k1o [aI 7,aS 8] [.i .i64,.s] 9<|
 iK (aM (.len (.app v1 (.cons (.g (.cons (aI 3) (.cons (aI 9) (.cons (aS 10) .nil)))) .nil))) (.z 1759218604441))<|
.next [.app v1 (.cons (.g (.cons (aI 3) (.cons (aI 9) (.cons (aS 10) .nil)))) .nil),aP 2]) zRg
def R_k1q:R:= iK (aM (.len v3) (.z 8796093022208))<|
.i (.head 1 v3)<|
 iK (aM (.len (.app .nil v3)) (.z 8796093022208))<|
 iK (aM (.len v4) (.z 8796093022208))<|
.i (.head 1 v4)<|
 iK (aM (.len (.app .nil v4)) (.z 8796093022208))<|
 iC f_k1p [aS 5] [.s] 6<|
.done [aB 0,aB 1,aI 2,.s (.app .nil v3),.s (.app .nil v4),aS 6]
def R_k1r:R:= .loop 2 [.nil,.z 0]<|
.ite (aL v3 (.z 3)) (iX v0 v3 oI 4<|
 iX v1 v3 oI 5<|
 iK (aM (.len (.app v2 (.cons (.vi .i64 (.bin .add .i64 v4 v5)) .nil))) (.z 8796093022208))<|
.next [.app v2 (.cons (.vi .i64 (.bin .add .i64 v4 v5)) .nil),aP 3])<|
.esc<|
.done [aS 2]
def R_k1s:R:= .loop 5 [v2,.z 0]<|
.ite (aL v6 (.z 3)) (iX v0 v6 oI 7<|
 iX v3 v6 oI 8<|
.next [.bin .add .i64 v5 (.bin .mul .i64 v7 v8),aP 6])<|
.esc<|
.loop 7 [v5,.z 0]<|
.ite (aL v8 (.z 2)) (iX v1 v8 oI 9<|
 iX v4 v8 oI 10<|
.next [.bin .add .i64 v7 (.bin .mul .i64 v9 v10),aP 8])<|
.esc<|
.done [aI 7]
def R_k1t:R:= .loop 3 [.z 0,.z 0]<|
.ite (aL v4 (.len v1)) (.ite (.not (aE v4 v2)) (iX v1 v4 oI 5<|
.next [.bin .add .i64 v3 v5,aP 4])<|
.next [v3,aP 4])<|
.esc<|
.done [aI 3]
def R_k1u:R:= iC f_kt [aS 0,aS 1] [.b] 9<|
.ite (.not v9) (.done zEc)<|
 iC f_k1b [aS 2] [.b] 10<|
.ite (.not v10) (.done zEc)<|
 iC f_km zEp [.b] 11<|
.ite (.not v11) (.done zEc)<|
 iC f_kn [aS 4,aZ 3,aZ 20000] [.b] 12<|
.ite (.not v12) (.done zEc)<|
 iC f_kz [aS 5,aS 6,aI 7] [.b] 13<|
.ite (.not v13) (.done zEc)<|
 iC f_k1l [aS 8] [.b] 14<|
.ite (.not v14) (.done zEc)<|
 iC f_k1r [aS 0,aS 4] [.s] 15<|
 iC f_k1s [aS 5,aS 6,aI 7,aS 15,aS 8] sI 16<|
 iC f_k16 [aS 5,aS 6,aI 7] [.s] 17<|
 iC f_kv [] zSa 18<|
 iC f_k17 [aS 17,aS 18] [.b] 21<|
.ite v21 (.done [aI 16,aI 16,.vb .tt])<|
 iC f_k18 [aS 2,aS 17] sI 22<|
.ite (aL v22 aA) (.done zEc)<|
 iC f_k1t [aS 0,aS 1,aI 3] sI 23<|
 iC f_k1t [aS 0,aS 1,aI 3] sI 24<|
.done [.vi .i64 (.bin .sub .i64 v16 v23),.vi .i64 (.bin .add .i64 v16 v24),.vb .tt]
def R_k1v:R:= .loop 10 [.z 0]<|
.ite (aL v10 (.len v5)) (iX v5 v10 (.g zSa) 11<|
 iC f_k1u [aS 0,aS 1,aS 2,aI 3,aS 4,aS 11,aS 12,aI 13,aS 9] [.i .i64,.i .i64,.b] 14<|
.ite (.not v16) (.esc zRc)<|
.ite (aL v14 aA) (.esc zRc)<|
.next [aP 10])<|
.esc zRb
def R_k1w:R:= .loop 8 [.nil,.z 0]<|
.ite (aL v9 (.z 3)) (iX v4 v9 (.g zSa) 10<|
 iC f_k1s [aS 10,aS 11,aI 12,aS 0,aS 7] sI 13<|
 iX v2 v9 (.one .b) 14<|
.ite v14 (.ite (.not (aE v13 aA)) (.esc<|
.done [.s (.cons (aZ 0) (.cons (aZ 0) (.cons (aZ 0) .nil))),.vb .ff]) zRx) zRx)<|
.esc<|
.done [aS 8,.vb .tt]
def R_k1x:R:= .loop 5 [.z 1,.z 0]<|
.ite (aL v6 (.z 3)) (iC f_kw [aI 6] zSa 7<|
 iC f_k1u [aS 0,aS 1,aS 2,aI 3,aS 4,aS 7,aS 8,aI 9,.s (.cons (aZ 0) (.cons (aZ 0) .nil))] [.i .i64,.i .i64,.b] 10<|
.ite v12 (.ite (aL (.z 10000) v10) (.esc<|
.done [aZ 2])<|
.ite (aL v11 (.z (-10000))) (.esc<|
.done [aZ 2])<|
.ite (.not v12) zRe zRu)<|
.ite (.not v12) zRe zRu)<|
.esc<|
.done [aI 5]
def R_k1y:R:= .ite v9 (iK (aM (.len v5) (.z 8796093022208))<|
.i (.head 1 v5)<|
 iK (aM (.len (.app .nil v5)) (.z 8796093022208))<|
.done [aZ 2,.s .nil,.s (.app .nil v5),.vb .tt])<|
 iC f_k1w [aS 0,aS 1,aS 3,aS 6,aS 7,aS 8,aB 9,aS 10] [.s,.b] 11<|
 iC f_k1r [aS 5,aS 11] [.s] 13<|
.ite (.not v12) Jom<|
 iC f_kn [aS 13,aZ 3,aZ 20000] [.b] 14<|
.ite (.not v14) Jom<|
 iC f_k1x [aS 0,aS 1,aS 2,aI 4,aS 13] sI 15<|
.ite (aE v15 (.z 2)) (iK (aM (.len v5) (.z 8796093022208))<|
.i (.head 1 v5)<|
 iK (aM (.len (.app .nil v5)) (.z 8796093022208))<|
.done [aZ 3,.s .nil,.s (.app .nil v5),.vb .tt])<|
.ite (aE v15 aA) Jom<|
 iC f_k1d [aS 0,aS 1,aS 2,aI 4,aS 13] [.b] 16<|
.ite (.not v16) Jom<|
.loop 17 [.nil,.z 0]<|
.ite (aL v18 (.len v8)) (iX v8 v18 (.g zSa) 19<|
 iC f_k1s [aS 19,aS 20,aI 21,aS 0,aS 10] sI 22<|
 iK (aM (.len (.app v17 (.cons (aI 22) .nil))) (.z 8796093022208))<|
.next [.app v17 (.cons (aI 22) .nil),aP 18])<|
.esc<|
.done [aZ 1,aS 17,aS 13,.vb .tt]
def R_k1z:R:= iX v0 v7 (.one .s) 9<|
 iC f_k14 [aS 9] [.s] 10<|
.loop 11 [.z 0]<|
.ite (aL v11 (.len v10)) (iK (aM aA v11)<|
 iK (aL v11 (.len v10))<|
 iX v10 v11 (.g [.s,.s,.s,.b]) 12<|
 iC f_k1v [aS 3,aS 4,aS 1,aI 5,aS 6,aS 12,aS 13,aS 14,aB 15,aS 8] [.b] 16<|
.ite v16 (iK (aM aA v11)<|
 iK (aL v11 (.len v10))<|
 iX v10 v11 (.g [.s,.s,.s,.b]) 17<|
 iC f_k1y [aS 3,aS 4,aS 1,aS 2,aI 5,aS 6,aS 17,aS 18,aS 19,aB 20,aS 8] zSc 21<|
.esc<|
.done [aI 21,aS 22,aS 23,aB 24])<|
.next [aP 11])<|
.esc<|
 iK (aM (.len v6) (.z 8796093022208))<|
.i (.head 1 v6)<|
 iK (aM (.len (.app .nil v6)) (.z 8796093022208))<|
.done [aZ 0,.s .nil,.s (.app .nil v6),.vb .ff]
def R_k20:R:= iK (aM (.len v3) (.z 8796093022208))<|
.i (.head 1 v3)<|
 iK (aM (.len (.app .nil v3)) (.z 8796093022208))<|
.done [aI 0,aI 1,aI 2,.s (.app .nil v3)]
def R_k21:R:= iC f_k1q [aB 6,aB 7,aI 8,aS 9,aS 10,aS 11] zSf 17<|
 iK (aM aA v13)<|
 iK (aL v13 (.len v22))<|
 iX v22 v13 (.g zSe) 23<|
.ite (.not v6) (.done zEq)<|
 iK (.not (aE (.len v2) aA))<|
.ite (.not (aE (.bin .rem .i64 v13 (.len v2)) v12)) (.done zEq)<|
.ite (aL v14 v23) (.done zEq)<|
.ite (aL (aP 23) v14) (.done zEq)<|
.ite (aE v14 v23) (iC f_k1o [aI 24,aS 25] [.i .i64,.s] 26<|
.done [aB 17,aB 18,aI 19,aS 20,aS 21,aS 22,aI 26,aS 27,.s .nil])<|
.ite (.not v7) (iC f_k1a [aI 0,aS 1,aS 2,aS 3,aB 6,aB 7,aI 8,aS 9,aS 10,aS 11] [.s,.s] 26<|
 iC f_k1z [aS 1,aS 4,aS 5,aS 26,aS 27,aI 12,aS 10,aI 15,aS 16] zSc 28<|
.ite v31 (iC f_k1o [aI 28,aS 29] [.i .i64,.s] 32<|
 iK (aM aA v13)<|
 iK (aL v13 (.len v22))<|
 iX v22 v13 (.g zSe) 34<|
.done [aB 17,aB 18,aI 19,aS 20,aS 30,.s (.set v22 v13 (.g (.cons (aI 14) (.cons (aI 32) (.cons (aS 33) .nil))))),aI 28,aS 29,.s .nil])<|
 iC f_k20 [aI 13,aI 14,aI 15,aS 16] zSg 32<|
.done [aB 17,aB 18,aI 19,aS 20,aS 21,aS 22,aZ 0,.s .nil,.s (.cons (.g (.cons (aZ 1) (.cons (aZ (-1)) (.cons (aZ 0) (.cons (aZ 0) (.cons (aI 32) (.cons (aI 33) (.cons (aI 34) (.cons (aS 35) (.cons (.s .nil) (.cons (.s .nil) (.cons (.s .nil) .nil)))))))))))) .nil)])<|
 iC f_k20 [aI 13,aI 14,aI 15,aS 16] zSg 26<|
.done [aB 17,aB 18,aI 19,aS 20,aS 21,aS 22,aZ 0,.s .nil,.s (.cons (.g (.cons (aZ 1) (.cons (aZ (-1)) (.cons (aZ 0) (.cons (aZ 0) (.cons (aI 26) (.cons (aI 27) (.cons (aI 28) (.cons (aS 29) (.cons (.s .nil) (.cons (.s .nil) (.cons (.s .nil) .nil)))))))))))) .nil)]
def R_k22:R:= iC f_k1k [aI 0,aS 1,aS 2,aS 3,aB 4,aB 5,aI 6,aS 7,aS 8,aS 9,aI 10] [.b] 15<|
.ite (.not v15) (.done zEs)<|
 iC f_k1n [aI 0,aS 1,aS 2,aS 3,aI 11,aI 12,aI 13,aS 14] [.b] 16<|
.ite (.not v16) (.done zEs)<|
 iC f_k19 [aS 1] [.s,.s] 17<|
 iC f_k21 [aI 0,aS 1,aS 2,aS 3,aS 17,aS 18,aB 4,aB 5,aI 6,aS 7,aS 8,aS 9,aI 10,aI 11,aI 12,aI 13,aS 14] zSh 19<|
.done [aB 19,aB 20,aI 21,aS 22,aS 23,aS 24,aI 25,aS 26,aS 27]
def R_k23:R:= .ite (aM v1 v0) (.done [.vb (aM v0 v2)]) aF
def R_k24:R:= .loop 2 [.z 0]<|
.ite (aL v2 (.len v0)) zRw<|
.esc zRa
def R_k25:R:= iC f_k24 [aS 0,.da 1] sI 2<|
.done zEh
def R_k26:R:= .i (.get (.da 1) (.q sI) 2)<|
.i (.get (.da 1) (.q sI) 3)<|
 iC f_k23 [aI 0,.vi .i64 (.bin .sub .i64 aA v2),aI 3] [.b] 4<|
.done [.vb (.not v4)]
def R_k27:R:= .loop 2 [.z 0]<|
.ite (aL v2 (.len v0)) (iX v0 v2 oI 3<|
.i (.callv (.da 1) [aI 3] [none] [.b] 4) zRl)<|
.esc zRa
def R_k28:R:= iC f_k27 [aS 0,.da 1] sI 2<|
.done zEh
def R_k29:R:= .ite (aE (.len v0) v1) (iC f_k28 [aS 0,.fn f_k26 (.cons (.q (.cons (aI 2) .nil)) .nil)] [.b] 3 zRh) aF
def R_k2a:R:= iC f_k29 [aS 0,aZ 3,aZ 2] [.b] 3<|
.ite v3 (iC f_k29 [aS 1,aZ 2,aZ 2] [.b] 4<|
.ite v4 (iC f_k23 [aI 2,aZ (-20),aZ 20] [.b] 5<|
.done [aB 5]) aF) aF
def R_k2b:R:=Jo3
def R_k2c:R:= .ite (aE v2 v5) (iC f_k2b [aS 0,aS 3] [.b] 6<|
.ite v6 (iC f_k2b [aS 1,aS 4] [.b] 7<|
.done [aB 7]) aF) aF
def R_k2d:R:= .ite (aE v0 z1) (iC f_k23 [aI 2,aZ 1,aZ 6] [.b] 6<|
.ite v6 (.ite (aE v1 aA) (iC f_k2a zEa [.b] 7<|
.done [aB 7]) aF) aF)<|
.ite (aE v0 (.z 2)) (iC f_k23 [aI 1,aZ 0,aZ 2] [.b] 6<|
.ite v6 (.ite (aE v2 aA) (iC f_k2a zEa [.b] 7<|
.done [aB 7]) aF) aF)<|
.ite (aE v0 (.z 3)) (.ite (aE v1 aA) (.ite (aE v2 aA) (iC f_k2a zEa [.b] 6<|
.done [aB 6]) aF) aF)<|
.ite (aE v0 (.z 4)) (.ite (aE v1 aA) (.ite (aE v2 aA) (iC f_k2c [aS 3,aS 4,aI 5,.s .nil,.s .nil,aZ 0] [.b] 6<|
.done [aB 6]) aF) aF) aF
def R_k2e:R:= .loop 1 [.z 0,.z 0]<|
.ite (aL v2 (.len v0)) (iX v0 v2 (.g zSi) 3<|
 iC f_k2d [aI 3,aI 4,aI 5,aS 6,aS 7,aI 8] [.b] 9<|
.ite (.not v9) (.esc zRc)<|
.ite (aE v3 z1) (.next [aP 1,aP 2])<|
.next [v1,aP 2])<|
.esc zRn
def R_k2f:R:= iC f_k2e [aS 0] [.b] 1 zRi
def R_k2g:R:= iC f_k23 [.vi .i64 (.len v0),aZ 1,aZ 4] [.b] 1<|
.ite v1 (iC f_k25 [aS 0,.fn f_k2f .nil] [.b] 2<|
.done [.vb (.not v2)]) aF
def R_k2h:R:= .done [aS 4,aS 2]
def R_k2i:R:= iC f_k23 [aI 0,aZ 0,aZ 50] [.b] 1 zRi
def R_k2j:R:= iC f_k29 [aS 0,aZ 3,aZ 10000] [.b] 1<|
.done [aB 1]
def R_k2k:R:= iC f_k2j [aS 0] [.b] 2<|
.ite v2 (iC f_k23 [.vi .i64 (.len v1),aZ 1,aZ 3] [.b] 3<|
.ite v3 (iC f_k28 [aS 1,.fn f_k2i .nil] [.b] 4<|
.done [.vb (.not v4)]) aF) aF
def R_k2l:R:= iC f_k23 [aI 0,aZ 1,aZ 4] [.b] 4<|
.ite v4 (iC f_k2g [aS 1] [.b] 5<|
.ite v5 (iC f_k29 [aS 3,aZ 3,aZ 1000] [.b] 6<|
.ite v6 (iC f_k2h [aI 0,aS 1,aS 2,aS 3,aS 3] [.s,.s] 7<|
 iC f_k2k [aS 7,aS 8] [.b] 9<|
.done [aB 9]) aF) aF) aF
def R_k2m:R:= .done zEv
def R_k2n:R:= iC f_k23 [aI 0,aZ 0,aZ 2] [.b] 1<|
.ite (.not v1) (.done zEe)<|
 iC f_k2m [] zSa 2<|
 iK (aM aA v0) zRs
def R_k2o:R:= .nilq 1 v0 zRd (iK (aM (.len v0) (.z 8796093022208))<|
.i (.head 1 v0)<|
 iK (aM (.len (.app .nil v0)) (.z 8796093022208))<|
.done [.s (.app .nil v0)])
def R_k2p:R:= iC f_k2o [aS 0] [.s] 3<|
 iC f_k2o [aS 1] [.s] 4<|
.done [aS 3,aS 4,aI 2]
def R_k2q:R:= .loop 1 [.nil,.z 0]<|
.ite (aL v2 (.len v0)) (iX v0 v2 (.g zSa) 3<|
 iC f_k2p zEa zSa 6<|
.i (.fl v6)<|
.i (.fl v7)<|
 iK (aM (.len (.app v1 (.cons (.g (.cons (aS 6) (.cons (aS 7) (.cons (aI 8) .nil)))) .nil))) (.z 1256584717458))<|
.next [.app v1 (.cons (.g (.cons (aS 6) (.cons (aS 7) (.cons (aI 8) .nil)))) .nil),aP 2]) zRg
def R_k2r:R:= iC f_k29 [aS 0,aZ 3,aZ 10000000] [.b] 3<|
.ite v3 (iC f_k29 [aS 1,aZ 2,aZ 10000000] [.b] 4<|
.ite v4 (iC f_k23 [aI 2,aZ (-10000000),aZ 10000000] [.b] 5<|
.done [aB 5]) aF) aF
def R_k2s:R:= .loop 2 [.z 0]<|
.ite (aL v2 (.len v0)) (iX v0 v2 (.g zSa) 3<|
.i (.callv (.da 1) zEa [some 3] [.b] 6)<|
.ite v6 zRf<|
.next [aP 2])<|
.esc zRa
def R_k2t:R:= iC f_k2s [aS 0,.da 1] sI 2<|
.done zEh
def R_k2u:R:= iC f_k2r zEb [.b] 3 zRh
def R_k2v:R:= .loop 7 [v0,.z 0]<|
.ite (aL v8 (.len v3)) (iX v3 v8 oI 9<|
 iK (aM aA v8)<|
 iK (aL v8 (.len v7))<|
 iX v7 v8 oI 10<|
 iK (aM aA v8)<|
 iK (aL v8 (.len v7))<|
 iX v7 v8 oI 11<|
.next [.set v7 v8 (.vi .i64 (.bin .add .i64 v10 (.bin .mul .i64 v6 v9))),aP 8])<|
.esc<|
.loop 9 [v1,.z 0]<|
.ite (aL v10 (.len v4)) (iX v4 v10 oI 11<|
 iK (aM aA v10)<|
 iK (aL v10 (.len v9))<|
 iX v9 v10 oI 12<|
 iK (aM aA v10)<|
 iK (aL v10 (.len v9))<|
 iX v9 v10 oI 13<|
.next [.set v9 v10 (.vi .i64 (.bin .add .i64 v12 (.bin .mul .i64 v6 v11))),aP 10])<|
.esc<|
.done [.vi .i64 (.bin .add .i64 v2 (.bin .mul .i64 v6 v5)),aS 7,aS 9]
def R_k2w:R:= iC f_k2r zEb [.b] 3<|
.ite (.not v3) (.done zEe)<|
.done zEb
def R_k2x:R:= iC f_k2r zEb [.b] 4<|
.ite (.not v4) (.done zEe)<|
.ite (.not (aE (.len v3) (.z 3))) (.done zEe)<|
 iC f_k2t [aS 3,.fn f_k2u .nil] [.b] 5<|
.ite v5 (.done zEe)<|
 iC f_k2m [] zSa 6<|
.loop 9 [v6,v7,.z 0,v8]<|
.ite (aL v11 (.len v3)) (iX v3 v11 (.g zSa) 13<|
 iX v0 v11 oI 16<|
 iC f_k2v [aS 9,aS 10,aI 12,aS 13,aS 14,aI 15,aI 16] zSb 17<|
.next [v18,v19,aP 11,v17])<|
.esc<|
 iC f_k2v [aS 9,aS 10,aI 12,.s .nil,aS 1,aI 2,aZ 1] zSb 13<|
 iC f_k2w [aS 14,aS 15,aI 13] zSa 16<|
.done [aS 16,aS 17,aI 18]
def R_k2y:R:= iC f_k2r zEb [.b] 4<|
.ite (.not v4) (.done zEe)<|
 iC f_k23 [aI 3,aZ (-10000000),aZ 10000000] [.b] 5<|
.ite (.not v5) (.done zEe)<|
 iC f_k2m [] zSa 6<|
 iC f_k2v [aS 6,aS 7,aI 8,aS 0,aS 1,aI 2,aI 3] zSb 9<|
 iC f_k2w [aS 10,aS 11,aI 9] zSa 12<|
.done [aS 12,aS 13,aI 14]
def R_k2z:R:= iC f_k2r zEb [.b] 6<|
.ite (.not v6) (.done zEe)<|
 iC f_k2r zEa [.b] 7<|
.ite (.not v7) (.done zEe)<|
 iC f_k2m [] zSa 8<|
 iC f_k2v [aS 8,aS 9,aI 10,aS 0,aS 1,aI 2,aZ 1] zSb 11<|
 iC f_k2v [aS 12,aS 13,aI 11,aS 3,aS 4,aI 5,aZ 1] zSb 14<|
 iC f_k2w [aS 15,aS 16,aI 14] zSa 17<|
.done [aS 17,aS 18,aI 19]
def R_k30:R:= .loop 6 [v1,v2,v3,v4,v5,v0]<|
.ite (aL v7 (.len v11)) (iX v11 v7 (.g zSi) 12<|
.ite (aE v12 (.z 4)) (iC f_k2q [aS 8] [.s] 18<|
 iK (aM (.len (.app v6 (.cons (.g (.cons (aS 18) (.cons (.s .nil) (.cons (.s .nil) (.cons (.vb .tt) .nil))))) .nil))) (.z 879609302220))<|
.esc<|
.done [aS 11,.s (.app v6 (.cons (.g (.cons (aS 18) (.cons (.s .nil) (.cons (.s .nil) (.cons (.vb .tt) .nil))))) .nil))])<|
 iC f_k2x [aS 15,aS 16,aI 17,aS 9] zSa 18<|
.ite (aE v12 z1) (iC f_k2q [aS 8] [.s] 21<|
 iK (aM (.len (.app v21 (.cons (.g (.cons (aS 18) (.cons (aS 19) (.cons (aI 20) .nil)))) .nil))) (.z 1256584717458))<|
 iC f_k2q [aS 9] [.s] 22<|
 iC f_k2q [aS 10] [.s] 23<|
 iC f_k30 [aS 11,aS 6,.vi .i64 (aP 7),.s (.app v21 (.cons (.g (.cons (aS 18) (.cons (aS 19) (.cons (aI 20) .nil)))) .nil)),aS 22,aS 23] [.s,.s] 24<|
 iC f_k2y [aS 18,aS 19,aI 20,aZ (-1)] zSa 26<|
 iC f_k2q [aS 8] [.s] 29<|
 iK (aM (.len (.app v29 (.cons (.g (.cons (aS 26) (.cons (aS 27) (.cons (.vi .i64 (.bin .sub .i64 v28 z1)) .nil)))) .nil))) (.z 1256584717458))<|
.next [v25,.bin .add .i64 (.bin .add .i64 v7 v14) z1,.app v29 (.cons (.g (.cons (aS 26) (.cons (aS 27) (.cons (.vi .i64 (.bin .sub .i64 v28 z1)) .nil)))) .nil),v9,v10,v24])<|
.ite (aE v12 (.z 2)) (iC f_k2q [aS 9] [.s] 21<|
 iK (aM aA v13)<|
 iK (aL v13 (.len v21))<|
 iX v21 v13 (.g zSa) 22<|
 iC f_k2z [aS 22,aS 23,aI 24,aS 18,aS 19,aI 20] zSa 25<|
 iK (aM aA v13)<|
 iK (aL v13 (.len v21))<|
 iX v21 v13 (.g zSa) 28<|
.next [v6,aP 7,v8,.set v21 v13 (.g (.cons (aS 25) (.cons (aS 26) (.cons (aI 27) .nil)))),v10,v11])<|
.ite (aE v12 (.z 3)) (iC f_k2q [aS 10] [.s] 21<|
 iK (aM (.len (.app v21 (.cons (.g (.cons (aS 18) (.cons (aS 19) (.cons (aI 20) .nil)))) .nil))) (.z 1256584717458))<|
.next [v6,aP 7,v8,v9,.app v21 (.cons (.g (.cons (aS 18) (.cons (aS 19) (.cons (aI 20) .nil)))) .nil),v11])<|
.next [v6,aP 7,v8,v9,v10,v11])<|
.esc<|
 iC f_k2q [aS 8] [.s] 12<|
 iC f_k2q [aS 10] [.s] 13<|
.loop 14 [.nil,.z 0]<|
.ite (aL v15 (.len v9)) (iX v9 v15 (.g zSa) 16<|
 iC f_k2n [aI 15] zSa 19<|
 iC f_k2y [aS 19,aS 20,aI 21,aZ (-1)] zSa 22<|
 iC f_k2z [aS 16,aS 17,aI 18,aS 22,aS 23,aI 24] zSa 25<|
.i (.fl v25)<|
.i (.fl v26)<|
 iK (aM (.len (.app v14 (.cons (.g (.cons (aS 25) (.cons (aS 26) (.cons (aI 27) .nil)))) .nil))) (.z 1256584717458))<|
.next [.app v14 (.cons (.g (.cons (aS 25) (.cons (aS 26) (.cons (aI 27) .nil)))) .nil),aP 15])<|
.esc<|
 iK (aM (.len (.app v6 (.cons (.g (.cons (aS 12) (.cons (aS 14) (.cons (aS 13) (.cons (.vb .ff) .nil))))) .nil))) (.z 879609302220))<|
.done [aS 11,.s (.app v6 (.cons (.g (.cons (aS 12) (.cons (aS 14) (.cons (aS 13) (.cons (.vb .ff) .nil))))) .nil))]
def R_k31:R:= iC f_k2e [aS 0] [.b] 1<|
.ite (.not v1) zRd<|
.loop 2 [.nil,.z 0]<|
.ite (aL v3 (.z 3)) (iC f_k2n [aI 3] zSa 4<|
.i (.fl v4)<|
.i (.fl v5)<|
 iK (aM (.len (.app v2 (.cons (.g (.cons (aS 4) (.cons (aS 5) (.cons (aI 6) .nil)))) .nil))) (.z 1256584717458))<|
.next [.app v2 (.cons (.g (.cons (aS 4) (.cons (aS 5) (.cons (aI 6) .nil)))) .nil),aP 3])<|
.esc<|
 iC f_k30 [aS 0,.s .nil,aZ 0,.s .nil,aS 2,.s .nil] [.s,.s] 4<|
.done [aS 5]
def R_k32:R:= .done [.vb (.not (aE v0 aA))]
def R_k33:R:= iC f_k2o [aS 0] [.s] 3<|
 iC f_k27 [aS 3,.fn f_k32 .nil] sI 4<|
.ite (aM aA v4) (iK (aM aA v4)<|
 iK (aL v4 (.len v3))<|
 iX v3 v4 oI 5<|
.ite (aL v5 aA) (.loop 6 [v3,.z 0]<|
.ite (aL v7 (.len v3)) (iK (aM aA v7)<|
 iK (aL v7 (.len v6))<|
 iX v6 v7 oI 8<|
 iK (aM aA v7)<|
 iK (aL v7 (.len v6))<|
 iX v6 v7 oI 9<|
.next [.set v6 v7 (.vi .i64 (.bin .sub .i64 aA v8)),aP 7])<|
.esc<|
.done [aS 6])<|
.done [aS 3])<|
.done [aS 3]
def R_k34:R:= .done [.vb (.not (aE v0 aA))]
def R_k35:R:= iC f_k28 [aS 0,.fn f_k34 .nil] [.b] 1 zRi
def R_k36:R:= .i (.get (.da 1) (.q [.s]) 2)<|
 iC f_k2b [aS 0,aS 2] [.b] 3<|
.done [aB 3]
def R_k37:R:= .loop 2 [.z 0]<|
.ite (aL v2 (.len v0)) zRw<|
.esc zRa
def R_k38:R:= iC f_k37 [aS 0,.fn f_k36 (.cons (.q (.cons (aS 1) .nil)) .nil)] sI 2<|
.done [aI 2]
def R_k39:R:= iC f_k2g [aS 0] [.b] 1<|
.ite (.not v1) zRd<|
.loop 2 [.nil,.z 0]<|
.ite (aL v3 (.z 3)) (iC f_k2n [aI 3] zSa 4<|
.i (.fl v4)<|
 iK (aM (.len (.app v2 (.cons (aS 4) .nil))) (.z 2932031007402))<|
.next [.app v2 (.cons (aS 4) .nil),aP 3])<|
.esc<|
.loop 4 [v2,.z 0]<|
.ite (aL v5 (.len v0)) (iX v0 v5 (.one .s) 6<|
 iC f_k31 [aS 6] [.s] 7<|
.loop 8 [v4,.z 0]<|
.ite (aL v9 (.len v7)) (iK (aM aA v9)<|
 iK (aL v9 (.len v7))<|
 iX v7 v9 (.g [.s,.s,.s,.b]) 10<|
.loop 14 [v8,.z 0]<|
.ite (aL v15 (.len v10)) (iX v10 v15 (.g zSa) 16<|
 iC f_k33 [aS 16,aS 17,aI 18] [.s] 19<|
 iC f_k35 [aS 19] [.b] 20<|
.ite (.not v20) (iC f_k38 [aS 14,aS 19] sI 21<|
.ite (aL v21 aA) (.i (.fl v19)<|
 iK (aM (.len (.app v14 (.cons (aS 19) .nil))) (.z 2932031007402))<|
.next [.app v14 (.cons (aS 19) .nil),aP 15])<|
.next [v14,aP 15])<|
.next [v14,aP 15])<|
.esc<|
.next [v14,aP 9])<|
.esc<|
.next [v8,aP 5])<|
.esc<|
.done [aS 4]
def R_k3a:R:= .loop 2 [.cons (.vb .ff) (.cons (.vb .ff) (.cons (.vb .ff) .nil)),.z 0]<|
.ite (aL v3 (.len v0)) (iX v0 v3 (.one .s) 4<|
 iC f_k31 [aS 4] [.s] 5<|
.loop 6 [v2,.z 0]<|
.ite (aL v7 (.len v5)) (iK (aM aA v7)<|
 iK (aL v7 (.len v5))<|
 iX v5 v7 (.g [.s,.s,.s,.b]) 8<|
.loop 12 [v6,.z 0]<|
.ite (aL v13 (.len v6)) (iK (aM aA v13)<|
 iK (aL v13 (.len v12))<|
 iX v12 v13 (.one .b) 14<|
.ite v14 (iK (aM aA v13)<|
 iK (aL v13 (.len v12))<|
 iX v12 v13 (.one .b) 15<|
.next [.set v12 v13 (.vb .tt),aP 13])<|
.i (.callv (.da 1) [aS 8,aS 9,aS 10,aB 11,aI 13] [some 4,none] [.b] 15)<|
 iK (aM aA v13)<|
 iK (aL v13 (.len v12))<|
 iX v12 v13 (.one .b) 16<|
.next [.set v12 v13 (aB 15),aP 13])<|
.esc<|
.next [v12,aP 7])<|
.esc<|
.next [v6,aP 3])<|
.esc<|
.done [aS 2]
def R_k3b:R:= .ite (aL v0 aA) zRj<|
.ite (aL aA (.bin .sub .i64 v0 (.bin .sub .i64 aA aA))) (iK (aL aA (.bin .sub .i64 v0 (.bin .sub .i64 aA aA)))<|
 iK (aM (.bin .sub .i64 v0 (.bin .sub .i64 aA aA)) (.z 1256584717458))<|
 iK (aM aA (.len (.rep (.bin .sub .i64 v0 (.bin .sub .i64 aA aA)) (.g (.cons (.s .nil) (.cons (.s .nil) (.cons (aZ 0) .nil)))))))<|
.done [.s (.take (.rep (.bin .sub .i64 v0 (.bin .sub .i64 aA aA)) (.g (.cons (.s .nil) (.cons (.s .nil) (.cons (aZ 0) .nil))))) aA)]) zRd
def R_k3c:R:= .loop 1 [.z 0,.z 0]<|
.ite (aL v2 (.len v0)) (iX v0 v2 (.one .s) 3<|
.ite (aL (.bin .add .i64 v1 (.len v3)) aA) zRj<|
.next [.bin .add .i64 v1 (.len v3),aP 2])<|
.esc<|
 iC f_k3b [aI 1] [.s] 3<|
.loop 4 [v3,.z 0]<|
.ite (aL v5 (.len v0)) (iX v0 v5 (.one .s) 6<|
 iK (aM (.len v6) (.z 1256584717458))<|
.i (.head 3 v6)<|
 iK (aM (.len (.app v4 v6)) (.z 1256584717458))<|
.next [.app v4 v6,aP 5])<|
.esc<|
.done [aS 4]
def R_k3d:R:= .i (.get (.da 3) (.q sI) 4)<|
 iX v0 v4 oI 5<|
.done [.vb (.not (aE v5 aA))]
def R_k3e:R:= iC f_k3c [.s (.cons (aS 1) (.cons (aS 2) .nil))] [.s] 5<|
 iC f_k2t [aS 5,.fn f_k3d (.cons (.q (.cons (aI 4) .nil)) .nil)] [.b] 6<|
.done [aB 6]
def R_k3f:R:= iC f_k2g [aS 0] [.b] 1<|
.ite (.not v1) zRd<|
 iC f_k3a [aS 0,.fn f_k3e .nil] [.s] 2<|
.done [aS 2]
def R_k3g:R:= iC f_k39 [aS 0] [.s] 1<|
 iC f_k3f [aS 0] [.s] 2<|
.done [aS 0,aS 1,aS 2]
def R_k3h:R:= iC f_k23 [aI 4,aZ 0,.vi .i64 (.bin .sub .i64 (.len v2) z1)] [.b] 5<|
.done [aB 5]
def R_k3i:R:= iC f_k37 [aS 0,.da 1] sI 2<|
.done zEh
def R_k3j:R:= iC f_k29 [aS 0,aZ 3,aZ 10000000] [.b] 1 zRi
def R_k3k:R:= iC f_k3i [aS 0,.fn f_k3j .nil] [.b] 1 zRi
def R_k3l:R:= iC f_k29 [aS 0,aZ 3,aZ 20000] [.b] 1<|
.done [aB 1]
def R_k3m:R:= iC f_k2k [aS 0,aS 1] [.b] 5<|
.ite v5 (iC f_k3k [aS 2] [.b] 6<|
.ite v6 (iC f_k23 zEp [.b] 7<|
.ite v7 (iC f_k3l [aS 4] [.b] 8<|
.done [aB 8]) aF) aF) aF
def R_k3n:R:= .loop 2 [.z 0,.z 0]<|
.ite (aL v3 (.len v0)) (iX v0 v3 oI 4 zRo) zRf
def R_k3o:R:= .i (.get (.da 1) (.q [.s]) 3)<|
 iC f_k3n [aS 0,aS 3] sI 4<|
.i (.get (.da 2) (.q sI) 5)<|
.i (.get (.da 2) (.q sI) 6)<|
 iC f_k23 [aI 4,.vi .i64 (.bin .sub .i64 aA v5),aI 6] [.b] 7<|
.done [.vb (.not v7)]
def R_k3p:R:= iC f_k3m [aS 0,aS 1,aS 2,aI 3,aS 4] [.b] 5<|
.ite (.not v5) aF<|
 iX v1 v3 oI 6<|
 iC f_k3i [aS 2,.fn f_k3o (.cons (.q (.cons (aS 4) .nil)) (.cons (.q (.cons (aI 6) .nil)) .nil))] [.b] 7<|
.done [.vb (.not v7)]
def R_k3q:R:= .loop 4 [.z 0]<|
.ite (aL v4 (.len v3)) (iX v3 v4 oI 5<|
.ite (.not (aE v5 aA)) (iX v2 v4 (.one .b) 6<|
.ite v6 (.esc zRc)<|
.next [aP 4])<|
.next [aP 4])<|
.esc zRb
def R_k3r:R:= iC f_k3p [aS 3,aS 4,aS 1,aI 5,aS 6] [.b] 7<|
.ite v7 (iC f_k3q [aS 0,aS 1,aS 2,aS 6] [.b] 8<|
.done [aB 8]) aF
def R_k3s:R:= .loop 2 [.z 0]<|
.ite (aL v2 (.len v0)) (iX v0 v2 (.g zSe) 3<|
.i (.callv (.da 1) [aI 3,aI 4,aS 5] [some 3] [.b] 6)<|
.ite v6 zRf<|
.next [aP 2])<|
.esc zRa
def R_k3t:R:= iC f_k3s [aS 0,.da 1] sI 2<|
.done zEh
def R_k3u:R:= .ite (aE v0 aA) (.done [.vb (aE (.len v1) aA)]) aF
def R_k3v:R:= .done [.s (.cons (.vc (.string (Jbm []))) (.cons (.vc (.string (Jbm [100,111,110,101]))) (.cons (.vc (.string (Jbm [115,116,111,112,112,101,100]))) (.cons (.vc (.string (Jbm [111,118,101,114]))) .nil))))]
def R_k3x:R:= iC f_k23 [aI 0,aZ 1,aZ 3] [.b] 2<|
.ite (.not v2) (.done zEf)<|
.ite (aL (.z 6) (.len v1)) (.done zEf)<|
.ite (.not (aE v0 z1)) (.ite (aL aA (.len v1)) (.done zEf) zRaf) zRaf
def R_k3y:R:= iC f_k3x [aI 0,aS 1] [.d] 2<|
.i (.prim .seq [.da 2,.vc (.string (Jbm []))] .b 3) zRh
def R_k3z:R:= .ite (aE v0 aA) (iC f_k3u [aI 1,aS 2] [.b] 3<|
.done [aB 3])<|
 iC f_k23 [aI 0,aZ 1,aZ 300] [.b] 3<|
.ite v3 (iC f_k3y [aI 1,aS 2] [.b] 4<|
.done [aB 4]) aF
def R_k40:R:= iC f_k3z [aI 0,aI 1,aS 2] [.b] 3 zRh
def R_k41:R:= .ite (aE (.len v4) v0) (iC f_k3t [aS 4,.fn f_k40 .nil] [.b] 5<|
.done [.vb (.not v5)]) aF
def R_k42:R:= iC f_k3h [aI 0,aS 1,aS 2,aS 3,aI 13] [.b] 14<|
.ite v14 (iC f_k23 [aI 9,aZ 0,aZ 200] [.b] 15<|
.ite v15 (iC f_k2j [aS 10] [.b] 16<|
.ite v16 (iC f_k2h [aI 0,aS 1,aS 2,aS 3,aS 10] [.s,.s] 17<|
 iC f_k3r [aS 4,aS 5,aS 6,aS 17,aS 18,aI 13,aS 11] [.b] 19<|
.ite v19 (iC f_k41 [aI 0,aS 1,aS 2,aS 3,aS 12] [.b] 20<|
.done [aB 20]) aF) aF) aF) aF
def R_k43:R:= iC f_k2l zEd [.b] 11<|
.ite v11 (iC f_k3g [aS 1] [.s,.s,.s] 12<|
 iC f_k42 [aI 0,aS 1,aS 2,aS 3,aS 12,aS 13,aS 14,aB 4,aB 5,aI 6,aS 7,aS 8,aS 9,aI 10] [.b] 15<|
.done [aB 15]) aF
def R_k44:R:= iC f_k23 [aI 4,aZ 0,.vi .i64 (.bin .sub .i64 v0 z1)] [.b] 5<|
.done [aB 5]
def R_k45:R:= iC f_k29 [aS 0,aZ 2,aZ 9] [.b] 1<|
.done [aB 1]
def R_k46:R:= iC f_k44 [aI 0,aS 1,aS 2,aS 3,aI 4] [.b] 8<|
.ite v8 (iC f_k23 [aI 6,aZ 0,.vi .i64 (.bin .sub .i64 (.len v1) z1)] [.b] 9<|
.ite v9 (iC f_k23 [aI 5,aZ 1,aZ 300] [.b] 10<|
.ite v10 (iC f_k45 [aS 7] [.b] 11<|
.done [aB 11]) aF) aF) aF
def R_k47:R:= iC f_k2l zEd [.b] 8<|
.ite v8 (iC f_k46 [aI 0,aS 1,aS 2,aS 3,aI 4,aI 5,aI 6,aS 7] [.b] 9<|
.done [aB 9]) aF
def R_k48:R:= iC f_k2o [aS 1] [.s] 2<|
.done [aI 0,aS 2]
def R_k49:R:= .loop 1 [.nil,.z 0]<|
.ite (aL v2 (.len v0)) (iX v0 v2 (.g zSe) 3<|
 iC f_k48 [aI 4,aS 5] [.i .i64,.s] 6<|
.i (.fl v7)<|
 iK (aM (.len (.app v1 (.cons (.g (.cons (aI 3) (.cons (aI 6) (.cons (aS 7) .nil)))) .nil))) (.z 1759218604441))<|
.next [.app v1 (.cons (.g (.cons (aI 3) (.cons (aI 6) (.cons (aS 7) .nil)))) .nil),aP 2]) zRg
def R_k4a:R:= iC f_k2o [aS 3] [.s] 6<|
 iC f_k2o [aS 4] [.s] 7<|
 iC f_k49 [aS 5] [.s] 8<|
.done [aB 0,aB 1,aI 2,aS 6,aS 7,aS 8]
def R_k4b:R:= iC f_k2o [aS 0] [.s] 2<|
.loop 3 [v2,.z 0]<|
.ite (aL v4 (.len v1)) (iX v1 v4 oI 5<|
 iK (aM aA v4)<|
 iK (aL v4 (.len v3))<|
 iX v3 v4 oI 6<|
 iK (aM aA v4)<|
 iK (aL v4 (.len v3))<|
 iX v3 v4 oI 7<|
.next [.set v3 v4 (.vi .i64 (.bin .add .i64 v6 v5)),aP 4])<|
.esc<|
.done [aS 3]
def R_k4c:R:= iC f_k3n [aS 0,aS 3] sI 5<|
 iC f_k3n [aS 1,aS 4] sI 6<|
.done [.vi .i64 (.bin .add .i64 (.bin .add .i64 v5 v6) v2)]
def R_k4d:R:= .loop 3 [.z 0,.z 0]<|
.ite (aL v4 (.len v1)) (iX v1 v4 oI 5<|
.ite (.not (aE v4 v2)) (.next [.bin .add .i64 v3 v5,aP 4])<|
.next [v3,aP 4])<|
.esc<|
.done [aI 3]
def R_k4e:R:= iC f_k3m [aS 0,aS 1,aS 2,aI 3,aS 4] [.b] 9<|
.ite (.not v9) (.done zEc)<|
 iC f_k2r [aS 5,aS 6,aI 7] [.b] 10<|
.ite (.not v10) (.done zEc)<|
 iC f_k45 [aS 8] [.b] 11<|
.ite (.not v11) (.done zEc)<|
 iC f_k4b [aS 0,aS 4] [.s] 12<|
 iC f_k4c [aS 5,aS 6,aI 7,aS 12,aS 8] sI 13<|
 iC f_k4d [aS 0,aS 1,aI 3] sI 14<|
 iC f_k35 [aS 5] [.b] 15<|
.ite v15 (.done [aI 13,aI 13,.vb .tt])<|
 iC f_k33 [aS 5,aS 6,aI 7] [.s] 16<|
 iC f_k38 [aS 2,aS 16] sI 17<|
.ite (aM aA v17) (.done [.vi .i64 (.bin .sub .i64 v13 v14),.vi .i64 (.bin .add .i64 v13 v14),.vb .tt])<|
.done zEc
def R_k4f:R:= .i (.get (.da 3) (.q [.s,.s]) 8)<|
.i (.get (.da 4) (.q [.s,.s,.s]) 10)<|
.i (.get (.da 5) (.q sI) 13)<|
.i (.get (.da 6) (.q [.s]) 14)<|
.i (.get (.da 7) (.q [.s]) 15)<|
 iC f_k4e [aS 8,aS 9,aS 11,aI 13,aS 14,aS 0,aS 1,aI 2,aS 15] [.i .i64,.i .i64,.b] 16<|
.ite (.not v18) aT<|
.done [.vb (aL v16 aA)]
def R_k4g:R:= .i (.get (.da 4) (.q [.d]) 5)<|
 iC f_k2t [aS 0,.da 5] [.b] 6<|
.done [.vb (.not v6)]
def R_k4h:R:= .loop 2 [.z 0]<|
.ite (aL v2 (.len v0)) (iX v0 v2 (.g [.s,.s,.s,.b]) 3<|
.i (.callv (.da 1) [aS 3,aS 4,aS 5,aB 6] [some 4] [.b] 7)<|
.ite v7 zRf<|
.next [aP 2])<|
.esc zRa
def R_k4i:R:= .loop 3 [.nil,.z 0]<|
.ite (aL v4 (.len v0)) (iX v0 v4 (.g zSa) 5<|
 iC f_k4c [aS 5,aS 6,aI 7,aS 1,aS 2] sI 8<|
 iK (aM (.len (.app v3 (.cons (aI 8) .nil))) (.z 8796093022208))<|
.next [.app v3 (.cons (aI 8) .nil),aP 4])<|
.esc<|
.done [aS 3]
def R_k4j:R:= iC f_k2g [aS 0] [.b] 7<|
.ite (.not v7) (.done zEj)<|
 iC f_k45 [aS 6] [.b] 8<|
.ite (.not v8) (.done zEj)<|
 iC f_k23 [aI 5,aZ 0,.vi .i64 (.bin .sub .i64 (.len v0) z1)] [.b] 9<|
.ite (.not v9) (.done zEj)<|
 iC f_k3g [aS 0] [.s,.s,.s] 10<|
 iC f_k3r [aS 10,aS 11,aS 12,aS 1,aS 2,aI 3,aS 4] [.b] 13<|
.ite (.not v13) (.done zEj)<|
 iC f_k2o [aS 4] [.s] 14<|
 iX v0 v5 (.one .s) 15<|
 iC f_k31 [aS 15] [.s] 16<|
 iC f_k4h [aS 16,.fn f_k4g (.cons (.q (.cons (.fn f_k4f (.cons (.q (.cons (aS 1) (.cons (aS 2) .nil))) (.cons (.q (.cons (aS 10) (.cons (aS 11) (.cons (aS 12) .nil)))) (.cons (.q (.cons (aI 3) .nil)) (.cons (.q (.cons (aS 4) .nil)) (.cons (.q (.cons (aS 6) .nil)) .nil)))))) .nil)) .nil)] sI 17<|
.ite (aL v17 aA) (.done zEi)<|
 iK (aM aA v17)<|
 iK (aL v17 (.len v16))<|
 iX v16 v17 (.g [.s,.s,.s,.b]) 18<|
.ite v21 (.done [aZ 2,.s .nil,aS 14,.vb .tt])<|
 iK (aM aA v17)<|
 iK (aL v17 (.len v16))<|
 iX v16 v17 (.g [.s,.s,.s,.b]) 22<|
 iC f_k4i [aS 23,aS 1,aS 6] [.s] 26<|
 iC f_k4b [aS 4,aS 26] [.s] 27<|
 iC f_k3q [aS 10,aS 11,aS 12,aS 26] [.b] 28<|
.ite (.not v28) (.done zEi)<|
 iC f_k3l [aS 27] [.b] 29<|
.ite (.not v29) (.done zEi)<|
.loop 30 [.ff,.ff,.z 0]<|
.ite (aL v32 (.z 3)) (iC f_k2n [aI 32] zSa 33<|
 iC f_k4e [aS 1,aS 2,aS 11,aI 3,aS 27,aS 33,aS 34,aI 35,aS 6] [.i .i64,.i .i64,.b] 36<|
.ite v30 (.ite v31 (.next [.tt,.tt,aP 32]) zRq)<|
.ite (aL (.z 10000) v36) (.ite v31 (.next [.tt,.tt,aP 32]) zRq)<|
.ite v31 (.next [aL v37 (.z (-10000)),.tt,aP 32])<|
.ite (aL v36 (.z (-10000))) (.next [aL v37 (.z (-10000)),.tt,aP 32])<|
.next [aL v37 (.z (-10000)),aL (.z 10000) v37,aP 32])<|
.esc<|
.ite v30 (.done [aZ 3,.s .nil,aS 14,.vb .tt])<|
.ite v31 (.done zEi)<|
 iC f_k3p [aS 1,aS 2,aS 11,aI 3,aS 27] [.b] 33<|
.ite (.not v33) (.done zEi)<|
 iK (aM aA v17)<|
 iK (aL v17 (.len v16))<|
 iX v16 v17 (.g [.s,.s,.s,.b]) 34<|
 iC f_k4i [aS 36,aS 1,aS 6] [.s] 38<|
.done [aZ 1,aS 38,aS 27,.vb .tt]
def R_k4k:R:= iC f_k2h [aI 6,aS 7,aS 8,aS 9,aS 3] [.s,.s] 15<|
 iC f_k4j [aS 7,aS 15,aS 16,aI 10,aS 4,aI 13,aS 14] zSc 17<|
.done [aI 17,aS 18,aS 19,aB 20,aB 0,aB 1,aI 2,aS 3,aS 4,aS 5]
def R_k4l:R:= iC f_k2h [aI 6,aS 7,aS 8,aS 9,aS 3] [.s,.s] 15<|
 iC f_k4j [aS 7,aS 15,aS 16,aI 10,aS 4,aI 13,aS 14] zSc 17<|
.done [aI 17,aS 18,aS 19,aB 20]
def R_k4m:R:= iC f_k2o [aS 3] [.s] 4<|
.done [aI 0,aI 1,aI 2,aS 4]
def R_k4n:R:= iK (aM aA v11)<|
 iK (aL v11 (.len v5))<|
 iX v5 v11 (.g zSe) 15<|
.ite (.not v0) (.done zEo)<|
 iK (.not (aE (.len v8) aA))<|
.ite (.not (aE (.bin .rem .i64 v11 (.len v8)) v10)) (.done zEo)<|
.ite (aE v12 v15) zRj<|
.ite (.not (aE v12 (aP 15))) (.done zEo)<|
.ite (.not v1) (iC f_k4l [aB 0,aB 1,aI 2,aS 3,aS 4,aS 5,aI 6,aS 7,aS 8,aS 9,aI 10,aI 11,aI 12,aI 13,aS 14] zSc 18<|
.i (.fl v19)<|
.i (.fl v20)<|
.ite v21 (iC f_k48 [aI 18,aS 19] [.i .i64,.s] 22<|
.i (.fl v23)<|
 iK (aM aA v11)<|
 iK (aL v11 (.len v5))<|
 iX v5 v11 (.g zSe) 24<|
.done [aI 18,aS 19,.s .nil,aB 0,aB 1,aI 2,aS 3,.s (.set v5 v11 (.g (.cons (aI 12) (.cons (aI 22) (.cons (aS 23) .nil))))),aS 20])<|
 iC f_k4m zEg zSg 22<|
.i (.fl v25)<|
.done [aZ 0,.s .nil,.s (.cons (.g (.cons (aZ 1) (.cons (aZ (-1)) (.cons (aZ 0) (.cons (aZ 0) (.cons (aI 22) (.cons (aI 23) (.cons (aI 24) (.cons (aS 25) (.cons (.s .nil) (.cons (.s .nil) (.cons (.s .nil) .nil)))))))))))) .nil),aB 0,aB 1,aI 2,aS 3,aS 5,aS 4])<|
 iC f_k4m zEg zSg 18<|
.i (.fl v21)<|
.done [aZ 0,.s .nil,.s (.cons (.g (.cons (aZ 1) (.cons (aZ (-1)) (.cons (aZ 0) (.cons (aZ 0) (.cons (aI 18) (.cons (aI 19) (.cons (aI 20) (.cons (aS 21) (.cons (.s .nil) (.cons (.s .nil) (.cons (.s .nil) .nil)))))))))))) .nil),aB 0,aB 1,aI 2,aS 3,aS 5,aS 4]
def R_k4o:R:= iX v5 v11 (.g zSe) 15<|
.ite (.not v0) (.done [aZ 0,.s .nil,.s .nil])<|
 iK (.not (aE (.len v8) aA))<|
.ite (.not (aE (.bin .rem .i64 v11 (.len v8)) v10)) (.done [aZ 0,.s .nil,.s .nil])<|
.ite (aE v12 v15) (iC f_k48 [aI 16,aS 17] [.i .i64,.s] 18<|
.i (.fl v19)<|
.done [aI 18,aS 19,.s .nil])<|
.ite (.not (aE v12 (aP 15))) (.done [aZ 0,.s .nil,.s .nil])<|
.ite (.not v1) zRj zRj
def R_k4p:R:= iC f_k43 [aI 0,aS 1,aS 2,aS 3,aB 4,aB 5,aI 6,aS 7,aS 8,aS 9,aI 10] [.b] 15<|
.ite (.not v15) (.done zEs)<|
 iC f_k47 [aI 0,aS 1,aS 2,aS 3,aI 11,aI 12,aI 13,aS 14] [.b] 16<|
.ite (.not v16) (.done zEs)<|
 iC f_k4a zEk zSf 17<|
 iX v9 v11 (.g zSe) 23<|
.ite (aE v12 v23) (iC f_k4o zEu zSb 26<|
.i (.fl v28)<|
.done [aB 17,aB 18,aI 19,aS 20,aS 21,aS 22,aI 26,aS 27,aS 28])<|
 iC f_k4n zEu [.i .i64,.s,.s,.b,.b,.i .i64,.s,.s,.s] 26<|
.done [aB 29,aB 30,aI 31,aS 32,aS 34,aS 33,aI 26,aS 27,aS 28]
def R_k4q:R:=Jo3
def R_k4r:R:= .ite (.not (aE v0 v2)) aF<|
 iC f_k4q [aS 1,aS 3] [.b] 4<|
.ite (.not v4) aF aT
def R_k4s:R:= .ite (.not (aE v0 v3)) aF<|
 iC f_k4r [aI 1,aS 2,aI 4,aS 5] [.b] 6<|
.ite (.not v6) aF aT
def R_k4t:R:= .ite (.not (aE (.len v0) (.len v1))) aF<|
.loop 2 [.z 0]<|
.ite (aL v2 (.len v0)) (iX v0 v2 (.g zSe) 3<|
 iX v1 v2 (.g zSe) 6<|
 iC f_k4s [aI 3,aI 4,aS 5,aI 6,aI 7,aS 8] [.b] 9<|
.ite (.not v9) (.esc zRc)<|
.next [aP 2])<|
.esc zRb
def R_k4u:R:= .ite (.not (.beq v0 v6)) aF<|
.ite (.not (.beq v1 v7)) aF<|
.ite (.not (aE v2 v8)) aF<|
 iC f_k4q [aS 3,aS 9] [.b] 12<|
.ite (.not v12) aF<|
 iC f_k4q [aS 4,aS 10] [.b] 13<|
.ite (.not v13) aF<|
 iC f_k4t [aS 5,aS 11] [.b] 14<|
.ite (.not v14) aF aT
def R_k4v:R:= .ite (.not (aE v0 v4)) aF<|
.ite (.not (aE v1 v5)) aF<|
.ite (.not (aE v2 v6)) aF<|
 iC f_k4q [aS 3,aS 7] [.b] 8<|
.ite (.not v8) aF aT
def R_k4w:R:= .ite (.not (aE v0 v11)) aF<|
.ite (.not (aE v1 v12)) aF<|
.ite (.not (aE v2 v13)) aF<|
.ite (.not (aE v3 v14)) aF<|
 iC f_k4v [aI 4,aI 5,aI 6,aS 7,aI 15,aI 16,aI 17,aS 18] [.b] 22<|
.ite (.not v22) aF<|
 iC f_k4q [aS 8,aS 19] [.b] 23<|
.ite (.not v23) aF<|
 iC f_k4q [aS 9,aS 20] [.b] 24<|
.ite (.not v24) aF<|
 iC f_k4t [aS 10,aS 21] [.b] 25<|
.ite (.not v25) aF aT
def R_k4x:R:= .ite (.not (aE (.len v0) (.len v1))) aF<|
.loop 2 [.z 0]<|
.ite (aL v2 (.len v0)) (iX v0 v2 (.g zSj) 3<|
 iX v1 v2 (.g zSj) 14<|
 iC f_k4w [aI 3,aI 4,aI 5,aI 6,aI 7,aI 8,aI 9,aS 10,aS 11,aS 12,aS 13,aI 14,aI 15,aI 16,aI 17,aI 18,aI 19,aI 20,aS 21,aS 22,aS 23,aS 24] [.b] 25<|
.ite (.not v25) (.esc zRc)<|
.next [aP 2])<|
.esc zRb
def R_k4y:R:= iC f_k4q [aS 0,aS 3] [.b] 6<|
.ite (.not v6) aF<|
 iC f_k4q [aS 1,aS 4] [.b] 7<|
.ite (.not v7) aF<|
.ite (.not (aE v2 v5)) aF aT
def R_k4z:R:= .ite (.not (aE v0 v6)) aF<|
.ite (.not (aE v1 v7)) aF<|
.ite (.not (aE v2 v8)) aF<|
 iC f_k4y [aS 3,aS 4,aI 5,aS 9,aS 10,aI 11] [.b] 12<|
.ite (.not v12) aF aT
def R_k50:R:= .ite (.not (aE (.len v0) (.len v1))) aF<|
.loop 2 [.z 0]<|
.ite (aL v2 (.len v0)) (iX v0 v2 (.g zSi) 3<|
 iX v1 v2 (.g zSi) 9<|
 iC f_k4z [aI 3,aI 4,aI 5,aS 6,aS 7,aI 8,aI 9,aI 10,aI 11,aS 12,aS 13,aI 14] [.b] 15<|
.ite (.not v15) (.esc zRc)<|
.next [aP 2])<|
.esc zRb
def R_k51:R:= .ite (.not (aE (.len v0) (.len v1))) aF<|
.loop 2 [.z 0]<|
.ite (aL v2 (.len v0)) (iX v0 v2 (.one .s) 3<|
 iX v1 v2 (.one .s) 4<|
 iC f_k50 [aS 3,aS 4] [.b] 5<|
.ite (.not v5) (.esc zRc)<|
.next [aP 2])<|
.esc zRb
def R_k52:R:= .ite (.not (aE v0 v4)) aF<|
 iC f_k51 [aS 1,aS 5] [.b] 8<|
.ite (.not v8) aF<|
 iC f_k4q [aS 2,aS 6] [.b] 9<|
.ite (.not v9) aF<|
 iC f_k4q [aS 3,aS 7] [.b] 10<|
.ite (.not v10) aF aT
def R_k53:R:= .loop 2 [v0,v1,.z 0]<|
.ite (aL v4 (.len v2)) (iK (aM aA v4)<|
 iK (aL v4 (.len v2))<|
 iX v2 v4 oI 5<|
.next [.set v2 v4 (aI 3),aP 3,aP 4]) zRk
def R_k54:R:= .loop 2 [v0,v1,.z 0]<|
.ite (aL v4 (.len v2)) (iK (aM aA v4)<|
 iK (aL v4 (.len v2))<|
 iX v2 v4 (.g zSi) 5<|
 iK (aM aA v4)<|
 iK (aL v4 (.len v2))<|
 iX (.set v2 v4 (.g (.cons (aI 3) (.cons (aI 6) (.cons (aI 7) (.cons (aS 8) (.cons (aS 9) (.cons (aI 10) .nil)))))))) v4 (.g zSi) 11<|
 iK (aM aA v4)<|
 iK (aL v4 (.len v2))<|
 iX (.set (.set v2 v4 (.g (.cons (aI 3) (.cons (aI 6) (.cons (aI 7) (.cons (aS 8) (.cons (aS 9) (.cons (aI 10) .nil)))))))) v4 (.g (.cons (aI 11) (.cons (.vi .i64 (aP 3)) (.cons (aI 13) (.cons (aS 14) (.cons (aS 15) (.cons (aI 16) .nil)))))))) v4 (.g zSi) 17<|
 iK (aM aA v4)<|
 iK (aL v4 (.len v2))<|
 iX (.set (.set (.set v2 v4 (.g (.cons (aI 3) (.cons (aI 6) (.cons (aI 7) (.cons (aS 8) (.cons (aS 9) (.cons (aI 10) .nil)))))))) v4 (.g (.cons (aI 11) (.cons (.vi .i64 (aP 3)) (.cons (aI 13) (.cons (aS 14) (.cons (aS 15) (.cons (aI 16) .nil)))))))) v4 (.g (.cons (aI 17) (.cons (aI 18) (.cons (.vi .i64 (.bin .add .i64 (aP 3) z1)) (.cons (aS 20) (.cons (aS 21) (.cons (aI 22) .nil)))))))) v4 (.g zSi) 23<|
 iC f_k53 [aS 26,.vi .i64 (.bin .add .i64 (.bin .add .i64 (aP 3) z1) z1)] [.i .i64,.s] 29<|
 iK (aE (.len v30) (.len v26))<|
 iK (aM aA v4)<|
 iK (aL v4 (.len v2))<|
 iX (.set (.set (.set (.set v2 v4 (.g (.cons (aI 3) (.cons (aI 6) (.cons (aI 7) (.cons (aS 8) (.cons (aS 9) (.cons (aI 10) .nil)))))))) v4 (.g (.cons (aI 11) (.cons (.vi .i64 (aP 3)) (.cons (aI 13) (.cons (aS 14) (.cons (aS 15) (.cons (aI 16) .nil)))))))) v4 (.g (.cons (aI 17) (.cons (aI 18) (.cons (.vi .i64 (.bin .add .i64 (aP 3) z1)) (.cons (aS 20) (.cons (aS 21) (.cons (aI 22) .nil)))))))) v4 (.g (.cons (aI 23) (.cons (aI 24) (.cons (aI 25) (.cons (aS 30) (.cons (aS 27) (.cons (aI 28) .nil)))))))) v4 (.g zSi) 31<|
 iC f_k53 [aS 35,aI 29] [.i .i64,.s] 37<|
 iK (aE (.len v38) (.len v35))<|
 iK (aM aA v4)<|
 iK (aL v4 (.len v2))<|
 iX (.set (.set (.set (.set (.set v2 v4 (.g (.cons (aI 3) (.cons (aI 6) (.cons (aI 7) (.cons (aS 8) (.cons (aS 9) (.cons (aI 10) .nil)))))))) v4 (.g (.cons (aI 11) (.cons (.vi .i64 (aP 3)) (.cons (aI 13) (.cons (aS 14) (.cons (aS 15) (.cons (aI 16) .nil)))))))) v4 (.g (.cons (aI 17) (.cons (aI 18) (.cons (.vi .i64 (.bin .add .i64 (aP 3) z1)) (.cons (aS 20) (.cons (aS 21) (.cons (aI 22) .nil)))))))) v4 (.g (.cons (aI 23) (.cons (aI 24) (.cons (aI 25) (.cons (aS 30) (.cons (aS 27) (.cons (aI 28) .nil)))))))) v4 (.g (.cons (aI 31) (.cons (aI 32) (.cons (aI 33) (.cons (aS 34) (.cons (aS 38) (.cons (aI 36) .nil)))))))) v4 (.g zSi) 39<|
.next [.set (.set (.set (.set (.set (.set v2 v4 (.g (.cons (aI 3) (.cons (aI 6) (.cons (aI 7) (.cons (aS 8) (.cons (aS 9) (.cons (aI 10) .nil)))))))) v4 (.g (.cons (aI 11) (.cons (.vi .i64 (aP 3)) (.cons (aI 13) (.cons (aS 14) (.cons (aS 15) (.cons (aI 16) .nil)))))))) v4 (.g (.cons (aI 17) (.cons (aI 18) (.cons (.vi .i64 (.bin .add .i64 (aP 3) z1)) (.cons (aS 20) (.cons (aS 21) (.cons (aI 22) .nil)))))))) v4 (.g (.cons (aI 23) (.cons (aI 24) (.cons (aI 25) (.cons (aS 30) (.cons (aS 27) (.cons (aI 28) .nil)))))))) v4 (.g (.cons (aI 31) (.cons (aI 32) (.cons (aI 33) (.cons (aS 34) (.cons (aS 38) (.cons (aI 36) .nil)))))))) v4 (.g (.cons (aI 39) (.cons (aI 40) (.cons (aI 41) (.cons (aS 42) (.cons (aS 43) (.cons (aI 37) .nil))))))),aP 37,aP 4]) zRk
def R_k55:R:= .loop 2 [v0,v1,.z 0]<|
.ite (aL v4 (.len v2)) (iK (aM aA v4)<|
 iK (aL v4 (.len v2))<|
 iX v2 v4 (.one .s) 5<|
 iC f_k54 [aS 5,aI 3] [.i .i64,.s] 6<|
 iK (aE (.len v7) (.len v5))<|
.next [.set v2 v4 (aS 7),v6,aP 4]) zRk
def R_k56:R:= iC f_k55 [aS 1,aI 4] [.i .i64,.s] 5<|
 iC f_k53 [aS 2,aI 5] [.i .i64,.s] 7<|
 iC f_k53 [aS 3,aI 7] [.i .i64,.s] 9<|
.done [aI 9,aS 6,aS 8,aS 10]
def R_k57:R:= .loop 2 [v0,v1,.z 0]<|
.ite (aL v4 (.len v2)) (iK (aM aA v4)<|
 iK (aL v4 (.len v2))<|
 iX v2 v4 (.g zSe) 5<|
 iK (aM aA v4)<|
 iK (aL v4 (.len v2))<|
 iX (.set v2 v4 (.g (.cons (aI 3) (.cons (aI 6) (.cons (aS 7) .nil))))) v4 (.g zSe) 8<|
 iK (aM aA v4)<|
 iK (aL v4 (.len v2))<|
 iX (.set (.set v2 v4 (.g (.cons (aI 3) (.cons (aI 6) (.cons (aS 7) .nil))))) v4 (.g (.cons (aI 8) (.cons (.vi .i64 (aP 3)) (.cons (aS 10) .nil))))) v4 (.g zSe) 11<|
 iC f_k53 [aS 13,.vi .i64 (.bin .add .i64 (aP 3) z1)] [.i .i64,.s] 14<|
 iK (aE (.len v15) (.len v13))<|
.next [.set (.set (.set v2 v4 (.g (.cons (aI 3) (.cons (aI 6) (.cons (aS 7) .nil))))) v4 (.g (.cons (aI 8) (.cons (.vi .i64 (aP 3)) (.cons (aS 10) .nil))))) v4 (.g (.cons (aI 11) (.cons (aI 12) (.cons (aS 15) .nil)))),v14,aP 4]) zRk
def R_k58:R:= iC f_k53 [aS 3,aI 6] [.i .i64,.s] 7<|
 iC f_k53 [aS 4,aI 7] [.i .i64,.s] 9<|
 iC f_k57 [aS 5,aI 9] [.i .i64,.s] 11<|
.done [aI 11,aS 8,aS 10,aS 12]
def R_k59:R:= iC f_k53 [aS 3,aI 4] [.i .i64,.s] 5<|
.done [aI 5,aS 6]
def R_k5a:R:= iC f_k53 [aS 1,aI 2] [.i .i64,.s] 3<|
.done [aI 3,aS 4]
def R_k5b:R:= .loop 2 [v0,v1,.z 0]<|
.ite (aL v4 (.len v2)) (iK (aM aA v4)<|
 iK (aL v4 (.len v2))<|
 iX v2 v4 (.g zSj) 5<|
 iK (aM aA v4)<|
 iK (aL v4 (.len v2))<|
 iX (.set v2 v4 (.g (.cons (aI 3) (.cons (aI 6) (.cons (aI 7) (.cons (aI 8) (.cons (aI 9) (.cons (aI 10) (.cons (aI 11) (.cons (aS 12) (.cons (aS 13) (.cons (aS 14) (.cons (aS 15) .nil))))))))))))) v4 (.g zSj) 16<|
 iK (aM aA v4)<|
 iK (aL v4 (.len v2))<|
 iX (.set (.set v2 v4 (.g (.cons (aI 3) (.cons (aI 6) (.cons (aI 7) (.cons (aI 8) (.cons (aI 9) (.cons (aI 10) (.cons (aI 11) (.cons (aS 12) (.cons (aS 13) (.cons (aS 14) (.cons (aS 15) .nil))))))))))))) v4 (.g (.cons (aI 16) (.cons (.vi .i64 (aP 3)) (.cons (aI 18) (.cons (aI 19) (.cons (aI 20) (.cons (aI 21) (.cons (aI 22) (.cons (aS 23) (.cons (aS 24) (.cons (aS 25) (.cons (aS 26) .nil))))))))))))) v4 (.g zSj) 27<|
 iK (aM aA v4)<|
 iK (aL v4 (.len v2))<|
 iX (.set (.set (.set v2 v4 (.g (.cons (aI 3) (.cons (aI 6) (.cons (aI 7) (.cons (aI 8) (.cons (aI 9) (.cons (aI 10) (.cons (aI 11) (.cons (aS 12) (.cons (aS 13) (.cons (aS 14) (.cons (aS 15) .nil))))))))))))) v4 (.g (.cons (aI 16) (.cons (.vi .i64 (aP 3)) (.cons (aI 18) (.cons (aI 19) (.cons (aI 20) (.cons (aI 21) (.cons (aI 22) (.cons (aS 23) (.cons (aS 24) (.cons (aS 25) (.cons (aS 26) .nil))))))))))))) v4 (.g (.cons (aI 27) (.cons (aI 28) (.cons (.vi .i64 (.bin .add .i64 (aP 3) z1)) (.cons (aI 30) (.cons (aI 31) (.cons (aI 32) (.cons (aI 33) (.cons (aS 34) (.cons (aS 35) (.cons (aS 36) (.cons (aS 37) .nil))))))))))))) v4 (.g zSj) 38<|
 iK (aM aA v4)<|
 iK (aL v4 (.len v2))<|
 iX (.set (.set (.set (.set v2 v4 (.g (.cons (aI 3) (.cons (aI 6) (.cons (aI 7) (.cons (aI 8) (.cons (aI 9) (.cons (aI 10) (.cons (aI 11) (.cons (aS 12) (.cons (aS 13) (.cons (aS 14) (.cons (aS 15) .nil))))))))))))) v4 (.g (.cons (aI 16) (.cons (.vi .i64 (aP 3)) (.cons (aI 18) (.cons (aI 19) (.cons (aI 20) (.cons (aI 21) (.cons (aI 22) (.cons (aS 23) (.cons (aS 24) (.cons (aS 25) (.cons (aS 26) .nil))))))))))))) v4 (.g (.cons (aI 27) (.cons (aI 28) (.cons (.vi .i64 (.bin .add .i64 (aP 3) z1)) (.cons (aI 30) (.cons (aI 31) (.cons (aI 32) (.cons (aI 33) (.cons (aS 34) (.cons (aS 35) (.cons (aS 36) (.cons (aS 37) .nil))))))))))))) v4 (.g (.cons (aI 38) (.cons (aI 39) (.cons (aI 40) (.cons (.vi .i64 (.bin .add .i64 (.bin .add .i64 (aP 3) z1) z1)) (.cons (aI 42) (.cons (aI 43) (.cons (aI 44) (.cons (aS 45) (.cons (aS 46) (.cons (aS 47) (.cons (aS 48) .nil))))))))))))) v4 (.g zSj) 49<|
 iK (aM aA v4)<|
 iK (aL v4 (.len v2))<|
 iX (.set (.set (.set (.set (.set v2 v4 (.g (.cons (aI 3) (.cons (aI 6) (.cons (aI 7) (.cons (aI 8) (.cons (aI 9) (.cons (aI 10) (.cons (aI 11) (.cons (aS 12) (.cons (aS 13) (.cons (aS 14) (.cons (aS 15) .nil))))))))))))) v4 (.g (.cons (aI 16) (.cons (.vi .i64 (aP 3)) (.cons (aI 18) (.cons (aI 19) (.cons (aI 20) (.cons (aI 21) (.cons (aI 22) (.cons (aS 23) (.cons (aS 24) (.cons (aS 25) (.cons (aS 26) .nil))))))))))))) v4 (.g (.cons (aI 27) (.cons (aI 28) (.cons (.vi .i64 (.bin .add .i64 (aP 3) z1)) (.cons (aI 30) (.cons (aI 31) (.cons (aI 32) (.cons (aI 33) (.cons (aS 34) (.cons (aS 35) (.cons (aS 36) (.cons (aS 37) .nil))))))))))))) v4 (.g (.cons (aI 38) (.cons (aI 39) (.cons (aI 40) (.cons (.vi .i64 (.bin .add .i64 (.bin .add .i64 (aP 3) z1) z1)) (.cons (aI 42) (.cons (aI 43) (.cons (aI 44) (.cons (aS 45) (.cons (aS 46) (.cons (aS 47) (.cons (aS 48) .nil))))))))))))) v4 (.g (.cons (aI 49) (.cons (aI 50) (.cons (aI 51) (.cons (aI 52) (.cons (.vi .i64 (.bin .add .i64 (.bin .add .i64 (.bin .add .i64 (aP 3) z1) z1) z1)) (.cons (aI 54) (.cons (aI 55) (.cons (aS 56) (.cons (aS 57) (.cons (aS 58) (.cons (aS 59) .nil))))))))))))) v4 (.g zSj) 60<|
 iK (aM aA v4)<|
 iK (aL v4 (.len v2))<|
 iX (.set (.set (.set (.set (.set (.set v2 v4 (.g (.cons (aI 3) (.cons (aI 6) (.cons (aI 7) (.cons (aI 8) (.cons (aI 9) (.cons (aI 10) (.cons (aI 11) (.cons (aS 12) (.cons (aS 13) (.cons (aS 14) (.cons (aS 15) .nil))))))))))))) v4 (.g (.cons (aI 16) (.cons (.vi .i64 (aP 3)) (.cons (aI 18) (.cons (aI 19) (.cons (aI 20) (.cons (aI 21) (.cons (aI 22) (.cons (aS 23) (.cons (aS 24) (.cons (aS 25) (.cons (aS 26) .nil))))))))))))) v4 (.g (.cons (aI 27) (.cons (aI 28) (.cons (.vi .i64 (.bin .add .i64 (aP 3) z1)) (.cons (aI 30) (.cons (aI 31) (.cons (aI 32) (.cons (aI 33) (.cons (aS 34) (.cons (aS 35) (.cons (aS 36) (.cons (aS 37) .nil))))))))))))) v4 (.g (.cons (aI 38) (.cons (aI 39) (.cons (aI 40) (.cons (.vi .i64 (.bin .add .i64 (.bin .add .i64 (aP 3) z1) z1)) (.cons (aI 42) (.cons (aI 43) (.cons (aI 44) (.cons (aS 45) (.cons (aS 46) (.cons (aS 47) (.cons (aS 48) .nil))))))))))))) v4 (.g (.cons (aI 49) (.cons (aI 50) (.cons (aI 51) (.cons (aI 52) (.cons (.vi .i64 (.bin .add .i64 (.bin .add .i64 (.bin .add .i64 (aP 3) z1) z1) z1)) (.cons (aI 54) (.cons (aI 55) (.cons (aS 56) (.cons (aS 57) (.cons (aS 58) (.cons (aS 59) .nil))))))))))))) v4 (.g (.cons (aI 60) (.cons (aI 61) (.cons (aI 62) (.cons (aI 63) (.cons (aI 64) (.cons (.vi .i64 (.bin .add .i64 (.bin .add .i64 (.bin .add .i64 (.bin .add .i64 (aP 3) z1) z1) z1) z1)) (.cons (aI 66) (.cons (aS 67) (.cons (aS 68) (.cons (aS 69) (.cons (aS 70) .nil))))))))))))) v4 (.g zSj) 71<|
 iK (aM aA v4)<|
 iK (aL v4 (.len v2))<|
 iX (.set (.set (.set (.set (.set (.set (.set v2 v4 (.g (.cons (aI 3) (.cons (aI 6) (.cons (aI 7) (.cons (aI 8) (.cons (aI 9) (.cons (aI 10) (.cons (aI 11) (.cons (aS 12) (.cons (aS 13) (.cons (aS 14) (.cons (aS 15) .nil))))))))))))) v4 (.g (.cons (aI 16) (.cons (.vi .i64 (aP 3)) (.cons (aI 18) (.cons (aI 19) (.cons (aI 20) (.cons (aI 21) (.cons (aI 22) (.cons (aS 23) (.cons (aS 24) (.cons (aS 25) (.cons (aS 26) .nil))))))))))))) v4 (.g (.cons (aI 27) (.cons (aI 28) (.cons (.vi .i64 (.bin .add .i64 (aP 3) z1)) (.cons (aI 30) (.cons (aI 31) (.cons (aI 32) (.cons (aI 33) (.cons (aS 34) (.cons (aS 35) (.cons (aS 36) (.cons (aS 37) .nil))))))))))))) v4 (.g (.cons (aI 38) (.cons (aI 39) (.cons (aI 40) (.cons (.vi .i64 (.bin .add .i64 (.bin .add .i64 (aP 3) z1) z1)) (.cons (aI 42) (.cons (aI 43) (.cons (aI 44) (.cons (aS 45) (.cons (aS 46) (.cons (aS 47) (.cons (aS 48) .nil))))))))))))) v4 (.g (.cons (aI 49) (.cons (aI 50) (.cons (aI 51) (.cons (aI 52) (.cons (.vi .i64 (.bin .add .i64 (.bin .add .i64 (.bin .add .i64 (aP 3) z1) z1) z1)) (.cons (aI 54) (.cons (aI 55) (.cons (aS 56) (.cons (aS 57) (.cons (aS 58) (.cons (aS 59) .nil))))))))))))) v4 (.g (.cons (aI 60) (.cons (aI 61) (.cons (aI 62) (.cons (aI 63) (.cons (aI 64) (.cons (.vi .i64 (.bin .add .i64 (.bin .add .i64 (.bin .add .i64 (.bin .add .i64 (aP 3) z1) z1) z1) z1)) (.cons (aI 66) (.cons (aS 67) (.cons (aS 68) (.cons (aS 69) (.cons (aS 70) .nil))))))))))))) v4 (.g (.cons (aI 71) (.cons (aI 72) (.cons (aI 73) (.cons (aI 74) (.cons (aI 75) (.cons (aI 76) (.cons (.vi .i64 (.bin .add .i64 (.bin .add .i64 (.bin .add .i64 (.bin .add .i64 (.bin .add .i64 (aP 3) z1) z1) z1) z1) z1)) (.cons (aS 78) (.cons (aS 79) (.cons (aS 80) (.cons (aS 81) .nil))))))))))))) v4 (.g zSj) 82<|
 iC f_k53 [aS 89,.vi .i64 (.bin .add .i64 (.bin .add .i64 (.bin .add .i64 (.bin .add .i64 (.bin .add .i64 (.bin .add .i64 (aP 3) z1) z1) z1) z1) z1) z1)] [.i .i64,.s] 93<|
 iK (aE (.len v94) (.len v89))<|
 iK (aM aA v4)<|
 iK (aL v4 (.len v2))<|
 iX (.set (.set (.set (.set (.set (.set (.set (.set v2 v4 (.g (.cons (aI 3) (.cons (aI 6) (.cons (aI 7) (.cons (aI 8) (.cons (aI 9) (.cons (aI 10) (.cons (aI 11) (.cons (aS 12) (.cons (aS 13) (.cons (aS 14) (.cons (aS 15) .nil))))))))))))) v4 (.g (.cons (aI 16) (.cons (.vi .i64 (aP 3)) (.cons (aI 18) (.cons (aI 19) (.cons (aI 20) (.cons (aI 21) (.cons (aI 22) (.cons (aS 23) (.cons (aS 24) (.cons (aS 25) (.cons (aS 26) .nil))))))))))))) v4 (.g (.cons (aI 27) (.cons (aI 28) (.cons (.vi .i64 (.bin .add .i64 (aP 3) z1)) (.cons (aI 30) (.cons (aI 31) (.cons (aI 32) (.cons (aI 33) (.cons (aS 34) (.cons (aS 35) (.cons (aS 36) (.cons (aS 37) .nil))))))))))))) v4 (.g (.cons (aI 38) (.cons (aI 39) (.cons (aI 40) (.cons (.vi .i64 (.bin .add .i64 (.bin .add .i64 (aP 3) z1) z1)) (.cons (aI 42) (.cons (aI 43) (.cons (aI 44) (.cons (aS 45) (.cons (aS 46) (.cons (aS 47) (.cons (aS 48) .nil))))))))))))) v4 (.g (.cons (aI 49) (.cons (aI 50) (.cons (aI 51) (.cons (aI 52) (.cons (.vi .i64 (.bin .add .i64 (.bin .add .i64 (.bin .add .i64 (aP 3) z1) z1) z1)) (.cons (aI 54) (.cons (aI 55) (.cons (aS 56) (.cons (aS 57) (.cons (aS 58) (.cons (aS 59) .nil))))))))))))) v4 (.g (.cons (aI 60) (.cons (aI 61) (.cons (aI 62) (.cons (aI 63) (.cons (aI 64) (.cons (.vi .i64 (.bin .add .i64 (.bin .add .i64 (.bin .add .i64 (.bin .add .i64 (aP 3) z1) z1) z1) z1)) (.cons (aI 66) (.cons (aS 67) (.cons (aS 68) (.cons (aS 69) (.cons (aS 70) .nil))))))))))))) v4 (.g (.cons (aI 71) (.cons (aI 72) (.cons (aI 73) (.cons (aI 74) (.cons (aI 75) (.cons (aI 76) (.cons (.vi .i64 (.bin .add .i64 (.bin .add .i64 (.bin .add .i64 (.bin .add .i64 (.bin .add .i64 (aP 3) z1) z1) z1) z1) z1)) (.cons (aS 78) (.cons (aS 79) (.cons (aS 80) (.cons (aS 81) .nil))))))))))))) v4 (.g (.cons (aI 82) (.cons (aI 83) (.cons (aI 84) (.cons (aI 85) (.cons (aI 86) (.cons (aI 87) (.cons (aI 88) (.cons (aS 94) (.cons (aS 90) (.cons (aS 91) (.cons (aS 92) .nil))))))))))))) v4 (.g zSj) 95<|
 iC f_k53 [aS 103,aI 93] [.i .i64,.s] 106<|
 iK (aE (.len Jpn) (.len Jo9))<|
 iK (aM aA v4)<|
 iK (aL v4 (.len v2))<|
 iX (.set (.set (.set (.set (.set (.set (.set (.set (.set v2 v4 (.g (.cons (aI 3) (.cons (aI 6) (.cons (aI 7) (.cons (aI 8) (.cons (aI 9) (.cons (aI 10) (.cons (aI 11) (.cons (aS 12) (.cons (aS 13) (.cons (aS 14) (.cons (aS 15) .nil))))))))))))) v4 (.g (.cons (aI 16) (.cons (.vi .i64 (aP 3)) (.cons (aI 18) (.cons (aI 19) (.cons (aI 20) (.cons (aI 21) (.cons (aI 22) (.cons (aS 23) (.cons (aS 24) (.cons (aS 25) (.cons (aS 26) .nil))))))))))))) v4 (.g (.cons (aI 27) (.cons (aI 28) (.cons (.vi .i64 (.bin .add .i64 (aP 3) z1)) (.cons (aI 30) (.cons (aI 31) (.cons (aI 32) (.cons (aI 33) (.cons (aS 34) (.cons (aS 35) (.cons (aS 36) (.cons (aS 37) .nil))))))))))))) v4 (.g (.cons (aI 38) (.cons (aI 39) (.cons (aI 40) (.cons (.vi .i64 (.bin .add .i64 (.bin .add .i64 (aP 3) z1) z1)) (.cons (aI 42) (.cons (aI 43) (.cons (aI 44) (.cons (aS 45) (.cons (aS 46) (.cons (aS 47) (.cons (aS 48) .nil))))))))))))) v4 (.g (.cons (aI 49) (.cons (aI 50) (.cons (aI 51) (.cons (aI 52) (.cons (.vi .i64 (.bin .add .i64 (.bin .add .i64 (.bin .add .i64 (aP 3) z1) z1) z1)) (.cons (aI 54) (.cons (aI 55) (.cons (aS 56) (.cons (aS 57) (.cons (aS 58) (.cons (aS 59) .nil))))))))))))) v4 (.g (.cons (aI 60) (.cons (aI 61) (.cons (aI 62) (.cons (aI 63) (.cons (aI 64) (.cons (.vi .i64 (.bin .add .i64 (.bin .add .i64 (.bin .add .i64 (.bin .add .i64 (aP 3) z1) z1) z1) z1)) (.cons (aI 66) (.cons (aS 67) (.cons (aS 68) (.cons (aS 69) (.cons (aS 70) .nil))))))))))))) v4 (.g (.cons (aI 71) (.cons (aI 72) (.cons (aI 73) (.cons (aI 74) (.cons (aI 75) (.cons (aI 76) (.cons (.vi .i64 (.bin .add .i64 (.bin .add .i64 (.bin .add .i64 (.bin .add .i64 (.bin .add .i64 (aP 3) z1) z1) z1) z1) z1)) (.cons (aS 78) (.cons (aS 79) (.cons (aS 80) (.cons (aS 81) .nil))))))))))))) v4 (.g (.cons (aI 82) (.cons (aI 83) (.cons (aI 84) (.cons (aI 85) (.cons (aI 86) (.cons (aI 87) (.cons (aI 88) (.cons (aS 94) (.cons (aS 90) (.cons (aS 91) (.cons (aS 92) .nil))))))))))))) v4 (.g (.cons (aI 95) (.cons (aI 96) (.cons (aI 97) (.cons (aI 98) (.cons (aI 99) (.cons (aI 100) (.cons (aI 101) (.cons (aS 102) (.cons (aS 107) (.cons (aS 104) (.cons (aS 105) .nil))))))))))))) v4 (.g zSj) 108<|
 iC f_k53 [aS 117,aI 106] [.i .i64,.s] 119<|
 iK (aE (.len v120) (.len v117))<|
 iK (aM aA v4)<|
 iK (aL v4 (.len v2))<|
 iX (.set (.set (.set (.set (.set (.set (.set (.set (.set (.set v2 v4 (.g (.cons (aI 3) (.cons (aI 6) (.cons (aI 7) (.cons (aI 8) (.cons (aI 9) (.cons (aI 10) (.cons (aI 11) (.cons (aS 12) (.cons (aS 13) (.cons (aS 14) (.cons (aS 15) .nil))))))))))))) v4 (.g (.cons (aI 16) (.cons (.vi .i64 (aP 3)) (.cons (aI 18) (.cons (aI 19) (.cons (aI 20) (.cons (aI 21) (.cons (aI 22) (.cons (aS 23) (.cons (aS 24) (.cons (aS 25) (.cons (aS 26) .nil))))))))))))) v4 (.g (.cons (aI 27) (.cons (aI 28) (.cons (.vi .i64 (.bin .add .i64 (aP 3) z1)) (.cons (aI 30) (.cons (aI 31) (.cons (aI 32) (.cons (aI 33) (.cons (aS 34) (.cons (aS 35) (.cons (aS 36) (.cons (aS 37) .nil))))))))))))) v4 (.g (.cons (aI 38) (.cons (aI 39) (.cons (aI 40) (.cons (.vi .i64 (.bin .add .i64 (.bin .add .i64 (aP 3) z1) z1)) (.cons (aI 42) (.cons (aI 43) (.cons (aI 44) (.cons (aS 45) (.cons (aS 46) (.cons (aS 47) (.cons (aS 48) .nil))))))))))))) v4 (.g (.cons (aI 49) (.cons (aI 50) (.cons (aI 51) (.cons (aI 52) (.cons (.vi .i64 (.bin .add .i64 (.bin .add .i64 (.bin .add .i64 (aP 3) z1) z1) z1)) (.cons (aI 54) (.cons (aI 55) (.cons (aS 56) (.cons (aS 57) (.cons (aS 58) (.cons (aS 59) .nil))))))))))))) v4 (.g (.cons (aI 60) (.cons (aI 61) (.cons (aI 62) (.cons (aI 63) (.cons (aI 64) (.cons (.vi .i64 (.bin .add .i64 (.bin .add .i64 (.bin .add .i64 (.bin .add .i64 (aP 3) z1) z1) z1) z1)) (.cons (aI 66) (.cons (aS 67) (.cons (aS 68) (.cons (aS 69) (.cons (aS 70) .nil))))))))))))) v4 (.g (.cons (aI 71) (.cons (aI 72) (.cons (aI 73) (.cons (aI 74) (.cons (aI 75) (.cons (aI 76) (.cons (.vi .i64 (.bin .add .i64 (.bin .add .i64 (.bin .add .i64 (.bin .add .i64 (.bin .add .i64 (aP 3) z1) z1) z1) z1) z1)) (.cons (aS 78) (.cons (aS 79) (.cons (aS 80) (.cons (aS 81) .nil))))))))))))) v4 (.g (.cons (aI 82) (.cons (aI 83) (.cons (aI 84) (.cons (aI 85) (.cons (aI 86) (.cons (aI 87) (.cons (aI 88) (.cons (aS 94) (.cons (aS 90) (.cons (aS 91) (.cons (aS 92) .nil))))))))))))) v4 (.g (.cons (aI 95) (.cons (aI 96) (.cons (aI 97) (.cons (aI 98) (.cons (aI 99) (.cons (aI 100) (.cons (aI 101) (.cons (aS 102) (.cons (aS 107) (.cons (aS 104) (.cons (aS 105) .nil))))))))))))) v4 (.g (.cons (aI 108) (.cons (aI 109) (.cons (aI 110) (.cons (aI 111) (.cons (aI 112) (.cons (aI 113) (.cons (aI 114) (.cons (aS 115) (.cons (aS 116) (.cons (aS 120) (.cons (aS 118) .nil))))))))))))) v4 (.g zSj) 121<|
 iC f_k57 [aS 131,aI 119] [.i .i64,.s] 132<|
 iK (aE (.len v133) (.len v131))<|
.next [.set (.set (.set (.set (.set (.set (.set (.set (.set (.set (.set v2 v4 (.g (.cons (aI 3) (.cons (aI 6) (.cons (aI 7) (.cons (aI 8) (.cons (aI 9) (.cons (aI 10) (.cons (aI 11) (.cons (aS 12) (.cons (aS 13) (.cons (aS 14) (.cons (aS 15) .nil))))))))))))) v4 (.g (.cons (aI 16) (.cons (.vi .i64 (aP 3)) (.cons (aI 18) (.cons (aI 19) (.cons (aI 20) (.cons (aI 21) (.cons (aI 22) (.cons (aS 23) (.cons (aS 24) (.cons (aS 25) (.cons (aS 26) .nil))))))))))))) v4 (.g (.cons (aI 27) (.cons (aI 28) (.cons (.vi .i64 (.bin .add .i64 (aP 3) z1)) (.cons (aI 30) (.cons (aI 31) (.cons (aI 32) (.cons (aI 33) (.cons (aS 34) (.cons (aS 35) (.cons (aS 36) (.cons (aS 37) .nil))))))))))))) v4 (.g (.cons (aI 38) (.cons (aI 39) (.cons (aI 40) (.cons (.vi .i64 (.bin .add .i64 (.bin .add .i64 (aP 3) z1) z1)) (.cons (aI 42) (.cons (aI 43) (.cons (aI 44) (.cons (aS 45) (.cons (aS 46) (.cons (aS 47) (.cons (aS 48) .nil))))))))))))) v4 (.g (.cons (aI 49) (.cons (aI 50) (.cons (aI 51) (.cons (aI 52) (.cons (.vi .i64 (.bin .add .i64 (.bin .add .i64 (.bin .add .i64 (aP 3) z1) z1) z1)) (.cons (aI 54) (.cons (aI 55) (.cons (aS 56) (.cons (aS 57) (.cons (aS 58) (.cons (aS 59) .nil))))))))))))) v4 (.g (.cons (aI 60) (.cons (aI 61) (.cons (aI 62) (.cons (aI 63) (.cons (aI 64) (.cons (.vi .i64 (.bin .add .i64 (.bin .add .i64 (.bin .add .i64 (.bin .add .i64 (aP 3) z1) z1) z1) z1)) (.cons (aI 66) (.cons (aS 67) (.cons (aS 68) (.cons (aS 69) (.cons (aS 70) .nil))))))))))))) v4 (.g (.cons (aI 71) (.cons (aI 72) (.cons (aI 73) (.cons (aI 74) (.cons (aI 75) (.cons (aI 76) (.cons (.vi .i64 (.bin .add .i64 (.bin .add .i64 (.bin .add .i64 (.bin .add .i64 (.bin .add .i64 (aP 3) z1) z1) z1) z1) z1)) (.cons (aS 78) (.cons (aS 79) (.cons (aS 80) (.cons (aS 81) .nil))))))))))))) v4 (.g (.cons (aI 82) (.cons (aI 83) (.cons (aI 84) (.cons (aI 85) (.cons (aI 86) (.cons (aI 87) (.cons (aI 88) (.cons (aS 94) (.cons (aS 90) (.cons (aS 91) (.cons (aS 92) .nil))))))))))))) v4 (.g (.cons (aI 95) (.cons (aI 96) (.cons (aI 97) (.cons (aI 98) (.cons (aI 99) (.cons (aI 100) (.cons (aI 101) (.cons (aS 102) (.cons (aS 107) (.cons (aS 104) (.cons (aS 105) .nil))))))))))))) v4 (.g (.cons (aI 108) (.cons (aI 109) (.cons (aI 110) (.cons (aI 111) (.cons (aI 112) (.cons (aI 113) (.cons (aI 114) (.cons (aS 115) (.cons (aS 116) (.cons (aS 120) (.cons (aS 118) .nil))))))))))))) v4 (.g (.cons (aI 121) (.cons (aI 122) (.cons (aI 123) (.cons (aI 124) (.cons (aI 125) (.cons (aI 126) (.cons (aI 127) (.cons (aS 128) (.cons (aS 129) (.cons (aS 130) (.cons (aS 133) .nil)))))))))))),v132,aP 4]) zRk
def R_k5c:R:= .loop 2 [v1,.z 0]<|
.ite (aL v3 (.len v0)) (iX v0 v3 oI 4<|
.ite (.not (aE v4 v2)) (.esc zRa)<|
.next [aP 2,aP 3]) zRf
def R_k5d:R:= .loop 2 [v1,.z 0]<|
.ite (aL v3 (.len v0)) (iX v0 v3 (.g zSe) 4<|
.ite (.not (aE v4 v2)) (.esc zRa)<|
 iX v0 v3 (.g zSe) 7<|
.ite (.not (aE v8 (aP 2))) (.esc zRa)<|
 iX v0 v3 (.g zSe) 10<|
 iC f_k5c [aS 12,.vi .i64 (.bin .add .i64 (aP 2) z1)] sI 13<|
.ite (aL v13 aA) (.esc zRa)<|
.next [v13,aP 3]) zRf
def R_k5e:R:= iC f_k5c [aS 3,aI 6] sI 7<|
.ite (aL v7 aA) zRa<|
 iC f_k5c [aS 4,aI 7] sI 8<|
.ite (aL v8 aA) zRa<|
 iC f_k5d [aS 5,aI 8] sI 9<|
.ite (aL v9 aA) zRa<|
.done [aI 9]
def R_k5f:R:= iC f_k5c [aS 1,aI 2] sI 3<|
.ite (aL v3 aA) zRa<|
.done [aI 3]
def R_k5g:R:= .loop 2 [v1,.z 0]<|
.ite (aL v3 (.len v0)) (iX v0 v3 (.g zSj) 4<|
.ite (.not (aE v4 v2)) (.esc zRa)<|
 iX v0 v3 (.g zSj) 15<|
.ite (.not (aE v16 (aP 2))) (.esc zRa)<|
 iX v0 v3 (.g zSj) 26<|
.ite (.not (aE v28 (.bin .add .i64 (aP 2) z1))) (.esc zRa)<|
 iX v0 v3 (.g zSj) 37<|
.ite (.not (aE v40 (.bin .add .i64 (.bin .add .i64 (aP 2) z1) z1))) (.esc zRa)<|
 iX v0 v3 (.g zSj) 48<|
.ite (.not (aE v52 (.bin .add .i64 (.bin .add .i64 (.bin .add .i64 (aP 2) z1) z1) z1))) (.esc zRa)<|
 iX v0 v3 (.g zSj) 59<|
.ite (.not (aE v64 (.bin .add .i64 (.bin .add .i64 (.bin .add .i64 (.bin .add .i64 (aP 2) z1) z1) z1) z1))) (.esc zRa)<|
 iX v0 v3 (.g zSj) 70<|
.ite (.not (aE v76 (.bin .add .i64 (.bin .add .i64 (.bin .add .i64 (.bin .add .i64 (.bin .add .i64 (aP 2) z1) z1) z1) z1) z1))) (.esc zRa)<|
 iX v0 v3 (.g zSj) 81<|
 iC f_k5c [aS 88,.vi .i64 (.bin .add .i64 (.bin .add .i64 (.bin .add .i64 (.bin .add .i64 (.bin .add .i64 (.bin .add .i64 (aP 2) z1) z1) z1) z1) z1) z1)] sI 92<|
.ite (aL v92 aA) (.esc zRa)<|
 iX v0 v3 (.g zSj) 93<|
 iC f_k5c [aS 101,aI 92] sI 104<|
.ite (aL Jph aA) (.esc zRa)<|
 iX v0 v3 (.g zSj) 105<|
 iC f_k5c [aS 114,aI 104] sI 116<|
.ite (aL v116 aA) (.esc zRa)<|
 iX v0 v3 (.g zSj) 117<|
 iC f_k5d [aS 127,aI 116] sI 128<|
.ite (aL v128 aA) (.esc zRa)<|
.next [v128,aP 3]) zRf
def R_k5h:R:= iC f_k5 [aI 0,aS 1,aS 2,aS 3,aZ 1048576] sI 15<|
.ite (aL v15 aA) aT<|
 iC f_k9 [aB 4,aB 5,aI 6,aS 7,aS 8,aS 9,aI 15] sI 16<|
.ite (aL v16 aA) aT<|
 iC f_ka [aI 11,aI 12,aI 13,aS 14,aI 16] sI 17<|
.ite (aL v17 aA) aT<|
 iC f_kg zEd zSd 18<|
 iC f_kk zEk zSf 22<|
 iC f_kl zEg zSg 28<|
 iC f_k22 [aI 18,aS 19,aS 20,aS 21,aB 22,aB 23,aI 24,aS 25,aS 26,aS 27,aI 10,aI 28,aI 29,aI 30,aS 31] zSh 32<|
 iC f_kg zEd zSd 41<|
 iC f_kk zEk zSf 45<|
 iC f_kl zEg zSg 51<|
 iC f_k4p [aI 41,aS 42,aS 43,aS 44,aB 45,aB 46,aI 47,aS 48,aS 49,aS 50,aI 10,aI 51,aI 52,aI 53,aS 54] zSh 55<|
.i (.fl v58)<|
.i (.fl v59)<|
 iC f_k4u zEt [.b] 64<|
.ite (.not v64) aF<|
 iC f_k4r [aI 61,aS 62,aI 38,aS 39] [.b] 65<|
.ite (.not v65) aF<|
 iC f_k4x [aS 63,aS 40] [.b] 66<|
.ite (.not v66) aF<|
 iC f_kg zEd zSd 67<|
 iC f_k52 [aI 41,aS 42,aS 43,aS 44,aI 67,aS 68,aS 69,aS 70] [.b] 71<|
.ite (.not v71) aF<|
 iC f_kk zEk zSf 72<|
 iC f_k4u [aB 45,aB 46,aI 47,aS 48,aS 49,aS 50,aB 72,aB 73,aI 74,aS 75,aS 76,aS 77] [.b] 78<|
.ite (.not v78) aF<|
 iC f_kl zEg zSg 79<|
 iC f_k4v [aI 51,aI 52,aI 53,aS 54,aI 79,aI 80,aI 81,aS 82] [.b] 83<|
.ite (.not v83) aF<|
 iC f_k56 [aI 41,aS 42,aS 43,aS 44,aZ 1] zSd 84<|
 iC f_k58 [aB 45,aB 46,aI 47,aS 48,aS 49,aS 50,aI 84] zSd 88<|
 iC f_k59 [aI 51,aI 52,aI 53,aS 54,aI 88] [.i .i64,.s] 92<|
.ite (aL v92 aA) aF<|
 iC f_k4u zEt [.b] 94<|
.ite (.not v94) aF<|
 iC f_k4r [aI 61,aS 62,aI 38,aS 39] [.b] 95<|
.ite (.not v95) aF<|
 iC f_k4x [aS 63,aS 40] [.b] 96<|
.ite (.not v96) aF<|
 iC f_k58 [aB 55,aB 56,aI 57,aS 58,aS 59,aS 60,aZ 1] zSd 97<|
 iC f_k5a [aI 61,aS 62,aI 97] [.i .i64,.s] 101<|
 iC f_k5b [aS 63,aI 101] [.i .i64,.s] 103<|
 iK (aE (.len v58) (.len v98))<|
 iK (aE (.len v59) (.len v99))<|
 iK (aE (.len v60) (.len v100))<|
 iC f_k5e [aB 55,aB 56,aI 57,aS 98,aS 99,aS 100,aZ 1] sI 105<|
.ite (aL v105 aA) aF<|
 iK (aE (.len v62) (.len v102))<|
 iC f_k5f [aI 61,aS 102,aI 105] sI 106<|
.ite (aL v106 aA) aF<|
 iK (aE (.len v63) (.len Jph))<|
 iC f_k5g [aS 104,aI 106] sI 107<|
.ite (aL Jpn aA) aF<|
.ite (.not (aE Jpn Jo9)) aF<|
 iC f_kg zEd zSd 108<|
 iC f_kk zEk zSf 112<|
 iC f_kl zEg zSg 118<|
 iC f_k4p [aI 108,aS 109,aS 110,aS 111,aB 112,aB 113,aI 114,aS 115,aS 116,aS 117,aI 10,aI 118,aI 119,aI 120,aS 121] zSh 122<|
.i (.fl v125)<|
.i (.fl v126)<|
 iC f_k4u [aB 122,aB 123,aI 124,aS 125,aS 126,aS 127,aB 32,aB 33,aI 34,aS 35,aS 36,aS 37] [.b] 131<|
.ite (.not v131) aF<|
 iC f_k4r [aI 128,aS 129,aI 38,aS 39] [.b] 132<|
.ite (.not v132) aF<|
 iC f_k4x [aS 130,aS 40] [.b] 133<|
.ite (.not v133) aF<|
 iK (aE (.len v58) (.len v98))<|
 iK (aE (.len v59) (.len v99))<|
 iK (aE (.len v60) (.len v100))<|
 iC f_k5e [aB 55,aB 56,aI 57,aS 98,aS 99,aS 100,aZ 1] sI 134<|
.ite (aL v134 aA) aF<|
 iK (aE (.len v62) (.len v102))<|
 iC f_k5f [aI 61,aS 102,aI 134] sI 135<|
.ite (aL v135 aA) aF<|
 iK (aE (.len v63) (.len Jph))<|
 iC f_k5g [aS 104,aI 135] sI 136<|
.ite (aL v136 aA) aF<|
.ite (.not (aE v136 Jo9)) aF aT
def E_k0:Ja:=⟨.d ⟨[.one .s,oI],.one oI,true⟩,.r ⟨[0,1,4,10],0,[],[],false,[],[],[],[],[]⟩ R_k0⟩
def E_k1:Ja:=⟨.d ⟨[.g zSa,oI],.one oI,true⟩,.r ⟨[0,1,2,4,10,16],0,[],[],false,[],[],[],[],[]⟩ R_k1⟩
def E_k2:Ja:=⟨.d ⟨[.g zSi,oI],.one oI,true⟩,.r ⟨[0,1,2,4,10],0,[],[],false,[],[],[],[],[]⟩ R_k2⟩
def E_k3:Ja:=⟨.d ⟨[.one .s,oI],.one oI,true⟩,.r ⟨[0,1,4,5,11,15,25],0,[],[(5,⟨[5,1],[],[],[],[]⟩)],false,[],[],[],[],[]⟩ R_k3⟩
def E_k4:Ja:=⟨.d ⟨[.one .s,oI],.one oI,true⟩,.r ⟨[0,1,4,5,11,15,25],0,[],[(5,⟨[5,1],[],[],[],[]⟩)],false,[],[],[],[],[]⟩ R_k4⟩
def E_k5:Ja:=⟨.d ⟨[.g zSd,oI],.one oI,true⟩,.r ⟨[0,1,2,4,10,16,22],0,[],[],false,[],[],[],[],[]⟩ R_k5⟩
def E_k6:Ja:=⟨.d ⟨[.g [.i .i64,.s],oI],.one oI,true⟩,.r ⟨[0,1,2,4,10],0,[],[],false,[],[],[],[],[]⟩ R_k6⟩
def E_k7:Ja:=⟨.d ⟨[.g zSe,oI],.one oI,true⟩,.r ⟨[0,1,2,4,10],0,[],[],false,[],[],[],[],[]⟩ R_k7⟩
def E_k8:Ja:=⟨.d ⟨[.one .s,oI],.one oI,true⟩,.r ⟨[0,1,4,5,11,15,25],0,[],[(5,⟨[5,1],[],[],[],[]⟩)],false,[],[],[],[],[]⟩ R_k8⟩
def E_k9:Ja:=⟨.d ⟨[.g zSf,oI],.one oI,true⟩,.r ⟨[0,1,2,4,10,16,22],0,[],[],false,[],[],[],[],[]⟩ R_k9⟩
def E_ka:Ja:=⟨.d ⟨[.g zSg,oI],.one oI,true⟩,.r ⟨[0,1,2,4,10],0,[],[],false,[],[],[],[],[]⟩ R_ka⟩
def E_kb:Ja:=⟨.x ⟨[.d (aS 0)],[],[.s],.o 0 v0,[.arr 3 1 v0 true true],[.s],false⟩,.r ⟨[0,2,3,4,11],0,[],[(3,⟨[4],[],[112],[],[]⟩)],true,[],[],[],[],[]⟩ R_kb⟩
def E_kc:Ja:=⟨.x ⟨[.g zVe],[],zSa,.g zVd,[.arr 3 1 v0 true true,.arr 3 1 v1 true true],zSa,false⟩,.r ⟨[0,1,2,3],0,[],[],true,[],[],[],[],[]⟩ R_kc⟩
def E_kd:Ja:=⟨.x ⟨[.g [.d (aI 0),.d (aI 1),.d (aI 2),.d (aS 3),.d (aS 4),.d (aI 5)]],[],zSi,.g [.d (aI 0),.d (aI 1),.d (aI 2),.o 0 v3,.o 1 v4,.d (aI 5)],[.arr 3 1 v3 true true,.arr 3 1 v4 true true],zSi,false⟩,.r ⟨[0,1,2,3],0,[],[],true,[],[],[],[],[]⟩ R_kd⟩
def E_ke:Ja:=⟨.x ⟨[.d (aS 0)],[],[.s],.o 0 v0,[.arr 148 6 v0 true true],[.s],false⟩,.r ⟨[0,2,3,4,11],0,[],[(3,⟨[4],[],[112],[],[]⟩)],true,[],[],[],[],[]⟩ R_ke⟩
def E_kf:Ja:=⟨.x ⟨[.d (aS 0)],[],[.s],.o 0 v0,[.arr 98 1 v0 true true],[.s],false⟩,.r ⟨[0,2,3,4,11],0,[],[(3,⟨[4],[],[112],[],[]⟩)],true,[],[],[],[],[]⟩ R_kf⟩
def E_kg:Ja:=⟨.x ⟨[.g [.d (aI 0),.d (aS 1),.d (aS 2),.d (aS 3)]],[],zSd,.g [.d (aI 0),.o 0 v1,.o 1 v2,.o 2 v3],zOe,zSd,false⟩,.r ⟨[0,1,2,3],0,[],[],true,[],[],[],[],[]⟩ R_kg⟩
def E_kh:Ja:=⟨.x ⟨[.g [.d (aI 0),.d (aS 1)]],[],[.i .i64,.s],.g zVa,zOa,[.i .i64,.s],false⟩,.r ⟨[0,1,2,3],0,[],[],true,[],[],[],[],[]⟩ R_kh⟩
def E_ki:Ja:=⟨.x ⟨[.g [.d (aI 0),.d (aI 1),.d (aS 2)]],[],zSe,.g [.d (aI 0),.d (aI 1),.o 0 v2],[.arr 3 1 v2 true true],zSe,false⟩,.r ⟨[0,1,2,3],0,[],[],true,[],[],[],[],[]⟩ R_ki⟩
def E_kj:Ja:=⟨.x ⟨[.d (aS 0)],[],[.s],.o 0 v0,[.arr 108 3 v0 true true],[.s],false⟩,.r ⟨[0,2,3,4,11],0,[],[(3,⟨[4],[],[112],[],[]⟩)],true,[],[],[],[],[]⟩ R_kj⟩
def E_kk:Ja:=⟨.x ⟨[.g zVl],[],zSf,.g zVk,zOf,zSf,false⟩,.r ⟨[0,1,2,3],0,[],[],true,[],[],[],[],[]⟩ R_kk⟩
def E_kl:Ja:=⟨.x ⟨[.g zVg],[],zSg,.g zVf,[.arr 3 1 v3 true true],zSg,false⟩,.r ⟨[0,1,2,3],0,[],[],true,[],[],[],[],[]⟩ R_kl⟩
def E_km:Ja:=⟨.d ⟨[oI,oI,oI],.one (.one .b),true⟩,.r ⟨[0,1,2,6],0,[],[],false,[],[],[],[],[]⟩ R_km⟩
def E_kn:Ja:=⟨.d ⟨[.one .s,oI,oI],.one (.one .b),true⟩,.r ⟨[0,1,2,6,7,11,15,26],0,[],[(4,⟨[7],[],[],[],[]⟩)],false,[],[],[],[],[]⟩ R_kn⟩
def E_ko:Ja:=⟨.d ⟨[.g zSa],.one (.one .b),true⟩,.r ⟨[0,1,2],0,[],[],false,[],[],[],[],[]⟩ R_ko⟩
def E_kp:Ja:=⟨.d ⟨[.g zSi],.one (.one .b),true⟩,.r ⟨[0,1,2,4,5,20,35],0,[],[],false,[],[],[],[],[]⟩ R_kp⟩
def E_kq:Ja:=⟨.d ⟨[.one .s],.one (.one .b),true⟩,.r ⟨[0,2,3,4,8,16,22],0,[],[(3,⟨[4,3],[],[],[],[]⟩)],false,[],[],[],[],[]⟩ R_kq⟩
def E_kr:Ja:=⟨.d ⟨[.one .s],.one (.one .b),true⟩,.r ⟨[0,2,3,7,11,19],0,[],[(4,⟨[3],[],[],[],[]⟩)],false,[],[],[],[],[]⟩ R_kr⟩
def E_ks:Ja:=⟨.d ⟨[.one .s],.one (.one .b),true⟩,.r ⟨[0,2],0,[],[],false,[],[],[],[],[]⟩ R_ks⟩
def E_kt:Ja:=⟨.d ⟨[.g [.s,.s]],.one (.one .b),true⟩,.r ⟨[0,1,2,3,14,19,28],0,[],[(4,⟨[3],[],[],[],[]⟩)],false,[],[],[],[],[]⟩ R_kt⟩
def E_ku:Ja:=⟨.d ⟨[.g zSd],.one (.one .b),true⟩,.r ⟨[0,1,2],0,[],[],false,[],[],[],[],[]⟩ R_ku⟩
def E_kv:Ja:=⟨.x ⟨[],[],[],.g zVd,zOc,zSa,false⟩,.r ⟨[0],0,[],[],false,[],[],[],[],[]⟩ R_kv⟩
def E_kw:Ja:=⟨.x ⟨[.d (aI 0)],[],sI,.g zVd,zOc,zSa,false⟩,.r ⟨[0,2,3,6],0,[(999999,⟨.cell 32 0,900000,3,1,false,false⟩),(999999,⟨.cell 32 1,900001,3,1,false,false⟩)],[],false,[],[],[],[],[]⟩ R_kw⟩
def E_kx:Ja:=⟨.x ⟨[.g zVe,.g [.d (aS 3),.d (aS 4),.d (aI 5)],.d (aI 6)],[],[.s,.s,.i .i64,.s,.s,.i .i64,.i .i64],.g zVd,zOc,zSa,false⟩,.r ⟨[0,1,2,3,4,6,7,8,9,12,33],0,[],[(7,⟨[9],[],[161],[],[]⟩),(3,⟨[8],[],[160],[],[]⟩)],false,[],[],[],[],[]⟩ R_kx⟩
def E_ky:Ja:=⟨.x ⟨[.d (aS 0)],[],[.s],.o 0 v0,[.arr 94 3 v0 false true],[.s],false⟩,.r ⟨[0,2,3,4,9],0,[],[(3,⟨[4],[],[80],[],[]⟩)],false,[],[],[],[],[]⟩ R_ky⟩
def E_kz:Ja:=⟨.d ⟨[.g zSa],.one (.one .b),true⟩,.r ⟨[0,1,2],0,[],[],false,[],[],[],[],[]⟩ R_kz⟩
def E_k10:Ja:=⟨.x ⟨[.g zVe,.d (aS 3)],[],[.s,.s,.i .i64,.s],.g zVd,zOc,zSa,false⟩,.r ⟨[0,1,2,4,5,6,35,46,62],0,[(999999,⟨.cell 64 0,900000,3,1,false,false⟩),(999999,⟨.cell 64 1,900001,3,1,false,false⟩)],[(5,⟨[6],[(80,2)],[592,608],[],[]⟩)],false,[],[],[],[],[]⟩ R_k10⟩
def E_k11:Ja:=⟨.x ⟨[.g zVe],[],zSa,.g zVd,zOc,zSa,false⟩,.r ⟨[0,1,2,3],0,[],[],false,[],[],[],[],[]⟩ R_k11⟩
def E_k12:Ja:=⟨.x ⟨[.d (aS 0),.d (aS 1),.d (aS 2)],[],[.s,.s,.s],.g [.o 0 v0,.o 1 v1,.o 2 v2,.d (aB 3)],[.arr 94 3 v0 false true,.arr 94 3 v1 false true,.arr 94 3 v2 false true],[.s,.s,.s,.b],false⟩,.r ⟨[0,1,2,6,7,8,15],0,[(3,⟨.cell 112 1,121,94,3,false,false⟩)],[(3,⟨[8],[],[121],[],[]⟩)],false,[],[],[],[],[]⟩ R_k12⟩
def E_k13:Ja:=⟨.x ⟨[.d (aS 0),.d (aI 1),.d (aS 2),.d (aS 3),.d (aS 4)],[],[.s,.i .i64,.s,.s,.s],.o 0 v0,[.arr 102 4 v0 false true],[.s],false⟩,.r ⟨[0,1,2,3,4,10,11,12,13,14,15,20,29,39,45,80],0,[],[(2,⟨[11,4,2],[],[],[],[]⟩)],false,[],[],[],[],[]⟩ R_k13⟩
def E_k14:Ja:=⟨.x ⟨[.d (aS 0)],[],[.s],.o 0 v0,[.arr 102 4 v0 false true],[.s],false⟩,.r ⟨[0,2,5],0,[],[],false,[],[],[],[],[]⟩ R_k14⟩
def E_k15:Ja:=⟨.x ⟨zVc,[],[.s,.s],.o 0 v0,[.arr 4 1 v0 false true],[.s],false⟩,.r ⟨[0,1,4,5,6,7,14,18,29],0,[],[(3,⟨[6],[],[128],[],[]⟩),(6,⟨[7],[],[128],[],[]⟩)],false,[],[],[],[],[]⟩ R_k15⟩
def E_k16:Ja:=⟨.x ⟨[.g zVe],[],zSa,.o 0 v0,zOb,[.s],false⟩,.r ⟨[0,1,2,3,4,5,11,23,33],0,[],[(4,⟨[5,4],[],[96],[],[]⟩)],false,[],[],[],[],[]⟩ R_k16⟩
def E_k17:Ja:=⟨.d ⟨[.one .s,.one .s],.one (.one .b),true⟩,.r ⟨[0,1,4,5,10,14,25],0,[],[(4,⟨[5],[],[],[],[]⟩)],false,[],[],[],[],[]⟩ R_k17⟩
def E_k18:Ja:=⟨.d ⟨[.one .s,.one .s],.one oI,true⟩,.r ⟨[0,1,4,5,9,17],0,[],[(2,⟨[5],[],[],[],[]⟩)],false,[],[],[],[],[]⟩ R_k18⟩
def E_k19:Ja:=⟨.x ⟨[.d (aS 0)],[],[.s],.t [.o 0 v0,.o 1 v1],[.arr 23 1 v0 false true,.arr 4 1 v1 false true],[.s,.s],false⟩,.r ⟨[0,2,3,4,5,6,7,8,9,10,11,15,27,38,61,83],0,[],[(8,⟨[7],[],[192,208],[],[]⟩),(12,⟨[9],[],[192,208],[],[]⟩),(16,⟨[10],[],[192],[],[]⟩),(4,⟨[6],[],[192],[],[]⟩)],false,[],[],[],[],[]⟩ R_k19⟩
def E_k1a:Ja:=⟨.d ⟨[.g zSd,.g zSf],.one (.g [.s,.s]),false⟩,.r ⟨[0,1,2,3,4],0,[],[],false,[],[],[],[],[]⟩ R_k1a⟩
def E_k1b:Ja:=⟨.d ⟨[.one .s],.one (.one .b),true⟩,.r ⟨[0,2,3,7,15],0,[],[(2,⟨[3],[],[],[],[]⟩)],false,[],[],[],[],[]⟩ R_k1b⟩
def E_k1c:Ja:=⟨.d ⟨[.one .s,.one .s],.one oI,true⟩,.r ⟨[0,1,4,5,6,8],0,[],[(3,⟨[6,5],[],[],[],[]⟩)],false,[],[],[],[],[]⟩ R_k1c⟩
def E_k1d:Ja:=⟨.d ⟨[.g [.s,.s],.one .s,oI,.one .s],.one (.one .b),true⟩,.r ⟨[0,1,2,3,4,8,9,31,35,56],0,[],[(4,⟨[9],[],[],[],[]⟩)],false,[],[],[],[],[]⟩ R_k1d⟩
def E_k1e:Ja:=⟨.d ⟨[.one .s,.one .s],.one (.one .b),true⟩,.r ⟨[0,1,4,5,7,20],0,[],[(2,⟨[5],[],[],[],[]⟩)],false,[],[],[],[],[]⟩ R_k1e⟩
def E_k1f:Ja:=⟨.d ⟨[oI],.one (.one .d),false⟩,.m digitsF⟩
def E_k1g:Ja:=⟨.d ⟨[.g [.i .i64,.s]],.one (.one .d),false⟩,.r ⟨[0,1,2,3,4,5,36,46],0,[],[(6,⟨[5,4],[],[],[],[]⟩)],false,[],[],[],[],[]⟩ R_k1g⟩
def E_k1h:Ja:=⟨.d ⟨[.g [.i .i64,.s]],.one (.one .b),true⟩,.r ⟨[0,1,2],0,[],[],false,[],[],[],[],[]⟩ R_k1h⟩
def E_k1i:Ja:=⟨.d ⟨[.g zSd,.one .s],.one (.one .b),true⟩,.r ⟨[0,1,2,4,5,10,14,74],0,[],[(4,⟨[5],[],[],[],[]⟩)],false,[],[],[],[],[]⟩ R_k1i⟩
def E_k1j:Ja:=⟨.d ⟨[.g zSd,.one .s,.one .s,.g zSf,oI],.one (.one .b),true⟩,.r ⟨[0,1,2,3,4,5,8,10],0,[],[],false,[],[],[],[],[]⟩ R_k1j⟩
def E_k1k:Ja:=⟨.d ⟨[.g zSd,.g zSf,oI],.one (.one .b),true⟩,.r ⟨[0,1,2,3,4,6,7,8,20],0,[],[],false,[],[],[],[],[]⟩ R_k1k⟩
def E_k1l:Ja:=⟨.d ⟨[.one .s],.one (.one .b),true⟩,.r ⟨[0,2],0,[],[],false,[],[],[],[],[]⟩ R_k1l⟩
def E_k1m:Ja:=⟨.d ⟨[.g zSd,.g zSg],.one (.one .b),true⟩,.r ⟨[0,1,2,3,4],0,[],[],false,[],[],[],[],[]⟩ R_k1m⟩
def E_k1n:Ja:=⟨.d ⟨[.g zSd,.g zSg],.one (.one .b),true⟩,.r ⟨[0,1,2,3,4],0,[],[],false,[],[],[],[],[]⟩ R_k1n⟩
def E_k1o:Ja:=⟨.x ⟨[.g [.d (aI 0),.d (aS 1)]],[],[.i .i64,.s],.g zVa,[.arr 3 1 v1 false true],[.i .i64,.s],false⟩,.r ⟨[0,1,2],0,[],[],false,[],[],[],[],[]⟩ R_k1o⟩
def E_k1p:Ja:=⟨.x ⟨[.d (aS 0)],[],[.s],.o 0 v0,[.arr 108 3 v0 false true],[.s],false⟩,.r ⟨[0,2,3,4,9],0,[],[(3,⟨[4],[],[80],[],[]⟩)],false,[],[],[],[],[]⟩ R_k1p⟩
def E_k1q:Ja:=⟨.x ⟨[.g zVl],[],zSf,.g zVk,[.arr 3 1 v3 false true,.arr 3 1 v4 false true,.arr 108 3 v5 false true],zSf,false⟩,.r ⟨[0,1,2],0,[],[],false,[],[],[],[],[]⟩ R_k1q⟩
def E_k1r:Ja:=⟨.x ⟨zVc,[],[.s,.s],.o 0 v0,zOb,[.s],false⟩,.r ⟨[0,1,4,5,6,9],0,[],[(3,⟨[6],[],[112],[],[]⟩)],false,[],[],[],[],[]⟩ R_k1r⟩
def E_k1s:Ja:=⟨.d ⟨[.g zSa,.one .s,.one .s],.one oI,true⟩,.r ⟨[0,1,2,3,6,7,8,9,13,29],0,[],[(7,⟨[9,7],[],[],[],[]⟩),(3,⟨[8,7],[],[],[],[]⟩)],false,[],[],[],[],[]⟩ R_k1s⟩
def E_k1t:Ja:=⟨.d ⟨[.g [.s,.s],oI],.one oI,true⟩,.r ⟨[0,1,2,4,5,6,11,16],0,[],[(3,⟨[6,5],[],[],[],[]⟩)],false,[],[],[],[],[]⟩ R_k1t⟩
def E_k1u:Ja:=⟨.d ⟨[.g [.s,.s],.one .s,oI,.one .s,.g zSa,.one .s],.tup [oI,oI,.one .b],true⟩,.r ⟨[0,1,2,3,4,5,6,10,12,13,14,15,16,48,61,67],0,[],[],false,[],[],[],[],[]⟩ R_k1u⟩
def E_k1v:Ja:=⟨.d ⟨[.g [.s,.s],.one .s,oI,.one .s,.g [.s,.s,.s,.b],.one .s],.one (.one .b),true⟩,.r ⟨[0,1,2,3,4,5,6,10,12,13,14,16,21,44],0,[],[(2,⟨[13],[],[],[],[]⟩)],false,[],[],[],[],[]⟩ R_k1v⟩
def E_k1w:Ja:=⟨.x ⟨[.g zVc,.d (aS 2),.g [.d (aS 3),.d (aS 4),.d (aS 5),.d (aB 6)],.d (aS 7)],[],[.s,.s,.s,.s,.s,.s,.b,.s],.t [.o 0 v0,.d (aB 1)],zOb,[.s,.b],false⟩,.r ⟨[0,1,2,3,4,6,8,9,10,11,12,15,34],0,[],[(3,⟨[11],[],[208],[],[]⟩)],false,[],[],[],[],[]⟩ R_k1w⟩
def E_k1x:Ja:=⟨.d ⟨[.g [.s,.s],.one .s,oI,.one .s],.one oI,true⟩,.r ⟨[0,1,2,3,4,8,9,10,11,12,13,15,38,48],0,[],[(3,⟨[10,9],[],[],[],[]⟩)],false,[],[],[],[],[]⟩ R_k1x⟩
def E_k1y:Ja:=⟨.x ⟨[.g zVc,.d (aS 2),.d (aS 3),.d (aI 4),.d (aS 5),.g [.d (aS 6),.d (aS 7),.d (aS 8),.d (aB 9)],.d (aS 10)],[],[.s,.s,.s,.s,.i .i64,.s,.s,.s,.s,.b,.s],.t zVi,zOd,zSc,false⟩,.r ⟨[0,1,2,3,4,5,6,7,12,14,15,16,17,18,19,20,21,23,45,54,55,61,72,82],0,[(999999,⟨.cell 224 1,900000,3,1,false,false⟩)],[(16,⟨[21],[],[1232],[],[]⟩)],false,[],[],[],[],[]⟩ R_k1y⟩
def E_k1z:Ja:=⟨.x ⟨[.d (aS 0),.d (aS 1),.d (aS 2),.g [.d (aS 3),.d (aS 4)],.d (aI 5),.d (aS 6),.d (aI 7),.d (aS 8)],[],[.s,.s,.s,.s,.s,.i .i64,.s,.i .i64,.s],.t zVi,zOd,zSc,false⟩,.r ⟨[0,1,2,3,4,5,6,7,11,16,17,18,19,20,29,41],0,[(999999,⟨.cell 256 1,900000,3,1,false,false⟩)],[(3,⟨[20],[],[],[],[]⟩)],false,[],[],[],[],[]⟩ R_k1z⟩
def E_k20:Ja:=⟨.x ⟨[.g zVg],[],zSg,.g zVf,[.arr 3 1 v3 false true],zSg,false⟩,.r ⟨[0,1,2],0,[],[],false,[],[],[],[],[]⟩ R_k20⟩
def E_k21:Ja:=⟨.d ⟨[.g zSd,.one .s,.one .s,.g zSf,oI,.g zSg],.tup [.g zSf,.g [.i .i64,.s],.one .s],false⟩,.r ⟨[0,1,2,3,4,5,6,9,11,12,13,14,15,16,17,18,19,55,63,71,91],0,[],[],false,[],[],[],[],[]⟩ R_k21⟩
def E_k22:Ja:=⟨.d ⟨[.g zSd,.g zSf,oI,.g zSg],.tup [.g zSf,.g [.i .i64,.s],.one .s],false⟩,.r ⟨[0,1,2,3,4,5,7,8,9,10,11,12,23],0,[],[],false,[],[],[],[],[]⟩ R_k22⟩
def E_k23:Ja:=⟨.d ⟨[oI,oI,oI],.one (.one .b),true⟩,.r ⟨[0,1,2,6],0,[],[],false,[],[],[],[],[]⟩ R_k23⟩
def E_k24:Ja:=⟨.d ⟨[.one .s,.one .d],.one oI,true⟩,.r ⟨[0,1,4,5,7,8,9,16],0,[],[(2,⟨[8],[],[],[],[]⟩)],false,[],[],[],[],[]⟩ R_k24⟩
def E_k25:Ja:=⟨.d ⟨[.one .s,.one .d],.one (.one .b),true⟩,.r ⟨[0,1,4],0,[],[],false,[],[],[],[],[]⟩ R_k25⟩
def E_k26:Ja:=⟨.d ⟨[oI,.one .d],.one (.one .b),true⟩,.r ⟨[0,1,3],0,[],[],false,[],[],[],[],[]⟩ R_k26⟩
def E_k27:Ja:=⟨.d ⟨[.one .s,.one .d],.one oI,true⟩,.r ⟨[0,1,4,5,7,8,9,16],0,[],[(2,⟨[8],[],[],[],[]⟩)],false,[],[],[],[],[]⟩ R_k27⟩
def E_k28:Ja:=⟨.d ⟨[.one .s,.one .d],.one (.one .b),true⟩,.r ⟨[0,1,4],0,[],[],false,[],[],[],[],[]⟩ R_k28⟩
def E_k29:Ja:=⟨.d ⟨[.one .s,oI,oI],.one (.one .b),true⟩,.r ⟨[0,1,2,5,6],0,[],[],false,[],[],[],[],[]⟩ R_k29⟩
def E_k2a:Ja:=⟨.d ⟨[.g zSa],.one (.one .b),true⟩,.r ⟨[0,1,2],0,[],[],false,[],[],[],[],[]⟩ R_k2a⟩
def E_k2b:Ja:=⟨.d ⟨[.one .s,.one .s],.one (.one .b),true⟩,.r ⟨[0,1,4,5,10,12,13,14,24],0,[],[(4,⟨[13],[],[],[],[]⟩)],false,[],[],[],[],[]⟩ R_k2b⟩
def E_k2c:Ja:=⟨.d ⟨[.g zSa,.g zSa],.one (.one .b),true⟩,.r ⟨[0,1,2,3,4],0,[],[],false,[],[],[],[],[]⟩ R_k2c⟩
def E_k2d:Ja:=⟨.d ⟨[.g zSi],.one (.one .b),true⟩,.r ⟨[0,1,2,4,5,20,35,50],0,[],[],false,[],[],[],[],[]⟩ R_k2d⟩
def E_k2e:Ja:=⟨.d ⟨[.one .s],.one (.one .b),true⟩,.r ⟨[0,2,3,5,6,7,8,9,14,17],0,[],[(3,⟨[8,3],[],[],[],[]⟩)],false,[],[],[],[],[]⟩ R_k2e⟩
def E_k2f:Ja:=⟨.d ⟨[.one .s],.one (.one .b),true⟩,.r ⟨[0,2],0,[],[],false,[],[],[],[],[]⟩ R_k2f⟩
def E_k2g:Ja:=⟨.d ⟨[.one .s],.one (.one .b),true⟩,.r ⟨[0,2],0,[],[],false,[],[],[],[],[]⟩ R_k2g⟩
def E_k2h:Ja:=⟨.d ⟨[.g zSd,.one .s],.one (.g [.s,.s]),false⟩,.r ⟨[0,1,2,4],0,[],[],false,[],[],[],[],[]⟩ R_k2h⟩
def E_k2i:Ja:=⟨.d ⟨[oI],.one (.one .b),true⟩,.r ⟨[0,2],0,[],[],false,[],[],[],[],[]⟩ R_k2i⟩
def E_k2j:Ja:=⟨.d ⟨[.one .s],.one (.one .b),true⟩,.r ⟨[0,2],0,[],[],false,[],[],[],[],[]⟩ R_k2j⟩
def E_k2k:Ja:=⟨.d ⟨[.g [.s,.s]],.one (.one .b),true⟩,.r ⟨[0,1,2,3],0,[],[],false,[],[],[],[],[]⟩ R_k2k⟩
def E_k2l:Ja:=⟨.d ⟨[.g zSd],.one (.one .b),true⟩,.r ⟨[0,1,2],0,[],[],false,[],[],[],[],[]⟩ R_k2l⟩
def E_k2m:Ja:=⟨.x ⟨[],[],[],.g zVd,zOc,zSa,false⟩,.r ⟨[0],0,[],[],false,[],[],[],[],[]⟩ R_k2m⟩
def E_k2n:Ja:=⟨.x ⟨[.d (aI 0)],[],sI,.g zVd,zOc,zSa,false⟩,.r ⟨[0,2,3,6],0,[(999999,⟨.cell 32 0,900000,3,1,false,false⟩),(999999,⟨.cell 32 1,900001,3,1,false,false⟩)],[],false,[],[],[],[],[]⟩ R_k2n⟩
def E_k2o:Ja:=⟨.x ⟨[.d (aS 0)],[],[.s],.o 0 v0,zOb,[.s],false⟩,.r ⟨[0,2,4],0,[(999999,⟨.slot 2,900000,3,1,false,false⟩)],[],false,[],[],[],[],[]⟩ R_k2o⟩
def E_k2p:Ja:=⟨.x ⟨[.g zVe],[],zSa,.g zVd,zOc,zSa,false⟩,.r ⟨[0,1,2],0,[],[],false,[],[],[],[],[]⟩ R_k2p⟩
def E_k2q:Ja:=⟨.x ⟨[.d (aS 0)],[],[.s],.o 0 v0,[.arr 94 3 v0 true true],[.s],false⟩,.r ⟨[0,2,3,5,6,7,8,9],0,[(3,⟨.slot 3,63,94,3,true,false⟩)],[(3,⟨[8],[],[63],[],[]⟩)],true,[],[],[],[],[]⟩ R_k2q⟩
def E_k2r:Ja:=⟨.d ⟨[.g zSa],.one (.one .b),true⟩,.r ⟨[0,1,2],0,[],[],false,[],[],[],[],[]⟩ R_k2r⟩
def E_k2s:Ja:=⟨.d ⟨[.one .s,.one .d],.one oI,true⟩,.r ⟨[0,1,4,5,7,8,9,16],0,[],[(2,⟨[8],[],[],[],[]⟩)],false,[],[],[],[],[]⟩ R_k2s⟩
def E_k2t:Ja:=⟨.d ⟨[.one .s,.one .d],.one (.one .b),true⟩,.r ⟨[0,1,4],0,[],[],false,[],[],[],[],[]⟩ R_k2t⟩
def E_k2u:Ja:=⟨.d ⟨[.g zSa],.one (.one .b),true⟩,.r ⟨[0,1,2],0,[],[],false,[],[],[],[],[]⟩ R_k2u⟩
def E_k2v:Ja:=⟨.x ⟨[.p 0 0,.g [.d (aS 3),.d (aS 4),.d (aI 5)],.d (aI 6)],[.box [.o 1 v0,.o 2 v1,.d (aI 2)],.arr 3 1 v0 false true,.arr 3 1 v1 false true],[.s,.s,.i .i64,.s,.s,.i .i64,.i .i64],.t [],[.box [.o 1 v1,.o 2 v2,.d (aI 0)],.arr 3 1 v1 false true,.arr 3 1 v2 false true],zSb,false⟩,.r ⟨[0,1,2,4,6,7,8,9,11,12,13,14,32,33,34,35],3,[],[(7,⟨[34],[],[2],[],[]⟩),(2,⟨[13],[],[1],[],[]⟩)],false,[],[],[],[],[]⟩ R_k2v⟩
def E_k2w:Ja:=⟨.x ⟨[.g zVd],zOc,zSa,.g [.o 2 v0,.o 3 v1,.d (aI 2)],[.dead,.dead,.arr 3 1 v0 false true,.arr 3 1 v1 false true],zSa,false⟩,.r ⟨[0,1,2,5],2,[(999999,⟨.cell 32 0,900000,3,1,false,true⟩),(999999,⟨.cell 32 1,900001,3,1,false,true⟩),(999999,⟨.kill 0,910000,0,0,false,false⟩),(999999,⟨.kill 1,910001,0,0,false,false⟩)],[],false,[],[],[],[],[]⟩ R_k2w⟩
def E_k2x:Ja:=⟨.x ⟨[.g zVe,.d (aS 3)],[],[.s,.s,.i .i64,.s],.g zVd,zOc,zSa,false⟩,.r ⟨[0,1,2,4,5,6,7,19,22,23,24,25],0,[(999999,⟨.cell 64 0,900000,3,1,false,false⟩),(999999,⟨.cell 64 1,900001,3,1,false,false⟩)],[(5,⟨[24],[(80,2)],[336,337],[],[]⟩)],false,[],[],[],[],[]⟩ R_k2x⟩
def E_k2y:Ja:=⟨.x ⟨[.g zVe,.d (aI 3)],[],[.s,.s,.i .i64,.i .i64],.g zVd,zOc,zSa,false⟩,.r ⟨[0,1,2,4,5,13],0,[(999999,⟨.cell 64 0,900000,3,1,false,false⟩),(999999,⟨.cell 64 1,900001,3,1,false,false⟩)],[],false,[],[],[],[],[]⟩ R_k2y⟩
def E_k2z:Ja:=⟨.x ⟨[.g zVe,.g [.d (aS 3),.d (aS 4),.d (aI 5)]],[],[.s,.s,.i .i64,.s,.s,.i .i64],.g zVd,zOc,zSa,false⟩,.r ⟨[0,1,2,3,4,5,13],0,[(999999,⟨.cell 64 0,900000,3,1,false,false⟩),(999999,⟨.cell 64 1,900001,3,1,false,false⟩)],[],false,[],[],[],[],[]⟩ R_k2z⟩
def E_k30:Ja:=⟨.x ⟨[.p 0 0,.d (aI 2),.d (aS 3),.d (aS 4),.d (aS 5)],[.box [.d (aS 0),.o 1 v1],.arr 102 4 v1 true true],[.s,.s,.i .i64,.s,.s,.s],.t [],[.box [.d (aS 0),.o 1 v1],.arr 102 4 v1 true true],[.s,.s],false⟩,.r ⟨[0,1,2,3,4,10,11,12,13,14,15,22,34,52,53,83,98,110,111,112,113],2,[(20,⟨.cell 208 1,217,94,3,true,false⟩)],[(20,⟨[112],[],[217],[],[]⟩),(0,⟨[1,4,3,2],[(0,0)],[1],[],[]⟩)],true,[50,59,61,62,64,66,67,69,75,77,78,86,96,101,103,104,121,122,123],[],[],[],[]⟩ R_k30⟩
def E_k31:Ja:=⟨.x ⟨[.d (aS 0)],[],[.s],.o 0 v0,[.arr 102 4 v0 true true],[.s],false⟩,.r ⟨[0,2,3,4,5,8,12,13],0,[(10,⟨.cell 176 1,185,102,4,true,false⟩),(6,⟨.slot 4,79,94,3,true,false⟩),(999999,⟨.slot 2,900000,102,4,true,false⟩)],[(6,⟨[12],[],[79],[],[]⟩)],true,[],[],[],[],[]⟩ R_k31⟩
def E_k32:Ja:=⟨.d ⟨[oI],.one (.one .b),true⟩,.r ⟨[0,2],0,[],[],false,[],[],[],[],[]⟩ R_k32⟩
def E_k33:Ja:=⟨.x ⟨[.g zVe],[],zSa,.o 0 v0,zOb,[.s],false⟩,.r ⟨[0,1,2,3,4,5,19,21,22,23],0,[],[(5,⟨[22],[],[128],[],[]⟩)],false,[],[],[],[],[]⟩ R_k33⟩
def E_k34:Ja:=⟨.d ⟨[oI],.one (.one .b),true⟩,.r ⟨[0,2],0,[],[],false,[],[],[],[],[]⟩ R_k34⟩
def E_k35:Ja:=⟨.d ⟨[.one .s],.one (.one .b),true⟩,.r ⟨[0,2],0,[],[],false,[],[],[],[],[]⟩ R_k35⟩
def E_k36:Ja:=⟨.d ⟨[.one .s,.one .d],.one (.one .b),true⟩,.r ⟨[0,1,3],0,[],[],false,[],[],[],[],[]⟩ R_k36⟩
def E_k37:Ja:=⟨.d ⟨[.one .s,.one .d],.one oI,true⟩,.r ⟨[0,1,4,5,7,8,9,16],0,[],[(2,⟨[8],[],[],[],[]⟩)],false,[],[],[],[],[]⟩ R_k37⟩
def E_k38:Ja:=⟨.d ⟨[.one .s,.one .s],.one oI,true⟩,.r ⟨[0,1,3,4],0,[],[],false,[],[],[],[],[]⟩ R_k38⟩
def E_k39:Ja:=⟨.x ⟨[.d (aS 0)],[],[.s],.o 0 v0,[.arr 23 1 v0 true true],[.s],false⟩,.r ⟨[0,2,3,4,6,8,10,11,14,15,16,25,26,27,28,32,33,34,35,39,40,41,42,55],0,[(5,⟨.slot 3,63,23,1,true,false⟩),(999999,⟨.slot 2,900000,23,1,true,false⟩)],[(10,⟨[27],[],[63],[],[]⟩),(13,⟨[34],[],[63],[],[]⟩),(16,⟨[41],[],[63],[],[]⟩),(5,⟨[15],[],[63],[],[]⟩)],true,[32],[],[],[],[]⟩ R_k39⟩
def E_k3a:Ja:=⟨.x ⟨[.d (aS 0),.d (.da 1)],[],[.s,.d],.o 0 v0,[.arr 4 1 v0 false true],[.s],false⟩,.r ⟨[0,1,4,5,7,9,10,12,13,14,15,19,20,21,22,26,27,28],0,[],[(3,⟨[14],[],[176],[],[]⟩),(6,⟨[21],[],[176],[],[]⟩),(9,⟨[27],[],[176],[],[]⟩)],false,[],[],[],[],[]⟩ R_k3a⟩
def E_k3b:Ja:=⟨.x ⟨[.d (.vc (.slice none 0 0)),.d (aI 0)],[],sI,.o 0 v0,[.arr 94 3 v0 false true],[.s],false⟩,.r ⟨[0,1,4,6,16],0,[(999999,⟨.slot 4,900000,94,3,false,false⟩)],[],false,[],[],[],[],[]⟩ R_k3b⟩
def E_k3c:Ja:=⟨.x ⟨[.d (aS 0)],[],[.s],.o 0 v0,[.arr 94 3 v0 false true],[.s],false⟩,.r ⟨[0,2,3,5,6,8,9,10,11,12,20,25,26,27,28],0,[],[(11,⟨[27],[],[384],[],[]⟩),(3,⟨[11,3],[],[],[],[]⟩)],false,[],[],[],[],[]⟩ R_k3c⟩
def E_k3d:Ja:=⟨.d ⟨[.g zSa,.one .d],.one (.one .b),true⟩,.r ⟨[0,1,2,3],0,[],[],false,[],[],[],[],[]⟩ R_k3d⟩
def E_k3e:Ja:=⟨.d ⟨[.g [.s,.s,.s,.b],oI],.one (.one .b),true⟩,.r ⟨[0,1,2,3,4],0,[],[],false,[],[],[],[],[]⟩ R_k3e⟩
def E_k3f:Ja:=⟨.x ⟨[.d (aS 0)],[],[.s],.o 0 v0,[.arr 4 1 v0 false true],[.s],false⟩,.r ⟨[0,2,5],0,[(999999,⟨.slot 2,900000,4,1,false,false⟩)],[],false,[],[],[],[],[]⟩ R_k3f⟩
def E_k3g:Ja:=⟨.x ⟨[.d (aS 0)],[],[.s],.g [.d (aS 0),.o 0 v1,.o 1 v2],[.arr 23 1 v1 false true,.arr 4 1 v2 false true],[.s,.s,.s],false⟩,.r ⟨[0,2],0,[],[],false,[],[],[],[],[]⟩ R_k3g⟩
def E_k3h:Ja:=⟨.d ⟨[.g zSd,oI],.one (.one .b),true⟩,.r ⟨[0,1,2,4],0,[],[],false,[],[],[],[],[]⟩ R_k3h⟩
def E_k3i:Ja:=⟨.d ⟨[.one .s,.one .d],.one (.one .b),true⟩,.r ⟨[0,1,4],0,[],[],false,[],[],[],[],[]⟩ R_k3i⟩
def E_k3j:Ja:=⟨.d ⟨[.one .s],.one (.one .b),true⟩,.r ⟨[0,2],0,[],[],false,[],[],[],[],[]⟩ R_k3j⟩
def E_k3k:Ja:=⟨.d ⟨[.one .s],.one (.one .b),true⟩,.r ⟨[0,2],0,[],[],false,[],[],[],[],[]⟩ R_k3k⟩
def E_k3l:Ja:=⟨.d ⟨[.one .s],.one (.one .b),true⟩,.r ⟨[0,2],0,[],[],false,[],[],[],[],[]⟩ R_k3l⟩
def E_k3m:Ja:=⟨.d ⟨[.g [.s,.s],.one .s,oI,.one .s],.one (.one .b),true⟩,.r ⟨[0,1,2,3,4,8],0,[],[],false,[],[],[],[],[]⟩ R_k3m⟩
def E_k3n:Ja:=⟨.d ⟨[.one .s,.one .s],.one oI,true⟩,.r ⟨[0,1,4,5,6,7,8,9,10,11],0,[],[(3,⟨[10,5],[],[],[],[]⟩)],false,[],[],[],[],[]⟩ R_k3n⟩
def E_k3o:Ja:=⟨.d ⟨[.one .s,.one .d,.one .d],.one (.one .b),true⟩,.r ⟨[0,1,2,4],0,[],[],false,[],[],[],[],[]⟩ R_k3o⟩
def E_k3p:Ja:=⟨.d ⟨[.g [.s,.s],.one .s,oI,.one .s],.one (.one .b),true⟩,.r ⟨[0,1,2,3,4,7,8,9,15],0,[],[],false,[],[],[],[],[]⟩ R_k3p⟩
def E_k3q:Ja:=⟨.d ⟨[.g [.s,.s,.s],.one .s],.one (.one .b),true⟩,.r ⟨[0,1,2,4,5,6,7,8,9,10,22],0,[],[(2,⟨[9],[],[],[],[]⟩)],false,[],[],[],[],[]⟩ R_k3q⟩
def E_k3r:Ja:=⟨.d ⟨[.g [.s,.s,.s],.g [.s,.s],oI,.one .s],.one (.one .b),true⟩,.r ⟨[0,1,2,3,4,5,8],0,[],[],false,[],[],[],[],[]⟩ R_k3r⟩
def E_k3s:Ja:=⟨.d ⟨[.one .s,.one .d],.one oI,true⟩,.r ⟨[0,1,4,5,7,8,9,16],0,[],[(2,⟨[8],[],[],[],[]⟩)],false,[],[],[],[],[]⟩ R_k3s⟩
def E_k3t:Ja:=⟨.d ⟨[.one .s,.one .d],.one (.one .b),true⟩,.r ⟨[0,1,4],0,[],[],false,[],[],[],[],[]⟩ R_k3t⟩
def E_k3u:Ja:=⟨.d ⟨[.g [.i .i64,.s]],.one (.one .b),true⟩,.r ⟨[0,1,2],0,[],[],false,[],[],[],[],[]⟩ R_k3u⟩
def E_k3v:Ja:=⟨.x ⟨[],[],[],.o 0 v0,[.arr 9 1 v0 false true],[.s],false⟩,.r ⟨[0],0,[],[],false,[],[],[],[],[]⟩ R_k3v⟩
def E_k3w:Ja:=⟨.d ⟨[.one .s],.one (.one .d),false⟩,.m joinedF⟩
def E_k3x:Ja:=⟨.d ⟨[.g [.i .i64,.s]],.one (.one .d),false⟩,.r ⟨[0,1,2,32],0,[],[],false,[],[],[],[],[]⟩ R_k3x⟩
def E_k3y:Ja:=⟨.d ⟨[.g [.i .i64,.s]],.one (.one .b),true⟩,.r ⟨[0,1,2],0,[],[],false,[],[],[],[],[]⟩ R_k3y⟩
def E_k3z:Ja:=⟨.d ⟨[.g zSe],.one (.one .b),true⟩,.r ⟨[0,1,2,5],0,[],[],false,[],[],[],[],[]⟩ R_k3z⟩
def E_k40:Ja:=⟨.d ⟨[.g zSe],.one (.one .b),true⟩,.r ⟨[0,1,2],0,[],[],false,[],[],[],[],[]⟩ R_k40⟩
def E_k41:Ja:=⟨.d ⟨[.g zSd,.one .s],.one (.one .b),true⟩,.r ⟨[0,1,2,4],0,[],[],false,[],[],[],[],[]⟩ R_k41⟩
def E_k42:Ja:=⟨.d ⟨[.g zSd,.g [.s,.s,.s],.g zSf,oI],.one (.one .b),true⟩,.r ⟨[0,1,2,3,4,5,6,8],0,[],[],false,[],[],[],[],[]⟩ R_k42⟩
def E_k43:Ja:=⟨.d ⟨[.g zSd,.g zSf,oI],.one (.one .b),true⟩,.r ⟨[0,1,2,3,4,6],0,[],[],false,[],[],[],[],[]⟩ R_k43⟩
def E_k44:Ja:=⟨.d ⟨[.g zSd,oI],.one (.one .b),true⟩,.r ⟨[0,1,2,4],0,[],[],false,[],[],[],[],[]⟩ R_k44⟩
def E_k45:Ja:=⟨.d ⟨[.one .s],.one (.one .b),true⟩,.r ⟨[0,2],0,[],[],false,[],[],[],[],[]⟩ R_k45⟩
def E_k46:Ja:=⟨.d ⟨[.g zSd,.g zSg],.one (.one .b),true⟩,.r ⟨[0,1,2,3,4],0,[],[],false,[],[],[],[],[]⟩ R_k46⟩
def E_k47:Ja:=⟨.d ⟨[.g zSd,.g zSg],.one (.one .b),true⟩,.r ⟨[0,1,2,3,4],0,[],[],false,[],[],[],[],[]⟩ R_k47⟩
def E_k48:Ja:=⟨.x ⟨[.g [.d (aI 0),.d (aS 1)]],[],[.i .i64,.s],.g zVa,[.arr 3 1 v1 false true],[.i .i64,.s],false⟩,.r ⟨[0,1,2],0,[],[],false,[],[],[],[],[]⟩ R_k48⟩
def E_k49:Ja:=⟨.x ⟨[.d (aS 0)],[],[.s],.o 0 v0,[.arr 108 3 v0 true true],[.s],false⟩,.r ⟨[0,2,3,5,6,7,8,9],0,[(3,⟨.slot 3,63,108,3,true,false⟩)],[(3,⟨[8],[],[63],[],[]⟩)],true,[],[],[],[],[]⟩ R_k49⟩
def E_k4a:Ja:=⟨.x ⟨[.g zVl],[],zSf,.g zVk,[.arr 3 1 v3 false true,.arr 3 1 v4 false true,.arr 108 3 v5 true true],zSf,false⟩,.r ⟨[0,1,2],0,[],[],true,[],[],[],[],[]⟩ R_k4a⟩
def E_k4b:Ja:=⟨.x ⟨zVc,[],[.s,.s],.o 0 v0,zOb,[.s],false⟩,.r ⟨[0,1,4,5,6,7,10,11,12,13],0,[],[(3,⟨[12],[],[144],[],[]⟩)],false,[],[],[],[],[]⟩ R_k4b⟩
def E_k4c:Ja:=⟨.d ⟨[.g zSa,.one .s,.one .s],.one oI,true⟩,.r ⟨[0,1,2,3,6],0,[],[],false,[],[],[],[],[]⟩ R_k4c⟩
def E_k4d:Ja:=⟨.d ⟨[.g [.s,.s],oI],.one oI,true⟩,.r ⟨[0,1,2,4,5,6,7,9,10,11,12,18],0,[],[(3,⟨[11,5],[],[],[],[]⟩)],false,[],[],[],[],[]⟩ R_k4d⟩
def E_k4e:Ja:=⟨.d ⟨[.g [.s,.s],.one .s,oI,.one .s,.g zSa,.one .s],.tup [oI,oI,.one .b],true⟩,.r ⟨[0,1,2,3,4,5,6,10,12,13,14,15,16,32,43,49],0,[],[],false,[],[],[],[],[]⟩ R_k4e⟩
def E_k4f:Ja:=⟨.d ⟨[.g zSa,.one .d,.one .d,.one .d,.one .d,.one .d],.one (.one .b),true⟩,.r ⟨[0,1,2,3,4,5,6,7,8,10],0,[],[],false,[],[],[],[],[]⟩ R_k4f⟩
def E_k4g:Ja:=⟨.d ⟨[.g [.s,.s,.s,.b],.one .d],.one (.one .b),true⟩,.r ⟨[0,1,2,3],0,[],[],false,[],[],[],[],[]⟩ R_k4g⟩
def E_k4h:Ja:=⟨.d ⟨[.one .s,.one .d],.one oI,true⟩,.r ⟨[0,1,4,5,7,8,9,16],0,[],[(2,⟨[8],[],[],[],[]⟩)],false,[],[],[],[],[]⟩ R_k4h⟩
def E_k4i:Ja:=⟨.x ⟨[.d (aS 0),.d (aS 1),.d (aS 2)],[],[.s,.s,.s],.o 0 v0,zOb,[.s],false⟩,.r ⟨[0,1,2,6,7,9,10,11,12,13],0,[(3,⟨.slot 7,127,3,1,false,false⟩)],[(3,⟨[12],[],[127],[],[]⟩)],false,[],[],[],[],[]⟩ R_k4i⟩
def E_k4j:Ja:=⟨.x ⟨[.d (aS 0),.g [.d (aS 1),.d (aS 2)],.d (aI 3),.d (aS 4),.d (aI 5),.d (aS 6)],[],[.s,.s,.s,.i .i64,.s,.i .i64,.s],.t zVi,zOd,zSc,false⟩,.r ⟨[0,1,2,3,4,5,7,8,9,11,12,13,14,15,16,17,18,19,20,21,22,23,24,25,26,43,52,65,70,98,101,102,136,140],0,[(999999,⟨.cell 192 1,900000,3,1,false,false⟩),(999999,⟨.slot 13,900001,3,1,false,false⟩)],[(20,⟨[101,23,22],[],[],[],[]⟩)],false,[],[],[],[],[]⟩ R_k4j⟩
def E_k4k:Ja:=⟨.x ⟨[.p 0 0,.g zVh,.d (aI 10),.g zVj],[.box zVl],zSk,.t [.g [.d (aI 0),.o 1 v1],.o 2 v2,.d (aB 3)],[.box [.d (aB 4),.d (aB 5),.d (aI 6),.d (aS 7),.d (aS 8),.d (aS 9)],.arr 3 1 v1 false true,.arr 3 1 v2 false true],[.i .i64,.s,.s,.b,.b,.b,.i .i64,.s,.s,.s],false⟩,.r ⟨[0,1,2,3,5,7,8,9,10],1,[],[],false,[],[],[],[],[]⟩ R_k4k⟩
def E_k4l:Ja:=⟨.b 75 ⟨zVm,[],zSk,.t zVi,zOd,zSc,false⟩,.r ⟨[0,1,2,3,5,7,8,9,10],0,[],[],false,[],[],[],[],[]⟩ R_k4l⟩
def E_k4m:Ja:=⟨.x ⟨[.g zVg],[],zSg,.g zVf,[.arr 3 1 v3 false true],zSg,false⟩,.r ⟨[0,1,2],0,[],[],false,[],[],[],[],[]⟩ R_k4m⟩
def E_k4n:Ja:=⟨.x ⟨[.p 0 0,.g zVh,.d (aI 10),.g zVj],[.box [.d (aB 0),.d (aB 1),.d (aI 2),.o 1 v3,.o 2 v4,.o 3 v5],.arr 3 1 v3 false true,.arr 3 1 v4 false true,.arr 108 3 v5 true true],zSk,.t [.g [.d (aI 0),.o 4 v1],.o 5 v2],[.box [.d (aB 3),.d (aB 4),.d (aI 5),.o 1 v6,.o 6 v8,.o 3 v7],.arr 3 1 v6 false true,.dead,.arr 108 3 v7 true true,.arr 3 1 v1 true true,.arr 80 11 v2 true true,.arr 3 1 v8 false true],[.i .i64,.s,.s,.b,.b,.i .i64,.s,.s,.s],false⟩,.r ⟨[0,1,2,3,5,7,8,9,10,11,12,13,22,39,48,60,70],4,[(999999,⟨.cell 128 1,900000,3,1,true,false⟩),(999999,⟨.slot 9,900001,80,11,true,false⟩),(999999,⟨.cell 0 4,920004,3,1,false,true⟩),(999999,⟨.kill 2,930002,0,0,false,false⟩)],[],true,[],[],[47,66,84],[5],[]⟩ R_k4n⟩
def E_k4o:Ja:=⟨.b 38 ⟨zVm,[],zSk,.t [.g zVa,.o 1 v2],[.arr 3 1 v1 true true,.arr 80 11 v2 false true],zSb,false⟩,.r ⟨[0,1,2,3,5,7,8,9,10,11,12,13,22,39,48,60,70],0,[(999999,⟨.cell 128 1,900000,3,1,true,false⟩),(999999,⟨.slot 9,900001,80,11,false,false⟩)],[],true,[],[],[47,66,84],[9,14],[]⟩ R_k4o⟩
def E_k4p:Ja:=⟨.x ⟨[.g [.d (aI 0),.d (aS 1),.d (aS 2),.d (aS 3)],.g [.d (aB 4),.d (aB 5),.d (aI 6),.d (aS 7),.d (aS 8),.d (aS 9)],.d (aI 10),.g zVj],[],[.i .i64,.s,.s,.s,.b,.b,.i .i64,.s,.s,.s,.i .i64,.i .i64,.i .i64,.i .i64,.s],.t [.g zVk,.g [.d (aI 6),.o 3 v7],.o 4 v8],[.arr 3 1 v3 false true,.arr 3 1 v4 false true,.arr 108 3 v5 true true,.arr 3 1 v7 true true,.arr 80 11 v8 true true],zSh,true⟩,.r ⟨[0,1,2,3,4,5,7,8,9,10,11,12,13,24],0,[(999999,⟨.cell 128 3,900000,3,1,false,false⟩),(999999,⟨.cell 128 4,900001,3,1,false,false⟩),(999999,⟨.cell 128 5,900002,108,3,true,false⟩),(999999,⟨.cell 144 1,900003,3,1,true,false⟩),(999999,⟨.slot 10,900004,80,11,true,false⟩)],[],true,[],[],[],[],[(4,[.idx v9 v11 (.g zSe) 23],3,(aE v12 v23),[33])]⟩ R_k4p⟩
def E_k4q:Ja:=⟨.d ⟨[.one .s,.one .s],.one (.one .b),true⟩,.r ⟨[0,1,4,5,10,14,25],0,[],[(4,⟨[5],[],[],[],[]⟩)],false,[],[],[],[],[]⟩ R_k4q⟩
def E_k4r:Ja:=⟨.d ⟨[.g [.i .i64,.s],.g [.i .i64,.s]],.one (.one .b),true⟩,.r ⟨[0,1,2,3,4,9,15],0,[],[],false,[],[],[],[],[]⟩ R_k4r⟩
def E_k4s:Ja:=⟨.d ⟨[.g zSe,.g zSe],.one (.one .b),true⟩,.r ⟨[0,1,2,3,4,9,15],0,[],[],false,[],[],[],[],[]⟩ R_k4s⟩
def E_k4t:Ja:=⟨.d ⟨[.one .s,.one .s],.one (.one .b),true⟩,.r ⟨[0,1,4,5,10,14,26],0,[],[(4,⟨[5],[],[],[],[]⟩)],false,[],[],[],[],[]⟩ R_k4t⟩
def E_k4u:Ja:=⟨.d ⟨[.g zSf,.g zSf],.one (.one .b),true⟩,.r ⟨[0,1,2,3,4,9,14,19,25,31,37],0,[],[],false,[],[],[],[],[]⟩ R_k4u⟩
def E_k4v:Ja:=⟨.d ⟨[.g zSg,.g zSg],.one (.one .b),true⟩,.r ⟨[0,1,2,3,4,9,14,19,25],0,[],[],false,[],[],[],[],[]⟩ R_k4v⟩
def E_k4w:Ja:=⟨.d ⟨[.g zSj,.g zSj],.one (.one .b),true⟩,.r ⟨[0,1,2,3,4,9,14,19,24,30,36,42,48],0,[],[],false,[],[],[],[],[]⟩ R_k4w⟩
def E_k4x:Ja:=⟨.d ⟨[.one .s,.one .s],.one (.one .b),true⟩,.r ⟨[0,1,4,5,10,14,26],0,[],[(4,⟨[5],[],[],[],[]⟩)],false,[],[],[],[],[]⟩ R_k4x⟩
def E_k4y:Ja:=⟨.d ⟨[.g zSa,.g zSa],.one (.one .b),true⟩,.r ⟨[0,1,2,3,4,10,16,21],0,[],[],false,[],[],[],[],[]⟩ R_k4y⟩
def E_k4z:Ja:=⟨.d ⟨[.g zSi,.g zSi],.one (.one .b),true⟩,.r ⟨[0,1,2,3,4,9,14,19,25],0,[],[],false,[],[],[],[],[]⟩ R_k4z⟩
def E_k50:Ja:=⟨.d ⟨[.one .s,.one .s],.one (.one .b),true⟩,.r ⟨[0,1,4,5,10,14,26],0,[],[(4,⟨[5],[],[],[],[]⟩)],false,[],[],[],[],[]⟩ R_k50⟩
def E_k51:Ja:=⟨.d ⟨[.one .s,.one .s],.one (.one .b),true⟩,.r ⟨[0,1,4,5,10,14,26],0,[],[(4,⟨[5],[],[],[],[]⟩)],false,[],[],[],[],[]⟩ R_k51⟩
def E_k52:Ja:=⟨.d ⟨[.g zSd,.g zSd],.one (.one .b),true⟩,.r ⟨[0,1,2,3,4,9,15,21,27],0,[],[],false,[],[],[],[],[]⟩ R_k52⟩
def E_k53:Ja:=⟨.x ⟨zVb,[.arr 3 1 v0 true true],[.s,.i .i64],.d (aI 0),zOa,[.i .i64,.s],false⟩,.r ⟨[0,1,4,5,9],1,[],[(2,⟨[5,1],[],[0],[],[]⟩)],false,[],[],[],[],[]⟩ R_k53⟩
def E_k54:Ja:=⟨.x ⟨zVb,[.arr 148 6 v0 true true],[.s,.i .i64],.d (aI 0),[.arr 148 6 v1 true true],[.i .i64,.s],false⟩,.r ⟨[0,1,4,5,9],1,[],[(2,⟨[5,1],[],[0],[],[]⟩)],false,[],[10,11],[],[],[]⟩ R_k54⟩
def E_k55:Ja:=⟨.x ⟨zVb,[.arr 98 1 v0 true true],[.s,.i .i64],.d (aI 0),[.arr 98 1 v1 true true],[.i .i64,.s],false⟩,.r ⟨[0,1,4,5,9],1,[],[(2,⟨[5,1],[],[0],[],[]⟩)],false,[],[4],[],[],[]⟩ R_k55⟩
def E_k56:Ja:=⟨.x ⟨[.g [.d (aI 0),.o 0 v1,.o 1 v2,.o 2 v3],.d (aI 4)],zOe,[.i .i64,.s,.s,.s,.i .i64],.d (aI 0),zOe,zSd,false⟩,.r ⟨[0,1,2,4],3,[],[],false,[],[],[],[],[]⟩ R_k56⟩
def E_k57:Ja:=⟨.x ⟨zVb,[.arr 108 3 v0 true true],[.s,.i .i64],.d (aI 0),[.arr 108 3 v1 true true],[.i .i64,.s],false⟩,.r ⟨[0,1,4,5,9],1,[],[(2,⟨[5,1],[],[0],[],[]⟩)],false,[],[8],[],[],[]⟩ R_k57⟩
def E_k58:Ja:=⟨.x ⟨[.g zVk,.d (aI 6)],zOf,[.b,.b,.i .i64,.s,.s,.s,.i .i64],.d (aI 0),[.arr 3 1 v1 true true,.arr 3 1 v2 true true,.arr 108 3 v3 true true],zSd,false⟩,.r ⟨[0,1,2,4],3,[],[],false,[],[],[],[],[]⟩ R_k58⟩
def E_k59:Ja:=⟨.x ⟨[.g zVf,.d (aI 4)],[.arr 3 1 v3 true true],[.i .i64,.i .i64,.i .i64,.s,.i .i64],.d (aI 0),zOa,[.i .i64,.s],false⟩,.r ⟨[0,1,2,4],1,[],[],false,[],[],[],[],[]⟩ R_k59⟩
def E_k5a:Ja:=⟨.x ⟨[.g zVa,.d (aI 2)],zOa,[.i .i64,.s,.i .i64],.d (aI 0),zOa,[.i .i64,.s],false⟩,.r ⟨[0,1,2,4],1,[],[],false,[],[],[],[],[]⟩ R_k5a⟩
def E_k5b:Ja:=⟨.x ⟨zVb,[.arr 80 11 v0 true true],[.s,.i .i64],.d (aI 0),[.arr 80 11 v1 true true],[.i .i64,.s],false⟩,.r ⟨[0,1,4,5,9],1,[],[(2,⟨[5,1],[],[0],[],[]⟩)],false,[],[18,19,20,21],[],[],[]⟩ R_k5b⟩
def E_k5c:Ja:=⟨.d ⟨[.one .s,oI],.one oI,true⟩,.r ⟨[0,1,4,5,9,17],0,[],[(2,⟨[5,1],[],[],[],[]⟩)],false,[],[],[],[],[]⟩ R_k5c⟩
def E_k5d:Ja:=⟨.d ⟨[.one .s,oI],.one oI,true⟩,.r ⟨[0,1,4,5,9,18,28,40],0,[],[(2,⟨[5,1],[],[],[],[]⟩)],false,[],[],[],[],[]⟩ R_k5d⟩
def E_k5e:Ja:=⟨.d ⟨[.g zSf,oI],.one oI,true⟩,.r ⟨[0,1,2,4,10,16,22],0,[],[],false,[],[],[],[],[]⟩ R_k5e⟩
def E_k5f:Ja:=⟨.d ⟨[.g [.i .i64,.s],oI],.one oI,true⟩,.r ⟨[0,1,2,4,10],0,[],[],false,[],[],[],[],[]⟩ R_k5f⟩
def E_k5g:Ja:=⟨.d ⟨[.one .s,oI],.one oI,true⟩,.r ⟨[0,1,4,5,9,18,27,36,45,55,65,75,87,96,105,114],0,[],[(2,⟨[5,1],[],[],[],[]⟩)],false,[],[],[],[],[]⟩ R_k5g⟩
def E_k5h:Ja:=⟨.d ⟨[.g zSd,.g zSf,oI,.g zSg],.one (.one .b),true⟩,.r ⟨[0,1,2,3,4,5,7,8,9,10,11,12,13,14,15,16,17,18,19,20,21,22,23,24,29,34,39,82,87,92,97,126,140,145,150,153,181,186,191,196,199],0,[],[],true,[],[],[],[],[]⟩ R_k5h⟩
def L:Vl:=[(f_k0,E_k0),(f_k1,E_k1),(f_k2,E_k2),(f_k3,E_k3),(f_k4,E_k4),(f_k5,E_k5),(f_k6,E_k6),(f_k7,E_k7),(f_k8,E_k8),(f_k9,E_k9),(f_ka,E_ka),(f_kb,E_kb),(f_kc,E_kc),(f_kd,E_kd),(f_ke,E_ke),(f_kf,E_kf),(f_kg,E_kg),(f_kh,E_kh),(f_ki,E_ki),(f_kj,E_kj),(f_kk,E_kk),(f_kl,E_kl),(f_km,E_km),(f_kn,E_kn),(f_ko,E_ko),(f_kp,E_kp),(f_kq,E_kq),(f_kr,E_kr),(f_ks,E_ks),(f_kt,E_kt),(f_ku,E_ku),(f_kv,E_kv),(f_kw,E_kw),(f_kx,E_kx),(f_ky,E_ky),(f_kz,E_kz),(f_k10,E_k10),(f_k11,E_k11),(f_k12,E_k12),(f_k13,E_k13),(f_k14,E_k14),(f_k15,E_k15),(f_k16,E_k16),(f_k17,E_k17),(f_k18,E_k18),(f_k19,E_k19),(f_k1a,E_k1a),(f_k1b,E_k1b),(f_k1c,E_k1c),(f_k1d,E_k1d),(f_k1e,E_k1e),(f_k1f,E_k1f),(f_k1g,E_k1g),(f_k1h,E_k1h),(f_k1i,E_k1i),(f_k1j,E_k1j),(f_k1k,E_k1k),(f_k1l,E_k1l),(f_k1m,E_k1m),(f_k1n,E_k1n),(f_k1o,E_k1o),(f_k1p,E_k1p),(f_k1q,E_k1q),(f_k1r,E_k1r),(f_k1s,E_k1s),(f_k1t,E_k1t),(f_k1u,E_k1u),(f_k1v,E_k1v),(f_k1w,E_k1w),(f_k1x,E_k1x),(f_k1y,E_k1y),(f_k1z,E_k1z),(f_k20,E_k20),(f_k21,E_k21),(f_k22,E_k22),(f_k23,E_k23),(f_k24,E_k24),(f_k25,E_k25),(f_k26,E_k26),(f_k27,E_k27),(f_k28,E_k28),(f_k29,E_k29),(f_k2a,E_k2a),(f_k2b,E_k2b),(f_k2c,E_k2c),(f_k2d,E_k2d),(f_k2e,E_k2e),(f_k2f,E_k2f),(f_k2g,E_k2g),(f_k2h,E_k2h),(f_k2i,E_k2i),(f_k2j,E_k2j),(f_k2k,E_k2k),(f_k2l,E_k2l),(f_k2m,E_k2m),(f_k2n,E_k2n),(f_k2o,E_k2o),(f_k2p,E_k2p),(f_k2q,E_k2q),(f_k2r,E_k2r),(f_k2s,E_k2s),(f_k2t,E_k2t),(f_k2u,E_k2u),(f_k2v,E_k2v),(f_k2w,E_k2w),(f_k2x,E_k2x),(f_k2y,E_k2y),(f_k2z,E_k2z),(f_k30,E_k30),(f_k31,E_k31),(f_k32,E_k32),(f_k33,E_k33),(f_k34,E_k34),(f_k35,E_k35),(f_k36,E_k36),(f_k37,E_k37),(f_k38,E_k38),(f_k39,E_k39),(f_k3a,E_k3a),(f_k3b,E_k3b),(f_k3c,E_k3c),(f_k3d,E_k3d),(f_k3e,E_k3e),(f_k3f,E_k3f),(f_k3g,E_k3g),(f_k3h,E_k3h),(f_k3i,E_k3i),(f_k3j,E_k3j),(f_k3k,E_k3k),(f_k3l,E_k3l),(f_k3m,E_k3m),(f_k3n,E_k3n),(f_k3o,E_k3o),(f_k3p,E_k3p),(f_k3q,E_k3q),(f_k3r,E_k3r),(f_k3s,E_k3s),(f_k3t,E_k3t),(f_k3u,E_k3u),(f_k3v,E_k3v),(f_k3w,E_k3w),(f_k3x,E_k3x),(f_k3y,E_k3y),(f_k3z,E_k3z),(f_k40,E_k40),(f_k41,E_k41),(f_k42,E_k42),(f_k43,E_k43),(f_k44,E_k44),(f_k45,E_k45),(f_k46,E_k46),(f_k47,E_k47),(f_k48,E_k48),(f_k49,E_k49),(f_k4a,E_k4a),(f_k4b,E_k4b),(f_k4c,E_k4c),(f_k4d,E_k4d),(f_k4e,E_k4e),(f_k4f,E_k4f),(f_k4g,E_k4g),(f_k4h,E_k4h),(f_k4i,E_k4i),(f_k4j,E_k4j),(f_k4k,E_k4k),(f_k4l,E_k4l),(f_k4m,E_k4m),(f_k4n,E_k4n),(f_k4o,E_k4o),(f_k4p,E_k4p),(f_k4q,E_k4q),(f_k4r,E_k4r),(f_k4s,E_k4s),(f_k4t,E_k4t),(f_k4u,E_k4u),(f_k4v,E_k4v),(f_k4w,E_k4w),(f_k4x,E_k4x),(f_k4y,E_k4y),(f_k4z,E_k4z),(f_k50,E_k50),(f_k51,E_k51),(f_k52,E_k52),(f_k53,E_k53),(f_k54,E_k54),(f_k55,E_k55),(f_k56,E_k56),(f_k57,E_k57),(f_k58,E_k58),(f_k59,E_k59),(f_k5a,E_k5a),(f_k5b,E_k5b),(f_k5c,E_k5c),(f_k5d,E_k5d),(f_k5e,E_k5e),(f_k5f,E_k5f),(f_k5g,E_k5g),(f_k5h,E_k5h)]
set_option maxRecDepth 100000
abbrev Lk (f:Nat) (e:Ja):Prop:=L.lookup f=some e
theorem L_k0:Lk f_k0 E_k0:=rfl
theorem L_k1:Lk f_k1 E_k1:=rfl
theorem L_k2:Lk f_k2 E_k2:=rfl
theorem L_k3:Lk f_k3 E_k3:=rfl
theorem L_k4:Lk f_k4 E_k4:=rfl
theorem L_k5:Lk f_k5 E_k5:=rfl
theorem L_k6:Lk f_k6 E_k6:=rfl
theorem L_k7:Lk f_k7 E_k7:=rfl
theorem L_k8:Lk f_k8 E_k8:=rfl
theorem L_k9:Lk f_k9 E_k9:=rfl
theorem L_ka:Lk f_ka E_ka:=rfl
theorem L_kb:Lk f_kb E_kb:=rfl
theorem L_kc:Lk f_kc E_kc:=rfl
theorem L_kd:Lk f_kd E_kd:=rfl
theorem L_ke:Lk f_ke E_ke:=rfl
theorem L_kf:Lk f_kf E_kf:=rfl
theorem L_kg:Lk f_kg E_kg:=rfl
theorem L_kh:Lk f_kh E_kh:=rfl
theorem L_ki:Lk f_ki E_ki:=rfl
theorem L_kj:Lk f_kj E_kj:=rfl
theorem L_kk:Lk f_kk E_kk:=rfl
theorem L_kl:Lk f_kl E_kl:=rfl
theorem L_km:Lk f_km E_km:=rfl
theorem L_kn:Lk f_kn E_kn:=rfl
theorem L_ko:Lk f_ko E_ko:=rfl
theorem L_kp:Lk f_kp E_kp:=rfl
theorem L_kq:Lk f_kq E_kq:=rfl
theorem L_kr:Lk f_kr E_kr:=rfl
theorem L_ks:Lk f_ks E_ks:=rfl
theorem L_kt:Lk f_kt E_kt:=rfl
theorem L_ku:Lk f_ku E_ku:=rfl
theorem L_kv:Lk f_kv E_kv:=rfl
theorem L_kw:Lk f_kw E_kw:=rfl
theorem L_kx:Lk f_kx E_kx:=rfl
theorem L_ky:Lk f_ky E_ky:=rfl
theorem L_kz:Lk f_kz E_kz:=rfl
theorem L_k10:Lk f_k10 E_k10:=rfl
theorem L_k11:Lk f_k11 E_k11:=rfl
theorem L_k12:Lk f_k12 E_k12:=rfl
theorem L_k13:Lk f_k13 E_k13:=rfl
theorem L_k14:Lk f_k14 E_k14:=rfl
theorem L_k15:Lk f_k15 E_k15:=rfl
theorem L_k16:Lk f_k16 E_k16:=rfl
theorem L_k17:Lk f_k17 E_k17:=rfl
theorem L_k18:Lk f_k18 E_k18:=rfl
theorem L_k19:Lk f_k19 E_k19:=rfl
theorem L_k1a:Lk f_k1a E_k1a:=rfl
theorem L_k1b:Lk f_k1b E_k1b:=rfl
theorem L_k1c:Lk f_k1c E_k1c:=rfl
theorem L_k1d:Lk f_k1d E_k1d:=rfl
theorem L_k1e:Lk f_k1e E_k1e:=rfl
theorem L_k1f:Lk f_k1f E_k1f:=rfl
theorem L_k1g:Lk f_k1g E_k1g:=rfl
theorem L_k1h:Lk f_k1h E_k1h:=rfl
theorem L_k1i:Lk f_k1i E_k1i:=rfl
theorem L_k1j:Lk f_k1j E_k1j:=rfl
theorem L_k1k:Lk f_k1k E_k1k:=rfl
theorem L_k1l:Lk f_k1l E_k1l:=rfl
theorem L_k1m:Lk f_k1m E_k1m:=rfl
theorem L_k1n:Lk f_k1n E_k1n:=rfl
theorem L_k1o:Lk f_k1o E_k1o:=rfl
theorem L_k1p:Lk f_k1p E_k1p:=rfl
theorem L_k1q:Lk f_k1q E_k1q:=rfl
theorem L_k1r:Lk f_k1r E_k1r:=rfl
theorem L_k1s:Lk f_k1s E_k1s:=rfl
theorem L_k1t:Lk f_k1t E_k1t:=rfl
theorem L_k1u:Lk f_k1u E_k1u:=rfl
theorem L_k1v:Lk f_k1v E_k1v:=rfl
theorem L_k1w:Lk f_k1w E_k1w:=rfl
theorem L_k1x:Lk f_k1x E_k1x:=rfl
theorem L_k1y:Lk f_k1y E_k1y:=rfl
theorem L_k1z:Lk f_k1z E_k1z:=rfl
theorem L_k20:Lk f_k20 E_k20:=rfl
theorem L_k21:Lk f_k21 E_k21:=rfl
theorem L_k22:Lk f_k22 E_k22:=rfl
theorem L_k23:Lk f_k23 E_k23:=rfl
theorem L_k24:Lk f_k24 E_k24:=rfl
theorem L_k25:Lk f_k25 E_k25:=rfl
theorem L_k26:Lk f_k26 E_k26:=rfl
theorem L_k27:Lk f_k27 E_k27:=rfl
theorem L_k28:Lk f_k28 E_k28:=rfl
theorem L_k29:Lk f_k29 E_k29:=rfl
theorem L_k2a:Lk f_k2a E_k2a:=rfl
theorem L_k2b:Lk f_k2b E_k2b:=rfl
theorem L_k2c:Lk f_k2c E_k2c:=rfl
theorem L_k2d:Lk f_k2d E_k2d:=rfl
theorem L_k2e:Lk f_k2e E_k2e:=rfl
theorem L_k2f:Lk f_k2f E_k2f:=rfl
theorem L_k2g:Lk f_k2g E_k2g:=rfl
theorem L_k2h:Lk f_k2h E_k2h:=rfl
theorem L_k2i:Lk f_k2i E_k2i:=rfl
theorem L_k2j:Lk f_k2j E_k2j:=rfl
theorem L_k2k:Lk f_k2k E_k2k:=rfl
theorem L_k2l:Lk f_k2l E_k2l:=rfl
theorem L_k2m:Lk f_k2m E_k2m:=rfl
theorem L_k2n:Lk f_k2n E_k2n:=rfl
theorem L_k2o:Lk f_k2o E_k2o:=rfl
theorem L_k2p:Lk f_k2p E_k2p:=rfl
theorem L_k2q:Lk f_k2q E_k2q:=rfl
theorem L_k2r:Lk f_k2r E_k2r:=rfl
theorem L_k2s:Lk f_k2s E_k2s:=rfl
theorem L_k2t:Lk f_k2t E_k2t:=rfl
theorem L_k2u:Lk f_k2u E_k2u:=rfl
theorem L_k2v:Lk f_k2v E_k2v:=rfl
theorem L_k2w:Lk f_k2w E_k2w:=rfl
theorem L_k2x:Lk f_k2x E_k2x:=rfl
theorem L_k2y:Lk f_k2y E_k2y:=rfl
theorem L_k2z:Lk f_k2z E_k2z:=rfl
theorem L_k30:Lk f_k30 E_k30:=rfl
theorem L_k31:Lk f_k31 E_k31:=rfl
theorem L_k32:Lk f_k32 E_k32:=rfl
theorem L_k33:Lk f_k33 E_k33:=rfl
theorem L_k34:Lk f_k34 E_k34:=rfl
theorem L_k35:Lk f_k35 E_k35:=rfl
theorem L_k36:Lk f_k36 E_k36:=rfl
theorem L_k37:Lk f_k37 E_k37:=rfl
theorem L_k38:Lk f_k38 E_k38:=rfl
theorem L_k39:Lk f_k39 E_k39:=rfl
theorem L_k3a:Lk f_k3a E_k3a:=rfl
theorem L_k3b:Lk f_k3b E_k3b:=rfl
theorem L_k3c:Lk f_k3c E_k3c:=rfl
theorem L_k3d:Lk f_k3d E_k3d:=rfl
theorem L_k3e:Lk f_k3e E_k3e:=rfl
theorem L_k3f:Lk f_k3f E_k3f:=rfl
theorem L_k3g:Lk f_k3g E_k3g:=rfl
theorem L_k3h:Lk f_k3h E_k3h:=rfl
theorem L_k3i:Lk f_k3i E_k3i:=rfl
theorem L_k3j:Lk f_k3j E_k3j:=rfl
theorem L_k3k:Lk f_k3k E_k3k:=rfl
theorem L_k3l:Lk f_k3l E_k3l:=rfl
theorem L_k3m:Lk f_k3m E_k3m:=rfl
theorem L_k3n:Lk f_k3n E_k3n:=rfl
theorem L_k3o:Lk f_k3o E_k3o:=rfl
theorem L_k3p:Lk f_k3p E_k3p:=rfl
theorem L_k3q:Lk f_k3q E_k3q:=rfl
theorem L_k3r:Lk f_k3r E_k3r:=rfl
theorem L_k3s:Lk f_k3s E_k3s:=rfl
theorem L_k3t:Lk f_k3t E_k3t:=rfl
theorem L_k3u:Lk f_k3u E_k3u:=rfl
theorem L_k3v:Lk f_k3v E_k3v:=rfl
theorem L_k3w:Lk f_k3w E_k3w:=rfl
theorem L_k3x:Lk f_k3x E_k3x:=rfl
theorem L_k3y:Lk f_k3y E_k3y:=rfl
theorem L_k3z:Lk f_k3z E_k3z:=rfl
theorem L_k40:Lk f_k40 E_k40:=rfl
theorem L_k41:Lk f_k41 E_k41:=rfl
theorem L_k42:Lk f_k42 E_k42:=rfl
theorem L_k43:Lk f_k43 E_k43:=rfl
theorem L_k44:Lk f_k44 E_k44:=rfl
theorem L_k45:Lk f_k45 E_k45:=rfl
theorem L_k46:Lk f_k46 E_k46:=rfl
theorem L_k47:Lk f_k47 E_k47:=rfl
theorem L_k48:Lk f_k48 E_k48:=rfl
theorem L_k49:Lk f_k49 E_k49:=rfl
theorem L_k4a:Lk f_k4a E_k4a:=rfl
theorem L_k4b:Lk f_k4b E_k4b:=rfl
theorem L_k4c:Lk f_k4c E_k4c:=rfl
theorem L_k4d:Lk f_k4d E_k4d:=rfl
theorem L_k4e:Lk f_k4e E_k4e:=rfl
theorem L_k4f:Lk f_k4f E_k4f:=rfl
theorem L_k4g:Lk f_k4g E_k4g:=rfl
theorem L_k4h:Lk f_k4h E_k4h:=rfl
theorem L_k4i:Lk f_k4i E_k4i:=rfl
theorem L_k4j:Lk f_k4j E_k4j:=rfl
theorem L_k4k:Lk f_k4k E_k4k:=rfl
theorem L_k4l:Lk f_k4l E_k4l:=rfl
theorem L_k4m:Lk f_k4m E_k4m:=rfl
theorem L_k4n:Lk f_k4n E_k4n:=rfl
theorem L_k4o:Lk f_k4o E_k4o:=rfl
theorem L_k4p:Lk f_k4p E_k4p:=rfl
theorem L_k4q:Lk f_k4q E_k4q:=rfl
theorem L_k4r:Lk f_k4r E_k4r:=rfl
theorem L_k4s:Lk f_k4s E_k4s:=rfl
theorem L_k4t:Lk f_k4t E_k4t:=rfl
theorem L_k4u:Lk f_k4u E_k4u:=rfl
theorem L_k4v:Lk f_k4v E_k4v:=rfl
theorem L_k4w:Lk f_k4w E_k4w:=rfl
theorem L_k4x:Lk f_k4x E_k4x:=rfl
theorem L_k4y:Lk f_k4y E_k4y:=rfl
theorem L_k4z:Lk f_k4z E_k4z:=rfl
theorem L_k50:Lk f_k50 E_k50:=rfl
theorem L_k51:Lk f_k51 E_k51:=rfl
theorem L_k52:Lk f_k52 E_k52:=rfl
theorem L_k53:Lk f_k53 E_k53:=rfl
theorem L_k54:Lk f_k54 E_k54:=rfl
theorem L_k55:Lk f_k55 E_k55:=rfl
theorem L_k56:Lk f_k56 E_k56:=rfl
theorem L_k57:Lk f_k57 E_k57:=rfl
theorem L_k58:Lk f_k58 E_k58:=rfl
theorem L_k59:Lk f_k59 E_k59:=rfl
theorem L_k5a:Lk f_k5a E_k5a:=rfl
theorem L_k5b:Lk f_k5b E_k5b:=rfl
theorem L_k5c:Lk f_k5c E_k5c:=rfl
theorem L_k5d:Lk f_k5d E_k5d:=rfl
theorem L_k5e:Lk f_k5e E_k5e:=rfl
theorem L_k5f:Lk f_k5f E_k5f:=rfl
theorem L_k5g:Lk f_k5g E_k5g:=rfl
theorem L_k5h:Lk f_k5h E_k5h:=rfl
end Go.Proofs.YtgpjnnkmmplicaaGreatDoor

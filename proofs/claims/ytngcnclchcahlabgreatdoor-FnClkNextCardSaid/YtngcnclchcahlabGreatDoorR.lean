/- The residual programs of the functions,and the table of them. -/
import Derived.Test.YtngcnclchcahlabGreatDoorTd
set_option linter.unusedVariables false
set_option linter.unusedSimpArgs false
namespace Go.Proofs.YtngcnclchcahlabGreatDoor
open Go Go.Tm
theorem sC {α:Type} {a:α} {as bs:List α}:(a::as)++bs=a::(as++bs):=rfl
theorem sN {α:Type} {as:List α}:[]++as=as:=rfl
abbrev aI (k:Nat):E:= .vi .i64 (.v k)
abbrev aS (k:Nat):E:= .s (.v k)
abbrev aB (k:Nat):E:= .vb (.v k)
abbrev aZ (k:Int):E:= .vi .i64 (.z k)
abbrev f_k0:Nat:=16
abbrev f_k1:Nat:=32
abbrev f_k2:Nat:=67
abbrev f_k3:Nat:=188
abbrev f_k4:Nat:=187
abbrev f_k5:Nat:=152
abbrev f_k6:Nat:=189
abbrev f_k7:Nat:=57
abbrev f_k8:Nat:=59
abbrev f_k9:Nat:=170
abbrev f_ka:Nat:=134
abbrev f_kb:Nat:=96
abbrev f_kc:Nat:=150
abbrev f_kd:Nat:=116
abbrev f_ke:Nat:=77
abbrev f_kf:Nat:=58
abbrev f_kg:Nat:=52
abbrev f_kh:Nat:=60
abbrev f_ki:Nat:=23
abbrev f_kj:Nat:=148
abbrev f_kk:Nat:=113
abbrev f_kl:Nat:=149
abbrev f_km:Nat:=56
abbrev f_kn:Nat:=114
abbrev f_ko:Nat:=115
abbrev f_kp:Nat:=76
abbrev f_kq:Nat:=79
abbrev f_kr:Nat:=109
abbrev f_ks:Nat:=110
abbrev f_kt:Nat:=111
abbrev f_ku:Nat:=61
abbrev f_kv:Nat:=138
abbrev f_kw:Nat:=135
abbrev f_kx:Nat:=171
abbrev f_ky:Nat:=136
abbrev f_kz:Nat:=137
abbrev f_k10:Nat:=139
abbrev f_k11:Nat:=99
abbrev f_k12:Nat:=62
abbrev f_k13:Nat:=63
abbrev f_k14:Nat:=64
abbrev f_k15:Nat:=66
abbrev f_k16:Nat:=65
abbrev f_k17:Nat:=24
abbrev f_k18:Nat:=80
abbrev f_k19:Nat:=35
abbrev f_k1a:Nat:=172
abbrev f_k1b:Nat:=140
abbrev f_k1c:Nat:=100
abbrev f_k1d:Nat:=173
abbrev f_k1e:Nat:=199
abbrev f_k1f:Nat:=141
abbrev f_k1g:Nat:=142
abbrev f_k1h:Nat:=101
abbrev f_k1i:Nat:=102
abbrev f_k1j:Nat:=68
abbrev f_k1k:Nat:=174
abbrev f_k1l:Nat:=175
abbrev f_k1m:Nat:=200
abbrev f_k1n:Nat:=103
abbrev f_k1o:Nat:=176
abbrev f_k1p:Nat:=69
abbrev f_k1q:Nat:=51
abbrev f_k1r:Nat:=25
abbrev f_k1s:Nat:=145
abbrev f_k1t:Nat:=54
abbrev f_k1u:Nat:=78
abbrev f_k1v:Nat:=55
abbrev f_k1w:Nat:=31
abbrev f_k1x:Nat:=185
abbrev f_k1y:Nat:=186
abbrev f_k1z:Nat:=147
abbrev f_k20:Nat:=201
abbrev f_k21:Nat:=177
abbrev f_k22:Nat:=50
abbrev f_k23:Nat:=97
abbrev f_k24:Nat:=228
abbrev f_k25:Nat:=223
abbrev f_k26:Nat:=219
abbrev f_k27:Nat:=224
abbrev f_k28:Nat:=225
abbrev f_k29:Nat:=220
abbrev f_k2a:Nat:=214
abbrev f_k2b:Nat:=202
abbrev f_k2c:Nat:=181
abbrev f_k2d:Nat:=203
abbrev f_k2e:Nat:=178
abbrev f_k2f:Nat:=180
abbrev f_k2g:Nat:=33
abbrev f_k2h:Nat:=204
abbrev f_k2i:Nat:=36
abbrev f_k2j:Nat:=98
abbrev f_k2k:Nat:=53
abbrev f_k2l:Nat:=20
abbrev f_k2m:Nat:=215
abbrev f_k2n:Nat:=206
abbrev f_k2o:Nat:=205
abbrev f_k2p:Nat:=179
abbrev f_k2q:Nat:=182
abbrev f_k2r:Nat:=183
abbrev f_k2s:Nat:=184
abbrev f_k2t:Nat:=146
abbrev f_k2u:Nat:=112
abbrev f_k2v:Nat:=75
abbrev f_k2w:Nat:=30
abbrev f_k2x:Nat:=34
abbrev f_k2y:Nat:=151
abbrev f_k2z:Nat:=117
abbrev f_k30:Nat:=81
abbrev f_k31:Nat:=37
abbrev f_k32:Nat:=82
abbrev f_k33:Nat:=83
abbrev f_k34:Nat:=38
abbrev f_k35:Nat:=15
abbrev f_k36:Nat:=4
abbrev f_k37:Nat:=71
abbrev f_k38:Nat:=144
abbrev f_k39:Nat:=106
abbrev f_k3a:Nat:=105
abbrev f_k3b:Nat:=143
abbrev f_k3c:Nat:=104
abbrev f_k3d:Nat:=70
abbrev f_k3e:Nat:=168
abbrev f_k3f:Nat:=164
abbrev f_k3g:Nat:=169
abbrev f_k3h:Nat:=132
abbrev f_k3i:Nat:=93
abbrev f_k3j:Nat:=107
abbrev f_k3k:Nat:=72
abbrev f_k3l:Nat:=74
abbrev f_k3m:Nat:=108
abbrev f_k3n:Nat:=46
abbrev f_k3o:Nat:=73
abbrev f_k3p:Nat:=28
abbrev f_k3q:Nat:=27
abbrev f_k3r:Nat:=124
abbrev f_k3s:Nat:=42
abbrev f_k3t:Nat:=210
abbrev f_k3u:Nat:=193
abbrev f_k3v:Nat:=26
abbrev f_k3w:Nat:=197
abbrev f_k3x:Nat:=165
abbrev f_k3y:Nat:=211
abbrev f_k3z:Nat:=212
abbrev f_k40:Nat:=213
abbrev f_k41:Nat:=194
abbrev f_k42:Nat:=195
abbrev f_k43:Nat:=196
abbrev f_k44:Nat:=159
abbrev f_k45:Nat:=125
abbrev f_k46:Nat:=160
abbrev f_k47:Nat:=126
abbrev f_k48:Nat:=161
abbrev f_k49:Nat:=127
abbrev f_k4a:Nat:=163
abbrev f_k4b:Nat:=162
abbrev f_k4c:Nat:=128
abbrev f_k4d:Nat:=89
abbrev f_k4e:Nat:=129
abbrev f_k4f:Nat:=198
abbrev f_k4g:Nat:=166
abbrev f_k4h:Nat:=167
abbrev f_k4i:Nat:=130
abbrev f_k4j:Nat:=90
abbrev f_k4k:Nat:=40
abbrev f_k4l:Nat:=153
abbrev f_k4m:Nat:=118
abbrev f_k4n:Nat:=154
abbrev f_k4o:Nat:=207
abbrev f_k4p:Nat:=208
abbrev f_k4q:Nat:=190
abbrev f_k4r:Nat:=155
abbrev f_k4s:Nat:=120
abbrev f_k4t:Nat:=119
abbrev f_k4u:Nat:=84
abbrev f_k4v:Nat:=29
abbrev f_k4w:Nat:=94
abbrev f_k4x:Nat:=85
abbrev f_k4y:Nat:=157
abbrev f_k4z:Nat:=209
abbrev f_k50:Nat:=191
abbrev f_k51:Nat:=192
abbrev f_k52:Nat:=156
abbrev f_k53:Nat:=133
abbrev f_k54:Nat:=158
abbrev f_k55:Nat:=121
abbrev f_k56:Nat:=122
abbrev f_k57:Nat:=86
abbrev f_k58:Nat:=123
abbrev f_k59:Nat:=87
abbrev f_k5a:Nat:=88
abbrev f_k5b:Nat:=39
abbrev f_k5c:Nat:=17
abbrev f_k5d:Nat:=41
abbrev f_k5e:Nat:=48
abbrev f_k5f:Nat:=43
abbrev f_k5g:Nat:=18
abbrev f_k5h:Nat:=44
abbrev f_k5i:Nat:=131
abbrev f_k5j:Nat:=91
abbrev f_k5k:Nat:=92
abbrev f_k5l:Nat:=45
abbrev f_k5m:Nat:=95
abbrev f_k5n:Nat:=47
abbrev f_k5o:Nat:=49
abbrev f_k5p:Nat:=19
abbrev f_k5q:Nat:=5
abbrev f_k5r:Nat:=10
abbrev f_k5s:Nat:=6
abbrev f_k5t:Nat:=21
abbrev f_k5u:Nat:=14
abbrev f_k5v:Nat:=22
abbrev f_k5w:Nat:=13
abbrev f_k5x:Nat:=8
abbrev f_k5y:Nat:=7
abbrev f_k5z:Nat:=9
abbrev f_k60:Nat:=11
abbrev f_k61:Nat:=12
abbrev f_k62:Nat:=3
abbrev aF:R:= .done [.vb .ff]
abbrev aT:R:= .done [.vb .tt]
abbrev aP (k:Nat):E:= .bin .add .i64 (.v k) (.z 1)
abbrev aL (a b:E):E:= .cmp .lt a b
abbrev oI:Sh:= .one (.i .i64)
abbrev sI:List Sh1:=[.i .i64]
abbrev v0:E:= .v 0
abbrev v1:E:= .v 1
abbrev v2:E:= .v 2
abbrev v3:E:= .v 3
abbrev v4:E:= .v 4
abbrev v5:E:= .v 5
abbrev v6:E:= .v 6
abbrev v7:E:= .v 7
abbrev v8:E:= .v 8
abbrev v9:E:= .v 9
abbrev v10:E:= .v 10
abbrev v11:E:= .v 11
abbrev v12:E:= .v 12
abbrev v13:E:= .v 13
abbrev v14:E:= .v 14
abbrev v15:E:= .v 15
abbrev v16:E:= .v 16
abbrev v17:E:= .v 17
abbrev v18:E:= .v 18
abbrev v19:E:= .v 19
abbrev v20:E:= .v 20
abbrev v21:E:= .v 21
abbrev v22:E:= .v 22
abbrev v23:E:= .v 23
abbrev v24:E:= .v 24
abbrev v25:E:= .v 25
abbrev v26:E:= .v 26
abbrev v27:E:= .v 27
abbrev v28:E:= .v 28
abbrev v29:E:= .v 29
abbrev v30:E:= .v 30
abbrev v31:E:= .v 31
abbrev v32:E:= .v 32
abbrev v33:E:= .v 33
abbrev v34:E:= .v 34
abbrev v35:E:= .v 35
abbrev v36:E:= .v 36
abbrev v37:E:= .v 37
abbrev v38:E:= .v 38
abbrev v39:E:= .v 39
abbrev v40:E:= .v 40
abbrev v41:E:= .v 41
abbrev v42:E:= .v 42
abbrev v43:E:= .v 43
abbrev v44:E:= .v 44
abbrev v45:E:= .v 45
abbrev v46:E:= .v 46
abbrev v47:E:= .v 47
abbrev v48:E:= .v 48
abbrev v49:E:= .v 49
abbrev v50:E:= .v 50
abbrev v51:E:= .v 51
abbrev v52:E:= .v 52
abbrev v53:E:= .v 53
abbrev v54:E:= .v 54
abbrev v55:E:= .v 55
abbrev v56:E:= .v 56
abbrev v57:E:= .v 57
abbrev v58:E:= .v 58
abbrev v59:E:= .v 59
abbrev v60:E:= .v 60
abbrev v61:E:= .v 61
abbrev v62:E:= .v 62
abbrev v63:E:= .v 63
abbrev v64:E:= .v 64
abbrev v65:E:= .v 65
abbrev v66:E:= .v 66
abbrev v67:E:= .v 67
abbrev v68:E:= .v 68
abbrev v69:E:= .v 69
abbrev v70:E:= .v 70
abbrev v71:E:= .v 71
abbrev v74:E:= .v 74
abbrev v75:E:= .v 75
abbrev v76:E:= .v 76
abbrev v77:E:= .v 77
abbrev v78:E:= .v 78
abbrev v79:E:= .v 79
abbrev v80:E:= .v 80
abbrev v81:E:= .v 81
abbrev v82:E:= .v 82
abbrev v83:E:= .v 83
abbrev v84:E:= .v 84
abbrev v85:E:= .v 85
abbrev v86:E:= .v 86
abbrev v87:E:= .v 87
abbrev v93:E:= .v 93
abbrev zSa:List Sh1:=[.s,.s,.i .i64]
abbrev zRa:R:= .done [.vb .tt]
abbrev zRb:R:= .done [.vb .ff]
abbrev zSb:List Sh1:=[.i .i64,.s,.s]
abbrev zRc:R:= .done [.s .nil]
abbrev zRd:R:= .done [aZ (-1)]
abbrev zEa:List E:=[.vb (.not v1)]
abbrev zEb:List E:=[aS 3,aS 4,aI 5]
abbrev zEc:List E:=[aS 0,aS 1,aI 2]
abbrev zRe:R:= .next [.z 0,aP 6]
abbrev zEd:List E:=[aS 11,aI 12,aZ 3]
abbrev zSc:List Sh1:=[.i .i64,.s,.s,.s]
abbrev zEe:List E:=[aS 23,aI 24,aZ 3]
abbrev zVa:List SV:=[.p 0 0,.d (aI 2)]
abbrev zEf:List E:=[aZ (-1),aZ 0,aZ 0]
abbrev zRf:R:= .esc<|
.done [aS 1]
abbrev zEg:List E:=[aS 23,aI 24,aZ 40]
abbrev zEh:List E:=[aS 26,aI 27,aZ 40]
abbrev zEi:List E:=[aS 29,aI 30,aZ 40]
abbrev zRg:R:= .esc<|
.done [aI 2]
abbrev zEj:List E:=[aZ 0,aZ 0,.vb .ff]
abbrev zVb:List SV:=[.d (aI 0),.o 0 v1]
abbrev zSd:List Sh1:=[.i .i64,.s,.i .i64]
abbrev zSe:List Sh1:=[.i .i64,.i .i64,.s]
abbrev zSf:List Sh1:=[.s,.i .i64,.i .i64]
abbrev zEk:List E:=[aI 0,aS 1,aS 2,aS 3]
abbrev zRh:R:= .done [.vb (.not v3)]
abbrev zVc:List SV:=[.d (aS 0),.d (aI 1)]
abbrev zVd:List SV:=[.d (aS 1),.d (aI 2)]
abbrev zVe:List SV:=[.d (aS 4),.d (aI 5)]
abbrev zVf:List SV:=[.d (aS 0),.d (aS 1)]
abbrev zEl:List E:=[.s .nil,.s .nil,aZ 0]
abbrev zEm:List E:=[aZ 0,.s .nil,.s .nil]
abbrev zSg:List Sh1:=[.b,.b,.i .i64,.s,.s,.s]
abbrev zSh:List Sh1:=[.b,.i .i64,.s,.s,.s,.s]
abbrev zOa:List Ji:=[.arr 3 1 v0 false true]
abbrev zEn:List E:=[.vc (.string (Jcz []))]
abbrev zSi:List Sh1:=[.s,.s,.i .i64,.s,.i .i64]
abbrev zEo:List E:=[.vb (.cmp .eq v7 (aP 4))]
abbrev zEp:List E:=[.vb (.cmp .le (.z 0) v2)]
abbrev zSj:List Sh1:=[.b,.b,.i .i64,.s,.s,.s,.s]
abbrev zVg:List SV:=[.o 0 v0,.o 1 v1,.d (aI 2)]
abbrev zSk:List Sh1:=[.i .i64,.i .i64,.i .i64,.s]
abbrev zSl:List Sh1:=[.i .i64,.s,.s,.s,.s,.i .i64]
abbrev zEq:List E:=[aS 0,aI 1,.vi .i64 (.len v6)]
abbrev zSm:List Sh1:=[.b,.i .i64,.s,.s,.s,.s,.s,.s]
abbrev zEr:List E:=[aB 4,aI 5,aS 6,aS 7,aS 8,aS 9]
abbrev zVh:List SV:=[.d (aS 0),.d (aS 1),.d (aI 2)]
abbrev zEs:List E:=[aS 20,aI 21,.vi .i64 (.len v3)]
abbrev zEt:List E:=[aS 23,aI 24,.vi .i64 (.len v3)]
abbrev zEu:List E:=[aS 26,aI 27,.vi .i64 (.len v3)]
abbrev zEv:List E:=[.vb (.cmp .eq (.len v9) (.z 0))]
abbrev zEw:List E:=[.vb (.cmp .eq (.len v10) (.z 0))]
abbrev zSn:List Sh1:=[.b,.i .i64,.s,.s,.s,.s,.s,.i .i64]
abbrev zEx:List E:=[aZ 7,aZ 0,aZ 0,.s .nil,aS 17,aI 18]
abbrev zEy:List E:=[aZ 1,aI 19,aI 22,aS 25,aS 26,aI 27]
abbrev zEz:List E:=[aZ 7,aZ 0,aZ 0,.s .nil,aS 20,aI 21]
abbrev zEaa:List E:=[aZ 1,aI 22,aI 25,aS 28,aS 29,aI 30]
abbrev Jqz:List E:=[aZ 7,aZ 0,aZ 0,.s .nil,aS 23,aI 24]
abbrev zEac:List E:=[aZ 1,aI 25,aI 28,aS 31,aS 32,aI 33]
abbrev Jrc:List E:=[aZ 4,aZ 0,aZ 0,.s .nil,aS 18,aI 19]
abbrev zEae:List E:=[aZ 2,aI 19,aZ 0,.s .nil,aS 20,aI 21]
abbrev zEaf:List E:=[aZ 2,aI 22,aZ 0,.s .nil,aS 23,aI 24]
abbrev zEag:List E:=[aZ 2,aI 25,aZ 0,.s .nil,aS 26,aI 27]
abbrev zEah:List E:=[aZ 4,aI 18,aZ 0,.s .nil,aS 19,aI 20]
abbrev JpS:List E:=[aZ 6,aI 18,aZ 0,.s .nil,aS 19,aI 20]
abbrev zEaj:List E:=[aZ 2,aI 20,aZ 0,.s .nil,aS 18,aI 19]
abbrev zSo:List Sh1:=[.i .i64,.i .i64,.i .i64,.s,.s,.i .i64]
abbrev zSp:List Sh1:=[.i .i64,.i .i64,.i .i64,.s,.i .i64,.s]
abbrev zVi:List SV:=[.d (aI 0),.d (aI 1),.d (aI 2),.o 1 v3]
abbrev zEak:List E:=[aZ 0,.s .nil,.s (.app .nil v5),.vb .ff]
abbrev zEal:List E:=[.bin .rem .i64 (aP 20) (.len v13),aP 21]
abbrev zEam:List E:=[aS 1,.vi .i64 (.len v1),aZ 999999999999]
abbrev Jqw:List E:=[aI 0,aS 1,aS 2,aS 3,aI 6,aI 7,aI 8,aS 9]
abbrev zSq:List Sh1:=[.i .i64,.s,.s,.s,.b,.i .i64,.s,.s,.s,.s]
abbrev zVj:List SV:=[.d (aI 0),.d (aS 1),.d (aS 2),.d (aS 3)]
abbrev zEao:List E:=[aZ 2,aI 13,aZ 0,aS 5,aS 6,aI 7,aS 14,aI 15]
abbrev zRi:R:= .ite v4 zRg<|
.next [aP 2]
abbrev JpM:List E:=[aB 22,aB 23,aI 24,aS 25,aS 26,aS 27,.s .nil]
abbrev zEaq:List E:=[aI 3,aS 4,aS 5,aS 6,aI 32,aI 33,aI 34,aS 35]
abbrev zOb:List Ji:=[.arr 3 1 v0 false true,.arr 3 1 v1 false true]
abbrev zOc:List Ji:=[.arr 3 1 v1 false true,.arr 3 1 v2 false true]
abbrev zRj:R:= .esc<|
.done zEaj
abbrev zSr:List Sh1:=[.i .i64,.b,.i .i64,.i .i64,.i .i64,.s,.i .i64,.s]
abbrev JqL:List E:=[aS 0,aI 1,.vi .i64 (.bin .add .i64 (.z 0) (.z 1))]
abbrev JpL:List E:=[aI 0,aS 1,aS 2,aS 3,aB 4,aI 5,aS 6,aS 7,aS 8,aS 9]
abbrev zOd:List Ji:=[.box zVe,.arr 3 1 v3 false true]
abbrev Jrn:List E:=[aI 1,aS 2,aS 3,aS 4,aB 5,aI 6,aS 7,aS 8,aS 9,aS 10]
abbrev zSs:List Sh1:=[.i .i64,.s,.s,.s,.b,.i .i64,.s,.s,.s,.s,.s,.s,.s,.s]
abbrev Jq6:List E:=[aB 10,aI 11,aS 12,aS 13,aS 14,aS 15,.s .nil,.s .nil]
abbrev zSt:List Sh1:=[.i .i64,.s,.s,.s,.s,.b,.i .i64,.s,.s,.s,.s,.s,.s,.s]
abbrev JqV:List E:=[.s .nil,.s .nil,aB 14,aI 15,aS 16,aS 17,aS 18,aS 19]
abbrev zVk:List SV:=[.d (aB 0),.d (aI 1),.o 0 v2,.o 1 v3,.o 2 v4,.o 3 v5]
abbrev Jrd:List E:=[aI 3,aZ 0,.vi .i64 (.bin .sub .i64 (.len v1) (.z 1))]
abbrev zRk:R:= .ite v14 aT<|
.done zEw
abbrev zSu:List Sh1:=[.i .i64,.s,.s,.s,.b,.i .i64,.s,.s,.s,.s,.s,.s,.s,.s,.s]
abbrev JqW:List E:=[aS 17,aI 18,.vi .i64 (.bin .add .i64 (.len v13) (.z 1))]
abbrev JqJ:List E:=[aS 20,aI 21,.vi .i64 (.bin .add .i64 (.len v13) (.z 1))]
abbrev Jq7:List E:=[aS 23,aI 24,.vi .i64 (.bin .add .i64 (.len v13) (.z 1))]
abbrev JpD:List E:=[aB 17,aB 18,aI 19,aS 20,aS 21,aS 22,aZ 0,.s .nil,.s .nil]
abbrev zVl:List SV:=[.d (aB 0),.d (aI 1),.d (aS 2),.o 1 v3,.d (aS 4),.d (aS 5)]
abbrev zRl:R:= .ite (.cmp .eq v6 v12) (.done zEo) aF
abbrev JoK:List E:=[aB 23,aI 24,aS 25,aS 26,aS 27,aS 28,.s .nil,.s .nil,.s .nil]
abbrev zVm:List SV:=[.d (aB 0),.d (aI 1),.d (aS 2),.d (aS 3),.d (aS 4),.d (aS 5)]
abbrev zVn:List SV:=[.d (aB 0),.d (aB 1),.d (aI 2),.d (aS 3),.d (aS 4),.d (aS 5)]
abbrev zVo:List SV:=[.d (aB 4),.d (aI 5),.d (aS 6),.d (aS 7),.d (aS 8),.d (aS 9)]
abbrev zEbc:List E:=[.app v3 (.cons (.vi .i64 (.bin .mul .i64 v4 v7)) .nil),v4,aP 5]
abbrev zSv:List Sh1:=[.i .i64,.s,.s,.s,.s,.b,.i .i64,.s,.s,.s,.s,.s,.s,.s,.s,.i .i64]
abbrev zSw:List Sh1:=[.s,.i .i64,.s,.s,.s,.s,.b,.i .i64,.s,.s,.s,.s,.s,.s,.s,.s,.i .i64]
abbrev zEbd:List E:=[aI 7,.vi .i64 (.bin .add .i64 (.z 1) v10),aI 28,aS 16,aS 26,aI 27]
abbrev zRm:R:= .ite (.not (.cmp .eq v3 v4)) (.esc zRb)<|
.next [aP 2]
abbrev zEbe:List E:=[aI 28,.vi .i64 (.bin .add .i64 (.z 1) v10),aI 13,aS 16,aS 26,aI 27]
abbrev zRn:R:= .done [.vb .ff,aZ 0,.s .nil,.s .nil,.s .nil,.s .nil,.s .nil,.s .nil]
abbrev zSx:List Sh1:=[.i .i64,.i .i64,.i .i64,.i .i64,.i .i64,.i .i64,.i .i64,.s,.s,.s,.s]
abbrev zRo:R:= .ite (.cmp .le (.len v0) (.z 6)) (.done [.vb (.cmp .le v1 (.z 3))]) aF
abbrev zRp:R:= .ite (.cmp .eq v8 (.z 0)) (.done zEv) aF
abbrev zOe:List Ji:=[.arr 3 1 v3 false true,.arr 3 1 v4 false true,.arr 51 3 v5 false true]
abbrev zSy:List Sh1:=[.s,.i .i64,.i .i64,.s,.s,.s,.s,.b,.i .i64,.s,.s,.s,.s,.s,.s,.s,.i .i64]
abbrev zEbf:List E:=[aI 3,aS 4,aS 5,aS 6,aI 32,.vi .i64 (.bin .add .i64 v45 v51),aI 34,aS 35]
abbrev zOf:List Ji:=[.box [.d (aS 3),.d (aI 4)],.arr 3 1 v0 false true,.arr 3 1 v1 false true]
abbrev zEbg:List E:=[aZ 1,aZ 0,.vi .i64 (.bin .add .i64 (.z 1) v5),aS 8,aS 9,aI 10,aS 11,aI 12]
abbrev Jii:List E:=[aI 0,aS 1,aS 2,aS 3,aB 5,aI 6,aS 7,aS 8,aS 9,aS 10,aS 4,aS 11,aS 12,aS 13]
abbrev zEbi:List E:=[aI 0,aS 1,aS 2,aS 3,aS 4,aB 5,aI 6,aS 7,aS 8,aS 9,aS 10,aS 11,aS 12,aS 13]
abbrev zEbj:List E:=[aI 0,aS 1,aS 2,aS 3,aB 5,aI 6,aS 7,aS 8,aS 9,aS 10,aS 4,aS 11,aS 15,aS 13]
abbrev Jra:List E:=[aI 0,aS 1,aS 2,aS 3,aB 5,aI 6,aS 7,aS 8,aS 9,aS 10,aS 12,aS 4,aS 11,aS 13]
abbrev zRq:R:= .i (.idx v1 v3 oI 5)<|
.next [.bin .add .i64 v2 (.bin .mul .i64 v4 v5),aP 3]
abbrev zVp:List SV:=[.g [.d (aB 0),.d (aI 1),.d (aS 2),.o 0 v3,.o 1 v4,.o 2 v5],.o 3 v6,.o 4 v7]
abbrev zEbl:List E:=[.set v28 v29 (.g (.cons (aI 36) (.cons (aI 42) (.cons (aS 43) .nil)))),aP 29]
abbrev Jrg:List E:=[aS 0,aI 1,.vi .i64 (.bin .add .i64 (.bin .sub .i64 (.len v14) (.z 1)) (.z 1))]
abbrev zRr:R:= .i (.call f_k4p [aS 1] [.d] 6)<|
.i (.prim .cat [.da 5,.da 6] .d 7)<|
.done [.da 7]
abbrev zEbn:List E:=[aI 65,aS 66,aS 67,aS 68,aB 69,aI 70,aS 71,aS 72,aS 73,aS 74,aS 75,aS 76,aS 77,aS 78]
abbrev zEbo:List E:=[aI 82,aS 83,aS 84,aS 85,aB 86,aI 87,aS 88,aS 89,aS 90,aS 91,aS 92,aS 93,aS 94,aS 95]
abbrev JnL:List E:=[aI 20,aS 21,aS 22,aS 23,aB 24,aI 25,aS 26,aS 27,aS 28,aS 29,aS 32,aS 30,aS 31,aS 33]
abbrev zRs:R:= .i (.call f_k1a [aI 8] [.d] 9)<|
.i (.prim .cat [.da 7,.da 9] .d 10)<|
.next [.da 10,aP 6]
abbrev zOg:List Ji:=[.box zVl,.arr 51 3 v3 false true]
abbrev zEbq:List E:=[aZ 2,aI 13,aZ 0,.s (.cons (aZ 0) (.cons (aZ 0) (.cons (aZ 0) .nil))),aS 6,aI 7,aS 14,aI 15]
abbrev zRt:R:= .ite (.cmp .eq (.len v9) (.z 0)) zRk aF
abbrev zRu:R:= .i (.chk (aL v0 (.len v2)))<|
.i (.idx v2 v0 oI 5)<|
.done [.s (.set v2 v0 (aZ 1)),aS 3,aI 4]
abbrev zEbr:List E:=[.vi .i64 (.bin .rem .i64 v7 v2),.vi .i64 (.bin .add .i64 (.z 1) v10),aI 28,aS 16,aS 26,aI 27]
abbrev zRv:R:= .i (.chk (.not (.cmp .eq (.len v13) (.z 0))))<|
.next zEal
abbrev zOh:List Ji:=[.arr 3 1 v7 false true,.arr 3 1 v8 false true,.arr 3 1 v9 false true,.arr 51 3 v10 false true]
abbrev zOi:List Ji:=[.arr 3 1 v2 false true,.arr 51 3 v3 false true,.arr 43 4 v4 false true,.arr 45 3 v5 false true]
abbrev zEbs:List E:=[.s (.cons (aZ 0) (.cons (aZ 0) (.cons (aZ 0) .nil))),.s (.cons (aZ 0) (.cons (aZ 0) .nil)),aZ 0]
abbrev zRw:R:= .i (.call f_kq zEg zSa 25)<|
.done zEy
abbrev zRx:R:= .i (.call f_kq zEh zSa 28)<|
.done zEaa
abbrev zRy:R:= .i (.call f_kq zEi zSa 31)<|
.done zEac
abbrev zRz:R:= .i (.call f_kq [aS 21,aI 22,aZ 99] zSa 23)<|
.done [aZ 1,aI 17,aI 20,aS 23,aS 24,aI 25]
abbrev zOj:List Ji:=[.box zVe,.arr 107 1 v1 false true,.arr 3 1 v2 false true,.arr 3 1 v3 false true]
abbrev zRaa:R:= .ite (.cmp .eq v7 (.z 0)) zRp aF
abbrev zEbt:List E:=[aI 28,.vi .i64 (.bin .add .i64 (.z 1) v10),.vi .i64 (.bin .rem .i64 v13 (.len v3)),aS 16,aS 26,aI 27]
abbrev zEbu:List E:=[aS 20,aI 37,aS 36,aS 35,aS 34,aS 33,aB 32,aI 31,aS 30,aS 29,aS 28,aS 27,aS 26,aS 25,aS 24,aS 39,aI 38]
abbrev zRab:R:= .i (.call f_k5a [aB 18,aS 19,aS 20] [.b] 21)<|
.ite (.not v21) (.esc zRb)<|
.next [aP 17]
abbrev zOk:List Ji:=[.arr 84 6 v4 false true,.arr 167 8 v11 false true,.arr 86 11 v12 false true,.arr 220 6 v13 false true]
abbrev zSz:List Sh1:=[.i .i64,.s,.s,.s,.b,.i .i64,.s,.s,.s,.s,.i .i64,.s,.s,.s,.s,.b,.i .i64,.s,.s,.s,.s,.s,.s,.s,.s,.i .i64]
abbrev zVq:List SV:=[.d (aI 0),.d (aI 1),.d (aI 2),.d (aI 3),.d (aI 4),.d (aI 5),.d (aI 6),.o 0 v7,.o 1 v8,.o 2 v9,.o 3 v10]
abbrev zOl:List Ji:=[.arr 84 6 v10 false true,.arr 167 8 v11 false true,.arr 86 11 v12 false true,.arr 220 6 v13 false true]
abbrev zEbv:List E:=[.app v5 (.cons (.g (.cons (aI 20) (.cons (aI 21) (.cons (aI 22) (.cons (aS 23) .nil))))) .nil),.tt,aP 7]
abbrev Jqx:List E:=[aZ 0,.s .nil,.s .nil,.s .nil,.s .nil,.vb .ff,aZ 0,.s .nil,.s .nil,.s .nil,.s .nil,.s .nil,.s .nil,.s .nil]
abbrev zEbx:List E:=[aB 22,.vb .ff,aI 14,.s (.app .nil v19),.s (.cons (aZ 0) (.cons (aZ 0) (.cons (aZ 0) .nil))),aS 28,.s .nil]
abbrev JqZ:List E:=[aI 37,aS 36,aS 35,aS 34,aS 33,aB 32,aI 31,aS 30,aS 29,aS 28,aS 27,aS 26,aS 25,aS 24,aI 40,aI 41,aI 42,aS 43]
abbrev zEbz:List E:=[aI 37,aS 36,aS 35,aS 34,aS 33,aB 32,aI 31,aS 30,aS 29,aS 28,aS 27,aS 26,aS 25,aS 24,aI 52,aI 53,aI 54,aS 55]
abbrev zRac:R:= .i (.chk (.cmp .le (.len (.app .nil v5)) (.z 8796093022208)))<|
.done zEak
abbrev zRad:R:= .ite (.cmp .eq (.bin .add .i64 (.len v17) (.len v18)) (.z 0)) (.i (.call f_k60 [] [.b] 31)<|
.done [aB 31]) aF
abbrev zOm:List Ji:=[.arr 84 6 v11 false true,.arr 167 8 v12 false true,.dead,.arr 220 6 v13 false true,.arr 86 11 v10 false true]
abbrev zRae:R:= .i (.call f_k1 zEd zSd 13)<|
.done zEao
abbrev zRaf:R:= .i (.call f_k1n [aI 0,aS 1,aS 2,aS 3,aS 15] [.b] 18)<|
.ite (.not v18) (.esc zRb)<|
.next [aP 12]
abbrev zRag:R:= .ite (aL v10 (.z (-10000))) zRe<|
.ite (aL (.z 10000) v11) zRe<|
.next [v5,aP 6]
abbrev zRah:R:= .i (.idx v0 v2 oI 3)<|
.i (.idx v1 v2 oI 4) zRm
abbrev zRai:R:= .i (.call f_k1 zEq zSd 18)<|
.done [aZ 9,aI 18,aZ 0,.s .nil,aS 19,aI 20]
abbrev zRaj:R:= .i (.call f_k1 zEq zSd 18)<|
.done [aZ 8,aI 18,aZ 0,.s .nil,aS 19,aI 20]
abbrev zRak:R:= .i (.call f_k1 [aS 0,aI 1,.vi .i64 (.len v13)] zSd 18)<|
.done [aZ 2,aI 18,aZ 0,.s .nil,aS 19,aI 20]
abbrev zRal:R:= .i (.idx v0 v2 (.one .s) 3)<|
.i (.callv (.da 1) [aS 3] [none] [.b] 4) zRi
abbrev zRam:R:= .i (.chk (.cmp .le (.len (.app v1 (.cons (aS 3) .nil))) (.z 2932031007402)))<|
.next [.app v1 (.cons (aS 3) .nil),aP 2]
abbrev zEca:List E:=[aI 0,aS 1,aS 2,aS 3,aS 4,aB 5,aI 6,aS 7,aS 8,aS 9,aS 10,aS 11,aS 12,aS 13,aS 14,aS 15,aI 17,.vb (.cmp .eq v16 (.z 3))]
abbrev zRan:R:= .i (.chk (.cmp .le (.len (.app v8 (.cons (aI 13) .nil))) (.z 8796093022208)))<|
.next [.app v8 (.cons (aI 13) .nil),aP 9]
abbrev zOn:List Ji:=[.arr 51 3 v3 false true,.arr 43 4 v4 false true,.arr 45 3 v5 false true,.arr 43 4 v6 false true,.arr 49 2 v7 false true]
abbrev zVr:List SV:=[.d (aI 0),.o 0 v1,.o 1 v2,.o 2 v3,.o 3 v4,.d (aB 5),.d (aI 6),.o 4 v7,.o 5 v8,.o 6 v9,.o 7 v10,.o 8 v11,.o 9 v12,.o 10 v13]
abbrev zEcb:List E:=[aS 36,aI 37,aI 3,aS 4,aS 5,aS 6,aS 7,aB 8,aI 9,aS 10,aS 11,aS 12,aS 13,aS 14,aS 15,aS 16,aB 19,aI 20,aS 21,aS 22,aS 23,aS 25]
abbrev zEcc:List E:=[aS 44,aI 45,aI 3,aS 4,aS 5,aS 6,aS 7,aB 8,aI 9,aS 10,aS 11,aS 12,aS 13,aS 14,aS 15,aS 16,aB 19,aI 20,aS 21,aS 22,aS 23,aS 25]
abbrev zEcd:List E:=[aS 45,aI 46,aI 3,aS 4,aS 5,aS 6,aS 7,aB 8,aI 9,aS 10,aS 11,aS 12,aS 13,aS 14,aS 15,aS 16,aB 19,aI 20,aS 21,aS 22,aS 40,aS 25]
abbrev zEce:List E:=[aS 57,aI 58,aI 3,aS 4,aS 5,aS 6,aS 7,aB 8,aI 9,aS 10,aS 11,aS 12,aS 13,aS 14,aS 15,aS 16,aB 19,aI 20,aS 21,aS 22,aS 23,aS 25]
abbrev zEcf:List E:=[aS 58,aI 59,aI 3,aS 4,aS 5,aS 6,aS 7,aB 8,aI 9,aS 10,aS 11,aS 12,aS 13,aS 14,aS 15,aS 16,aB 19,aI 20,aS 21,aS 22,aS 53,aS 25]
abbrev zEcg:List E:=[aS 39,aI 40,aI 3,aS 4,aS 5,aS 6,aS 7,aB 8,aI 9,aS 10,aS 11,aS 12,aS 13,aS 14,aS 15,aS 16,aB 19,aI 20,aS 21,aS 22,aS 23,aS 25]
abbrev zRao:R:= .ite (.cmp .eq v6 (.z 0)) zRaa aF
abbrev Jmb:R:= .i (.call f_k1 JqL zSd 18)<|
.done zEah
abbrev zVs:List SV:=[.d (aI 0),.d (aS 1),.d (aS 2),.d (aS 3),.o 0 v4,.d (aB 5),.d (aI 6),.d (aS 7),.d (aS 8),.d (aS 9),.d (aS 10),.o 1 v11,.o 2 v12,.o 3 v13]
abbrev zVt:List SV:=[.d (aI 0),.d (aS 1),.d (aS 2),.d (aS 3),.o 0 v10,.d (aB 4),.d (aI 5),.d (aS 6),.d (aS 7),.d (aS 8),.d (aS 9),.o 1 v11,.o 2 v12,.o 3 v13]
abbrev zVu:List SV:=[.d (aI 0),.d (aS 1),.d (aS 2),.d (aS 3),.o 0 v11,.d (aB 4),.d (aI 5),.d (aS 6),.d (aS 7),.d (aS 8),.d (aS 9),.o 1 v12,.o 4 v10,.o 3 v13]
abbrev JnT:R:= .i (.call f_k1 JqW zSd 19)<|
.done zEae
abbrev Jo9:R:= .i (.call f_k1 JqJ zSd 22)<|
.done zEaf
abbrev JoI:R:= .i (.call f_k1 Jq7 zSd 25)<|
.done zEag
abbrev zVv:List SV:=[.d (aI 0),.d (aS 1),.d (aS 2),.d (aS 3),.d (aS 4),.d (aB 5),.d (aI 6),.d (aS 7),.d (aS 8),.d (aS 9),.d (aS 10),.d (aS 11),.d (aS 12),.d (aS 13)]
abbrev zEch:List E:=[aI 3,aS 4,aS 5,aS 6,aB 38,aI 39,aS 40,aS 41,aS 42,aS 43,aI 3,aS 4,aS 5,aS 6,aS 7,aB 8,aI 9,aS 10,aS 11,aS 12,aS 13,aS 14,aS 15,aS 16,aS 44,aI 45]
abbrev zEci:List E:=[aI 3,aS 4,aS 5,aS 6,aB 19,aI 20,aS 21,aS 22,aS 23,aS 25,aI 3,aS 4,aS 5,aS 6,aS 7,aB 8,aI 9,aS 10,aS 11,aS 12,aS 13,aS 14,aS 15,aS 16,aS 33,aI 34]
abbrev zEcj:List E:=[aI 3,aS 4,aS 5,aS 6,aB 46,aI 47,aS 48,aS 49,aS 50,aS 51,aI 3,aS 4,aS 5,aS 6,aS 7,aB 8,aI 9,aS 10,aS 11,aS 12,aS 13,aS 14,aS 15,aS 16,aS 52,aI 53]
abbrev zEck:List E:=[aI 3,aS 4,aS 5,aS 6,aB 19,aI 20,aS 21,aS 22,aS 23,aS 25,aI 3,aS 4,aS 5,aS 6,aS 7,aB 8,aI 9,aS 10,aS 11,aS 12,aS 13,aS 14,aS 15,aS 16,aS 41,aI 42]
abbrev zEcl:List E:=[aI 3,aS 4,aS 5,aS 6,aB 47,aI 48,aS 49,aS 50,aS 51,aS 52,aI 3,aS 4,aS 5,aS 6,aS 7,aB 8,aI 9,aS 10,aS 11,aS 12,aS 13,aS 14,aS 15,aS 16,aS 53,aI 54]
abbrev zEcm:List E:=[aI 3,aS 4,aS 5,aS 6,aB 19,aI 20,aS 21,aS 22,aS 40,aS 25,aI 3,aS 4,aS 5,aS 6,aS 7,aB 8,aI 9,aS 10,aS 11,aS 12,aS 13,aS 14,aS 15,aS 16,aS 42,aI 43]
abbrev zEcn:List E:=[aI 3,aS 4,aS 5,aS 6,aB 59,aI 60,aS 61,aS 62,aS 63,aS 64,aI 3,aS 4,aS 5,aS 6,aS 7,aB 8,aI 9,aS 10,aS 11,aS 12,aS 13,aS 14,aS 15,aS 16,aS 65,aI 66]
abbrev zEco:List E:=[aI 3,aS 4,aS 5,aS 6,aB 19,aI 20,aS 21,aS 22,aS 23,aS 25,aI 3,aS 4,aS 5,aS 6,aS 7,aB 8,aI 9,aS 10,aS 11,aS 12,aS 13,aS 14,aS 15,aS 16,aS 54,aI 55]
abbrev zEcp:List E:=[aI 3,aS 4,aS 5,aS 6,aB 60,aI 61,aS 62,aS 63,aS 64,aS 65,aI 3,aS 4,aS 5,aS 6,aS 7,aB 8,aI 9,aS 10,aS 11,aS 12,aS 13,aS 14,aS 15,aS 16,aS 66,aI 67]
abbrev zEcq:List E:=[aI 3,aS 4,aS 5,aS 6,aB 19,aI 20,aS 21,aS 22,aS 53,aS 25,aI 3,aS 4,aS 5,aS 6,aS 7,aB 8,aI 9,aS 10,aS 11,aS 12,aS 13,aS 14,aS 15,aS 16,aS 55,aI 56]
abbrev zEcr:List E:=[aI 3,aS 4,aS 5,aS 6,aB 41,aI 42,aS 43,aS 44,aS 45,aS 46,aI 3,aS 4,aS 5,aS 6,aS 7,aB 8,aI 9,aS 10,aS 11,aS 12,aS 13,aS 14,aS 15,aS 16,aS 47,aI 48]
abbrev zEcs:List E:=[aI 3,aS 4,aS 5,aS 6,aB 19,aI 20,aS 21,aS 22,aS 23,aS 25,aI 3,aS 4,aS 5,aS 6,aS 7,aB 8,aI 9,aS 10,aS 11,aS 12,aS 13,aS 14,aS 15,aS 16,aS 36,aI 37]
abbrev zVw:List SV:=[.d (aI 2),.d (aS 3),.d (aS 4),.d (aS 5),.d (aS 6),.d (aB 7),.d (aI 8),.d (aS 9),.d (aS 10),.d (aS 11),.d (aS 12),.d (aS 13),.d (aS 14),.d (aS 15)]
abbrev zRat:R:= .i (.idx (.cons (aZ (-1)) (.cons (aZ 4) (.cons (aZ 3) .nil))) v25 oI 28)<|
.done zEbd
abbrev zRau:R:= .i (.idx (.cons (aZ (-1)) (.cons (aZ 4) (.cons (aZ 3) .nil))) v25 oI 28)<|
.done zEbe
abbrev zEct:List E:=[aI 38,aS 39,aS 40,aS 41,aB 19,aI 20,aS 21,aS 22,aS 23,aS 25,aI 3,aS 4,aS 5,aS 6,aS 7,aB 8,aI 9,aS 10,aS 11,aS 12,aS 13,aS 14,aS 15,aS 16,aS 42,aI 43]
abbrev zEcu:List E:=[aI 46,aS 47,aS 48,aS 49,aB 19,aI 20,aS 21,aS 22,aS 23,aS 25,aI 3,aS 4,aS 5,aS 6,aS 7,aB 8,aI 9,aS 10,aS 11,aS 12,aS 13,aS 14,aS 15,aS 16,aS 50,aI 51]
abbrev zEcv:List E:=[aI 47,aS 48,aS 49,aS 50,aB 19,aI 20,aS 21,aS 22,aS 40,aS 25,aI 3,aS 4,aS 5,aS 6,aS 7,aB 8,aI 9,aS 10,aS 11,aS 12,aS 13,aS 14,aS 15,aS 16,aS 51,aI 52]
abbrev zEcw:List E:=[aI 59,aS 60,aS 61,aS 62,aB 19,aI 20,aS 21,aS 22,aS 23,aS 25,aI 3,aS 4,aS 5,aS 6,aS 7,aB 8,aI 9,aS 10,aS 11,aS 12,aS 13,aS 14,aS 15,aS 16,aS 63,aI 64]
abbrev zEcx:List E:=[aI 60,aS 61,aS 62,aS 63,aB 19,aI 20,aS 21,aS 22,aS 53,aS 25,aI 3,aS 4,aS 5,aS 6,aS 7,aB 8,aI 9,aS 10,aS 11,aS 12,aS 13,aS 14,aS 15,aS 16,aS 64,aI 65]
abbrev zEcy:List E:=[aI 41,aS 42,aS 43,aS 44,aB 19,aI 20,aS 21,aS 22,aS 23,aS 25,aI 3,aS 4,aS 5,aS 6,aS 7,aB 8,aI 9,aS 10,aS 11,aS 12,aS 13,aS 14,aS 15,aS 16,aS 45,aI 46]
abbrev zRav:R:= .i (.call f_k1 zEd zSd 13)<|
.done zEbq
abbrev JmI:R:= .ite v13 zRk zRt
abbrev zRax:R:= .ite (aL v2 (.len v0)) zRah<|
.esc zRa
abbrev Jmq:R:= .i (.call f_k1 Jrg zSd 18)<|
.done zEah
abbrev zRaz:R:= .i (.chk (aL v29 (.len v28)))<|
.i (.idx v28 v29 (.g zSe) 44)<|
.next zEbl
abbrev zRba:R:= .i (.prim .cat [.da 5,.vc (.string (Jcz [32]))] .d 7)<|
.i (.idx v1 v6 oI 8) zRs
abbrev zRbb:R:= .i (.call f_k1 zEs zSd 22) zRw
abbrev zRbc:R:= .i (.call f_k1 zEt zSd 25) zRx
abbrev zRbd:R:= .i (.call f_k1 zEu zSd 28) zRy
abbrev zEcz:List E:=[.app v20 (.cons (.g (.cons (aI 40) (.cons (aI 41) (.cons (aI 42) (.cons (aS 43) .nil))))) .nil),v21,v22,aP 23,v62,v61,v60,v59,v58,v57,v56,v55,v54,v53,v52,v51,v50,v49,v48,v47]
abbrev zRbe:R:= .i (.idx (.cons (aZ (-1)) (.cons (aZ 4) (.cons (aZ 3) .nil))) v25 oI 28)<|
.done zEbr
abbrev zRbf:R:= .i (.chk (.cmp .le (.len (.app v3 (.cons (.vi .i64 (.bin .mul .i64 v4 v7)) .nil))) (.z 8796093022208)))<|
.next zEbc
abbrev zRbg:R:= .i (.chk (.cmp .le (.z 0) v0))<|
.i (.chk (aL v0 (.len v4)))<|
.i (.idx v4 v0 (.one .d) 5) zRr
abbrev Jqc:R:= .i (.chk (.cmp .le (.len v5) (.z 8796093022208)))<|
.i (.head 1 v5) zRac
abbrev zRbi:R:= .i (.idx (.cons (aZ (-1)) (.cons (aZ 4) (.cons (aZ 3) .nil))) v25 oI 28)<|
.done zEbt
abbrev zRbj:R:= .ite (.cmp .eq v17 (.z 0)) (.done [aZ 10,aZ 1,aZ 0,.s .nil,aS 0,aI 1]) zRai
abbrev zRbk:R:= .ite (.cmp .eq v17 (.z 0)) (.done [aZ 10,aZ 0,aZ 0,.s .nil,aS 0,aI 1]) zRaj
abbrev zRbl:R:= .i (.call f_k1i [aS 5,aS 14] [.b] 17)<|
.ite (.not v17) (.esc zRb) zRaf
abbrev zRbm:R:= .i (.call f_k1 [aS 3,aI 4,aZ 3] zSd 5)<|
.i (.call f_k5 [aS 6,aI 7] zSi 8)<|
.done zEbg
abbrev Jo4:R:= .ite (.cmp .eq (.len v8) (.z 0)) JmI aF
abbrev zEda:List E:=[.app (.app v5 (.cons (.g (.cons (aI 20) (.cons (aI 21) (.cons (aI 22) (.cons (aS 23) .nil))))) .nil)) (.cons (.g (.cons (aI 28) (.cons (aI 29) (.cons (aI 30) (.cons (aS 31) .nil))))) .nil),.tt,aP 7]
abbrev zRbo:R:= .i (.chk (.cmp .le (.z 0) v25))<|
.i (.chk (aL v25 (.z 3))) zRat
abbrev zRbp:R:= .i (.chk (.cmp .le (.z 0) v25))<|
.i (.chk (aL v25 (.z 3))) zRau
abbrev zEdb:List E:=[.app v11 (.cons (.g (.cons (aZ 2) (.cons (aI 12) (.cons (aZ 0) (.cons (aI 5) (.cons (aZ 0) (.cons (aZ 0) (.cons (aZ 0) (.cons (.s .nil) (.cons (.s .nil) (.cons (.s .nil) (.cons (.s .nil) .nil)))))))))))) .nil),aP 12]
abbrev zRbq:R:= .i (.call f_k31 [aS 36,aI 37,aZ 1] zSl 38)<|
.done zEct
abbrev JqF:R:= .ite (.not (.cmp .eq (.len v0) (.len v1))) aF<|
.loop 2 [.z 0] zRax
abbrev zRbs:R:= .i (.chk (.cmp .le (.z 0) v25))<|
.i (.chk (aL v25 (.z 3))) zRbe
abbrev zRbt:R:= .loop 5 [.da 4,.z 0]<|
.ite (aL v6 (.len v1)) zRba<|
.esc<|
.done [.da 5]
abbrev zRbu:R:= .i (.idx v13 v20 (.g zSr) 22)<|
.ite (.not v23) zRv zRj
abbrev zRbv:R:= .i (.chk (.cmp .le (.z 0) v25))<|
.i (.chk (aL v25 (.z 3))) zRbi
abbrev zRbw:R:= .i (.call f_k1t [aI 40,aS 41] [.i .i64,.s] 42)<|
.i (.chk (.cmp .le (.z 0) v29)) zRaz
abbrev zOo:List Ji:=[.arr 107 1 v1 false true,.arr 3 1 v2 false true,.arr 3 1 v3 false true,.arr 84 6 v4 false true,.arr 3 1 v7 false true,.arr 51 3 v8 false true,.arr 43 4 v9 false true,.arr 45 3 v10 false true,.arr 167 8 v11 false true,.arr 86 11 v12 false true,.arr 220 6 v13 false true]
abbrev Jmg:R:= .i (.call f_k1 JqW zSd 19) zRbb
abbrev JmW:R:= .i (.call f_k1 JqJ zSd 22) zRbc
abbrev JlR:R:= .i (.call f_k1 Jq7 zSd 25) zRbd
abbrev zRca:R:= .i (.call f_k1h [aS 8,aS 2,aS 4,aI 12,aS 14] [.b] 16)<|
.ite (.not v16) (.esc zRb) zRbl
abbrev zRcb:R:= .ite (.not v5) zRao<|
.i (.call f_k19 Jqw [.b] 14)<|
.ite v14 zRl aF
abbrev zRcc:R:= .ite (.not v5) zRao<|
.i (.call f_k19 Jqw [.b] 15)<|
.ite v15 zRl aF
abbrev zRcd:R:= .i (.call f_k3d zEam [.b] 3)<|
.ite (.not v3) (.done zEn)<|
.i (.call f_k4o [] [.s] 4) zRbg
abbrev zRce:R:= .i (.call f_k34 zEcb zSn 38)<|
.done zEch
abbrev zRcf:R:= .i (.idx v21 v29 (.g zSe) 36)<|
.i (.idx v21 v29 (.g zSe) 39) zRbw
abbrev JqX:R:= .loop 20 [v17,.z 0]<|
.ite (aL v21 (.len v13)) zRbu zRj
abbrev zRch:R:= .i (.call f_k1 [aS 8,aI 9,aZ 3] zSd 10)<|
.ite (aL (.z 0) v10) zRav zRae
abbrev zRci:R:= .i (.call f_k1c [aI 10,aS 11] [.b] 14)<|
.ite (.not v14) aF zRcc
abbrev Jrb:R:= .i (.call f_k5 [aS 3,aI 4] zSi 5) zRch
abbrev zRck:R:= .ite (.cmp .eq (.bin .rem .i64 v29 (.len v2)) v10) zRcf<|
.next [v28,aP 29]
abbrev zRcl:R:= .i (.chk (.cmp .le (.len (.app (.app v5 (.cons (.g (.cons (aI 20) (.cons (aI 21) (.cons (aI 22) (.cons (aS 23) .nil))))) .nil)) (.cons (.g (.cons (aI 28) (.cons (aI 29) (.cons (aI 30) (.cons (aS 31) .nil))))) .nil))) (.z 1466015503701)))<|
.next zEda
abbrev zRcm:R:= .i (.idx (.cons (.vc (.string (Jcz []))) (.cons (.vc (.string (Jcz [100,111,110,101]))) (.cons (.vc (.string (Jcz [115,116,111,112,112,101,100]))) (.cons (.vc (.string (Jcz [111,118,101,114]))) .nil)))) v0 (.one .d) 4) zRbt
abbrev zRcn:R:= .i (.chk (.cmp .le (.len (.app v11 (.cons (.g (.cons (aZ 2) (.cons (aI 12) (.cons (aZ 0) (.cons (aI 5) (.cons (aZ 0) (.cons (aZ 0) (.cons (aZ 0) (.cons (.s .nil) (.cons (.s .nil) (.cons (.s .nil) (.cons (.s .nil) .nil)))))))))))) .nil))) (.z 462952264326)))<|
.next zEdb
abbrev zRco:R:= .ite (aL v33 v30) (.i (.chk (.not (.cmp .eq (.len v2) (.z 0)))) zRck)<|
.next [v28,aP 29]
abbrev zRcp:R:= .i (.chk (.cmp .le (.len (.app v20 (.cons (.g (.cons (aI 40) (.cons (aI 41) (.cons (aI 42) (.cons (aS 43) .nil))))) .nil))) (.z 1466015503701)))<|
.i (.call f_k2u JqZ zSt 49)<|
.next zEcz
abbrev zEdc:List E:=[.s (.cons (.g (.cons (aZ 1) (.cons (aZ 0) (.cons (aZ 2) (.cons (aS 12) (.cons (aS 13) (.cons (aI 11) .nil))))))) (.cons (.g (.cons (aZ 2) (.cons (aI 2) (.cons (aZ 0) (.cons (aS 14) (.cons (aS 15) (.cons (aI 16) .nil))))))) (.cons (.g (.cons (aZ 3) (.cons (aZ 0) (.cons (aZ 0) (.cons (aS 17) (.cons (aS 18) (.cons (aI 19) .nil))))))) (.cons (.g (.cons (aZ 1) (.cons (aZ 0) (.cons (aZ 1) (.cons (aS 20) (.cons (aS 21) (.cons (aI 22) .nil))))))) (.cons (.g (.cons (aZ 4) (.cons (aZ 0) (.cons (aZ 0) (.cons (.s .nil) (.cons (.s .nil) (.cons (aZ 0) .nil))))))) .nil))))),aS 6,aI 7]
abbrev zRcq:R:= .ite (.not v3) (.done zEn)<|
.i (.chk (.cmp .le (.z 0) v0))<|
.i (.chk (aL v0 (.z 4))) zRcm
abbrev zRcr:R:= .i (.chk (aL v29 (.len v28)))<|
.i (.idx v28 v29 (.g zSe) 33) zRco
abbrev zRcs:R:= .ite (.cmp .eq v35 (.z 0)) zRbq zRce
abbrev zRct:R:= .ite (.cmp .eq v43 (.z 0)) (.i (.call f_k31 [aS 44,aI 45,aZ 1] zSl 46)<|
.done zEcu)<|
.i (.call f_k34 zEcc zSn 46)<|
.done zEcj
abbrev zRcu:R:= .ite (.cmp .eq v44 (.z 0)) (.i (.call f_k31 [aS 45,aI 46,aZ 1] zSl 47)<|
.done zEcv)<|
.i (.call f_k34 zEcd zSn 47)<|
.done zEcl
abbrev zRcv:R:= .ite (.cmp .eq v56 (.z 0)) (.i (.call f_k31 [aS 57,aI 58,aZ 1] zSl 59)<|
.done zEcw)<|
.i (.call f_k34 zEce zSn 59)<|
.done zEcn
abbrev zRcw:R:= .ite (.cmp .eq v57 (.z 0)) (.i (.call f_k31 [aS 58,aI 59,aZ 1] zSl 60)<|
.done zEcx)<|
.i (.call f_k34 zEcf zSn 60)<|
.done zEcp
abbrev zRcx:R:= .ite (.cmp .eq v38 (.z 0)) (.i (.call f_k31 [aS 39,aI 40,aZ 1] zSl 41)<|
.done zEcy)<|
.i (.call f_k34 zEcg zSn 41)<|
.done zEcr
abbrev zRcy:R:= .ite (.cmp .eq v24 v1) (.next zEbv)<|
.i (.idx v0 v7 (.g zSk) 28) zRcl
abbrev zRcz:R:= .i (.call f_k1 [aS 33,aI 34,aZ 4] zSd 35) zRcs
abbrev zRda:R:= .i (.idx v21 v29 (.g zSe) 30)<|
.i (.chk (.cmp .le (.z 0) v29)) zRcr
abbrev zRdb:R:= .i (.call f_k3 [aZ 1,aZ 0,aZ 0] zSa 17)<|
.i (.call f_k3 [aZ 1,aZ 0,aZ (-9)] zSa 20)<|
.done zEdc
abbrev zRdc:R:= .ite (aL (.z 6) (.len v1)) (.done zEn)<|
.i (.call f_k8 zEam [.b] 3) zRcq
abbrev zRdd:R:= .i (.call f_k4 [aS 8,aS 9,aI 10,aI 2,aZ 1] zSb 11)<|
.i (.call f_k3 zEf zSa 14) zRdb
abbrev zRde:R:= .ite (aL (.z 0) v32) (.done zEci) zRcz
abbrev zRdf:R:= .ite (aL (.z 0) v40) (.done zEck)<|
.i (.call f_k1 [aS 41,aI 42,aZ 4] zSd 43) zRct
abbrev zRdg:R:= .ite (aL (.z 0) v41) (.done zEcm)<|
.i (.call f_k1 [aS 42,aI 43,aZ 4] zSd 44) zRcu
abbrev zRdh:R:= .ite (aL (.z 0) v53) (.done zEco)<|
.i (.call f_k1 [aS 54,aI 55,aZ 4] zSd 56) zRcv
abbrev zRdi:R:= .ite (aL (.z 0) v54) (.done zEcq)<|
.i (.call f_k1 [aS 55,aI 56,aZ 4] zSd 57) zRcw
abbrev zRdj:R:= .ite (aL (.z 0) v35) (.done zEcs)<|
.i (.call f_k1 [aS 36,aI 37,aZ 4] zSd 38) zRcx
abbrev zRdk:R:= .i (.chk (.cmp .le (.len (.app v5 (.cons (.g (.cons (aI 20) (.cons (aI 21) (.cons (aI 22) (.cons (aS 23) .nil))))) .nil))) (.z 1466015503701)))<|
.i (.idx v0 v7 (.g zSk) 24) zRcy
abbrev zRdl:R:= .loop 28 [v27,.z 0]<|
.ite (aL v29 (.len v28)) zRda<|
.esc<|
.done zEbx
abbrev zRdm:R:= .i (.call f_k1 [aS 30,aI 31,aI 2] zSd 32) zRde
abbrev zRdn:R:= .i (.chk (.cmp .le (.len (.app .nil v19)) (.z 8796093022208))) zRdl
abbrev zRdo:R:= .i (.call f_k2i [aS 23,aI 32,aI 33,aI 34,aS 35] [.s] 40)<|
.i (.call f_k1 [aS 36,aI 37,aI 2] zSd 41) zRdg
abbrev zRdp:R:= .i (.chk (.cmp .le (.len v19) (.z 8796093022208)))<|
.i (.head 1 v19) zRdn
abbrev zRdq:R:= .i (.call f_k2i [aS 23,aI 32,.vi .i64 (.bin .add .i64 v45 v51),aI 34,aS 35] [.s] 53)<|
.i (.call f_k1 [aS 49,aI 50,aI 2] zSd 54) zRdi
abbrev zRdr:R:= .ite (.cmp .eq v11 (.z 4)) (.ite (aL v6 v14) zRdp<|
.done JpM)<|
.done JpM
abbrev zRds:R:= .i (.call f_k19 zEaq [.b] 39)<|
.ite v39 zRdo<|
.i (.call f_k1 [aS 36,aI 37,aI 2] zSd 40) zRdf
abbrev zRdt:R:= .i (.call f_k19 zEbf [.b] 52)<|
.ite v52 zRdq<|
.i (.call f_k1 [aS 49,aI 50,aI 2] zSd 53) zRdh
abbrev zRdu:R:= .i (.idx (.cons (aZ 1) (.cons (aZ 1) (.cons (aZ 1) (.cons (aZ 0) (.cons (aZ 2) .nil))))) v48 oI 51) zRdt
abbrev zRdv:R:= .i (.chk (.cmp .le (.z 0) v48))<|
.i (.chk (aL v48 (.z 5))) zRdu
abbrev zRdw:R:= .i (.idx v44 v32 (.g zSe) 45)<|
.i (.call f_k1 [aS 36,aI 37,aZ 5] zSd 48) zRdv
abbrev zRdx:R:= .i (.chk (.not (.cmp .eq (.len v7) (.z 0))))<|
.i (.idx v7 (.bin .rem .i64 v32 (.len v7)) (.g zSg) 39) zRdw
abbrev zRdy:R:= .i (.call f_k2x [aS 30,aI 31,aI 3,aS 4,aS 5,aS 6,aZ 99] zSo 32)<|
.i (.call f_k19 zEaq [.b] 38)<|
.ite v38 zRdx zRds
abbrev zRdz:R:= .i (.call f_k1 [aS 28,aI 27,aZ 2] zSd 29)<|
.ite (.cmp .eq v29 (.z 0)) (.ite v19 zRdy zRdm) zRdm
abbrev iC (f:Nat) (a:List E) (s:List Sh1) (n:Nat) (r:R):R:= .i (.call f a s n) r
abbrev iK (b:E) (r:R):R:= .i (.chk b) r
abbrev iX (l i:E) (s:Sh) (n:Nat) (r:R):R:= .i (.idx l i s n) r
abbrev aE (x y:E):E:= .cmp .eq x y
abbrev aM (x y:E):E:= .cmp .le x y
abbrev aA:E:= .z 0
abbrev aC:E:= .z 1
abbrev zM:E:= .z 1466015503701
def R_k0:R:= .ite (aL (.z 2000) (.len v0)) (iK (aM (.z 2000) (.len v0))<|
.done [.s (.take v0 (.z 2000)),aZ 0])<|
.done [aS 0,aZ 0]
def R_k1:R:= .ite (aL v2 aC) (.done [aZ 0,aS 0,.vi .i64 (aP 1)])<|
.ite (aE (.len v0) aA) (.done [aZ 0,aS 0,.vi .i64 (aP 1)])<|
.ite (aL (.bin .sub .i64 (aP 1) aC) (.len v0)) (iX v0 (.bin .sub .i64 (aP 1) aC) (.one (.i .u8)) 3<|
 iK (.not (aE v2 aA))<|
.done [.vi .i64 (.bin .rem .i64 (.cv .i64 v3) v2),aS 0,.vi .i64 (aP 1)])<|
 iK (.not (aE (.len v0) aA))<|
 iX v0 (.bin .rem .i64 (.bin .sub .i64 (aP 1) aC) (.len v0)) (.one (.i .u8)) 3<|
 iK (.not (aE (.len v0) aA))<|
 iX v0 (.bin .rem .i64 (.bin .add .i64 (.bin .mul .i64 (.bin .sub .i64 (aP 1) aC) (.z 7)) (.z 3)) (.len v0)) (.one (.i .u8)) 4<|
 iK (.not (aE (.len v0) aA))<|
 iK (.not (aE (.z 64) aA))<|
 iK (.not (aE v2 aA))<|
.done [.vi .i64 (.bin .rem .i64 (.bin .xor .i64 (.bin .add .i64 (.bin .add .i64 (.bin .add .i64 (.bin .mul .i64 (.cv .i64 v3) (.z 131)) (.bin .mul .i64 (.cv .i64 v4) (.z 1117))) (.bin .mul .i64 (.bin .sub .i64 (aP 1) aC) (.z 29))) (.bin .mul .i64 (.bin .quo .i64 (.bin .sub .i64 (aP 1) aC) (.len v0)) (.z 53))) (.bin .quo .i64 (.bin .add .i64 (.bin .add .i64 (.bin .add .i64 (.bin .mul .i64 (.cv .i64 v3) (.z 131)) (.bin .mul .i64 (.cv .i64 v4) (.z 1117))) (.bin .mul .i64 (.bin .sub .i64 (aP 1) aC) (.z 29))) (.bin .mul .i64 (.bin .quo .i64 (.bin .sub .i64 (aP 1) aC) (.len v0)) (.z 53))) (.z 64))) v2),aS 0,.vi .i64 (aP 1)]
def R_k2:R:= .done zEbs
def R_k3:R:= iC f_k2 [] zSa 3<|
 iK (aL aA (.len v4))<|
 iX v4 aA oI 6<|
 iK (aL aC (.len v4))<|
 iX (.set v4 aA (aI 0)) aC oI 7<|
.done [aS 3,.s (.set (.set v4 aA (aI 0)) aC (aI 1)),aI 2]
def R_k4:R:= iK (aM aA v3)<|
 iK (aL v3 (.len v0))<|
 iX v0 v3 oI 5<|
.done [aI 2,.s (.set v0 v3 (aI 4)),aS 1]
def R_k5:R:= iC f_k2 [] zSa 2<|
.loop 5 [v2,.z 0,v1,v0]<|
.ite (aL v6 (.z 3)) (iC f_k1 [aS 8,aI 7,aZ 6] zSd 9<|
 iK (aM aA v9)<|
 iK (aL v9 (.z 6))<|
 iX (.cons (aZ 0) (.cons (aZ 0) (.cons (aZ 0) (.cons (aZ 1) (.cons (aZ (-1)) (.cons (aZ 2) .nil)))))) v9 oI 12<|
 iK (aM aA v6)<|
 iK (aL v6 (.len v5))<|
 iX v5 v6 oI 13<|
.next [.set v5 v6 (aI 12),aP 6,v11,v10])<|
.esc<|
.loop 9 [v3,.z 0,v7,v8]<|
.ite (aL v10 (.z 2)) (iC f_k1 [aS 12,aI 11,aZ 5] zSd 13<|
 iK (aM aA v13)<|
 iK (aL v13 (.z 5))<|
 iX (.cons (aZ 0) (.cons (aZ 0) (.cons (aZ 1) (.cons (aZ (-1)) (.cons (aZ 2) .nil))))) v13 oI 16<|
 iK (aM aA v10)<|
 iK (aL v10 (.len v9))<|
 iX v9 v10 oI 17<|
.next [.set v9 v10 (aI 16),aP 10,v15,v14])<|
.esc<|
 iC f_k1 [aS 12,aI 11,aZ 8] zSd 13<|
 iK (aM aA v13)<|
 iK (aL v13 (.z 8))<|
 iX (.cons (aZ 0) (.cons (aZ 0) (.cons (aZ 1) (.cons (aZ (-1)) (.cons (aZ 5) (.cons (aZ (-5)) (.cons (aZ 20) (.cons (aZ (-20)) .nil)))))))) v13 oI 16<|
.done [aS 5,aS 9,aI 16,aS 14,aI 15]
def R_k6:R:= iC f_k1 [aS 0,aI 1,aZ 7] zSd 2<|
.ite (aE v2 aA) zRbm<|
.ite (aE v2 aC) zRbm<|
.ite (aE v2 (.z 2)) Jrb<|
.ite (aE v2 (.z 3)) Jrb<|
.ite (aE v2 (.z 4)) Jrb<|
.ite (aE v2 (.z 5)) (iC f_k5 [aS 3,aI 4] zSi 5<|
.done [aZ 3,aZ 0,aZ 0,aS 5,aS 6,aI 7,aS 8,aI 9])<|
.done [aZ 4,aZ 0,aZ 0,.s .nil,.s .nil,aZ 0,aS 3,aI 4]
def R_k7:R:= .ite (aM v1 v0) (.done [.vb (aM v0 v2)]) aF
def R_k8:R:= .ite (.not (aE (.len v0) v1)) aF<|
.loop 3 [.z 0]<|
.ite (aL v3 (.len v0)) (iX v0 v3 oI 4<|
 iC f_k7 [aI 4,.vi .i64 (.bin .sub .i64 aA v2),aI 2] [.b] 5<|
.ite (.not v5) (.esc zRb)<|
.next [aP 3])<|
.esc zRa
def R_k9:R:= iC f_k8 [aS 0,aZ 3,aZ 2] [.b] 3<|
.ite v3 (iC f_k8 [aS 1,aZ 2,aZ 2] [.b] 4<|
.ite v4 (iC f_k7 [aI 2,aZ (-20),aZ 20] [.b] 5<|
.done [aB 5]) aF) aF
def R_ka:R:= .ite (aE v0 aC) (.ite (aE v1 aA) (iC f_k7 [aI 2,aZ 1,aZ 6] [.b] 6<|
.ite v6 (iC f_k9 zEb [.b] 7<|
.done [aB 7]) aF) aF)<|
.ite (aE v0 (.z 2)) (iC f_k7 [aI 1,aZ 0,aZ 2] [.b] 6<|
.ite v6 (.ite (aE v2 aA) (iC f_k9 zEb [.b] 7<|
.done [aB 7]) aF) aF)<|
.ite (aE v0 (.z 3)) (.ite (aE v1 aA) (.ite (aE v2 aA) (iC f_k9 zEb [.b] 6<|
.done [aB 6]) aF) aF)<|
.ite (aE v0 (.z 4)) (.ite (aE v1 aA) (.ite (aE v2 aA) (.ite (aE (.bin .add .i64 (.len v3) (.len v4)) aA) (.done [.vb (aE v5 aA)]) aF) aF) aF) aF
def R_kb:R:= .loop 1 [.z 0,.z 0]<|
.ite (aL v2 (.len v0)) (iX v0 v2 (.g zSo) 3<|
 iC f_ka [aI 3,aI 4,aI 5,aS 6,aS 7,aI 8] [.b] 9<|
.ite (.not v9) (.esc zRb)<|
 iX v0 v2 (.g zSo) 10<|
.ite (aE v10 aC) (.next [aP 1,aP 2])<|
.next [v1,aP 2])<|
.esc zRo
def R_kc:R:= iC f_k1 [aS 0,aI 1,aZ 2] zSd 2<|
 iC f_k1 [aS 3,aI 4,aZ 8] zSd 5<|
.ite (aE v5 aA) (iC f_k3 zEf zSa 8 zRdd)<|
.ite (aE v5 aC) (iC f_k3 zEf zSa 8 zRdd)<|
.ite (aE v5 (.z 2)) (iC f_k3 [aZ 1,aZ 0,aZ 0] zSa 8<|
.done [.s (.cons (.g (.cons (aZ 2) (.cons (aI 2) (.cons (aZ 0) (.cons (aS 8) (.cons (aS 9) (.cons (aI 10) .nil))))))) .nil),aS 6,aI 7])<|
.ite (aE v5 (.z 3)) (iC f_k3 zEf zSa 8<|
 iC f_k4 [aS 8,aS 9,aI 10,aI 2,aZ 1] zSb 11<|
 iC f_k3 zEf zSa 14<|
 iC f_k3 [aZ 1,aZ 0,aZ 0] zSa 17<|
.done [.s (.cons (.g (.cons (aZ 1) (.cons (aZ 0) (.cons (aZ 2) (.cons (aS 12) (.cons (aS 13) (.cons (aI 11) .nil))))))) (.cons (.g (.cons (aZ 2) (.cons (aI 2) (.cons (aZ 0) (.cons (aS 14) (.cons (aS 15) (.cons (aI 16) .nil))))))) (.cons (.g (.cons (aZ 2) (.cons (.vi .i64 (.bin .sub .i64 aC v2)) (.cons (aZ 0) (.cons (aS 17) (.cons (aS 18) (.cons (aI 19) .nil))))))) .nil))),aS 6,aI 7])<|
.ite (aE v5 (.z 4)) (iC f_k3 [aZ 0,aZ 0,aZ 0] zSa 8<|
 iC f_k4 [aS 8,aS 9,aI 10,aZ 2,aZ 1] zSb 11<|
.done [.s (.cons (.g (.cons (aZ 3) (.cons (aZ 0) (.cons (aZ 0) (.cons (aS 12) (.cons (aS 13) (.cons (aI 11) .nil))))))) .nil),aS 6,aI 7])<|
.ite (aE v5 (.z 5)) (iC f_k3 [aZ 0,aZ 1,aZ 5] zSa 8<|
 iC f_k4 [aS 8,aS 9,aI 10,aZ 0,aZ 1] zSb 11<|
 iC f_k4 [aS 12,aS 13,aI 11,aZ 1,aZ (-1)] zSb 14<|
 iC f_k3 [aZ 0,aZ 0,aZ 1] zSa 17<|
.done [.s (.cons (.g (.cons (aZ 1) (.cons (aZ 0) (.cons (aZ 1) (.cons (aS 15) (.cons (aS 16) (.cons (aI 14) .nil))))))) (.cons (.g (.cons (aZ 2) (.cons (aZ 2) (.cons (aZ 0) (.cons (aS 17) (.cons (aS 18) (.cons (aI 19) .nil))))))) .nil)),aS 6,aI 7])<|
 iC f_k1 [aS 6,aI 7,aZ 5] zSd 8<|
.loop 11 [.nil,.bin .add .i64 aC v8,v10,v9]<|
.ite (aL aA v12) (iC f_k6 [aS 14,aI 13] [.i .i64,.i .i64,.i .i64,.s,.s,.i .i64,.s,.i .i64] 15<|
 iK (aM (.len v11) (.z 879609302220))<|
.i (.head 6 v11)<|
 iK (aM (.len (.app .nil v11)) (.z 879609302220))<|
 iK (aM (.len (.app (.app .nil v11) (.cons (.g (.cons (aI 15) (.cons (aI 16) (.cons (aI 17) (.cons (aS 18) (.cons (aS 19) (.cons (aI 20) .nil))))))) .nil))) (.z 879609302220))<|
 iC f_kb [.s (.app (.app .nil v11) (.cons (.g (.cons (aI 15) (.cons (aI 16) (.cons (aI 17) (.cons (aS 18) (.cons (aS 19) (.cons (aI 20) .nil))))))) .nil))] [.b] 23<|
.ite v23 (iK (aM (.len (.app v11 (.cons (.g (.cons (aI 15) (.cons (aI 16) (.cons (aI 17) (.cons (aS 18) (.cons (aS 19) (.cons (aI 20) .nil))))))) .nil))) (.z 879609302220))<|
.next [.app v11 (.cons (.g (.cons (aI 15) (.cons (aI 16) (.cons (aI 17) (.cons (aS 18) (.cons (aS 19) (.cons (aI 20) .nil))))))) .nil),.bin .sub .i64 v12 aC,v22,v21])<|
.next [v11,.bin .sub .i64 v12 aC,v22,v21])<|
.esc<|
.done [aS 11,aS 14,aI 13]
def R_kd:R:= iC f_k1 [aS 0,aI 1,aZ 4] zSd 2<|
.loop 5 [.nil,.bin .add .i64 aC v2,v4,v3]<|
.ite (aL aA v6) (iC f_kc [aS 8,aI 7] zSa 9<|
 iK (aM (.len (.app v5 (.cons (aS 9) .nil))) (.z 2932031007402))<|
.next [.app v5 (.cons (aS 9) .nil),.bin .sub .i64 v6 aC,v11,v10])<|
.esc<|
.done [aS 5,aS 8,aI 7]
def R_ke:R:= iC f_k1 [aS 0,aI 1,aZ 4] zSd 2<|
 iC f_kd [aS 3,aI 4] zSa 5<|
 iC f_k1 [aS 6,aI 7,aZ 3] zSd 8<|
.loop 11 [.nil,.bin .add .i64 aC v8,v10,v9]<|
.ite (aL aA v12) (iC f_k1 [aS 14,aI 13,aZ 5] zSd 15<|
 iK (aM aA v15)<|
 iK (aL v15 (.z 5))<|
 iX (.cons (aZ 0) (.cons (aZ 3) (.cons (aZ 9) (.cons (aZ 20) (.cons (aZ 50) .nil))))) v15 oI 18<|
 iK (aM (.len (.app v11 (.cons (aI 18) .nil))) (.z 8796093022208))<|
.next [.app v11 (.cons (aI 18) .nil),.bin .sub .i64 v12 aC,v17,v16])<|
.esc<|
.loop 15 [.nil,.z 0,v13,v14]<|
.ite (aL v16 (.z 3)) (iC f_k1 [aS 18,aI 17,aZ 6] zSd 19<|
 iK (aM aA v19)<|
 iK (aL v19 (.z 6))<|
 iX (.cons (aZ 0) (.cons (aZ 5) (.cons (aZ 20) (.cons (aZ 60) (.cons (aZ 200) (.cons (aZ (-8)) .nil)))))) v19 oI 22<|
 iK (aM (.len (.app v15 (.cons (aI 22) .nil))) (.z 8796093022208))<|
.next [.app v15 (.cons (aI 22) .nil),aP 16,v21,v20])<|
.esc<|
.done [.vi .i64 (.bin .add .i64 aC v2),aS 5,aS 11,aS 15,aS 18,aI 17]
def R_kf:R:= iC f_k7 [.vi .i64 (.len v0),aZ 1,aZ 4] [.b] 1<|
.ite (.not v1) aF<|
.loop 2 [.z 0]<|
.ite (aL v2 (.len v0)) (iX v0 v2 (.one .s) 3<|
 iC f_kb [aS 3] [.b] 4<|
.ite (.not v4) (.esc zRb)<|
.next [aP 2])<|
.esc zRa
def R_kg:R:= iC f_k8 [aS 0,aZ 3,aZ 10000] [.b] 1<|
.done [aB 1]
def R_kh:R:= iC f_kg [aS 0] [.b] 2<|
.ite (.not v2) aF<|
 iC f_k7 [.vi .i64 (.len v1),aZ 1,aZ 3] [.b] 3<|
.ite (.not v3) aF<|
.loop 4 [.z 0]<|
.ite (aL v4 (.len v1)) (iX v1 v4 oI 5<|
 iC f_k7 [aI 5,aZ 0,aZ 50] [.b] 6<|
.ite (.not v6) (.esc zRb)<|
.next [aP 4])<|
.esc zRa
def R_ki:R:= iC f_k7 [aI 0,aZ 1,aZ 4] [.b] 4<|
.ite v4 (iC f_kf [aS 1] [.b] 5<|
.ite v5 (iC f_k8 [aS 3,aZ 3,aZ 1000] [.b] 6<|
.ite v6 (iC f_kh [aS 3,aS 2] [.b] 7<|
.done [aB 7]) aF) aF) aF
def R_kj:R:= .loop 1 [.nil,.z 0]<|
.ite (aL v2 (.len v0)) (.loop 3 [.nil,.z 0]<|
 iX v0 v2 (.one .s) 5<|
.ite (aL v4 (.len v5)) (iX v0 v2 (.one .s) 6<|
 iX v6 v4 (.g zSo) 7<|
 iK (aM (.len v10) (.z 8796093022208))<|
.i (.head 1 v10)<|
 iK (aM (.len (.app .nil v10)) (.z 8796093022208))<|
 iK (aM (.len v11) (.z 8796093022208))<|
.i (.head 1 v11)<|
 iK (aM (.len (.app .nil v11)) (.z 8796093022208))<|
 iK (aM (.len (.app v3 (.cons (.g (.cons (aI 7) (.cons (aI 8) (.cons (aI 9) (.cons (.s (.app .nil v10)) (.cons (.s (.app .nil v11)) (.cons (aI 12) .nil))))))) .nil))) (.z 879609302220))<|
.next [.app v3 (.cons (.g (.cons (aI 7) (.cons (aI 8) (.cons (aI 9) (.cons (.s (.app .nil v10)) (.cons (.s (.app .nil v11)) (.cons (aI 12) .nil))))))) .nil),aP 4])<|
.esc zRam) zRf
def R_kk:R:= iC f_kj [aS 1] [.s] 4<|
 iK (aM (.len v2) (.z 8796093022208))<|
.i (.head 1 v2)<|
 iK (aM (.len (.app .nil v2)) (.z 8796093022208))<|
 iK (aM (.len v3) (.z 8796093022208))<|
.i (.head 1 v3)<|
 iK (aM (.len (.app .nil v3)) (.z 8796093022208))<|
.done [aI 0,aS 4,.s (.app .nil v2),.s (.app .nil v3)]
def R_kl:R:= .loop 4 [.nil,.z 0]<|
.ite (aL v5 v0) (iK (aM (.len (.app v4 (.cons (.g (.cons (aZ 0) (.cons (aZ 0) (.cons (.s .nil) .nil)))) .nil))) (.z 1759218604441))<|
.next [.app v4 (.cons (.g (.cons (aZ 0) (.cons (aZ 0) (.cons (.s .nil) .nil)))) .nil),aP 5])<|
.esc<|
.done [aS 4]
def R_km:R:= .loop 4 [.nil,.z 0]<|
.ite (aL v5 (.len v2)) (iK (aM (.len (.app v4 (.cons (.g (.cons (.vb .ff) (.cons (.s .nil) (.cons (.s .nil) .nil)))) .nil))) (.z 1256584717458))<|
.next [.app v4 (.cons (.g (.cons (.vb .ff) (.cons (.s .nil) (.cons (.s .nil) .nil)))) .nil),aP 5])<|
.esc<|
.done [aS 4]
def R_kn:R:= iC f_ki zEk [.b] 4<|
.ite (.not v4) (.done [.vb .ff,aZ 0,.s .nil,.s .nil,.s .nil,.s .nil])<|
 iK (aM (.len v3) (.z 8796093022208))<|
.i (.head 1 v3)<|
 iK (aM (.len (.app .nil v3)) (.z 8796093022208))<|
 iC f_kl zEk [.s] 5<|
 iC f_km zEk [.s] 6<|
.done [.vb .tt,aZ 0,.s (.app .nil v3),aS 5,.s .nil,aS 6]
def R_ko:R:= iC f_ki zEk [.b] 4<|
.ite (.not v4) (.done [.vb .ff,.vb .ff,aZ 0,.s .nil,.s .nil,.s .nil])<|
 iK (aM (.len v3) (.z 8796093022208))<|
.i (.head 1 v3)<|
 iK (aM (.len (.app .nil v3)) (.z 8796093022208))<|
 iC f_kl zEk [.s] 5<|
.done [.vb .tt,.vb .ff,aZ 0,.s (.app .nil v3),.s (.cons (aZ 0) (.cons (aZ 0) (.cons (aZ 0) .nil))),aS 5]
def R_kp:R:= iC f_ki zEk [.b] 4<|
.ite (.not v4) (.done Jqx)<|
 iC f_kk zEk zSc 5<|
 iC f_kn zEk zSh 9<|
.loop 15 [.nil,.z 0]<|
.ite (aL v16 (.len v2)) (iC f_ko zEk zSg 17<|
 iK (aM (.len (.app v15 (.cons (.g (.cons (aB 17) (.cons (aB 18) (.cons (aI 19) (.cons (aS 20) (.cons (aS 21) (.cons (aS 22) .nil))))))) .nil))) (.z 799644820200))<|
.next [.app v15 (.cons (.g (.cons (aB 17) (.cons (aB 18) (.cons (aI 19) (.cons (aS 20) (.cons (aS 21) (.cons (aS 22) .nil))))))) .nil),aP 16])<|
.esc<|
.loop 17 [.nil,.z 0]<|
.ite (aL v18 v0) (iK (aM (.len (.app v17 (.cons (.g (.cons (aZ 0) (.cons (.vb .ff) (.cons (aZ 0) (.cons (aZ 0) (.cons (aZ 0) (.cons (.s .nil) (.cons (aZ 0) (.cons (.s .nil) .nil))))))))) .nil))) (.z 733007751850))<|
.next [.app v17 (.cons (.g (.cons (aZ 0) (.cons (.vb .ff) (.cons (aZ 0) (.cons (aZ 0) (.cons (aZ 0) (.cons (.s .nil) (.cons (aZ 0) (.cons (.s .nil) .nil))))))))) .nil),aP 18])<|
.esc<|
.done [aI 5,aS 6,aS 7,aS 8,aS 15,aB 9,aI 10,aS 11,aS 12,aS 13,aS 14,aS 17,.s .nil,.s .nil]
def R_kq:R:= iC f_k1 [aS 0,aI 1,aZ 19] zSd 3<|
 iC f_k1 [aS 4,aI 5,aZ 19] zSd 6<|
 iC f_k1 [aS 7,aI 8,aI 2] zSd 9<|
.ite (aE v9 aA) (iC f_k1 [aS 10,aI 11,aZ 3] zSd 12<|
.ite (aE v12 aA) (.done [.s (.take (.cons (.vi .i64 (.bin .sub .i64 v3 (.z 9))) (.cons (.vi .i64 (.bin .sub .i64 v6 (.z 9))) .nil)) aC),aS 13,aI 14])<|
.ite (aE v12 aC) (iK (aM (.len (.app (.cons (.vi .i64 (.bin .sub .i64 v3 (.z 9))) (.cons (.vi .i64 (.bin .sub .i64 v6 (.z 9))) .nil)) (.cons (aZ 0) .nil))) (.z 8796093022208))<|
.done [.s (.app (.cons (.vi .i64 (.bin .sub .i64 v3 (.z 9))) (.cons (.vi .i64 (.bin .sub .i64 v6 (.z 9))) .nil)) (.cons (aZ 0) .nil)),aS 13,aI 14])<|
 iC f_k1 [aS 13,aI 14,aZ 2] zSd 15<|
 iC f_k1 [aS 16,aI 17,aZ 2] zSd 18<|
 iK (aM aA v18)<|
 iK (aL v18 (.z 2))<|
 iX (.cons (aZ 10) (.cons (aZ (-10)) .nil)) v18 oI 21<|
 iK (aM aA v15)<|
 iK (aL v15 (.z 2))<|
 iX (.cons (.vi .i64 (.bin .sub .i64 v3 (.z 9))) (.cons (.vi .i64 (.bin .sub .i64 v6 (.z 9))) .nil)) v15 oI 22<|
.done [.s (.set (.cons (.vi .i64 (.bin .sub .i64 v3 (.z 9))) (.cons (.vi .i64 (.bin .sub .i64 v6 (.z 9))) .nil)) v15 (aI 21)),aS 19,aI 20])<|
.done [.s (.cons (.vi .i64 (.bin .sub .i64 v3 (.z 9))) (.cons (.vi .i64 (.bin .sub .i64 v6 (.z 9))) .nil)),aS 10,aI 11]
def R_kr:R:= .ite (aL aA (.len v14)) (iC f_k1 [aS 0,aI 1,aZ 3] zSd 16<|
.ite (aE v16 aA) (iC f_k1 [aS 17,aI 18,.vi .i64 (.len v14)] zSd 19<|
 iC f_k1 [aS 20,aI 21,aZ 32] zSd 22<|
.ite (aE v22 aA) JlR<|
.ite (aE v22 aC) JlR<|
.ite (aE v22 (.z 2)) JlR<|
.ite (aE v22 (.z 3)) JlR<|
.ite (aE v22 (.z 4)) JlR<|
.ite (aE v22 (.z 5)) JlR<|
.ite (aE v22 (.z 6)) JoI<|
.ite (aE v22 (.z 7)) JoI<|
.ite (aE v22 (.z 8)) JoI<|
.ite (aE v22 (.z 9)) JoI<|
.ite (aE v22 (.z 10)) JoI<|
.ite (aE v22 (.z 11)) (iC f_k1 Jq7 zSd 25<|
.done [aZ 3,aI 25,aZ 0,.s .nil,aS 26,aI 27])<|
.ite (aE v22 (.z 12)) (.done [aZ 5,aI 19,aZ 0,.s .nil,aS 23,aI 24])<|
.ite (aE v22 (.z 13)) (.done [aZ 6,aI 19,aZ 0,.s .nil,aS 23,aI 24])<|
.ite (aE v22 (.z 14)) (.done [aZ 6,aI 19,aZ 0,.s .nil,aS 23,aI 24])<|
.ite (aE v22 (.z 15)) (.done Jqz)<|
.ite (aE v22 (.z 16)) (.done Jqz)<|
.ite (aE v22 (.z 17)) (.done Jqz)<|
.ite (aE v22 (.z 18)) (iC f_k1 [aS 23,aI 24,.vi .i64 (.bin .add .i64 (.len v6) aC)] zSd 25<|
.done [aZ 8,aI 25,aZ 0,.s .nil,aS 26,aI 27])<|
.ite (aE v22 (.z 19)) (iC f_k1 [aS 23,aI 24,.vi .i64 (.bin .add .i64 (.len v6) aC)] zSd 25<|
.done [aZ 9,aI 25,aZ 0,.s .nil,aS 26,aI 27])<|
.ite (aE v22 (.z 20)) (iC f_k1 [aS 23,aI 24,aZ 2] zSd 25<|
.done [aZ 10,aI 25,aZ 0,.s .nil,aS 26,aI 27])<|
.done [aZ 4,aI 19,aZ 0,.s .nil,aS 23,aI 24])<|
 iC f_k1 [aS 17,aI 18,aZ 32] zSd 19<|
.ite (aE v19 aA) JmW<|
.ite (aE v19 aC) JmW<|
.ite (aE v19 (.z 2)) JmW<|
.ite (aE v19 (.z 3)) JmW<|
.ite (aE v19 (.z 4)) JmW<|
.ite (aE v19 (.z 5)) JmW<|
.ite (aE v19 (.z 6)) Jo9<|
.ite (aE v19 (.z 7)) Jo9<|
.ite (aE v19 (.z 8)) Jo9<|
.ite (aE v19 (.z 9)) Jo9<|
.ite (aE v19 (.z 10)) Jo9<|
.ite (aE v19 (.z 11)) (iC f_k1 JqJ zSd 22<|
.done [aZ 3,aI 22,aZ 0,.s .nil,aS 23,aI 24])<|
.ite (aE v19 (.z 12)) (.done [aZ 5,aZ 0,aZ 0,.s .nil,aS 20,aI 21])<|
.ite (aE v19 (.z 13)) (.done [aZ 6,aZ 0,aZ 0,.s .nil,aS 20,aI 21])<|
.ite (aE v19 (.z 14)) (.done [aZ 6,aZ 0,aZ 0,.s .nil,aS 20,aI 21])<|
.ite (aE v19 (.z 15)) (.done zEz)<|
.ite (aE v19 (.z 16)) (.done zEz)<|
.ite (aE v19 (.z 17)) (.done zEz)<|
.ite (aE v19 (.z 18)) (iC f_k1 [aS 20,aI 21,.vi .i64 (.bin .add .i64 (.len v6) aC)] zSd 22<|
.done [aZ 8,aI 22,aZ 0,.s .nil,aS 23,aI 24])<|
.ite (aE v19 (.z 19)) (iC f_k1 [aS 20,aI 21,.vi .i64 (.bin .add .i64 (.len v6) aC)] zSd 22<|
.done [aZ 9,aI 22,aZ 0,.s .nil,aS 23,aI 24])<|
.ite (aE v19 (.z 20)) (iC f_k1 [aS 20,aI 21,aZ 2] zSd 22<|
.done [aZ 10,aI 22,aZ 0,.s .nil,aS 23,aI 24])<|
.done [aZ 4,aZ 0,aZ 0,.s .nil,aS 20,aI 21])<|
 iC f_k1 [aS 0,aI 1,aZ 32] zSd 16<|
.ite (aE v16 aA) Jmg<|
.ite (aE v16 aC) Jmg<|
.ite (aE v16 (.z 2)) Jmg<|
.ite (aE v16 (.z 3)) Jmg<|
.ite (aE v16 (.z 4)) Jmg<|
.ite (aE v16 (.z 5)) Jmg<|
.ite (aE v16 (.z 6)) JnT<|
.ite (aE v16 (.z 7)) JnT<|
.ite (aE v16 (.z 8)) JnT<|
.ite (aE v16 (.z 9)) JnT<|
.ite (aE v16 (.z 10)) JnT<|
.ite (aE v16 (.z 11)) (iC f_k1 JqW zSd 19<|
.done [aZ 3,aI 19,aZ 0,.s .nil,aS 20,aI 21])<|
.ite (aE v16 (.z 12)) (.done [aZ 5,aZ 0,aZ 0,.s .nil,aS 17,aI 18])<|
.ite (aE v16 (.z 13)) (.done [aZ 6,aZ 0,aZ 0,.s .nil,aS 17,aI 18])<|
.ite (aE v16 (.z 14)) (.done [aZ 6,aZ 0,aZ 0,.s .nil,aS 17,aI 18])<|
.ite (aE v16 (.z 15)) (.done zEx)<|
.ite (aE v16 (.z 16)) (.done zEx)<|
.ite (aE v16 (.z 17)) (.done zEx)<|
.ite (aE v16 (.z 18)) (iC f_k1 [aS 17,aI 18,.vi .i64 (.bin .add .i64 (.len v6) aC)] zSd 19<|
.done [aZ 8,aI 19,aZ 0,.s .nil,aS 20,aI 21])<|
.ite (aE v16 (.z 19)) (iC f_k1 [aS 17,aI 18,.vi .i64 (.bin .add .i64 (.len v6) aC)] zSd 19<|
.done [aZ 9,aI 19,aZ 0,.s .nil,aS 20,aI 21])<|
.ite (aE v16 (.z 20)) (iC f_k1 [aS 17,aI 18,aZ 2] zSd 19<|
.done [aZ 10,aI 19,aZ 0,.s .nil,aS 20,aI 21])<|
.done [aZ 4,aZ 0,aZ 0,.s .nil,aS 17,aI 18]
def R_ks:R:= .ite (aL (.bin .sub .i64 (.len v14) aC) aA) (.ite (aE v16 aA) (.done [aZ 7,aZ 0,aZ 0,.s .nil,aS 0,aI 1])<|
.ite (aE v16 aC) (iC f_k1 JqL zSd 18<|
.done JpS)<|
.ite (aE v16 (.z 2)) (iC f_k1 JqL zSd 18<|
.done JpS)<|
.ite (aE v16 (.z 3)) Jmb<|
.ite (aE v16 (.z 4)) Jmb<|
.ite (aE v16 (.z 5)) Jmb<|
.ite (aE v16 (.z 7)) Jmb<|
.ite (aE v16 (.z 8)) Jmb<|
.ite (aE v16 (.z 9)) Jmb<|
.ite (aE v16 (.z 6)) zRbk<|
.ite (aE v16 (.z 10)) zRbj<|
.ite (aE v16 (.z 11)) zRak<|
.done [aZ 4,aZ 0,aZ 0,.s .nil,aS 0,aI 1])<|
.ite (aE v16 aA) (.done [aZ 7,aZ 0,aZ 0,.s .nil,aS 0,aI 1])<|
.ite (aE v16 aC) (iC f_k1 Jrg zSd 18<|
.done JpS)<|
.ite (aE v16 (.z 2)) (iC f_k1 Jrg zSd 18<|
.done JpS)<|
.ite (aE v16 (.z 3)) Jmq<|
.ite (aE v16 (.z 4)) Jmq<|
.ite (aE v16 (.z 5)) Jmq<|
.ite (aE v16 (.z 7)) Jmq<|
.ite (aE v16 (.z 8)) Jmq<|
.ite (aE v16 (.z 9)) Jmq<|
.ite (aE v16 (.z 6)) zRbk<|
.ite (aE v16 (.z 10)) zRbj<|
.ite (aE v16 (.z 11)) zRak<|
.done [aZ 4,.vi .i64 (.bin .sub .i64 (.len v14) aC),aZ 0,.s .nil,aS 0,aI 1]
def R_kt:R:= iC f_k1 [aS 0,aI 1,.vi .i64 (.len v13)] zSd 17<|
 iK (.not (aE (.z 10) aA))<|
.ite (aE (.bin .rem .i64 v16 (.z 10)) aA) (iC f_k1 [aS 18,aI 19,.vi .i64 (.len v3)] zSd 20 zRz)<|
.ite (aE (.bin .rem .i64 v16 (.z 10)) aC) (iC f_k1 [aS 18,aI 19,.vi .i64 (.len v3)] zSd 20 zRz)<|
.ite (aE (.bin .rem .i64 v16 (.z 10)) (.z 2)) JqX<|
.ite (aE (.bin .rem .i64 v16 (.z 10)) (.z 3)) JqX<|
.ite (aE (.bin .rem .i64 v16 (.z 10)) (.z 4)) JqX<|
.ite (aE (.bin .rem .i64 v16 (.z 10)) (.z 5)) (.ite (aL aA (.len v11)) (.ite (aL (.len v14) (.z 4)) (.done [aZ 7,aZ 0,aZ 0,.s .nil,aS 18,aI 19])<|
.done Jrc)<|
.done Jrc)<|
.done Jrc
def R_ku:R:= iC f_k7 [aI 0,aZ 0,aZ 2] [.b] 1<|
.ite (.not v1) (.done zEl)<|
 iC f_k2 [] zSa 2<|
 iK (aM aA v0) zRu
def R_kv:R:= iC f_k2 [] zSa 7<|
.loop 10 [v7,.z 0]<|
.ite (aL v11 (.z 3)) (iX v0 v11 oI 12<|
 iX v3 v11 oI 13<|
 iK (aM aA v11)<|
 iK (aL v11 (.len v10))<|
 iX v10 v11 oI 14<|
.next [.set v10 v11 (.vi .i64 (.bin .add .i64 v12 (.bin .mul .i64 v6 v13))),aP 11])<|
.esc<|
.loop 12 [v8,.z 0]<|
.ite (aL v13 (.z 2)) (iX v1 v13 oI 14<|
 iX v4 v13 oI 15<|
 iK (aM aA v13)<|
 iK (aL v13 (.len v12))<|
 iX v12 v13 oI 16<|
.next [.set v12 v13 (.vi .i64 (.bin .add .i64 v14 (.bin .mul .i64 v6 v15))),aP 13])<|
.esc<|
.done [aS 10,aS 12,.vi .i64 (.bin .add .i64 v2 (.bin .mul .i64 v6 v5))]
def R_kw:R:= .loop 1 [.nil,.z 0]<|
.ite (aL v2 (.len v0)) (iC f_k2 [] zSa 3<|
 iX v0 v2 (.g zSa) 6<|
 iC f_kv [aS 3,aS 4,aI 5,aS 6,aS 7,aI 8,aZ 1] zSa 9<|
 iK (aM (.len (.app v1 (.cons (.g (.cons (aS 9) (.cons (aS 10) (.cons (aI 11) .nil)))) .nil))) (.z 1256584717458))<|
.next [.app v1 (.cons (.g (.cons (aS 9) (.cons (aS 10) (.cons (aI 11) .nil)))) .nil),aP 2]) zRf
def R_kx:R:= iC f_k8 [aS 0,aZ 3,aZ 10000000] [.b] 3<|
.ite v3 (iC f_k8 [aS 1,aZ 2,aZ 10000000] [.b] 4<|
.ite v4 (iC f_k7 [aI 2,aZ (-10000000),aZ 10000000] [.b] 5<|
.done [aB 5]) aF) aF
def R_ky:R:= iC f_kx zEc [.b] 4<|
.ite (.not v4) (.done zEl)<|
.ite (.not (aE (.len v3) (.z 3))) (.done zEl)<|
 iX v3 aA (.g zSa) 5<|
 iC f_kx [aS 5,aS 6,aI 7] [.b] 8<|
.ite (.not v8) (.done zEl)<|
 iX v3 aC (.g zSa) 9<|
 iC f_kx [aS 9,aS 10,aI 11] [.b] 12<|
.ite (.not v12) (.done zEl)<|
 iX v3 (.z 2) (.g zSa) 13<|
 iC f_kx [aS 13,aS 14,aI 15] [.b] 16<|
.ite (.not v16) (.done zEl)<|
 iK (aM (.len v1) (.z 8796093022208))<|
.i (.head 1 v1)<|
 iK (aM (.len (.app .nil v1)) (.z 8796093022208))<|
.loop 17 [.cons (aZ 0) (.cons (aZ 0) (.cons (aZ 0) .nil)),.app .nil v1,.z 0,v2]<|
.ite (aL v19 (.z 3)) (iX v3 v19 (.g zSa) 21<|
 iX v0 v19 oI 24<|
 iC f_kv [aS 17,aS 18,aI 20,aS 21,aS 22,aI 23,aI 24] zSa 25<|
.next [v25,v26,aP 19,v27])<|
.esc<|
 iC f_kx [aS 17,aS 18,aI 20] [.b] 21<|
.ite (.not v21) (.done zEl)<|
.done [aS 17,aS 18,aI 20]
def R_kz:R:= iC f_k2 [] zSa 3<|
 iC f_kv [aS 3,aS 4,aI 5,aS 0,aS 1,aI 2,aZ (-1)] zSa 6<|
.done [aS 6,aS 7,.vi .i64 (.bin .sub .i64 v8 aC)]
def R_k10:R:= iC f_kw [aS 1] [.s] 3<|
 iC f_kw [aS 2] [.s] 4<|
.loop 5 [.nil,.z 0]<|
.ite (aL v6 (.z 3)) (iX v0 v6 (.g zSa) 7<|
 iC f_ku [aI 6] zSa 10<|
 iC f_kv [aS 7,aS 8,aI 9,aS 10,aS 11,aI 12,aZ (-1)] zSa 13<|
 iK (aM (.len (.app v5 (.cons (.g (.cons (aS 13) (.cons (aS 14) (.cons (aI 15) .nil)))) .nil))) (.z 1256584717458))<|
.next [.app v5 (.cons (.g (.cons (aS 13) (.cons (aS 14) (.cons (aI 15) .nil)))) .nil),aP 6])<|
.esc<|
.done [aS 3,aS 5,aS 4,.vb .ff]
def R_k11:R:= .loop 5 [v2,v4,v1]<|
.ite (aL v7 (.len v0)) (iX v0 v7 (.g zSo) 8<|
.ite (aE v8 (.z 4)) (iC f_kw [aS 3] [.s] 14<|
.esc<|
.done [.s (.cons (.g (.cons (aS 14) (.cons (.s .nil) (.cons (.s .nil) (.cons (.vb .tt) .nil))))) .nil)])<|
 iC f_ky [aS 11,aS 12,aI 13,aS 5] zSa 14<|
.ite (aE v8 aC) (iC f_kw [aS 5] [.s] 17<|
 iC f_kw [aS 3] [.s] 18<|
 iK (aM (.len (.app v18 (.cons (.g (.cons (aS 14) (.cons (aS 15) (.cons (aI 16) .nil)))) .nil))) (.z 1256584717458))<|
 iC f_kw [aS 6] [.s] 19<|
 iC f_k11 [aS 0,.vi .i64 (aP 7),aS 17,.s (.app v18 (.cons (.g (.cons (aS 14) (.cons (aS 15) (.cons (aI 16) .nil)))) .nil)),aS 19] [.s] 20<|
 iC f_kw [aS 5] [.s] 21<|
 iC f_kw [aS 3] [.s] 22<|
 iC f_kz [aS 14,aS 15,aI 16] zSa 23<|
 iK (aM (.len (.app v22 (.cons (.g (.cons (aS 23) (.cons (aS 24) (.cons (aI 25) .nil)))) .nil))) (.z 1256584717458))<|
 iC f_kw [aS 6] [.s] 26<|
 iC f_k11 [aS 0,.vi .i64 (.bin .add .i64 (aP 7) v10),aS 21,.s (.app v22 (.cons (.g (.cons (aS 23) (.cons (aS 24) (.cons (aI 25) .nil)))) .nil)),aS 26] [.s] 27<|
 iK (aM (.len v27) (.z 879609302220))<|
.i (.head 4 v27)<|
 iK (aM (.len (.app v20 v27)) (.z 879609302220))<|
.esc<|
.done [.s (.app v20 v27)])<|
.ite (aE v8 (.z 2)) (iC f_kw [aS 5] [.s] 17<|
 iK (aM aA v9)<|
 iK (aL v9 (.len v17))<|
 iX v17 v9 (.g zSa) 18<|
 iC f_kv [aS 18,aS 19,aI 20,aS 14,aS 15,aI 16,aZ 1] zSa 21<|
 iK (aM aA v9)<|
 iK (aL v9 (.len v17))<|
 iX v17 v9 (.g zSa) 24<|
.next [.set v17 v9 (.g (.cons (aS 21) (.cons (aS 22) (.cons (aI 23) .nil)))),v6,aP 7])<|
 iC f_kw [aS 6] [.s] 17<|
 iK (aM (.len (.app v17 (.cons (.g (.cons (aS 14) (.cons (aS 15) (.cons (aI 16) .nil)))) .nil))) (.z 1256584717458))<|
.next [v5,.app v17 (.cons (.g (.cons (aS 14) (.cons (aS 15) (.cons (aI 16) .nil)))) .nil),aP 7])<|
.esc<|
 iC f_k10 [aS 5,aS 3,aS 6] [.s,.s,.s,.b] 8<|
.done [.s (.cons (.g (.cons (aS 8) (.cons (aS 9) (.cons (aS 10) (.cons (aB 11) .nil))))) .nil)]
def R_k12:R:= iC f_kb [aS 0] [.b] 1<|
.ite (.not v1) zRc<|
 iC f_ku [aZ 0] zSa 2<|
 iC f_ku [aZ 1] zSa 5<|
 iC f_ku [aZ 2] zSa 8<|
 iC f_k11 [aS 0,aZ 0,.s (.cons (.g (.cons (aS 2) (.cons (aS 3) (.cons (aI 4) .nil)))) (.cons (.g (.cons (aS 5) (.cons (aS 6) (.cons (aI 7) .nil)))) (.cons (.g (.cons (aS 8) (.cons (aS 9) (.cons (aI 10) .nil)))) .nil))),.s .nil,.s .nil] [.s] 11<|
.done [aS 11]
def R_k13:R:= iK (aM (.len v0) (.z 70368744177664))<|
.i (.head 1 v0)<|
 iK (aM (.len (.app .nil v0)) (.z 70368744177664))<|
.loop 2 [.app .nil v0,.z 0]<|
.ite (aL v3 (.len v1)) (.loop 4 [v2,.z 0]<|
.ite (aL v5 (.z 3)) (iX v1 v3 (.g zSa) 6<|
 iX v6 v5 oI 9<|
.ite (.not (aE v9 aA)) (iK (aM aA v5)<|
 iK (aL v5 (.len v4))<|
 iX v4 v5 (.one .b) 10<|
.next [.set v4 v5 (.vb .tt),aP 5])<|
.next [v4,aP 5])<|
.esc<|
.next [v4,aP 3])<|
.esc<|
.done [aS 2]
def R_k14:R:= .loop 3 [.nil,.z 0,.z 0]<|
.ite (aL v5 (.len v0)) (.ite (aE v4 aA) (iX v0 v5 oI 6<|
.ite (aL aA v6) (iX v0 v5 oI 7<|
 iK (aM (.len (.app v3 (.cons (.vi .i64 (.bin .mul .i64 aC v7)) .nil))) (.z 8796093022208))<|
.next [.app v3 (.cons (.vi .i64 (.bin .mul .i64 aC v7)) .nil),.z 1,aP 5])<|
.ite (aE v4 aA) (iX v0 v5 oI 7<|
.ite (aL v7 aA) (iX v0 v5 oI 8<|
 iK (aM (.len (.app v3 (.cons (.vi .i64 (.bin .mul .i64 (.z (-1)) v8)) .nil))) (.z 8796093022208))<|
.next [.app v3 (.cons (.vi .i64 (.bin .mul .i64 (.z (-1)) v8)) .nil),.z (-1),aP 5])<|
 iX v0 v5 oI 8<|
 iK (aM (.len (.app v3 (.cons (.vi .i64 (.bin .mul .i64 v4 v8)) .nil))) (.z 8796093022208))<|
.next [.app v3 (.cons (.vi .i64 (.bin .mul .i64 v4 v8)) .nil),v4,aP 5])<|
 iX v0 v5 oI 7 zRbf)<|
.ite (aE v4 aA) (iX v0 v5 oI 6<|
.ite (aL v6 aA) (iX v0 v5 oI 7<|
 iK (aM (.len (.app v3 (.cons (.vi .i64 (.bin .mul .i64 (.z (-1)) v7)) .nil))) (.z 8796093022208))<|
.next [.app v3 (.cons (.vi .i64 (.bin .mul .i64 (.z (-1)) v7)) .nil),.z (-1),aP 5])<|
 iX v0 v5 oI 7 zRbf)<|
 iX v0 v5 oI 6<|
 iK (aM (.len (.app v3 (.cons (.vi .i64 (.bin .mul .i64 v4 v6)) .nil))) (.z 8796093022208))<|
.next [.app v3 (.cons (.vi .i64 (.bin .mul .i64 v4 v6)) .nil),v4,aP 5])<|
.esc<|
.done [aS 3]
def R_k15:R:=JqF
def R_k16:R:= .loop 2 [.z 0]<|
.ite (aL v2 (.len v0)) (iX v0 v2 (.one .s) 3<|
 iC f_k15 [aS 3,aS 1] [.b] 4 zRi)<|
.esc zRd
def R_k17:R:= .loop 1 [.nil,.z 0]<|
.ite (aL v2 (.z 3)) (iC f_ku [aI 2] zSa 3 zRam)<|
.esc<|
.loop 3 [v1,.cons (.vb .ff) (.cons (.vb .ff) (.cons (.vb .ff) .nil)),.z 0]<|
.ite (aL v5 (.len v0)) (iX v0 v5 (.one .s) 6<|
 iC f_k12 [aS 6] [.s] 7<|
.loop 8 [v3,v4,.z 0]<|
.ite (aL v10 (.len v7)) (iK (aM aA v10)<|
 iK (aL v10 (.len v7))<|
 iX v7 v10 (.g [.s,.s,.s,.b]) 11<|
 iC f_k13 [aS 9,aS 12] [.s] 15<|
 iK (aM aA v10)<|
 iK (aL v10 (.len v7))<|
 iX v7 v10 (.g [.s,.s,.s,.b]) 16<|
 iC f_k13 [aS 15,aS 18] [.s] 20<|
.loop 21 [v8,.z 0]<|
 iK (aM aA v10)<|
 iK (aL v10 (.len v7))<|
 iX v7 v10 (.g [.s,.s,.s,.b]) 23<|
.ite (aL v22 (.len v23)) (iK (aM aA v10)<|
 iK (aL v10 (.len v7))<|
 iX v7 v10 (.g [.s,.s,.s,.b]) 27<|
 iX v27 v22 (.g zSa) 31<|
 iC f_k14 [aS 31,aS 32,aI 33] [.s] 34<|
 iC f_k16 [aS 21,aS 34] sI 35<|
.ite (aL v35 aA) (iC f_k2 [] zSa 36<|
 iC f_k15 [aS 34,aS 36] [.b] 39<|
.ite (.not v39) (iK (aM (.len (.app v21 (.cons (aS 34) .nil))) (.z 2932031007402))<|
.next [.app v21 (.cons (aS 34) .nil),aP 22])<|
.next [v21,aP 22])<|
.next [v21,aP 22])<|
.esc<|
.next [v21,v20,aP 10])<|
.esc<|
.next [v8,v9,aP 5])<|
.esc<|
.done [aS 3,aS 4]
def R_k18:R:= iC f_k8 [aS 0,aZ 2,aZ 9] [.b] 1<|
.done [aB 1]
def R_k19:R:= iC f_k7 [aI 4,aZ 0,.vi .i64 (.bin .sub .i64 v0 aC)] [.b] 8<|
.ite v8 (iC f_k7 [aI 5,aZ 1,aZ 300] [.b] 9<|
.ite v9 (iC f_k7 [aI 6,aZ 0,.vi .i64 (.bin .sub .i64 (.len v1) aC)] [.b] 10<|
.ite v10 (iC f_k18 [aS 7] [.b] 11<|
.done [aB 11]) aF) aF) aF
def R_k1b:R:= iC f_k7 [aI 0,aZ 1,aZ 3] [.b] 2<|
.ite (.not v2) (.done zEn)<|
.ite (.not (aE v0 aC)) (.ite (aL aA (.len v1)) (.done zEn) zRdc) zRdc
def R_k1c:R:= iC f_k1b [aI 0,aS 1] [.d] 2<|
.i (.prim .seq [.da 2,.vc (.string (Jcz []))] .b 3) zRh
def R_k1d:R:= .ite (aL (.z 100) (.len v4)) aF<|
.loop 5 [.z 0]<|
.ite (aL v5 (.len v4)) (iX v4 v5 (.g zSp) 6<|
 iC f_k19 Jqw [.b] 12<|
.ite (.not v12) (.esc zRb)<|
 iX v4 v5 (.g zSp) 13<|
 iC f_k1c [aI 17,aS 18] [.b] 19<|
.ite (.not v19) (.esc zRb)<|
.next [aP 5])<|
.esc zRa
def R_k1e:R:= .done [aS 7,aS 2]
def R_k1f:R:= .loop 1 [.z 0]<|
.ite (aL v1 (.len v0)) (iX v0 v1 (.one .s) 2<|
 iC f_k8 [aS 2,aZ 3,aZ 10000000] [.b] 3<|
.ite (.not v3) (.esc zRb)<|
.next [aP 1])<|
.esc zRa
def R_k1g:R:= .loop 2 [.z 0,.z 0]<|
.ite (aL v3 (.z 3)) (iX v0 v3 oI 4 zRq) zRg
def R_k1h:R:= iC f_kh [aS 0,aS 1] [.b] 5<|
.ite (.not v5) aF<|
 iC f_k1f [aS 2] [.b] 6<|
.ite (.not v6) aF<|
 iC f_k7 Jrd [.b] 7<|
.ite (.not v7) aF<|
 iC f_k8 [aS 4,aZ 3,aZ 20000] [.b] 8<|
.ite (.not v8) aF<|
.loop 9 [.z 0]<|
.ite (aL v9 (.len v2)) (iX v2 v9 (.one .s) 10<|
 iC f_k1g [aS 10,aS 4] sI 11<|
 iX v1 v3 oI 12<|
 iX v1 v3 oI 13<|
 iC f_k7 [aI 11,.vi .i64 (.bin .sub .i64 aA v12),aI 13] [.b] 14<|
.ite (.not v14) (.esc zRb)<|
.next [aP 9])<|
.esc zRa
def R_k1i:R:= .loop 2 [.z 0]<|
.ite (aL v2 (.z 3)) (iX v0 v2 (.one .b) 3<|
.ite v3 (iX v1 v2 oI 4<|
.ite (.not (aE v4 aA)) (.esc zRb)<|
.next [aP 2])<|
.next [aP 2])<|
.esc zRa
def R_k1j:R:= .ite (.not (aE (.len v4) v0)) aF<|
.loop 5 [.z 0]<|
.ite (aL v5 (.len v4)) (iX v4 v5 (.g zSe) 6<|
 iC f_k7 [aI 6,aZ 0,aZ 300] [.b] 9<|
.ite (.not v9) (.esc zRb)<|
 iX v4 v5 (.g zSe) 10<|
 iX v4 v5 (.g zSe) 13<|
.ite (.not (.beq (aE v10 aA) (aE v14 aA))) (.esc zRb)<|
 iX v4 v5 (.g zSe) 16<|
.ite (aE v16 aA) (iX v4 v5 (.g zSe) 19<|
.ite (aL aA (.len v21)) (.esc zRb)<|
 iX v4 v5 (.g zSe) 22<|
.ite (aL aA v22) (iX v4 v5 (.g zSe) 25<|
 iC f_k1c [aI 26,aS 27] [.b] 28<|
.ite (.not v28) (.esc zRb)<|
.next [aP 5])<|
.next [aP 5])<|
 iX v4 v5 (.g zSe) 19<|
.ite (aL aA v19) (iX v4 v5 (.g zSe) 22<|
 iC f_k1c [aI 23,aS 24] [.b] 25<|
.ite (.not v25) (.esc zRb)<|
.next [aP 5])<|
.next [aP 5])<|
.esc zRa
def R_k1k:R:= iC f_k7 [aI 8,aZ 0,aZ 200] [.b] 13<|
.ite v13 (iC f_kg [aS 9] [.b] 14<|
.ite v14 (iC f_k1e [aI 0,aS 1,aS 2,aS 3,aB 6,aB 7,aI 8,aS 9,aS 10,aS 11] [.s,.s] 15<|
 iC f_k1h [aS 15,aS 16,aS 4,aI 12,aS 10] [.b] 17<|
.ite v17 (iC f_k1i [aS 5,aS 10] [.b] 18<|
.ite v18 (iC f_k1j [aI 0,aS 1,aS 2,aS 3,aS 11] [.b] 19<|
.done [aB 19]) aF) aF) aF) aF
def R_k1l:R:= iC f_k7 [aI 4,aZ 0,aZ 300] [.b] 13<|
.ite (.not v13) aF<|
.ite (.not (.beq (aE v4 aA) (aE v10 aA))) aF<|
.ite (aE v4 aA) (.ite (aL aA (.len v11)) aF<|
.ite (aL aA v4) zRci zRcb)<|
.ite (aL aA v4) zRci zRcb
def R_k1m:R:= .ite (aE v4 aA) (.ite (aE v5 aA) (.ite (aE v6 aA) (.ite v11 (.ite v12 JmI Jo4)<|
.ite (aE (.len v7) aA) (.ite v12 JmI Jo4) aF)<|
.ite v11 (.ite v12 JmI Jo4) aF)<|
.ite v11 (.ite v12 JmI Jo4) aF)<|
.ite v11 (.ite v12 JmI Jo4) aF
def R_k1n:R:= .ite (.not (aE (.len v4) v0)) aF<|
.loop 5 [.z 0]<|
.ite (aL v5 (.len v4)) (iX v4 v5 oI 6<|
 iC f_k7 [aI 6,aZ 0,aZ 300] [.b] 7<|
.ite (.not v7) (.esc zRb)<|
.next [aP 5])<|
.esc zRa
def R_k1o:R:= iC f_k7 [aI 7,aZ 0,aZ 200] [.b] 15<|
.ite (.not v15) aF<|
.ite (aE v4 aC) (.ite (aE v5 (.z (-1))) (.ite (aE v6 aA) (.ite (aE v7 aA) (iC f_k19 [aI 0,aS 1,aS 2,aS 3,aI 8,aI 9,aI 10,aS 11] [.b] 16<|
.ite v16 (iC f_k1m [aI 4,aI 5,aI 6,aI 7,aI 8,aI 9,aI 10,aS 11,aS 12,aS 13,aS 14,.vb .tt,.vb .ff,.vb .ff,.vb .ff] [.b] 17<|
.done [aB 17]) aF) aF) aF) aF)<|
.ite (aE v4 (.z 2)) (iC f_k7 [aI 5,aZ 0,.vi .i64 (.bin .sub .i64 (.len v2) aC)] [.b] 16<|
.ite v16 (.ite (aE v6 aA) (iC f_k1m [aI 4,aI 5,aI 6,aI 7,aI 8,aI 9,aI 10,aS 11,aS 12,aS 13,aS 14,.vb .ff,.vb .ff,.vb .ff,.vb .ff] [.b] 17<|
.done [aB 17]) aF) aF)<|
.ite (aE v4 (.z 3)) (.ite (aE v5 (.z (-1))) (iC f_k7 [aI 6,aZ 0,.vi .i64 (.bin .sub .i64 (.len v2) aC)] [.b] 16<|
.ite v16 (iC f_k8 [aS 12,aZ 3,aZ 20000] [.b] 17<|
.ite v17 (iC f_k1n [aI 0,aS 1,aS 2,aS 3,aS 13] [.b] 18<|
.ite v18 (iC f_k1m [aI 4,aI 5,aI 6,aI 7,aI 8,aI 9,aI 10,aS 11,aS 12,aS 13,aS 14,.vb .ff,.vb .tt,.vb .tt,.vb .ff] [.b] 19<|
.done [aB 19]) aF) aF) aF) aF)<|
.ite (aE v4 (.z 4)) (iC f_k7 [aI 5,aZ 0,.vi .i64 (.bin .sub .i64 (.len v2) aC)] [.b] 16<|
.ite v16 (.ite (aE v6 aA) (iC f_kg [aS 12] [.b] 17<|
.ite v17 (iC f_k1j [aI 0,aS 1,aS 2,aS 3,aS 14] [.b] 18<|
.ite v18 (iC f_k1m [aI 4,aI 5,aI 6,aI 7,aI 8,aI 9,aI 10,aS 11,aS 12,aS 13,aS 14,.vb .ff,.vb .tt,.vb .ff,.vb .tt] [.b] 19<|
.done [aB 19]) aF) aF) aF) aF) aF
def R_k1p:R:= .ite (.not (aE (.len v11) (.len v2))) aF<|
.loop 12 [.z 0]<|
.ite (aL v12 (.len v11)) (iX v11 v12 (.g [.b,.s,.s]) 13<|
.ite (.not v13) (.ite (aL aA (.bin .add .i64 (.len v14) (.len v15))) (.esc zRb)<|
.ite v13 zRca<|
.next [aP 12])<|
.ite v13 zRca<|
.next [aP 12])<|
.esc zRa
def R_k1q:R:= .loop 6 [.z 0,.z 0]<|
.ite (aL v7 (.len v5)) (iX v5 v7 (.g [.b,.s,.s]) 8<|
.ite v8 (.next [aP 6,aP 7])<|
.next [v6,aP 7])<|
.esc<|
.done [aI 6]
def R_k1r:R:= iC f_k7 [aI 7,aZ 0,aZ 200] [.b] 12<|
.ite (.not v12) aF<|
 iC f_kg [aS 8] [.b] 13<|
.ite (.not v13) aF<|
 iC f_k1j [aI 0,aS 1,aS 2,aS 3,aS 9] [.b] 14<|
.ite (.not v14) aF<|
 iC f_k1p [aI 0,aS 1,aS 2,aS 3,aS 4,aS 5,aB 6,aI 7,aS 8,aS 9,aS 10,aS 11] [.b] 15<|
.ite (.not v15) aF<|
.loop 16 [.z 0]<|
.ite (aL v16 (.len v10)) (iX v10 v16 (.g zSk) 17<|
 iC f_k19 [aI 0,aS 1,aS 2,aS 3,aI 17,aI 18,aI 19,aS 20] [.b] 21<|
.ite (.not v21) (.esc zRb)<|
.ite (aL aA v16) (iX v10 (.bin .sub .i64 v16 aC) (.g zSk) 22<|
 iX v10 v16 (.g zSk) 26<|
.ite (aM v26 v22) (.esc zRb)<|
.next [aP 16])<|
.next [aP 16])<|
.esc<|
.ite v6 aT<|
.ite (aE (.len v10) aA) (iC f_k1q [aB 6,aI 7,aS 8,aS 9,aS 10,aS 11] sI 17<|
.done [.vb (aE v17 aA)]) aF
def R_k1s:R:= .ite (.not (aE (.len v4) (.len v2))) aF<|
.ite (.not (aE (.len v11) v0)) aF<|
.ite (aL (.z 30) (.len v12)) aF<|
 iC f_k1d [aI 0,aS 1,aS 2,aS 3,aS 13] [.b] 16<|
.ite (.not v16) aF<|
.loop 17 [.z 0]<|
.ite (aL v17 (.len v4)) (iX v4 v17 (.g zSg) 18<|
 iC f_k1k [aI 0,aS 1,aS 2,aS 3,aS 14,aS 15,aB 18,aB 19,aI 20,aS 21,aS 22,aS 23,aI 17] [.b] 24<|
.ite (.not v24) (.esc zRb)<|
.next [aP 17])<|
.esc<|
.loop 18 [.z 0]<|
.ite (aL v18 (.len v11)) (iX v11 v18 (.g zSr) 19<|
 iC f_k1l [aI 0,aS 1,aS 2,aS 3,aI 19,aB 20,aI 21,aI 22,aI 23,aS 24,aI 25,aS 26,aI 18] [.b] 27<|
.ite (.not v27) (.esc zRb)<|
.next [aP 18])<|
.esc<|
.loop 19 [.z 0]<|
.ite (aL v19 (.len v12)) (iX v12 v19 (.g zSx) 20<|
 iC f_k1o [aI 0,aS 1,aS 2,aS 3,aI 20,aI 21,aI 22,aI 23,aI 24,aI 25,aI 26,aS 27,aS 28,aS 29,aS 30] [.b] 31<|
.ite (.not v31) (.esc zRb)<|
.next [aP 19])<|
.esc<|
 iC f_k1r [aI 0,aS 1,aS 2,aS 3,aS 14,aS 15,aB 5,aI 6,aS 7,aS 8,aS 9,aS 10] [.b] 20<|
.done [aB 20]
def R_k1t:R:= iK (aM (.len v1) (.z 8796093022208))<|
.i (.head 1 v1)<|
 iK (aM (.len (.app .nil v1)) (.z 8796093022208))<|
.done [aI 0,.s (.app .nil v1)]
def R_k1u:R:= .loop 1 [.nil,.z 0]<|
.ite (aL v2 (.len v0)) (iX v0 v2 (.g zSe) 3<|
 iX v0 v2 (.g zSe) 6<|
 iC f_k1t [aI 7,aS 8] [.i .i64,.s] 9<|
 iK (aM (.len (.app v1 (.cons (.g (.cons (aI 3) (.cons (aI 9) (.cons (aS 10) .nil)))) .nil))) (.z 1759218604441))<|
.next [.app v1 (.cons (.g (.cons (aI 3) (.cons (aI 9) (.cons (aS 10) .nil)))) .nil),aP 2]) zRf
def R_k1v:R:= iK (aM (.len v3) (.z 8796093022208))<|
.i (.head 1 v3)<|
 iK (aM (.len (.app .nil v3)) (.z 8796093022208))<|
.done [aI 0,aI 1,aI 2,.s (.app .nil v3)]
def R_k1w:R:= iK (aM (.len v2) (.z 8796093022208))<|
.i (.head 1 v2)<|
 iK (aM (.len (.app .nil v2)) (.z 8796093022208))<|
 iC f_k1u [aS 3] [.s] 6<|
.loop 7 [.nil,.z 0]<|
.ite (aL v8 (.len v4)) (iX v4 v8 (.g zSk) 9<|
 iC f_k1v [aI 9,aI 10,aI 11,aS 12] zSk 13<|
 iK (aM (.len (.app v7 (.cons (.g (.cons (aI 13) (.cons (aI 14) (.cons (aI 15) (.cons (aS 16) .nil))))) .nil))) zM)<|
.next [.app v7 (.cons (.g (.cons (aI 13) (.cons (aI 14) (.cons (aI 15) (.cons (aS 16) .nil))))) .nil),aP 8])<|
.esc<|
.loop 9 [.nil,.z 0]<|
.ite (aL v10 (.len v5)) (iX v5 v10 (.g [.b,.s,.s]) 11<|
 iX v5 v10 (.g [.b,.s,.s]) 14<|
 iK (aM (.len v15) (.z 8796093022208))<|
.i (.head 1 v15)<|
 iK (aM (.len (.app .nil v15)) (.z 8796093022208))<|
 iX v5 v10 (.g [.b,.s,.s]) 17<|
 iK (aM (.len v19) (.z 8796093022208))<|
.i (.head 1 v19)<|
 iK (aM (.len (.app .nil v19)) (.z 8796093022208))<|
 iK (aM (.len (.app v9 (.cons (.g (.cons (aB 11) (.cons (.s (.app .nil v15)) (.cons (.s (.app .nil v19)) .nil)))) .nil))) (.z 1256584717458))<|
.next [.app v9 (.cons (.g (.cons (aB 11) (.cons (.s (.app .nil v15)) (.cons (.s (.app .nil v19)) .nil)))) .nil),aP 10])<|
.esc<|
.done [aB 0,aI 1,.s (.app .nil v2),aS 6,aS 7,aS 9]
def R_k1x:R:= iK (aM (.len v3) (.z 8796093022208))<|
.i (.head 1 v3)<|
 iK (aM (.len (.app .nil v3)) (.z 8796093022208))<|
 iK (aM (.len v4) (.z 8796093022208))<|
.i (.head 1 v4)<|
 iK (aM (.len (.app .nil v4)) (.z 8796093022208))<|
 iC f_k1u [aS 5] [.s] 6<|
.done [aB 0,aB 1,aI 2,.s (.app .nil v3),.s (.app .nil v4),aS 6]
def R_k1y:R:= iC f_k1v [aI 4,aI 5,aI 6,aS 7] zSk 11<|
 iK (aM (.len v8) (.z 8796093022208))<|
.i (.head 1 v8)<|
 iK (aM (.len (.app .nil v8)) (.z 8796093022208))<|
 iK (aM (.len v9) (.z 8796093022208))<|
.i (.head 1 v9)<|
 iK (aM (.len (.app .nil v9)) (.z 8796093022208))<|
 iC f_k1u [aS 10] [.s] 15<|
.done [aI 0,aI 1,aI 2,aI 3,aI 11,aI 12,aI 13,aS 14,.s (.app .nil v8),.s (.app .nil v9),aS 15]
def R_k1z:R:= iC f_kk zEk zSc 14<|
 iC f_k1w [aB 5,aI 6,aS 7,aS 8,aS 9,aS 10] zSh 18<|
.loop 24 [.nil,.z 0]<|
.ite (aL v25 (.len v4)) (iX v4 v25 (.g zSg) 26<|
 iC f_k1x [aB 26,aB 27,aI 28,aS 29,aS 30,aS 31] zSg 32<|
 iK (aM (.len (.app v24 (.cons (.g (.cons (aB 32) (.cons (aB 33) (.cons (aI 34) (.cons (aS 35) (.cons (aS 36) (.cons (aS 37) .nil))))))) .nil))) (.z 799644820200))<|
.next [.app v24 (.cons (.g (.cons (aB 32) (.cons (aB 33) (.cons (aI 34) (.cons (aS 35) (.cons (aS 36) (.cons (aS 37) .nil))))))) .nil),aP 25])<|
.esc<|
.loop 26 [.nil,.z 0]<|
.ite (aL v27 (.len v11)) (iX v11 v27 (.g zSr) 28<|
 iC f_k1v [aI 30,aI 31,aI 32,aS 33] zSk 36<|
 iC f_k1t [aI 34,aS 35] [.i .i64,.s] 40<|
 iK (aM (.len (.app v26 (.cons (.g (.cons (aI 28) (.cons (aB 29) (.cons (aI 36) (.cons (aI 37) (.cons (aI 38) (.cons (aS 39) (.cons (aI 40) (.cons (aS 41) .nil))))))))) .nil))) (.z 733007751850))<|
.next [.app v26 (.cons (.g (.cons (aI 28) (.cons (aB 29) (.cons (aI 36) (.cons (aI 37) (.cons (aI 38) (.cons (aS 39) (.cons (aI 40) (.cons (aS 41) .nil))))))))) .nil),aP 27])<|
.esc<|
.loop 28 [.nil,.z 0]<|
.ite (aL v29 (.len v12)) (iX v12 v29 (.g zSx) 30<|
 iC f_k1y [aI 30,aI 31,aI 32,aI 33,aI 34,aI 35,aI 36,aS 37,aS 38,aS 39,aS 40] zSx 41<|
 iK (aM (.len (.app v28 (.cons (.g (.cons (aI 41) (.cons (aI 42) (.cons (aI 43) (.cons (aI 44) (.cons (aI 45) (.cons (aI 46) (.cons (aI 47) (.cons (aS 48) (.cons (aS 49) (.cons (aS 50) (.cons (aS 51) .nil)))))))))))) .nil))) (.z 462952264326))<|
.next [.app v28 (.cons (.g (.cons (aI 41) (.cons (aI 42) (.cons (aI 43) (.cons (aI 44) (.cons (aI 45) (.cons (aI 46) (.cons (aI 47) (.cons (aS 48) (.cons (aS 49) (.cons (aS 50) (.cons (aS 51) .nil)))))))))))) .nil),aP 29])<|
.esc<|
.loop 30 [.nil,.z 0]<|
.ite (aL v31 (.len v13)) (iX v13 v31 (.g zSp) 32<|
 iC f_k1v [aI 32,aI 33,aI 34,aS 35] zSk 38<|
 iX v13 v31 (.g zSp) 42<|
 iC f_k1t [aI 46,aS 47] [.i .i64,.s] 48<|
 iK (aM (.len (.app v30 (.cons (.g (.cons (aI 38) (.cons (aI 39) (.cons (aI 40) (.cons (aS 41) (.cons (aI 48) (.cons (aS 49) .nil))))))) .nil))) (.z 879609302220))<|
.next [.app v30 (.cons (.g (.cons (aI 38) (.cons (aI 39) (.cons (aI 40) (.cons (aS 41) (.cons (aI 48) (.cons (aS 49) .nil))))))) .nil),aP 31])<|
.esc<|
.done [aI 14,aS 15,aS 16,aS 17,aS 24,aB 18,aI 19,aS 20,aS 21,aS 22,aS 23,aS 26,aS 28,aS 30]
def R_k20:R:= .loop 14 [.z 0,.z 0]<|
.ite (aL v15 (.len v11)) (iX v11 v15 (.g zSr) 16<|
.ite v17 (.next [aP 14,aP 15])<|
.next [v14,aP 15])<|
.esc<|
.done [aI 14]
def R_k21:R:= iC f_k7 [aI 14,aZ 0,.vi .i64 (.bin .sub .i64 (.len v11) aC)] [.b] 17<|
.ite (.not v17) (.done Jii)<|
 iK (aM aA v14)<|
 iK (aL v14 (.len v11))<|
 iX v11 v14 (.g zSr) 18<|
.ite v19 (.done Jii)<|
 iC f_k20 zEbi sI 26<|
.ite (aM (.z 100) (.bin .add .i64 (.len v13) v26)) (.done Jii)<|
 iK (aM aA v14)<|
 iK (aL v14 (.len v11))<|
 iX v11 v14 (.g zSr) 27<|
 iK (aM (.len v16) (.z 8796093022208))<|
.i (.head 1 v16)<|
 iK (aM (.len (.app .nil v16)) (.z 8796093022208))<|
 iC f_k19 [aI 0,aS 1,aS 2,aS 3,aI 14,.vi .i64 (aP 27),aI 15,.s (.app .nil v16)] [.b] 35<|
.ite v35 (iK (aM aA v14)<|
 iK (aL v14 (.len v11))<|
 iX v11 v14 (.g zSr) 36<|
 iK (aM aA v14)<|
 iK (aL v14 (.len v11))<|
 iX (.set v11 v14 (.g (.cons (aI 36) (.cons (.vb .tt) (.cons (aI 38) (.cons (aI 39) (.cons (aI 40) (.cons (aS 41) (.cons (aI 42) (.cons (aS 43) .nil)))))))))) v14 (.g zSr) 44<|
.done [aI 0,aS 1,aS 2,aS 3,aB 5,aI 6,aS 7,aS 8,aS 9,aS 10,aS 4,.s (.set (.set v11 v14 (.g (.cons (aI 36) (.cons (.vb .tt) (.cons (aI 38) (.cons (aI 39) (.cons (aI 40) (.cons (aS 41) (.cons (aI 42) (.cons (aS 43) .nil)))))))))) v14 (.g (.cons (aI 44) (.cons (aB 45) (.cons (aI 14) (.cons (.vi .i64 (aP 27)) (.cons (aI 15) (.cons (.s (.app .nil v16)) (.cons (aI 50) (.cons (aS 51) .nil)))))))))),aS 12,aS 13])<|
.done Jii
def R_k22:R:= .loop 2 [.nil,.z 0]<|
.ite (aL v3 (.z 3)) (iX v0 v3 oI 4<|
 iX v1 v3 oI 5<|
 iK (aM (.len (.app v2 (.cons (.vi .i64 (.bin .add .i64 v4 v5)) .nil))) (.z 8796093022208))<|
.next [.app v2 (.cons (.vi .i64 (.bin .add .i64 v4 v5)) .nil),aP 3])<|
.esc<|
.done [aS 2]
def R_k23:R:= .loop 5 [v2,.z 0]<|
.ite (aL v6 (.z 3)) (iX v0 v6 oI 7<|
 iX v3 v6 oI 8<|
.next [.bin .add .i64 v5 (.bin .mul .i64 v7 v8),aP 6])<|
.esc<|
.loop 7 [v5,.z 0]<|
.ite (aL v8 (.z 2)) (iX v1 v8 oI 9<|
 iX v4 v8 oI 10<|
.next [.bin .add .i64 v7 (.bin .mul .i64 v9 v10),aP 8])<|
.esc<|
.done [aI 7]
def R_k24:R:= .loop 3 [.z 0,.z 0]<|
.ite (aL v4 (.len v1)) (.ite (.not (aE v4 v2)) (iX v1 v4 oI 5<|
.next [.bin .add .i64 v3 v5,aP 4])<|
.next [v3,aP 4])<|
.esc<|
.done [aI 3]
def R_k25:R:= iC f_kh [aS 0,aS 1] [.b] 9<|
.ite (.not v9) (.done zEj)<|
 iC f_k1f [aS 2] [.b] 10<|
.ite (.not v10) (.done zEj)<|
 iC f_k7 Jrd [.b] 11<|
.ite (.not v11) (.done zEj)<|
 iC f_k8 [aS 4,aZ 3,aZ 20000] [.b] 12<|
.ite (.not v12) (.done zEj)<|
 iC f_kx [aS 5,aS 6,aI 7] [.b] 13<|
.ite (.not v13) (.done zEj)<|
 iC f_k18 [aS 8] [.b] 14<|
.ite (.not v14) (.done zEj)<|
 iC f_k22 [aS 0,aS 4] [.s] 15<|
 iC f_k23 [aS 5,aS 6,aI 7,aS 15,aS 8] sI 16<|
 iC f_k14 [aS 5,aS 6,aI 7] [.s] 17<|
 iC f_k2 [] zSa 18<|
 iC f_k15 [aS 17,aS 18] [.b] 21<|
.ite v21 (.done [aI 16,aI 16,.vb .tt])<|
 iC f_k16 [aS 2,aS 17] sI 22<|
.ite (aL v22 aA) (.done zEj)<|
 iC f_k24 [aS 0,aS 1,aI 3] sI 23<|
 iC f_k24 [aS 0,aS 1,aI 3] sI 24<|
.done [.vi .i64 (.bin .sub .i64 v16 v23),.vi .i64 (.bin .add .i64 v16 v24),.vb .tt]
def R_k26:R:= .loop 10 [.z 0]<|
.ite (aL v10 (.len v5)) (iX v5 v10 (.g zSa) 11<|
 iC f_k25 [aS 0,aS 1,aS 2,aI 3,aS 4,aS 11,aS 12,aI 13,aS 9] [.i .i64,.i .i64,.b] 14<|
.ite (.not v16) (.esc zRb)<|
.ite (aL v14 aA) (.esc zRb)<|
.next [aP 10])<|
.esc zRa
def R_k27:R:= .loop 8 [.nil,.z 0]<|
.ite (aL v9 (.z 3)) (iX v4 v9 (.g zSa) 10<|
 iC f_k23 [aS 10,aS 11,aI 12,aS 0,aS 7] sI 13<|
 iX v2 v9 (.one .b) 14<|
.ite v14 (.ite (.not (aE v13 aA)) (.esc<|
.done [.s (.cons (aZ 0) (.cons (aZ 0) (.cons (aZ 0) .nil))),.vb .ff]) zRan) zRan)<|
.esc<|
.done [aS 8,.vb .tt]
def R_k28:R:= .loop 5 [.z 1,.z 0]<|
.ite (aL v6 (.z 3)) (iC f_ku [aI 6] zSa 7<|
 iC f_k25 [aS 0,aS 1,aS 2,aI 3,aS 4,aS 7,aS 8,aI 9,.s (.cons (aZ 0) (.cons (aZ 0) .nil))] [.i .i64,.i .i64,.b] 10<|
.ite v12 (.ite (aL (.z 10000) v10) (.esc<|
.done [aZ 2])<|
.ite (aL v11 (.z (-10000))) (.esc<|
.done [aZ 2])<|
.ite (.not v12) zRe zRag)<|
.ite (.not v12) zRe zRag)<|
.esc<|
.done [aI 5]
def R_k29:R:= .ite v9 (iK (aM (.len v5) (.z 8796093022208))<|
.i (.head 1 v5)<|
 iK (aM (.len (.app .nil v5)) (.z 8796093022208))<|
.done [aZ 2,.s .nil,.s (.app .nil v5),.vb .tt])<|
 iC f_k27 [aS 0,aS 1,aS 3,aS 6,aS 7,aS 8,aB 9,aS 10] [.s,.b] 11<|
 iC f_k22 [aS 5,aS 11] [.s] 13<|
.ite (.not v12) Jqc<|
 iC f_k8 [aS 13,aZ 3,aZ 20000] [.b] 14<|
.ite (.not v14) Jqc<|
 iC f_k28 [aS 0,aS 1,aS 2,aI 4,aS 13] sI 15<|
.ite (aE v15 (.z 2)) (iK (aM (.len v5) (.z 8796093022208))<|
.i (.head 1 v5)<|
 iK (aM (.len (.app .nil v5)) (.z 8796093022208))<|
.done [aZ 3,.s .nil,.s (.app .nil v5),.vb .tt])<|
.ite (aE v15 aA) Jqc<|
 iC f_k1h [aS 0,aS 1,aS 2,aI 4,aS 13] [.b] 16<|
.ite (.not v16) Jqc<|
.loop 17 [.nil,.z 0]<|
.ite (aL v18 (.len v8)) (iX v8 v18 (.g zSa) 19<|
 iC f_k23 [aS 19,aS 20,aI 21,aS 0,aS 10] sI 22<|
 iK (aM (.len (.app v17 (.cons (aI 22) .nil))) (.z 8796093022208))<|
.next [.app v17 (.cons (aI 22) .nil),aP 18])<|
.esc<|
.done [aZ 1,aS 17,aS 13,.vb .tt]
def R_k2a:R:= iX v0 v7 (.one .s) 9<|
 iC f_k12 [aS 9] [.s] 10<|
.loop 11 [.z 0]<|
.ite (aL v11 (.len v10)) (iK (aM aA v11)<|
 iK (aL v11 (.len v10))<|
 iX v10 v11 (.g [.s,.s,.s,.b]) 12<|
 iC f_k26 [aS 3,aS 4,aS 1,aI 5,aS 6,aS 12,aS 13,aS 14,aB 15,aS 8] [.b] 16<|
.ite v16 (iK (aM aA v11)<|
 iK (aL v11 (.len v10))<|
 iX v10 v11 (.g [.s,.s,.s,.b]) 17<|
 iC f_k29 [aS 3,aS 4,aS 1,aS 2,aI 5,aS 6,aS 17,aS 18,aS 19,aB 20,aS 8] [.i .i64,.s,.s,.b] 21<|
.esc<|
.done [aI 21,aS 22,aS 23,aB 24])<|
.next [aP 11])<|
.esc<|
 iK (aM (.len v6) (.z 8796093022208))<|
.i (.head 1 v6)<|
 iK (aM (.len (.app .nil v6)) (.z 8796093022208))<|
.done [aZ 0,.s .nil,.s (.app .nil v6),.vb .ff]
def R_k2b:R:= iC f_k1x [aB 6,aB 7,aI 8,aS 9,aS 10,aS 11] zSg 17<|
 iK (aM aA v13)<|
 iK (aL v13 (.len v22))<|
 iX v22 v13 (.g zSe) 23<|
.ite (.not v6) (.done JpD)<|
 iK (.not (aE (.len v2) aA))<|
.ite (.not (aE (.bin .rem .i64 v13 (.len v2)) v12)) (.done JpD)<|
.ite (aL v14 v23) (.done JpD)<|
.ite (aL (aP 23) v14) (.done JpD)<|
.ite (aE v14 v23) (iC f_k1t [aI 24,aS 25] [.i .i64,.s] 26<|
.done [aB 17,aB 18,aI 19,aS 20,aS 21,aS 22,aI 26,aS 27,.s .nil])<|
.ite (.not v7) (iC f_k1e [aI 0,aS 1,aS 2,aS 3,aB 6,aB 7,aI 8,aS 9,aS 10,aS 11] [.s,.s] 26<|
 iC f_k2a [aS 1,aS 4,aS 5,aS 26,aS 27,aI 12,aS 10,aI 15,aS 16] [.i .i64,.s,.s,.b] 28<|
.ite v31 (iC f_k1t [aI 28,aS 29] [.i .i64,.s] 32<|
 iK (aM aA v13)<|
 iK (aL v13 (.len v22))<|
 iX v22 v13 (.g zSe) 34<|
.done [aB 17,aB 18,aI 19,aS 20,aS 30,.s (.set v22 v13 (.g (.cons (aI 14) (.cons (aI 32) (.cons (aS 33) .nil))))),aI 28,aS 29,.s .nil])<|
 iC f_k1v [aI 13,aI 14,aI 15,aS 16] zSk 32<|
.done [aB 17,aB 18,aI 19,aS 20,aS 21,aS 22,aZ 0,.s .nil,.s (.cons (.g (.cons (aZ 1) (.cons (aZ (-1)) (.cons (aZ 0) (.cons (aZ 0) (.cons (aI 32) (.cons (aI 33) (.cons (aI 34) (.cons (aS 35) (.cons (.s .nil) (.cons (.s .nil) (.cons (.s .nil) .nil)))))))))))) .nil)])<|
 iC f_k1v [aI 13,aI 14,aI 15,aS 16] zSk 26<|
.done [aB 17,aB 18,aI 19,aS 20,aS 21,aS 22,aZ 0,.s .nil,.s (.cons (.g (.cons (aZ 1) (.cons (aZ (-1)) (.cons (aZ 0) (.cons (aZ 0) (.cons (aI 26) (.cons (aI 27) (.cons (aI 28) (.cons (aS 29) (.cons (.s .nil) (.cons (.s .nil) (.cons (.s .nil) .nil)))))))))))) .nil)]
def R_k2c:R:= .loop 15 [v12,.z 0]<|
.ite (aL v16 (.len v14)) (.ite (aL (.len v15) (.z 30)) (iX v14 v16 (.g zSx) 17<|
 iC f_k1y [aI 17,aI 18,aI 19,aI 20,aI 21,aI 22,aI 23,aS 24,aS 25,aS 26,aS 27] zSx 28<|
 iK (aM (.len (.app v15 (.cons (.g (.cons (aI 28) (.cons (aI 29) (.cons (aI 30) (.cons (aI 31) (.cons (aI 32) (.cons (aI 33) (.cons (aI 34) (.cons (aS 35) (.cons (aS 36) (.cons (aS 37) (.cons (aS 38) .nil)))))))))))) .nil))) (.z 462952264326))<|
.next [.app v15 (.cons (.g (.cons (aI 28) (.cons (aI 29) (.cons (aI 30) (.cons (aI 31) (.cons (aI 32) (.cons (aI 33) (.cons (aI 34) (.cons (aS 35) (.cons (aS 36) (.cons (aS 37) (.cons (aS 38) .nil)))))))))))) .nil),aP 16])<|
.esc<|
.done zEbj)<|
.esc<|
.done zEbj
def R_k2d:R:= .ite (aL (.len v13) (.z 100)) (iC f_k1v [aI 14,aI 15,aI 16,aS 17] zSk 20<|
 iC f_k1t [aI 18,aS 19] [.i .i64,.s] 24<|
 iK (aM (.len (.app v13 (.cons (.g (.cons (aI 20) (.cons (aI 21) (.cons (aI 22) (.cons (aS 23) (.cons (aI 24) (.cons (aS 25) .nil))))))) .nil))) (.z 879609302220))<|
.done [aI 0,aS 1,aS 2,aS 3,aB 5,aI 6,aS 7,aS 8,aS 9,aS 10,aS 4,aS 11,aS 12,.s (.app v13 (.cons (.g (.cons (aI 20) (.cons (aI 21) (.cons (aI 22) (.cons (aS 23) (.cons (aI 24) (.cons (aS 25) .nil))))))) .nil))])<|
.done Jii
def R_k2e:R:= iC f_k7 [aI 16,aZ 0,.vi .i64 (.bin .sub .i64 (.len v11) aC)] [.b] 18<|
.ite (.not v18) (.done Jii)<|
 iK (aM aA v16)<|
 iK (aL v16 (.len v11))<|
 iX v11 v16 (.g zSr) 19<|
.ite (.not v20) (.done Jii)<|
 iK (aM aA v16)<|
 iK (aL v16 (.len v11))<|
 iX v11 v16 (.g zSr) 27<|
 iK (.not (aE (.len v2) aA))<|
 iK (aM aA (.bin .rem .i64 v16 (.len v2)))<|
 iK (aL (.bin .rem .i64 v16 (.len v2)) (.len v4))<|
 iX v4 (.bin .rem .i64 v16 (.len v2)) (.g zSg) 35<|
 iX v40 v16 (.g zSe) 41<|
 iK (aM aA (.bin .rem .i64 v16 (.len v2)))<|
 iK (aL (.bin .rem .i64 v16 (.len v2)) (.len v4))<|
 iX v4 (.bin .rem .i64 v16 (.len v2)) (.g zSg) 44<|
 iC f_k2b [aI 0,aS 1,aS 2,aS 3,aS 14,aS 15,aB 44,aB 45,aI 46,aS 47,aS 48,aS 49,.vi .i64 (.bin .rem .i64 v16 (.len v2)),aI 29,aI 30,aI 31,aS 32] [.b,.b,.i .i64,.s,.s,.s,.i .i64,.s,.s] 50<|
 iK (aM aA (.bin .rem .i64 v16 (.len v2)))<|
 iK (aL (.bin .rem .i64 v16 (.len v2)) (.len v4))<|
 iX v4 (.bin .rem .i64 v16 (.len v2)) (.g zSg) 59<|
 iC f_k2c [aI 0,aS 1,aS 2,aS 3,.s (.set v4 (.bin .rem .i64 v16 (.len v2)) (.g (.cons (aB 50) (.cons (aB 51) (.cons (aI 52) (.cons (aS 53) (.cons (aS 54) (.cons (aS 55) .nil)))))))),aB 5,aI 6,aS 7,aS 8,aS 9,aS 10,aS 11,aS 12,aS 13,aS 58] zSs 65<|
 iX v55 v16 (.g zSe) 79<|
.ite (aL v41 v79) (iC f_k2d [aI 65,aS 66,aS 67,aS 68,aS 75,aB 69,aI 70,aS 71,aS 72,aS 73,aS 74,aS 76,aS 77,aS 78,aI 29,aI 30,aI 31,aS 32,aI 56,aS 57] zSs 82<|
.ite (.not (aE v56 aA)) (.ite (.not v17) (iC f_k1t [aI 56,aS 57] [.i .i64,.s] 96<|
 iK (aM aA v16)<|
 iK (aL v16 (.len v93))<|
 iX v93 v16 (.g zSr) 98<|
.done [aI 82,aS 83,aS 84,aS 85,aB 86,aI 87,aS 88,aS 89,aS 90,aS 91,aS 92,.s (.set v93 v16 (.g (.cons (aI 30) (.cons (.vb .ff) (.cons (aZ 0) (.cons (aZ 0) (.cons (aZ 0) (.cons (.s .nil) (.cons (aI 96) (.cons (aS 97) .nil)))))))))),aS 94,aS 95])<|
.done zEbo)<|
.done zEbo)<|
.ite (.not (aE v56 aA)) (.ite (.not v17) (iC f_k1t [aI 56,aS 57] [.i .i64,.s] 82<|
 iK (aM aA v16)<|
 iK (aL v16 (.len v76))<|
 iX v76 v16 (.g zSr) 84<|
.done [aI 65,aS 66,aS 67,aS 68,aB 69,aI 70,aS 71,aS 72,aS 73,aS 74,aS 75,.s (.set v76 v16 (.g (.cons (aI 30) (.cons (.vb .ff) (.cons (aZ 0) (.cons (aZ 0) (.cons (aZ 0) (.cons (.s .nil) (.cons (aI 82) (.cons (aS 83) .nil)))))))))),aS 77,aS 78])<|
.done zEbn)<|
.done zEbn
def R_k2f:R:= .loop 15 [.nil,.z 0]<|
.ite (aL v16 (.len v12)) (.ite (.not (aE v16 v14)) (iK (aM aA v16)<|
 iK (aL v16 (.len v12))<|
 iX v12 v16 (.g zSx) 17<|
 iK (aM (.len (.app v15 (.cons (.g (.cons (aI 17) (.cons (aI 18) (.cons (aI 19) (.cons (aI 20) (.cons (aI 21) (.cons (aI 22) (.cons (aI 23) (.cons (aS 24) (.cons (aS 25) (.cons (aS 26) (.cons (aS 27) .nil)))))))))))) .nil))) (.z 462952264326))<|
.next [.app v15 (.cons (.g (.cons (aI 17) (.cons (aI 18) (.cons (aI 19) (.cons (aI 20) (.cons (aI 21) (.cons (aI 22) (.cons (aI 23) (.cons (aS 24) (.cons (aS 25) (.cons (aS 26) (.cons (aS 27) .nil)))))))))))) .nil),aP 16])<|
.next [v15,aP 16])<|
.esc<|
.done [aI 0,aS 1,aS 2,aS 3,aB 5,aI 6,aS 7,aS 8,aS 9,aS 10,aS 15,aS 4,aS 11,aS 12,aS 13]
def R_k2g:R:= iK (aM (.len v4) (.z 8796093022208))<|
.i (.head 1 v4)<|
 iK (aM (.len (.app .nil v4)) (.z 8796093022208))<|
.loop 7 [.nil,.z 0]<|
.ite (aL v8 (.len v5)) (iX v5 v8 (.g zSe) 9<|
 iK (aM (.len (.app v7 (.cons (aI 9) .nil))) (.z 8796093022208))<|
.next [.app v7 (.cons (aI 9) .nil),aP 8])<|
.esc<|
.done [aZ 3,aZ (-1),aI 6,aI 2,aZ 0,aZ 0,aZ 0,.s .nil,.s (.app .nil v4),aS 7,.s .nil]
def R_k2h:R:= iC f_k1x [aB 4,aB 5,aI 6,aS 7,aS 8,aS 9] zSg 22<|
.ite (.not v4) (.done JpM)<|
.ite (.not (aE v12 v10)) (.done JpM)<|
.ite (aE v11 (.z 2)) (.ite (aE v14 v6) (iC f_k2g [aB 22,.vb .tt,aI 24,aS 25,aS 26,aS 27,aI 10] zSx 28<|
.done [aB 22,.vb .tt,aI 24,aS 25,aS 26,aS 27,.s (.cons (.g (.cons (aI 28) (.cons (aI 29) (.cons (aI 30) (.cons (aI 31) (.cons (aI 32) (.cons (aI 33) (.cons (aI 34) (.cons (aS 35) (.cons (aS 36) (.cons (aS 37) (.cons (aS 38) .nil)))))))))))) .nil)]) zRdr) zRdr
def R_k2i:R:= .loop 5 [.nil,.ff,.z 0]<|
.ite (aL v7 (.len v0)) (.ite (.not v6) (iX v0 v7 (.g zSk) 8<|
.ite (aM v1 v8) (iX v0 v7 (.g zSk) 12<|
.ite (aE v12 v1) (iX v0 v7 (.g zSk) 16<|
.ite (aL v2 v17) (iX v0 v7 (.g zSk) 20 zRdk)<|
 iC f_k1v [aI 1,aI 2,aI 3,aS 4] zSk 20 zRdk)<|
 iC f_k1v [aI 1,aI 2,aI 3,aS 4] zSk 16<|
 iK (aM (.len (.app v5 (.cons (.g (.cons (aI 16) (.cons (aI 17) (.cons (aI 18) (.cons (aS 19) .nil))))) .nil))) zM)<|
 iX v0 v7 (.g zSk) 20<|
.ite (aE v20 v1) (.next [.app v5 (.cons (.g (.cons (aI 16) (.cons (aI 17) (.cons (aI 18) (.cons (aS 19) .nil))))) .nil),.tt,aP 7])<|
 iX v0 v7 (.g zSk) 24<|
 iK (aM (.len (.app (.app v5 (.cons (.g (.cons (aI 16) (.cons (aI 17) (.cons (aI 18) (.cons (aS 19) .nil))))) .nil)) (.cons (.g (.cons (aI 24) (.cons (aI 25) (.cons (aI 26) (.cons (aS 27) .nil))))) .nil))) zM)<|
.next [.app (.app v5 (.cons (.g (.cons (aI 16) (.cons (aI 17) (.cons (aI 18) (.cons (aS 19) .nil))))) .nil)) (.cons (.g (.cons (aI 24) (.cons (aI 25) (.cons (aI 26) (.cons (aS 27) .nil))))) .nil),.tt,aP 7])<|
 iX v0 v7 (.g zSk) 12<|
 iK (aM (.len (.app v5 (.cons (.g (.cons (aI 12) (.cons (aI 13) (.cons (aI 14) (.cons (aS 15) .nil))))) .nil))) zM)<|
.next [.app v5 (.cons (.g (.cons (aI 12) (.cons (aI 13) (.cons (aI 14) (.cons (aS 15) .nil))))) .nil),v6,aP 7])<|
 iX v0 v7 (.g zSk) 8<|
 iK (aM (.len (.app v5 (.cons (.g (.cons (aI 8) (.cons (aI 9) (.cons (aI 10) (.cons (aS 11) .nil))))) .nil))) zM)<|
.next [.app v5 (.cons (.g (.cons (aI 8) (.cons (aI 9) (.cons (aI 10) (.cons (aS 11) .nil))))) .nil),v6,aP 7])<|
.esc<|
.ite (.not v6) (iC f_k1v [aI 1,aI 2,aI 3,aS 4] zSk 8<|
 iK (aM (.len (.app v5 (.cons (.g (.cons (aI 8) (.cons (aI 9) (.cons (aI 10) (.cons (aS 11) .nil))))) .nil))) zM)<|
.done [.s (.app v5 (.cons (.g (.cons (aI 8) (.cons (aI 9) (.cons (aI 10) (.cons (aS 11) .nil))))) .nil))])<|
.done [aS 5]
def R_k2j:R:= iC f_kg [aS 1] [.b] 3<|
.ite (.not v3) (iK (aM (.len v0) (.z 8796093022208))<|
.i (.head 1 v0)<|
 iK (aM (.len (.app .nil v0)) (.z 8796093022208))<|
.done [aZ 3,.s .nil,.s (.app .nil v0)])<|
.done [aZ 1,aS 2,aS 1]
def R_k2k:R:= iC f_kb [aS 0] [.b] 3<|
.ite (.not v3) (.done zEm)<|
 iC f_kg [aS 1] [.b] 4<|
.ite (.not v4) (.done zEm)<|
 iC f_k18 [aS 2] [.b] 5<|
.ite (.not v5) (.done zEm)<|
 iK (aM (.len v1) (.z 8796093022208))<|
.i (.head 1 v1)<|
 iK (aM (.len (.app .nil v1)) (.z 8796093022208))<|
.loop 6 [.nil,.app .nil v1,.z 0]<|
.ite (aL v8 (.len v0)) (iX v0 v8 (.g zSo) 9<|
.ite (aE v9 aC) (iC f_k23 [aS 12,aS 13,aI 14,aS 7,aS 2] sI 15<|
.ite (aL v15 aA) (.next [v6,v7,.bin .add .i64 (.bin .add .i64 v8 v11) aC])<|
.next [v6,v7,aP 8])<|
.ite (aE v9 (.z 2)) (iK (aM aA v10)<|
 iK (aL v10 (.len v7))<|
 iX v7 v10 oI 15<|
 iC f_k23 [aS 12,aS 13,aI 14,aS 7,aS 2] sI 16<|
 iK (aM aA v10)<|
 iK (aL v10 (.len v7))<|
 iX v7 v10 oI 17<|
.next [v6,.set v7 v10 (.vi .i64 (.bin .add .i64 v15 v16)),aP 8])<|
.ite (aE v9 (.z 3)) (iC f_k23 [aS 12,aS 13,aI 14,aS 7,aS 2] sI 15<|
 iK (aM (.len (.app v6 (.cons (aI 15) .nil))) (.z 8796093022208))<|
.next [.app v6 (.cons (aI 15) .nil),v7,aP 8])<|
 iK (aM (.len v1) (.z 8796093022208))<|
.i (.head 1 v1)<|
 iK (aM (.len (.app .nil v1)) (.z 8796093022208))<|
.esc<|
.done [aZ 2,.s .nil,.s (.app .nil v1)])<|
.esc<|
 iC f_k2j [aS 1,aS 7,aS 6] zSb 9<|
.done [aI 9,aS 10,aS 11]
def R_k2l:R:= iC f_k1w zEr zSh 10<|
 iK (aM (.len v6) (.z 8796093022208))<|
.i (.head 1 v6)<|
 iK (aM (.len (.app .nil v6)) (.z 8796093022208))<|
.loop 16 [.app .nil v6,.z 0]<|
.ite (aL v17 (.len v9)) (iX v9 v17 (.g [.b,.s,.s]) 18<|
.ite v18 (iX v9 v17 (.g [.b,.s,.s]) 21<|
 iC f_k22 [aS 16,aS 22] [.s] 24<|
.next [v24,aP 17])<|
.next [v16,aP 17])<|
.esc<|
 iC f_k1q zEr sI 18<|
.ite (aL v18 (.len v2)) (.done Jq6)<|
.ite (aE v5 (.z 200)) (.done Jq6)<|
 iC f_kg [aS 16] [.b] 19<|
.ite (.not v19) (.done Jq6)<|
.loop 20 [v13,.nil,.nil,v16,.z 0]<|
.ite (aL v24 (.len v8)) (iX v8 v24 (.g zSk) 25<|
 iK (.not (aE (.len v2) aA))<|
 iX v9 (.bin .rem .i64 v25 (.len v2)) (.g [.b,.s,.s]) 29<|
 iX v31 v25 oI 32<|
.ite (aE v26 (aP 32)) (iX v1 v27 (.one .s) 33<|
 iC f_k2k [aS 33,aS 23,aS 28] zSb 34<|
 iC f_k1t [aI 34,aS 35] [.i .i64,.s] 37<|
 iK (aM aA v25)<|
 iK (aL v25 (.len v20))<|
 iX v20 v25 (.g zSe) 39<|
 iC f_k1v [aI 25,aI 26,aI 27,aS 28] zSk 42<|
 iK (aM (.len (.app v21 (.cons (.g (.cons (aI 42) (.cons (aI 43) (.cons (aI 44) (.cons (aS 45) .nil))))) .nil))) zM)<|
 iC f_k1t [aI 34,aS 35] [.i .i64,.s] 46<|
 iK (aM (.len (.app v22 (.cons (.g (.cons (aI 46) (.cons (aS 47) .nil))) .nil))) (.z 2199023255552))<|
.next [.set v20 v25 (.g (.cons (aI 26) (.cons (aI 37) (.cons (aS 38) .nil)))),.app v21 (.cons (.g (.cons (aI 42) (.cons (aI 43) (.cons (aI 44) (.cons (aS 45) .nil))))) .nil),.app v22 (.cons (.g (.cons (aI 46) (.cons (aS 47) .nil))) .nil),v36,aP 24])<|
.next [v20,v21,v22,v23,aP 24])<|
.esc<|
 iC f_km zEk [.s] 25<|
.done [aB 10,.vi .i64 (aP 5),aS 23,aS 20,.s .nil,aS 25,aS 21,aS 22]
def R_k2m:R:= iK (aM (.len v2) (.z 8796093022208))<|
.i (.head 1 v2)<|
 iK (aM (.len (.app .nil v2)) (.z 8796093022208))<|
 iC f_k1u [aS 3] [.s] 7<|
.done [aZ 4,aI 6,aZ 0,aI 1,aZ 0,aZ 0,aZ 0,.s .nil,.s (.app .nil v2),.s .nil,aS 7]
def R_k2n:R:= .loop 10 [.nil,.z 0]<|
.ite (aL v11 (.len v2)) (iC f_k2m [aB 4,aI 5,aS 6,aS 7,aS 8,aS 9,aI 11] zSx 12<|
 iK (aM (.len (.app v10 (.cons (.g (.cons (aI 12) (.cons (aI 13) (.cons (aI 14) (.cons (aI 15) (.cons (aI 16) (.cons (aI 17) (.cons (aI 18) (.cons (aS 19) (.cons (aS 20) (.cons (aS 21) (.cons (aS 22) .nil)))))))))))) .nil))) (.z 462952264326))<|
.next [.app v10 (.cons (.g (.cons (aI 12) (.cons (aI 13) (.cons (aI 14) (.cons (aI 15) (.cons (aI 16) (.cons (aI 17) (.cons (aI 18) (.cons (aS 19) (.cons (aS 20) (.cons (aS 21) (.cons (aS 22) .nil)))))))))))) .nil),aP 11])<|
.esc<|
.done [aS 10]
def R_k2o:R:= iC f_k1w [aB 6,aI 7,aS 8,aS 9,aS 10,aS 11] zSh 23<|
.ite (.not v6) (.done JoK)<|
.ite (.not (aE v13 (.z (-1)))) (.done JoK)<|
.ite (aE v12 aC) (iC f_k2i [aS 27,aI 16,aI 17,aI 18,aS 19] [.s] 29<|
.done [aB 23,aI 24,aS 25,aS 26,aS 29,aS 28,.s .nil,.s .nil,.s .nil])<|
.ite (.not (aE v15 v7)) (.done JoK)<|
 iC f_k1h [aS 8,aS 2,aS 4,aI 14,aS 20] [.b] 29<|
.ite (.not v29) (.done JoK)<|
 iC f_k1i [aS 5,aS 20] [.b] 30<|
.ite (.not v30) (.done JoK)<|
 iK (aM (.len v20) (.z 8796093022208))<|
.i (.head 1 v20)<|
 iK (aM (.len (.app .nil v20)) (.z 8796093022208))<|
 iK (aM (.len v21) (.z 8796093022208))<|
.i (.head 1 v21)<|
 iK (aM (.len (.app .nil v21)) (.z 8796093022208))<|
 iK (aM aA v14)<|
 iK (aL v14 (.len v28))<|
 iX v28 v14 (.g [.b,.s,.s]) 31<|
 iC f_k2l [aI 0,aS 1,aS 2,aS 3,aB 23,aI 24,aS 25,aS 26,aS 27,.s (.set v28 v14 (.g (.cons (.vb .tt) (.cons (.s (.app .nil v20)) (.cons (.s (.app .nil v21)) .nil)))))] zSm 34<|
.ite (aE v35 v7) (.done [aB 34,aI 35,aS 36,aS 37,aS 38,aS 39,.s .nil,aS 40,aS 41])<|
 iC f_k2n [aI 0,aS 1,aS 2,aS 3,aB 34,aI 35,aS 36,aS 37,aS 38,aS 39] [.s] 42<|
.done [aB 34,aI 35,aS 36,aS 37,aS 38,aS 39,aS 42,aS 40,aS 41]
def R_k2p:R:= iC f_k7 [aI 16,aZ 0,.vi .i64 (.bin .sub .i64 (.len v12) aC)] [.b] 17<|
.ite (.not v17) (.done Jra)<|
 iK (aM aA v16)<|
 iK (aL v16 (.len v12))<|
 iX v12 v16 (.g zSx) 18<|
 iC f_k2f [aI 0,aS 1,aS 2,aS 3,aS 4,aB 5,aI 6,aS 7,aS 8,aS 9,aS 10,aS 11,aS 12,aS 13,aI 16] zSu 29<|
.ite (.not (aE v19 (.z (-1)))) (iK (aM aA v19)<|
 iK (aL v19 (.len v40))<|
 iX v40 v19 (.g zSg) 44<|
 iC f_k2h [aI 29,aS 30,aS 31,aS 32,aB 44,aB 45,aI 46,aS 47,aS 48,aS 49,aI 19,aI 18,aI 19,aI 20,aI 21,aI 22,aI 23,aI 24,aS 25,aS 26,aS 27,aS 28] zSj 50<|
 iK (aM aA v19)<|
 iK (aL v19 (.len v40))<|
 iX v40 v19 (.g zSg) 57<|
 iC f_k2c [aI 29,aS 30,aS 31,aS 32,.s (.set v40 v19 (.g (.cons (aB 50) (.cons (aB 51) (.cons (aI 52) (.cons (aS 53) (.cons (aS 54) (.cons (aS 55) .nil)))))))),aB 33,aI 34,aS 35,aS 36,aS 37,aS 38,aS 41,aS 39,aS 43,aS 56] zSs 63<|
.done [aI 63,aS 64,aS 65,aS 66,aB 67,aI 68,aS 69,aS 70,aS 71,aS 72,aS 75,aS 73,aS 74,aS 76])<|
 iC f_k2o [aI 29,aS 30,aS 31,aS 32,aS 14,aS 15,aB 33,aI 34,aS 35,aS 36,aS 37,aS 38,aI 18,aI 19,aI 20,aI 21,aI 22,aI 23,aI 24,aS 25,aS 26,aS 27,aS 28] [.b,.i .i64,.s,.s,.s,.s,.s,.s,.s] 44<|
.loop 53 [v40,v41,v43,v39,.z 0,v49,v48,v47,v46,v45,v44,v32,v31,v30,v29]<|
.ite (aL v57 (.len v51)) (iK (aM aA v57)<|
 iK (aL v57 (.len v51))<|
 iX v51 v57 (.g zSk) 68<|
 iK (aM aA v57)<|
 iK (aL v57 (.len v52))<|
 iX v52 v57 (.g [.i .i64,.s]) 72<|
 iC f_k2d [aI 67,aS 66,aS 65,aS 64,aS 53,aB 63,aI 62,aS 61,aS 60,aS 59,aS 58,aS 54,aS 56,aS 55,aI 68,aI 69,aI 70,aS 71,aI 72,aS 73] zSs 74<|
.next [v84,v85,v87,v86,aP 57,v83,v82,v81,v80,v79,v78,v77,v76,v75,v74])<|
.esc<|
 iC f_k2c [aI 67,aS 66,aS 65,aS 64,aS 53,aB 63,aI 62,aS 61,aS 60,aS 59,aS 58,aS 54,aS 56,aS 55,aS 50] zSs 68<|
.done [aI 68,aS 69,aS 70,aS 71,aB 72,aI 73,aS 74,aS 75,aS 76,aS 77,aS 80,aS 78,aS 79,aS 81]
def R_k2q:R:= .ite (.not v4) zRc<|
 iC f_k2n JpL [.s] 10<|
.loop 11 [v10,.z 0]<|
.ite (aL v12 (.len v2)) (.ite (aL aA (.len v8)) zRcn<|
 iC f_k1q zEr sI 13<|
.ite (aL aA v13) zRcn<|
.esc<|
.done [aS 11])<|
.esc<|
.done [aS 11]
def R_k2r:R:= iC f_k7 [aI 14,aZ 0,.vi .i64 (.bin .sub .i64 (.len v4) aC)] [.b] 16<|
.ite v16 (iK (aM aA v14)<|
 iK (aL v14 (.len v4))<|
 iX v4 v14 (.g zSg) 17<|
.done [aI 0,aS 1,aS 2,aS 3,aB 5,aI 6,aS 7,aS 8,aS 9,aS 10,.s (.set v4 v14 (.g (.cons (aB 15) (.cons (aB 18) (.cons (aI 19) (.cons (aS 20) (.cons (aS 21) (.cons (aS 22) .nil)))))))),aS 11,aS 12,aS 13])<|
.done Jii
def R_k2s:R:= iC f_k1w zEr zSh 11<|
.ite (.not (.beq v10 v4)) (iC f_km zEk [.s] 17<|
.done [aB 10,aI 12,aS 13,aS 14,.s .nil,aS 17])<|
.done [aB 10,aI 12,aS 13,aS 14,aS 15,aS 16]
def R_k2t:R:= .ite (aE v16 aC) (iC f_k21 [aI 0,aS 1,aS 2,aS 3,aS 4,aB 5,aI 6,aS 7,aS 8,aS 9,aS 10,aS 11,aS 12,aS 13,aI 17,aI 18,aS 19] zSs 20<|
.done JnL)<|
.ite (aE v16 (.z 2)) (iC f_k2e zEca zSs 20<|
.done JnL)<|
.ite (aE v16 (.z 3)) (iC f_k2e zEca zSs 20<|
.done JnL)<|
.ite (aE v16 (.z 4)) (iC f_k2p [aI 0,aS 1,aS 2,aS 3,aS 4,aB 5,aI 6,aS 7,aS 8,aS 9,aS 10,aS 11,aS 12,aS 13,aS 14,aS 15,aI 17] zSs 20<|
.done [aI 20,aS 21,aS 22,aS 23,aB 24,aI 25,aS 26,aS 27,aS 28,aS 29,aS 30,aS 31,aS 32,aS 33])<|
.ite (aE v16 (.z 5)) (iC f_k2f [aI 0,aS 1,aS 2,aS 3,aS 4,aB 5,aI 6,aS 7,aS 8,aS 9,aS 10,aS 11,aS 12,aS 13,aI 17] zSu 20<|
.done [aI 20,aS 21,aS 22,aS 23,aB 24,aI 25,aS 26,aS 27,aS 28,aS 29,aS 30,aS 31,aS 32,aS 34])<|
.ite (aE v16 (.z 6)) (iC f_k7 [aI 17,aZ 0,.vi .i64 (.bin .sub .i64 (.len v12) aC)] [.b] 20<|
.ite v20 (iK (aM aA v17)<|
 iK (aL v17 (.len v12))<|
 iX v12 v17 (.g zSx) 21<|
 iC f_k2c [aI 0,aS 1,aS 2,aS 3,aS 4,aB 5,aI 6,aS 7,aS 8,aS 9,aS 10,aS 11,aS 12,aS 13,.s (.cons (.g (.cons (aI 21) (.cons (aI 22) (.cons (aI 23) (.cons (aI 24) (.cons (aI 25) (.cons (aI 26) (.cons (aI 27) (.cons (aS 28) (.cons (aS 29) (.cons (aS 30) (.cons (aS 31) .nil)))))))))))) .nil)] zSs 32<|
.done [aI 32,aS 33,aS 34,aS 35,aB 36,aI 37,aS 38,aS 39,aS 40,aS 41,aS 44,aS 42,aS 43,aS 45])<|
.done Jra)<|
.ite (aE v16 (.z 7)) (iC f_k2q [aI 0,aS 1,aS 2,aS 3,aB 5,aI 6,aS 7,aS 8,aS 9,aS 10] [.s] 20<|
 iC f_k2c [aI 0,aS 1,aS 2,aS 3,aS 4,aB 5,aI 6,aS 7,aS 8,aS 9,aS 10,aS 11,aS 12,aS 13,aS 20] zSs 21<|
.done [aI 21,aS 22,aS 23,aS 24,aB 25,aI 26,aS 27,aS 28,aS 29,aS 30,aS 33,aS 31,aS 32,aS 34])<|
.ite (aE v16 (.z 8)) (iC f_k2r [aI 0,aS 1,aS 2,aS 3,aS 4,aB 5,aI 6,aS 7,aS 8,aS 9,aS 10,aS 11,aS 12,aS 13,aI 17,.vb .ff] zSs 20<|
.done JnL)<|
.ite (aE v16 (.z 9)) (iC f_k2r [aI 0,aS 1,aS 2,aS 3,aS 4,aB 5,aI 6,aS 7,aS 8,aS 9,aS 10,aS 11,aS 12,aS 13,aI 17,.vb .tt] zSs 20<|
.done JnL)<|
.ite (aE v16 (.z 10)) (iC f_k2s [aI 0,aS 1,aS 2,aS 3,aB 5,aI 6,aS 7,aS 8,aS 9,aS 10,.vb (aL aA v17)] zSh 20<|
.done [aI 0,aS 1,aS 2,aS 3,aB 20,aI 21,aS 22,aS 23,aS 24,aS 25,aS 12,aS 4,aS 11,aS 13])<|
.done Jra
def R_k2u:R:= iC f_ki zEk [.b] 18<|
.ite (.not v18) (.done Jqx)<|
 iC f_k17 [aS 1] [.s,.s] 19<|
 iC f_k1s [aI 0,aS 1,aS 2,aS 3,aS 4,aB 5,aI 6,aS 7,aS 8,aS 9,aS 10,aS 11,aS 12,aS 13,aS 19,aS 20] [.b] 21<|
.ite (.not v21) (.done Jqx)<|
 iC f_k1z zEbi zSt 22<|
 iC f_k2t [aI 22,aS 23,aS 24,aS 25,aS 26,aB 27,aI 28,aS 29,aS 30,aS 31,aS 32,aS 33,aS 34,aS 35,aS 19,aS 20,aI 14,aI 15,aI 16,aS 17] zSs 36<|
.done [aI 36,aS 37,aS 38,aS 39,aS 47,aB 40,aI 41,aS 42,aS 43,aS 44,aS 45,aS 48,aS 46,aS 49]
def R_k2v:R:= iC f_k1 [aS 0,aI 1,aZ 4] zSd 17<|
.loop 20 [.nil,.z 14,.z 0,.z 0,v15,v14,v13,v12,v11,v10,v9,v8,v7,v6,v5,v4,v3,v2,v19,v18]<|
.ite (aL v23 v16) (.ite (aL aA (.len v33)) (iC f_kr [aS 39,aI 38,aI 37,aS 36,aS 35,aS 34,aS 33,aB 32,aI 31,aS 30,aS 29,aS 28,aS 27,aS 26,aS 25,aS 24] zSo 40<|
.ite (aL v21 (.z 14)) (iC f_ks [aS 44,aI 45,aI 37,aS 36,aS 35,aS 34,aS 33,aB 32,aI 31,aS 30,aS 29,aS 28,aS 27,aS 26,aS 25,aS 24,aI 21,aI 22] zSo 46<|
 iK (aM (.len (.app v20 (.cons (.g (.cons (aI 46) (.cons (aI 47) (.cons (aI 48) (.cons (aS 49) .nil))))) .nil))) zM)<|
 iC f_k2u [aI 37,aS 36,aS 35,aS 34,aS 33,aB 32,aI 31,aS 30,aS 29,aS 28,aS 27,aS 26,aS 25,aS 24,aI 46,aI 47,aI 48,aS 49] zSt 52<|
.next [.app v20 (.cons (.g (.cons (aI 46) (.cons (aI 47) (.cons (aI 48) (.cons (aS 49) .nil))))) .nil),aP 21,v22,aP 23,v65,v64,v63,v62,v61,v60,v59,v58,v57,v56,v55,v54,v53,v52,v51,v50])<|
.ite (aL aA (.len v28)) (iC f_k1 [aS 44,aI 45,aZ 12] zSd 46<|
.ite (aE v46 aA) (iC f_k1 [aS 47,aI 48,aZ 2] zSd 49<|
 iC f_ks [aS 50,aI 51,aI 37,aS 36,aS 35,aS 34,aS 33,aB 32,aI 31,aS 30,aS 29,aS 28,aS 27,aS 26,aS 25,aS 24,aZ 0,aI 49] zSo 52<|
 iK (aM (.len (.app v20 (.cons (.g (.cons (aI 52) (.cons (aI 53) (.cons (aI 54) (.cons (aS 55) .nil))))) .nil))) zM)<|
 iC f_k2u zEbz zSt 58<|
.next [.app v20 (.cons (.g (.cons (aI 52) (.cons (aI 53) (.cons (aI 54) (.cons (aS 55) .nil))))) .nil),.z 1,v49,aP 23,v71,v70,v69,v68,v67,v66,v65,v64,v63,v62,v61,v60,v59,v58,v57,v56])<|
.ite (aL aA v17) (iC f_k1 [aS 47,aI 48,aZ 8] zSd 49<|
.ite (aL aA v49) (iC f_kt [aS 50,aI 51,aI 37,aS 36,aS 35,aS 34,aS 33,aB 32,aI 31,aS 30,aS 29,aS 28,aS 27,aS 26,aS 25,aS 24,aI 23] zSo 52<|
 iK (aM (.len (.app v20 (.cons (.g (.cons (aI 52) (.cons (aI 53) (.cons (aI 54) (.cons (aS 55) .nil))))) .nil))) zM)<|
 iC f_k2u zEbz zSt 58<|
.next [.app v20 (.cons (.g (.cons (aI 52) (.cons (aI 53) (.cons (aI 54) (.cons (aS 55) .nil))))) .nil),v21,v22,aP 23,v71,v70,v69,v68,v67,v66,v65,v64,v63,v62,v61,v60,v59,v58,v57,v56])<|
 iK (aM (.len (.app v20 (.cons (.g (.cons (aI 40) (.cons (aI 41) (.cons (aI 42) (.cons (aS 43) .nil))))) .nil))) zM)<|
 iC f_k2u JqZ zSt 52<|
.next [.app v20 (.cons (.g (.cons (aI 40) (.cons (aI 41) (.cons (aI 42) (.cons (aS 43) .nil))))) .nil),v21,v22,aP 23,v65,v64,v63,v62,v61,v60,v59,v58,v57,v56,v55,v54,v53,v52,v51,v50]) zRcp)<|
.ite (aL aA v17) (iC f_k1 [aS 44,aI 45,aZ 8] zSd 46<|
.ite (aL aA v46) (iC f_kt [aS 47,aI 48,aI 37,aS 36,aS 35,aS 34,aS 33,aB 32,aI 31,aS 30,aS 29,aS 28,aS 27,aS 26,aS 25,aS 24,aI 23] zSo 49<|
 iK (aM (.len (.app v20 (.cons (.g (.cons (aI 49) (.cons (aI 50) (.cons (aI 51) (.cons (aS 52) .nil))))) .nil))) zM)<|
 iC f_k2u [aI 37,aS 36,aS 35,aS 34,aS 33,aB 32,aI 31,aS 30,aS 29,aS 28,aS 27,aS 26,aS 25,aS 24,aI 49,aI 50,aI 51,aS 52] zSt 55<|
.next [.app v20 (.cons (.g (.cons (aI 49) (.cons (aI 50) (.cons (aI 51) (.cons (aS 52) .nil))))) .nil),v21,v22,aP 23,v68,v67,v66,v65,v64,v63,v62,v61,v60,v59,v58,v57,v56,v55,v54,v53]) zRcp)<|
 iK (aM (.len (.app v20 (.cons (.g (.cons (aI 40) (.cons (aI 41) (.cons (aI 42) (.cons (aS 43) .nil))))) .nil))) zM)<|
 iC f_k2u JqZ zSt 46<|
.next [.app v20 (.cons (.g (.cons (aI 40) (.cons (aI 41) (.cons (aI 42) (.cons (aS 43) .nil))))) .nil),v21,v22,aP 23,v59,v58,v57,v56,v55,v54,v53,v52,v51,v50,v49,v48,v47,v46,v45,v44])<|
.esc<|
.done zEbu)<|
.esc<|
.done zEbu
def R_k2w:R:= iC f_ke [aS 0,aI 1] zSl 2<|
 iC f_kp [aI 2,aS 3,aS 4,aS 5] zSt 8<|
 iC f_k1 [aS 6,aI 7,aZ 50] zSd 22<|
 iC f_k1 [aS 23,aI 24,aZ 5] zSd 25<|
 iK (aM aA v25)<|
 iK (aL v25 (.z 5))<|
 iX (.cons (aZ 0) (.cons (aZ 10) (.cons (aZ 20) (.cons (aZ 35) (.cons (aI 22) .nil))))) v25 oI 28<|
 iC f_k2v [aS 26,aI 27,aI 8,aS 9,aS 10,aS 11,aS 12,aB 13,aI 14,aS 15,aS 16,aS 17,aS 18,aS 19,aS 20,aS 21,aI 28] zSw 29<|
.done [aI 30,aS 31,aS 32,aS 33,aS 34,aB 35,aI 36,aS 37,aS 38,aS 39,aS 40,aS 41,aS 42,aS 43,aS 44,aI 45]
def R_k2x:R:= iC f_k1 [aS 0,aI 1,aZ 4] zSd 7<|
 iC f_k1 [aS 8,aI 9,aZ 3] zSd 10<|
 iC f_k1 [aS 11,aI 12,aZ 4] zSd 13<|
 iC f_kq [aS 14,aI 15,aZ 99] zSa 16<|
.ite (aL aA v2) (iK (.not (aE v2 aA))<|
.ite (aL aA (.len v3)) (iK (.not (aE (.len v3) aA))<|
 iC f_k1 [aS 17,aI 18,aI 6] zSd 19<|
.ite (aL aA v19) (.done [.vi .i64 (.bin .rem .i64 v7 v2),.vi .i64 (.bin .add .i64 aC v10),.vi .i64 (.bin .rem .i64 v13 (.len v3)),aS 16,aS 20,aI 21])<|
 iC f_k1 [aS 20,aI 21,aZ 4] zSd 22<|
.ite (aE v22 aA) (iC f_k1 zEe zSd 25 zRbv)<|
.ite (aE v22 aC) (iC f_k1 zEe zSd 25<|
 iK (aM aA v25)<|
 iK (aL v25 (.z 3))<|
 iX (.cons (aZ 0) (.cons (aZ 300) (.cons (aZ 301) .nil))) v25 oI 28<|
.done [.vi .i64 (.bin .rem .i64 v7 v2),aI 28,.vi .i64 (.bin .rem .i64 v13 (.len v3)),aS 16,aS 26,aI 27])<|
.ite (aE v22 (.z 2)) (iC f_k1 zEe zSd 25 zRbs)<|
 iC f_kq [aS 23,aI 24,aZ 1] zSa 25<|
.done [.vi .i64 (.bin .rem .i64 v7 v2),.vi .i64 (.bin .add .i64 aC v10),.vi .i64 (.bin .rem .i64 v13 (.len v3)),aS 25,aS 26,aI 27])<|
 iC f_k1 [aS 17,aI 18,aI 6] zSd 19<|
.ite (aL aA v19) (.done [.vi .i64 (.bin .rem .i64 v7 v2),.vi .i64 (.bin .add .i64 aC v10),aI 13,aS 16,aS 20,aI 21])<|
 iC f_k1 [aS 20,aI 21,aZ 4] zSd 22<|
.ite (aE v22 aA) (iC f_k1 zEe zSd 25 zRbp)<|
.ite (aE v22 aC) (iC f_k1 zEe zSd 25<|
 iK (aM aA v25)<|
 iK (aL v25 (.z 3))<|
 iX (.cons (aZ 0) (.cons (aZ 300) (.cons (aZ 301) .nil))) v25 oI 28<|
.done [.vi .i64 (.bin .rem .i64 v7 v2),aI 28,aI 13,aS 16,aS 26,aI 27])<|
.ite (aE v22 (.z 2)) (iC f_k1 zEe zSd 25 zRbs)<|
 iC f_kq [aS 23,aI 24,aZ 1] zSa 25<|
.done [.vi .i64 (.bin .rem .i64 v7 v2),.vi .i64 (.bin .add .i64 aC v10),aI 13,aS 25,aS 26,aI 27])<|
.ite (aL aA (.len v3)) (iK (.not (aE (.len v3) aA))<|
 iC f_k1 [aS 17,aI 18,aI 6] zSd 19<|
.ite (aL aA v19) (.done [aI 7,.vi .i64 (.bin .add .i64 aC v10),.vi .i64 (.bin .rem .i64 v13 (.len v3)),aS 16,aS 20,aI 21])<|
 iC f_k1 [aS 20,aI 21,aZ 4] zSd 22<|
.ite (aE v22 aA) (iC f_k1 zEe zSd 25 zRbv)<|
.ite (aE v22 aC) (iC f_k1 zEe zSd 25<|
 iK (aM aA v25)<|
 iK (aL v25 (.z 3))<|
 iX (.cons (aZ 0) (.cons (aZ 300) (.cons (aZ 301) .nil))) v25 oI 28<|
.done [aI 7,aI 28,.vi .i64 (.bin .rem .i64 v13 (.len v3)),aS 16,aS 26,aI 27])<|
.ite (aE v22 (.z 2)) (iC f_k1 zEe zSd 25 zRbo)<|
 iC f_kq [aS 23,aI 24,aZ 1] zSa 25<|
.done [aI 7,.vi .i64 (.bin .add .i64 aC v10),.vi .i64 (.bin .rem .i64 v13 (.len v3)),aS 25,aS 26,aI 27])<|
 iC f_k1 [aS 17,aI 18,aI 6] zSd 19<|
.ite (aL aA v19) (.done [aI 7,.vi .i64 (.bin .add .i64 aC v10),aI 13,aS 16,aS 20,aI 21])<|
 iC f_k1 [aS 20,aI 21,aZ 4] zSd 22<|
.ite (aE v22 aA) (iC f_k1 zEe zSd 25 zRbp)<|
.ite (aE v22 aC) (iC f_k1 zEe zSd 25<|
 iK (aM aA v25)<|
 iK (aL v25 (.z 3))<|
 iX (.cons (aZ 0) (.cons (aZ 300) (.cons (aZ 301) .nil))) v25 oI 28<|
.done [aI 7,aI 28,aI 13,aS 16,aS 26,aI 27])<|
.ite (aE v22 (.z 2)) (iC f_k1 zEe zSd 25 zRbo)<|
 iC f_kq [aS 23,aI 24,aZ 1] zSa 25<|
.done [aI 7,.vi .i64 (.bin .add .i64 aC v10),aI 13,aS 25,aS 26,aI 27]
def R_k2y:R:= iC f_k5 [aS 0,aI 1] zSi 3<|
 iC f_k1 [aS 6,aI 7,aZ 4] zSd 8<|
.ite (aE v8 aA) (iC f_k1 [aS 9,aI 10,aZ 3] zSd 11<|
 iC f_k1 [aS 12,aI 13,aZ 4] zSd 14<|
 iK (aM aA v14)<|
 iK (aL v14 (.z 4))<|
 iX (.cons (aZ 10000000) (.cons (aZ (-10000000)) (.cons (aZ 1000) (.cons (aZ 77) .nil)))) v14 oI 17<|
 iK (aM aA v11)<|
 iK (aL v11 (.len v3))<|
 iX v3 v11 oI 18<|
 iC f_k1 [aS 15,aI 16,aI 2] zSd 19<|
.ite (aL aA v19) (.done [.s (.set v3 v11 (aI 17)),aS 4,aI 5,aS 20,aI 21])<|
 iC f_k1 [aS 20,aI 21,aZ 4] zSd 22<|
.ite (aE v22 aA) (iK (aM (.z 2) (.len (.set v3 v11 (aI 17))))<|
.done [.s (.take (.set v3 v11 (aI 17)) (.z 2)),aS 4,aI 5,aS 23,aI 24])<|
.ite (aE v22 aC) (iK (aM (.len (.app v4 (.cons (aZ 0) .nil))) (.z 8796093022208))<|
.done [.s (.set v3 v11 (aI 17)),.s (.app v4 (.cons (aZ 0) .nil)),aI 5,aS 23,aI 24])<|
.ite (aE v22 (.z 2)) (iC f_k1 zEe zSd 25<|
 iK (aM aA v25)<|
 iK (aL v25 (.z 3))<|
 iX (.cons (aZ 10000001) (.cons (aZ (-10000001)) (.cons (aZ 10000000) .nil))) v25 oI 28<|
.done [.s (.set v3 v11 (aI 17)),aS 4,aI 28,aS 26,aI 27])<|
 iC f_k1 zEe zSd 25<|
 iC f_k1 [aS 26,aI 27,aZ 2] zSd 28<|
 iK (aM aA v28)<|
 iK (aL v28 (.z 2))<|
 iX (.cons (aZ 10000001) (.cons (aZ (-10000001)) .nil)) v28 oI 31<|
 iK (aM aA v25)<|
 iK (aL v25 (.len v3))<|
 iX (.set v3 v11 (aI 17)) v25 oI 32<|
.done [.s (.set (.set v3 v11 (aI 17)) v25 (aI 31)),aS 4,aI 5,aS 29,aI 30])<|
 iC f_k1 [aS 9,aI 10,aI 2] zSd 11<|
.ite (aL aA v11) (.done [aS 3,aS 4,aI 5,aS 12,aI 13])<|
 iC f_k1 [aS 12,aI 13,aZ 4] zSd 14<|
.ite (aE v14 aA) (iK (aM (.z 2) (.len v3))<|
.done [.s (.take v3 (.z 2)),aS 4,aI 5,aS 15,aI 16])<|
.ite (aE v14 aC) (iK (aM (.len (.app v4 (.cons (aZ 0) .nil))) (.z 8796093022208))<|
.done [aS 3,.s (.app v4 (.cons (aZ 0) .nil)),aI 5,aS 15,aI 16])<|
.ite (aE v14 (.z 2)) (iC f_k1 [aS 15,aI 16,aZ 3] zSd 17<|
 iK (aM aA v17)<|
 iK (aL v17 (.z 3))<|
 iX (.cons (aZ 10000001) (.cons (aZ (-10000001)) (.cons (aZ 10000000) .nil))) v17 oI 20<|
.done [aS 3,aS 4,aI 20,aS 18,aI 19])<|
 iC f_k1 [aS 15,aI 16,aZ 3] zSd 17<|
 iC f_k1 [aS 18,aI 19,aZ 2] zSd 20<|
 iK (aM aA v20)<|
 iK (aL v20 (.z 2))<|
 iX (.cons (aZ 10000001) (.cons (aZ (-10000001)) .nil)) v20 oI 23<|
 iK (aM aA v17)<|
 iK (aL v17 (.len v3))<|
 iX v3 v17 oI 24<|
.done [.s (.set v3 v17 (aI 23)),aS 4,aI 5,aS 21,aI 22]
def R_k2z:R:= iC f_kc [aS 0,aI 1] zSa 3<|
.ite (aE (.len v3) aA) (.done zEb)<|
 iC f_k1 [aS 4,aI 5,aI 2] zSd 6<|
.ite (aL aA v6) (.done [aS 3,aS 7,aI 8])<|
 iC f_k1 [aS 7,aI 8,.vi .i64 (.len v3)] zSd 9<|
 iC f_k1 [aS 10,aI 11,aZ 6] zSd 12<|
.ite (aE v12 aA) (iC f_k1 [aS 13,aI 14,aZ 4] zSd 15<|
 iK (aM aA v15)<|
 iK (aL v15 (.z 4))<|
 iX (.cons (aZ 0) (.cons (aZ 5) (.cons (aZ 4) (.cons (aZ 1) .nil)))) v15 oI 18<|
 iK (aM aA v9)<|
 iK (aL v9 (.len v3))<|
 iX v3 v9 (.g zSo) 19<|
.done [.s (.set v3 v9 (.g (.cons (aI 18) (.cons (aI 20) (.cons (aI 21) (.cons (aS 22) (.cons (aS 23) (.cons (aI 24) .nil)))))))),aS 16,aI 17])<|
.ite (aE v12 aC) (iC f_k1 [aS 13,aI 14,aZ 3] zSd 15<|
 iK (aM aA v15)<|
 iK (aL v15 (.z 3))<|
 iX (.cons (aZ (-1)) (.cons (aZ 3) (.cons (aZ 2) .nil))) v15 oI 18<|
 iK (aM aA v9)<|
 iK (aL v9 (.len v3))<|
 iX v3 v9 (.g zSo) 19<|
.done [.s (.set v3 v9 (.g (.cons (aI 19) (.cons (aI 18) (.cons (aI 21) (.cons (aS 22) (.cons (aS 23) (.cons (aI 24) .nil)))))))),aS 16,aI 17])<|
.ite (aE v12 (.z 2)) (iC f_k1 [aS 13,aI 14,aZ 4] zSd 15<|
 iK (aM aA v15)<|
 iK (aL v15 (.z 4))<|
 iX (.cons (aZ 0) (.cons (aZ (-1)) (.cons (aZ 7) (.cons (aZ 6) .nil)))) v15 oI 18<|
 iK (aM aA v9)<|
 iK (aL v9 (.len v3))<|
 iX v3 v9 (.g zSo) 19<|
.done [.s (.set v3 v9 (.g (.cons (aI 19) (.cons (aI 20) (.cons (aI 18) (.cons (aS 22) (.cons (aS 23) (.cons (aI 24) .nil)))))))),aS 16,aI 17])<|
.ite (aE v12 (.z 3)) (iC f_k2y [aS 13,aI 14,aZ 2] zSi 15<|
 iK (aM aA v9)<|
 iK (aL v9 (.len v3))<|
 iX v3 v9 (.g zSo) 20<|
.done [.s (.set v3 v9 (.g (.cons (aI 20) (.cons (aI 21) (.cons (aI 22) (.cons (aS 15) (.cons (aS 16) (.cons (aI 17) .nil)))))))),aS 18,aI 19])<|
.ite (aE v12 (.z 4)) (.loop 15 [v3]<|
.ite (aM (.len v15) (.z 6)) (iK (aM aA v9)<|
 iK (aL v9 (.len v15))<|
 iX v15 v9 (.g zSo) 16<|
 iK (aM (.len (.app v15 (.cons (.g (.cons (aI 16) (.cons (aI 17) (.cons (aI 18) (.cons (aS 19) (.cons (aS 20) (.cons (aI 21) .nil))))))) .nil))) (.z 879609302220))<|
.next [.app v15 (.cons (.g (.cons (aI 16) (.cons (aI 17) (.cons (aI 18) (.cons (aS 19) (.cons (aS 20) (.cons (aI 21) .nil))))))) .nil)])<|
.esc<|
.done [aS 15,aS 13,aI 14])<|
 iC f_k5 [aS 13,aI 14] zSi 15<|
 iC f_k5 [aS 18,aI 19] zSi 20<|
 iK (aM (.len (.app v3 (.cons (.g (.cons (aZ 1) (.cons (aZ 0) (.cons (aZ 1) (.cons (aS 15) (.cons (aS 16) (.cons (aI 17) .nil))))))) (.cons (.g (.cons (aZ 1) (.cons (aZ 0) (.cons (aZ 1) (.cons (aS 20) (.cons (aS 21) (.cons (aI 22) .nil))))))) .nil)))) (.z 879609302220))<|
.done [.s (.app v3 (.cons (.g (.cons (aZ 1) (.cons (aZ 0) (.cons (aZ 1) (.cons (aS 15) (.cons (aS 16) (.cons (aI 17) .nil))))))) (.cons (.g (.cons (aZ 1) (.cons (aZ 0) (.cons (aZ 1) (.cons (aS 20) (.cons (aS 21) (.cons (aI 22) .nil))))))) .nil))),aS 23,aI 24]
def R_k30:R:= iC f_kd [aS 0,aI 1] zSa 3<|
 iC f_k1 [aS 4,aI 5,aI 2] zSd 6<|
.ite (aL aA v6) (.done [aS 3,aS 7,aI 8])<|
 iC f_k1 [aS 7,aI 8,aZ 3] zSd 9<|
.ite (aE v9 aA) (iC f_k2z [aS 10,aI 11,aZ 1] zSa 12<|
 iK (aL aA (.len v3))<|
 iX v3 aA (.one .s) 15<|
.done [.s (.set v3 aA (aS 12)),aS 13,aI 14])<|
.ite (aE v9 aC) (.done [.s .nil,aS 10,aI 11])<|
.loop 12 [v3]<|
.ite (aM (.len v12) (.z 4)) (iK (aL aA (.len v12))<|
 iX v12 aA (.one .s) 13<|
 iK (aM (.len (.app v12 (.cons (aS 13) .nil))) (.z 2932031007402))<|
.next [.app v12 (.cons (aS 13) .nil)])<|
.esc<|
.done [aS 12,aS 10,aI 11]
def R_k31:R:= iC f_ke [aS 0,aI 1] zSl 3<|
 iC f_k1 [aS 7,aI 8,aI 2] zSd 9<|
.ite (aL aA v9) (.done [aI 3,aS 4,aS 5,aS 6,aS 10,aI 11])<|
 iC f_k1 [aS 10,aI 11,aZ 5] zSd 12<|
.ite (aE v12 aA) (iC f_k1 [aS 13,aI 14,aZ 3] zSd 15<|
 iK (aM aA v15)<|
 iK (aL v15 (.z 3))<|
 iX (.cons (aZ 0) (.cons (aZ 5) (.cons (aZ (-1)) .nil))) v15 oI 18<|
.done [aI 18,aS 4,aS 5,aS 6,aS 16,aI 17])<|
.ite (aE v12 aC) (iC f_k30 [aS 13,aI 14,aZ 1] zSa 15<|
.done [aI 3,aS 15,aS 5,aS 6,aS 16,aI 17])<|
.ite (aE v12 (.z 2)) (iC f_k1 [aS 13,aI 14,aZ 4] zSd 15<|
 iK (aM aA v15)<|
 iK (aL v15 (.z 4))<|
 iX (.cons (aZ (-1)) (.cons (aZ 51) (.cons (aZ 3) (.cons (aZ 3) .nil)))) v15 oI 18<|
 iK (aM (.len (.app v5 (.cons (aI 18) (.cons (aZ 4) (.cons (aZ 4) .nil))))) (.z 8796093022208))<|
.done [aI 3,aS 4,.s (.app v5 (.cons (aI 18) (.cons (aZ 4) (.cons (aZ 4) .nil)))),aS 6,aS 16,aI 17])<|
.ite (aE v12 (.z 3)) (iC f_k1 [aS 13,aI 14,aZ 3] zSd 15<|
 iK (aM aA v15)<|
 iK (aL v15 (.z 3))<|
 iX (.cons (aZ 1001) (.cons (aZ (-1000)) (.cons (aZ 1000) .nil))) v15 oI 18<|
 iK (aL aA (.len v6))<|
 iX v6 aA oI 19<|
.done [aI 3,aS 4,aS 5,.s (.set v6 aA (aI 18)),aS 16,aI 17])<|
 iK (aM (.z 2) (.len v6))<|
.done [aI 3,aS 4,aS 5,.s (.take v6 (.z 2)),aS 13,aI 14]
def R_k32:R:= .loop 3 [.nil,.z 0,v1,v0]<|
.ite (aL v4 (.z 3)) (iC f_k1 [aS 6,aI 5,aZ 9] zSd 7<|
 iK (aM aA v7)<|
 iK (aL v7 (.z 9))<|
 iX (.cons (aZ 0) (.cons (aZ 1) (.cons (aZ 5) (.cons (aZ 20) (.cons (aZ (-3)) (.cons (aZ 60) (.cons (aZ 10000) (.cons (aZ (-10000)) (.cons (aZ 9996) .nil))))))))) v7 oI 10<|
 iK (aM (.len (.app v3 (.cons (aI 10) .nil))) (.z 8796093022208))<|
.next [.app v3 (.cons (aI 10) .nil),aP 4,v9,v8])<|
.esc<|
 iC f_k1 [aS 6,aI 5,aI 2] zSd 7<|
.ite (aE v7 aA) (iC f_k1 [aS 8,aI 9,aZ 3] zSd 10<|
.ite (aE v10 aA) (iK (aM (.z 2) (.len v3))<|
.done [.s (.take v3 (.z 2)),aS 11,aI 12])<|
.ite (aE v10 aC) (iK (aM (.len (.app v3 (.cons (aZ 0) .nil))) (.z 8796093022208))<|
.done [.s (.app v3 (.cons (aZ 0) .nil)),aS 11,aI 12])<|
 iC f_k1 zEd zSd 13<|
 iC f_k1 [aS 14,aI 15,aZ 2] zSd 16<|
 iK (aM aA v16)<|
 iK (aL v16 (.z 2))<|
 iX (.cons (aZ 10001) (.cons (aZ (-10001)) .nil)) v16 oI 19<|
 iK (aM aA v13)<|
 iK (aL v13 (.len v3))<|
 iX v3 v13 oI 20<|
.done [.s (.set v3 v13 (aI 19)),aS 17,aI 18])<|
.done [aS 3,aS 8,aI 9]
def R_k33:R:= iC f_k1 [aS 0,aI 1,aZ 9] zSd 3<|
 iC f_k1 [aS 4,aI 5,aZ 9] zSd 6<|
 iC f_k1 [aS 7,aI 8,aZ 4] zSd 9<|
 iK (aM aA v9)<|
 iK (aL v9 (.z 4))<|
 iX (.cons (aZ 0) (.cons (aZ 0) (.cons (aZ 1) (.cons (aZ (-2)) .nil)))) v9 oI 12<|
 iC f_k1 [aS 10,aI 11,aI 2] zSd 13<|
.ite (aE v13 aA) (iC f_k1 [aS 14,aI 15,aZ 3] zSd 16<|
.ite (aE v16 aA) (.done [.s (.take (.cons (.vi .i64 (.bin .sub .i64 v3 (.z 4))) (.cons (.vi .i64 (.bin .sub .i64 v6 (.z 4))) (.cons (aI 12) .nil))) (.z 2)),aS 17,aI 18])<|
.ite (aE v16 aC) (iC f_k1 [aS 17,aI 18,aZ 3] zSd 19<|
 iK (aM aA v19)<|
 iK (aL v19 (.z 3))<|
 iX (.cons (aZ 20001) (.cons (aZ 60) (.cons (aZ (-60)) .nil))) v19 oI 22<|
 iX (.cons (.vi .i64 (.bin .sub .i64 v3 (.z 4))) (.cons (.vi .i64 (.bin .sub .i64 v6 (.z 4))) (.cons (aI 12) .nil))) aA oI 23<|
.done [.s (.set (.cons (.vi .i64 (.bin .sub .i64 v3 (.z 4))) (.cons (.vi .i64 (.bin .sub .i64 v6 (.z 4))) (.cons (aI 12) .nil))) aA (aI 22)),aS 20,aI 21])<|
 iK (aM (.len (.app (.cons (.vi .i64 (.bin .sub .i64 v3 (.z 4))) (.cons (.vi .i64 (.bin .sub .i64 v6 (.z 4))) (.cons (aI 12) .nil))) (.cons (aZ 0) .nil))) (.z 8796093022208))<|
.done [.s (.app (.cons (.vi .i64 (.bin .sub .i64 v3 (.z 4))) (.cons (.vi .i64 (.bin .sub .i64 v6 (.z 4))) (.cons (aI 12) .nil))) (.cons (aZ 0) .nil)),aS 17,aI 18])<|
.done [.s (.cons (.vi .i64 (.bin .sub .i64 v3 (.z 4))) (.cons (.vi .i64 (.bin .sub .i64 v6 (.z 4))) (.cons (aI 12) .nil))),aS 14,aI 15]
def R_k34:R:= iC f_k1w [aB 16,aI 17,aS 18,aS 19,aS 20,aS 21] zSh 22<|
 iC f_k1 [aS 0,aI 1,aZ 7] zSd 28<|
.ite (aE v28 aA) (.done [.vb (.not v22),aI 23,aS 24,aS 25,aS 26,aS 27,aS 29,aI 30])<|
.ite (aE v28 aC) (iC f_k1 [aS 29,aI 30,aZ 3] zSd 31<|
 iK (aM aA v31)<|
 iK (aL v31 (.z 3))<|
 iX (.cons (aZ (-1)) (.cons (aZ 200) (.cons (aZ 201) .nil))) v31 oI 34<|
.done [aB 22,aI 34,aS 24,aS 25,aS 26,aS 27,aS 32,aI 33])<|
.ite (aE v28 (.z 2)) (iC f_k32 [aS 29,aI 30,aZ 1] zSa 31<|
.done [aB 22,aI 23,aS 31,aS 25,aS 26,aS 27,aS 32,aI 33])<|
.ite (aE v28 (.z 3)) (iK (aM (.len (.app v25 (.cons (.g (.cons (aZ 0) (.cons (aZ 0) (.cons (.s .nil) .nil)))) .nil))) (.z 1759218604441))<|
.done [aB 22,aI 23,aS 24,.s (.app v25 (.cons (.g (.cons (aZ 0) (.cons (aZ 0) (.cons (.s .nil) .nil)))) .nil)),aS 26,aS 27,aS 29,aI 30])<|
.ite (aE v28 (.z 4)) (iC f_k2x [aS 29,aI 30,aI 2,aS 3,aS 4,aS 5,aZ 2] zSo 31<|
 iK (aM (.len (.app v26 (.cons (.g (.cons (aI 31) (.cons (aI 32) (.cons (aI 33) (.cons (aS 34) .nil))))) .nil))) zM)<|
.done [aB 22,aI 23,aS 24,aS 25,.s (.app v26 (.cons (.g (.cons (aI 31) (.cons (aI 32) (.cons (aI 33) (.cons (aS 34) .nil))))) .nil)),aS 27,aS 35,aI 36])<|
.ite (aE v28 (.z 5)) (iK (aM (.len (.app v27 (.cons (.g (.cons (.vb .ff) (.cons (.s .nil) (.cons (.s .nil) .nil)))) .nil))) (.z 1256584717458))<|
.done [aB 22,aI 23,aS 24,aS 25,aS 26,.s (.app v27 (.cons (.g (.cons (.vb .ff) (.cons (.s .nil) (.cons (.s .nil) .nil)))) .nil)),aS 29,aI 30])<|
.ite (aL aA (.len v27)) (iC f_k1 [aS 29,aI 30,aZ 4] zSd 31<|
 iC f_k33 [aS 32,aI 33,aZ 2] zSa 34<|
 iK (aM aA v2)<|
 iK (aM v2 (.z 8796093022208))<|
 iK (aL aA (.len v27))<|
 iX v27 aA (.g [.b,.s,.s]) 37<|
.done [aB 22,aI 23,aS 24,aS 25,aS 26,.s (.set v27 aA (.g (.cons (.vb (aL aA v31)) (.cons (aS 34) (.cons (.s (.rep v2 (aZ 0))) .nil))))),aS 35,aI 36])<|
.done [aB 22,aI 23,aS 24,aS 25,aS 26,aS 27,aS 29,aI 30]
def R_k35:R:= iC f_k2w [aS 0,aI 1] zSv 3<|
 iC f_k1w [aB 8,aI 9,aS 10,aS 11,aS 12,aS 13] zSh 19<|
.loop 25 [v24,.z 0,v18,v17]<|
.ite (aL v26 (.len v7)) (.ite v19 (iC f_k1 [aS 28,aI 27,aZ 4] zSd 29<|
.ite (aL aA v29) (iX v7 v26 (.g zSg) 32<|
.ite (aE v34 v20) (iX v7 v26 (.g zSg) 38<|
 iC f_k2g [aB 38,aB 39,aI 40,aS 41,aS 42,aS 43,aI 26] zSx 44<|
 iK (aM aA v26)<|
 iK (aL v26 (.len v25))<|
 iX v25 v26 (.g [.b,.s,.s]) 55<|
.next [.set v25 v26 (.g (.cons (.vb .tt) (.cons (aS 52) (.cons (aS 53) .nil)))),aP 26,v31,v30])<|
.next [v25,aP 26,v31,v30])<|
.esc<|
 iC f_k1 [aS 30,aI 31,aZ 2] zSd 32<|
.ite (aE v32 aA) (.ite v19 (iC f_k2x [aS 33,aI 34,aI 3,aS 4,aS 5,aS 6,aZ 99] zSo 35<|
 iC f_k19 [aI 3,aS 4,aS 5,aS 6,aI 35,aI 36,aI 37,aS 38] [.b] 41<|
.ite v41 (iK (.not (aE (.len v7) aA))<|
 iX v7 (.bin .rem .i64 v35 (.len v7)) (.g zSg) 42<|
 iX v47 v35 (.g zSe) 48<|
 iC f_k1 [aS 39,aI 40,aZ 5] zSd 51<|
 iK (aM aA v51)<|
 iK (aL v51 (.z 5))<|
 iX (.cons (aZ 1) (.cons (aZ 1) (.cons (aZ 1) (.cons (aZ 0) (.cons (aZ 2) .nil))))) v51 oI 54<|
 iC f_k19 [aI 3,aS 4,aS 5,aS 6,aI 35,.vi .i64 (.bin .add .i64 v48 v54),aI 37,aS 38] [.b] 55<|
.ite v55 (iC f_k2i [aS 23,aI 35,.vi .i64 (.bin .add .i64 v48 v54),aI 37,aS 38] [.s] 56<|
 iC f_k1 [aS 52,aI 53,aI 2] zSd 57<|
.ite (aL aA v57) (.done [aI 3,aS 4,aS 5,aS 6,aB 19,aI 20,aS 21,aS 22,aS 56,aS 25,aI 3,aS 4,aS 5,aS 6,aS 7,aB 8,aI 9,aS 10,aS 11,aS 12,aS 13,aS 14,aS 15,aS 16,aS 58,aI 59])<|
 iC f_k1 [aS 58,aI 59,aZ 4] zSd 60<|
.ite (aE v60 aA) (iC f_k31 [aS 61,aI 62,aZ 1] zSl 63<|
.done [aI 63,aS 64,aS 65,aS 66,aB 19,aI 20,aS 21,aS 22,aS 56,aS 25,aI 3,aS 4,aS 5,aS 6,aS 7,aB 8,aI 9,aS 10,aS 11,aS 12,aS 13,aS 14,aS 15,aS 16,aS 67,aI 68])<|
 iC f_k34 [aS 61,aI 62,aI 3,aS 4,aS 5,aS 6,aS 7,aB 8,aI 9,aS 10,aS 11,aS 12,aS 13,aS 14,aS 15,aS 16,aB 19,aI 20,aS 21,aS 22,aS 56,aS 25] zSn 63<|
.done [aI 3,aS 4,aS 5,aS 6,aB 63,aI 64,aS 65,aS 66,aS 67,aS 68,aI 3,aS 4,aS 5,aS 6,aS 7,aB 8,aI 9,aS 10,aS 11,aS 12,aS 13,aS 14,aS 15,aS 16,aS 69,aI 70])<|
 iC f_k1 [aS 52,aI 53,aI 2] zSd 56<|
.ite (aL aA v56) (.done [aI 3,aS 4,aS 5,aS 6,aB 19,aI 20,aS 21,aS 22,aS 23,aS 25,aI 3,aS 4,aS 5,aS 6,aS 7,aB 8,aI 9,aS 10,aS 11,aS 12,aS 13,aS 14,aS 15,aS 16,aS 57,aI 58])<|
 iC f_k1 [aS 57,aI 58,aZ 4] zSd 59<|
.ite (aE v59 aA) (iC f_k31 [aS 60,aI 61,aZ 1] zSl 62<|
.done [aI 62,aS 63,aS 64,aS 65,aB 19,aI 20,aS 21,aS 22,aS 23,aS 25,aI 3,aS 4,aS 5,aS 6,aS 7,aB 8,aI 9,aS 10,aS 11,aS 12,aS 13,aS 14,aS 15,aS 16,aS 66,aI 67])<|
 iC f_k34 [aS 60,aI 61,aI 3,aS 4,aS 5,aS 6,aS 7,aB 8,aI 9,aS 10,aS 11,aS 12,aS 13,aS 14,aS 15,aS 16,aB 19,aI 20,aS 21,aS 22,aS 23,aS 25] zSn 62<|
.done [aI 3,aS 4,aS 5,aS 6,aB 62,aI 63,aS 64,aS 65,aS 66,aS 67,aI 3,aS 4,aS 5,aS 6,aS 7,aB 8,aI 9,aS 10,aS 11,aS 12,aS 13,aS 14,aS 15,aS 16,aS 68,aI 69])<|
 iC f_k19 [aI 3,aS 4,aS 5,aS 6,aI 35,aI 36,aI 37,aS 38] [.b] 42<|
.ite v42 (iC f_k2i [aS 23,aI 35,aI 36,aI 37,aS 38] [.s] 43<|
 iC f_k1 [aS 39,aI 40,aI 2] zSd 44<|
.ite (aL aA v44) (.done [aI 3,aS 4,aS 5,aS 6,aB 19,aI 20,aS 21,aS 22,aS 43,aS 25,aI 3,aS 4,aS 5,aS 6,aS 7,aB 8,aI 9,aS 10,aS 11,aS 12,aS 13,aS 14,aS 15,aS 16,aS 45,aI 46])<|
 iC f_k1 [aS 45,aI 46,aZ 4] zSd 47<|
.ite (aE v47 aA) (iC f_k31 [aS 48,aI 49,aZ 1] zSl 50<|
.done [aI 50,aS 51,aS 52,aS 53,aB 19,aI 20,aS 21,aS 22,aS 43,aS 25,aI 3,aS 4,aS 5,aS 6,aS 7,aB 8,aI 9,aS 10,aS 11,aS 12,aS 13,aS 14,aS 15,aS 16,aS 54,aI 55])<|
 iC f_k34 [aS 48,aI 49,aI 3,aS 4,aS 5,aS 6,aS 7,aB 8,aI 9,aS 10,aS 11,aS 12,aS 13,aS 14,aS 15,aS 16,aB 19,aI 20,aS 21,aS 22,aS 43,aS 25] zSn 50<|
.done [aI 3,aS 4,aS 5,aS 6,aB 50,aI 51,aS 52,aS 53,aS 54,aS 55,aI 3,aS 4,aS 5,aS 6,aS 7,aB 8,aI 9,aS 10,aS 11,aS 12,aS 13,aS 14,aS 15,aS 16,aS 56,aI 57])<|
 iC f_k1 [aS 39,aI 40,aI 2] zSd 43<|
.ite (aL aA v43) (.done [aI 3,aS 4,aS 5,aS 6,aB 19,aI 20,aS 21,aS 22,aS 23,aS 25,aI 3,aS 4,aS 5,aS 6,aS 7,aB 8,aI 9,aS 10,aS 11,aS 12,aS 13,aS 14,aS 15,aS 16,aS 44,aI 45])<|
 iC f_k1 [aS 44,aI 45,aZ 4] zSd 46<|
.ite (aE v46 aA) (iC f_k31 [aS 47,aI 48,aZ 1] zSl 49<|
.done [aI 49,aS 50,aS 51,aS 52,aB 19,aI 20,aS 21,aS 22,aS 23,aS 25,aI 3,aS 4,aS 5,aS 6,aS 7,aB 8,aI 9,aS 10,aS 11,aS 12,aS 13,aS 14,aS 15,aS 16,aS 53,aI 54])<|
 iC f_k34 [aS 47,aI 48,aI 3,aS 4,aS 5,aS 6,aS 7,aB 8,aI 9,aS 10,aS 11,aS 12,aS 13,aS 14,aS 15,aS 16,aB 19,aI 20,aS 21,aS 22,aS 23,aS 25] zSn 49<|
.done [aI 3,aS 4,aS 5,aS 6,aB 49,aI 50,aS 51,aS 52,aS 53,aS 54,aI 3,aS 4,aS 5,aS 6,aS 7,aB 8,aI 9,aS 10,aS 11,aS 12,aS 13,aS 14,aS 15,aS 16,aS 55,aI 56])<|
 iC f_k1 [aS 33,aI 34,aI 2] zSd 35 zRdj)<|
 iC f_k1 [aS 33,aI 34,aI 2] zSd 35 zRdj)<|
.esc zRdz)<|
.esc zRdz
def R_k36:R:= iC f_k0 [aS 0] [.s,.i .i64] 1<|
 iC f_k35 [aS 1,aI 2,aZ 16] zSz 3<|
.done [aI 3,aS 4,aS 5,aS 6,aB 7,aI 8,aS 9,aS 10,aS 11,aS 12]
def R_k37:R:= .ite (aM v1 v0) (.done [.vb (aM v0 v2)]) aF
def R_k38:R:= .loop 2 [.z 0]<|
.ite (aL v2 (.len v0)) zRal<|
.esc zRd
def R_k39:R:= iC f_k38 [aS 0,.da 1] sI 2<|
.done zEp
def R_k3a:R:= .i (.get (.da 1) (.q sI) 2)<|
.i (.get (.da 1) (.q sI) 3)<|
 iC f_k37 [aI 0,.vi .i64 (.bin .sub .i64 aA v2),aI 3] [.b] 4<|
.done [.vb (.not v4)]
def R_k3b:R:= .loop 2 [.z 0]<|
.ite (aL v2 (.len v0)) (iX v0 v2 oI 3<|
.i (.callv (.da 1) [aI 3] [none] [.b] 4) zRi)<|
.esc zRd
def R_k3c:R:= iC f_k3b [aS 0,.da 1] sI 2<|
.done zEp
def R_k3d:R:= .ite (aE (.len v0) v1) (iC f_k3c [aS 0,.fn f_k3a (.cons (.q (.cons (aI 2) .nil)) .nil)] [.b] 3 zRh) aF
def R_k3e:R:= iC f_k3d [aS 0,aZ 3,aZ 2] [.b] 3<|
.ite v3 (iC f_k3d [aS 1,aZ 2,aZ 2] [.b] 4<|
.ite v4 (iC f_k37 [aI 2,aZ (-20),aZ 20] [.b] 5<|
.done [aB 5]) aF) aF
def R_k3f:R:=JqF
def R_k3g:R:= .ite (aE v2 v5) (iC f_k3f [aS 0,aS 3] [.b] 6<|
.ite v6 (iC f_k3f [aS 1,aS 4] [.b] 7<|
.done [aB 7]) aF) aF
def R_k3h:R:= .ite (aE v0 aC) (iC f_k37 [aI 2,aZ 1,aZ 6] [.b] 6<|
.ite v6 (.ite (aE v1 aA) (iC f_k3e zEb [.b] 7<|
.done [aB 7]) aF) aF)<|
.ite (aE v0 (.z 2)) (iC f_k37 [aI 1,aZ 0,aZ 2] [.b] 6<|
.ite v6 (.ite (aE v2 aA) (iC f_k3e zEb [.b] 7<|
.done [aB 7]) aF) aF)<|
.ite (aE v0 (.z 3)) (.ite (aE v1 aA) (.ite (aE v2 aA) (iC f_k3e zEb [.b] 6<|
.done [aB 6]) aF) aF)<|
.ite (aE v0 (.z 4)) (.ite (aE v1 aA) (.ite (aE v2 aA) (iC f_k3g [aS 3,aS 4,aI 5,.s .nil,.s .nil,aZ 0] [.b] 6<|
.done [aB 6]) aF) aF) aF
def R_k3i:R:= .loop 1 [.z 0,.z 0]<|
.ite (aL v2 (.len v0)) (iX v0 v2 (.g zSo) 3<|
 iC f_k3h [aI 3,aI 4,aI 5,aS 6,aS 7,aI 8] [.b] 9<|
.ite (.not v9) (.esc zRb)<|
.ite (aE v3 aC) (.next [aP 1,aP 2])<|
.next [v1,aP 2])<|
.esc zRo
def R_k3j:R:= iC f_k3i [aS 0] [.b] 1<|
.done zEa
def R_k3k:R:= iC f_k37 [.vi .i64 (.len v0),aZ 1,aZ 4] [.b] 1<|
.ite v1 (iC f_k39 [aS 0,.fn f_k3j .nil] [.b] 2<|
.done [.vb (.not v2)]) aF
def R_k3l:R:= .done [aS 4,aS 2]
def R_k3m:R:= iC f_k37 [aI 0,aZ 0,aZ 50] [.b] 1<|
.done zEa
def R_k3n:R:= iC f_k3d [aS 0,aZ 3,aZ 10000] [.b] 1<|
.done [aB 1]
def R_k3o:R:= iC f_k3n [aS 0] [.b] 2<|
.ite v2 (iC f_k37 [.vi .i64 (.len v1),aZ 1,aZ 3] [.b] 3<|
.ite v3 (iC f_k3c [aS 1,.fn f_k3m .nil] [.b] 4<|
.done [.vb (.not v4)]) aF) aF
def R_k3p:R:= iC f_k37 [aI 0,aZ 1,aZ 4] [.b] 4<|
.ite v4 (iC f_k3k [aS 1] [.b] 5<|
.ite v5 (iC f_k3d [aS 3,aZ 3,aZ 1000] [.b] 6<|
.ite v6 (iC f_k3l [aI 0,aS 1,aS 2,aS 3,aS 3] [.s,.s] 7<|
 iC f_k3o [aS 7,aS 8] [.b] 9<|
.done [aB 9]) aF) aF) aF
def R_k3q:R:= .done zEbs
def R_k3r:R:= iC f_k37 [aI 0,aZ 0,aZ 2] [.b] 1<|
.ite (.not v1) (.done zEl)<|
 iC f_k3q [] zSa 2<|
 iK (aM aA v0) zRu
def R_k3s:R:= .nilq 1 v0 zRc (iK (aM (.len v0) (.z 8796093022208))<|
.i (.head 1 v0)<|
 iK (aM (.len (.app .nil v0)) (.z 8796093022208))<|
.done [.s (.app .nil v0)])
def R_k3t:R:= iC f_k3s [aS 0] [.s] 3<|
 iC f_k3s [aS 1] [.s] 4<|
.done [aS 3,aS 4,aI 2]
def R_k3u:R:= .loop 1 [.nil,.z 0]<|
.ite (aL v2 (.len v0)) (iX v0 v2 (.g zSa) 3<|
 iC f_k3t zEb zSa 6<|
.i (.fl v6)<|
.i (.fl v7)<|
 iK (aM (.len (.app v1 (.cons (.g (.cons (aS 6) (.cons (aS 7) (.cons (aI 8) .nil)))) .nil))) (.z 1256584717458))<|
.next [.app v1 (.cons (.g (.cons (aS 6) (.cons (aS 7) (.cons (aI 8) .nil)))) .nil),aP 2]) zRf
def R_k3v:R:= iC f_k3d [aS 0,aZ 3,aZ 10000000] [.b] 3<|
.ite v3 (iC f_k3d [aS 1,aZ 2,aZ 10000000] [.b] 4<|
.ite v4 (iC f_k37 [aI 2,aZ (-10000000),aZ 10000000] [.b] 5<|
.done [aB 5]) aF) aF
def R_k3w:R:= .loop 2 [.z 0]<|
.ite (aL v2 (.len v0)) (iX v0 v2 (.g zSa) 3<|
.i (.callv (.da 1) zEb [some 3] [.b] 6)<|
.ite v6 zRg<|
.next [aP 2])<|
.esc zRd
def R_k3x:R:= iC f_k3w [aS 0,.da 1] sI 2<|
.done zEp
def R_k3y:R:= iC f_k3v zEc [.b] 3 zRh
def R_k3z:R:= .loop 7 [v0,.z 0]<|
.ite (aL v8 (.len v3)) (iX v3 v8 oI 9<|
 iK (aM aA v8)<|
 iK (aL v8 (.len v7))<|
 iX v7 v8 oI 10<|
 iK (aM aA v8)<|
 iK (aL v8 (.len v7))<|
 iX v7 v8 oI 11<|
.next [.set v7 v8 (.vi .i64 (.bin .add .i64 v10 (.bin .mul .i64 v6 v9))),aP 8])<|
.esc<|
.loop 9 [v1,.z 0]<|
.ite (aL v10 (.len v4)) (iX v4 v10 oI 11<|
 iK (aM aA v10)<|
 iK (aL v10 (.len v9))<|
 iX v9 v10 oI 12<|
 iK (aM aA v10)<|
 iK (aL v10 (.len v9))<|
 iX v9 v10 oI 13<|
.next [.set v9 v10 (.vi .i64 (.bin .add .i64 v12 (.bin .mul .i64 v6 v11))),aP 10])<|
.esc<|
.done [.vi .i64 (.bin .add .i64 v2 (.bin .mul .i64 v6 v5)),aS 7,aS 9]
def R_k40:R:= iC f_k3v zEc [.b] 3<|
.ite (.not v3) (.done zEl)<|
.done zEc
def R_k41:R:= iC f_k3v zEc [.b] 4<|
.ite (.not v4) (.done zEl)<|
.ite (.not (aE (.len v3) (.z 3))) (.done zEl)<|
 iC f_k3x [aS 3,.fn f_k3y .nil] [.b] 5<|
.ite v5 (.done zEl)<|
 iC f_k3q [] zSa 6<|
.loop 9 [v6,v7,.z 0,v8]<|
.ite (aL v11 (.len v3)) (iX v3 v11 (.g zSa) 13<|
 iX v0 v11 oI 16<|
 iC f_k3z [aS 9,aS 10,aI 12,aS 13,aS 14,aI 15,aI 16] zSb 17<|
.next [v18,v19,aP 11,v17])<|
.esc<|
 iC f_k3z [aS 9,aS 10,aI 12,.s .nil,aS 1,aI 2,aZ 1] zSb 13<|
 iC f_k40 [aS 14,aS 15,aI 13] zSa 16<|
.done [aS 16,aS 17,aI 18]
def R_k42:R:= iC f_k3v zEc [.b] 4<|
.ite (.not v4) (.done zEl)<|
 iC f_k37 [aI 3,aZ (-10000000),aZ 10000000] [.b] 5<|
.ite (.not v5) (.done zEl)<|
 iC f_k3q [] zSa 6<|
 iC f_k3z [aS 6,aS 7,aI 8,aS 0,aS 1,aI 2,aI 3] zSb 9<|
 iC f_k40 [aS 10,aS 11,aI 9] zSa 12<|
.done [aS 12,aS 13,aI 14]
def R_k43:R:= iC f_k3v zEc [.b] 6<|
.ite (.not v6) (.done zEl)<|
 iC f_k3v zEb [.b] 7<|
.ite (.not v7) (.done zEl)<|
 iC f_k3q [] zSa 8<|
 iC f_k3z [aS 8,aS 9,aI 10,aS 0,aS 1,aI 2,aZ 1] zSb 11<|
 iC f_k3z [aS 12,aS 13,aI 11,aS 3,aS 4,aI 5,aZ 1] zSb 14<|
 iC f_k40 [aS 15,aS 16,aI 14] zSa 17<|
.done [aS 17,aS 18,aI 19]
def R_k44:R:= .loop 6 [v1,v2,v3,v4,v5,v0]<|
.ite (aL v7 (.len v11)) (iX v11 v7 (.g zSo) 12<|
.ite (aE v12 (.z 4)) (iC f_k3u [aS 8] [.s] 18<|
 iK (aM (.len (.app v6 (.cons (.g (.cons (aS 18) (.cons (.s .nil) (.cons (.s .nil) (.cons (.vb .tt) .nil))))) .nil))) (.z 879609302220))<|
.esc<|
.done [aS 11,.s (.app v6 (.cons (.g (.cons (aS 18) (.cons (.s .nil) (.cons (.s .nil) (.cons (.vb .tt) .nil))))) .nil))])<|
 iC f_k41 [aS 15,aS 16,aI 17,aS 9] zSa 18<|
.ite (aE v12 aC) (iC f_k3u [aS 8] [.s] 21<|
 iK (aM (.len (.app v21 (.cons (.g (.cons (aS 18) (.cons (aS 19) (.cons (aI 20) .nil)))) .nil))) (.z 1256584717458))<|
 iC f_k3u [aS 9] [.s] 22<|
 iC f_k3u [aS 10] [.s] 23<|
 iC f_k44 [aS 11,aS 6,.vi .i64 (aP 7),.s (.app v21 (.cons (.g (.cons (aS 18) (.cons (aS 19) (.cons (aI 20) .nil)))) .nil)),aS 22,aS 23] [.s,.s] 24<|
 iC f_k42 [aS 18,aS 19,aI 20,aZ (-1)] zSa 26<|
 iC f_k3u [aS 8] [.s] 29<|
 iK (aM (.len (.app v29 (.cons (.g (.cons (aS 26) (.cons (aS 27) (.cons (.vi .i64 (.bin .sub .i64 v28 aC)) .nil)))) .nil))) (.z 1256584717458))<|
.next [v25,.bin .add .i64 (.bin .add .i64 v7 v14) aC,.app v29 (.cons (.g (.cons (aS 26) (.cons (aS 27) (.cons (.vi .i64 (.bin .sub .i64 v28 aC)) .nil)))) .nil),v9,v10,v24])<|
.ite (aE v12 (.z 2)) (iC f_k3u [aS 9] [.s] 21<|
 iK (aM aA v13)<|
 iK (aL v13 (.len v21))<|
 iX v21 v13 (.g zSa) 22<|
 iC f_k43 [aS 22,aS 23,aI 24,aS 18,aS 19,aI 20] zSa 25<|
 iK (aM aA v13)<|
 iK (aL v13 (.len v21))<|
 iX v21 v13 (.g zSa) 28<|
.next [v6,aP 7,v8,.set v21 v13 (.g (.cons (aS 25) (.cons (aS 26) (.cons (aI 27) .nil)))),v10,v11])<|
.ite (aE v12 (.z 3)) (iC f_k3u [aS 10] [.s] 21<|
 iK (aM (.len (.app v21 (.cons (.g (.cons (aS 18) (.cons (aS 19) (.cons (aI 20) .nil)))) .nil))) (.z 1256584717458))<|
.next [v6,aP 7,v8,v9,.app v21 (.cons (.g (.cons (aS 18) (.cons (aS 19) (.cons (aI 20) .nil)))) .nil),v11])<|
.next [v6,aP 7,v8,v9,v10,v11])<|
.esc<|
 iC f_k3u [aS 8] [.s] 12<|
 iC f_k3u [aS 10] [.s] 13<|
.loop 14 [.nil,.z 0]<|
.ite (aL v15 (.len v9)) (iX v9 v15 (.g zSa) 16<|
 iC f_k3r [aI 15] zSa 19<|
 iC f_k42 [aS 19,aS 20,aI 21,aZ (-1)] zSa 22<|
 iC f_k43 [aS 16,aS 17,aI 18,aS 22,aS 23,aI 24] zSa 25<|
.i (.fl v25)<|
.i (.fl v26)<|
 iK (aM (.len (.app v14 (.cons (.g (.cons (aS 25) (.cons (aS 26) (.cons (aI 27) .nil)))) .nil))) (.z 1256584717458))<|
.next [.app v14 (.cons (.g (.cons (aS 25) (.cons (aS 26) (.cons (aI 27) .nil)))) .nil),aP 15])<|
.esc<|
 iK (aM (.len (.app v6 (.cons (.g (.cons (aS 12) (.cons (aS 14) (.cons (aS 13) (.cons (.vb .ff) .nil))))) .nil))) (.z 879609302220))<|
.done [aS 11,.s (.app v6 (.cons (.g (.cons (aS 12) (.cons (aS 14) (.cons (aS 13) (.cons (.vb .ff) .nil))))) .nil))]
def R_k45:R:= iC f_k3i [aS 0] [.b] 1<|
.ite (.not v1) zRc<|
.loop 2 [.nil,.z 0]<|
.ite (aL v3 (.z 3)) (iC f_k3r [aI 3] zSa 4<|
.i (.fl v4)<|
.i (.fl v5)<|
 iK (aM (.len (.app v2 (.cons (.g (.cons (aS 4) (.cons (aS 5) (.cons (aI 6) .nil)))) .nil))) (.z 1256584717458))<|
.next [.app v2 (.cons (.g (.cons (aS 4) (.cons (aS 5) (.cons (aI 6) .nil)))) .nil),aP 3])<|
.esc<|
 iC f_k44 [aS 0,.s .nil,aZ 0,.s .nil,aS 2,.s .nil] [.s,.s] 4<|
.done [aS 5]
def R_k46:R:= .done [.vb (.not (aE v0 aA))]
def R_k47:R:= iC f_k3s [aS 0] [.s] 3<|
 iC f_k3b [aS 3,.fn f_k46 .nil] sI 4<|
.ite (aM aA v4) (iK (aM aA v4)<|
 iK (aL v4 (.len v3))<|
 iX v3 v4 oI 5<|
.ite (aL v5 aA) (.loop 6 [v3,.z 0]<|
.ite (aL v7 (.len v3)) (iK (aM aA v7)<|
 iK (aL v7 (.len v6))<|
 iX v6 v7 oI 8<|
 iK (aM aA v7)<|
 iK (aL v7 (.len v6))<|
 iX v6 v7 oI 9<|
.next [.set v6 v7 (.vi .i64 (.bin .sub .i64 aA v8)),aP 7])<|
.esc<|
.done [aS 6])<|
.done [aS 3])<|
.done [aS 3]
def R_k48:R:= .done [.vb (.not (aE v0 aA))]
def R_k49:R:= iC f_k3c [aS 0,.fn f_k48 .nil] [.b] 1<|
.done zEa
def R_k4a:R:= .i (.get (.da 1) (.q [.s]) 2)<|
 iC f_k3f [aS 0,aS 2] [.b] 3<|
.done [aB 3]
def R_k4b:R:= .loop 2 [.z 0]<|
.ite (aL v2 (.len v0)) zRal<|
.esc zRd
def R_k4c:R:= iC f_k4b [aS 0,.fn f_k4a (.cons (.q (.cons (aS 1) .nil)) .nil)] sI 2<|
.done [aI 2]
def R_k4d:R:= iC f_k3k [aS 0] [.b] 1<|
.ite (.not v1) zRc<|
.loop 2 [.nil,.z 0]<|
.ite (aL v3 (.z 3)) (iC f_k3r [aI 3] zSa 4<|
.i (.fl v4)<|
 iK (aM (.len (.app v2 (.cons (aS 4) .nil))) (.z 2932031007402))<|
.next [.app v2 (.cons (aS 4) .nil),aP 3])<|
.esc<|
.loop 4 [v2,.z 0]<|
.ite (aL v5 (.len v0)) (iX v0 v5 (.one .s) 6<|
 iC f_k45 [aS 6] [.s] 7<|
.loop 8 [v4,.z 0]<|
.ite (aL v9 (.len v7)) (iK (aM aA v9)<|
 iK (aL v9 (.len v7))<|
 iX v7 v9 (.g [.s,.s,.s,.b]) 10<|
.loop 14 [v8,.z 0]<|
.ite (aL v15 (.len v10)) (iX v10 v15 (.g zSa) 16<|
 iC f_k47 [aS 16,aS 17,aI 18] [.s] 19<|
 iC f_k49 [aS 19] [.b] 20<|
.ite (.not v20) (iC f_k4c [aS 14,aS 19] sI 21<|
.ite (aL v21 aA) (.i (.fl v19)<|
 iK (aM (.len (.app v14 (.cons (aS 19) .nil))) (.z 2932031007402))<|
.next [.app v14 (.cons (aS 19) .nil),aP 15])<|
.next [v14,aP 15])<|
.next [v14,aP 15])<|
.esc<|
.next [v14,aP 9])<|
.esc<|
.next [v8,aP 5])<|
.esc<|
.done [aS 4]
def R_k4e:R:= .loop 2 [.cons (.vb .ff) (.cons (.vb .ff) (.cons (.vb .ff) .nil)),.z 0]<|
.ite (aL v3 (.len v0)) (iX v0 v3 (.one .s) 4<|
 iC f_k45 [aS 4] [.s] 5<|
.loop 6 [v2,.z 0]<|
.ite (aL v7 (.len v5)) (iK (aM aA v7)<|
 iK (aL v7 (.len v5))<|
 iX v5 v7 (.g [.s,.s,.s,.b]) 8<|
.loop 12 [v6,.z 0]<|
.ite (aL v13 (.len v6)) (iK (aM aA v13)<|
 iK (aL v13 (.len v12))<|
 iX v12 v13 (.one .b) 14<|
.ite v14 (iK (aM aA v13)<|
 iK (aL v13 (.len v12))<|
 iX v12 v13 (.one .b) 15<|
.next [.set v12 v13 (.vb .tt),aP 13])<|
.i (.callv (.da 1) [aS 8,aS 9,aS 10,aB 11,aI 13] [some 4,none] [.b] 15)<|
 iK (aM aA v13)<|
 iK (aL v13 (.len v12))<|
 iX v12 v13 (.one .b) 16<|
.next [.set v12 v13 (aB 15),aP 13])<|
.esc<|
.next [v12,aP 7])<|
.esc<|
.next [v6,aP 3])<|
.esc<|
.done [aS 2]
def R_k4f:R:= .ite (aL v0 aA) (iK .ff<|
.done [])<|
.ite (aL aA (.bin .sub .i64 v0 (.bin .sub .i64 aA aA))) (iK (aL aA (.bin .sub .i64 v0 (.bin .sub .i64 aA aA)))<|
 iK (aM (.bin .sub .i64 v0 (.bin .sub .i64 aA aA)) (.z 1256584717458))<|
 iK (aM aA (.len (.rep (.bin .sub .i64 v0 (.bin .sub .i64 aA aA)) (.g (.cons (.s .nil) (.cons (.s .nil) (.cons (aZ 0) .nil)))))))<|
.done [.s (.take (.rep (.bin .sub .i64 v0 (.bin .sub .i64 aA aA)) (.g (.cons (.s .nil) (.cons (.s .nil) (.cons (aZ 0) .nil))))) aA)]) zRc
def R_k4g:R:= .loop 1 [.z 0,.z 0]<|
.ite (aL v2 (.len v0)) (iX v0 v2 (.one .s) 3<|
.ite (aL (.bin .add .i64 v1 (.len v3)) aA) (iK .ff<|
.done [])<|
.next [.bin .add .i64 v1 (.len v3),aP 2])<|
.esc<|
 iC f_k4f [aI 1] [.s] 3<|
.loop 4 [v3,.z 0]<|
.ite (aL v5 (.len v0)) (iX v0 v5 (.one .s) 6<|
 iK (aM (.len v6) (.z 1256584717458))<|
.i (.head 3 v6)<|
 iK (aM (.len (.app v4 v6)) (.z 1256584717458))<|
.next [.app v4 v6,aP 5])<|
.esc<|
.done [aS 4]
def R_k4h:R:= .i (.get (.da 3) (.q sI) 4)<|
 iX v0 v4 oI 5<|
.done [.vb (.not (aE v5 aA))]
def R_k4i:R:= iC f_k4g [.s (.cons (aS 1) (.cons (aS 2) .nil))] [.s] 5<|
 iC f_k3x [aS 5,.fn f_k4h (.cons (.q (.cons (aI 4) .nil)) .nil)] [.b] 6<|
.done [aB 6]
def R_k4j:R:= iC f_k3k [aS 0] [.b] 1<|
.ite (.not v1) zRc<|
 iC f_k4e [aS 0,.fn f_k4i .nil] [.s] 2<|
.done [aS 2]
def R_k4k:R:= iC f_k4d [aS 0] [.s] 1<|
 iC f_k4j [aS 0] [.s] 2<|
.done [aS 0,aS 1,aS 2]
def R_k4l:R:= .loop 2 [.z 0]<|
.ite (aL v2 (.len v0)) (iX v0 v2 (.g zSe) 3<|
.i (.callv (.da 1) [aI 3,aI 4,aS 5] [some 3] [.b] 6)<|
.ite v6 zRg<|
.next [aP 2])<|
.esc zRd
def R_k4m:R:= iC f_k4l [aS 0,.da 1] sI 2<|
.done zEp
def R_k4n:R:= .ite (aE v0 aA) (.done [.vb (aE (.len v1) aA)]) aF
def R_k4o:R:= .done [.s (.cons (.vc (.string (Jcz []))) (.cons (.vc (.string (Jcz [100,111,110,101]))) (.cons (.vc (.string (Jcz [115,116,111,112,112,101,100]))) (.cons (.vc (.string (Jcz [111,118,101,114]))) .nil))))]
def R_k4q:R:= iC f_k37 [aI 0,aZ 1,aZ 3] [.b] 2<|
.ite (.not v2) (.done zEn)<|
.ite (aL (.z 6) (.len v1)) (.done zEn)<|
.ite (.not (aE v0 aC)) (.ite (aL aA (.len v1)) (.done zEn) zRcd) zRcd
def R_k4r:R:= iC f_k4q [aI 0,aS 1] [.d] 2<|
.i (.prim .seq [.da 2,.vc (.string (Jcz []))] .b 3) zRh
def R_k4s:R:= .ite (aE v0 aA) (iC f_k4n [aI 1,aS 2] [.b] 3<|
.done [aB 3])<|
 iC f_k37 [aI 0,aZ 1,aZ 300] [.b] 3<|
.ite v3 (iC f_k4r [aI 1,aS 2] [.b] 4<|
.done [aB 4]) aF
def R_k4t:R:= iC f_k4s [aI 0,aI 1,aS 2] [.b] 3 zRh
def R_k4u:R:= .ite (aE (.len v4) v0) (iC f_k4m [aS 4,.fn f_k4t .nil] [.b] 5<|
.done [.vb (.not v5)]) aF
def R_k4v:R:= iC f_k37 [aI 4,aZ 0,.vi .i64 (.bin .sub .i64 v0 aC)] [.b] 5<|
.done [aB 5]
def R_k4w:R:= iC f_k3d [aS 0,aZ 2,aZ 9] [.b] 1<|
.done [aB 1]
def R_k4x:R:= iC f_k4v [aI 0,aS 1,aS 2,aS 3,aI 4] [.b] 8<|
.ite v8 (iC f_k37 [aI 6,aZ 0,.vi .i64 (.bin .sub .i64 (.len v1) aC)] [.b] 9<|
.ite v9 (iC f_k37 [aI 5,aZ 1,aZ 300] [.b] 10<|
.ite v10 (iC f_k4w [aS 7] [.b] 11<|
.done [aB 11]) aF) aF) aF
def R_k4y:R:= iC f_k4b [aS 0,.da 1] sI 2<|
.done zEp
def R_k4z:R:= iC f_k3d [aS 0,aZ 3,aZ 10000000] [.b] 1<|
.done zEa
def R_k50:R:= iC f_k4y [aS 0,.fn f_k4z .nil] [.b] 1<|
.done zEa
def R_k51:R:= iC f_k3d [aS 0,aZ 3,aZ 20000] [.b] 1<|
.done [aB 1]
def R_k52:R:= iC f_k3o [aS 0,aS 1] [.b] 5<|
.ite v5 (iC f_k50 [aS 2] [.b] 6<|
.ite v6 (iC f_k37 Jrd [.b] 7<|
.ite v7 (iC f_k51 [aS 4] [.b] 8<|
.done [aB 8]) aF) aF) aF
def R_k53:R:= .loop 2 [.z 0,.z 0]<|
.ite (aL v3 (.len v0)) (iX v0 v3 oI 4 zRq) zRg
def R_k54:R:= .i (.get (.da 1) (.q [.s]) 3)<|
 iC f_k53 [aS 0,aS 3] sI 4<|
.i (.get (.da 2) (.q sI) 5)<|
.i (.get (.da 2) (.q sI) 6)<|
 iC f_k37 [aI 4,.vi .i64 (.bin .sub .i64 aA v5),aI 6] [.b] 7<|
.done [.vb (.not v7)]
def R_k55:R:= iC f_k52 [aS 0,aS 1,aS 2,aI 3,aS 4] [.b] 5<|
.ite (.not v5) aF<|
 iX v1 v3 oI 6<|
 iC f_k4y [aS 2,.fn f_k54 (.cons (.q (.cons (aS 4) .nil)) (.cons (.q (.cons (aI 6) .nil)) .nil))] [.b] 7<|
.done [.vb (.not v7)]
def R_k56:R:= .loop 4 [.z 0]<|
.ite (aL v4 (.len v3)) (iX v3 v4 oI 5<|
.ite (.not (aE v5 aA)) (iX v2 v4 (.one .b) 6<|
.ite v6 (.esc zRb)<|
.next [aP 4])<|
.next [aP 4])<|
.esc zRa
def R_k57:R:= iC f_k55 [aS 3,aS 4,aS 1,aI 5,aS 6] [.b] 7<|
.ite v7 (iC f_k56 [aS 0,aS 1,aS 2,aS 6] [.b] 8<|
.done [aB 8]) aF
def R_k58:R:= iC f_k37 [aI 0,aZ 0,aZ 300] [.b] 1<|
.done zEa
def R_k59:R:= .ite (aE (.len v4) v0) (iC f_k3c [aS 4,.fn f_k58 .nil] [.b] 5<|
.done [.vb (.not v5)]) aF
def R_k5a:R:= .ite (.not v0) (.ite (aE (.len v1) aA) (.done [.vb (aE (.len v2) aA)]) aF) aF
def R_k5b:R:= iC f_k37 [aI 8,aZ 0,aZ 200] [.b] 13<|
.ite (.not v13) aF<|
 iC f_k3n [aS 9] [.b] 14<|
.ite (.not v14) aF<|
 iC f_k4u [aI 0,aS 1,aS 2,aS 3,aS 10] [.b] 15<|
.ite (.not v15) aF<|
.ite (.not (aE (.len v12) (.len v2))) aF<|
.loop 16 [.z 0]<|
.ite (aL v16 (.len v11)) (iX v11 v16 (.g zSk) 17<|
 iC f_k4x [aI 0,aS 1,aS 2,aS 3,aI 17,aI 18,aI 19,aS 20] [.b] 21<|
.ite (.not v21) (.esc zRb)<|
.ite (aL aA v16) (iX v11 (.bin .sub .i64 v16 aC) (.g zSk) 22<|
.ite (aM v17 v22) (.esc zRb)<|
.ite (.not v7) (.esc zRb)<|
.next [aP 16])<|
.ite (.not v7) (.esc zRb)<|
.next [aP 16])<|
.esc<|
.loop 17 [.z 0]<|
.ite (aL v17 (.len v12)) (iX v12 v17 (.g [.b,.s,.s]) 18<|
.ite v7 (.ite v18 (iC f_k3l [aI 0,aS 1,aS 2,aS 3,aS 9] [.s,.s] 21<|
 iC f_k57 [aS 4,aS 5,aS 6,aS 21,aS 22,aI 17,aS 19] [.b] 23<|
.ite v23 (iC f_k59 [aI 0,aS 1,aS 2,aS 3,aS 20] [.b] 24<|
.ite (.not v24) (iC f_k5a [aB 18,aS 19,aS 20] [.b] 25<|
.ite (.not v25) (.esc zRb)<|
.next [aP 17])<|
.next [aP 17])<|
 iC f_k5a [aB 18,aS 19,aS 20] [.b] 24<|
.ite (.not v24) (.esc zRb)<|
.next [aP 17]) zRab) zRab)<|
.esc zRa
def R_k5c:R:= iC f_k3p zEk [.b] 10<|
.ite v10 (iC f_k4k [aS 1] [.s,.s,.s] 11<|
 iC f_k5b [aI 0,aS 1,aS 2,aS 3,aS 11,aS 12,aS 13,aB 4,aI 5,aS 6,aS 7,aS 8,aS 9] [.b] 14<|
.done [aB 14]) aF
def R_k5d:R:= iC f_k3s [aS 3] [.s] 4<|
.done [aI 0,aI 1,aI 2,aS 4]
def R_k5e:R:= iC f_k3s [aS 1] [.s] 2<|
.done [aI 0,aS 2]
def R_k5f:R:= .loop 1 [.nil,.z 0]<|
.ite (aL v2 (.len v0)) (iX v0 v2 (.g zSe) 3<|
 iC f_k5e [aI 4,aS 5] [.i .i64,.s] 6<|
 iK (aM (.len (.app v1 (.cons (.g (.cons (aI 3) (.cons (aI 6) (.cons (aS 7) .nil)))) .nil))) (.z 1759218604441))<|
.next [.app v1 (.cons (.g (.cons (aI 3) (.cons (aI 6) (.cons (aS 7) .nil)))) .nil),aP 2]) zRf
def R_k5g:R:= .loop 6 [.nil,.z 0]<|
.ite (aL v7 (.len v4)) (iX v4 v7 (.g zSk) 8<|
 iC f_k5d [aI 8,aI 9,aI 10,aS 11] zSk 12<|
 iK (aM (.len (.app v6 (.cons (.g (.cons (aI 12) (.cons (aI 13) (.cons (aI 14) (.cons (aS 15) .nil))))) .nil))) zM)<|
.next [.app v6 (.cons (.g (.cons (aI 12) (.cons (aI 13) (.cons (aI 14) (.cons (aS 15) .nil))))) .nil),aP 7])<|
.esc<|
.loop 8 [.nil,.z 0]<|
.ite (aL v9 (.len v5)) (iX v5 v9 (.g [.b,.s,.s]) 10<|
 iC f_k3s [aS 11] [.s] 13<|
 iC f_k3s [aS 12] [.s] 14<|
 iK (aM (.len (.app v8 (.cons (.g (.cons (aB 10) (.cons (aS 13) (.cons (aS 14) .nil)))) .nil))) (.z 1256584717458))<|
.next [.app v8 (.cons (.g (.cons (aB 10) (.cons (aS 13) (.cons (aS 14) .nil)))) .nil),aP 9])<|
.esc<|
 iC f_k3s [aS 2] [.s] 10<|
 iC f_k5f [aS 3] [.s] 11<|
.done [aB 0,aI 1,aS 10,aS 11,aS 6,aS 8]
def R_k5h:R:= iC f_k3s [aS 0] [.s] 2<|
.loop 3 [v2,.z 0]<|
.ite (aL v4 (.len v1)) (iX v1 v4 oI 5<|
 iK (aM aA v4)<|
 iK (aL v4 (.len v3))<|
 iX v3 v4 oI 6<|
 iK (aM aA v4)<|
 iK (aL v4 (.len v3))<|
 iX v3 v4 oI 7<|
.next [.set v3 v4 (.vi .i64 (.bin .add .i64 v6 v5)),aP 4])<|
.esc<|
.done [aS 3]
def R_k5i:R:= .loop 2 [.z 0]<|
.ite (aL v2 (.len v0)) (iX v0 v2 (.g [.b,.s,.s]) 3<|
.i (.callv (.da 1) [aB 3,aS 4,aS 5] [some 3] [.b] 6)<|
.ite v6 zRg<|
.next [aP 2])<|
.esc zRd
def R_k5j:R:= iC f_k5i [aS 0,.da 1] sI 2<|
.done zEp
def R_k5k:R:= .done [.vb (.not v0)]
def R_k5l:R:= iC f_k5j [aS 5,.fn f_k5k .nil] [.b] 6<|
.done [.vb (.not v6),aB 0,aI 1,aS 2,aS 4,aS 5,aS 3]
def R_k5m:R:= iC f_k53 [aS 0,aS 3] sI 5<|
 iC f_k53 [aS 1,aS 4] sI 6<|
.done [.vi .i64 (.bin .add .i64 (.bin .add .i64 v5 v6) v2)]
def R_k5n:R:= iC f_k3i [aS 0] [.b] 3<|
.ite (.not v3) (.done zEm)<|
 iC f_k3n [aS 1] [.b] 4<|
.ite (.not v4) (.done zEm)<|
 iC f_k4w [aS 2] [.b] 5<|
.ite (.not v5) (.done zEm)<|
 iC f_k3s [aS 1] [.s] 6<|
.loop 7 [.nil,v6,.z 0]<|
.ite (aL v9 (.len v0)) (iX v0 v9 (.g zSo) 10<|
.ite (aE v10 (.z 4)) (iC f_k3s [aS 1] [.s] 16<|
.esc<|
.done [aZ 2,.s .nil,aS 16])<|
 iC f_k5m [aS 13,aS 14,aI 15,aS 8,aS 2] sI 16<|
.ite (aE v10 aC) (.ite (aL v16 aA) (.next [v7,v8,.bin .add .i64 (.bin .add .i64 v9 v12) aC])<|
.next [v7,v8,aP 9])<|
.ite (aE v10 (.z 2)) (iK (aM aA v11)<|
 iK (aL v11 (.len v8))<|
 iX v8 v11 oI 17<|
 iK (aM aA v11)<|
 iK (aL v11 (.len v8))<|
 iX v8 v11 oI 18<|
.next [v7,.set v8 v11 (.vi .i64 (.bin .add .i64 v17 v16)),aP 9])<|
.ite (aE v10 (.z 3)) (iK (aM (.len (.app v7 (.cons (aI 16) .nil))) (.z 8796093022208))<|
.next [.app v7 (.cons (aI 16) .nil),v8,aP 9])<|
.next [v7,v8,aP 9])<|
.esc<|
 iC f_k3n [aS 8] [.b] 10<|
.ite (.not v10) (iC f_k3s [aS 1] [.s] 11<|
.done [aZ 3,.s .nil,aS 11])<|
.done [aZ 1,aS 7,aS 8]
def R_k5o:R:= iK (aM aA (.len v5))<|
 iK (aM (.len v5) (.z 1256584717458))<|
.done [aB 0,aI 1,aS 2,.s .nil,.s (.rep (.len v5) (.g (.cons (.vb .ff) (.cons (.s .nil) (.cons (.s .nil) .nil))))),aS 3]
def R_k5p:R:= iC f_k3s [aS 2] [.s] 10<|
.loop 11 [v10,.z 0]<|
.ite (aL v12 (.len v5)) (iX v5 v12 (.g [.b,.s,.s]) 13<|
 iC f_k5h [aS 11,aS 14] [.s] 16<|
.next [v16,aP 12])<|
.esc<|
 iC f_k5l [aB 0,aI 1,aS 2,aS 3,aS 4,aS 5] zSj 13<|
.ite (.not v13) (.done JqV)<|
.ite (aE v15 (.z 200)) (.done JqV)<|
 iC f_k3n [aS 11] [.b] 20<|
.ite (.not v20) (.done JqV)<|
.loop 21 [v11,v19,.nil,.nil,.z 0]<|
.ite (aL v25 (.len v17)) (iX v17 v25 (.g zSk) 26<|
 iK (.not (aE (.len v8) aA))<|
 iX v18 (.bin .rem .i64 v26 (.len v8)) (.g [.b,.s,.s]) 30<|
 iX v32 v26 oI 33<|
.ite (.not (aE v27 (aP 33))) (.next [v21,v22,v23,v24,aP 25])<|
 iX v7 v28 (.one .s) 34<|
 iC f_k5n [aS 34,aS 21,aS 29] zSb 35<|
 iC f_k5e [aI 35,aS 36] [.i .i64,.s] 38<|
 iK (aM aA v26)<|
 iK (aL v26 (.len v22))<|
 iX v22 v26 (.g zSe) 40<|
 iC f_k5d [aI 26,aI 27,aI 28,aS 29] zSk 43<|
 iK (aM (.len (.app v24 (.cons (.g (.cons (aI 43) (.cons (aI 44) (.cons (aI 45) (.cons (aS 46) .nil))))) .nil))) zM)<|
 iK (aM (.len (.app v23 (.cons (.g (.cons (aI 35) (.cons (aS 36) .nil))) .nil))) (.z 2199023255552))<|
.next [v37,.set v22 v26 (.g (.cons (aI 27) (.cons (aI 38) (.cons (aS 39) .nil)))),.app v23 (.cons (.g (.cons (aI 35) (.cons (aS 36) .nil))) .nil),.app v24 (.cons (.g (.cons (aI 43) (.cons (aI 44) (.cons (aI 45) (.cons (aS 46) .nil))))) .nil),aP 25])<|
.esc<|
 iC f_k5o [aB 14,.vi .i64 (aP 15),aS 21,aS 22,aS 17,aS 18] zSh 26<|
.done [aS 24,aS 23,aB 26,aI 27,aS 28,aS 29,aS 30,aS 31]
def R_k5q:R:= iC f_k5c JpL [.b] 10<|
.ite (.not v10) zRn<|
 iC f_k5g zEr zSh 11<|
 iC f_k5p [aB 11,aI 12,aS 13,aS 14,aS 15,aS 16,aI 0,aS 1,aS 2,aS 3] [.s,.s,.b,.i .i64,.s,.s,.s,.s] 17<|
.done [aB 19,aI 20,aS 21,aS 24,aS 22,aS 23,aS 17,aS 18]
def R_k5r:R:= iC f_ki zEk [.b] 10<|
.ite (.not v10) aF<|
 iC f_k17 [aS 1] [.s,.s] 11<|
 iC f_k1r [aI 0,aS 1,aS 2,aS 3,aS 11,aS 12,aB 4,aI 5,aS 6,aS 7,aS 8,aS 9] [.b] 13<|
.done [aB 13]
def R_k5s:R:= iC f_k5r JpL [.b] 10<|
.ite (.not v10) zRn<|
 iC f_k2l JpL zSm 11<|
.done [aB 11,aI 12,aS 13,aS 14,aS 15,aS 16,aS 17,aS 18]
def R_k5t:R:=JqF
def R_k5u:R:= .ite (aE v0 v2) (iC f_k5t [aS 1,aS 3] [.b] 4<|
.done [aB 4]) aF
def R_k5v:R:= .ite (.not (aE (.len v0) (.len v1))) aF<|
.loop 2 [.z 0]<|
.ite (aL v2 (.len v0)) (iX v0 v2 (.g zSe) 3<|
 iX v1 v2 (.g zSe) 6<|
.ite (.not (aE v3 v6)) (.esc zRb)<|
 iX v0 v2 (.g zSe) 9<|
 iX v1 v2 (.g zSe) 12<|
 iC f_k5u [aI 10,aS 11,aI 13,aS 14] [.b] 15<|
.ite (.not v15) (.esc zRb)<|
.next [aP 2])<|
.esc zRa
def R_k5w:R:= .ite (aE v0 v4) (.ite (aE v1 v5) (.ite (aE v2 v6) (iC f_k5t [aS 3,aS 7] [.b] 8<|
.done [aB 8]) aF) aF) aF
def R_k5x:R:= .ite (.not (aE (.len v0) (.len v1))) aF<|
.loop 2 [.z 0]<|
.ite (aL v2 (.len v0)) (iX v0 v2 (.g zSk) 3<|
 iX v1 v2 (.g zSk) 7<|
 iC f_k5w [aI 3,aI 4,aI 5,aS 6,aI 7,aI 8,aI 9,aS 10] [.b] 11<|
.ite (.not v11) (.esc zRb)<|
.next [aP 2])<|
.esc zRa
def R_k5y:R:= .ite (.not (.beq v0 v6)) aF<|
.ite (.not (aE v1 v7)) aF<|
 iC f_k5t [aS 2,aS 8] [.b] 12<|
.ite (.not v12) aF<|
 iC f_k5v [aS 3,aS 9] [.b] 13<|
.ite (.not v13) aF<|
 iC f_k5x [aS 4,aS 10] [.b] 14<|
.ite (.not v14) aF<|
.ite (.not (aE (.len v5) (.len v11))) aF<|
.loop 15 [.z 0]<|
.ite (aL v15 (.len v5)) (iX v5 v15 (.g [.b,.s,.s]) 16<|
 iX v11 v15 (.g [.b,.s,.s]) 19<|
.ite (.not (.beq v16 v19)) (.esc zRb)<|
 iX v5 v15 (.g [.b,.s,.s]) 22<|
 iX v11 v15 (.g [.b,.s,.s]) 25<|
 iC f_k5t [aS 23,aS 26] [.b] 28<|
.ite (.not v28) (.esc zRb)<|
 iX v5 v15 (.g [.b,.s,.s]) 29<|
 iX v11 v15 (.g [.b,.s,.s]) 32<|
 iC f_k5t [aS 31,aS 34] [.b] 35<|
.ite (.not v35) (.esc zRb)<|
.next [aP 15])<|
.esc zRa
def R_k5z:R:= .ite (.not (aE (.len v0) (.len v1))) aF<|
.loop 2 [.z 0]<|
.ite (aL v2 (.len v0)) (iX v0 v2 (.g [.i .i64,.s]) 3<|
 iX v1 v2 (.g [.i .i64,.s]) 5<|
 iC f_k5u [aI 3,aS 4,aI 5,aS 6] [.b] 7<|
.ite (.not v7) (.esc zRb)<|
.next [aP 2])<|
.esc zRa
def R_k60:R:= iC f_k3q [] zSa 0<|
 iC f_k3v zEc [.b] 3<|
.done [aB 3]
def R_k61:R:= iC f_k3p zEk [.b] 5<|
.ite (.not v5) zRd<|
 iC f_k4v [aI 0,aS 1,aS 2,aS 3,aI 4] [.b] 6<|
.ite (.not v6) zRd<|
 iK (.not (aE (.len v2) aA))<|
.done [.vi .i64 (.bin .rem .i64 v4 (.len v2))]
def R_k62:R:= .ite (aL (.z 1048576) (.len v0)) aT<|
 iC f_k36 [aS 0] zSq 1<|
 iC f_k5q Jrn zSm 11<|
 iC f_k5s Jrn zSm 19<|
 iC f_k5y [aB 11,aI 12,aS 13,aS 14,aS 15,aS 16,aB 19,aI 20,aS 21,aS 22,aS 23,aS 24] [.b] 27<|
.ite (.not v27) aF<|
 iC f_k5x [aS 17,aS 25] [.b] 28<|
.ite (.not v28) aF<|
 iC f_k5z [aS 18,aS 26] [.b] 29<|
.ite (.not v29) aF<|
 iC f_k5r Jrn [.b] 30<|
.ite (.not v30) zRad<|
.ite (aE v12 v6) zRad<|
.loop 31 [.z 0,.z 0]<|
.ite (aL v32 (.len v9)) (iK (aM aA v32)<|
 iK (aL v32 (.len v9))<|
 iX v9 v32 (.g zSk) 33<|
 iC f_k61 [aI 1,aS 2,aS 3,aS 4,aI 33] sI 37<|
 iK (aM aA v37)<|
 iK (aL v37 (.len v10))<|
 iX v10 v37 (.g [.b,.s,.s]) 38<|
 iX v40 v33 oI 41<|
.ite (aE v34 (aP 41)) (.ite (aM (.len v17) v31) (.esc zRb)<|
 iK (aM aA v31)<|
 iK (aL v31 (.len v17))<|
 iX v17 v31 (.g zSk) 42<|
 iC f_k5w [aI 42,aI 43,aI 44,aS 45,aI 33,aI 34,aI 35,aS 36] [.b] 46<|
.ite (.not v46) (.esc zRb)<|
 iK (aM aA v33)<|
 iK (aL v33 (.len v14))<|
 iX v14 v33 (.g zSe) 47<|
.ite (.not (aE v47 v34)) (.esc zRb)<|
 iK (aM aA v33)<|
 iK (aL v33 (.len v14))<|
 iX v14 v33 (.g zSe) 50<|
 iK (aM aA v31)<|
 iK (aL v31 (.len v18))<|
 iX v18 v31 (.g [.i .i64,.s]) 53<|
 iC f_k5u [aI 51,aS 52,aI 53,aS 54] [.b] 55<|
.ite (.not v55) (.esc zRb)<|
.next [aP 31,aP 32])<|
 iK (aM aA v33)<|
 iK (aL v33 (.len v14))<|
 iX v14 v33 (.g zSe) 42<|
 iK (aM aA v33)<|
 iK (aL v33 (.len v8))<|
 iX v8 v33 (.g zSe) 45<|
.ite (.not (aE v42 v45)) (.esc zRb)<|
.next [v31,aP 32])<|
.esc<|
.done [.vb (aE v31 (.len v17))]
def E_k0:Jc:=⟨.x ⟨[.d (aS 0)],[],[.s],.p 0 0,[.box zVc],[.s,.i .i64],false⟩,.r ⟨[0,2,5],0,[],[],false,[],[],[]⟩ R_k0⟩
def E_k1:Jc:=⟨.x ⟨zVa,[.box zVc],zSf,.d (aI 0),[.box zVd],zSd,false⟩,.r ⟨[0,1,4,5,6,24,36],1,[],[],false,[],[],[]⟩ R_k1⟩
def E_k2:Jc:=⟨.x ⟨[],[],[],.g zVg,zOb,zSa,false⟩,.r ⟨[0],0,[],[],false,[],[],[]⟩ R_k2⟩
def E_k3:Jc:=⟨.x ⟨[.d (aI 0),.d (aI 1),.d (aI 2)],[],[.i .i64,.i .i64,.i .i64],.g zVg,zOb,zSa,false⟩,.r ⟨[0,1,2,6,7],0,[],[],false,[],[],[]⟩ R_k3⟩
def E_k4:Jc:=⟨.x ⟨[.g zVg,.d (aI 3),.d (aI 4)],zOb,[.s,.s,.i .i64,.i .i64,.i .i64],.g [.o 0 v1,.o 1 v2,.d (aI 0)],zOc,zSb,false⟩,.r ⟨[0,1,2,3,6],2,[],[],false,[],[],[]⟩ R_k4⟩
def E_k5:Jc:=⟨.x ⟨[.p 0 0],[.box zVc],[.s,.i .i64],.g [.o 1 v0,.o 2 v1,.d (aI 2)],zOf,zSi,false⟩,.r ⟨[0,2,3,4,5,8,21],1,[],[(7,⟨[5],[(0,1),(0,0)],[97],[],[]⟩),(3,⟨[4],[(0,1),(0,0)],[96],[],[]⟩)],false,[],[],[]⟩ R_k5⟩
def E_k6:Jc:=⟨.x ⟨[.p 0 0],[.box zVc],[.s,.i .i64],.g [.d (aI 0),.d (aI 1),.d (aI 2),.o 1 v3,.o 2 v4,.d (aI 5)],[.box [.d (aS 6),.d (aI 7)],.arr 3 1 v3 false true,.arr 3 1 v4 false true],[.i .i64,.i .i64,.i .i64,.s,.s,.i .i64,.s,.i .i64],false⟩,.r ⟨[0,2,3,5,6,15,23,30],1,[(999999,⟨.cell 32 3,900000,3,1,false,false⟩),(999999,⟨.cell 32 4,900001,3,1,false,false⟩)],[],false,[],[],[]⟩ R_k6⟩
def E_k7:Jc:=⟨.d ⟨[oI,oI,oI],.one (.one .b),true⟩,.r ⟨[0,1,2,6],0,[],[],false,[],[],[]⟩ R_k7⟩
def E_k8:Jc:=⟨.d ⟨[.one .s,oI,oI],.one (.one .b),true⟩,.r ⟨[0,1,2,6,7,11,15,26],0,[],[(4,⟨[7],[],[],[],[]⟩)],false,[],[],[]⟩ R_k8⟩
def E_k9:Jc:=⟨.d ⟨[.g zSa],.one (.one .b),true⟩,.r ⟨[0,1,2],0,[],[],false,[],[],[]⟩ R_k9⟩
def E_ka:Jc:=⟨.d ⟨[.g zSo],.one (.one .b),true⟩,.r ⟨[0,1,2,4,5,20,35],0,[],[],false,[],[],[]⟩ R_ka⟩
def E_kb:Jc:=⟨.d ⟨[.one .s],.one (.one .b),true⟩,.r ⟨[0,2,3,4,8,16,22],0,[],[(3,⟨[4,3],[],[],[],[]⟩)],false,[],[],[]⟩ R_kb⟩
def E_kc:Jc:=⟨.x ⟨[.p 0 0],[.box zVc],[.s,.i .i64],.o 1 v0,[.box zVd,.arr 146 6 v0 false true],zSa,false⟩,.r ⟨[0,2,3,4,5,6,10,11,27,33,47,53,67,78],1,[],[(16,⟨[5],[(0,1),(0,0)],[992],[],[]⟩)],false,[],[],[]⟩ R_kc⟩
def E_kd:Jc:=⟨.x ⟨[.p 0 0],[.box zVc],[.s,.i .i64],.o 1 v0,[.box zVd,.arr 107 1 v0 false true],zSa,false⟩,.r ⟨[0,2,3,4,10],1,[],[(3,⟨[4],[(0,1),(0,0)],[80],[],[]⟩)],false,[],[],[]⟩ R_kd⟩
def E_ke:Jc:=⟨.x ⟨[.p 0 0],[.box zVc],[.s,.i .i64],.g [.d (aI 0),.o 1 v1,.o 2 v2,.o 3 v3],zOj,zSl,false⟩,.r ⟨[0,2,3,4,5,16,30],1,[(7,⟨.cell 48 3,59,3,1,false,false⟩),(3,⟨.cell 48 2,58,3,1,false,false⟩)],[(7,⟨[5],[(0,1),(0,0)],[59],[],[]⟩),(3,⟨[4],[(0,1),(0,0)],[58],[],[]⟩)],false,[],[],[]⟩ R_ke⟩
def E_kf:Jc:=⟨.d ⟨[.one .s],.one (.one .b),true⟩,.r ⟨[0,2,3,7,11,19],0,[],[(4,⟨[3],[],[],[],[]⟩)],false,[],[],[]⟩ R_kf⟩
def E_kg:Jc:=⟨.d ⟨[.one .s],.one (.one .b),true⟩,.r ⟨[0,2],0,[],[],false,[],[],[]⟩ R_kg⟩
def E_kh:Jc:=⟨.d ⟨[.g [.s,.s]],.one (.one .b),true⟩,.r ⟨[0,1,2,3,14,19,28],0,[],[(4,⟨[3],[],[],[],[]⟩)],false,[],[],[]⟩ R_kh⟩
def E_ki:Jc:=⟨.d ⟨[.g zSc],.one (.one .b),true⟩,.r ⟨[0,1,2],0,[],[],false,[],[],[]⟩ R_ki⟩
def E_kj:Jc:=⟨.x ⟨[.d (aS 0)],[],[.s],.o 0 v0,[.arr 107 1 v0 false true],[.s],false⟩,.r ⟨[0,2,3,4,5,6,7,12,22],0,[],[(3,⟨[4],[],[128],[],[]⟩),(7,⟨[6],[],[240],[],[]⟩)],false,[],[],[]⟩ R_kj⟩
def E_kk:Jc:=⟨.x ⟨[.g zVj],[],zSc,.g [.d (aI 0),.o 0 v1,.o 1 v2,.o 2 v3],[.arr 107 1 v1 false true,.arr 3 1 v2 false true,.arr 3 1 v3 false true],zSc,false⟩,.r ⟨[0,1,2],0,[],[],false,[],[],[]⟩ R_kk⟩
def E_kl:Jc:=⟨.x ⟨[.g zVj],[],zSc,.o 0 v0,[.arr 51 3 v0 false true],[.s],false⟩,.r ⟨[0,1,2,3,4,9],0,[],[(3,⟨[4],[],[80],[],[]⟩)],false,[],[],[]⟩ R_kl⟩
def E_km:Jc:=⟨.x ⟨[.g zVj],[],zSc,.o 0 v0,[.arr 45 3 v0 false true],[.s],false⟩,.r ⟨[0,1,2,3,4,10],0,[],[(3,⟨[4],[],[80],[],[]⟩)],false,[],[],[]⟩ R_km⟩
def E_kn:Jc:=⟨.x ⟨[.g zVj],[],zSc,.g zVk,zOi,zSh,false⟩,.r ⟨[0,1,2,5],0,[(999999,⟨.cell 32 2,900000,3,1,false,false⟩),(999999,⟨.cell 32 3,900001,51,3,false,false⟩),(999999,⟨.cell 32 4,900002,43,4,false,false⟩),(999999,⟨.cell 32 5,900003,45,3,false,false⟩)],[],false,[],[],[]⟩ R_kn⟩
def E_ko:Jc:=⟨.x ⟨[.g zVj],[],zSc,.g [.d (aB 0),.d (aB 1),.d (aI 2),.o 0 v3,.o 1 v4,.o 2 v5],zOe,zSg,false⟩,.r ⟨[0,1,2,5],0,[(999999,⟨.cell 32 3,900000,3,1,false,false⟩),(999999,⟨.cell 32 4,900001,3,1,false,false⟩),(999999,⟨.cell 32 5,900002,51,3,false,false⟩)],[],false,[],[],[]⟩ R_ko⟩
def E_kp:Jc:=⟨.x ⟨[.g zVj],[],zSc,.g zVr,zOo,zSt,false⟩,.r ⟨[0,1,2,3,4,5,8,19,32],0,[(9,⟨.cell 48 11,67,167,8,false,false⟩),(5,⟨.cell 48 4,60,84,6,false,false⟩),(999999,⟨.cell 32 1,900000,107,1,false,false⟩),(999999,⟨.cell 32 2,900001,3,1,false,false⟩),(999999,⟨.cell 32 3,900002,3,1,false,false⟩),(999999,⟨.cell 32 4,900003,84,6,false,false⟩),(999999,⟨.cell 32 7,900004,3,1,false,false⟩),(999999,⟨.cell 32 8,900005,51,3,false,false⟩),(999999,⟨.cell 32 9,900006,43,4,false,false⟩),(999999,⟨.cell 32 10,900007,45,3,false,false⟩),(999999,⟨.cell 32 11,900008,167,8,false,false⟩),(999999,⟨.cell 32 12,900009,86,11,false,false⟩),(999999,⟨.cell 32 13,900010,220,6,false,false⟩)],[(9,⟨[5],[],[67],[],[]⟩),(5,⟨[4],[],[60],[],[]⟩)],false,[],[],[]⟩ R_kp⟩
def E_kq:Jc:=⟨.x ⟨zVa,[.box zVc],zSf,.o 1 v0,[.box zVd,.arr 3 1 v0 false true],zSa,false⟩,.r ⟨[0,1,4,5,16,18,28,32],1,[],[],false,[],[],[]⟩ R_kq⟩
def E_kr:Jc:=⟨.x ⟨[.p 0 0,.g zVw],[.box zVc],[.s,.i .i64,.i .i64,.s,.s,.s,.s,.b,.i .i64,.s,.s,.s,.s,.s,.s,.s],.g zVi,zOd,zSo,false⟩,.r ⟨[0,1,3,4,5,14,21,22,44,57,66,70,75,80,89,98],1,[(999999,⟨.cell 64 3,900000,3,1,false,false⟩)],[],false,[],[],[]⟩ R_kr⟩
def E_ks:Jc:=⟨.x ⟨[.p 0 0,.g zVw,.d (aI 16),.d (aI 17)],[.box zVc],[.s,.i .i64,.i .i64,.s,.s,.s,.s,.b,.i .i64,.s,.s,.s,.s,.s,.s,.s,.i .i64,.i .i64],.g zVi,zOd,zSo,false⟩,.r ⟨[0,1,2,3,5,8,9,15,16,17,20,28,40,43,51,54,62],1,[(999999,⟨.cell 128 3,900000,3,1,false,false⟩)],[],false,[],[],[]⟩ R_ks⟩
def E_kt:Jc:=⟨.x ⟨[.p 0 0,.g zVw,.d (aI 16)],[.box zVc],zSy,.g zVi,zOd,zSo,false⟩,.r ⟨[0,1,2,4,6,7,8,15,16,29,46,57,69],1,[(999999,⟨.cell 96 3,900000,3,1,false,false⟩)],[(10,⟨[8,7],[],[],[],[]⟩)],false,[],[],[]⟩ R_kt⟩
def E_ku:Jc:=⟨.x ⟨[.d (aI 0)],[],sI,.g zVg,zOb,zSa,false⟩,.r ⟨[0,2,3,6],0,[(999999,⟨.cell 32 0,900000,3,1,false,false⟩),(999999,⟨.cell 32 1,900001,3,1,false,false⟩)],[],false,[],[],[]⟩ R_ku⟩
def E_kv:Jc:=⟨.x ⟨[.g zVh,.g [.d (aS 3),.d (aS 4),.d (aI 5)],.d (aI 6)],[],[.s,.s,.i .i64,.s,.s,.i .i64,.i .i64],.g zVg,zOb,zSa,false⟩,.r ⟨[0,1,2,3,4,6,7,8,9,12,33],0,[],[(7,⟨[9],[],[161],[],[]⟩),(3,⟨[8],[],[160],[],[]⟩)],false,[],[],[]⟩ R_kv⟩
def E_kw:Jc:=⟨.x ⟨[.d (aS 0)],[],[.s],.o 0 v0,[.arr 77 3 v0 false true],[.s],false⟩,.r ⟨[0,2,3,4,9],0,[],[(3,⟨[4],[],[80],[],[]⟩)],false,[],[],[]⟩ R_kw⟩
def E_kx:Jc:=⟨.d ⟨[.g zSa],.one (.one .b),true⟩,.r ⟨[0,1,2],0,[],[],false,[],[],[]⟩ R_kx⟩
def E_ky:Jc:=⟨.x ⟨[.g zVh,.d (aS 3)],[],[.s,.s,.i .i64,.s],.g zVg,zOb,zSa,false⟩,.r ⟨[0,1,2,4,5,6,35,46,62],0,[(999999,⟨.cell 64 0,900000,3,1,false,false⟩),(999999,⟨.cell 64 1,900001,3,1,false,false⟩)],[(5,⟨[6],[(80,2)],[592,608],[],[]⟩)],false,[],[],[]⟩ R_ky⟩
def E_kz:Jc:=⟨.x ⟨[.g zVh],[],zSa,.g zVg,zOb,zSa,false⟩,.r ⟨[0,1,2,3],0,[],[],false,[],[],[]⟩ R_kz⟩
def E_k10:Jc:=⟨.x ⟨[.d (aS 0),.d (aS 1),.d (aS 2)],[],[.s,.s,.s],.g [.o 0 v0,.o 1 v1,.o 2 v2,.d (aB 3)],[.arr 77 3 v0 false true,.arr 77 3 v1 false true,.arr 77 3 v2 false true],[.s,.s,.s,.b],false⟩,.r ⟨[0,1,2,6,7,8,15],0,[(3,⟨.cell 112 1,121,77,3,false,false⟩)],[(3,⟨[8],[],[121],[],[]⟩)],false,[],[],[]⟩ R_k10⟩
def E_k11:Jc:=⟨.x ⟨[.d (aS 0),.d (aI 1),.d (aS 2),.d (aS 3),.d (aS 4)],[],[.s,.i .i64,.s,.s,.s],.o 0 v0,[.arr 125 4 v0 false true],[.s],false⟩,.r ⟨[0,1,2,3,4,10,11,12,13,14,15,20,29,39,45,80],0,[],[(2,⟨[11,4,2],[],[],[],[]⟩)],false,[],[],[]⟩ R_k11⟩
def E_k12:Jc:=⟨.x ⟨[.d (aS 0)],[],[.s],.o 0 v0,[.arr 125 4 v0 false true],[.s],false⟩,.r ⟨[0,2,5],0,[],[],false,[],[],[]⟩ R_k12⟩
def E_k13:Jc:=⟨.x ⟨zVf,[],[.s,.s],.o 0 v0,[.arr 4 1 v0 false true],[.s],false⟩,.r ⟨[0,1,4,5,6,7,14,18,29],0,[],[(3,⟨[6],[],[128],[],[]⟩),(6,⟨[7],[],[128],[],[]⟩)],false,[],[],[]⟩ R_k13⟩
def E_k14:Jc:=⟨.x ⟨[.g zVh],[],zSa,.o 0 v0,zOa,[.s],false⟩,.r ⟨[0,1,2,3,4,5,11,23,33],0,[],[(4,⟨[5,4],[],[96],[],[]⟩)],false,[],[],[]⟩ R_k14⟩
def E_k15:Jc:=⟨.d ⟨[.one .s,.one .s],.one (.one .b),true⟩,.r ⟨[0,1,4,5,10,14,25],0,[],[(4,⟨[5],[],[],[],[]⟩)],false,[],[],[]⟩ R_k15⟩
def E_k16:Jc:=⟨.d ⟨[.one .s,.one .s],.one oI,true⟩,.r ⟨[0,1,4,5,9,17],0,[],[(2,⟨[5],[],[],[],[]⟩)],false,[],[],[]⟩ R_k16⟩
def E_k17:Jc:=⟨.x ⟨[.d (aS 0)],[],[.s],.t [.o 0 v0,.o 1 v1],[.arr 24 1 v0 false true,.arr 4 1 v1 false true],[.s,.s],false⟩,.r ⟨[0,2,3,4,5,6,7,8,9,10,11,15,27,38,61,83],0,[],[(8,⟨[7],[],[192,208],[],[]⟩),(12,⟨[9],[],[192,208],[],[]⟩),(16,⟨[10],[],[192],[],[]⟩),(4,⟨[6],[],[192],[],[]⟩)],false,[],[],[]⟩ R_k17⟩
def E_k18:Jc:=⟨.d ⟨[.one .s],.one (.one .b),true⟩,.r ⟨[0,2],0,[],[],false,[],[],[]⟩ R_k18⟩
def E_k19:Jc:=⟨.d ⟨[.g zSc,.g zSk],.one (.one .b),true⟩,.r ⟨[0,1,2,3,4],0,[],[],false,[],[],[]⟩ R_k19⟩
def E_k1a:Jc:=⟨.d ⟨[oI],.one (.one .d),false⟩,.m digitsF⟩
def E_k1b:Jc:=⟨.d ⟨[.g [.i .i64,.s]],.one (.one .d),false⟩,.r ⟨[0,1,2,3,4,5,36,46],0,[],[(6,⟨[5,4],[],[],[],[]⟩)],false,[],[],[]⟩ R_k1b⟩
def E_k1c:Jc:=⟨.d ⟨[.g [.i .i64,.s]],.one (.one .b),true⟩,.r ⟨[0,1,2],0,[],[],false,[],[],[]⟩ R_k1c⟩
def E_k1d:Jc:=⟨.d ⟨[.g zSc,.one .s],.one (.one .b),true⟩,.r ⟨[0,1,2,4,5,8,12,31],0,[],[(4,⟨[5],[],[],[],[]⟩)],false,[],[],[]⟩ R_k1d⟩
def E_k1e:Jc:=⟨.d ⟨[.g zSc,.g zSg],.one (.g [.s,.s]),false⟩,.r ⟨[0,1,2,3,4],0,[],[],false,[],[],[]⟩ R_k1e⟩
def E_k1f:Jc:=⟨.d ⟨[.one .s],.one (.one .b),true⟩,.r ⟨[0,2,3,7,15],0,[],[(2,⟨[3],[],[],[],[]⟩)],false,[],[],[]⟩ R_k1f⟩
def E_k1g:Jc:=⟨.d ⟨[.one .s,.one .s],.one oI,true⟩,.r ⟨[0,1,4,5,6,8],0,[],[(3,⟨[6,5],[],[],[],[]⟩)],false,[],[],[]⟩ R_k1g⟩
def E_k1h:Jc:=⟨.d ⟨[.g [.s,.s],.one .s,oI,.one .s],.one (.one .b),true⟩,.r ⟨[0,1,2,3,4,8,9,31,35,56],0,[],[(4,⟨[9],[],[],[],[]⟩)],false,[],[],[]⟩ R_k1h⟩
def E_k1i:Jc:=⟨.d ⟨[.one .s,.one .s],.one (.one .b),true⟩,.r ⟨[0,1,4,5,7,20],0,[],[(2,⟨[5],[],[],[],[]⟩)],false,[],[],[]⟩ R_k1i⟩
def E_k1j:Jc:=⟨.d ⟨[.g zSc,.one .s],.one (.one .b),true⟩,.r ⟨[0,1,2,4,5,10,14,74],0,[],[(4,⟨[5],[],[],[],[]⟩)],false,[],[],[]⟩ R_k1j⟩
def E_k1k:Jc:=⟨.d ⟨[.g zSc,.one .s,.one .s,.g zSg,oI],.one (.one .b),true⟩,.r ⟨[0,1,2,3,4,5,8,10],0,[],[],false,[],[],[]⟩ R_k1k⟩
def E_k1l:Jc:=⟨.d ⟨[.g zSc,.g zSr,oI],.one (.one .b),true⟩,.r ⟨[0,1,2,3,4,6,43,46],0,[],[],false,[],[],[]⟩ R_k1l⟩
def E_k1m:Jc:=⟨.d ⟨[.g zSx,.one .b,.one .b,.one .b,.one .b],.one (.one .b),true⟩,.r ⟨[0,1,2,3,4,5,10,11],0,[],[],false,[],[],[]⟩ R_k1m⟩
def E_k1n:Jc:=⟨.d ⟨[.g zSc,.one .s],.one (.one .b),true⟩,.r ⟨[0,1,2,4,5,10,14,22],0,[],[(4,⟨[5],[],[],[],[]⟩)],false,[],[],[]⟩ R_k1n⟩
def E_k1o:Jc:=⟨.d ⟨[.g zSc,.g zSx],.one (.one .b),true⟩,.r ⟨[0,1,2,3,4,5,12,14,15,40,56,83],0,[],[],false,[],[],[]⟩ R_k1o⟩
def E_k1p:Jc:=⟨.d ⟨[.g zSc,.one .s,.one .s,.g zSh],.one (.one .b),true⟩,.r ⟨[0,1,2,3,4,7,8,9,10,11,18,28,75],0,[],[(5,⟨[10],[],[],[],[]⟩)],false,[],[],[]⟩ R_k1p⟩
def E_k1q:Jc:=⟨.d ⟨[.g zSh],.one oI,true⟩,.r ⟨[0,1,2,3,4,9,17],0,[],[(3,⟨[4,3],[],[],[],[]⟩)],false,[],[],[]⟩ R_k1q⟩
def E_k1r:Jc:=⟨.d ⟨[.g zSc,.one .s,.one .s,.g zSh],.one (.one .b),true⟩,.r ⟨[0,1,2,3,4,7,8,9,34,39,69],0,[],[(4,⟨[9],[],[],[],[]⟩)],false,[],[],[]⟩ R_k1r⟩
def E_k1s:Jc:=⟨.d ⟨[.g zSt,.one .s,.one .s],.one (.one .b),true⟩,.r ⟨[0,1,2,3,6,7,8,9,10,40,45,58,63,74,79,89],0,[],[(15,⟨[10],[],[],[],[]⟩),(10,⟨[9],[],[],[],[]⟩),(5,⟨[8],[],[],[],[]⟩)],false,[],[],[]⟩ R_k1s⟩
def E_k1t:Jc:=⟨.x ⟨[.g [.d (aI 0),.d (aS 1)]],[],[.i .i64,.s],.g zVb,[.arr 3 1 v1 false true],[.i .i64,.s],false⟩,.r ⟨[0,1,2],0,[],[],false,[],[],[]⟩ R_k1t⟩
def E_k1u:Jc:=⟨.x ⟨[.d (aS 0)],[],[.s],.o 0 v0,[.arr 51 3 v0 false true],[.s],false⟩,.r ⟨[0,2,3,4,9],0,[],[(3,⟨[4],[],[80],[],[]⟩)],false,[],[],[]⟩ R_k1u⟩
def E_k1v:Jc:=⟨.x ⟨[.g [.d (aI 0),.d (aI 1),.d (aI 2),.d (aS 3)]],[],zSk,.g [.d (aI 0),.d (aI 1),.d (aI 2),.o 0 v3],[.arr 3 1 v3 false true],zSk,false⟩,.r ⟨[0,1,2],0,[],[],false,[],[],[]⟩ R_k1v⟩
def E_k1w:Jc:=⟨.x ⟨[.g zVm],[],zSh,.g zVk,zOi,zSh,false⟩,.r ⟨[0,1,2,3,4,5,22,40],0,[(7,⟨.cell 48 5,61,45,3,false,false⟩),(3,⟨.cell 48 4,60,43,4,false,false⟩)],[(7,⟨[5],[],[61],[],[]⟩),(3,⟨[4],[],[60],[],[]⟩)],false,[],[],[]⟩ R_k1w⟩
def E_k1x:Jc:=⟨.x ⟨[.g zVn],[],zSg,.g [.d (aB 0),.d (aB 1),.d (aI 2),.o 0 v3,.o 1 v4,.o 2 v5],zOe,zSg,false⟩,.r ⟨[0,1,2],0,[],[],false,[],[],[]⟩ R_k1x⟩
def E_k1y:Jc:=⟨.x ⟨[.g [.d (aI 0),.d (aI 1),.d (aI 2),.d (aI 3),.d (aI 4),.d (aI 5),.d (aI 6),.d (aS 7),.d (aS 8),.d (aS 9),.d (aS 10)]],[],zSx,.g zVq,zOh,zSx,false⟩,.r ⟨[0,1,2],0,[],[],false,[],[],[]⟩ R_k1y⟩
def E_k1z:Jc:=⟨.x ⟨[.g zVv],[],zSt,.g zVr,zOo,zSt,false⟩,.r ⟨[0,1,2,3,4,5,6,7,8,20,38,66,84],0,[(16,⟨.cell 48 13,69,220,6,false,false⟩),(12,⟨.cell 48 12,68,86,11,false,false⟩),(7,⟨.cell 48 11,67,167,8,false,false⟩),(3,⟨.cell 48 4,60,84,6,false,false⟩)],[(16,⟨[8],[],[69],[],[]⟩),(12,⟨[7],[],[68],[],[]⟩),(7,⟨[5],[],[67],[],[]⟩),(3,⟨[4],[],[60],[],[]⟩)],false,[],[],[]⟩ R_k1z⟩
def E_k20:Jc:=⟨.d ⟨[.g zSt],.one oI,true⟩,.r ⟨[0,1,2,3,4,9,17],0,[],[(3,⟨[4,3],[],[],[],[]⟩)],false,[],[],[]⟩ R_k20⟩
def E_k21:Jc:=⟨.x ⟨[.g zVs,.d (aI 14),.d (aI 15),.d (aS 16)],zOk,[.i .i64,.s,.s,.s,.s,.b,.i .i64,.s,.s,.s,.s,.s,.s,.s,.i .i64,.i .i64,.s],.g zVt,zOl,zSs,false⟩,.r ⟨[0,1,2,3,4,8,9,33,51],4,[],[],false,[],[],[]⟩ R_k21⟩
def E_k22:Jc:=⟨.x ⟨zVf,[],[.s,.s],.o 0 v0,zOa,[.s],false⟩,.r ⟨[0,1,4,5,6,9],0,[],[(3,⟨[6],[],[112],[],[]⟩)],false,[],[],[]⟩ R_k22⟩
def E_k23:Jc:=⟨.d ⟨[.g zSa,.one .s,.one .s],.one oI,true⟩,.r ⟨[0,1,2,3,6,7,8,9,13,29],0,[],[(7,⟨[9,7],[],[],[],[]⟩),(3,⟨[8,7],[],[],[],[]⟩)],false,[],[],[]⟩ R_k23⟩
def E_k24:Jc:=⟨.d ⟨[.g [.s,.s],oI],.one oI,true⟩,.r ⟨[0,1,2,4,5,6,11,16],0,[],[(3,⟨[6,5],[],[],[],[]⟩)],false,[],[],[]⟩ R_k24⟩
def E_k25:Jc:=⟨.d ⟨[.g [.s,.s],.one .s,oI,.one .s,.g zSa,.one .s],.tup [oI,oI,.one .b],true⟩,.r ⟨[0,1,2,3,4,5,6,10,12,13,14,15,16,48,61,67],0,[],[],false,[],[],[]⟩ R_k25⟩
def E_k26:Jc:=⟨.d ⟨[.g [.s,.s],.one .s,oI,.one .s,.g [.s,.s,.s,.b],.one .s],.one (.one .b),true⟩,.r ⟨[0,1,2,3,4,5,6,10,12,13,14,16,21,44],0,[],[(2,⟨[13],[],[],[],[]⟩)],false,[],[],[]⟩ R_k26⟩
def E_k27:Jc:=⟨.x ⟨[.g zVf,.d (aS 2),.g [.d (aS 3),.d (aS 4),.d (aS 5),.d (aB 6)],.d (aS 7)],[],[.s,.s,.s,.s,.s,.s,.b,.s],.t [.o 0 v0,.d (aB 1)],zOa,[.s,.b],false⟩,.r ⟨[0,1,2,3,4,6,8,9,10,11,12,15,34],0,[],[(3,⟨[11],[],[208],[],[]⟩)],false,[],[],[]⟩ R_k27⟩
def E_k28:Jc:=⟨.d ⟨[.g [.s,.s],.one .s,oI,.one .s],.one oI,true⟩,.r ⟨[0,1,2,3,4,8,9,10,11,12,13,15,38,48],0,[],[(3,⟨[10,9],[],[],[],[]⟩)],false,[],[],[]⟩ R_k28⟩
def E_k29:Jc:=⟨.x ⟨[.g zVf,.d (aS 2),.d (aS 3),.d (aI 4),.d (aS 5),.g [.d (aS 6),.d (aS 7),.d (aS 8),.d (aB 9)],.d (aS 10)],[],[.s,.s,.s,.s,.i .i64,.s,.s,.s,.s,.b,.s],.t [.g zVb,.o 1 v2,.d (aB 3)],zOc,[.i .i64,.s,.s,.b],false⟩,.r ⟨[0,1,2,3,4,5,6,7,12,14,15,16,17,18,19,20,21,23,45,54,55,61,72,82],0,[(999999,⟨.cell 224 1,900000,3,1,false,false⟩)],[(16,⟨[21],[],[1232],[],[]⟩)],false,[],[],[]⟩ R_k29⟩
def E_k2a:Jc:=⟨.x ⟨[.d (aS 0),.d (aS 1),.d (aS 2),.g [.d (aS 3),.d (aS 4)],.d (aI 5),.d (aS 6),.d (aI 7),.d (aS 8)],[],[.s,.s,.s,.s,.s,.i .i64,.s,.i .i64,.s],.t [.g zVb,.o 1 v2,.d (aB 3)],zOc,[.i .i64,.s,.s,.b],false⟩,.r ⟨[0,1,2,3,4,5,6,7,11,16,17,18,19,20,29,41],0,[(999999,⟨.cell 256 1,900000,3,1,false,false⟩)],[(3,⟨[20],[],[],[],[]⟩)],false,[],[],[]⟩ R_k2a⟩
def E_k2b:Jc:=⟨.d ⟨[.g zSc,.one .s,.one .s,.g zSg,oI,.g zSk],.tup [.g zSg,.g [.i .i64,.s],.one .s],false⟩,.r ⟨[0,1,2,3,4,5,6,9,11,12,13,14,15,16,17,18,19,55,63,71,91],0,[],[],false,[],[],[]⟩ R_k2b⟩
def E_k2c:Jc:=⟨.x ⟨[.g zVs,.d (aS 14)],zOk,[.i .i64,.s,.s,.s,.s,.b,.i .i64,.s,.s,.s,.s,.s,.s,.s,.s],.g zVt,zOl,zSs,false⟩,.r ⟨[0,1,2,4,5,15],4,[],[(2,⟨[5],[],[2],[0],[]⟩)],false,[],[],[]⟩ R_k2c⟩
def E_k2d:Jc:=⟨.x ⟨[.g zVs,.g [.d (aI 14),.d (aI 15),.d (aI 16),.d (aS 17)],.g [.d (aI 18),.d (aS 19)]],zOk,[.i .i64,.s,.s,.s,.s,.b,.i .i64,.s,.s,.s,.s,.s,.s,.s,.i .i64,.i .i64,.i .i64,.s,.i .i64,.s],.g zVt,zOl,zSs,false⟩,.r ⟨[0,1,2,3,4,5,6,10],4,[],[],false,[],[],[]⟩ R_k2d⟩
def E_k2e:Jc:=⟨.x ⟨[.g zVs,.d (aS 14),.d (aS 15),.d (aI 16),.d (aB 17)],zOk,[.i .i64,.s,.s,.s,.s,.b,.i .i64,.s,.s,.s,.s,.s,.s,.s,.s,.s,.i .i64,.b],.g zVt,zOl,zSs,false⟩,.r ⟨[0,1,2,3,4,5,10,11,12,13,14,15,16,32,87,98],4,[],[],false,[],[],[]⟩ R_k2e⟩
def E_k2f:Jc:=⟨.x ⟨[.g zVs,.d (aI 14)],zOk,[.i .i64,.s,.s,.s,.s,.b,.i .i64,.s,.s,.s,.s,.s,.s,.s,.i .i64],.g [.d (aI 0),.d (aS 1),.d (aS 2),.d (aS 3),.o 0 v11,.d (aB 4),.d (aI 5),.d (aS 6),.d (aS 7),.d (aS 8),.d (aS 9),.o 1 v12,.o 4 v10,.o 3 v14],[.arr 84 6 v11 false true,.arr 167 8 v12 false true,.arr 86 11 v13 false true,.arr 220 6 v14 false true,.arr 86 11 v10 false true],zSu,false⟩,.r ⟨[0,1,2,4,5,6,12,17],4,[],[(3,⟨[6],[],[112],[],[]⟩)],false,[],[],[]⟩ R_k2f⟩
def E_k2g:Jc:=⟨.x ⟨[.g zVn,.d (aI 6)],[],[.b,.b,.i .i64,.s,.s,.s,.i .i64],.g zVq,zOh,zSx,false⟩,.r ⟨[0,1,2,4,5,6,19],0,[(3,⟨.cell 80 9,97,3,1,false,false⟩),(999999,⟨.cell 64 7,900000,3,1,false,false⟩),(999999,⟨.cell 64 10,900001,51,3,false,false⟩)],[(3,⟨[6],[],[97],[],[]⟩)],false,[],[],[]⟩ R_k2g⟩
def E_k2h:Jc:=⟨.x ⟨[.g zVj,.g [.d (aB 4),.d (aB 5),.d (aI 6),.d (aS 7),.d (aS 8),.d (aS 9)],.d (aI 10),.g [.d (aI 11),.d (aI 12),.d (aI 13),.d (aI 14),.d (aI 15),.d (aI 16),.d (aI 17),.d (aS 18),.d (aS 19),.d (aS 20),.d (aS 21)]],[],[.i .i64,.s,.s,.s,.b,.b,.i .i64,.s,.s,.s,.i .i64,.i .i64,.i .i64,.i .i64,.i .i64,.i .i64,.i .i64,.i .i64,.s,.s,.s,.s],.t [.g zVn,.o 0 v6],[.arr 86 11 v6 false true],zSj,false⟩,.r ⟨[0,1,2,3,4,5,7,8,9,10,11,22,34,50,66,90],0,[],[(13,⟨[11],[],[210],[],[]⟩)],false,[],[],[]⟩ R_k2h⟩
def E_k2i:Jc:=⟨.x ⟨[.d (aS 0),.g [.d (aI 1),.d (aI 2),.d (aI 3),.d (aS 4)]],[],[.s,.i .i64,.i .i64,.i .i64,.s],.o 0 v0,[.arr 43 4 v0 false true],[.s],false⟩,.r ⟨[0,1,3,4,5,6,7,12,26,44,64,73],0,[],[(4,⟨[7,6],[],[128],[],[]⟩)],false,[],[],[]⟩ R_k2i⟩
def E_k2j:Jc:=⟨.d ⟨[.one .s,.one .s,.one .s],.tup [.g [.i .i64,.s],.one .s],false⟩,.r ⟨[0,1,2,6,7,10],0,[],[],false,[],[],[]⟩ R_k2j⟩
def E_k2k:Jc:=⟨.d ⟨[.one .s,.one .s,.one .s],.tup [.g [.i .i64,.s],.one .s],false⟩,.r ⟨[0,1,2,6,7,8,9,10,11,24,34,42,47,54,59,76],0,[],[(6,⟨[10],[],[480,432],[],[]⟩)],false,[],[],[]⟩ R_k2k⟩
def E_k2l:Jc:=⟨.x ⟨[.g zVj,.g zVo],[],zSq,.t zVp,zOn,zSm,false⟩,.r ⟨[0,1,2,3,4,5,6,7,8,9,10,11,12,13,14,15,16,29,37,61,69,96],0,[],[(13,⟨[12,10],[],[289,304,320],[],[336]⟩),(6,⟨[11],[],[336],[],[]⟩)],false,[],[],[]⟩ R_k2l⟩
def E_k2m:Jc:=⟨.x ⟨[.g zVm,.d (aI 6)],[],[.b,.i .i64,.s,.s,.s,.s,.i .i64],.g zVq,zOh,zSx,false⟩,.r ⟨[0,1,2,4],0,[(999999,⟨.cell 64 7,900000,3,1,false,false⟩),(999999,⟨.cell 64 9,900001,3,1,false,false⟩)],[],false,[],[],[]⟩ R_k2m⟩
def E_k2n:Jc:=⟨.x ⟨[.g zVj,.g zVo],[],zSq,.o 0 v0,[.arr 86 11 v0 false true],[.s],false⟩,.r ⟨[0,1,2,3,4,5,6,12],0,[],[(3,⟨[6],[],[112],[],[]⟩)],false,[],[],[]⟩ R_k2n⟩
def E_k2o:Jc:=⟨.x ⟨[.g zVj,.d (aS 4),.d (aS 5),.g [.d (aB 6),.d (aI 7),.d (aS 8),.d (aS 9),.d (aS 10),.d (aS 11)],.g [.d (aI 12),.d (aI 13),.d (aI 14),.d (aI 15),.d (aI 16),.d (aI 17),.d (aI 18),.d (aS 19),.d (aS 20),.d (aS 21),.d (aS 22)]],[],[.i .i64,.s,.s,.s,.s,.s,.b,.i .i64,.s,.s,.s,.s,.i .i64,.i .i64,.i .i64,.i .i64,.i .i64,.i .i64,.i .i64,.s,.s,.s,.s],.t [.g zVm,.o 0 v6,.o 1 v7,.o 2 v8],[.arr 86 11 v6 false true,.arr 43 4 v7 false true,.arr 49 2 v8 false true],[.b,.i .i64,.s,.s,.s,.s,.s,.s,.s],false⟩,.r ⟨[0,1,2,3,4,5,8,9,10,11,12,13,14,15,16,17,18,28,35,72,102],0,[],[],false,[],[],[]⟩ R_k2o⟩
def E_k2p:Jc:=⟨.x ⟨[.g zVs,.d (aS 14),.d (aS 15),.d (aI 16)],zOk,[.i .i64,.s,.s,.s,.s,.b,.i .i64,.s,.s,.s,.s,.s,.s,.s,.s,.s,.i .i64],.g zVu,zOm,zSs,false⟩,.r ⟨[0,1,2,3,4,8,9,10,11,12,13,14,15,16,23,35,78],4,[(999999,⟨.cell 128 12,900000,86,11,false,true⟩),(999999,⟨.kill 2,910002,0,0,false,false⟩)],[(12,⟨[16],[(64,10),(64,9),(64,8),(64,7),(64,6),(64,5),(64,3),(64,2),(64,1),(64,0)],[0,1,3,512],[],[]⟩)],false,[],[],[]⟩ R_k2p⟩
def E_k2q:Jc:=⟨.x ⟨[.g zVj,.g zVo],[],zSq,.o 0 v0,[.arr 86 11 v0 false true],[.s],false⟩,.r ⟨[0,1,2,3,4,5,6,9,29],0,[],[(5,⟨[6],[],[208],[],[]⟩)],false,[],[],[]⟩ R_k2q⟩
def E_k2r:Jc:=⟨.x ⟨[.g zVs,.d (aI 14),.d (aB 15)],zOk,[.i .i64,.s,.s,.s,.s,.b,.i .i64,.s,.s,.s,.s,.s,.s,.s,.i .i64,.b],.g zVt,zOl,zSs,false⟩,.r ⟨[0,1,2,3,6,12],4,[],[],false,[],[],[]⟩ R_k2r⟩
def E_k2s:Jc:=⟨.x ⟨[.g zVj,.g zVo,.d (aB 10)],[],[.i .i64,.s,.s,.s,.b,.i .i64,.s,.s,.s,.s,.b],.g zVk,zOi,zSh,false⟩,.r ⟨[0,1,2,3,4,6,7,13],0,[],[],false,[],[],[]⟩ R_k2s⟩
def E_k2t:Jc:=⟨.x ⟨[.g zVs,.d (aS 14),.d (aS 15),.g [.d (aI 16),.d (aI 17),.d (aI 18),.d (aS 19)]],zOk,[.i .i64,.s,.s,.s,.s,.b,.i .i64,.s,.s,.s,.s,.s,.s,.s,.s,.s,.i .i64,.i .i64,.i .i64,.s],.g zVu,zOm,zSs,false⟩,.r ⟨[0,1,2,3,4,7,8,10,11,21,33,41,47,55,65,74,80,86],4,[(999999,⟨.cell 128 12,900000,86,11,false,true⟩),(999999,⟨.kill 2,910002,0,0,false,false⟩)],[],false,[],[],[]⟩ R_k2t⟩
def E_k2u:Jc:=⟨.x ⟨[.g zVv,.g [.d (aI 14),.d (aI 15),.d (aI 16),.d (aS 17)]],[],[.i .i64,.s,.s,.s,.s,.b,.i .i64,.s,.s,.s,.s,.s,.s,.s,.i .i64,.i .i64,.i .i64,.s],.g zVs,zOk,zSt,false⟩,.r ⟨[0,1,2,3,4,5,6,10,23],0,[(999999,⟨.cell 64 4,900000,84,6,false,false⟩),(999999,⟨.cell 64 11,900001,167,8,false,false⟩),(999999,⟨.cell 64 12,900002,86,11,false,false⟩),(999999,⟨.cell 64 13,900003,220,6,false,false⟩)],[],false,[],[],[]⟩ R_k2u⟩
def E_k2v:Jc:=⟨.x ⟨[.p 0 0,.g zVw,.d (aI 16)],[.box zVc],zSy,.t [.o 1 v0,.g [.d (aI 1),.d (aS 2),.d (aS 3),.d (aS 4),.d (aS 5),.d (aB 6),.d (aI 7),.d (aS 8),.d (aS 9),.d (aS 10),.d (aS 11),.d (aS 12),.d (aS 13),.d (aS 14)]],[.box [.d (aS 15),.d (aI 16)],.arr 158 4 v0 false true],zSw,false⟩,.r ⟨[0,1,2,4,6,7,8,9,10,11,12,13,25,31,41,58],1,[],[(6,⟨[12,11,10],[(64,13),(64,12),(64,11),(64,10),(64,9),(64,8),(64,7),(64,6),(64,5),(64,4),(64,3),(64,2),(64,1),(64,0),(0,1),(0,0)],[224],[],[]⟩)],false,[],[],[]⟩ R_k2v⟩
def E_k2w:Jc:=⟨.x ⟨[.p 0 0],[.box zVc],[.s,.i .i64],.g zVv,[.box [.d (aS 14),.d (aI 15)]],zSv,false⟩,.r ⟨[0,2,4],1,[],[],false,[],[],[]⟩ R_k2w⟩
def E_k2x:Jc:=⟨.x ⟨[.p 0 0,.g [.d (aI 2),.d (aS 3),.d (aS 4),.d (aS 5)],.d (aI 6)],[.box zVc],[.s,.i .i64,.i .i64,.s,.s,.s,.i .i64],.g zVi,zOd,zSo,false⟩,.r ⟨[0,1,2,4,6,7,20,30,41,44,48,56,64],1,[],[],false,[],[],[]⟩ R_k2x⟩
def E_k2y:Jc:=⟨.x ⟨zVa,[.box zVc],zSf,.g [.o 1 v0,.o 2 v1,.d (aI 2)],zOf,zSi,false⟩,.r ⟨[0,1,4,5,10,24,27,38,44,51],1,[],[],false,[],[],[]⟩ R_k2y⟩
def E_k2z:Jc:=⟨.x ⟨zVa,[.box zVc],zSf,.o 1 v0,[.box zVd,.arr 146 6 v0 false true],zSa,false⟩,.r ⟨[0,1,4,5,6,17,24,34,45,56,67,75,79],1,[],[(16,⟨[],[],[128],[],[]⟩)],false,[],[],[]⟩ R_k2z⟩
def E_k30:Jc:=⟨.x ⟨zVa,[.box zVc],zSf,.o 1 v0,[.box zVd,.arr 107 1 v0 false true],zSa,false⟩,.r ⟨[0,1,4,5,11,14,17,24,30],1,[],[(5,⟨[],[],[112],[],[]⟩)],false,[],[],[]⟩ R_k30⟩
def E_k31:Jc:=⟨.x ⟨zVa,[.box zVc],zSf,.g [.d (aI 0),.o 1 v1,.o 2 v2,.o 3 v3],zOj,zSl,false⟩,.r ⟨[0,1,4,5,11,14,19,27,32,44],1,[],[],false,[],[],[]⟩ R_k31⟩
def E_k32:Jc:=⟨.x ⟨zVa,[.box zVc],zSf,.o 1 v0,[.box zVd,.arr 3 1 v0 false true],zSa,false⟩,.r ⟨[0,1,4,5,6,9,23,25,35,39],1,[],[(3,⟨[6],[(0,1),(0,0)],[112],[],[]⟩)],false,[],[],[]⟩ R_k32⟩
def E_k33:Jc:=⟨.x ⟨zVa,[.box zVc],zSf,.o 1 v0,[.box zVd,.arr 3 1 v0 false true],zSa,false⟩,.r ⟨[0,1,4,5,21,23,27,31],1,[],[],false,[],[],[]⟩ R_k33⟩
def E_k34:Jc:=⟨.x ⟨[.p 0 0,.g zVw,.g [.d (aB 16),.d (aI 17),.d (aS 18),.d (aS 19),.d (aS 20),.d (aS 21)]],[.box zVc],[.s,.i .i64,.i .i64,.s,.s,.s,.s,.b,.i .i64,.s,.s,.s,.s,.s,.s,.s,.b,.i .i64,.s,.s,.s,.s],.g [.d (aB 0),.d (aI 1),.o 1 v2,.o 2 v3,.o 3 v4,.o 4 v5],[.box [.d (aS 6),.d (aI 7)],.arr 3 1 v2 false true,.arr 51 3 v3 false true,.arr 43 4 v4 false true,.arr 45 3 v5 false true],zSn,false⟩,.r ⟨[0,1,2,4,5,6,10,14,28,34,42,47,55,66],1,[],[],false,[],[],[]⟩ R_k34⟩
def E_k35:Jc:=⟨.x ⟨zVa,[.box zVc],zSf,.t [.g zVj,.g [.d (aB 4),.d (aI 5),.o 1 v6,.o 2 v7,.o 3 v8,.o 4 v9],.g [.d (aI 10),.d (aS 11),.d (aS 12),.d (aS 13),.d (aS 14),.d (aB 15),.d (aI 16),.d (aS 17),.d (aS 18),.d (aS 19),.d (aS 20),.d (aS 21),.d (aS 22),.d (aS 23)]],[.box [.d (aS 24),.d (aI 25)],.arr 3 1 v6 false true,.arr 51 3 v7 false true,.arr 43 4 v8 false true,.arr 45 3 v9 false true],zSz,false⟩,.r ⟨[0,1,4,5,6,7,8,9,10,11,30,41,64,72,99,108,115],1,[],[(4,⟨[9],[(0,1),(0,0)],[259],[],[]⟩)],false,[],[],[]⟩ R_k35⟩
def E_k36:Jc:=⟨.x ⟨[.d (aS 0)],[],[.s],.t [.g zVj,.g [.d (aB 4),.d (aI 5),.o 0 v6,.o 1 v7,.o 2 v8,.o 3 v9]],[.arr 3 1 v6 false true,.arr 51 3 v7 false true,.arr 43 4 v8 false true,.arr 45 3 v9 false true],zSq,false⟩,.r ⟨[0,2,3,4,5],0,[],[],false,[],[],[]⟩ R_k36⟩
def E_k37:Jc:=⟨.d ⟨[oI,oI,oI],.one (.one .b),true⟩,.r ⟨[0,1,2,6],0,[],[],false,[],[],[]⟩ R_k37⟩
def E_k38:Jc:=⟨.d ⟨[.one .s,.one .d],.one oI,true⟩,.r ⟨[0,1,4,5,7,8,9,16],0,[],[(2,⟨[8],[],[],[],[]⟩)],false,[],[],[]⟩ R_k38⟩
def E_k39:Jc:=⟨.d ⟨[.one .s,.one .d],.one (.one .b),true⟩,.r ⟨[0,1,4],0,[],[],false,[],[],[]⟩ R_k39⟩
def E_k3a:Jc:=⟨.d ⟨[oI,.one .d],.one (.one .b),true⟩,.r ⟨[0,1,3],0,[],[],false,[],[],[]⟩ R_k3a⟩
def E_k3b:Jc:=⟨.d ⟨[.one .s,.one .d],.one oI,true⟩,.r ⟨[0,1,4,5,7,8,9,16],0,[],[(2,⟨[8],[],[],[],[]⟩)],false,[],[],[]⟩ R_k3b⟩
def E_k3c:Jc:=⟨.d ⟨[.one .s,.one .d],.one (.one .b),true⟩,.r ⟨[0,1,4],0,[],[],false,[],[],[]⟩ R_k3c⟩
def E_k3d:Jc:=⟨.d ⟨[.one .s,oI,oI],.one (.one .b),true⟩,.r ⟨[0,1,2,5,6],0,[],[],false,[],[],[]⟩ R_k3d⟩
def E_k3e:Jc:=⟨.d ⟨[.g zSa],.one (.one .b),true⟩,.r ⟨[0,1,2],0,[],[],false,[],[],[]⟩ R_k3e⟩
def E_k3f:Jc:=⟨.d ⟨[.one .s,.one .s],.one (.one .b),true⟩,.r ⟨[0,1,4,5,10,12,13,14,24],0,[],[(4,⟨[13],[],[],[],[]⟩)],false,[],[],[]⟩ R_k3f⟩
def E_k3g:Jc:=⟨.d ⟨[.g zSa,.g zSa],.one (.one .b),true⟩,.r ⟨[0,1,2,3,4],0,[],[],false,[],[],[]⟩ R_k3g⟩
def E_k3h:Jc:=⟨.d ⟨[.g zSo],.one (.one .b),true⟩,.r ⟨[0,1,2,4,5,20,35,50],0,[],[],false,[],[],[]⟩ R_k3h⟩
def E_k3i:Jc:=⟨.d ⟨[.one .s],.one (.one .b),true⟩,.r ⟨[0,2,3,5,6,7,8,9,14,17],0,[],[(3,⟨[8,3],[],[],[],[]⟩)],false,[],[],[]⟩ R_k3i⟩
def E_k3j:Jc:=⟨.d ⟨[.one .s],.one (.one .b),true⟩,.r ⟨[0,2],0,[],[],false,[],[],[]⟩ R_k3j⟩
def E_k3k:Jc:=⟨.d ⟨[.one .s],.one (.one .b),true⟩,.r ⟨[0,2],0,[],[],false,[],[],[]⟩ R_k3k⟩
def E_k3l:Jc:=⟨.d ⟨[.g zSc,.one .s],.one (.g [.s,.s]),false⟩,.r ⟨[0,1,2,4],0,[],[],false,[],[],[]⟩ R_k3l⟩
def E_k3m:Jc:=⟨.d ⟨[oI],.one (.one .b),true⟩,.r ⟨[0,2],0,[],[],false,[],[],[]⟩ R_k3m⟩
def E_k3n:Jc:=⟨.d ⟨[.one .s],.one (.one .b),true⟩,.r ⟨[0,2],0,[],[],false,[],[],[]⟩ R_k3n⟩
def E_k3o:Jc:=⟨.d ⟨[.g [.s,.s]],.one (.one .b),true⟩,.r ⟨[0,1,2,3],0,[],[],false,[],[],[]⟩ R_k3o⟩
def E_k3p:Jc:=⟨.d ⟨[.g zSc],.one (.one .b),true⟩,.r ⟨[0,1,2],0,[],[],false,[],[],[]⟩ R_k3p⟩
def E_k3q:Jc:=⟨.x ⟨[],[],[],.g zVg,zOb,zSa,false⟩,.r ⟨[0],0,[],[],false,[],[],[]⟩ R_k3q⟩
def E_k3r:Jc:=⟨.x ⟨[.d (aI 0)],[],sI,.g zVg,zOb,zSa,false⟩,.r ⟨[0,2,3,6],0,[(999999,⟨.cell 32 0,900000,3,1,false,false⟩),(999999,⟨.cell 32 1,900001,3,1,false,false⟩)],[],false,[],[],[]⟩ R_k3r⟩
def E_k3s:Jc:=⟨.x ⟨[.d (aS 0)],[],[.s],.o 0 v0,zOa,[.s],false⟩,.r ⟨[0,2,4],0,[(999999,⟨.slot 2,900000,3,1,false,false⟩)],[],false,[],[],[]⟩ R_k3s⟩
def E_k3t:Jc:=⟨.x ⟨[.g zVh],[],zSa,.g zVg,zOb,zSa,false⟩,.r ⟨[0,1,2],0,[],[],false,[],[],[]⟩ R_k3t⟩
def E_k3u:Jc:=⟨.x ⟨[.d (aS 0)],[],[.s],.o 0 v0,[.arr 77 3 v0 true true],[.s],false⟩,.r ⟨[0,2,3,5,6,7,8,9],0,[(3,⟨.slot 3,63,77,3,true,false⟩)],[(3,⟨[8],[],[63],[],[]⟩)],true,[],[],[]⟩ R_k3u⟩
def E_k3v:Jc:=⟨.d ⟨[.g zSa],.one (.one .b),true⟩,.r ⟨[0,1,2],0,[],[],false,[],[],[]⟩ R_k3v⟩
def E_k3w:Jc:=⟨.d ⟨[.one .s,.one .d],.one oI,true⟩,.r ⟨[0,1,4,5,7,8,9,16],0,[],[(2,⟨[8],[],[],[],[]⟩)],false,[],[],[]⟩ R_k3w⟩
def E_k3x:Jc:=⟨.d ⟨[.one .s,.one .d],.one (.one .b),true⟩,.r ⟨[0,1,4],0,[],[],false,[],[],[]⟩ R_k3x⟩
def E_k3y:Jc:=⟨.d ⟨[.g zSa],.one (.one .b),true⟩,.r ⟨[0,1,2],0,[],[],false,[],[],[]⟩ R_k3y⟩
def E_k3z:Jc:=⟨.x ⟨[.p 0 0,.g [.d (aS 3),.d (aS 4),.d (aI 5)],.d (aI 6)],[.box [.o 1 v0,.o 2 v1,.d (aI 2)],.arr 3 1 v0 false true,.arr 3 1 v1 false true],[.s,.s,.i .i64,.s,.s,.i .i64,.i .i64],.t [],[.box [.o 1 v1,.o 2 v2,.d (aI 0)],.arr 3 1 v1 false true,.arr 3 1 v2 false true],zSb,false⟩,.r ⟨[0,1,2,4,6,7,8,9,11,12,13,14,32,33,34,35],3,[],[(7,⟨[34],[],[2],[],[]⟩),(2,⟨[13],[],[1],[],[]⟩)],false,[],[],[]⟩ R_k3z⟩
def E_k40:Jc:=⟨.x ⟨[.g zVg],zOb,zSa,.g [.o 2 v0,.o 3 v1,.d (aI 2)],[.dead,.dead,.arr 3 1 v0 false true,.arr 3 1 v1 false true],zSa,false⟩,.r ⟨[0,1,2,5],2,[(999999,⟨.cell 32 0,900000,3,1,false,true⟩),(999999,⟨.cell 32 1,900001,3,1,false,true⟩),(999999,⟨.kill 0,910000,0,0,false,false⟩),(999999,⟨.kill 1,910001,0,0,false,false⟩)],[],false,[],[],[]⟩ R_k40⟩
def E_k41:Jc:=⟨.x ⟨[.g zVh,.d (aS 3)],[],[.s,.s,.i .i64,.s],.g zVg,zOb,zSa,false⟩,.r ⟨[0,1,2,4,5,6,7,19,22,23,24,25],0,[(999999,⟨.cell 64 0,900000,3,1,false,false⟩),(999999,⟨.cell 64 1,900001,3,1,false,false⟩)],[(5,⟨[24],[(80,2)],[336,337],[],[]⟩)],false,[],[],[]⟩ R_k41⟩
def E_k42:Jc:=⟨.x ⟨[.g zVh,.d (aI 3)],[],[.s,.s,.i .i64,.i .i64],.g zVg,zOb,zSa,false⟩,.r ⟨[0,1,2,4,5,13],0,[(999999,⟨.cell 64 0,900000,3,1,false,false⟩),(999999,⟨.cell 64 1,900001,3,1,false,false⟩)],[],false,[],[],[]⟩ R_k42⟩
def E_k43:Jc:=⟨.x ⟨[.g zVh,.g [.d (aS 3),.d (aS 4),.d (aI 5)]],[],[.s,.s,.i .i64,.s,.s,.i .i64],.g zVg,zOb,zSa,false⟩,.r ⟨[0,1,2,3,4,5,13],0,[(999999,⟨.cell 64 0,900000,3,1,false,false⟩),(999999,⟨.cell 64 1,900001,3,1,false,false⟩)],[],false,[],[],[]⟩ R_k43⟩
def E_k44:Jc:=⟨.x ⟨[.p 0 0,.d (aI 2),.d (aS 3),.d (aS 4),.d (aS 5)],[.box [.d (aS 0),.o 1 v1],.arr 125 4 v1 true true],[.s,.s,.i .i64,.s,.s,.s],.t [],[.box [.d (aS 0),.o 1 v1],.arr 125 4 v1 true true],[.s,.s],false⟩,.r ⟨[0,1,2,3,4,10,11,12,13,14,15,22,34,52,53,83,98,110,111,112,113],2,[(20,⟨.cell 208 1,217,77,3,true,false⟩)],[(20,⟨[112],[],[217],[],[]⟩),(0,⟨[1,4,3,2],[(0,0)],[1],[],[]⟩)],true,[50,59,61,62,64,66,67,69,75,77,78,86,96,101,103,104,121,122,123],[],[]⟩ R_k44⟩
def E_k45:Jc:=⟨.x ⟨[.d (aS 0)],[],[.s],.o 0 v0,[.arr 125 4 v0 true true],[.s],false⟩,.r ⟨[0,2,3,4,5,8,12,13],0,[(10,⟨.cell 176 1,185,125,4,true,false⟩),(6,⟨.slot 4,79,77,3,true,false⟩),(999999,⟨.slot 2,900000,125,4,true,false⟩)],[(6,⟨[12],[],[79],[],[]⟩)],true,[],[],[]⟩ R_k45⟩
def E_k46:Jc:=⟨.d ⟨[oI],.one (.one .b),true⟩,.r ⟨[0,2],0,[],[],false,[],[],[]⟩ R_k46⟩
def E_k47:Jc:=⟨.x ⟨[.g zVh],[],zSa,.o 0 v0,zOa,[.s],false⟩,.r ⟨[0,1,2,3,4,5,19,21,22,23],0,[],[(5,⟨[22],[],[128],[],[]⟩)],false,[],[],[]⟩ R_k47⟩
def E_k48:Jc:=⟨.d ⟨[oI],.one (.one .b),true⟩,.r ⟨[0,2],0,[],[],false,[],[],[]⟩ R_k48⟩
def E_k49:Jc:=⟨.d ⟨[.one .s],.one (.one .b),true⟩,.r ⟨[0,2],0,[],[],false,[],[],[]⟩ R_k49⟩
def E_k4a:Jc:=⟨.d ⟨[.one .s,.one .d],.one (.one .b),true⟩,.r ⟨[0,1,3],0,[],[],false,[],[],[]⟩ R_k4a⟩
def E_k4b:Jc:=⟨.d ⟨[.one .s,.one .d],.one oI,true⟩,.r ⟨[0,1,4,5,7,8,9,16],0,[],[(2,⟨[8],[],[],[],[]⟩)],false,[],[],[]⟩ R_k4b⟩
def E_k4c:Jc:=⟨.d ⟨[.one .s,.one .s],.one oI,true⟩,.r ⟨[0,1,3,4],0,[],[],false,[],[],[]⟩ R_k4c⟩
def E_k4d:Jc:=⟨.x ⟨[.d (aS 0)],[],[.s],.o 0 v0,[.arr 24 1 v0 true true],[.s],false⟩,.r ⟨[0,2,3,4,6,8,10,11,14,15,16,25,26,27,28,32,33,34,35,39,40,41,42,55],0,[(5,⟨.slot 3,63,24,1,true,false⟩),(999999,⟨.slot 2,900000,24,1,true,false⟩)],[(10,⟨[27],[],[63],[],[]⟩),(13,⟨[34],[],[63],[],[]⟩),(16,⟨[41],[],[63],[],[]⟩),(5,⟨[15],[],[63],[],[]⟩)],true,[32],[],[]⟩ R_k4d⟩
def E_k4e:Jc:=⟨.x ⟨[.d (aS 0),.d (.da 1)],[],[.s,.d],.o 0 v0,[.arr 4 1 v0 false true],[.s],false⟩,.r ⟨[0,1,4,5,7,9,10,12,13,14,15,19,20,21,22,26,27,28],0,[],[(3,⟨[14],[],[176],[],[]⟩),(6,⟨[21],[],[176],[],[]⟩),(9,⟨[27],[],[176],[],[]⟩)],false,[],[],[]⟩ R_k4e⟩
def E_k4f:Jc:=⟨.x ⟨[.d (.vc (.slice none 0 0)),.d (aI 0)],[],sI,.o 0 v0,[.arr 77 3 v0 false true],[.s],false⟩,.r ⟨[0,1,4,6,16],0,[(999999,⟨.slot 4,900000,77,3,false,false⟩)],[],false,[],[],[]⟩ R_k4f⟩
def E_k4g:Jc:=⟨.x ⟨[.d (aS 0)],[],[.s],.o 0 v0,[.arr 77 3 v0 false true],[.s],false⟩,.r ⟨[0,2,3,5,6,8,9,10,11,12,20,25,26,27,28],0,[],[(11,⟨[27],[],[384],[],[]⟩),(3,⟨[11,3],[],[],[],[]⟩)],false,[],[],[]⟩ R_k4g⟩
def E_k4h:Jc:=⟨.d ⟨[.g zSa,.one .d],.one (.one .b),true⟩,.r ⟨[0,1,2,3],0,[],[],false,[],[],[]⟩ R_k4h⟩
def E_k4i:Jc:=⟨.d ⟨[.g [.s,.s,.s,.b],oI],.one (.one .b),true⟩,.r ⟨[0,1,2,3,4],0,[],[],false,[],[],[]⟩ R_k4i⟩
def E_k4j:Jc:=⟨.x ⟨[.d (aS 0)],[],[.s],.o 0 v0,[.arr 4 1 v0 false true],[.s],false⟩,.r ⟨[0,2,5],0,[(999999,⟨.slot 2,900000,4,1,false,false⟩)],[],false,[],[],[]⟩ R_k4j⟩
def E_k4k:Jc:=⟨.x ⟨[.d (aS 0)],[],[.s],.g [.d (aS 0),.o 0 v1,.o 1 v2],[.arr 24 1 v1 false true,.arr 4 1 v2 false true],[.s,.s,.s],false⟩,.r ⟨[0,2],0,[],[],false,[],[],[]⟩ R_k4k⟩
def E_k4l:Jc:=⟨.d ⟨[.one .s,.one .d],.one oI,true⟩,.r ⟨[0,1,4,5,7,8,9,16],0,[],[(2,⟨[8],[],[],[],[]⟩)],false,[],[],[]⟩ R_k4l⟩
def E_k4m:Jc:=⟨.d ⟨[.one .s,.one .d],.one (.one .b),true⟩,.r ⟨[0,1,4],0,[],[],false,[],[],[]⟩ R_k4m⟩
def E_k4n:Jc:=⟨.d ⟨[.g [.i .i64,.s]],.one (.one .b),true⟩,.r ⟨[0,1,2],0,[],[],false,[],[],[]⟩ R_k4n⟩
def E_k4o:Jc:=⟨.x ⟨[],[],[],.o 0 v0,[.arr 9 1 v0 false true],[.s],false⟩,.r ⟨[0],0,[],[],false,[],[],[]⟩ R_k4o⟩
def E_k4p:Jc:=⟨.d ⟨[.one .s],.one (.one .d),false⟩,.m joinedF⟩
def E_k4q:Jc:=⟨.d ⟨[.g [.i .i64,.s]],.one (.one .d),false⟩,.r ⟨[0,1,2,32],0,[],[],false,[],[],[]⟩ R_k4q⟩
def E_k4r:Jc:=⟨.d ⟨[.g [.i .i64,.s]],.one (.one .b),true⟩,.r ⟨[0,1,2],0,[],[],false,[],[],[]⟩ R_k4r⟩
def E_k4s:Jc:=⟨.d ⟨[.g zSe],.one (.one .b),true⟩,.r ⟨[0,1,2,5],0,[],[],false,[],[],[]⟩ R_k4s⟩
def E_k4t:Jc:=⟨.d ⟨[.g zSe],.one (.one .b),true⟩,.r ⟨[0,1,2],0,[],[],false,[],[],[]⟩ R_k4t⟩
def E_k4u:Jc:=⟨.d ⟨[.g zSc,.one .s],.one (.one .b),true⟩,.r ⟨[0,1,2,4],0,[],[],false,[],[],[]⟩ R_k4u⟩
def E_k4v:Jc:=⟨.d ⟨[.g zSc,oI],.one (.one .b),true⟩,.r ⟨[0,1,2,4],0,[],[],false,[],[],[]⟩ R_k4v⟩
def E_k4w:Jc:=⟨.d ⟨[.one .s],.one (.one .b),true⟩,.r ⟨[0,2],0,[],[],false,[],[],[]⟩ R_k4w⟩
def E_k4x:Jc:=⟨.d ⟨[.g zSc,.g zSk],.one (.one .b),true⟩,.r ⟨[0,1,2,3,4],0,[],[],false,[],[],[]⟩ R_k4x⟩
def E_k4y:Jc:=⟨.d ⟨[.one .s,.one .d],.one (.one .b),true⟩,.r ⟨[0,1,4],0,[],[],false,[],[],[]⟩ R_k4y⟩
def E_k4z:Jc:=⟨.d ⟨[.one .s],.one (.one .b),true⟩,.r ⟨[0,2],0,[],[],false,[],[],[]⟩ R_k4z⟩
def E_k50:Jc:=⟨.d ⟨[.one .s],.one (.one .b),true⟩,.r ⟨[0,2],0,[],[],false,[],[],[]⟩ R_k50⟩
def E_k51:Jc:=⟨.d ⟨[.one .s],.one (.one .b),true⟩,.r ⟨[0,2],0,[],[],false,[],[],[]⟩ R_k51⟩
def E_k52:Jc:=⟨.d ⟨[.g [.s,.s],.one .s,oI,.one .s],.one (.one .b),true⟩,.r ⟨[0,1,2,3,4,8],0,[],[],false,[],[],[]⟩ R_k52⟩
def E_k53:Jc:=⟨.d ⟨[.one .s,.one .s],.one oI,true⟩,.r ⟨[0,1,4,5,6,7,8,9,10,11],0,[],[(3,⟨[10,5],[],[],[],[]⟩)],false,[],[],[]⟩ R_k53⟩
def E_k54:Jc:=⟨.d ⟨[.one .s,.one .d,.one .d],.one (.one .b),true⟩,.r ⟨[0,1,2,4],0,[],[],false,[],[],[]⟩ R_k54⟩
def E_k55:Jc:=⟨.d ⟨[.g [.s,.s],.one .s,oI,.one .s],.one (.one .b),true⟩,.r ⟨[0,1,2,3,4,7,8,9,15],0,[],[],false,[],[],[]⟩ R_k55⟩
def E_k56:Jc:=⟨.d ⟨[.g [.s,.s,.s],.one .s],.one (.one .b),true⟩,.r ⟨[0,1,2,4,5,6,7,8,9,10,22],0,[],[(2,⟨[9],[],[],[],[]⟩)],false,[],[],[]⟩ R_k56⟩
def E_k57:Jc:=⟨.d ⟨[.g [.s,.s,.s],.g [.s,.s],oI,.one .s],.one (.one .b),true⟩,.r ⟨[0,1,2,3,4,5,8],0,[],[],false,[],[],[]⟩ R_k57⟩
def E_k58:Jc:=⟨.d ⟨[oI],.one (.one .b),true⟩,.r ⟨[0,2],0,[],[],false,[],[],[]⟩ R_k58⟩
def E_k59:Jc:=⟨.d ⟨[.g zSc,.one .s],.one (.one .b),true⟩,.r ⟨[0,1,2,4],0,[],[],false,[],[],[]⟩ R_k59⟩
def E_k5a:Jc:=⟨.d ⟨[.g [.b,.s,.s]],.one (.one .b),true⟩,.r ⟨[0,1,2],0,[],[],false,[],[],[]⟩ R_k5a⟩
def E_k5b:Jc:=⟨.d ⟨[.g zSc,.g [.s,.s,.s],.g zSh],.one (.one .b),true⟩,.r ⟨[0,1,2,3,4,5,6,7,8,9,10,11,37,39,40,41,42,70,73,74,75,76,109],0,[],[(10,⟨[75],[],[],[],[]⟩),(4,⟨[41],[],[],[],[]⟩)],false,[],[],[]⟩ R_k5b⟩
def E_k5c:Jc:=⟨.d ⟨[.g zSc,.g zSh],.one (.one .b),true⟩,.r ⟨[0,1,2,3,4],0,[],[],false,[],[],[]⟩ R_k5c⟩
def E_k5d:Jc:=⟨.x ⟨[.g [.d (aI 0),.d (aI 1),.d (aI 2),.d (aS 3)]],[],zSk,.g [.d (aI 0),.d (aI 1),.d (aI 2),.o 0 v3],[.arr 3 1 v3 false true],zSk,false⟩,.r ⟨[0,1,2],0,[],[],false,[],[],[]⟩ R_k5d⟩
def E_k5e:Jc:=⟨.x ⟨[.g [.d (aI 0),.d (aS 1)]],[],[.i .i64,.s],.g zVb,[.arr 3 1 v1 false true],[.i .i64,.s],false⟩,.r ⟨[0,1,2],0,[],[],false,[],[],[]⟩ R_k5e⟩
def E_k5f:Jc:=⟨.x ⟨[.d (aS 0)],[],[.s],.o 0 v0,[.arr 51 3 v0 false true],[.s],false⟩,.r ⟨[0,2,3,5,6,7,8,9],0,[(3,⟨.slot 3,63,51,3,false,false⟩)],[(3,⟨[8],[],[63],[],[]⟩)],false,[],[],[]⟩ R_k5f⟩
def E_k5g:Jc:=⟨.x ⟨[.g zVm],[],zSh,.g [.d (aB 0),.d (aI 1),.d (aS 2),.o 0 v3,.d (aS 4),.d (aS 5)],[.arr 51 3 v3 false true],zSh,false⟩,.r ⟨[0,1,2,3,5,6,8,10,11,12,13,23,24,25,26],0,[(9,⟨.slot 6,111,45,3,false,false⟩),(3,⟨.slot 3,63,43,4,false,false⟩),(999999,⟨.frz 32 2,940000,0,0,false,false⟩),(999999,⟨.frz 32 4,940001,0,0,false,false⟩),(999999,⟨.frz 32 5,940002,0,0,false,false⟩)],[(9,⟨[25],[],[111],[],[]⟩),(3,⟨[12],[],[63],[],[]⟩)],false,[],[],[]⟩ R_k5g⟩
def E_k5h:Jc:=⟨.x ⟨zVf,[],[.s,.s],.o 0 v0,zOa,[.s],false⟩,.r ⟨[0,1,4,5,6,7,10,11,12,13],0,[],[(3,⟨[12],[],[144],[],[]⟩)],false,[],[],[]⟩ R_k5h⟩
def E_k5i:Jc:=⟨.d ⟨[.one .s,.one .d],.one oI,true⟩,.r ⟨[0,1,4,5,7,8,9,16],0,[],[(2,⟨[8],[],[],[],[]⟩)],false,[],[],[]⟩ R_k5i⟩
def E_k5j:Jc:=⟨.d ⟨[.one .s,.one .d],.one (.one .b),true⟩,.r ⟨[0,1,4],0,[],[],false,[],[],[]⟩ R_k5j⟩
def E_k5k:Jc:=⟨.d ⟨[.g [.b,.s,.s]],.one (.one .b),true⟩,.r ⟨[0,1,2],0,[],[],false,[],[],[]⟩ R_k5k⟩
def E_k5l:Jc:=⟨.x ⟨[.p 0 0],zOg,zSh,.d (aB 0),[.box [.d (aB 1),.d (aI 2),.d (aS 3),.o 1 v6,.d (aS 4),.d (aS 5)],.arr 51 3 v6 false true],zSj,false⟩,.r ⟨[0,2],2,[],[],false,[],[],[]⟩ R_k5l⟩
def E_k5m:Jc:=⟨.d ⟨[.g zSa,.one .s,.one .s],.one oI,true⟩,.r ⟨[0,1,2,3,6],0,[],[],false,[],[],[]⟩ R_k5m⟩
def E_k5n:Jc:=⟨.x ⟨[.d (aS 0),.d (aS 1),.d (aS 2)],[],[.s,.s,.s],.t [.g zVb,.o 1 v2],zOc,zSb,false⟩,.r ⟨[0,1,2,6,7,8,9,10,11,12,25,32,41,51,52,55,60,70,78],0,[(6,⟨.slot 9,159,3,1,false,false⟩),(999999,⟨.cell 96 1,900000,3,1,false,false⟩),(999999,⟨.slot 7,900001,3,1,false,false⟩)],[(6,⟨[10],[],[159,448],[],[]⟩)],false,[],[],[]⟩ R_k5n⟩
def E_k5o:Jc:=⟨.x ⟨[.p 0 0],zOg,zSh,.t [],[.box [.d (aB 0),.d (aI 1),.d (aS 2),.o 1 v5,.d (aS 3),.d (aS 4)],.arr 51 3 v5 false true],zSh,false⟩,.r ⟨[0],2,[(999999,⟨.frz 0 5,950005,0,0,false,false⟩)],[],false,[],[],[]⟩ R_k5o⟩
def E_k5p:Jc:=⟨.x ⟨[.p 0 0,.g [.d (aI 6),.d (aS 7),.d (aS 8),.d (aS 9)]],zOg,[.b,.i .i64,.s,.s,.s,.s,.i .i64,.s,.s,.s],.t [.o 2 v0,.o 3 v1],[.box [.d (aB 2),.d (aI 3),.d (aS 4),.o 1 v7,.d (aS 5),.d (aS 6)],.arr 51 3 v7 false true,.arr 43 4 v0 false true,.arr 49 2 v1 false true],[.s,.s,.b,.i .i64,.s,.s,.s,.s],false⟩,.r ⟨[0,1,3,4,5,6,8,9,10,12,13,14,23,24,25,26,48,52,53,54,55,78],2,[(22,⟨.frz 0 2,960002,0,0,false,false⟩),(12,⟨.slot 10,175,49,2,false,false⟩),(12,⟨.slot 9,159,43,4,false,false⟩),(999999,⟨.slot 4,900000,43,4,false,false⟩),(999999,⟨.slot 5,900001,49,2,false,false⟩)],[(12,⟨[54],[],[304,1,175,159],[],[]⟩),(3,⟨[25],[],[304],[],[]⟩)],false,[],[],[]⟩ R_k5p⟩
def E_k5q:Jc:=⟨.x ⟨[.g zVj,.g zVo],[],zSq,.t [.g [.d (aB 0),.d (aI 1),.d (aS 2),.o 0 v3,.d (aS 4),.d (aS 5)],.o 1 v6,.o 2 v7],[.arr 51 3 v3 false true,.arr 43 4 v6 false true,.arr 49 2 v7 false true],zSm,false⟩,.r ⟨[0,1,2,3,4,5,6,7,8,9,13],0,[(999999,⟨.cell 64 3,900000,51,3,false,false⟩),(999999,⟨.slot 5,900001,43,4,false,false⟩),(999999,⟨.slot 6,900002,49,2,false,false⟩)],[],false,[],[],[]⟩ R_k5q⟩
def E_k5r:Jc:=⟨.d ⟨[.g zSc,.g zSh],.one (.one .b),true⟩,.r ⟨[0,1,2,3,4,5,6,9],0,[],[],false,[],[],[]⟩ R_k5r⟩
def E_k5s:Jc:=⟨.x ⟨[.g zVj,.g zVo],[],zSq,.t zVp,zOn,zSm,false⟩,.r ⟨[0,1,2,3,4,5,6,10],0,[(999999,⟨.cell 64 3,900000,51,3,false,false⟩),(999999,⟨.cell 64 4,900001,43,4,false,false⟩),(999999,⟨.cell 64 5,900002,45,3,false,false⟩)],[],false,[],[],[]⟩ R_k5s⟩
def E_k5t:Jc:=⟨.d ⟨[.one .s,.one .s],.one (.one .b),true⟩,.r ⟨[0,1,4,5,10,14,25],0,[],[(4,⟨[5],[],[],[],[]⟩)],false,[],[],[]⟩ R_k5t⟩
def E_k5u:Jc:=⟨.d ⟨[.g [.i .i64,.s],.g [.i .i64,.s]],.one (.one .b),true⟩,.r ⟨[0,1,2,3,4],0,[],[],false,[],[],[]⟩ R_k5u⟩
def E_k5v:Jc:=⟨.d ⟨[.one .s,.one .s],.one (.one .b),true⟩,.r ⟨[0,1,4,5,10,14,41],0,[],[(4,⟨[5],[],[],[],[]⟩)],false,[],[],[]⟩ R_k5v⟩
def E_k5w:Jc:=⟨.d ⟨[.g zSk,.g zSk],.one (.one .b),true⟩,.r ⟨[0,1,2,3,4],0,[],[],false,[],[],[]⟩ R_k5w⟩
def E_k5x:Jc:=⟨.d ⟨[.one .s,.one .s],.one (.one .b),true⟩,.r ⟨[0,1,4,5,10,14,26],0,[],[(4,⟨[5],[],[],[],[]⟩)],false,[],[],[]⟩ R_k5x⟩
def E_k5y:Jc:=⟨.d ⟨[.g zSh,.g zSh],.one (.one .b),true⟩,.r ⟨[0,1,2,3,4,5,50,55,102],0,[],[(4,⟨[5],[],[],[],[]⟩)],false,[],[],[]⟩ R_k5y⟩
def E_k5z:Jc:=⟨.d ⟨[.one .s,.one .s],.one (.one .b),true⟩,.r ⟨[0,1,4,5,10,14,26],0,[],[(4,⟨[5],[],[],[],[]⟩)],false,[],[],[]⟩ R_k5z⟩
def E_k60:Jc:=⟨.d ⟨[],.one (.one .b),true⟩,.r ⟨[0],0,[],[],false,[],[],[]⟩ R_k60⟩
def E_k61:Jc:=⟨.d ⟨[.g zSc,oI],.one oI,true⟩,.r ⟨[0,1,2,4,13],0,[],[],false,[],[],[]⟩ R_k61⟩
def E_k62:Jc:=⟨.d ⟨[.one .s],.one (.one .b),true⟩,.r ⟨[0,2,3,4,5,6,7,8,9,10,11,12,13,16,51,62,76,100,140,157],0,[],[(12,⟨[12,11],[],[],[],[]⟩)],false,[],[],[]⟩ R_k62⟩
def L:WO:=[(f_k0,E_k0),(f_k1,E_k1),(f_k2,E_k2),(f_k3,E_k3),(f_k4,E_k4),(f_k5,E_k5),(f_k6,E_k6),(f_k7,E_k7),(f_k8,E_k8),(f_k9,E_k9),(f_ka,E_ka),(f_kb,E_kb),(f_kc,E_kc),(f_kd,E_kd),(f_ke,E_ke),(f_kf,E_kf),(f_kg,E_kg),(f_kh,E_kh),(f_ki,E_ki),(f_kj,E_kj),(f_kk,E_kk),(f_kl,E_kl),(f_km,E_km),(f_kn,E_kn),(f_ko,E_ko),(f_kp,E_kp),(f_kq,E_kq),(f_kr,E_kr),(f_ks,E_ks),(f_kt,E_kt),(f_ku,E_ku),(f_kv,E_kv),(f_kw,E_kw),(f_kx,E_kx),(f_ky,E_ky),(f_kz,E_kz),(f_k10,E_k10),(f_k11,E_k11),(f_k12,E_k12),(f_k13,E_k13),(f_k14,E_k14),(f_k15,E_k15),(f_k16,E_k16),(f_k17,E_k17),(f_k18,E_k18),(f_k19,E_k19),(f_k1a,E_k1a),(f_k1b,E_k1b),(f_k1c,E_k1c),(f_k1d,E_k1d),(f_k1e,E_k1e),(f_k1f,E_k1f),(f_k1g,E_k1g),(f_k1h,E_k1h),(f_k1i,E_k1i),(f_k1j,E_k1j),(f_k1k,E_k1k),(f_k1l,E_k1l),(f_k1m,E_k1m),(f_k1n,E_k1n),(f_k1o,E_k1o),(f_k1p,E_k1p),(f_k1q,E_k1q),(f_k1r,E_k1r),(f_k1s,E_k1s),(f_k1t,E_k1t),(f_k1u,E_k1u),(f_k1v,E_k1v),(f_k1w,E_k1w),(f_k1x,E_k1x),(f_k1y,E_k1y),(f_k1z,E_k1z),(f_k20,E_k20),(f_k21,E_k21),(f_k22,E_k22),(f_k23,E_k23),(f_k24,E_k24),(f_k25,E_k25),(f_k26,E_k26),(f_k27,E_k27),(f_k28,E_k28),(f_k29,E_k29),(f_k2a,E_k2a),(f_k2b,E_k2b),(f_k2c,E_k2c),(f_k2d,E_k2d),(f_k2e,E_k2e),(f_k2f,E_k2f),(f_k2g,E_k2g),(f_k2h,E_k2h),(f_k2i,E_k2i),(f_k2j,E_k2j),(f_k2k,E_k2k),(f_k2l,E_k2l),(f_k2m,E_k2m),(f_k2n,E_k2n),(f_k2o,E_k2o),(f_k2p,E_k2p),(f_k2q,E_k2q),(f_k2r,E_k2r),(f_k2s,E_k2s),(f_k2t,E_k2t),(f_k2u,E_k2u),(f_k2v,E_k2v),(f_k2w,E_k2w),(f_k2x,E_k2x),(f_k2y,E_k2y),(f_k2z,E_k2z),(f_k30,E_k30),(f_k31,E_k31),(f_k32,E_k32),(f_k33,E_k33),(f_k34,E_k34),(f_k35,E_k35),(f_k36,E_k36),(f_k37,E_k37),(f_k38,E_k38),(f_k39,E_k39),(f_k3a,E_k3a),(f_k3b,E_k3b),(f_k3c,E_k3c),(f_k3d,E_k3d),(f_k3e,E_k3e),(f_k3f,E_k3f),(f_k3g,E_k3g),(f_k3h,E_k3h),(f_k3i,E_k3i),(f_k3j,E_k3j),(f_k3k,E_k3k),(f_k3l,E_k3l),(f_k3m,E_k3m),(f_k3n,E_k3n),(f_k3o,E_k3o),(f_k3p,E_k3p),(f_k3q,E_k3q),(f_k3r,E_k3r),(f_k3s,E_k3s),(f_k3t,E_k3t),(f_k3u,E_k3u),(f_k3v,E_k3v),(f_k3w,E_k3w),(f_k3x,E_k3x),(f_k3y,E_k3y),(f_k3z,E_k3z),(f_k40,E_k40),(f_k41,E_k41),(f_k42,E_k42),(f_k43,E_k43),(f_k44,E_k44),(f_k45,E_k45),(f_k46,E_k46),(f_k47,E_k47),(f_k48,E_k48),(f_k49,E_k49),(f_k4a,E_k4a),(f_k4b,E_k4b),(f_k4c,E_k4c),(f_k4d,E_k4d),(f_k4e,E_k4e),(f_k4f,E_k4f),(f_k4g,E_k4g),(f_k4h,E_k4h),(f_k4i,E_k4i),(f_k4j,E_k4j),(f_k4k,E_k4k),(f_k4l,E_k4l),(f_k4m,E_k4m),(f_k4n,E_k4n),(f_k4o,E_k4o),(f_k4p,E_k4p),(f_k4q,E_k4q),(f_k4r,E_k4r),(f_k4s,E_k4s),(f_k4t,E_k4t),(f_k4u,E_k4u),(f_k4v,E_k4v),(f_k4w,E_k4w),(f_k4x,E_k4x),(f_k4y,E_k4y),(f_k4z,E_k4z),(f_k50,E_k50),(f_k51,E_k51),(f_k52,E_k52),(f_k53,E_k53),(f_k54,E_k54),(f_k55,E_k55),(f_k56,E_k56),(f_k57,E_k57),(f_k58,E_k58),(f_k59,E_k59),(f_k5a,E_k5a),(f_k5b,E_k5b),(f_k5c,E_k5c),(f_k5d,E_k5d),(f_k5e,E_k5e),(f_k5f,E_k5f),(f_k5g,E_k5g),(f_k5h,E_k5h),(f_k5i,E_k5i),(f_k5j,E_k5j),(f_k5k,E_k5k),(f_k5l,E_k5l),(f_k5m,E_k5m),(f_k5n,E_k5n),(f_k5o,E_k5o),(f_k5p,E_k5p),(f_k5q,E_k5q),(f_k5r,E_k5r),(f_k5s,E_k5s),(f_k5t,E_k5t),(f_k5u,E_k5u),(f_k5v,E_k5v),(f_k5w,E_k5w),(f_k5x,E_k5x),(f_k5y,E_k5y),(f_k5z,E_k5z),(f_k60,E_k60),(f_k61,E_k61),(f_k62,E_k62)]
set_option maxRecDepth 100000
abbrev Lk (f:Nat) (e:Jc):Prop:=L.lookup f=some e
theorem L_k0:Lk f_k0 E_k0:=rfl
theorem L_k1:Lk f_k1 E_k1:=rfl
theorem L_k2:Lk f_k2 E_k2:=rfl
theorem L_k3:Lk f_k3 E_k3:=rfl
theorem L_k4:Lk f_k4 E_k4:=rfl
theorem L_k5:Lk f_k5 E_k5:=rfl
theorem L_k6:Lk f_k6 E_k6:=rfl
theorem L_k7:Lk f_k7 E_k7:=rfl
theorem L_k8:Lk f_k8 E_k8:=rfl
theorem L_k9:Lk f_k9 E_k9:=rfl
theorem L_ka:Lk f_ka E_ka:=rfl
theorem L_kb:Lk f_kb E_kb:=rfl
theorem L_kc:Lk f_kc E_kc:=rfl
theorem L_kd:Lk f_kd E_kd:=rfl
theorem L_ke:Lk f_ke E_ke:=rfl
theorem L_kf:Lk f_kf E_kf:=rfl
theorem L_kg:Lk f_kg E_kg:=rfl
theorem L_kh:Lk f_kh E_kh:=rfl
theorem L_ki:Lk f_ki E_ki:=rfl
theorem L_kj:Lk f_kj E_kj:=rfl
theorem L_kk:Lk f_kk E_kk:=rfl
theorem L_kl:Lk f_kl E_kl:=rfl
theorem L_km:Lk f_km E_km:=rfl
theorem L_kn:Lk f_kn E_kn:=rfl
theorem L_ko:Lk f_ko E_ko:=rfl
theorem L_kp:Lk f_kp E_kp:=rfl
theorem L_kq:Lk f_kq E_kq:=rfl
theorem L_kr:Lk f_kr E_kr:=rfl
theorem L_ks:Lk f_ks E_ks:=rfl
theorem L_kt:Lk f_kt E_kt:=rfl
theorem L_ku:Lk f_ku E_ku:=rfl
theorem L_kv:Lk f_kv E_kv:=rfl
theorem L_kw:Lk f_kw E_kw:=rfl
theorem L_kx:Lk f_kx E_kx:=rfl
theorem L_ky:Lk f_ky E_ky:=rfl
theorem L_kz:Lk f_kz E_kz:=rfl
theorem L_k10:Lk f_k10 E_k10:=rfl
theorem L_k11:Lk f_k11 E_k11:=rfl
theorem L_k12:Lk f_k12 E_k12:=rfl
theorem L_k13:Lk f_k13 E_k13:=rfl
theorem L_k14:Lk f_k14 E_k14:=rfl
theorem L_k15:Lk f_k15 E_k15:=rfl
theorem L_k16:Lk f_k16 E_k16:=rfl
theorem L_k17:Lk f_k17 E_k17:=rfl
theorem L_k18:Lk f_k18 E_k18:=rfl
theorem L_k19:Lk f_k19 E_k19:=rfl
theorem L_k1a:Lk f_k1a E_k1a:=rfl
theorem L_k1b:Lk f_k1b E_k1b:=rfl
theorem L_k1c:Lk f_k1c E_k1c:=rfl
theorem L_k1d:Lk f_k1d E_k1d:=rfl
theorem L_k1e:Lk f_k1e E_k1e:=rfl
theorem L_k1f:Lk f_k1f E_k1f:=rfl
theorem L_k1g:Lk f_k1g E_k1g:=rfl
theorem L_k1h:Lk f_k1h E_k1h:=rfl
theorem L_k1i:Lk f_k1i E_k1i:=rfl
theorem L_k1j:Lk f_k1j E_k1j:=rfl
theorem L_k1k:Lk f_k1k E_k1k:=rfl
theorem L_k1l:Lk f_k1l E_k1l:=rfl
theorem L_k1m:Lk f_k1m E_k1m:=rfl
theorem L_k1n:Lk f_k1n E_k1n:=rfl
theorem L_k1o:Lk f_k1o E_k1o:=rfl
theorem L_k1p:Lk f_k1p E_k1p:=rfl
theorem L_k1q:Lk f_k1q E_k1q:=rfl
theorem L_k1r:Lk f_k1r E_k1r:=rfl
theorem L_k1s:Lk f_k1s E_k1s:=rfl
theorem L_k1t:Lk f_k1t E_k1t:=rfl
theorem L_k1u:Lk f_k1u E_k1u:=rfl
theorem L_k1v:Lk f_k1v E_k1v:=rfl
theorem L_k1w:Lk f_k1w E_k1w:=rfl
theorem L_k1x:Lk f_k1x E_k1x:=rfl
theorem L_k1y:Lk f_k1y E_k1y:=rfl
theorem L_k1z:Lk f_k1z E_k1z:=rfl
theorem L_k20:Lk f_k20 E_k20:=rfl
theorem L_k21:Lk f_k21 E_k21:=rfl
theorem L_k22:Lk f_k22 E_k22:=rfl
theorem L_k23:Lk f_k23 E_k23:=rfl
theorem L_k24:Lk f_k24 E_k24:=rfl
theorem L_k25:Lk f_k25 E_k25:=rfl
theorem L_k26:Lk f_k26 E_k26:=rfl
theorem L_k27:Lk f_k27 E_k27:=rfl
theorem L_k28:Lk f_k28 E_k28:=rfl
theorem L_k29:Lk f_k29 E_k29:=rfl
theorem L_k2a:Lk f_k2a E_k2a:=rfl
theorem L_k2b:Lk f_k2b E_k2b:=rfl
theorem L_k2c:Lk f_k2c E_k2c:=rfl
theorem L_k2d:Lk f_k2d E_k2d:=rfl
theorem L_k2e:Lk f_k2e E_k2e:=rfl
theorem L_k2f:Lk f_k2f E_k2f:=rfl
theorem L_k2g:Lk f_k2g E_k2g:=rfl
theorem L_k2h:Lk f_k2h E_k2h:=rfl
theorem L_k2i:Lk f_k2i E_k2i:=rfl
theorem L_k2j:Lk f_k2j E_k2j:=rfl
theorem L_k2k:Lk f_k2k E_k2k:=rfl
theorem L_k2l:Lk f_k2l E_k2l:=rfl
theorem L_k2m:Lk f_k2m E_k2m:=rfl
theorem L_k2n:Lk f_k2n E_k2n:=rfl
theorem L_k2o:Lk f_k2o E_k2o:=rfl
theorem L_k2p:Lk f_k2p E_k2p:=rfl
theorem L_k2q:Lk f_k2q E_k2q:=rfl
theorem L_k2r:Lk f_k2r E_k2r:=rfl
theorem L_k2s:Lk f_k2s E_k2s:=rfl
theorem L_k2t:Lk f_k2t E_k2t:=rfl
theorem L_k2u:Lk f_k2u E_k2u:=rfl
theorem L_k2v:Lk f_k2v E_k2v:=rfl
theorem L_k2w:Lk f_k2w E_k2w:=rfl
theorem L_k2x:Lk f_k2x E_k2x:=rfl
theorem L_k2y:Lk f_k2y E_k2y:=rfl
theorem L_k2z:Lk f_k2z E_k2z:=rfl
theorem L_k30:Lk f_k30 E_k30:=rfl
theorem L_k31:Lk f_k31 E_k31:=rfl
theorem L_k32:Lk f_k32 E_k32:=rfl
theorem L_k33:Lk f_k33 E_k33:=rfl
theorem L_k34:Lk f_k34 E_k34:=rfl
theorem L_k35:Lk f_k35 E_k35:=rfl
theorem L_k36:Lk f_k36 E_k36:=rfl
theorem L_k37:Lk f_k37 E_k37:=rfl
theorem L_k38:Lk f_k38 E_k38:=rfl
theorem L_k39:Lk f_k39 E_k39:=rfl
theorem L_k3a:Lk f_k3a E_k3a:=rfl
theorem L_k3b:Lk f_k3b E_k3b:=rfl
theorem L_k3c:Lk f_k3c E_k3c:=rfl
theorem L_k3d:Lk f_k3d E_k3d:=rfl
theorem L_k3e:Lk f_k3e E_k3e:=rfl
theorem L_k3f:Lk f_k3f E_k3f:=rfl
theorem L_k3g:Lk f_k3g E_k3g:=rfl
theorem L_k3h:Lk f_k3h E_k3h:=rfl
theorem L_k3i:Lk f_k3i E_k3i:=rfl
theorem L_k3j:Lk f_k3j E_k3j:=rfl
theorem L_k3k:Lk f_k3k E_k3k:=rfl
theorem L_k3l:Lk f_k3l E_k3l:=rfl
theorem L_k3m:Lk f_k3m E_k3m:=rfl
theorem L_k3n:Lk f_k3n E_k3n:=rfl
theorem L_k3o:Lk f_k3o E_k3o:=rfl
theorem L_k3p:Lk f_k3p E_k3p:=rfl
theorem L_k3q:Lk f_k3q E_k3q:=rfl
theorem L_k3r:Lk f_k3r E_k3r:=rfl
theorem L_k3s:Lk f_k3s E_k3s:=rfl
theorem L_k3t:Lk f_k3t E_k3t:=rfl
theorem L_k3u:Lk f_k3u E_k3u:=rfl
theorem L_k3v:Lk f_k3v E_k3v:=rfl
theorem L_k3w:Lk f_k3w E_k3w:=rfl
theorem L_k3x:Lk f_k3x E_k3x:=rfl
theorem L_k3y:Lk f_k3y E_k3y:=rfl
theorem L_k3z:Lk f_k3z E_k3z:=rfl
theorem L_k40:Lk f_k40 E_k40:=rfl
theorem L_k41:Lk f_k41 E_k41:=rfl
theorem L_k42:Lk f_k42 E_k42:=rfl
theorem L_k43:Lk f_k43 E_k43:=rfl
theorem L_k44:Lk f_k44 E_k44:=rfl
theorem L_k45:Lk f_k45 E_k45:=rfl
theorem L_k46:Lk f_k46 E_k46:=rfl
theorem L_k47:Lk f_k47 E_k47:=rfl
theorem L_k48:Lk f_k48 E_k48:=rfl
theorem L_k49:Lk f_k49 E_k49:=rfl
theorem L_k4a:Lk f_k4a E_k4a:=rfl
theorem L_k4b:Lk f_k4b E_k4b:=rfl
theorem L_k4c:Lk f_k4c E_k4c:=rfl
theorem L_k4d:Lk f_k4d E_k4d:=rfl
theorem L_k4e:Lk f_k4e E_k4e:=rfl
theorem L_k4f:Lk f_k4f E_k4f:=rfl
theorem L_k4g:Lk f_k4g E_k4g:=rfl
theorem L_k4h:Lk f_k4h E_k4h:=rfl
theorem L_k4i:Lk f_k4i E_k4i:=rfl
theorem L_k4j:Lk f_k4j E_k4j:=rfl
theorem L_k4k:Lk f_k4k E_k4k:=rfl
theorem L_k4l:Lk f_k4l E_k4l:=rfl
theorem L_k4m:Lk f_k4m E_k4m:=rfl
theorem L_k4n:Lk f_k4n E_k4n:=rfl
theorem L_k4o:Lk f_k4o E_k4o:=rfl
theorem L_k4p:Lk f_k4p E_k4p:=rfl
theorem L_k4q:Lk f_k4q E_k4q:=rfl
theorem L_k4r:Lk f_k4r E_k4r:=rfl
theorem L_k4s:Lk f_k4s E_k4s:=rfl
theorem L_k4t:Lk f_k4t E_k4t:=rfl
theorem L_k4u:Lk f_k4u E_k4u:=rfl
theorem L_k4v:Lk f_k4v E_k4v:=rfl
theorem L_k4w:Lk f_k4w E_k4w:=rfl
theorem L_k4x:Lk f_k4x E_k4x:=rfl
theorem L_k4y:Lk f_k4y E_k4y:=rfl
theorem L_k4z:Lk f_k4z E_k4z:=rfl
theorem L_k50:Lk f_k50 E_k50:=rfl
theorem L_k51:Lk f_k51 E_k51:=rfl
theorem L_k52:Lk f_k52 E_k52:=rfl
theorem L_k53:Lk f_k53 E_k53:=rfl
theorem L_k54:Lk f_k54 E_k54:=rfl
theorem L_k55:Lk f_k55 E_k55:=rfl
theorem L_k56:Lk f_k56 E_k56:=rfl
theorem L_k57:Lk f_k57 E_k57:=rfl
theorem L_k58:Lk f_k58 E_k58:=rfl
theorem L_k59:Lk f_k59 E_k59:=rfl
theorem L_k5a:Lk f_k5a E_k5a:=rfl
theorem L_k5b:Lk f_k5b E_k5b:=rfl
theorem L_k5c:Lk f_k5c E_k5c:=rfl
theorem L_k5d:Lk f_k5d E_k5d:=rfl
theorem L_k5e:Lk f_k5e E_k5e:=rfl
theorem L_k5f:Lk f_k5f E_k5f:=rfl
theorem L_k5g:Lk f_k5g E_k5g:=rfl
theorem L_k5h:Lk f_k5h E_k5h:=rfl
theorem L_k5i:Lk f_k5i E_k5i:=rfl
theorem L_k5j:Lk f_k5j E_k5j:=rfl
theorem L_k5k:Lk f_k5k E_k5k:=rfl
theorem L_k5l:Lk f_k5l E_k5l:=rfl
theorem L_k5m:Lk f_k5m E_k5m:=rfl
theorem L_k5n:Lk f_k5n E_k5n:=rfl
theorem L_k5o:Lk f_k5o E_k5o:=rfl
theorem L_k5p:Lk f_k5p E_k5p:=rfl
theorem L_k5q:Lk f_k5q E_k5q:=rfl
theorem L_k5r:Lk f_k5r E_k5r:=rfl
theorem L_k5s:Lk f_k5s E_k5s:=rfl
theorem L_k5t:Lk f_k5t E_k5t:=rfl
theorem L_k5u:Lk f_k5u E_k5u:=rfl
theorem L_k5v:Lk f_k5v E_k5v:=rfl
theorem L_k5w:Lk f_k5w E_k5w:=rfl
theorem L_k5x:Lk f_k5x E_k5x:=rfl
theorem L_k5y:Lk f_k5y E_k5y:=rfl
theorem L_k5z:Lk f_k5z E_k5z:=rfl
theorem L_k60:Lk f_k60 E_k60:=rfl
theorem L_k61:Lk f_k61 E_k61:=rfl
theorem L_k62:Lk f_k62 E_k62:=rfl
end Go.Proofs.YtngcnclchcahlabGreatDoor

/- The residual programs of the functions, and the table of them. -/
import Derived.Test.YtbikgdcgoogngaaTc
namespace Go.Proofs.Ytbikgdcgoogngaa
open Go Go.Tm
abbrev f_spec_l20Open : Nat := 56
abbrev f_spec_l20Rd_pick : Nat := 59
abbrev f_spec_l20Vals : Nat := 82
abbrev f_spec_l20Treaty : Nat := 57
abbrev f_spec_l20Added : Nat := 58
abbrev f_spec_FrmZero : Nat := 103
abbrev f_spec_l20Num : Nat := 145
abbrev f_spec_l20With : Nat := 144
abbrev f_spec_l20Small : Nat := 126
abbrev f_spec_l20Line : Nat := 146
abbrev f_spec_l1In : Nat := 96
abbrev f_spec_l1All : Nat := 97
abbrev f_spec_l2Small : Nat := 137
abbrev f_spec_l2Line : Nat := 76
abbrev f_spec_ActOk : Nat := 22
abbrev f_spec_l20Act : Nat := 121
abbrev f_spec_l20Acts : Nat := 60
abbrev f_spec_CatOk : Nat := 40
abbrev f_spec_FrmPot : Nat := 75
abbrev f_spec_l1Sum : Nat := 135
abbrev f_spec_l3Copy : Nat := 132
abbrev f_spec_FrmOk : Nat := 98
abbrev f_spec_FrmInto : Nat := 133
abbrev f_spec_l3Minus : Nat := 134
abbrev f_spec_l3Row : Nat := 136
abbrev f_spec_l3Walk : Nat := 74
abbrev f_spec_RowsOf : Nat := 21
abbrev f_spec_l4Reads : Nat := 116
abbrev f_spec_CatPart : Nat := 101
abbrev f_spec_l4Same : Nat := 102
abbrev f_spec_CatHas : Nat := 104
abbrev f_spec_l4Both : Nat := 107
abbrev f_spec_CatForms : Nat := 38
abbrev f_spec_DrawTrtAll : Nat := 13
abbrev f_impl_in : Nat := 62
abbrev f_impl_TrtOk_1 : Nat := 61
abbrev f_impl_within_1 : Nat := 147
abbrev f_slices_IndexFunc_Sint_int : Nat := 113
abbrev f_slices_ContainsFunc_Sint_int : Nat := 64
abbrev f_impl_within : Nat := 122
abbrev f_impl_ValOk : Nat := 63
abbrev f_impl_TrtOk : Nat := 14
abbrev f_slices_IndexFunc_SSint_Sint : Nat := 110
abbrev f_slices_ContainsFunc_SSint_Sint : Nat := 66
abbrev f_impl_partsOk_1 : Nat := 148
abbrev f_impl_partsOk : Nat := 123
abbrev f_impl_addedOk : Nat := 124
abbrev f_impl_TrtTreaty_ok : Nat := 65
abbrev f_impl_dot : Nat := 68
abbrev f_impl_TrtKeeps_1 : Nat := 67
abbrev f_impl_TrtKeeps : Nat := 15
abbrev f_impl_TrtAll : Nat := 16
abbrev f_spec_ValOk : Nat := 51
abbrev f_spec_TrtOk : Nat := 69
abbrev f_spec_l5Parts : Nat := 95
abbrev f_spec_l5Times : Nat := 125
abbrev f_spec_TrtKeeps : Nat := 70
abbrev f_spec_TrtAll : Nat := 17
abbrev f_laws_FnTrtAll : Nat := 3
abbrev f_spec_l20Form : Nat := 91
abbrev f_spec_l20AnyAct : Nat := 71
abbrev f_spec_DrawRowsOf : Nat := 18
abbrev f_impl_FrmForm_small : Nat := 143
abbrev f_slices_Equal_Sint_int : Nat := 112
abbrev f_impl_FrmForm_same : Nat := 86
abbrev f_impl_ActLine_ok : Nat := 119
abbrev f_impl_ActOk : Nat := 53
abbrev f_impl_FrmZero : Nat := 78
abbrev f_impl_FrmPot : Nat := 42
abbrev f_slices_Clone_Sint_int : Nat := 89
abbrev f_impl_FrmForm_copied : Nat := 149
abbrev f_impl_forms : Nat := 127
abbrev f_impl_FrmOk : Nat := 77
abbrev f_slices_IndexFunc_Simpl_FrmForm_impl_FrmForm : Nat := 138
abbrev f_slices_ContainsFunc_Simpl_FrmForm_impl_FrmForm : Nat := 80
abbrev f_impl_FrmInto_1 : Nat := 150
abbrev f_impl_FrmForm_add : Nat := 151
abbrev f_impl_checked : Nat := 152
abbrev f_impl_FrmInto : Nat := 128
abbrev f_impl_FrmTimes : Nat := 129
abbrev f_impl_FrmAdd : Nat := 130
abbrev f_impl_walker_walk : Nat := 72
abbrev f_impl_RowsOf : Nat := 19
abbrev f_laws_coInts : Nat := 44
abbrev f_laws_coForm : Nat := 153
abbrev f_laws_coForms : Nat := 131
abbrev f_laws_coRow : Nat := 73
abbrev f_laws_coRows : Nat := 20
abbrev f_laws_coHolds : Nat := 23
abbrev f_impl_RowOk_1 : Nat := 79
abbrev f_slices_Grow_Simpl_FrmForm_impl_FrmForm : Nat := 139
abbrev f_slices_Concat_Simpl_FrmForm_impl_FrmForm : Nat := 81
abbrev f_impl_RowOk : Nat := 24
abbrev f_laws_FnRowsOk : Nat := 4
abbrev f_spec_l20Args : Nat := 83
abbrev f_spec_DrawActRun : Nat := 25
abbrev f_impl_pots : Nat := 84
abbrev f_impl_CatWrites_1 : Nat := 85
abbrev f_impl_CatWrites : Nat := 26
abbrev f_spec_l4Zero : Nat := 87
abbrev f_spec_CatWrites : Nat := 28
abbrev f_laws_coBools : Nat := 27
abbrev f_impl_ArgOk : Nat := 88
abbrev f_impl_FrmForm_at : Nat := 90
abbrev f_impl_ActRun : Nat := 29
abbrev f_laws_FnCatWrites : Nat := 5
abbrev f_spec_DrawTrtBounds : Nat := 30
abbrev f_impl_plus : Nat := 92
abbrev f_impl_TrtOthers : Nat := 93
abbrev f_impl_zeros_1 : Nat := 140
abbrev f_impl_zeros : Nat := 94
abbrev f_impl_CatPart_1 : Nat := 114
abbrev f_impl_CatPart : Nat := 43
abbrev f_impl_CatHas_1 : Nat := 111
abbrev f_impl_CatHas : Nat := 41
abbrev f_impl_TrtBounds : Nat := 31
abbrev f_spec_ArgOk : Nat := 52
abbrev f_spec_l5Sum : Nat := 100
abbrev f_spec_l1At : Nat := 99
abbrev f_spec_TrtOthers : Nat := 105
abbrev f_spec_TrtBounds : Nat := 32
abbrev f_laws_coSum : Nat := 34
abbrev f_impl_FrmAt : Nat := 33
abbrev f_laws_FnTrtAlone : Nat := 6
abbrev f_spec_l20AnyActs : Nat := 106
abbrev f_spec_DrawCatForms : Nat := 35
abbrev f_slices_IndexFunc_SSimpl_ActLine_Simpl_ActLine : Nat := 141
abbrev f_slices_ContainsFunc_SSimpl_ActLine_Simpl_ActLine : Nat := 108
abbrev f_impl_CatOk_1 : Nat := 109
abbrev f_impl_CatOk : Nat := 39
abbrev f_impl_CatForms : Nat := 36
abbrev f_laws_coParts : Nat := 37
abbrev f_laws_FnCatForms : Nat := 7
abbrev f_laws_FnTrtBounds : Nat := 8
abbrev f_spec_DrawCatPins : Nat := 45
abbrev f_impl_RowRow_reads_1 : Nat := 142
abbrev f_impl_RowRow_reads : Nat := 115
abbrev f_impl_CatPins : Nat := 46
abbrev f_spec_CatPins : Nat := 47
abbrev f_impl_CatReads : Nat := 48
abbrev f_laws_FnCatPins : Nat := 9
abbrev f_spec_CatReads : Nat := 49
abbrev f_impl_rowOk : Nat := 117
abbrev f_impl_RowFits_1 : Nat := 118
abbrev f_impl_RowFits : Nat := 50
abbrev f_laws_FnCatReads : Nat := 10
abbrev f_impl_all : Nat := 120
abbrev f_impl_RowDo : Nat := 54
abbrev f_laws_coRes : Nat := 55
abbrev f_laws_FnRowsOne : Nat := 11
abbrev f_laws_FnCatMore : Nat := 12
/-- spec_l20Open -/
def R_spec_l20Open : R :=
  .ite (.cmp .lt (.z 2000) (.len (.v 0)))
   (
    .i (.chk (.cmp .le (.z 2000) (.len (.v 0)))) <|
    .done [(.s (.take (.v 0) (.z 2000))), (.vi .i64 (.z 0))])
   (
    .done [(.s (.v 0)), (.vi .i64 (.z 0))])
/-- spec_l20Rd_pick -/
def R_spec_l20Rd_pick : R :=
  .ite (.cmp .lt (.v 2) (.z 1))
   (
    .done [(.vi .i64 (.z 0)), (.s (.v 0)), (.vi .i64 (.bin .add .i64 (.v 1) (.z 1)))])
   (
    .ite (.cmp .eq (.len (.v 0)) (.z 0))
     (
      .done [(.vi .i64 (.z 0)), (.s (.v 0)), (.vi .i64 (.bin .add .i64 (.v 1) (.z 1)))])
     (
      .ite (.cmp .lt (.bin .sub .i64 (.bin .add .i64 (.v 1) (.z 1)) (.z 1)) (.len (.v 0)))
       (
        .i (.idx (.v 0) (.bin .sub .i64 (.bin .add .i64 (.v 1) (.z 1)) (.z 1)) (.one (.i .u8)) 3) <|
        .i (.chk (.not (.cmp .eq (.v 2) (.z 0)))) <|
        .done [(.vi .i64 (.bin .rem .i64 (.cv .i64 (.v 3)) (.v 2))), (.s (.v 0)), (.vi .i64 (.bin .add .i64 (.v 1) (.z 1)))])
       (
        .i (.chk (.not (.cmp .eq (.len (.v 0)) (.z 0)))) <|
        .i (.idx (.v 0) (.bin .rem .i64 (.bin .sub .i64 (.bin .add .i64 (.v 1) (.z 1)) (.z 1)) (.len (.v 0))) (.one (.i .u8)) 3) <|
        .i (.chk (.not (.cmp .eq (.len (.v 0)) (.z 0)))) <|
        .i (.idx (.v 0) (.bin .rem .i64 (.bin .add .i64 (.bin .mul .i64 (.bin .sub .i64 (.bin .add .i64 (.v 1) (.z 1)) (.z 1)) (.z 7)) (.z 3)) (.len (.v 0))) (.one (.i .u8)) 4) <|
        .i (.chk (.not (.cmp .eq (.len (.v 0)) (.z 0)))) <|
        .i (.chk (.not (.cmp .eq (.z 64) (.z 0)))) <|
        .i (.chk (.not (.cmp .eq (.v 2) (.z 0)))) <|
        .done [(.vi .i64 (.bin .rem .i64 (.bin .xor .i64 (.bin .add .i64 (.bin .add .i64 (.bin .add .i64 (.bin .mul .i64 (.cv .i64 (.v 3)) (.z 131)) (.bin .mul .i64 (.cv .i64 (.v 4)) (.z 1117))) (.bin .mul .i64 (.bin .sub .i64 (.bin .add .i64 (.v 1) (.z 1)) (.z 1)) (.z 29))) (.bin .mul .i64 (.bin .quo .i64 (.bin .sub .i64 (.bin .add .i64 (.v 1) (.z 1)) (.z 1)) (.len (.v 0))) (.z 53))) (.bin .quo .i64 (.bin .add .i64 (.bin .add .i64 (.bin .add .i64 (.bin .mul .i64 (.cv .i64 (.v 3)) (.z 131)) (.bin .mul .i64 (.cv .i64 (.v 4)) (.z 1117))) (.bin .mul .i64 (.bin .sub .i64 (.bin .add .i64 (.v 1) (.z 1)) (.z 1)) (.z 29))) (.bin .mul .i64 (.bin .quo .i64 (.bin .sub .i64 (.bin .add .i64 (.v 1) (.z 1)) (.z 1)) (.len (.v 0))) (.z 53))) (.z 64))) (.v 2))), (.s (.v 0)), (.vi .i64 (.bin .add .i64 (.v 1) (.z 1)))])))
/-- spec_l20Vals -/
def R_spec_l20Vals : R :=
  .loop 3 [.nil, (.z 0), (.v 1), (.v 0)] <|
    .ite (.cmp .lt (.v 4) (.z 3))
     (
      .i (.call f_spec_l20Rd_pick [(.s (.v 6)), (.vi .i64 (.v 5)), (.vi .i64 (.z 9))] [.i .i64, .s, .i .i64] 7) <|
      .i (.chk (.cmp .le (.z 0) (.v 7))) <|
      .i (.chk (.cmp .lt (.v 7) (.z 9))) <|
      .i (.idx (.cons (.vi .i64 (.z 0)) (.cons (.vi .i64 (.z 1)) (.cons (.vi .i64 (.z 5)) (.cons (.vi .i64 (.z 20)) (.cons (.vi .i64 (.z (-3))) (.cons (.vi .i64 (.z 60)) (.cons (.vi .i64 (.z 10000)) (.cons (.vi .i64 (.z (-10000))) (.cons (.vi .i64 (.z 9996)) .nil))))))))) (.v 7) (.one (.i .i64)) 10) <|
      .i (.chk (.cmp .le (.len (.app (.v 3) (.cons (.vi .i64 (.v 10)) .nil))) (.z 8796093022208))) <|
      .next [(.app (.v 3) (.cons (.vi .i64 (.v 10)) .nil)), (.bin .add .i64 (.v 4) (.z 1)), (.v 9), (.v 8)])
     (
      .esc <|
      .i (.call f_spec_l20Rd_pick [(.s (.v 6)), (.vi .i64 (.v 5)), (.vi .i64 (.v 2))] [.i .i64, .s, .i .i64] 7) <|
      .ite (.cmp .eq (.v 7) (.z 0))
       (
        .i (.call f_spec_l20Rd_pick [(.s (.v 8)), (.vi .i64 (.v 9)), (.vi .i64 (.z 3))] [.i .i64, .s, .i .i64] 10) <|
        .ite (.cmp .eq (.v 10) (.z 0))
         (
          .i (.chk (.cmp .le (.z 2) (.len (.v 3)))) <|
          .done [(.s (.take (.v 3) (.z 2))), (.s (.v 11)), (.vi .i64 (.v 12))])
         (
          .ite (.cmp .eq (.v 10) (.z 1))
           (
            .i (.chk (.cmp .le (.len (.app (.v 3) (.cons (.vi .i64 (.z 0)) .nil))) (.z 8796093022208))) <|
            .done [(.s (.app (.v 3) (.cons (.vi .i64 (.z 0)) .nil))), (.s (.v 11)), (.vi .i64 (.v 12))])
           (
            .i (.call f_spec_l20Rd_pick [(.s (.v 11)), (.vi .i64 (.v 12)), (.vi .i64 (.z 3))] [.i .i64, .s, .i .i64] 13) <|
            .i (.call f_spec_l20Rd_pick [(.s (.v 14)), (.vi .i64 (.v 15)), (.vi .i64 (.z 2))] [.i .i64, .s, .i .i64] 16) <|
            .i (.chk (.cmp .le (.z 0) (.v 16))) <|
            .i (.chk (.cmp .lt (.v 16) (.z 2))) <|
            .i (.idx (.cons (.vi .i64 (.z 10001)) (.cons (.vi .i64 (.z (-10001))) .nil)) (.v 16) (.one (.i .i64)) 19) <|
            .i (.chk (.cmp .le (.z 0) (.v 13))) <|
            .i (.chk (.cmp .lt (.v 13) (.len (.v 3)))) <|
            .i (.idx (.v 3) (.v 13) (.one (.i .i64)) 20) <|
            .done [(.s (.set (.v 3) (.v 13) (.vi .i64 (.v 19)))), (.s (.v 17)), (.vi .i64 (.v 18))])))
       (
        .done [(.s (.v 3)), (.s (.v 8)), (.vi .i64 (.v 9))]))
/-- spec_l20Treaty -/
def R_spec_l20Treaty : R :=
  .i (.call f_spec_l20Vals [(.s (.v 0)), (.vi .i64 (.v 1)), (.vi .i64 (.z 99))] [.s, .s, .i .i64] 3) <|
  .i (.call f_spec_l20Rd_pick [(.s (.v 4)), (.vi .i64 (.v 5)), (.vi .i64 (.z 3))] [.i .i64, .s, .i .i64] 6) <|
  .loop 9 [.nil, (.bin .add .i64 (.z 1) (.v 6)), (.v 8), (.v 7)] <|
    .ite (.cmp .lt (.z 0) (.v 10))
     (
      .i (.call f_spec_l20Rd_pick [(.s (.v 12)), (.vi .i64 (.v 11)), (.vi .i64 (.z 5))] [.i .i64, .s, .i .i64] 13) <|
      .i (.chk (.cmp .le (.z 0) (.v 13))) <|
      .i (.chk (.cmp .lt (.v 13) (.z 5))) <|
      .i (.idx (.cons (.vi .i64 (.z 0)) (.cons (.vi .i64 (.z 3)) (.cons (.vi .i64 (.z 10)) (.cons (.vi .i64 (.z 30)) (.cons (.vi .i64 (.z 50)) .nil))))) (.v 13) (.one (.i .i64)) 16) <|
      .i (.chk (.cmp .le (.len (.app (.v 9) (.cons (.vi .i64 (.v 16)) .nil))) (.z 8796093022208))) <|
      .next [(.app (.v 9) (.cons (.vi .i64 (.v 16)) .nil)), (.bin .sub .i64 (.v 10) (.z 1)), (.v 15), (.v 14)])
     (
      .esc <|
      .i (.call f_spec_l20Rd_pick [(.s (.v 12)), (.vi .i64 (.v 11)), (.vi .i64 (.v 2))] [.i .i64, .s, .i .i64] 13) <|
      .ite (.cmp .lt (.z 0) (.v 13))
       (
        .done [(.s (.v 3)), (.s (.v 9)), (.s (.v 14)), (.vi .i64 (.v 15))])
       (
        .i (.call f_spec_l20Rd_pick [(.s (.v 14)), (.vi .i64 (.v 15)), (.vi .i64 (.z 3))] [.i .i64, .s, .i .i64] 16) <|
        .ite (.cmp .eq (.v 16) (.z 0))
         (
          .i (.call f_spec_l20Vals [(.s (.v 17)), (.vi .i64 (.v 18)), (.vi .i64 (.z 1))] [.s, .s, .i .i64] 19) <|
          .done [(.s (.v 19)), (.s (.v 9)), (.s (.v 20)), (.vi .i64 (.v 21))])
         (
          .ite (.cmp .eq (.v 16) (.z 1))
           (
            .done [(.s (.v 3)), (.s .nil), (.s (.v 17)), (.vi .i64 (.v 18))])
           (
            .i (.call f_spec_l20Rd_pick [(.s (.v 17)), (.vi .i64 (.v 18)), (.vi .i64 (.z 2))] [.i .i64, .s, .i .i64] 19) <|
            .i (.chk (.cmp .le (.z 0) (.v 19))) <|
            .i (.chk (.cmp .lt (.v 19) (.z 2))) <|
            .i (.idx (.cons (.vi .i64 (.z (-1))) (.cons (.vi .i64 (.z 51)) .nil)) (.v 19) (.one (.i .i64)) 22) <|
            .i (.chk (.cmp .lt (.z 0) (.len (.v 9)))) <|
            .i (.idx (.v 9) (.z 0) (.one (.i .i64)) 23) <|
            .done [(.s (.v 3)), (.s (.set (.v 9) (.z 0) (.vi .i64 (.v 22)))), (.s (.v 20)), (.vi .i64 (.v 21))]))))
/-- spec_l20Added -/
def R_spec_l20Added : R :=
  .i (.call f_spec_l20Rd_pick [(.s (.v 0)), (.vi .i64 (.v 1)), (.vi .i64 (.z 9))] [.i .i64, .s, .i .i64] 3) <|
  .i (.call f_spec_l20Rd_pick [(.s (.v 4)), (.vi .i64 (.v 5)), (.vi .i64 (.z 9))] [.i .i64, .s, .i .i64] 6) <|
  .i (.call f_spec_l20Rd_pick [(.s (.v 7)), (.vi .i64 (.v 8)), (.vi .i64 (.z 4))] [.i .i64, .s, .i .i64] 9) <|
  .i (.chk (.cmp .le (.z 0) (.v 9))) <|
  .i (.chk (.cmp .lt (.v 9) (.z 4))) <|
  .i (.idx (.cons (.vi .i64 (.z 0)) (.cons (.vi .i64 (.z 0)) (.cons (.vi .i64 (.z 1)) (.cons (.vi .i64 (.z (-2))) .nil)))) (.v 9) (.one (.i .i64)) 12) <|
  .i (.call f_spec_l20Rd_pick [(.s (.v 10)), (.vi .i64 (.v 11)), (.vi .i64 (.v 2))] [.i .i64, .s, .i .i64] 13) <|
  .ite (.cmp .eq (.v 13) (.z 0))
   (
    .i (.call f_spec_l20Rd_pick [(.s (.v 14)), (.vi .i64 (.v 15)), (.vi .i64 (.z 3))] [.i .i64, .s, .i .i64] 16) <|
    .ite (.cmp .eq (.v 16) (.z 0))
     (
      .done [(.s (.take (.cons (.vi .i64 (.bin .sub .i64 (.v 3) (.z 4))) (.cons (.vi .i64 (.bin .sub .i64 (.v 6) (.z 4))) (.cons (.vi .i64 (.v 12)) .nil))) (.z 2))), (.s (.v 17)), (.vi .i64 (.v 18))])
     (
      .ite (.cmp .eq (.v 16) (.z 1))
       (
        .i (.call f_spec_l20Rd_pick [(.s (.v 17)), (.vi .i64 (.v 18)), (.vi .i64 (.z 3))] [.i .i64, .s, .i .i64] 19) <|
        .i (.chk (.cmp .le (.z 0) (.v 19))) <|
        .i (.chk (.cmp .lt (.v 19) (.z 3))) <|
        .i (.idx (.cons (.vi .i64 (.z 20001)) (.cons (.vi .i64 (.z 60)) (.cons (.vi .i64 (.z (-60))) .nil))) (.v 19) (.one (.i .i64)) 22) <|
        .i (.idx (.cons (.vi .i64 (.bin .sub .i64 (.v 3) (.z 4))) (.cons (.vi .i64 (.bin .sub .i64 (.v 6) (.z 4))) (.cons (.vi .i64 (.v 12)) .nil))) (.z 0) (.one (.i .i64)) 23) <|
        .done [(.s (.set (.cons (.vi .i64 (.bin .sub .i64 (.v 3) (.z 4))) (.cons (.vi .i64 (.bin .sub .i64 (.v 6) (.z 4))) (.cons (.vi .i64 (.v 12)) .nil))) (.z 0) (.vi .i64 (.v 22)))), (.s (.v 20)), (.vi .i64 (.v 21))])
       (
        .i (.chk (.cmp .le (.len (.app (.cons (.vi .i64 (.bin .sub .i64 (.v 3) (.z 4))) (.cons (.vi .i64 (.bin .sub .i64 (.v 6) (.z 4))) (.cons (.vi .i64 (.v 12)) .nil))) (.cons (.vi .i64 (.z 0)) .nil))) (.z 8796093022208))) <|
        .done [(.s (.app (.cons (.vi .i64 (.bin .sub .i64 (.v 3) (.z 4))) (.cons (.vi .i64 (.bin .sub .i64 (.v 6) (.z 4))) (.cons (.vi .i64 (.v 12)) .nil))) (.cons (.vi .i64 (.z 0)) .nil))), (.s (.v 17)), (.vi .i64 (.v 18))])))
   (
    .done [(.s (.cons (.vi .i64 (.bin .sub .i64 (.v 3) (.z 4))) (.cons (.vi .i64 (.bin .sub .i64 (.v 6) (.z 4))) (.cons (.vi .i64 (.v 12)) .nil)))), (.s (.v 14)), (.vi .i64 (.v 15))])
/-- spec_FrmZero -/
def R_spec_FrmZero : R :=
  .done [(.s (.cons (.vi .i64 (.z 0)) (.cons (.vi .i64 (.z 0)) (.cons (.vi .i64 (.z 0)) .nil)))), (.s (.cons (.vi .i64 (.z 0)) (.cons (.vi .i64 (.z 0)) .nil))), (.vi .i64 (.z 0))]
/-- spec_l20Num -/
def R_spec_l20Num : R :=
  .i (.call f_spec_FrmZero [] [.s, .s, .i .i64] 3) <|
  .i (.chk (.cmp .lt (.z 0) (.len (.v 4)))) <|
  .i (.idx (.v 4) (.z 0) (.one (.i .i64)) 6) <|
  .i (.chk (.cmp .lt (.z 1) (.len (.v 4)))) <|
  .i (.idx (.set (.v 4) (.z 0) (.vi .i64 (.v 0))) (.z 1) (.one (.i .i64)) 7) <|
  .done [(.s (.v 3)), (.s (.set (.set (.v 4) (.z 0) (.vi .i64 (.v 0))) (.z 1) (.vi .i64 (.v 1)))), (.vi .i64 (.v 2))]
/-- spec_l20With -/
def R_spec_l20With : R :=
  .i (.chk (.cmp .le (.z 0) (.v 3))) <|
  .i (.chk (.cmp .lt (.v 3) (.len (.v 0)))) <|
  .i (.idx (.v 0) (.v 3) (.one (.i .i64)) 5) <|
  .done [(.vi .i64 (.v 2)), (.s (.set (.v 0) (.v 3) (.vi .i64 (.v 4)))), (.s (.v 1))]
/-- spec_l20Small -/
def R_spec_l20Small : R :=
  .i (.call f_spec_FrmZero [] [.s, .s, .i .i64] 2) <|
  .loop 5 [(.v 2), (.z 0), (.v 1), (.v 0)] <|
    .ite (.cmp .lt (.v 6) (.z 3))
     (
      .i (.call f_spec_l20Rd_pick [(.s (.v 8)), (.vi .i64 (.v 7)), (.vi .i64 (.z 6))] [.i .i64, .s, .i .i64] 9) <|
      .i (.chk (.cmp .le (.z 0) (.v 9))) <|
      .i (.chk (.cmp .lt (.v 9) (.z 6))) <|
      .i (.idx (.cons (.vi .i64 (.z 0)) (.cons (.vi .i64 (.z 0)) (.cons (.vi .i64 (.z 0)) (.cons (.vi .i64 (.z 1)) (.cons (.vi .i64 (.z (-1))) (.cons (.vi .i64 (.z 2)) .nil)))))) (.v 9) (.one (.i .i64)) 12) <|
      .i (.chk (.cmp .le (.z 0) (.v 6))) <|
      .i (.chk (.cmp .lt (.v 6) (.len (.v 5)))) <|
      .i (.idx (.v 5) (.v 6) (.one (.i .i64)) 13) <|
      .next [(.set (.v 5) (.v 6) (.vi .i64 (.v 12))), (.bin .add .i64 (.v 6) (.z 1)), (.v 11), (.v 10)])
     (
      .esc <|
      .loop 9 [(.v 3), (.z 0), (.v 7), (.v 8)] <|
        .ite (.cmp .lt (.v 10) (.z 2))
         (
          .i (.call f_spec_l20Rd_pick [(.s (.v 12)), (.vi .i64 (.v 11)), (.vi .i64 (.z 5))] [.i .i64, .s, .i .i64] 13) <|
          .i (.chk (.cmp .le (.z 0) (.v 13))) <|
          .i (.chk (.cmp .lt (.v 13) (.z 5))) <|
          .i (.idx (.cons (.vi .i64 (.z 0)) (.cons (.vi .i64 (.z 0)) (.cons (.vi .i64 (.z 1)) (.cons (.vi .i64 (.z (-1))) (.cons (.vi .i64 (.z 2)) .nil))))) (.v 13) (.one (.i .i64)) 16) <|
          .i (.chk (.cmp .le (.z 0) (.v 10))) <|
          .i (.chk (.cmp .lt (.v 10) (.len (.v 9)))) <|
          .i (.idx (.v 9) (.v 10) (.one (.i .i64)) 17) <|
          .next [(.set (.v 9) (.v 10) (.vi .i64 (.v 16))), (.bin .add .i64 (.v 10) (.z 1)), (.v 15), (.v 14)])
         (
          .esc <|
          .i (.call f_spec_l20Rd_pick [(.s (.v 12)), (.vi .i64 (.v 11)), (.vi .i64 (.z 8))] [.i .i64, .s, .i .i64] 13) <|
          .i (.chk (.cmp .le (.z 0) (.v 13))) <|
          .i (.chk (.cmp .lt (.v 13) (.z 8))) <|
          .i (.idx (.cons (.vi .i64 (.z 0)) (.cons (.vi .i64 (.z 0)) (.cons (.vi .i64 (.z 1)) (.cons (.vi .i64 (.z (-1))) (.cons (.vi .i64 (.z 5)) (.cons (.vi .i64 (.z (-5))) (.cons (.vi .i64 (.z 20)) (.cons (.vi .i64 (.z (-20))) .nil)))))))) (.v 13) (.one (.i .i64)) 16) <|
          .done [(.s (.v 5)), (.s (.v 9)), (.vi .i64 (.v 16)), (.s (.v 14)), (.vi .i64 (.v 15))]))
/-- spec_l20Line -/
def R_spec_l20Line : R :=
  .i (.call f_spec_l20Rd_pick [(.s (.v 0)), (.vi .i64 (.v 1)), (.vi .i64 (.z 7))] [.i .i64, .s, .i .i64] 2) <|
  .ite (.cmp .eq (.v 2) (.z 0))
   (
    .i (.call f_spec_l20Rd_pick [(.s (.v 3)), (.vi .i64 (.v 4)), (.vi .i64 (.z 3))] [.i .i64, .s, .i .i64] 5) <|
    .i (.call f_spec_l20Small [(.s (.v 6)), (.vi .i64 (.v 7))] [.s, .s, .i .i64, .s, .i .i64] 8) <|
    .done [(.vi .i64 (.z 1)), (.vi .i64 (.z 0)), (.vi .i64 (.bin .add .i64 (.z 1) (.v 5))), (.s (.v 8)), (.s (.v 9)), (.vi .i64 (.v 10)), (.s (.v 11)), (.vi .i64 (.v 12))])
   (
    .ite (.cmp .eq (.v 2) (.z 1))
     (
      .i (.call f_spec_l20Rd_pick [(.s (.v 3)), (.vi .i64 (.v 4)), (.vi .i64 (.z 3))] [.i .i64, .s, .i .i64] 5) <|
      .i (.call f_spec_l20Small [(.s (.v 6)), (.vi .i64 (.v 7))] [.s, .s, .i .i64, .s, .i .i64] 8) <|
      .done [(.vi .i64 (.z 1)), (.vi .i64 (.z 0)), (.vi .i64 (.bin .add .i64 (.z 1) (.v 5))), (.s (.v 8)), (.s (.v 9)), (.vi .i64 (.v 10)), (.s (.v 11)), (.vi .i64 (.v 12))])
     (
      .ite (.cmp .eq (.v 2) (.z 2))
       (
        .i (.call f_spec_l20Small [(.s (.v 3)), (.vi .i64 (.v 4))] [.s, .s, .i .i64, .s, .i .i64] 5) <|
        .i (.call f_spec_l20Rd_pick [(.s (.v 8)), (.vi .i64 (.v 9)), (.vi .i64 (.z 3))] [.i .i64, .s, .i .i64] 10) <|
        .ite (.cmp .lt (.z 0) (.v 10))
         (
          .i (.call f_spec_l20Rd_pick [(.s (.v 11)), (.vi .i64 (.v 12)), (.vi .i64 (.z 3))] [.i .i64, .s, .i .i64] 13) <|
          .done [(.vi .i64 (.z 2)), (.vi .i64 (.v 13)), (.vi .i64 (.z 0)), (.s (.cons (.vi .i64 (.z 0)) (.cons (.vi .i64 (.z 0)) (.cons (.vi .i64 (.z 0)) .nil)))), (.s (.v 6)), (.vi .i64 (.v 7)), (.s (.v 14)), (.vi .i64 (.v 15))])
         (
          .i (.call f_spec_l20Rd_pick [(.s (.v 11)), (.vi .i64 (.v 12)), (.vi .i64 (.z 3))] [.i .i64, .s, .i .i64] 13) <|
          .done [(.vi .i64 (.z 2)), (.vi .i64 (.v 13)), (.vi .i64 (.z 0)), (.s (.v 5)), (.s (.v 6)), (.vi .i64 (.v 7)), (.s (.v 14)), (.vi .i64 (.v 15))]))
       (
        .ite (.cmp .eq (.v 2) (.z 3))
         (
          .i (.call f_spec_l20Small [(.s (.v 3)), (.vi .i64 (.v 4))] [.s, .s, .i .i64, .s, .i .i64] 5) <|
          .i (.call f_spec_l20Rd_pick [(.s (.v 8)), (.vi .i64 (.v 9)), (.vi .i64 (.z 3))] [.i .i64, .s, .i .i64] 10) <|
          .ite (.cmp .lt (.z 0) (.v 10))
           (
            .i (.call f_spec_l20Rd_pick [(.s (.v 11)), (.vi .i64 (.v 12)), (.vi .i64 (.z 3))] [.i .i64, .s, .i .i64] 13) <|
            .done [(.vi .i64 (.z 2)), (.vi .i64 (.v 13)), (.vi .i64 (.z 0)), (.s (.cons (.vi .i64 (.z 0)) (.cons (.vi .i64 (.z 0)) (.cons (.vi .i64 (.z 0)) .nil)))), (.s (.v 6)), (.vi .i64 (.v 7)), (.s (.v 14)), (.vi .i64 (.v 15))])
           (
            .i (.call f_spec_l20Rd_pick [(.s (.v 11)), (.vi .i64 (.v 12)), (.vi .i64 (.z 3))] [.i .i64, .s, .i .i64] 13) <|
            .done [(.vi .i64 (.z 2)), (.vi .i64 (.v 13)), (.vi .i64 (.z 0)), (.s (.v 5)), (.s (.v 6)), (.vi .i64 (.v 7)), (.s (.v 14)), (.vi .i64 (.v 15))]))
         (
          .ite (.cmp .eq (.v 2) (.z 4))
           (
            .i (.call f_spec_l20Small [(.s (.v 3)), (.vi .i64 (.v 4))] [.s, .s, .i .i64, .s, .i .i64] 5) <|
            .i (.call f_spec_l20Rd_pick [(.s (.v 8)), (.vi .i64 (.v 9)), (.vi .i64 (.z 3))] [.i .i64, .s, .i .i64] 10) <|
            .ite (.cmp .lt (.z 0) (.v 10))
             (
              .i (.call f_spec_l20Rd_pick [(.s (.v 11)), (.vi .i64 (.v 12)), (.vi .i64 (.z 3))] [.i .i64, .s, .i .i64] 13) <|
              .done [(.vi .i64 (.z 2)), (.vi .i64 (.v 13)), (.vi .i64 (.z 0)), (.s (.cons (.vi .i64 (.z 0)) (.cons (.vi .i64 (.z 0)) (.cons (.vi .i64 (.z 0)) .nil)))), (.s (.v 6)), (.vi .i64 (.v 7)), (.s (.v 14)), (.vi .i64 (.v 15))])
             (
              .i (.call f_spec_l20Rd_pick [(.s (.v 11)), (.vi .i64 (.v 12)), (.vi .i64 (.z 3))] [.i .i64, .s, .i .i64] 13) <|
              .done [(.vi .i64 (.z 2)), (.vi .i64 (.v 13)), (.vi .i64 (.z 0)), (.s (.v 5)), (.s (.v 6)), (.vi .i64 (.v 7)), (.s (.v 14)), (.vi .i64 (.v 15))]))
           (
            .ite (.cmp .eq (.v 2) (.z 5))
             (
              .i (.call f_spec_l20Small [(.s (.v 3)), (.vi .i64 (.v 4))] [.s, .s, .i .i64, .s, .i .i64] 5) <|
              .done [(.vi .i64 (.z 3)), (.vi .i64 (.z 0)), (.vi .i64 (.z 0)), (.s (.v 5)), (.s (.v 6)), (.vi .i64 (.v 7)), (.s (.v 8)), (.vi .i64 (.v 9))])
             (
              .done [(.vi .i64 (.z 4)), (.vi .i64 (.z 0)), (.vi .i64 (.z 0)), (.s .nil), (.s .nil), (.vi .i64 (.z 0)), (.s (.v 3)), (.vi .i64 (.v 4))]))))))
/-- spec_l1In -/
def R_spec_l1In : R :=
  .ite (.cmp .le (.v 1) (.v 0))
   (
    .done [(.vb (.cmp .le (.v 0) (.v 2)))])
   (
    .done [(.vb .ff)])
/-- spec_l1All -/
def R_spec_l1All : R :=
  .ite (.not (.cmp .eq (.len (.v 0)) (.v 1)))
   (
    .done [(.vb .ff)])
   (
    .loop 3 [(.z 0)] <|
      .ite (.cmp .lt (.v 3) (.len (.v 0)))
       (
        .i (.idx (.v 0) (.v 3) (.one (.i .i64)) 4) <|
        .i (.call f_spec_l1In [(.vi .i64 (.v 4)), (.vi .i64 (.bin .sub .i64 (.z 0) (.v 2))), (.vi .i64 (.v 2))] [.b] 5) <|
        .ite (.not (.v 5))
         (
          .esc <|
          .done [(.vb .ff)])
         (
          .next [(.bin .add .i64 (.v 3) (.z 1))]))
       (
        .esc <|
        .done [(.vb .tt)]))
/-- spec_l2Small -/
def R_spec_l2Small : R :=
  .i (.call f_spec_l1All [(.s (.v 0)), (.vi .i64 (.z 3)), (.vi .i64 (.z 2))] [.b] 3) <|
  .ite (.v 3)
   (
    .i (.call f_spec_l1All [(.s (.v 1)), (.vi .i64 (.z 2)), (.vi .i64 (.z 2))] [.b] 4) <|
    .ite (.v 4)
     (
      .i (.call f_spec_l1In [(.vi .i64 (.v 2)), (.vi .i64 (.z (-20))), (.vi .i64 (.z 20))] [.b] 5) <|
      .done [(.vb (.v 5))])
     (
      .done [(.vb .ff)]))
   (
    .done [(.vb .ff)])
/-- spec_l2Line -/
def R_spec_l2Line : R :=
  .ite (.cmp .eq (.v 0) (.z 1))
   (
    .ite (.cmp .eq (.v 1) (.z 0))
     (
      .i (.call f_spec_l1In [(.vi .i64 (.v 2)), (.vi .i64 (.z 1)), (.vi .i64 (.z 6))] [.b] 6) <|
      .ite (.v 6)
       (
        .i (.call f_spec_l2Small [(.s (.v 3)), (.s (.v 4)), (.vi .i64 (.v 5))] [.b] 7) <|
        .done [(.vb (.v 7))])
       (
        .done [(.vb .ff)]))
     (
      .done [(.vb .ff)]))
   (
    .ite (.cmp .eq (.v 0) (.z 2))
     (
      .i (.call f_spec_l1In [(.vi .i64 (.v 1)), (.vi .i64 (.z 0)), (.vi .i64 (.z 2))] [.b] 6) <|
      .ite (.v 6)
       (
        .ite (.cmp .eq (.v 2) (.z 0))
         (
          .i (.call f_spec_l2Small [(.s (.v 3)), (.s (.v 4)), (.vi .i64 (.v 5))] [.b] 7) <|
          .done [(.vb (.v 7))])
         (
          .done [(.vb .ff)]))
       (
        .done [(.vb .ff)]))
     (
      .ite (.cmp .eq (.v 0) (.z 3))
       (
        .ite (.cmp .eq (.v 1) (.z 0))
         (
          .ite (.cmp .eq (.v 2) (.z 0))
           (
            .i (.call f_spec_l2Small [(.s (.v 3)), (.s (.v 4)), (.vi .i64 (.v 5))] [.b] 6) <|
            .done [(.vb (.v 6))])
           (
            .done [(.vb .ff)]))
         (
          .done [(.vb .ff)]))
       (
        .ite (.cmp .eq (.v 0) (.z 4))
         (
          .ite (.cmp .eq (.v 1) (.z 0))
           (
            .ite (.cmp .eq (.v 2) (.z 0))
             (
              .ite (.cmp .eq (.bin .add .i64 (.len (.v 3)) (.len (.v 4))) (.z 0))
               (
                .done [(.vb (.cmp .eq (.v 5) (.z 0)))])
               (
                .done [(.vb .ff)]))
             (
              .done [(.vb .ff)]))
           (
            .done [(.vb .ff)]))
         (
          .done [(.vb .ff)]))))
/-- spec_ActOk -/
def R_spec_ActOk : R :=
  .loop 1 [(.z 0), (.z 0)] <|
    .ite (.cmp .lt (.v 2) (.len (.v 0)))
     (
      .i (.idx (.v 0) (.v 2) (.g [.i .i64, .i .i64, .i .i64, .s, .s, .i .i64]) 3) <|
      .i (.call f_spec_l2Line [(.vi .i64 (.v 3)), (.vi .i64 (.v 4)), (.vi .i64 (.v 5)), (.s (.v 6)), (.s (.v 7)), (.vi .i64 (.v 8))] [.b] 9) <|
      .ite (.not (.v 9))
       (
        .esc <|
        .done [(.vb .ff)])
       (
        .i (.idx (.v 0) (.v 2) (.g [.i .i64, .i .i64, .i .i64, .s, .s, .i .i64]) 10) <|
        .ite (.cmp .eq (.v 10) (.z 1))
         (
          .next [(.bin .add .i64 (.v 1) (.z 1)), (.bin .add .i64 (.v 2) (.z 1))])
         (
          .next [(.v 1), (.bin .add .i64 (.v 2) (.z 1))])))
     (
      .esc <|
      .ite (.cmp .le (.len (.v 0)) (.z 6))
       (
        .done [(.vb (.cmp .le (.v 1) (.z 3)))])
       (
        .done [(.vb .ff)]))
/-- spec_l20Act -/
def R_spec_l20Act : R :=
  .i (.call f_spec_l20Rd_pick [(.s (.v 0)), (.vi .i64 (.v 1)), (.vi .i64 (.z 2))] [.i .i64, .s, .i .i64] 2) <|
  .i (.call f_spec_l20Rd_pick [(.s (.v 3)), (.vi .i64 (.v 4)), (.vi .i64 (.z 8))] [.i .i64, .s, .i .i64] 5) <|
  .ite (.cmp .eq (.v 5) (.z 0))
   (
    .i (.call f_spec_l20Num [(.vi .i64 (.z (-1))), (.vi .i64 (.z 0)), (.vi .i64 (.z 0))] [.s, .s, .i .i64] 8) <|
    .i (.call f_spec_l20With [(.s (.v 8)), (.s (.v 9)), (.vi .i64 (.v 10)), (.vi .i64 (.v 2)), (.vi .i64 (.z 1))] [.i .i64, .s, .s] 11) <|
    .i (.call f_spec_l20Num [(.vi .i64 (.z (-1))), (.vi .i64 (.z 0)), (.vi .i64 (.z 0))] [.s, .s, .i .i64] 14) <|
    .i (.call f_spec_l20Num [(.vi .i64 (.z 1)), (.vi .i64 (.z 0)), (.vi .i64 (.z 0))] [.s, .s, .i .i64] 17) <|
    .i (.call f_spec_l20Num [(.vi .i64 (.z 1)), (.vi .i64 (.z 0)), (.vi .i64 (.z (-9)))] [.s, .s, .i .i64] 20) <|
    .done [(.s (.cons (.g (.cons (.vi .i64 (.z 1)) (.cons (.vi .i64 (.z 0)) (.cons (.vi .i64 (.z 2)) (.cons (.s (.v 12)) (.cons (.s (.v 13)) (.cons (.vi .i64 (.v 11)) .nil))))))) (.cons (.g (.cons (.vi .i64 (.z 2)) (.cons (.vi .i64 (.v 2)) (.cons (.vi .i64 (.z 0)) (.cons (.s (.v 14)) (.cons (.s (.v 15)) (.cons (.vi .i64 (.v 16)) .nil))))))) (.cons (.g (.cons (.vi .i64 (.z 3)) (.cons (.vi .i64 (.z 0)) (.cons (.vi .i64 (.z 0)) (.cons (.s (.v 17)) (.cons (.s (.v 18)) (.cons (.vi .i64 (.v 19)) .nil))))))) (.cons (.g (.cons (.vi .i64 (.z 1)) (.cons (.vi .i64 (.z 0)) (.cons (.vi .i64 (.z 1)) (.cons (.s (.v 20)) (.cons (.s (.v 21)) (.cons (.vi .i64 (.v 22)) .nil))))))) (.cons (.g (.cons (.vi .i64 (.z 4)) (.cons (.vi .i64 (.z 0)) (.cons (.vi .i64 (.z 0)) (.cons (.s .nil) (.cons (.s .nil) (.cons (.vi .i64 (.z 0)) .nil))))))) .nil)))))), (.s (.v 6)), (.vi .i64 (.v 7))])
   (
    .ite (.cmp .eq (.v 5) (.z 1))
     (
      .i (.call f_spec_l20Num [(.vi .i64 (.z (-1))), (.vi .i64 (.z 0)), (.vi .i64 (.z 0))] [.s, .s, .i .i64] 8) <|
      .i (.call f_spec_l20With [(.s (.v 8)), (.s (.v 9)), (.vi .i64 (.v 10)), (.vi .i64 (.v 2)), (.vi .i64 (.z 1))] [.i .i64, .s, .s] 11) <|
      .i (.call f_spec_l20Num [(.vi .i64 (.z (-1))), (.vi .i64 (.z 0)), (.vi .i64 (.z 0))] [.s, .s, .i .i64] 14) <|
      .i (.call f_spec_l20Num [(.vi .i64 (.z 1)), (.vi .i64 (.z 0)), (.vi .i64 (.z 0))] [.s, .s, .i .i64] 17) <|
      .i (.call f_spec_l20Num [(.vi .i64 (.z 1)), (.vi .i64 (.z 0)), (.vi .i64 (.z (-9)))] [.s, .s, .i .i64] 20) <|
      .done [(.s (.cons (.g (.cons (.vi .i64 (.z 1)) (.cons (.vi .i64 (.z 0)) (.cons (.vi .i64 (.z 2)) (.cons (.s (.v 12)) (.cons (.s (.v 13)) (.cons (.vi .i64 (.v 11)) .nil))))))) (.cons (.g (.cons (.vi .i64 (.z 2)) (.cons (.vi .i64 (.v 2)) (.cons (.vi .i64 (.z 0)) (.cons (.s (.v 14)) (.cons (.s (.v 15)) (.cons (.vi .i64 (.v 16)) .nil))))))) (.cons (.g (.cons (.vi .i64 (.z 3)) (.cons (.vi .i64 (.z 0)) (.cons (.vi .i64 (.z 0)) (.cons (.s (.v 17)) (.cons (.s (.v 18)) (.cons (.vi .i64 (.v 19)) .nil))))))) (.cons (.g (.cons (.vi .i64 (.z 1)) (.cons (.vi .i64 (.z 0)) (.cons (.vi .i64 (.z 1)) (.cons (.s (.v 20)) (.cons (.s (.v 21)) (.cons (.vi .i64 (.v 22)) .nil))))))) (.cons (.g (.cons (.vi .i64 (.z 4)) (.cons (.vi .i64 (.z 0)) (.cons (.vi .i64 (.z 0)) (.cons (.s .nil) (.cons (.s .nil) (.cons (.vi .i64 (.z 0)) .nil))))))) .nil)))))), (.s (.v 6)), (.vi .i64 (.v 7))])
     (
      .ite (.cmp .eq (.v 5) (.z 2))
       (
        .i (.call f_spec_l20Num [(.vi .i64 (.z 1)), (.vi .i64 (.z 0)), (.vi .i64 (.z 0))] [.s, .s, .i .i64] 8) <|
        .done [(.s (.cons (.g (.cons (.vi .i64 (.z 2)) (.cons (.vi .i64 (.v 2)) (.cons (.vi .i64 (.z 0)) (.cons (.s (.v 8)) (.cons (.s (.v 9)) (.cons (.vi .i64 (.v 10)) .nil))))))) .nil)), (.s (.v 6)), (.vi .i64 (.v 7))])
       (
        .ite (.cmp .eq (.v 5) (.z 3))
         (
          .i (.call f_spec_l20Num [(.vi .i64 (.z (-1))), (.vi .i64 (.z 0)), (.vi .i64 (.z 0))] [.s, .s, .i .i64] 8) <|
          .i (.call f_spec_l20With [(.s (.v 8)), (.s (.v 9)), (.vi .i64 (.v 10)), (.vi .i64 (.v 2)), (.vi .i64 (.z 1))] [.i .i64, .s, .s] 11) <|
          .i (.call f_spec_l20Num [(.vi .i64 (.z (-1))), (.vi .i64 (.z 0)), (.vi .i64 (.z 0))] [.s, .s, .i .i64] 14) <|
          .i (.call f_spec_l20Num [(.vi .i64 (.z 1)), (.vi .i64 (.z 0)), (.vi .i64 (.z 0))] [.s, .s, .i .i64] 17) <|
          .done [(.s (.cons (.g (.cons (.vi .i64 (.z 1)) (.cons (.vi .i64 (.z 0)) (.cons (.vi .i64 (.z 2)) (.cons (.s (.v 12)) (.cons (.s (.v 13)) (.cons (.vi .i64 (.v 11)) .nil))))))) (.cons (.g (.cons (.vi .i64 (.z 2)) (.cons (.vi .i64 (.v 2)) (.cons (.vi .i64 (.z 0)) (.cons (.s (.v 14)) (.cons (.s (.v 15)) (.cons (.vi .i64 (.v 16)) .nil))))))) (.cons (.g (.cons (.vi .i64 (.z 2)) (.cons (.vi .i64 (.bin .sub .i64 (.z 1) (.v 2))) (.cons (.vi .i64 (.z 0)) (.cons (.s (.v 17)) (.cons (.s (.v 18)) (.cons (.vi .i64 (.v 19)) .nil))))))) .nil)))), (.s (.v 6)), (.vi .i64 (.v 7))])
         (
          .ite (.cmp .eq (.v 5) (.z 4))
           (
            .i (.call f_spec_l20Num [(.vi .i64 (.z 0)), (.vi .i64 (.z 0)), (.vi .i64 (.z 0))] [.s, .s, .i .i64] 8) <|
            .i (.call f_spec_l20With [(.s (.v 8)), (.s (.v 9)), (.vi .i64 (.v 10)), (.vi .i64 (.z 2)), (.vi .i64 (.z 1))] [.i .i64, .s, .s] 11) <|
            .done [(.s (.cons (.g (.cons (.vi .i64 (.z 3)) (.cons (.vi .i64 (.z 0)) (.cons (.vi .i64 (.z 0)) (.cons (.s (.v 12)) (.cons (.s (.v 13)) (.cons (.vi .i64 (.v 11)) .nil))))))) .nil)), (.s (.v 6)), (.vi .i64 (.v 7))])
           (
            .ite (.cmp .eq (.v 5) (.z 5))
             (
              .i (.call f_spec_l20Num [(.vi .i64 (.z 0)), (.vi .i64 (.z 1)), (.vi .i64 (.z 5))] [.s, .s, .i .i64] 8) <|
              .i (.call f_spec_l20With [(.s (.v 8)), (.s (.v 9)), (.vi .i64 (.v 10)), (.vi .i64 (.z 0)), (.vi .i64 (.z 1))] [.i .i64, .s, .s] 11) <|
              .i (.call f_spec_l20With [(.s (.v 12)), (.s (.v 13)), (.vi .i64 (.v 11)), (.vi .i64 (.z 1)), (.vi .i64 (.z (-1)))] [.i .i64, .s, .s] 14) <|
              .i (.call f_spec_l20Num [(.vi .i64 (.z 0)), (.vi .i64 (.z 0)), (.vi .i64 (.z 1))] [.s, .s, .i .i64] 17) <|
              .done [(.s (.cons (.g (.cons (.vi .i64 (.z 1)) (.cons (.vi .i64 (.z 0)) (.cons (.vi .i64 (.z 1)) (.cons (.s (.v 15)) (.cons (.s (.v 16)) (.cons (.vi .i64 (.v 14)) .nil))))))) (.cons (.g (.cons (.vi .i64 (.z 2)) (.cons (.vi .i64 (.z 2)) (.cons (.vi .i64 (.z 0)) (.cons (.s (.v 17)) (.cons (.s (.v 18)) (.cons (.vi .i64 (.v 19)) .nil))))))) .nil))), (.s (.v 6)), (.vi .i64 (.v 7))])
             (
              .i (.call f_spec_l20Rd_pick [(.s (.v 6)), (.vi .i64 (.v 7)), (.vi .i64 (.z 5))] [.i .i64, .s, .i .i64] 8) <|
              .loop 11 [.nil, (.bin .add .i64 (.z 1) (.v 8)), (.v 10), (.v 9)] <|
                .ite (.cmp .lt (.z 0) (.v 12))
                 (
                  .i (.call f_spec_l20Line [(.s (.v 14)), (.vi .i64 (.v 13))] [.i .i64, .i .i64, .i .i64, .s, .s, .i .i64, .s, .i .i64] 15) <|
                  .i (.chk (.cmp .le (.len (.v 11)) (.z 879609302220))) <|
                  .i (.head 6 (.v 11)) <|
                  .i (.chk (.cmp .le (.len (.app .nil (.v 11))) (.z 879609302220))) <|
                  .i (.chk (.cmp .le (.len (.app (.app .nil (.v 11)) (.cons (.g (.cons (.vi .i64 (.v 15)) (.cons (.vi .i64 (.v 16)) (.cons (.vi .i64 (.v 17)) (.cons (.s (.v 18)) (.cons (.s (.v 19)) (.cons (.vi .i64 (.v 20)) .nil))))))) .nil))) (.z 879609302220))) <|
                  .i (.call f_spec_ActOk [(.s (.app (.app .nil (.v 11)) (.cons (.g (.cons (.vi .i64 (.v 15)) (.cons (.vi .i64 (.v 16)) (.cons (.vi .i64 (.v 17)) (.cons (.s (.v 18)) (.cons (.s (.v 19)) (.cons (.vi .i64 (.v 20)) .nil))))))) .nil)))] [.b] 23) <|
                  .ite (.v 23)
                   (
                    .i (.chk (.cmp .le (.len (.app (.v 11) (.cons (.g (.cons (.vi .i64 (.v 15)) (.cons (.vi .i64 (.v 16)) (.cons (.vi .i64 (.v 17)) (.cons (.s (.v 18)) (.cons (.s (.v 19)) (.cons (.vi .i64 (.v 20)) .nil))))))) .nil))) (.z 879609302220))) <|
                    .next [(.app (.v 11) (.cons (.g (.cons (.vi .i64 (.v 15)) (.cons (.vi .i64 (.v 16)) (.cons (.vi .i64 (.v 17)) (.cons (.s (.v 18)) (.cons (.s (.v 19)) (.cons (.vi .i64 (.v 20)) .nil))))))) .nil)), (.bin .sub .i64 (.v 12) (.z 1)), (.v 22), (.v 21)])
                   (
                    .next [(.v 11), (.bin .sub .i64 (.v 12) (.z 1)), (.v 22), (.v 21)]))
                 (
                  .esc <|
                  .done [(.s (.v 11)), (.s (.v 14)), (.vi .i64 (.v 13))])))))))
/-- spec_l20Acts -/
def R_spec_l20Acts : R :=
  .i (.call f_spec_l20Rd_pick [(.s (.v 0)), (.vi .i64 (.v 1)), (.vi .i64 (.z 4))] [.i .i64, .s, .i .i64] 2) <|
  .loop 5 [.nil, (.bin .add .i64 (.z 1) (.v 2)), (.v 4), (.v 3)] <|
    .ite (.cmp .lt (.z 0) (.v 6))
     (
      .i (.call f_spec_l20Act [(.s (.v 8)), (.vi .i64 (.v 7))] [.s, .s, .i .i64] 9) <|
      .i (.chk (.cmp .le (.len (.app (.v 5) (.cons (.s (.v 9)) .nil))) (.z 2932031007402))) <|
      .next [(.app (.v 5) (.cons (.s (.v 9)) .nil)), (.bin .sub .i64 (.v 6) (.z 1)), (.v 11), (.v 10)])
     (
      .esc <|
      .done [(.s (.v 5)), (.s (.v 8)), (.vi .i64 (.v 7))])
/-- spec_CatOk -/
def R_spec_CatOk : R :=
  .i (.call f_spec_l1In [(.vi .i64 (.len (.v 0))), (.vi .i64 (.z 1)), (.vi .i64 (.z 4))] [.b] 1) <|
  .ite (.not (.v 1))
   (
    .done [(.vb .ff)])
   (
    .loop 2 [(.z 0)] <|
      .ite (.cmp .lt (.v 2) (.len (.v 0)))
       (
        .i (.idx (.v 0) (.v 2) (.one (.s)) 3) <|
        .i (.call f_spec_ActOk [(.s (.v 3))] [.b] 4) <|
        .ite (.not (.v 4))
         (
          .esc <|
          .done [(.vb .ff)])
         (
          .next [(.bin .add .i64 (.v 2) (.z 1))]))
       (
        .esc <|
        .done [(.vb .tt)]))
/-- spec_FrmPot -/
def R_spec_FrmPot : R :=
  .i (.call f_spec_l1In [(.vi .i64 (.v 0)), (.vi .i64 (.z 0)), (.vi .i64 (.z 2))] [.b] 1) <|
  .ite (.not (.v 1))
   (
    .done [(.s .nil), (.s .nil), (.vi .i64 (.z 0))])
   (
    .i (.call f_spec_FrmZero [] [.s, .s, .i .i64] 2) <|
    .i (.chk (.cmp .le (.z 0) (.v 0))) <|
    .i (.chk (.cmp .lt (.v 0) (.len (.v 2)))) <|
    .i (.idx (.v 2) (.v 0) (.one (.i .i64)) 5) <|
    .done [(.s (.set (.v 2) (.v 0) (.vi .i64 (.z 1)))), (.s (.v 3)), (.vi .i64 (.v 4))])
/-- spec_l1Sum -/
def R_spec_l1Sum : R :=
  .i (.call f_spec_FrmZero [] [.s, .s, .i .i64] 7) <|
  .loop 10 [(.v 7), (.z 0)] <|
    .ite (.cmp .lt (.v 11) (.z 3))
     (
      .i (.idx (.v 0) (.v 11) (.one (.i .i64)) 12) <|
      .i (.idx (.v 3) (.v 11) (.one (.i .i64)) 13) <|
      .i (.chk (.cmp .le (.z 0) (.v 11))) <|
      .i (.chk (.cmp .lt (.v 11) (.len (.v 10)))) <|
      .i (.idx (.v 10) (.v 11) (.one (.i .i64)) 14) <|
      .next [(.set (.v 10) (.v 11) (.vi .i64 (.bin .add .i64 (.v 12) (.bin .mul .i64 (.v 6) (.v 13))))), (.bin .add .i64 (.v 11) (.z 1))])
     (
      .esc <|
      .loop 12 [(.v 8), (.z 0)] <|
        .ite (.cmp .lt (.v 13) (.z 2))
         (
          .i (.idx (.v 1) (.v 13) (.one (.i .i64)) 14) <|
          .i (.idx (.v 4) (.v 13) (.one (.i .i64)) 15) <|
          .i (.chk (.cmp .le (.z 0) (.v 13))) <|
          .i (.chk (.cmp .lt (.v 13) (.len (.v 12)))) <|
          .i (.idx (.v 12) (.v 13) (.one (.i .i64)) 16) <|
          .next [(.set (.v 12) (.v 13) (.vi .i64 (.bin .add .i64 (.v 14) (.bin .mul .i64 (.v 6) (.v 15))))), (.bin .add .i64 (.v 13) (.z 1))])
         (
          .esc <|
          .done [(.s (.v 10)), (.s (.v 12)), (.vi .i64 (.bin .add .i64 (.v 2) (.bin .mul .i64 (.v 6) (.v 5))))]))
/-- spec_l3Copy -/
def R_spec_l3Copy : R :=
  .loop 1 [.nil, (.z 0)] <|
    .ite (.cmp .lt (.v 2) (.len (.v 0)))
     (
      .i (.call f_spec_FrmZero [] [.s, .s, .i .i64] 3) <|
      .i (.idx (.v 0) (.v 2) (.g [.s, .s, .i .i64]) 6) <|
      .i (.call f_spec_l1Sum [(.s (.v 3)), (.s (.v 4)), (.vi .i64 (.v 5)), (.s (.v 6)), (.s (.v 7)), (.vi .i64 (.v 8)), (.vi .i64 (.z 1))] [.s, .s, .i .i64] 9) <|
      .i (.chk (.cmp .le (.len (.app (.v 1) (.cons (.g (.cons (.s (.v 9)) (.cons (.s (.v 10)) (.cons (.vi .i64 (.v 11)) .nil)))) .nil))) (.z 1256584717458))) <|
      .next [(.app (.v 1) (.cons (.g (.cons (.s (.v 9)) (.cons (.s (.v 10)) (.cons (.vi .i64 (.v 11)) .nil)))) .nil)), (.bin .add .i64 (.v 2) (.z 1))])
     (
      .esc <|
      .done [(.s (.v 1))])
/-- spec_FrmOk -/
def R_spec_FrmOk : R :=
  .i (.call f_spec_l1All [(.s (.v 0)), (.vi .i64 (.z 3)), (.vi .i64 (.z 10000000))] [.b] 3) <|
  .ite (.v 3)
   (
    .i (.call f_spec_l1All [(.s (.v 1)), (.vi .i64 (.z 2)), (.vi .i64 (.z 10000000))] [.b] 4) <|
    .ite (.v 4)
     (
      .i (.call f_spec_l1In [(.vi .i64 (.v 2)), (.vi .i64 (.z (-10000000))), (.vi .i64 (.z 10000000))] [.b] 5) <|
      .done [(.vb (.v 5))])
     (
      .done [(.vb .ff)]))
   (
    .done [(.vb .ff)])
/-- spec_FrmInto -/
def R_spec_FrmInto : R :=
  .i (.call f_spec_FrmOk [(.s (.v 0)), (.s (.v 1)), (.vi .i64 (.v 2))] [.b] 4) <|
  .ite (.not (.v 4))
   (
    .done [(.s .nil), (.s .nil), (.vi .i64 (.z 0))])
   (
    .ite (.not (.cmp .eq (.len (.v 3)) (.z 3)))
     (
      .done [(.s .nil), (.s .nil), (.vi .i64 (.z 0))])
     (
      .i (.idx (.v 3) (.z 0) (.g [.s, .s, .i .i64]) 5) <|
      .i (.call f_spec_FrmOk [(.s (.v 5)), (.s (.v 6)), (.vi .i64 (.v 7))] [.b] 8) <|
      .ite (.not (.v 8))
       (
        .done [(.s .nil), (.s .nil), (.vi .i64 (.z 0))])
       (
        .i (.idx (.v 3) (.z 1) (.g [.s, .s, .i .i64]) 9) <|
        .i (.call f_spec_FrmOk [(.s (.v 9)), (.s (.v 10)), (.vi .i64 (.v 11))] [.b] 12) <|
        .ite (.not (.v 12))
         (
          .done [(.s .nil), (.s .nil), (.vi .i64 (.z 0))])
         (
          .i (.idx (.v 3) (.z 2) (.g [.s, .s, .i .i64]) 13) <|
          .i (.call f_spec_FrmOk [(.s (.v 13)), (.s (.v 14)), (.vi .i64 (.v 15))] [.b] 16) <|
          .ite (.not (.v 16))
           (
            .done [(.s .nil), (.s .nil), (.vi .i64 (.z 0))])
           (
            .i (.chk (.cmp .le (.len (.v 1)) (.z 8796093022208))) <|
            .i (.head 1 (.v 1)) <|
            .i (.chk (.cmp .le (.len (.app .nil (.v 1))) (.z 8796093022208))) <|
            .loop 17 [(.cons (.vi .i64 (.z 0)) (.cons (.vi .i64 (.z 0)) (.cons (.vi .i64 (.z 0)) .nil))), (.app .nil (.v 1)), (.z 0), (.v 2)] <|
              .ite (.cmp .lt (.v 19) (.z 3))
               (
                .i (.idx (.v 3) (.v 19) (.g [.s, .s, .i .i64]) 21) <|
                .i (.idx (.v 0) (.v 19) (.one (.i .i64)) 24) <|
                .i (.call f_spec_l1Sum [(.s (.v 17)), (.s (.v 18)), (.vi .i64 (.v 20)), (.s (.v 21)), (.s (.v 22)), (.vi .i64 (.v 23)), (.vi .i64 (.v 24))] [.s, .s, .i .i64] 25) <|
                .next [(.v 25), (.v 26), (.bin .add .i64 (.v 19) (.z 1)), (.v 27)])
               (
                .esc <|
                .i (.call f_spec_FrmOk [(.s (.v 17)), (.s (.v 18)), (.vi .i64 (.v 20))] [.b] 21) <|
                .ite (.not (.v 21))
                 (
                  .done [(.s .nil), (.s .nil), (.vi .i64 (.z 0))])
                 (
                  .done [(.s (.v 17)), (.s (.v 18)), (.vi .i64 (.v 20))])))))))
/-- spec_l3Minus -/
def R_spec_l3Minus : R :=
  .i (.call f_spec_FrmZero [] [.s, .s, .i .i64] 3) <|
  .i (.call f_spec_l1Sum [(.s (.v 3)), (.s (.v 4)), (.vi .i64 (.v 5)), (.s (.v 0)), (.s (.v 1)), (.vi .i64 (.v 2)), (.vi .i64 (.z (-1)))] [.s, .s, .i .i64] 6) <|
  .done [(.s (.v 6)), (.s (.v 7)), (.vi .i64 (.bin .sub .i64 (.v 8) (.z 1)))]
/-- spec_l3Row -/
def R_spec_l3Row : R :=
  .i (.call f_spec_l3Copy [(.s (.v 1))] [.s] 3) <|
  .i (.call f_spec_l3Copy [(.s (.v 2))] [.s] 4) <|
  .loop 5 [.nil, (.z 0)] <|
    .ite (.cmp .lt (.v 6) (.z 3))
     (
      .i (.idx (.v 0) (.v 6) (.g [.s, .s, .i .i64]) 7) <|
      .i (.call f_spec_FrmPot [(.vi .i64 (.v 6))] [.s, .s, .i .i64] 10) <|
      .i (.call f_spec_l1Sum [(.s (.v 7)), (.s (.v 8)), (.vi .i64 (.v 9)), (.s (.v 10)), (.s (.v 11)), (.vi .i64 (.v 12)), (.vi .i64 (.z (-1)))] [.s, .s, .i .i64] 13) <|
      .i (.chk (.cmp .le (.len (.app (.v 5) (.cons (.g (.cons (.s (.v 13)) (.cons (.s (.v 14)) (.cons (.vi .i64 (.v 15)) .nil)))) .nil))) (.z 1256584717458))) <|
      .next [(.app (.v 5) (.cons (.g (.cons (.s (.v 13)) (.cons (.s (.v 14)) (.cons (.vi .i64 (.v 15)) .nil)))) .nil)), (.bin .add .i64 (.v 6) (.z 1))])
     (
      .esc <|
      .done [(.s (.v 3)), (.s (.v 5)), (.s (.v 4)), (.vb .ff)])
/-- spec_l3Walk -/
def R_spec_l3Walk : R :=
  .loop 5 [(.v 2), (.v 4), (.v 1)] <|
    .ite (.cmp .lt (.v 7) (.len (.v 0)))
     (
      .i (.idx (.v 0) (.v 7) (.g [.i .i64, .i .i64, .i .i64, .s, .s, .i .i64]) 8) <|
      .ite (.cmp .eq (.v 8) (.z 4))
       (
        .i (.call f_spec_l3Copy [(.s (.v 3))] [.s] 14) <|
        .esc <|
        .done [(.s (.cons (.g (.cons (.s (.v 14)) (.cons (.s .nil) (.cons (.s .nil) (.cons (.vb .tt) .nil))))) .nil))])
       (
        .i (.call f_spec_FrmInto [(.s (.v 11)), (.s (.v 12)), (.vi .i64 (.v 13)), (.s (.v 5))] [.s, .s, .i .i64] 14) <|
        .ite (.cmp .eq (.v 8) (.z 1))
         (
          .i (.call f_spec_l3Copy [(.s (.v 5))] [.s] 17) <|
          .i (.call f_spec_l3Copy [(.s (.v 3))] [.s] 18) <|
          .i (.chk (.cmp .le (.len (.app (.v 18) (.cons (.g (.cons (.s (.v 14)) (.cons (.s (.v 15)) (.cons (.vi .i64 (.v 16)) .nil)))) .nil))) (.z 1256584717458))) <|
          .i (.call f_spec_l3Copy [(.s (.v 6))] [.s] 19) <|
          .i (.call f_spec_l3Walk [(.s (.v 0)), (.vi .i64 (.bin .add .i64 (.v 7) (.z 1))), (.s (.v 17)), (.s (.app (.v 18) (.cons (.g (.cons (.s (.v 14)) (.cons (.s (.v 15)) (.cons (.vi .i64 (.v 16)) .nil)))) .nil))), (.s (.v 19))] [.s] 20) <|
          .i (.call f_spec_l3Copy [(.s (.v 5))] [.s] 21) <|
          .i (.call f_spec_l3Copy [(.s (.v 3))] [.s] 22) <|
          .i (.call f_spec_l3Minus [(.s (.v 14)), (.s (.v 15)), (.vi .i64 (.v 16))] [.s, .s, .i .i64] 23) <|
          .i (.chk (.cmp .le (.len (.app (.v 22) (.cons (.g (.cons (.s (.v 23)) (.cons (.s (.v 24)) (.cons (.vi .i64 (.v 25)) .nil)))) .nil))) (.z 1256584717458))) <|
          .i (.call f_spec_l3Copy [(.s (.v 6))] [.s] 26) <|
          .i (.call f_spec_l3Walk [(.s (.v 0)), (.vi .i64 (.bin .add .i64 (.bin .add .i64 (.v 7) (.z 1)) (.v 10))), (.s (.v 21)), (.s (.app (.v 22) (.cons (.g (.cons (.s (.v 23)) (.cons (.s (.v 24)) (.cons (.vi .i64 (.v 25)) .nil)))) .nil))), (.s (.v 26))] [.s] 27) <|
          .i (.chk (.cmp .le (.len (.v 27)) (.z 879609302220))) <|
          .i (.head 4 (.v 27)) <|
          .i (.chk (.cmp .le (.len (.app (.v 20) (.v 27))) (.z 879609302220))) <|
          .esc <|
          .done [(.s (.app (.v 20) (.v 27)))])
         (
          .ite (.cmp .eq (.v 8) (.z 2))
           (
            .i (.call f_spec_l3Copy [(.s (.v 5))] [.s] 17) <|
            .i (.chk (.cmp .le (.z 0) (.v 9))) <|
            .i (.chk (.cmp .lt (.v 9) (.len (.v 17)))) <|
            .i (.idx (.v 17) (.v 9) (.g [.s, .s, .i .i64]) 18) <|
            .i (.call f_spec_l1Sum [(.s (.v 18)), (.s (.v 19)), (.vi .i64 (.v 20)), (.s (.v 14)), (.s (.v 15)), (.vi .i64 (.v 16)), (.vi .i64 (.z 1))] [.s, .s, .i .i64] 21) <|
            .i (.chk (.cmp .le (.z 0) (.v 9))) <|
            .i (.chk (.cmp .lt (.v 9) (.len (.v 17)))) <|
            .i (.idx (.v 17) (.v 9) (.g [.s, .s, .i .i64]) 24) <|
            .next [(.set (.v 17) (.v 9) (.g (.cons (.s (.v 21)) (.cons (.s (.v 22)) (.cons (.vi .i64 (.v 23)) .nil))))), (.v 6), (.bin .add .i64 (.v 7) (.z 1))])
           (
            .i (.call f_spec_l3Copy [(.s (.v 6))] [.s] 17) <|
            .i (.chk (.cmp .le (.len (.app (.v 17) (.cons (.g (.cons (.s (.v 14)) (.cons (.s (.v 15)) (.cons (.vi .i64 (.v 16)) .nil)))) .nil))) (.z 1256584717458))) <|
            .next [(.v 5), (.app (.v 17) (.cons (.g (.cons (.s (.v 14)) (.cons (.s (.v 15)) (.cons (.vi .i64 (.v 16)) .nil)))) .nil)), (.bin .add .i64 (.v 7) (.z 1))]))))
     (
      .esc <|
      .i (.call f_spec_l3Row [(.s (.v 5)), (.s (.v 3)), (.s (.v 6))] [.s, .s, .s, .b] 8) <|
      .done [(.s (.cons (.g (.cons (.s (.v 8)) (.cons (.s (.v 9)) (.cons (.s (.v 10)) (.cons (.vb (.v 11)) .nil))))) .nil))])
/-- spec_RowsOf -/
def R_spec_RowsOf : R :=
  .i (.call f_spec_ActOk [(.s (.v 0))] [.b] 1) <|
  .ite (.not (.v 1))
   (
    .done [(.s .nil)])
   (
    .i (.call f_spec_FrmPot [(.vi .i64 (.z 0))] [.s, .s, .i .i64] 2) <|
    .i (.call f_spec_FrmPot [(.vi .i64 (.z 1))] [.s, .s, .i .i64] 5) <|
    .i (.call f_spec_FrmPot [(.vi .i64 (.z 2))] [.s, .s, .i .i64] 8) <|
    .i (.call f_spec_l3Walk [(.s (.v 0)), (.vi .i64 (.z 0)), (.s (.cons (.g (.cons (.s (.v 2)) (.cons (.s (.v 3)) (.cons (.vi .i64 (.v 4)) .nil)))) (.cons (.g (.cons (.s (.v 5)) (.cons (.s (.v 6)) (.cons (.vi .i64 (.v 7)) .nil)))) (.cons (.g (.cons (.s (.v 8)) (.cons (.s (.v 9)) (.cons (.vi .i64 (.v 10)) .nil)))) .nil)))), (.s .nil), (.s .nil)] [.s] 11) <|
    .done [(.s (.v 11))])
/-- spec_l4Reads -/
def R_spec_l4Reads : R :=
  .i (.chk (.cmp .le (.len (.v 0)) (.z 70368744177664))) <|
  .i (.head 1 (.v 0)) <|
  .i (.chk (.cmp .le (.len (.app .nil (.v 0))) (.z 70368744177664))) <|
  .loop 2 [(.app .nil (.v 0)), (.z 0)] <|
    .ite (.cmp .lt (.v 3) (.len (.v 1)))
     (
      .loop 4 [(.v 2), (.z 0)] <|
        .ite (.cmp .lt (.v 5) (.z 3))
         (
          .i (.idx (.v 1) (.v 3) (.g [.s, .s, .i .i64]) 6) <|
          .i (.idx (.v 6) (.v 5) (.one (.i .i64)) 9) <|
          .ite (.not (.cmp .eq (.v 9) (.z 0)))
           (
            .i (.chk (.cmp .le (.z 0) (.v 5))) <|
            .i (.chk (.cmp .lt (.v 5) (.len (.v 4)))) <|
            .i (.idx (.v 4) (.v 5) (.one (.b)) 10) <|
            .next [(.set (.v 4) (.v 5) (.vb .tt)), (.bin .add .i64 (.v 5) (.z 1))])
           (
            .next [(.v 4), (.bin .add .i64 (.v 5) (.z 1))]))
         (
          .esc <|
          .next [(.v 4), (.bin .add .i64 (.v 3) (.z 1))]))
     (
      .esc <|
      .done [(.s (.v 2))])
/-- spec_CatPart -/
def R_spec_CatPart : R :=
  .loop 3 [.nil, (.z 0), (.z 0)] <|
    .ite (.cmp .lt (.v 5) (.len (.v 0)))
     (
      .ite (.cmp .eq (.v 4) (.z 0))
       (
        .i (.idx (.v 0) (.v 5) (.one (.i .i64)) 6) <|
        .ite (.cmp .lt (.z 0) (.v 6))
         (
          .i (.idx (.v 0) (.v 5) (.one (.i .i64)) 7) <|
          .i (.chk (.cmp .le (.len (.app (.v 3) (.cons (.vi .i64 (.bin .mul .i64 (.z 1) (.v 7))) .nil))) (.z 8796093022208))) <|
          .next [(.app (.v 3) (.cons (.vi .i64 (.bin .mul .i64 (.z 1) (.v 7))) .nil)), (.z 1), (.bin .add .i64 (.v 5) (.z 1))])
         (
          .ite (.cmp .eq (.v 4) (.z 0))
           (
            .i (.idx (.v 0) (.v 5) (.one (.i .i64)) 7) <|
            .ite (.cmp .lt (.v 7) (.z 0))
             (
              .i (.idx (.v 0) (.v 5) (.one (.i .i64)) 8) <|
              .i (.chk (.cmp .le (.len (.app (.v 3) (.cons (.vi .i64 (.bin .mul .i64 (.z (-1)) (.v 8))) .nil))) (.z 8796093022208))) <|
              .next [(.app (.v 3) (.cons (.vi .i64 (.bin .mul .i64 (.z (-1)) (.v 8))) .nil)), (.z (-1)), (.bin .add .i64 (.v 5) (.z 1))])
             (
              .i (.idx (.v 0) (.v 5) (.one (.i .i64)) 8) <|
              .i (.chk (.cmp .le (.len (.app (.v 3) (.cons (.vi .i64 (.bin .mul .i64 (.v 4) (.v 8))) .nil))) (.z 8796093022208))) <|
              .next [(.app (.v 3) (.cons (.vi .i64 (.bin .mul .i64 (.v 4) (.v 8))) .nil)), (.v 4), (.bin .add .i64 (.v 5) (.z 1))]))
           (
            .i (.idx (.v 0) (.v 5) (.one (.i .i64)) 7) <|
            .i (.chk (.cmp .le (.len (.app (.v 3) (.cons (.vi .i64 (.bin .mul .i64 (.v 4) (.v 7))) .nil))) (.z 8796093022208))) <|
            .next [(.app (.v 3) (.cons (.vi .i64 (.bin .mul .i64 (.v 4) (.v 7))) .nil)), (.v 4), (.bin .add .i64 (.v 5) (.z 1))])))
       (
        .ite (.cmp .eq (.v 4) (.z 0))
         (
          .i (.idx (.v 0) (.v 5) (.one (.i .i64)) 6) <|
          .ite (.cmp .lt (.v 6) (.z 0))
           (
            .i (.idx (.v 0) (.v 5) (.one (.i .i64)) 7) <|
            .i (.chk (.cmp .le (.len (.app (.v 3) (.cons (.vi .i64 (.bin .mul .i64 (.z (-1)) (.v 7))) .nil))) (.z 8796093022208))) <|
            .next [(.app (.v 3) (.cons (.vi .i64 (.bin .mul .i64 (.z (-1)) (.v 7))) .nil)), (.z (-1)), (.bin .add .i64 (.v 5) (.z 1))])
           (
            .i (.idx (.v 0) (.v 5) (.one (.i .i64)) 7) <|
            .i (.chk (.cmp .le (.len (.app (.v 3) (.cons (.vi .i64 (.bin .mul .i64 (.v 4) (.v 7))) .nil))) (.z 8796093022208))) <|
            .next [(.app (.v 3) (.cons (.vi .i64 (.bin .mul .i64 (.v 4) (.v 7))) .nil)), (.v 4), (.bin .add .i64 (.v 5) (.z 1))]))
         (
          .i (.idx (.v 0) (.v 5) (.one (.i .i64)) 6) <|
          .i (.chk (.cmp .le (.len (.app (.v 3) (.cons (.vi .i64 (.bin .mul .i64 (.v 4) (.v 6))) .nil))) (.z 8796093022208))) <|
          .next [(.app (.v 3) (.cons (.vi .i64 (.bin .mul .i64 (.v 4) (.v 6))) .nil)), (.v 4), (.bin .add .i64 (.v 5) (.z 1))])))
     (
      .esc <|
      .done [(.s (.v 3))])
/-- spec_l4Same -/
def R_spec_l4Same : R :=
  .ite (.not (.cmp .eq (.len (.v 0)) (.len (.v 1))))
   (
    .done [(.vb .ff)])
   (
    .loop 2 [(.z 0)] <|
      .ite (.cmp .lt (.v 2) (.len (.v 0)))
       (
        .i (.idx (.v 0) (.v 2) (.one (.i .i64)) 3) <|
        .i (.idx (.v 1) (.v 2) (.one (.i .i64)) 4) <|
        .ite (.not (.cmp .eq (.v 3) (.v 4)))
         (
          .esc <|
          .done [(.vb .ff)])
         (
          .next [(.bin .add .i64 (.v 2) (.z 1))]))
       (
        .esc <|
        .done [(.vb .tt)]))
/-- spec_CatHas -/
def R_spec_CatHas : R :=
  .loop 2 [(.z 0)] <|
    .ite (.cmp .lt (.v 2) (.len (.v 0)))
     (
      .i (.idx (.v 0) (.v 2) (.one (.s)) 3) <|
      .i (.call f_spec_l4Same [(.s (.v 3)), (.s (.v 1))] [.b] 4) <|
      .ite (.v 4)
       (
        .esc <|
        .done [(.vi .i64 (.v 2))])
       (
        .next [(.bin .add .i64 (.v 2) (.z 1))]))
     (
      .esc <|
      .done [(.vi .i64 (.z (-1)))])
/-- spec_l4Both -/
def R_spec_l4Both : R :=
  .loop 1 [.nil, (.z 0)] <|
    .ite (.cmp .lt (.v 2) (.z 3))
     (
      .i (.call f_spec_FrmPot [(.vi .i64 (.v 2))] [.s, .s, .i .i64] 3) <|
      .i (.chk (.cmp .le (.len (.app (.v 1) (.cons (.s (.v 3)) .nil))) (.z 2932031007402))) <|
      .next [(.app (.v 1) (.cons (.s (.v 3)) .nil)), (.bin .add .i64 (.v 2) (.z 1))])
     (
      .esc <|
      .loop 3 [(.v 1), (.cons (.vb .ff) (.cons (.vb .ff) (.cons (.vb .ff) .nil))), (.z 0)] <|
        .ite (.cmp .lt (.v 5) (.len (.v 0)))
         (
          .i (.idx (.v 0) (.v 5) (.one (.s)) 6) <|
          .i (.call f_spec_RowsOf [(.s (.v 6))] [.s] 7) <|
          .loop 8 [(.v 3), (.v 4), (.z 0)] <|
            .ite (.cmp .lt (.v 10) (.len (.v 7)))
             (
              .i (.chk (.cmp .le (.z 0) (.v 10))) <|
              .i (.chk (.cmp .lt (.v 10) (.len (.v 7)))) <|
              .i (.idx (.v 7) (.v 10) (.g [.s, .s, .s, .b]) 11) <|
              .i (.call f_spec_l4Reads [(.s (.v 9)), (.s (.v 12))] [.s] 15) <|
              .i (.chk (.cmp .le (.z 0) (.v 10))) <|
              .i (.chk (.cmp .lt (.v 10) (.len (.v 7)))) <|
              .i (.idx (.v 7) (.v 10) (.g [.s, .s, .s, .b]) 16) <|
              .i (.call f_spec_l4Reads [(.s (.v 15)), (.s (.v 18))] [.s] 20) <|
              .loop 21 [(.v 8), (.z 0)] <|
                .i (.chk (.cmp .le (.z 0) (.v 10))) <|
                .i (.chk (.cmp .lt (.v 10) (.len (.v 7)))) <|
                .i (.idx (.v 7) (.v 10) (.g [.s, .s, .s, .b]) 23) <|
                .ite (.cmp .lt (.v 22) (.len (.v 23)))
                 (
                  .i (.chk (.cmp .le (.z 0) (.v 10))) <|
                  .i (.chk (.cmp .lt (.v 10) (.len (.v 7)))) <|
                  .i (.idx (.v 7) (.v 10) (.g [.s, .s, .s, .b]) 27) <|
                  .i (.idx (.v 27) (.v 22) (.g [.s, .s, .i .i64]) 31) <|
                  .i (.call f_spec_CatPart [(.s (.v 31)), (.s (.v 32)), (.vi .i64 (.v 33))] [.s] 34) <|
                  .i (.call f_spec_CatHas [(.s (.v 21)), (.s (.v 34))] [.i .i64] 35) <|
                  .ite (.cmp .lt (.v 35) (.z 0))
                   (
                    .i (.call f_spec_FrmZero [] [.s, .s, .i .i64] 36) <|
                    .i (.call f_spec_l4Same [(.s (.v 34)), (.s (.v 36))] [.b] 39) <|
                    .ite (.not (.v 39))
                     (
                      .i (.chk (.cmp .le (.len (.app (.v 21) (.cons (.s (.v 34)) .nil))) (.z 2932031007402))) <|
                      .next [(.app (.v 21) (.cons (.s (.v 34)) .nil)), (.bin .add .i64 (.v 22) (.z 1))])
                     (
                      .next [(.v 21), (.bin .add .i64 (.v 22) (.z 1))]))
                   (
                    .next [(.v 21), (.bin .add .i64 (.v 22) (.z 1))]))
                 (
                  .esc <|
                  .next [(.v 21), (.v 20), (.bin .add .i64 (.v 10) (.z 1))]))
             (
              .esc <|
              .next [(.v 8), (.v 9), (.bin .add .i64 (.v 5) (.z 1))]))
         (
          .esc <|
          .done [(.s (.v 3)), (.s (.v 4))]))
/-- spec_CatForms -/
def R_spec_CatForms : R :=
  .i (.call f_spec_CatOk [(.s (.v 0))] [.b] 1) <|
  .ite (.not (.v 1))
   (
    .done [(.s .nil)])
   (
    .i (.call f_spec_l4Both [(.s (.v 0))] [.s, .s] 2) <|
    .done [(.s (.v 2))])
/-- spec_DrawTrtAll -/
def R_spec_DrawTrtAll : R :=
  .i (.call f_spec_l20Open [(.s (.v 0))] [.s, .i .i64] 1) <|
  .i (.call f_spec_l20Treaty [(.s (.v 1)), (.vi .i64 (.v 2)), (.vi .i64 (.z 12))] [.s, .s, .s, .i .i64] 3) <|
  .loop 7 [.nil, (.z 0), (.v 6), (.v 5)] <|
    .ite (.cmp .lt (.v 8) (.len (.v 4)))
     (
      .i (.call f_spec_l20Added [(.s (.v 10)), (.vi .i64 (.v 9)), (.vi .i64 (.z 16))] [.s, .s, .i .i64] 11) <|
      .i (.chk (.cmp .le (.len (.app (.v 7) (.cons (.s (.v 11)) .nil))) (.z 2932031007402))) <|
      .next [(.app (.v 7) (.cons (.s (.v 11)) .nil)), (.bin .add .i64 (.v 8) (.z 1)), (.v 13), (.v 12)])
     (
      .esc <|
      .i (.call f_spec_l20Rd_pick [(.s (.v 10)), (.vi .i64 (.v 9)), (.vi .i64 (.z 12))] [.i .i64, .s, .i .i64] 11) <|
      .ite (.cmp .eq (.v 11) (.z 0))
       (
        .i (.chk (.cmp .le (.len (.app (.v 7) (.cons (.s (.cons (.vi .i64 (.z 0)) (.cons (.vi .i64 (.z 0)) (.cons (.vi .i64 (.z 0)) .nil)))) .nil))) (.z 2932031007402))) <|
        .i (.call f_spec_l20Acts [(.s (.v 12)), (.vi .i64 (.v 13))] [.s, .s, .i .i64] 14) <|
        .i (.call f_spec_CatForms [(.s (.v 14))] [.s] 17) <|
        .done [(.s (.v 3)), (.s (.v 4)), (.s (.v 17)), (.s (.app (.v 7) (.cons (.s (.cons (.vi .i64 (.z 0)) (.cons (.vi .i64 (.z 0)) (.cons (.vi .i64 (.z 0)) .nil)))) .nil)))])
       (
        .i (.call f_spec_l20Acts [(.s (.v 12)), (.vi .i64 (.v 13))] [.s, .s, .i .i64] 14) <|
        .i (.call f_spec_CatForms [(.s (.v 14))] [.s] 17) <|
        .done [(.s (.v 3)), (.s (.v 4)), (.s (.v 17)), (.s (.v 7))]))
/-- impl_in -/
def R_impl_in : R :=
  .ite (.cmp .le (.v 1) (.v 0))
   (
    .done [(.vb (.cmp .le (.v 0) (.v 2)))])
   (
    .done [(.vb .ff)])
/-- impl_TrtOk_1 -/
def R_impl_TrtOk_1 : R :=
  .i (.call f_impl_in [(.vi .i64 (.v 0)), (.vi .i64 (.z 0)), (.vi .i64 (.z 50))] [.b] 1) <|
  .done [(.vb (.not (.v 1)))]
/-- impl_within_1 -/
def R_impl_within_1 : R :=
  .i (.get (.da 1) (.q [.i .i64]) 2) <|
  .i (.get (.da 1) (.q [.i .i64]) 3) <|
  .i (.call f_impl_in [(.vi .i64 (.v 0)), (.vi .i64 (.bin .sub .i64 (.z 0) (.v 2))), (.vi .i64 (.v 3))] [.b] 4) <|
  .done [(.vb (.not (.v 4)))]
/-- slices_IndexFunc_Sint_int -/
def R_slices_IndexFunc_Sint_int : R :=
  .loop 2 [(.z 0)] <|
    .ite (.cmp .lt (.v 2) (.len (.v 0)))
     (
      .i (.idx (.v 0) (.v 2) (.one (.i .i64)) 3) <|
      .i (.callv (.da 1) [(.vi .i64 (.v 3))] [none] [.b] 4) <|
      .ite (.v 4)
       (
        .esc <|
        .done [(.vi .i64 (.v 2))])
       (
        .next [(.bin .add .i64 (.v 2) (.z 1))]))
     (
      .esc <|
      .done [(.vi .i64 (.z (-1)))])
/-- slices_ContainsFunc_Sint_int -/
def R_slices_ContainsFunc_Sint_int : R :=
  .i (.call f_slices_IndexFunc_Sint_int [(.s (.v 0)), (.da 1)] [.i .i64] 2) <|
  .done [(.vb (.cmp .le (.z 0) (.v 2)))]
/-- impl_within -/
def R_impl_within : R :=
  .ite (.cmp .eq (.len (.v 0)) (.v 1))
   (
    .i (.call f_slices_ContainsFunc_Sint_int [(.s (.v 0)), (.fn f_impl_within_1 (.cons (.q (.cons (.vi .i64 (.v 2)) .nil)) .nil))] [.b] 3) <|
    .done [(.vb (.not (.v 3)))])
   (
    .done [(.vb .ff)])
/-- impl_ValOk -/
def R_impl_ValOk : R :=
  .i (.call f_impl_within [(.s (.v 0)), (.vi .i64 (.z 3)), (.vi .i64 (.z 10000))] [.b] 1) <|
  .done [(.vb (.v 1))]
/-- impl_TrtOk -/
def R_impl_TrtOk : R :=
  .i (.call f_impl_ValOk [(.s (.v 0))] [.b] 2) <|
  .ite (.v 2)
   (
    .i (.call f_impl_in [(.vi .i64 (.len (.v 1))), (.vi .i64 (.z 1)), (.vi .i64 (.z 3))] [.b] 3) <|
    .ite (.v 3)
     (
      .i (.call f_slices_ContainsFunc_Sint_int [(.s (.v 1)), (.fn f_impl_TrtOk_1 .nil)] [.b] 4) <|
      .done [(.vb (.not (.v 4)))])
     (
      .done [(.vb .ff)]))
   (
    .done [(.vb .ff)])
/-- slices_IndexFunc_SSint_Sint -/
def R_slices_IndexFunc_SSint_Sint : R :=
  .loop 2 [(.z 0)] <|
    .ite (.cmp .lt (.v 2) (.len (.v 0)))
     (
      .i (.idx (.v 0) (.v 2) (.one (.s)) 3) <|
      .i (.callv (.da 1) [(.s (.v 3))] [none] [.b] 4) <|
      .ite (.v 4)
       (
        .esc <|
        .done [(.vi .i64 (.v 2))])
       (
        .next [(.bin .add .i64 (.v 2) (.z 1))]))
     (
      .esc <|
      .done [(.vi .i64 (.z (-1)))])
/-- slices_ContainsFunc_SSint_Sint -/
def R_slices_ContainsFunc_SSint_Sint : R :=
  .i (.call f_slices_IndexFunc_SSint_Sint [(.s (.v 0)), (.da 1)] [.i .i64] 2) <|
  .done [(.vb (.cmp .le (.z 0) (.v 2)))]
/-- impl_partsOk_1 -/
def R_impl_partsOk_1 : R :=
  .i (.call f_impl_within [(.s (.v 0)), (.vi .i64 (.z 3)), (.vi .i64 (.z 10000000))] [.b] 1) <|
  .done [(.vb (.not (.v 1)))]
/-- impl_partsOk -/
def R_impl_partsOk : R :=
  .i (.call f_slices_ContainsFunc_SSint_Sint [(.s (.v 0)), (.fn f_impl_partsOk_1 .nil)] [.b] 1) <|
  .done [(.vb (.not (.v 1)))]
/-- impl_addedOk -/
def R_impl_addedOk : R :=
  .i (.call f_impl_within [(.s (.v 0)), (.vi .i64 (.z 3)), (.vi .i64 (.z 20000))] [.b] 1) <|
  .done [(.vb (.v 1))]
/-- impl_TrtTreaty_ok -/
def R_impl_TrtTreaty_ok : R :=
  .i (.call f_impl_TrtOk [(.s (.v 0)), (.s (.v 1))] [.b] 5) <|
  .ite (.v 5)
   (
    .i (.call f_impl_partsOk [(.s (.v 2))] [.b] 6) <|
    .ite (.v 6)
     (
      .i (.call f_impl_in [(.vi .i64 (.v 3)), (.vi .i64 (.z 0)), (.vi .i64 (.bin .sub .i64 (.len (.v 1)) (.z 1)))] [.b] 7) <|
      .ite (.v 7)
       (
        .i (.call f_impl_addedOk [(.s (.v 4))] [.b] 8) <|
        .done [(.vb (.v 8))])
       (
        .done [(.vb .ff)]))
     (
      .done [(.vb .ff)]))
   (
    .done [(.vb .ff)])
/-- impl_dot -/
def R_impl_dot : R :=
  .loop 2 [(.z 0), (.z 0)] <|
    .ite (.cmp .lt (.v 3) (.len (.v 0)))
     (
      .i (.idx (.v 0) (.v 3) (.one (.i .i64)) 4) <|
      .i (.idx (.v 1) (.v 3) (.one (.i .i64)) 5) <|
      .next [(.bin .add .i64 (.v 2) (.bin .mul .i64 (.v 4) (.v 5))), (.bin .add .i64 (.v 3) (.z 1))])
     (
      .esc <|
      .done [(.vi .i64 (.v 2))])
/-- impl_TrtKeeps_1 -/
def R_impl_TrtKeeps_1 : R :=
  .i (.get (.da 1) (.q [.s]) 3) <|
  .i (.call f_impl_dot [(.s (.v 0)), (.s (.v 3))] [.i .i64] 4) <|
  .i (.get (.da 2) (.q [.i .i64]) 5) <|
  .i (.get (.da 2) (.q [.i .i64]) 6) <|
  .i (.call f_impl_in [(.vi .i64 (.v 4)), (.vi .i64 (.bin .sub .i64 (.z 0) (.v 5))), (.vi .i64 (.v 6))] [.b] 7) <|
  .done [(.vb (.not (.v 7)))]
/-- impl_TrtKeeps -/
def R_impl_TrtKeeps : R :=
  .i (.call f_impl_TrtTreaty_ok [(.s (.v 0)), (.s (.v 1)), (.s (.v 2)), (.vi .i64 (.v 3)), (.s (.v 4))] [.b] 5) <|
  .ite (.not (.v 5))
   (
    .done [(.vb .ff)])
   (
    .i (.idx (.v 1) (.v 3) (.one (.i .i64)) 6) <|
    .i (.call f_slices_ContainsFunc_SSint_Sint [(.s (.v 2)), (.fn f_impl_TrtKeeps_1 (.cons (.q (.cons (.s (.v 4)) .nil)) (.cons (.q (.cons (.vi .i64 (.v 6)) .nil)) .nil)))] [.b] 7) <|
    .done [(.vb (.not (.v 7)))])
/-- impl_TrtAll -/
def R_impl_TrtAll : R :=
  .i (.call f_impl_TrtOk [(.s (.v 0)), (.s (.v 1))] [.b] 4) <|
  .ite (.not (.v 4))
   (
    .done [(.vb .ff)])
   (
    .ite (.not (.cmp .eq (.len (.v 3)) (.len (.v 1))))
     (
      .done [(.vb .ff)])
     (
      .loop 5 [(.z 0)] <|
        .ite (.cmp .lt (.v 5) (.len (.v 3)))
         (
          .i (.idx (.v 3) (.v 5) (.one (.s)) 6) <|
          .i (.call f_impl_TrtKeeps [(.s (.v 0)), (.s (.v 1)), (.s (.v 2)), (.vi .i64 (.v 5)), (.s (.v 6))] [.b] 7) <|
          .ite (.not (.v 7))
           (
            .esc <|
            .done [(.vb .ff)])
           (
            .next [(.bin .add .i64 (.v 5) (.z 1))]))
         (
          .esc <|
          .done [(.vb .tt)])))
/-- spec_ValOk -/
def R_spec_ValOk : R :=
  .i (.call f_spec_l1All [(.s (.v 0)), (.vi .i64 (.z 3)), (.vi .i64 (.z 10000))] [.b] 1) <|
  .done [(.vb (.v 1))]
/-- spec_TrtOk -/
def R_spec_TrtOk : R :=
  .i (.call f_spec_ValOk [(.s (.v 0))] [.b] 2) <|
  .ite (.not (.v 2))
   (
    .done [(.vb .ff)])
   (
    .i (.call f_spec_l1In [(.vi .i64 (.len (.v 1))), (.vi .i64 (.z 1)), (.vi .i64 (.z 3))] [.b] 3) <|
    .ite (.not (.v 3))
     (
      .done [(.vb .ff)])
     (
      .loop 4 [(.z 0)] <|
        .ite (.cmp .lt (.v 4) (.len (.v 1)))
         (
          .i (.idx (.v 1) (.v 4) (.one (.i .i64)) 5) <|
          .i (.call f_spec_l1In [(.vi .i64 (.v 5)), (.vi .i64 (.z 0)), (.vi .i64 (.z 50))] [.b] 6) <|
          .ite (.not (.v 6))
           (
            .esc <|
            .done [(.vb .ff)])
           (
            .next [(.bin .add .i64 (.v 4) (.z 1))]))
         (
          .esc <|
          .done [(.vb .tt)])))
/-- spec_l5Parts -/
def R_spec_l5Parts : R :=
  .loop 1 [(.z 0)] <|
    .ite (.cmp .lt (.v 1) (.len (.v 0)))
     (
      .i (.idx (.v 0) (.v 1) (.one (.s)) 2) <|
      .i (.call f_spec_l1All [(.s (.v 2)), (.vi .i64 (.z 3)), (.vi .i64 (.z 10000000))] [.b] 3) <|
      .ite (.not (.v 3))
       (
        .esc <|
        .done [(.vb .ff)])
       (
        .next [(.bin .add .i64 (.v 1) (.z 1))]))
     (
      .esc <|
      .done [(.vb .tt)])
/-- spec_l5Times -/
def R_spec_l5Times : R :=
  .loop 2 [(.z 0), (.z 0)] <|
    .ite (.cmp .lt (.v 3) (.z 3))
     (
      .i (.idx (.v 0) (.v 3) (.one (.i .i64)) 4) <|
      .i (.idx (.v 1) (.v 3) (.one (.i .i64)) 5) <|
      .next [(.bin .add .i64 (.v 2) (.bin .mul .i64 (.v 4) (.v 5))), (.bin .add .i64 (.v 3) (.z 1))])
     (
      .esc <|
      .done [(.vi .i64 (.v 2))])
/-- spec_TrtKeeps -/
def R_spec_TrtKeeps : R :=
  .i (.call f_spec_TrtOk [(.s (.v 0)), (.s (.v 1))] [.b] 5) <|
  .ite (.not (.v 5))
   (
    .done [(.vb .ff)])
   (
    .i (.call f_spec_l5Parts [(.s (.v 2))] [.b] 6) <|
    .ite (.not (.v 6))
     (
      .done [(.vb .ff)])
     (
      .i (.call f_spec_l1In [(.vi .i64 (.v 3)), (.vi .i64 (.z 0)), (.vi .i64 (.bin .sub .i64 (.len (.v 1)) (.z 1)))] [.b] 7) <|
      .ite (.not (.v 7))
       (
        .done [(.vb .ff)])
       (
        .i (.call f_spec_l1All [(.s (.v 4)), (.vi .i64 (.z 3)), (.vi .i64 (.z 20000))] [.b] 8) <|
        .ite (.not (.v 8))
         (
          .done [(.vb .ff)])
         (
          .loop 9 [(.z 0)] <|
            .ite (.cmp .lt (.v 9) (.len (.v 2)))
             (
              .i (.idx (.v 2) (.v 9) (.one (.s)) 10) <|
              .i (.call f_spec_l5Times [(.s (.v 10)), (.s (.v 4))] [.i .i64] 11) <|
              .i (.idx (.v 1) (.v 3) (.one (.i .i64)) 12) <|
              .i (.idx (.v 1) (.v 3) (.one (.i .i64)) 13) <|
              .i (.call f_spec_l1In [(.vi .i64 (.v 11)), (.vi .i64 (.bin .sub .i64 (.z 0) (.v 12))), (.vi .i64 (.v 13))] [.b] 14) <|
              .ite (.not (.v 14))
               (
                .esc <|
                .done [(.vb .ff)])
               (
                .next [(.bin .add .i64 (.v 9) (.z 1))]))
             (
              .esc <|
              .done [(.vb .tt)])))))
/-- spec_TrtAll -/
def R_spec_TrtAll : R :=
  .i (.call f_spec_TrtOk [(.s (.v 0)), (.s (.v 1))] [.b] 4) <|
  .ite (.not (.v 4))
   (
    .done [(.vb .ff)])
   (
    .ite (.not (.cmp .eq (.len (.v 3)) (.len (.v 1))))
     (
      .done [(.vb .ff)])
     (
      .loop 5 [(.z 0)] <|
        .ite (.cmp .lt (.v 5) (.len (.v 3)))
         (
          .i (.idx (.v 3) (.v 5) (.one (.s)) 6) <|
          .i (.call f_spec_TrtKeeps [(.s (.v 0)), (.s (.v 1)), (.s (.v 2)), (.vi .i64 (.v 5)), (.s (.v 6))] [.b] 7) <|
          .ite (.not (.v 7))
           (
            .esc <|
            .done [(.vb .ff)])
           (
            .next [(.bin .add .i64 (.v 5) (.z 1))]))
         (
          .esc <|
          .done [(.vb .tt)])))
/-- laws_FnTrtAll -/
def R_laws_FnTrtAll : R :=
  .ite (.cmp .lt (.z 1048576) (.len (.v 0)))
   (
    .done [(.vb .tt)])
   (
    .i (.call f_spec_DrawTrtAll [(.s (.v 0))] [.s, .s, .s, .s] 1) <|
    .i (.call f_impl_TrtOk [(.s (.v 1)), (.s (.v 2))] [.b] 5) <|
    .ite (.v 5)
     (
      .loop 6 [(.cmp .eq (.len (.v 4)) (.len (.v 2))), (.z 0)] <|
        .ite (.cmp .lt (.v 7) (.len (.v 4)))
         (
          .ite (.v 6)
           (
            .i (.chk (.cmp .le (.z 0) (.v 7))) <|
            .i (.chk (.cmp .lt (.v 7) (.len (.v 4)))) <|
            .i (.idx (.v 4) (.v 7) (.one (.s)) 8) <|
            .i (.call f_impl_TrtKeeps [(.s (.v 1)), (.s (.v 2)), (.s (.v 3)), (.vi .i64 (.v 7)), (.s (.v 8))] [.b] 9) <|
            .next [(.v 9), (.bin .add .i64 (.v 7) (.z 1))])
           (
            .esc <|
            .i (.call f_impl_TrtAll [(.s (.v 1)), (.s (.v 2)), (.s (.v 3)), (.s (.v 4))] [.b] 8) <|
            .ite (.beq (.v 8) (.v 6))
             (
              .i (.call f_impl_TrtAll [(.s (.v 1)), (.s (.v 2)), (.s (.v 3)), (.s (.v 4))] [.b] 9) <|
              .i (.call f_spec_TrtAll [(.s (.v 1)), (.s (.v 2)), (.s (.v 3)), (.s (.v 4))] [.b] 10) <|
              .ite (.beq (.v 9) (.v 10))
               (
                .i (.call f_impl_TrtAll [(.s (.cons (.vi .i64 (.z 0)) (.cons (.vi .i64 (.z 0)) (.cons (.vi .i64 (.z 0)) .nil)))), (.s (.cons (.vi .i64 (.z 0)) .nil)), (.s .nil), (.s (.cons (.s (.cons (.vi .i64 (.z 0)) (.cons (.vi .i64 (.z 0)) (.cons (.vi .i64 (.z 0)) .nil)))) .nil))] [.b] 11) <|
                .done [(.vb (.v 11))])
               (
                .done [(.vb .ff)]))
             (
              .done [(.vb .ff)])))
         (
          .esc <|
          .i (.call f_impl_TrtAll [(.s (.v 1)), (.s (.v 2)), (.s (.v 3)), (.s (.v 4))] [.b] 8) <|
          .ite (.beq (.v 8) (.v 6))
           (
            .i (.call f_impl_TrtAll [(.s (.v 1)), (.s (.v 2)), (.s (.v 3)), (.s (.v 4))] [.b] 9) <|
            .i (.call f_spec_TrtAll [(.s (.v 1)), (.s (.v 2)), (.s (.v 3)), (.s (.v 4))] [.b] 10) <|
            .ite (.beq (.v 9) (.v 10))
             (
              .i (.call f_impl_TrtAll [(.s (.cons (.vi .i64 (.z 0)) (.cons (.vi .i64 (.z 0)) (.cons (.vi .i64 (.z 0)) .nil)))), (.s (.cons (.vi .i64 (.z 0)) .nil)), (.s .nil), (.s (.cons (.s (.cons (.vi .i64 (.z 0)) (.cons (.vi .i64 (.z 0)) (.cons (.vi .i64 (.z 0)) .nil)))) .nil))] [.b] 11) <|
              .done [(.vb (.v 11))])
             (
              .done [(.vb .ff)]))
           (
            .done [(.vb .ff)])))
     (
      .loop 6 [.ff, (.z 0)] <|
        .ite (.cmp .lt (.v 7) (.len (.v 4)))
         (
          .ite (.v 6)
           (
            .i (.chk (.cmp .le (.z 0) (.v 7))) <|
            .i (.chk (.cmp .lt (.v 7) (.len (.v 4)))) <|
            .i (.idx (.v 4) (.v 7) (.one (.s)) 8) <|
            .i (.call f_impl_TrtKeeps [(.s (.v 1)), (.s (.v 2)), (.s (.v 3)), (.vi .i64 (.v 7)), (.s (.v 8))] [.b] 9) <|
            .next [(.v 9), (.bin .add .i64 (.v 7) (.z 1))])
           (
            .esc <|
            .i (.call f_impl_TrtAll [(.s (.v 1)), (.s (.v 2)), (.s (.v 3)), (.s (.v 4))] [.b] 8) <|
            .ite (.beq (.v 8) (.v 6))
             (
              .i (.call f_impl_TrtAll [(.s (.v 1)), (.s (.v 2)), (.s (.v 3)), (.s (.v 4))] [.b] 9) <|
              .i (.call f_spec_TrtAll [(.s (.v 1)), (.s (.v 2)), (.s (.v 3)), (.s (.v 4))] [.b] 10) <|
              .ite (.beq (.v 9) (.v 10))
               (
                .i (.call f_impl_TrtAll [(.s (.cons (.vi .i64 (.z 0)) (.cons (.vi .i64 (.z 0)) (.cons (.vi .i64 (.z 0)) .nil)))), (.s (.cons (.vi .i64 (.z 0)) .nil)), (.s .nil), (.s (.cons (.s (.cons (.vi .i64 (.z 0)) (.cons (.vi .i64 (.z 0)) (.cons (.vi .i64 (.z 0)) .nil)))) .nil))] [.b] 11) <|
                .done [(.vb (.v 11))])
               (
                .done [(.vb .ff)]))
             (
              .done [(.vb .ff)])))
         (
          .esc <|
          .i (.call f_impl_TrtAll [(.s (.v 1)), (.s (.v 2)), (.s (.v 3)), (.s (.v 4))] [.b] 8) <|
          .ite (.beq (.v 8) (.v 6))
           (
            .i (.call f_impl_TrtAll [(.s (.v 1)), (.s (.v 2)), (.s (.v 3)), (.s (.v 4))] [.b] 9) <|
            .i (.call f_spec_TrtAll [(.s (.v 1)), (.s (.v 2)), (.s (.v 3)), (.s (.v 4))] [.b] 10) <|
            .ite (.beq (.v 9) (.v 10))
             (
              .i (.call f_impl_TrtAll [(.s (.cons (.vi .i64 (.z 0)) (.cons (.vi .i64 (.z 0)) (.cons (.vi .i64 (.z 0)) .nil)))), (.s (.cons (.vi .i64 (.z 0)) .nil)), (.s .nil), (.s (.cons (.s (.cons (.vi .i64 (.z 0)) (.cons (.vi .i64 (.z 0)) (.cons (.vi .i64 (.z 0)) .nil)))) .nil))] [.b] 11) <|
              .done [(.vb (.v 11))])
             (
              .done [(.vb .ff)]))
           (
            .done [(.vb .ff)]))))
/-- spec_l20Form -/
def R_spec_l20Form : R :=
  .i (.call f_spec_l20Small [(.s (.v 0)), (.vi .i64 (.v 1))] [.s, .s, .i .i64, .s, .i .i64] 3) <|
  .i (.call f_spec_l20Rd_pick [(.s (.v 6)), (.vi .i64 (.v 7)), (.vi .i64 (.z 4))] [.i .i64, .s, .i .i64] 8) <|
  .ite (.cmp .eq (.v 8) (.z 0))
   (
    .i (.call f_spec_l20Rd_pick [(.s (.v 9)), (.vi .i64 (.v 10)), (.vi .i64 (.z 3))] [.i .i64, .s, .i .i64] 11) <|
    .i (.call f_spec_l20Rd_pick [(.s (.v 12)), (.vi .i64 (.v 13)), (.vi .i64 (.z 4))] [.i .i64, .s, .i .i64] 14) <|
    .i (.chk (.cmp .le (.z 0) (.v 14))) <|
    .i (.chk (.cmp .lt (.v 14) (.z 4))) <|
    .i (.idx (.cons (.vi .i64 (.z 10000000)) (.cons (.vi .i64 (.z (-10000000))) (.cons (.vi .i64 (.z 1000)) (.cons (.vi .i64 (.z 77)) .nil)))) (.v 14) (.one (.i .i64)) 17) <|
    .i (.chk (.cmp .le (.z 0) (.v 11))) <|
    .i (.chk (.cmp .lt (.v 11) (.len (.v 3)))) <|
    .i (.idx (.v 3) (.v 11) (.one (.i .i64)) 18) <|
    .i (.call f_spec_l20Rd_pick [(.s (.v 15)), (.vi .i64 (.v 16)), (.vi .i64 (.v 2))] [.i .i64, .s, .i .i64] 19) <|
    .ite (.cmp .lt (.z 0) (.v 19))
     (
      .done [(.s (.set (.v 3) (.v 11) (.vi .i64 (.v 17)))), (.s (.v 4)), (.vi .i64 (.v 5)), (.s (.v 20)), (.vi .i64 (.v 21))])
     (
      .i (.call f_spec_l20Rd_pick [(.s (.v 20)), (.vi .i64 (.v 21)), (.vi .i64 (.z 4))] [.i .i64, .s, .i .i64] 22) <|
      .ite (.cmp .eq (.v 22) (.z 0))
       (
        .i (.chk (.cmp .le (.z 2) (.len (.set (.v 3) (.v 11) (.vi .i64 (.v 17)))))) <|
        .done [(.s (.take (.set (.v 3) (.v 11) (.vi .i64 (.v 17))) (.z 2))), (.s (.v 4)), (.vi .i64 (.v 5)), (.s (.v 23)), (.vi .i64 (.v 24))])
       (
        .ite (.cmp .eq (.v 22) (.z 1))
         (
          .i (.chk (.cmp .le (.len (.app (.v 4) (.cons (.vi .i64 (.z 0)) .nil))) (.z 8796093022208))) <|
          .done [(.s (.set (.v 3) (.v 11) (.vi .i64 (.v 17)))), (.s (.app (.v 4) (.cons (.vi .i64 (.z 0)) .nil))), (.vi .i64 (.v 5)), (.s (.v 23)), (.vi .i64 (.v 24))])
         (
          .ite (.cmp .eq (.v 22) (.z 2))
           (
            .i (.call f_spec_l20Rd_pick [(.s (.v 23)), (.vi .i64 (.v 24)), (.vi .i64 (.z 3))] [.i .i64, .s, .i .i64] 25) <|
            .i (.chk (.cmp .le (.z 0) (.v 25))) <|
            .i (.chk (.cmp .lt (.v 25) (.z 3))) <|
            .i (.idx (.cons (.vi .i64 (.z 10000001)) (.cons (.vi .i64 (.z (-10000001))) (.cons (.vi .i64 (.z 10000000)) .nil))) (.v 25) (.one (.i .i64)) 28) <|
            .done [(.s (.set (.v 3) (.v 11) (.vi .i64 (.v 17)))), (.s (.v 4)), (.vi .i64 (.v 28)), (.s (.v 26)), (.vi .i64 (.v 27))])
           (
            .i (.call f_spec_l20Rd_pick [(.s (.v 23)), (.vi .i64 (.v 24)), (.vi .i64 (.z 3))] [.i .i64, .s, .i .i64] 25) <|
            .i (.call f_spec_l20Rd_pick [(.s (.v 26)), (.vi .i64 (.v 27)), (.vi .i64 (.z 2))] [.i .i64, .s, .i .i64] 28) <|
            .i (.chk (.cmp .le (.z 0) (.v 28))) <|
            .i (.chk (.cmp .lt (.v 28) (.z 2))) <|
            .i (.idx (.cons (.vi .i64 (.z 10000001)) (.cons (.vi .i64 (.z (-10000001))) .nil)) (.v 28) (.one (.i .i64)) 31) <|
            .i (.chk (.cmp .le (.z 0) (.v 25))) <|
            .i (.chk (.cmp .lt (.v 25) (.len (.v 3)))) <|
            .i (.idx (.set (.v 3) (.v 11) (.vi .i64 (.v 17))) (.v 25) (.one (.i .i64)) 32) <|
            .done [(.s (.set (.set (.v 3) (.v 11) (.vi .i64 (.v 17))) (.v 25) (.vi .i64 (.v 31)))), (.s (.v 4)), (.vi .i64 (.v 5)), (.s (.v 29)), (.vi .i64 (.v 30))])))))
   (
    .i (.call f_spec_l20Rd_pick [(.s (.v 9)), (.vi .i64 (.v 10)), (.vi .i64 (.v 2))] [.i .i64, .s, .i .i64] 11) <|
    .ite (.cmp .lt (.z 0) (.v 11))
     (
      .done [(.s (.v 3)), (.s (.v 4)), (.vi .i64 (.v 5)), (.s (.v 12)), (.vi .i64 (.v 13))])
     (
      .i (.call f_spec_l20Rd_pick [(.s (.v 12)), (.vi .i64 (.v 13)), (.vi .i64 (.z 4))] [.i .i64, .s, .i .i64] 14) <|
      .ite (.cmp .eq (.v 14) (.z 0))
       (
        .i (.chk (.cmp .le (.z 2) (.len (.v 3)))) <|
        .done [(.s (.take (.v 3) (.z 2))), (.s (.v 4)), (.vi .i64 (.v 5)), (.s (.v 15)), (.vi .i64 (.v 16))])
       (
        .ite (.cmp .eq (.v 14) (.z 1))
         (
          .i (.chk (.cmp .le (.len (.app (.v 4) (.cons (.vi .i64 (.z 0)) .nil))) (.z 8796093022208))) <|
          .done [(.s (.v 3)), (.s (.app (.v 4) (.cons (.vi .i64 (.z 0)) .nil))), (.vi .i64 (.v 5)), (.s (.v 15)), (.vi .i64 (.v 16))])
         (
          .ite (.cmp .eq (.v 14) (.z 2))
           (
            .i (.call f_spec_l20Rd_pick [(.s (.v 15)), (.vi .i64 (.v 16)), (.vi .i64 (.z 3))] [.i .i64, .s, .i .i64] 17) <|
            .i (.chk (.cmp .le (.z 0) (.v 17))) <|
            .i (.chk (.cmp .lt (.v 17) (.z 3))) <|
            .i (.idx (.cons (.vi .i64 (.z 10000001)) (.cons (.vi .i64 (.z (-10000001))) (.cons (.vi .i64 (.z 10000000)) .nil))) (.v 17) (.one (.i .i64)) 20) <|
            .done [(.s (.v 3)), (.s (.v 4)), (.vi .i64 (.v 20)), (.s (.v 18)), (.vi .i64 (.v 19))])
           (
            .i (.call f_spec_l20Rd_pick [(.s (.v 15)), (.vi .i64 (.v 16)), (.vi .i64 (.z 3))] [.i .i64, .s, .i .i64] 17) <|
            .i (.call f_spec_l20Rd_pick [(.s (.v 18)), (.vi .i64 (.v 19)), (.vi .i64 (.z 2))] [.i .i64, .s, .i .i64] 20) <|
            .i (.chk (.cmp .le (.z 0) (.v 20))) <|
            .i (.chk (.cmp .lt (.v 20) (.z 2))) <|
            .i (.idx (.cons (.vi .i64 (.z 10000001)) (.cons (.vi .i64 (.z (-10000001))) .nil)) (.v 20) (.one (.i .i64)) 23) <|
            .i (.chk (.cmp .le (.z 0) (.v 17))) <|
            .i (.chk (.cmp .lt (.v 17) (.len (.v 3)))) <|
            .i (.idx (.v 3) (.v 17) (.one (.i .i64)) 24) <|
            .done [(.s (.set (.v 3) (.v 17) (.vi .i64 (.v 23)))), (.s (.v 4)), (.vi .i64 (.v 5)), (.s (.v 21)), (.vi .i64 (.v 22))])))))
/-- spec_l20AnyAct -/
def R_spec_l20AnyAct : R :=
  .i (.call f_spec_l20Act [(.s (.v 0)), (.vi .i64 (.v 1))] [.s, .s, .i .i64] 3) <|
  .ite (.cmp .eq (.len (.v 3)) (.z 0))
   (
    .done [(.s (.v 3)), (.s (.v 4)), (.vi .i64 (.v 5))])
   (
    .i (.call f_spec_l20Rd_pick [(.s (.v 4)), (.vi .i64 (.v 5)), (.vi .i64 (.v 2))] [.i .i64, .s, .i .i64] 6) <|
    .ite (.cmp .lt (.z 0) (.v 6))
     (
      .done [(.s (.v 3)), (.s (.v 7)), (.vi .i64 (.v 8))])
     (
      .i (.call f_spec_l20Rd_pick [(.s (.v 7)), (.vi .i64 (.v 8)), (.vi .i64 (.len (.v 3)))] [.i .i64, .s, .i .i64] 9) <|
      .i (.call f_spec_l20Rd_pick [(.s (.v 10)), (.vi .i64 (.v 11)), (.vi .i64 (.z 6))] [.i .i64, .s, .i .i64] 12) <|
      .ite (.cmp .eq (.v 12) (.z 0))
       (
        .i (.call f_spec_l20Rd_pick [(.s (.v 13)), (.vi .i64 (.v 14)), (.vi .i64 (.z 4))] [.i .i64, .s, .i .i64] 15) <|
        .i (.chk (.cmp .le (.z 0) (.v 15))) <|
        .i (.chk (.cmp .lt (.v 15) (.z 4))) <|
        .i (.idx (.cons (.vi .i64 (.z 0)) (.cons (.vi .i64 (.z 5)) (.cons (.vi .i64 (.z 4)) (.cons (.vi .i64 (.z 1)) .nil)))) (.v 15) (.one (.i .i64)) 18) <|
        .i (.chk (.cmp .le (.z 0) (.v 9))) <|
        .i (.chk (.cmp .lt (.v 9) (.len (.v 3)))) <|
        .i (.idx (.v 3) (.v 9) (.g [.i .i64, .i .i64, .i .i64, .s, .s, .i .i64]) 19) <|
        .done [(.s (.set (.v 3) (.v 9) (.g (.cons (.vi .i64 (.v 18)) (.cons (.vi .i64 (.v 20)) (.cons (.vi .i64 (.v 21)) (.cons (.s (.v 22)) (.cons (.s (.v 23)) (.cons (.vi .i64 (.v 24)) .nil))))))))), (.s (.v 16)), (.vi .i64 (.v 17))])
       (
        .ite (.cmp .eq (.v 12) (.z 1))
         (
          .i (.call f_spec_l20Rd_pick [(.s (.v 13)), (.vi .i64 (.v 14)), (.vi .i64 (.z 3))] [.i .i64, .s, .i .i64] 15) <|
          .i (.chk (.cmp .le (.z 0) (.v 15))) <|
          .i (.chk (.cmp .lt (.v 15) (.z 3))) <|
          .i (.idx (.cons (.vi .i64 (.z (-1))) (.cons (.vi .i64 (.z 3)) (.cons (.vi .i64 (.z 2)) .nil))) (.v 15) (.one (.i .i64)) 18) <|
          .i (.chk (.cmp .le (.z 0) (.v 9))) <|
          .i (.chk (.cmp .lt (.v 9) (.len (.v 3)))) <|
          .i (.idx (.v 3) (.v 9) (.g [.i .i64, .i .i64, .i .i64, .s, .s, .i .i64]) 19) <|
          .done [(.s (.set (.v 3) (.v 9) (.g (.cons (.vi .i64 (.v 19)) (.cons (.vi .i64 (.v 18)) (.cons (.vi .i64 (.v 21)) (.cons (.s (.v 22)) (.cons (.s (.v 23)) (.cons (.vi .i64 (.v 24)) .nil))))))))), (.s (.v 16)), (.vi .i64 (.v 17))])
         (
          .ite (.cmp .eq (.v 12) (.z 2))
           (
            .i (.call f_spec_l20Rd_pick [(.s (.v 13)), (.vi .i64 (.v 14)), (.vi .i64 (.z 4))] [.i .i64, .s, .i .i64] 15) <|
            .i (.chk (.cmp .le (.z 0) (.v 15))) <|
            .i (.chk (.cmp .lt (.v 15) (.z 4))) <|
            .i (.idx (.cons (.vi .i64 (.z 0)) (.cons (.vi .i64 (.z (-1))) (.cons (.vi .i64 (.z 7)) (.cons (.vi .i64 (.z 6)) .nil)))) (.v 15) (.one (.i .i64)) 18) <|
            .i (.chk (.cmp .le (.z 0) (.v 9))) <|
            .i (.chk (.cmp .lt (.v 9) (.len (.v 3)))) <|
            .i (.idx (.v 3) (.v 9) (.g [.i .i64, .i .i64, .i .i64, .s, .s, .i .i64]) 19) <|
            .done [(.s (.set (.v 3) (.v 9) (.g (.cons (.vi .i64 (.v 19)) (.cons (.vi .i64 (.v 20)) (.cons (.vi .i64 (.v 18)) (.cons (.s (.v 22)) (.cons (.s (.v 23)) (.cons (.vi .i64 (.v 24)) .nil))))))))), (.s (.v 16)), (.vi .i64 (.v 17))])
           (
            .ite (.cmp .eq (.v 12) (.z 3))
             (
              .i (.call f_spec_l20Form [(.s (.v 13)), (.vi .i64 (.v 14)), (.vi .i64 (.z 2))] [.s, .s, .i .i64, .s, .i .i64] 15) <|
              .i (.chk (.cmp .le (.z 0) (.v 9))) <|
              .i (.chk (.cmp .lt (.v 9) (.len (.v 3)))) <|
              .i (.idx (.v 3) (.v 9) (.g [.i .i64, .i .i64, .i .i64, .s, .s, .i .i64]) 20) <|
              .done [(.s (.set (.v 3) (.v 9) (.g (.cons (.vi .i64 (.v 20)) (.cons (.vi .i64 (.v 21)) (.cons (.vi .i64 (.v 22)) (.cons (.s (.v 15)) (.cons (.s (.v 16)) (.cons (.vi .i64 (.v 17)) .nil))))))))), (.s (.v 18)), (.vi .i64 (.v 19))])
             (
              .ite (.cmp .eq (.v 12) (.z 4))
               (
                .loop 15 [(.v 3)] <|
                  .ite (.cmp .le (.len (.v 15)) (.z 6))
                   (
                    .i (.chk (.cmp .le (.z 0) (.v 9))) <|
                    .i (.chk (.cmp .lt (.v 9) (.len (.v 15)))) <|
                    .i (.idx (.v 15) (.v 9) (.g [.i .i64, .i .i64, .i .i64, .s, .s, .i .i64]) 16) <|
                    .i (.chk (.cmp .le (.len (.app (.v 15) (.cons (.g (.cons (.vi .i64 (.v 16)) (.cons (.vi .i64 (.v 17)) (.cons (.vi .i64 (.v 18)) (.cons (.s (.v 19)) (.cons (.s (.v 20)) (.cons (.vi .i64 (.v 21)) .nil))))))) .nil))) (.z 879609302220))) <|
                    .next [(.app (.v 15) (.cons (.g (.cons (.vi .i64 (.v 16)) (.cons (.vi .i64 (.v 17)) (.cons (.vi .i64 (.v 18)) (.cons (.s (.v 19)) (.cons (.s (.v 20)) (.cons (.vi .i64 (.v 21)) .nil))))))) .nil))])
                   (
                    .esc <|
                    .done [(.s (.v 15)), (.s (.v 13)), (.vi .i64 (.v 14))]))
               (
                .i (.call f_spec_l20Small [(.s (.v 13)), (.vi .i64 (.v 14))] [.s, .s, .i .i64, .s, .i .i64] 15) <|
                .i (.call f_spec_l20Small [(.s (.v 18)), (.vi .i64 (.v 19))] [.s, .s, .i .i64, .s, .i .i64] 20) <|
                .i (.chk (.cmp .le (.len (.app (.v 3) (.cons (.g (.cons (.vi .i64 (.z 1)) (.cons (.vi .i64 (.z 0)) (.cons (.vi .i64 (.z 1)) (.cons (.s (.v 15)) (.cons (.s (.v 16)) (.cons (.vi .i64 (.v 17)) .nil))))))) (.cons (.g (.cons (.vi .i64 (.z 1)) (.cons (.vi .i64 (.z 0)) (.cons (.vi .i64 (.z 1)) (.cons (.s (.v 20)) (.cons (.s (.v 21)) (.cons (.vi .i64 (.v 22)) .nil))))))) .nil)))) (.z 879609302220))) <|
                .done [(.s (.app (.v 3) (.cons (.g (.cons (.vi .i64 (.z 1)) (.cons (.vi .i64 (.z 0)) (.cons (.vi .i64 (.z 1)) (.cons (.s (.v 15)) (.cons (.s (.v 16)) (.cons (.vi .i64 (.v 17)) .nil))))))) (.cons (.g (.cons (.vi .i64 (.z 1)) (.cons (.vi .i64 (.z 0)) (.cons (.vi .i64 (.z 1)) (.cons (.s (.v 20)) (.cons (.s (.v 21)) (.cons (.vi .i64 (.v 22)) .nil))))))) .nil)))), (.s (.v 23)), (.vi .i64 (.v 24))])))))))
/-- spec_DrawRowsOf -/
def R_spec_DrawRowsOf : R :=
  .i (.call f_spec_l20Open [(.s (.v 0))] [.s, .i .i64] 1) <|
  .i (.call f_spec_l20AnyAct [(.s (.v 1)), (.vi .i64 (.v 2)), (.vi .i64 (.z 8))] [.s, .s, .i .i64] 3) <|
  .done [(.s (.v 3))]
/-- impl_FrmForm_small -/
def R_impl_FrmForm_small : R :=
  .i (.call f_impl_within [(.s (.v 0)), (.vi .i64 (.z 3)), (.vi .i64 (.z 2))] [.b] 3) <|
  .ite (.v 3)
   (
    .i (.call f_impl_within [(.s (.v 1)), (.vi .i64 (.z 2)), (.vi .i64 (.z 2))] [.b] 4) <|
    .ite (.v 4)
     (
      .i (.call f_impl_in [(.vi .i64 (.v 2)), (.vi .i64 (.z (-20))), (.vi .i64 (.z 20))] [.b] 5) <|
      .done [(.vb (.v 5))])
     (
      .done [(.vb .ff)]))
   (
    .done [(.vb .ff)])
/-- slices_Equal_Sint_int -/
def R_slices_Equal_Sint_int : R :=
  .ite (.not (.cmp .eq (.len (.v 0)) (.len (.v 1))))
   (
    .done [(.vb .ff)])
   (
    .loop 2 [(.z 0)] <|
      .ite (.cmp .lt (.v 2) (.len (.v 0)))
       (
        .i (.idx (.v 0) (.v 2) (.one (.i .i64)) 3) <|
        .i (.idx (.v 1) (.v 2) (.one (.i .i64)) 4) <|
        .ite (.not (.cmp .eq (.v 3) (.v 4)))
         (
          .esc <|
          .done [(.vb .ff)])
         (
          .next [(.bin .add .i64 (.v 2) (.z 1))]))
       (
        .esc <|
        .done [(.vb .tt)]))
/-- impl_FrmForm_same -/
def R_impl_FrmForm_same : R :=
  .ite (.cmp .eq (.v 2) (.v 5))
   (
    .i (.call f_slices_Equal_Sint_int [(.s (.v 0)), (.s (.v 3))] [.b] 6) <|
    .ite (.v 6)
     (
      .i (.call f_slices_Equal_Sint_int [(.s (.v 1)), (.s (.v 4))] [.b] 7) <|
      .done [(.vb (.v 7))])
     (
      .done [(.vb .ff)]))
   (
    .done [(.vb .ff)])
/-- impl_ActLine_ok -/
def R_impl_ActLine_ok : R :=
  .ite (.cmp .eq (.v 0) (.z 1))
   (
    .i (.call f_impl_in [(.vi .i64 (.v 2)), (.vi .i64 (.z 1)), (.vi .i64 (.z 6))] [.b] 6) <|
    .ite (.v 6)
     (
      .ite (.cmp .eq (.v 1) (.z 0))
       (
        .i (.call f_impl_FrmForm_small [(.s (.v 3)), (.s (.v 4)), (.vi .i64 (.v 5))] [.b] 7) <|
        .done [(.vb (.v 7))])
       (
        .done [(.vb .ff)]))
     (
      .done [(.vb .ff)]))
   (
    .ite (.cmp .eq (.v 0) (.z 2))
     (
      .i (.call f_impl_in [(.vi .i64 (.v 1)), (.vi .i64 (.z 0)), (.vi .i64 (.z 2))] [.b] 6) <|
      .ite (.v 6)
       (
        .ite (.cmp .eq (.v 2) (.z 0))
         (
          .i (.call f_impl_FrmForm_small [(.s (.v 3)), (.s (.v 4)), (.vi .i64 (.v 5))] [.b] 7) <|
          .done [(.vb (.v 7))])
         (
          .done [(.vb .ff)]))
       (
        .done [(.vb .ff)]))
     (
      .ite (.cmp .eq (.v 0) (.z 3))
       (
        .ite (.cmp .eq (.v 1) (.z 0))
         (
          .ite (.cmp .eq (.v 2) (.z 0))
           (
            .i (.call f_impl_FrmForm_small [(.s (.v 3)), (.s (.v 4)), (.vi .i64 (.v 5))] [.b] 6) <|
            .done [(.vb (.v 6))])
           (
            .done [(.vb .ff)]))
         (
          .done [(.vb .ff)]))
       (
        .ite (.cmp .eq (.v 0) (.z 4))
         (
          .ite (.cmp .eq (.v 1) (.z 0))
           (
            .ite (.cmp .eq (.v 2) (.z 0))
             (
              .i (.call f_impl_FrmForm_same [(.s (.v 3)), (.s (.v 4)), (.vi .i64 (.v 5)), (.s .nil), (.s .nil), (.vi .i64 (.z 0))] [.b] 6) <|
              .done [(.vb (.v 6))])
             (
              .done [(.vb .ff)]))
           (
            .done [(.vb .ff)]))
         (
          .done [(.vb .ff)]))))
/-- impl_ActOk -/
def R_impl_ActOk : R :=
  .loop 1 [(.z 0), (.z 0)] <|
    .ite (.cmp .lt (.v 2) (.len (.v 0)))
     (
      .i (.idx (.v 0) (.v 2) (.g [.i .i64, .i .i64, .i .i64, .s, .s, .i .i64]) 3) <|
      .i (.call f_impl_ActLine_ok [(.vi .i64 (.v 3)), (.vi .i64 (.v 4)), (.vi .i64 (.v 5)), (.s (.v 6)), (.s (.v 7)), (.vi .i64 (.v 8))] [.b] 9) <|
      .ite (.not (.v 9))
       (
        .esc <|
        .done [(.vb .ff)])
       (
        .ite (.cmp .eq (.v 3) (.z 1))
         (
          .next [(.bin .add .i64 (.v 1) (.z 1)), (.bin .add .i64 (.v 2) (.z 1))])
         (
          .next [(.v 1), (.bin .add .i64 (.v 2) (.z 1))])))
     (
      .esc <|
      .ite (.cmp .le (.len (.v 0)) (.z 6))
       (
        .done [(.vb (.cmp .le (.v 1) (.z 3)))])
       (
        .done [(.vb .ff)]))
/-- impl_FrmZero -/
def R_impl_FrmZero : R :=
  .done [(.s (.cons (.vi .i64 (.z 0)) (.cons (.vi .i64 (.z 0)) (.cons (.vi .i64 (.z 0)) .nil)))), (.s (.cons (.vi .i64 (.z 0)) (.cons (.vi .i64 (.z 0)) .nil))), (.vi .i64 (.z 0))]
/-- impl_FrmPot -/
def R_impl_FrmPot : R :=
  .i (.call f_impl_in [(.vi .i64 (.v 0)), (.vi .i64 (.z 0)), (.vi .i64 (.z 2))] [.b] 1) <|
  .ite (.not (.v 1))
   (
    .done [(.s .nil), (.s .nil), (.vi .i64 (.z 0))])
   (
    .i (.call f_impl_FrmZero [] [.s, .s, .i .i64] 2) <|
    .i (.chk (.cmp .le (.z 0) (.v 0))) <|
    .i (.chk (.cmp .lt (.v 0) (.len (.v 2)))) <|
    .i (.idx (.v 2) (.v 0) (.one (.i .i64)) 5) <|
    .done [(.s (.set (.v 2) (.v 0) (.vi .i64 (.z 1)))), (.s (.v 3)), (.vi .i64 (.v 4))])
/-- slices_Clone_Sint_int -/
def R_slices_Clone_Sint_int : R :=
  .nilq 1 (.v 0)
   (
    .done [(.s .nil)])
   (
    .i (.chk (.cmp .le (.len (.v 0)) (.z 8796093022208))) <|
    .i (.head 1 (.v 0)) <|
    .i (.chk (.cmp .le (.len (.app .nil (.v 0))) (.z 8796093022208))) <|
    .done [(.s (.app .nil (.v 0)))])
/-- impl_FrmForm_copied -/
def R_impl_FrmForm_copied : R :=
  .i (.call f_slices_Clone_Sint_int [(.s (.v 0))] [.s] 3) <|
  .i (.call f_slices_Clone_Sint_int [(.s (.v 1))] [.s] 4) <|
  .done [(.s (.v 3)), (.s (.v 4)), (.vi .i64 (.v 2))]
/-- impl_forms -/
def R_impl_forms : R :=
  .loop 1 [.nil, (.z 0)] <|
    .ite (.cmp .lt (.v 2) (.len (.v 0)))
     (
      .i (.idx (.v 0) (.v 2) (.g [.s, .s, .i .i64]) 3) <|
      .i (.call f_impl_FrmForm_copied [(.s (.v 3)), (.s (.v 4)), (.vi .i64 (.v 5))] [.s, .s, .i .i64] 6) <|
      .i (.chk (.cmp .le (.len (.app (.v 1) (.cons (.g (.cons (.s (.v 6)) (.cons (.s (.v 7)) (.cons (.vi .i64 (.v 8)) .nil)))) .nil))) (.z 1256584717458))) <|
      .next [(.app (.v 1) (.cons (.g (.cons (.s (.v 6)) (.cons (.s (.v 7)) (.cons (.vi .i64 (.v 8)) .nil)))) .nil)), (.bin .add .i64 (.v 2) (.z 1))])
     (
      .esc <|
      .done [(.s (.v 1))])
/-- impl_FrmOk -/
def R_impl_FrmOk : R :=
  .i (.call f_impl_within [(.s (.v 0)), (.vi .i64 (.z 3)), (.vi .i64 (.z 10000000))] [.b] 3) <|
  .ite (.v 3)
   (
    .i (.call f_impl_within [(.s (.v 1)), (.vi .i64 (.z 2)), (.vi .i64 (.z 10000000))] [.b] 4) <|
    .ite (.v 4)
     (
      .i (.call f_impl_in [(.vi .i64 (.v 2)), (.vi .i64 (.z (-10000000))), (.vi .i64 (.z 10000000))] [.b] 5) <|
      .done [(.vb (.v 5))])
     (
      .done [(.vb .ff)]))
   (
    .done [(.vb .ff)])
/-- slices_IndexFunc_Simpl_FrmForm_impl_FrmForm -/
def R_slices_IndexFunc_Simpl_FrmForm_impl_FrmForm : R :=
  .loop 2 [(.z 0)] <|
    .ite (.cmp .lt (.v 2) (.len (.v 0)))
     (
      .i (.idx (.v 0) (.v 2) (.g [.s, .s, .i .i64]) 3) <|
      .i (.callv (.da 1) [(.s (.v 3)), (.s (.v 4)), (.vi .i64 (.v 5))] [some 3] [.b] 6) <|
      .ite (.v 6)
       (
        .esc <|
        .done [(.vi .i64 (.v 2))])
       (
        .next [(.bin .add .i64 (.v 2) (.z 1))]))
     (
      .esc <|
      .done [(.vi .i64 (.z (-1)))])
/-- slices_ContainsFunc_Simpl_FrmForm_impl_FrmForm -/
def R_slices_ContainsFunc_Simpl_FrmForm_impl_FrmForm : R :=
  .i (.call f_slices_IndexFunc_Simpl_FrmForm_impl_FrmForm [(.s (.v 0)), (.da 1)] [.i .i64] 2) <|
  .done [(.vb (.cmp .le (.z 0) (.v 2)))]
/-- impl_FrmInto_1 -/
def R_impl_FrmInto_1 : R :=
  .i (.call f_impl_FrmOk [(.s (.v 0)), (.s (.v 1)), (.vi .i64 (.v 2))] [.b] 3) <|
  .done [(.vb (.not (.v 3)))]
/-- impl_FrmForm_add -/
def R_impl_FrmForm_add : R :=
  .loop 7 [(.v 0), (.z 0)] <|
    .ite (.cmp .lt (.v 8) (.len (.v 3)))
     (
      .i (.idx (.v 3) (.v 8) (.one (.i .i64)) 9) <|
      .i (.chk (.cmp .le (.z 0) (.v 8))) <|
      .i (.chk (.cmp .lt (.v 8) (.len (.v 7)))) <|
      .i (.idx (.v 7) (.v 8) (.one (.i .i64)) 10) <|
      .i (.chk (.cmp .le (.z 0) (.v 8))) <|
      .i (.chk (.cmp .lt (.v 8) (.len (.v 7)))) <|
      .i (.idx (.v 7) (.v 8) (.one (.i .i64)) 11) <|
      .next [(.set (.v 7) (.v 8) (.vi .i64 (.bin .add .i64 (.v 10) (.bin .mul .i64 (.v 6) (.v 9))))), (.bin .add .i64 (.v 8) (.z 1))])
     (
      .esc <|
      .loop 9 [(.v 1), (.z 0)] <|
        .ite (.cmp .lt (.v 10) (.len (.v 4)))
         (
          .i (.idx (.v 4) (.v 10) (.one (.i .i64)) 11) <|
          .i (.chk (.cmp .le (.z 0) (.v 10))) <|
          .i (.chk (.cmp .lt (.v 10) (.len (.v 9)))) <|
          .i (.idx (.v 9) (.v 10) (.one (.i .i64)) 12) <|
          .i (.chk (.cmp .le (.z 0) (.v 10))) <|
          .i (.chk (.cmp .lt (.v 10) (.len (.v 9)))) <|
          .i (.idx (.v 9) (.v 10) (.one (.i .i64)) 13) <|
          .next [(.set (.v 9) (.v 10) (.vi .i64 (.bin .add .i64 (.v 12) (.bin .mul .i64 (.v 6) (.v 11))))), (.bin .add .i64 (.v 10) (.z 1))])
         (
          .esc <|
          .done [(.vi .i64 (.bin .add .i64 (.v 2) (.bin .mul .i64 (.v 6) (.v 5)))), (.s (.v 7)), (.s (.v 9))]))
/-- impl_checked -/
def R_impl_checked : R :=
  .i (.call f_impl_FrmOk [(.s (.v 0)), (.s (.v 1)), (.vi .i64 (.v 2))] [.b] 3) <|
  .ite (.not (.v 3))
   (
    .done [(.s .nil), (.s .nil), (.vi .i64 (.z 0))])
   (
    .done [(.s (.v 0)), (.s (.v 1)), (.vi .i64 (.v 2))])
/-- impl_FrmInto -/
def R_impl_FrmInto : R :=
  .i (.call f_impl_FrmOk [(.s (.v 0)), (.s (.v 1)), (.vi .i64 (.v 2))] [.b] 4) <|
  .ite (.not (.v 4))
   (
    .done [(.s .nil), (.s .nil), (.vi .i64 (.z 0))])
   (
    .ite (.not (.cmp .eq (.len (.v 3)) (.z 3)))
     (
      .done [(.s .nil), (.s .nil), (.vi .i64 (.z 0))])
     (
      .i (.call f_slices_ContainsFunc_Simpl_FrmForm_impl_FrmForm [(.s (.v 3)), (.fn f_impl_FrmInto_1 .nil)] [.b] 5) <|
      .ite (.v 5)
       (
        .done [(.s .nil), (.s .nil), (.vi .i64 (.z 0))])
       (
        .i (.call f_impl_FrmZero [] [.s, .s, .i .i64] 6) <|
        .loop 9 [(.v 6), (.v 7), (.z 0), (.v 8)] <|
          .ite (.cmp .lt (.v 11) (.len (.v 3)))
           (
            .i (.idx (.v 3) (.v 11) (.g [.s, .s, .i .i64]) 13) <|
            .i (.idx (.v 0) (.v 11) (.one (.i .i64)) 16) <|
            .i (.call f_impl_FrmForm_add [(.s (.v 9)), (.s (.v 10)), (.vi .i64 (.v 12)), (.s (.v 13)), (.s (.v 14)), (.vi .i64 (.v 15)), (.vi .i64 (.v 16))] [.i .i64, .s, .s] 17) <|
            .next [(.v 18), (.v 19), (.bin .add .i64 (.v 11) (.z 1)), (.v 17)])
           (
            .esc <|
            .i (.call f_impl_FrmForm_add [(.s (.v 9)), (.s (.v 10)), (.vi .i64 (.v 12)), (.s .nil), (.s (.v 1)), (.vi .i64 (.v 2)), (.vi .i64 (.z 1))] [.i .i64, .s, .s] 13) <|
            .i (.call f_impl_checked [(.s (.v 14)), (.s (.v 15)), (.vi .i64 (.v 13))] [.s, .s, .i .i64] 16) <|
            .done [(.s (.v 16)), (.s (.v 17)), (.vi .i64 (.v 18))]))))
/-- impl_FrmTimes -/
def R_impl_FrmTimes : R :=
  .i (.call f_impl_FrmOk [(.s (.v 0)), (.s (.v 1)), (.vi .i64 (.v 2))] [.b] 4) <|
  .ite (.not (.v 4))
   (
    .done [(.s .nil), (.s .nil), (.vi .i64 (.z 0))])
   (
    .i (.call f_impl_in [(.vi .i64 (.v 3)), (.vi .i64 (.z (-10000000))), (.vi .i64 (.z 10000000))] [.b] 5) <|
    .ite (.not (.v 5))
     (
      .done [(.s .nil), (.s .nil), (.vi .i64 (.z 0))])
     (
      .i (.call f_impl_FrmZero [] [.s, .s, .i .i64] 6) <|
      .i (.call f_impl_FrmForm_add [(.s (.v 6)), (.s (.v 7)), (.vi .i64 (.v 8)), (.s (.v 0)), (.s (.v 1)), (.vi .i64 (.v 2)), (.vi .i64 (.v 3))] [.i .i64, .s, .s] 9) <|
      .i (.call f_impl_checked [(.s (.v 10)), (.s (.v 11)), (.vi .i64 (.v 9))] [.s, .s, .i .i64] 12) <|
      .done [(.s (.v 12)), (.s (.v 13)), (.vi .i64 (.v 14))]))
/-- impl_FrmAdd -/
def R_impl_FrmAdd : R :=
  .i (.call f_impl_FrmOk [(.s (.v 0)), (.s (.v 1)), (.vi .i64 (.v 2))] [.b] 6) <|
  .ite (.not (.v 6))
   (
    .done [(.s .nil), (.s .nil), (.vi .i64 (.z 0))])
   (
    .i (.call f_impl_FrmOk [(.s (.v 3)), (.s (.v 4)), (.vi .i64 (.v 5))] [.b] 7) <|
    .ite (.not (.v 7))
     (
      .done [(.s .nil), (.s .nil), (.vi .i64 (.z 0))])
     (
      .i (.call f_impl_FrmZero [] [.s, .s, .i .i64] 8) <|
      .i (.call f_impl_FrmForm_add [(.s (.v 8)), (.s (.v 9)), (.vi .i64 (.v 10)), (.s (.v 0)), (.s (.v 1)), (.vi .i64 (.v 2)), (.vi .i64 (.z 1))] [.i .i64, .s, .s] 11) <|
      .i (.call f_impl_FrmForm_add [(.s (.v 12)), (.s (.v 13)), (.vi .i64 (.v 11)), (.s (.v 3)), (.s (.v 4)), (.vi .i64 (.v 5)), (.vi .i64 (.z 1))] [.i .i64, .s, .s] 14) <|
      .i (.call f_impl_checked [(.s (.v 15)), (.s (.v 16)), (.vi .i64 (.v 14))] [.s, .s, .i .i64] 17) <|
      .done [(.s (.v 17)), (.s (.v 18)), (.vi .i64 (.v 19))]))
/-- impl_walker_walk -/
def R_impl_walker_walk : R :=
  .loop 6 [(.v 1), (.v 2), (.v 3), (.v 4), (.v 5), (.v 0)] <|
    .ite (.cmp .lt (.v 7) (.len (.v 11)))
     (
      .i (.idx (.v 11) (.v 7) (.g [.i .i64, .i .i64, .i .i64, .s, .s, .i .i64]) 12) <|
      .ite (.cmp .eq (.v 12) (.z 4))
       (
        .i (.call f_impl_forms [(.s (.v 8))] [.s] 18) <|
        .i (.chk (.cmp .le (.len (.app (.v 6) (.cons (.g (.cons (.s (.v 18)) (.cons (.s .nil) (.cons (.s .nil) (.cons (.vb .tt) .nil))))) .nil))) (.z 879609302220))) <|
        .esc <|
        .done [(.s (.v 11)), (.s (.app (.v 6) (.cons (.g (.cons (.s (.v 18)) (.cons (.s .nil) (.cons (.s .nil) (.cons (.vb .tt) .nil))))) .nil)))])
       (
        .i (.call f_impl_FrmInto [(.s (.v 15)), (.s (.v 16)), (.vi .i64 (.v 17)), (.s (.v 9))] [.s, .s, .i .i64] 18) <|
        .ite (.cmp .eq (.v 12) (.z 1))
         (
          .i (.call f_impl_forms [(.s (.v 8))] [.s] 21) <|
          .i (.chk (.cmp .le (.len (.app (.v 21) (.cons (.g (.cons (.s (.v 18)) (.cons (.s (.v 19)) (.cons (.vi .i64 (.v 20)) .nil)))) .nil))) (.z 1256584717458))) <|
          .i (.call f_impl_forms [(.s (.v 9))] [.s] 22) <|
          .i (.call f_impl_forms [(.s (.v 10))] [.s] 23) <|
          .i (.call f_impl_walker_walk [(.s (.v 11)), (.s (.v 6)), (.vi .i64 (.bin .add .i64 (.v 7) (.z 1))), (.s (.app (.v 21) (.cons (.g (.cons (.s (.v 18)) (.cons (.s (.v 19)) (.cons (.vi .i64 (.v 20)) .nil)))) .nil))), (.s (.v 22)), (.s (.v 23))] [.s, .s] 24) <|
          .i (.call f_impl_FrmTimes [(.s (.v 18)), (.s (.v 19)), (.vi .i64 (.v 20)), (.vi .i64 (.z (-1)))] [.s, .s, .i .i64] 26) <|
          .i (.call f_impl_forms [(.s (.v 8))] [.s] 29) <|
          .i (.chk (.cmp .le (.len (.app (.v 29) (.cons (.g (.cons (.s (.v 26)) (.cons (.s (.v 27)) (.cons (.vi .i64 (.bin .sub .i64 (.v 28) (.z 1))) .nil)))) .nil))) (.z 1256584717458))) <|
          .next [(.v 25), (.bin .add .i64 (.bin .add .i64 (.v 7) (.v 14)) (.z 1)), (.app (.v 29) (.cons (.g (.cons (.s (.v 26)) (.cons (.s (.v 27)) (.cons (.vi .i64 (.bin .sub .i64 (.v 28) (.z 1))) .nil)))) .nil)), (.v 9), (.v 10), (.v 24)])
         (
          .ite (.cmp .eq (.v 12) (.z 2))
           (
            .i (.call f_impl_forms [(.s (.v 9))] [.s] 21) <|
            .i (.chk (.cmp .le (.z 0) (.v 13))) <|
            .i (.chk (.cmp .lt (.v 13) (.len (.v 21)))) <|
            .i (.idx (.v 21) (.v 13) (.g [.s, .s, .i .i64]) 22) <|
            .i (.call f_impl_FrmAdd [(.s (.v 22)), (.s (.v 23)), (.vi .i64 (.v 24)), (.s (.v 18)), (.s (.v 19)), (.vi .i64 (.v 20))] [.s, .s, .i .i64] 25) <|
            .i (.chk (.cmp .le (.z 0) (.v 13))) <|
            .i (.chk (.cmp .lt (.v 13) (.len (.v 21)))) <|
            .i (.idx (.v 21) (.v 13) (.g [.s, .s, .i .i64]) 28) <|
            .next [(.v 6), (.bin .add .i64 (.v 7) (.z 1)), (.v 8), (.set (.v 21) (.v 13) (.g (.cons (.s (.v 25)) (.cons (.s (.v 26)) (.cons (.vi .i64 (.v 27)) .nil))))), (.v 10), (.v 11)])
           (
            .ite (.cmp .eq (.v 12) (.z 3))
             (
              .i (.call f_impl_forms [(.s (.v 10))] [.s] 21) <|
              .i (.chk (.cmp .le (.len (.app (.v 21) (.cons (.g (.cons (.s (.v 18)) (.cons (.s (.v 19)) (.cons (.vi .i64 (.v 20)) .nil)))) .nil))) (.z 1256584717458))) <|
              .next [(.v 6), (.bin .add .i64 (.v 7) (.z 1)), (.v 8), (.v 9), (.app (.v 21) (.cons (.g (.cons (.s (.v 18)) (.cons (.s (.v 19)) (.cons (.vi .i64 (.v 20)) .nil)))) .nil)), (.v 11)])
             (
              .next [(.v 6), (.bin .add .i64 (.v 7) (.z 1)), (.v 8), (.v 9), (.v 10), (.v 11)])))))
     (
      .esc <|
      .i (.call f_impl_forms [(.s (.v 8))] [.s] 12) <|
      .i (.call f_impl_forms [(.s (.v 10))] [.s] 13) <|
      .loop 14 [.nil, (.z 0)] <|
        .ite (.cmp .lt (.v 15) (.len (.v 9)))
         (
          .i (.idx (.v 9) (.v 15) (.g [.s, .s, .i .i64]) 16) <|
          .i (.call f_impl_FrmPot [(.vi .i64 (.v 15))] [.s, .s, .i .i64] 19) <|
          .i (.call f_impl_FrmTimes [(.s (.v 19)), (.s (.v 20)), (.vi .i64 (.v 21)), (.vi .i64 (.z (-1)))] [.s, .s, .i .i64] 22) <|
          .i (.call f_impl_FrmAdd [(.s (.v 16)), (.s (.v 17)), (.vi .i64 (.v 18)), (.s (.v 22)), (.s (.v 23)), (.vi .i64 (.v 24))] [.s, .s, .i .i64] 25) <|
          .i (.chk (.cmp .le (.len (.app (.v 14) (.cons (.g (.cons (.s (.v 25)) (.cons (.s (.v 26)) (.cons (.vi .i64 (.v 27)) .nil)))) .nil))) (.z 1256584717458))) <|
          .next [(.app (.v 14) (.cons (.g (.cons (.s (.v 25)) (.cons (.s (.v 26)) (.cons (.vi .i64 (.v 27)) .nil)))) .nil)), (.bin .add .i64 (.v 15) (.z 1))])
         (
          .esc <|
          .i (.chk (.cmp .le (.len (.app (.v 6) (.cons (.g (.cons (.s (.v 12)) (.cons (.s (.v 14)) (.cons (.s (.v 13)) (.cons (.vb .ff) .nil))))) .nil))) (.z 879609302220))) <|
          .done [(.s (.v 11)), (.s (.app (.v 6) (.cons (.g (.cons (.s (.v 12)) (.cons (.s (.v 14)) (.cons (.s (.v 13)) (.cons (.vb .ff) .nil))))) .nil)))]))
/-- impl_RowsOf -/
def R_impl_RowsOf : R :=
  .i (.call f_impl_ActOk [(.s (.v 0))] [.b] 1) <|
  .ite (.not (.v 1))
   (
    .done [(.s .nil)])
   (
    .loop 2 [.nil, (.z 0)] <|
      .ite (.cmp .lt (.v 3) (.z 3))
       (
        .i (.call f_impl_FrmPot [(.vi .i64 (.v 3))] [.s, .s, .i .i64] 4) <|
        .i (.chk (.cmp .le (.len (.app (.v 2) (.cons (.g (.cons (.s (.v 4)) (.cons (.s (.v 5)) (.cons (.vi .i64 (.v 6)) .nil)))) .nil))) (.z 1256584717458))) <|
        .next [(.app (.v 2) (.cons (.g (.cons (.s (.v 4)) (.cons (.s (.v 5)) (.cons (.vi .i64 (.v 6)) .nil)))) .nil)), (.bin .add .i64 (.v 3) (.z 1))])
       (
        .esc <|
        .i (.call f_impl_walker_walk [(.s (.v 0)), (.s .nil), (.vi .i64 (.z 0)), (.s .nil), (.s (.v 2)), (.s .nil)] [.s, .s] 4) <|
        .done [(.s (.v 5))]))
/-- laws_coInts -/
def R_laws_coInts : R :=
  .ite (.not (.cmp .eq (.len (.v 0)) (.len (.v 1))))
   (
    .done [(.vb .ff)])
   (
    .loop 2 [(.z 0)] <|
      .ite (.cmp .lt (.v 2) (.len (.v 0)))
       (
        .i (.idx (.v 0) (.v 2) (.one (.i .i64)) 3) <|
        .i (.idx (.v 1) (.v 2) (.one (.i .i64)) 4) <|
        .ite (.not (.cmp .eq (.v 3) (.v 4)))
         (
          .esc <|
          .done [(.vb .ff)])
         (
          .next [(.bin .add .i64 (.v 2) (.z 1))]))
       (
        .esc <|
        .done [(.vb .tt)]))
/-- laws_coForm -/
def R_laws_coForm : R :=
  .i (.call f_laws_coInts [(.s (.v 0)), (.s (.v 3))] [.b] 6) <|
  .ite (.v 6)
   (
    .i (.call f_laws_coInts [(.s (.v 1)), (.s (.v 4))] [.b] 7) <|
    .ite (.v 7)
     (
      .done [(.vb (.cmp .eq (.v 2) (.v 5)))])
     (
      .done [(.vb .ff)]))
   (
    .done [(.vb .ff)])
/-- laws_coForms -/
def R_laws_coForms : R :=
  .ite (.not (.cmp .eq (.len (.v 0)) (.len (.v 1))))
   (
    .done [(.vb .ff)])
   (
    .loop 2 [(.z 0)] <|
      .ite (.cmp .lt (.v 2) (.len (.v 0)))
       (
        .i (.idx (.v 0) (.v 2) (.g [.s, .s, .i .i64]) 3) <|
        .i (.idx (.v 1) (.v 2) (.g [.s, .s, .i .i64]) 6) <|
        .i (.call f_laws_coForm [(.s (.v 3)), (.s (.v 4)), (.vi .i64 (.v 5)), (.s (.v 6)), (.s (.v 7)), (.vi .i64 (.v 8))] [.b] 9) <|
        .ite (.not (.v 9))
         (
          .esc <|
          .done [(.vb .ff)])
         (
          .next [(.bin .add .i64 (.v 2) (.z 1))]))
       (
        .esc <|
        .done [(.vb .tt)]))
/-- laws_coRow -/
def R_laws_coRow : R :=
  .i (.call f_laws_coForms [(.s (.v 0)), (.s (.v 4))] [.b] 8) <|
  .ite (.v 8)
   (
    .i (.call f_laws_coForms [(.s (.v 1)), (.s (.v 5))] [.b] 9) <|
    .ite (.v 9)
     (
      .i (.call f_laws_coForms [(.s (.v 2)), (.s (.v 6))] [.b] 10) <|
      .ite (.v 10)
       (
        .done [(.vb (.beq (.v 3) (.v 7)))])
       (
        .done [(.vb .ff)]))
     (
      .done [(.vb .ff)]))
   (
    .done [(.vb .ff)])
/-- laws_coRows -/
def R_laws_coRows : R :=
  .ite (.not (.cmp .eq (.len (.v 0)) (.len (.v 1))))
   (
    .done [(.vb .ff)])
   (
    .loop 2 [(.z 0)] <|
      .ite (.cmp .lt (.v 2) (.len (.v 0)))
       (
        .i (.idx (.v 0) (.v 2) (.g [.s, .s, .s, .b]) 3) <|
        .i (.idx (.v 1) (.v 2) (.g [.s, .s, .s, .b]) 7) <|
        .i (.call f_laws_coRow [(.s (.v 3)), (.s (.v 4)), (.s (.v 5)), (.vb (.v 6)), (.s (.v 7)), (.s (.v 8)), (.s (.v 9)), (.vb (.v 10))] [.b] 11) <|
        .ite (.not (.v 11))
         (
          .esc <|
          .done [(.vb .ff)])
         (
          .next [(.bin .add .i64 (.v 2) (.z 1))]))
       (
        .esc <|
        .done [(.vb .tt)]))
/-- laws_coHolds -/
def R_laws_coHolds : R :=
  .i (.call f_impl_FrmZero [] [.s, .s, .i .i64] 0) <|
  .i (.call f_impl_FrmOk [(.s (.v 0)), (.s (.v 1)), (.vi .i64 (.v 2))] [.b] 3) <|
  .done [(.vb (.v 3))]
/-- impl_RowOk_1 -/
def R_impl_RowOk_1 : R :=
  .i (.call f_impl_FrmOk [(.s (.v 0)), (.s (.v 1)), (.vi .i64 (.v 2))] [.b] 3) <|
  .done [(.vb (.not (.v 3)))]
/-- slices_Grow_Simpl_FrmForm_impl_FrmForm -/
def R_slices_Grow_Simpl_FrmForm_impl_FrmForm : R :=
  .ite (.cmp .lt (.v 0) (.z 0))
   (
    .i (.chk .ff) <|
    .done [])
   (
    .ite (.cmp .lt (.z 0) (.bin .sub .i64 (.v 0) (.bin .sub .i64 (.z 0) (.z 0))))
     (
      .i (.chk (.cmp .lt (.z 0) (.bin .sub .i64 (.v 0) (.bin .sub .i64 (.z 0) (.z 0))))) <|
      .i (.chk (.cmp .le (.bin .sub .i64 (.v 0) (.bin .sub .i64 (.z 0) (.z 0))) (.z 1256584717458))) <|
      .i (.chk (.cmp .le (.z 0) (.len (.rep (.bin .sub .i64 (.v 0) (.bin .sub .i64 (.z 0) (.z 0))) (.g (.cons (.s .nil) (.cons (.s .nil) (.cons (.vi .i64 (.z 0)) .nil)))))))) <|
      .done [(.s (.take (.rep (.bin .sub .i64 (.v 0) (.bin .sub .i64 (.z 0) (.z 0))) (.g (.cons (.s .nil) (.cons (.s .nil) (.cons (.vi .i64 (.z 0)) .nil))))) (.z 0)))])
     (
      .done [(.s .nil)]))
/-- slices_Concat_Simpl_FrmForm_impl_FrmForm -/
def R_slices_Concat_Simpl_FrmForm_impl_FrmForm : R :=
  .loop 1 [(.z 0), (.z 0)] <|
    .ite (.cmp .lt (.v 2) (.len (.v 0)))
     (
      .i (.idx (.v 0) (.v 2) (.one (.s)) 3) <|
      .ite (.cmp .lt (.bin .add .i64 (.v 1) (.len (.v 3))) (.z 0))
       (
        .i (.chk .ff) <|
        .done [])
       (
        .next [(.bin .add .i64 (.v 1) (.len (.v 3))), (.bin .add .i64 (.v 2) (.z 1))]))
     (
      .esc <|
      .i (.call f_slices_Grow_Simpl_FrmForm_impl_FrmForm [(.vi .i64 (.v 1))] [.s] 3) <|
      .loop 4 [(.v 3), (.z 0)] <|
        .ite (.cmp .lt (.v 5) (.len (.v 0)))
         (
          .i (.idx (.v 0) (.v 5) (.one (.s)) 6) <|
          .i (.chk (.cmp .le (.len (.v 6)) (.z 1256584717458))) <|
          .i (.head 3 (.v 6)) <|
          .i (.chk (.cmp .le (.len (.app (.v 4) (.v 6))) (.z 1256584717458))) <|
          .next [(.app (.v 4) (.v 6)), (.bin .add .i64 (.v 5) (.z 1))])
         (
          .esc <|
          .done [(.s (.v 4))]))
/-- impl_RowOk -/
def R_impl_RowOk : R :=
  .i (.call f_slices_Concat_Simpl_FrmForm_impl_FrmForm [(.s (.cons (.s (.v 0)) (.cons (.s (.v 1)) (.cons (.s (.v 2)) .nil))))] [.s] 4) <|
  .i (.call f_slices_ContainsFunc_Simpl_FrmForm_impl_FrmForm [(.s (.v 4)), (.fn f_impl_RowOk_1 .nil)] [.b] 5) <|
  .ite (.v 5)
   (
    .done [(.vb .ff)])
   (
    .ite (.v 3)
     (
      .ite (.cmp .eq (.len (.v 1)) (.z 0))
       (
        .done [(.vb (.cmp .eq (.len (.v 2)) (.z 0)))])
       (
        .done [(.vb .ff)]))
     (
      .done [(.vb (.cmp .eq (.len (.v 1)) (.z 3)))]))
/-- laws_FnRowsOk -/
def R_laws_FnRowsOk : R :=
  .ite (.cmp .lt (.z 1048576) (.len (.v 0)))
   (
    .done [(.vb .tt)])
   (
    .i (.call f_spec_DrawRowsOf [(.s (.v 0))] [.s] 1) <|
    .i (.call f_impl_RowsOf [(.s (.v 1))] [.s] 2) <|
    .i (.call f_spec_RowsOf [(.s (.v 1))] [.s] 3) <|
    .i (.call f_laws_coRows [(.s (.v 2)), (.s (.v 3))] [.b] 4) <|
    .ite (.not (.v 4))
     (
      .done [(.vb .ff)])
     (
      .i (.call f_spec_ActOk [(.s (.v 1))] [.b] 5) <|
      .ite (.not (.v 5))
       (
        .ite (.cmp .eq (.len (.v 2)) (.z 0))
         (
          .i (.call f_laws_coHolds [] [.b] 6) <|
          .done [(.vb (.v 6))])
         (
          .done [(.vb .ff)]))
       (
        .loop 6 [(.z 1), (.z 0)] <|
          .ite (.cmp .lt (.v 7) (.len (.v 1)))
           (
            .i (.chk (.cmp .le (.z 0) (.v 7))) <|
            .i (.chk (.cmp .lt (.v 7) (.len (.v 1)))) <|
            .i (.idx (.v 1) (.v 7) (.g [.i .i64, .i .i64, .i .i64, .s, .s, .i .i64]) 8) <|
            .ite (.cmp .eq (.v 8) (.z 1))
             (
              .next [(.bin .mul .i64 (.z 2) (.v 6)), (.bin .add .i64 (.v 7) (.z 1))])
             (
              .next [(.v 6), (.bin .add .i64 (.v 7) (.z 1))]))
           (
            .esc <|
            .loop 8 [(.z 0)] <|
              .ite (.cmp .lt (.v 8) (.len (.v 2)))
               (
                .i (.chk (.cmp .le (.z 0) (.v 8))) <|
                .i (.chk (.cmp .lt (.v 8) (.len (.v 2)))) <|
                .i (.idx (.v 2) (.v 8) (.g [.s, .s, .s, .b]) 9) <|
                .i (.call f_impl_RowOk [(.s (.v 9)), (.s (.v 10)), (.s (.v 11)), (.vb (.v 12))] [.b] 13) <|
                .ite (.not (.v 13))
                 (
                  .esc <|
                  .done [(.vb .ff)])
                 (
                  .i (.chk (.cmp .le (.z 0) (.v 8))) <|
                  .i (.chk (.cmp .lt (.v 8) (.len (.v 2)))) <|
                  .i (.idx (.v 2) (.v 8) (.g [.s, .s, .s, .b]) 14) <|
                  .ite (.cmp .lt (.z 3) (.len (.v 14)))
                   (
                    .esc <|
                    .done [(.vb .ff)])
                   (
                    .i (.chk (.cmp .le (.z 0) (.v 8))) <|
                    .i (.chk (.cmp .lt (.v 8) (.len (.v 2)))) <|
                    .i (.idx (.v 2) (.v 8) (.g [.s, .s, .s, .b]) 18) <|
                    .ite (.cmp .lt (.z 6) (.len (.v 20)))
                     (
                      .esc <|
                      .done [(.vb .ff)])
                     (
                      .next [(.bin .add .i64 (.v 8) (.z 1))]))))
               (
                .esc <|
                .ite (.cmp .le (.z 1) (.len (.v 2)))
                 (
                  .done [(.vb (.cmp .le (.len (.v 2)) (.v 6)))])
                 (
                  .done [(.vb .ff)]))))))
/-- spec_l20Args -/
def R_spec_l20Args : R :=
  .i (.call f_spec_l20Rd_pick [(.s (.v 0)), (.vi .i64 (.v 1)), (.vi .i64 (.z 19))] [.i .i64, .s, .i .i64] 3) <|
  .i (.call f_spec_l20Rd_pick [(.s (.v 4)), (.vi .i64 (.v 5)), (.vi .i64 (.z 19))] [.i .i64, .s, .i .i64] 6) <|
  .i (.call f_spec_l20Rd_pick [(.s (.v 7)), (.vi .i64 (.v 8)), (.vi .i64 (.v 2))] [.i .i64, .s, .i .i64] 9) <|
  .ite (.cmp .eq (.v 9) (.z 0))
   (
    .i (.call f_spec_l20Rd_pick [(.s (.v 10)), (.vi .i64 (.v 11)), (.vi .i64 (.z 3))] [.i .i64, .s, .i .i64] 12) <|
    .ite (.cmp .eq (.v 12) (.z 0))
     (
      .done [(.s (.take (.cons (.vi .i64 (.bin .sub .i64 (.v 3) (.z 9))) (.cons (.vi .i64 (.bin .sub .i64 (.v 6) (.z 9))) .nil)) (.z 1))), (.s (.v 13)), (.vi .i64 (.v 14))])
     (
      .ite (.cmp .eq (.v 12) (.z 1))
       (
        .i (.chk (.cmp .le (.len (.app (.cons (.vi .i64 (.bin .sub .i64 (.v 3) (.z 9))) (.cons (.vi .i64 (.bin .sub .i64 (.v 6) (.z 9))) .nil)) (.cons (.vi .i64 (.z 0)) .nil))) (.z 8796093022208))) <|
        .done [(.s (.app (.cons (.vi .i64 (.bin .sub .i64 (.v 3) (.z 9))) (.cons (.vi .i64 (.bin .sub .i64 (.v 6) (.z 9))) .nil)) (.cons (.vi .i64 (.z 0)) .nil))), (.s (.v 13)), (.vi .i64 (.v 14))])
       (
        .i (.call f_spec_l20Rd_pick [(.s (.v 13)), (.vi .i64 (.v 14)), (.vi .i64 (.z 2))] [.i .i64, .s, .i .i64] 15) <|
        .i (.call f_spec_l20Rd_pick [(.s (.v 16)), (.vi .i64 (.v 17)), (.vi .i64 (.z 2))] [.i .i64, .s, .i .i64] 18) <|
        .i (.chk (.cmp .le (.z 0) (.v 18))) <|
        .i (.chk (.cmp .lt (.v 18) (.z 2))) <|
        .i (.idx (.cons (.vi .i64 (.z 10)) (.cons (.vi .i64 (.z (-10))) .nil)) (.v 18) (.one (.i .i64)) 21) <|
        .i (.chk (.cmp .le (.z 0) (.v 15))) <|
        .i (.chk (.cmp .lt (.v 15) (.z 2))) <|
        .i (.idx (.cons (.vi .i64 (.bin .sub .i64 (.v 3) (.z 9))) (.cons (.vi .i64 (.bin .sub .i64 (.v 6) (.z 9))) .nil)) (.v 15) (.one (.i .i64)) 22) <|
        .done [(.s (.set (.cons (.vi .i64 (.bin .sub .i64 (.v 3) (.z 9))) (.cons (.vi .i64 (.bin .sub .i64 (.v 6) (.z 9))) .nil)) (.v 15) (.vi .i64 (.v 21)))), (.s (.v 19)), (.vi .i64 (.v 20))])))
   (
    .done [(.s (.cons (.vi .i64 (.bin .sub .i64 (.v 3) (.z 9))) (.cons (.vi .i64 (.bin .sub .i64 (.v 6) (.z 9))) .nil))), (.s (.v 10)), (.vi .i64 (.v 11))])
/-- spec_DrawActRun -/
def R_spec_DrawActRun : R :=
  .i (.call f_spec_l20Open [(.s (.v 0))] [.s, .i .i64] 1) <|
  .i (.call f_spec_l20AnyAct [(.s (.v 1)), (.vi .i64 (.v 2)), (.vi .i64 (.z 16))] [.s, .s, .i .i64] 3) <|
  .i (.call f_spec_l20Vals [(.s (.v 4)), (.vi .i64 (.v 5)), (.vi .i64 (.z 16))] [.s, .s, .i .i64] 6) <|
  .i (.call f_spec_l20Args [(.s (.v 7)), (.vi .i64 (.v 8)), (.vi .i64 (.z 16))] [.s, .s, .i .i64] 9) <|
  .done [(.s (.v 3)), (.s (.v 6)), (.s (.v 9))]
/-- impl_pots -/
def R_impl_pots : R :=
  .loop 2 [(.cons (.vb .ff) (.cons (.vb .ff) (.cons (.vb .ff) .nil))), (.z 0)] <|
    .ite (.cmp .lt (.v 3) (.len (.v 0)))
     (
      .i (.idx (.v 0) (.v 3) (.one (.s)) 4) <|
      .i (.call f_impl_RowsOf [(.s (.v 4))] [.s] 5) <|
      .loop 6 [(.v 2), (.z 0)] <|
        .ite (.cmp .lt (.v 7) (.len (.v 5)))
         (
          .i (.chk (.cmp .le (.z 0) (.v 7))) <|
          .i (.chk (.cmp .lt (.v 7) (.len (.v 5)))) <|
          .i (.idx (.v 5) (.v 7) (.g [.s, .s, .s, .b]) 8) <|
          .loop 12 [(.v 6), (.z 0)] <|
            .ite (.cmp .lt (.v 13) (.len (.v 6)))
             (
              .i (.chk (.cmp .le (.z 0) (.v 13))) <|
              .i (.chk (.cmp .lt (.v 13) (.len (.v 12)))) <|
              .i (.idx (.v 12) (.v 13) (.one (.b)) 14) <|
              .ite (.v 14)
               (
                .i (.chk (.cmp .le (.z 0) (.v 13))) <|
                .i (.chk (.cmp .lt (.v 13) (.len (.v 12)))) <|
                .i (.idx (.v 12) (.v 13) (.one (.b)) 15) <|
                .next [(.set (.v 12) (.v 13) (.vb .tt)), (.bin .add .i64 (.v 13) (.z 1))])
               (
                .i (.callv (.da 1) [(.s (.v 8)), (.s (.v 9)), (.s (.v 10)), (.vb (.v 11)), (.vi .i64 (.v 13))] [some 4, none] [.b] 15) <|
                .i (.chk (.cmp .le (.z 0) (.v 13))) <|
                .i (.chk (.cmp .lt (.v 13) (.len (.v 12)))) <|
                .i (.idx (.v 12) (.v 13) (.one (.b)) 16) <|
                .next [(.set (.v 12) (.v 13) (.vb (.v 15))), (.bin .add .i64 (.v 13) (.z 1))]))
             (
              .esc <|
              .next [(.v 12), (.bin .add .i64 (.v 7) (.z 1))]))
         (
          .esc <|
          .next [(.v 6), (.bin .add .i64 (.v 3) (.z 1))]))
     (
      .esc <|
      .done [(.s (.v 2))])
/-- impl_CatWrites_1 -/
def R_impl_CatWrites_1 : R :=
  .ite (.not (.v 3))
   (
    .i (.idx (.v 1) (.v 4) (.g [.s, .s, .i .i64]) 5) <|
    .i (.call f_impl_FrmZero [] [.s, .s, .i .i64] 8) <|
    .i (.call f_impl_FrmForm_same [(.s (.v 5)), (.s (.v 6)), (.vi .i64 (.v 7)), (.s (.v 8)), (.s (.v 9)), (.vi .i64 (.v 10))] [.b] 11) <|
    .done [(.vb (.not (.v 11)))])
   (
    .done [(.vb .ff)])
/-- impl_CatWrites -/
def R_impl_CatWrites : R :=
  .i (.call f_impl_ActOk [(.s (.v 0))] [.b] 1) <|
  .ite (.not (.v 1))
   (
    .done [(.s .nil)])
   (
    .i (.call f_impl_pots [(.s (.cons (.s (.v 0)) .nil)), (.fn f_impl_CatWrites_1 .nil)] [.s] 2) <|
    .done [(.s (.v 2))])
/-- spec_l4Zero -/
def R_spec_l4Zero : R :=
  .i (.call f_spec_FrmZero [] [.s, .s, .i .i64] 3) <|
  .i (.call f_spec_l4Same [(.s (.v 0)), (.s (.v 3))] [.b] 6) <|
  .ite (.v 6)
   (
    .i (.call f_spec_FrmZero [] [.s, .s, .i .i64] 7) <|
    .i (.call f_spec_l4Same [(.s (.v 1)), (.s (.v 8))] [.b] 10) <|
    .ite (.v 10)
     (
      .done [(.vb (.cmp .eq (.v 2) (.z 0)))])
     (
      .done [(.vb .ff)]))
   (
    .done [(.vb .ff)])
/-- spec_CatWrites -/
def R_spec_CatWrites : R :=
  .i (.call f_spec_ActOk [(.s (.v 0))] [.b] 1) <|
  .ite (.not (.v 1))
   (
    .done [(.s .nil)])
   (
    .i (.call f_spec_RowsOf [(.s (.v 0))] [.s] 2) <|
    .loop 3 [(.cons (.vb .ff) (.cons (.vb .ff) (.cons (.vb .ff) .nil))), (.z 0)] <|
      .ite (.cmp .lt (.v 4) (.len (.v 2)))
       (
        .loop 5 [(.v 3), (.z 0)] <|
          .i (.chk (.cmp .le (.z 0) (.v 4))) <|
          .i (.chk (.cmp .lt (.v 4) (.len (.v 2)))) <|
          .i (.idx (.v 2) (.v 4) (.g [.s, .s, .s, .b]) 7) <|
          .ite (.cmp .lt (.v 6) (.len (.v 8)))
           (
            .i (.chk (.cmp .le (.z 0) (.v 4))) <|
            .i (.chk (.cmp .lt (.v 4) (.len (.v 2)))) <|
            .i (.idx (.v 2) (.v 4) (.g [.s, .s, .s, .b]) 11) <|
            .i (.idx (.v 12) (.v 6) (.g [.s, .s, .i .i64]) 15) <|
            .i (.call f_spec_l4Zero [(.s (.v 15)), (.s (.v 16)), (.vi .i64 (.v 17))] [.b] 18) <|
            .ite (.not (.v 18))
             (
              .i (.chk (.cmp .le (.z 0) (.v 6))) <|
              .i (.chk (.cmp .lt (.v 6) (.len (.v 5)))) <|
              .i (.idx (.v 5) (.v 6) (.one (.b)) 19) <|
              .next [(.set (.v 5) (.v 6) (.vb .tt)), (.bin .add .i64 (.v 6) (.z 1))])
             (
              .next [(.v 5), (.bin .add .i64 (.v 6) (.z 1))]))
           (
            .esc <|
            .next [(.v 5), (.bin .add .i64 (.v 4) (.z 1))]))
       (
        .esc <|
        .done [(.s (.v 3))]))
/-- laws_coBools -/
def R_laws_coBools : R :=
  .ite (.not (.cmp .eq (.len (.v 0)) (.len (.v 1))))
   (
    .done [(.vb .ff)])
   (
    .loop 2 [(.z 0)] <|
      .ite (.cmp .lt (.v 2) (.len (.v 0)))
       (
        .i (.idx (.v 0) (.v 2) (.one (.b)) 3) <|
        .i (.idx (.v 1) (.v 2) (.one (.b)) 4) <|
        .ite (.not (.beq (.v 3) (.v 4)))
         (
          .esc <|
          .done [(.vb .ff)])
         (
          .next [(.bin .add .i64 (.v 2) (.z 1))]))
       (
        .esc <|
        .done [(.vb .tt)]))
/-- impl_ArgOk -/
def R_impl_ArgOk : R :=
  .i (.call f_impl_within [(.s (.v 0)), (.vi .i64 (.z 2)), (.vi .i64 (.z 9))] [.b] 1) <|
  .done [(.vb (.v 1))]
/-- impl_FrmForm_at -/
def R_impl_FrmForm_at : R :=
  .i (.call f_impl_dot [(.s (.v 0)), (.s (.v 3))] [.i .i64] 5) <|
  .i (.call f_impl_dot [(.s (.v 1)), (.s (.v 4))] [.i .i64] 6) <|
  .done [(.vi .i64 (.bin .add .i64 (.bin .add .i64 (.v 5) (.v 6)) (.v 2)))]
/-- impl_ActRun -/
def R_impl_ActRun : R :=
  .i (.call f_impl_ActOk [(.s (.v 0))] [.b] 3) <|
  .ite (.not (.v 3))
   (
    .done [(.vi .i64 (.z 0)), (.s .nil), (.s .nil)])
   (
    .i (.call f_impl_ValOk [(.s (.v 1))] [.b] 4) <|
    .ite (.not (.v 4))
     (
      .done [(.vi .i64 (.z 0)), (.s .nil), (.s .nil)])
     (
      .i (.call f_impl_ArgOk [(.s (.v 2))] [.b] 5) <|
      .ite (.not (.v 5))
       (
        .done [(.vi .i64 (.z 0)), (.s .nil), (.s .nil)])
       (
        .i (.call f_slices_Clone_Sint_int [(.s (.v 1))] [.s] 6) <|
        .loop 7 [.nil, (.v 6), (.z 0)] <|
          .ite (.cmp .lt (.v 9) (.len (.v 0)))
           (
            .i (.idx (.v 0) (.v 9) (.g [.i .i64, .i .i64, .i .i64, .s, .s, .i .i64]) 10) <|
            .ite (.cmp .eq (.v 10) (.z 4))
             (
              .i (.call f_slices_Clone_Sint_int [(.s (.v 1))] [.s] 16) <|
              .esc <|
              .done [(.vi .i64 (.z 2)), (.s .nil), (.s (.v 16))])
             (
              .i (.call f_impl_FrmForm_at [(.s (.v 13)), (.s (.v 14)), (.vi .i64 (.v 15)), (.s (.v 8)), (.s (.v 2))] [.i .i64] 16) <|
              .ite (.cmp .eq (.v 10) (.z 1))
               (
                .ite (.cmp .lt (.v 16) (.z 0))
                 (
                  .next [(.v 7), (.v 8), (.bin .add .i64 (.bin .add .i64 (.v 9) (.v 12)) (.z 1))])
                 (
                  .next [(.v 7), (.v 8), (.bin .add .i64 (.v 9) (.z 1))]))
               (
                .ite (.cmp .eq (.v 10) (.z 2))
                 (
                  .i (.chk (.cmp .le (.z 0) (.v 11))) <|
                  .i (.chk (.cmp .lt (.v 11) (.len (.v 8)))) <|
                  .i (.idx (.v 8) (.v 11) (.one (.i .i64)) 17) <|
                  .i (.chk (.cmp .le (.z 0) (.v 11))) <|
                  .i (.chk (.cmp .lt (.v 11) (.len (.v 8)))) <|
                  .i (.idx (.v 8) (.v 11) (.one (.i .i64)) 18) <|
                  .next [(.v 7), (.set (.v 8) (.v 11) (.vi .i64 (.bin .add .i64 (.v 17) (.v 16)))), (.bin .add .i64 (.v 9) (.z 1))])
                 (
                  .ite (.cmp .eq (.v 10) (.z 3))
                   (
                    .i (.chk (.cmp .le (.len (.app (.v 7) (.cons (.vi .i64 (.v 16)) .nil))) (.z 8796093022208))) <|
                    .next [(.app (.v 7) (.cons (.vi .i64 (.v 16)) .nil)), (.v 8), (.bin .add .i64 (.v 9) (.z 1))])
                   (
                    .next [(.v 7), (.v 8), (.bin .add .i64 (.v 9) (.z 1))])))))
           (
            .esc <|
            .i (.call f_impl_ValOk [(.s (.v 8))] [.b] 10) <|
            .ite (.not (.v 10))
             (
              .i (.call f_slices_Clone_Sint_int [(.s (.v 1))] [.s] 11) <|
              .done [(.vi .i64 (.z 3)), (.s .nil), (.s (.v 11))])
             (
              .done [(.vi .i64 (.z 1)), (.s (.v 7)), (.s (.v 8))])))))
/-- laws_FnCatWrites -/
def R_laws_FnCatWrites : R :=
  .ite (.cmp .lt (.z 1048576) (.len (.v 0)))
   (
    .done [(.vb .tt)])
   (
    .i (.call f_spec_DrawActRun [(.s (.v 0))] [.s, .s, .s] 1) <|
    .i (.call f_impl_CatWrites [(.s (.v 1))] [.s] 4) <|
    .i (.call f_spec_CatWrites [(.s (.v 1))] [.s] 5) <|
    .i (.call f_laws_coBools [(.s (.v 4)), (.s (.v 5))] [.b] 6) <|
    .ite (.not (.v 6))
     (
      .done [(.vb .ff)])
     (
      .i (.call f_impl_ActRun [(.s (.v 1)), (.s (.v 2)), (.s (.v 3))] [.i .i64, .s, .s] 7) <|
      .ite (.cmp .eq (.v 7) (.z 0))
       (
        .i (.call f_laws_coHolds [] [.b] 10) <|
        .done [(.vb (.v 10))])
       (
        .loop 10 [(.z 0)] <|
          .ite (.cmp .lt (.v 10) (.z 3))
           (
            .i (.chk (.cmp .le (.z 0) (.v 10))) <|
            .i (.chk (.cmp .lt (.v 10) (.len (.v 4)))) <|
            .i (.idx (.v 4) (.v 10) (.one (.b)) 11) <|
            .ite (.not (.v 11))
             (
              .i (.chk (.cmp .le (.z 0) (.v 10))) <|
              .i (.chk (.cmp .lt (.v 10) (.len (.v 9)))) <|
              .i (.idx (.v 9) (.v 10) (.one (.i .i64)) 12) <|
              .i (.chk (.cmp .le (.z 0) (.v 10))) <|
              .i (.chk (.cmp .lt (.v 10) (.len (.v 2)))) <|
              .i (.idx (.v 2) (.v 10) (.one (.i .i64)) 13) <|
              .ite (.not (.cmp .eq (.v 12) (.v 13)))
               (
                .esc <|
                .done [(.vb .ff)])
               (
                .next [(.bin .add .i64 (.v 10) (.z 1))]))
             (
              .next [(.bin .add .i64 (.v 10) (.z 1))]))
           (
            .esc <|
            .i (.call f_laws_coHolds [] [.b] 11) <|
            .done [(.vb (.v 11))]))))
/-- spec_DrawTrtBounds -/
def R_spec_DrawTrtBounds : R :=
  .i (.call f_spec_l20Open [(.s (.v 0))] [.s, .i .i64] 1) <|
  .i (.call f_spec_l20Acts [(.s (.v 1)), (.vi .i64 (.v 2))] [.s, .s, .i .i64] 3) <|
  .i (.call f_spec_CatForms [(.s (.v 3))] [.s] 6) <|
  .i (.call f_spec_l20Form [(.s (.v 4)), (.vi .i64 (.v 5)), (.vi .i64 (.z 12))] [.s, .s, .i .i64, .s, .i .i64] 7) <|
  .i (.chk (.cmp .lt (.z 0) (.len (.v 3)))) <|
  .i (.idx (.v 3) (.z 0) (.one (.s)) 12) <|
  .i (.call f_spec_RowsOf [(.s (.v 12))] [.s] 13) <|
  .i (.call f_spec_l20Rd_pick [(.s (.v 10)), (.vi .i64 (.v 11)), (.vi .i64 (.z 2))] [.i .i64, .s, .i .i64] 14) <|
  .ite (.cmp .eq (.v 14) (.z 0))
   (
    .i (.chk (.cmp .lt (.z 0) (.len (.v 13)))) <|
    .i (.idx (.v 13) (.z 0) (.g [.s, .s, .s, .b]) 17) <|
    .ite (.cmp .lt (.z 0) (.len (.v 17)))
     (
      .i (.chk (.cmp .lt (.z 0) (.len (.v 13)))) <|
      .i (.idx (.v 13) (.z 0) (.g [.s, .s, .s, .b]) 21) <|
      .i (.idx (.v 21) (.z 0) (.g [.s, .s, .i .i64]) 25) <|
      .i (.call f_spec_l20Treaty [(.s (.v 15)), (.vi .i64 (.v 16)), (.vi .i64 (.z 16))] [.s, .s, .s, .i .i64] 28) <|
      .i (.call f_spec_l20Rd_pick [(.s (.v 30)), (.vi .i64 (.v 31)), (.vi .i64 (.z 3))] [.i .i64, .s, .i .i64] 32) <|
      .i (.call f_spec_l20Added [(.s (.v 33)), (.vi .i64 (.v 34)), (.vi .i64 (.z 16))] [.s, .s, .i .i64] 35) <|
      .i (.call f_spec_l20Args [(.s (.v 36)), (.vi .i64 (.v 37)), (.vi .i64 (.z 16))] [.s, .s, .i .i64] 38) <|
      .done [(.s (.v 28)), (.s (.v 29)), (.s (.v 6)), (.vi .i64 (.v 32)), (.s (.v 35)), (.s (.v 25)), (.s (.v 26)), (.vi .i64 (.v 27)), (.s (.v 38))])
     (
      .i (.call f_spec_l20Treaty [(.s (.v 15)), (.vi .i64 (.v 16)), (.vi .i64 (.z 16))] [.s, .s, .s, .i .i64] 21) <|
      .i (.call f_spec_l20Rd_pick [(.s (.v 23)), (.vi .i64 (.v 24)), (.vi .i64 (.z 3))] [.i .i64, .s, .i .i64] 25) <|
      .i (.call f_spec_l20Added [(.s (.v 26)), (.vi .i64 (.v 27)), (.vi .i64 (.z 16))] [.s, .s, .i .i64] 28) <|
      .i (.call f_spec_l20Args [(.s (.v 29)), (.vi .i64 (.v 30)), (.vi .i64 (.z 16))] [.s, .s, .i .i64] 31) <|
      .done [(.s (.v 21)), (.s (.v 22)), (.s (.v 6)), (.vi .i64 (.v 25)), (.s (.v 28)), (.s (.v 7)), (.s (.v 8)), (.vi .i64 (.v 9)), (.s (.v 31))]))
   (
    .i (.call f_spec_l20Treaty [(.s (.v 15)), (.vi .i64 (.v 16)), (.vi .i64 (.z 16))] [.s, .s, .s, .i .i64] 17) <|
    .i (.call f_spec_l20Rd_pick [(.s (.v 19)), (.vi .i64 (.v 20)), (.vi .i64 (.z 3))] [.i .i64, .s, .i .i64] 21) <|
    .i (.call f_spec_l20Added [(.s (.v 22)), (.vi .i64 (.v 23)), (.vi .i64 (.z 16))] [.s, .s, .i .i64] 24) <|
    .i (.call f_spec_l20Args [(.s (.v 25)), (.vi .i64 (.v 26)), (.vi .i64 (.z 16))] [.s, .s, .i .i64] 27) <|
    .done [(.s (.v 17)), (.s (.v 18)), (.s (.v 6)), (.vi .i64 (.v 21)), (.s (.v 24)), (.s (.v 7)), (.s (.v 8)), (.vi .i64 (.v 9)), (.s (.v 27))])
/-- impl_plus -/
def R_impl_plus : R :=
  .i (.call f_slices_Clone_Sint_int [(.s (.v 0))] [.s] 2) <|
  .loop 3 [(.v 2), (.z 0)] <|
    .ite (.cmp .lt (.v 4) (.len (.v 1)))
     (
      .i (.idx (.v 1) (.v 4) (.one (.i .i64)) 5) <|
      .i (.chk (.cmp .le (.z 0) (.v 4))) <|
      .i (.chk (.cmp .lt (.v 4) (.len (.v 3)))) <|
      .i (.idx (.v 3) (.v 4) (.one (.i .i64)) 6) <|
      .i (.chk (.cmp .le (.z 0) (.v 4))) <|
      .i (.chk (.cmp .lt (.v 4) (.len (.v 3)))) <|
      .i (.idx (.v 3) (.v 4) (.one (.i .i64)) 7) <|
      .next [(.set (.v 3) (.v 4) (.vi .i64 (.bin .add .i64 (.v 6) (.v 5)))), (.bin .add .i64 (.v 4) (.z 1))])
     (
      .esc <|
      .done [(.s (.v 3))])
/-- impl_TrtOthers -/
def R_impl_TrtOthers : R :=
  .loop 3 [(.z 0), (.z 0)] <|
    .ite (.cmp .lt (.v 4) (.len (.v 1)))
     (
      .i (.idx (.v 1) (.v 4) (.one (.i .i64)) 5) <|
      .ite (.not (.cmp .eq (.v 4) (.v 2)))
       (
        .next [(.bin .add .i64 (.v 3) (.v 5)), (.bin .add .i64 (.v 4) (.z 1))])
       (
        .next [(.v 3), (.bin .add .i64 (.v 4) (.z 1))]))
     (
      .esc <|
      .done [(.vi .i64 (.v 3))])
/-- impl_zeros_1 -/
def R_impl_zeros_1 : R :=
  .done [(.vb (.not (.cmp .eq (.v 0) (.z 0))))]
/-- impl_zeros -/
def R_impl_zeros : R :=
  .i (.call f_slices_ContainsFunc_Sint_int [(.s (.v 0)), (.fn f_impl_zeros_1 .nil)] [.b] 1) <|
  .done [(.vb (.not (.v 1)))]
/-- impl_CatPart_1 -/
def R_impl_CatPart_1 : R :=
  .done [(.vb (.not (.cmp .eq (.v 0) (.z 0))))]
/-- impl_CatPart -/
def R_impl_CatPart : R :=
  .i (.call f_slices_Clone_Sint_int [(.s (.v 0))] [.s] 3) <|
  .i (.call f_slices_IndexFunc_Sint_int [(.s (.v 3)), (.fn f_impl_CatPart_1 .nil)] [.i .i64] 4) <|
  .ite (.cmp .le (.z 0) (.v 4))
   (
    .i (.chk (.cmp .le (.z 0) (.v 4))) <|
    .i (.chk (.cmp .lt (.v 4) (.len (.v 3)))) <|
    .i (.idx (.v 3) (.v 4) (.one (.i .i64)) 5) <|
    .ite (.cmp .lt (.v 5) (.z 0))
     (
      .loop 6 [(.v 3), (.z 0)] <|
        .ite (.cmp .lt (.v 7) (.len (.v 3)))
         (
          .i (.chk (.cmp .le (.z 0) (.v 7))) <|
          .i (.chk (.cmp .lt (.v 7) (.len (.v 6)))) <|
          .i (.idx (.v 6) (.v 7) (.one (.i .i64)) 8) <|
          .i (.chk (.cmp .le (.z 0) (.v 7))) <|
          .i (.chk (.cmp .lt (.v 7) (.len (.v 6)))) <|
          .i (.idx (.v 6) (.v 7) (.one (.i .i64)) 9) <|
          .next [(.set (.v 6) (.v 7) (.vi .i64 (.bin .sub .i64 (.z 0) (.v 8)))), (.bin .add .i64 (.v 7) (.z 1))])
         (
          .esc <|
          .done [(.s (.v 6))]))
     (
      .done [(.s (.v 3))]))
   (
    .done [(.s (.v 3))])
/-- impl_CatHas_1 -/
def R_impl_CatHas_1 : R :=
  .i (.get (.da 1) (.q [.s]) 2) <|
  .i (.call f_slices_Equal_Sint_int [(.s (.v 0)), (.s (.v 2))] [.b] 3) <|
  .done [(.vb (.v 3))]
/-- impl_CatHas -/
def R_impl_CatHas : R :=
  .i (.call f_slices_IndexFunc_SSint_Sint [(.s (.v 0)), (.fn f_impl_CatHas_1 (.cons (.q (.cons (.s (.v 1)) .nil)) .nil))] [.i .i64] 2) <|
  .done [(.vi .i64 (.v 2))]
/-- impl_TrtBounds -/
def R_impl_TrtBounds : R :=
  .i (.call f_impl_TrtTreaty_ok [(.s (.v 0)), (.s (.v 1)), (.s (.v 2)), (.vi .i64 (.v 3)), (.s (.v 4))] [.b] 9) <|
  .ite (.not (.v 9))
   (
    .done [(.vi .i64 (.z 0)), (.vi .i64 (.z 0)), (.vb .ff)])
   (
    .i (.call f_impl_FrmOk [(.s (.v 5)), (.s (.v 6)), (.vi .i64 (.v 7))] [.b] 10) <|
    .ite (.not (.v 10))
     (
      .done [(.vi .i64 (.z 0)), (.vi .i64 (.z 0)), (.vb .ff)])
     (
      .i (.call f_impl_ArgOk [(.s (.v 8))] [.b] 11) <|
      .ite (.not (.v 11))
       (
        .done [(.vi .i64 (.z 0)), (.vi .i64 (.z 0)), (.vb .ff)])
       (
        .i (.call f_impl_plus [(.s (.v 0)), (.s (.v 4))] [.s] 12) <|
        .i (.call f_impl_FrmForm_at [(.s (.v 5)), (.s (.v 6)), (.vi .i64 (.v 7)), (.s (.v 12)), (.s (.v 8))] [.i .i64] 13) <|
        .i (.call f_impl_TrtOthers [(.s (.v 0)), (.s (.v 1)), (.vi .i64 (.v 3))] [.i .i64] 14) <|
        .i (.call f_impl_zeros [(.s (.v 5))] [.b] 15) <|
        .ite (.v 15)
         (
          .done [(.vi .i64 (.v 13)), (.vi .i64 (.v 13)), (.vb .tt)])
         (
          .i (.call f_impl_CatPart [(.s (.v 5)), (.s (.v 6)), (.vi .i64 (.v 7))] [.s] 16) <|
          .i (.call f_impl_CatHas [(.s (.v 2)), (.s (.v 16))] [.i .i64] 17) <|
          .ite (.cmp .le (.z 0) (.v 17))
           (
            .done [(.vi .i64 (.bin .sub .i64 (.v 13) (.v 14))), (.vi .i64 (.bin .add .i64 (.v 13) (.v 14))), (.vb .tt)])
           (
            .done [(.vi .i64 (.z 0)), (.vi .i64 (.z 0)), (.vb .ff)])))))
/-- spec_ArgOk -/
def R_spec_ArgOk : R :=
  .i (.call f_spec_l1All [(.s (.v 0)), (.vi .i64 (.z 2)), (.vi .i64 (.z 9))] [.b] 1) <|
  .done [(.vb (.v 1))]
/-- spec_l5Sum -/
def R_spec_l5Sum : R :=
  .loop 2 [.nil, (.z 0)] <|
    .ite (.cmp .lt (.v 3) (.z 3))
     (
      .i (.idx (.v 0) (.v 3) (.one (.i .i64)) 4) <|
      .i (.idx (.v 1) (.v 3) (.one (.i .i64)) 5) <|
      .i (.chk (.cmp .le (.len (.app (.v 2) (.cons (.vi .i64 (.bin .add .i64 (.v 4) (.v 5))) .nil))) (.z 8796093022208))) <|
      .next [(.app (.v 2) (.cons (.vi .i64 (.bin .add .i64 (.v 4) (.v 5))) .nil)), (.bin .add .i64 (.v 3) (.z 1))])
     (
      .esc <|
      .done [(.s (.v 2))])
/-- spec_l1At -/
def R_spec_l1At : R :=
  .loop 5 [(.v 2), (.z 0)] <|
    .ite (.cmp .lt (.v 6) (.z 3))
     (
      .i (.idx (.v 0) (.v 6) (.one (.i .i64)) 7) <|
      .i (.idx (.v 3) (.v 6) (.one (.i .i64)) 8) <|
      .next [(.bin .add .i64 (.v 5) (.bin .mul .i64 (.v 7) (.v 8))), (.bin .add .i64 (.v 6) (.z 1))])
     (
      .esc <|
      .loop 7 [(.v 5), (.z 0)] <|
        .ite (.cmp .lt (.v 8) (.z 2))
         (
          .i (.idx (.v 1) (.v 8) (.one (.i .i64)) 9) <|
          .i (.idx (.v 4) (.v 8) (.one (.i .i64)) 10) <|
          .next [(.bin .add .i64 (.v 7) (.bin .mul .i64 (.v 9) (.v 10))), (.bin .add .i64 (.v 8) (.z 1))])
         (
          .esc <|
          .done [(.vi .i64 (.v 7))]))
/-- spec_TrtOthers -/
def R_spec_TrtOthers : R :=
  .loop 3 [(.z 0), (.z 0)] <|
    .ite (.cmp .lt (.v 4) (.len (.v 1)))
     (
      .ite (.not (.cmp .eq (.v 4) (.v 2)))
       (
        .i (.idx (.v 1) (.v 4) (.one (.i .i64)) 5) <|
        .next [(.bin .add .i64 (.v 3) (.v 5)), (.bin .add .i64 (.v 4) (.z 1))])
       (
        .next [(.v 3), (.bin .add .i64 (.v 4) (.z 1))]))
     (
      .esc <|
      .done [(.vi .i64 (.v 3))])
/-- spec_TrtBounds -/
def R_spec_TrtBounds : R :=
  .i (.call f_spec_TrtOk [(.s (.v 0)), (.s (.v 1))] [.b] 9) <|
  .ite (.not (.v 9))
   (
    .done [(.vi .i64 (.z 0)), (.vi .i64 (.z 0)), (.vb .ff)])
   (
    .i (.call f_spec_l5Parts [(.s (.v 2))] [.b] 10) <|
    .ite (.not (.v 10))
     (
      .done [(.vi .i64 (.z 0)), (.vi .i64 (.z 0)), (.vb .ff)])
     (
      .i (.call f_spec_l1In [(.vi .i64 (.v 3)), (.vi .i64 (.z 0)), (.vi .i64 (.bin .sub .i64 (.len (.v 1)) (.z 1)))] [.b] 11) <|
      .ite (.not (.v 11))
       (
        .done [(.vi .i64 (.z 0)), (.vi .i64 (.z 0)), (.vb .ff)])
       (
        .i (.call f_spec_l1All [(.s (.v 4)), (.vi .i64 (.z 3)), (.vi .i64 (.z 20000))] [.b] 12) <|
        .ite (.not (.v 12))
         (
          .done [(.vi .i64 (.z 0)), (.vi .i64 (.z 0)), (.vb .ff)])
         (
          .i (.call f_spec_FrmOk [(.s (.v 5)), (.s (.v 6)), (.vi .i64 (.v 7))] [.b] 13) <|
          .ite (.not (.v 13))
           (
            .done [(.vi .i64 (.z 0)), (.vi .i64 (.z 0)), (.vb .ff)])
           (
            .i (.call f_spec_ArgOk [(.s (.v 8))] [.b] 14) <|
            .ite (.not (.v 14))
             (
              .done [(.vi .i64 (.z 0)), (.vi .i64 (.z 0)), (.vb .ff)])
             (
              .i (.call f_spec_l5Sum [(.s (.v 0)), (.s (.v 4))] [.s] 15) <|
              .i (.call f_spec_l1At [(.s (.v 5)), (.s (.v 6)), (.vi .i64 (.v 7)), (.s (.v 15)), (.s (.v 8))] [.i .i64] 16) <|
              .i (.call f_spec_CatPart [(.s (.v 5)), (.s (.v 6)), (.vi .i64 (.v 7))] [.s] 17) <|
              .i (.call f_spec_FrmZero [] [.s, .s, .i .i64] 18) <|
              .i (.call f_spec_l4Same [(.s (.v 17)), (.s (.v 18))] [.b] 21) <|
              .ite (.v 21)
               (
                .done [(.vi .i64 (.v 16)), (.vi .i64 (.v 16)), (.vb .tt)])
               (
                .i (.call f_spec_CatHas [(.s (.v 2)), (.s (.v 17))] [.i .i64] 22) <|
                .ite (.cmp .lt (.v 22) (.z 0))
                 (
                  .done [(.vi .i64 (.z 0)), (.vi .i64 (.z 0)), (.vb .ff)])
                 (
                  .i (.call f_spec_TrtOthers [(.s (.v 0)), (.s (.v 1)), (.vi .i64 (.v 3))] [.i .i64] 23) <|
                  .i (.call f_spec_TrtOthers [(.s (.v 0)), (.s (.v 1)), (.vi .i64 (.v 3))] [.i .i64] 24) <|
                  .done [(.vi .i64 (.bin .sub .i64 (.v 16) (.v 23))), (.vi .i64 (.bin .add .i64 (.v 16) (.v 24))), (.vb .tt)]))))))))
/-- laws_coSum -/
def R_laws_coSum : R :=
  .i (.chk (.cmp .le (.len (.v 0)) (.z 8796093022208))) <|
  .i (.head 1 (.v 0)) <|
  .i (.chk (.cmp .le (.len (.app .nil (.v 0))) (.z 8796093022208))) <|
  .loop 2 [(.app .nil (.v 0)), (.z 0)] <|
    .ite (.cmp .lt (.v 3) (.len (.v 1)))
     (
      .loop 4 [(.v 2), (.z 0)] <|
        .ite (.cmp .lt (.v 5) (.len (.v 4)))
         (
          .i (.chk (.cmp .le (.z 0) (.v 5))) <|
          .i (.chk (.cmp .lt (.v 5) (.len (.v 4)))) <|
          .i (.idx (.v 4) (.v 5) (.one (.i .i64)) 6) <|
          .i (.idx (.v 1) (.v 3) (.one (.s)) 7) <|
          .i (.idx (.v 7) (.v 5) (.one (.i .i64)) 8) <|
          .i (.chk (.cmp .le (.z 0) (.v 5))) <|
          .i (.chk (.cmp .lt (.v 5) (.len (.v 4)))) <|
          .i (.idx (.v 4) (.v 5) (.one (.i .i64)) 9) <|
          .next [(.set (.v 4) (.v 5) (.vi .i64 (.bin .add .i64 (.v 6) (.v 8)))), (.bin .add .i64 (.v 5) (.z 1))])
         (
          .esc <|
          .next [(.v 4), (.bin .add .i64 (.v 3) (.z 1))]))
     (
      .esc <|
      .done [(.s (.v 2))])
/-- impl_FrmAt -/
def R_impl_FrmAt : R :=
  .i (.call f_impl_FrmOk [(.s (.v 0)), (.s (.v 1)), (.vi .i64 (.v 2))] [.b] 5) <|
  .ite (.not (.v 5))
   (
    .done [(.vi .i64 (.z 0)), (.vb .ff)])
   (
    .i (.call f_impl_ValOk [(.s (.v 3))] [.b] 6) <|
    .ite (.not (.v 6))
     (
      .done [(.vi .i64 (.z 0)), (.vb .ff)])
     (
      .i (.call f_impl_ArgOk [(.s (.v 4))] [.b] 7) <|
      .ite (.not (.v 7))
       (
        .done [(.vi .i64 (.z 0)), (.vb .ff)])
       (
        .i (.call f_impl_FrmForm_at [(.s (.v 0)), (.s (.v 1)), (.vi .i64 (.v 2)), (.s (.v 3)), (.s (.v 4))] [.i .i64] 8) <|
        .done [(.vi .i64 (.v 8)), (.vb .tt)])))
/-- laws_FnTrtAlone -/
def R_laws_FnTrtAlone : R :=
  .ite (.cmp .lt (.z 1048576) (.len (.v 0)))
   (
    .done [(.vb .tt)])
   (
    .i (.call f_spec_DrawTrtBounds [(.s (.v 0))] [.s, .s, .s, .i .i64, .s, .s, .s, .i .i64, .s] 1) <|
    .loop 10 [(.v 2), (.z 0)] <|
      .ite (.cmp .lt (.v 11) (.len (.v 10)))
       (
        .ite (.not (.cmp .eq (.v 11) (.v 4)))
         (
          .i (.chk (.cmp .le (.z 0) (.v 11))) <|
          .i (.chk (.cmp .lt (.v 11) (.len (.v 10)))) <|
          .i (.idx (.v 10) (.v 11) (.one (.i .i64)) 12) <|
          .next [(.set (.v 10) (.v 11) (.vi .i64 (.z 0))), (.bin .add .i64 (.v 11) (.z 1))])
         (
          .next [(.v 10), (.bin .add .i64 (.v 11) (.z 1))]))
       (
        .esc <|
        .i (.call f_impl_TrtBounds [(.s (.v 1)), (.s (.v 10)), (.s (.v 3)), (.vi .i64 (.v 4)), (.s (.v 5)), (.s (.v 6)), (.s (.v 7)), (.vi .i64 (.v 8)), (.s (.v 9))] [.i .i64, .i .i64, .b] 12) <|
        .i (.call f_spec_TrtBounds [(.s (.v 1)), (.s (.v 10)), (.s (.v 3)), (.vi .i64 (.v 4)), (.s (.v 5)), (.s (.v 6)), (.s (.v 7)), (.vi .i64 (.v 8)), (.s (.v 9))] [.i .i64, .i .i64, .b] 15) <|
        .ite (.not (.cmp .eq (.v 12) (.v 15)))
         (
          .done [(.vb .ff)])
         (
          .ite (.not (.cmp .eq (.v 13) (.v 16)))
           (
            .done [(.vb .ff)])
           (
            .ite (.not (.beq (.v 14) (.v 17)))
             (
              .done [(.vb .ff)])
             (
              .ite (.not (.v 14))
               (
                .ite (.cmp .eq (.v 12) (.z 0))
                 (
                  .ite (.cmp .eq (.v 13) (.z 0))
                   (
                    .i (.call f_laws_coHolds [] [.b] 18) <|
                    .done [(.vb (.v 18))])
                   (
                    .done [(.vb .ff)]))
                 (
                  .done [(.vb .ff)]))
               (
                .i (.call f_laws_coSum [(.s (.v 1)), (.s (.cons (.s (.v 5)) .nil))] [.s] 18) <|
                .i (.call f_impl_FrmAt [(.s (.v 6)), (.s (.v 7)), (.vi .i64 (.v 8)), (.s (.v 18)), (.s (.v 9))] [.i .i64, .b] 19) <|
                .ite (.cmp .eq (.v 12) (.v 13))
                 (
                  .ite (.not (.v 20))
                   (
                    .done [(.vb .tt)])
                   (
                    .done [(.vb (.cmp .eq (.v 19) (.v 12)))]))
                 (
                  .done [(.vb .ff)])))))))
/-- spec_l20AnyActs -/
def R_spec_l20AnyActs : R :=
  .i (.call f_spec_l20Acts [(.s (.v 0)), (.vi .i64 (.v 1))] [.s, .s, .i .i64] 3) <|
  .i (.call f_spec_l20Rd_pick [(.s (.v 4)), (.vi .i64 (.v 5)), (.vi .i64 (.v 2))] [.i .i64, .s, .i .i64] 6) <|
  .ite (.cmp .lt (.z 0) (.v 6))
   (
    .done [(.s (.v 3)), (.s (.v 7)), (.vi .i64 (.v 8))])
   (
    .i (.call f_spec_l20Rd_pick [(.s (.v 7)), (.vi .i64 (.v 8)), (.vi .i64 (.z 3))] [.i .i64, .s, .i .i64] 9) <|
    .ite (.cmp .eq (.v 9) (.z 0))
     (
      .i (.call f_spec_l20AnyAct [(.s (.v 10)), (.vi .i64 (.v 11)), (.vi .i64 (.z 1))] [.s, .s, .i .i64] 12) <|
      .i (.chk (.cmp .lt (.z 0) (.len (.v 3)))) <|
      .i (.idx (.v 3) (.z 0) (.one (.s)) 15) <|
      .done [(.s (.set (.v 3) (.z 0) (.s (.v 12)))), (.s (.v 13)), (.vi .i64 (.v 14))])
     (
      .ite (.cmp .eq (.v 9) (.z 1))
       (
        .done [(.s .nil), (.s (.v 10)), (.vi .i64 (.v 11))])
       (
        .loop 12 [(.v 3)] <|
          .ite (.cmp .le (.len (.v 12)) (.z 4))
           (
            .i (.chk (.cmp .lt (.z 0) (.len (.v 12)))) <|
            .i (.idx (.v 12) (.z 0) (.one (.s)) 13) <|
            .i (.chk (.cmp .le (.len (.app (.v 12) (.cons (.s (.v 13)) .nil))) (.z 2932031007402))) <|
            .next [(.app (.v 12) (.cons (.s (.v 13)) .nil))])
           (
            .esc <|
            .done [(.s (.v 12)), (.s (.v 10)), (.vi .i64 (.v 11))]))))
/-- spec_DrawCatForms -/
def R_spec_DrawCatForms : R :=
  .i (.call f_spec_l20Open [(.s (.v 0))] [.s, .i .i64] 1) <|
  .i (.call f_spec_l20AnyActs [(.s (.v 1)), (.vi .i64 (.v 2)), (.vi .i64 (.z 8))] [.s, .s, .i .i64] 3) <|
  .done [(.s (.v 3))]
/-- slices_IndexFunc_SSimpl_ActLine_Simpl_ActLine -/
def R_slices_IndexFunc_SSimpl_ActLine_Simpl_ActLine : R :=
  .loop 2 [(.z 0)] <|
    .ite (.cmp .lt (.v 2) (.len (.v 0)))
     (
      .i (.idx (.v 0) (.v 2) (.one (.s)) 3) <|
      .i (.callv (.da 1) [(.s (.v 3))] [none] [.b] 4) <|
      .ite (.v 4)
       (
        .esc <|
        .done [(.vi .i64 (.v 2))])
       (
        .next [(.bin .add .i64 (.v 2) (.z 1))]))
     (
      .esc <|
      .done [(.vi .i64 (.z (-1)))])
/-- slices_ContainsFunc_SSimpl_ActLine_Simpl_ActLine -/
def R_slices_ContainsFunc_SSimpl_ActLine_Simpl_ActLine : R :=
  .i (.call f_slices_IndexFunc_SSimpl_ActLine_Simpl_ActLine [(.s (.v 0)), (.da 1)] [.i .i64] 2) <|
  .done [(.vb (.cmp .le (.z 0) (.v 2)))]
/-- impl_CatOk_1 -/
def R_impl_CatOk_1 : R :=
  .i (.call f_impl_ActOk [(.s (.v 0))] [.b] 1) <|
  .done [(.vb (.not (.v 1)))]
/-- impl_CatOk -/
def R_impl_CatOk : R :=
  .i (.call f_impl_in [(.vi .i64 (.len (.v 0))), (.vi .i64 (.z 1)), (.vi .i64 (.z 4))] [.b] 1) <|
  .ite (.v 1)
   (
    .i (.call f_slices_ContainsFunc_SSimpl_ActLine_Simpl_ActLine [(.s (.v 0)), (.fn f_impl_CatOk_1 .nil)] [.b] 2) <|
    .done [(.vb (.not (.v 2)))])
   (
    .done [(.vb .ff)])
/-- impl_CatForms -/
def R_impl_CatForms : R :=
  .i (.call f_impl_CatOk [(.s (.v 0))] [.b] 1) <|
  .ite (.not (.v 1))
   (
    .done [(.s .nil)])
   (
    .loop 2 [.nil, (.z 0)] <|
      .ite (.cmp .lt (.v 3) (.z 3))
       (
        .i (.call f_impl_FrmPot [(.vi .i64 (.v 3))] [.s, .s, .i .i64] 4) <|
        .i (.chk (.cmp .le (.len (.app (.v 2) (.cons (.s (.v 4)) .nil))) (.z 2932031007402))) <|
        .next [(.app (.v 2) (.cons (.s (.v 4)) .nil)), (.bin .add .i64 (.v 3) (.z 1))])
       (
        .esc <|
        .loop 4 [(.v 2), (.z 0)] <|
          .ite (.cmp .lt (.v 5) (.len (.v 0)))
           (
            .i (.idx (.v 0) (.v 5) (.one (.s)) 6) <|
            .i (.call f_impl_RowsOf [(.s (.v 6))] [.s] 7) <|
            .loop 8 [(.v 4), (.z 0)] <|
              .ite (.cmp .lt (.v 9) (.len (.v 7)))
               (
                .i (.chk (.cmp .le (.z 0) (.v 9))) <|
                .i (.chk (.cmp .lt (.v 9) (.len (.v 7)))) <|
                .i (.idx (.v 7) (.v 9) (.g [.s, .s, .s, .b]) 10) <|
                .loop 14 [(.v 8), (.z 0)] <|
                  .ite (.cmp .lt (.v 15) (.len (.v 10)))
                   (
                    .i (.idx (.v 10) (.v 15) (.g [.s, .s, .i .i64]) 16) <|
                    .i (.call f_impl_CatPart [(.s (.v 16)), (.s (.v 17)), (.vi .i64 (.v 18))] [.s] 19) <|
                    .i (.call f_impl_zeros [(.s (.v 19))] [.b] 20) <|
                    .ite (.not (.v 20))
                     (
                      .i (.call f_impl_CatHas [(.s (.v 14)), (.s (.v 19))] [.i .i64] 21) <|
                      .ite (.cmp .lt (.v 21) (.z 0))
                       (
                        .i (.chk (.cmp .le (.len (.app (.v 14) (.cons (.s (.v 19)) .nil))) (.z 2932031007402))) <|
                        .next [(.app (.v 14) (.cons (.s (.v 19)) .nil)), (.bin .add .i64 (.v 15) (.z 1))])
                       (
                        .next [(.v 14), (.bin .add .i64 (.v 15) (.z 1))]))
                     (
                      .next [(.v 14), (.bin .add .i64 (.v 15) (.z 1))]))
                   (
                    .esc <|
                    .next [(.v 14), (.bin .add .i64 (.v 9) (.z 1))]))
               (
                .esc <|
                .next [(.v 8), (.bin .add .i64 (.v 5) (.z 1))]))
           (
            .esc <|
            .done [(.s (.v 4))])))
/-- laws_coParts -/
def R_laws_coParts : R :=
  .ite (.not (.cmp .eq (.len (.v 0)) (.len (.v 1))))
   (
    .done [(.vb .ff)])
   (
    .loop 2 [(.z 0)] <|
      .ite (.cmp .lt (.v 2) (.len (.v 0)))
       (
        .i (.idx (.v 0) (.v 2) (.one (.s)) 3) <|
        .i (.idx (.v 1) (.v 2) (.one (.s)) 4) <|
        .i (.call f_laws_coInts [(.s (.v 3)), (.s (.v 4))] [.b] 5) <|
        .ite (.not (.v 5))
         (
          .esc <|
          .done [(.vb .ff)])
         (
          .next [(.bin .add .i64 (.v 2) (.z 1))]))
       (
        .esc <|
        .done [(.vb .tt)]))
/-- laws_FnCatForms -/
def R_laws_FnCatForms : R :=
  .ite (.cmp .lt (.z 1048576) (.len (.v 0)))
   (
    .done [(.vb .tt)])
   (
    .i (.call f_spec_DrawCatForms [(.s (.v 0))] [.s] 1) <|
    .i (.call f_impl_CatForms [(.s (.v 1))] [.s] 2) <|
    .i (.call f_spec_CatForms [(.s (.v 1))] [.s] 3) <|
    .i (.call f_laws_coParts [(.s (.v 2)), (.s (.v 3))] [.b] 4) <|
    .ite (.not (.v 4))
     (
      .done [(.vb .ff)])
     (
      .i (.call f_impl_CatOk [(.s (.v 1))] [.b] 5) <|
      .i (.call f_spec_CatOk [(.s (.v 1))] [.b] 6) <|
      .ite (.not (.beq (.v 5) (.v 6)))
       (
        .done [(.vb .ff)])
       (
        .i (.call f_spec_CatOk [(.s (.v 1))] [.b] 7) <|
        .ite (.not (.v 7))
         (
          .ite (.cmp .eq (.len (.v 2)) (.z 0))
           (
            .i (.call f_laws_coHolds [] [.b] 8) <|
            .done [(.vb (.v 8))])
           (
            .done [(.vb .ff)]))
         (
          .loop 8 [(.z 0)] <|
            .ite (.cmp .lt (.v 8) (.z 3))
             (
              .i (.call f_impl_FrmPot [(.vi .i64 (.v 8))] [.s, .s, .i .i64] 9) <|
              .i (.call f_impl_CatHas [(.s (.v 2)), (.s (.v 9))] [.i .i64] 12) <|
              .ite (.cmp .lt (.v 12) (.z 0))
               (
                .esc <|
                .done [(.vb .ff)])
               (
                .next [(.bin .add .i64 (.v 8) (.z 1))]))
             (
              .esc <|
              .loop 9 [(.z 0)] <|
                .ite (.cmp .lt (.v 9) (.len (.v 2)))
                 (
                  .i (.chk (.cmp .le (.z 0) (.v 9))) <|
                  .i (.chk (.cmp .lt (.v 9) (.len (.v 2)))) <|
                  .i (.idx (.v 2) (.v 9) (.one (.s)) 10) <|
                  .i (.call f_impl_CatHas [(.s (.v 2)), (.s (.v 10))] [.i .i64] 11) <|
                  .ite (.not (.cmp .eq (.v 11) (.v 9)))
                   (
                    .esc <|
                    .done [(.vb .ff)])
                   (
                    .next [(.bin .add .i64 (.v 9) (.z 1))]))
                 (
                  .esc <|
                  .loop 10 [(.z 0)] <|
                    .ite (.cmp .lt (.v 10) (.len (.v 1)))
                     (
                      .i (.chk (.cmp .le (.z 0) (.v 10))) <|
                      .i (.chk (.cmp .lt (.v 10) (.len (.v 1)))) <|
                      .i (.idx (.v 1) (.v 10) (.one (.s)) 11) <|
                      .i (.call f_impl_RowsOf [(.s (.v 11))] [.s] 12) <|
                      .loop 13 [(.z 0)] <|
                        .ite (.cmp .lt (.v 13) (.len (.v 12)))
                         (
                          .loop 14 [(.z 0)] <|
                            .i (.chk (.cmp .le (.z 0) (.v 13))) <|
                            .i (.chk (.cmp .lt (.v 13) (.len (.v 12)))) <|
                            .i (.idx (.v 12) (.v 13) (.g [.s, .s, .s, .b]) 15) <|
                            .ite (.cmp .lt (.v 14) (.len (.v 15)))
                             (
                              .i (.chk (.cmp .le (.z 0) (.v 13))) <|
                              .i (.chk (.cmp .lt (.v 13) (.len (.v 12)))) <|
                              .i (.idx (.v 12) (.v 13) (.g [.s, .s, .s, .b]) 19) <|
                              .i (.idx (.v 19) (.v 14) (.g [.s, .s, .i .i64]) 23) <|
                              .i (.call f_impl_CatPart [(.s (.v 23)), (.s (.v 24)), (.vi .i64 (.v 25))] [.s] 26) <|
                              .i (.call f_laws_coInts [(.s (.v 26)), (.s (.cons (.vi .i64 (.z 0)) (.cons (.vi .i64 (.z 0)) (.cons (.vi .i64 (.z 0)) .nil))))] [.b] 27) <|
                              .ite (.not (.v 27))
                               (
                                .i (.call f_impl_CatHas [(.s (.v 2)), (.s (.v 26))] [.i .i64] 28) <|
                                .ite (.cmp .lt (.v 28) (.z 0))
                                 (
                                  .esc <|
                                  .esc <|
                                  .esc <|
                                  .done [(.vb .ff)])
                                 (
                                  .next [(.bin .add .i64 (.v 14) (.z 1))]))
                               (
                                .next [(.bin .add .i64 (.v 14) (.z 1))]))
                             (
                              .esc <|
                              .next [(.bin .add .i64 (.v 13) (.z 1))]))
                         (
                          .esc <|
                          .next [(.bin .add .i64 (.v 10) (.z 1))]))
                     (
                      .esc <|
                      .i (.call f_impl_CatHas [(.s (.v 2)), (.s (.cons (.vi .i64 (.z 0)) (.cons (.vi .i64 (.z 0)) (.cons (.vi .i64 (.z 0)) .nil))))] [.i .i64] 11) <|
                      .ite (.cmp .lt (.v 11) (.z 0))
                       (
                        .done [(.vb (.cmp .le (.z 3) (.len (.v 2))))])
                       (
                        .done [(.vb .ff)]))))))))
/-- laws_FnTrtBounds -/
def R_laws_FnTrtBounds : R :=
  .ite (.cmp .lt (.z 1048576) (.len (.v 0)))
   (
    .done [(.vb .tt)])
   (
    .ite (.cmp .lt (.z 1048576) (.len (.v 1)))
     (
      .done [(.vb .tt)])
     (
      .i (.call f_spec_DrawTrtBounds [(.s (.v 0))] [.s, .s, .s, .i .i64, .s, .s, .s, .i .i64, .s] 2) <|
      .i (.call f_impl_TrtBounds [(.s (.v 2)), (.s (.v 3)), (.s (.v 4)), (.vi .i64 (.v 5)), (.s (.v 6)), (.s (.v 7)), (.s (.v 8)), (.vi .i64 (.v 9)), (.s (.v 10))] [.i .i64, .i .i64, .b] 11) <|
      .i (.call f_spec_TrtBounds [(.s (.v 2)), (.s (.v 3)), (.s (.v 4)), (.vi .i64 (.v 5)), (.s (.v 6)), (.s (.v 7)), (.s (.v 8)), (.vi .i64 (.v 9)), (.s (.v 10))] [.i .i64, .i .i64, .b] 14) <|
      .ite (.not (.cmp .eq (.v 11) (.v 14)))
       (
        .done [(.vb .ff)])
       (
        .ite (.not (.cmp .eq (.v 12) (.v 15)))
         (
          .done [(.vb .ff)])
         (
          .ite (.not (.beq (.v 13) (.v 16)))
           (
            .done [(.vb .ff)])
           (
            .ite (.not (.v 13))
             (
              .ite (.cmp .eq (.v 11) (.z 0))
               (
                .ite (.cmp .eq (.v 12) (.z 0))
                 (
                  .i (.call f_laws_coHolds [] [.b] 17) <|
                  .done [(.vb (.v 17))])
                 (
                  .done [(.vb .ff)]))
               (
                .done [(.vb .ff)]))
             (
              .loop 17 [.nil, (.v 6), (.z 0)] <|
                .ite (.cmp .lt (.v 19) (.len (.v 3)))
                 (
                  .loop 20 [(.cons (.vi .i64 (.z 0)) (.cons (.vi .i64 (.z 0)) (.cons (.vi .i64 (.z 0)) .nil))), (.z 0)] <|
                    .ite (.cmp .lt (.bin .add .i64 (.v 21) (.z 2)) (.len (.v 1)))
                     (
                      .ite (.cmp .lt (.v 21) (.z 30))
                       (
                        .i (.idx (.v 1) (.v 21) (.one (.i .u8)) 22) <|
                        .i (.chk (.not (.cmp .eq (.z 9) (.z 0)))) <|
                        .i (.idx (.v 1) (.bin .add .i64 (.v 21) (.z 1)) (.one (.i .u8)) 23) <|
                        .i (.chk (.not (.cmp .eq (.z 9) (.z 0)))) <|
                        .i (.idx (.v 1) (.bin .add .i64 (.v 21) (.z 2)) (.one (.i .u8)) 24) <|
                        .i (.chk (.not (.cmp .eq (.z 5) (.z 0)))) <|
                        .i (.call f_impl_TrtKeeps [(.s (.v 2)), (.s (.v 3)), (.s (.v 4)), (.vi .i64 (.v 19)), (.s (.cons (.vi .i64 (.bin .sub .i64 (.bin .rem .i64 (.cv .i64 (.bin .add .u8 (.v 22) (.cv .u8 (.v 19)))) (.z 9)) (.z 4))) (.cons (.vi .i64 (.bin .sub .i64 (.bin .rem .i64 (.cv .i64 (.v 23)) (.z 9)) (.z 4))) (.cons (.vi .i64 (.bin .sub .i64 (.bin .rem .i64 (.cv .i64 (.v 24)) (.z 5)) (.z 2))) .nil))))] [.b] 25) <|
                        .ite (.v 25)
                         (
                          .next [(.cons (.vi .i64 (.bin .sub .i64 (.bin .rem .i64 (.cv .i64 (.bin .add .u8 (.v 22) (.cv .u8 (.v 19)))) (.z 9)) (.z 4))) (.cons (.vi .i64 (.bin .sub .i64 (.bin .rem .i64 (.cv .i64 (.v 23)) (.z 9)) (.z 4))) (.cons (.vi .i64 (.bin .sub .i64 (.bin .rem .i64 (.cv .i64 (.v 24)) (.z 5)) (.z 2))) .nil))), (.bin .add .i64 (.v 21) (.z 3))])
                         (
                          .next [(.v 20), (.bin .add .i64 (.v 21) (.z 3))]))
                       (
                        .esc <|
                        .ite (.cmp .eq (.v 19) (.v 5))
                         (
                          .i (.chk (.cmp .le (.len (.app (.v 17) (.cons (.s (.v 18)) .nil))) (.z 2932031007402))) <|
                          .next [(.app (.v 17) (.cons (.s (.v 18)) .nil)), (.v 18), (.bin .add .i64 (.v 19) (.z 1))])
                         (
                          .i (.chk (.cmp .le (.len (.app (.v 17) (.cons (.s (.v 20)) .nil))) (.z 2932031007402))) <|
                          .next [(.app (.v 17) (.cons (.s (.v 20)) .nil)), (.v 18), (.bin .add .i64 (.v 19) (.z 1))])))
                     (
                      .esc <|
                      .ite (.cmp .eq (.v 19) (.v 5))
                       (
                        .i (.chk (.cmp .le (.len (.app (.v 17) (.cons (.s (.v 18)) .nil))) (.z 2932031007402))) <|
                        .next [(.app (.v 17) (.cons (.s (.v 18)) .nil)), (.v 18), (.bin .add .i64 (.v 19) (.z 1))])
                       (
                        .i (.chk (.cmp .le (.len (.app (.v 17) (.cons (.s (.v 20)) .nil))) (.z 2932031007402))) <|
                        .next [(.app (.v 17) (.cons (.s (.v 20)) .nil)), (.v 18), (.bin .add .i64 (.v 19) (.z 1))])))
                 (
                  .esc <|
                  .i (.call f_laws_coSum [(.s (.v 2)), (.s (.v 17))] [.s] 20) <|
                  .i (.call f_impl_FrmAt [(.s (.v 7)), (.s (.v 8)), (.vi .i64 (.v 9)), (.s (.v 20)), (.s (.v 10))] [.i .i64, .b] 21) <|
                  .ite (.cmp .le (.v 11) (.v 12))
                   (
                    .i (.call f_impl_TrtAll [(.s (.v 2)), (.s (.v 3)), (.s (.v 4)), (.s (.v 17))] [.b] 23) <|
                    .ite (.not (.v 23))
                     (
                      .done [(.vb .tt)])
                     (
                      .ite (.not (.v 22))
                       (
                        .done [(.vb .tt)])
                       (
                        .ite (.cmp .le (.v 11) (.v 21))
                         (
                          .done [(.vb (.cmp .le (.v 21) (.v 12)))])
                         (
                          .done [(.vb .ff)]))))
                   (
                    .done [(.vb .ff)]))))))))
/-- spec_DrawCatPins -/
def R_spec_DrawCatPins : R :=
  .i (.call f_spec_l20Open [(.s (.v 0))] [.s, .i .i64] 1) <|
  .i (.call f_spec_l20AnyActs [(.s (.v 1)), (.vi .i64 (.v 2)), (.vi .i64 (.z 8))] [.s, .s, .i .i64] 3) <|
  .done [(.s (.v 3))]
/-- impl_RowRow_reads_1 -/
def R_impl_RowRow_reads_1 : R :=
  .i (.get (.da 3) (.q [.i .i64]) 4) <|
  .i (.idx (.v 0) (.v 4) (.one (.i .i64)) 5) <|
  .done [(.vb (.not (.cmp .eq (.v 5) (.z 0))))]
/-- impl_RowRow_reads -/
def R_impl_RowRow_reads : R :=
  .i (.call f_slices_Concat_Simpl_FrmForm_impl_FrmForm [(.s (.cons (.s (.v 1)) (.cons (.s (.v 2)) .nil)))] [.s] 5) <|
  .i (.call f_slices_ContainsFunc_Simpl_FrmForm_impl_FrmForm [(.s (.v 5)), (.fn f_impl_RowRow_reads_1 (.cons (.q (.cons (.vi .i64 (.v 4)) .nil)) .nil))] [.b] 6) <|
  .done [(.vb (.v 6))]
/-- impl_CatPins -/
def R_impl_CatPins : R :=
  .i (.call f_impl_CatOk [(.s (.v 0))] [.b] 1) <|
  .ite (.not (.v 1))
   (
    .done [(.s .nil)])
   (
    .i (.call f_impl_pots [(.s (.v 0)), (.fn f_impl_RowRow_reads .nil)] [.s] 2) <|
    .done [(.s (.v 2))])
/-- spec_CatPins -/
def R_spec_CatPins : R :=
  .i (.call f_spec_CatOk [(.s (.v 0))] [.b] 1) <|
  .ite (.not (.v 1))
   (
    .done [(.s .nil)])
   (
    .i (.call f_spec_l4Both [(.s (.v 0))] [.s, .s] 2) <|
    .done [(.s (.v 3))])
/-- impl_CatReads -/
def R_impl_CatReads : R :=
  .i (.call f_impl_ActOk [(.s (.v 0))] [.b] 1) <|
  .ite (.not (.v 1))
   (
    .done [(.s .nil)])
   (
    .i (.call f_impl_pots [(.s (.cons (.s (.v 0)) .nil)), (.fn f_impl_RowRow_reads .nil)] [.s] 2) <|
    .done [(.s (.v 2))])
/-- laws_FnCatPins -/
def R_laws_FnCatPins : R :=
  .ite (.cmp .lt (.z 1048576) (.len (.v 0)))
   (
    .done [(.vb .tt)])
   (
    .i (.call f_spec_DrawCatPins [(.s (.v 0))] [.s] 1) <|
    .i (.call f_impl_CatPins [(.s (.v 1))] [.s] 2) <|
    .i (.call f_spec_CatPins [(.s (.v 1))] [.s] 3) <|
    .i (.call f_laws_coBools [(.s (.v 2)), (.s (.v 3))] [.b] 4) <|
    .ite (.not (.v 4))
     (
      .done [(.vb .ff)])
     (
      .i (.call f_spec_CatOk [(.s (.v 1))] [.b] 5) <|
      .ite (.not (.v 5))
       (
        .ite (.cmp .eq (.len (.v 2)) (.z 0))
         (
          .i (.call f_laws_coHolds [] [.b] 6) <|
          .done [(.vb (.v 6))])
         (
          .done [(.vb .ff)]))
       (
        .loop 6 [(.z 0)] <|
          .ite (.cmp .lt (.v 6) (.z 3))
           (
            .loop 7 [.ff, (.z 0)] <|
              .ite (.cmp .lt (.v 8) (.len (.v 1)))
               (
                .ite (.v 7)
                 (
                  .next [.tt, (.bin .add .i64 (.v 8) (.z 1))])
                 (
                  .i (.chk (.cmp .le (.z 0) (.v 8))) <|
                  .i (.chk (.cmp .lt (.v 8) (.len (.v 1)))) <|
                  .i (.idx (.v 1) (.v 8) (.one (.s)) 9) <|
                  .i (.call f_impl_CatReads [(.s (.v 9))] [.s] 10) <|
                  .i (.chk (.cmp .le (.z 0) (.v 6))) <|
                  .i (.chk (.cmp .lt (.v 6) (.len (.v 10)))) <|
                  .i (.idx (.v 10) (.v 6) (.one (.b)) 11) <|
                  .next [(.v 11), (.bin .add .i64 (.v 8) (.z 1))]))
               (
                .esc <|
                .i (.chk (.cmp .le (.z 0) (.v 6))) <|
                .i (.chk (.cmp .lt (.v 6) (.len (.v 2)))) <|
                .i (.idx (.v 2) (.v 6) (.one (.b)) 9) <|
                .ite (.not (.beq (.v 9) (.v 7)))
                 (
                  .esc <|
                  .done [(.vb .ff)])
                 (
                  .next [(.bin .add .i64 (.v 6) (.z 1))])))
           (
            .esc <|
            .i (.call f_laws_coHolds [] [.b] 7) <|
            .done [(.vb (.v 7))]))))
/-- spec_CatReads -/
def R_spec_CatReads : R :=
  .i (.call f_spec_ActOk [(.s (.v 0))] [.b] 1) <|
  .ite (.not (.v 1))
   (
    .done [(.s .nil)])
   (
    .i (.call f_spec_RowsOf [(.s (.v 0))] [.s] 2) <|
    .loop 3 [(.cons (.vb .ff) (.cons (.vb .ff) (.cons (.vb .ff) .nil))), (.z 0)] <|
      .ite (.cmp .lt (.v 4) (.len (.v 2)))
       (
        .i (.chk (.cmp .le (.z 0) (.v 4))) <|
        .i (.chk (.cmp .lt (.v 4) (.len (.v 2)))) <|
        .i (.idx (.v 2) (.v 4) (.g [.s, .s, .s, .b]) 5) <|
        .i (.call f_spec_l4Reads [(.s (.v 3)), (.s (.v 6))] [.s] 9) <|
        .i (.chk (.cmp .le (.z 0) (.v 4))) <|
        .i (.chk (.cmp .lt (.v 4) (.len (.v 2)))) <|
        .i (.idx (.v 2) (.v 4) (.g [.s, .s, .s, .b]) 10) <|
        .i (.call f_spec_l4Reads [(.s (.v 9)), (.s (.v 12))] [.s] 14) <|
        .next [(.v 14), (.bin .add .i64 (.v 4) (.z 1))])
       (
        .esc <|
        .done [(.s (.v 3))]))
/-- impl_rowOk -/
def R_impl_rowOk : R :=
  .i (.call f_impl_RowOk [(.s (.v 0)), (.s (.v 1)), (.s (.v 2)), (.vb (.v 3))] [.b] 6) <|
  .ite (.v 6)
   (
    .i (.call f_impl_ValOk [(.s (.v 4))] [.b] 7) <|
    .ite (.v 7)
     (
      .i (.call f_impl_ArgOk [(.s (.v 5))] [.b] 8) <|
      .done [(.vb (.v 8))])
     (
      .done [(.vb .ff)]))
   (
    .done [(.vb .ff)])
/-- impl_RowFits_1 -/
def R_impl_RowFits_1 : R :=
  .i (.get (.da 3) (.q [.s]) 5) <|
  .i (.get (.da 4) (.q [.s]) 6) <|
  .i (.call f_impl_FrmForm_at [(.s (.v 0)), (.s (.v 1)), (.vi .i64 (.v 2)), (.s (.v 5)), (.s (.v 6))] [.i .i64] 7) <|
  .done [(.vb (.cmp .lt (.v 7) (.z 0)))]
/-- impl_RowFits -/
def R_impl_RowFits : R :=
  .i (.call f_impl_rowOk [(.s (.v 0)), (.s (.v 1)), (.s (.v 2)), (.vb (.v 3)), (.s (.v 4)), (.s (.v 5))] [.b] 6) <|
  .ite (.v 6)
   (
    .i (.call f_slices_ContainsFunc_Simpl_FrmForm_impl_FrmForm [(.s (.v 0)), (.fn f_impl_RowFits_1 (.cons (.q (.cons (.s (.v 4)) .nil)) (.cons (.q (.cons (.s (.v 5)) .nil)) .nil)))] [.b] 7) <|
    .done [(.vb (.not (.v 7)))])
   (
    .done [(.vb .ff)])
/-- laws_FnCatReads -/
def R_laws_FnCatReads : R :=
  .ite (.cmp .lt (.z 1048576) (.len (.v 0)))
   (
    .done [(.vb .tt)])
   (
    .i (.call f_spec_DrawActRun [(.s (.v 0))] [.s, .s, .s] 1) <|
    .i (.call f_impl_CatReads [(.s (.v 1))] [.s] 4) <|
    .i (.call f_spec_CatReads [(.s (.v 1))] [.s] 5) <|
    .i (.call f_laws_coBools [(.s (.v 4)), (.s (.v 5))] [.b] 6) <|
    .ite (.not (.v 6))
     (
      .done [(.vb .ff)])
     (
      .i (.call f_impl_ActRun [(.s (.v 1)), (.s (.v 2)), (.s (.v 3))] [.i .i64, .s, .s] 7) <|
      .ite (.cmp .eq (.v 7) (.z 0))
       (
        .i (.call f_laws_coHolds [] [.b] 10) <|
        .done [(.vb (.v 10))])
       (
        .i (.chk (.cmp .le (.len (.v 2)) (.z 8796093022208))) <|
        .i (.head 1 (.v 2)) <|
        .i (.chk (.cmp .le (.len (.app .nil (.v 2))) (.z 8796093022208))) <|
        .loop 10 [(.app .nil (.v 2)), (.z 0)] <|
          .ite (.cmp .lt (.v 11) (.z 3))
           (
            .i (.chk (.cmp .le (.z 0) (.v 11))) <|
            .i (.chk (.cmp .lt (.v 11) (.len (.v 4)))) <|
            .i (.idx (.v 4) (.v 11) (.one (.b)) 12) <|
            .ite (.not (.v 12))
             (
              .i (.chk (.cmp .le (.z 0) (.v 11))) <|
              .i (.chk (.cmp .lt (.v 11) (.len (.v 2)))) <|
              .i (.idx (.v 2) (.v 11) (.one (.i .i64)) 13) <|
              .i (.chk (.not (.cmp .eq (.z 7) (.z 0)))) <|
              .i (.chk (.not (.cmp .eq (.z 2) (.z 0)))) <|
              .i (.chk (.cmp .le (.z 0) (.v 11))) <|
              .i (.chk (.cmp .lt (.v 11) (.len (.v 10)))) <|
              .i (.idx (.v 10) (.v 11) (.one (.i .i64)) 14) <|
              .next [(.set (.v 10) (.v 11) (.vi .i64 (.bin .quo .i64 (.bin .add .i64 (.bin .add .i64 (.v 13) (.z 1)) (.bin .rem .i64 (.len (.v 0)) (.z 7))) (.z 2)))), (.bin .add .i64 (.v 11) (.z 1))])
             (
              .next [(.v 10), (.bin .add .i64 (.v 11) (.z 1))]))
           (
            .esc <|
            .i (.call f_impl_ActRun [(.s (.v 1)), (.s (.v 10)), (.s (.v 3))] [.i .i64, .s, .s] 12) <|
            .i (.call f_impl_RowsOf [(.s (.v 1))] [.s] 15) <|
            .loop 16 [(.z 0)] <|
              .ite (.cmp .lt (.v 16) (.len (.v 15)))
               (
                .i (.chk (.cmp .le (.z 0) (.v 16))) <|
                .i (.chk (.cmp .lt (.v 16) (.len (.v 15)))) <|
                .i (.idx (.v 15) (.v 16) (.g [.s, .s, .s, .b]) 17) <|
                .i (.call f_impl_RowFits [(.s (.v 17)), (.s (.v 18)), (.s (.v 19)), (.vb (.v 20)), (.s (.v 2)), (.s (.v 3))] [.b] 21) <|
                .ite (.v 21)
                 (
                  .i (.chk (.cmp .le (.z 0) (.v 16))) <|
                  .i (.chk (.cmp .lt (.v 16) (.len (.v 15)))) <|
                  .i (.idx (.v 15) (.v 16) (.g [.s, .s, .s, .b]) 22) <|
                  .i (.call f_impl_RowFits [(.s (.v 22)), (.s (.v 23)), (.s (.v 24)), (.vb (.v 25)), (.s (.v 10)), (.s (.v 3))] [.b] 26) <|
                  .ite (.v 26)
                   (
                    .ite (.cmp .eq (.v 7) (.z 1))
                     (
                      .ite (.cmp .eq (.v 12) (.z 1))
                       (
                        .loop 27 [(.z 0)] <|
                          .ite (.cmp .lt (.v 27) (.z 3))
                           (
                            .i (.chk (.cmp .le (.z 0) (.v 27))) <|
                            .i (.chk (.cmp .lt (.v 27) (.len (.v 9)))) <|
                            .i (.idx (.v 9) (.v 27) (.one (.i .i64)) 28) <|
                            .i (.chk (.cmp .le (.z 0) (.v 27))) <|
                            .i (.chk (.cmp .lt (.v 27) (.len (.v 2)))) <|
                            .i (.idx (.v 2) (.v 27) (.one (.i .i64)) 29) <|
                            .i (.chk (.cmp .le (.z 0) (.v 27))) <|
                            .i (.chk (.cmp .lt (.v 27) (.len (.v 14)))) <|
                            .i (.idx (.v 14) (.v 27) (.one (.i .i64)) 30) <|
                            .i (.chk (.cmp .le (.z 0) (.v 27))) <|
                            .i (.chk (.cmp .lt (.v 27) (.len (.v 10)))) <|
                            .i (.idx (.v 10) (.v 27) (.one (.i .i64)) 31) <|
                            .ite (.not (.cmp .eq (.bin .sub .i64 (.v 28) (.v 29)) (.bin .sub .i64 (.v 30) (.v 31))))
                             (
                              .esc <|
                              .esc <|
                              .done [(.vb .ff)])
                             (
                              .next [(.bin .add .i64 (.v 27) (.z 1))]))
                           (
                            .esc <|
                            .i (.call f_laws_coInts [(.s (.v 8)), (.s (.v 13))] [.b] 28) <|
                            .esc <|
                            .done [(.vb (.v 28))]))
                       (
                        .next [(.bin .add .i64 (.v 16) (.z 1))]))
                     (
                      .next [(.bin .add .i64 (.v 16) (.z 1))]))
                   (
                    .next [(.bin .add .i64 (.v 16) (.z 1))]))
                 (
                  .next [(.bin .add .i64 (.v 16) (.z 1))]))
               (
                .esc <|
                .done [(.vb .tt)])))))
/-- impl_all -/
def R_impl_all : R :=
  .loop 3 [.nil, (.z 0)] <|
    .ite (.cmp .lt (.v 4) (.len (.v 0)))
     (
      .i (.idx (.v 0) (.v 4) (.g [.s, .s, .i .i64]) 5) <|
      .i (.call f_impl_FrmForm_at [(.s (.v 5)), (.s (.v 6)), (.vi .i64 (.v 7)), (.s (.v 1)), (.s (.v 2))] [.i .i64] 8) <|
      .i (.chk (.cmp .le (.len (.app (.v 3) (.cons (.vi .i64 (.v 8)) .nil))) (.z 8796093022208))) <|
      .next [(.app (.v 3) (.cons (.vi .i64 (.v 8)) .nil)), (.bin .add .i64 (.v 4) (.z 1))])
     (
      .esc <|
      .done [(.s (.v 3))])
/-- impl_RowDo -/
def R_impl_RowDo : R :=
  .i (.call f_impl_rowOk [(.s (.v 0)), (.s (.v 1)), (.s (.v 2)), (.vb (.v 3)), (.s (.v 4)), (.s (.v 5))] [.b] 6) <|
  .ite (.not (.v 6))
   (
    .done [(.vi .i64 (.z 0)), (.s .nil), (.s .nil)])
   (
    .ite (.v 3)
     (
      .i (.call f_slices_Clone_Sint_int [(.s (.v 4))] [.s] 7) <|
      .done [(.vi .i64 (.z 2)), (.s .nil), (.s (.v 7))])
     (
      .i (.call f_impl_all [(.s (.v 1)), (.s (.v 4)), (.s (.v 5))] [.s] 7) <|
      .i (.call f_impl_plus [(.s (.v 4)), (.s (.v 7))] [.s] 8) <|
      .i (.call f_impl_ValOk [(.s (.v 8))] [.b] 9) <|
      .ite (.not (.v 9))
       (
        .i (.call f_slices_Clone_Sint_int [(.s (.v 4))] [.s] 10) <|
        .done [(.vi .i64 (.z 3)), (.s .nil), (.s (.v 10))])
       (
        .i (.call f_impl_all [(.s (.v 2)), (.s (.v 4)), (.s (.v 5))] [.s] 10) <|
        .done [(.vi .i64 (.z 1)), (.s (.v 10)), (.s (.v 8))])))
/-- laws_coRes -/
def R_laws_coRes : R :=
  .ite (.cmp .eq (.v 0) (.v 2))
   (
    .i (.call f_laws_coInts [(.s (.v 1)), (.s (.v 3))] [.b] 4) <|
    .done [(.vb (.v 4))])
   (
    .done [(.vb .ff)])
/-- laws_FnRowsOne -/
def R_laws_FnRowsOne : R :=
  .ite (.cmp .lt (.z 1048576) (.len (.v 0)))
   (
    .done [(.vb .tt)])
   (
    .i (.call f_spec_DrawActRun [(.s (.v 0))] [.s, .s, .s] 1) <|
    .i (.call f_impl_RowsOf [(.s (.v 1))] [.s] 4) <|
    .i (.call f_spec_RowsOf [(.s (.v 1))] [.s] 5) <|
    .i (.call f_laws_coRows [(.s (.v 4)), (.s (.v 5))] [.b] 6) <|
    .ite (.not (.v 6))
     (
      .done [(.vb .ff)])
     (
      .i (.call f_spec_ActOk [(.s (.v 1))] [.b] 7) <|
      .ite (.not (.v 7))
       (
        .i (.call f_impl_ActOk [(.s (.v 1))] [.b] 8) <|
        .i (.call f_spec_ActOk [(.s (.v 1))] [.b] 9) <|
        .ite (.beq (.v 8) (.v 9))
         (
          .i (.call f_laws_coHolds [] [.b] 10) <|
          .done [(.vb (.v 10))])
         (
          .done [(.vb .ff)]))
       (
        .i (.call f_spec_ValOk [(.s (.v 2))] [.b] 8) <|
        .ite (.not (.v 8))
         (
          .i (.call f_impl_ActOk [(.s (.v 1))] [.b] 9) <|
          .i (.call f_spec_ActOk [(.s (.v 1))] [.b] 10) <|
          .ite (.beq (.v 9) (.v 10))
           (
            .i (.call f_laws_coHolds [] [.b] 11) <|
            .done [(.vb (.v 11))])
           (
            .done [(.vb .ff)]))
         (
          .i (.call f_spec_ArgOk [(.s (.v 3))] [.b] 9) <|
          .ite (.not (.v 9))
           (
            .i (.call f_impl_ActOk [(.s (.v 1))] [.b] 10) <|
            .i (.call f_spec_ActOk [(.s (.v 1))] [.b] 11) <|
            .ite (.beq (.v 10) (.v 11))
             (
              .i (.call f_laws_coHolds [] [.b] 12) <|
              .done [(.vb (.v 12))])
             (
              .done [(.vb .ff)]))
           (
            .loop 10 [(.v 2), (.v 3), (.z 0), (.z 0)] <|
              .ite (.cmp .lt (.v 13) (.len (.v 4)))
               (
                .i (.chk (.cmp .le (.z 0) (.v 13))) <|
                .i (.chk (.cmp .lt (.v 13) (.len (.v 4)))) <|
                .i (.idx (.v 4) (.v 13) (.g [.s, .s, .s, .b]) 14) <|
                .i (.call f_impl_RowFits [(.s (.v 14)), (.s (.v 15)), (.s (.v 16)), (.vb (.v 17)), (.s (.v 10)), (.s (.v 11))] [.b] 18) <|
                .ite (.v 18)
                 (
                  .i (.chk (.cmp .le (.z 0) (.v 13))) <|
                  .i (.chk (.cmp .lt (.v 13) (.len (.v 4)))) <|
                  .i (.idx (.v 4) (.v 13) (.g [.s, .s, .s, .b]) 19) <|
                  .i (.call f_impl_RowDo [(.s (.v 19)), (.s (.v 20)), (.s (.v 21)), (.vb (.v 22)), (.s (.v 10)), (.s (.v 11))] [.i .i64, .s, .s] 23) <|
                  .i (.call f_impl_ActRun [(.s (.v 1)), (.s (.v 10)), (.s (.v 11))] [.i .i64, .s, .s] 26) <|
                  .i (.call f_laws_coRes [(.vi .i64 (.v 23)), (.s (.v 24)), (.vi .i64 (.v 26)), (.s (.v 27))] [.b] 29) <|
                  .ite (.not (.v 29))
                   (
                    .esc <|
                    .done [(.vb .ff)])
                   (
                    .i (.call f_laws_coInts [(.s (.v 25)), (.s (.v 28))] [.b] 30) <|
                    .ite (.not (.v 30))
                     (
                      .esc <|
                      .done [(.vb .ff)])
                     (
                      .next [(.v 10), (.v 11), (.bin .add .i64 (.v 12) (.z 1)), (.bin .add .i64 (.v 13) (.z 1))])))
                 (
                  .next [(.v 10), (.v 11), (.v 12), (.bin .add .i64 (.v 13) (.z 1))]))
               (
                .esc <|
                .done [(.vb (.cmp .eq (.v 12) (.z 1)))]))))))
/-- laws_FnCatMore -/
def R_laws_FnCatMore : R :=
  .ite (.cmp .lt (.z 1048576) (.len (.v 0)))
   (
    .done [(.vb .tt)])
   (
    .i (.call f_spec_DrawCatForms [(.s (.v 0))] [.s] 1) <|
    .i (.call f_impl_CatForms [(.s (.v 1))] [.s] 2) <|
    .i (.call f_spec_CatForms [(.s (.v 1))] [.s] 3) <|
    .i (.call f_laws_coParts [(.s (.v 2)), (.s (.v 3))] [.b] 4) <|
    .ite (.not (.v 4))
     (
      .done [(.vb .ff)])
     (
      .i (.call f_spec_CatOk [(.s (.v 1))] [.b] 5) <|
      .ite (.not (.v 5))
       (
        .i (.call f_impl_CatOk [(.s (.v 1))] [.b] 6) <|
        .i (.call f_spec_CatOk [(.s (.v 1))] [.b] 7) <|
        .ite (.beq (.v 6) (.v 7))
         (
          .i (.call f_laws_coHolds [] [.b] 8) <|
          .done [(.vb (.v 8))])
         (
          .done [(.vb .ff)]))
       (
        .ite (.cmp .eq (.len (.v 1)) (.z 4))
         (
          .i (.call f_impl_CatOk [(.s (.v 1))] [.b] 6) <|
          .i (.call f_spec_CatOk [(.s (.v 1))] [.b] 7) <|
          .ite (.beq (.v 6) (.v 7))
           (
            .i (.call f_laws_coHolds [] [.b] 8) <|
            .done [(.vb (.v 8))])
           (
            .done [(.vb .ff)]))
         (
          .i (.chk (.cmp .le (.len (.v 1)) (.z 2932031007402))) <|
          .i (.head 1 (.v 1)) <|
          .i (.chk (.cmp .le (.len (.app .nil (.v 1))) (.z 2932031007402))) <|
          .i (.chk (.not (.cmp .eq (.z 3) (.z 0)))) <|
          .i (.chk (.cmp .le (.len (.app (.app .nil (.v 1)) (.cons (.s (.cons (.g (.cons (.vi .i64 (.z 1)) (.cons (.vi .i64 (.z 0)) (.cons (.vi .i64 (.z 1)) (.cons (.s (.cons (.vi .i64 (.z 1)) (.cons (.vi .i64 (.z 2)) (.cons (.vi .i64 (.bin .rem .i64 (.len (.v 0)) (.z 3))) .nil)))) (.cons (.s (.cons (.vi .i64 (.z 0)) (.cons (.vi .i64 (.z 0)) .nil))) (.cons (.vi .i64 (.z 0)) .nil))))))) (.cons (.g (.cons (.vi .i64 (.z 3)) (.cons (.vi .i64 (.z 0)) (.cons (.vi .i64 (.z 0)) (.cons (.s (.cons (.vi .i64 (.z 0)) (.cons (.vi .i64 (.z 0)) (.cons (.vi .i64 (.z 1)) .nil)))) (.cons (.s (.cons (.vi .i64 (.z 0)) (.cons (.vi .i64 (.z 0)) .nil))) (.cons (.vi .i64 (.z 0)) .nil))))))) .nil))) .nil))) (.z 2932031007402))) <|
          .i (.chk (.cmp .le (.len (.v 1)) (.z 2932031007402))) <|
          .i (.head 1 (.v 1)) <|
          .i (.chk (.cmp .le (.len (.app .nil (.v 1))) (.z 2932031007402))) <|
          .i (.chk (.cmp .lt (.z 0) (.len (.v 1)))) <|
          .i (.idx (.v 1) (.z 0) (.one (.s)) 6) <|
          .i (.chk (.cmp .le (.len (.app (.app .nil (.v 1)) (.cons (.s (.v 6)) .nil))) (.z 2932031007402))) <|
          .i (.call f_impl_CatForms [(.s (.app (.app .nil (.v 1)) (.cons (.s (.cons (.g (.cons (.vi .i64 (.z 1)) (.cons (.vi .i64 (.z 0)) (.cons (.vi .i64 (.z 1)) (.cons (.s (.cons (.vi .i64 (.z 1)) (.cons (.vi .i64 (.z 2)) (.cons (.vi .i64 (.bin .rem .i64 (.len (.v 0)) (.z 3))) .nil)))) (.cons (.s (.cons (.vi .i64 (.z 0)) (.cons (.vi .i64 (.z 0)) .nil))) (.cons (.vi .i64 (.z 0)) .nil))))))) (.cons (.g (.cons (.vi .i64 (.z 3)) (.cons (.vi .i64 (.z 0)) (.cons (.vi .i64 (.z 0)) (.cons (.s (.cons (.vi .i64 (.z 0)) (.cons (.vi .i64 (.z 0)) (.cons (.vi .i64 (.z 1)) .nil)))) (.cons (.s (.cons (.vi .i64 (.z 0)) (.cons (.vi .i64 (.z 0)) .nil))) (.cons (.vi .i64 (.z 0)) .nil))))))) .nil))) .nil)))] [.s] 7) <|
          .i (.call f_impl_CatPins [(.s (.app (.app .nil (.v 1)) (.cons (.s (.cons (.g (.cons (.vi .i64 (.z 1)) (.cons (.vi .i64 (.z 0)) (.cons (.vi .i64 (.z 1)) (.cons (.s (.cons (.vi .i64 (.z 1)) (.cons (.vi .i64 (.z 2)) (.cons (.vi .i64 (.bin .rem .i64 (.len (.v 0)) (.z 3))) .nil)))) (.cons (.s (.cons (.vi .i64 (.z 0)) (.cons (.vi .i64 (.z 0)) .nil))) (.cons (.vi .i64 (.z 0)) .nil))))))) (.cons (.g (.cons (.vi .i64 (.z 3)) (.cons (.vi .i64 (.z 0)) (.cons (.vi .i64 (.z 0)) (.cons (.s (.cons (.vi .i64 (.z 0)) (.cons (.vi .i64 (.z 0)) (.cons (.vi .i64 (.z 1)) .nil)))) (.cons (.s (.cons (.vi .i64 (.z 0)) (.cons (.vi .i64 (.z 0)) .nil))) (.cons (.vi .i64 (.z 0)) .nil))))))) .nil))) .nil)))] [.s] 8) <|
          .loop 9 [(.z 0)] <|
            .ite (.cmp .lt (.v 9) (.z 3))
             (
              .i (.call f_impl_CatPins [(.s (.v 1))] [.s] 10) <|
              .i (.chk (.cmp .le (.z 0) (.v 9))) <|
              .i (.chk (.cmp .lt (.v 9) (.len (.v 10)))) <|
              .i (.idx (.v 10) (.v 9) (.one (.b)) 11) <|
              .ite (.v 11)
               (
                .i (.chk (.cmp .le (.z 0) (.v 9))) <|
                .i (.chk (.cmp .lt (.v 9) (.len (.v 8)))) <|
                .i (.idx (.v 8) (.v 9) (.one (.b)) 12) <|
                .ite (.not (.v 12))
                 (
                  .esc <|
                  .done [(.vb .ff)])
                 (
                  .next [(.bin .add .i64 (.v 9) (.z 1))]))
               (
                .next [(.bin .add .i64 (.v 9) (.z 1))]))
             (
              .esc <|
              .ite (.cmp .le (.len (.v 2)) (.len (.v 7)))
               (
                .i (.chk (.cmp .le (.z 0) (.len (.v 2)))) <|
                .i (.chk (.cmp .le (.len (.v 2)) (.len (.v 7)))) <|
                .i (.call f_laws_coParts [(.s (.take (.v 7) (.len (.v 2)))), (.s (.v 2))] [.b] 10) <|
                .ite (.v 10)
                 (
                  .i (.chk (.cmp .lt (.z 2) (.len (.v 8)))) <|
                  .i (.idx (.v 8) (.z 2) (.one (.b)) 11) <|
                  .ite (.v 11)
                   (
                    .i (.call f_impl_CatForms [(.s (.app (.app .nil (.v 1)) (.cons (.s (.v 6)) .nil)))] [.s] 12) <|
                    .i (.call f_laws_coParts [(.s (.v 12)), (.s (.v 2))] [.b] 13) <|
                    .ite (.v 13)
                     (
                      .i (.call f_impl_CatPins [(.s (.app (.app .nil (.v 1)) (.cons (.s (.v 6)) .nil)))] [.s] 14) <|
                      .i (.call f_impl_CatPins [(.s (.v 1))] [.s] 15) <|
                      .i (.call f_laws_coBools [(.s (.v 14)), (.s (.v 15))] [.b] 16) <|
                      .done [(.vb (.v 16))])
                     (
                      .done [(.vb .ff)]))
                   (
                    .done [(.vb .ff)]))
                 (
                  .done [(.vb .ff)]))
               (
                .done [(.vb .ff)]))))))
def S_spec_l20Open : Sig := .x ⟨[(.d (.s (.v 0)))], [], [.s], (.p 0 0), [(.box [(.d (.s (.v 0))), (.d (.vi .i64 (.v 1)))])], [.s, .i .i64]⟩
def H_spec_l20Open : Hint := ⟨[0, 2, 5], 0, [], []⟩
def E_spec_l20Open : Entry := ⟨S_spec_l20Open, .r H_spec_l20Open R_spec_l20Open⟩
def S_spec_l20Rd_pick : Sig := .x ⟨[(.p 0 0), (.d (.vi .i64 (.v 2)))], [(.box [(.d (.s (.v 0))), (.d (.vi .i64 (.v 1)))])], [.s, .i .i64, .i .i64], (.d (.vi .i64 (.v 0))), [(.box [(.d (.s (.v 1))), (.d (.vi .i64 (.v 2)))])], [.i .i64, .s, .i .i64]⟩
def H_spec_l20Rd_pick : Hint := ⟨[0, 1, 4, 5, 6, 24, 36], 1, [], []⟩
def E_spec_l20Rd_pick : Entry := ⟨S_spec_l20Rd_pick, .r H_spec_l20Rd_pick R_spec_l20Rd_pick⟩
def S_spec_l20Vals : Sig := .x ⟨[(.p 0 0), (.d (.vi .i64 (.v 2)))], [(.box [(.d (.s (.v 0))), (.d (.vi .i64 (.v 1)))])], [.s, .i .i64, .i .i64], (.o 1 (.v 0)), [(.box [(.d (.s (.v 1))), (.d (.vi .i64 (.v 2)))]), (.arr 3 1 (.v 0) true)], [.s, .s, .i .i64]⟩
def H_spec_l20Vals : Hint := ⟨[0, 1, 4, 5, 6, 9, 23, 25, 35, 39], 1, [], [(3, ⟨[6], [(0, 1), (0, 0)], [112], [], []⟩)]⟩
def E_spec_l20Vals : Entry := ⟨S_spec_l20Vals, .r H_spec_l20Vals R_spec_l20Vals⟩
def S_spec_l20Treaty : Sig := .x ⟨[(.p 0 0), (.d (.vi .i64 (.v 2)))], [(.box [(.d (.s (.v 0))), (.d (.vi .i64 (.v 1)))])], [.s, .i .i64, .i .i64], (.g [(.o 1 (.v 0)), (.o 2 (.v 1))]), [(.box [(.d (.s (.v 2))), (.d (.vi .i64 (.v 3)))]), (.arr 3 1 (.v 0) true), (.arr 3 1 (.v 1) true)], [.s, .s, .s, .i .i64]⟩
def H_spec_l20Treaty : Hint := ⟨[0, 1, 4, 5, 6, 14, 30, 33, 42, 47], 1, [(3, ⟨(.cell 80 1), 89, 3, 1⟩)], [(3, ⟨[6], [(0, 1), (0, 0)], [89], [], []⟩)]⟩
def E_spec_l20Treaty : Entry := ⟨S_spec_l20Treaty, .r H_spec_l20Treaty R_spec_l20Treaty⟩
def S_spec_l20Added : Sig := .x ⟨[(.p 0 0), (.d (.vi .i64 (.v 2)))], [(.box [(.d (.s (.v 0))), (.d (.vi .i64 (.v 1)))])], [.s, .i .i64, .i .i64], (.o 1 (.v 0)), [(.box [(.d (.s (.v 1))), (.d (.vi .i64 (.v 2)))]), (.arr 3 1 (.v 0) true)], [.s, .s, .i .i64]⟩
def H_spec_l20Added : Hint := ⟨[0, 1, 4, 5, 21, 23, 27, 31], 1, [], []⟩
def E_spec_l20Added : Entry := ⟨S_spec_l20Added, .r H_spec_l20Added R_spec_l20Added⟩
def S_spec_FrmZero : Sig := .x ⟨[], [], [], (.g [(.o 0 (.v 0)), (.o 1 (.v 1)), (.d (.vi .i64 (.v 2)))]), [(.arr 3 1 (.v 0) true), (.arr 3 1 (.v 1) true)], [.s, .s, .i .i64]⟩
def H_spec_FrmZero : Hint := ⟨[0], 0, [], []⟩
def E_spec_FrmZero : Entry := ⟨S_spec_FrmZero, .r H_spec_FrmZero R_spec_FrmZero⟩
def S_spec_l20Num : Sig := .x ⟨[(.d (.vi .i64 (.v 0))), (.d (.vi .i64 (.v 1))), (.d (.vi .i64 (.v 2)))], [], [.i .i64, .i .i64, .i .i64], (.g [(.o 0 (.v 0)), (.o 1 (.v 1)), (.d (.vi .i64 (.v 2)))]), [(.arr 3 1 (.v 0) true), (.arr 3 1 (.v 1) true)], [.s, .s, .i .i64]⟩
def H_spec_l20Num : Hint := ⟨[0, 1, 2, 6, 7], 0, [], []⟩
def E_spec_l20Num : Entry := ⟨S_spec_l20Num, .r H_spec_l20Num R_spec_l20Num⟩
def S_spec_l20With : Sig := .x ⟨[(.g [(.o 0 (.v 0)), (.o 1 (.v 1)), (.d (.vi .i64 (.v 2)))]), (.d (.vi .i64 (.v 3))), (.d (.vi .i64 (.v 4)))], [(.arr 3 1 (.v 0) true), (.arr 3 1 (.v 1) true)], [.s, .s, .i .i64, .i .i64, .i .i64], (.g [(.o 0 (.v 1)), (.o 1 (.v 2)), (.d (.vi .i64 (.v 0)))]), [(.arr 3 1 (.v 1) true), (.arr 3 1 (.v 2) true)], [.i .i64, .s, .s]⟩
def H_spec_l20With : Hint := ⟨[0, 1, 2, 3, 6], 2, [], []⟩
def E_spec_l20With : Entry := ⟨S_spec_l20With, .r H_spec_l20With R_spec_l20With⟩
def S_spec_l20Small : Sig := .x ⟨[(.p 0 0)], [(.box [(.d (.s (.v 0))), (.d (.vi .i64 (.v 1)))])], [.s, .i .i64], (.g [(.o 1 (.v 0)), (.o 2 (.v 1)), (.d (.vi .i64 (.v 2)))]), [(.box [(.d (.s (.v 3))), (.d (.vi .i64 (.v 4)))]), (.arr 3 1 (.v 0) true), (.arr 3 1 (.v 1) true)], [.s, .s, .i .i64, .s, .i .i64]⟩
def H_spec_l20Small : Hint := ⟨[0, 2, 3, 4, 5, 8, 21], 1, [], [(7, ⟨[5], [(0, 1), (0, 0)], [97], [], []⟩), (3, ⟨[4], [(0, 1), (0, 0)], [96], [], []⟩)]⟩
def E_spec_l20Small : Entry := ⟨S_spec_l20Small, .r H_spec_l20Small R_spec_l20Small⟩
def S_spec_l20Line : Sig := .x ⟨[(.p 0 0)], [(.box [(.d (.s (.v 0))), (.d (.vi .i64 (.v 1)))])], [.s, .i .i64], (.g [(.d (.vi .i64 (.v 0))), (.d (.vi .i64 (.v 1))), (.d (.vi .i64 (.v 2))), (.o 1 (.v 3)), (.o 2 (.v 4)), (.d (.vi .i64 (.v 5)))]), [(.box [(.d (.s (.v 6))), (.d (.vi .i64 (.v 7)))]), (.arr 3 1 (.v 3) true), (.arr 3 1 (.v 4) true)], [.i .i64, .i .i64, .i .i64, .s, .s, .i .i64, .s, .i .i64]⟩
def H_spec_l20Line : Hint := ⟨[0, 2, 3, 5, 6, 15, 23, 30], 1, [(999999, ⟨(.cell 32 3), 900000, 3, 1⟩), (999999, ⟨(.cell 32 4), 900001, 3, 1⟩)], []⟩
def E_spec_l20Line : Entry := ⟨S_spec_l20Line, .r H_spec_l20Line R_spec_l20Line⟩
def S_spec_l1In : Sig := .d ⟨[(.one (.i .i64)), (.one (.i .i64)), (.one (.i .i64))], (.one (.one (.b))), true⟩
def H_spec_l1In : Hint := ⟨[0, 1, 2, 6], 0, [], []⟩
def E_spec_l1In : Entry := ⟨S_spec_l1In, .r H_spec_l1In R_spec_l1In⟩
def S_spec_l1All : Sig := .d ⟨[(.one (.s)), (.one (.i .i64)), (.one (.i .i64))], (.one (.one (.b))), true⟩
def H_spec_l1All : Hint := ⟨[0, 1, 2, 6, 7, 11, 15, 26], 0, [], [(4, ⟨[7], [], [], [], []⟩)]⟩
def E_spec_l1All : Entry := ⟨S_spec_l1All, .r H_spec_l1All R_spec_l1All⟩
def S_spec_l2Small : Sig := .d ⟨[(.g [.s, .s, .i .i64])], (.one (.one (.b))), true⟩
def H_spec_l2Small : Hint := ⟨[0, 1, 2], 0, [], []⟩
def E_spec_l2Small : Entry := ⟨S_spec_l2Small, .r H_spec_l2Small R_spec_l2Small⟩
def S_spec_l2Line : Sig := .d ⟨[(.g [.i .i64, .i .i64, .i .i64, .s, .s, .i .i64])], (.one (.one (.b))), true⟩
def H_spec_l2Line : Hint := ⟨[0, 1, 2, 4, 5, 20, 35], 0, [], []⟩
def E_spec_l2Line : Entry := ⟨S_spec_l2Line, .r H_spec_l2Line R_spec_l2Line⟩
def S_spec_ActOk : Sig := .d ⟨[(.one (.s))], (.one (.one (.b))), true⟩
def H_spec_ActOk : Hint := ⟨[0, 2, 3, 4, 8, 16, 22], 0, [], [(3, ⟨[4, 3], [], [], [], []⟩)]⟩
def E_spec_ActOk : Entry := ⟨S_spec_ActOk, .r H_spec_ActOk R_spec_ActOk⟩
def S_spec_l20Act : Sig := .x ⟨[(.p 0 0)], [(.box [(.d (.s (.v 0))), (.d (.vi .i64 (.v 1)))])], [.s, .i .i64], (.o 1 (.v 0)), [(.box [(.d (.s (.v 1))), (.d (.vi .i64 (.v 2)))]), (.arr 43 6 (.v 0) true)], [.s, .s, .i .i64]⟩
def H_spec_l20Act : Hint := ⟨[0, 2, 3, 4, 5, 6, 10, 11, 27, 33, 47, 53, 67, 78], 1, [], [(16, ⟨[5], [(0, 1), (0, 0)], [992], [], []⟩)]⟩
def E_spec_l20Act : Entry := ⟨S_spec_l20Act, .r H_spec_l20Act R_spec_l20Act⟩
def S_spec_l20Acts : Sig := .x ⟨[(.p 0 0)], [(.box [(.d (.s (.v 0))), (.d (.vi .i64 (.v 1)))])], [.s, .i .i64], (.o 1 (.v 0)), [(.box [(.d (.s (.v 1))), (.d (.vi .i64 (.v 2)))]), (.arr 33 1 (.v 0) true)], [.s, .s, .i .i64]⟩
def H_spec_l20Acts : Hint := ⟨[0, 2, 3, 4, 10], 1, [], [(3, ⟨[4], [(0, 1), (0, 0)], [80], [], []⟩)]⟩
def E_spec_l20Acts : Entry := ⟨S_spec_l20Acts, .r H_spec_l20Acts R_spec_l20Acts⟩
def S_spec_CatOk : Sig := .d ⟨[(.one (.s))], (.one (.one (.b))), true⟩
def H_spec_CatOk : Hint := ⟨[0, 2, 3, 7, 11, 19], 0, [], [(4, ⟨[3], [], [], [], []⟩)]⟩
def E_spec_CatOk : Entry := ⟨S_spec_CatOk, .r H_spec_CatOk R_spec_CatOk⟩
def S_spec_FrmPot : Sig := .x ⟨[(.d (.vi .i64 (.v 0)))], [], [.i .i64], (.g [(.o 0 (.v 0)), (.o 1 (.v 1)), (.d (.vi .i64 (.v 2)))]), [(.arr 3 1 (.v 0) true), (.arr 3 1 (.v 1) true)], [.s, .s, .i .i64]⟩
def H_spec_FrmPot : Hint := ⟨[0, 2, 3, 6], 0, [(999999, ⟨(.cell 32 0), 900000, 3, 1⟩), (999999, ⟨(.cell 32 1), 900001, 3, 1⟩)], []⟩
def E_spec_FrmPot : Entry := ⟨S_spec_FrmPot, .r H_spec_FrmPot R_spec_FrmPot⟩
def S_spec_l1Sum : Sig := .x ⟨[(.g [(.d (.s (.v 0))), (.d (.s (.v 1))), (.d (.vi .i64 (.v 2)))]), (.g [(.d (.s (.v 3))), (.d (.s (.v 4))), (.d (.vi .i64 (.v 5)))]), (.d (.vi .i64 (.v 6)))], [], [.s, .s, .i .i64, .s, .s, .i .i64, .i .i64], (.g [(.o 0 (.v 0)), (.o 1 (.v 1)), (.d (.vi .i64 (.v 2)))]), [(.arr 3 1 (.v 0) true), (.arr 3 1 (.v 1) true)], [.s, .s, .i .i64]⟩
def H_spec_l1Sum : Hint := ⟨[0, 1, 2, 3, 4, 6, 7, 8, 9, 12, 33], 0, [], [(7, ⟨[9], [], [161], [], []⟩), (3, ⟨[8], [], [160], [], []⟩)]⟩
def E_spec_l1Sum : Entry := ⟨S_spec_l1Sum, .r H_spec_l1Sum R_spec_l1Sum⟩
def S_spec_l3Copy : Sig := .x ⟨[(.d (.s (.v 0)))], [], [.s], (.o 0 (.v 0)), [(.arr 41 3 (.v 0) true)], [.s]⟩
def H_spec_l3Copy : Hint := ⟨[0, 2, 3, 4, 9], 0, [], [(3, ⟨[4], [], [80], [], []⟩)]⟩
def E_spec_l3Copy : Entry := ⟨S_spec_l3Copy, .r H_spec_l3Copy R_spec_l3Copy⟩
def S_spec_FrmOk : Sig := .d ⟨[(.g [.s, .s, .i .i64])], (.one (.one (.b))), true⟩
def H_spec_FrmOk : Hint := ⟨[0, 1, 2], 0, [], []⟩
def E_spec_FrmOk : Entry := ⟨S_spec_FrmOk, .r H_spec_FrmOk R_spec_FrmOk⟩
def S_spec_FrmInto : Sig := .x ⟨[(.g [(.d (.s (.v 0))), (.d (.s (.v 1))), (.d (.vi .i64 (.v 2)))]), (.d (.s (.v 3)))], [], [.s, .s, .i .i64, .s], (.g [(.o 0 (.v 0)), (.o 1 (.v 1)), (.d (.vi .i64 (.v 2)))]), [(.arr 3 1 (.v 0) true), (.arr 3 1 (.v 1) true)], [.s, .s, .i .i64]⟩
def H_spec_FrmInto : Hint := ⟨[0, 1, 2, 4, 5, 6, 35, 46, 62], 0, [(999999, ⟨(.cell 64 0), 900000, 3, 1⟩), (999999, ⟨(.cell 64 1), 900001, 3, 1⟩)], [(5, ⟨[6], [(80, 2)], [592, 608], [], []⟩)]⟩
def E_spec_FrmInto : Entry := ⟨S_spec_FrmInto, .r H_spec_FrmInto R_spec_FrmInto⟩
def S_spec_l3Minus : Sig := .x ⟨[(.g [(.d (.s (.v 0))), (.d (.s (.v 1))), (.d (.vi .i64 (.v 2)))])], [], [.s, .s, .i .i64], (.g [(.o 0 (.v 0)), (.o 1 (.v 1)), (.d (.vi .i64 (.v 2)))]), [(.arr 3 1 (.v 0) true), (.arr 3 1 (.v 1) true)], [.s, .s, .i .i64]⟩
def H_spec_l3Minus : Hint := ⟨[0, 1, 2, 3], 0, [], []⟩
def E_spec_l3Minus : Entry := ⟨S_spec_l3Minus, .r H_spec_l3Minus R_spec_l3Minus⟩
def S_spec_l3Row : Sig := .x ⟨[(.d (.s (.v 0))), (.d (.s (.v 1))), (.d (.s (.v 2)))], [], [.s, .s, .s], (.g [(.o 0 (.v 0)), (.o 1 (.v 1)), (.o 2 (.v 2)), (.d (.vb (.v 3)))]), [(.arr 41 3 (.v 0) true), (.arr 41 3 (.v 1) true), (.arr 41 3 (.v 2) true)], [.s, .s, .s, .b]⟩
def H_spec_l3Row : Hint := ⟨[0, 1, 2, 6, 7, 8, 15], 0, [(3, ⟨(.cell 112 1), 121, 41, 3⟩)], [(3, ⟨[8], [], [121], [], []⟩)]⟩
def E_spec_l3Row : Entry := ⟨S_spec_l3Row, .r H_spec_l3Row R_spec_l3Row⟩
def S_spec_l3Walk : Sig := .x ⟨[(.d (.s (.v 0))), (.d (.vi .i64 (.v 1))), (.d (.s (.v 2))), (.d (.s (.v 3))), (.d (.s (.v 4)))], [], [.s, .i .i64, .s, .s, .s], (.o 0 (.v 0)), [(.arr 47 4 (.v 0) true)], [.s]⟩
def H_spec_l3Walk : Hint := ⟨[0, 1, 2, 3, 4, 10, 11, 12, 13, 14, 15, 20, 29, 39, 45, 80], 0, [], [(2, ⟨[11, 4, 2], [], [], [], []⟩)]⟩
def E_spec_l3Walk : Entry := ⟨S_spec_l3Walk, .r H_spec_l3Walk R_spec_l3Walk⟩
def S_spec_RowsOf : Sig := .x ⟨[(.d (.s (.v 0)))], [], [.s], (.o 0 (.v 0)), [(.arr 47 4 (.v 0) true)], [.s]⟩
def H_spec_RowsOf : Hint := ⟨[0, 2, 5], 0, [], []⟩
def E_spec_RowsOf : Entry := ⟨S_spec_RowsOf, .r H_spec_RowsOf R_spec_RowsOf⟩
def S_spec_l4Reads : Sig := .x ⟨[(.d (.s (.v 0))), (.d (.s (.v 1)))], [], [.s, .s], (.o 0 (.v 0)), [(.arr 4 1 (.v 0) true)], [.s]⟩
def H_spec_l4Reads : Hint := ⟨[0, 1, 4, 5, 6, 7, 14, 18, 29], 0, [], [(3, ⟨[6], [], [128], [], []⟩), (6, ⟨[7], [], [128], [], []⟩)]⟩
def E_spec_l4Reads : Entry := ⟨S_spec_l4Reads, .r H_spec_l4Reads R_spec_l4Reads⟩
def S_spec_CatPart : Sig := .x ⟨[(.g [(.d (.s (.v 0))), (.d (.s (.v 1))), (.d (.vi .i64 (.v 2)))])], [], [.s, .s, .i .i64], (.o 0 (.v 0)), [(.arr 3 1 (.v 0) true)], [.s]⟩
def H_spec_CatPart : Hint := ⟨[0, 1, 2, 3, 4, 5, 11, 23, 33], 0, [], [(4, ⟨[5, 4], [], [96], [], []⟩)]⟩
def E_spec_CatPart : Entry := ⟨S_spec_CatPart, .r H_spec_CatPart R_spec_CatPart⟩
def S_spec_l4Same : Sig := .d ⟨[(.one (.s)), (.one (.s))], (.one (.one (.b))), true⟩
def H_spec_l4Same : Hint := ⟨[0, 1, 4, 5, 10, 14, 25], 0, [], [(4, ⟨[5], [], [], [], []⟩)]⟩
def E_spec_l4Same : Entry := ⟨S_spec_l4Same, .r H_spec_l4Same R_spec_l4Same⟩
def S_spec_CatHas : Sig := .d ⟨[(.one (.s)), (.one (.s))], (.one (.one (.i .i64))), true⟩
def H_spec_CatHas : Hint := ⟨[0, 1, 4, 5, 9, 17], 0, [], [(2, ⟨[5], [], [], [], []⟩)]⟩
def E_spec_CatHas : Entry := ⟨S_spec_CatHas, .r H_spec_CatHas R_spec_CatHas⟩
def S_spec_l4Both : Sig := .x ⟨[(.d (.s (.v 0)))], [], [.s], (.t [(.o 0 (.v 0)), (.o 1 (.v 1))]), [(.arr 23 1 (.v 0) true), (.arr 4 1 (.v 1) true)], [.s, .s]⟩
def H_spec_l4Both : Hint := ⟨[0, 2, 3, 4, 5, 6, 7, 8, 9, 10, 11, 15, 27, 38, 61, 83], 0, [], [(8, ⟨[7], [], [192, 208], [], []⟩), (12, ⟨[9], [], [192, 208], [], []⟩), (16, ⟨[10], [], [192], [], []⟩), (4, ⟨[6], [], [192], [], []⟩)]⟩
def E_spec_l4Both : Entry := ⟨S_spec_l4Both, .r H_spec_l4Both R_spec_l4Both⟩
def S_spec_CatForms : Sig := .x ⟨[(.d (.s (.v 0)))], [], [.s], (.o 0 (.v 0)), [(.arr 23 1 (.v 0) true)], [.s]⟩
def H_spec_CatForms : Hint := ⟨[0, 2, 3, 7], 0, [], []⟩
def E_spec_CatForms : Entry := ⟨S_spec_CatForms, .r H_spec_CatForms R_spec_CatForms⟩
def S_spec_DrawTrtAll : Sig := .x ⟨[(.d (.s (.v 0)))], [], [.s], (.t [(.g [(.o 0 (.v 0)), (.o 1 (.v 1))]), (.o 2 (.v 2)), (.o 3 (.v 3))]), [(.arr 3 1 (.v 0) true), (.arr 3 1 (.v 1) true), (.arr 23 1 (.v 2) true), (.arr 23 1 (.v 3) true)], [.s, .s, .s, .s]⟩
def H_spec_DrawTrtAll : Hint := ⟨[0, 2, 3, 4, 5, 6, 7, 8, 18, 28], 0, [], [(5, ⟨[8], [(160, 1), (160, 0)], [208], [], []⟩)]⟩
def E_spec_DrawTrtAll : Entry := ⟨S_spec_DrawTrtAll, .r H_spec_DrawTrtAll R_spec_DrawTrtAll⟩
def S_impl_in : Sig := .d ⟨[(.one (.i .i64)), (.one (.i .i64)), (.one (.i .i64))], (.one (.one (.b))), true⟩
def H_impl_in : Hint := ⟨[0, 1, 2, 6], 0, [], []⟩
def E_impl_in : Entry := ⟨S_impl_in, .r H_impl_in R_impl_in⟩
def S_impl_TrtOk_1 : Sig := .d ⟨[(.one (.i .i64))], (.one (.one (.b))), true⟩
def H_impl_TrtOk_1 : Hint := ⟨[0, 2], 0, [], []⟩
def E_impl_TrtOk_1 : Entry := ⟨S_impl_TrtOk_1, .r H_impl_TrtOk_1 R_impl_TrtOk_1⟩
def S_impl_within_1 : Sig := .d ⟨[(.one (.i .i64)), (.one (.d))], (.one (.one (.b))), true⟩
def H_impl_within_1 : Hint := ⟨[0, 1, 3], 0, [], []⟩
def E_impl_within_1 : Entry := ⟨S_impl_within_1, .r H_impl_within_1 R_impl_within_1⟩
def S_slices_IndexFunc_Sint_int : Sig := .d ⟨[(.one (.s)), (.one (.d))], (.one (.one (.i .i64))), true⟩
def H_slices_IndexFunc_Sint_int : Hint := ⟨[0, 1, 4, 5, 7, 8, 9, 16], 0, [], [(2, ⟨[8], [], [], [], []⟩)]⟩
def E_slices_IndexFunc_Sint_int : Entry := ⟨S_slices_IndexFunc_Sint_int, .r H_slices_IndexFunc_Sint_int R_slices_IndexFunc_Sint_int⟩
def S_slices_ContainsFunc_Sint_int : Sig := .d ⟨[(.one (.s)), (.one (.d))], (.one (.one (.b))), true⟩
def H_slices_ContainsFunc_Sint_int : Hint := ⟨[0, 1, 4], 0, [], []⟩
def E_slices_ContainsFunc_Sint_int : Entry := ⟨S_slices_ContainsFunc_Sint_int, .r H_slices_ContainsFunc_Sint_int R_slices_ContainsFunc_Sint_int⟩
def S_impl_within : Sig := .d ⟨[(.one (.s)), (.one (.i .i64)), (.one (.i .i64))], (.one (.one (.b))), true⟩
def H_impl_within : Hint := ⟨[0, 1, 2, 5, 6], 0, [], []⟩
def E_impl_within : Entry := ⟨S_impl_within, .r H_impl_within R_impl_within⟩
def S_impl_ValOk : Sig := .d ⟨[(.one (.s))], (.one (.one (.b))), true⟩
def H_impl_ValOk : Hint := ⟨[0, 2], 0, [], []⟩
def E_impl_ValOk : Entry := ⟨S_impl_ValOk, .r H_impl_ValOk R_impl_ValOk⟩
def S_impl_TrtOk : Sig := .d ⟨[(.g [.s, .s])], (.one (.one (.b))), true⟩
def H_impl_TrtOk : Hint := ⟨[0, 1, 2, 3], 0, [], []⟩
def E_impl_TrtOk : Entry := ⟨S_impl_TrtOk, .r H_impl_TrtOk R_impl_TrtOk⟩
def S_slices_IndexFunc_SSint_Sint : Sig := .d ⟨[(.one (.s)), (.one (.d))], (.one (.one (.i .i64))), true⟩
def H_slices_IndexFunc_SSint_Sint : Hint := ⟨[0, 1, 4, 5, 7, 8, 9, 16], 0, [], [(2, ⟨[8], [], [], [], []⟩)]⟩
def E_slices_IndexFunc_SSint_Sint : Entry := ⟨S_slices_IndexFunc_SSint_Sint, .r H_slices_IndexFunc_SSint_Sint R_slices_IndexFunc_SSint_Sint⟩
def S_slices_ContainsFunc_SSint_Sint : Sig := .d ⟨[(.one (.s)), (.one (.d))], (.one (.one (.b))), true⟩
def H_slices_ContainsFunc_SSint_Sint : Hint := ⟨[0, 1, 4], 0, [], []⟩
def E_slices_ContainsFunc_SSint_Sint : Entry := ⟨S_slices_ContainsFunc_SSint_Sint, .r H_slices_ContainsFunc_SSint_Sint R_slices_ContainsFunc_SSint_Sint⟩
def S_impl_partsOk_1 : Sig := .d ⟨[(.one (.s))], (.one (.one (.b))), true⟩
def H_impl_partsOk_1 : Hint := ⟨[0, 2], 0, [], []⟩
def E_impl_partsOk_1 : Entry := ⟨S_impl_partsOk_1, .r H_impl_partsOk_1 R_impl_partsOk_1⟩
def S_impl_partsOk : Sig := .d ⟨[(.one (.s))], (.one (.one (.b))), true⟩
def H_impl_partsOk : Hint := ⟨[0, 2], 0, [], []⟩
def E_impl_partsOk : Entry := ⟨S_impl_partsOk, .r H_impl_partsOk R_impl_partsOk⟩
def S_impl_addedOk : Sig := .d ⟨[(.one (.s))], (.one (.one (.b))), true⟩
def H_impl_addedOk : Hint := ⟨[0, 2], 0, [], []⟩
def E_impl_addedOk : Entry := ⟨S_impl_addedOk, .r H_impl_addedOk R_impl_addedOk⟩
def S_impl_TrtTreaty_ok : Sig := .d ⟨[(.g [.s, .s]), (.one (.s)), (.one (.i .i64)), (.one (.s))], (.one (.one (.b))), true⟩
def H_impl_TrtTreaty_ok : Hint := ⟨[0, 1, 2, 3, 4, 8], 0, [], []⟩
def E_impl_TrtTreaty_ok : Entry := ⟨S_impl_TrtTreaty_ok, .r H_impl_TrtTreaty_ok R_impl_TrtTreaty_ok⟩
def S_impl_dot : Sig := .d ⟨[(.one (.s)), (.one (.s))], (.one (.one (.i .i64))), true⟩
def H_impl_dot : Hint := ⟨[0, 1, 4, 5, 6, 7, 8, 9, 10, 11], 0, [], [(3, ⟨[10, 5], [], [], [], []⟩)]⟩
def E_impl_dot : Entry := ⟨S_impl_dot, .r H_impl_dot R_impl_dot⟩
def S_impl_TrtKeeps_1 : Sig := .d ⟨[(.one (.s)), (.one (.d)), (.one (.d))], (.one (.one (.b))), true⟩
def H_impl_TrtKeeps_1 : Hint := ⟨[0, 1, 2, 4], 0, [], []⟩
def E_impl_TrtKeeps_1 : Entry := ⟨S_impl_TrtKeeps_1, .r H_impl_TrtKeeps_1 R_impl_TrtKeeps_1⟩
def S_impl_TrtKeeps : Sig := .d ⟨[(.g [.s, .s]), (.one (.s)), (.one (.i .i64)), (.one (.s))], (.one (.one (.b))), true⟩
def H_impl_TrtKeeps : Hint := ⟨[0, 1, 2, 3, 4, 7, 8, 9, 15], 0, [], []⟩
def E_impl_TrtKeeps : Entry := ⟨S_impl_TrtKeeps, .r H_impl_TrtKeeps R_impl_TrtKeeps⟩
def S_impl_TrtAll : Sig := .d ⟨[(.g [.s, .s]), (.one (.s)), (.one (.s))], (.one (.one (.b))), true⟩
def H_impl_TrtAll : Hint := ⟨[0, 1, 2, 3, 6, 7, 8, 19, 20, 21, 22, 23, 32], 0, [], [(4, ⟨[22], [], [], [], []⟩)]⟩
def E_impl_TrtAll : Entry := ⟨S_impl_TrtAll, .r H_impl_TrtAll R_impl_TrtAll⟩
def S_spec_ValOk : Sig := .d ⟨[(.one (.s))], (.one (.one (.b))), true⟩
def H_spec_ValOk : Hint := ⟨[0, 2], 0, [], []⟩
def E_spec_ValOk : Entry := ⟨S_spec_ValOk, .r H_spec_ValOk R_spec_ValOk⟩
def S_spec_TrtOk : Sig := .d ⟨[(.g [.s, .s])], (.one (.one (.b))), true⟩
def H_spec_TrtOk : Hint := ⟨[0, 1, 2, 3, 14, 19, 28], 0, [], [(4, ⟨[3], [], [], [], []⟩)]⟩
def E_spec_TrtOk : Entry := ⟨S_spec_TrtOk, .r H_spec_TrtOk R_spec_TrtOk⟩
def S_spec_l5Parts : Sig := .d ⟨[(.one (.s))], (.one (.one (.b))), true⟩
def H_spec_l5Parts : Hint := ⟨[0, 2, 3, 7, 15], 0, [], [(2, ⟨[3], [], [], [], []⟩)]⟩
def E_spec_l5Parts : Entry := ⟨S_spec_l5Parts, .r H_spec_l5Parts R_spec_l5Parts⟩
def S_spec_l5Times : Sig := .d ⟨[(.one (.s)), (.one (.s))], (.one (.one (.i .i64))), true⟩
def H_spec_l5Times : Hint := ⟨[0, 1, 4, 5, 6, 8], 0, [], [(3, ⟨[6, 5], [], [], [], []⟩)]⟩
def E_spec_l5Times : Entry := ⟨S_spec_l5Times, .r H_spec_l5Times R_spec_l5Times⟩
def S_spec_TrtKeeps : Sig := .d ⟨[(.g [.s, .s]), (.one (.s)), (.one (.i .i64)), (.one (.s))], (.one (.one (.b))), true⟩
def H_spec_TrtKeeps : Hint := ⟨[0, 1, 2, 3, 4, 8, 9, 31, 35, 56], 0, [], [(4, ⟨[9], [], [], [], []⟩)]⟩
def E_spec_TrtKeeps : Entry := ⟨S_spec_TrtKeeps, .r H_spec_TrtKeeps R_spec_TrtKeeps⟩
def S_spec_TrtAll : Sig := .d ⟨[(.g [.s, .s]), (.one (.s)), (.one (.s))], (.one (.one (.b))), true⟩
def H_spec_TrtAll : Hint := ⟨[0, 1, 2, 3, 6, 7, 18, 22, 33], 0, [], [(4, ⟨[7], [], [], [], []⟩)]⟩
def E_spec_TrtAll : Entry := ⟨S_spec_TrtAll, .r H_spec_TrtAll R_spec_TrtAll⟩
def S_laws_FnTrtAll : Sig := .d ⟨[(.one (.s))], (.one (.one (.b))), true⟩
def H_laws_FnTrtAll : Hint := ⟨[0, 2, 3, 4, 5, 6, 7, 10, 33], 0, [], [(6, ⟨[7, 6], [], [], [], []⟩)]⟩
def E_laws_FnTrtAll : Entry := ⟨S_laws_FnTrtAll, .r H_laws_FnTrtAll R_laws_FnTrtAll⟩
def S_spec_l20Form : Sig := .x ⟨[(.p 0 0), (.d (.vi .i64 (.v 2)))], [(.box [(.d (.s (.v 0))), (.d (.vi .i64 (.v 1)))])], [.s, .i .i64, .i .i64], (.g [(.o 1 (.v 0)), (.o 2 (.v 1)), (.d (.vi .i64 (.v 2)))]), [(.box [(.d (.s (.v 3))), (.d (.vi .i64 (.v 4)))]), (.arr 3 1 (.v 0) true), (.arr 3 1 (.v 1) true)], [.s, .s, .i .i64, .s, .i .i64]⟩
def H_spec_l20Form : Hint := ⟨[0, 1, 4, 5, 10, 24, 27, 38, 44, 51], 1, [], []⟩
def E_spec_l20Form : Entry := ⟨S_spec_l20Form, .r H_spec_l20Form R_spec_l20Form⟩
def S_spec_l20AnyAct : Sig := .x ⟨[(.p 0 0), (.d (.vi .i64 (.v 2)))], [(.box [(.d (.s (.v 0))), (.d (.vi .i64 (.v 1)))])], [.s, .i .i64, .i .i64], (.o 1 (.v 0)), [(.box [(.d (.s (.v 1))), (.d (.vi .i64 (.v 2)))]), (.arr 43 6 (.v 0) true)], [.s, .s, .i .i64]⟩
def H_spec_l20AnyAct : Hint := ⟨[0, 1, 4, 5, 6, 17, 24, 34, 45, 56, 67, 75, 79], 1, [], [(16, ⟨[], [], [128], [], []⟩)]⟩
def E_spec_l20AnyAct : Entry := ⟨S_spec_l20AnyAct, .r H_spec_l20AnyAct R_spec_l20AnyAct⟩
def S_spec_DrawRowsOf : Sig := .x ⟨[(.d (.s (.v 0)))], [], [.s], (.o 0 (.v 0)), [(.arr 43 6 (.v 0) true)], [.s]⟩
def H_spec_DrawRowsOf : Hint := ⟨[0, 2], 0, [], []⟩
def E_spec_DrawRowsOf : Entry := ⟨S_spec_DrawRowsOf, .r H_spec_DrawRowsOf R_spec_DrawRowsOf⟩
def S_impl_FrmForm_small : Sig := .d ⟨[(.g [.s, .s, .i .i64])], (.one (.one (.b))), true⟩
def H_impl_FrmForm_small : Hint := ⟨[0, 1, 2], 0, [], []⟩
def E_impl_FrmForm_small : Entry := ⟨S_impl_FrmForm_small, .r H_impl_FrmForm_small R_impl_FrmForm_small⟩
def S_slices_Equal_Sint_int : Sig := .d ⟨[(.one (.s)), (.one (.s))], (.one (.one (.b))), true⟩
def H_slices_Equal_Sint_int : Hint := ⟨[0, 1, 4, 5, 10, 12, 13, 14, 24], 0, [], [(4, ⟨[13], [], [], [], []⟩)]⟩
def E_slices_Equal_Sint_int : Entry := ⟨S_slices_Equal_Sint_int, .r H_slices_Equal_Sint_int R_slices_Equal_Sint_int⟩
def S_impl_FrmForm_same : Sig := .d ⟨[(.g [.s, .s, .i .i64]), (.g [.s, .s, .i .i64])], (.one (.one (.b))), true⟩
def H_impl_FrmForm_same : Hint := ⟨[0, 1, 2, 3, 4], 0, [], []⟩
def E_impl_FrmForm_same : Entry := ⟨S_impl_FrmForm_same, .r H_impl_FrmForm_same R_impl_FrmForm_same⟩
def S_impl_ActLine_ok : Sig := .d ⟨[(.g [.i .i64, .i .i64, .i .i64, .s, .s, .i .i64])], (.one (.one (.b))), true⟩
def H_impl_ActLine_ok : Hint := ⟨[0, 1, 2, 4, 5, 20, 35, 50], 0, [], []⟩
def E_impl_ActLine_ok : Entry := ⟨S_impl_ActLine_ok, .r H_impl_ActLine_ok R_impl_ActLine_ok⟩
def S_impl_ActOk : Sig := .d ⟨[(.one (.s))], (.one (.one (.b))), true⟩
def H_impl_ActOk : Hint := ⟨[0, 2, 3, 5, 6, 7, 8, 9, 14, 17], 0, [], [(3, ⟨[8, 3], [], [], [], []⟩)]⟩
def E_impl_ActOk : Entry := ⟨S_impl_ActOk, .r H_impl_ActOk R_impl_ActOk⟩
def S_impl_FrmZero : Sig := .x ⟨[], [], [], (.g [(.o 0 (.v 0)), (.o 1 (.v 1)), (.d (.vi .i64 (.v 2)))]), [(.arr 3 1 (.v 0) true), (.arr 3 1 (.v 1) true)], [.s, .s, .i .i64]⟩
def H_impl_FrmZero : Hint := ⟨[0], 0, [], []⟩
def E_impl_FrmZero : Entry := ⟨S_impl_FrmZero, .r H_impl_FrmZero R_impl_FrmZero⟩
def S_impl_FrmPot : Sig := .x ⟨[(.d (.vi .i64 (.v 0)))], [], [.i .i64], (.g [(.o 0 (.v 0)), (.o 1 (.v 1)), (.d (.vi .i64 (.v 2)))]), [(.arr 3 1 (.v 0) true), (.arr 3 1 (.v 1) true)], [.s, .s, .i .i64]⟩
def H_impl_FrmPot : Hint := ⟨[0, 2, 3, 6], 0, [(999999, ⟨(.cell 32 0), 900000, 3, 1⟩), (999999, ⟨(.cell 32 1), 900001, 3, 1⟩)], []⟩
def E_impl_FrmPot : Entry := ⟨S_impl_FrmPot, .r H_impl_FrmPot R_impl_FrmPot⟩
def S_slices_Clone_Sint_int : Sig := .x ⟨[(.d (.s (.v 0)))], [], [.s], (.o 0 (.v 0)), [(.arr 3 1 (.v 0) true)], [.s]⟩
def H_slices_Clone_Sint_int : Hint := ⟨[0, 2, 4], 0, [(999999, ⟨(.slot 2), 900000, 3, 1⟩)], []⟩
def E_slices_Clone_Sint_int : Entry := ⟨S_slices_Clone_Sint_int, .r H_slices_Clone_Sint_int R_slices_Clone_Sint_int⟩
def S_impl_FrmForm_copied : Sig := .x ⟨[(.g [(.d (.s (.v 0))), (.d (.s (.v 1))), (.d (.vi .i64 (.v 2)))])], [], [.s, .s, .i .i64], (.g [(.o 0 (.v 0)), (.o 1 (.v 1)), (.d (.vi .i64 (.v 2)))]), [(.arr 3 1 (.v 0) true), (.arr 3 1 (.v 1) true)], [.s, .s, .i .i64]⟩
def H_impl_FrmForm_copied : Hint := ⟨[0, 1, 2], 0, [], []⟩
def E_impl_FrmForm_copied : Entry := ⟨S_impl_FrmForm_copied, .r H_impl_FrmForm_copied R_impl_FrmForm_copied⟩
def S_impl_forms : Sig := .x ⟨[(.d (.s (.v 0)))], [], [.s], (.o 0 (.v 0)), [(.arr 41 3 (.v 0) true)], [.s]⟩
def H_impl_forms : Hint := ⟨[0, 2, 3, 5, 6, 7, 8, 9], 0, [(3, ⟨(.slot 3), 63, 41, 3⟩)], [(3, ⟨[8], [], [63], [], []⟩)]⟩
def E_impl_forms : Entry := ⟨S_impl_forms, .r H_impl_forms R_impl_forms⟩
def S_impl_FrmOk : Sig := .d ⟨[(.g [.s, .s, .i .i64])], (.one (.one (.b))), true⟩
def H_impl_FrmOk : Hint := ⟨[0, 1, 2], 0, [], []⟩
def E_impl_FrmOk : Entry := ⟨S_impl_FrmOk, .r H_impl_FrmOk R_impl_FrmOk⟩
def S_slices_IndexFunc_Simpl_FrmForm_impl_FrmForm : Sig := .d ⟨[(.one (.s)), (.one (.d))], (.one (.one (.i .i64))), true⟩
def H_slices_IndexFunc_Simpl_FrmForm_impl_FrmForm : Hint := ⟨[0, 1, 4, 5, 7, 8, 9, 16], 0, [], [(2, ⟨[8], [], [], [], []⟩)]⟩
def E_slices_IndexFunc_Simpl_FrmForm_impl_FrmForm : Entry := ⟨S_slices_IndexFunc_Simpl_FrmForm_impl_FrmForm, .r H_slices_IndexFunc_Simpl_FrmForm_impl_FrmForm R_slices_IndexFunc_Simpl_FrmForm_impl_FrmForm⟩
def S_slices_ContainsFunc_Simpl_FrmForm_impl_FrmForm : Sig := .d ⟨[(.one (.s)), (.one (.d))], (.one (.one (.b))), true⟩
def H_slices_ContainsFunc_Simpl_FrmForm_impl_FrmForm : Hint := ⟨[0, 1, 4], 0, [], []⟩
def E_slices_ContainsFunc_Simpl_FrmForm_impl_FrmForm : Entry := ⟨S_slices_ContainsFunc_Simpl_FrmForm_impl_FrmForm, .r H_slices_ContainsFunc_Simpl_FrmForm_impl_FrmForm R_slices_ContainsFunc_Simpl_FrmForm_impl_FrmForm⟩
def S_impl_FrmInto_1 : Sig := .d ⟨[(.g [.s, .s, .i .i64])], (.one (.one (.b))), true⟩
def H_impl_FrmInto_1 : Hint := ⟨[0, 1, 2], 0, [], []⟩
def E_impl_FrmInto_1 : Entry := ⟨S_impl_FrmInto_1, .r H_impl_FrmInto_1 R_impl_FrmInto_1⟩
def S_impl_FrmForm_add : Sig := .x ⟨[(.p 0 0), (.g [(.d (.s (.v 3))), (.d (.s (.v 4))), (.d (.vi .i64 (.v 5)))]), (.d (.vi .i64 (.v 6)))], [(.box [(.o 1 (.v 0)), (.o 2 (.v 1)), (.d (.vi .i64 (.v 2)))]), (.arr 3 1 (.v 0) true), (.arr 3 1 (.v 1) true)], [.s, .s, .i .i64, .s, .s, .i .i64, .i .i64], (.t []), [(.box [(.o 1 (.v 1)), (.o 2 (.v 2)), (.d (.vi .i64 (.v 0)))]), (.arr 3 1 (.v 1) true), (.arr 3 1 (.v 2) true)], [.i .i64, .s, .s]⟩
def H_impl_FrmForm_add : Hint := ⟨[0, 1, 2, 4, 6, 7, 8, 9, 11, 12, 13, 14, 32, 33, 34, 35], 3, [], [(7, ⟨[34], [], [2], [], []⟩), (2, ⟨[13], [], [1], [], []⟩)]⟩
def E_impl_FrmForm_add : Entry := ⟨S_impl_FrmForm_add, .r H_impl_FrmForm_add R_impl_FrmForm_add⟩
def S_impl_checked : Sig := .d ⟨[(.g [.s, .s, .i .i64])], (.one (.g [.s, .s, .i .i64])), false⟩
def H_impl_checked : Hint := ⟨[0, 1, 2, 5], 0, [], []⟩
def E_impl_checked : Entry := ⟨S_impl_checked, .r H_impl_checked R_impl_checked⟩
def S_impl_FrmInto : Sig := .d ⟨[(.g [.s, .s, .i .i64]), (.one (.s))], (.one (.g [.s, .s, .i .i64])), false⟩
def H_impl_FrmInto : Hint := ⟨[0, 1, 2, 4, 5, 6, 7, 19, 22, 23, 24, 25], 0, [], [(5, ⟨[24], [(80, 2)], [336, 337], [], []⟩)]⟩
def E_impl_FrmInto : Entry := ⟨S_impl_FrmInto, .r H_impl_FrmInto R_impl_FrmInto⟩
def S_impl_FrmTimes : Sig := .d ⟨[(.g [.s, .s, .i .i64]), (.one (.i .i64))], (.one (.g [.s, .s, .i .i64])), false⟩
def H_impl_FrmTimes : Hint := ⟨[0, 1, 2, 4, 5, 13], 0, [], []⟩
def E_impl_FrmTimes : Entry := ⟨S_impl_FrmTimes, .r H_impl_FrmTimes R_impl_FrmTimes⟩
def S_impl_FrmAdd : Sig := .d ⟨[(.g [.s, .s, .i .i64]), (.g [.s, .s, .i .i64])], (.one (.g [.s, .s, .i .i64])), false⟩
def H_impl_FrmAdd : Hint := ⟨[0, 1, 2, 3, 4, 5, 13], 0, [], []⟩
def E_impl_FrmAdd : Entry := ⟨S_impl_FrmAdd, .r H_impl_FrmAdd R_impl_FrmAdd⟩
def S_impl_walker_walk : Sig := .x ⟨[(.p 0 0), (.d (.vi .i64 (.v 2))), (.d (.s (.v 3))), (.d (.s (.v 4))), (.d (.s (.v 5)))], [(.box [(.d (.s (.v 0))), (.o 1 (.v 1))]), (.arr 47 4 (.v 1) true)], [.s, .s, .i .i64, .s, .s, .s], (.t []), [(.box [(.d (.s (.v 0))), (.o 1 (.v 1))]), (.arr 47 4 (.v 1) true)], [.s, .s]⟩
def H_impl_walker_walk : Hint := ⟨[0, 1, 2, 3, 4, 10, 11, 12, 13, 14, 15, 22, 34, 52, 53, 83, 98, 110, 111, 112, 113], 2, [(20, ⟨(.cell 208 1), 217, 41, 3⟩)], [(20, ⟨[112], [], [217], [], []⟩), (0, ⟨[1, 4, 3, 2], [(0, 0)], [1], [], []⟩)]⟩
def E_impl_walker_walk : Entry := ⟨S_impl_walker_walk, .r H_impl_walker_walk R_impl_walker_walk⟩
def S_impl_RowsOf : Sig := .x ⟨[(.d (.s (.v 0)))], [], [.s], (.o 0 (.v 0)), [(.arr 47 4 (.v 0) true)], [.s]⟩
def H_impl_RowsOf : Hint := ⟨[0, 2, 3, 4, 5, 8, 12, 13], 0, [(10, ⟨(.cell 176 1), 185, 47, 4⟩), (6, ⟨(.slot 4), 79, 41, 3⟩), (999999, ⟨(.slot 2), 900000, 47, 4⟩)], [(6, ⟨[12], [], [79], [], []⟩)]⟩
def E_impl_RowsOf : Entry := ⟨S_impl_RowsOf, .r H_impl_RowsOf R_impl_RowsOf⟩
def S_laws_coInts : Sig := .d ⟨[(.one (.s)), (.one (.s))], (.one (.one (.b))), true⟩
def H_laws_coInts : Hint := ⟨[0, 1, 4, 5, 10, 14, 25], 0, [], [(4, ⟨[5], [], [], [], []⟩)]⟩
def E_laws_coInts : Entry := ⟨S_laws_coInts, .r H_laws_coInts R_laws_coInts⟩
def S_laws_coForm : Sig := .d ⟨[(.g [.s, .s, .i .i64]), (.g [.s, .s, .i .i64])], (.one (.one (.b))), true⟩
def H_laws_coForm : Hint := ⟨[0, 1, 2, 3, 4], 0, [], []⟩
def E_laws_coForm : Entry := ⟨S_laws_coForm, .r H_laws_coForm R_laws_coForm⟩
def S_laws_coForms : Sig := .d ⟨[(.one (.s)), (.one (.s))], (.one (.one (.b))), true⟩
def H_laws_coForms : Hint := ⟨[0, 1, 4, 5, 10, 14, 26], 0, [], [(4, ⟨[5], [], [], [], []⟩)]⟩
def E_laws_coForms : Entry := ⟨S_laws_coForms, .r H_laws_coForms R_laws_coForms⟩
def S_laws_coRow : Sig := .d ⟨[(.g [.s, .s, .s, .b]), (.g [.s, .s, .s, .b])], (.one (.one (.b))), true⟩
def H_laws_coRow : Hint := ⟨[0, 1, 2, 3, 4], 0, [], []⟩
def E_laws_coRow : Entry := ⟨S_laws_coRow, .r H_laws_coRow R_laws_coRow⟩
def S_laws_coRows : Sig := .d ⟨[(.one (.s)), (.one (.s))], (.one (.one (.b))), true⟩
def H_laws_coRows : Hint := ⟨[0, 1, 4, 5, 10, 14, 26], 0, [], [(4, ⟨[5], [], [], [], []⟩)]⟩
def E_laws_coRows : Entry := ⟨S_laws_coRows, .r H_laws_coRows R_laws_coRows⟩
def S_laws_coHolds : Sig := .d ⟨[], (.one (.one (.b))), true⟩
def H_laws_coHolds : Hint := ⟨[0], 0, [], []⟩
def E_laws_coHolds : Entry := ⟨S_laws_coHolds, .r H_laws_coHolds R_laws_coHolds⟩
def S_impl_RowOk_1 : Sig := .d ⟨[(.g [.s, .s, .i .i64])], (.one (.one (.b))), true⟩
def H_impl_RowOk_1 : Hint := ⟨[0, 1, 2], 0, [], []⟩
def E_impl_RowOk_1 : Entry := ⟨S_impl_RowOk_1, .r H_impl_RowOk_1 R_impl_RowOk_1⟩
def S_slices_Grow_Simpl_FrmForm_impl_FrmForm : Sig := .x ⟨[(.d (.vc (.slice none 0 0))), (.d (.vi .i64 (.v 0)))], [], [.i .i64], (.o 0 (.v 0)), [(.arr 41 3 (.v 0) true)], [.s]⟩
def H_slices_Grow_Simpl_FrmForm_impl_FrmForm : Hint := ⟨[0, 1, 4, 6, 16], 0, [(999999, ⟨(.slot 4), 900000, 41, 3⟩)], []⟩
def E_slices_Grow_Simpl_FrmForm_impl_FrmForm : Entry := ⟨S_slices_Grow_Simpl_FrmForm_impl_FrmForm, .r H_slices_Grow_Simpl_FrmForm_impl_FrmForm R_slices_Grow_Simpl_FrmForm_impl_FrmForm⟩
def S_slices_Concat_Simpl_FrmForm_impl_FrmForm : Sig := .x ⟨[(.d (.s (.v 0)))], [], [.s], (.o 0 (.v 0)), [(.arr 41 3 (.v 0) true)], [.s]⟩
def H_slices_Concat_Simpl_FrmForm_impl_FrmForm : Hint := ⟨[0, 2, 3, 5, 6, 8, 9, 10, 11, 12, 20, 25, 26, 27, 28], 0, [], [(11, ⟨[27], [], [384], [], []⟩), (3, ⟨[11, 3], [], [], [], []⟩)]⟩
def E_slices_Concat_Simpl_FrmForm_impl_FrmForm : Entry := ⟨S_slices_Concat_Simpl_FrmForm_impl_FrmForm, .r H_slices_Concat_Simpl_FrmForm_impl_FrmForm R_slices_Concat_Simpl_FrmForm_impl_FrmForm⟩
def S_impl_RowOk : Sig := .d ⟨[(.g [.s, .s, .s, .b])], (.one (.one (.b))), true⟩
def H_impl_RowOk : Hint := ⟨[0, 1, 2, 3, 13, 15], 0, [], []⟩
def E_impl_RowOk : Entry := ⟨S_impl_RowOk, .r H_impl_RowOk R_impl_RowOk⟩
def S_laws_FnRowsOk : Sig := .d ⟨[(.one (.s))], (.one (.one (.b))), true⟩
def H_laws_FnRowsOk : Hint := ⟨[0, 2, 3, 4, 5, 6, 7, 10, 19, 22, 32, 40, 46, 72], 0, [], [(16, ⟨[7], [], [], [], []⟩), (11, ⟨[6, 5], [], [], [], []⟩)]⟩
def E_laws_FnRowsOk : Entry := ⟨S_laws_FnRowsOk, .r H_laws_FnRowsOk R_laws_FnRowsOk⟩
def S_spec_l20Args : Sig := .x ⟨[(.p 0 0), (.d (.vi .i64 (.v 2)))], [(.box [(.d (.s (.v 0))), (.d (.vi .i64 (.v 1)))])], [.s, .i .i64, .i .i64], (.o 1 (.v 0)), [(.box [(.d (.s (.v 1))), (.d (.vi .i64 (.v 2)))]), (.arr 3 1 (.v 0) true)], [.s, .s, .i .i64]⟩
def H_spec_l20Args : Hint := ⟨[0, 1, 4, 5, 16, 18, 28, 32], 1, [], []⟩
def E_spec_l20Args : Entry := ⟨S_spec_l20Args, .r H_spec_l20Args R_spec_l20Args⟩
def S_spec_DrawActRun : Sig := .x ⟨[(.d (.s (.v 0)))], [], [.s], (.t [(.o 0 (.v 0)), (.o 1 (.v 1)), (.o 2 (.v 2))]), [(.arr 43 6 (.v 0) true), (.arr 3 1 (.v 1) true), (.arr 3 1 (.v 2) true)], [.s, .s, .s]⟩
def H_spec_DrawActRun : Hint := ⟨[0, 2, 3, 4, 5], 0, [], []⟩
def E_spec_DrawActRun : Entry := ⟨S_spec_DrawActRun, .r H_spec_DrawActRun R_spec_DrawActRun⟩
def S_impl_pots : Sig := .x ⟨[(.d (.s (.v 0))), (.d (.da 1))], [], [.s, .d], (.o 0 (.v 0)), [(.arr 4 1 (.v 0) true)], [.s]⟩
def H_impl_pots : Hint := ⟨[0, 1, 4, 5, 7, 9, 10, 12, 13, 14, 15, 19, 20, 21, 22, 26, 27, 28], 0, [], [(3, ⟨[14], [], [176], [], []⟩), (6, ⟨[21], [], [176], [], []⟩), (9, ⟨[27], [], [176], [], []⟩)]⟩
def E_impl_pots : Entry := ⟨S_impl_pots, .r H_impl_pots R_impl_pots⟩
def S_impl_CatWrites_1 : Sig := .d ⟨[(.g [.s, .s, .s, .b]), (.one (.i .i64))], (.one (.one (.b))), true⟩
def H_impl_CatWrites_1 : Hint := ⟨[0, 1, 2, 4], 0, [], []⟩
def E_impl_CatWrites_1 : Entry := ⟨S_impl_CatWrites_1, .r H_impl_CatWrites_1 R_impl_CatWrites_1⟩
def S_impl_CatWrites : Sig := .x ⟨[(.d (.s (.v 0)))], [], [.s], (.o 0 (.v 0)), [(.arr 4 1 (.v 0) true)], [.s]⟩
def H_impl_CatWrites : Hint := ⟨[0, 2, 5], 0, [(999999, ⟨(.slot 2), 900000, 4, 1⟩)], []⟩
def E_impl_CatWrites : Entry := ⟨S_impl_CatWrites, .r H_impl_CatWrites R_impl_CatWrites⟩
def S_spec_l4Zero : Sig := .d ⟨[(.g [.s, .s, .i .i64])], (.one (.one (.b))), true⟩
def H_spec_l4Zero : Hint := ⟨[0, 1, 2], 0, [], []⟩
def E_spec_l4Zero : Entry := ⟨S_spec_l4Zero, .r H_spec_l4Zero R_spec_l4Zero⟩
def S_spec_CatWrites : Sig := .x ⟨[(.d (.s (.v 0)))], [], [.s], (.o 0 (.v 0)), [(.arr 4 1 (.v 0) true)], [.s]⟩
def H_spec_CatWrites : Hint := ⟨[0, 2, 3, 4, 5, 6, 9, 17, 27, 39], 0, [], [(6, ⟨[5], [], [176], [], []⟩), (9, ⟨[6], [], [176], [], []⟩)]⟩
def E_spec_CatWrites : Entry := ⟨S_spec_CatWrites, .r H_spec_CatWrites R_spec_CatWrites⟩
def S_laws_coBools : Sig := .d ⟨[(.one (.s)), (.one (.s))], (.one (.one (.b))), true⟩
def H_laws_coBools : Hint := ⟨[0, 1, 4, 5, 10, 14, 25], 0, [], [(4, ⟨[5], [], [], [], []⟩)]⟩
def E_laws_coBools : Entry := ⟨S_laws_coBools, .r H_laws_coBools R_laws_coBools⟩
def S_impl_ArgOk : Sig := .d ⟨[(.one (.s))], (.one (.one (.b))), true⟩
def H_impl_ArgOk : Hint := ⟨[0, 2], 0, [], []⟩
def E_impl_ArgOk : Entry := ⟨S_impl_ArgOk, .r H_impl_ArgOk R_impl_ArgOk⟩
def S_impl_FrmForm_at : Sig := .d ⟨[(.g [.s, .s, .i .i64]), (.one (.s)), (.one (.s))], (.one (.one (.i .i64))), true⟩
def H_impl_FrmForm_at : Hint := ⟨[0, 1, 2, 3, 6], 0, [], []⟩
def E_impl_FrmForm_at : Entry := ⟨S_impl_FrmForm_at, .r H_impl_FrmForm_at R_impl_FrmForm_at⟩
def S_impl_ActRun : Sig := .x ⟨[(.d (.s (.v 0))), (.d (.s (.v 1))), (.d (.s (.v 2)))], [], [.s, .s, .s], (.t [(.g [(.d (.vi .i64 (.v 0))), (.o 0 (.v 1))]), (.o 1 (.v 2))]), [(.arr 3 1 (.v 1) true), (.arr 3 1 (.v 2) true)], [.i .i64, .s, .s]⟩
def H_impl_ActRun : Hint := ⟨[0, 1, 2, 6, 7, 8, 9, 10, 11, 12, 25, 32, 41, 51, 52, 55, 60, 70, 78], 0, [(6, ⟨(.slot 9), 159, 3, 1⟩), (999999, ⟨(.cell 96 1), 900000, 3, 1⟩), (999999, ⟨(.slot 7), 900001, 3, 1⟩)], [(6, ⟨[10], [], [159, 448], [], []⟩)]⟩
def E_impl_ActRun : Entry := ⟨S_impl_ActRun, .r H_impl_ActRun R_impl_ActRun⟩
def S_laws_FnCatWrites : Sig := .d ⟨[(.one (.s))], (.one (.one (.b))), true⟩
def H_laws_FnCatWrites : Hint := ⟨[0, 2, 3, 4, 5, 6, 7, 8, 9, 12, 25, 35, 38, 56], 0, [], [(11, ⟨[9], [], [], [], []⟩)]⟩
def E_laws_FnCatWrites : Entry := ⟨S_laws_FnCatWrites, .r H_laws_FnCatWrites R_laws_FnCatWrites⟩
def S_spec_DrawTrtBounds : Sig := .x ⟨[(.d (.s (.v 0)))], [], [.s], (.t [(.g [(.o 0 (.v 0)), (.o 1 (.v 1))]), (.o 2 (.v 2)), (.d (.vi .i64 (.v 3))), (.o 3 (.v 4)), (.g [(.d (.s (.v 5))), (.d (.s (.v 6))), (.d (.vi .i64 (.v 7)))]), (.o 4 (.v 8))]), [(.arr 3 1 (.v 0) true), (.arr 3 1 (.v 1) true), (.arr 23 1 (.v 2) true), (.arr 3 1 (.v 4) true), (.arr 3 1 (.v 8) true)], [.s, .s, .s, .i .i64, .s, .s, .s, .i .i64, .s]⟩
def H_spec_DrawTrtBounds : Hint := ⟨[0, 2, 3, 4, 5, 6, 7, 8, 9, 10, 11, 12, 35], 0, [], []⟩
def E_spec_DrawTrtBounds : Entry := ⟨S_spec_DrawTrtBounds, .r H_spec_DrawTrtBounds R_spec_DrawTrtBounds⟩
def S_impl_plus : Sig := .x ⟨[(.d (.s (.v 0))), (.d (.s (.v 1)))], [], [.s, .s], (.o 0 (.v 0)), [(.arr 3 1 (.v 0) true)], [.s]⟩
def H_impl_plus : Hint := ⟨[0, 1, 4, 5, 6, 7, 10, 11, 12, 13], 0, [], [(3, ⟨[12], [], [144], [], []⟩)]⟩
def E_impl_plus : Entry := ⟨S_impl_plus, .r H_impl_plus R_impl_plus⟩
def S_impl_TrtOthers : Sig := .d ⟨[(.g [.s, .s]), (.one (.i .i64))], (.one (.one (.i .i64))), true⟩
def H_impl_TrtOthers : Hint := ⟨[0, 1, 2, 4, 5, 6, 7, 9, 10, 11, 12, 18], 0, [], [(3, ⟨[11, 5], [], [], [], []⟩)]⟩
def E_impl_TrtOthers : Entry := ⟨S_impl_TrtOthers, .r H_impl_TrtOthers R_impl_TrtOthers⟩
def S_impl_zeros_1 : Sig := .d ⟨[(.one (.i .i64))], (.one (.one (.b))), true⟩
def H_impl_zeros_1 : Hint := ⟨[0, 2], 0, [], []⟩
def E_impl_zeros_1 : Entry := ⟨S_impl_zeros_1, .r H_impl_zeros_1 R_impl_zeros_1⟩
def S_impl_zeros : Sig := .d ⟨[(.one (.s))], (.one (.one (.b))), true⟩
def H_impl_zeros : Hint := ⟨[0, 2], 0, [], []⟩
def E_impl_zeros : Entry := ⟨S_impl_zeros, .r H_impl_zeros R_impl_zeros⟩
def S_impl_CatPart_1 : Sig := .d ⟨[(.one (.i .i64))], (.one (.one (.b))), true⟩
def H_impl_CatPart_1 : Hint := ⟨[0, 2], 0, [], []⟩
def E_impl_CatPart_1 : Entry := ⟨S_impl_CatPart_1, .r H_impl_CatPart_1 R_impl_CatPart_1⟩
def S_impl_CatPart : Sig := .x ⟨[(.g [(.d (.s (.v 0))), (.d (.s (.v 1))), (.d (.vi .i64 (.v 2)))])], [], [.s, .s, .i .i64], (.o 0 (.v 0)), [(.arr 3 1 (.v 0) true)], [.s]⟩
def H_impl_CatPart : Hint := ⟨[0, 1, 2, 3, 4, 5, 19, 21, 22, 23], 0, [], [(5, ⟨[22], [], [128], [], []⟩)]⟩
def E_impl_CatPart : Entry := ⟨S_impl_CatPart, .r H_impl_CatPart R_impl_CatPart⟩
def S_impl_CatHas_1 : Sig := .d ⟨[(.one (.s)), (.one (.d))], (.one (.one (.b))), true⟩
def H_impl_CatHas_1 : Hint := ⟨[0, 1, 3], 0, [], []⟩
def E_impl_CatHas_1 : Entry := ⟨S_impl_CatHas_1, .r H_impl_CatHas_1 R_impl_CatHas_1⟩
def S_impl_CatHas : Sig := .d ⟨[(.one (.s)), (.one (.s))], (.one (.one (.i .i64))), true⟩
def H_impl_CatHas : Hint := ⟨[0, 1, 3, 4], 0, [], []⟩
def E_impl_CatHas : Entry := ⟨S_impl_CatHas, .r H_impl_CatHas R_impl_CatHas⟩
def S_impl_TrtBounds : Sig := .d ⟨[(.g [.s, .s]), (.one (.s)), (.one (.i .i64)), (.one (.s)), (.g [.s, .s, .i .i64]), (.one (.s))], (.tup [(.one (.i .i64)), (.one (.i .i64)), (.one (.b))]), true⟩
def H_impl_TrtBounds : Hint := ⟨[0, 1, 2, 3, 4, 5, 6, 10, 12, 13, 14, 15, 16, 32, 43, 49], 0, [], []⟩
def E_impl_TrtBounds : Entry := ⟨S_impl_TrtBounds, .r H_impl_TrtBounds R_impl_TrtBounds⟩
def S_spec_ArgOk : Sig := .d ⟨[(.one (.s))], (.one (.one (.b))), true⟩
def H_spec_ArgOk : Hint := ⟨[0, 2], 0, [], []⟩
def E_spec_ArgOk : Entry := ⟨S_spec_ArgOk, .r H_spec_ArgOk R_spec_ArgOk⟩
def S_spec_l5Sum : Sig := .x ⟨[(.d (.s (.v 0))), (.d (.s (.v 1)))], [], [.s, .s], (.o 0 (.v 0)), [(.arr 3 1 (.v 0) true)], [.s]⟩
def H_spec_l5Sum : Hint := ⟨[0, 1, 4, 5, 6, 9], 0, [], [(3, ⟨[6], [], [112], [], []⟩)]⟩
def E_spec_l5Sum : Entry := ⟨S_spec_l5Sum, .r H_spec_l5Sum R_spec_l5Sum⟩
def S_spec_l1At : Sig := .d ⟨[(.g [.s, .s, .i .i64]), (.one (.s)), (.one (.s))], (.one (.one (.i .i64))), true⟩
def H_spec_l1At : Hint := ⟨[0, 1, 2, 3, 6, 7, 8, 9, 13, 29], 0, [], [(7, ⟨[9, 7], [], [], [], []⟩), (3, ⟨[8, 7], [], [], [], []⟩)]⟩
def E_spec_l1At : Entry := ⟨S_spec_l1At, .r H_spec_l1At R_spec_l1At⟩
def S_spec_TrtOthers : Sig := .d ⟨[(.g [.s, .s]), (.one (.i .i64))], (.one (.one (.i .i64))), true⟩
def H_spec_TrtOthers : Hint := ⟨[0, 1, 2, 4, 5, 6, 11, 16], 0, [], [(3, ⟨[6, 5], [], [], [], []⟩)]⟩
def E_spec_TrtOthers : Entry := ⟨S_spec_TrtOthers, .r H_spec_TrtOthers R_spec_TrtOthers⟩
def S_spec_TrtBounds : Sig := .d ⟨[(.g [.s, .s]), (.one (.s)), (.one (.i .i64)), (.one (.s)), (.g [.s, .s, .i .i64]), (.one (.s))], (.tup [(.one (.i .i64)), (.one (.i .i64)), (.one (.b))]), true⟩
def H_spec_TrtBounds : Hint := ⟨[0, 1, 2, 3, 4, 5, 6, 10, 12, 13, 14, 15, 16, 48, 61, 67], 0, [], []⟩
def E_spec_TrtBounds : Entry := ⟨S_spec_TrtBounds, .r H_spec_TrtBounds R_spec_TrtBounds⟩
def S_laws_coSum : Sig := .x ⟨[(.d (.s (.v 0))), (.d (.s (.v 1)))], [], [.s, .s], (.o 0 (.v 0)), [(.arr 3 1 (.v 0) true)], [.s]⟩
def H_laws_coSum : Hint := ⟨[0, 1, 4, 5, 6, 7, 14, 20], 0, [], [(3, ⟨[6], [], [128], [], []⟩), (6, ⟨[7], [], [128], [], []⟩)]⟩
def E_laws_coSum : Entry := ⟨S_laws_coSum, .r H_laws_coSum R_laws_coSum⟩
def S_impl_FrmAt : Sig := .d ⟨[(.g [.s, .s, .i .i64]), (.one (.s)), (.one (.s))], (.tup [(.one (.i .i64)), (.one (.b))]), true⟩
def H_impl_FrmAt : Hint := ⟨[0, 1, 2, 3, 6, 7, 20], 0, [], []⟩
def E_impl_FrmAt : Entry := ⟨S_impl_FrmAt, .r H_impl_FrmAt R_impl_FrmAt⟩
def S_laws_FnTrtAlone : Sig := .d ⟨[(.one (.s))], (.one (.one (.b))), true⟩
def H_laws_FnTrtAlone : Hint := ⟨[0, 2, 3, 4, 5, 6, 7, 8, 9, 10, 11, 12, 13, 14, 15, 16, 17, 20, 34, 39, 78, 80], 0, [], [(5, ⟨[9], [], [369], [], []⟩)]⟩
def E_laws_FnTrtAlone : Entry := ⟨S_laws_FnTrtAlone, .r H_laws_FnTrtAlone R_laws_FnTrtAlone⟩
def S_spec_l20AnyActs : Sig := .x ⟨[(.p 0 0), (.d (.vi .i64 (.v 2)))], [(.box [(.d (.s (.v 0))), (.d (.vi .i64 (.v 1)))])], [.s, .i .i64, .i .i64], (.o 1 (.v 0)), [(.box [(.d (.s (.v 1))), (.d (.vi .i64 (.v 2)))]), (.arr 33 1 (.v 0) true)], [.s, .s, .i .i64]⟩
def H_spec_l20AnyActs : Hint := ⟨[0, 1, 4, 5, 11, 14, 17, 24, 30], 1, [], [(5, ⟨[], [], [112], [], []⟩)]⟩
def E_spec_l20AnyActs : Entry := ⟨S_spec_l20AnyActs, .r H_spec_l20AnyActs R_spec_l20AnyActs⟩
def S_spec_DrawCatForms : Sig := .x ⟨[(.d (.s (.v 0)))], [], [.s], (.o 0 (.v 0)), [(.arr 33 1 (.v 0) true)], [.s]⟩
def H_spec_DrawCatForms : Hint := ⟨[0, 2], 0, [], []⟩
def E_spec_DrawCatForms : Entry := ⟨S_spec_DrawCatForms, .r H_spec_DrawCatForms R_spec_DrawCatForms⟩
def S_slices_IndexFunc_SSimpl_ActLine_Simpl_ActLine : Sig := .d ⟨[(.one (.s)), (.one (.d))], (.one (.one (.i .i64))), true⟩
def H_slices_IndexFunc_SSimpl_ActLine_Simpl_ActLine : Hint := ⟨[0, 1, 4, 5, 7, 8, 9, 16], 0, [], [(2, ⟨[8], [], [], [], []⟩)]⟩
def E_slices_IndexFunc_SSimpl_ActLine_Simpl_ActLine : Entry := ⟨S_slices_IndexFunc_SSimpl_ActLine_Simpl_ActLine, .r H_slices_IndexFunc_SSimpl_ActLine_Simpl_ActLine R_slices_IndexFunc_SSimpl_ActLine_Simpl_ActLine⟩
def S_slices_ContainsFunc_SSimpl_ActLine_Simpl_ActLine : Sig := .d ⟨[(.one (.s)), (.one (.d))], (.one (.one (.b))), true⟩
def H_slices_ContainsFunc_SSimpl_ActLine_Simpl_ActLine : Hint := ⟨[0, 1, 4], 0, [], []⟩
def E_slices_ContainsFunc_SSimpl_ActLine_Simpl_ActLine : Entry := ⟨S_slices_ContainsFunc_SSimpl_ActLine_Simpl_ActLine, .r H_slices_ContainsFunc_SSimpl_ActLine_Simpl_ActLine R_slices_ContainsFunc_SSimpl_ActLine_Simpl_ActLine⟩
def S_impl_CatOk_1 : Sig := .d ⟨[(.one (.s))], (.one (.one (.b))), true⟩
def H_impl_CatOk_1 : Hint := ⟨[0, 2], 0, [], []⟩
def E_impl_CatOk_1 : Entry := ⟨S_impl_CatOk_1, .r H_impl_CatOk_1 R_impl_CatOk_1⟩
def S_impl_CatOk : Sig := .d ⟨[(.one (.s))], (.one (.one (.b))), true⟩
def H_impl_CatOk : Hint := ⟨[0, 2], 0, [], []⟩
def E_impl_CatOk : Entry := ⟨S_impl_CatOk, .r H_impl_CatOk R_impl_CatOk⟩
def S_impl_CatForms : Sig := .x ⟨[(.d (.s (.v 0)))], [], [.s], (.o 0 (.v 0)), [(.arr 23 1 (.v 0) true)], [.s]⟩
def H_impl_CatForms : Hint := ⟨[0, 2, 3, 4, 6, 8, 10, 11, 14, 15, 16, 25, 26, 27, 28, 32, 33, 34, 35, 39, 40, 41, 42, 55], 0, [(5, ⟨(.slot 3), 63, 23, 1⟩), (999999, ⟨(.slot 2), 900000, 23, 1⟩)], [(10, ⟨[27], [], [63], [], []⟩), (13, ⟨[34], [], [63], [], []⟩), (16, ⟨[41], [], [63], [], []⟩), (5, ⟨[15], [], [63], [], []⟩)]⟩
def E_impl_CatForms : Entry := ⟨S_impl_CatForms, .r H_impl_CatForms R_impl_CatForms⟩
def S_laws_coParts : Sig := .d ⟨[(.one (.s)), (.one (.s))], (.one (.one (.b))), true⟩
def H_laws_coParts : Hint := ⟨[0, 1, 4, 5, 10, 14, 26], 0, [], [(4, ⟨[5], [], [], [], []⟩)]⟩
def E_laws_coParts : Entry := ⟨S_laws_coParts, .r H_laws_coParts R_laws_coParts⟩
def S_laws_FnCatForms : Sig := .d ⟨[(.one (.s))], (.one (.one (.b))), true⟩
def H_laws_FnCatForms : Hint := ⟨[0, 2, 3, 4, 5, 6, 7, 8, 9, 10, 11, 14, 30, 33, 41, 49, 53, 63, 67, 78, 88, 109], 0, [], [(20, ⟨[7], [], [], [], []⟩), (24, ⟨[9], [], [], [], []⟩), (27, ⟨[10], [], [], [], []⟩), (15, ⟨[6], [], [], [], []⟩), (10, ⟨[5], [], [], [], []⟩)]⟩
def E_laws_FnCatForms : Entry := ⟨S_laws_FnCatForms, .r H_laws_FnCatForms R_laws_FnCatForms⟩
def S_laws_FnTrtBounds : Sig := .d ⟨[(.one (.s)), (.one (.s))], (.one (.one (.b))), true⟩
def H_laws_FnTrtBounds : Hint := ⟨[0, 1, 4, 5, 6, 7, 8, 9, 10, 11, 12, 13, 14, 15, 16, 17, 18, 19, 20, 21, 22, 23, 24, 32, 76, 78, 93, 105, 139, 143], 0, [], [(12, ⟨[18, 8], [], [1408], [], [563]⟩), (16, ⟨[20], [], [1536], [], []⟩)]⟩
def E_laws_FnTrtBounds : Entry := ⟨S_laws_FnTrtBounds, .r H_laws_FnTrtBounds R_laws_FnTrtBounds⟩
def S_spec_DrawCatPins : Sig := .x ⟨[(.d (.s (.v 0)))], [], [.s], (.o 0 (.v 0)), [(.arr 33 1 (.v 0) true)], [.s]⟩
def H_spec_DrawCatPins : Hint := ⟨[0, 2], 0, [], []⟩
def E_spec_DrawCatPins : Entry := ⟨S_spec_DrawCatPins, .r H_spec_DrawCatPins R_spec_DrawCatPins⟩
def S_impl_RowRow_reads_1 : Sig := .d ⟨[(.g [.s, .s, .i .i64]), (.one (.d))], (.one (.one (.b))), true⟩
def H_impl_RowRow_reads_1 : Hint := ⟨[0, 1, 2, 3], 0, [], []⟩
def E_impl_RowRow_reads_1 : Entry := ⟨S_impl_RowRow_reads_1, .r H_impl_RowRow_reads_1 R_impl_RowRow_reads_1⟩
def S_impl_RowRow_reads : Sig := .d ⟨[(.g [.s, .s, .s, .b]), (.one (.i .i64))], (.one (.one (.b))), true⟩
def H_impl_RowRow_reads : Hint := ⟨[0, 1, 2, 3, 4], 0, [], []⟩
def E_impl_RowRow_reads : Entry := ⟨S_impl_RowRow_reads, .r H_impl_RowRow_reads R_impl_RowRow_reads⟩
def S_impl_CatPins : Sig := .x ⟨[(.d (.s (.v 0)))], [], [.s], (.o 0 (.v 0)), [(.arr 4 1 (.v 0) true)], [.s]⟩
def H_impl_CatPins : Hint := ⟨[0, 2, 5], 0, [(999999, ⟨(.slot 2), 900000, 4, 1⟩)], []⟩
def E_impl_CatPins : Entry := ⟨S_impl_CatPins, .r H_impl_CatPins R_impl_CatPins⟩
def S_spec_CatPins : Sig := .x ⟨[(.d (.s (.v 0)))], [], [.s], (.o 0 (.v 0)), [(.arr 4 1 (.v 0) true)], [.s]⟩
def H_spec_CatPins : Hint := ⟨[0, 2, 4, 7], 0, [], []⟩
def E_spec_CatPins : Entry := ⟨S_spec_CatPins, .r H_spec_CatPins R_spec_CatPins⟩
def S_impl_CatReads : Sig := .x ⟨[(.d (.s (.v 0)))], [], [.s], (.o 0 (.v 0)), [(.arr 4 1 (.v 0) true)], [.s]⟩
def H_impl_CatReads : Hint := ⟨[0, 2, 5], 0, [(999999, ⟨(.slot 2), 900000, 4, 1⟩)], []⟩
def E_impl_CatReads : Entry := ⟨S_impl_CatReads, .r H_impl_CatReads R_impl_CatReads⟩
def S_laws_FnCatPins : Sig := .d ⟨[(.one (.s))], (.one (.one (.b))), true⟩
def H_laws_FnCatPins : Hint := ⟨[0, 2, 3, 4, 5, 6, 7, 10, 19, 22, 30, 36, 55], 0, [], [(10, ⟨[5], [], [], [], []⟩), (14, ⟨[7, 6], [], [], [], []⟩)]⟩
def E_laws_FnCatPins : Entry := ⟨S_laws_FnCatPins, .r H_laws_FnCatPins R_laws_FnCatPins⟩
def S_spec_CatReads : Sig := .x ⟨[(.d (.s (.v 0)))], [], [.s], (.o 0 (.v 0)), [(.arr 4 1 (.v 0) true)], [.s]⟩
def H_spec_CatReads : Hint := ⟨[0, 2, 3, 4, 5, 8, 16], 0, [], [(6, ⟨[5], [], [160], [], []⟩)]⟩
def E_spec_CatReads : Entry := ⟨S_spec_CatReads, .r H_spec_CatReads R_spec_CatReads⟩
def S_impl_rowOk : Sig := .d ⟨[(.g [.s, .s, .s, .b]), (.one (.s)), (.one (.s))], (.one (.one (.b))), true⟩
def H_impl_rowOk : Hint := ⟨[0, 1, 2, 3, 6], 0, [], []⟩
def E_impl_rowOk : Entry := ⟨S_impl_rowOk, .r H_impl_rowOk R_impl_rowOk⟩
def S_impl_RowFits_1 : Sig := .d ⟨[(.g [.s, .s, .i .i64]), (.one (.d)), (.one (.d))], (.one (.one (.b))), true⟩
def H_impl_RowFits_1 : Hint := ⟨[0, 1, 2, 3, 4], 0, [], []⟩
def E_impl_RowFits_1 : Entry := ⟨S_impl_RowFits_1, .r H_impl_RowFits_1 R_impl_RowFits_1⟩
def S_impl_RowFits : Sig := .d ⟨[(.g [.s, .s, .s, .b]), (.one (.s)), (.one (.s))], (.one (.one (.b))), true⟩
def H_impl_RowFits : Hint := ⟨[0, 1, 2, 3, 4, 5, 6], 0, [], []⟩
def E_impl_RowFits : Entry := ⟨S_impl_RowFits, .r H_impl_RowFits R_impl_RowFits⟩
def S_laws_FnCatReads : Sig := .d ⟨[(.one (.s))], (.one (.one (.b))), true⟩
def H_laws_FnCatReads : Hint := ⟨[0, 2, 3, 4, 5, 6, 7, 8, 9, 10, 11, 12, 13, 14, 15, 18, 31, 41, 47, 54, 80, 108, 110, 131], 0, [], [(19, ⟨[14], [], [], [], []⟩), (23, ⟨[15], [], [], [], []⟩), (12, ⟨[10], [], [688], [], []⟩)]⟩
def E_laws_FnCatReads : Entry := ⟨S_laws_FnCatReads, .r H_laws_FnCatReads R_laws_FnCatReads⟩
def S_impl_all : Sig := .x ⟨[(.d (.s (.v 0))), (.d (.s (.v 1))), (.d (.s (.v 2)))], [], [.s, .s, .s], (.o 0 (.v 0)), [(.arr 3 1 (.v 0) true)], [.s]⟩
def H_impl_all : Hint := ⟨[0, 1, 2, 6, 7, 9, 10, 11, 12, 13], 0, [(3, ⟨(.slot 7), 127, 3, 1⟩)], [(3, ⟨[12], [], [127], [], []⟩)]⟩
def E_impl_all : Entry := ⟨S_impl_all, .r H_impl_all R_impl_all⟩
def S_impl_RowDo : Sig := .x ⟨[(.g [(.d (.s (.v 0))), (.d (.s (.v 1))), (.d (.s (.v 2))), (.d (.vb (.v 3)))]), (.d (.s (.v 4))), (.d (.s (.v 5)))], [], [.s, .s, .s, .b, .s, .s], (.t [(.g [(.d (.vi .i64 (.v 0))), (.o 0 (.v 1))]), (.o 1 (.v 2))]), [(.arr 3 1 (.v 1) true), (.arr 3 1 (.v 2) true)], [.i .i64, .s, .s]⟩
def H_impl_RowDo : Hint := ⟨[0, 1, 2, 3, 6, 7, 8, 9, 16, 31], 0, [(999999, ⟨(.cell 96 1), 900000, 3, 1⟩), (999999, ⟨(.slot 7), 900001, 3, 1⟩)], []⟩
def E_impl_RowDo : Entry := ⟨S_impl_RowDo, .r H_impl_RowDo R_impl_RowDo⟩
def S_laws_coRes : Sig := .d ⟨[(.g [.i .i64, .s]), (.g [.i .i64, .s])], (.one (.one (.b))), true⟩
def H_laws_coRes : Hint := ⟨[0, 1, 2, 3, 4], 0, [], []⟩
def E_laws_coRes : Entry := ⟨S_laws_coRes, .r H_laws_coRes R_laws_coRes⟩
def S_laws_FnRowsOne : Sig := .d ⟨[(.one (.s))], (.one (.one (.b))), true⟩
def H_laws_FnRowsOne : Hint := ⟨[0, 2, 3, 4, 5, 6, 7, 8, 9, 10, 11, 12, 15, 28, 41, 53, 62, 91], 0, [], [(11, ⟨[8, 4, 5, 7], [], [], [], [289, 290]⟩)]⟩
def E_laws_FnRowsOne : Entry := ⟨S_laws_FnRowsOne, .r H_laws_FnRowsOne R_laws_FnRowsOne⟩
def S_laws_FnCatMore : Sig := .d ⟨[(.one (.s))], (.one (.one (.b))), true⟩
def H_laws_FnCatMore : Hint := ⟨[0, 2, 3, 4, 5, 6, 7, 8, 9, 12, 21, 29, 68, 82], 0, [], [(14, ⟨[9], [], [], [], []⟩)]⟩
def E_laws_FnCatMore : Entry := ⟨S_laws_FnCatMore, .r H_laws_FnCatMore R_laws_FnCatMore⟩
def L : Tabl := [(f_spec_l20Open, E_spec_l20Open), (f_spec_l20Rd_pick, E_spec_l20Rd_pick), (f_spec_l20Vals, E_spec_l20Vals), (f_spec_l20Treaty, E_spec_l20Treaty), (f_spec_l20Added, E_spec_l20Added), (f_spec_FrmZero, E_spec_FrmZero), (f_spec_l20Num, E_spec_l20Num), (f_spec_l20With, E_spec_l20With), (f_spec_l20Small, E_spec_l20Small), (f_spec_l20Line, E_spec_l20Line), (f_spec_l1In, E_spec_l1In), (f_spec_l1All, E_spec_l1All), (f_spec_l2Small, E_spec_l2Small), (f_spec_l2Line, E_spec_l2Line), (f_spec_ActOk, E_spec_ActOk), (f_spec_l20Act, E_spec_l20Act), (f_spec_l20Acts, E_spec_l20Acts), (f_spec_CatOk, E_spec_CatOk), (f_spec_FrmPot, E_spec_FrmPot), (f_spec_l1Sum, E_spec_l1Sum), (f_spec_l3Copy, E_spec_l3Copy), (f_spec_FrmOk, E_spec_FrmOk), (f_spec_FrmInto, E_spec_FrmInto), (f_spec_l3Minus, E_spec_l3Minus), (f_spec_l3Row, E_spec_l3Row), (f_spec_l3Walk, E_spec_l3Walk), (f_spec_RowsOf, E_spec_RowsOf), (f_spec_l4Reads, E_spec_l4Reads), (f_spec_CatPart, E_spec_CatPart), (f_spec_l4Same, E_spec_l4Same), (f_spec_CatHas, E_spec_CatHas), (f_spec_l4Both, E_spec_l4Both), (f_spec_CatForms, E_spec_CatForms), (f_spec_DrawTrtAll, E_spec_DrawTrtAll), (f_impl_in, E_impl_in), (f_impl_TrtOk_1, E_impl_TrtOk_1), (f_impl_within_1, E_impl_within_1), (f_slices_IndexFunc_Sint_int, E_slices_IndexFunc_Sint_int), (f_slices_ContainsFunc_Sint_int, E_slices_ContainsFunc_Sint_int), (f_impl_within, E_impl_within), (f_impl_ValOk, E_impl_ValOk), (f_impl_TrtOk, E_impl_TrtOk), (f_slices_IndexFunc_SSint_Sint, E_slices_IndexFunc_SSint_Sint), (f_slices_ContainsFunc_SSint_Sint, E_slices_ContainsFunc_SSint_Sint), (f_impl_partsOk_1, E_impl_partsOk_1), (f_impl_partsOk, E_impl_partsOk), (f_impl_addedOk, E_impl_addedOk), (f_impl_TrtTreaty_ok, E_impl_TrtTreaty_ok), (f_impl_dot, E_impl_dot), (f_impl_TrtKeeps_1, E_impl_TrtKeeps_1), (f_impl_TrtKeeps, E_impl_TrtKeeps), (f_impl_TrtAll, E_impl_TrtAll), (f_spec_ValOk, E_spec_ValOk), (f_spec_TrtOk, E_spec_TrtOk), (f_spec_l5Parts, E_spec_l5Parts), (f_spec_l5Times, E_spec_l5Times), (f_spec_TrtKeeps, E_spec_TrtKeeps), (f_spec_TrtAll, E_spec_TrtAll), (f_laws_FnTrtAll, E_laws_FnTrtAll), (f_spec_l20Form, E_spec_l20Form), (f_spec_l20AnyAct, E_spec_l20AnyAct), (f_spec_DrawRowsOf, E_spec_DrawRowsOf), (f_impl_FrmForm_small, E_impl_FrmForm_small), (f_slices_Equal_Sint_int, E_slices_Equal_Sint_int), (f_impl_FrmForm_same, E_impl_FrmForm_same), (f_impl_ActLine_ok, E_impl_ActLine_ok), (f_impl_ActOk, E_impl_ActOk), (f_impl_FrmZero, E_impl_FrmZero), (f_impl_FrmPot, E_impl_FrmPot), (f_slices_Clone_Sint_int, E_slices_Clone_Sint_int), (f_impl_FrmForm_copied, E_impl_FrmForm_copied), (f_impl_forms, E_impl_forms), (f_impl_FrmOk, E_impl_FrmOk), (f_slices_IndexFunc_Simpl_FrmForm_impl_FrmForm, E_slices_IndexFunc_Simpl_FrmForm_impl_FrmForm), (f_slices_ContainsFunc_Simpl_FrmForm_impl_FrmForm, E_slices_ContainsFunc_Simpl_FrmForm_impl_FrmForm), (f_impl_FrmInto_1, E_impl_FrmInto_1), (f_impl_FrmForm_add, E_impl_FrmForm_add), (f_impl_checked, E_impl_checked), (f_impl_FrmInto, E_impl_FrmInto), (f_impl_FrmTimes, E_impl_FrmTimes), (f_impl_FrmAdd, E_impl_FrmAdd), (f_impl_walker_walk, E_impl_walker_walk), (f_impl_RowsOf, E_impl_RowsOf), (f_laws_coInts, E_laws_coInts), (f_laws_coForm, E_laws_coForm), (f_laws_coForms, E_laws_coForms), (f_laws_coRow, E_laws_coRow), (f_laws_coRows, E_laws_coRows), (f_laws_coHolds, E_laws_coHolds), (f_impl_RowOk_1, E_impl_RowOk_1), (f_slices_Grow_Simpl_FrmForm_impl_FrmForm, E_slices_Grow_Simpl_FrmForm_impl_FrmForm), (f_slices_Concat_Simpl_FrmForm_impl_FrmForm, E_slices_Concat_Simpl_FrmForm_impl_FrmForm), (f_impl_RowOk, E_impl_RowOk), (f_laws_FnRowsOk, E_laws_FnRowsOk), (f_spec_l20Args, E_spec_l20Args), (f_spec_DrawActRun, E_spec_DrawActRun), (f_impl_pots, E_impl_pots), (f_impl_CatWrites_1, E_impl_CatWrites_1), (f_impl_CatWrites, E_impl_CatWrites), (f_spec_l4Zero, E_spec_l4Zero), (f_spec_CatWrites, E_spec_CatWrites), (f_laws_coBools, E_laws_coBools), (f_impl_ArgOk, E_impl_ArgOk), (f_impl_FrmForm_at, E_impl_FrmForm_at), (f_impl_ActRun, E_impl_ActRun), (f_laws_FnCatWrites, E_laws_FnCatWrites), (f_spec_DrawTrtBounds, E_spec_DrawTrtBounds), (f_impl_plus, E_impl_plus), (f_impl_TrtOthers, E_impl_TrtOthers), (f_impl_zeros_1, E_impl_zeros_1), (f_impl_zeros, E_impl_zeros), (f_impl_CatPart_1, E_impl_CatPart_1), (f_impl_CatPart, E_impl_CatPart), (f_impl_CatHas_1, E_impl_CatHas_1), (f_impl_CatHas, E_impl_CatHas), (f_impl_TrtBounds, E_impl_TrtBounds), (f_spec_ArgOk, E_spec_ArgOk), (f_spec_l5Sum, E_spec_l5Sum), (f_spec_l1At, E_spec_l1At), (f_spec_TrtOthers, E_spec_TrtOthers), (f_spec_TrtBounds, E_spec_TrtBounds), (f_laws_coSum, E_laws_coSum), (f_impl_FrmAt, E_impl_FrmAt), (f_laws_FnTrtAlone, E_laws_FnTrtAlone), (f_spec_l20AnyActs, E_spec_l20AnyActs), (f_spec_DrawCatForms, E_spec_DrawCatForms), (f_slices_IndexFunc_SSimpl_ActLine_Simpl_ActLine, E_slices_IndexFunc_SSimpl_ActLine_Simpl_ActLine), (f_slices_ContainsFunc_SSimpl_ActLine_Simpl_ActLine, E_slices_ContainsFunc_SSimpl_ActLine_Simpl_ActLine), (f_impl_CatOk_1, E_impl_CatOk_1), (f_impl_CatOk, E_impl_CatOk), (f_impl_CatForms, E_impl_CatForms), (f_laws_coParts, E_laws_coParts), (f_laws_FnCatForms, E_laws_FnCatForms), (f_laws_FnTrtBounds, E_laws_FnTrtBounds), (f_spec_DrawCatPins, E_spec_DrawCatPins), (f_impl_RowRow_reads_1, E_impl_RowRow_reads_1), (f_impl_RowRow_reads, E_impl_RowRow_reads), (f_impl_CatPins, E_impl_CatPins), (f_spec_CatPins, E_spec_CatPins), (f_impl_CatReads, E_impl_CatReads), (f_laws_FnCatPins, E_laws_FnCatPins), (f_spec_CatReads, E_spec_CatReads), (f_impl_rowOk, E_impl_rowOk), (f_impl_RowFits_1, E_impl_RowFits_1), (f_impl_RowFits, E_impl_RowFits), (f_laws_FnCatReads, E_laws_FnCatReads), (f_impl_all, E_impl_all), (f_impl_RowDo, E_impl_RowDo), (f_laws_coRes, E_laws_coRes), (f_laws_FnRowsOne, E_laws_FnRowsOne), (f_laws_FnCatMore, E_laws_FnCatMore)]
theorem L_spec_l20Open : L.lookup f_spec_l20Open = some ⟨S_spec_l20Open, .r H_spec_l20Open R_spec_l20Open⟩ := rfl
theorem L_spec_l20Rd_pick : L.lookup f_spec_l20Rd_pick = some ⟨S_spec_l20Rd_pick, .r H_spec_l20Rd_pick R_spec_l20Rd_pick⟩ := rfl
theorem L_spec_l20Vals : L.lookup f_spec_l20Vals = some ⟨S_spec_l20Vals, .r H_spec_l20Vals R_spec_l20Vals⟩ := rfl
theorem L_spec_l20Treaty : L.lookup f_spec_l20Treaty = some ⟨S_spec_l20Treaty, .r H_spec_l20Treaty R_spec_l20Treaty⟩ := rfl
theorem L_spec_l20Added : L.lookup f_spec_l20Added = some ⟨S_spec_l20Added, .r H_spec_l20Added R_spec_l20Added⟩ := rfl
theorem L_spec_FrmZero : L.lookup f_spec_FrmZero = some ⟨S_spec_FrmZero, .r H_spec_FrmZero R_spec_FrmZero⟩ := rfl
theorem L_spec_l20Num : L.lookup f_spec_l20Num = some ⟨S_spec_l20Num, .r H_spec_l20Num R_spec_l20Num⟩ := rfl
theorem L_spec_l20With : L.lookup f_spec_l20With = some ⟨S_spec_l20With, .r H_spec_l20With R_spec_l20With⟩ := rfl
theorem L_spec_l20Small : L.lookup f_spec_l20Small = some ⟨S_spec_l20Small, .r H_spec_l20Small R_spec_l20Small⟩ := rfl
theorem L_spec_l20Line : L.lookup f_spec_l20Line = some ⟨S_spec_l20Line, .r H_spec_l20Line R_spec_l20Line⟩ := rfl
theorem L_spec_l1In : L.lookup f_spec_l1In = some ⟨S_spec_l1In, .r H_spec_l1In R_spec_l1In⟩ := rfl
theorem L_spec_l1All : L.lookup f_spec_l1All = some ⟨S_spec_l1All, .r H_spec_l1All R_spec_l1All⟩ := rfl
theorem L_spec_l2Small : L.lookup f_spec_l2Small = some ⟨S_spec_l2Small, .r H_spec_l2Small R_spec_l2Small⟩ := rfl
theorem L_spec_l2Line : L.lookup f_spec_l2Line = some ⟨S_spec_l2Line, .r H_spec_l2Line R_spec_l2Line⟩ := rfl
theorem L_spec_ActOk : L.lookup f_spec_ActOk = some ⟨S_spec_ActOk, .r H_spec_ActOk R_spec_ActOk⟩ := rfl
theorem L_spec_l20Act : L.lookup f_spec_l20Act = some ⟨S_spec_l20Act, .r H_spec_l20Act R_spec_l20Act⟩ := rfl
theorem L_spec_l20Acts : L.lookup f_spec_l20Acts = some ⟨S_spec_l20Acts, .r H_spec_l20Acts R_spec_l20Acts⟩ := rfl
theorem L_spec_CatOk : L.lookup f_spec_CatOk = some ⟨S_spec_CatOk, .r H_spec_CatOk R_spec_CatOk⟩ := rfl
theorem L_spec_FrmPot : L.lookup f_spec_FrmPot = some ⟨S_spec_FrmPot, .r H_spec_FrmPot R_spec_FrmPot⟩ := rfl
theorem L_spec_l1Sum : L.lookup f_spec_l1Sum = some ⟨S_spec_l1Sum, .r H_spec_l1Sum R_spec_l1Sum⟩ := rfl
theorem L_spec_l3Copy : L.lookup f_spec_l3Copy = some ⟨S_spec_l3Copy, .r H_spec_l3Copy R_spec_l3Copy⟩ := rfl
theorem L_spec_FrmOk : L.lookup f_spec_FrmOk = some ⟨S_spec_FrmOk, .r H_spec_FrmOk R_spec_FrmOk⟩ := rfl
theorem L_spec_FrmInto : L.lookup f_spec_FrmInto = some ⟨S_spec_FrmInto, .r H_spec_FrmInto R_spec_FrmInto⟩ := rfl
theorem L_spec_l3Minus : L.lookup f_spec_l3Minus = some ⟨S_spec_l3Minus, .r H_spec_l3Minus R_spec_l3Minus⟩ := rfl
theorem L_spec_l3Row : L.lookup f_spec_l3Row = some ⟨S_spec_l3Row, .r H_spec_l3Row R_spec_l3Row⟩ := rfl
theorem L_spec_l3Walk : L.lookup f_spec_l3Walk = some ⟨S_spec_l3Walk, .r H_spec_l3Walk R_spec_l3Walk⟩ := rfl
theorem L_spec_RowsOf : L.lookup f_spec_RowsOf = some ⟨S_spec_RowsOf, .r H_spec_RowsOf R_spec_RowsOf⟩ := rfl
theorem L_spec_l4Reads : L.lookup f_spec_l4Reads = some ⟨S_spec_l4Reads, .r H_spec_l4Reads R_spec_l4Reads⟩ := rfl
theorem L_spec_CatPart : L.lookup f_spec_CatPart = some ⟨S_spec_CatPart, .r H_spec_CatPart R_spec_CatPart⟩ := rfl
theorem L_spec_l4Same : L.lookup f_spec_l4Same = some ⟨S_spec_l4Same, .r H_spec_l4Same R_spec_l4Same⟩ := rfl
theorem L_spec_CatHas : L.lookup f_spec_CatHas = some ⟨S_spec_CatHas, .r H_spec_CatHas R_spec_CatHas⟩ := rfl
theorem L_spec_l4Both : L.lookup f_spec_l4Both = some ⟨S_spec_l4Both, .r H_spec_l4Both R_spec_l4Both⟩ := rfl
theorem L_spec_CatForms : L.lookup f_spec_CatForms = some ⟨S_spec_CatForms, .r H_spec_CatForms R_spec_CatForms⟩ := rfl
theorem L_spec_DrawTrtAll : L.lookup f_spec_DrawTrtAll = some ⟨S_spec_DrawTrtAll, .r H_spec_DrawTrtAll R_spec_DrawTrtAll⟩ := rfl
theorem L_impl_in : L.lookup f_impl_in = some ⟨S_impl_in, .r H_impl_in R_impl_in⟩ := rfl
theorem L_impl_TrtOk_1 : L.lookup f_impl_TrtOk_1 = some ⟨S_impl_TrtOk_1, .r H_impl_TrtOk_1 R_impl_TrtOk_1⟩ := rfl
theorem L_impl_within_1 : L.lookup f_impl_within_1 = some ⟨S_impl_within_1, .r H_impl_within_1 R_impl_within_1⟩ := rfl
theorem L_slices_IndexFunc_Sint_int : L.lookup f_slices_IndexFunc_Sint_int = some ⟨S_slices_IndexFunc_Sint_int, .r H_slices_IndexFunc_Sint_int R_slices_IndexFunc_Sint_int⟩ := rfl
theorem L_slices_ContainsFunc_Sint_int : L.lookup f_slices_ContainsFunc_Sint_int = some ⟨S_slices_ContainsFunc_Sint_int, .r H_slices_ContainsFunc_Sint_int R_slices_ContainsFunc_Sint_int⟩ := rfl
theorem L_impl_within : L.lookup f_impl_within = some ⟨S_impl_within, .r H_impl_within R_impl_within⟩ := rfl
theorem L_impl_ValOk : L.lookup f_impl_ValOk = some ⟨S_impl_ValOk, .r H_impl_ValOk R_impl_ValOk⟩ := rfl
theorem L_impl_TrtOk : L.lookup f_impl_TrtOk = some ⟨S_impl_TrtOk, .r H_impl_TrtOk R_impl_TrtOk⟩ := rfl
theorem L_slices_IndexFunc_SSint_Sint : L.lookup f_slices_IndexFunc_SSint_Sint = some ⟨S_slices_IndexFunc_SSint_Sint, .r H_slices_IndexFunc_SSint_Sint R_slices_IndexFunc_SSint_Sint⟩ := rfl
theorem L_slices_ContainsFunc_SSint_Sint : L.lookup f_slices_ContainsFunc_SSint_Sint = some ⟨S_slices_ContainsFunc_SSint_Sint, .r H_slices_ContainsFunc_SSint_Sint R_slices_ContainsFunc_SSint_Sint⟩ := rfl
theorem L_impl_partsOk_1 : L.lookup f_impl_partsOk_1 = some ⟨S_impl_partsOk_1, .r H_impl_partsOk_1 R_impl_partsOk_1⟩ := rfl
theorem L_impl_partsOk : L.lookup f_impl_partsOk = some ⟨S_impl_partsOk, .r H_impl_partsOk R_impl_partsOk⟩ := rfl
theorem L_impl_addedOk : L.lookup f_impl_addedOk = some ⟨S_impl_addedOk, .r H_impl_addedOk R_impl_addedOk⟩ := rfl
theorem L_impl_TrtTreaty_ok : L.lookup f_impl_TrtTreaty_ok = some ⟨S_impl_TrtTreaty_ok, .r H_impl_TrtTreaty_ok R_impl_TrtTreaty_ok⟩ := rfl
theorem L_impl_dot : L.lookup f_impl_dot = some ⟨S_impl_dot, .r H_impl_dot R_impl_dot⟩ := rfl
theorem L_impl_TrtKeeps_1 : L.lookup f_impl_TrtKeeps_1 = some ⟨S_impl_TrtKeeps_1, .r H_impl_TrtKeeps_1 R_impl_TrtKeeps_1⟩ := rfl
theorem L_impl_TrtKeeps : L.lookup f_impl_TrtKeeps = some ⟨S_impl_TrtKeeps, .r H_impl_TrtKeeps R_impl_TrtKeeps⟩ := rfl
theorem L_impl_TrtAll : L.lookup f_impl_TrtAll = some ⟨S_impl_TrtAll, .r H_impl_TrtAll R_impl_TrtAll⟩ := rfl
theorem L_spec_ValOk : L.lookup f_spec_ValOk = some ⟨S_spec_ValOk, .r H_spec_ValOk R_spec_ValOk⟩ := rfl
theorem L_spec_TrtOk : L.lookup f_spec_TrtOk = some ⟨S_spec_TrtOk, .r H_spec_TrtOk R_spec_TrtOk⟩ := rfl
theorem L_spec_l5Parts : L.lookup f_spec_l5Parts = some ⟨S_spec_l5Parts, .r H_spec_l5Parts R_spec_l5Parts⟩ := rfl
theorem L_spec_l5Times : L.lookup f_spec_l5Times = some ⟨S_spec_l5Times, .r H_spec_l5Times R_spec_l5Times⟩ := rfl
theorem L_spec_TrtKeeps : L.lookup f_spec_TrtKeeps = some ⟨S_spec_TrtKeeps, .r H_spec_TrtKeeps R_spec_TrtKeeps⟩ := rfl
theorem L_spec_TrtAll : L.lookup f_spec_TrtAll = some ⟨S_spec_TrtAll, .r H_spec_TrtAll R_spec_TrtAll⟩ := rfl
theorem L_laws_FnTrtAll : L.lookup f_laws_FnTrtAll = some ⟨S_laws_FnTrtAll, .r H_laws_FnTrtAll R_laws_FnTrtAll⟩ := rfl
theorem L_spec_l20Form : L.lookup f_spec_l20Form = some ⟨S_spec_l20Form, .r H_spec_l20Form R_spec_l20Form⟩ := rfl
theorem L_spec_l20AnyAct : L.lookup f_spec_l20AnyAct = some ⟨S_spec_l20AnyAct, .r H_spec_l20AnyAct R_spec_l20AnyAct⟩ := rfl
theorem L_spec_DrawRowsOf : L.lookup f_spec_DrawRowsOf = some ⟨S_spec_DrawRowsOf, .r H_spec_DrawRowsOf R_spec_DrawRowsOf⟩ := rfl
theorem L_impl_FrmForm_small : L.lookup f_impl_FrmForm_small = some ⟨S_impl_FrmForm_small, .r H_impl_FrmForm_small R_impl_FrmForm_small⟩ := rfl
theorem L_slices_Equal_Sint_int : L.lookup f_slices_Equal_Sint_int = some ⟨S_slices_Equal_Sint_int, .r H_slices_Equal_Sint_int R_slices_Equal_Sint_int⟩ := rfl
theorem L_impl_FrmForm_same : L.lookup f_impl_FrmForm_same = some ⟨S_impl_FrmForm_same, .r H_impl_FrmForm_same R_impl_FrmForm_same⟩ := rfl
theorem L_impl_ActLine_ok : L.lookup f_impl_ActLine_ok = some ⟨S_impl_ActLine_ok, .r H_impl_ActLine_ok R_impl_ActLine_ok⟩ := rfl
theorem L_impl_ActOk : L.lookup f_impl_ActOk = some ⟨S_impl_ActOk, .r H_impl_ActOk R_impl_ActOk⟩ := rfl
theorem L_impl_FrmZero : L.lookup f_impl_FrmZero = some ⟨S_impl_FrmZero, .r H_impl_FrmZero R_impl_FrmZero⟩ := rfl
theorem L_impl_FrmPot : L.lookup f_impl_FrmPot = some ⟨S_impl_FrmPot, .r H_impl_FrmPot R_impl_FrmPot⟩ := rfl
theorem L_slices_Clone_Sint_int : L.lookup f_slices_Clone_Sint_int = some ⟨S_slices_Clone_Sint_int, .r H_slices_Clone_Sint_int R_slices_Clone_Sint_int⟩ := rfl
theorem L_impl_FrmForm_copied : L.lookup f_impl_FrmForm_copied = some ⟨S_impl_FrmForm_copied, .r H_impl_FrmForm_copied R_impl_FrmForm_copied⟩ := rfl
theorem L_impl_forms : L.lookup f_impl_forms = some ⟨S_impl_forms, .r H_impl_forms R_impl_forms⟩ := rfl
theorem L_impl_FrmOk : L.lookup f_impl_FrmOk = some ⟨S_impl_FrmOk, .r H_impl_FrmOk R_impl_FrmOk⟩ := rfl
theorem L_slices_IndexFunc_Simpl_FrmForm_impl_FrmForm : L.lookup f_slices_IndexFunc_Simpl_FrmForm_impl_FrmForm = some ⟨S_slices_IndexFunc_Simpl_FrmForm_impl_FrmForm, .r H_slices_IndexFunc_Simpl_FrmForm_impl_FrmForm R_slices_IndexFunc_Simpl_FrmForm_impl_FrmForm⟩ := rfl
theorem L_slices_ContainsFunc_Simpl_FrmForm_impl_FrmForm : L.lookup f_slices_ContainsFunc_Simpl_FrmForm_impl_FrmForm = some ⟨S_slices_ContainsFunc_Simpl_FrmForm_impl_FrmForm, .r H_slices_ContainsFunc_Simpl_FrmForm_impl_FrmForm R_slices_ContainsFunc_Simpl_FrmForm_impl_FrmForm⟩ := rfl
theorem L_impl_FrmInto_1 : L.lookup f_impl_FrmInto_1 = some ⟨S_impl_FrmInto_1, .r H_impl_FrmInto_1 R_impl_FrmInto_1⟩ := rfl
theorem L_impl_FrmForm_add : L.lookup f_impl_FrmForm_add = some ⟨S_impl_FrmForm_add, .r H_impl_FrmForm_add R_impl_FrmForm_add⟩ := rfl
theorem L_impl_checked : L.lookup f_impl_checked = some ⟨S_impl_checked, .r H_impl_checked R_impl_checked⟩ := rfl
theorem L_impl_FrmInto : L.lookup f_impl_FrmInto = some ⟨S_impl_FrmInto, .r H_impl_FrmInto R_impl_FrmInto⟩ := rfl
theorem L_impl_FrmTimes : L.lookup f_impl_FrmTimes = some ⟨S_impl_FrmTimes, .r H_impl_FrmTimes R_impl_FrmTimes⟩ := rfl
theorem L_impl_FrmAdd : L.lookup f_impl_FrmAdd = some ⟨S_impl_FrmAdd, .r H_impl_FrmAdd R_impl_FrmAdd⟩ := rfl
theorem L_impl_walker_walk : L.lookup f_impl_walker_walk = some ⟨S_impl_walker_walk, .r H_impl_walker_walk R_impl_walker_walk⟩ := rfl
theorem L_impl_RowsOf : L.lookup f_impl_RowsOf = some ⟨S_impl_RowsOf, .r H_impl_RowsOf R_impl_RowsOf⟩ := rfl
theorem L_laws_coInts : L.lookup f_laws_coInts = some ⟨S_laws_coInts, .r H_laws_coInts R_laws_coInts⟩ := rfl
theorem L_laws_coForm : L.lookup f_laws_coForm = some ⟨S_laws_coForm, .r H_laws_coForm R_laws_coForm⟩ := rfl
theorem L_laws_coForms : L.lookup f_laws_coForms = some ⟨S_laws_coForms, .r H_laws_coForms R_laws_coForms⟩ := rfl
theorem L_laws_coRow : L.lookup f_laws_coRow = some ⟨S_laws_coRow, .r H_laws_coRow R_laws_coRow⟩ := rfl
theorem L_laws_coRows : L.lookup f_laws_coRows = some ⟨S_laws_coRows, .r H_laws_coRows R_laws_coRows⟩ := rfl
theorem L_laws_coHolds : L.lookup f_laws_coHolds = some ⟨S_laws_coHolds, .r H_laws_coHolds R_laws_coHolds⟩ := rfl
theorem L_impl_RowOk_1 : L.lookup f_impl_RowOk_1 = some ⟨S_impl_RowOk_1, .r H_impl_RowOk_1 R_impl_RowOk_1⟩ := rfl
theorem L_slices_Grow_Simpl_FrmForm_impl_FrmForm : L.lookup f_slices_Grow_Simpl_FrmForm_impl_FrmForm = some ⟨S_slices_Grow_Simpl_FrmForm_impl_FrmForm, .r H_slices_Grow_Simpl_FrmForm_impl_FrmForm R_slices_Grow_Simpl_FrmForm_impl_FrmForm⟩ := rfl
theorem L_slices_Concat_Simpl_FrmForm_impl_FrmForm : L.lookup f_slices_Concat_Simpl_FrmForm_impl_FrmForm = some ⟨S_slices_Concat_Simpl_FrmForm_impl_FrmForm, .r H_slices_Concat_Simpl_FrmForm_impl_FrmForm R_slices_Concat_Simpl_FrmForm_impl_FrmForm⟩ := rfl
theorem L_impl_RowOk : L.lookup f_impl_RowOk = some ⟨S_impl_RowOk, .r H_impl_RowOk R_impl_RowOk⟩ := rfl
theorem L_laws_FnRowsOk : L.lookup f_laws_FnRowsOk = some ⟨S_laws_FnRowsOk, .r H_laws_FnRowsOk R_laws_FnRowsOk⟩ := rfl
theorem L_spec_l20Args : L.lookup f_spec_l20Args = some ⟨S_spec_l20Args, .r H_spec_l20Args R_spec_l20Args⟩ := rfl
theorem L_spec_DrawActRun : L.lookup f_spec_DrawActRun = some ⟨S_spec_DrawActRun, .r H_spec_DrawActRun R_spec_DrawActRun⟩ := rfl
theorem L_impl_pots : L.lookup f_impl_pots = some ⟨S_impl_pots, .r H_impl_pots R_impl_pots⟩ := rfl
theorem L_impl_CatWrites_1 : L.lookup f_impl_CatWrites_1 = some ⟨S_impl_CatWrites_1, .r H_impl_CatWrites_1 R_impl_CatWrites_1⟩ := rfl
theorem L_impl_CatWrites : L.lookup f_impl_CatWrites = some ⟨S_impl_CatWrites, .r H_impl_CatWrites R_impl_CatWrites⟩ := rfl
theorem L_spec_l4Zero : L.lookup f_spec_l4Zero = some ⟨S_spec_l4Zero, .r H_spec_l4Zero R_spec_l4Zero⟩ := rfl
theorem L_spec_CatWrites : L.lookup f_spec_CatWrites = some ⟨S_spec_CatWrites, .r H_spec_CatWrites R_spec_CatWrites⟩ := rfl
theorem L_laws_coBools : L.lookup f_laws_coBools = some ⟨S_laws_coBools, .r H_laws_coBools R_laws_coBools⟩ := rfl
theorem L_impl_ArgOk : L.lookup f_impl_ArgOk = some ⟨S_impl_ArgOk, .r H_impl_ArgOk R_impl_ArgOk⟩ := rfl
theorem L_impl_FrmForm_at : L.lookup f_impl_FrmForm_at = some ⟨S_impl_FrmForm_at, .r H_impl_FrmForm_at R_impl_FrmForm_at⟩ := rfl
theorem L_impl_ActRun : L.lookup f_impl_ActRun = some ⟨S_impl_ActRun, .r H_impl_ActRun R_impl_ActRun⟩ := rfl
theorem L_laws_FnCatWrites : L.lookup f_laws_FnCatWrites = some ⟨S_laws_FnCatWrites, .r H_laws_FnCatWrites R_laws_FnCatWrites⟩ := rfl
theorem L_spec_DrawTrtBounds : L.lookup f_spec_DrawTrtBounds = some ⟨S_spec_DrawTrtBounds, .r H_spec_DrawTrtBounds R_spec_DrawTrtBounds⟩ := rfl
theorem L_impl_plus : L.lookup f_impl_plus = some ⟨S_impl_plus, .r H_impl_plus R_impl_plus⟩ := rfl
theorem L_impl_TrtOthers : L.lookup f_impl_TrtOthers = some ⟨S_impl_TrtOthers, .r H_impl_TrtOthers R_impl_TrtOthers⟩ := rfl
theorem L_impl_zeros_1 : L.lookup f_impl_zeros_1 = some ⟨S_impl_zeros_1, .r H_impl_zeros_1 R_impl_zeros_1⟩ := rfl
theorem L_impl_zeros : L.lookup f_impl_zeros = some ⟨S_impl_zeros, .r H_impl_zeros R_impl_zeros⟩ := rfl
theorem L_impl_CatPart_1 : L.lookup f_impl_CatPart_1 = some ⟨S_impl_CatPart_1, .r H_impl_CatPart_1 R_impl_CatPart_1⟩ := rfl
theorem L_impl_CatPart : L.lookup f_impl_CatPart = some ⟨S_impl_CatPart, .r H_impl_CatPart R_impl_CatPart⟩ := rfl
theorem L_impl_CatHas_1 : L.lookup f_impl_CatHas_1 = some ⟨S_impl_CatHas_1, .r H_impl_CatHas_1 R_impl_CatHas_1⟩ := rfl
theorem L_impl_CatHas : L.lookup f_impl_CatHas = some ⟨S_impl_CatHas, .r H_impl_CatHas R_impl_CatHas⟩ := rfl
theorem L_impl_TrtBounds : L.lookup f_impl_TrtBounds = some ⟨S_impl_TrtBounds, .r H_impl_TrtBounds R_impl_TrtBounds⟩ := rfl
theorem L_spec_ArgOk : L.lookup f_spec_ArgOk = some ⟨S_spec_ArgOk, .r H_spec_ArgOk R_spec_ArgOk⟩ := rfl
theorem L_spec_l5Sum : L.lookup f_spec_l5Sum = some ⟨S_spec_l5Sum, .r H_spec_l5Sum R_spec_l5Sum⟩ := rfl
theorem L_spec_l1At : L.lookup f_spec_l1At = some ⟨S_spec_l1At, .r H_spec_l1At R_spec_l1At⟩ := rfl
theorem L_spec_TrtOthers : L.lookup f_spec_TrtOthers = some ⟨S_spec_TrtOthers, .r H_spec_TrtOthers R_spec_TrtOthers⟩ := rfl
theorem L_spec_TrtBounds : L.lookup f_spec_TrtBounds = some ⟨S_spec_TrtBounds, .r H_spec_TrtBounds R_spec_TrtBounds⟩ := rfl
theorem L_laws_coSum : L.lookup f_laws_coSum = some ⟨S_laws_coSum, .r H_laws_coSum R_laws_coSum⟩ := rfl
theorem L_impl_FrmAt : L.lookup f_impl_FrmAt = some ⟨S_impl_FrmAt, .r H_impl_FrmAt R_impl_FrmAt⟩ := rfl
theorem L_laws_FnTrtAlone : L.lookup f_laws_FnTrtAlone = some ⟨S_laws_FnTrtAlone, .r H_laws_FnTrtAlone R_laws_FnTrtAlone⟩ := rfl
theorem L_spec_l20AnyActs : L.lookup f_spec_l20AnyActs = some ⟨S_spec_l20AnyActs, .r H_spec_l20AnyActs R_spec_l20AnyActs⟩ := rfl
theorem L_spec_DrawCatForms : L.lookup f_spec_DrawCatForms = some ⟨S_spec_DrawCatForms, .r H_spec_DrawCatForms R_spec_DrawCatForms⟩ := rfl
theorem L_slices_IndexFunc_SSimpl_ActLine_Simpl_ActLine : L.lookup f_slices_IndexFunc_SSimpl_ActLine_Simpl_ActLine = some ⟨S_slices_IndexFunc_SSimpl_ActLine_Simpl_ActLine, .r H_slices_IndexFunc_SSimpl_ActLine_Simpl_ActLine R_slices_IndexFunc_SSimpl_ActLine_Simpl_ActLine⟩ := rfl
theorem L_slices_ContainsFunc_SSimpl_ActLine_Simpl_ActLine : L.lookup f_slices_ContainsFunc_SSimpl_ActLine_Simpl_ActLine = some ⟨S_slices_ContainsFunc_SSimpl_ActLine_Simpl_ActLine, .r H_slices_ContainsFunc_SSimpl_ActLine_Simpl_ActLine R_slices_ContainsFunc_SSimpl_ActLine_Simpl_ActLine⟩ := rfl
theorem L_impl_CatOk_1 : L.lookup f_impl_CatOk_1 = some ⟨S_impl_CatOk_1, .r H_impl_CatOk_1 R_impl_CatOk_1⟩ := rfl
theorem L_impl_CatOk : L.lookup f_impl_CatOk = some ⟨S_impl_CatOk, .r H_impl_CatOk R_impl_CatOk⟩ := rfl
theorem L_impl_CatForms : L.lookup f_impl_CatForms = some ⟨S_impl_CatForms, .r H_impl_CatForms R_impl_CatForms⟩ := rfl
theorem L_laws_coParts : L.lookup f_laws_coParts = some ⟨S_laws_coParts, .r H_laws_coParts R_laws_coParts⟩ := rfl
theorem L_laws_FnCatForms : L.lookup f_laws_FnCatForms = some ⟨S_laws_FnCatForms, .r H_laws_FnCatForms R_laws_FnCatForms⟩ := rfl
theorem L_laws_FnTrtBounds : L.lookup f_laws_FnTrtBounds = some ⟨S_laws_FnTrtBounds, .r H_laws_FnTrtBounds R_laws_FnTrtBounds⟩ := rfl
theorem L_spec_DrawCatPins : L.lookup f_spec_DrawCatPins = some ⟨S_spec_DrawCatPins, .r H_spec_DrawCatPins R_spec_DrawCatPins⟩ := rfl
theorem L_impl_RowRow_reads_1 : L.lookup f_impl_RowRow_reads_1 = some ⟨S_impl_RowRow_reads_1, .r H_impl_RowRow_reads_1 R_impl_RowRow_reads_1⟩ := rfl
theorem L_impl_RowRow_reads : L.lookup f_impl_RowRow_reads = some ⟨S_impl_RowRow_reads, .r H_impl_RowRow_reads R_impl_RowRow_reads⟩ := rfl
theorem L_impl_CatPins : L.lookup f_impl_CatPins = some ⟨S_impl_CatPins, .r H_impl_CatPins R_impl_CatPins⟩ := rfl
theorem L_spec_CatPins : L.lookup f_spec_CatPins = some ⟨S_spec_CatPins, .r H_spec_CatPins R_spec_CatPins⟩ := rfl
theorem L_impl_CatReads : L.lookup f_impl_CatReads = some ⟨S_impl_CatReads, .r H_impl_CatReads R_impl_CatReads⟩ := rfl
theorem L_laws_FnCatPins : L.lookup f_laws_FnCatPins = some ⟨S_laws_FnCatPins, .r H_laws_FnCatPins R_laws_FnCatPins⟩ := rfl
theorem L_spec_CatReads : L.lookup f_spec_CatReads = some ⟨S_spec_CatReads, .r H_spec_CatReads R_spec_CatReads⟩ := rfl
theorem L_impl_rowOk : L.lookup f_impl_rowOk = some ⟨S_impl_rowOk, .r H_impl_rowOk R_impl_rowOk⟩ := rfl
theorem L_impl_RowFits_1 : L.lookup f_impl_RowFits_1 = some ⟨S_impl_RowFits_1, .r H_impl_RowFits_1 R_impl_RowFits_1⟩ := rfl
theorem L_impl_RowFits : L.lookup f_impl_RowFits = some ⟨S_impl_RowFits, .r H_impl_RowFits R_impl_RowFits⟩ := rfl
theorem L_laws_FnCatReads : L.lookup f_laws_FnCatReads = some ⟨S_laws_FnCatReads, .r H_laws_FnCatReads R_laws_FnCatReads⟩ := rfl
theorem L_impl_all : L.lookup f_impl_all = some ⟨S_impl_all, .r H_impl_all R_impl_all⟩ := rfl
theorem L_impl_RowDo : L.lookup f_impl_RowDo = some ⟨S_impl_RowDo, .r H_impl_RowDo R_impl_RowDo⟩ := rfl
theorem L_laws_coRes : L.lookup f_laws_coRes = some ⟨S_laws_coRes, .r H_laws_coRes R_laws_coRes⟩ := rfl
theorem L_laws_FnRowsOne : L.lookup f_laws_FnRowsOne = some ⟨S_laws_FnRowsOne, .r H_laws_FnRowsOne R_laws_FnRowsOne⟩ := rfl
theorem L_laws_FnCatMore : L.lookup f_laws_FnCatMore = some ⟨S_laws_FnCatMore, .r H_laws_FnCatMore R_laws_FnCatMore⟩ := rfl
end Go.Proofs.Ytbikgdcgoogngaa

/- The residual programs of the functions, and the table of them. -/
import Derived.Test.YtbikgdcgoogngaaTc
namespace Go.Proofs.Ytbikgdcgoogngaa
open Go Go.Tm
abbrev f_spec_l20Open : Nat := 56
abbrev f_spec_l20Rd_pick : Nat := 59
abbrev f_spec_l20Vals : Nat := 82
abbrev f_spec_l20Treaty : Nat := 57
abbrev f_spec_l20Added : Nat := 58
abbrev f_spec_FrmZero : Nat := 103
abbrev f_spec_l20Num : Nat := 145
abbrev f_spec_l20With : Nat := 144
abbrev f_spec_l20Small : Nat := 126
abbrev f_spec_l20Line : Nat := 146
abbrev f_spec_l1In : Nat := 96
abbrev f_spec_l1All : Nat := 97
abbrev f_spec_l2Small : Nat := 137
abbrev f_spec_l2Line : Nat := 76
abbrev f_spec_ActOk : Nat := 22
abbrev f_spec_l20Act : Nat := 121
abbrev f_spec_l20Acts : Nat := 60
abbrev f_spec_CatOk : Nat := 40
abbrev f_spec_FrmPot : Nat := 75
abbrev f_spec_l1Sum : Nat := 135
abbrev f_spec_l3Copy : Nat := 132
abbrev f_spec_FrmOk : Nat := 98
abbrev f_spec_FrmInto : Nat := 133
abbrev f_spec_l3Minus : Nat := 134
abbrev f_spec_l3Row : Nat := 136
abbrev f_spec_l3Walk : Nat := 74
abbrev f_spec_RowsOf : Nat := 21
abbrev f_spec_l4Reads : Nat := 116
abbrev f_spec_CatPart : Nat := 101
abbrev f_spec_l4Same : Nat := 102
abbrev f_spec_CatHas : Nat := 104
abbrev f_spec_l4Both : Nat := 107
abbrev f_spec_CatForms : Nat := 38
abbrev f_spec_DrawTrtAll : Nat := 13
abbrev f_impl_in : Nat := 62
abbrev f_impl_TrtOk_1 : Nat := 61
abbrev f_impl_within_1 : Nat := 147
abbrev f_slices_IndexFunc_Sint_int : Nat := 113
abbrev f_slices_ContainsFunc_Sint_int : Nat := 64
abbrev f_impl_within : Nat := 122
abbrev f_impl_ValOk : Nat := 63
abbrev f_impl_TrtOk : Nat := 14
abbrev f_slices_IndexFunc_SSint_Sint : Nat := 110
abbrev f_slices_ContainsFunc_SSint_Sint : Nat := 66
abbrev f_impl_partsOk_1 : Nat := 148
abbrev f_impl_partsOk : Nat := 123
abbrev f_impl_addedOk : Nat := 124
abbrev f_impl_TrtTreaty_ok : Nat := 65
abbrev f_impl_dot : Nat := 68
abbrev f_impl_TrtKeeps_1 : Nat := 67
abbrev f_impl_TrtKeeps : Nat := 15
abbrev f_impl_TrtAll : Nat := 16
abbrev f_spec_ValOk : Nat := 51
abbrev f_spec_TrtOk : Nat := 69
abbrev f_spec_l5Parts : Nat := 95
abbrev f_spec_l5Times : Nat := 125
abbrev f_spec_TrtKeeps : Nat := 70
abbrev f_spec_TrtAll : Nat := 17
abbrev f_laws_FnTrtAll : Nat := 3
/-- spec_l20Open -/
def R_spec_l20Open : R :=
  .ite (.cmp .lt (.z 2000) (.len (.v 0)))
   (
    .i (.chk (.cmp .le (.z 2000) (.len (.v 0)))) <|
    .done [(.s (.take (.v 0) (.z 2000))), (.vi .i64 (.z 0))])
   (
    .done [(.s (.v 0)), (.vi .i64 (.z 0))])
/-- spec_l20Rd_pick -/
def R_spec_l20Rd_pick : R :=
  .ite (.cmp .lt (.v 2) (.z 1))
   (
    .done [(.vi .i64 (.z 0)), (.s (.v 0)), (.vi .i64 (.bin .add .i64 (.v 1) (.z 1)))])
   (
    .ite (.cmp .eq (.len (.v 0)) (.z 0))
     (
      .done [(.vi .i64 (.z 0)), (.s (.v 0)), (.vi .i64 (.bin .add .i64 (.v 1) (.z 1)))])
     (
      .ite (.cmp .lt (.bin .sub .i64 (.bin .add .i64 (.v 1) (.z 1)) (.z 1)) (.len (.v 0)))
       (
        .i (.idx (.v 0) (.bin .sub .i64 (.bin .add .i64 (.v 1) (.z 1)) (.z 1)) (.one (.i .u8)) 3) <|
        .i (.chk (.not (.cmp .eq (.v 2) (.z 0)))) <|
        .done [(.vi .i64 (.bin .rem .i64 (.cv .i64 (.v 3)) (.v 2))), (.s (.v 0)), (.vi .i64 (.bin .add .i64 (.v 1) (.z 1)))])
       (
        .i (.chk (.not (.cmp .eq (.len (.v 0)) (.z 0)))) <|
        .i (.idx (.v 0) (.bin .rem .i64 (.bin .sub .i64 (.bin .add .i64 (.v 1) (.z 1)) (.z 1)) (.len (.v 0))) (.one (.i .u8)) 3) <|
        .i (.chk (.not (.cmp .eq (.len (.v 0)) (.z 0)))) <|
        .i (.idx (.v 0) (.bin .rem .i64 (.bin .add .i64 (.bin .mul .i64 (.bin .sub .i64 (.bin .add .i64 (.v 1) (.z 1)) (.z 1)) (.z 7)) (.z 3)) (.len (.v 0))) (.one (.i .u8)) 4) <|
        .i (.chk (.not (.cmp .eq (.len (.v 0)) (.z 0)))) <|
        .i (.chk (.not (.cmp .eq (.z 64) (.z 0)))) <|
        .i (.chk (.not (.cmp .eq (.v 2) (.z 0)))) <|
        .done [(.vi .i64 (.bin .rem .i64 (.bin .xor .i64 (.bin .add .i64 (.bin .add .i64 (.bin .add .i64 (.bin .mul .i64 (.cv .i64 (.v 3)) (.z 131)) (.bin .mul .i64 (.cv .i64 (.v 4)) (.z 1117))) (.bin .mul .i64 (.bin .sub .i64 (.bin .add .i64 (.v 1) (.z 1)) (.z 1)) (.z 29))) (.bin .mul .i64 (.bin .quo .i64 (.bin .sub .i64 (.bin .add .i64 (.v 1) (.z 1)) (.z 1)) (.len (.v 0))) (.z 53))) (.bin .quo .i64 (.bin .add .i64 (.bin .add .i64 (.bin .add .i64 (.bin .mul .i64 (.cv .i64 (.v 3)) (.z 131)) (.bin .mul .i64 (.cv .i64 (.v 4)) (.z 1117))) (.bin .mul .i64 (.bin .sub .i64 (.bin .add .i64 (.v 1) (.z 1)) (.z 1)) (.z 29))) (.bin .mul .i64 (.bin .quo .i64 (.bin .sub .i64 (.bin .add .i64 (.v 1) (.z 1)) (.z 1)) (.len (.v 0))) (.z 53))) (.z 64))) (.v 2))), (.s (.v 0)), (.vi .i64 (.bin .add .i64 (.v 1) (.z 1)))])))
/-- spec_l20Vals -/
def R_spec_l20Vals : R :=
  .loop 3 [.nil, (.z 0), (.v 1), (.v 0)] <|
    .ite (.cmp .lt (.v 4) (.z 3))
     (
      .i (.call f_spec_l20Rd_pick [(.s (.v 6)), (.vi .i64 (.v 5)), (.vi .i64 (.z 9))] [.i .i64, .s, .i .i64] 7) <|
      .i (.chk (.cmp .le (.z 0) (.v 7))) <|
      .i (.chk (.cmp .lt (.v 7) (.z 9))) <|
      .i (.idx (.cons (.vi .i64 (.z 0)) (.cons (.vi .i64 (.z 1)) (.cons (.vi .i64 (.z 5)) (.cons (.vi .i64 (.z 20)) (.cons (.vi .i64 (.z (-3))) (.cons (.vi .i64 (.z 60)) (.cons (.vi .i64 (.z 10000)) (.cons (.vi .i64 (.z (-10000))) (.cons (.vi .i64 (.z 9996)) .nil))))))))) (.v 7) (.one (.i .i64)) 10) <|
      .i (.chk (.cmp .le (.len (.app (.v 3) (.cons (.vi .i64 (.v 10)) .nil))) (.z 8796093022208))) <|
      .next [(.app (.v 3) (.cons (.vi .i64 (.v 10)) .nil)), (.bin .add .i64 (.v 4) (.z 1)), (.v 9), (.v 8)])
     (
      .esc <|
      .i (.call f_spec_l20Rd_pick [(.s (.v 6)), (.vi .i64 (.v 5)), (.vi .i64 (.v 2))] [.i .i64, .s, .i .i64] 7) <|
      .ite (.cmp .eq (.v 7) (.z 0))
       (
        .i (.call f_spec_l20Rd_pick [(.s (.v 8)), (.vi .i64 (.v 9)), (.vi .i64 (.z 3))] [.i .i64, .s, .i .i64] 10) <|
        .ite (.cmp .eq (.v 10) (.z 0))
         (
          .i (.chk (.cmp .le (.z 2) (.len (.v 3)))) <|
          .done [(.s (.take (.v 3) (.z 2))), (.s (.v 11)), (.vi .i64 (.v 12))])
         (
          .ite (.cmp .eq (.v 10) (.z 1))
           (
            .i (.chk (.cmp .le (.len (.app (.v 3) (.cons (.vi .i64 (.z 0)) .nil))) (.z 8796093022208))) <|
            .done [(.s (.app (.v 3) (.cons (.vi .i64 (.z 0)) .nil))), (.s (.v 11)), (.vi .i64 (.v 12))])
           (
            .i (.call f_spec_l20Rd_pick [(.s (.v 11)), (.vi .i64 (.v 12)), (.vi .i64 (.z 3))] [.i .i64, .s, .i .i64] 13) <|
            .i (.call f_spec_l20Rd_pick [(.s (.v 14)), (.vi .i64 (.v 15)), (.vi .i64 (.z 2))] [.i .i64, .s, .i .i64] 16) <|
            .i (.chk (.cmp .le (.z 0) (.v 16))) <|
            .i (.chk (.cmp .lt (.v 16) (.z 2))) <|
            .i (.idx (.cons (.vi .i64 (.z 10001)) (.cons (.vi .i64 (.z (-10001))) .nil)) (.v 16) (.one (.i .i64)) 19) <|
            .i (.chk (.cmp .le (.z 0) (.v 13))) <|
            .i (.chk (.cmp .lt (.v 13) (.len (.v 3)))) <|
            .i (.idx (.v 3) (.v 13) (.one (.i .i64)) 20) <|
            .done [(.s (.set (.v 3) (.v 13) (.vi .i64 (.v 19)))), (.s (.v 17)), (.vi .i64 (.v 18))])))
       (
        .done [(.s (.v 3)), (.s (.v 8)), (.vi .i64 (.v 9))]))
/-- spec_l20Treaty -/
def R_spec_l20Treaty : R :=
  .i (.call f_spec_l20Vals [(.s (.v 0)), (.vi .i64 (.v 1)), (.vi .i64 (.z 99))] [.s, .s, .i .i64] 3) <|
  .i (.call f_spec_l20Rd_pick [(.s (.v 4)), (.vi .i64 (.v 5)), (.vi .i64 (.z 3))] [.i .i64, .s, .i .i64] 6) <|
  .loop 9 [.nil, (.bin .add .i64 (.z 1) (.v 6)), (.v 8), (.v 7)] <|
    .ite (.cmp .lt (.z 0) (.v 10))
     (
      .i (.call f_spec_l20Rd_pick [(.s (.v 12)), (.vi .i64 (.v 11)), (.vi .i64 (.z 5))] [.i .i64, .s, .i .i64] 13) <|
      .i (.chk (.cmp .le (.z 0) (.v 13))) <|
      .i (.chk (.cmp .lt (.v 13) (.z 5))) <|
      .i (.idx (.cons (.vi .i64 (.z 0)) (.cons (.vi .i64 (.z 3)) (.cons (.vi .i64 (.z 10)) (.cons (.vi .i64 (.z 30)) (.cons (.vi .i64 (.z 50)) .nil))))) (.v 13) (.one (.i .i64)) 16) <|
      .i (.chk (.cmp .le (.len (.app (.v 9) (.cons (.vi .i64 (.v 16)) .nil))) (.z 8796093022208))) <|
      .next [(.app (.v 9) (.cons (.vi .i64 (.v 16)) .nil)), (.bin .sub .i64 (.v 10) (.z 1)), (.v 15), (.v 14)])
     (
      .esc <|
      .i (.call f_spec_l20Rd_pick [(.s (.v 12)), (.vi .i64 (.v 11)), (.vi .i64 (.v 2))] [.i .i64, .s, .i .i64] 13) <|
      .ite (.cmp .lt (.z 0) (.v 13))
       (
        .done [(.s (.v 3)), (.s (.v 9)), (.s (.v 14)), (.vi .i64 (.v 15))])
       (
        .i (.call f_spec_l20Rd_pick [(.s (.v 14)), (.vi .i64 (.v 15)), (.vi .i64 (.z 3))] [.i .i64, .s, .i .i64] 16) <|
        .ite (.cmp .eq (.v 16) (.z 0))
         (
          .i (.call f_spec_l20Vals [(.s (.v 17)), (.vi .i64 (.v 18)), (.vi .i64 (.z 1))] [.s, .s, .i .i64] 19) <|
          .done [(.s (.v 19)), (.s (.v 9)), (.s (.v 20)), (.vi .i64 (.v 21))])
         (
          .ite (.cmp .eq (.v 16) (.z 1))
           (
            .done [(.s (.v 3)), (.s .nil), (.s (.v 17)), (.vi .i64 (.v 18))])
           (
            .i (.call f_spec_l20Rd_pick [(.s (.v 17)), (.vi .i64 (.v 18)), (.vi .i64 (.z 2))] [.i .i64, .s, .i .i64] 19) <|
            .i (.chk (.cmp .le (.z 0) (.v 19))) <|
            .i (.chk (.cmp .lt (.v 19) (.z 2))) <|
            .i (.idx (.cons (.vi .i64 (.z (-1))) (.cons (.vi .i64 (.z 51)) .nil)) (.v 19) (.one (.i .i64)) 22) <|
            .i (.chk (.cmp .lt (.z 0) (.len (.v 9)))) <|
            .i (.idx (.v 9) (.z 0) (.one (.i .i64)) 23) <|
            .done [(.s (.v 3)), (.s (.set (.v 9) (.z 0) (.vi .i64 (.v 22)))), (.s (.v 20)), (.vi .i64 (.v 21))]))))
/-- spec_l20Added -/
def R_spec_l20Added : R :=
  .i (.call f_spec_l20Rd_pick [(.s (.v 0)), (.vi .i64 (.v 1)), (.vi .i64 (.z 9))] [.i .i64, .s, .i .i64] 3) <|
  .i (.call f_spec_l20Rd_pick [(.s (.v 4)), (.vi .i64 (.v 5)), (.vi .i64 (.z 9))] [.i .i64, .s, .i .i64] 6) <|
  .i (.call f_spec_l20Rd_pick [(.s (.v 7)), (.vi .i64 (.v 8)), (.vi .i64 (.z 4))] [.i .i64, .s, .i .i64] 9) <|
  .i (.chk (.cmp .le (.z 0) (.v 9))) <|
  .i (.chk (.cmp .lt (.v 9) (.z 4))) <|
  .i (.idx (.cons (.vi .i64 (.z 0)) (.cons (.vi .i64 (.z 0)) (.cons (.vi .i64 (.z 1)) (.cons (.vi .i64 (.z (-2))) .nil)))) (.v 9) (.one (.i .i64)) 12) <|
  .i (.call f_spec_l20Rd_pick [(.s (.v 10)), (.vi .i64 (.v 11)), (.vi .i64 (.v 2))] [.i .i64, .s, .i .i64] 13) <|
  .ite (.cmp .eq (.v 13) (.z 0))
   (
    .i (.call f_spec_l20Rd_pick [(.s (.v 14)), (.vi .i64 (.v 15)), (.vi .i64 (.z 3))] [.i .i64, .s, .i .i64] 16) <|
    .ite (.cmp .eq (.v 16) (.z 0))
     (
      .done [(.s (.take (.cons (.vi .i64 (.bin .sub .i64 (.v 3) (.z 4))) (.cons (.vi .i64 (.bin .sub .i64 (.v 6) (.z 4))) (.cons (.vi .i64 (.v 12)) .nil))) (.z 2))), (.s (.v 17)), (.vi .i64 (.v 18))])
     (
      .ite (.cmp .eq (.v 16) (.z 1))
       (
        .i (.call f_spec_l20Rd_pick [(.s (.v 17)), (.vi .i64 (.v 18)), (.vi .i64 (.z 3))] [.i .i64, .s, .i .i64] 19) <|
        .i (.chk (.cmp .le (.z 0) (.v 19))) <|
        .i (.chk (.cmp .lt (.v 19) (.z 3))) <|
        .i (.idx (.cons (.vi .i64 (.z 20001)) (.cons (.vi .i64 (.z 60)) (.cons (.vi .i64 (.z (-60))) .nil))) (.v 19) (.one (.i .i64)) 22) <|
        .i (.idx (.cons (.vi .i64 (.bin .sub .i64 (.v 3) (.z 4))) (.cons (.vi .i64 (.bin .sub .i64 (.v 6) (.z 4))) (.cons (.vi .i64 (.v 12)) .nil))) (.z 0) (.one (.i .i64)) 23) <|
        .done [(.s (.set (.cons (.vi .i64 (.bin .sub .i64 (.v 3) (.z 4))) (.cons (.vi .i64 (.bin .sub .i64 (.v 6) (.z 4))) (.cons (.vi .i64 (.v 12)) .nil))) (.z 0) (.vi .i64 (.v 22)))), (.s (.v 20)), (.vi .i64 (.v 21))])
       (
        .i (.chk (.cmp .le (.len (.app (.cons (.vi .i64 (.bin .sub .i64 (.v 3) (.z 4))) (.cons (.vi .i64 (.bin .sub .i64 (.v 6) (.z 4))) (.cons (.vi .i64 (.v 12)) .nil))) (.cons (.vi .i64 (.z 0)) .nil))) (.z 8796093022208))) <|
        .done [(.s (.app (.cons (.vi .i64 (.bin .sub .i64 (.v 3) (.z 4))) (.cons (.vi .i64 (.bin .sub .i64 (.v 6) (.z 4))) (.cons (.vi .i64 (.v 12)) .nil))) (.cons (.vi .i64 (.z 0)) .nil))), (.s (.v 17)), (.vi .i64 (.v 18))])))
   (
    .done [(.s (.cons (.vi .i64 (.bin .sub .i64 (.v 3) (.z 4))) (.cons (.vi .i64 (.bin .sub .i64 (.v 6) (.z 4))) (.cons (.vi .i64 (.v 12)) .nil)))), (.s (.v 14)), (.vi .i64 (.v 15))])
/-- spec_FrmZero -/
def R_spec_FrmZero : R :=
  .done [(.s (.cons (.vi .i64 (.z 0)) (.cons (.vi .i64 (.z 0)) (.cons (.vi .i64 (.z 0)) .nil)))), (.s (.cons (.vi .i64 (.z 0)) (.cons (.vi .i64 (.z 0)) .nil))), (.vi .i64 (.z 0))]
/-- spec_l20Num -/
def R_spec_l20Num : R :=
  .i (.call f_spec_FrmZero [] [.s, .s, .i .i64] 3) <|
  .i (.chk (.cmp .lt (.z 0) (.len (.v 4)))) <|
  .i (.idx (.v 4) (.z 0) (.one (.i .i64)) 6) <|
  .i (.chk (.cmp .lt (.z 1) (.len (.v 4)))) <|
  .i (.idx (.set (.v 4) (.z 0) (.vi .i64 (.v 0))) (.z 1) (.one (.i .i64)) 7) <|
  .done [(.s (.v 3)), (.s (.set (.set (.v 4) (.z 0) (.vi .i64 (.v 0))) (.z 1) (.vi .i64 (.v 1)))), (.vi .i64 (.v 2))]
/-- spec_l20With -/
def R_spec_l20With : R :=
  .i (.chk (.cmp .le (.z 0) (.v 3))) <|
  .i (.chk (.cmp .lt (.v 3) (.len (.v 0)))) <|
  .i (.idx (.v 0) (.v 3) (.one (.i .i64)) 5) <|
  .done [(.vi .i64 (.v 2)), (.s (.set (.v 0) (.v 3) (.vi .i64 (.v 4)))), (.s (.v 1))]
/-- spec_l20Small -/
def R_spec_l20Small : R :=
  .i (.call f_spec_FrmZero [] [.s, .s, .i .i64] 2) <|
  .loop 5 [(.v 2), (.z 0), (.v 1), (.v 0)] <|
    .ite (.cmp .lt (.v 6) (.z 3))
     (
      .i (.call f_spec_l20Rd_pick [(.s (.v 8)), (.vi .i64 (.v 7)), (.vi .i64 (.z 6))] [.i .i64, .s, .i .i64] 9) <|
      .i (.chk (.cmp .le (.z 0) (.v 9))) <|
      .i (.chk (.cmp .lt (.v 9) (.z 6))) <|
      .i (.idx (.cons (.vi .i64 (.z 0)) (.cons (.vi .i64 (.z 0)) (.cons (.vi .i64 (.z 0)) (.cons (.vi .i64 (.z 1)) (.cons (.vi .i64 (.z (-1))) (.cons (.vi .i64 (.z 2)) .nil)))))) (.v 9) (.one (.i .i64)) 12) <|
      .i (.chk (.cmp .le (.z 0) (.v 6))) <|
      .i (.chk (.cmp .lt (.v 6) (.len (.v 5)))) <|
      .i (.idx (.v 5) (.v 6) (.one (.i .i64)) 13) <|
      .next [(.set (.v 5) (.v 6) (.vi .i64 (.v 12))), (.bin .add .i64 (.v 6) (.z 1)), (.v 11), (.v 10)])
     (
      .esc <|
      .loop 9 [(.v 3), (.z 0), (.v 7), (.v 8)] <|
        .ite (.cmp .lt (.v 10) (.z 2))
         (
          .i (.call f_spec_l20Rd_pick [(.s (.v 12)), (.vi .i64 (.v 11)), (.vi .i64 (.z 5))] [.i .i64, .s, .i .i64] 13) <|
          .i (.chk (.cmp .le (.z 0) (.v 13))) <|
          .i (.chk (.cmp .lt (.v 13) (.z 5))) <|
          .i (.idx (.cons (.vi .i64 (.z 0)) (.cons (.vi .i64 (.z 0)) (.cons (.vi .i64 (.z 1)) (.cons (.vi .i64 (.z (-1))) (.cons (.vi .i64 (.z 2)) .nil))))) (.v 13) (.one (.i .i64)) 16) <|
          .i (.chk (.cmp .le (.z 0) (.v 10))) <|
          .i (.chk (.cmp .lt (.v 10) (.len (.v 9)))) <|
          .i (.idx (.v 9) (.v 10) (.one (.i .i64)) 17) <|
          .next [(.set (.v 9) (.v 10) (.vi .i64 (.v 16))), (.bin .add .i64 (.v 10) (.z 1)), (.v 15), (.v 14)])
         (
          .esc <|
          .i (.call f_spec_l20Rd_pick [(.s (.v 12)), (.vi .i64 (.v 11)), (.vi .i64 (.z 8))] [.i .i64, .s, .i .i64] 13) <|
          .i (.chk (.cmp .le (.z 0) (.v 13))) <|
          .i (.chk (.cmp .lt (.v 13) (.z 8))) <|
          .i (.idx (.cons (.vi .i64 (.z 0)) (.cons (.vi .i64 (.z 0)) (.cons (.vi .i64 (.z 1)) (.cons (.vi .i64 (.z (-1))) (.cons (.vi .i64 (.z 5)) (.cons (.vi .i64 (.z (-5))) (.cons (.vi .i64 (.z 20)) (.cons (.vi .i64 (.z (-20))) .nil)))))))) (.v 13) (.one (.i .i64)) 16) <|
          .done [(.s (.v 5)), (.s (.v 9)), (.vi .i64 (.v 16)), (.s (.v 14)), (.vi .i64 (.v 15))]))
/-- spec_l20Line -/
def R_spec_l20Line : R :=
  .i (.call f_spec_l20Rd_pick [(.s (.v 0)), (.vi .i64 (.v 1)), (.vi .i64 (.z 7))] [.i .i64, .s, .i .i64] 2) <|
  .ite (.cmp .eq (.v 2) (.z 0))
   (
    .i (.call f_spec_l20Rd_pick [(.s (.v 3)), (.vi .i64 (.v 4)), (.vi .i64 (.z 3))] [.i .i64, .s, .i .i64] 5) <|
    .i (.call f_spec_l20Small [(.s (.v 6)), (.vi .i64 (.v 7))] [.s, .s, .i .i64, .s, .i .i64] 8) <|
    .done [(.vi .i64 (.z 1)), (.vi .i64 (.z 0)), (.vi .i64 (.bin .add .i64 (.z 1) (.v 5))), (.s (.v 8)), (.s (.v 9)), (.vi .i64 (.v 10)), (.s (.v 11)), (.vi .i64 (.v 12))])
   (
    .ite (.cmp .eq (.v 2) (.z 1))
     (
      .i (.call f_spec_l20Rd_pick [(.s (.v 3)), (.vi .i64 (.v 4)), (.vi .i64 (.z 3))] [.i .i64, .s, .i .i64] 5) <|
      .i (.call f_spec_l20Small [(.s (.v 6)), (.vi .i64 (.v 7))] [.s, .s, .i .i64, .s, .i .i64] 8) <|
      .done [(.vi .i64 (.z 1)), (.vi .i64 (.z 0)), (.vi .i64 (.bin .add .i64 (.z 1) (.v 5))), (.s (.v 8)), (.s (.v 9)), (.vi .i64 (.v 10)), (.s (.v 11)), (.vi .i64 (.v 12))])
     (
      .ite (.cmp .eq (.v 2) (.z 2))
       (
        .i (.call f_spec_l20Small [(.s (.v 3)), (.vi .i64 (.v 4))] [.s, .s, .i .i64, .s, .i .i64] 5) <|
        .i (.call f_spec_l20Rd_pick [(.s (.v 8)), (.vi .i64 (.v 9)), (.vi .i64 (.z 3))] [.i .i64, .s, .i .i64] 10) <|
        .ite (.cmp .lt (.z 0) (.v 10))
         (
          .i (.call f_spec_l20Rd_pick [(.s (.v 11)), (.vi .i64 (.v 12)), (.vi .i64 (.z 3))] [.i .i64, .s, .i .i64] 13) <|
          .done [(.vi .i64 (.z 2)), (.vi .i64 (.v 13)), (.vi .i64 (.z 0)), (.s (.cons (.vi .i64 (.z 0)) (.cons (.vi .i64 (.z 0)) (.cons (.vi .i64 (.z 0)) .nil)))), (.s (.v 6)), (.vi .i64 (.v 7)), (.s (.v 14)), (.vi .i64 (.v 15))])
         (
          .i (.call f_spec_l20Rd_pick [(.s (.v 11)), (.vi .i64 (.v 12)), (.vi .i64 (.z 3))] [.i .i64, .s, .i .i64] 13) <|
          .done [(.vi .i64 (.z 2)), (.vi .i64 (.v 13)), (.vi .i64 (.z 0)), (.s (.v 5)), (.s (.v 6)), (.vi .i64 (.v 7)), (.s (.v 14)), (.vi .i64 (.v 15))]))
       (
        .ite (.cmp .eq (.v 2) (.z 3))
         (
          .i (.call f_spec_l20Small [(.s (.v 3)), (.vi .i64 (.v 4))] [.s, .s, .i .i64, .s, .i .i64] 5) <|
          .i (.call f_spec_l20Rd_pick [(.s (.v 8)), (.vi .i64 (.v 9)), (.vi .i64 (.z 3))] [.i .i64, .s, .i .i64] 10) <|
          .ite (.cmp .lt (.z 0) (.v 10))
           (
            .i (.call f_spec_l20Rd_pick [(.s (.v 11)), (.vi .i64 (.v 12)), (.vi .i64 (.z 3))] [.i .i64, .s, .i .i64] 13) <|
            .done [(.vi .i64 (.z 2)), (.vi .i64 (.v 13)), (.vi .i64 (.z 0)), (.s (.cons (.vi .i64 (.z 0)) (.cons (.vi .i64 (.z 0)) (.cons (.vi .i64 (.z 0)) .nil)))), (.s (.v 6)), (.vi .i64 (.v 7)), (.s (.v 14)), (.vi .i64 (.v 15))])
           (
            .i (.call f_spec_l20Rd_pick [(.s (.v 11)), (.vi .i64 (.v 12)), (.vi .i64 (.z 3))] [.i .i64, .s, .i .i64] 13) <|
            .done [(.vi .i64 (.z 2)), (.vi .i64 (.v 13)), (.vi .i64 (.z 0)), (.s (.v 5)), (.s (.v 6)), (.vi .i64 (.v 7)), (.s (.v 14)), (.vi .i64 (.v 15))]))
         (
          .ite (.cmp .eq (.v 2) (.z 4))
           (
            .i (.call f_spec_l20Small [(.s (.v 3)), (.vi .i64 (.v 4))] [.s, .s, .i .i64, .s, .i .i64] 5) <|
            .i (.call f_spec_l20Rd_pick [(.s (.v 8)), (.vi .i64 (.v 9)), (.vi .i64 (.z 3))] [.i .i64, .s, .i .i64] 10) <|
            .ite (.cmp .lt (.z 0) (.v 10))
             (
              .i (.call f_spec_l20Rd_pick [(.s (.v 11)), (.vi .i64 (.v 12)), (.vi .i64 (.z 3))] [.i .i64, .s, .i .i64] 13) <|
              .done [(.vi .i64 (.z 2)), (.vi .i64 (.v 13)), (.vi .i64 (.z 0)), (.s (.cons (.vi .i64 (.z 0)) (.cons (.vi .i64 (.z 0)) (.cons (.vi .i64 (.z 0)) .nil)))), (.s (.v 6)), (.vi .i64 (.v 7)), (.s (.v 14)), (.vi .i64 (.v 15))])
             (
              .i (.call f_spec_l20Rd_pick [(.s (.v 11)), (.vi .i64 (.v 12)), (.vi .i64 (.z 3))] [.i .i64, .s, .i .i64] 13) <|
              .done [(.vi .i64 (.z 2)), (.vi .i64 (.v 13)), (.vi .i64 (.z 0)), (.s (.v 5)), (.s (.v 6)), (.vi .i64 (.v 7)), (.s (.v 14)), (.vi .i64 (.v 15))]))
           (
            .ite (.cmp .eq (.v 2) (.z 5))
             (
              .i (.call f_spec_l20Small [(.s (.v 3)), (.vi .i64 (.v 4))] [.s, .s, .i .i64, .s, .i .i64] 5) <|
              .done [(.vi .i64 (.z 3)), (.vi .i64 (.z 0)), (.vi .i64 (.z 0)), (.s (.v 5)), (.s (.v 6)), (.vi .i64 (.v 7)), (.s (.v 8)), (.vi .i64 (.v 9))])
             (
              .done [(.vi .i64 (.z 4)), (.vi .i64 (.z 0)), (.vi .i64 (.z 0)), (.s .nil), (.s .nil), (.vi .i64 (.z 0)), (.s (.v 3)), (.vi .i64 (.v 4))]))))))
/-- spec_l1In -/
def R_spec_l1In : R :=
  .ite (.cmp .le (.v 1) (.v 0))
   (
    .done [(.vb (.cmp .le (.v 0) (.v 2)))])
   (
    .done [(.vb .ff)])
/-- spec_l1All -/
def R_spec_l1All : R :=
  .ite (.not (.cmp .eq (.len (.v 0)) (.v 1)))
   (
    .done [(.vb .ff)])
   (
    .loop 3 [(.z 0)] <|
      .ite (.cmp .lt (.v 3) (.len (.v 0)))
       (
        .i (.idx (.v 0) (.v 3) (.one (.i .i64)) 4) <|
        .i (.call f_spec_l1In [(.vi .i64 (.v 4)), (.vi .i64 (.bin .sub .i64 (.z 0) (.v 2))), (.vi .i64 (.v 2))] [.b] 5) <|
        .ite (.not (.v 5))
         (
          .esc <|
          .done [(.vb .ff)])
         (
          .next [(.bin .add .i64 (.v 3) (.z 1))]))
       (
        .esc <|
        .done [(.vb .tt)]))
/-- spec_l2Small -/
def R_spec_l2Small : R :=
  .i (.call f_spec_l1All [(.s (.v 0)), (.vi .i64 (.z 3)), (.vi .i64 (.z 2))] [.b] 3) <|
  .ite (.v 3)
   (
    .i (.call f_spec_l1All [(.s (.v 1)), (.vi .i64 (.z 2)), (.vi .i64 (.z 2))] [.b] 4) <|
    .ite (.v 4)
     (
      .i (.call f_spec_l1In [(.vi .i64 (.v 2)), (.vi .i64 (.z (-20))), (.vi .i64 (.z 20))] [.b] 5) <|
      .done [(.vb (.v 5))])
     (
      .done [(.vb .ff)]))
   (
    .done [(.vb .ff)])
/-- spec_l2Line -/
def R_spec_l2Line : R :=
  .ite (.cmp .eq (.v 0) (.z 1))
   (
    .ite (.cmp .eq (.v 1) (.z 0))
     (
      .i (.call f_spec_l1In [(.vi .i64 (.v 2)), (.vi .i64 (.z 1)), (.vi .i64 (.z 6))] [.b] 6) <|
      .ite (.v 6)
       (
        .i (.call f_spec_l2Small [(.s (.v 3)), (.s (.v 4)), (.vi .i64 (.v 5))] [.b] 7) <|
        .done [(.vb (.v 7))])
       (
        .done [(.vb .ff)]))
     (
      .done [(.vb .ff)]))
   (
    .ite (.cmp .eq (.v 0) (.z 2))
     (
      .i (.call f_spec_l1In [(.vi .i64 (.v 1)), (.vi .i64 (.z 0)), (.vi .i64 (.z 2))] [.b] 6) <|
      .ite (.v 6)
       (
        .ite (.cmp .eq (.v 2) (.z 0))
         (
          .i (.call f_spec_l2Small [(.s (.v 3)), (.s (.v 4)), (.vi .i64 (.v 5))] [.b] 7) <|
          .done [(.vb (.v 7))])
         (
          .done [(.vb .ff)]))
       (
        .done [(.vb .ff)]))
     (
      .ite (.cmp .eq (.v 0) (.z 3))
       (
        .ite (.cmp .eq (.v 1) (.z 0))
         (
          .ite (.cmp .eq (.v 2) (.z 0))
           (
            .i (.call f_spec_l2Small [(.s (.v 3)), (.s (.v 4)), (.vi .i64 (.v 5))] [.b] 6) <|
            .done [(.vb (.v 6))])
           (
            .done [(.vb .ff)]))
         (
          .done [(.vb .ff)]))
       (
        .ite (.cmp .eq (.v 0) (.z 4))
         (
          .ite (.cmp .eq (.v 1) (.z 0))
           (
            .ite (.cmp .eq (.v 2) (.z 0))
             (
              .ite (.cmp .eq (.bin .add .i64 (.len (.v 3)) (.len (.v 4))) (.z 0))
               (
                .done [(.vb (.cmp .eq (.v 5) (.z 0)))])
               (
                .done [(.vb .ff)]))
             (
              .done [(.vb .ff)]))
           (
            .done [(.vb .ff)]))
         (
          .done [(.vb .ff)]))))
/-- spec_ActOk -/
def R_spec_ActOk : R :=
  .loop 1 [(.z 0), (.z 0)] <|
    .ite (.cmp .lt (.v 2) (.len (.v 0)))
     (
      .i (.idx (.v 0) (.v 2) (.g [.i .i64, .i .i64, .i .i64, .s, .s, .i .i64]) 3) <|
      .i (.call f_spec_l2Line [(.vi .i64 (.v 3)), (.vi .i64 (.v 4)), (.vi .i64 (.v 5)), (.s (.v 6)), (.s (.v 7)), (.vi .i64 (.v 8))] [.b] 9) <|
      .ite (.not (.v 9))
       (
        .esc <|
        .done [(.vb .ff)])
       (
        .i (.idx (.v 0) (.v 2) (.g [.i .i64, .i .i64, .i .i64, .s, .s, .i .i64]) 10) <|
        .ite (.cmp .eq (.v 10) (.z 1))
         (
          .next [(.bin .add .i64 (.v 1) (.z 1)), (.bin .add .i64 (.v 2) (.z 1))])
         (
          .next [(.v 1), (.bin .add .i64 (.v 2) (.z 1))])))
     (
      .esc <|
      .ite (.cmp .le (.len (.v 0)) (.z 6))
       (
        .done [(.vb (.cmp .le (.v 1) (.z 3)))])
       (
        .done [(.vb .ff)]))
/-- spec_l20Act -/
def R_spec_l20Act : R :=
  .i (.call f_spec_l20Rd_pick [(.s (.v 0)), (.vi .i64 (.v 1)), (.vi .i64 (.z 2))] [.i .i64, .s, .i .i64] 2) <|
  .i (.call f_spec_l20Rd_pick [(.s (.v 3)), (.vi .i64 (.v 4)), (.vi .i64 (.z 8))] [.i .i64, .s, .i .i64] 5) <|
  .ite (.cmp .eq (.v 5) (.z 0))
   (
    .i (.call f_spec_l20Num [(.vi .i64 (.z (-1))), (.vi .i64 (.z 0)), (.vi .i64 (.z 0))] [.s, .s, .i .i64] 8) <|
    .i (.call f_spec_l20With [(.s (.v 8)), (.s (.v 9)), (.vi .i64 (.v 10)), (.vi .i64 (.v 2)), (.vi .i64 (.z 1))] [.i .i64, .s, .s] 11) <|
    .i (.call f_spec_l20Num [(.vi .i64 (.z (-1))), (.vi .i64 (.z 0)), (.vi .i64 (.z 0))] [.s, .s, .i .i64] 14) <|
    .i (.call f_spec_l20Num [(.vi .i64 (.z 1)), (.vi .i64 (.z 0)), (.vi .i64 (.z 0))] [.s, .s, .i .i64] 17) <|
    .i (.call f_spec_l20Num [(.vi .i64 (.z 1)), (.vi .i64 (.z 0)), (.vi .i64 (.z (-9)))] [.s, .s, .i .i64] 20) <|
    .done [(.s (.cons (.g (.cons (.vi .i64 (.z 1)) (.cons (.vi .i64 (.z 0)) (.cons (.vi .i64 (.z 2)) (.cons (.s (.v 12)) (.cons (.s (.v 13)) (.cons (.vi .i64 (.v 11)) .nil))))))) (.cons (.g (.cons (.vi .i64 (.z 2)) (.cons (.vi .i64 (.v 2)) (.cons (.vi .i64 (.z 0)) (.cons (.s (.v 14)) (.cons (.s (.v 15)) (.cons (.vi .i64 (.v 16)) .nil))))))) (.cons (.g (.cons (.vi .i64 (.z 3)) (.cons (.vi .i64 (.z 0)) (.cons (.vi .i64 (.z 0)) (.cons (.s (.v 17)) (.cons (.s (.v 18)) (.cons (.vi .i64 (.v 19)) .nil))))))) (.cons (.g (.cons (.vi .i64 (.z 1)) (.cons (.vi .i64 (.z 0)) (.cons (.vi .i64 (.z 1)) (.cons (.s (.v 20)) (.cons (.s (.v 21)) (.cons (.vi .i64 (.v 22)) .nil))))))) (.cons (.g (.cons (.vi .i64 (.z 4)) (.cons (.vi .i64 (.z 0)) (.cons (.vi .i64 (.z 0)) (.cons (.s .nil) (.cons (.s .nil) (.cons (.vi .i64 (.z 0)) .nil))))))) .nil)))))), (.s (.v 6)), (.vi .i64 (.v 7))])
   (
    .ite (.cmp .eq (.v 5) (.z 1))
     (
      .i (.call f_spec_l20Num [(.vi .i64 (.z (-1))), (.vi .i64 (.z 0)), (.vi .i64 (.z 0))] [.s, .s, .i .i64] 8) <|
      .i (.call f_spec_l20With [(.s (.v 8)), (.s (.v 9)), (.vi .i64 (.v 10)), (.vi .i64 (.v 2)), (.vi .i64 (.z 1))] [.i .i64, .s, .s] 11) <|
      .i (.call f_spec_l20Num [(.vi .i64 (.z (-1))), (.vi .i64 (.z 0)), (.vi .i64 (.z 0))] [.s, .s, .i .i64] 14) <|
      .i (.call f_spec_l20Num [(.vi .i64 (.z 1)), (.vi .i64 (.z 0)), (.vi .i64 (.z 0))] [.s, .s, .i .i64] 17) <|
      .i (.call f_spec_l20Num [(.vi .i64 (.z 1)), (.vi .i64 (.z 0)), (.vi .i64 (.z (-9)))] [.s, .s, .i .i64] 20) <|
      .done [(.s (.cons (.g (.cons (.vi .i64 (.z 1)) (.cons (.vi .i64 (.z 0)) (.cons (.vi .i64 (.z 2)) (.cons (.s (.v 12)) (.cons (.s (.v 13)) (.cons (.vi .i64 (.v 11)) .nil))))))) (.cons (.g (.cons (.vi .i64 (.z 2)) (.cons (.vi .i64 (.v 2)) (.cons (.vi .i64 (.z 0)) (.cons (.s (.v 14)) (.cons (.s (.v 15)) (.cons (.vi .i64 (.v 16)) .nil))))))) (.cons (.g (.cons (.vi .i64 (.z 3)) (.cons (.vi .i64 (.z 0)) (.cons (.vi .i64 (.z 0)) (.cons (.s (.v 17)) (.cons (.s (.v 18)) (.cons (.vi .i64 (.v 19)) .nil))))))) (.cons (.g (.cons (.vi .i64 (.z 1)) (.cons (.vi .i64 (.z 0)) (.cons (.vi .i64 (.z 1)) (.cons (.s (.v 20)) (.cons (.s (.v 21)) (.cons (.vi .i64 (.v 22)) .nil))))))) (.cons (.g (.cons (.vi .i64 (.z 4)) (.cons (.vi .i64 (.z 0)) (.cons (.vi .i64 (.z 0)) (.cons (.s .nil) (.cons (.s .nil) (.cons (.vi .i64 (.z 0)) .nil))))))) .nil)))))), (.s (.v 6)), (.vi .i64 (.v 7))])
     (
      .ite (.cmp .eq (.v 5) (.z 2))
       (
        .i (.call f_spec_l20Num [(.vi .i64 (.z 1)), (.vi .i64 (.z 0)), (.vi .i64 (.z 0))] [.s, .s, .i .i64] 8) <|
        .done [(.s (.cons (.g (.cons (.vi .i64 (.z 2)) (.cons (.vi .i64 (.v 2)) (.cons (.vi .i64 (.z 0)) (.cons (.s (.v 8)) (.cons (.s (.v 9)) (.cons (.vi .i64 (.v 10)) .nil))))))) .nil)), (.s (.v 6)), (.vi .i64 (.v 7))])
       (
        .ite (.cmp .eq (.v 5) (.z 3))
         (
          .i (.call f_spec_l20Num [(.vi .i64 (.z (-1))), (.vi .i64 (.z 0)), (.vi .i64 (.z 0))] [.s, .s, .i .i64] 8) <|
          .i (.call f_spec_l20With [(.s (.v 8)), (.s (.v 9)), (.vi .i64 (.v 10)), (.vi .i64 (.v 2)), (.vi .i64 (.z 1))] [.i .i64, .s, .s] 11) <|
          .i (.call f_spec_l20Num [(.vi .i64 (.z (-1))), (.vi .i64 (.z 0)), (.vi .i64 (.z 0))] [.s, .s, .i .i64] 14) <|
          .i (.call f_spec_l20Num [(.vi .i64 (.z 1)), (.vi .i64 (.z 0)), (.vi .i64 (.z 0))] [.s, .s, .i .i64] 17) <|
          .done [(.s (.cons (.g (.cons (.vi .i64 (.z 1)) (.cons (.vi .i64 (.z 0)) (.cons (.vi .i64 (.z 2)) (.cons (.s (.v 12)) (.cons (.s (.v 13)) (.cons (.vi .i64 (.v 11)) .nil))))))) (.cons (.g (.cons (.vi .i64 (.z 2)) (.cons (.vi .i64 (.v 2)) (.cons (.vi .i64 (.z 0)) (.cons (.s (.v 14)) (.cons (.s (.v 15)) (.cons (.vi .i64 (.v 16)) .nil))))))) (.cons (.g (.cons (.vi .i64 (.z 2)) (.cons (.vi .i64 (.bin .sub .i64 (.z 1) (.v 2))) (.cons (.vi .i64 (.z 0)) (.cons (.s (.v 17)) (.cons (.s (.v 18)) (.cons (.vi .i64 (.v 19)) .nil))))))) .nil)))), (.s (.v 6)), (.vi .i64 (.v 7))])
         (
          .ite (.cmp .eq (.v 5) (.z 4))
           (
            .i (.call f_spec_l20Num [(.vi .i64 (.z 0)), (.vi .i64 (.z 0)), (.vi .i64 (.z 0))] [.s, .s, .i .i64] 8) <|
            .i (.call f_spec_l20With [(.s (.v 8)), (.s (.v 9)), (.vi .i64 (.v 10)), (.vi .i64 (.z 2)), (.vi .i64 (.z 1))] [.i .i64, .s, .s] 11) <|
            .done [(.s (.cons (.g (.cons (.vi .i64 (.z 3)) (.cons (.vi .i64 (.z 0)) (.cons (.vi .i64 (.z 0)) (.cons (.s (.v 12)) (.cons (.s (.v 13)) (.cons (.vi .i64 (.v 11)) .nil))))))) .nil)), (.s (.v 6)), (.vi .i64 (.v 7))])
           (
            .ite (.cmp .eq (.v 5) (.z 5))
             (
              .i (.call f_spec_l20Num [(.vi .i64 (.z 0)), (.vi .i64 (.z 1)), (.vi .i64 (.z 5))] [.s, .s, .i .i64] 8) <|
              .i (.call f_spec_l20With [(.s (.v 8)), (.s (.v 9)), (.vi .i64 (.v 10)), (.vi .i64 (.z 0)), (.vi .i64 (.z 1))] [.i .i64, .s, .s] 11) <|
              .i (.call f_spec_l20With [(.s (.v 12)), (.s (.v 13)), (.vi .i64 (.v 11)), (.vi .i64 (.z 1)), (.vi .i64 (.z (-1)))] [.i .i64, .s, .s] 14) <|
              .i (.call f_spec_l20Num [(.vi .i64 (.z 0)), (.vi .i64 (.z 0)), (.vi .i64 (.z 1))] [.s, .s, .i .i64] 17) <|
              .done [(.s (.cons (.g (.cons (.vi .i64 (.z 1)) (.cons (.vi .i64 (.z 0)) (.cons (.vi .i64 (.z 1)) (.cons (.s (.v 15)) (.cons (.s (.v 16)) (.cons (.vi .i64 (.v 14)) .nil))))))) (.cons (.g (.cons (.vi .i64 (.z 2)) (.cons (.vi .i64 (.z 2)) (.cons (.vi .i64 (.z 0)) (.cons (.s (.v 17)) (.cons (.s (.v 18)) (.cons (.vi .i64 (.v 19)) .nil))))))) .nil))), (.s (.v 6)), (.vi .i64 (.v 7))])
             (
              .i (.call f_spec_l20Rd_pick [(.s (.v 6)), (.vi .i64 (.v 7)), (.vi .i64 (.z 5))] [.i .i64, .s, .i .i64] 8) <|
              .loop 11 [.nil, (.bin .add .i64 (.z 1) (.v 8)), (.v 10), (.v 9)] <|
                .ite (.cmp .lt (.z 0) (.v 12))
                 (
                  .i (.call f_spec_l20Line [(.s (.v 14)), (.vi .i64 (.v 13))] [.i .i64, .i .i64, .i .i64, .s, .s, .i .i64, .s, .i .i64] 15) <|
                  .i (.chk (.cmp .le (.len (.v 11)) (.z 879609302220))) <|
                  .i (.head 6 (.v 11)) <|
                  .i (.chk (.cmp .le (.len (.app .nil (.v 11))) (.z 879609302220))) <|
                  .i (.chk (.cmp .le (.len (.app (.app .nil (.v 11)) (.cons (.g (.cons (.vi .i64 (.v 15)) (.cons (.vi .i64 (.v 16)) (.cons (.vi .i64 (.v 17)) (.cons (.s (.v 18)) (.cons (.s (.v 19)) (.cons (.vi .i64 (.v 20)) .nil))))))) .nil))) (.z 879609302220))) <|
                  .i (.call f_spec_ActOk [(.s (.app (.app .nil (.v 11)) (.cons (.g (.cons (.vi .i64 (.v 15)) (.cons (.vi .i64 (.v 16)) (.cons (.vi .i64 (.v 17)) (.cons (.s (.v 18)) (.cons (.s (.v 19)) (.cons (.vi .i64 (.v 20)) .nil))))))) .nil)))] [.b] 23) <|
                  .ite (.v 23)
                   (
                    .i (.chk (.cmp .le (.len (.app (.v 11) (.cons (.g (.cons (.vi .i64 (.v 15)) (.cons (.vi .i64 (.v 16)) (.cons (.vi .i64 (.v 17)) (.cons (.s (.v 18)) (.cons (.s (.v 19)) (.cons (.vi .i64 (.v 20)) .nil))))))) .nil))) (.z 879609302220))) <|
                    .next [(.app (.v 11) (.cons (.g (.cons (.vi .i64 (.v 15)) (.cons (.vi .i64 (.v 16)) (.cons (.vi .i64 (.v 17)) (.cons (.s (.v 18)) (.cons (.s (.v 19)) (.cons (.vi .i64 (.v 20)) .nil))))))) .nil)), (.bin .sub .i64 (.v 12) (.z 1)), (.v 22), (.v 21)])
                   (
                    .next [(.v 11), (.bin .sub .i64 (.v 12) (.z 1)), (.v 22), (.v 21)]))
                 (
                  .esc <|
                  .done [(.s (.v 11)), (.s (.v 14)), (.vi .i64 (.v 13))])))))))
/-- spec_l20Acts -/
def R_spec_l20Acts : R :=
  .i (.call f_spec_l20Rd_pick [(.s (.v 0)), (.vi .i64 (.v 1)), (.vi .i64 (.z 4))] [.i .i64, .s, .i .i64] 2) <|
  .loop 5 [.nil, (.bin .add .i64 (.z 1) (.v 2)), (.v 4), (.v 3)] <|
    .ite (.cmp .lt (.z 0) (.v 6))
     (
      .i (.call f_spec_l20Act [(.s (.v 8)), (.vi .i64 (.v 7))] [.s, .s, .i .i64] 9) <|
      .i (.chk (.cmp .le (.len (.app (.v 5) (.cons (.s (.v 9)) .nil))) (.z 2932031007402))) <|
      .next [(.app (.v 5) (.cons (.s (.v 9)) .nil)), (.bin .sub .i64 (.v 6) (.z 1)), (.v 11), (.v 10)])
     (
      .esc <|
      .done [(.s (.v 5)), (.s (.v 8)), (.vi .i64 (.v 7))])
/-- spec_CatOk -/
def R_spec_CatOk : R :=
  .i (.call f_spec_l1In [(.vi .i64 (.len (.v 0))), (.vi .i64 (.z 1)), (.vi .i64 (.z 4))] [.b] 1) <|
  .ite (.not (.v 1))
   (
    .done [(.vb .ff)])
   (
    .loop 2 [(.z 0)] <|
      .ite (.cmp .lt (.v 2) (.len (.v 0)))
       (
        .i (.idx (.v 0) (.v 2) (.one (.s)) 3) <|
        .i (.call f_spec_ActOk [(.s (.v 3))] [.b] 4) <|
        .ite (.not (.v 4))
         (
          .esc <|
          .done [(.vb .ff)])
         (
          .next [(.bin .add .i64 (.v 2) (.z 1))]))
       (
        .esc <|
        .done [(.vb .tt)]))
/-- spec_FrmPot -/
def R_spec_FrmPot : R :=
  .i (.call f_spec_l1In [(.vi .i64 (.v 0)), (.vi .i64 (.z 0)), (.vi .i64 (.z 2))] [.b] 1) <|
  .ite (.not (.v 1))
   (
    .done [(.s .nil), (.s .nil), (.vi .i64 (.z 0))])
   (
    .i (.call f_spec_FrmZero [] [.s, .s, .i .i64] 2) <|
    .i (.chk (.cmp .le (.z 0) (.v 0))) <|
    .i (.chk (.cmp .lt (.v 0) (.len (.v 2)))) <|
    .i (.idx (.v 2) (.v 0) (.one (.i .i64)) 5) <|
    .done [(.s (.set (.v 2) (.v 0) (.vi .i64 (.z 1)))), (.s (.v 3)), (.vi .i64 (.v 4))])
/-- spec_l1Sum -/
def R_spec_l1Sum : R :=
  .i (.call f_spec_FrmZero [] [.s, .s, .i .i64] 7) <|
  .loop 10 [(.v 7), (.z 0)] <|
    .ite (.cmp .lt (.v 11) (.z 3))
     (
      .i (.idx (.v 0) (.v 11) (.one (.i .i64)) 12) <|
      .i (.idx (.v 3) (.v 11) (.one (.i .i64)) 13) <|
      .i (.chk (.cmp .le (.z 0) (.v 11))) <|
      .i (.chk (.cmp .lt (.v 11) (.len (.v 10)))) <|
      .i (.idx (.v 10) (.v 11) (.one (.i .i64)) 14) <|
      .next [(.set (.v 10) (.v 11) (.vi .i64 (.bin .add .i64 (.v 12) (.bin .mul .i64 (.v 6) (.v 13))))), (.bin .add .i64 (.v 11) (.z 1))])
     (
      .esc <|
      .loop 12 [(.v 8), (.z 0)] <|
        .ite (.cmp .lt (.v 13) (.z 2))
         (
          .i (.idx (.v 1) (.v 13) (.one (.i .i64)) 14) <|
          .i (.idx (.v 4) (.v 13) (.one (.i .i64)) 15) <|
          .i (.chk (.cmp .le (.z 0) (.v 13))) <|
          .i (.chk (.cmp .lt (.v 13) (.len (.v 12)))) <|
          .i (.idx (.v 12) (.v 13) (.one (.i .i64)) 16) <|
          .next [(.set (.v 12) (.v 13) (.vi .i64 (.bin .add .i64 (.v 14) (.bin .mul .i64 (.v 6) (.v 15))))), (.bin .add .i64 (.v 13) (.z 1))])
         (
          .esc <|
          .done [(.s (.v 10)), (.s (.v 12)), (.vi .i64 (.bin .add .i64 (.v 2) (.bin .mul .i64 (.v 6) (.v 5))))]))
/-- spec_l3Copy -/
def R_spec_l3Copy : R :=
  .loop 1 [.nil, (.z 0)] <|
    .ite (.cmp .lt (.v 2) (.len (.v 0)))
     (
      .i (.call f_spec_FrmZero [] [.s, .s, .i .i64] 3) <|
      .i (.idx (.v 0) (.v 2) (.g [.s, .s, .i .i64]) 6) <|
      .i (.call f_spec_l1Sum [(.s (.v 3)), (.s (.v 4)), (.vi .i64 (.v 5)), (.s (.v 6)), (.s (.v 7)), (.vi .i64 (.v 8)), (.vi .i64 (.z 1))] [.s, .s, .i .i64] 9) <|
      .i (.chk (.cmp .le (.len (.app (.v 1) (.cons (.g (.cons (.s (.v 9)) (.cons (.s (.v 10)) (.cons (.vi .i64 (.v 11)) .nil)))) .nil))) (.z 1256584717458))) <|
      .next [(.app (.v 1) (.cons (.g (.cons (.s (.v 9)) (.cons (.s (.v 10)) (.cons (.vi .i64 (.v 11)) .nil)))) .nil)), (.bin .add .i64 (.v 2) (.z 1))])
     (
      .esc <|
      .done [(.s (.v 1))])
/-- spec_FrmOk -/
def R_spec_FrmOk : R :=
  .i (.call f_spec_l1All [(.s (.v 0)), (.vi .i64 (.z 3)), (.vi .i64 (.z 10000000))] [.b] 3) <|
  .ite (.v 3)
   (
    .i (.call f_spec_l1All [(.s (.v 1)), (.vi .i64 (.z 2)), (.vi .i64 (.z 10000000))] [.b] 4) <|
    .ite (.v 4)
     (
      .i (.call f_spec_l1In [(.vi .i64 (.v 2)), (.vi .i64 (.z (-10000000))), (.vi .i64 (.z 10000000))] [.b] 5) <|
      .done [(.vb (.v 5))])
     (
      .done [(.vb .ff)]))
   (
    .done [(.vb .ff)])
/-- spec_FrmInto -/
def R_spec_FrmInto : R :=
  .i (.call f_spec_FrmOk [(.s (.v 0)), (.s (.v 1)), (.vi .i64 (.v 2))] [.b] 4) <|
  .ite (.not (.v 4))
   (
    .done [(.s .nil), (.s .nil), (.vi .i64 (.z 0))])
   (
    .ite (.not (.cmp .eq (.len (.v 3)) (.z 3)))
     (
      .done [(.s .nil), (.s .nil), (.vi .i64 (.z 0))])
     (
      .i (.idx (.v 3) (.z 0) (.g [.s, .s, .i .i64]) 5) <|
      .i (.call f_spec_FrmOk [(.s (.v 5)), (.s (.v 6)), (.vi .i64 (.v 7))] [.b] 8) <|
      .ite (.not (.v 8))
       (
        .done [(.s .nil), (.s .nil), (.vi .i64 (.z 0))])
       (
        .i (.idx (.v 3) (.z 1) (.g [.s, .s, .i .i64]) 9) <|
        .i (.call f_spec_FrmOk [(.s (.v 9)), (.s (.v 10)), (.vi .i64 (.v 11))] [.b] 12) <|
        .ite (.not (.v 12))
         (
          .done [(.s .nil), (.s .nil), (.vi .i64 (.z 0))])
         (
          .i (.idx (.v 3) (.z 2) (.g [.s, .s, .i .i64]) 13) <|
          .i (.call f_spec_FrmOk [(.s (.v 13)), (.s (.v 14)), (.vi .i64 (.v 15))] [.b] 16) <|
          .ite (.not (.v 16))
           (
            .done [(.s .nil), (.s .nil), (.vi .i64 (.z 0))])
           (
            .i (.chk (.cmp .le (.len (.v 1)) (.z 8796093022208))) <|
            .i (.head 1 (.v 1)) <|
            .i (.chk (.cmp .le (.len (.app .nil (.v 1))) (.z 8796093022208))) <|
            .loop 17 [(.cons (.vi .i64 (.z 0)) (.cons (.vi .i64 (.z 0)) (.cons (.vi .i64 (.z 0)) .nil))), (.app .nil (.v 1)), (.z 0), (.v 2)] <|
              .ite (.cmp .lt (.v 19) (.z 3))
               (
                .i (.idx (.v 3) (.v 19) (.g [.s, .s, .i .i64]) 21) <|
                .i (.idx (.v 0) (.v 19) (.one (.i .i64)) 24) <|
                .i (.call f_spec_l1Sum [(.s (.v 17)), (.s (.v 18)), (.vi .i64 (.v 20)), (.s (.v 21)), (.s (.v 22)), (.vi .i64 (.v 23)), (.vi .i64 (.v 24))] [.s, .s, .i .i64] 25) <|
                .next [(.v 25), (.v 26), (.bin .add .i64 (.v 19) (.z 1)), (.v 27)])
               (
                .esc <|
                .i (.call f_spec_FrmOk [(.s (.v 17)), (.s (.v 18)), (.vi .i64 (.v 20))] [.b] 21) <|
                .ite (.not (.v 21))
                 (
                  .done [(.s .nil), (.s .nil), (.vi .i64 (.z 0))])
                 (
                  .done [(.s (.v 17)), (.s (.v 18)), (.vi .i64 (.v 20))])))))))
/-- spec_l3Minus -/
def R_spec_l3Minus : R :=
  .i (.call f_spec_FrmZero [] [.s, .s, .i .i64] 3) <|
  .i (.call f_spec_l1Sum [(.s (.v 3)), (.s (.v 4)), (.vi .i64 (.v 5)), (.s (.v 0)), (.s (.v 1)), (.vi .i64 (.v 2)), (.vi .i64 (.z (-1)))] [.s, .s, .i .i64] 6) <|
  .done [(.s (.v 6)), (.s (.v 7)), (.vi .i64 (.bin .sub .i64 (.v 8) (.z 1)))]
/-- spec_l3Row -/
def R_spec_l3Row : R :=
  .i (.call f_spec_l3Copy [(.s (.v 1))] [.s] 3) <|
  .i (.call f_spec_l3Copy [(.s (.v 2))] [.s] 4) <|
  .loop 5 [.nil, (.z 0)] <|
    .ite (.cmp .lt (.v 6) (.z 3))
     (
      .i (.idx (.v 0) (.v 6) (.g [.s, .s, .i .i64]) 7) <|
      .i (.call f_spec_FrmPot [(.vi .i64 (.v 6))] [.s, .s, .i .i64] 10) <|
      .i (.call f_spec_l1Sum [(.s (.v 7)), (.s (.v 8)), (.vi .i64 (.v 9)), (.s (.v 10)), (.s (.v 11)), (.vi .i64 (.v 12)), (.vi .i64 (.z (-1)))] [.s, .s, .i .i64] 13) <|
      .i (.chk (.cmp .le (.len (.app (.v 5) (.cons (.g (.cons (.s (.v 13)) (.cons (.s (.v 14)) (.cons (.vi .i64 (.v 15)) .nil)))) .nil))) (.z 1256584717458))) <|
      .next [(.app (.v 5) (.cons (.g (.cons (.s (.v 13)) (.cons (.s (.v 14)) (.cons (.vi .i64 (.v 15)) .nil)))) .nil)), (.bin .add .i64 (.v 6) (.z 1))])
     (
      .esc <|
      .done [(.s (.v 3)), (.s (.v 5)), (.s (.v 4)), (.vb .ff)])
/-- spec_l3Walk -/
def R_spec_l3Walk : R :=
  .loop 5 [(.v 2), (.v 4), (.v 1)] <|
    .ite (.cmp .lt (.v 7) (.len (.v 0)))
     (
      .i (.idx (.v 0) (.v 7) (.g [.i .i64, .i .i64, .i .i64, .s, .s, .i .i64]) 8) <|
      .ite (.cmp .eq (.v 8) (.z 4))
       (
        .i (.call f_spec_l3Copy [(.s (.v 3))] [.s] 14) <|
        .esc <|
        .done [(.s (.cons (.g (.cons (.s (.v 14)) (.cons (.s .nil) (.cons (.s .nil) (.cons (.vb .tt) .nil))))) .nil))])
       (
        .i (.call f_spec_FrmInto [(.s (.v 11)), (.s (.v 12)), (.vi .i64 (.v 13)), (.s (.v 5))] [.s, .s, .i .i64] 14) <|
        .ite (.cmp .eq (.v 8) (.z 1))
         (
          .i (.call f_spec_l3Copy [(.s (.v 5))] [.s] 17) <|
          .i (.call f_spec_l3Copy [(.s (.v 3))] [.s] 18) <|
          .i (.chk (.cmp .le (.len (.app (.v 18) (.cons (.g (.cons (.s (.v 14)) (.cons (.s (.v 15)) (.cons (.vi .i64 (.v 16)) .nil)))) .nil))) (.z 1256584717458))) <|
          .i (.call f_spec_l3Copy [(.s (.v 6))] [.s] 19) <|
          .i (.call f_spec_l3Walk [(.s (.v 0)), (.vi .i64 (.bin .add .i64 (.v 7) (.z 1))), (.s (.v 17)), (.s (.app (.v 18) (.cons (.g (.cons (.s (.v 14)) (.cons (.s (.v 15)) (.cons (.vi .i64 (.v 16)) .nil)))) .nil))), (.s (.v 19))] [.s] 20) <|
          .i (.call f_spec_l3Copy [(.s (.v 5))] [.s] 21) <|
          .i (.call f_spec_l3Copy [(.s (.v 3))] [.s] 22) <|
          .i (.call f_spec_l3Minus [(.s (.v 14)), (.s (.v 15)), (.vi .i64 (.v 16))] [.s, .s, .i .i64] 23) <|
          .i (.chk (.cmp .le (.len (.app (.v 22) (.cons (.g (.cons (.s (.v 23)) (.cons (.s (.v 24)) (.cons (.vi .i64 (.v 25)) .nil)))) .nil))) (.z 1256584717458))) <|
          .i (.call f_spec_l3Copy [(.s (.v 6))] [.s] 26) <|
          .i (.call f_spec_l3Walk [(.s (.v 0)), (.vi .i64 (.bin .add .i64 (.bin .add .i64 (.v 7) (.z 1)) (.v 10))), (.s (.v 21)), (.s (.app (.v 22) (.cons (.g (.cons (.s (.v 23)) (.cons (.s (.v 24)) (.cons (.vi .i64 (.v 25)) .nil)))) .nil))), (.s (.v 26))] [.s] 27) <|
          .i (.chk (.cmp .le (.len (.v 27)) (.z 879609302220))) <|
          .i (.head 4 (.v 27)) <|
          .i (.chk (.cmp .le (.len (.app (.v 20) (.v 27))) (.z 879609302220))) <|
          .esc <|
          .done [(.s (.app (.v 20) (.v 27)))])
         (
          .ite (.cmp .eq (.v 8) (.z 2))
           (
            .i (.call f_spec_l3Copy [(.s (.v 5))] [.s] 17) <|
            .i (.chk (.cmp .le (.z 0) (.v 9))) <|
            .i (.chk (.cmp .lt (.v 9) (.len (.v 17)))) <|
            .i (.idx (.v 17) (.v 9) (.g [.s, .s, .i .i64]) 18) <|
            .i (.call f_spec_l1Sum [(.s (.v 18)), (.s (.v 19)), (.vi .i64 (.v 20)), (.s (.v 14)), (.s (.v 15)), (.vi .i64 (.v 16)), (.vi .i64 (.z 1))] [.s, .s, .i .i64] 21) <|
            .i (.chk (.cmp .le (.z 0) (.v 9))) <|
            .i (.chk (.cmp .lt (.v 9) (.len (.v 17)))) <|
            .i (.idx (.v 17) (.v 9) (.g [.s, .s, .i .i64]) 24) <|
            .next [(.set (.v 17) (.v 9) (.g (.cons (.s (.v 21)) (.cons (.s (.v 22)) (.cons (.vi .i64 (.v 23)) .nil))))), (.v 6), (.bin .add .i64 (.v 7) (.z 1))])
           (
            .i (.call f_spec_l3Copy [(.s (.v 6))] [.s] 17) <|
            .i (.chk (.cmp .le (.len (.app (.v 17) (.cons (.g (.cons (.s (.v 14)) (.cons (.s (.v 15)) (.cons (.vi .i64 (.v 16)) .nil)))) .nil))) (.z 1256584717458))) <|
            .next [(.v 5), (.app (.v 17) (.cons (.g (.cons (.s (.v 14)) (.cons (.s (.v 15)) (.cons (.vi .i64 (.v 16)) .nil)))) .nil)), (.bin .add .i64 (.v 7) (.z 1))]))))
     (
      .esc <|
      .i (.call f_spec_l3Row [(.s (.v 5)), (.s (.v 3)), (.s (.v 6))] [.s, .s, .s, .b] 8) <|
      .done [(.s (.cons (.g (.cons (.s (.v 8)) (.cons (.s (.v 9)) (.cons (.s (.v 10)) (.cons (.vb (.v 11)) .nil))))) .nil))])
/-- spec_RowsOf -/
def R_spec_RowsOf : R :=
  .i (.call f_spec_ActOk [(.s (.v 0))] [.b] 1) <|
  .ite (.not (.v 1))
   (
    .done [(.s .nil)])
   (
    .i (.call f_spec_FrmPot [(.vi .i64 (.z 0))] [.s, .s, .i .i64] 2) <|
    .i (.call f_spec_FrmPot [(.vi .i64 (.z 1))] [.s, .s, .i .i64] 5) <|
    .i (.call f_spec_FrmPot [(.vi .i64 (.z 2))] [.s, .s, .i .i64] 8) <|
    .i (.call f_spec_l3Walk [(.s (.v 0)), (.vi .i64 (.z 0)), (.s (.cons (.g (.cons (.s (.v 2)) (.cons (.s (.v 3)) (.cons (.vi .i64 (.v 4)) .nil)))) (.cons (.g (.cons (.s (.v 5)) (.cons (.s (.v 6)) (.cons (.vi .i64 (.v 7)) .nil)))) (.cons (.g (.cons (.s (.v 8)) (.cons (.s (.v 9)) (.cons (.vi .i64 (.v 10)) .nil)))) .nil)))), (.s .nil), (.s .nil)] [.s] 11) <|
    .done [(.s (.v 11))])
/-- spec_l4Reads -/
def R_spec_l4Reads : R :=
  .i (.chk (.cmp .le (.len (.v 0)) (.z 70368744177664))) <|
  .i (.head 1 (.v 0)) <|
  .i (.chk (.cmp .le (.len (.app .nil (.v 0))) (.z 70368744177664))) <|
  .loop 2 [(.app .nil (.v 0)), (.z 0)] <|
    .ite (.cmp .lt (.v 3) (.len (.v 1)))
     (
      .loop 4 [(.v 2), (.z 0)] <|
        .ite (.cmp .lt (.v 5) (.z 3))
         (
          .i (.idx (.v 1) (.v 3) (.g [.s, .s, .i .i64]) 6) <|
          .i (.idx (.v 6) (.v 5) (.one (.i .i64)) 9) <|
          .ite (.not (.cmp .eq (.v 9) (.z 0)))
           (
            .i (.chk (.cmp .le (.z 0) (.v 5))) <|
            .i (.chk (.cmp .lt (.v 5) (.len (.v 4)))) <|
            .i (.idx (.v 4) (.v 5) (.one (.b)) 10) <|
            .next [(.set (.v 4) (.v 5) (.vb .tt)), (.bin .add .i64 (.v 5) (.z 1))])
           (
            .next [(.v 4), (.bin .add .i64 (.v 5) (.z 1))]))
         (
          .esc <|
          .next [(.v 4), (.bin .add .i64 (.v 3) (.z 1))]))
     (
      .esc <|
      .done [(.s (.v 2))])
/-- spec_CatPart -/
def R_spec_CatPart : R :=
  .loop 3 [.nil, (.z 0), (.z 0)] <|
    .ite (.cmp .lt (.v 5) (.len (.v 0)))
     (
      .ite (.cmp .eq (.v 4) (.z 0))
       (
        .i (.idx (.v 0) (.v 5) (.one (.i .i64)) 6) <|
        .ite (.cmp .lt (.z 0) (.v 6))
         (
          .i (.idx (.v 0) (.v 5) (.one (.i .i64)) 7) <|
          .i (.chk (.cmp .le (.len (.app (.v 3) (.cons (.vi .i64 (.bin .mul .i64 (.z 1) (.v 7))) .nil))) (.z 8796093022208))) <|
          .next [(.app (.v 3) (.cons (.vi .i64 (.bin .mul .i64 (.z 1) (.v 7))) .nil)), (.z 1), (.bin .add .i64 (.v 5) (.z 1))])
         (
          .ite (.cmp .eq (.v 4) (.z 0))
           (
            .i (.idx (.v 0) (.v 5) (.one (.i .i64)) 7) <|
            .ite (.cmp .lt (.v 7) (.z 0))
             (
              .i (.idx (.v 0) (.v 5) (.one (.i .i64)) 8) <|
              .i (.chk (.cmp .le (.len (.app (.v 3) (.cons (.vi .i64 (.bin .mul .i64 (.z (-1)) (.v 8))) .nil))) (.z 8796093022208))) <|
              .next [(.app (.v 3) (.cons (.vi .i64 (.bin .mul .i64 (.z (-1)) (.v 8))) .nil)), (.z (-1)), (.bin .add .i64 (.v 5) (.z 1))])
             (
              .i (.idx (.v 0) (.v 5) (.one (.i .i64)) 8) <|
              .i (.chk (.cmp .le (.len (.app (.v 3) (.cons (.vi .i64 (.bin .mul .i64 (.v 4) (.v 8))) .nil))) (.z 8796093022208))) <|
              .next [(.app (.v 3) (.cons (.vi .i64 (.bin .mul .i64 (.v 4) (.v 8))) .nil)), (.v 4), (.bin .add .i64 (.v 5) (.z 1))]))
           (
            .i (.idx (.v 0) (.v 5) (.one (.i .i64)) 7) <|
            .i (.chk (.cmp .le (.len (.app (.v 3) (.cons (.vi .i64 (.bin .mul .i64 (.v 4) (.v 7))) .nil))) (.z 8796093022208))) <|
            .next [(.app (.v 3) (.cons (.vi .i64 (.bin .mul .i64 (.v 4) (.v 7))) .nil)), (.v 4), (.bin .add .i64 (.v 5) (.z 1))])))
       (
        .ite (.cmp .eq (.v 4) (.z 0))
         (
          .i (.idx (.v 0) (.v 5) (.one (.i .i64)) 6) <|
          .ite (.cmp .lt (.v 6) (.z 0))
           (
            .i (.idx (.v 0) (.v 5) (.one (.i .i64)) 7) <|
            .i (.chk (.cmp .le (.len (.app (.v 3) (.cons (.vi .i64 (.bin .mul .i64 (.z (-1)) (.v 7))) .nil))) (.z 8796093022208))) <|
            .next [(.app (.v 3) (.cons (.vi .i64 (.bin .mul .i64 (.z (-1)) (.v 7))) .nil)), (.z (-1)), (.bin .add .i64 (.v 5) (.z 1))])
           (
            .i (.idx (.v 0) (.v 5) (.one (.i .i64)) 7) <|
            .i (.chk (.cmp .le (.len (.app (.v 3) (.cons (.vi .i64 (.bin .mul .i64 (.v 4) (.v 7))) .nil))) (.z 8796093022208))) <|
            .next [(.app (.v 3) (.cons (.vi .i64 (.bin .mul .i64 (.v 4) (.v 7))) .nil)), (.v 4), (.bin .add .i64 (.v 5) (.z 1))]))
         (
          .i (.idx (.v 0) (.v 5) (.one (.i .i64)) 6) <|
          .i (.chk (.cmp .le (.len (.app (.v 3) (.cons (.vi .i64 (.bin .mul .i64 (.v 4) (.v 6))) .nil))) (.z 8796093022208))) <|
          .next [(.app (.v 3) (.cons (.vi .i64 (.bin .mul .i64 (.v 4) (.v 6))) .nil)), (.v 4), (.bin .add .i64 (.v 5) (.z 1))])))
     (
      .esc <|
      .done [(.s (.v 3))])
/-- spec_l4Same -/
def R_spec_l4Same : R :=
  .ite (.not (.cmp .eq (.len (.v 0)) (.len (.v 1))))
   (
    .done [(.vb .ff)])
   (
    .loop 2 [(.z 0)] <|
      .ite (.cmp .lt (.v 2) (.len (.v 0)))
       (
        .i (.idx (.v 0) (.v 2) (.one (.i .i64)) 3) <|
        .i (.idx (.v 1) (.v 2) (.one (.i .i64)) 4) <|
        .ite (.not (.cmp .eq (.v 3) (.v 4)))
         (
          .esc <|
          .done [(.vb .ff)])
         (
          .next [(.bin .add .i64 (.v 2) (.z 1))]))
       (
        .esc <|
        .done [(.vb .tt)]))
/-- spec_CatHas -/
def R_spec_CatHas : R :=
  .loop 2 [(.z 0)] <|
    .ite (.cmp .lt (.v 2) (.len (.v 0)))
     (
      .i (.idx (.v 0) (.v 2) (.one (.s)) 3) <|
      .i (.call f_spec_l4Same [(.s (.v 3)), (.s (.v 1))] [.b] 4) <|
      .ite (.v 4)
       (
        .esc <|
        .done [(.vi .i64 (.v 2))])
       (
        .next [(.bin .add .i64 (.v 2) (.z 1))]))
     (
      .esc <|
      .done [(.vi .i64 (.z (-1)))])
/-- spec_l4Both -/
def R_spec_l4Both : R :=
  .loop 1 [.nil, (.z 0)] <|
    .ite (.cmp .lt (.v 2) (.z 3))
     (
      .i (.call f_spec_FrmPot [(.vi .i64 (.v 2))] [.s, .s, .i .i64] 3) <|
      .i (.chk (.cmp .le (.len (.app (.v 1) (.cons (.s (.v 3)) .nil))) (.z 2932031007402))) <|
      .next [(.app (.v 1) (.cons (.s (.v 3)) .nil)), (.bin .add .i64 (.v 2) (.z 1))])
     (
      .esc <|
      .loop 3 [(.v 1), (.cons (.vb .ff) (.cons (.vb .ff) (.cons (.vb .ff) .nil))), (.z 0)] <|
        .ite (.cmp .lt (.v 5) (.len (.v 0)))
         (
          .i (.idx (.v 0) (.v 5) (.one (.s)) 6) <|
          .i (.call f_spec_RowsOf [(.s (.v 6))] [.s] 7) <|
          .loop 8 [(.v 3), (.v 4), (.z 0)] <|
            .ite (.cmp .lt (.v 10) (.len (.v 7)))
             (
              .i (.chk (.cmp .le (.z 0) (.v 10))) <|
              .i (.chk (.cmp .lt (.v 10) (.len (.v 7)))) <|
              .i (.idx (.v 7) (.v 10) (.g [.s, .s, .s, .b]) 11) <|
              .i (.call f_spec_l4Reads [(.s (.v 9)), (.s (.v 12))] [.s] 15) <|
              .i (.chk (.cmp .le (.z 0) (.v 10))) <|
              .i (.chk (.cmp .lt (.v 10) (.len (.v 7)))) <|
              .i (.idx (.v 7) (.v 10) (.g [.s, .s, .s, .b]) 16) <|
              .i (.call f_spec_l4Reads [(.s (.v 15)), (.s (.v 18))] [.s] 20) <|
              .loop 21 [(.v 8), (.z 0)] <|
                .i (.chk (.cmp .le (.z 0) (.v 10))) <|
                .i (.chk (.cmp .lt (.v 10) (.len (.v 7)))) <|
                .i (.idx (.v 7) (.v 10) (.g [.s, .s, .s, .b]) 23) <|
                .ite (.cmp .lt (.v 22) (.len (.v 23)))
                 (
                  .i (.chk (.cmp .le (.z 0) (.v 10))) <|
                  .i (.chk (.cmp .lt (.v 10) (.len (.v 7)))) <|
                  .i (.idx (.v 7) (.v 10) (.g [.s, .s, .s, .b]) 27) <|
                  .i (.idx (.v 27) (.v 22) (.g [.s, .s, .i .i64]) 31) <|
                  .i (.call f_spec_CatPart [(.s (.v 31)), (.s (.v 32)), (.vi .i64 (.v 33))] [.s] 34) <|
                  .i (.call f_spec_CatHas [(.s (.v 21)), (.s (.v 34))] [.i .i64] 35) <|
                  .ite (.cmp .lt (.v 35) (.z 0))
                   (
                    .i (.call f_spec_FrmZero [] [.s, .s, .i .i64] 36) <|
                    .i (.call f_spec_l4Same [(.s (.v 34)), (.s (.v 36))] [.b] 39) <|
                    .ite (.not (.v 39))
                     (
                      .i (.chk (.cmp .le (.len (.app (.v 21) (.cons (.s (.v 34)) .nil))) (.z 2932031007402))) <|
                      .next [(.app (.v 21) (.cons (.s (.v 34)) .nil)), (.bin .add .i64 (.v 22) (.z 1))])
                     (
                      .next [(.v 21), (.bin .add .i64 (.v 22) (.z 1))]))
                   (
                    .next [(.v 21), (.bin .add .i64 (.v 22) (.z 1))]))
                 (
                  .esc <|
                  .next [(.v 21), (.v 20), (.bin .add .i64 (.v 10) (.z 1))]))
             (
              .esc <|
              .next [(.v 8), (.v 9), (.bin .add .i64 (.v 5) (.z 1))]))
         (
          .esc <|
          .done [(.s (.v 3)), (.s (.v 4))]))
/-- spec_CatForms -/
def R_spec_CatForms : R :=
  .i (.call f_spec_CatOk [(.s (.v 0))] [.b] 1) <|
  .ite (.not (.v 1))
   (
    .done [(.s .nil)])
   (
    .i (.call f_spec_l4Both [(.s (.v 0))] [.s, .s] 2) <|
    .done [(.s (.v 2))])
/-- spec_DrawTrtAll -/
def R_spec_DrawTrtAll : R :=
  .i (.call f_spec_l20Open [(.s (.v 0))] [.s, .i .i64] 1) <|
  .i (.call f_spec_l20Treaty [(.s (.v 1)), (.vi .i64 (.v 2)), (.vi .i64 (.z 12))] [.s, .s, .s, .i .i64] 3) <|
  .loop 7 [.nil, (.z 0), (.v 6), (.v 5)] <|
    .ite (.cmp .lt (.v 8) (.len (.v 4)))
     (
      .i (.call f_spec_l20Added [(.s (.v 10)), (.vi .i64 (.v 9)), (.vi .i64 (.z 16))] [.s, .s, .i .i64] 11) <|
      .i (.chk (.cmp .le (.len (.app (.v 7) (.cons (.s (.v 11)) .nil))) (.z 2932031007402))) <|
      .next [(.app (.v 7) (.cons (.s (.v 11)) .nil)), (.bin .add .i64 (.v 8) (.z 1)), (.v 13), (.v 12)])
     (
      .esc <|
      .i (.call f_spec_l20Rd_pick [(.s (.v 10)), (.vi .i64 (.v 9)), (.vi .i64 (.z 12))] [.i .i64, .s, .i .i64] 11) <|
      .ite (.cmp .eq (.v 11) (.z 0))
       (
        .i (.chk (.cmp .le (.len (.app (.v 7) (.cons (.s (.cons (.vi .i64 (.z 0)) (.cons (.vi .i64 (.z 0)) (.cons (.vi .i64 (.z 0)) .nil)))) .nil))) (.z 2932031007402))) <|
        .i (.call f_spec_l20Acts [(.s (.v 12)), (.vi .i64 (.v 13))] [.s, .s, .i .i64] 14) <|
        .i (.call f_spec_CatForms [(.s (.v 14))] [.s] 17) <|
        .done [(.s (.v 3)), (.s (.v 4)), (.s (.v 17)), (.s (.app (.v 7) (.cons (.s (.cons (.vi .i64 (.z 0)) (.cons (.vi .i64 (.z 0)) (.cons (.vi .i64 (.z 0)) .nil)))) .nil)))])
       (
        .i (.call f_spec_l20Acts [(.s (.v 12)), (.vi .i64 (.v 13))] [.s, .s, .i .i64] 14) <|
        .i (.call f_spec_CatForms [(.s (.v 14))] [.s] 17) <|
        .done [(.s (.v 3)), (.s (.v 4)), (.s (.v 17)), (.s (.v 7))]))
/-- impl_in -/
def R_impl_in : R :=
  .ite (.cmp .le (.v 1) (.v 0))
   (
    .done [(.vb (.cmp .le (.v 0) (.v 2)))])
   (
    .done [(.vb .ff)])
/-- impl_TrtOk_1 -/
def R_impl_TrtOk_1 : R :=
  .i (.call f_impl_in [(.vi .i64 (.v 0)), (.vi .i64 (.z 0)), (.vi .i64 (.z 50))] [.b] 1) <|
  .done [(.vb (.not (.v 1)))]
/-- impl_within_1 -/
def R_impl_within_1 : R :=
  .i (.get (.da 1) (.q [.i .i64]) 2) <|
  .i (.get (.da 1) (.q [.i .i64]) 3) <|
  .i (.call f_impl_in [(.vi .i64 (.v 0)), (.vi .i64 (.bin .sub .i64 (.z 0) (.v 2))), (.vi .i64 (.v 3))] [.b] 4) <|
  .done [(.vb (.not (.v 4)))]
/-- slices_IndexFunc_Sint_int -/
def R_slices_IndexFunc_Sint_int : R :=
  .loop 2 [(.z 0)] <|
    .ite (.cmp .lt (.v 2) (.len (.v 0)))
     (
      .i (.idx (.v 0) (.v 2) (.one (.i .i64)) 3) <|
      .i (.callv (.da 1) [(.vi .i64 (.v 3))] [none] [.b] 4) <|
      .ite (.v 4)
       (
        .esc <|
        .done [(.vi .i64 (.v 2))])
       (
        .next [(.bin .add .i64 (.v 2) (.z 1))]))
     (
      .esc <|
      .done [(.vi .i64 (.z (-1)))])
/-- slices_ContainsFunc_Sint_int -/
def R_slices_ContainsFunc_Sint_int : R :=
  .i (.call f_slices_IndexFunc_Sint_int [(.s (.v 0)), (.da 1)] [.i .i64] 2) <|
  .done [(.vb (.cmp .le (.z 0) (.v 2)))]
/-- impl_within -/
def R_impl_within : R :=
  .ite (.cmp .eq (.len (.v 0)) (.v 1))
   (
    .i (.call f_slices_ContainsFunc_Sint_int [(.s (.v 0)), (.fn f_impl_within_1 (.cons (.q (.cons (.vi .i64 (.v 2)) .nil)) .nil))] [.b] 3) <|
    .done [(.vb (.not (.v 3)))])
   (
    .done [(.vb .ff)])
/-- impl_ValOk -/
def R_impl_ValOk : R :=
  .i (.call f_impl_within [(.s (.v 0)), (.vi .i64 (.z 3)), (.vi .i64 (.z 10000))] [.b] 1) <|
  .done [(.vb (.v 1))]
/-- impl_TrtOk -/
def R_impl_TrtOk : R :=
  .i (.call f_impl_ValOk [(.s (.v 0))] [.b] 2) <|
  .ite (.v 2)
   (
    .i (.call f_impl_in [(.vi .i64 (.len (.v 1))), (.vi .i64 (.z 1)), (.vi .i64 (.z 3))] [.b] 3) <|
    .ite (.v 3)
     (
      .i (.call f_slices_ContainsFunc_Sint_int [(.s (.v 1)), (.fn f_impl_TrtOk_1 .nil)] [.b] 4) <|
      .done [(.vb (.not (.v 4)))])
     (
      .done [(.vb .ff)]))
   (
    .done [(.vb .ff)])
/-- slices_IndexFunc_SSint_Sint -/
def R_slices_IndexFunc_SSint_Sint : R :=
  .loop 2 [(.z 0)] <|
    .ite (.cmp .lt (.v 2) (.len (.v 0)))
     (
      .i (.idx (.v 0) (.v 2) (.one (.s)) 3) <|
      .i (.callv (.da 1) [(.s (.v 3))] [none] [.b] 4) <|
      .ite (.v 4)
       (
        .esc <|
        .done [(.vi .i64 (.v 2))])
       (
        .next [(.bin .add .i64 (.v 2) (.z 1))]))
     (
      .esc <|
      .done [(.vi .i64 (.z (-1)))])
/-- slices_ContainsFunc_SSint_Sint -/
def R_slices_ContainsFunc_SSint_Sint : R :=
  .i (.call f_slices_IndexFunc_SSint_Sint [(.s (.v 0)), (.da 1)] [.i .i64] 2) <|
  .done [(.vb (.cmp .le (.z 0) (.v 2)))]
/-- impl_partsOk_1 -/
def R_impl_partsOk_1 : R :=
  .i (.call f_impl_within [(.s (.v 0)), (.vi .i64 (.z 3)), (.vi .i64 (.z 10000000))] [.b] 1) <|
  .done [(.vb (.not (.v 1)))]
/-- impl_partsOk -/
def R_impl_partsOk : R :=
  .i (.call f_slices_ContainsFunc_SSint_Sint [(.s (.v 0)), (.fn f_impl_partsOk_1 .nil)] [.b] 1) <|
  .done [(.vb (.not (.v 1)))]
/-- impl_addedOk -/
def R_impl_addedOk : R :=
  .i (.call f_impl_within [(.s (.v 0)), (.vi .i64 (.z 3)), (.vi .i64 (.z 20000))] [.b] 1) <|
  .done [(.vb (.v 1))]
/-- impl_TrtTreaty_ok -/
def R_impl_TrtTreaty_ok : R :=
  .i (.call f_impl_TrtOk [(.s (.v 0)), (.s (.v 1))] [.b] 5) <|
  .ite (.v 5)
   (
    .i (.call f_impl_partsOk [(.s (.v 2))] [.b] 6) <|
    .ite (.v 6)
     (
      .i (.call f_impl_in [(.vi .i64 (.v 3)), (.vi .i64 (.z 0)), (.vi .i64 (.bin .sub .i64 (.len (.v 1)) (.z 1)))] [.b] 7) <|
      .ite (.v 7)
       (
        .i (.call f_impl_addedOk [(.s (.v 4))] [.b] 8) <|
        .done [(.vb (.v 8))])
       (
        .done [(.vb .ff)]))
     (
      .done [(.vb .ff)]))
   (
    .done [(.vb .ff)])
/-- impl_dot -/
def R_impl_dot : R :=
  .loop 2 [(.z 0), (.z 0)] <|
    .ite (.cmp .lt (.v 3) (.len (.v 0)))
     (
      .i (.idx (.v 0) (.v 3) (.one (.i .i64)) 4) <|
      .i (.idx (.v 1) (.v 3) (.one (.i .i64)) 5) <|
      .next [(.bin .add .i64 (.v 2) (.bin .mul .i64 (.v 4) (.v 5))), (.bin .add .i64 (.v 3) (.z 1))])
     (
      .esc <|
      .done [(.vi .i64 (.v 2))])
/-- impl_TrtKeeps_1 -/
def R_impl_TrtKeeps_1 : R :=
  .i (.get (.da 1) (.q [.s]) 3) <|
  .i (.call f_impl_dot [(.s (.v 0)), (.s (.v 3))] [.i .i64] 4) <|
  .i (.get (.da 2) (.q [.i .i64]) 5) <|
  .i (.get (.da 2) (.q [.i .i64]) 6) <|
  .i (.call f_impl_in [(.vi .i64 (.v 4)), (.vi .i64 (.bin .sub .i64 (.z 0) (.v 5))), (.vi .i64 (.v 6))] [.b] 7) <|
  .done [(.vb (.not (.v 7)))]
/-- impl_TrtKeeps -/
def R_impl_TrtKeeps : R :=
  .i (.call f_impl_TrtTreaty_ok [(.s (.v 0)), (.s (.v 1)), (.s (.v 2)), (.vi .i64 (.v 3)), (.s (.v 4))] [.b] 5) <|
  .ite (.not (.v 5))
   (
    .done [(.vb .ff)])
   (
    .i (.idx (.v 1) (.v 3) (.one (.i .i64)) 6) <|
    .i (.call f_slices_ContainsFunc_SSint_Sint [(.s (.v 2)), (.fn f_impl_TrtKeeps_1 (.cons (.q (.cons (.s (.v 4)) .nil)) (.cons (.q (.cons (.vi .i64 (.v 6)) .nil)) .nil)))] [.b] 7) <|
    .done [(.vb (.not (.v 7)))])
/-- impl_TrtAll -/
def R_impl_TrtAll : R :=
  .i (.call f_impl_TrtOk [(.s (.v 0)), (.s (.v 1))] [.b] 4) <|
  .ite (.not (.v 4))
   (
    .done [(.vb .ff)])
   (
    .ite (.not (.cmp .eq (.len (.v 3)) (.len (.v 1))))
     (
      .done [(.vb .ff)])
     (
      .loop 5 [(.z 0)] <|
        .ite (.cmp .lt (.v 5) (.len (.v 3)))
         (
          .i (.idx (.v 3) (.v 5) (.one (.s)) 6) <|
          .i (.call f_impl_TrtKeeps [(.s (.v 0)), (.s (.v 1)), (.s (.v 2)), (.vi .i64 (.v 5)), (.s (.v 6))] [.b] 7) <|
          .ite (.not (.v 7))
           (
            .esc <|
            .done [(.vb .ff)])
           (
            .next [(.bin .add .i64 (.v 5) (.z 1))]))
         (
          .esc <|
          .done [(.vb .tt)])))
/-- spec_ValOk -/
def R_spec_ValOk : R :=
  .i (.call f_spec_l1All [(.s (.v 0)), (.vi .i64 (.z 3)), (.vi .i64 (.z 10000))] [.b] 1) <|
  .done [(.vb (.v 1))]
/-- spec_TrtOk -/
def R_spec_TrtOk : R :=
  .i (.call f_spec_ValOk [(.s (.v 0))] [.b] 2) <|
  .ite (.not (.v 2))
   (
    .done [(.vb .ff)])
   (
    .i (.call f_spec_l1In [(.vi .i64 (.len (.v 1))), (.vi .i64 (.z 1)), (.vi .i64 (.z 3))] [.b] 3) <|
    .ite (.not (.v 3))
     (
      .done [(.vb .ff)])
     (
      .loop 4 [(.z 0)] <|
        .ite (.cmp .lt (.v 4) (.len (.v 1)))
         (
          .i (.idx (.v 1) (.v 4) (.one (.i .i64)) 5) <|
          .i (.call f_spec_l1In [(.vi .i64 (.v 5)), (.vi .i64 (.z 0)), (.vi .i64 (.z 50))] [.b] 6) <|
          .ite (.not (.v 6))
           (
            .esc <|
            .done [(.vb .ff)])
           (
            .next [(.bin .add .i64 (.v 4) (.z 1))]))
         (
          .esc <|
          .done [(.vb .tt)])))
/-- spec_l5Parts -/
def R_spec_l5Parts : R :=
  .loop 1 [(.z 0)] <|
    .ite (.cmp .lt (.v 1) (.len (.v 0)))
     (
      .i (.idx (.v 0) (.v 1) (.one (.s)) 2) <|
      .i (.call f_spec_l1All [(.s (.v 2)), (.vi .i64 (.z 3)), (.vi .i64 (.z 10000000))] [.b] 3) <|
      .ite (.not (.v 3))
       (
        .esc <|
        .done [(.vb .ff)])
       (
        .next [(.bin .add .i64 (.v 1) (.z 1))]))
     (
      .esc <|
      .done [(.vb .tt)])
/-- spec_l5Times -/
def R_spec_l5Times : R :=
  .loop 2 [(.z 0), (.z 0)] <|
    .ite (.cmp .lt (.v 3) (.z 3))
     (
      .i (.idx (.v 0) (.v 3) (.one (.i .i64)) 4) <|
      .i (.idx (.v 1) (.v 3) (.one (.i .i64)) 5) <|
      .next [(.bin .add .i64 (.v 2) (.bin .mul .i64 (.v 4) (.v 5))), (.bin .add .i64 (.v 3) (.z 1))])
     (
      .esc <|
      .done [(.vi .i64 (.v 2))])
/-- spec_TrtKeeps -/
def R_spec_TrtKeeps : R :=
  .i (.call f_spec_TrtOk [(.s (.v 0)), (.s (.v 1))] [.b] 5) <|
  .ite (.not (.v 5))
   (
    .done [(.vb .ff)])
   (
    .i (.call f_spec_l5Parts [(.s (.v 2))] [.b] 6) <|
    .ite (.not (.v 6))
     (
      .done [(.vb .ff)])
     (
      .i (.call f_spec_l1In [(.vi .i64 (.v 3)), (.vi .i64 (.z 0)), (.vi .i64 (.bin .sub .i64 (.len (.v 1)) (.z 1)))] [.b] 7) <|
      .ite (.not (.v 7))
       (
        .done [(.vb .ff)])
       (
        .i (.call f_spec_l1All [(.s (.v 4)), (.vi .i64 (.z 3)), (.vi .i64 (.z 20000))] [.b] 8) <|
        .ite (.not (.v 8))
         (
          .done [(.vb .ff)])
         (
          .loop 9 [(.z 0)] <|
            .ite (.cmp .lt (.v 9) (.len (.v 2)))
             (
              .i (.idx (.v 2) (.v 9) (.one (.s)) 10) <|
              .i (.call f_spec_l5Times [(.s (.v 10)), (.s (.v 4))] [.i .i64] 11) <|
              .i (.idx (.v 1) (.v 3) (.one (.i .i64)) 12) <|
              .i (.idx (.v 1) (.v 3) (.one (.i .i64)) 13) <|
              .i (.call f_spec_l1In [(.vi .i64 (.v 11)), (.vi .i64 (.bin .sub .i64 (.z 0) (.v 12))), (.vi .i64 (.v 13))] [.b] 14) <|
              .ite (.not (.v 14))
               (
                .esc <|
                .done [(.vb .ff)])
               (
                .next [(.bin .add .i64 (.v 9) (.z 1))]))
             (
              .esc <|
              .done [(.vb .tt)])))))
/-- spec_TrtAll -/
def R_spec_TrtAll : R :=
  .i (.call f_spec_TrtOk [(.s (.v 0)), (.s (.v 1))] [.b] 4) <|
  .ite (.not (.v 4))
   (
    .done [(.vb .ff)])
   (
    .ite (.not (.cmp .eq (.len (.v 3)) (.len (.v 1))))
     (
      .done [(.vb .ff)])
     (
      .loop 5 [(.z 0)] <|
        .ite (.cmp .lt (.v 5) (.len (.v 3)))
         (
          .i (.idx (.v 3) (.v 5) (.one (.s)) 6) <|
          .i (.call f_spec_TrtKeeps [(.s (.v 0)), (.s (.v 1)), (.s (.v 2)), (.vi .i64 (.v 5)), (.s (.v 6))] [.b] 7) <|
          .ite (.not (.v 7))
           (
            .esc <|
            .done [(.vb .ff)])
           (
            .next [(.bin .add .i64 (.v 5) (.z 1))]))
         (
          .esc <|
          .done [(.vb .tt)])))
/-- laws_FnTrtAll -/
def R_laws_FnTrtAll : R :=
  .ite (.cmp .lt (.z 1048576) (.len (.v 0)))
   (
    .done [(.vb .tt)])
   (
    .i (.call f_spec_DrawTrtAll [(.s (.v 0))] [.s, .s, .s, .s] 1) <|
    .i (.call f_impl_TrtOk [(.s (.v 1)), (.s (.v 2))] [.b] 5) <|
    .ite (.v 5)
     (
      .loop 6 [(.cmp .eq (.len (.v 4)) (.len (.v 2))), (.z 0)] <|
        .ite (.cmp .lt (.v 7) (.len (.v 4)))
         (
          .ite (.v 6)
           (
            .i (.chk (.cmp .le (.z 0) (.v 7))) <|
            .i (.chk (.cmp .lt (.v 7) (.len (.v 4)))) <|
            .i (.idx (.v 4) (.v 7) (.one (.s)) 8) <|
            .i (.call f_impl_TrtKeeps [(.s (.v 1)), (.s (.v 2)), (.s (.v 3)), (.vi .i64 (.v 7)), (.s (.v 8))] [.b] 9) <|
            .next [(.v 9), (.bin .add .i64 (.v 7) (.z 1))])
           (
            .esc <|
            .i (.call f_impl_TrtAll [(.s (.v 1)), (.s (.v 2)), (.s (.v 3)), (.s (.v 4))] [.b] 8) <|
            .ite (.beq (.v 8) (.v 6))
             (
              .i (.call f_impl_TrtAll [(.s (.v 1)), (.s (.v 2)), (.s (.v 3)), (.s (.v 4))] [.b] 9) <|
              .i (.call f_spec_TrtAll [(.s (.v 1)), (.s (.v 2)), (.s (.v 3)), (.s (.v 4))] [.b] 10) <|
              .ite (.beq (.v 9) (.v 10))
               (
                .i (.call f_impl_TrtAll [(.s (.cons (.vi .i64 (.z 0)) (.cons (.vi .i64 (.z 0)) (.cons (.vi .i64 (.z 0)) .nil)))), (.s (.cons (.vi .i64 (.z 0)) .nil)), (.s .nil), (.s (.cons (.s (.cons (.vi .i64 (.z 0)) (.cons (.vi .i64 (.z 0)) (.cons (.vi .i64 (.z 0)) .nil)))) .nil))] [.b] 11) <|
                .done [(.vb (.v 11))])
               (
                .done [(.vb .ff)]))
             (
              .done [(.vb .ff)])))
         (
          .esc <|
          .i (.call f_impl_TrtAll [(.s (.v 1)), (.s (.v 2)), (.s (.v 3)), (.s (.v 4))] [.b] 8) <|
          .ite (.beq (.v 8) (.v 6))
           (
            .i (.call f_impl_TrtAll [(.s (.v 1)), (.s (.v 2)), (.s (.v 3)), (.s (.v 4))] [.b] 9) <|
            .i (.call f_spec_TrtAll [(.s (.v 1)), (.s (.v 2)), (.s (.v 3)), (.s (.v 4))] [.b] 10) <|
            .ite (.beq (.v 9) (.v 10))
             (
              .i (.call f_impl_TrtAll [(.s (.cons (.vi .i64 (.z 0)) (.cons (.vi .i64 (.z 0)) (.cons (.vi .i64 (.z 0)) .nil)))), (.s (.cons (.vi .i64 (.z 0)) .nil)), (.s .nil), (.s (.cons (.s (.cons (.vi .i64 (.z 0)) (.cons (.vi .i64 (.z 0)) (.cons (.vi .i64 (.z 0)) .nil)))) .nil))] [.b] 11) <|
              .done [(.vb (.v 11))])
             (
              .done [(.vb .ff)]))
           (
            .done [(.vb .ff)])))
     (
      .loop 6 [.ff, (.z 0)] <|
        .ite (.cmp .lt (.v 7) (.len (.v 4)))
         (
          .ite (.v 6)
           (
            .i (.chk (.cmp .le (.z 0) (.v 7))) <|
            .i (.chk (.cmp .lt (.v 7) (.len (.v 4)))) <|
            .i (.idx (.v 4) (.v 7) (.one (.s)) 8) <|
            .i (.call f_impl_TrtKeeps [(.s (.v 1)), (.s (.v 2)), (.s (.v 3)), (.vi .i64 (.v 7)), (.s (.v 8))] [.b] 9) <|
            .next [(.v 9), (.bin .add .i64 (.v 7) (.z 1))])
           (
            .esc <|
            .i (.call f_impl_TrtAll [(.s (.v 1)), (.s (.v 2)), (.s (.v 3)), (.s (.v 4))] [.b] 8) <|
            .ite (.beq (.v 8) (.v 6))
             (
              .i (.call f_impl_TrtAll [(.s (.v 1)), (.s (.v 2)), (.s (.v 3)), (.s (.v 4))] [.b] 9) <|
              .i (.call f_spec_TrtAll [(.s (.v 1)), (.s (.v 2)), (.s (.v 3)), (.s (.v 4))] [.b] 10) <|
              .ite (.beq (.v 9) (.v 10))
               (
                .i (.call f_impl_TrtAll [(.s (.cons (.vi .i64 (.z 0)) (.cons (.vi .i64 (.z 0)) (.cons (.vi .i64 (.z 0)) .nil)))), (.s (.cons (.vi .i64 (.z 0)) .nil)), (.s .nil), (.s (.cons (.s (.cons (.vi .i64 (.z 0)) (.cons (.vi .i64 (.z 0)) (.cons (.vi .i64 (.z 0)) .nil)))) .nil))] [.b] 11) <|
                .done [(.vb (.v 11))])
               (
                .done [(.vb .ff)]))
             (
              .done [(.vb .ff)])))
         (
          .esc <|
          .i (.call f_impl_TrtAll [(.s (.v 1)), (.s (.v 2)), (.s (.v 3)), (.s (.v 4))] [.b] 8) <|
          .ite (.beq (.v 8) (.v 6))
           (
            .i (.call f_impl_TrtAll [(.s (.v 1)), (.s (.v 2)), (.s (.v 3)), (.s (.v 4))] [.b] 9) <|
            .i (.call f_spec_TrtAll [(.s (.v 1)), (.s (.v 2)), (.s (.v 3)), (.s (.v 4))] [.b] 10) <|
            .ite (.beq (.v 9) (.v 10))
             (
              .i (.call f_impl_TrtAll [(.s (.cons (.vi .i64 (.z 0)) (.cons (.vi .i64 (.z 0)) (.cons (.vi .i64 (.z 0)) .nil)))), (.s (.cons (.vi .i64 (.z 0)) .nil)), (.s .nil), (.s (.cons (.s (.cons (.vi .i64 (.z 0)) (.cons (.vi .i64 (.z 0)) (.cons (.vi .i64 (.z 0)) .nil)))) .nil))] [.b] 11) <|
              .done [(.vb (.v 11))])
             (
              .done [(.vb .ff)]))
           (
            .done [(.vb .ff)]))))
def S_spec_l20Open : Sig := .x ⟨[(.d (.s (.v 0)))], [], [.s], (.p 0 0), [(.box [(.d (.s (.v 0))), (.d (.vi .i64 (.v 1)))])], [.s, .i .i64]⟩
def H_spec_l20Open : Hint := ⟨[0, 2, 5], 0, [], []⟩
def E_spec_l20Open : Entry := ⟨S_spec_l20Open, .r H_spec_l20Open R_spec_l20Open⟩
def S_spec_l20Rd_pick : Sig := .x ⟨[(.p 0 0), (.d (.vi .i64 (.v 2)))], [(.box [(.d (.s (.v 0))), (.d (.vi .i64 (.v 1)))])], [.s, .i .i64, .i .i64], (.d (.vi .i64 (.v 0))), [(.box [(.d (.s (.v 1))), (.d (.vi .i64 (.v 2)))])], [.i .i64, .s, .i .i64]⟩
def H_spec_l20Rd_pick : Hint := ⟨[0, 1, 4, 5, 6, 24, 36], 1, [], []⟩
def E_spec_l20Rd_pick : Entry := ⟨S_spec_l20Rd_pick, .r H_spec_l20Rd_pick R_spec_l20Rd_pick⟩
def S_spec_l20Vals : Sig := .x ⟨[(.p 0 0), (.d (.vi .i64 (.v 2)))], [(.box [(.d (.s (.v 0))), (.d (.vi .i64 (.v 1)))])], [.s, .i .i64, .i .i64], (.o 1 (.v 0)), [(.box [(.d (.s (.v 1))), (.d (.vi .i64 (.v 2)))]), (.arr 3 1 (.v 0) true)], [.s, .s, .i .i64]⟩
def H_spec_l20Vals : Hint := ⟨[0, 1, 4, 5, 6, 9, 23, 25, 35, 39], 1, [], [(3, ⟨[6], [(0, 1), (0, 0)], [112], [], []⟩)]⟩
def E_spec_l20Vals : Entry := ⟨S_spec_l20Vals, .r H_spec_l20Vals R_spec_l20Vals⟩
def S_spec_l20Treaty : Sig := .x ⟨[(.p 0 0), (.d (.vi .i64 (.v 2)))], [(.box [(.d (.s (.v 0))), (.d (.vi .i64 (.v 1)))])], [.s, .i .i64, .i .i64], (.g [(.o 1 (.v 0)), (.o 2 (.v 1))]), [(.box [(.d (.s (.v 2))), (.d (.vi .i64 (.v 3)))]), (.arr 3 1 (.v 0) true), (.arr 3 1 (.v 1) true)], [.s, .s, .s, .i .i64]⟩
def H_spec_l20Treaty : Hint := ⟨[0, 1, 4, 5, 6, 14, 30, 33, 42, 47], 1, [(3, ⟨(.cell 80 1), 89, 3, 1⟩)], [(3, ⟨[6], [(0, 1), (0, 0)], [89], [], []⟩)]⟩
def E_spec_l20Treaty : Entry := ⟨S_spec_l20Treaty, .r H_spec_l20Treaty R_spec_l20Treaty⟩
def S_spec_l20Added : Sig := .x ⟨[(.p 0 0), (.d (.vi .i64 (.v 2)))], [(.box [(.d (.s (.v 0))), (.d (.vi .i64 (.v 1)))])], [.s, .i .i64, .i .i64], (.o 1 (.v 0)), [(.box [(.d (.s (.v 1))), (.d (.vi .i64 (.v 2)))]), (.arr 3 1 (.v 0) true)], [.s, .s, .i .i64]⟩
def H_spec_l20Added : Hint := ⟨[0, 1, 4, 5, 21, 23, 27, 31], 1, [], []⟩
def E_spec_l20Added : Entry := ⟨S_spec_l20Added, .r H_spec_l20Added R_spec_l20Added⟩
def S_spec_FrmZero : Sig := .x ⟨[], [], [], (.g [(.o 0 (.v 0)), (.o 1 (.v 1)), (.d (.vi .i64 (.v 2)))]), [(.arr 3 1 (.v 0) true), (.arr 3 1 (.v 1) true)], [.s, .s, .i .i64]⟩
def H_spec_FrmZero : Hint := ⟨[0], 0, [], []⟩
def E_spec_FrmZero : Entry := ⟨S_spec_FrmZero, .r H_spec_FrmZero R_spec_FrmZero⟩
def S_spec_l20Num : Sig := .x ⟨[(.d (.vi .i64 (.v 0))), (.d (.vi .i64 (.v 1))), (.d (.vi .i64 (.v 2)))], [], [.i .i64, .i .i64, .i .i64], (.g [(.o 0 (.v 0)), (.o 1 (.v 1)), (.d (.vi .i64 (.v 2)))]), [(.arr 3 1 (.v 0) true), (.arr 3 1 (.v 1) true)], [.s, .s, .i .i64]⟩
def H_spec_l20Num : Hint := ⟨[0, 1, 2, 6, 7], 0, [], []⟩
def E_spec_l20Num : Entry := ⟨S_spec_l20Num, .r H_spec_l20Num R_spec_l20Num⟩
def S_spec_l20With : Sig := .x ⟨[(.g [(.o 0 (.v 0)), (.o 1 (.v 1)), (.d (.vi .i64 (.v 2)))]), (.d (.vi .i64 (.v 3))), (.d (.vi .i64 (.v 4)))], [(.arr 3 1 (.v 0) true), (.arr 3 1 (.v 1) true)], [.s, .s, .i .i64, .i .i64, .i .i64], (.g [(.o 0 (.v 1)), (.o 1 (.v 2)), (.d (.vi .i64 (.v 0)))]), [(.arr 3 1 (.v 1) true), (.arr 3 1 (.v 2) true)], [.i .i64, .s, .s]⟩
def H_spec_l20With : Hint := ⟨[0, 1, 2, 3, 6], 2, [], []⟩
def E_spec_l20With : Entry := ⟨S_spec_l20With, .r H_spec_l20With R_spec_l20With⟩
def S_spec_l20Small : Sig := .x ⟨[(.p 0 0)], [(.box [(.d (.s (.v 0))), (.d (.vi .i64 (.v 1)))])], [.s, .i .i64], (.g [(.o 1 (.v 0)), (.o 2 (.v 1)), (.d (.vi .i64 (.v 2)))]), [(.box [(.d (.s (.v 3))), (.d (.vi .i64 (.v 4)))]), (.arr 3 1 (.v 0) true), (.arr 3 1 (.v 1) true)], [.s, .s, .i .i64, .s, .i .i64]⟩
def H_spec_l20Small : Hint := ⟨[0, 2, 3, 4, 5, 8, 21], 1, [], [(7, ⟨[5], [(0, 1), (0, 0)], [97], [], []⟩), (3, ⟨[4], [(0, 1), (0, 0)], [96], [], []⟩)]⟩
def E_spec_l20Small : Entry := ⟨S_spec_l20Small, .r H_spec_l20Small R_spec_l20Small⟩
def S_spec_l20Line : Sig := .x ⟨[(.p 0 0)], [(.box [(.d (.s (.v 0))), (.d (.vi .i64 (.v 1)))])], [.s, .i .i64], (.g [(.d (.vi .i64 (.v 0))), (.d (.vi .i64 (.v 1))), (.d (.vi .i64 (.v 2))), (.o 1 (.v 3)), (.o 2 (.v 4)), (.d (.vi .i64 (.v 5)))]), [(.box [(.d (.s (.v 6))), (.d (.vi .i64 (.v 7)))]), (.arr 3 1 (.v 3) true), (.arr 3 1 (.v 4) true)], [.i .i64, .i .i64, .i .i64, .s, .s, .i .i64, .s, .i .i64]⟩
def H_spec_l20Line : Hint := ⟨[0, 2, 3, 5, 6, 15, 23, 30], 1, [(999999, ⟨(.cell 32 3), 900000, 3, 1⟩), (999999, ⟨(.cell 32 4), 900001, 3, 1⟩)], []⟩
def E_spec_l20Line : Entry := ⟨S_spec_l20Line, .r H_spec_l20Line R_spec_l20Line⟩
def S_spec_l1In : Sig := .d ⟨[(.one (.i .i64)), (.one (.i .i64)), (.one (.i .i64))], (.one (.one (.b))), true⟩
def H_spec_l1In : Hint := ⟨[0, 1, 2, 6], 0, [], []⟩
def E_spec_l1In : Entry := ⟨S_spec_l1In, .r H_spec_l1In R_spec_l1In⟩
def S_spec_l1All : Sig := .d ⟨[(.one (.s)), (.one (.i .i64)), (.one (.i .i64))], (.one (.one (.b))), true⟩
def H_spec_l1All : Hint := ⟨[0, 1, 2, 6, 7, 11, 15, 26], 0, [], [(4, ⟨[7], [], [], [], []⟩)]⟩
def E_spec_l1All : Entry := ⟨S_spec_l1All, .r H_spec_l1All R_spec_l1All⟩
def S_spec_l2Small : Sig := .d ⟨[(.g [.s, .s, .i .i64])], (.one (.one (.b))), true⟩
def H_spec_l2Small : Hint := ⟨[0, 1, 2], 0, [], []⟩
def E_spec_l2Small : Entry := ⟨S_spec_l2Small, .r H_spec_l2Small R_spec_l2Small⟩
def S_spec_l2Line : Sig := .d ⟨[(.g [.i .i64, .i .i64, .i .i64, .s, .s, .i .i64])], (.one (.one (.b))), true⟩
def H_spec_l2Line : Hint := ⟨[0, 1, 2, 4, 5, 20, 35], 0, [], []⟩
def E_spec_l2Line : Entry := ⟨S_spec_l2Line, .r H_spec_l2Line R_spec_l2Line⟩
def S_spec_ActOk : Sig := .d ⟨[(.one (.s))], (.one (.one (.b))), true⟩
def H_spec_ActOk : Hint := ⟨[0, 2, 3, 4, 8, 16, 22], 0, [], [(3, ⟨[4, 3], [], [], [], []⟩)]⟩
def E_spec_ActOk : Entry := ⟨S_spec_ActOk, .r H_spec_ActOk R_spec_ActOk⟩
def S_spec_l20Act : Sig := .x ⟨[(.p 0 0)], [(.box [(.d (.s (.v 0))), (.d (.vi .i64 (.v 1)))])], [.s, .i .i64], (.o 1 (.v 0)), [(.box [(.d (.s (.v 1))), (.d (.vi .i64 (.v 2)))]), (.arr 43 6 (.v 0) true)], [.s, .s, .i .i64]⟩
def H_spec_l20Act : Hint := ⟨[0, 2, 3, 4, 5, 6, 10, 11, 27, 33, 47, 53, 67, 78], 1, [], [(16, ⟨[5], [(0, 1), (0, 0)], [992], [], []⟩)]⟩
def E_spec_l20Act : Entry := ⟨S_spec_l20Act, .r H_spec_l20Act R_spec_l20Act⟩
def S_spec_l20Acts : Sig := .x ⟨[(.p 0 0)], [(.box [(.d (.s (.v 0))), (.d (.vi .i64 (.v 1)))])], [.s, .i .i64], (.o 1 (.v 0)), [(.box [(.d (.s (.v 1))), (.d (.vi .i64 (.v 2)))]), (.arr 33 1 (.v 0) true)], [.s, .s, .i .i64]⟩
def H_spec_l20Acts : Hint := ⟨[0, 2, 3, 4, 10], 1, [], [(3, ⟨[4], [(0, 1), (0, 0)], [80], [], []⟩)]⟩
def E_spec_l20Acts : Entry := ⟨S_spec_l20Acts, .r H_spec_l20Acts R_spec_l20Acts⟩
def S_spec_CatOk : Sig := .d ⟨[(.one (.s))], (.one (.one (.b))), true⟩
def H_spec_CatOk : Hint := ⟨[0, 2, 3, 7, 11, 19], 0, [], [(4, ⟨[3], [], [], [], []⟩)]⟩
def E_spec_CatOk : Entry := ⟨S_spec_CatOk, .r H_spec_CatOk R_spec_CatOk⟩
def S_spec_FrmPot : Sig := .x ⟨[(.d (.vi .i64 (.v 0)))], [], [.i .i64], (.g [(.o 0 (.v 0)), (.o 1 (.v 1)), (.d (.vi .i64 (.v 2)))]), [(.arr 3 1 (.v 0) true), (.arr 3 1 (.v 1) true)], [.s, .s, .i .i64]⟩
def H_spec_FrmPot : Hint := ⟨[0, 2, 3, 6], 0, [(999999, ⟨(.cell 32 0), 900000, 3, 1⟩), (999999, ⟨(.cell 32 1), 900001, 3, 1⟩)], []⟩
def E_spec_FrmPot : Entry := ⟨S_spec_FrmPot, .r H_spec_FrmPot R_spec_FrmPot⟩
def S_spec_l1Sum : Sig := .x ⟨[(.g [(.d (.s (.v 0))), (.d (.s (.v 1))), (.d (.vi .i64 (.v 2)))]), (.g [(.d (.s (.v 3))), (.d (.s (.v 4))), (.d (.vi .i64 (.v 5)))]), (.d (.vi .i64 (.v 6)))], [], [.s, .s, .i .i64, .s, .s, .i .i64, .i .i64], (.g [(.o 0 (.v 0)), (.o 1 (.v 1)), (.d (.vi .i64 (.v 2)))]), [(.arr 3 1 (.v 0) true), (.arr 3 1 (.v 1) true)], [.s, .s, .i .i64]⟩
def H_spec_l1Sum : Hint := ⟨[0, 1, 2, 3, 4, 6, 7, 8, 9, 12, 33], 0, [], [(7, ⟨[9], [], [161], [], []⟩), (3, ⟨[8], [], [160], [], []⟩)]⟩
def E_spec_l1Sum : Entry := ⟨S_spec_l1Sum, .r H_spec_l1Sum R_spec_l1Sum⟩
def S_spec_l3Copy : Sig := .x ⟨[(.d (.s (.v 0)))], [], [.s], (.o 0 (.v 0)), [(.arr 41 3 (.v 0) true)], [.s]⟩
def H_spec_l3Copy : Hint := ⟨[0, 2, 3, 4, 9], 0, [], [(3, ⟨[4], [], [80], [], []⟩)]⟩
def E_spec_l3Copy : Entry := ⟨S_spec_l3Copy, .r H_spec_l3Copy R_spec_l3Copy⟩
def S_spec_FrmOk : Sig := .d ⟨[(.g [.s, .s, .i .i64])], (.one (.one (.b))), true⟩
def H_spec_FrmOk : Hint := ⟨[0, 1, 2], 0, [], []⟩
def E_spec_FrmOk : Entry := ⟨S_spec_FrmOk, .r H_spec_FrmOk R_spec_FrmOk⟩
def S_spec_FrmInto : Sig := .x ⟨[(.g [(.d (.s (.v 0))), (.d (.s (.v 1))), (.d (.vi .i64 (.v 2)))]), (.d (.s (.v 3)))], [], [.s, .s, .i .i64, .s], (.g [(.o 0 (.v 0)), (.o 1 (.v 1)), (.d (.vi .i64 (.v 2)))]), [(.arr 3 1 (.v 0) true), (.arr 3 1 (.v 1) true)], [.s, .s, .i .i64]⟩
def H_spec_FrmInto : Hint := ⟨[0, 1, 2, 4, 5, 6, 35, 46, 62], 0, [(999999, ⟨(.cell 64 0), 900000, 3, 1⟩), (999999, ⟨(.cell 64 1), 900001, 3, 1⟩)], [(5, ⟨[6], [(80, 2)], [592, 608], [], []⟩)]⟩
def E_spec_FrmInto : Entry := ⟨S_spec_FrmInto, .r H_spec_FrmInto R_spec_FrmInto⟩
def S_spec_l3Minus : Sig := .x ⟨[(.g [(.d (.s (.v 0))), (.d (.s (.v 1))), (.d (.vi .i64 (.v 2)))])], [], [.s, .s, .i .i64], (.g [(.o 0 (.v 0)), (.o 1 (.v 1)), (.d (.vi .i64 (.v 2)))]), [(.arr 3 1 (.v 0) true), (.arr 3 1 (.v 1) true)], [.s, .s, .i .i64]⟩
def H_spec_l3Minus : Hint := ⟨[0, 1, 2, 3], 0, [], []⟩
def E_spec_l3Minus : Entry := ⟨S_spec_l3Minus, .r H_spec_l3Minus R_spec_l3Minus⟩
def S_spec_l3Row : Sig := .x ⟨[(.d (.s (.v 0))), (.d (.s (.v 1))), (.d (.s (.v 2)))], [], [.s, .s, .s], (.g [(.o 0 (.v 0)), (.o 1 (.v 1)), (.o 2 (.v 2)), (.d (.vb (.v 3)))]), [(.arr 41 3 (.v 0) true), (.arr 41 3 (.v 1) true), (.arr 41 3 (.v 2) true)], [.s, .s, .s, .b]⟩
def H_spec_l3Row : Hint := ⟨[0, 1, 2, 6, 7, 8, 15], 0, [(3, ⟨(.cell 112 1), 121, 41, 3⟩)], [(3, ⟨[8], [], [121], [], []⟩)]⟩
def E_spec_l3Row : Entry := ⟨S_spec_l3Row, .r H_spec_l3Row R_spec_l3Row⟩
def S_spec_l3Walk : Sig := .x ⟨[(.d (.s (.v 0))), (.d (.vi .i64 (.v 1))), (.d (.s (.v 2))), (.d (.s (.v 3))), (.d (.s (.v 4)))], [], [.s, .i .i64, .s, .s, .s], (.o 0 (.v 0)), [(.arr 47 4 (.v 0) true)], [.s]⟩
def H_spec_l3Walk : Hint := ⟨[0, 1, 2, 3, 4, 10, 11, 12, 13, 14, 15, 20, 29, 39, 45, 80], 0, [], [(2, ⟨[11, 4, 2], [], [], [], []⟩)]⟩
def E_spec_l3Walk : Entry := ⟨S_spec_l3Walk, .r H_spec_l3Walk R_spec_l3Walk⟩
def S_spec_RowsOf : Sig := .x ⟨[(.d (.s (.v 0)))], [], [.s], (.o 0 (.v 0)), [(.arr 47 4 (.v 0) true)], [.s]⟩
def H_spec_RowsOf : Hint := ⟨[0, 2, 5], 0, [], []⟩
def E_spec_RowsOf : Entry := ⟨S_spec_RowsOf, .r H_spec_RowsOf R_spec_RowsOf⟩
def S_spec_l4Reads : Sig := .x ⟨[(.d (.s (.v 0))), (.d (.s (.v 1)))], [], [.s, .s], (.o 0 (.v 0)), [(.arr 4 1 (.v 0) true)], [.s]⟩
def H_spec_l4Reads : Hint := ⟨[0, 1, 4, 5, 6, 7, 14, 18, 29], 0, [], [(3, ⟨[6], [], [128], [], []⟩), (6, ⟨[7], [], [128], [], []⟩)]⟩
def E_spec_l4Reads : Entry := ⟨S_spec_l4Reads, .r H_spec_l4Reads R_spec_l4Reads⟩
def S_spec_CatPart : Sig := .x ⟨[(.g [(.d (.s (.v 0))), (.d (.s (.v 1))), (.d (.vi .i64 (.v 2)))])], [], [.s, .s, .i .i64], (.o 0 (.v 0)), [(.arr 3 1 (.v 0) true)], [.s]⟩
def H_spec_CatPart : Hint := ⟨[0, 1, 2, 3, 4, 5, 11, 23, 33], 0, [], [(4, ⟨[5, 4], [], [96], [], []⟩)]⟩
def E_spec_CatPart : Entry := ⟨S_spec_CatPart, .r H_spec_CatPart R_spec_CatPart⟩
def S_spec_l4Same : Sig := .d ⟨[(.one (.s)), (.one (.s))], (.one (.one (.b))), true⟩
def H_spec_l4Same : Hint := ⟨[0, 1, 4, 5, 10, 14, 25], 0, [], [(4, ⟨[5], [], [], [], []⟩)]⟩
def E_spec_l4Same : Entry := ⟨S_spec_l4Same, .r H_spec_l4Same R_spec_l4Same⟩
def S_spec_CatHas : Sig := .d ⟨[(.one (.s)), (.one (.s))], (.one (.one (.i .i64))), true⟩
def H_spec_CatHas : Hint := ⟨[0, 1, 4, 5, 9, 17], 0, [], [(2, ⟨[5], [], [], [], []⟩)]⟩
def E_spec_CatHas : Entry := ⟨S_spec_CatHas, .r H_spec_CatHas R_spec_CatHas⟩
def S_spec_l4Both : Sig := .x ⟨[(.d (.s (.v 0)))], [], [.s], (.t [(.o 0 (.v 0)), (.o 1 (.v 1))]), [(.arr 23 1 (.v 0) true), (.arr 4 1 (.v 1) true)], [.s, .s]⟩
def H_spec_l4Both : Hint := ⟨[0, 2, 3, 4, 5, 6, 7, 8, 9, 10, 11, 15, 27, 38, 61, 83], 0, [], [(8, ⟨[7], [], [192, 208], [], []⟩), (12, ⟨[9], [], [192, 208], [], []⟩), (16, ⟨[10], [], [192], [], []⟩), (4, ⟨[6], [], [192], [], []⟩)]⟩
def E_spec_l4Both : Entry := ⟨S_spec_l4Both, .r H_spec_l4Both R_spec_l4Both⟩
def S_spec_CatForms : Sig := .x ⟨[(.d (.s (.v 0)))], [], [.s], (.o 0 (.v 0)), [(.arr 23 1 (.v 0) true)], [.s]⟩
def H_spec_CatForms : Hint := ⟨[0, 2, 3, 7], 0, [], []⟩
def E_spec_CatForms : Entry := ⟨S_spec_CatForms, .r H_spec_CatForms R_spec_CatForms⟩
def S_spec_DrawTrtAll : Sig := .x ⟨[(.d (.s (.v 0)))], [], [.s], (.t [(.g [(.o 0 (.v 0)), (.o 1 (.v 1))]), (.o 2 (.v 2)), (.o 3 (.v 3))]), [(.arr 3 1 (.v 0) true), (.arr 3 1 (.v 1) true), (.arr 23 1 (.v 2) true), (.arr 23 1 (.v 3) true)], [.s, .s, .s, .s]⟩
def H_spec_DrawTrtAll : Hint := ⟨[0, 2, 3, 4, 5, 6, 7, 8, 18, 28], 0, [], [(5, ⟨[8], [(160, 1), (160, 0)], [208], [], []⟩)]⟩
def E_spec_DrawTrtAll : Entry := ⟨S_spec_DrawTrtAll, .r H_spec_DrawTrtAll R_spec_DrawTrtAll⟩
def S_impl_in : Sig := .d ⟨[(.one (.i .i64)), (.one (.i .i64)), (.one (.i .i64))], (.one (.one (.b))), true⟩
def H_impl_in : Hint := ⟨[0, 1, 2, 6], 0, [], []⟩
def E_impl_in : Entry := ⟨S_impl_in, .r H_impl_in R_impl_in⟩
def S_impl_TrtOk_1 : Sig := .d ⟨[(.one (.i .i64))], (.one (.one (.b))), true⟩
def H_impl_TrtOk_1 : Hint := ⟨[0, 2], 0, [], []⟩
def E_impl_TrtOk_1 : Entry := ⟨S_impl_TrtOk_1, .r H_impl_TrtOk_1 R_impl_TrtOk_1⟩
def S_impl_within_1 : Sig := .d ⟨[(.one (.i .i64)), (.one (.d))], (.one (.one (.b))), true⟩
def H_impl_within_1 : Hint := ⟨[0, 1, 3], 0, [], []⟩
def E_impl_within_1 : Entry := ⟨S_impl_within_1, .r H_impl_within_1 R_impl_within_1⟩
def S_slices_IndexFunc_Sint_int : Sig := .d ⟨[(.one (.s)), (.one (.d))], (.one (.one (.i .i64))), true⟩
def H_slices_IndexFunc_Sint_int : Hint := ⟨[0, 1, 4, 5, 7, 8, 9, 16], 0, [], [(2, ⟨[8], [], [], [], []⟩)]⟩
def E_slices_IndexFunc_Sint_int : Entry := ⟨S_slices_IndexFunc_Sint_int, .r H_slices_IndexFunc_Sint_int R_slices_IndexFunc_Sint_int⟩
def S_slices_ContainsFunc_Sint_int : Sig := .d ⟨[(.one (.s)), (.one (.d))], (.one (.one (.b))), true⟩
def H_slices_ContainsFunc_Sint_int : Hint := ⟨[0, 1, 4], 0, [], []⟩
def E_slices_ContainsFunc_Sint_int : Entry := ⟨S_slices_ContainsFunc_Sint_int, .r H_slices_ContainsFunc_Sint_int R_slices_ContainsFunc_Sint_int⟩
def S_impl_within : Sig := .d ⟨[(.one (.s)), (.one (.i .i64)), (.one (.i .i64))], (.one (.one (.b))), true⟩
def H_impl_within : Hint := ⟨[0, 1, 2, 5, 6], 0, [], []⟩
def E_impl_within : Entry := ⟨S_impl_within, .r H_impl_within R_impl_within⟩
def S_impl_ValOk : Sig := .d ⟨[(.one (.s))], (.one (.one (.b))), true⟩
def H_impl_ValOk : Hint := ⟨[0, 2], 0, [], []⟩
def E_impl_ValOk : Entry := ⟨S_impl_ValOk, .r H_impl_ValOk R_impl_ValOk⟩
def S_impl_TrtOk : Sig := .d ⟨[(.g [.s, .s])], (.one (.one (.b))), true⟩
def H_impl_TrtOk : Hint := ⟨[0, 1, 2, 3], 0, [], []⟩
def E_impl_TrtOk : Entry := ⟨S_impl_TrtOk, .r H_impl_TrtOk R_impl_TrtOk⟩
def S_slices_IndexFunc_SSint_Sint : Sig := .d ⟨[(.one (.s)), (.one (.d))], (.one (.one (.i .i64))), true⟩
def H_slices_IndexFunc_SSint_Sint : Hint := ⟨[0, 1, 4, 5, 7, 8, 9, 16], 0, [], [(2, ⟨[8], [], [], [], []⟩)]⟩
def E_slices_IndexFunc_SSint_Sint : Entry := ⟨S_slices_IndexFunc_SSint_Sint, .r H_slices_IndexFunc_SSint_Sint R_slices_IndexFunc_SSint_Sint⟩
def S_slices_ContainsFunc_SSint_Sint : Sig := .d ⟨[(.one (.s)), (.one (.d))], (.one (.one (.b))), true⟩
def H_slices_ContainsFunc_SSint_Sint : Hint := ⟨[0, 1, 4], 0, [], []⟩
def E_slices_ContainsFunc_SSint_Sint : Entry := ⟨S_slices_ContainsFunc_SSint_Sint, .r H_slices_ContainsFunc_SSint_Sint R_slices_ContainsFunc_SSint_Sint⟩
def S_impl_partsOk_1 : Sig := .d ⟨[(.one (.s))], (.one (.one (.b))), true⟩
def H_impl_partsOk_1 : Hint := ⟨[0, 2], 0, [], []⟩
def E_impl_partsOk_1 : Entry := ⟨S_impl_partsOk_1, .r H_impl_partsOk_1 R_impl_partsOk_1⟩
def S_impl_partsOk : Sig := .d ⟨[(.one (.s))], (.one (.one (.b))), true⟩
def H_impl_partsOk : Hint := ⟨[0, 2], 0, [], []⟩
def E_impl_partsOk : Entry := ⟨S_impl_partsOk, .r H_impl_partsOk R_impl_partsOk⟩
def S_impl_addedOk : Sig := .d ⟨[(.one (.s))], (.one (.one (.b))), true⟩
def H_impl_addedOk : Hint := ⟨[0, 2], 0, [], []⟩
def E_impl_addedOk : Entry := ⟨S_impl_addedOk, .r H_impl_addedOk R_impl_addedOk⟩
def S_impl_TrtTreaty_ok : Sig := .d ⟨[(.g [.s, .s]), (.one (.s)), (.one (.i .i64)), (.one (.s))], (.one (.one (.b))), true⟩
def H_impl_TrtTreaty_ok : Hint := ⟨[0, 1, 2, 3, 4, 8], 0, [], []⟩
def E_impl_TrtTreaty_ok : Entry := ⟨S_impl_TrtTreaty_ok, .r H_impl_TrtTreaty_ok R_impl_TrtTreaty_ok⟩
def S_impl_dot : Sig := .d ⟨[(.one (.s)), (.one (.s))], (.one (.one (.i .i64))), true⟩
def H_impl_dot : Hint := ⟨[0, 1, 4, 5, 6, 7, 8, 9, 10, 11], 0, [], [(3, ⟨[10, 5], [], [], [], []⟩)]⟩
def E_impl_dot : Entry := ⟨S_impl_dot, .r H_impl_dot R_impl_dot⟩
def S_impl_TrtKeeps_1 : Sig := .d ⟨[(.one (.s)), (.one (.d)), (.one (.d))], (.one (.one (.b))), true⟩
def H_impl_TrtKeeps_1 : Hint := ⟨[0, 1, 2, 4], 0, [], []⟩
def E_impl_TrtKeeps_1 : Entry := ⟨S_impl_TrtKeeps_1, .r H_impl_TrtKeeps_1 R_impl_TrtKeeps_1⟩
def S_impl_TrtKeeps : Sig := .d ⟨[(.g [.s, .s]), (.one (.s)), (.one (.i .i64)), (.one (.s))], (.one (.one (.b))), true⟩
def H_impl_TrtKeeps : Hint := ⟨[0, 1, 2, 3, 4, 7, 8, 9, 15], 0, [], []⟩
def E_impl_TrtKeeps : Entry := ⟨S_impl_TrtKeeps, .r H_impl_TrtKeeps R_impl_TrtKeeps⟩
def S_impl_TrtAll : Sig := .d ⟨[(.g [.s, .s]), (.one (.s)), (.one (.s))], (.one (.one (.b))), true⟩
def H_impl_TrtAll : Hint := ⟨[0, 1, 2, 3, 6, 7, 8, 19, 20, 21, 22, 23, 32], 0, [], [(4, ⟨[22], [], [], [], []⟩)]⟩
def E_impl_TrtAll : Entry := ⟨S_impl_TrtAll, .r H_impl_TrtAll R_impl_TrtAll⟩
def S_spec_ValOk : Sig := .d ⟨[(.one (.s))], (.one (.one (.b))), true⟩
def H_spec_ValOk : Hint := ⟨[0, 2], 0, [], []⟩
def E_spec_ValOk : Entry := ⟨S_spec_ValOk, .r H_spec_ValOk R_spec_ValOk⟩
def S_spec_TrtOk : Sig := .d ⟨[(.g [.s, .s])], (.one (.one (.b))), true⟩
def H_spec_TrtOk : Hint := ⟨[0, 1, 2, 3, 14, 19, 28], 0, [], [(4, ⟨[3], [], [], [], []⟩)]⟩
def E_spec_TrtOk : Entry := ⟨S_spec_TrtOk, .r H_spec_TrtOk R_spec_TrtOk⟩
def S_spec_l5Parts : Sig := .d ⟨[(.one (.s))], (.one (.one (.b))), true⟩
def H_spec_l5Parts : Hint := ⟨[0, 2, 3, 7, 15], 0, [], [(2, ⟨[3], [], [], [], []⟩)]⟩
def E_spec_l5Parts : Entry := ⟨S_spec_l5Parts, .r H_spec_l5Parts R_spec_l5Parts⟩
def S_spec_l5Times : Sig := .d ⟨[(.one (.s)), (.one (.s))], (.one (.one (.i .i64))), true⟩
def H_spec_l5Times : Hint := ⟨[0, 1, 4, 5, 6, 8], 0, [], [(3, ⟨[6, 5], [], [], [], []⟩)]⟩
def E_spec_l5Times : Entry := ⟨S_spec_l5Times, .r H_spec_l5Times R_spec_l5Times⟩
def S_spec_TrtKeeps : Sig := .d ⟨[(.g [.s, .s]), (.one (.s)), (.one (.i .i64)), (.one (.s))], (.one (.one (.b))), true⟩
def H_spec_TrtKeeps : Hint := ⟨[0, 1, 2, 3, 4, 8, 9, 31, 35, 56], 0, [], [(4, ⟨[9], [], [], [], []⟩)]⟩
def E_spec_TrtKeeps : Entry := ⟨S_spec_TrtKeeps, .r H_spec_TrtKeeps R_spec_TrtKeeps⟩
def S_spec_TrtAll : Sig := .d ⟨[(.g [.s, .s]), (.one (.s)), (.one (.s))], (.one (.one (.b))), true⟩
def H_spec_TrtAll : Hint := ⟨[0, 1, 2, 3, 6, 7, 18, 22, 33], 0, [], [(4, ⟨[7], [], [], [], []⟩)]⟩
def E_spec_TrtAll : Entry := ⟨S_spec_TrtAll, .r H_spec_TrtAll R_spec_TrtAll⟩
def S_laws_FnTrtAll : Sig := .d ⟨[(.one (.s))], (.one (.one (.b))), true⟩
def H_laws_FnTrtAll : Hint := ⟨[0, 2, 3, 4, 5, 6, 7, 10, 33], 0, [], [(6, ⟨[7, 6], [], [], [], []⟩)]⟩
def E_laws_FnTrtAll : Entry := ⟨S_laws_FnTrtAll, .r H_laws_FnTrtAll R_laws_FnTrtAll⟩
def L : Tabl := [(f_spec_l20Open, E_spec_l20Open), (f_spec_l20Rd_pick, E_spec_l20Rd_pick), (f_spec_l20Vals, E_spec_l20Vals), (f_spec_l20Treaty, E_spec_l20Treaty), (f_spec_l20Added, E_spec_l20Added), (f_spec_FrmZero, E_spec_FrmZero), (f_spec_l20Num, E_spec_l20Num), (f_spec_l20With, E_spec_l20With), (f_spec_l20Small, E_spec_l20Small), (f_spec_l20Line, E_spec_l20Line), (f_spec_l1In, E_spec_l1In), (f_spec_l1All, E_spec_l1All), (f_spec_l2Small, E_spec_l2Small), (f_spec_l2Line, E_spec_l2Line), (f_spec_ActOk, E_spec_ActOk), (f_spec_l20Act, E_spec_l20Act), (f_spec_l20Acts, E_spec_l20Acts), (f_spec_CatOk, E_spec_CatOk), (f_spec_FrmPot, E_spec_FrmPot), (f_spec_l1Sum, E_spec_l1Sum), (f_spec_l3Copy, E_spec_l3Copy), (f_spec_FrmOk, E_spec_FrmOk), (f_spec_FrmInto, E_spec_FrmInto), (f_spec_l3Minus, E_spec_l3Minus), (f_spec_l3Row, E_spec_l3Row), (f_spec_l3Walk, E_spec_l3Walk), (f_spec_RowsOf, E_spec_RowsOf), (f_spec_l4Reads, E_spec_l4Reads), (f_spec_CatPart, E_spec_CatPart), (f_spec_l4Same, E_spec_l4Same), (f_spec_CatHas, E_spec_CatHas), (f_spec_l4Both, E_spec_l4Both), (f_spec_CatForms, E_spec_CatForms), (f_spec_DrawTrtAll, E_spec_DrawTrtAll), (f_impl_in, E_impl_in), (f_impl_TrtOk_1, E_impl_TrtOk_1), (f_impl_within_1, E_impl_within_1), (f_slices_IndexFunc_Sint_int, E_slices_IndexFunc_Sint_int), (f_slices_ContainsFunc_Sint_int, E_slices_ContainsFunc_Sint_int), (f_impl_within, E_impl_within), (f_impl_ValOk, E_impl_ValOk), (f_impl_TrtOk, E_impl_TrtOk), (f_slices_IndexFunc_SSint_Sint, E_slices_IndexFunc_SSint_Sint), (f_slices_ContainsFunc_SSint_Sint, E_slices_ContainsFunc_SSint_Sint), (f_impl_partsOk_1, E_impl_partsOk_1), (f_impl_partsOk, E_impl_partsOk), (f_impl_addedOk, E_impl_addedOk), (f_impl_TrtTreaty_ok, E_impl_TrtTreaty_ok), (f_impl_dot, E_impl_dot), (f_impl_TrtKeeps_1, E_impl_TrtKeeps_1), (f_impl_TrtKeeps, E_impl_TrtKeeps), (f_impl_TrtAll, E_impl_TrtAll), (f_spec_ValOk, E_spec_ValOk), (f_spec_TrtOk, E_spec_TrtOk), (f_spec_l5Parts, E_spec_l5Parts), (f_spec_l5Times, E_spec_l5Times), (f_spec_TrtKeeps, E_spec_TrtKeeps), (f_spec_TrtAll, E_spec_TrtAll), (f_laws_FnTrtAll, E_laws_FnTrtAll)]
theorem L_spec_l20Open : L.lookup f_spec_l20Open = some ⟨S_spec_l20Open, .r H_spec_l20Open R_spec_l20Open⟩ := rfl
theorem L_spec_l20Rd_pick : L.lookup f_spec_l20Rd_pick = some ⟨S_spec_l20Rd_pick, .r H_spec_l20Rd_pick R_spec_l20Rd_pick⟩ := rfl
theorem L_spec_l20Vals : L.lookup f_spec_l20Vals = some ⟨S_spec_l20Vals, .r H_spec_l20Vals R_spec_l20Vals⟩ := rfl
theorem L_spec_l20Treaty : L.lookup f_spec_l20Treaty = some ⟨S_spec_l20Treaty, .r H_spec_l20Treaty R_spec_l20Treaty⟩ := rfl
theorem L_spec_l20Added : L.lookup f_spec_l20Added = some ⟨S_spec_l20Added, .r H_spec_l20Added R_spec_l20Added⟩ := rfl
theorem L_spec_FrmZero : L.lookup f_spec_FrmZero = some ⟨S_spec_FrmZero, .r H_spec_FrmZero R_spec_FrmZero⟩ := rfl
theorem L_spec_l20Num : L.lookup f_spec_l20Num = some ⟨S_spec_l20Num, .r H_spec_l20Num R_spec_l20Num⟩ := rfl
theorem L_spec_l20With : L.lookup f_spec_l20With = some ⟨S_spec_l20With, .r H_spec_l20With R_spec_l20With⟩ := rfl
theorem L_spec_l20Small : L.lookup f_spec_l20Small = some ⟨S_spec_l20Small, .r H_spec_l20Small R_spec_l20Small⟩ := rfl
theorem L_spec_l20Line : L.lookup f_spec_l20Line = some ⟨S_spec_l20Line, .r H_spec_l20Line R_spec_l20Line⟩ := rfl
theorem L_spec_l1In : L.lookup f_spec_l1In = some ⟨S_spec_l1In, .r H_spec_l1In R_spec_l1In⟩ := rfl
theorem L_spec_l1All : L.lookup f_spec_l1All = some ⟨S_spec_l1All, .r H_spec_l1All R_spec_l1All⟩ := rfl
theorem L_spec_l2Small : L.lookup f_spec_l2Small = some ⟨S_spec_l2Small, .r H_spec_l2Small R_spec_l2Small⟩ := rfl
theorem L_spec_l2Line : L.lookup f_spec_l2Line = some ⟨S_spec_l2Line, .r H_spec_l2Line R_spec_l2Line⟩ := rfl
theorem L_spec_ActOk : L.lookup f_spec_ActOk = some ⟨S_spec_ActOk, .r H_spec_ActOk R_spec_ActOk⟩ := rfl
theorem L_spec_l20Act : L.lookup f_spec_l20Act = some ⟨S_spec_l20Act, .r H_spec_l20Act R_spec_l20Act⟩ := rfl
theorem L_spec_l20Acts : L.lookup f_spec_l20Acts = some ⟨S_spec_l20Acts, .r H_spec_l20Acts R_spec_l20Acts⟩ := rfl
theorem L_spec_CatOk : L.lookup f_spec_CatOk = some ⟨S_spec_CatOk, .r H_spec_CatOk R_spec_CatOk⟩ := rfl
theorem L_spec_FrmPot : L.lookup f_spec_FrmPot = some ⟨S_spec_FrmPot, .r H_spec_FrmPot R_spec_FrmPot⟩ := rfl
theorem L_spec_l1Sum : L.lookup f_spec_l1Sum = some ⟨S_spec_l1Sum, .r H_spec_l1Sum R_spec_l1Sum⟩ := rfl
theorem L_spec_l3Copy : L.lookup f_spec_l3Copy = some ⟨S_spec_l3Copy, .r H_spec_l3Copy R_spec_l3Copy⟩ := rfl
theorem L_spec_FrmOk : L.lookup f_spec_FrmOk = some ⟨S_spec_FrmOk, .r H_spec_FrmOk R_spec_FrmOk⟩ := rfl
theorem L_spec_FrmInto : L.lookup f_spec_FrmInto = some ⟨S_spec_FrmInto, .r H_spec_FrmInto R_spec_FrmInto⟩ := rfl
theorem L_spec_l3Minus : L.lookup f_spec_l3Minus = some ⟨S_spec_l3Minus, .r H_spec_l3Minus R_spec_l3Minus⟩ := rfl
theorem L_spec_l3Row : L.lookup f_spec_l3Row = some ⟨S_spec_l3Row, .r H_spec_l3Row R_spec_l3Row⟩ := rfl
theorem L_spec_l3Walk : L.lookup f_spec_l3Walk = some ⟨S_spec_l3Walk, .r H_spec_l3Walk R_spec_l3Walk⟩ := rfl
theorem L_spec_RowsOf : L.lookup f_spec_RowsOf = some ⟨S_spec_RowsOf, .r H_spec_RowsOf R_spec_RowsOf⟩ := rfl
theorem L_spec_l4Reads : L.lookup f_spec_l4Reads = some ⟨S_spec_l4Reads, .r H_spec_l4Reads R_spec_l4Reads⟩ := rfl
theorem L_spec_CatPart : L.lookup f_spec_CatPart = some ⟨S_spec_CatPart, .r H_spec_CatPart R_spec_CatPart⟩ := rfl
theorem L_spec_l4Same : L.lookup f_spec_l4Same = some ⟨S_spec_l4Same, .r H_spec_l4Same R_spec_l4Same⟩ := rfl
theorem L_spec_CatHas : L.lookup f_spec_CatHas = some ⟨S_spec_CatHas, .r H_spec_CatHas R_spec_CatHas⟩ := rfl
theorem L_spec_l4Both : L.lookup f_spec_l4Both = some ⟨S_spec_l4Both, .r H_spec_l4Both R_spec_l4Both⟩ := rfl
theorem L_spec_CatForms : L.lookup f_spec_CatForms = some ⟨S_spec_CatForms, .r H_spec_CatForms R_spec_CatForms⟩ := rfl
theorem L_spec_DrawTrtAll : L.lookup f_spec_DrawTrtAll = some ⟨S_spec_DrawTrtAll, .r H_spec_DrawTrtAll R_spec_DrawTrtAll⟩ := rfl
theorem L_impl_in : L.lookup f_impl_in = some ⟨S_impl_in, .r H_impl_in R_impl_in⟩ := rfl
theorem L_impl_TrtOk_1 : L.lookup f_impl_TrtOk_1 = some ⟨S_impl_TrtOk_1, .r H_impl_TrtOk_1 R_impl_TrtOk_1⟩ := rfl
theorem L_impl_within_1 : L.lookup f_impl_within_1 = some ⟨S_impl_within_1, .r H_impl_within_1 R_impl_within_1⟩ := rfl
theorem L_slices_IndexFunc_Sint_int : L.lookup f_slices_IndexFunc_Sint_int = some ⟨S_slices_IndexFunc_Sint_int, .r H_slices_IndexFunc_Sint_int R_slices_IndexFunc_Sint_int⟩ := rfl
theorem L_slices_ContainsFunc_Sint_int : L.lookup f_slices_ContainsFunc_Sint_int = some ⟨S_slices_ContainsFunc_Sint_int, .r H_slices_ContainsFunc_Sint_int R_slices_ContainsFunc_Sint_int⟩ := rfl
theorem L_impl_within : L.lookup f_impl_within = some ⟨S_impl_within, .r H_impl_within R_impl_within⟩ := rfl
theorem L_impl_ValOk : L.lookup f_impl_ValOk = some ⟨S_impl_ValOk, .r H_impl_ValOk R_impl_ValOk⟩ := rfl
theorem L_impl_TrtOk : L.lookup f_impl_TrtOk = some ⟨S_impl_TrtOk, .r H_impl_TrtOk R_impl_TrtOk⟩ := rfl
theorem L_slices_IndexFunc_SSint_Sint : L.lookup f_slices_IndexFunc_SSint_Sint = some ⟨S_slices_IndexFunc_SSint_Sint, .r H_slices_IndexFunc_SSint_Sint R_slices_IndexFunc_SSint_Sint⟩ := rfl
theorem L_slices_ContainsFunc_SSint_Sint : L.lookup f_slices_ContainsFunc_SSint_Sint = some ⟨S_slices_ContainsFunc_SSint_Sint, .r H_slices_ContainsFunc_SSint_Sint R_slices_ContainsFunc_SSint_Sint⟩ := rfl
theorem L_impl_partsOk_1 : L.lookup f_impl_partsOk_1 = some ⟨S_impl_partsOk_1, .r H_impl_partsOk_1 R_impl_partsOk_1⟩ := rfl
theorem L_impl_partsOk : L.lookup f_impl_partsOk = some ⟨S_impl_partsOk, .r H_impl_partsOk R_impl_partsOk⟩ := rfl
theorem L_impl_addedOk : L.lookup f_impl_addedOk = some ⟨S_impl_addedOk, .r H_impl_addedOk R_impl_addedOk⟩ := rfl
theorem L_impl_TrtTreaty_ok : L.lookup f_impl_TrtTreaty_ok = some ⟨S_impl_TrtTreaty_ok, .r H_impl_TrtTreaty_ok R_impl_TrtTreaty_ok⟩ := rfl
theorem L_impl_dot : L.lookup f_impl_dot = some ⟨S_impl_dot, .r H_impl_dot R_impl_dot⟩ := rfl
theorem L_impl_TrtKeeps_1 : L.lookup f_impl_TrtKeeps_1 = some ⟨S_impl_TrtKeeps_1, .r H_impl_TrtKeeps_1 R_impl_TrtKeeps_1⟩ := rfl
theorem L_impl_TrtKeeps : L.lookup f_impl_TrtKeeps = some ⟨S_impl_TrtKeeps, .r H_impl_TrtKeeps R_impl_TrtKeeps⟩ := rfl
theorem L_impl_TrtAll : L.lookup f_impl_TrtAll = some ⟨S_impl_TrtAll, .r H_impl_TrtAll R_impl_TrtAll⟩ := rfl
theorem L_spec_ValOk : L.lookup f_spec_ValOk = some ⟨S_spec_ValOk, .r H_spec_ValOk R_spec_ValOk⟩ := rfl
theorem L_spec_TrtOk : L.lookup f_spec_TrtOk = some ⟨S_spec_TrtOk, .r H_spec_TrtOk R_spec_TrtOk⟩ := rfl
theorem L_spec_l5Parts : L.lookup f_spec_l5Parts = some ⟨S_spec_l5Parts, .r H_spec_l5Parts R_spec_l5Parts⟩ := rfl
theorem L_spec_l5Times : L.lookup f_spec_l5Times = some ⟨S_spec_l5Times, .r H_spec_l5Times R_spec_l5Times⟩ := rfl
theorem L_spec_TrtKeeps : L.lookup f_spec_TrtKeeps = some ⟨S_spec_TrtKeeps, .r H_spec_TrtKeeps R_spec_TrtKeeps⟩ := rfl
theorem L_spec_TrtAll : L.lookup f_spec_TrtAll = some ⟨S_spec_TrtAll, .r H_spec_TrtAll R_spec_TrtAll⟩ := rfl
theorem L_laws_FnTrtAll : L.lookup f_laws_FnTrtAll = some ⟨S_laws_FnTrtAll, .r H_laws_FnTrtAll R_laws_FnTrtAll⟩ := rfl
end Go.Proofs.Ytbikgdcgoogngaa

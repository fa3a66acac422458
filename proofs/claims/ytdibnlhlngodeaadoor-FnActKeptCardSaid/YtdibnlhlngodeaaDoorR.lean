/- The residual programs of the functions, and the table of them. -/
import Derived.Test.YtdibnlhlngodeaaDoorTd
namespace Go.Proofs.YtdibnlhlngodeaaDoor
open Go Go.Tm
abbrev f_spec_l20Open : Nat := 15
abbrev f_spec_l20Rd_pick : Nat := 32
abbrev f_spec_FrmZero : Nat := 47
abbrev f_spec_l20Num : Nat := 45
abbrev f_spec_l20With : Nat := 44
abbrev f_spec_l20Small : Nat := 34
abbrev f_spec_l20Line : Nat := 46
abbrev f_spec_l1In : Nat := 37
abbrev f_spec_l1All : Nat := 26
abbrev f_spec_l2Small : Nat := 38
abbrev f_spec_l2Line : Nat := 25
abbrev f_spec_ActOk : Nat := 9
abbrev f_spec_l20Act : Nat := 31
abbrev f_spec_l20Form : Nat := 33
abbrev f_spec_l20AnyAct : Nat := 16
abbrev f_spec_l20Vals : Nat := 17
abbrev f_spec_l20Args : Nat := 18
abbrev f_spec_DrawActRun : Nat := 4
abbrev f_impl_in : Nat := 39
abbrev f_impl_within_1 : Nat := 41
abbrev f_slices_IndexFunc_Sint_int : Nat := 50
abbrev f_slices_ContainsFunc_Sint_int : Nat := 40
abbrev f_impl_within : Nat := 29
abbrev f_impl_FrmForm_small : Nat := 48
abbrev f_slices_Equal_Sint_int : Nat := 54
abbrev f_impl_FrmForm_same : Nat := 49
abbrev f_impl_ActLine_ok : Nat := 35
abbrev f_impl_ActOk : Nat := 19
abbrev f_impl_ValOk : Nat := 13
abbrev f_impl_ArgOk : Nat := 20
abbrev f_slices_Clone_Sint_int : Nat := 21
abbrev f_impl_dot : Nat := 36
abbrev f_impl_FrmForm_at : Nat := 22
abbrev f_impl_ActRun : Nat := 5
abbrev f_spec_ValOk : Nat := 10
abbrev f_spec_ArgOk : Nat := 11
abbrev f_spec_l1At : Nat := 23
abbrev f_spec_l2End : Nat := 24
abbrev f_spec_ActRun : Nat := 6
abbrev f_laws_coInts : Nat := 8
abbrev f_laws_coRes : Nat := 7
abbrev f_impl_FrmZero : Nat := 28
abbrev f_impl_FrmOk : Nat := 27
abbrev f_laws_coHolds : Nat := 12
abbrev f_impl_codeWords : Nat := 42
abbrev f_impl_joined : Nat := 43
abbrev f_impl_ResText : Nat := 30
abbrev f_impl_ResOk : Nat := 14
abbrev f_laws_FnActKept : Nat := 3
/-- spec_l20Open -/
def R_spec_l20Open : R :=
  .ite (.cmp .lt (.z 2000) (.len (.v 0)))
   (
    .i (.chk (.cmp .le (.z 2000) (.len (.v 0)))) <|
    .done [(.s (.take (.v 0) (.z 2000))), (.vi .i64 (.z 0))])
   (
    .done [(.s (.v 0)), (.vi .i64 (.z 0))])
/-- spec_l20Rd_pick -/
def R_spec_l20Rd_pick : R :=
  .ite (.cmp .lt (.v 2) (.z 1))
   (
    .done [(.vi .i64 (.z 0)), (.s (.v 0)), (.vi .i64 (.bin .add .i64 (.v 1) (.z 1)))])
   (
    .ite (.cmp .eq (.len (.v 0)) (.z 0))
     (
      .done [(.vi .i64 (.z 0)), (.s (.v 0)), (.vi .i64 (.bin .add .i64 (.v 1) (.z 1)))])
     (
      .ite (.cmp .lt (.bin .sub .i64 (.bin .add .i64 (.v 1) (.z 1)) (.z 1)) (.len (.v 0)))
       (
        .i (.idx (.v 0) (.bin .sub .i64 (.bin .add .i64 (.v 1) (.z 1)) (.z 1)) (.one (.i .u8)) 3) <|
        .i (.chk (.not (.cmp .eq (.v 2) (.z 0)))) <|
        .done [(.vi .i64 (.bin .rem .i64 (.cv .i64 (.v 3)) (.v 2))), (.s (.v 0)), (.vi .i64 (.bin .add .i64 (.v 1) (.z 1)))])
       (
        .i (.chk (.not (.cmp .eq (.len (.v 0)) (.z 0)))) <|
        .i (.idx (.v 0) (.bin .rem .i64 (.bin .sub .i64 (.bin .add .i64 (.v 1) (.z 1)) (.z 1)) (.len (.v 0))) (.one (.i .u8)) 3) <|
        .i (.chk (.not (.cmp .eq (.len (.v 0)) (.z 0)))) <|
        .i (.idx (.v 0) (.bin .rem .i64 (.bin .add .i64 (.bin .mul .i64 (.bin .sub .i64 (.bin .add .i64 (.v 1) (.z 1)) (.z 1)) (.z 7)) (.z 3)) (.len (.v 0))) (.one (.i .u8)) 4) <|
        .i (.chk (.not (.cmp .eq (.len (.v 0)) (.z 0)))) <|
        .i (.chk (.not (.cmp .eq (.z 64) (.z 0)))) <|
        .i (.chk (.not (.cmp .eq (.v 2) (.z 0)))) <|
        .done [(.vi .i64 (.bin .rem .i64 (.bin .xor .i64 (.bin .add .i64 (.bin .add .i64 (.bin .add .i64 (.bin .mul .i64 (.cv .i64 (.v 3)) (.z 131)) (.bin .mul .i64 (.cv .i64 (.v 4)) (.z 1117))) (.bin .mul .i64 (.bin .sub .i64 (.bin .add .i64 (.v 1) (.z 1)) (.z 1)) (.z 29))) (.bin .mul .i64 (.bin .quo .i64 (.bin .sub .i64 (.bin .add .i64 (.v 1) (.z 1)) (.z 1)) (.len (.v 0))) (.z 53))) (.bin .quo .i64 (.bin .add .i64 (.bin .add .i64 (.bin .add .i64 (.bin .mul .i64 (.cv .i64 (.v 3)) (.z 131)) (.bin .mul .i64 (.cv .i64 (.v 4)) (.z 1117))) (.bin .mul .i64 (.bin .sub .i64 (.bin .add .i64 (.v 1) (.z 1)) (.z 1)) (.z 29))) (.bin .mul .i64 (.bin .quo .i64 (.bin .sub .i64 (.bin .add .i64 (.v 1) (.z 1)) (.z 1)) (.len (.v 0))) (.z 53))) (.z 64))) (.v 2))), (.s (.v 0)), (.vi .i64 (.bin .add .i64 (.v 1) (.z 1)))])))
/-- spec_FrmZero -/
def R_spec_FrmZero : R :=
  .done [(.s (.cons (.vi .i64 (.z 0)) (.cons (.vi .i64 (.z 0)) (.cons (.vi .i64 (.z 0)) .nil)))), (.s (.cons (.vi .i64 (.z 0)) (.cons (.vi .i64 (.z 0)) .nil))), (.vi .i64 (.z 0))]
/-- spec_l20Num -/
def R_spec_l20Num : R :=
  .i (.call f_spec_FrmZero [] [.s, .s, .i .i64] 3) <|
  .i (.chk (.cmp .lt (.z 0) (.len (.v 4)))) <|
  .i (.idx (.v 4) (.z 0) (.one (.i .i64)) 6) <|
  .i (.chk (.cmp .lt (.z 1) (.len (.v 4)))) <|
  .i (.idx (.set (.v 4) (.z 0) (.vi .i64 (.v 0))) (.z 1) (.one (.i .i64)) 7) <|
  .done [(.s (.v 3)), (.s (.set (.set (.v 4) (.z 0) (.vi .i64 (.v 0))) (.z 1) (.vi .i64 (.v 1)))), (.vi .i64 (.v 2))]
/-- spec_l20With -/
def R_spec_l20With : R :=
  .i (.chk (.cmp .le (.z 0) (.v 3))) <|
  .i (.chk (.cmp .lt (.v 3) (.len (.v 0)))) <|
  .i (.idx (.v 0) (.v 3) (.one (.i .i64)) 5) <|
  .done [(.vi .i64 (.v 2)), (.s (.set (.v 0) (.v 3) (.vi .i64 (.v 4)))), (.s (.v 1))]
/-- spec_l20Small -/
def R_spec_l20Small : R :=
  .i (.call f_spec_FrmZero [] [.s, .s, .i .i64] 2) <|
  .loop 5 [(.v 2), (.z 0), (.v 1), (.v 0)] <|
    .ite (.cmp .lt (.v 6) (.z 3))
     (
      .i (.call f_spec_l20Rd_pick [(.s (.v 8)), (.vi .i64 (.v 7)), (.vi .i64 (.z 6))] [.i .i64, .s, .i .i64] 9) <|
      .i (.chk (.cmp .le (.z 0) (.v 9))) <|
      .i (.chk (.cmp .lt (.v 9) (.z 6))) <|
      .i (.idx (.cons (.vi .i64 (.z 0)) (.cons (.vi .i64 (.z 0)) (.cons (.vi .i64 (.z 0)) (.cons (.vi .i64 (.z 1)) (.cons (.vi .i64 (.z (-1))) (.cons (.vi .i64 (.z 2)) .nil)))))) (.v 9) (.one (.i .i64)) 12) <|
      .i (.chk (.cmp .le (.z 0) (.v 6))) <|
      .i (.chk (.cmp .lt (.v 6) (.len (.v 5)))) <|
      .i (.idx (.v 5) (.v 6) (.one (.i .i64)) 13) <|
      .next [(.set (.v 5) (.v 6) (.vi .i64 (.v 12))), (.bin .add .i64 (.v 6) (.z 1)), (.v 11), (.v 10)])
     (
      .esc <|
      .loop 9 [(.v 3), (.z 0), (.v 7), (.v 8)] <|
        .ite (.cmp .lt (.v 10) (.z 2))
         (
          .i (.call f_spec_l20Rd_pick [(.s (.v 12)), (.vi .i64 (.v 11)), (.vi .i64 (.z 5))] [.i .i64, .s, .i .i64] 13) <|
          .i (.chk (.cmp .le (.z 0) (.v 13))) <|
          .i (.chk (.cmp .lt (.v 13) (.z 5))) <|
          .i (.idx (.cons (.vi .i64 (.z 0)) (.cons (.vi .i64 (.z 0)) (.cons (.vi .i64 (.z 1)) (.cons (.vi .i64 (.z (-1))) (.cons (.vi .i64 (.z 2)) .nil))))) (.v 13) (.one (.i .i64)) 16) <|
          .i (.chk (.cmp .le (.z 0) (.v 10))) <|
          .i (.chk (.cmp .lt (.v 10) (.len (.v 9)))) <|
          .i (.idx (.v 9) (.v 10) (.one (.i .i64)) 17) <|
          .next [(.set (.v 9) (.v 10) (.vi .i64 (.v 16))), (.bin .add .i64 (.v 10) (.z 1)), (.v 15), (.v 14)])
         (
          .esc <|
          .i (.call f_spec_l20Rd_pick [(.s (.v 12)), (.vi .i64 (.v 11)), (.vi .i64 (.z 8))] [.i .i64, .s, .i .i64] 13) <|
          .i (.chk (.cmp .le (.z 0) (.v 13))) <|
          .i (.chk (.cmp .lt (.v 13) (.z 8))) <|
          .i (.idx (.cons (.vi .i64 (.z 0)) (.cons (.vi .i64 (.z 0)) (.cons (.vi .i64 (.z 1)) (.cons (.vi .i64 (.z (-1))) (.cons (.vi .i64 (.z 5)) (.cons (.vi .i64 (.z (-5))) (.cons (.vi .i64 (.z 20)) (.cons (.vi .i64 (.z (-20))) .nil)))))))) (.v 13) (.one (.i .i64)) 16) <|
          .done [(.s (.v 5)), (.s (.v 9)), (.vi .i64 (.v 16)), (.s (.v 14)), (.vi .i64 (.v 15))]))
/-- spec_l20Line -/
def R_spec_l20Line : R :=
  .i (.call f_spec_l20Rd_pick [(.s (.v 0)), (.vi .i64 (.v 1)), (.vi .i64 (.z 7))] [.i .i64, .s, .i .i64] 2) <|
  .ite (.cmp .eq (.v 2) (.z 0))
   (
    .i (.call f_spec_l20Rd_pick [(.s (.v 3)), (.vi .i64 (.v 4)), (.vi .i64 (.z 3))] [.i .i64, .s, .i .i64] 5) <|
    .i (.call f_spec_l20Small [(.s (.v 6)), (.vi .i64 (.v 7))] [.s, .s, .i .i64, .s, .i .i64] 8) <|
    .done [(.vi .i64 (.z 1)), (.vi .i64 (.z 0)), (.vi .i64 (.bin .add .i64 (.z 1) (.v 5))), (.s (.v 8)), (.s (.v 9)), (.vi .i64 (.v 10)), (.s (.v 11)), (.vi .i64 (.v 12))])
   (
    .ite (.cmp .eq (.v 2) (.z 1))
     (
      .i (.call f_spec_l20Rd_pick [(.s (.v 3)), (.vi .i64 (.v 4)), (.vi .i64 (.z 3))] [.i .i64, .s, .i .i64] 5) <|
      .i (.call f_spec_l20Small [(.s (.v 6)), (.vi .i64 (.v 7))] [.s, .s, .i .i64, .s, .i .i64] 8) <|
      .done [(.vi .i64 (.z 1)), (.vi .i64 (.z 0)), (.vi .i64 (.bin .add .i64 (.z 1) (.v 5))), (.s (.v 8)), (.s (.v 9)), (.vi .i64 (.v 10)), (.s (.v 11)), (.vi .i64 (.v 12))])
     (
      .ite (.cmp .eq (.v 2) (.z 2))
       (
        .i (.call f_spec_l20Small [(.s (.v 3)), (.vi .i64 (.v 4))] [.s, .s, .i .i64, .s, .i .i64] 5) <|
        .i (.call f_spec_l20Rd_pick [(.s (.v 8)), (.vi .i64 (.v 9)), (.vi .i64 (.z 3))] [.i .i64, .s, .i .i64] 10) <|
        .ite (.cmp .lt (.z 0) (.v 10))
         (
          .i (.call f_spec_l20Rd_pick [(.s (.v 11)), (.vi .i64 (.v 12)), (.vi .i64 (.z 3))] [.i .i64, .s, .i .i64] 13) <|
          .done [(.vi .i64 (.z 2)), (.vi .i64 (.v 13)), (.vi .i64 (.z 0)), (.s (.cons (.vi .i64 (.z 0)) (.cons (.vi .i64 (.z 0)) (.cons (.vi .i64 (.z 0)) .nil)))), (.s (.v 6)), (.vi .i64 (.v 7)), (.s (.v 14)), (.vi .i64 (.v 15))])
         (
          .i (.call f_spec_l20Rd_pick [(.s (.v 11)), (.vi .i64 (.v 12)), (.vi .i64 (.z 3))] [.i .i64, .s, .i .i64] 13) <|
          .done [(.vi .i64 (.z 2)), (.vi .i64 (.v 13)), (.vi .i64 (.z 0)), (.s (.v 5)), (.s (.v 6)), (.vi .i64 (.v 7)), (.s (.v 14)), (.vi .i64 (.v 15))]))
       (
        .ite (.cmp .eq (.v 2) (.z 3))
         (
          .i (.call f_spec_l20Small [(.s (.v 3)), (.vi .i64 (.v 4))] [.s, .s, .i .i64, .s, .i .i64] 5) <|
          .i (.call f_spec_l20Rd_pick [(.s (.v 8)), (.vi .i64 (.v 9)), (.vi .i64 (.z 3))] [.i .i64, .s, .i .i64] 10) <|
          .ite (.cmp .lt (.z 0) (.v 10))
           (
            .i (.call f_spec_l20Rd_pick [(.s (.v 11)), (.vi .i64 (.v 12)), (.vi .i64 (.z 3))] [.i .i64, .s, .i .i64] 13) <|
            .done [(.vi .i64 (.z 2)), (.vi .i64 (.v 13)), (.vi .i64 (.z 0)), (.s (.cons (.vi .i64 (.z 0)) (.cons (.vi .i64 (.z 0)) (.cons (.vi .i64 (.z 0)) .nil)))), (.s (.v 6)), (.vi .i64 (.v 7)), (.s (.v 14)), (.vi .i64 (.v 15))])
           (
            .i (.call f_spec_l20Rd_pick [(.s (.v 11)), (.vi .i64 (.v 12)), (.vi .i64 (.z 3))] [.i .i64, .s, .i .i64] 13) <|
            .done [(.vi .i64 (.z 2)), (.vi .i64 (.v 13)), (.vi .i64 (.z 0)), (.s (.v 5)), (.s (.v 6)), (.vi .i64 (.v 7)), (.s (.v 14)), (.vi .i64 (.v 15))]))
         (
          .ite (.cmp .eq (.v 2) (.z 4))
           (
            .i (.call f_spec_l20Small [(.s (.v 3)), (.vi .i64 (.v 4))] [.s, .s, .i .i64, .s, .i .i64] 5) <|
            .i (.call f_spec_l20Rd_pick [(.s (.v 8)), (.vi .i64 (.v 9)), (.vi .i64 (.z 3))] [.i .i64, .s, .i .i64] 10) <|
            .ite (.cmp .lt (.z 0) (.v 10))
             (
              .i (.call f_spec_l20Rd_pick [(.s (.v 11)), (.vi .i64 (.v 12)), (.vi .i64 (.z 3))] [.i .i64, .s, .i .i64] 13) <|
              .done [(.vi .i64 (.z 2)), (.vi .i64 (.v 13)), (.vi .i64 (.z 0)), (.s (.cons (.vi .i64 (.z 0)) (.cons (.vi .i64 (.z 0)) (.cons (.vi .i64 (.z 0)) .nil)))), (.s (.v 6)), (.vi .i64 (.v 7)), (.s (.v 14)), (.vi .i64 (.v 15))])
             (
              .i (.call f_spec_l20Rd_pick [(.s (.v 11)), (.vi .i64 (.v 12)), (.vi .i64 (.z 3))] [.i .i64, .s, .i .i64] 13) <|
              .done [(.vi .i64 (.z 2)), (.vi .i64 (.v 13)), (.vi .i64 (.z 0)), (.s (.v 5)), (.s (.v 6)), (.vi .i64 (.v 7)), (.s (.v 14)), (.vi .i64 (.v 15))]))
           (
            .ite (.cmp .eq (.v 2) (.z 5))
             (
              .i (.call f_spec_l20Small [(.s (.v 3)), (.vi .i64 (.v 4))] [.s, .s, .i .i64, .s, .i .i64] 5) <|
              .done [(.vi .i64 (.z 3)), (.vi .i64 (.z 0)), (.vi .i64 (.z 0)), (.s (.v 5)), (.s (.v 6)), (.vi .i64 (.v 7)), (.s (.v 8)), (.vi .i64 (.v 9))])
             (
              .done [(.vi .i64 (.z 4)), (.vi .i64 (.z 0)), (.vi .i64 (.z 0)), (.s .nil), (.s .nil), (.vi .i64 (.z 0)), (.s (.v 3)), (.vi .i64 (.v 4))]))))))
/-- spec_l1In -/
def R_spec_l1In : R :=
  .ite (.cmp .le (.v 1) (.v 0))
   (
    .done [(.vb (.cmp .le (.v 0) (.v 2)))])
   (
    .done [(.vb .ff)])
/-- spec_l1All -/
def R_spec_l1All : R :=
  .ite (.not (.cmp .eq (.len (.v 0)) (.v 1)))
   (
    .done [(.vb .ff)])
   (
    .loop 3 [(.z 0)] <|
      .ite (.cmp .lt (.v 3) (.len (.v 0)))
       (
        .i (.idx (.v 0) (.v 3) (.one (.i .i64)) 4) <|
        .i (.call f_spec_l1In [(.vi .i64 (.v 4)), (.vi .i64 (.bin .sub .i64 (.z 0) (.v 2))), (.vi .i64 (.v 2))] [.b] 5) <|
        .ite (.not (.v 5))
         (
          .esc <|
          .done [(.vb .ff)])
         (
          .next [(.bin .add .i64 (.v 3) (.z 1))]))
       (
        .esc <|
        .done [(.vb .tt)]))
/-- spec_l2Small -/
def R_spec_l2Small : R :=
  .i (.call f_spec_l1All [(.s (.v 0)), (.vi .i64 (.z 3)), (.vi .i64 (.z 2))] [.b] 3) <|
  .ite (.v 3)
   (
    .i (.call f_spec_l1All [(.s (.v 1)), (.vi .i64 (.z 2)), (.vi .i64 (.z 2))] [.b] 4) <|
    .ite (.v 4)
     (
      .i (.call f_spec_l1In [(.vi .i64 (.v 2)), (.vi .i64 (.z (-20))), (.vi .i64 (.z 20))] [.b] 5) <|
      .done [(.vb (.v 5))])
     (
      .done [(.vb .ff)]))
   (
    .done [(.vb .ff)])
/-- spec_l2Line -/
def R_spec_l2Line : R :=
  .ite (.cmp .eq (.v 0) (.z 1))
   (
    .ite (.cmp .eq (.v 1) (.z 0))
     (
      .i (.call f_spec_l1In [(.vi .i64 (.v 2)), (.vi .i64 (.z 1)), (.vi .i64 (.z 6))] [.b] 6) <|
      .ite (.v 6)
       (
        .i (.call f_spec_l2Small [(.s (.v 3)), (.s (.v 4)), (.vi .i64 (.v 5))] [.b] 7) <|
        .done [(.vb (.v 7))])
       (
        .done [(.vb .ff)]))
     (
      .done [(.vb .ff)]))
   (
    .ite (.cmp .eq (.v 0) (.z 2))
     (
      .i (.call f_spec_l1In [(.vi .i64 (.v 1)), (.vi .i64 (.z 0)), (.vi .i64 (.z 2))] [.b] 6) <|
      .ite (.v 6)
       (
        .ite (.cmp .eq (.v 2) (.z 0))
         (
          .i (.call f_spec_l2Small [(.s (.v 3)), (.s (.v 4)), (.vi .i64 (.v 5))] [.b] 7) <|
          .done [(.vb (.v 7))])
         (
          .done [(.vb .ff)]))
       (
        .done [(.vb .ff)]))
     (
      .ite (.cmp .eq (.v 0) (.z 3))
       (
        .ite (.cmp .eq (.v 1) (.z 0))
         (
          .ite (.cmp .eq (.v 2) (.z 0))
           (
            .i (.call f_spec_l2Small [(.s (.v 3)), (.s (.v 4)), (.vi .i64 (.v 5))] [.b] 6) <|
            .done [(.vb (.v 6))])
           (
            .done [(.vb .ff)]))
         (
          .done [(.vb .ff)]))
       (
        .ite (.cmp .eq (.v 0) (.z 4))
         (
          .ite (.cmp .eq (.v 1) (.z 0))
           (
            .ite (.cmp .eq (.v 2) (.z 0))
             (
              .ite (.cmp .eq (.bin .add .i64 (.len (.v 3)) (.len (.v 4))) (.z 0))
               (
                .done [(.vb (.cmp .eq (.v 5) (.z 0)))])
               (
                .done [(.vb .ff)]))
             (
              .done [(.vb .ff)]))
           (
            .done [(.vb .ff)]))
         (
          .done [(.vb .ff)]))))
/-- spec_ActOk -/
def R_spec_ActOk : R :=
  .loop 1 [(.z 0), (.z 0)] <|
    .ite (.cmp .lt (.v 2) (.len (.v 0)))
     (
      .i (.idx (.v 0) (.v 2) (.g [.i .i64, .i .i64, .i .i64, .s, .s, .i .i64]) 3) <|
      .i (.call f_spec_l2Line [(.vi .i64 (.v 3)), (.vi .i64 (.v 4)), (.vi .i64 (.v 5)), (.s (.v 6)), (.s (.v 7)), (.vi .i64 (.v 8))] [.b] 9) <|
      .ite (.not (.v 9))
       (
        .esc <|
        .done [(.vb .ff)])
       (
        .i (.idx (.v 0) (.v 2) (.g [.i .i64, .i .i64, .i .i64, .s, .s, .i .i64]) 10) <|
        .ite (.cmp .eq (.v 10) (.z 1))
         (
          .next [(.bin .add .i64 (.v 1) (.z 1)), (.bin .add .i64 (.v 2) (.z 1))])
         (
          .next [(.v 1), (.bin .add .i64 (.v 2) (.z 1))])))
     (
      .esc <|
      .ite (.cmp .le (.len (.v 0)) (.z 6))
       (
        .done [(.vb (.cmp .le (.v 1) (.z 3)))])
       (
        .done [(.vb .ff)]))
/-- spec_l20Act -/
def R_spec_l20Act : R :=
  .i (.call f_spec_l20Rd_pick [(.s (.v 0)), (.vi .i64 (.v 1)), (.vi .i64 (.z 2))] [.i .i64, .s, .i .i64] 2) <|
  .i (.call f_spec_l20Rd_pick [(.s (.v 3)), (.vi .i64 (.v 4)), (.vi .i64 (.z 8))] [.i .i64, .s, .i .i64] 5) <|
  .ite (.cmp .eq (.v 5) (.z 0))
   (
    .i (.call f_spec_l20Num [(.vi .i64 (.z (-1))), (.vi .i64 (.z 0)), (.vi .i64 (.z 0))] [.s, .s, .i .i64] 8) <|
    .i (.call f_spec_l20With [(.s (.v 8)), (.s (.v 9)), (.vi .i64 (.v 10)), (.vi .i64 (.v 2)), (.vi .i64 (.z 1))] [.i .i64, .s, .s] 11) <|
    .i (.call f_spec_l20Num [(.vi .i64 (.z (-1))), (.vi .i64 (.z 0)), (.vi .i64 (.z 0))] [.s, .s, .i .i64] 14) <|
    .i (.call f_spec_l20Num [(.vi .i64 (.z 1)), (.vi .i64 (.z 0)), (.vi .i64 (.z 0))] [.s, .s, .i .i64] 17) <|
    .i (.call f_spec_l20Num [(.vi .i64 (.z 1)), (.vi .i64 (.z 0)), (.vi .i64 (.z (-9)))] [.s, .s, .i .i64] 20) <|
    .done [(.s (.cons (.g (.cons (.vi .i64 (.z 1)) (.cons (.vi .i64 (.z 0)) (.cons (.vi .i64 (.z 2)) (.cons (.s (.v 12)) (.cons (.s (.v 13)) (.cons (.vi .i64 (.v 11)) .nil))))))) (.cons (.g (.cons (.vi .i64 (.z 2)) (.cons (.vi .i64 (.v 2)) (.cons (.vi .i64 (.z 0)) (.cons (.s (.v 14)) (.cons (.s (.v 15)) (.cons (.vi .i64 (.v 16)) .nil))))))) (.cons (.g (.cons (.vi .i64 (.z 3)) (.cons (.vi .i64 (.z 0)) (.cons (.vi .i64 (.z 0)) (.cons (.s (.v 17)) (.cons (.s (.v 18)) (.cons (.vi .i64 (.v 19)) .nil))))))) (.cons (.g (.cons (.vi .i64 (.z 1)) (.cons (.vi .i64 (.z 0)) (.cons (.vi .i64 (.z 1)) (.cons (.s (.v 20)) (.cons (.s (.v 21)) (.cons (.vi .i64 (.v 22)) .nil))))))) (.cons (.g (.cons (.vi .i64 (.z 4)) (.cons (.vi .i64 (.z 0)) (.cons (.vi .i64 (.z 0)) (.cons (.s .nil) (.cons (.s .nil) (.cons (.vi .i64 (.z 0)) .nil))))))) .nil)))))), (.s (.v 6)), (.vi .i64 (.v 7))])
   (
    .ite (.cmp .eq (.v 5) (.z 1))
     (
      .i (.call f_spec_l20Num [(.vi .i64 (.z (-1))), (.vi .i64 (.z 0)), (.vi .i64 (.z 0))] [.s, .s, .i .i64] 8) <|
      .i (.call f_spec_l20With [(.s (.v 8)), (.s (.v 9)), (.vi .i64 (.v 10)), (.vi .i64 (.v 2)), (.vi .i64 (.z 1))] [.i .i64, .s, .s] 11) <|
      .i (.call f_spec_l20Num [(.vi .i64 (.z (-1))), (.vi .i64 (.z 0)), (.vi .i64 (.z 0))] [.s, .s, .i .i64] 14) <|
      .i (.call f_spec_l20Num [(.vi .i64 (.z 1)), (.vi .i64 (.z 0)), (.vi .i64 (.z 0))] [.s, .s, .i .i64] 17) <|
      .i (.call f_spec_l20Num [(.vi .i64 (.z 1)), (.vi .i64 (.z 0)), (.vi .i64 (.z (-9)))] [.s, .s, .i .i64] 20) <|
      .done [(.s (.cons (.g (.cons (.vi .i64 (.z 1)) (.cons (.vi .i64 (.z 0)) (.cons (.vi .i64 (.z 2)) (.cons (.s (.v 12)) (.cons (.s (.v 13)) (.cons (.vi .i64 (.v 11)) .nil))))))) (.cons (.g (.cons (.vi .i64 (.z 2)) (.cons (.vi .i64 (.v 2)) (.cons (.vi .i64 (.z 0)) (.cons (.s (.v 14)) (.cons (.s (.v 15)) (.cons (.vi .i64 (.v 16)) .nil))))))) (.cons (.g (.cons (.vi .i64 (.z 3)) (.cons (.vi .i64 (.z 0)) (.cons (.vi .i64 (.z 0)) (.cons (.s (.v 17)) (.cons (.s (.v 18)) (.cons (.vi .i64 (.v 19)) .nil))))))) (.cons (.g (.cons (.vi .i64 (.z 1)) (.cons (.vi .i64 (.z 0)) (.cons (.vi .i64 (.z 1)) (.cons (.s (.v 20)) (.cons (.s (.v 21)) (.cons (.vi .i64 (.v 22)) .nil))))))) (.cons (.g (.cons (.vi .i64 (.z 4)) (.cons (.vi .i64 (.z 0)) (.cons (.vi .i64 (.z 0)) (.cons (.s .nil) (.cons (.s .nil) (.cons (.vi .i64 (.z 0)) .nil))))))) .nil)))))), (.s (.v 6)), (.vi .i64 (.v 7))])
     (
      .ite (.cmp .eq (.v 5) (.z 2))
       (
        .i (.call f_spec_l20Num [(.vi .i64 (.z 1)), (.vi .i64 (.z 0)), (.vi .i64 (.z 0))] [.s, .s, .i .i64] 8) <|
        .done [(.s (.cons (.g (.cons (.vi .i64 (.z 2)) (.cons (.vi .i64 (.v 2)) (.cons (.vi .i64 (.z 0)) (.cons (.s (.v 8)) (.cons (.s (.v 9)) (.cons (.vi .i64 (.v 10)) .nil))))))) .nil)), (.s (.v 6)), (.vi .i64 (.v 7))])
       (
        .ite (.cmp .eq (.v 5) (.z 3))
         (
          .i (.call f_spec_l20Num [(.vi .i64 (.z (-1))), (.vi .i64 (.z 0)), (.vi .i64 (.z 0))] [.s, .s, .i .i64] 8) <|
          .i (.call f_spec_l20With [(.s (.v 8)), (.s (.v 9)), (.vi .i64 (.v 10)), (.vi .i64 (.v 2)), (.vi .i64 (.z 1))] [.i .i64, .s, .s] 11) <|
          .i (.call f_spec_l20Num [(.vi .i64 (.z (-1))), (.vi .i64 (.z 0)), (.vi .i64 (.z 0))] [.s, .s, .i .i64] 14) <|
          .i (.call f_spec_l20Num [(.vi .i64 (.z 1)), (.vi .i64 (.z 0)), (.vi .i64 (.z 0))] [.s, .s, .i .i64] 17) <|
          .done [(.s (.cons (.g (.cons (.vi .i64 (.z 1)) (.cons (.vi .i64 (.z 0)) (.cons (.vi .i64 (.z 2)) (.cons (.s (.v 12)) (.cons (.s (.v 13)) (.cons (.vi .i64 (.v 11)) .nil))))))) (.cons (.g (.cons (.vi .i64 (.z 2)) (.cons (.vi .i64 (.v 2)) (.cons (.vi .i64 (.z 0)) (.cons (.s (.v 14)) (.cons (.s (.v 15)) (.cons (.vi .i64 (.v 16)) .nil))))))) (.cons (.g (.cons (.vi .i64 (.z 2)) (.cons (.vi .i64 (.bin .sub .i64 (.z 1) (.v 2))) (.cons (.vi .i64 (.z 0)) (.cons (.s (.v 17)) (.cons (.s (.v 18)) (.cons (.vi .i64 (.v 19)) .nil))))))) .nil)))), (.s (.v 6)), (.vi .i64 (.v 7))])
         (
          .ite (.cmp .eq (.v 5) (.z 4))
           (
            .i (.call f_spec_l20Num [(.vi .i64 (.z 0)), (.vi .i64 (.z 0)), (.vi .i64 (.z 0))] [.s, .s, .i .i64] 8) <|
            .i (.call f_spec_l20With [(.s (.v 8)), (.s (.v 9)), (.vi .i64 (.v 10)), (.vi .i64 (.z 2)), (.vi .i64 (.z 1))] [.i .i64, .s, .s] 11) <|
            .done [(.s (.cons (.g (.cons (.vi .i64 (.z 3)) (.cons (.vi .i64 (.z 0)) (.cons (.vi .i64 (.z 0)) (.cons (.s (.v 12)) (.cons (.s (.v 13)) (.cons (.vi .i64 (.v 11)) .nil))))))) .nil)), (.s (.v 6)), (.vi .i64 (.v 7))])
           (
            .ite (.cmp .eq (.v 5) (.z 5))
             (
              .i (.call f_spec_l20Num [(.vi .i64 (.z 0)), (.vi .i64 (.z 1)), (.vi .i64 (.z 5))] [.s, .s, .i .i64] 8) <|
              .i (.call f_spec_l20With [(.s (.v 8)), (.s (.v 9)), (.vi .i64 (.v 10)), (.vi .i64 (.z 0)), (.vi .i64 (.z 1))] [.i .i64, .s, .s] 11) <|
              .i (.call f_spec_l20With [(.s (.v 12)), (.s (.v 13)), (.vi .i64 (.v 11)), (.vi .i64 (.z 1)), (.vi .i64 (.z (-1)))] [.i .i64, .s, .s] 14) <|
              .i (.call f_spec_l20Num [(.vi .i64 (.z 0)), (.vi .i64 (.z 0)), (.vi .i64 (.z 1))] [.s, .s, .i .i64] 17) <|
              .done [(.s (.cons (.g (.cons (.vi .i64 (.z 1)) (.cons (.vi .i64 (.z 0)) (.cons (.vi .i64 (.z 1)) (.cons (.s (.v 15)) (.cons (.s (.v 16)) (.cons (.vi .i64 (.v 14)) .nil))))))) (.cons (.g (.cons (.vi .i64 (.z 2)) (.cons (.vi .i64 (.z 2)) (.cons (.vi .i64 (.z 0)) (.cons (.s (.v 17)) (.cons (.s (.v 18)) (.cons (.vi .i64 (.v 19)) .nil))))))) .nil))), (.s (.v 6)), (.vi .i64 (.v 7))])
             (
              .i (.call f_spec_l20Rd_pick [(.s (.v 6)), (.vi .i64 (.v 7)), (.vi .i64 (.z 5))] [.i .i64, .s, .i .i64] 8) <|
              .loop 11 [.nil, (.bin .add .i64 (.z 1) (.v 8)), (.v 10), (.v 9)] <|
                .ite (.cmp .lt (.z 0) (.v 12))
                 (
                  .i (.call f_spec_l20Line [(.s (.v 14)), (.vi .i64 (.v 13))] [.i .i64, .i .i64, .i .i64, .s, .s, .i .i64, .s, .i .i64] 15) <|
                  .i (.chk (.cmp .le (.len (.v 11)) (.z 879609302220))) <|
                  .i (.head 6 (.v 11)) <|
                  .i (.chk (.cmp .le (.len (.app .nil (.v 11))) (.z 879609302220))) <|
                  .i (.chk (.cmp .le (.len (.app (.app .nil (.v 11)) (.cons (.g (.cons (.vi .i64 (.v 15)) (.cons (.vi .i64 (.v 16)) (.cons (.vi .i64 (.v 17)) (.cons (.s (.v 18)) (.cons (.s (.v 19)) (.cons (.vi .i64 (.v 20)) .nil))))))) .nil))) (.z 879609302220))) <|
                  .i (.call f_spec_ActOk [(.s (.app (.app .nil (.v 11)) (.cons (.g (.cons (.vi .i64 (.v 15)) (.cons (.vi .i64 (.v 16)) (.cons (.vi .i64 (.v 17)) (.cons (.s (.v 18)) (.cons (.s (.v 19)) (.cons (.vi .i64 (.v 20)) .nil))))))) .nil)))] [.b] 23) <|
                  .ite (.v 23)
                   (
                    .i (.chk (.cmp .le (.len (.app (.v 11) (.cons (.g (.cons (.vi .i64 (.v 15)) (.cons (.vi .i64 (.v 16)) (.cons (.vi .i64 (.v 17)) (.cons (.s (.v 18)) (.cons (.s (.v 19)) (.cons (.vi .i64 (.v 20)) .nil))))))) .nil))) (.z 879609302220))) <|
                    .next [(.app (.v 11) (.cons (.g (.cons (.vi .i64 (.v 15)) (.cons (.vi .i64 (.v 16)) (.cons (.vi .i64 (.v 17)) (.cons (.s (.v 18)) (.cons (.s (.v 19)) (.cons (.vi .i64 (.v 20)) .nil))))))) .nil)), (.bin .sub .i64 (.v 12) (.z 1)), (.v 22), (.v 21)])
                   (
                    .next [(.v 11), (.bin .sub .i64 (.v 12) (.z 1)), (.v 22), (.v 21)]))
                 (
                  .esc <|
                  .done [(.s (.v 11)), (.s (.v 14)), (.vi .i64 (.v 13))])))))))
/-- spec_l20Form -/
def R_spec_l20Form : R :=
  .i (.call f_spec_l20Small [(.s (.v 0)), (.vi .i64 (.v 1))] [.s, .s, .i .i64, .s, .i .i64] 3) <|
  .i (.call f_spec_l20Rd_pick [(.s (.v 6)), (.vi .i64 (.v 7)), (.vi .i64 (.z 4))] [.i .i64, .s, .i .i64] 8) <|
  .ite (.cmp .eq (.v 8) (.z 0))
   (
    .i (.call f_spec_l20Rd_pick [(.s (.v 9)), (.vi .i64 (.v 10)), (.vi .i64 (.z 3))] [.i .i64, .s, .i .i64] 11) <|
    .i (.call f_spec_l20Rd_pick [(.s (.v 12)), (.vi .i64 (.v 13)), (.vi .i64 (.z 4))] [.i .i64, .s, .i .i64] 14) <|
    .i (.chk (.cmp .le (.z 0) (.v 14))) <|
    .i (.chk (.cmp .lt (.v 14) (.z 4))) <|
    .i (.idx (.cons (.vi .i64 (.z 10000000)) (.cons (.vi .i64 (.z (-10000000))) (.cons (.vi .i64 (.z 1000)) (.cons (.vi .i64 (.z 77)) .nil)))) (.v 14) (.one (.i .i64)) 17) <|
    .i (.chk (.cmp .le (.z 0) (.v 11))) <|
    .i (.chk (.cmp .lt (.v 11) (.len (.v 3)))) <|
    .i (.idx (.v 3) (.v 11) (.one (.i .i64)) 18) <|
    .i (.call f_spec_l20Rd_pick [(.s (.v 15)), (.vi .i64 (.v 16)), (.vi .i64 (.v 2))] [.i .i64, .s, .i .i64] 19) <|
    .ite (.cmp .lt (.z 0) (.v 19))
     (
      .done [(.s (.set (.v 3) (.v 11) (.vi .i64 (.v 17)))), (.s (.v 4)), (.vi .i64 (.v 5)), (.s (.v 20)), (.vi .i64 (.v 21))])
     (
      .i (.call f_spec_l20Rd_pick [(.s (.v 20)), (.vi .i64 (.v 21)), (.vi .i64 (.z 4))] [.i .i64, .s, .i .i64] 22) <|
      .ite (.cmp .eq (.v 22) (.z 0))
       (
        .i (.chk (.cmp .le (.z 2) (.len (.set (.v 3) (.v 11) (.vi .i64 (.v 17)))))) <|
        .done [(.s (.take (.set (.v 3) (.v 11) (.vi .i64 (.v 17))) (.z 2))), (.s (.v 4)), (.vi .i64 (.v 5)), (.s (.v 23)), (.vi .i64 (.v 24))])
       (
        .ite (.cmp .eq (.v 22) (.z 1))
         (
          .i (.chk (.cmp .le (.len (.app (.v 4) (.cons (.vi .i64 (.z 0)) .nil))) (.z 8796093022208))) <|
          .done [(.s (.set (.v 3) (.v 11) (.vi .i64 (.v 17)))), (.s (.app (.v 4) (.cons (.vi .i64 (.z 0)) .nil))), (.vi .i64 (.v 5)), (.s (.v 23)), (.vi .i64 (.v 24))])
         (
          .ite (.cmp .eq (.v 22) (.z 2))
           (
            .i (.call f_spec_l20Rd_pick [(.s (.v 23)), (.vi .i64 (.v 24)), (.vi .i64 (.z 3))] [.i .i64, .s, .i .i64] 25) <|
            .i (.chk (.cmp .le (.z 0) (.v 25))) <|
            .i (.chk (.cmp .lt (.v 25) (.z 3))) <|
            .i (.idx (.cons (.vi .i64 (.z 10000001)) (.cons (.vi .i64 (.z (-10000001))) (.cons (.vi .i64 (.z 10000000)) .nil))) (.v 25) (.one (.i .i64)) 28) <|
            .done [(.s (.set (.v 3) (.v 11) (.vi .i64 (.v 17)))), (.s (.v 4)), (.vi .i64 (.v 28)), (.s (.v 26)), (.vi .i64 (.v 27))])
           (
            .i (.call f_spec_l20Rd_pick [(.s (.v 23)), (.vi .i64 (.v 24)), (.vi .i64 (.z 3))] [.i .i64, .s, .i .i64] 25) <|
            .i (.call f_spec_l20Rd_pick [(.s (.v 26)), (.vi .i64 (.v 27)), (.vi .i64 (.z 2))] [.i .i64, .s, .i .i64] 28) <|
            .i (.chk (.cmp .le (.z 0) (.v 28))) <|
            .i (.chk (.cmp .lt (.v 28) (.z 2))) <|
            .i (.idx (.cons (.vi .i64 (.z 10000001)) (.cons (.vi .i64 (.z (-10000001))) .nil)) (.v 28) (.one (.i .i64)) 31) <|
            .i (.chk (.cmp .le (.z 0) (.v 25))) <|
            .i (.chk (.cmp .lt (.v 25) (.len (.v 3)))) <|
            .i (.idx (.set (.v 3) (.v 11) (.vi .i64 (.v 17))) (.v 25) (.one (.i .i64)) 32) <|
            .done [(.s (.set (.set (.v 3) (.v 11) (.vi .i64 (.v 17))) (.v 25) (.vi .i64 (.v 31)))), (.s (.v 4)), (.vi .i64 (.v 5)), (.s (.v 29)), (.vi .i64 (.v 30))])))))
   (
    .i (.call f_spec_l20Rd_pick [(.s (.v 9)), (.vi .i64 (.v 10)), (.vi .i64 (.v 2))] [.i .i64, .s, .i .i64] 11) <|
    .ite (.cmp .lt (.z 0) (.v 11))
     (
      .done [(.s (.v 3)), (.s (.v 4)), (.vi .i64 (.v 5)), (.s (.v 12)), (.vi .i64 (.v 13))])
     (
      .i (.call f_spec_l20Rd_pick [(.s (.v 12)), (.vi .i64 (.v 13)), (.vi .i64 (.z 4))] [.i .i64, .s, .i .i64] 14) <|
      .ite (.cmp .eq (.v 14) (.z 0))
       (
        .i (.chk (.cmp .le (.z 2) (.len (.v 3)))) <|
        .done [(.s (.take (.v 3) (.z 2))), (.s (.v 4)), (.vi .i64 (.v 5)), (.s (.v 15)), (.vi .i64 (.v 16))])
       (
        .ite (.cmp .eq (.v 14) (.z 1))
         (
          .i (.chk (.cmp .le (.len (.app (.v 4) (.cons (.vi .i64 (.z 0)) .nil))) (.z 8796093022208))) <|
          .done [(.s (.v 3)), (.s (.app (.v 4) (.cons (.vi .i64 (.z 0)) .nil))), (.vi .i64 (.v 5)), (.s (.v 15)), (.vi .i64 (.v 16))])
         (
          .ite (.cmp .eq (.v 14) (.z 2))
           (
            .i (.call f_spec_l20Rd_pick [(.s (.v 15)), (.vi .i64 (.v 16)), (.vi .i64 (.z 3))] [.i .i64, .s, .i .i64] 17) <|
            .i (.chk (.cmp .le (.z 0) (.v 17))) <|
            .i (.chk (.cmp .lt (.v 17) (.z 3))) <|
            .i (.idx (.cons (.vi .i64 (.z 10000001)) (.cons (.vi .i64 (.z (-10000001))) (.cons (.vi .i64 (.z 10000000)) .nil))) (.v 17) (.one (.i .i64)) 20) <|
            .done [(.s (.v 3)), (.s (.v 4)), (.vi .i64 (.v 20)), (.s (.v 18)), (.vi .i64 (.v 19))])
           (
            .i (.call f_spec_l20Rd_pick [(.s (.v 15)), (.vi .i64 (.v 16)), (.vi .i64 (.z 3))] [.i .i64, .s, .i .i64] 17) <|
            .i (.call f_spec_l20Rd_pick [(.s (.v 18)), (.vi .i64 (.v 19)), (.vi .i64 (.z 2))] [.i .i64, .s, .i .i64] 20) <|
            .i (.chk (.cmp .le (.z 0) (.v 20))) <|
            .i (.chk (.cmp .lt (.v 20) (.z 2))) <|
            .i (.idx (.cons (.vi .i64 (.z 10000001)) (.cons (.vi .i64 (.z (-10000001))) .nil)) (.v 20) (.one (.i .i64)) 23) <|
            .i (.chk (.cmp .le (.z 0) (.v 17))) <|
            .i (.chk (.cmp .lt (.v 17) (.len (.v 3)))) <|
            .i (.idx (.v 3) (.v 17) (.one (.i .i64)) 24) <|
            .done [(.s (.set (.v 3) (.v 17) (.vi .i64 (.v 23)))), (.s (.v 4)), (.vi .i64 (.v 5)), (.s (.v 21)), (.vi .i64 (.v 22))])))))
/-- spec_l20AnyAct -/
def R_spec_l20AnyAct : R :=
  .i (.call f_spec_l20Act [(.s (.v 0)), (.vi .i64 (.v 1))] [.s, .s, .i .i64] 3) <|
  .ite (.cmp .eq (.len (.v 3)) (.z 0))
   (
    .done [(.s (.v 3)), (.s (.v 4)), (.vi .i64 (.v 5))])
   (
    .i (.call f_spec_l20Rd_pick [(.s (.v 4)), (.vi .i64 (.v 5)), (.vi .i64 (.v 2))] [.i .i64, .s, .i .i64] 6) <|
    .ite (.cmp .lt (.z 0) (.v 6))
     (
      .done [(.s (.v 3)), (.s (.v 7)), (.vi .i64 (.v 8))])
     (
      .i (.call f_spec_l20Rd_pick [(.s (.v 7)), (.vi .i64 (.v 8)), (.vi .i64 (.len (.v 3)))] [.i .i64, .s, .i .i64] 9) <|
      .i (.call f_spec_l20Rd_pick [(.s (.v 10)), (.vi .i64 (.v 11)), (.vi .i64 (.z 6))] [.i .i64, .s, .i .i64] 12) <|
      .ite (.cmp .eq (.v 12) (.z 0))
       (
        .i (.call f_spec_l20Rd_pick [(.s (.v 13)), (.vi .i64 (.v 14)), (.vi .i64 (.z 4))] [.i .i64, .s, .i .i64] 15) <|
        .i (.chk (.cmp .le (.z 0) (.v 15))) <|
        .i (.chk (.cmp .lt (.v 15) (.z 4))) <|
        .i (.idx (.cons (.vi .i64 (.z 0)) (.cons (.vi .i64 (.z 5)) (.cons (.vi .i64 (.z 4)) (.cons (.vi .i64 (.z 1)) .nil)))) (.v 15) (.one (.i .i64)) 18) <|
        .i (.chk (.cmp .le (.z 0) (.v 9))) <|
        .i (.chk (.cmp .lt (.v 9) (.len (.v 3)))) <|
        .i (.idx (.v 3) (.v 9) (.g [.i .i64, .i .i64, .i .i64, .s, .s, .i .i64]) 19) <|
        .done [(.s (.set (.v 3) (.v 9) (.g (.cons (.vi .i64 (.v 18)) (.cons (.vi .i64 (.v 20)) (.cons (.vi .i64 (.v 21)) (.cons (.s (.v 22)) (.cons (.s (.v 23)) (.cons (.vi .i64 (.v 24)) .nil))))))))), (.s (.v 16)), (.vi .i64 (.v 17))])
       (
        .ite (.cmp .eq (.v 12) (.z 1))
         (
          .i (.call f_spec_l20Rd_pick [(.s (.v 13)), (.vi .i64 (.v 14)), (.vi .i64 (.z 3))] [.i .i64, .s, .i .i64] 15) <|
          .i (.chk (.cmp .le (.z 0) (.v 15))) <|
          .i (.chk (.cmp .lt (.v 15) (.z 3))) <|
          .i (.idx (.cons (.vi .i64 (.z (-1))) (.cons (.vi .i64 (.z 3)) (.cons (.vi .i64 (.z 2)) .nil))) (.v 15) (.one (.i .i64)) 18) <|
          .i (.chk (.cmp .le (.z 0) (.v 9))) <|
          .i (.chk (.cmp .lt (.v 9) (.len (.v 3)))) <|
          .i (.idx (.v 3) (.v 9) (.g [.i .i64, .i .i64, .i .i64, .s, .s, .i .i64]) 19) <|
          .done [(.s (.set (.v 3) (.v 9) (.g (.cons (.vi .i64 (.v 19)) (.cons (.vi .i64 (.v 18)) (.cons (.vi .i64 (.v 21)) (.cons (.s (.v 22)) (.cons (.s (.v 23)) (.cons (.vi .i64 (.v 24)) .nil))))))))), (.s (.v 16)), (.vi .i64 (.v 17))])
         (
          .ite (.cmp .eq (.v 12) (.z 2))
           (
            .i (.call f_spec_l20Rd_pick [(.s (.v 13)), (.vi .i64 (.v 14)), (.vi .i64 (.z 4))] [.i .i64, .s, .i .i64] 15) <|
            .i (.chk (.cmp .le (.z 0) (.v 15))) <|
            .i (.chk (.cmp .lt (.v 15) (.z 4))) <|
            .i (.idx (.cons (.vi .i64 (.z 0)) (.cons (.vi .i64 (.z (-1))) (.cons (.vi .i64 (.z 7)) (.cons (.vi .i64 (.z 6)) .nil)))) (.v 15) (.one (.i .i64)) 18) <|
            .i (.chk (.cmp .le (.z 0) (.v 9))) <|
            .i (.chk (.cmp .lt (.v 9) (.len (.v 3)))) <|
            .i (.idx (.v 3) (.v 9) (.g [.i .i64, .i .i64, .i .i64, .s, .s, .i .i64]) 19) <|
            .done [(.s (.set (.v 3) (.v 9) (.g (.cons (.vi .i64 (.v 19)) (.cons (.vi .i64 (.v 20)) (.cons (.vi .i64 (.v 18)) (.cons (.s (.v 22)) (.cons (.s (.v 23)) (.cons (.vi .i64 (.v 24)) .nil))))))))), (.s (.v 16)), (.vi .i64 (.v 17))])
           (
            .ite (.cmp .eq (.v 12) (.z 3))
             (
              .i (.call f_spec_l20Form [(.s (.v 13)), (.vi .i64 (.v 14)), (.vi .i64 (.z 2))] [.s, .s, .i .i64, .s, .i .i64] 15) <|
              .i (.chk (.cmp .le (.z 0) (.v 9))) <|
              .i (.chk (.cmp .lt (.v 9) (.len (.v 3)))) <|
              .i (.idx (.v 3) (.v 9) (.g [.i .i64, .i .i64, .i .i64, .s, .s, .i .i64]) 20) <|
              .done [(.s (.set (.v 3) (.v 9) (.g (.cons (.vi .i64 (.v 20)) (.cons (.vi .i64 (.v 21)) (.cons (.vi .i64 (.v 22)) (.cons (.s (.v 15)) (.cons (.s (.v 16)) (.cons (.vi .i64 (.v 17)) .nil))))))))), (.s (.v 18)), (.vi .i64 (.v 19))])
             (
              .ite (.cmp .eq (.v 12) (.z 4))
               (
                .loop 15 [(.v 3)] <|
                  .ite (.cmp .le (.len (.v 15)) (.z 6))
                   (
                    .i (.chk (.cmp .le (.z 0) (.v 9))) <|
                    .i (.chk (.cmp .lt (.v 9) (.len (.v 15)))) <|
                    .i (.idx (.v 15) (.v 9) (.g [.i .i64, .i .i64, .i .i64, .s, .s, .i .i64]) 16) <|
                    .i (.chk (.cmp .le (.len (.app (.v 15) (.cons (.g (.cons (.vi .i64 (.v 16)) (.cons (.vi .i64 (.v 17)) (.cons (.vi .i64 (.v 18)) (.cons (.s (.v 19)) (.cons (.s (.v 20)) (.cons (.vi .i64 (.v 21)) .nil))))))) .nil))) (.z 879609302220))) <|
                    .next [(.app (.v 15) (.cons (.g (.cons (.vi .i64 (.v 16)) (.cons (.vi .i64 (.v 17)) (.cons (.vi .i64 (.v 18)) (.cons (.s (.v 19)) (.cons (.s (.v 20)) (.cons (.vi .i64 (.v 21)) .nil))))))) .nil))])
                   (
                    .esc <|
                    .done [(.s (.v 15)), (.s (.v 13)), (.vi .i64 (.v 14))]))
               (
                .i (.call f_spec_l20Small [(.s (.v 13)), (.vi .i64 (.v 14))] [.s, .s, .i .i64, .s, .i .i64] 15) <|
                .i (.call f_spec_l20Small [(.s (.v 18)), (.vi .i64 (.v 19))] [.s, .s, .i .i64, .s, .i .i64] 20) <|
                .i (.chk (.cmp .le (.len (.app (.v 3) (.cons (.g (.cons (.vi .i64 (.z 1)) (.cons (.vi .i64 (.z 0)) (.cons (.vi .i64 (.z 1)) (.cons (.s (.v 15)) (.cons (.s (.v 16)) (.cons (.vi .i64 (.v 17)) .nil))))))) (.cons (.g (.cons (.vi .i64 (.z 1)) (.cons (.vi .i64 (.z 0)) (.cons (.vi .i64 (.z 1)) (.cons (.s (.v 20)) (.cons (.s (.v 21)) (.cons (.vi .i64 (.v 22)) .nil))))))) .nil)))) (.z 879609302220))) <|
                .done [(.s (.app (.v 3) (.cons (.g (.cons (.vi .i64 (.z 1)) (.cons (.vi .i64 (.z 0)) (.cons (.vi .i64 (.z 1)) (.cons (.s (.v 15)) (.cons (.s (.v 16)) (.cons (.vi .i64 (.v 17)) .nil))))))) (.cons (.g (.cons (.vi .i64 (.z 1)) (.cons (.vi .i64 (.z 0)) (.cons (.vi .i64 (.z 1)) (.cons (.s (.v 20)) (.cons (.s (.v 21)) (.cons (.vi .i64 (.v 22)) .nil))))))) .nil)))), (.s (.v 23)), (.vi .i64 (.v 24))])))))))
/-- spec_l20Vals -/
def R_spec_l20Vals : R :=
  .loop 3 [.nil, (.z 0), (.v 1), (.v 0)] <|
    .ite (.cmp .lt (.v 4) (.z 3))
     (
      .i (.call f_spec_l20Rd_pick [(.s (.v 6)), (.vi .i64 (.v 5)), (.vi .i64 (.z 9))] [.i .i64, .s, .i .i64] 7) <|
      .i (.chk (.cmp .le (.z 0) (.v 7))) <|
      .i (.chk (.cmp .lt (.v 7) (.z 9))) <|
      .i (.idx (.cons (.vi .i64 (.z 0)) (.cons (.vi .i64 (.z 1)) (.cons (.vi .i64 (.z 5)) (.cons (.vi .i64 (.z 20)) (.cons (.vi .i64 (.z (-3))) (.cons (.vi .i64 (.z 60)) (.cons (.vi .i64 (.z 10000)) (.cons (.vi .i64 (.z (-10000))) (.cons (.vi .i64 (.z 9996)) .nil))))))))) (.v 7) (.one (.i .i64)) 10) <|
      .i (.chk (.cmp .le (.len (.app (.v 3) (.cons (.vi .i64 (.v 10)) .nil))) (.z 8796093022208))) <|
      .next [(.app (.v 3) (.cons (.vi .i64 (.v 10)) .nil)), (.bin .add .i64 (.v 4) (.z 1)), (.v 9), (.v 8)])
     (
      .esc <|
      .i (.call f_spec_l20Rd_pick [(.s (.v 6)), (.vi .i64 (.v 5)), (.vi .i64 (.v 2))] [.i .i64, .s, .i .i64] 7) <|
      .ite (.cmp .eq (.v 7) (.z 0))
       (
        .i (.call f_spec_l20Rd_pick [(.s (.v 8)), (.vi .i64 (.v 9)), (.vi .i64 (.z 3))] [.i .i64, .s, .i .i64] 10) <|
        .ite (.cmp .eq (.v 10) (.z 0))
         (
          .i (.chk (.cmp .le (.z 2) (.len (.v 3)))) <|
          .done [(.s (.take (.v 3) (.z 2))), (.s (.v 11)), (.vi .i64 (.v 12))])
         (
          .ite (.cmp .eq (.v 10) (.z 1))
           (
            .i (.chk (.cmp .le (.len (.app (.v 3) (.cons (.vi .i64 (.z 0)) .nil))) (.z 8796093022208))) <|
            .done [(.s (.app (.v 3) (.cons (.vi .i64 (.z 0)) .nil))), (.s (.v 11)), (.vi .i64 (.v 12))])
           (
            .i (.call f_spec_l20Rd_pick [(.s (.v 11)), (.vi .i64 (.v 12)), (.vi .i64 (.z 3))] [.i .i64, .s, .i .i64] 13) <|
            .i (.call f_spec_l20Rd_pick [(.s (.v 14)), (.vi .i64 (.v 15)), (.vi .i64 (.z 2))] [.i .i64, .s, .i .i64] 16) <|
            .i (.chk (.cmp .le (.z 0) (.v 16))) <|
            .i (.chk (.cmp .lt (.v 16) (.z 2))) <|
            .i (.idx (.cons (.vi .i64 (.z 10001)) (.cons (.vi .i64 (.z (-10001))) .nil)) (.v 16) (.one (.i .i64)) 19) <|
            .i (.chk (.cmp .le (.z 0) (.v 13))) <|
            .i (.chk (.cmp .lt (.v 13) (.len (.v 3)))) <|
            .i (.idx (.v 3) (.v 13) (.one (.i .i64)) 20) <|
            .done [(.s (.set (.v 3) (.v 13) (.vi .i64 (.v 19)))), (.s (.v 17)), (.vi .i64 (.v 18))])))
       (
        .done [(.s (.v 3)), (.s (.v 8)), (.vi .i64 (.v 9))]))
/-- spec_l20Args -/
def R_spec_l20Args : R :=
  .i (.call f_spec_l20Rd_pick [(.s (.v 0)), (.vi .i64 (.v 1)), (.vi .i64 (.z 19))] [.i .i64, .s, .i .i64] 3) <|
  .i (.call f_spec_l20Rd_pick [(.s (.v 4)), (.vi .i64 (.v 5)), (.vi .i64 (.z 19))] [.i .i64, .s, .i .i64] 6) <|
  .i (.call f_spec_l20Rd_pick [(.s (.v 7)), (.vi .i64 (.v 8)), (.vi .i64 (.v 2))] [.i .i64, .s, .i .i64] 9) <|
  .ite (.cmp .eq (.v 9) (.z 0))
   (
    .i (.call f_spec_l20Rd_pick [(.s (.v 10)), (.vi .i64 (.v 11)), (.vi .i64 (.z 3))] [.i .i64, .s, .i .i64] 12) <|
    .ite (.cmp .eq (.v 12) (.z 0))
     (
      .done [(.s (.take (.cons (.vi .i64 (.bin .sub .i64 (.v 3) (.z 9))) (.cons (.vi .i64 (.bin .sub .i64 (.v 6) (.z 9))) .nil)) (.z 1))), (.s (.v 13)), (.vi .i64 (.v 14))])
     (
      .ite (.cmp .eq (.v 12) (.z 1))
       (
        .i (.chk (.cmp .le (.len (.app (.cons (.vi .i64 (.bin .sub .i64 (.v 3) (.z 9))) (.cons (.vi .i64 (.bin .sub .i64 (.v 6) (.z 9))) .nil)) (.cons (.vi .i64 (.z 0)) .nil))) (.z 8796093022208))) <|
        .done [(.s (.app (.cons (.vi .i64 (.bin .sub .i64 (.v 3) (.z 9))) (.cons (.vi .i64 (.bin .sub .i64 (.v 6) (.z 9))) .nil)) (.cons (.vi .i64 (.z 0)) .nil))), (.s (.v 13)), (.vi .i64 (.v 14))])
       (
        .i (.call f_spec_l20Rd_pick [(.s (.v 13)), (.vi .i64 (.v 14)), (.vi .i64 (.z 2))] [.i .i64, .s, .i .i64] 15) <|
        .i (.call f_spec_l20Rd_pick [(.s (.v 16)), (.vi .i64 (.v 17)), (.vi .i64 (.z 2))] [.i .i64, .s, .i .i64] 18) <|
        .i (.chk (.cmp .le (.z 0) (.v 18))) <|
        .i (.chk (.cmp .lt (.v 18) (.z 2))) <|
        .i (.idx (.cons (.vi .i64 (.z 10)) (.cons (.vi .i64 (.z (-10))) .nil)) (.v 18) (.one (.i .i64)) 21) <|
        .i (.chk (.cmp .le (.z 0) (.v 15))) <|
        .i (.chk (.cmp .lt (.v 15) (.z 2))) <|
        .i (.idx (.cons (.vi .i64 (.bin .sub .i64 (.v 3) (.z 9))) (.cons (.vi .i64 (.bin .sub .i64 (.v 6) (.z 9))) .nil)) (.v 15) (.one (.i .i64)) 22) <|
        .done [(.s (.set (.cons (.vi .i64 (.bin .sub .i64 (.v 3) (.z 9))) (.cons (.vi .i64 (.bin .sub .i64 (.v 6) (.z 9))) .nil)) (.v 15) (.vi .i64 (.v 21)))), (.s (.v 19)), (.vi .i64 (.v 20))])))
   (
    .done [(.s (.cons (.vi .i64 (.bin .sub .i64 (.v 3) (.z 9))) (.cons (.vi .i64 (.bin .sub .i64 (.v 6) (.z 9))) .nil))), (.s (.v 10)), (.vi .i64 (.v 11))])
/-- spec_DrawActRun -/
def R_spec_DrawActRun : R :=
  .i (.call f_spec_l20Open [(.s (.v 0))] [.s, .i .i64] 1) <|
  .i (.call f_spec_l20AnyAct [(.s (.v 1)), (.vi .i64 (.v 2)), (.vi .i64 (.z 16))] [.s, .s, .i .i64] 3) <|
  .i (.call f_spec_l20Vals [(.s (.v 4)), (.vi .i64 (.v 5)), (.vi .i64 (.z 16))] [.s, .s, .i .i64] 6) <|
  .i (.call f_spec_l20Args [(.s (.v 7)), (.vi .i64 (.v 8)), (.vi .i64 (.z 16))] [.s, .s, .i .i64] 9) <|
  .done [(.s (.v 3)), (.s (.v 6)), (.s (.v 9))]
/-- impl_in -/
def R_impl_in : R :=
  .ite (.cmp .le (.v 1) (.v 0))
   (
    .done [(.vb (.cmp .le (.v 0) (.v 2)))])
   (
    .done [(.vb .ff)])
/-- impl_within_1 -/
def R_impl_within_1 : R :=
  .i (.get (.da 1) (.q [.i .i64]) 2) <|
  .i (.get (.da 1) (.q [.i .i64]) 3) <|
  .i (.call f_impl_in [(.vi .i64 (.v 0)), (.vi .i64 (.bin .sub .i64 (.z 0) (.v 2))), (.vi .i64 (.v 3))] [.b] 4) <|
  .done [(.vb (.not (.v 4)))]
/-- slices_IndexFunc_Sint_int -/
def R_slices_IndexFunc_Sint_int : R :=
  .loop 2 [(.z 0)] <|
    .ite (.cmp .lt (.v 2) (.len (.v 0)))
     (
      .i (.idx (.v 0) (.v 2) (.one (.i .i64)) 3) <|
      .i (.callv (.da 1) [(.vi .i64 (.v 3))] [none] [.b] 4) <|
      .ite (.v 4)
       (
        .esc <|
        .done [(.vi .i64 (.v 2))])
       (
        .next [(.bin .add .i64 (.v 2) (.z 1))]))
     (
      .esc <|
      .done [(.vi .i64 (.z (-1)))])
/-- slices_ContainsFunc_Sint_int -/
def R_slices_ContainsFunc_Sint_int : R :=
  .i (.call f_slices_IndexFunc_Sint_int [(.s (.v 0)), (.da 1)] [.i .i64] 2) <|
  .done [(.vb (.cmp .le (.z 0) (.v 2)))]
/-- impl_within -/
def R_impl_within : R :=
  .ite (.cmp .eq (.len (.v 0)) (.v 1))
   (
    .i (.call f_slices_ContainsFunc_Sint_int [(.s (.v 0)), (.fn f_impl_within_1 (.cons (.q (.cons (.vi .i64 (.v 2)) .nil)) .nil))] [.b] 3) <|
    .done [(.vb (.not (.v 3)))])
   (
    .done [(.vb .ff)])
/-- impl_FrmForm_small -/
def R_impl_FrmForm_small : R :=
  .i (.call f_impl_within [(.s (.v 0)), (.vi .i64 (.z 3)), (.vi .i64 (.z 2))] [.b] 3) <|
  .ite (.v 3)
   (
    .i (.call f_impl_within [(.s (.v 1)), (.vi .i64 (.z 2)), (.vi .i64 (.z 2))] [.b] 4) <|
    .ite (.v 4)
     (
      .i (.call f_impl_in [(.vi .i64 (.v 2)), (.vi .i64 (.z (-20))), (.vi .i64 (.z 20))] [.b] 5) <|
      .done [(.vb (.v 5))])
     (
      .done [(.vb .ff)]))
   (
    .done [(.vb .ff)])
/-- slices_Equal_Sint_int -/
def R_slices_Equal_Sint_int : R :=
  .ite (.not (.cmp .eq (.len (.v 0)) (.len (.v 1))))
   (
    .done [(.vb .ff)])
   (
    .loop 2 [(.z 0)] <|
      .ite (.cmp .lt (.v 2) (.len (.v 0)))
       (
        .i (.idx (.v 0) (.v 2) (.one (.i .i64)) 3) <|
        .i (.idx (.v 1) (.v 2) (.one (.i .i64)) 4) <|
        .ite (.not (.cmp .eq (.v 3) (.v 4)))
         (
          .esc <|
          .done [(.vb .ff)])
         (
          .next [(.bin .add .i64 (.v 2) (.z 1))]))
       (
        .esc <|
        .done [(.vb .tt)]))
/-- impl_FrmForm_same -/
def R_impl_FrmForm_same : R :=
  .ite (.cmp .eq (.v 2) (.v 5))
   (
    .i (.call f_slices_Equal_Sint_int [(.s (.v 0)), (.s (.v 3))] [.b] 6) <|
    .ite (.v 6)
     (
      .i (.call f_slices_Equal_Sint_int [(.s (.v 1)), (.s (.v 4))] [.b] 7) <|
      .done [(.vb (.v 7))])
     (
      .done [(.vb .ff)]))
   (
    .done [(.vb .ff)])
/-- impl_ActLine_ok -/
def R_impl_ActLine_ok : R :=
  .ite (.cmp .eq (.v 0) (.z 1))
   (
    .i (.call f_impl_in [(.vi .i64 (.v 2)), (.vi .i64 (.z 1)), (.vi .i64 (.z 6))] [.b] 6) <|
    .ite (.v 6)
     (
      .ite (.cmp .eq (.v 1) (.z 0))
       (
        .i (.call f_impl_FrmForm_small [(.s (.v 3)), (.s (.v 4)), (.vi .i64 (.v 5))] [.b] 7) <|
        .done [(.vb (.v 7))])
       (
        .done [(.vb .ff)]))
     (
      .done [(.vb .ff)]))
   (
    .ite (.cmp .eq (.v 0) (.z 2))
     (
      .i (.call f_impl_in [(.vi .i64 (.v 1)), (.vi .i64 (.z 0)), (.vi .i64 (.z 2))] [.b] 6) <|
      .ite (.v 6)
       (
        .ite (.cmp .eq (.v 2) (.z 0))
         (
          .i (.call f_impl_FrmForm_small [(.s (.v 3)), (.s (.v 4)), (.vi .i64 (.v 5))] [.b] 7) <|
          .done [(.vb (.v 7))])
         (
          .done [(.vb .ff)]))
       (
        .done [(.vb .ff)]))
     (
      .ite (.cmp .eq (.v 0) (.z 3))
       (
        .ite (.cmp .eq (.v 1) (.z 0))
         (
          .ite (.cmp .eq (.v 2) (.z 0))
           (
            .i (.call f_impl_FrmForm_small [(.s (.v 3)), (.s (.v 4)), (.vi .i64 (.v 5))] [.b] 6) <|
            .done [(.vb (.v 6))])
           (
            .done [(.vb .ff)]))
         (
          .done [(.vb .ff)]))
       (
        .ite (.cmp .eq (.v 0) (.z 4))
         (
          .ite (.cmp .eq (.v 1) (.z 0))
           (
            .ite (.cmp .eq (.v 2) (.z 0))
             (
              .i (.call f_impl_FrmForm_same [(.s (.v 3)), (.s (.v 4)), (.vi .i64 (.v 5)), (.s .nil), (.s .nil), (.vi .i64 (.z 0))] [.b] 6) <|
              .done [(.vb (.v 6))])
             (
              .done [(.vb .ff)]))
           (
            .done [(.vb .ff)]))
         (
          .done [(.vb .ff)]))))
/-- impl_ActOk -/
def R_impl_ActOk : R :=
  .loop 1 [(.z 0), (.z 0)] <|
    .ite (.cmp .lt (.v 2) (.len (.v 0)))
     (
      .i (.idx (.v 0) (.v 2) (.g [.i .i64, .i .i64, .i .i64, .s, .s, .i .i64]) 3) <|
      .i (.call f_impl_ActLine_ok [(.vi .i64 (.v 3)), (.vi .i64 (.v 4)), (.vi .i64 (.v 5)), (.s (.v 6)), (.s (.v 7)), (.vi .i64 (.v 8))] [.b] 9) <|
      .ite (.not (.v 9))
       (
        .esc <|
        .done [(.vb .ff)])
       (
        .ite (.cmp .eq (.v 3) (.z 1))
         (
          .next [(.bin .add .i64 (.v 1) (.z 1)), (.bin .add .i64 (.v 2) (.z 1))])
         (
          .next [(.v 1), (.bin .add .i64 (.v 2) (.z 1))])))
     (
      .esc <|
      .ite (.cmp .le (.len (.v 0)) (.z 6))
       (
        .done [(.vb (.cmp .le (.v 1) (.z 3)))])
       (
        .done [(.vb .ff)]))
/-- impl_ValOk -/
def R_impl_ValOk : R :=
  .i (.call f_impl_within [(.s (.v 0)), (.vi .i64 (.z 3)), (.vi .i64 (.z 10000))] [.b] 1) <|
  .done [(.vb (.v 1))]
/-- impl_ArgOk -/
def R_impl_ArgOk : R :=
  .i (.call f_impl_within [(.s (.v 0)), (.vi .i64 (.z 2)), (.vi .i64 (.z 9))] [.b] 1) <|
  .done [(.vb (.v 1))]
/-- slices_Clone_Sint_int -/
def R_slices_Clone_Sint_int : R :=
  .nilq 1 (.v 0)
   (
    .done [(.s .nil)])
   (
    .i (.chk (.cmp .le (.len (.v 0)) (.z 8796093022208))) <|
    .i (.head 1 (.v 0)) <|
    .i (.chk (.cmp .le (.len (.app .nil (.v 0))) (.z 8796093022208))) <|
    .done [(.s (.app .nil (.v 0)))])
/-- impl_dot -/
def R_impl_dot : R :=
  .loop 2 [(.z 0), (.z 0)] <|
    .ite (.cmp .lt (.v 3) (.len (.v 0)))
     (
      .i (.idx (.v 0) (.v 3) (.one (.i .i64)) 4) <|
      .i (.idx (.v 1) (.v 3) (.one (.i .i64)) 5) <|
      .next [(.bin .add .i64 (.v 2) (.bin .mul .i64 (.v 4) (.v 5))), (.bin .add .i64 (.v 3) (.z 1))])
     (
      .esc <|
      .done [(.vi .i64 (.v 2))])
/-- impl_FrmForm_at -/
def R_impl_FrmForm_at : R :=
  .i (.call f_impl_dot [(.s (.v 0)), (.s (.v 3))] [.i .i64] 5) <|
  .i (.call f_impl_dot [(.s (.v 1)), (.s (.v 4))] [.i .i64] 6) <|
  .done [(.vi .i64 (.bin .add .i64 (.bin .add .i64 (.v 5) (.v 6)) (.v 2)))]
/-- impl_ActRun -/
def R_impl_ActRun : R :=
  .i (.call f_impl_ActOk [(.s (.v 0))] [.b] 3) <|
  .ite (.not (.v 3))
   (
    .done [(.vi .i64 (.z 0)), (.s .nil), (.s .nil)])
   (
    .i (.call f_impl_ValOk [(.s (.v 1))] [.b] 4) <|
    .ite (.not (.v 4))
     (
      .done [(.vi .i64 (.z 0)), (.s .nil), (.s .nil)])
     (
      .i (.call f_impl_ArgOk [(.s (.v 2))] [.b] 5) <|
      .ite (.not (.v 5))
       (
        .done [(.vi .i64 (.z 0)), (.s .nil), (.s .nil)])
       (
        .i (.call f_slices_Clone_Sint_int [(.s (.v 1))] [.s] 6) <|
        .loop 7 [.nil, (.v 6), (.z 0)] <|
          .ite (.cmp .lt (.v 9) (.len (.v 0)))
           (
            .i (.idx (.v 0) (.v 9) (.g [.i .i64, .i .i64, .i .i64, .s, .s, .i .i64]) 10) <|
            .ite (.cmp .eq (.v 10) (.z 4))
             (
              .i (.call f_slices_Clone_Sint_int [(.s (.v 1))] [.s] 16) <|
              .esc <|
              .done [(.vi .i64 (.z 2)), (.s .nil), (.s (.v 16))])
             (
              .i (.call f_impl_FrmForm_at [(.s (.v 13)), (.s (.v 14)), (.vi .i64 (.v 15)), (.s (.v 8)), (.s (.v 2))] [.i .i64] 16) <|
              .ite (.cmp .eq (.v 10) (.z 1))
               (
                .ite (.cmp .lt (.v 16) (.z 0))
                 (
                  .next [(.v 7), (.v 8), (.bin .add .i64 (.bin .add .i64 (.v 9) (.v 12)) (.z 1))])
                 (
                  .next [(.v 7), (.v 8), (.bin .add .i64 (.v 9) (.z 1))]))
               (
                .ite (.cmp .eq (.v 10) (.z 2))
                 (
                  .i (.chk (.cmp .le (.z 0) (.v 11))) <|
                  .i (.chk (.cmp .lt (.v 11) (.len (.v 8)))) <|
                  .i (.idx (.v 8) (.v 11) (.one (.i .i64)) 17) <|
                  .i (.chk (.cmp .le (.z 0) (.v 11))) <|
                  .i (.chk (.cmp .lt (.v 11) (.len (.v 8)))) <|
                  .i (.idx (.v 8) (.v 11) (.one (.i .i64)) 18) <|
                  .next [(.v 7), (.set (.v 8) (.v 11) (.vi .i64 (.bin .add .i64 (.v 17) (.v 16)))), (.bin .add .i64 (.v 9) (.z 1))])
                 (
                  .ite (.cmp .eq (.v 10) (.z 3))
                   (
                    .i (.chk (.cmp .le (.len (.app (.v 7) (.cons (.vi .i64 (.v 16)) .nil))) (.z 8796093022208))) <|
                    .next [(.app (.v 7) (.cons (.vi .i64 (.v 16)) .nil)), (.v 8), (.bin .add .i64 (.v 9) (.z 1))])
                   (
                    .next [(.v 7), (.v 8), (.bin .add .i64 (.v 9) (.z 1))])))))
           (
            .esc <|
            .i (.call f_impl_ValOk [(.s (.v 8))] [.b] 10) <|
            .ite (.not (.v 10))
             (
              .i (.call f_slices_Clone_Sint_int [(.s (.v 1))] [.s] 11) <|
              .done [(.vi .i64 (.z 3)), (.s .nil), (.s (.v 11))])
             (
              .done [(.vi .i64 (.z 1)), (.s (.v 7)), (.s (.v 8))])))))
/-- spec_ValOk -/
def R_spec_ValOk : R :=
  .i (.call f_spec_l1All [(.s (.v 0)), (.vi .i64 (.z 3)), (.vi .i64 (.z 10000))] [.b] 1) <|
  .done [(.vb (.v 1))]
/-- spec_ArgOk -/
def R_spec_ArgOk : R :=
  .i (.call f_spec_l1All [(.s (.v 0)), (.vi .i64 (.z 2)), (.vi .i64 (.z 9))] [.b] 1) <|
  .done [(.vb (.v 1))]
/-- spec_l1At -/
def R_spec_l1At : R :=
  .loop 5 [(.v 2), (.z 0)] <|
    .ite (.cmp .lt (.v 6) (.z 3))
     (
      .i (.idx (.v 0) (.v 6) (.one (.i .i64)) 7) <|
      .i (.idx (.v 3) (.v 6) (.one (.i .i64)) 8) <|
      .next [(.bin .add .i64 (.v 5) (.bin .mul .i64 (.v 7) (.v 8))), (.bin .add .i64 (.v 6) (.z 1))])
     (
      .esc <|
      .loop 7 [(.v 5), (.z 0)] <|
        .ite (.cmp .lt (.v 8) (.z 2))
         (
          .i (.idx (.v 1) (.v 8) (.one (.i .i64)) 9) <|
          .i (.idx (.v 4) (.v 8) (.one (.i .i64)) 10) <|
          .next [(.bin .add .i64 (.v 7) (.bin .mul .i64 (.v 9) (.v 10))), (.bin .add .i64 (.v 8) (.z 1))])
         (
          .esc <|
          .done [(.vi .i64 (.v 7))]))
/-- spec_l2End -/
def R_spec_l2End : R :=
  .i (.call f_spec_ValOk [(.s (.v 1))] [.b] 3) <|
  .ite (.not (.v 3))
   (
    .i (.chk (.cmp .le (.len (.v 0)) (.z 8796093022208))) <|
    .i (.head 1 (.v 0)) <|
    .i (.chk (.cmp .le (.len (.app .nil (.v 0))) (.z 8796093022208))) <|
    .done [(.vi .i64 (.z 3)), (.s .nil), (.s (.app .nil (.v 0)))])
   (
    .done [(.vi .i64 (.z 1)), (.s (.v 2)), (.s (.v 1))])
/-- spec_ActRun -/
def R_spec_ActRun : R :=
  .i (.call f_spec_ActOk [(.s (.v 0))] [.b] 3) <|
  .ite (.not (.v 3))
   (
    .done [(.vi .i64 (.z 0)), (.s .nil), (.s .nil)])
   (
    .i (.call f_spec_ValOk [(.s (.v 1))] [.b] 4) <|
    .ite (.not (.v 4))
     (
      .done [(.vi .i64 (.z 0)), (.s .nil), (.s .nil)])
     (
      .i (.call f_spec_ArgOk [(.s (.v 2))] [.b] 5) <|
      .ite (.not (.v 5))
       (
        .done [(.vi .i64 (.z 0)), (.s .nil), (.s .nil)])
       (
        .i (.chk (.cmp .le (.len (.v 1)) (.z 8796093022208))) <|
        .i (.head 1 (.v 1)) <|
        .i (.chk (.cmp .le (.len (.app .nil (.v 1))) (.z 8796093022208))) <|
        .loop 6 [.nil, (.app .nil (.v 1)), (.z 0)] <|
          .ite (.cmp .lt (.v 8) (.len (.v 0)))
           (
            .i (.idx (.v 0) (.v 8) (.g [.i .i64, .i .i64, .i .i64, .s, .s, .i .i64]) 9) <|
            .ite (.cmp .eq (.v 9) (.z 1))
             (
              .i (.call f_spec_l1At [(.s (.v 12)), (.s (.v 13)), (.vi .i64 (.v 14)), (.s (.v 7)), (.s (.v 2))] [.i .i64] 15) <|
              .ite (.cmp .lt (.v 15) (.z 0))
               (
                .next [(.v 6), (.v 7), (.bin .add .i64 (.bin .add .i64 (.v 8) (.v 11)) (.z 1))])
               (
                .next [(.v 6), (.v 7), (.bin .add .i64 (.v 8) (.z 1))]))
             (
              .ite (.cmp .eq (.v 9) (.z 2))
               (
                .i (.chk (.cmp .le (.z 0) (.v 10))) <|
                .i (.chk (.cmp .lt (.v 10) (.len (.v 7)))) <|
                .i (.idx (.v 7) (.v 10) (.one (.i .i64)) 15) <|
                .i (.call f_spec_l1At [(.s (.v 12)), (.s (.v 13)), (.vi .i64 (.v 14)), (.s (.v 7)), (.s (.v 2))] [.i .i64] 16) <|
                .i (.chk (.cmp .le (.z 0) (.v 10))) <|
                .i (.chk (.cmp .lt (.v 10) (.len (.v 7)))) <|
                .i (.idx (.v 7) (.v 10) (.one (.i .i64)) 17) <|
                .next [(.v 6), (.set (.v 7) (.v 10) (.vi .i64 (.bin .add .i64 (.v 15) (.v 16)))), (.bin .add .i64 (.v 8) (.z 1))])
               (
                .ite (.cmp .eq (.v 9) (.z 3))
                 (
                  .i (.call f_spec_l1At [(.s (.v 12)), (.s (.v 13)), (.vi .i64 (.v 14)), (.s (.v 7)), (.s (.v 2))] [.i .i64] 15) <|
                  .i (.chk (.cmp .le (.len (.app (.v 6) (.cons (.vi .i64 (.v 15)) .nil))) (.z 8796093022208))) <|
                  .next [(.app (.v 6) (.cons (.vi .i64 (.v 15)) .nil)), (.v 7), (.bin .add .i64 (.v 8) (.z 1))])
                 (
                  .i (.chk (.cmp .le (.len (.v 1)) (.z 8796093022208))) <|
                  .i (.head 1 (.v 1)) <|
                  .i (.chk (.cmp .le (.len (.app .nil (.v 1))) (.z 8796093022208))) <|
                  .esc <|
                  .done [(.vi .i64 (.z 2)), (.s .nil), (.s (.app .nil (.v 1)))]))))
           (
            .esc <|
            .i (.call f_spec_l2End [(.s (.v 1)), (.s (.v 7)), (.s (.v 6))] [.i .i64, .s, .s] 9) <|
            .done [(.vi .i64 (.v 9)), (.s (.v 10)), (.s (.v 11))]))))
/-- laws_coInts -/
def R_laws_coInts : R :=
  .ite (.not (.cmp .eq (.len (.v 0)) (.len (.v 1))))
   (
    .done [(.vb .ff)])
   (
    .loop 2 [(.z 0)] <|
      .ite (.cmp .lt (.v 2) (.len (.v 0)))
       (
        .i (.idx (.v 0) (.v 2) (.one (.i .i64)) 3) <|
        .i (.idx (.v 1) (.v 2) (.one (.i .i64)) 4) <|
        .ite (.not (.cmp .eq (.v 3) (.v 4)))
         (
          .esc <|
          .done [(.vb .ff)])
         (
          .next [(.bin .add .i64 (.v 2) (.z 1))]))
       (
        .esc <|
        .done [(.vb .tt)]))
/-- laws_coRes -/
def R_laws_coRes : R :=
  .ite (.cmp .eq (.v 0) (.v 2))
   (
    .i (.call f_laws_coInts [(.s (.v 1)), (.s (.v 3))] [.b] 4) <|
    .done [(.vb (.v 4))])
   (
    .done [(.vb .ff)])
/-- impl_FrmZero -/
def R_impl_FrmZero : R :=
  .done [(.s (.cons (.vi .i64 (.z 0)) (.cons (.vi .i64 (.z 0)) (.cons (.vi .i64 (.z 0)) .nil)))), (.s (.cons (.vi .i64 (.z 0)) (.cons (.vi .i64 (.z 0)) .nil))), (.vi .i64 (.z 0))]
/-- impl_FrmOk -/
def R_impl_FrmOk : R :=
  .i (.call f_impl_within [(.s (.v 0)), (.vi .i64 (.z 3)), (.vi .i64 (.z 10000000))] [.b] 3) <|
  .ite (.v 3)
   (
    .i (.call f_impl_within [(.s (.v 1)), (.vi .i64 (.z 2)), (.vi .i64 (.z 10000000))] [.b] 4) <|
    .ite (.v 4)
     (
      .i (.call f_impl_in [(.vi .i64 (.v 2)), (.vi .i64 (.z (-10000000))), (.vi .i64 (.z 10000000))] [.b] 5) <|
      .done [(.vb (.v 5))])
     (
      .done [(.vb .ff)]))
   (
    .done [(.vb .ff)])
/-- laws_coHolds -/
def R_laws_coHolds : R :=
  .i (.call f_impl_FrmZero [] [.s, .s, .i .i64] 0) <|
  .i (.call f_impl_FrmOk [(.s (.v 0)), (.s (.v 1)), (.vi .i64 (.v 2))] [.b] 3) <|
  .done [(.vb (.v 3))]
/-- impl_codeWords -/
def R_impl_codeWords : R :=
  .i (.chk (.cmp .eq (.len (.cons (.vc (.string (strV []))) (.cons (.vc (.string (strV [100, 111, 110, 101]))) (.cons (.vc (.string (strV [115, 116, 111, 112, 112, 101, 100]))) (.cons (.vc (.string (strV [111, 118, 101, 114]))) .nil))))) (.len (.cons (.vc (.string (strV []))) (.cons (.vc (.string (strV [100, 111, 110, 101]))) (.cons (.vc (.string (strV [115, 116, 111, 112, 112, 101, 100]))) (.cons (.vc (.string (strV [111, 118, 101, 114]))) .nil))))))) <|
  .done [(.s (.cons (.vc (.string (strV []))) (.cons (.vc (.string (strV [100, 111, 110, 101]))) (.cons (.vc (.string (strV [115, 116, 111, 112, 112, 101, 100]))) (.cons (.vc (.string (strV [111, 118, 101, 114]))) .nil)))))]
/-- impl_ResText -/
def R_impl_ResText : R :=
  .i (.call f_impl_in [(.vi .i64 (.v 0)), (.vi .i64 (.z 1)), (.vi .i64 (.z 3))] [.b] 2) <|
  .ite (.not (.v 2))
   (
    .done [(.vc (.string (strV [])))])
   (
    .ite (.cmp .lt (.z 6) (.len (.v 1)))
     (
      .done [(.vc (.string (strV [])))])
     (
      .ite (.not (.cmp .eq (.v 0) (.z 1)))
       (
        .ite (.cmp .lt (.z 0) (.len (.v 1)))
         (
          .done [(.vc (.string (strV [])))])
         (
          .i (.call f_impl_within [(.s (.v 1)), (.vi .i64 (.len (.v 1))), (.vi .i64 (.z 999999999999))] [.b] 3) <|
          .ite (.not (.v 3))
           (
            .done [(.vc (.string (strV [])))])
           (
            .i (.call f_impl_codeWords [] [.s] 4) <|
            .i (.idx (.v 4) (.v 0) (.one (.d)) 5) <|
            .i (.call f_impl_joined [(.s (.v 1))] [.d] 6) <|
            .i (.prim .cat [(.da 5), (.da 6)] (.d) 7) <|
            .done [(.da 7)])))
       (
        .i (.call f_impl_within [(.s (.v 1)), (.vi .i64 (.len (.v 1))), (.vi .i64 (.z 999999999999))] [.b] 3) <|
        .ite (.not (.v 3))
         (
          .done [(.vc (.string (strV [])))])
         (
          .i (.call f_impl_codeWords [] [.s] 4) <|
          .i (.idx (.v 4) (.v 0) (.one (.d)) 5) <|
          .i (.call f_impl_joined [(.s (.v 1))] [.d] 6) <|
          .i (.prim .cat [(.da 5), (.da 6)] (.d) 7) <|
          .done [(.da 7)]))))
/-- impl_ResOk -/
def R_impl_ResOk : R :=
  .i (.call f_impl_ResText [(.vi .i64 (.v 0)), (.s (.v 1))] [.d] 2) <|
  .i (.prim .seq [(.da 2), (.vc (.string (strV [])))] (.b) 3) <|
  .done [(.vb (.not (.v 3)))]
/-- laws_FnActKept -/
def R_laws_FnActKept : R :=
  .ite (.cmp .lt (.z 1048576) (.len (.v 0)))
   (
    .done [(.vb .tt)])
   (
    .i (.call f_spec_DrawActRun [(.s (.v 0))] [.s, .s, .s] 1) <|
    .i (.call f_impl_ActRun [(.s (.v 1)), (.s (.v 2)), (.s (.v 3))] [.i .i64, .s, .s] 4) <|
    .i (.call f_spec_ActRun [(.s (.v 1)), (.s (.v 2)), (.s (.v 3))] [.i .i64, .s, .s] 7) <|
    .i (.call f_laws_coRes [(.vi .i64 (.v 4)), (.s (.v 5)), (.vi .i64 (.v 7)), (.s (.v 8))] [.b] 10) <|
    .ite (.not (.v 10))
     (
      .done [(.vb .ff)])
     (
      .i (.call f_laws_coInts [(.s (.v 6)), (.s (.v 9))] [.b] 11) <|
      .ite (.not (.v 11))
       (
        .done [(.vb .ff)])
       (
        .i (.call f_spec_ActOk [(.s (.v 1))] [.b] 12) <|
        .ite (.not (.v 12))
         (
          .ite (.cmp .eq (.v 4) (.z 0))
           (
            .ite (.cmp .eq (.len (.v 6)) (.z 0))
             (
              .i (.call f_laws_coHolds [] [.b] 13) <|
              .done [(.vb (.v 13))])
             (
              .done [(.vb .ff)]))
           (
            .done [(.vb .ff)]))
         (
          .i (.call f_spec_ValOk [(.s (.v 2))] [.b] 13) <|
          .ite (.not (.v 13))
           (
            .ite (.cmp .eq (.v 4) (.z 0))
             (
              .ite (.cmp .eq (.len (.v 6)) (.z 0))
               (
                .i (.call f_laws_coHolds [] [.b] 14) <|
                .done [(.vb (.v 14))])
               (
                .done [(.vb .ff)]))
             (
              .done [(.vb .ff)]))
           (
            .i (.call f_spec_ArgOk [(.s (.v 3))] [.b] 14) <|
            .ite (.not (.v 14))
             (
              .ite (.cmp .eq (.v 4) (.z 0))
               (
                .ite (.cmp .eq (.len (.v 6)) (.z 0))
                 (
                  .i (.call f_laws_coHolds [] [.b] 15) <|
                  .done [(.vb (.v 15))])
                 (
                  .done [(.vb .ff)]))
               (
                .done [(.vb .ff)]))
             (
              .i (.call f_impl_ValOk [(.s (.v 6))] [.b] 15) <|
              .ite (.v 15)
               (
                .ite (.cmp .eq (.v 4) (.z 1))
                 (
                  .i (.call f_impl_ResOk [(.vi .i64 (.v 4)), (.s (.v 5))] [.b] 16) <|
                  .done [(.vb (.v 16))])
                 (
                  .i (.call f_laws_coInts [(.s (.v 6)), (.s (.v 2))] [.b] 16) <|
                  .ite (.v 16)
                   (
                    .ite (.cmp .eq (.len (.v 5)) (.z 0))
                     (
                      .i (.call f_impl_ResOk [(.vi .i64 (.v 4)), (.s (.v 5))] [.b] 17) <|
                      .done [(.vb (.v 17))])
                     (
                      .done [(.vb .ff)]))
                   (
                    .done [(.vb .ff)])))
               (
                .done [(.vb .ff)])))))))
def S_spec_l20Open : Sig := .x ⟨[(.d (.s (.v 0)))], [], [.s], (.p 0 0), [(.box [(.d (.s (.v 0))), (.d (.vi .i64 (.v 1)))])], [.s, .i .i64], false⟩
def H_spec_l20Open : Hint := ⟨[0, 2, 5], 0, [], [], false, [], []⟩
def E_spec_l20Open : Entry := ⟨S_spec_l20Open, .r H_spec_l20Open R_spec_l20Open⟩
def S_spec_l20Rd_pick : Sig := .x ⟨[(.p 0 0), (.d (.vi .i64 (.v 2)))], [(.box [(.d (.s (.v 0))), (.d (.vi .i64 (.v 1)))])], [.s, .i .i64, .i .i64], (.d (.vi .i64 (.v 0))), [(.box [(.d (.s (.v 1))), (.d (.vi .i64 (.v 2)))])], [.i .i64, .s, .i .i64], false⟩
def H_spec_l20Rd_pick : Hint := ⟨[0, 1, 4, 5, 6, 24, 36], 1, [], [], false, [], []⟩
def E_spec_l20Rd_pick : Entry := ⟨S_spec_l20Rd_pick, .r H_spec_l20Rd_pick R_spec_l20Rd_pick⟩
def S_spec_FrmZero : Sig := .x ⟨[], [], [], (.g [(.o 0 (.v 0)), (.o 1 (.v 1)), (.d (.vi .i64 (.v 2)))]), [(.arr 3 1 (.v 0) false true), (.arr 3 1 (.v 1) false true)], [.s, .s, .i .i64], false⟩
def H_spec_FrmZero : Hint := ⟨[0], 0, [], [], false, [], []⟩
def E_spec_FrmZero : Entry := ⟨S_spec_FrmZero, .r H_spec_FrmZero R_spec_FrmZero⟩
def S_spec_l20Num : Sig := .x ⟨[(.d (.vi .i64 (.v 0))), (.d (.vi .i64 (.v 1))), (.d (.vi .i64 (.v 2)))], [], [.i .i64, .i .i64, .i .i64], (.g [(.o 0 (.v 0)), (.o 1 (.v 1)), (.d (.vi .i64 (.v 2)))]), [(.arr 3 1 (.v 0) false true), (.arr 3 1 (.v 1) false true)], [.s, .s, .i .i64], false⟩
def H_spec_l20Num : Hint := ⟨[0, 1, 2, 6, 7], 0, [], [], false, [], []⟩
def E_spec_l20Num : Entry := ⟨S_spec_l20Num, .r H_spec_l20Num R_spec_l20Num⟩
def S_spec_l20With : Sig := .x ⟨[(.g [(.o 0 (.v 0)), (.o 1 (.v 1)), (.d (.vi .i64 (.v 2)))]), (.d (.vi .i64 (.v 3))), (.d (.vi .i64 (.v 4)))], [(.arr 3 1 (.v 0) false true), (.arr 3 1 (.v 1) false true)], [.s, .s, .i .i64, .i .i64, .i .i64], (.g [(.o 0 (.v 1)), (.o 1 (.v 2)), (.d (.vi .i64 (.v 0)))]), [(.arr 3 1 (.v 1) false true), (.arr 3 1 (.v 2) false true)], [.i .i64, .s, .s], false⟩
def H_spec_l20With : Hint := ⟨[0, 1, 2, 3, 6], 2, [], [], false, [], []⟩
def E_spec_l20With : Entry := ⟨S_spec_l20With, .r H_spec_l20With R_spec_l20With⟩
def S_spec_l20Small : Sig := .x ⟨[(.p 0 0)], [(.box [(.d (.s (.v 0))), (.d (.vi .i64 (.v 1)))])], [.s, .i .i64], (.g [(.o 1 (.v 0)), (.o 2 (.v 1)), (.d (.vi .i64 (.v 2)))]), [(.box [(.d (.s (.v 3))), (.d (.vi .i64 (.v 4)))]), (.arr 3 1 (.v 0) false true), (.arr 3 1 (.v 1) false true)], [.s, .s, .i .i64, .s, .i .i64], false⟩
def H_spec_l20Small : Hint := ⟨[0, 2, 3, 4, 5, 8, 21], 1, [], [(7, ⟨[5], [(0, 1), (0, 0)], [97], [], []⟩), (3, ⟨[4], [(0, 1), (0, 0)], [96], [], []⟩)], false, [], []⟩
def E_spec_l20Small : Entry := ⟨S_spec_l20Small, .r H_spec_l20Small R_spec_l20Small⟩
def S_spec_l20Line : Sig := .x ⟨[(.p 0 0)], [(.box [(.d (.s (.v 0))), (.d (.vi .i64 (.v 1)))])], [.s, .i .i64], (.g [(.d (.vi .i64 (.v 0))), (.d (.vi .i64 (.v 1))), (.d (.vi .i64 (.v 2))), (.o 1 (.v 3)), (.o 2 (.v 4)), (.d (.vi .i64 (.v 5)))]), [(.box [(.d (.s (.v 6))), (.d (.vi .i64 (.v 7)))]), (.arr 3 1 (.v 3) false true), (.arr 3 1 (.v 4) false true)], [.i .i64, .i .i64, .i .i64, .s, .s, .i .i64, .s, .i .i64], false⟩
def H_spec_l20Line : Hint := ⟨[0, 2, 3, 5, 6, 15, 23, 30], 1, [(999999, ⟨(.cell 32 3), 900000, 3, 1, false, false⟩), (999999, ⟨(.cell 32 4), 900001, 3, 1, false, false⟩)], [], false, [], []⟩
def E_spec_l20Line : Entry := ⟨S_spec_l20Line, .r H_spec_l20Line R_spec_l20Line⟩
def S_spec_l1In : Sig := .d ⟨[(.one (.i .i64)), (.one (.i .i64)), (.one (.i .i64))], (.one (.one (.b))), true⟩
def H_spec_l1In : Hint := ⟨[0, 1, 2, 6], 0, [], [], false, [], []⟩
def E_spec_l1In : Entry := ⟨S_spec_l1In, .r H_spec_l1In R_spec_l1In⟩
def S_spec_l1All : Sig := .d ⟨[(.one (.s)), (.one (.i .i64)), (.one (.i .i64))], (.one (.one (.b))), true⟩
def H_spec_l1All : Hint := ⟨[0, 1, 2, 6, 7, 11, 15, 26], 0, [], [(4, ⟨[7], [], [], [], []⟩)], false, [], []⟩
def E_spec_l1All : Entry := ⟨S_spec_l1All, .r H_spec_l1All R_spec_l1All⟩
def S_spec_l2Small : Sig := .d ⟨[(.g [.s, .s, .i .i64])], (.one (.one (.b))), true⟩
def H_spec_l2Small : Hint := ⟨[0, 1, 2], 0, [], [], false, [], []⟩
def E_spec_l2Small : Entry := ⟨S_spec_l2Small, .r H_spec_l2Small R_spec_l2Small⟩
def S_spec_l2Line : Sig := .d ⟨[(.g [.i .i64, .i .i64, .i .i64, .s, .s, .i .i64])], (.one (.one (.b))), true⟩
def H_spec_l2Line : Hint := ⟨[0, 1, 2, 4, 5, 20, 35], 0, [], [], false, [], []⟩
def E_spec_l2Line : Entry := ⟨S_spec_l2Line, .r H_spec_l2Line R_spec_l2Line⟩
def S_spec_ActOk : Sig := .d ⟨[(.one (.s))], (.one (.one (.b))), true⟩
def H_spec_ActOk : Hint := ⟨[0, 2, 3, 4, 8, 16, 22], 0, [], [(3, ⟨[4, 3], [], [], [], []⟩)], false, [], []⟩
def E_spec_ActOk : Entry := ⟨S_spec_ActOk, .r H_spec_ActOk R_spec_ActOk⟩
def S_spec_l20Act : Sig := .x ⟨[(.p 0 0)], [(.box [(.d (.s (.v 0))), (.d (.vi .i64 (.v 1)))])], [.s, .i .i64], (.o 1 (.v 0)), [(.box [(.d (.s (.v 1))), (.d (.vi .i64 (.v 2)))]), (.arr 46 6 (.v 0) false true)], [.s, .s, .i .i64], false⟩
def H_spec_l20Act : Hint := ⟨[0, 2, 3, 4, 5, 6, 10, 11, 27, 33, 47, 53, 67, 78], 1, [], [(16, ⟨[5], [(0, 1), (0, 0)], [992], [], []⟩)], false, [], []⟩
def E_spec_l20Act : Entry := ⟨S_spec_l20Act, .r H_spec_l20Act R_spec_l20Act⟩
def S_spec_l20Form : Sig := .x ⟨[(.p 0 0), (.d (.vi .i64 (.v 2)))], [(.box [(.d (.s (.v 0))), (.d (.vi .i64 (.v 1)))])], [.s, .i .i64, .i .i64], (.g [(.o 1 (.v 0)), (.o 2 (.v 1)), (.d (.vi .i64 (.v 2)))]), [(.box [(.d (.s (.v 3))), (.d (.vi .i64 (.v 4)))]), (.arr 3 1 (.v 0) false true), (.arr 3 1 (.v 1) false true)], [.s, .s, .i .i64, .s, .i .i64], false⟩
def H_spec_l20Form : Hint := ⟨[0, 1, 4, 5, 10, 24, 27, 38, 44, 51], 1, [], [], false, [], []⟩
def E_spec_l20Form : Entry := ⟨S_spec_l20Form, .r H_spec_l20Form R_spec_l20Form⟩
def S_spec_l20AnyAct : Sig := .x ⟨[(.p 0 0), (.d (.vi .i64 (.v 2)))], [(.box [(.d (.s (.v 0))), (.d (.vi .i64 (.v 1)))])], [.s, .i .i64, .i .i64], (.o 1 (.v 0)), [(.box [(.d (.s (.v 1))), (.d (.vi .i64 (.v 2)))]), (.arr 46 6 (.v 0) false true)], [.s, .s, .i .i64], false⟩
def H_spec_l20AnyAct : Hint := ⟨[0, 1, 4, 5, 6, 17, 24, 34, 45, 56, 67, 75, 79], 1, [], [(16, ⟨[], [], [128], [], []⟩)], false, [], []⟩
def E_spec_l20AnyAct : Entry := ⟨S_spec_l20AnyAct, .r H_spec_l20AnyAct R_spec_l20AnyAct⟩
def S_spec_l20Vals : Sig := .x ⟨[(.p 0 0), (.d (.vi .i64 (.v 2)))], [(.box [(.d (.s (.v 0))), (.d (.vi .i64 (.v 1)))])], [.s, .i .i64, .i .i64], (.o 1 (.v 0)), [(.box [(.d (.s (.v 1))), (.d (.vi .i64 (.v 2)))]), (.arr 3 1 (.v 0) false true)], [.s, .s, .i .i64], false⟩
def H_spec_l20Vals : Hint := ⟨[0, 1, 4, 5, 6, 9, 23, 25, 35, 39], 1, [], [(3, ⟨[6], [(0, 1), (0, 0)], [112], [], []⟩)], false, [], []⟩
def E_spec_l20Vals : Entry := ⟨S_spec_l20Vals, .r H_spec_l20Vals R_spec_l20Vals⟩
def S_spec_l20Args : Sig := .x ⟨[(.p 0 0), (.d (.vi .i64 (.v 2)))], [(.box [(.d (.s (.v 0))), (.d (.vi .i64 (.v 1)))])], [.s, .i .i64, .i .i64], (.o 1 (.v 0)), [(.box [(.d (.s (.v 1))), (.d (.vi .i64 (.v 2)))]), (.arr 3 1 (.v 0) false true)], [.s, .s, .i .i64], false⟩
def H_spec_l20Args : Hint := ⟨[0, 1, 4, 5, 16, 18, 28, 32], 1, [], [], false, [], []⟩
def E_spec_l20Args : Entry := ⟨S_spec_l20Args, .r H_spec_l20Args R_spec_l20Args⟩
def S_spec_DrawActRun : Sig := .x ⟨[(.d (.s (.v 0)))], [], [.s], (.t [(.o 0 (.v 0)), (.o 1 (.v 1)), (.o 2 (.v 2))]), [(.arr 46 6 (.v 0) false true), (.arr 3 1 (.v 1) false true), (.arr 3 1 (.v 2) false true)], [.s, .s, .s], false⟩
def H_spec_DrawActRun : Hint := ⟨[0, 2, 3, 4, 5], 0, [], [], false, [], []⟩
def E_spec_DrawActRun : Entry := ⟨S_spec_DrawActRun, .r H_spec_DrawActRun R_spec_DrawActRun⟩
def S_impl_in : Sig := .d ⟨[(.one (.i .i64)), (.one (.i .i64)), (.one (.i .i64))], (.one (.one (.b))), true⟩
def H_impl_in : Hint := ⟨[0, 1, 2, 6], 0, [], [], false, [], []⟩
def E_impl_in : Entry := ⟨S_impl_in, .r H_impl_in R_impl_in⟩
def S_impl_within_1 : Sig := .d ⟨[(.one (.i .i64)), (.one (.d))], (.one (.one (.b))), true⟩
def H_impl_within_1 : Hint := ⟨[0, 1, 3], 0, [], [], false, [], []⟩
def E_impl_within_1 : Entry := ⟨S_impl_within_1, .r H_impl_within_1 R_impl_within_1⟩
def S_slices_IndexFunc_Sint_int : Sig := .d ⟨[(.one (.s)), (.one (.d))], (.one (.one (.i .i64))), true⟩
def H_slices_IndexFunc_Sint_int : Hint := ⟨[0, 1, 4, 5, 7, 8, 9, 16], 0, [], [(2, ⟨[8], [], [], [], []⟩)], false, [], []⟩
def E_slices_IndexFunc_Sint_int : Entry := ⟨S_slices_IndexFunc_Sint_int, .r H_slices_IndexFunc_Sint_int R_slices_IndexFunc_Sint_int⟩
def S_slices_ContainsFunc_Sint_int : Sig := .d ⟨[(.one (.s)), (.one (.d))], (.one (.one (.b))), true⟩
def H_slices_ContainsFunc_Sint_int : Hint := ⟨[0, 1, 4], 0, [], [], false, [], []⟩
def E_slices_ContainsFunc_Sint_int : Entry := ⟨S_slices_ContainsFunc_Sint_int, .r H_slices_ContainsFunc_Sint_int R_slices_ContainsFunc_Sint_int⟩
def S_impl_within : Sig := .d ⟨[(.one (.s)), (.one (.i .i64)), (.one (.i .i64))], (.one (.one (.b))), true⟩
def H_impl_within : Hint := ⟨[0, 1, 2, 5, 6], 0, [], [], false, [], []⟩
def E_impl_within : Entry := ⟨S_impl_within, .r H_impl_within R_impl_within⟩
def S_impl_FrmForm_small : Sig := .d ⟨[(.g [.s, .s, .i .i64])], (.one (.one (.b))), true⟩
def H_impl_FrmForm_small : Hint := ⟨[0, 1, 2], 0, [], [], false, [], []⟩
def E_impl_FrmForm_small : Entry := ⟨S_impl_FrmForm_small, .r H_impl_FrmForm_small R_impl_FrmForm_small⟩
def S_slices_Equal_Sint_int : Sig := .d ⟨[(.one (.s)), (.one (.s))], (.one (.one (.b))), true⟩
def H_slices_Equal_Sint_int : Hint := ⟨[0, 1, 4, 5, 10, 12, 13, 14, 24], 0, [], [(4, ⟨[13], [], [], [], []⟩)], false, [], []⟩
def E_slices_Equal_Sint_int : Entry := ⟨S_slices_Equal_Sint_int, .r H_slices_Equal_Sint_int R_slices_Equal_Sint_int⟩
def S_impl_FrmForm_same : Sig := .d ⟨[(.g [.s, .s, .i .i64]), (.g [.s, .s, .i .i64])], (.one (.one (.b))), true⟩
def H_impl_FrmForm_same : Hint := ⟨[0, 1, 2, 3, 4], 0, [], [], false, [], []⟩
def E_impl_FrmForm_same : Entry := ⟨S_impl_FrmForm_same, .r H_impl_FrmForm_same R_impl_FrmForm_same⟩
def S_impl_ActLine_ok : Sig := .d ⟨[(.g [.i .i64, .i .i64, .i .i64, .s, .s, .i .i64])], (.one (.one (.b))), true⟩
def H_impl_ActLine_ok : Hint := ⟨[0, 1, 2, 4, 5, 20, 35, 50], 0, [], [], false, [], []⟩
def E_impl_ActLine_ok : Entry := ⟨S_impl_ActLine_ok, .r H_impl_ActLine_ok R_impl_ActLine_ok⟩
def S_impl_ActOk : Sig := .d ⟨[(.one (.s))], (.one (.one (.b))), true⟩
def H_impl_ActOk : Hint := ⟨[0, 2, 3, 5, 6, 7, 8, 9, 14, 17], 0, [], [(3, ⟨[8, 3], [], [], [], []⟩)], false, [], []⟩
def E_impl_ActOk : Entry := ⟨S_impl_ActOk, .r H_impl_ActOk R_impl_ActOk⟩
def S_impl_ValOk : Sig := .d ⟨[(.one (.s))], (.one (.one (.b))), true⟩
def H_impl_ValOk : Hint := ⟨[0, 2], 0, [], [], false, [], []⟩
def E_impl_ValOk : Entry := ⟨S_impl_ValOk, .r H_impl_ValOk R_impl_ValOk⟩
def S_impl_ArgOk : Sig := .d ⟨[(.one (.s))], (.one (.one (.b))), true⟩
def H_impl_ArgOk : Hint := ⟨[0, 2], 0, [], [], false, [], []⟩
def E_impl_ArgOk : Entry := ⟨S_impl_ArgOk, .r H_impl_ArgOk R_impl_ArgOk⟩
def S_slices_Clone_Sint_int : Sig := .x ⟨[(.d (.s (.v 0)))], [], [.s], (.o 0 (.v 0)), [(.arr 3 1 (.v 0) false true)], [.s], false⟩
def H_slices_Clone_Sint_int : Hint := ⟨[0, 2, 4], 0, [(999999, ⟨(.slot 2), 900000, 3, 1, false, false⟩)], [], false, [], []⟩
def E_slices_Clone_Sint_int : Entry := ⟨S_slices_Clone_Sint_int, .r H_slices_Clone_Sint_int R_slices_Clone_Sint_int⟩
def S_impl_dot : Sig := .d ⟨[(.one (.s)), (.one (.s))], (.one (.one (.i .i64))), true⟩
def H_impl_dot : Hint := ⟨[0, 1, 4, 5, 6, 7, 8, 9, 10, 11], 0, [], [(3, ⟨[10, 5], [], [], [], []⟩)], false, [], []⟩
def E_impl_dot : Entry := ⟨S_impl_dot, .r H_impl_dot R_impl_dot⟩
def S_impl_FrmForm_at : Sig := .d ⟨[(.g [.s, .s, .i .i64]), (.one (.s)), (.one (.s))], (.one (.one (.i .i64))), true⟩
def H_impl_FrmForm_at : Hint := ⟨[0, 1, 2, 3, 6], 0, [], [], false, [], []⟩
def E_impl_FrmForm_at : Entry := ⟨S_impl_FrmForm_at, .r H_impl_FrmForm_at R_impl_FrmForm_at⟩
def S_impl_ActRun : Sig := .x ⟨[(.d (.s (.v 0))), (.d (.s (.v 1))), (.d (.s (.v 2)))], [], [.s, .s, .s], (.t [(.g [(.d (.vi .i64 (.v 0))), (.o 0 (.v 1))]), (.o 1 (.v 2))]), [(.arr 3 1 (.v 1) false true), (.arr 3 1 (.v 2) false true)], [.i .i64, .s, .s], false⟩
def H_impl_ActRun : Hint := ⟨[0, 1, 2, 6, 7, 8, 9, 10, 11, 12, 25, 32, 41, 51, 52, 55, 60, 70, 78], 0, [(6, ⟨(.slot 9), 159, 3, 1, false, false⟩), (999999, ⟨(.cell 96 1), 900000, 3, 1, false, false⟩), (999999, ⟨(.slot 7), 900001, 3, 1, false, false⟩)], [(6, ⟨[10], [], [159, 448], [], []⟩)], false, [], []⟩
def E_impl_ActRun : Entry := ⟨S_impl_ActRun, .r H_impl_ActRun R_impl_ActRun⟩
def S_spec_ValOk : Sig := .d ⟨[(.one (.s))], (.one (.one (.b))), true⟩
def H_spec_ValOk : Hint := ⟨[0, 2], 0, [], [], false, [], []⟩
def E_spec_ValOk : Entry := ⟨S_spec_ValOk, .r H_spec_ValOk R_spec_ValOk⟩
def S_spec_ArgOk : Sig := .d ⟨[(.one (.s))], (.one (.one (.b))), true⟩
def H_spec_ArgOk : Hint := ⟨[0, 2], 0, [], [], false, [], []⟩
def E_spec_ArgOk : Entry := ⟨S_spec_ArgOk, .r H_spec_ArgOk R_spec_ArgOk⟩
def S_spec_l1At : Sig := .d ⟨[(.g [.s, .s, .i .i64]), (.one (.s)), (.one (.s))], (.one (.one (.i .i64))), true⟩
def H_spec_l1At : Hint := ⟨[0, 1, 2, 3, 6, 7, 8, 9, 13, 29], 0, [], [(7, ⟨[9, 7], [], [], [], []⟩), (3, ⟨[8, 7], [], [], [], []⟩)], false, [], []⟩
def E_spec_l1At : Entry := ⟨S_spec_l1At, .r H_spec_l1At R_spec_l1At⟩
def S_spec_l2End : Sig := .d ⟨[(.one (.s)), (.one (.s)), (.one (.s))], (.tup [(.g [.i .i64, .s]), (.one (.s))]), false⟩
def H_spec_l2End : Hint := ⟨[0, 1, 2, 6, 7, 10], 0, [], [], false, [], []⟩
def E_spec_l2End : Entry := ⟨S_spec_l2End, .r H_spec_l2End R_spec_l2End⟩
def S_spec_ActRun : Sig := .d ⟨[(.one (.s)), (.one (.s)), (.one (.s))], (.tup [(.g [.i .i64, .s]), (.one (.s))]), false⟩
def H_spec_ActRun : Hint := ⟨[0, 1, 2, 6, 7, 8, 9, 10, 11, 24, 34, 42, 47, 54, 59, 76], 0, [], [(6, ⟨[10], [], [480, 432], [], []⟩)], false, [], []⟩
def E_spec_ActRun : Entry := ⟨S_spec_ActRun, .r H_spec_ActRun R_spec_ActRun⟩
def S_laws_coInts : Sig := .d ⟨[(.one (.s)), (.one (.s))], (.one (.one (.b))), true⟩
def H_laws_coInts : Hint := ⟨[0, 1, 4, 5, 10, 14, 25], 0, [], [(4, ⟨[5], [], [], [], []⟩)], false, [], []⟩
def E_laws_coInts : Entry := ⟨S_laws_coInts, .r H_laws_coInts R_laws_coInts⟩
def S_laws_coRes : Sig := .d ⟨[(.g [.i .i64, .s]), (.g [.i .i64, .s])], (.one (.one (.b))), true⟩
def H_laws_coRes : Hint := ⟨[0, 1, 2, 3, 4], 0, [], [], false, [], []⟩
def E_laws_coRes : Entry := ⟨S_laws_coRes, .r H_laws_coRes R_laws_coRes⟩
def S_impl_FrmZero : Sig := .x ⟨[], [], [], (.g [(.o 0 (.v 0)), (.o 1 (.v 1)), (.d (.vi .i64 (.v 2)))]), [(.arr 3 1 (.v 0) false true), (.arr 3 1 (.v 1) false true)], [.s, .s, .i .i64], false⟩
def H_impl_FrmZero : Hint := ⟨[0], 0, [], [], false, [], []⟩
def E_impl_FrmZero : Entry := ⟨S_impl_FrmZero, .r H_impl_FrmZero R_impl_FrmZero⟩
def S_impl_FrmOk : Sig := .d ⟨[(.g [.s, .s, .i .i64])], (.one (.one (.b))), true⟩
def H_impl_FrmOk : Hint := ⟨[0, 1, 2], 0, [], [], false, [], []⟩
def E_impl_FrmOk : Entry := ⟨S_impl_FrmOk, .r H_impl_FrmOk R_impl_FrmOk⟩
def S_laws_coHolds : Sig := .d ⟨[], (.one (.one (.b))), true⟩
def H_laws_coHolds : Hint := ⟨[0], 0, [], [], false, [], []⟩
def E_laws_coHolds : Entry := ⟨S_laws_coHolds, .r H_laws_coHolds R_laws_coHolds⟩
def S_impl_codeWords : Sig := .d ⟨[], (.one (.one (.s))), false⟩
def H_impl_codeWords : Hint := ⟨[0], 0, [], [], false, [], []⟩
def E_impl_codeWords : Entry := ⟨S_impl_codeWords, .r H_impl_codeWords R_impl_codeWords⟩
def S_impl_joined : Sig := .d ⟨[(.one (.s))], (.one (.one (.d))), false⟩
def E_impl_joined : Entry := ⟨S_impl_joined, .m joinedF⟩
def S_impl_ResText : Sig := .d ⟨[(.g [.i .i64, .s])], (.one (.one (.d))), false⟩
def H_impl_ResText : Hint := ⟨[0, 1, 2, 32], 0, [], [], false, [], []⟩
def E_impl_ResText : Entry := ⟨S_impl_ResText, .r H_impl_ResText R_impl_ResText⟩
def S_impl_ResOk : Sig := .d ⟨[(.g [.i .i64, .s])], (.one (.one (.b))), true⟩
def H_impl_ResOk : Hint := ⟨[0, 1, 2], 0, [], [], false, [], []⟩
def E_impl_ResOk : Entry := ⟨S_impl_ResOk, .r H_impl_ResOk R_impl_ResOk⟩
def S_laws_FnActKept : Sig := .d ⟨[(.one (.s))], (.one (.one (.b))), true⟩
def H_laws_FnActKept : Hint := ⟨[0, 2, 3, 4, 5, 6, 7, 8, 9, 12, 42, 55], 0, [], [], false, [], []⟩
def E_laws_FnActKept : Entry := ⟨S_laws_FnActKept, .r H_laws_FnActKept R_laws_FnActKept⟩
def L : Tabl := [(f_spec_l20Open, E_spec_l20Open), (f_spec_l20Rd_pick, E_spec_l20Rd_pick), (f_spec_FrmZero, E_spec_FrmZero), (f_spec_l20Num, E_spec_l20Num), (f_spec_l20With, E_spec_l20With), (f_spec_l20Small, E_spec_l20Small), (f_spec_l20Line, E_spec_l20Line), (f_spec_l1In, E_spec_l1In), (f_spec_l1All, E_spec_l1All), (f_spec_l2Small, E_spec_l2Small), (f_spec_l2Line, E_spec_l2Line), (f_spec_ActOk, E_spec_ActOk), (f_spec_l20Act, E_spec_l20Act), (f_spec_l20Form, E_spec_l20Form), (f_spec_l20AnyAct, E_spec_l20AnyAct), (f_spec_l20Vals, E_spec_l20Vals), (f_spec_l20Args, E_spec_l20Args), (f_spec_DrawActRun, E_spec_DrawActRun), (f_impl_in, E_impl_in), (f_impl_within_1, E_impl_within_1), (f_slices_IndexFunc_Sint_int, E_slices_IndexFunc_Sint_int), (f_slices_ContainsFunc_Sint_int, E_slices_ContainsFunc_Sint_int), (f_impl_within, E_impl_within), (f_impl_FrmForm_small, E_impl_FrmForm_small), (f_slices_Equal_Sint_int, E_slices_Equal_Sint_int), (f_impl_FrmForm_same, E_impl_FrmForm_same), (f_impl_ActLine_ok, E_impl_ActLine_ok), (f_impl_ActOk, E_impl_ActOk), (f_impl_ValOk, E_impl_ValOk), (f_impl_ArgOk, E_impl_ArgOk), (f_slices_Clone_Sint_int, E_slices_Clone_Sint_int), (f_impl_dot, E_impl_dot), (f_impl_FrmForm_at, E_impl_FrmForm_at), (f_impl_ActRun, E_impl_ActRun), (f_spec_ValOk, E_spec_ValOk), (f_spec_ArgOk, E_spec_ArgOk), (f_spec_l1At, E_spec_l1At), (f_spec_l2End, E_spec_l2End), (f_spec_ActRun, E_spec_ActRun), (f_laws_coInts, E_laws_coInts), (f_laws_coRes, E_laws_coRes), (f_impl_FrmZero, E_impl_FrmZero), (f_impl_FrmOk, E_impl_FrmOk), (f_laws_coHolds, E_laws_coHolds), (f_impl_codeWords, E_impl_codeWords), (f_impl_joined, E_impl_joined), (f_impl_ResText, E_impl_ResText), (f_impl_ResOk, E_impl_ResOk), (f_laws_FnActKept, E_laws_FnActKept)]
theorem L_spec_l20Open : L.lookup f_spec_l20Open = some ⟨S_spec_l20Open, .r H_spec_l20Open R_spec_l20Open⟩ := rfl
theorem L_spec_l20Rd_pick : L.lookup f_spec_l20Rd_pick = some ⟨S_spec_l20Rd_pick, .r H_spec_l20Rd_pick R_spec_l20Rd_pick⟩ := rfl
theorem L_spec_FrmZero : L.lookup f_spec_FrmZero = some ⟨S_spec_FrmZero, .r H_spec_FrmZero R_spec_FrmZero⟩ := rfl
theorem L_spec_l20Num : L.lookup f_spec_l20Num = some ⟨S_spec_l20Num, .r H_spec_l20Num R_spec_l20Num⟩ := rfl
theorem L_spec_l20With : L.lookup f_spec_l20With = some ⟨S_spec_l20With, .r H_spec_l20With R_spec_l20With⟩ := rfl
theorem L_spec_l20Small : L.lookup f_spec_l20Small = some ⟨S_spec_l20Small, .r H_spec_l20Small R_spec_l20Small⟩ := rfl
theorem L_spec_l20Line : L.lookup f_spec_l20Line = some ⟨S_spec_l20Line, .r H_spec_l20Line R_spec_l20Line⟩ := rfl
theorem L_spec_l1In : L.lookup f_spec_l1In = some ⟨S_spec_l1In, .r H_spec_l1In R_spec_l1In⟩ := rfl
theorem L_spec_l1All : L.lookup f_spec_l1All = some ⟨S_spec_l1All, .r H_spec_l1All R_spec_l1All⟩ := rfl
theorem L_spec_l2Small : L.lookup f_spec_l2Small = some ⟨S_spec_l2Small, .r H_spec_l2Small R_spec_l2Small⟩ := rfl
theorem L_spec_l2Line : L.lookup f_spec_l2Line = some ⟨S_spec_l2Line, .r H_spec_l2Line R_spec_l2Line⟩ := rfl
theorem L_spec_ActOk : L.lookup f_spec_ActOk = some ⟨S_spec_ActOk, .r H_spec_ActOk R_spec_ActOk⟩ := rfl
theorem L_spec_l20Act : L.lookup f_spec_l20Act = some ⟨S_spec_l20Act, .r H_spec_l20Act R_spec_l20Act⟩ := rfl
theorem L_spec_l20Form : L.lookup f_spec_l20Form = some ⟨S_spec_l20Form, .r H_spec_l20Form R_spec_l20Form⟩ := rfl
theorem L_spec_l20AnyAct : L.lookup f_spec_l20AnyAct = some ⟨S_spec_l20AnyAct, .r H_spec_l20AnyAct R_spec_l20AnyAct⟩ := rfl
theorem L_spec_l20Vals : L.lookup f_spec_l20Vals = some ⟨S_spec_l20Vals, .r H_spec_l20Vals R_spec_l20Vals⟩ := rfl
theorem L_spec_l20Args : L.lookup f_spec_l20Args = some ⟨S_spec_l20Args, .r H_spec_l20Args R_spec_l20Args⟩ := rfl
theorem L_spec_DrawActRun : L.lookup f_spec_DrawActRun = some ⟨S_spec_DrawActRun, .r H_spec_DrawActRun R_spec_DrawActRun⟩ := rfl
theorem L_impl_in : L.lookup f_impl_in = some ⟨S_impl_in, .r H_impl_in R_impl_in⟩ := rfl
theorem L_impl_within_1 : L.lookup f_impl_within_1 = some ⟨S_impl_within_1, .r H_impl_within_1 R_impl_within_1⟩ := rfl
theorem L_slices_IndexFunc_Sint_int : L.lookup f_slices_IndexFunc_Sint_int = some ⟨S_slices_IndexFunc_Sint_int, .r H_slices_IndexFunc_Sint_int R_slices_IndexFunc_Sint_int⟩ := rfl
theorem L_slices_ContainsFunc_Sint_int : L.lookup f_slices_ContainsFunc_Sint_int = some ⟨S_slices_ContainsFunc_Sint_int, .r H_slices_ContainsFunc_Sint_int R_slices_ContainsFunc_Sint_int⟩ := rfl
theorem L_impl_within : L.lookup f_impl_within = some ⟨S_impl_within, .r H_impl_within R_impl_within⟩ := rfl
theorem L_impl_FrmForm_small : L.lookup f_impl_FrmForm_small = some ⟨S_impl_FrmForm_small, .r H_impl_FrmForm_small R_impl_FrmForm_small⟩ := rfl
theorem L_slices_Equal_Sint_int : L.lookup f_slices_Equal_Sint_int = some ⟨S_slices_Equal_Sint_int, .r H_slices_Equal_Sint_int R_slices_Equal_Sint_int⟩ := rfl
theorem L_impl_FrmForm_same : L.lookup f_impl_FrmForm_same = some ⟨S_impl_FrmForm_same, .r H_impl_FrmForm_same R_impl_FrmForm_same⟩ := rfl
theorem L_impl_ActLine_ok : L.lookup f_impl_ActLine_ok = some ⟨S_impl_ActLine_ok, .r H_impl_ActLine_ok R_impl_ActLine_ok⟩ := rfl
theorem L_impl_ActOk : L.lookup f_impl_ActOk = some ⟨S_impl_ActOk, .r H_impl_ActOk R_impl_ActOk⟩ := rfl
theorem L_impl_ValOk : L.lookup f_impl_ValOk = some ⟨S_impl_ValOk, .r H_impl_ValOk R_impl_ValOk⟩ := rfl
theorem L_impl_ArgOk : L.lookup f_impl_ArgOk = some ⟨S_impl_ArgOk, .r H_impl_ArgOk R_impl_ArgOk⟩ := rfl
theorem L_slices_Clone_Sint_int : L.lookup f_slices_Clone_Sint_int = some ⟨S_slices_Clone_Sint_int, .r H_slices_Clone_Sint_int R_slices_Clone_Sint_int⟩ := rfl
theorem L_impl_dot : L.lookup f_impl_dot = some ⟨S_impl_dot, .r H_impl_dot R_impl_dot⟩ := rfl
theorem L_impl_FrmForm_at : L.lookup f_impl_FrmForm_at = some ⟨S_impl_FrmForm_at, .r H_impl_FrmForm_at R_impl_FrmForm_at⟩ := rfl
theorem L_impl_ActRun : L.lookup f_impl_ActRun = some ⟨S_impl_ActRun, .r H_impl_ActRun R_impl_ActRun⟩ := rfl
theorem L_spec_ValOk : L.lookup f_spec_ValOk = some ⟨S_spec_ValOk, .r H_spec_ValOk R_spec_ValOk⟩ := rfl
theorem L_spec_ArgOk : L.lookup f_spec_ArgOk = some ⟨S_spec_ArgOk, .r H_spec_ArgOk R_spec_ArgOk⟩ := rfl
theorem L_spec_l1At : L.lookup f_spec_l1At = some ⟨S_spec_l1At, .r H_spec_l1At R_spec_l1At⟩ := rfl
theorem L_spec_l2End : L.lookup f_spec_l2End = some ⟨S_spec_l2End, .r H_spec_l2End R_spec_l2End⟩ := rfl
theorem L_spec_ActRun : L.lookup f_spec_ActRun = some ⟨S_spec_ActRun, .r H_spec_ActRun R_spec_ActRun⟩ := rfl
theorem L_laws_coInts : L.lookup f_laws_coInts = some ⟨S_laws_coInts, .r H_laws_coInts R_laws_coInts⟩ := rfl
theorem L_laws_coRes : L.lookup f_laws_coRes = some ⟨S_laws_coRes, .r H_laws_coRes R_laws_coRes⟩ := rfl
theorem L_impl_FrmZero : L.lookup f_impl_FrmZero = some ⟨S_impl_FrmZero, .r H_impl_FrmZero R_impl_FrmZero⟩ := rfl
theorem L_impl_FrmOk : L.lookup f_impl_FrmOk = some ⟨S_impl_FrmOk, .r H_impl_FrmOk R_impl_FrmOk⟩ := rfl
theorem L_laws_coHolds : L.lookup f_laws_coHolds = some ⟨S_laws_coHolds, .r H_laws_coHolds R_laws_coHolds⟩ := rfl
theorem L_impl_codeWords : L.lookup f_impl_codeWords = some ⟨S_impl_codeWords, .r H_impl_codeWords R_impl_codeWords⟩ := rfl
theorem L_impl_joined : L.lookup f_impl_joined = some ⟨S_impl_joined, .m joinedF⟩ := rfl
theorem L_impl_ResText : L.lookup f_impl_ResText = some ⟨S_impl_ResText, .r H_impl_ResText R_impl_ResText⟩ := rfl
theorem L_impl_ResOk : L.lookup f_impl_ResOk = some ⟨S_impl_ResOk, .r H_impl_ResOk R_impl_ResOk⟩ := rfl
theorem L_laws_FnActKept : L.lookup f_laws_FnActKept = some ⟨S_laws_FnActKept, .r H_laws_FnActKept R_laws_FnActKept⟩ := rfl
end Go.Proofs.YtdibnlhlngodeaaDoor

/- What draws of any acts come to, and the comparisons of rows. -/
import Derived.Test.YtdibnlhlngodeaaGreatDoorPO
import Derived.Test.YtdibnlhlngodeaaGreatDoorPF
set_option linter.unusedVariables false
set_option linter.unusedSimpArgs false
namespace Go.Proofs.YtdibnlhlngodeaaGreatDoor
open Go Go.Tm

/-- A constant list's element. -/
theorem WRconst {r : R} {l : List V} {Q : Oc → Prop} {n : Nat} {b1 b2 e i : E} (cs : List Int) (v : Int) (h0 : 0 ≤ v) (h1 : v < cs.length) (hb1 : bol (envL l) b1 = decide (0 ≤ v)) (hb2 : bol (envL l) b2 = decide (v < (cs.length : Int)))
    (hn : n = l.length) (he : lst (envL l) e = dL cs) (hi : int (envL l) i = v) (h : ∀ x, WR L r (l ++ [.i x]) Q) : WR L (.i (.chk b1) (.i (.chk b2) (.i (.idx e i (.one (.i .i64)) n) r))) l Q :=
  WR.chkP (0 ≤ v) hb1 h0 (WR.chkP (v < (cs.length : Int)) hb2 h1 (WR.idxA (ds := dL cs) v hn he hi h0 (dL_get h0 h1) rfl (h _)))

/-- An own list's element that is about to be written. -/
theorem WRown {r : R} {l : List V} {Q : Oc → Prop} {n : Nat} {b1 b2 e i : E} (cs : List Int) (v : Int) (h0 : 0 ≤ v) (h1 : v < cs.length) (hb1 : bol (envL l) b1 = decide (0 ≤ v)) (hb2 : bol (envL l) b2 = decide (v < ((dL cs).length : Int)))
    (hn : n = l.length) (he : lst (envL l) e = dL cs) (hi : int (envL l) i = v) (h : ∀ x, WR L r (l ++ [.i x]) Q) : WR L (.i (.chk b1) (.i (.chk b2) (.i (.idx e i (.one (.i .i64)) n) r))) l Q :=
  WR.chkP (0 ≤ v) hb1 h0 (WR.chkP (v < ((dL cs).length : Int)) hb2 (by rw [dL_len]; exact h1) (WR.idxA (ds := dL cs) v hn he hi h0 (dL_get h0 h1) rfl (h _)))

/-- A form's lists take up just so much. -/
def slimF (f : Frm) : Prop := f.c.length ≤ 3 ∧ f.d.length ≤ 3

/-- A short act whose forms take up little. -/
def thinA (a : List Line) : Prop := a.length ≤ 7 ∧ ∀ l ∈ a, slimF l.f
theorem thinA.fit {a : List Line} (h : thinA a) : fitAct a := ⟨by have := h.1; omega, fun l hl => ⟨by have := (h.2 l hl).1; omega, by have := (h.2 l hl).2; omega⟩⟩
theorem slimA.thin {a : List Line} (h : slimA a) : thinA a := ⟨by have := h.1; omega, fun l hl => ⟨(h.2.1 l hl).1, by have := (h.2.1 l hl).2; omega⟩⟩
theorem thinA.set {a : List Line} (h : thinA a) {x : Line} (hx : slimF x.f) (k : Nat) : thinA (a.set k x) := by
  refine ⟨by simp; exact h.1, fun l hl => ?_⟩
  rcases List.mem_or_eq_of_mem_set hl with hl | hl
  · exact h.2 l hl
  · subst hl; exact hx
theorem dAct_set (a : List Line) (k : Nat) (x : Line) : (dAct a).set k x.g = dAct (a.set k x) := by simp [dAct, List.map_set]

/-- A line that is about to be written. -/
theorem WRline {r : R} {l : List V} {Q : Oc → Prop} {n : Nat} {b1 b2 e i : E} (a : List Line) (v : Int) (h0 : 0 ≤ v) (h1 : v < a.length) (ha : thinA a) (hb1 : bol (envL l) b1 = decide (0 ≤ v)) (hb2 : bol (envL l) b2 = decide (v < ((dAct a).length : Int)))
    (hn : n = l.length) (he : lst (envL l) e = dAct a) (hi : int (envL l) i = v) (h : ∀ x : Line, slimF x.f → WR L r (l ++ [.i x.kind, .i x.pot, .i x.skip, .l (dL x.f.c), .l (dL x.f.d), .i x.f.k]) Q) :
    WR L (.i (.chk b1) (.i (.chk b2) (.i (.idx e i (.g [.i .i64, .i .i64, .i .i64, .s, .s, .i .i64]) n) r))) l Q := by
  obtain ⟨x, hx, hd⟩ := dAct_get h0 h1
  exact WR.chkP (0 ≤ v) hb1 h0 (WR.chkP (v < ((dAct a).length : Int)) hb2 (by rw [dAct_len]; exact h1) (WR.idxA (ds := dAct a) v hn he hi h0 hd rfl (h x (ha.2 x (List.mem_of_getElem? hx)))))

end Go.Proofs.YtdibnlhlngodeaaGreatDoor

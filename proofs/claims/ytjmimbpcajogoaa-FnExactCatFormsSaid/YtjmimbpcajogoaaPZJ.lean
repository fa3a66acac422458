/- The program's RowsOf answers as the reference's: over residual programs. -/
import Derived.Test.YtjmimbpcajogoaaPZF
namespace Go.Proofs.Ytjmimbpcajogoaa
open Go Go.Tm

/-! ### Forms -/

def wFr (f : Frm) : Nat := 1 + f.c.length + f.d.length
def mkFr (q : Int) (f : Frm) : Frm := ⟨cnt q f.c.length, cnt (q + f.c.length) f.d.length, q + f.c.length + f.d.length⟩

/-! ### Ways -/

def wRw (r : Row) : Nat := 1 + wts wFr r.guards + wts wFr r.adds + wts wFr r.tells
def mkRw (q : Int) (r : Row) : Row := ⟨mkAll wFr mkFr q r.guards, mkAll wFr mkFr (q + wts wFr r.guards) r.adds, mkAll wFr mkFr (q + wts wFr r.guards + wts wFr r.adds) r.tells,
  decide ((q + wts wFr r.guards + wts wFr r.adds + wts wFr r.tells).tmod 3 = 0)⟩

theorem wts_le {α : Type} (w : α → Nat) (N : Nat) : ∀ l : List α, (∀ x ∈ l, w x ≤ N) → wts w l ≤ l.length * N
  | [], _ => by simp [wts]
  | x :: l, h => by
    have h1 := h x (by simp)
    have h2 := wts_le w N l (fun y hy => h y (by simp [hy]))
    have h3 : wts w (x :: l) = w x + wts w l := by simp [wts]
    rw [h3, List.length_cons, Nat.succ_mul]; omega

theorem fit_row {r : Row} (h : RowFit r) : fitRow r :=
  ⟨⟨by have := h.gl; omega, fun f hf => (h.g f hf).fit⟩, ⟨by have := h.al; omega, fun f hf => (h.a f hf).fit⟩, ⟨by have := h.tl; omega, fun f hf => (h.t f hf).fit⟩⟩

theorem std_w {M : Int} {f : Frm} (h : Std M f) : wFr f ≤ 6 := by
  unfold wFr
  have h1 := h.c
  have h2 := h.d
  omega

theorem row_w {r : Row} (h : RowFit r) : wRw r ≤ 100 := by
  have h1 := wts_le wFr 6 r.guards (fun f hf => std_w (h.g f hf))
  have h2 := wts_le wFr 6 r.adds (fun f hf => std_w (h.a f hf))
  have h3 := wts_le wFr 6 r.tells (fun f hf => std_w (h.t f hf))
  have h4 := h.gl
  have h5 := h.al
  have h6 := h.tl
  unfold wRw
  omega

end Go.Proofs.Ytjmimbpcajogoaa

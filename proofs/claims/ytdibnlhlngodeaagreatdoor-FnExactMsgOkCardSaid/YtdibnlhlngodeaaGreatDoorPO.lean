/- What the program's ways through an act come to. -/
import Derived.Test.YtdibnlhlngodeaaGreatDoorPN
import Derived.Test.YtdibnlhlngodeaaGreatDoorPI
namespace Go.Proofs.YtdibnlhlngodeaaGreatDoor
open Go Go.Tm

/-- Sums so far. -/
def accI (f : Frm) (pots : List Frm) (i : Nat) : Frm := (List.zip (pots.take i) (f.c.take i)).foldl (fun x q => sumF x q.1 q.2) Frm.zero

theorem accI_succ {f : Frm} {pots : List Frm} {i : Nat} {p : Frm} {n : Int} (hp : pots[i]? = some p) (hn : f.c[i]? = some n) : accI f pots (i + 1) = sumF (accI f pots i) p n := by
  have h1 := (List.getElem?_eq_some_iff.1 hp).1
  have h2 := (List.getElem?_eq_some_iff.1 hn).1
  simp only [accI]
  rw [take_succ hp, take_succ hn, List.zip_append (by simp; omega), List.foldl_append]; rfl

theorem accI_std {f : Frm} {pots : List Frm} {M : Int} (hf : f.small = true) (hp : ∀ p ∈ pots, Std M p) (hl : pots.length = 3) (h0 : 0 ≤ M) (i : Nat) (hi : i ≤ 3) : Std (2 * M * i) (accI f pots i) := by
  obtain ⟨h1, h2, h3, h4, h5⟩ := small_std hf
  induction i with
  | zero => exact zero_std.mono (by omega)
  | succ i ih =>
    have ih := ih (by omega)
    obtain ⟨p, hp1, hp2⟩ := some_at (show i < pots.length by omega)
    obtain ⟨n, hn1, hn2⟩ := some_at (show i < f.c.length by omega)
    rw [accI_succ hp1 hn1]
    have := sumF_std ih (hp _ hp2) (h3 _ hn2)
    refine this.mono ?_
    push_cast
    rw [Int.mul_add]; omega

theorem into_swap {f : Frm} {pots : List Frm} {M : Int} (hf : f.small = true) (hp : ∀ p ∈ pots, Std M p) (hl : pots.length = 3) :
    intoF f pots = ⟨(accI f pots 3).c, addU (accI f pots 3).d f.d 1, (accI f pots 3).k + 1 * f.k⟩ := by
  obtain ⟨h1, h2, _⟩ := small_std hf
  match pots, hl with
  | [⟨c, d, k⟩, ⟨c', d', k'⟩, ⟨c'', d'', k''⟩], _ =>
    have s1 := hp ⟨c, d, k⟩ (by simp)
    have s2 := hp ⟨c', d', k'⟩ (by simp)
    have s3 := hp ⟨c'', d'', k''⟩ (by simp)
    obtain ⟨fc, fd, fk⟩ := f
    obtain ⟨x, y, z, rfl⟩ := len3 h1
    obtain ⟨u, v, rfl⟩ := len2 h2
    obtain ⟨a1, a2, a3, rfl⟩ := len3 s1.c
    obtain ⟨b1, b2, rfl⟩ := len2 s1.d
    obtain ⟨a1', a2', a3', rfl⟩ := len3 s2.c
    obtain ⟨b1', b2', rfl⟩ := len2 s2.d
    obtain ⟨a1'', a2'', a3'', rfl⟩ := len3 s3.c
    obtain ⟨b1'', b2'', rfl⟩ := len2 s3.d
    simp [intoF, accI, sumF, addL, addU, Frm.zero]
    omega

theorem dRows_snoc (l : List Row) (r : Row) : dRows l ++ [r.g] = dRows (l ++ [r]) := by simp [dRows]

theorem fits_of {l : List Frm} {M : Int} (h : ∀ f ∈ l, Std M f) : ∀ f ∈ l, Frm.fit f := fun f hf => (h f hf).fit

end Go.Proofs.YtdibnlhlngodeaaGreatDoor

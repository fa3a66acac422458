import Derived.Test.YtdibnlhlngodeaaGreatDoorPI
set_option linter.unusedVariables false
set_option linter.unusedSimpArgs false
/- What the reference's treaties come to. -/
namespace Go.Proofs.YtdibnlhlngodeaaGreatDoor
open Go Go.Tm
theorem ev_sValOk (l : List Int) (hl : l.length ≤ 2000000) : Ev L f_k19 [.s (dL l)] [dB (valOk l)] :=
  Ev.eq (vs := [.l (dL l)]) L_k19 rfl (WR.ev (ev_l1All l 3 10000 hl (by omega) (by omega)) rfl rfl rfl (WR.done rfl))
theorem ev_sTrtOk (b g : List Int) (hb : b.length ≤ 2000000) (hg : g.length ≤ 2000000) : Ev L f_k1a [.s (dL b), .s (dL g)] [dB (trtOk b g)] := by
  refine Ev.eq (vs := [.l (dL b), .l (dL g)]) L_k1a rfl ?_
  refine WR.ev (ev_sValOk b hb) rfl rfl rfl ?_
  refine WR.iteN (valOk b) rfl (fun h => WR.done ?_) (fun h => ?_)
  · show [dB false] = _
    simp [trtOk, h]
  refine WR.ev (ev_l1In g.length 1 3) rfl ?_ rfl ?_
  · show [dI ((dL g).length : Int), dI 1, dI 3] = _
    rw [dL_len]
  refine WR.iteN (inB g.length 1 3) rfl (fun h2 => WR.done ?_) (fun h2 => ?_)
  · show [dB false] = _
    simp [trtOk, h2]
  refine WR.forP g.length (fun i => [.i i]) (fun i => (g.take i).all (fun x => inB x 0 50) = true) rfl rfl (by simp) fun i hi hp => ?_
  refine WR.iteLen i (dL_len g) rfl (fun h' => ?_) (fun h' => ?_)
  · obtain ⟨x, hx, hm⟩ := some_at h'
    refine WR.idxN i (map_at (f := dI) hx) rfl rfl rfl rfl ?_
    refine WR.ev (ev_l1In x 0 50) rfl rfl rfl ?_
    refine WR.iteN (inB x 0 50) rfl (fun hb => WR.esc (WR.done ?_)) (fun hb => ?_)
    · show [dB false] = _
      simp only [trtOk, all_not (p := fun x => inB x 0 50) hx hb, Bool.and_false]
    · refine WR.nextA (vs := [.i ((i + 1 : Nat) : Int)]) ?_ ⟨h', rfl, all_take (p := fun x => inB x 0 50) hx hp hb⟩
      show [V.i (IntKind.i64.wrap ((i : Int) + 1))] = _
      rw [wS h' (by omega)]
  · refine WR.esc (WR.done ?_)
    rw [take_all h'] at hp
    show [dB true] = _
    simp only [trtOk, h, h2, hp]; rfl
def fitLL (ps : List (List Int)) : Prop := ps.length ≤ 2000000 ∧ ∀ p ∈ ps, p.length ≤ 2000000
theorem dot_step {a b : List Int} {i : Nat} {x y : Int} (hx : a[i]? = some x) (hy : b[i]? = some y) : dot (a.take (i + 1)) (b.take (i + 1)) = dot (a.take i) (b.take i) + x * y := by
  have h1 := (List.getElem?_eq_some_iff.1 hx).1
  have h2 := (List.getElem?_eq_some_iff.1 hy).1
  rw [take_succ hx, take_succ hy, dot_snoc x y (by simp; omega)]
theorem dot_wrap {a b : List Int} {i : Nat} {x y : Int} (hx : a[i]? = some x) (hy : b[i]? = some y) (ha : Lim 100000000 a) (hb : Lim 1000000 b) (hi : i < 1000) :
    IntKind.i64.wrap (dot (a.take i) (b.take i) + IntKind.i64.wrap (x * y)) = dot (a.take (i + 1)) (b.take (i + 1)) := by
  have h1 := dot_lim (ha.take i) (hb.take i) (by omega) (by omega)
  have h2 : ((a.take i).length : Int) ≤ 1000 := by simp; omega
  have h3 := mul_lim (ha x (List.mem_of_getElem? hx)) (hb y (List.mem_of_getElem? hy))
  rw [dot_step hx hy, w64 (n := x * y) (by omega) (by omega), w64 (by omega) (by omega)]
theorem at_getD {l : List Int} {i : Nat} (h : i < l.length) : l[i]? = some (l.getD i 0) := by simp [List.getD_eq_getElem?_getD, h]
end Go.Proofs.YtdibnlhlngodeaaGreatDoor

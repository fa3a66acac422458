import Derived.Test.YtdibnlhlngodeaaGreatDoorPS
import Derived.Test.YtdibnlhlngodeaaGreatDoorPK
import Derived.Test.YtdibnlhlngodeaaGreatDoorTd
set_option linter.unusedVariables false
set_option linter.unusedSimpArgs false
/- There is one way, and it is the act; what an act does not read turns no answer; with an act more there is more: over residual programs. -/
namespace Go.Proofs.YtdibnlhlngodeaaGreatDoor
open Go Go.Tm
theorem ev_all {fs : List Frm} {v w : List Int} (hl : fs.length ≤ 1000) (hf : ∀ f ∈ fs, AtFit f v w) : Ev L f_k4b [.s (dF fs), .s (dL v), .s (dL w)] [.s (dL (atL fs v w))] := by
  refine Ev.eq (vs := [.l (dF fs), .l (dL v), .l (dL w)]) L_k4b rfl ?_
  refine WR.forP fs.length (fun i => [.l (dL (atL (fs.take i) v w)), .i i]) (fun _ => True) rfl rfl trivial fun i hi _ => ?_
  refine WR.iteLen i (dF_len fs) rfl (fun h => ?_) (fun h => ?_)
  · obtain ⟨x, hx, hm⟩ := some_at h
    refine WR.idxN i (map_at (f := Frm.g) hx) rfl rfl rfl rfl ?_
    refine WR.ev (ev_iAt (hf x hm)) rfl rfl rfl ?_
    refine WR.chkApp (dL (atL (fs.take i) v w)) 1000 (by rw [dL_len]; simp [atL]; omega) (by omega) rfl ?_
    refine WR.nextA (vs := [.l (dL (atL (fs.take (i + 1)) v w)), .i ((i + 1 : Nat) : Int)]) ?_ ⟨h, rfl, trivial⟩
    show [V.l (dL (atL (fs.take i) v w) ++ [dI (atF x v w)]), V.i (IntKind.i64.wrap ((i : Int) + 1))] = _
    rw [wS h (by omega), dL_snoc, take_succ hx]
    simp [atL]
  · refine WR.esc (WR.done ?_)
    rw [take_all h]; rfl
theorem addU_one {a b : List Int} (h : b.length = a.length) : addU a b 1 = List.zipWith (· + ·) a b := by
  rw [addU_eq h]
  unfold addL
  congr 1
  funext x y
  omega
theorem ev_plus {a b : List Int} {M : Int} (ha : Lim M a) (hb : Lim M b) (hM : M ≤ 4000000000000000000) (hl : b.length = a.length) (h9 : a.length ≤ 1000) : Ev L f_k44 [.s (dL a), .s (dL b)] [.s (dL (List.zipWith (· + ·) a b))] := by
  refine Ev.eq (vs := [.l (dL a), .l (dL b)]) L_k44 rfl ?_
  refine WR.ev (ev_clone1 a (by omega)) rfl rfl rfl ?_
  refine WR.forP b.length (fun i => [.l (dL (addL a (b.take i) 1 ++ a.drop i)), .i i]) (fun _ => True) rfl (by simp [addL, den, envL, V.int]) trivial fun i hi _ => ?_
  simp only [sCA, sNA]
  refine WR.iteLen i (dL_len b) rfl (fun h => ?_) (fun h => ?_)
  · obtain ⟨x, hx, hmx⟩ := some_at (show i < a.length by omega)
    obtain ⟨y, hy, hmy⟩ := some_at h
    obtain ⟨s1, s2⟩ := addU_step (n := 1) (by omega) hx hy
    have hxl := ha x hmx
    have hyl := hb y hmy
    refine WR.idxN i (map_at (f := dI) hy) rfl rfl rfl rfl ?_
    refine WR.atN i (map_at (f := dI) s1) rfl rfl rfl rfl rfl rfl ?_
    refine WR.atN i (map_at (f := dI) s1) rfl rfl rfl rfl rfl rfl ?_
    refine WR.nextA (vs := [.l (dL (addL a (b.take (i + 1)) 1 ++ a.drop (i + 1))), .i ((i + 1 : Nat) : Int)]) ?_ ⟨h, rfl, trivial⟩
    show [V.l ((dL (addL a (b.take i) 1 ++ a.drop i)).set (i : Int).toNat (dI (IntKind.i64.wrap (x + y)))), V.i (IntKind.i64.wrap ((i : Int) + 1))] = _
    rw [wS h (by omega), w64 (by omega) (by omega), dL_set, Int.toNat_natCast, show x + y = x + 1 * y by omega, s2]
  · refine WR.esc (WR.done ?_)
    show [D.s (dL (addL a (b.take i) 1 ++ a.drop i))] = _
    rw [take_all h, show i = b.length by omega, ← addU_one hl]; rfl
theorem at_lim {f : Frm} {v w : List Int} (h : AtFit f v w) : -6000000000000000 ≤ atF f v w ∧ atF f v w ≤ 6000000000000000 := by
  obtain ⟨s1, s2, s3⟩ := h.sums
  unfold atF; omega
theorem atL_lim {fs : List Frm} {v w : List Int} (h : ∀ f ∈ fs, AtFit f v w) : Lim 6000000000000000 (atL fs v w) := by
  intro x hx
  simp only [atL, List.mem_map] at hx
  obtain ⟨f, hf, rfl⟩ := hx
  exact at_lim (h f hf)
theorem sArgOk (l : List Int) (hl : l.length ≤ 2000000) : Ev L f_k1l [.s (dL l)] [dB (argOk l)] :=
  Ev.eq (vs := [.l (dL l)]) L_k1l rfl (WR.ev (ev_l1All l 2 9 hl (by omega) (by omega)) rfl rfl rfl (WR.done rfl))
end Go.Proofs.YtdibnlhlngodeaaGreatDoor

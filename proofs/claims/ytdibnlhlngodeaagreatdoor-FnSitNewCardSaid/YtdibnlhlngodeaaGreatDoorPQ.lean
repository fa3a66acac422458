import Derived.Test.YtdibnlhlngodeaaGreatDoorPP
import Derived.Test.YtdibnlhlngodeaaGreatDoorPJ
set_option linter.unusedVariables false
set_option linter.unusedSimpArgs false
/- Each way is ok, and there are at most two for each test: over residual programs. -/
namespace Go.Proofs.YtdibnlhlngodeaaGreatDoor
open Go Go.Tm
theorem ev_coInts (a b : List Int) (hl : a.length ≤ 2000000) : Ev L f_k1e [.s (dL a), .s (dL b)] [dB (decide (a = b))] :=
  ev_same dI .i a b L_k1e rfl (fun _ => rfl) (fun _ _ _ _ _ => rfl) hl
theorem ev_coHolds : Ev L f_k1p [] [dB true] := by
  refine Ev.eq (vs := []) L_k1p rfl ?_
  refine WR.ev ev_iZero rfl rfl rfl ?_
  have e := ev_iFrmOk Frm.zero zero_std.fit
  rw [zero_std.okF (by omega)] at e
  exact WR.ev e rfl rfl rfl (WR.done rfl)
theorem ev_grow (n : Int) (h0 : 0 ≤ n) (hn : n ≤ 2000000) : Ev L f_k2c [dI n] [.s []] := by
  refine Ev.eq (vs := [.i n]) L_k2c rfl ?_
  have hw : IntKind.i64.wrap (n - IntKind.i64.wrap (0 - 0)) = n := by rw [w64 (n := 0 - 0) (by omega) (by omega), w64 (by omega) (by omega)]; omega
  refine WR.iteP (n < 0) rfl (fun h => by omega) (fun _ => ?_)
  refine WR.iteP (0 < n) (by show decide (0 < IntKind.i64.wrap (n - IntKind.i64.wrap (0 - 0))) = _; rw [hw]) (fun h => ?_) (fun h => WR.done rfl)
  refine WR.chkP (0 < n) (by show decide (0 < IntKind.i64.wrap (n - IntKind.i64.wrap (0 - 0))) = _; rw [hw]) h ?_
  refine WR.chkP (n ≤ 1256584717458) (by show decide (IntKind.i64.wrap (n - IntKind.i64.wrap (0 - 0)) ≤ 1256584717458) = _; rw [hw]) (by omega) ?_
  refine WR.chk ?_ (WR.done ?_)
  · show decide ((0 : Int) ≤ ((List.replicate (IntKind.i64.wrap (n - IntKind.i64.wrap (0 - 0))).toNat (D.g [.s [], .s [], dI 0])).length : Int)) = true
    simp only [decide_eq_true_eq]; omega
  · show [D.s ((List.replicate (IntKind.i64.wrap (n - IntKind.i64.wrap (0 - 0))).toNat (D.g [.s [], .s [], dI 0])).take (0 : Int).toNat)] = _
    simp
def dFF (ls : List (List Frm)) : List D := ls.map fun l => .s (dF l)
theorem dFF_len (ls : List (List Frm)) : (dFF ls).length = ls.length := by simp [dFF]
theorem dF_app (a b : List Frm) : dF a ++ dF b = dF (a ++ b) := by simp [dF]
def lens (ls : List (List Frm)) : Nat := (ls.map List.length).sum
theorem lens_take {ls : List (List Frm)} {i : Nat} {l : List Frm} (h : ls[i]? = some l) : lens (ls.take (i + 1)) = lens (ls.take i) + l.length := by
  unfold lens
  rw [take_succ h]; simp
theorem lens_flat (ls : List (List Frm)) : ls.flatten.length = lens ls := by simp [lens, List.length_flatten]
theorem lens_le {ls : List (List Frm)} {N : Nat} (h : ∀ l ∈ ls, l.length ≤ N) (i : Nat) : lens (ls.take i) ≤ N * ls.length := by
  have : ∀ (ls : List (List Frm)), (∀ l ∈ ls, l.length ≤ N) → lens ls ≤ N * ls.length := by
    intro ls
    induction ls with
    | nil => intro _; simp [lens]
    | cons l ls ih =>
      intro h
      have h1 := h l (by simp)
      have h2 := ih fun x hx => h x (by simp [hx])
      simp only [lens, List.map_cons, List.sum_cons, List.length_cons, Nat.mul_add] at *
      omega
  have h1 := this (ls.take i) fun l hl => h l (List.mem_of_mem_take hl)
  refine Nat.le_trans h1 (Nat.mul_le_mul_left _ (by simp; omega))
theorem ev_concat (ls : List (List Frm)) (hl : ls.length ≤ 100) (h1 : ∀ l ∈ ls, l.length ≤ 1000) : Ev L f_k2d [.s (dFF ls)] [.s (dF ls.flatten)] := by
  refine Ev.eq (vs := [.l (dFF ls)]) L_k2d rfl ?_
  have hle : ∀ i, lens (ls.take i) ≤ 100000 := fun i => Nat.le_trans (lens_le h1 i) (by omega)
  refine WR.forP ls.length (fun i => [.i (lens (ls.take i)), .i i]) (fun _ => True) rfl rfl trivial fun i hi _ => ?_
  have hli := hle i
  refine WR.iteLen i (dFF_len ls) rfl (fun h => ?_) (fun h => ?_)
  · obtain ⟨x, hx, hm⟩ := some_at h
    have hxl := h1 x hm
    refine WR.idxN i (map_at (f := fun l => .s (dF l)) hx) rfl rfl rfl rfl ?_
    have hw : IntKind.i64.wrap ((lens (ls.take i) : Int) + ((dF x).length : Int)) = (lens (ls.take (i + 1)) : Int) := by
      rw [dF_len, lens_take hx, w64 (by omega) (by omega)]; rfl
    refine WR.iteP (((lens (ls.take (i + 1)) : Int)) < 0) (by show decide (IntKind.i64.wrap ((lens (ls.take i) : Int) + ((dF x).length : Int)) < 0) = _; rw [hw]) (fun h => by omega) (fun _ => ?_)
    refine WR.nextA (vs := [.i (lens (ls.take (i + 1))), .i ((i + 1 : Nat) : Int)]) ?_ ⟨h, rfl, trivial⟩
    show [V.i (IntKind.i64.wrap ((lens (ls.take i) : Int) + ((dF x).length : Int))), V.i (IntKind.i64.wrap ((i : Int) + 1))] = _
    rw [wS h (by omega), hw]
  · refine WR.esc ?_
    refine WR.ev (ev_grow (lens (ls.take i)) (by omega) (by omega)) rfl rfl rfl ?_
    simp only [sCA, sNA]
    refine WR.forP ls.length (fun j => [.l (dF (ls.take j).flatten), .i j]) (fun _ => True) rfl rfl trivial fun j hj _ => ?_
    simp only [sCA, sNA]
    refine WR.iteLen j (dFF_len ls) rfl (fun h => ?_) (fun h => ?_)
    · obtain ⟨x, hx, hm⟩ := some_at h
      have hxl := h1 x hm
      have hlj := hle j
      refine WR.idxN j (map_at (f := fun l => .s (dF l)) hx) rfl rfl rfl rfl ?_
      refine WR.chkN (dF x) 1000 (by rw [dF_len]; exact hxl) (by omega) rfl ?_
      refine WR.head (head_dF x) ?_
      refine WR.chkN (dF (ls.take j).flatten ++ dF x) 2000000 (by rw [List.length_append, dF_len, dF_len, lens_flat]; omega) (by omega) rfl ?_
      refine WR.nextA (vs := [.l (dF (ls.take (j + 1)).flatten), .i ((j + 1 : Nat) : Int)]) ?_ ⟨h, rfl, trivial⟩
      show [V.l (dF (ls.take j).flatten ++ dF x), V.i (IntKind.i64.wrap ((j : Int) + 1))] = _
      rw [wS h (by omega), dF_app, take_succ hx]; simp
    · refine WR.esc (WR.done ?_)
      show [D.s (dF (ls.take j).flatten)] = _
      rw [take_all h]
end Go.Proofs.YtdibnlhlngodeaaGreatDoor

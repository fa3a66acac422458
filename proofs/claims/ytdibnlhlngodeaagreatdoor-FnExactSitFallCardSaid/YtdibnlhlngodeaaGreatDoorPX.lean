import Derived.Test.YtdibnlhlngodeaaGreatDoorPV
import Derived.Test.YtdibnlhlngodeaaGreatDoorTd
set_option linter.unusedVariables false
set_option linter.unusedSimpArgs false
/- What a site does alone: over residual programs. -/
namespace Go.Proofs.YtdibnlhlngodeaaGreatDoor
open Go Go.Tm
theorem WR.cp {l : List V} {Q : Oc → Prop} {r : R} {c : Nat} {N : Int} (x : List Int) (hx : x.length ≤ 1000) (hN : 1000 ≤ N) (he : lst (envL l) (.v c) = dL x) (h : WR L r l Q) :
    WR L (.i (.chk (.cmp .le (.len (.v c)) (.z N))) (.i (.head 1 (.v c)) (.i (.chk (.cmp .le (.len (.app .nil (.v c))) (.z N))) r))) l Q :=
  WR.chkN (dL x) 1000 (by rw [dL_len]; omega) hN he (WR.head (by rw [he]; exact head_dL x) (WR.chkN (dL x) 1000 (by rw [dL_len]; omega) hN he h))
theorem still_step {pins : List Bool} {a : List Int} {i : Nat} {x : Int} {b : Bool} (hx : a[i]? = some x) (hb : pins[i]? = some b) : (a.zip pins)[i]? = some (x, b) := by
  rw [List.getElem?_zip_eq_some]; exact ⟨hx, hb⟩
theorem ev_unpinned (as : List (List Line)) (ps : List (List Int)) (pins : List Bool) (a : List Int) (hp : pins.length = 3) (ha : a.length = 3) : Ev L f_k3a [.s (dActs as), .s (dLL ps), .s (dBl pins), .s (dL a)] [dB (stillM pins a)] := by
  refine Ev.eq (vs := [.l (dActs as), .l (dLL ps), .l (dBl pins), .l (dL a)]) L_k3a rfl ?_
  refine WR.forP a.length (fun i => [.i i]) (fun i => ((a.zip pins).take i).all (fun q => !(q.2 && !decide (q.1 = 0))) = true) rfl rfl rfl fun i hi hq => ?_
  simp only [sCA, sNA]
  refine WR.iteLen i (dL_len a) rfl (fun h => ?_) (fun h => ?_)
  · obtain ⟨x, hx, _⟩ := some_at h
    obtain ⟨b, hb, _⟩ := some_at (show i < pins.length by omega)
    have hz := still_step hx hb
    refine WR.idxN i (map_at (f := dI) hx) rfl rfl rfl rfl ?_
    refine WR.iteN (decide (x = 0)) rfl (fun h0 => ?_) (fun h0 => ?_)
    · refine WR.idxN i (map_at (f := dB) hb) rfl rfl rfl rfl ?_
      refine WR.iteB b rfl (fun hb1 => WR.esc (WR.done ?_)) (fun hb1 => ?_)
      · show [dB false] = _
        unfold stillM
        rw [all_not hz (by simp only [h0, hb1]; rfl)]
      · refine WR.nextA (vs := [.i ((i + 1 : Nat) : Int)]) ?_ ⟨h, rfl, all_take hz hq (by simp only [hb1]; rfl)⟩
        show [V.i (IntKind.i64.wrap ((i : Int) + 1))] = _
        rw [wS h (by omega)]
    · refine WR.nextA (vs := [.i ((i + 1 : Nat) : Int)]) ?_ ⟨h, rfl, all_take hz hq (by simp only [h0]; simp)⟩
      show [V.i (IntKind.i64.wrap ((i : Int) + 1))] = _
      rw [wS h (by omega)]
  · refine WR.esc (WR.done ?_)
    rw [List.take_of_length_le (by simp; omega)] at hq
    unfold stillM
    rw [hq]; rfl
theorem ev_l5Still (pins : List Bool) (a : List Int) (hp : pins.length = 3) (ha : a.length = 3) : Ev L f_k1c [.s (dBl pins), .s (dL a)] [dB (stillM pins a)] := by
  refine Ev.eq (vs := [.l (dBl pins), .l (dL a)]) L_k1c rfl ?_
  refine WR.forP 3 (fun i => [.i i]) (fun i => ((a.zip pins).take i).all (fun q => !(q.2 && !decide (q.1 = 0))) = true) rfl rfl rfl fun i hi hq => ?_
  simp only [sCA, sNA]
  refine WR.iteLt i 3 rfl (fun h => ?_) (fun h => ?_)
  · obtain ⟨x, hx, _⟩ := some_at (show i < a.length by omega)
    obtain ⟨b, hb, _⟩ := some_at (show i < pins.length by omega)
    have hz := still_step hx hb
    refine WR.idxN i (map_at (f := dB) hb) rfl rfl rfl rfl ?_
    refine WR.iteB b rfl (fun hb1 => ?_) (fun hb1 => ?_)
    · refine WR.idxN i (map_at (f := dI) hx) rfl rfl rfl rfl ?_
      refine WR.iteN (decide (x = 0)) rfl (fun h0 => WR.esc (WR.done ?_)) (fun h0 => ?_)
      · show [dB false] = _
        unfold stillM
        rw [all_not hz (by simp only [h0, hb1]; rfl)]
      · refine WR.nextA (vs := [.i ((i + 1 : Nat) : Int)]) ?_ ⟨h, rfl, all_take hz hq (by simp only [h0]; simp)⟩
        show [V.i (IntKind.i64.wrap ((i : Int) + 1))] = _
        rw [wS h (by omega)]
    · refine WR.nextA (vs := [.i ((i + 1 : Nat) : Int)]) ?_ ⟨h, rfl, all_take hz hq (by simp only [hb1]; rfl)⟩
      show [V.i (IntKind.i64.wrap ((i : Int) + 1))] = _
      rw [wS h (by omega)]
  · refine WR.esc (WR.done ?_)
    rw [List.take_of_length_le (by simp; omega)] at hq
    unfold stillM
    rw [hq]; rfl
theorem ev_rulesOf (as : List (List Line)) (hf : fitActs as) : Ev L f_k30 [.s (dActs as)] [.s (dActs as), .s (dLL (catForms as)), .s (dBl (catPins as))] := by
  refine Ev.eq (vs := [.l (dActs as)]) L_k30 rfl ?_
  refine WR.ev (ev_iForms as hf) rfl rfl rfl ?_
  refine WR.ev (ev_iPins as hf) rfl rfl rfl (WR.done rfl)
theorem keeps_len {b g : List Int} {ps : List (List Int)} {s : Int} {a : List Int} (h : keeps b g ps s a = true) : a.length = 3 := (fine_in (keeps_fineM h)).2.2.2.2.2.1.1
theorem ev_keepsR (as : List (List Line)) (ps : List (List Int)) (pins : List Bool) (b g : List Int) (s : Int) (a : List Int) (hpi : pins.length = 3) (hb : b.length ≤ 2000000) (hg : g.length ≤ 2000000) (hp : fitLL ps) (ha : a.length ≤ 2000000) :
    Ev L f_k3b [.s (dActs as), .s (dLL ps), .s (dBl pins), .s (dL b), .s (dL g), dI s, .s (dL a)] [dB (keeps b g ps s a && stillM pins a)] := by
  refine Ev.eq (vs := [.l (dActs as), .l (dLL ps), .l (dBl pins), .l (dL b), .l (dL g), .i s, .l (dL a)]) L_k3b rfl ?_
  refine WR.ev (ev_TrtKeeps b g ps s a hb hg hp ha) rfl rfl rfl ?_
  refine WR.iteB (keeps b g ps s a) rfl (fun h => ?_) (fun h => WR.done ?_)
  · refine WR.ev (ev_unpinned as ps pins a hpi (keeps_len h)) rfl rfl rfl (WR.done ?_)
    rw [h]; rfl
  · rw [h]; rfl
end Go.Proofs.YtdibnlhlngodeaaGreatDoor

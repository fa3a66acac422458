import Derived.Test.YtdibnlhlngodeaaGreatDoorR
import Derived.Test.YtdibnlhlngodeaaGreatDoorTd
set_option linter.unusedVariables false
set_option linter.unusedSimpArgs false
/- What the draws come to: a reader's picks, and what is drawn by them. -/
namespace Go.Proofs.YtdibnlhlngodeaaGreatDoor
open Go Go.Tm
structure Rdr (bs : List Int) (p : Int) : Prop where
  byte : ∀ x ∈ bs, 0 ≤ x ∧ x < 256
  len : bs.length ≤ 2000
  pos : 0 ≤ p
  far : p ≤ 1000000000000
theorem ev_pick {bs : List Int} {p n : Int} (hr : Rdr bs p) (hn : n ≤ 2000000) :
    ∃ v, Ev L f_k1 [.s (bytesD bs), dI p, dI n] [dI v, .s (bytesD bs), dI (p + 1)] ∧ (n < 1 → v = 0) ∧ (1 ≤ n → 0 ≤ v ∧ v < n) := by
  have hp := hr.pos
  have hf := hr.far
  have hl := hr.len
  have w1 : IntKind.i64.wrap (p + 1) = p + 1 := w64 (by omega) (by omega)
  have w2 : IntKind.i64.wrap (p + 1 - 1) = p := by rw [w64 (by omega) (by omega)]; omega
  have key : ∃ ds, Ev L f_k1 [.s (bytesD bs), dI p, dI n] ds ∧ ∃ v, ds = [dI v, .s (bytesD bs), dI (p + 1)] ∧ (n < 1 → v = 0) ∧ (1 ≤ n → 0 ≤ v ∧ v < n) := by
    refine Ev.of (vs := [.l (bytesD bs), .i p, .i n]) L_k1 rfl ?_
    have hend : ∀ v : Int, [dI v, .s (bytesD bs), dI (IntKind.i64.wrap (p + 1))] = [dI v, .s (bytesD bs), dI (p + 1)] := fun v => by rw [w1]
    refine WR.iteP (n < 1) rfl (fun h => WR.done ⟨0, hend 0, fun _ => rfl, fun h' => by omega⟩) (fun h => ?_)
    refine WR.iteP (((bytesD bs).length : Int) = 0) rfl (fun h' => WR.done ⟨0, hend 0, fun _ => rfl, fun h' => by omega⟩) (fun h0 => ?_)
    rw [bytesD_len] at h0
    refine WR.iteP (IntKind.i64.wrap (IntKind.i64.wrap (p + 1) - 1) < ((bytesD bs).length : Int)) rfl (fun h1 => ?_) (fun h1 => ?_)
    · rw [w1, w2, bytesD_len] at h1
      have hb := getD_in hr.byte (show p.toNat < bs.length by omega)
      refine WR.idxA (ds := bytesD bs) p rfl rfl (show IntKind.i64.wrap (IntKind.i64.wrap (p + 1) - 1) = p by rw [w1, w2]) hp (bytesD_get hp h1) rfl ?_
      refine WR.chkP (¬ n = 0) (by simp [bol, den, V.bool, V.int, CO.sem, envL]) (by omega) ?_
      refine WR.done ⟨(IntKind.i64.wrap (bs.getD p.toNat 0)).tmod n, hend _, fun h' => absurd h' h, fun h' => ?_⟩
      rw [w64 (by omega) (by omega), Int.tmod_eq_emod_of_nonneg hb.1]
      exact ⟨Int.emod_nonneg _ (by omega), Int.emod_lt_of_pos _ (by omega)⟩
    · have hw : IntKind.i64.wrap (IntKind.i64.wrap (p + 1) - 1) = p := by rw [w1, w2]
      have hlp : 0 < (bs.length : Int) := by omega
      have hm1 : 0 ≤ p.tmod bs.length ∧ p.tmod bs.length < bs.length := by
        rw [Int.tmod_eq_emod_of_nonneg hp]; exact ⟨Int.emod_nonneg _ (by omega), Int.emod_lt_of_pos _ hlp⟩
      have hq : 0 ≤ IntKind.i64.wrap (IntKind.i64.wrap (p * 7) + 3) := by rw [w64 (n := p * 7) (by omega) (by omega), w64 (by omega) (by omega)]; omega
      have hm2 : 0 ≤ (IntKind.i64.wrap (IntKind.i64.wrap (p * 7) + 3)).tmod bs.length ∧ (IntKind.i64.wrap (IntKind.i64.wrap (p * 7) + 3)).tmod bs.length < bs.length := by
        rw [Int.tmod_eq_emod_of_nonneg hq]; exact ⟨Int.emod_nonneg _ (by omega), Int.emod_lt_of_pos _ hlp⟩
      have hb1 := getD_in hr.byte (show (p.tmod bs.length).toNat < bs.length by omega)
      have hb2 := getD_in hr.byte (show ((IntKind.i64.wrap (IntKind.i64.wrap (p * 7) + 3)).tmod bs.length).toNat < bs.length by omega)
      have c0 : ∀ (l : List V), bol (envL ((.l (bytesD bs) :: l))) (.not (.cmp .eq (.len (.v 0)) (.z 0))) = decide (¬ ((bytesD bs).length : Int) = 0) := by
        intro l; simp [bol, den, V.bool, V.int, CO.sem, envL, V.lst]
      refine WR.chkP (¬ ((bytesD bs).length : Int) = 0) (c0 _) (by rw [bytesD_len]; exact h0) ?_
      refine WR.idxA (ds := bytesD bs) (p.tmod bs.length) rfl rfl ?_ hm1.1 (bytesD_get hm1.1 hm1.2) rfl ?_
      · show (IntKind.i64.wrap (IntKind.i64.wrap (p + 1) - 1)).tmod ((bytesD bs).length : Int) = _
        rw [hw, bytesD_len]
      refine WR.chkP (¬ ((bytesD bs).length : Int) = 0) (c0 _) (by rw [bytesD_len]; exact h0) ?_
      refine WR.idxA (ds := bytesD bs) ((IntKind.i64.wrap (IntKind.i64.wrap (p * 7) + 3)).tmod bs.length) rfl rfl ?_ hm2.1 (bytesD_get hm2.1 hm2.2) rfl ?_
      · show (IntKind.i64.wrap (IntKind.i64.wrap (IntKind.i64.wrap (IntKind.i64.wrap (p + 1) - 1) * 7) + 3)).tmod ((bytesD bs).length : Int) = _
        rw [hw, bytesD_len]
      refine WR.chkP (¬ ((bytesD bs).length : Int) = 0) (c0 _) (by rw [bytesD_len]; exact h0) ?_
      refine WR.chkP (¬ (64 : Int) = 0) (by simp [bol, den, V.bool, V.int, CO.sem]) (by omega) ?_
      refine WR.chkP (¬ n = 0) (by simp [bol, den, V.bool, V.int, CO.sem, envL]) (by omega) ?_
      refine WR.done ⟨_, hend _, fun h' => absurd h' h, fun h' => ?_⟩
      generalize bs.getD (p.tmod bs.length).toNat 0 = b1 at *
      generalize bs.getD ((IntKind.i64.wrap (IntKind.i64.wrap (p * 7) + 3)).tmod bs.length).toNat 0 = b2 at *
      have hd : 0 ≤ p.tdiv bs.length ∧ p.tdiv bs.length ≤ p := by
        rw [Int.tdiv_eq_ediv_of_nonneg hp]
        exact ⟨Int.ediv_nonneg hp (by omega), Int.ediv_le_self _ hp⟩
      have e1 : IntKind.i64.wrap b1 = b1 := w64 (by omega) (by omega)
      have e2 : IntKind.i64.wrap b2 = b2 := w64 (by omega) (by omega)
      have hx : ∃ x : Int, IntKind.i64.wrap (IntKind.i64.wrap (IntKind.i64.wrap (IntKind.i64.wrap (IntKind.i64.wrap b1 * 131) + IntKind.i64.wrap (IntKind.i64.wrap b2 * 1117)) + IntKind.i64.wrap (IntKind.i64.wrap (IntKind.i64.wrap (p + 1) - 1) * 29)) + IntKind.i64.wrap (IntKind.i64.wrap ((IntKind.i64.wrap (IntKind.i64.wrap (p + 1) - 1)).tdiv ((bytesD bs).length : Int)) * 53)) = x ∧ 0 ≤ x ∧ x < 2 ^ 62 := by
        rw [hw, bytesD_len, e1, e2, w64 (n := p.tdiv bs.length) (by omega) (by omega), w64 (n := b1 * 131) (by omega) (by omega), w64 (n := b2 * 1117) (by omega) (by omega), w64 (n := p * 29) (by omega) (by omega), w64 (n := p.tdiv bs.length * 53) (by omega) (by omega),
          w64 (n := b1 * 131 + b2 * 1117) (by omega) (by omega), w64 (n := b1 * 131 + b2 * 1117 + p * 29) (by omega) (by omega), w64 (by omega) (by omega)]
        exact ⟨_, rfl, by omega, by omega⟩
      obtain ⟨x, ex, hx0, hx1⟩ := hx
      have main : ∀ z : Int, z = x → 0 ≤ (BO.sem .xor .i64 z (IntKind.i64.wrap (z.tdiv 64))).tmod n ∧ (BO.sem .xor .i64 z (IntKind.i64.wrap (z.tdiv 64))).tmod n < n := by
        rintro z rfl
        have hd64 : 0 ≤ z.tdiv 64 ∧ z.tdiv 64 ≤ z := by
          rw [Int.tdiv_eq_ediv_of_nonneg hx0]; omega
        rw [w64 (n := z.tdiv 64) (by omega) (by omega)]
        have := xor_range ⟨hx0, hx1⟩ (show 0 ≤ z.tdiv 64 ∧ z.tdiv 64 < 2 ^ 62 by omega)
        rw [Int.tmod_eq_emod_of_nonneg this.1]
        exact ⟨Int.emod_nonneg _ (by omega), Int.emod_lt_of_pos _ (by omega)⟩
      exact main _ ex
  obtain ⟨ds, h1, v, rfl, h2⟩ := key
  exact ⟨v, h1, h2⟩
end Go.Proofs.YtdibnlhlngodeaaGreatDoor

import Derived.Test.YtdibnlhlngodeaaGreatDoorPG
import Derived.Test.YtdibnlhlngodeaaGreatDoorTd
set_option linter.unusedVariables false
set_option linter.unusedSimpArgs false
/- What the reference's ways through an act come to. -/
namespace Go.Proofs.YtdibnlhlngodeaaGreatDoor
open Go Go.Tm
theorem getD_mem {l : List Frm} {i : Nat} (h : i < l.length) : l.getD i Frm.none ∈ l ∧ l[i]? = some (l.getD i Frm.none) := by
  rw [List.getD_eq_getElem?_getD, List.getElem?_eq_getElem h]
  exact ⟨List.getElem_mem h, rfl⟩
def addsOf (p : List Frm) : List Frm := [sumF (p.getD 0 Frm.none) (potF 0) (-1), sumF (p.getD 1 Frm.none) (potF 1) (-1), sumF (p.getD 2 Frm.none) (potF 2) (-1)]
theorem ev_l3Row {p g t : List Frm} {M : Int} (hp : p.length = 3) (sp : ∀ f ∈ p, Std M f) (hg : g.length ≤ 2000000) (sg : ∀ f ∈ g, Std M f) (ht : t.length ≤ 2000000) (st : ∀ f ∈ t, Std M f) (h0 : 1 ≤ M) (hM : M ≤ 1000000000) :
    Ev L f_k12 [.s (dF p), .s (dF g), .s (dF t)] (rowEnd p g t).cells := by
  refine Ev.eq (vs := [.l (dF p), .l (dF g), .l (dF t)]) L_k12 rfl ?_
  refine WR.callA (args := [.s (dF g)]) rfl rfl (ev_l3Copy hg sg (by omega) hM) rfl ?_
  refine WR.callA (args := [.s (dF t)]) rfl rfl (ev_l3Copy ht st (by omega) hM) rfl ?_
  refine WR.loop (fun m vs => ∃ i : Nat, i ≤ 3 ∧ m = 3 - i ∧ vs = [.l (dF ((addsOf p).take i)), .i i]) rfl 3 ⟨0, by omega, rfl, rfl⟩ ?_
  rintro m _ ⟨i, hi, hm, rfl⟩
  refine WR.iteP ((i : Int) < 3) rfl (fun h => ?_) (fun h => ?_)
  · obtain ⟨x, hx, hd⟩ := dF_get (l := p) (i := (i : Int)) (by omega) (by omega)
    have hsx := sp x (List.mem_of_getElem? hx)
    refine WR.idxA (ds := dF p) i rfl rfl rfl (by omega) hd rfl ?_
    refine WR.callA (args := [dI i]) rfl rfl (ev_FrmPot i (by omega) (by omega)) rfl ?_
    rw [Int.toNat_natCast] at hx
    refine WR.callA (args := x.cells ++ (potF (i : Int).toNat).cells ++ [dI (-1)]) rfl rfl (ev_l1Sum hsx (potF_std.mono h0) hM (by omega)) rfl ?_
    have hn : (addsOf p)[i]? = some (sumF x (potF (i : Int).toNat) (-1)) := by
      have e : p.getD i Frm.none = x := by rw [List.getD_eq_getElem?_getD, hx]; rfl
      subst e
      rw [Int.toNat_natCast]
      match i, h with
      | 0, _ => rfl
      | 1, _ => rfl
      | 2, _ => rfl
      | n + 3, h => omega
    refine WR.chkLen (dF ((addsOf p).take i) ++ [(sumF x (potF (i : Int).toNat) (-1)).g]) rfl (by rw [dF_snoc, dF_len]; simp; omega) ?_
    refine WR.nextA (vs := [.l (dF ((addsOf p).take (i + 1))), .i ((i + 1 : Nat) : Int)]) ?_ ⟨m - 1, by omega, i + 1, by omega, by omega, rfl⟩
    show [V.l (dF ((addsOf p).take i) ++ [(sumF x (potF (i : Int).toNat) (-1)).g]), V.i (IntKind.i64.wrap ((i : Int) + 1))] = _
    rw [dF_snoc, take_succ hn, w64 (by omega) (by omega)]; rfl
  · refine WR.esc (WR.done ?_)
    have hi3 : i = 3 := by omega
    subst hi3; rfl
structure Good (act : List Line) : Prop where
  len : act.length ≤ 6
  ok : ∀ l ∈ act, l.ok = true
theorem actOk_good {act : List Line} (h : actOk act = true) : Good act := by
  simp only [actOk, Bool.and_eq_true, decide_eq_true_eq, List.all_eq_true] at h
  exact ⟨by omega, h.1.1⟩
theorem ok_small {l : Line} (h : l.ok = true) (h4 : ¬ l.kind = 4) : l.f.small = true := by
  unfold Line.ok at h
  split at h
  · simp only [Bool.and_eq_true] at h; exact h.2
  split at h
  · simp only [Bool.and_eq_true] at h; exact h.2
  split at h
  · simp only [Bool.and_eq_true] at h; exact h.2
  · simp [h4] at h
theorem ok_pot {l : Line} (h : l.ok = true) (h2 : l.kind = 2) : 0 ≤ l.pot ∧ l.pot ≤ 2 := by
  unfold Line.ok at h
  rw [if_neg (by omega), if_pos h2] at h
  simp only [Bool.and_eq_true, inB_iff] at h; exact h.1.1
theorem ok_skip {l : Line} (h : l.ok = true) (h1 : l.kind = 1) : 1 ≤ l.skip ∧ l.skip ≤ 6 := by
  unfold Line.ok at h
  rw [if_pos h1] at h
  simp only [Bool.and_eq_true, inB_iff] at h; exact h.1.2
theorem drop_cons {α : Type} {l : List α} {i : Nat} {x : α} (h : l[i]? = some x) : l.drop i = x :: l.drop (i + 1) := by
  obtain ⟨h1, h2⟩ := List.getElem?_eq_some_iff.1 h
  rw [List.drop_eq_getElem_cons h1, h2]
theorem mem_snoc {α : Type} {l : List α} {x : α} {p : α → Prop} (h : ∀ y ∈ l, p y) (hx : p x) : ∀ y ∈ l ++ [x], p y := by
  intro y hy
  rcases List.mem_append.1 hy with hy | hy
  · exact h y hy
  · simp at hy; subst hy; exact hx
theorem dRows_app (a b : List Row) : dRows a ++ dRows b = dRows (a ++ b) := by simp [dRows]
set_option maxHeartbeats 4000000 in
theorem ev_l3Walk {act : List Line} (hact : Good act) : ∀ (n : Nat) (at_ : Int) (p g t : List Frm) (j : Nat), 0 ≤ at_ → at_ ≤ 20 → act.length - at_.toNat = n → (j : Int) ≤ at_ → j ≤ 6 →
    p.length = 3 → (∀ f ∈ p, Std (Bd j) f) → g.length ≤ j → (∀ f ∈ g, Std 10000000 f) → t.length ≤ j → (∀ f ∈ t, Std 10000000 f) →
    Ev L f_k13 [.s (dAct act), dI at_, .s (dF p), .s (dF g), .s (dF t)] [.s (dRows (walk (act.drop at_.toNat) p g t))] := by
  intro n
  induction n using Nat.strongRecOn with
  | _ n ih =>
    intro at_ p g t j a0 a20 hn hj hj6 hp sp hg sg ht st
    have hal := hact.len
    refine Ev.eq (vs := [.l (dAct act), .i at_, .l (dF p), .l (dF g), .l (dF t)]) L_k13 rfl ?_
    refine WR.loop (fun m vs => ∃ (i : Int) (p' t' : List Frm) (j' : Nat), vs = [.l (dF p'), .l (dF t'), .i i] ∧ at_ ≤ i ∧ i ≤ 20 ∧ m = act.length - i.toNat ∧ (j' : Int) ≤ i ∧ j ≤ j' ∧ j' ≤ 6 ∧ p'.length = 3 ∧ (∀ f ∈ p', Std (Bd j') f) ∧ t'.length ≤ j' ∧ (∀ f ∈ t', Std 10000000 f) ∧
      walk (act.drop i.toNat) p' g t' = walk (act.drop at_.toNat) p g t) rfl (act.length - at_.toNat) ⟨at_, p, t, j, rfl, by omega, a20, rfl, hj, by omega, hj6, hp, sp, ht, st, rfl⟩ ?_
    rintro m _ ⟨i, p', t', j', rfl, ai, i20, hm, hj', hjj, hj6', hp', sp', ht', st', hw⟩
    have hB := Bd_le hj6'
    have hB0 := Bd_nonneg j'
    refine WR.iteP (i < ((dAct act).length : Int)) rfl (fun hi => ?_) (fun hi => ?_)
    · rw [dAct_len] at hi
      obtain ⟨l, hl, hd⟩ := dAct_get (a := act) (i := i) (by omega) hi
      have hok := hact.ok l (List.mem_of_getElem? hl)
      have hdr := drop_cons hl
      have hs1 : (i + 1).toNat = i.toNat + 1 := by omega
      refine WR.idxA (ds := dAct act) i rfl rfl rfl (by omega) hd rfl ?_
      refine WR.iteP (l.kind = 4) rfl (fun h4 => ?_) (fun h4 => ?_)
      · refine WR.callA (args := [.s (dF g)]) rfl rfl (ev_l3Copy (by omega) sg (by omega) (by omega)) rfl ?_
        refine WR.esc (WR.done ?_)
        show [D.s [D.g [.s (dF g), .s [], .s [], dB true]]] = _
        rw [← hw, hdr, walk, if_pos h4]; rfl
      have hsm := ok_small hok h4
      have hin := into_std hsm hp' sp' hB0
      have hin7 : Std 10000000 (intoF l.f p') := hin.mono (by omega)
      refine WR.callA (args := l.f.cells ++ [.s (dF p')]) rfl rfl (ev_FrmInto hsm hp' sp' hB0 (by omega)) rfl ?_
      have hj5 : j' < 6 := by omega
      refine WR.iteP (l.kind = 1) rfl (fun h1 => ?_) (fun h1 => ?_)
      · have hsk := ok_skip hok h1
        have hg' : (g ++ [intoF l.f p']).length ≤ j' + 1 := by simp; omega
        have hg2 : (g ++ [minusF (intoF l.f p')]).length ≤ j' + 1 := by simp; omega
        have hmin : Std 10000000 (minusF (intoF l.f p')) := (minusF_std hin).mono (by omega)
        have spB : ∀ f ∈ p', Std (Bd (j' + 1)) f := fun f hf => (sp' f hf).mono (Bd_mono (by omega))
        have cp := ev_l3Copy (by omega : p'.length ≤ 2000000) sp' hB0 (by omega)
        have cg := ev_l3Copy (by omega : g.length ≤ 2000000) sg (by omega) (by omega)
        have ct := ev_l3Copy (by omega : t'.length ≤ 2000000) st' (by omega) (by omega)
        refine WR.callA (args := [.s (dF p')]) rfl rfl cp rfl ?_
        refine WR.callA (args := [.s (dF g)]) rfl rfl cg rfl ?_
        refine WR.chkLen (dF g ++ [(intoF l.f p').g]) rfl (by rw [dF_snoc, dF_len]; omega) ?_
        refine WR.callA (args := [.s (dF t')]) rfl rfl ct rfl ?_
        have e1 := ih (act.length - (i + 1).toNat) (by omega) (i + 1) p' (g ++ [intoF l.f p']) t' (j' + 1) (by omega) (by omega) rfl (by omega) (by omega) hp' spB hg' (mem_snoc sg hin7) (by omega) st'
        refine WR.callA (args := [.s (dAct act), dI (i + 1), .s (dF p'), .s (dF (g ++ [intoF l.f p'])), .s (dF t')]) rfl ?_ e1 rfl ?_
        · show [D.s (dAct act), dI (IntKind.i64.wrap (i + 1)), .s (dF p'), .s (dF g ++ [(intoF l.f p').g]), .s (dF t')] = _
          rw [dF_snoc, w64 (by omega) (by omega)]
        refine WR.callA (args := [.s (dF p')]) rfl rfl cp rfl ?_
        refine WR.callA (args := [.s (dF g)]) rfl rfl cg rfl ?_
        refine WR.callA (args := (intoF l.f p').cells) rfl rfl (ev_l3Minus hin7 (by omega) (by omega)) rfl ?_
        refine WR.chkLen (dF g ++ [(minusF (intoF l.f p')).g]) rfl (by rw [dF_snoc, dF_len]; omega) ?_
        refine WR.callA (args := [.s (dF t')]) rfl rfl ct rfl ?_
        have e2 := ih (act.length - (i + 1 + l.skip).toNat) (by omega) (i + 1 + l.skip) p' (g ++ [minusF (intoF l.f p')]) t' (j' + 1) (by omega) (by omega) rfl (by omega) (by omega) hp' spB hg2 (mem_snoc sg hmin) (by omega) st'
        refine WR.callA (args := [.s (dAct act), dI (i + 1 + l.skip), .s (dF p'), .s (dF (g ++ [minusF (intoF l.f p')])), .s (dF t')]) rfl ?_ e2 rfl ?_
        · show [D.s (dAct act), dI (IntKind.i64.wrap (IntKind.i64.wrap (i + 1) + l.skip)), .s (dF p'), .s (dF g ++ [(minusF (intoF l.f p')).g]), .s (dF t')] = _
          rw [dF_snoc, w64 (n := i + 1) (by omega) (by omega), w64 (by omega) (by omega)]
        have wl : ∀ (k : Nat) (a b c : List Frm), (walk (act.drop k) a b c).length ≤ 64 := fun k a b c => by
          refine Nat.le_trans (walk_len _ _ _ _) ?_
          exact Nat.le_trans (Nat.pow_le_pow_right (by omega) (show (act.drop k).length ≤ 6 by simp; omega)) (by decide)
        have w1 := wl (i + 1).toNat p' (g ++ [intoF l.f p']) t'
        have w2 := wl (i + 1 + l.skip).toNat p' (g ++ [minusF (intoF l.f p')]) t'
        refine WR.chkLen (dRows (walk (act.drop (i + 1 + l.skip).toNat) p' (g ++ [minusF (intoF l.f p')]) t')) rfl (by rw [dRows_len]; omega) ?_
        refine WR.head (head_rows _) ?_
        refine WR.chkLen (dRows (walk (act.drop (i + 1).toNat) p' (g ++ [intoF l.f p']) t') ++ dRows (walk (act.drop (i + 1 + l.skip).toNat) p' (g ++ [minusF (intoF l.f p')]) t')) rfl (by rw [List.length_append, dRows_len, dRows_len]; omega) ?_
        refine WR.esc (WR.done ?_)
        show [D.s (dRows (walk (act.drop (i + 1).toNat) p' (g ++ [intoF l.f p']) t') ++ dRows (walk (act.drop (i + 1 + l.skip).toNat) p' (g ++ [minusF (intoF l.f p')]) t'))] = _
        rw [dRows_app, ← hw, hdr, walk, if_neg h4, if_pos h1, List.drop_drop, hs1, show i.toNat + 1 + l.skip.toNat = (i + 1 + l.skip).toNat by omega]
      refine WR.iteP (l.kind = 2) rfl (fun h2 => ?_) (fun h2 => ?_)
      · have hpt := ok_pot hok h2
        have hlt : l.pot.toNat < p'.length := by omega
        obtain ⟨hm1, hm2⟩ := getD_mem hlt
        have hdg : (dF p')[l.pot.toNat]? = some (p'.getD l.pot.toNat Frm.none).g := map_at (f := Frm.g) hm2
        refine WR.callA (args := [.s (dF p')]) rfl rfl (ev_l3Copy (by omega) sp' hB0 (by omega)) rfl ?_
        refine WR.chkP (0 ≤ l.pot) rfl hpt.1 ?_
        refine WR.chkP (l.pot < ((dF p').length : Int)) rfl (by rw [dF_len]; omega) ?_
        refine WR.idxA (ds := dF p') l.pot rfl rfl rfl hpt.1 hdg rfl ?_
        refine WR.callA (args := (p'.getD l.pot.toNat Frm.none).cells ++ (intoF l.f p').cells ++ [dI 1]) rfl rfl (ev_l1Sum ((sp' _ hm1).mono (by omega)) hin7 (by omega) (by omega)) rfl ?_
        refine WR.chkP (0 ≤ l.pot) rfl hpt.1 ?_
        refine WR.chkP (l.pot < ((dF p').length : Int)) rfl (by rw [dF_len]; omega) ?_
        refine WR.idxA (ds := dF p') l.pot rfl rfl rfl hpt.1 hdg rfl ?_
        have hsum : Std (Bd (j' + 1)) (sumF (p'.getD l.pot.toNat Frm.none) (intoF l.f p') 1) := (sumF_std (sp' _ hm1) hin (n := 1) (N := 1) (by omega)).mono (by simp only [Bd]; omega)
        refine WR.nextA (vs := [.l (dF (p'.set l.pot.toNat (sumF (p'.getD l.pot.toNat Frm.none) (intoF l.f p') 1))), .l (dF t'), .i (i + 1)]) ?_
          ⟨act.length - (i + 1).toNat, by omega, i + 1, p'.set l.pot.toNat (sumF (p'.getD l.pot.toNat Frm.none) (intoF l.f p') 1), t', j' + 1, rfl, by omega, by omega, rfl, by omega, by omega, by omega, by simp [hp'], ?_, by omega, st', ?_⟩
        · show [V.l ((dF p').set l.pot.toNat (sumF (p'.getD l.pot.toNat Frm.none) (intoF l.f p') 1).g), V.l (dF t'), V.i (IntKind.i64.wrap (i + 1))] = _
          rw [w64 (by omega) (by omega)]
          simp [dF, List.map_set]
        · intro f hf
          rcases List.mem_or_eq_of_mem_set hf with hf | hf
          · exact (sp' f hf).mono (Bd_mono (by omega))
          · subst hf; exact hsum
        · rw [← hw, hdr, hs1]; conv => rhs; rw [walk]
          rw [if_neg h4, if_neg h1, if_pos h2]
      · refine WR.callA (args := [.s (dF t')]) rfl rfl (ev_l3Copy (by omega) st' (by omega) (by omega)) rfl ?_
        refine WR.chkLen (dF t' ++ [(intoF l.f p').g]) rfl (by rw [dF_snoc, dF_len, List.length_append, List.length_singleton]; omega) ?_
        refine WR.nextA (vs := [.l (dF p'), .l (dF (t' ++ [intoF l.f p'])), .i (i + 1)]) ?_
          ⟨act.length - (i + 1).toNat, by omega, i + 1, p', t' ++ [intoF l.f p'], j' + 1, rfl, by omega, by omega, rfl, by omega, by omega, by omega, hp', fun f hf => (sp' f hf).mono (Bd_mono (by omega)), by simp; omega, mem_snoc st' hin7, ?_⟩
        · show [V.l (dF p'), V.l (dF t' ++ [(intoF l.f p').g]), V.i (IntKind.i64.wrap (i + 1))] = _
          rw [dF_snoc, w64 (by omega) (by omega)]
        · rw [← hw, hdr, hs1]; conv => rhs; rw [walk]
          rw [if_neg h4, if_neg h1, if_neg h2]
    · rw [dAct_len] at hi
      refine WR.esc ?_
      refine WR.callA (args := [.s (dF p'), .s (dF g), .s (dF t')]) rfl rfl (ev_l3Row (M := 10000000) hp' (fun f hf => (sp' f hf).mono (by omega)) (by omega) sg (by omega) st' (by omega) (by omega)) rfl ?_
      refine WR.done ?_
      show [D.s [(rowEnd p' g t').g]] = _
      rw [← hw, List.drop_eq_nil_of_le (by omega), walk]; rfl
theorem ev_RowsOf (act : List Line) (hf : fitAct act) : Ev L f_k14 [.s (dAct act)] [.s (dRows (rowsOf act))] := by
  refine Ev.eq (vs := [.l (dAct act)]) L_k14 rfl ?_
  refine WR.callA (args := [.s (dAct act)]) rfl rfl (ev_ActOk act hf) rfl ?_
  refine WR.iteP (actOk act = false) ?_ (fun h => WR.done ?_) (fun h => ?_)
  · show (!(actOk act)) = _
    cases actOk act <;> rfl
  · show [D.s []] = _
    simp [rowsOf, h, dRows]
  have h : actOk act = true := by simpa using h
  refine WR.callA (args := [dI 0]) rfl rfl (ev_FrmPot 0 (by omega) (by omega)) rfl ?_
  refine WR.callA (args := [dI 1]) rfl rfl (ev_FrmPot 1 (by omega) (by omega)) rfl ?_
  refine WR.callA (args := [dI 2]) rfl rfl (ev_FrmPot 2 (by omega) (by omega)) rfl ?_
  have e := ev_l3Walk (actOk_good h) act.length 0 [potF 0, potF 1, potF 2] [] [] 0 (by omega) (by omega) (by simp) (by omega) (by omega) rfl (by
    intro f hf'
    simp at hf'
    rcases hf' with rfl | rfl | rfl <;> exact potF_std) (by simp) (by simp) (by simp) (by simp)
  refine WR.callA (args := [.s (dAct act), dI 0, .s (dF [potF 0, potF 1, potF 2]), .s (dF []), .s (dF [])]) rfl rfl e rfl ?_
  refine WR.done ?_
  show [D.s (dRows (walk (act.drop (0 : Int).toNat) [potF 0, potF 1, potF 2] [] []))] = _
  simp [rowsOf, h]
end Go.Proofs.YtdibnlhlngodeaaGreatDoor

import Derived.Test.YtdibnlhlngodeaaGreatDoorPN
import Derived.Test.YtdibnlhlngodeaaGreatDoorPI
set_option linter.unusedVariables false
set_option linter.unusedSimpArgs false
/- What the program's ways through an act come to. -/
namespace Go.Proofs.YtdibnlhlngodeaaGreatDoor
open Go Go.Tm
theorem ev_FrmInto_1 (f : Frm) (hf : Frm.fit f) : Ev L f_k2q f.cells [dB (!f.ok)] :=
  Ev.eq (vs := [.l (dL f.c), .l (dL f.d), .i f.k]) L_k2q rfl (WR.ev (ev_iFrmOk f hf) rfl rfl rfl (WR.done rfl))
theorem ev_hasFrm (p : Frm → Bool) (l : List Frm) {fn : FuncId} {caps : List D} (hlen : l.length ≤ 2000000) (hcap : oneOf (.f fn caps) = .f fn caps) (har : arT L fn = some ([some 3] ++ caps.map fun _ => none))
    (hc : ∀ x ∈ l, Ev L fn (x.cells ++ caps.map D.norm) [dB (p x)]) : Ev L f_k2p [.s (dF l), .f fn caps] [dB (l.any p)] :=
  ev_contains (g := f_k2o) L_k2p rfl hcap
    (ev_idxFunc (sh := .g [.s, .s, .i .i64]) (as := [(.s (.v 3)), (.s (.v 4)), (.vi .i64 (.v 5))]) (ar := [some 3]) (k := 6) Frm.g p Frm.cells (fun x => [.l (dL x.c), .l (dL x.d), .i x.k]) l
      L_k2o rfl hlen hcap (fun _ _ => rfl) (fun _ _ => rfl) (fun _ _ _ _ => rfl) har hc)
def accI (f : Frm) (pots : List Frm) (i : Nat) : Frm := (List.zip (pots.take i) (f.c.take i)).foldl (fun x q => sumF x q.1 q.2) Frm.zero
theorem accI_succ {f : Frm} {pots : List Frm} {i : Nat} {p : Frm} {n : Int} (hp : pots[i]? = some p) (hn : f.c[i]? = some n) : accI f pots (i + 1) = sumF (accI f pots i) p n := by
  have h1 := (List.getElem?_eq_some_iff.1 hp).1
  have h2 := (List.getElem?_eq_some_iff.1 hn).1
  simp only [accI]
  rw [take_succ hp, take_succ hn, List.zip_append (by simp; omega), List.foldl_append]; rfl
theorem accI_std {f : Frm} {pots : List Frm} {M : Int} (hf : f.small = true) (hp : ∀ p ∈ pots, Std M p) (hl : pots.length = 3) (h0 : 0 ≤ M) (i : Nat) (hi : i ≤ 3) : Std (2 * M * i) (accI f pots i) := by
  obtain ⟨h1, h2, h3, h4, h5⟩ := small_std hf
  induction i with
  | zero => exact zero_std.mono (by omega)
  | succ i ih =>
    have ih := ih (by omega)
    obtain ⟨p, hp1, hp2⟩ := some_at (show i < pots.length by omega)
    obtain ⟨n, hn1, hn2⟩ := some_at (show i < f.c.length by omega)
    rw [accI_succ hp1 hn1]
    have := sumF_std ih (hp _ hp2) (h3 _ hn2)
    refine this.mono ?_
    push_cast
    rw [Int.mul_add]; omega
theorem into_swap {f : Frm} {pots : List Frm} {M : Int} (hf : f.small = true) (hp : ∀ p ∈ pots, Std M p) (hl : pots.length = 3) :
    intoF f pots = ⟨(accI f pots 3).c, addU (accI f pots 3).d f.d 1, (accI f pots 3).k + 1 * f.k⟩ := by
  obtain ⟨h1, h2, _⟩ := small_std hf
  match pots, hl with
  | [⟨c, d, k⟩, ⟨c', d', k'⟩, ⟨c'', d'', k''⟩], _ =>
    have s1 := hp ⟨c, d, k⟩ (by simp)
    have s2 := hp ⟨c', d', k'⟩ (by simp)
    have s3 := hp ⟨c'', d'', k''⟩ (by simp)
    obtain ⟨fc, fd, fk⟩ := f
    obtain ⟨x, y, z, rfl⟩ := len3 h1
    obtain ⟨u, v, rfl⟩ := len2 h2
    obtain ⟨a1, a2, a3, rfl⟩ := len3 s1.c
    obtain ⟨b1, b2, rfl⟩ := len2 s1.d
    obtain ⟨a1', a2', a3', rfl⟩ := len3 s2.c
    obtain ⟨b1', b2', rfl⟩ := len2 s2.d
    obtain ⟨a1'', a2'', a3'', rfl⟩ := len3 s3.c
    obtain ⟨b1'', b2'', rfl⟩ := len2 s3.d
    simp [intoF, accI, sumF, addL, addU, Frm.zero]
    omega
theorem ev_iInto {f : Frm} {pots : List Frm} {M : Int} (hf : f.small = true) (hl : pots.length = 3) (hp : ∀ p ∈ pots, Std M p) (h0 : 0 ≤ M) (hM : M ≤ 1000000) :
    Ev L f_k2t (f.cells ++ [.s (dF pots)]) (intoF f pots).cells := by
  obtain ⟨f1, f2, f3, f4, f5⟩ := small_std hf
  have hfs := small_Std hf
  refine Ev.eq (vs := [.l (dL f.c), .l (dL f.d), .i f.k, .l (dF pots)]) L_k2t rfl ?_
  have e := ev_iFrmOk f hfs.fit
  rw [hfs.okF (by omega)] at e
  refine WR.ev e rfl rfl rfl (WR.iteF rfl ?_)
  refine WR.iteP (¬ (pots.length : Int) = 3) ?_ (fun h => by omega) (fun _ => ?_)
  · show (!(decide (((dF pots).length : Int) = 3))) = _
    rw [dF_len]; simp
  have hany : pots.any (fun p => !p.ok) = false := by
    rw [List.any_eq_false]
    intro p hpm
    rw [(hp p hpm).okF (by omega)]; simp
  have e2 := ev_hasFrm (fun p => !p.ok) pots (fn := f_k2q) (caps := []) (by omega) rfl rfl fun p hpm => by
    rw [List.map_nil, List.append_nil]; exact ev_FrmInto_1 p (hp p hpm).fit
  rw [hany] at e2
  refine WR.ev e2 rfl rfl rfl (WR.iteF rfl ?_)
  refine WR.ev ev_iZero rfl rfl rfl ?_
  simp only [sCA, sNA]
  have hstd := accI_std hf hp hl h0
  refine WR.forS 3 (fun i vs => ∃ a : Frm, a = accI f pots i ∧ vs = [.l (dL a.c), .l (dL a.d), .i i, .i a.k]) rfl ⟨Frm.zero, rfl, rfl⟩ ?_
  rintro i _ hi ⟨a, ha, rfl⟩
  have hs := hstd i hi
  rw [← ha] at hs
  simp only [sCA, sNA]
  refine WR.iteLen i (dF_len pots) rfl (fun h => ?_) (fun h => ?_)
  · obtain ⟨p, hp1, hp2⟩ := some_at h
    obtain ⟨n, hn1, hn2⟩ := some_at (show i < f.c.length by omega)
    refine WR.idxN i (map_at (f := Frm.g) hp1) rfl rfl rfl rfl ?_
    refine WR.idxN i (map_at (f := dI) hn1) rfl rfl rfl rfl ?_
    have hb : 2 * M * (i : Int) ≤ 2 * M * 3 := Int.mul_le_mul_of_nonneg_left (by omega) (by omega)
    have hn := f3 n hn2
    refine WR.ev (ev_addS (M := 6 * M) (hs.mono (by omega)) ((hp p hp2).mono (by omega)) (by omega) (n := n) (by omega)) rfl rfl rfl ?_
    have hA := accI_succ hp1 hn1
    rw [← ha] at hA
    refine WR.nextA (vs := [.l (dL (sumF a p n).c), .l (dL (sumF a p n).d), .i ((i + 1 : Nat) : Int), .i (sumF a p n).k]) ?_ ⟨by omega, sumF a p n, hA.symm, rfl⟩
    show [V.l (dL (sumF a p n).c), .l (dL (sumF a p n).d), .i (IntKind.i64.wrap ((i : Int) + 1)), .i (sumF a p n).k] = _
    rw [wS h (by omega)]
  · refine WR.esc ?_
    have hi3 : i = 3 := by omega
    subst hi3
    have e3 := ev_add (a := a) (b := ⟨[], f.d, f.k⟩) (n := 1) (M := 6 * M + 20) (hs.lc.mono (by omega)) (hs.ld.mono (by omega)) (by have := hs.k; omega) (by intro x hx; simp at hx) (hfs.ld.mono (by omega)) (by have := hfs.k; show -(6 * M + 20) ≤ f.k ∧ f.k ≤ 6 * M + 20; omega)
      (by simp) (by show f.d.length ≤ a.d.length; rw [hs.d]; omega) (by rw [hs.c]; omega) (by rw [hs.d]; omega) (by omega) (by omega)
    refine WR.ev e3 rfl rfl rfl ?_
    simp only [sCA, sNA]
    have hin := into_swap hf hp hl
    rw [← ha] at hin
    have hic := into_std hf hl hp h0
    rw [addU_nil]
    have e4 := ev_checked hic (by omega)
    rw [hin] at e4 ⊢
    exact WR.ev e4 rfl rfl rfl (WR.done rfl)
theorem dRows_snoc (l : List Row) (r : Row) : dRows l ++ [r.g] = dRows (l ++ [r]) := by simp [dRows]
theorem fits_of {l : List Frm} {M : Int} (h : ∀ f ∈ l, Std M f) : ∀ f ∈ l, Frm.fit f := fun f hf => (h f hf).fit
set_option maxHeartbeats 2000000 in
theorem ev_walk {act : List Line} (hact : Good act) : ∀ (n : Nat) (at_ : Int) (p g t : List Frm) (rows : List Row) (j : Nat), 0 ≤ at_ → at_ ≤ 20 → act.length - at_.toNat = n → (j : Int) ≤ at_ → j ≤ 6 →
    p.length = 3 → (∀ f ∈ p, Std (Bd j) f) → g.length ≤ j → (∀ f ∈ g, Std 10000000 f) → t.length ≤ j → (∀ f ∈ t, Std 10000000 f) → rows.length + (walk (act.drop at_.toNat) p g t).length ≤ 1000 →
    Ev L f_k2w [.s (dAct act), .s (dRows rows), dI at_, .s (dF g), .s (dF p), .s (dF t)] [.s (dAct act), .s (dRows (rows ++ walk (act.drop at_.toNat) p g t))] := by
  intro n
  induction n using Nat.strongRecOn with
  | _ n ih =>
    intro at_ p g t rows j a0 a20 hn hj hj6 hp sp hg sg ht st hlen
    have hal := hact.len
    refine Ev.eq (vs := [.l (dAct act), .l (dRows rows), .i at_, .l (dF g), .l (dF p), .l (dF t)]) L_k2w rfl ?_
    refine WR.loop (fun m vs => ∃ (i : Int) (p' g' t' : List Frm) (rs : List Row) (j' : Nat), vs = [.l (dRows rs), .i i, .l (dF g'), .l (dF p'), .l (dF t'), .l (dAct act)] ∧ at_ ≤ i ∧ i ≤ 20 ∧ m = act.length - i.toNat ∧ (j' : Int) ≤ i ∧ j ≤ j' ∧ j' ≤ 6 ∧ p'.length = 3 ∧ (∀ f ∈ p', Std (Bd j') f) ∧ g'.length ≤ j' ∧ (∀ f ∈ g', Std 10000000 f) ∧ t'.length ≤ j' ∧ (∀ f ∈ t', Std 10000000 f) ∧
      rs ++ walk (act.drop i.toNat) p' g' t' = rows ++ walk (act.drop at_.toNat) p g t) rfl (act.length - at_.toNat) ⟨at_, p, g, t, rows, j, rfl, by omega, a20, rfl, hj, by omega, hj6, hp, sp, hg, sg, ht, st, rfl⟩ ?_
    rintro m _ ⟨i, p', g', t', rs, j', rfl, ai, i20, hm, hj', hjj, hj6', hp', sp', hg', sg', ht', st', hw⟩
    simp only [sCA, sNA]
    have hlen' : rs.length + (walk (act.drop i.toNat) p' g' t').length ≤ 1000 := by
      rw [← List.length_append, hw, List.length_append]; exact hlen
    rw [← hw]
    clear hw hlen
    have hB := Bd_le hj6'
    have hB0 := Bd_nonneg j'
    have fg := fits_of sg'
    have fp := fits_of sp'
    have ft := fits_of st'
    refine WR.iteP (i < ((dAct act).length : Int)) rfl (fun hi => ?_) (fun hi => ?_)
    · rw [dAct_len] at hi
      obtain ⟨l, hl, hd⟩ := dAct_get (a := act) (i := i) (by omega) hi
      have hok := hact.ok l (List.mem_of_getElem? hl)
      have hdr := drop_cons hl
      have hs1 : (i + 1).toNat = i.toNat + 1 := by omega
      refine WR.idxA (ds := dAct act) i rfl rfl rfl (by omega) hd rfl ?_
      simp only [sCA, sNA]
      refine WR.iteP (l.kind = 4) rfl (fun h4 => ?_) (fun h4 => ?_)
      · refine WR.ev (ev_forms g' (by omega) fg) rfl rfl rfl ?_
        refine WR.chkApp (dRows rs) 1000 (by rw [dRows_len]; omega) (by omega) rfl ?_
        refine WR.esc (WR.done ?_)
        show [D.s (dAct act), D.s (dRows rs ++ [Row.g ⟨g', [], [], true⟩])] = _
        rw [dRows_snoc, hdr, walk, if_pos h4]
      have hsm := ok_small hok h4
      have hin := into_std hsm hp' sp' hB0
      have hin7 : Std 10000000 (intoF l.f p') := hin.mono (by omega)
      refine WR.ev (ev_iInto hsm hp' sp' hB0 (by omega)) rfl rfl rfl ?_
      simp only [sCA, sNA]
      have hj5 : j' < 6 := by omega
      refine WR.iteP (l.kind = 1) rfl (fun h1 => ?_) (fun h1 => ?_)
      · have hsk := ok_skip hok h1
        have hwk : walk (act.drop i.toNat) p' g' t' = walk (act.drop (i + 1).toNat) p' (g' ++ [intoF l.f p']) t' ++ walk (act.drop (i + l.skip + 1).toNat) p' (g' ++ [minusF (intoF l.f p')]) t' := by
          rw [hdr, walk, if_neg h4, if_pos h1, List.drop_drop, hs1, show i.toNat + 1 + l.skip.toNat = (i + l.skip + 1).toNat by omega]
        have hmin : Std 10000000 (minusF (intoF l.f p')) := (minusF_std hin).mono (by omega)
        have spB : ∀ f ∈ p', Std (Bd (j' + 1)) f := fun f hf => (sp' f hf).mono (Bd_mono (by omega))
        rw [hwk, List.length_append] at hlen'
        rw [hwk]
        have hns := sumF_std zero_std hin (n := -1) (N := 1) (by omega)
        generalize hF : intoF l.f p' = F at *
        refine WR.ev (ev_forms g' (by omega) fg) rfl rfl rfl ?_
        refine WR.chkApp (dF g') 1000 (by rw [dF_len]; omega) (by omega) rfl ?_
        refine WR.ev (ev_forms p' (by omega) fp) rfl rfl rfl ?_
        refine WR.ev (ev_forms t' (by omega) ft) rfl rfl rfl ?_
        simp only [sCA, sNA]
        have e1 := ih (act.length - (i + 1).toNat) (by omega) (i + 1) p' (g' ++ [F]) t' rs (j' + 1) (by omega) (by omega) rfl (by omega) (by omega) hp' spB (by simp; omega) (mem_snoc sg' hin7) (by omega) st' (by omega)
        refine WR.ev e1 rfl ?_ rfl ?_
        · show [D.s (dAct act), .s (dRows rs), dI (IntKind.i64.wrap (i + 1)), .s (dF g' ++ [F.g]), .s (dF p'), .s (dF t')] = _
          rw [dF_snoc, w64 (by omega) (by omega)]
        simp only [sCA, sNA]
        refine WR.ev (ev_iTimes hin7 (by omega) (n := -1) (by omega) (by omega)) rfl rfl rfl ?_
        refine WR.ev (ev_forms g' (by omega) fg) rfl rfl rfl ?_
        refine WR.chkApp (dF g') 1000 (by rw [dF_len]; omega) (by omega) rfl ?_
        simp only [sCA, sNA]
        refine WR.nextA (vs := [.l (dRows (rs ++ walk (act.drop (i + 1).toNat) p' (g' ++ [F]) t')), .i (i + l.skip + 1), .l (dF (g' ++ [minusF F])), .l (dF p'), .l (dF t'), .l (dAct act)]) ?_
          ⟨act.length - (i + l.skip + 1).toNat, by omega, i + l.skip + 1, p', g' ++ [minusF F], t', _, j' + 1, rfl, by omega, by omega, rfl, by omega, by omega, by omega, hp', spB, by simp; omega, mem_snoc sg' hmin, by omega, st', ?_⟩
        · have hk := hns.k
          show [V.l (dRows (rs ++ walk (act.drop (i + 1).toNat) p' (g' ++ [F]) t')), V.i (IntKind.i64.wrap (IntKind.i64.wrap (i + l.skip) + 1)), V.l (dF g' ++ [Frm.g ⟨(sumF Frm.zero F (-1)).c, (sumF Frm.zero F (-1)).d, IntKind.i64.wrap ((sumF Frm.zero F (-1)).k - 1)⟩]), V.l (dF p'), V.l (dF t'), V.l (dAct act)] = _
          rw [dF_snoc, w64 (n := i + l.skip) (by omega) (by omega), w64 (n := i + l.skip + 1) (by omega) (by omega), w64 (n := (sumF Frm.zero F (-1)).k - 1) (by omega) (by omega)]; rfl
        · rw [List.append_assoc]
      refine WR.iteP (l.kind = 2) rfl (fun h2 => ?_) (fun h2 => ?_)
      · have hpt := ok_pot hok h2
        have hlt : l.pot.toNat < p'.length := by omega
        obtain ⟨hm1, hm2⟩ := getD_mem hlt
        have hdg : (dF p')[l.pot.toNat]? = some (p'.getD l.pot.toNat Frm.none).g := map_at (f := Frm.g) hm2
        have hwk : walk (act.drop i.toNat) p' g' t' = walk (act.drop (i + 1).toNat) (p'.set l.pot.toNat (sumF (p'.getD l.pot.toNat Frm.none) (intoF l.f p') 1)) g' t' := by
          rw [hdr, walk, if_neg h4, if_neg h1, if_pos h2, hs1]
        rw [hwk]
        have hsum : Std (Bd (j' + 1)) (sumF (p'.getD l.pot.toNat Frm.none) (intoF l.f p') 1) := (sumF_std (sp' _ hm1) hin (n := 1) (N := 1) (by omega)).mono (by simp only [Bd]; omega)
        have hsp1 := sp' _ hm1
        generalize p'.getD l.pot.toNat Frm.none = q at *
        generalize intoF l.f p' = F at *
        refine WR.ev (ev_forms p' (by omega) fp) rfl rfl rfl ?_
        refine WR.chkP (0 ≤ l.pot) rfl hpt.1 ?_
        refine WR.chkP (l.pot < ((dF p').length : Int)) rfl (by rw [dF_len]; omega) ?_
        refine WR.idxA (ds := dF p') l.pot rfl rfl rfl hpt.1 hdg rfl ?_
        simp only [sCA, sNA]
        refine WR.ev (ev_iAdd (M := 5000000) (hsp1.mono (by omega)) (hin.mono (by omega)) (by omega) (by omega)) rfl rfl rfl ?_
        refine WR.chkP (0 ≤ l.pot) rfl hpt.1 ?_
        refine WR.chkP (l.pot < ((dF p').length : Int)) rfl (by rw [dF_len]; omega) ?_
        refine WR.idxA (ds := dF p') l.pot rfl rfl rfl hpt.1 hdg rfl ?_
        simp only [sCA, sNA]
        refine WR.nextA (vs := [.l (dRows rs), .i (i + 1), .l (dF g'), .l (dF (p'.set l.pot.toNat (sumF q F 1))), .l (dF t'), .l (dAct act)]) ?_
          ⟨act.length - (i + 1).toNat, by omega, i + 1, p'.set l.pot.toNat (sumF q F 1), g', t', rs, j' + 1, rfl, by omega, by omega, rfl, by omega, by omega, by omega, by simp [hp'], ?_, by omega, sg', by omega, st', rfl⟩
        · show [V.l (dRows rs), V.i (IntKind.i64.wrap (i + 1)), V.l (dF g'), V.l ((dF p').set l.pot.toNat (sumF q F 1).g), V.l (dF t'), V.l (dAct act)] = _
          rw [w64 (by omega) (by omega)]
          simp only [dF, List.map_set]
        · intro f hf
          rcases List.mem_or_eq_of_mem_set hf with hf | hf
          · exact (sp' f hf).mono (Bd_mono (by omega))
          · subst hf; exact hsum
      · have h3 : l.kind = 3 := by
          have := hok
          unfold Line.ok at this
          rw [if_neg h1, if_neg h2] at this
          split at this
          · assumption
          · simp [h4] at this
        have hwk : walk (act.drop i.toNat) p' g' t' = walk (act.drop (i + 1).toNat) p' g' (t' ++ [intoF l.f p']) := by
          rw [hdr, walk, if_neg h4, if_neg h1, if_neg h2, hs1]
        rw [hwk]
        generalize intoF l.f p' = F at *
        refine WR.iteP (l.kind = 3) rfl (fun _ => ?_) (fun h => absurd h3 h)
        refine WR.ev (ev_forms t' (by omega) ft) rfl rfl rfl ?_
        refine WR.chkApp (dF t') 1000 (by rw [dF_len]; omega) (by omega) rfl ?_
        simp only [sCA, sNA]
        refine WR.nextA (vs := [.l (dRows rs), .i (i + 1), .l (dF g'), .l (dF p'), .l (dF (t' ++ [F])), .l (dAct act)]) ?_
          ⟨act.length - (i + 1).toNat, by omega, i + 1, p', g', t' ++ [F], rs, j' + 1, rfl, by omega, by omega, rfl, by omega, by omega, by omega, hp', fun f hf => (sp' f hf).mono (Bd_mono (by omega)), by omega, sg', by simp; omega, mem_snoc st' hin7, rfl⟩
        show [V.l (dRows rs), V.i (IntKind.i64.wrap (i + 1)), V.l (dF g'), V.l (dF p'), V.l (dF t' ++ [F.g]), V.l (dAct act)] = _
        rw [dF_snoc, w64 (by omega) (by omega)]
    · rw [dAct_len] at hi
      have hwk : walk (act.drop i.toNat) p' g' t' = [rowEnd p' g' t'] := by rw [List.drop_eq_nil_of_le (by omega), walk]
      rw [hwk]
      rw [hwk] at hlen'
      refine WR.esc ?_
      refine WR.ev (ev_forms g' (by omega) fg) rfl rfl rfl ?_
      refine WR.ev (ev_forms t' (by omega) ft) rfl rfl rfl ?_
      simp only [sCA, sNA]
      refine WR.forP 3 (fun v => [.l (dF ((addsOf p').take v)), .i v]) (fun _ => True) rfl rfl trivial fun v hv _ => ?_
      simp only [sCA, sNA]
      refine WR.iteLen v (dF_len p') rfl (fun h => ?_) (fun h => ?_)
      · obtain ⟨x, hx, hmx⟩ := some_at h
        have hsx := sp' x hmx
        refine WR.idxN v (map_at (f := Frm.g) hx) rfl rfl rfl rfl ?_
        refine WR.ev (ev_iPot v (by omega) (by omega)) rfl rfl rfl ?_
        refine WR.ev (ev_iTimes (M := 10000000) (potF_std.mono (by omega)) (by omega) (n := -1) (by omega) (by omega)) rfl rfl rfl ?_
        simp only [sCA, sNA]
        have hps := sumF_std zero_std (potF_std (v := (v : Int).toNat)) (n := -1) (N := 1) (by omega)
        refine WR.ev (ev_iAdd (M := 5000000) (hsx.mono (by omega)) (hps.mono (by omega)) (by omega) (by omega)) rfl rfl rfl ?_
        rw [sumF_zero_zero hsx potF_std]
        refine WR.fl (flats_dL _) (WR.fl (flats_dL _) ?_)
        have hn : (addsOf p')[v]? = some (sumF x (potF (v : Int).toNat) (-1)) := by
          have e : p'.getD v Frm.none = x := by rw [List.getD_eq_getElem?_getD, hx]; rfl
          subst e
          rw [Int.toNat_natCast]
          match v, (show v < 3 by omega) with
          | 0, _ => rfl
          | 1, _ => rfl
          | 2, _ => rfl
          | n + 3, h => omega
        refine WR.chkApp (dF ((addsOf p').take v)) 1000 (by rw [dF_len]; simp [addsOf]; omega) (by omega) rfl ?_
        simp only [sCA, sNA]
        refine WR.nextA (vs := [.l (dF ((addsOf p').take (v + 1))), .i ((v + 1 : Nat) : Int)]) ?_ ⟨by omega, rfl, trivial⟩
        show [V.l (dF ((addsOf p').take v) ++ [(sumF x (potF (v : Int).toNat) (-1)).g]), V.i (IntKind.i64.wrap ((v : Int) + 1))] = _
        rw [dF_snoc, take_succ hn, wS' (by omega)]
      · have hv3 : v = 3 := by omega
        subst hv3
        refine WR.esc ?_
        refine WR.chkApp (dRows rs) 1000 (by rw [dRows_len]; omega) (by omega) rfl ?_
        refine WR.done ?_
        show [D.s (dAct act), D.s (dRows rs ++ [(rowEnd p' g' t').g])] = _
        rw [dRows_snoc]
theorem ev_iRowsOf (act : List Line) (hf : fitAct act) : Ev L f_k2x [.s (dAct act)] [.s (dRows (rowsOf act))] := by
  refine Ev.eq (vs := [.l (dAct act)]) L_k2x rfl ?_
  refine WR.ev (ev_iActOk act hf) rfl rfl rfl ?_
  refine WR.iteN (actOk act) rfl (fun h => WR.done ?_) (fun h => ?_)
  · show [D.s []] = _
    simp [rowsOf, h, dRows]
  have hpp : ∀ f ∈ [potF 0, potF 1, potF 2], Std (Bd 0) f := by
    intro f hf'
    simp at hf'
    rcases hf' with rfl | rfl | rfl <;> exact potF_std
  refine WR.forP 3 (fun v => [.l (dF ([potF 0, potF 1, potF 2].take v)), .i v]) (fun _ => True) rfl rfl trivial fun v hv _ => ?_
  refine WR.iteLt v 3 rfl (fun h3 => ?_) (fun h3 => ?_)
  · refine WR.ev (ev_iPot v (by omega) (by omega)) rfl rfl rfl ?_
    refine WR.fl (flats_dL _) (WR.fl (flats_dL _) ?_)
    have hn : [potF 0, potF 1, potF 2][v]? = some (potF (v : Int).toNat) := by
      rw [Int.toNat_natCast]
      match v, h3 with
      | 0, _ | 1, _ | 2, _ => rfl
      | n + 3, h => omega
    refine WR.chkApp (dF ([potF 0, potF 1, potF 2].take v)) 1000 (by rw [dF_len]; simp; omega) (by omega) rfl ?_
    refine WR.nextA (vs := [.l (dF ([potF 0, potF 1, potF 2].take (v + 1))), .i ((v + 1 : Nat) : Int)]) ?_ ⟨h3, rfl, trivial⟩
    show [V.l (dF ([potF 0, potF 1, potF 2].take v) ++ [(potF (v : Int).toNat).g]), V.i (IntKind.i64.wrap ((v : Int) + 1))] = _
    rw [dF_snoc, take_succ hn, wS h3 (by omega)]
  · have hv3 : v = 3 := by omega
    subst hv3
    refine WR.esc ?_
    have hw := rows_len act
    rw [rowsOf, if_pos h] at hw
    have e := ev_walk (actOk_good h) act.length 0 [potF 0, potF 1, potF 2] [] [] [] 0 (by omega) (by omega) (by simp) (by omega) (by omega) rfl hpp (by simp) (by simp) (by simp) (by simp) (by
      show 0 + (walk (act.drop (0 : Int).toNat) _ [] []).length ≤ 1000
      rw [show (0 : Int).toNat = 0 from rfl, List.drop_zero]; omega)
    refine WR.ev e rfl rfl rfl (WR.done ?_)
    show [D.s (dRows ([] ++ walk (act.drop (0 : Int).toNat) [potF 0, potF 1, potF 2] [] []))] = _
    simp [rowsOf, h]
end Go.Proofs.YtdibnlhlngodeaaGreatDoor

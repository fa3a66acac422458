import Derived.Test.YtdibnlhlngodeaaGreatDoorPX
set_option linter.unusedVariables false
set_option linter.unusedSimpArgs false
/- What a site does alone: the tries themselves, over residual programs. -/
namespace Go.Proofs.YtdibnlhlngodeaaGreatDoor
open Go Go.Tm
theorem at_base {b w : List Int} (hb : valOk b = true) (hw : argOk w = true) {fs : List Frm} (hf : ∀ f ∈ fs, Std 10000000 f) : ∀ f ∈ fs, AtFit f b w := fun f hm => AtFit.std (hf f hm) hb hw
theorem atL_len (fs : List Frm) (v w : List Int) : (atL fs v w).length = fs.length := by simp [atL]
theorem three_at {i : Nat} (h : i < 3) : [0, 1, 2][i]? = some i := by
  match i, h with
  | 0, _ | 1, _ | 2, _ => rfl
theorem pins_len {as : List (List Line)} (h : catOk as = true) : (catPins as).length = 3 := by rw [catPins_eq h, pots_len]
theorem loc_no {as : List (List Line)} {b g : List Int} {s : Int} {a : List Int} {k : Int} {w : List Int} (h : locFine as b g s a k w = false) : locM as b g s a k w = ⟨0, [], [], false⟩ := by
  unfold locM; rw [h]; rfl
def Range (O U : Nat → Bool) (b g : List Int) (ps : List (List Int)) (s : Int) (a w : List Int) : Prop :=
  ∀ i, O i = ([0, 1, 2].take i).any (ovM b g ps s a w) ∧ U i = ([0, 1, 2].take i).any (unM b g ps s a w)
theorem Range.step {O U : Nat → Bool} {b g : List Int} {ps : List (List Int)} {s : Int} {a w : List Int} (h : Range O U b g ps s a w) {i : Nat} (hi : i < 3) :
    O (i + 1) = (O i || (decide (10000 < (boundsM b g ps s a (potF i) w).1) || decide ((boundsM b g ps s a (potF i) w).2.1 < -10000))) ∧
    U (i + 1) = (U i || (decide ((boundsM b g ps s a (potF i) w).1 < -10000) || decide (10000 < (boundsM b g ps s a (potF i) w).2.1))) := by
  rw [(h (i + 1)).1, (h (i + 1)).2, (h i).1, (h i).2, any_step (three_at hi), any_step (three_at hi)]
  exact ⟨rfl, rfl⟩
theorem Range.zero {O U : Nat → Bool} {b g : List Int} {ps : List (List Int)} {s : Int} {a w : List Int} (h : Range O U b g ps s a w) : O 0 = false ∧ U 0 = false := ⟨(h 0).1, (h 0).2⟩
theorem Range.three {O U : Nat → Bool} {b g : List Int} {ps : List (List Int)} {s : Int} {a w : List Int} (h : Range O U b g ps s a w) : O 3 = [0, 1, 2].any (ovM b g ps s a w) ∧ U 3 = [0, 1, 2].any (unM b g ps s a w) := ⟨(h 3).1, (h 3).2⟩
set_option maxHeartbeats 2000000 in
theorem ev_iLocTry (as : List (List Line)) (b g : List Int) (s : Int) (a : List Int) (k : Int) (w : List Int) (hf : fitActs as) (hb : b.length ≤ 2000000) (hg : g.length ≤ 2000000) (ha : a.length ≤ 2000000) (hw : w.length ≤ 2000000) :
    Ev L f_k4c [.s (dActs as), .s (dL b), .s (dL g), dI s, .s (dL a), dI k, .s (dL w)] (locM as b g s a k w).ds := by
  have hfl := hf.1
  refine Ev.eq (vs := [.l (dActs as), .l (dL b), .l (dL g), .i s, .l (dL a), .i k, .l (dL w)]) L_k4c rfl ?_
  refine WR.ev (ev_iCatOk as hf) rfl rfl rfl ?_
  refine WR.iteN (catOk as) rfl (fun h => WR.done ?_) (fun h1 => ?_)
  · rw [loc_no (by simp [locFine, h])]; rfl
  refine WR.ev (ev_ArgOk w hw) rfl rfl rfl ?_
  refine WR.iteN (argOk w) rfl (fun h => WR.done ?_) (fun h3 => ?_)
  · rw [loc_no (by simp [locFine, h])]; rfl
  refine WR.ev (ev_in k 0 (as.length - 1)) rfl ?_ rfl ?_
  · show [dI k, dI 0, dI (IntKind.i64.wrap (((dActs as).length : Int) - 1))] = _
    rw [dActs_len, w64 (by omega) (by omega)]
  refine WR.iteN (inB k 0 (as.length - 1)) rfl (fun h => WR.done ?_) (fun h2 => ?_)
  · rw [loc_no (by simp [locFine, h])]; rfl
  simp only [sCA, sNA]
  have hpi := pins_len h1
  have hps : fitLL (catForms as) := (catForms_fit as).fitLL (by omega)
  refine WR.ev (ev_rulesOf as hf) rfl rfl rfl ?_
  refine WR.ev (ev_keepsR as (catForms as) (catPins as) b g s a hpi hb hg hps ha) rfl rfl rfl ?_
  simp only [sCA, sNA]
  refine WR.iteN (keeps b g (catForms as) s a && stillM (catPins as) a) rfl (fun h => WR.done ?_) (fun h4 => ?_)
  · rw [loc_no (by simp only [locFine, h]; simp)]; rfl
  have hfine : locFine as b g s a k w = true := by simp only [locFine, h1, h2, h3, h4]; rfl
  obtain ⟨_, hk, _, hke, _⟩ := locFine_iff.1 hfine
  obtain ⟨hm, hkx⟩ := mem_getD (as := as) hk.1 hk.2
  obtain ⟨_, _, _, _, hb3, ha3, hgr⟩ := fine_in (keeps_fineM hke)
  have hvb : valOk b = true := valOk_iff.2 hb3
  have hM : locM as b g s a k w = (match (rowsOf (as.getD k.toNat [])).find? (sureM b g (catForms as) s a w) with | some r => rowLoc b g (catForms as) (catPins as) s a w r | none => ⟨0, [], a, false⟩) := by unfold locM; rw [if_pos hfine]; cases (rowsOf (as.getD k.toNat [])).find? (sureM b g (catForms as) s a w) <;> rfl
  rw [hM]
  clear hM
  refine WR.ev (ev_clone1 a ha) rfl rfl rfl ?_
  refine WR.idxA (ds := dActs as) k rfl rfl rfl hk.1 (map_at (f := fun a => .s (dAct a)) hkx) rfl ?_
  refine WR.ev (ev_iRowsOf (as.getD k.toNat []) (hf.2 _ hm)) rfl rfl rfl ?_
  have hrf : ∀ r ∈ rowsOf (as.getD k.toNat []), RowFit r := rows_fit
  have hrl := rows_len (as.getD k.toNat [])
  generalize rowsOf (as.getD k.toNat []) = rs at *
  generalize as.getD k.toNat [] = act at *
  have fitb : FitB b g (catForms as) a w := ⟨hb, hg, hps, ha, hw⟩
  simp only [sCA, sNA]
  refine WR.ev (ev_idxRow (sureM b g (catForms as) s a w) rs (fn := f_k49) (caps := [D.q [.f f_k48 (capsU as (catForms as) (catPins as) b g s a w)]]) (by omega) rfl rfl fun r hr => ev_LocTry_2 as (catForms as) (catPins as) b g s a w fitb r (hrf r hr)) rfl rfl rfl ?_
  simp only [sCA, sNA]
  rcases place_cases (sureM b g (catForms as) s a w) rs with ⟨hpl, hnone⟩ | ⟨i, r, hpl, hri, hsr, hti⟩
  · rw [hpl]
    refine WR.iteT rfl (WR.done ?_)
    rw [find_none hnone]; rfl
  rw [hpl, find_at hri hsr hti]
  refine WR.iteP ((i : Int) < 0) rfl (fun h => by omega) (fun _ => ?_)
  have hfr := hrf r (List.mem_of_getElem? hri)
  refine WR.atN i (rdR hri) rfl rfl rfl rfl rfl rfl ?_
  simp only [sCA, sNA]
  have hR : rowLoc b g (catForms as) (catPins as) s a w r = rowLoc b g (catForms as) (catPins as) s a w r := rfl
  unfold rowLoc at hR ⊢
  clear hR
  refine WR.iteB r.stop rfl (fun hst => WR.done ?_) (fun hst => ?_)
  · rw [if_pos hst]; rfl
  rw [if_neg (by rw [hst]; simp)]
  refine WR.atN i (rdR hri) rfl rfl rfl rfl rfl rfl ?_
  have hal := hfr.ns hst
  have hab := at_base hvb h3 hfr.a
  have hla := atL_lim hab
  have hll := atL_len r.adds b w
  refine WR.ev (ev_all (by omega) hab) rfl rfl rfl ?_
  simp only [sCA, sNA]
  generalize atL r.adds b w = x at *
  refine WR.ev (ev_plus (M := 6000000000000000) (Lim.mono (m := 20000) ha3.2 (by omega)) hla (by omega) (by omega) (by omega)) rfl rfl rfl ?_
  refine WR.ev (ev_unpinned as (catForms as) (catPins as) x hpi (by omega)) rfl rfl rfl ?_
  simp only [sCA, sNA]
  refine WR.iteN (stillM (catPins as) x) rfl (fun h => WR.done ?_) (fun h5 => ?_)
  · rw [if_neg (by rw [h]; simp)]; rfl
  have hnl : (sumL a x).length ≤ 2000000 := by rw [sumL_len (by omega)]; omega
  show WR L _ [_, _, _, _, _, _, _, _, _, _, _, _, _, _, _, _, _, _, _, _, _, _, _, _, _, _, _, V.l (dL (sumL a x)), _] _
  generalize sumL a x = now at *
  refine WR.ev (ev_addedOk now hnl) rfl rfl rfl ?_
  refine WR.iteN (addedOk now) rfl (fun h => WR.done ?_) (fun h6 => ?_)
  · rw [if_neg (by rw [h]; simp)]; rfl
  rw [if_pos (by rw [h5, h6]; rfl)]
  simp only [sCA, sNA]
  obtain ⟨O, U, hr⟩ : ∃ O U, Range O U b g (catForms as) s now w := ⟨_, _, fun _ => ⟨rfl, rfl⟩⟩
  rw [← hr.three.1, ← hr.three.2]
  refine WR.forP 3 (fun i => [.b (O i), .b (U i), .i i]) (fun _ => True) rfl (by rw [hr.zero.1, hr.zero.2]; rfl) trivial fun j hj _ => ?_
  simp only [sCA, sNA]
  refine WR.iteLt j 3 rfl (fun hj3 => ?_) (fun hj3 => ?_)
  · obtain ⟨sO, sU⟩ := hr.step hj3
    have eP := ev_iPot (j : Int) (by omega) (by omega)
    have eB := ev_iBounds b g (catForms as) s now (potF j) w hb hg hps hnl potF_std.fit hw
    rw [Int.toNat_natCast] at eP
    refine WR.ev eP rfl rfl rfl ?_
    refine WR.ev eB rfl rfl rfl ?_
    simp only [sCA, sNA]
    generalize boundsM b g (catForms as) s now (potF j) w = B at *
    have nx : ∀ (x y : Bool) {vs : List V}, vs = [V.b x, V.b y, V.i (IntKind.i64.wrap ((j : Int) + 1))] → O (j + 1) = x → U (j + 1) = y → vs = [V.b (O (j + 1)), V.b (U (j + 1)), V.i ((j + 1 : Nat) : Int)] := by
      rintro x y _ rfl rfl rfl
      rw [wS hj3 (by omega)]
    refine WR.iteB (O j) rfl (fun hO => ?_) (fun hO => ?_)
    · refine WR.iteB (U j) rfl (fun hU => ?_) (fun hU => ?_)
      · exact WR.nextA (nx true true rfl (by rw [sO, hO]; rfl) (by rw [sU, hU]; rfl)) ⟨hj3, rfl, trivial⟩
      · refine WR.iteP (B.1 < -10000) rfl (fun hl => ?_) (fun hl => ?_)
        · exact WR.nextA (nx true true rfl (by rw [sO, hO]; rfl) (by rw [sU, hU, decide_eq_true hl]; rfl)) ⟨hj3, rfl, trivial⟩
        · exact WR.nextA (nx true (decide (10000 < B.2.1)) rfl (by rw [sO, hO]; rfl) (by rw [sU, hU, decide_eq_false hl]; rfl)) ⟨hj3, rfl, trivial⟩
    · refine WR.iteP (10000 < B.1) rfl (fun hh => ?_) (fun hh => ?_)
      · refine WR.iteB (U j) rfl (fun hU => ?_) (fun hU => ?_)
        · exact WR.nextA (nx true true rfl (by rw [sO, hO, decide_eq_true hh]; rfl) (by rw [sU, hU]; rfl)) ⟨hj3, rfl, trivial⟩
        · refine WR.iteP (B.1 < -10000) rfl (fun hl => ?_) (fun hl => ?_)
          · exact WR.nextA (nx true true rfl (by rw [sO, hO, decide_eq_true hh]; rfl) (by rw [sU, hU, decide_eq_true hl]; rfl)) ⟨hj3, rfl, trivial⟩
          · exact WR.nextA (nx true (decide (10000 < B.2.1)) rfl (by rw [sO, hO, decide_eq_true hh]; rfl) (by rw [sU, hU, decide_eq_false hl]; rfl)) ⟨hj3, rfl, trivial⟩
      · refine WR.iteB (U j) rfl (fun hU => ?_) (fun hU => ?_)
        · exact WR.nextA (nx (decide (B.2.1 < -10000)) true rfl (by rw [sO, hO, decide_eq_false hh]; rfl) (by rw [sU, hU]; rfl)) ⟨hj3, rfl, trivial⟩
        · refine WR.iteP (B.1 < -10000) rfl (fun hl => ?_) (fun hl => ?_)
          · exact WR.nextA (nx (decide (B.2.1 < -10000)) true rfl (by rw [sO, hO, decide_eq_false hh]; rfl) (by rw [sU, hU, decide_eq_true hl]; rfl)) ⟨hj3, rfl, trivial⟩
          · exact WR.nextA (nx (decide (B.2.1 < -10000)) (decide (10000 < B.2.1)) rfl (by rw [sO, hO, decide_eq_false hh]; rfl) (by rw [sU, hU, decide_eq_false hl]; rfl)) ⟨hj3, rfl, trivial⟩
  have hj : j = 3 := by omega
  subst hj
  refine WR.esc ?_
  refine WR.iteB (O 3) rfl (fun hO => WR.done ?_) (fun hO => ?_)
  · rw [if_pos hO]; rfl
  rw [if_neg (by rw [hO]; simp)]
  refine WR.iteB (U 3) rfl (fun hU => WR.done ?_) (fun hU => ?_)
  · rw [if_pos hU]; rfl
  rw [if_neg (by rw [hU]; simp)]
  refine WR.ev (ev_TrtKeeps b g (catForms as) s now hb hg hps hnl) rfl rfl rfl ?_
  refine WR.iteN (keeps b g (catForms as) s now) rfl (fun h => WR.done ?_) (fun h7 => ?_)
  · rw [if_neg (by rw [h]; simp)]; rfl
  rw [if_pos h7]
  refine WR.atN i (rdR hri) rfl rfl rfl rfl rfl rfl ?_
  have htl := hfr.tl
  refine WR.ev (ev_all (by omega) (at_base hvb h3 hfr.t)) rfl rfl rfl (WR.done rfl)
end Go.Proofs.YtdibnlhlngodeaaGreatDoor

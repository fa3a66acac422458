import Derived.Test.YtdibnlhlngodeaaGreatDoorPY
set_option linter.unusedVariables false
set_option linter.unusedSimpArgs false
/- What a site does alone: the specification's tries, over residual programs. -/
namespace Go.Proofs.YtdibnlhlngodeaaGreatDoor
open Go Go.Tm
theorem ev_sSumB {a b : List Int} (ha : a.length = 3) (hb : b.length = 3) (la : Lim 4000000000000000000 a) (lb : Lim 4000000000000000000 b) : Ev L f_k1o [.s (dL a), .s (dL b)] [.s (dL (sumL a b))] := by
  refine Ev.eq (vs := [.l (dL a), .l (dL b)]) L_k1o rfl ?_
  refine WR.forP 3 (fun i => [.l (dL ((sumL a b).take i)), .i i]) (fun _ => True) rfl rfl trivial fun i hi _ => ?_
  simp only [sCA, sNA]
  refine WR.iteLt i 3 rfl (fun h => ?_) (fun h => ?_)
  · obtain ⟨x, hx, hmx⟩ := some_at (show i < a.length by omega)
    obtain ⟨y, hy, hmy⟩ := some_at (show i < b.length by omega)
    have hxl := la x hmx
    have hyl := lb y hmy
    have hs : (sumL a b)[i]? = some (x + y) := by unfold sumL; rw [List.getElem?_zipWith, hx, hy]
    refine WR.idxN i (map_at (f := dI) hx) rfl rfl rfl rfl ?_
    refine WR.idxN i (map_at (f := dI) hy) rfl rfl rfl rfl ?_
    refine WR.chkApp (dL ((sumL a b).take i)) 10 (by rw [dL_len]; simp; omega) (by omega) rfl ?_
    refine WR.nextA (vs := [.l (dL ((sumL a b).take (i + 1))), .i ((i + 1 : Nat) : Int)]) ?_ ⟨h, rfl, trivial⟩
    show [V.l (dL ((sumL a b).take i) ++ [dI (IntKind.i64.wrap (x + y))]), V.i (IntKind.i64.wrap ((i : Int) + 1))] = _
    rw [wS h (by omega), w64 (by omega) (by omega), dL_snoc, take_succ hs]
  · refine WR.esc (WR.done ?_)
    show [D.s (dL ((sumL a b).take i))] = _
    rw [List.take_of_length_le (by rw [sumL_len (by omega)]; omega)]
theorem ev_l5Adds (b g : List Int) (pins : List Bool) (r : Row) (w : List Int) (hp : pins.length = 3) (hr : RowFit r) (hs : r.stop = false) (hb : valOk b = true) (hw : argOk w = true) :
    Ev L f_k1t ([.s (dL b), .s (dL g), .s (dBl pins)] ++ r.cells ++ [.s (dL w)]) [.s (dL (if stillM pins (atL r.adds b w) then atL r.adds b w else [0, 0, 0])), dB (stillM pins (atL r.adds b w))] := by
  refine Ev.eq (vs := [.l (dL b), .l (dL g), .l (dBl pins), .l (dF r.guards), .l (dF r.adds), .l (dF r.tells), .b r.stop, .l (dL w)]) L_k1t rfl ?_
  have hal := hr.ns hs
  have hab := at_base hb hw hr.a
  have hll := atL_len r.adds b w
  refine WR.forP 3 (fun i => [.l (dL ((atL r.adds b w).take i)), .i i]) (fun i => (((atL r.adds b w).zip pins).take i).all (fun q => !(q.2 && !decide (q.1 = 0))) = true) rfl rfl rfl fun i hi hq => ?_
  simp only [sCA, sNA]
  refine WR.iteLt i 3 rfl (fun h => ?_) (fun h => ?_)
  · obtain ⟨f, hf, hm⟩ := some_at (show i < r.adds.length by omega)
    obtain ⟨p, hpi, _⟩ := some_at (show i < pins.length by omega)
    have hx : (atL r.adds b w)[i]? = some (atF f b w) := by simp [atL, hf]
    have hz := still_step hx hpi
    have hat := ev_sAt (hab f hm)
    generalize atF f b w = x at *
    generalize atL r.adds b w = xs at *
    refine WR.idxN i (map_at (f := Frm.g) hf) rfl rfl rfl rfl ?_
    refine WR.ev hat rfl rfl rfl ?_
    refine WR.idxN i (map_at (f := dB) hpi) rfl rfl rfl rfl ?_
    simp only [sCA, sNA]
    have hnx : [V.l (dL (xs.take i) ++ [dI x]), V.i (IntKind.i64.wrap ((i : Int) + 1))] = [V.l (dL (xs.take (i + 1))), V.i ((i + 1 : Nat) : Int)] := by
      rw [wS h (by omega), dL_snoc, take_succ hx]
    refine WR.iteB p rfl (fun hp1 => ?_) (fun hp1 => ?_)
    · refine WR.iteN (decide (x = 0)) rfl (fun h0 => WR.esc (WR.done ?_)) (fun h0 => ?_)
      · have hst : stillM pins xs = false := by unfold stillM; rw [all_not hz (by simp only [h0, hp1]; rfl)]
        rw [hst]; rfl
      · refine WR.chkApp (dL (xs.take i)) 10 (by rw [dL_len]; simp; omega) (by omega) rfl ?_
        exact WR.nextA hnx ⟨h, rfl, all_take hz hq (by simp only [h0]; simp)⟩
    · refine WR.chkApp (dL (xs.take i)) 10 (by rw [dL_len]; simp; omega) (by omega) rfl ?_
      exact WR.nextA hnx ⟨h, rfl, all_take hz hq (by simp only [hp1]; rfl)⟩
  · refine WR.esc (WR.done ?_)
    rw [List.take_of_length_le (by simp; omega)] at hq
    have hst : stillM pins (atL r.adds b w) = true := by unfold stillM; rw [hq]
    rw [hst]
    show [D.s (dL ((atL r.adds b w).take i)), dB true] = _
    rw [List.take_of_length_le (by omega)]; rfl
theorem arg_zero : argOk [0, 0] = true := by decide
theorem ev_l5Range {as : List (List Line)} {b g : List Int} {s : Int} {a w : List Int} (h : catOk as = true) (hf : fineM b g (catForms as) s a = true) (hw : argOk w = true) (hb : b.length ≤ 2000000) (hg : g.length ≤ 2000000) (ha : a.length ≤ 2000000) :
    Ev L f_k1u [.s (dL b), .s (dL g), .s (dLL (catForms as)), dI s, .s (dL a)] [dI (if [0, 1, 2].any (ovM b g (catForms as) s a w) then 2 else if [0, 1, 2].any (unM b g (catForms as) s a w) then 0 else 1)] := by
  refine Ev.eq (vs := [.l (dL b), .l (dL g), .l (dLL (catForms as)), .i s, .l (dL a)]) L_k1u rfl ?_
  have hps : fitLL (catForms as) := (catForms_fit as).fitLL (by omega)
  obtain ⟨O, U, hr⟩ : ∃ O U, Range O U b g (catForms as) s a w := ⟨_, _, fun _ => ⟨rfl, rfl⟩⟩
  have hno : ∀ (i : Nat) (x : Nat), [0, 1, 2][i]? = some x → ovM b g (catForms as) s a w x = true → [0, 1, 2].any (ovM b g (catForms as) s a w) = true := fun i x hx h => List.any_eq_true.2 ⟨x, List.mem_of_getElem? hx, h⟩
  refine WR.forP 3 (fun i => [.i (if U i then 0 else 1), .i i]) (fun i => O i = false) rfl (by rw [hr.zero.2]; rfl) hr.zero.1 fun j hj hO => ?_
  simp only [sCA, sNA]
  refine WR.iteLt j 3 rfl (fun hj3 => ?_) (fun hj3 => ?_)
  · obtain ⟨sO, sU⟩ := hr.step hj3
    have hov := hno j j (three_at hj3)
    have hovd : ovM b g (catForms as) s a w j = (decide (10000 < (boundsM b g (catForms as) s a (potF j) w).1) || decide ((boundsM b g (catForms as) s a (potF j) w).2.1 < -10000)) := rfl
    rw [hovd] at hov
    have eP := ev_FrmPot (j : Int) (by omega) (by omega)
    have eB := ev_sBounds b g (catForms as) s a (potF j) [0, 0] hb hg hps ha potF_std.fit (by decide)
    rw [pot_bounds h hf arg_zero hj3] at eB
    rw [pot_bounds h hf hw hj3] at sO sU hov
    rw [Int.toNat_natCast] at eP
    refine WR.ev eP rfl rfl rfl ?_
    refine WR.ev eB rfl rfl rfl ?_
    simp only [sCA, sNA]
    generalize (sumL b a).getD j 0 - othersM g s = lo at *
    generalize (sumL b a).getD j 0 + othersM g s = hi at *
    generalize [0, 1, 2].any (ovM b g (catForms as) s a w) = OO at *
    generalize [0, 1, 2].any (unM b g (catForms as) s a w) = UU at *
    simp only at sO sU hov
    have nx : ∀ (x : Int) {vs : List V}, vs = [V.i x, V.i (IntKind.i64.wrap ((j : Int) + 1))] → (if U (j + 1) then 0 else 1) = x → vs = [V.i (if U (j + 1) then 0 else 1), V.i ((j + 1 : Nat) : Int)] := by
      rintro x _ rfl rfl
      rw [wS hj3 (by omega)]
    refine WR.iteT rfl ?_
    refine WR.iteP (10000 < lo) rfl (fun hl => WR.esc (WR.done ?_)) (fun hl => ?_)
    · rw [hov (by rw [decide_eq_true hl]; rfl)]; rfl
    refine WR.iteP (hi < -10000) rfl (fun hh => WR.esc (WR.done ?_)) (fun hh => ?_)
    · rw [hov (by rw [decide_eq_true hh, Bool.or_true])]; rfl
    have hO' : O (j + 1) = false := by rw [sO, hO, decide_eq_false hl, decide_eq_false hh]; rfl
    refine WR.iteF rfl ?_
    refine WR.iteP (lo < -10000) rfl (fun h1 => ?_) (fun h1 => ?_)
    · exact WR.nextA (nx 0 rfl (by rw [sU, decide_eq_true h1]; simp)) ⟨hj3, rfl, hO'⟩
    refine WR.iteP (10000 < hi) rfl (fun h2 => ?_) (fun h2 => ?_)
    · exact WR.nextA (nx 0 rfl (by rw [sU, decide_eq_true h2]; simp)) ⟨hj3, rfl, hO'⟩
    exact WR.nextA (nx (if U j then 0 else 1) rfl (by rw [sU, decide_eq_false h1, decide_eq_false h2]; simp)) ⟨hj3, rfl, hO'⟩
  · have hj : j = 3 := by omega
    subst hj
    refine WR.esc (WR.done ?_)
    rw [hr.three.1] at hO
    show [dI (if U 3 then 0 else 1)] = _
    rw [hO, hr.three.2]; rfl
theorem ev_l5Row {as : List (List Line)} {b g : List Int} {s : Int} {a w : List Int} {r : Row} (h : catOk as = true) (hf : fineM b g (catForms as) s a = true) (hw : argOk w = true) (hg : g.length ≤ 2000000) (hfr : RowFit r) :
    Ev L f_k1v ([.s (dL b), .s (dL g), .s (dLL (catForms as)), .s (dBl (catPins as)), dI s, .s (dL a)] ++ r.cells ++ [.s (dL w)]) (rowLoc b g (catForms as) (catPins as) s a w r).ds := by
  refine Ev.eq (vs := [.l (dL b), .l (dL g), .l (dLL (catForms as)), .l (dBl (catPins as)), .i s, .l (dL a), .l (dF r.guards), .l (dF r.adds), .l (dF r.tells), .b r.stop, .l (dL w)]) L_k1v rfl ?_
  have hps : fitLL (catForms as) := (catForms_fit as).fitLL (by omega)
  have hpi := pins_len h
  obtain ⟨_, _, _, _, hb3, ha3, hgr⟩ := fine_in hf
  have hvb : valOk b = true := valOk_iff.2 hb3
  unfold rowLoc
  refine WR.iteB r.stop rfl (fun hst => ?_) (fun hst => ?_)
  · rw [if_pos hst]
    exact WR.cp a (by omega) (by omega) rfl (WR.done rfl)
  rw [if_neg (by rw [hst]; simp)]
  have hal := hfr.ns hst
  have hla := atL_lim (at_base hvb hw hfr.a)
  have hll := atL_len r.adds b w
  refine WR.ev (ev_l5Adds b g (catPins as) r w hpi hfr hst hvb hw) rfl rfl rfl ?_
  simp only [sCA, sNA]
  generalize atL r.adds b w = x at *
  by_cases h5 : stillM (catPins as) x = true
  case neg =>
    rw [if_neg h5, if_neg (show ¬ (stillM (catPins as) x && addedOk (sumL a x)) = true by simp [h5])]
    refine WR.ev (ev_sSumB (b := [0, 0, 0]) ha3.1 rfl (Lim.mono (m := 20000) ha3.2 (by omega)) (by intro y hy; simp at hy; omega)) rfl rfl rfl ?_
    refine WR.iteT (by show (!(stillM (catPins as) x)) = true; simp [h5]) ?_
    exact WR.cp a (by omega) (by omega) rfl (WR.done rfl)
  rw [if_pos h5, h5]
  refine WR.ev (ev_sSumB ha3.1 (by omega) (Lim.mono (m := 20000) ha3.2 (by omega)) (hla.mono (by omega))) rfl rfl rfl ?_
  simp only [sCA, sNA]
  refine WR.iteF rfl ?_
  have hnl : (sumL a x).length ≤ 2000000 := by rw [sumL_len (by omega)]; omega
  generalize sumL a x = now at *
  refine WR.ev (ev_l1All now 3 20000 hnl (by omega) (by omega)) rfl rfl rfl ?_
  refine WR.iteN (addedOk now) rfl (fun h6 => ?_) (fun h6 => ?_)
  · rw [if_neg (by rw [h6]; simp)]
    exact WR.cp a (by omega) (by omega) rfl (WR.done rfl)
  rw [if_pos (by rw [h6]; rfl)]
  simp only [sCA, sNA]
  refine WR.ev (ev_l5Range h (fine_now hf h6) hw (by omega) hg hnl) rfl rfl rfl ?_
  simp only [sCA, sNA]
  generalize [0, 1, 2].any (ovM b g (catForms as) s now w) = OO at *
  generalize [0, 1, 2].any (unM b g (catForms as) s now w) = UU at *
  cases OO with
  | true =>
    simp only [if_true]
    refine WR.iteT rfl ?_
    exact WR.cp a (by omega) (by omega) rfl (WR.done rfl)
  | false =>
    cases UU with
    | true =>
      simp only [Bool.false_eq_true, if_false, if_true]
      refine WR.iteF rfl (WR.iteT rfl ?_)
      exact WR.cp a (by omega) (by omega) rfl (WR.done rfl)
    | false =>
      simp only [Bool.false_eq_true, if_false]
      refine WR.iteF rfl (WR.iteF rfl ?_)
      refine WR.ev (ev_sTrtKeeps b g (catForms as) s now (by omega) hg hps hnl) rfl rfl rfl ?_
      refine WR.iteN (keeps b g (catForms as) s now) rfl (fun h7 => ?_) (fun h7 => ?_)
      · rw [if_neg (by rw [h7]; simp)]
        exact WR.cp a (by omega) (by omega) rfl (WR.done rfl)
      rw [if_pos h7]
      simp only [sCA, sNA]
      have htl := hfr.tl
      refine WR.forP r.tells.length (fun i => [.l (dL (atL (r.tells.take i) b w)), .i i]) (fun _ => True) rfl rfl trivial fun i hi _ => ?_
      simp only [sCA, sNA]
      refine WR.iteLen i (dF_len r.tells) rfl (fun h' => ?_) (fun h' => ?_)
      · obtain ⟨f, hf', hm⟩ := some_at h'
        refine WR.idxN i (map_at (f := Frm.g) hf') rfl rfl rfl rfl ?_
        refine WR.ev (ev_sAt (at_base hvb hw hfr.t f hm)) rfl rfl rfl ?_
        refine WR.chkApp (dL (atL (r.tells.take i) b w)) 10 (by rw [dL_len, atL_len]; simp; omega) (by omega) rfl ?_
        refine WR.nextA (vs := [.l (dL (atL (r.tells.take (i + 1)) b w)), .i ((i + 1 : Nat) : Int)]) ?_ ⟨h', rfl, trivial⟩
        show [V.l (dL (atL (r.tells.take i) b w) ++ [dI (atF f b w)]), V.i (IntKind.i64.wrap ((i : Int) + 1))] = _
        rw [wS h' (by omega), dL_snoc, take_succ hf']
        simp [atL]
      · refine WR.esc (WR.done ?_)
        show [dI 1, D.s (dL (atL (r.tells.take i) b w)), .s (dL now), dB true] = _
        rw [take_all h']; rfl
theorem ev_l5Try {as : List (List Line)} {b g : List Int} {s : Int} {a : List Int} {k : Int} {w : List Int} (hf : fitActs as) (hg : g.length ≤ 2000000) (hfine : locFine as b g s a k w = true) :
    Ev L f_k1w [.s (dActs as), .s (dLL (catForms as)), .s (dBl (catPins as)), .s (dL b), .s (dL g), dI s, .s (dL a), dI k, .s (dL w)] (locM as b g s a k w).ds := by
  refine Ev.eq (vs := [.l (dActs as), .l (dLL (catForms as)), .l (dBl (catPins as)), .l (dL b), .l (dL g), .i s, .l (dL a), .i k, .l (dL w)]) L_k1w rfl ?_
  obtain ⟨h1, hk, h3, hke, _⟩ := locFine_iff.1 hfine
  obtain ⟨hm, hkx⟩ := mem_getD (as := as) hk.1 hk.2
  have hfi := keeps_fineM hke
  obtain ⟨_, _, _, _, hb3, ha3, hgr⟩ := fine_in hfi
  have hM : locM as b g s a k w = (match (rowsOf (as.getD k.toNat [])).find? (sureM b g (catForms as) s a w) with | some r => rowLoc b g (catForms as) (catPins as) s a w r | none => ⟨0, [], a, false⟩) := by unfold locM; rw [if_pos hfine]; cases (rowsOf (as.getD k.toNat [])).find? (sureM b g (catForms as) s a w) <;> rfl
  rw [hM]
  clear hM
  have hps : fitLL (catForms as) := (catForms_fit as).fitLL (by omega)
  have hw2 := (argOk_iff.1 h3).1
  have fitb : FitB b g (catForms as) a w := ⟨by omega, hg, hps, by omega, by omega⟩
  refine WR.idxA (ds := dActs as) k rfl rfl rfl hk.1 (map_at (f := fun a => .s (dAct a)) hkx) rfl ?_
  refine WR.ev (ev_RowsOf (as.getD k.toNat []) (hf.2 _ hm)) rfl rfl rfl ?_
  have hrf : ∀ r ∈ rowsOf (as.getD k.toNat []), RowFit r := rows_fit
  have hrl := rows_len (as.getD k.toNat [])
  generalize rowsOf (as.getD k.toNat []) = rs at *
  generalize as.getD k.toNat [] = act at *
  simp only [sCA, sNA]
  refine WR.forP rs.length (fun i => [.i i]) (fun i => (rs.take i).any (sureM b g (catForms as) s a w) = false) rfl rfl rfl fun i hi hq => ?_
  simp only [sCA, sNA]
  refine WR.iteLen i (dRows_len rs) rfl (fun h' => ?_) (fun h' => ?_)
  · obtain ⟨r, hr, hmr⟩ := some_at h'
    refine WR.atN i (rdR hr) rfl rfl rfl rfl rfl rfl ?_
    refine WR.ev (ev_l5Sure b g (catForms as) s a w fitb r (hrf r hmr)) rfl rfl rfl ?_
    simp only [sCA, sNA]
    refine WR.iteB (sureM b g (catForms as) s a w r) rfl (fun hs => ?_) (fun hs => ?_)
    · refine WR.atN i (rdR hr) rfl rfl rfl rfl rfl rfl ?_
      refine WR.ev (ev_l5Row h1 hfi h3 hg (hrf r hmr)) rfl rfl rfl ?_
      rw [find_at hr hs hq]
      exact WR.esc (WR.done rfl)
    · refine WR.nextA (vs := [.i ((i + 1 : Nat) : Int)]) ?_ ⟨h', rfl, any_take hr hq hs⟩
      show [V.i (IntKind.i64.wrap ((i : Int) + 1))] = _
      rw [wS h' (by omega)]
  · refine WR.esc ?_
    rw [take_all h'] at hq
    rw [find_none hq]
    exact WR.cp a (by omega) (by omega) rfl (WR.done rfl)
theorem ev_sLocTry (as : List (List Line)) (b g : List Int) (s : Int) (a : List Int) (k : Int) (w : List Int) (hf : fitActs as) (hb : b.length ≤ 2000000) (hg : g.length ≤ 2000000) (ha : a.length ≤ 2000000) (hw : w.length ≤ 2000000) :
    Ev L f_k1x [.s (dActs as), .s (dL b), .s (dL g), dI s, .s (dL a), dI k, .s (dL w)] (locM as b g s a k w).ds := by
  have hfl := hf.1
  refine Ev.eq (vs := [.l (dActs as), .l (dL b), .l (dL g), .i s, .l (dL a), .i k, .l (dL w)]) L_k1x rfl ?_
  refine WR.ev (ev_CatOk as hf) rfl rfl rfl ?_
  refine WR.iteN (catOk as) rfl (fun h => WR.done ?_) (fun h1 => ?_)
  · rw [loc_no (by simp [locFine, h])]; rfl
  refine WR.ev (ev_l1In k 0 (as.length - 1)) rfl ?_ rfl ?_
  · show [dI k, dI 0, dI (IntKind.i64.wrap (((dActs as).length : Int) - 1))] = _
    rw [dActs_len, w64 (by omega) (by omega)]
  refine WR.iteN (inB k 0 (as.length - 1)) rfl (fun h => WR.done ?_) (fun h2 => ?_)
  · rw [loc_no (by simp [locFine, h])]; rfl
  refine WR.ev (sArgOk w hw) rfl rfl rfl ?_
  refine WR.iteN (argOk w) rfl (fun h => WR.done ?_) (fun h3 => ?_)
  · rw [loc_no (by simp [locFine, h])]; rfl
  simp only [sCA, sNA]
  have hps : fitLL (catForms as) := (catForms_fit as).fitLL (by omega)
  have e1 : (both as).1 = catForms as := by simp [catForms, h1]
  have e2 : (both as).2 = catPins as := by simp [catPins, h1]
  have eB := ev_l4Both as hf (catOk_len h1).2.1
  rw [e1, e2] at eB
  refine WR.ev eB rfl rfl rfl ?_
  refine WR.ev (ev_sTrtKeeps b g (catForms as) s a hb hg hps ha) rfl rfl rfl ?_
  simp only [sCA, sNA]
  refine WR.iteN (keeps b g (catForms as) s a) rfl (fun h => WR.done ?_) (fun h4 => ?_)
  · rw [loc_no (by simp [locFine, h])]; rfl
  refine WR.ev (ev_l5Still (catPins as) a (pins_len h1) (keeps_len h4)) rfl rfl rfl ?_
  simp only [sCA, sNA]
  refine WR.iteN (stillM (catPins as) a) rfl (fun h => WR.done ?_) (fun h5 => ?_)
  · rw [loc_no (by simp [locFine, h])]; rfl
  have hfine : locFine as b g s a k w = true := by simp only [locFine, h1, h2, h3, h4, h5]; rfl
  exact WR.ev (ev_l5Try hf hg hfine) rfl rfl rfl (WR.done rfl)
end Go.Proofs.YtdibnlhlngodeaaGreatDoor

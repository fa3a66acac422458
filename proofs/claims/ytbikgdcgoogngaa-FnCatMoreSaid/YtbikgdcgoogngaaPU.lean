/- With an act more there is more to keep an eye on: over residual programs. -/
import Derived.Test.YtbikgdcgoogngaaPT
namespace Go.Proofs.Ytbikgdcgoogngaa
open Go Go.Tm

theorem head_acts (as : List (List Line)) : headOk 1 (dActs as) = true := by cases as <;> rfl
theorem dLL_take (l : List (List Int)) (n : Nat) : (dLL l).take n = dLL (l.take n) := by simp [dLL, List.map_take]

set_option maxHeartbeats 1000000 in
theorem ev_FnCatMore (ns : List Int) (hb : ∀ x ∈ ns, 0 ≤ x ∧ x < 256) : Ev L f_laws_FnCatMore [.s (bytesD ns)] [dB true] := by
  refine Ev.eq (vs := [.l (bytesD ns)]) L_laws_FnCatMore rfl ?_
  refine WR.iteP (1048576 < ((bytesD ns).length : Int)) rfl (fun _ => WR.done rfl) (fun _ => ?_)
  obtain ⟨as, hd, hth⟩ := ev_DrawCatForms ns hb
  have hf := hth.fit
  have hal := hth.1
  refine WR.ev hd rfl rfl rfl ?_
  refine WR.ev (ev_iForms as hf) rfl rfl rfl ?_
  refine WR.ev (ev_CatForms as hf) rfl rfl rfl ?_
  have fq : ∀ as q, q ∈ catForms as → q.length ≤ 1000000 := fun as q hq => by rw [((catForms_fit as).each q hq).1]; omega
  have fl : ∀ as, (catForms as).length ≤ 1600 := fun as => (catForms_fit as).len
  have hco : ∀ as, Ev L f_laws_coParts [.s (dLL (catForms as)), .s (dLL (catForms as))] [dB true] := fun as => by
    have := ev_coParts (catForms as) (catForms as) (by have := fl as; omega) (fq as)
    rwa [decide_eq_true rfl] at this
  refine WR.ev (hco as) rfl rfl rfl (WR.iteF rfl ?_)
  refine WR.ev (ev_CatOk as hf) rfl rfl rfl ?_
  simp only [List.cons_append, List.nil_append]
  have hboth : ∀ {l : List V} {Q : Oc → Prop} {r : R}, True := fun {_ _ _} => trivial
  refine WR.iteN (catOk as) rfl (fun _ => ?_) (fun hok => ?_)
  · refine WR.ev (ev_iCatOk as hf) rfl rfl rfl (WR.ev (ev_CatOk as hf) rfl rfl rfl ?_)
    exact WR.iteT (by show (catOk as == catOk as) = true; simp) (WR.ev ev_coHolds rfl rfl rfl (WR.done rfl))
  refine WR.iteP ((as.length : Int) = 4) (by show decide (((dActs as).length : Int) = 4) = _; rw [dActs_len]) (fun _ => ?_) (fun h4 => ?_)
  · refine WR.ev (ev_iCatOk as hf) rfl rfl rfl (WR.ev (ev_CatOk as hf) rfl rfl rfl ?_)
    exact WR.iteT (by show (catOk as == catOk as) = true; simp) (WR.ev ev_coHolds rfl rfl rfl (WR.done rfl))
  have hn : 0 ≤ ((bytesD ns).length : Int).tmod 3 ∧ ((bytesD ns).length : Int).tmod 3 ≤ 2 := by
    rw [Int.tmod_eq_emod_of_nonneg (by omega)]; omega
  have hext : (D.s [D.g [dI 1, dI 0, dI 1, .s [dI 1, dI 2, dI (((bytesD ns).length : Int).tmod 3)], .s [dI 0, dI 0], dI 0], .g [dI 3, dI 0, dI 0, .s [dI 0, dI 0, dI 1], .s [dI 0, dI 0], dI 0]]) = .s (dAct (extra (((bytesD ns).length : Int).tmod 3))) := rfl
  generalize hnn : ((bytesD ns).length : Int).tmod 3 = n at *
  have hxok := extra_ok hn.1 hn.2
  have hxr := extra_reads hn.1 hn.2
  have hxfit : fitAct (extra n) := ⟨by simp [extra], by intro l hl; simp [extra] at hl; rcases hl with rfl | rfl <;> exact ⟨by simp, by simp⟩⟩
  generalize extra n = X at *
  have hk1 := catOk_len hok
  obtain ⟨a0, ha0, hm0⟩ := some_at (show 0 < as.length by omega)
  have hmore := catOk_more hok (by omega) hxok
  have htw := catOk_more hok (by omega) (hk1.2.2 a0 hm0)
  have fmore : fitActs (as ++ [X]) := ⟨by simp; omega, fun a ha => by
    rcases List.mem_append.1 ha with ha | ha
    · exact hf.2 a ha
    · simp at ha; subst ha; exact hxfit⟩
  have ftw : fitActs (as ++ [a0]) := ⟨by simp; omega, fun a ha => by
    rcases List.mem_append.1 ha with ha | ha
    · exact hf.2 a ha
    · simp at ha; subst ha; exact hf.2 _ hm0⟩
  have hpre := forms_more hok hmore
  have htwF := forms_twice hok htw hm0
  have hP := catPins_eq hok
  have hPm := catPins_eq hmore
  have hPt : catPins (as ++ [a0]) = catPins as := by rw [catPins_eq htw, hP, pins_twice hm0]
  have hmono : ∀ i, i < 3 → (catPins as).getD i false = true → (catPins (as ++ [X])).getD i false = true := by
    intro i hi h
    rw [hPm, pins_more _ _ hi, ← hP, h]; rfl
  have h2 : (catPins (as ++ [X])).getD 2 false = true := by
    rw [hPm, pins_more _ _ (by omega), hxr, Bool.or_true]
  have hl3 : (catPins as).length = 3 := by rw [hP]; exact pots_len _ _
  have hm3 : (catPins (as ++ [X])).length = 3 := by rw [hPm]; exact pots_len _ _
  refine WR.chkN (dActs as) 100 (by rw [dActs_len]; omega) (by omega) rfl ?_
  refine WR.head (head_acts as) ?_
  refine WR.chkN (dActs as) 100 (by rw [dActs_len]; omega) (by omega) rfl ?_
  refine WR.chk rfl ?_
  refine WR.chkApp (dActs as) 100 (by rw [dActs_len]; omega) (by omega) rfl ?_
  refine WR.chkN (dActs as) 100 (by rw [dActs_len]; omega) (by omega) rfl ?_
  refine WR.head (head_acts as) ?_
  refine WR.chkN (dActs as) 100 (by rw [dActs_len]; omega) (by omega) rfl ?_
  refine WR.chkP ((0 : Int) < ((dActs as).length : Int)) rfl (by rw [dActs_len]; omega) ?_
  refine WR.idxN 0 (map_at (f := fun a => .s (dAct a)) ha0) rfl rfl rfl rfl ?_
  refine WR.chkApp (dActs as) 100 (by rw [dActs_len]; omega) (by omega) rfl ?_
  simp only [List.cons_append, List.nil_append]
  have earg : ∀ t : D, t = .s (dAct X) → [D.s (dActs as ++ [t])] = [.s (dActs (as ++ [X]))] := fun t ht => by rw [ht, dActs_snoc]
  refine WR.ev (ev_iForms (as ++ [X]) fmore) rfl ?_ rfl ?_
  · refine earg _ ?_
    rw [← hext, ← hnn]; rfl
  refine WR.ev (ev_iPins (as ++ [X]) fmore) rfl ?_ rfl ?_
  · refine earg _ ?_
    rw [← hext, ← hnn]; rfl
  simp only [List.cons_append, List.nil_append]
  have hPins := ev_iPins as hf
  have hFl := fl as
  have hFml := fl (as ++ [X])
  have hFq := fq as
  have hFmq := fq (as ++ [X])
  have hcoF := hco as
  have hFtw := ev_iForms (as ++ [a0]) ftw
  have hPtw := ev_iPins (as ++ [a0]) ftw
  rw [htwF] at hFtw
  rw [hPt] at hPtw
  have hcoP := ev_coBools (catPins as) (catPins as) (by omega)
  rw [decide_eq_true rfl] at hcoP
  clear hext hxok hxr earg hP hPm hPt htwF
  generalize catPins (as ++ [X]) = PM at *
  generalize catPins as = P at *
  generalize catForms (as ++ [X]) = FM at *
  generalize catForms as = F at *
  refine WR.forP 3 (fun i => [.i i]) (fun _ => True) rfl rfl trivial fun i hi _ => ?_
  simp only [List.cons_append, List.nil_append]
  refine WR.iteLt i 3 rfl (fun hi3 => ?_) (fun _ => ?_)
  · have nx : [V.i (IntKind.i64.wrap ((i : Int) + 1))] = [V.i ((i + 1 : Nat) : Int)] := by rw [wS hi3 (by omega)]
    have hp : P[i]? = some (P.getD i false) := by simp [List.getD_eq_getElem?_getD, show i < P.length by omega]
    refine WR.ev hPins rfl rfl rfl ?_
    simp only [List.cons_append, List.nil_append]
    refine WR.atN i (map_at (f := dB) hp) rfl rfl rfl rfl rfl rfl ?_
    simp only [List.cons_append, List.nil_append]
    refine WR.iteB (P.getD i false) rfl (fun ht => ?_) (fun _ => WR.nextA nx ⟨hi3, rfl, trivial⟩)
    have hpm : PM[i]? = some true := by
      have := hmono i hi3 ht
      rw [← this]
      simp [List.getD_eq_getElem?_getD, show i < PM.length by omega]
    refine WR.atN i (map_at (f := dB) hpm) rfl rfl rfl rfl rfl rfl ?_
    exact WR.iteF rfl (WR.nextA nx ⟨hi3, rfl, trivial⟩)
  refine WR.esc ?_
  have hle := hpre.length_le
  refine WR.iteP ((F.length : Int) ≤ (FM.length : Int)) (by show decide (((dLL F).length : Int) ≤ ((dLL FM).length : Int)) = _; rw [dLL_len, dLL_len]) (fun _ => ?_) (fun h => by omega)
  refine WR.chkP ((0 : Int) ≤ ((dLL F).length : Int)) rfl (by omega) ?_
  refine WR.chkP ((F.length : Int) ≤ (FM.length : Int)) (by show decide (((dLL F).length : Int) ≤ ((dLL FM).length : Int)) = _; rw [dLL_len, dLL_len]) (by omega) ?_
  refine WR.ev hcoF rfl ?_ rfl ?_
  · show [D.s ((dLL FM).take (((dLL F).length : Int)).toNat), .s (dLL F)] = _
    rw [dLL_len, Int.toNat_natCast, dLL_take, ← List.prefix_iff_eq_take.1 hpre]
  refine WR.iteT rfl ?_
  refine WR.chkP ((2 : Int) < ((dBl PM).length : Int)) rfl (by rw [dBl_len]; omega) ?_
  have hp2 : PM[2]? = some true := by
    rw [← h2]
    simp [List.getD_eq_getElem?_getD, show 2 < PM.length by omega]
  refine WR.idxN 2 (map_at (f := dB) hp2) rfl rfl rfl rfl ?_
  simp only [List.cons_append, List.nil_append]
  refine WR.iteT rfl ?_
  refine WR.ev hFtw rfl ?_ rfl ?_
  · show [D.s (dActs as ++ [.s (dAct a0)])] = _
    rw [dActs_snoc]
  refine WR.ev hcoF rfl rfl rfl (WR.iteT rfl ?_)
  simp only [List.cons_append, List.nil_append]
  refine WR.ev hPtw rfl ?_ rfl ?_
  · show [D.s (dActs as ++ [.s (dAct a0)])] = _
    rw [dActs_snoc]
  refine WR.ev hPins rfl rfl rfl ?_
  simp only [List.cons_append, List.nil_append]
  exact WR.ev hcoP rfl rfl rfl (WR.done rfl)

end Go.Proofs.Ytbikgdcgoogngaa

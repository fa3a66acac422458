/- What does not come to its end turns nothing: over residual programs. -/
import Derived.Test.YtdibnlhlngodeaaDoorPZP
import Derived.Test.YtdibnlhlngodeaaDoorPV
namespace Go.Proofs.YtdibnlhlngodeaaDoor
open Go Go.Tm

theorem ev_l2End (v x t : List Int) (hv : v.length ≤ 2000000) (hx : x.length ≤ 2000000) : Ev L f_spec_l2End [.s (dL v), .s (dL x), .s (dL t)] (Res.ds (endOf v x t)) := by
  refine Ev.eq (vs := [.l (dL v), .l (dL x), .l (dL t)]) L_spec_l2End rfl ?_
  refine WR.ev (ev_sValOk x hx) rfl rfl rfl ?_
  unfold endOf
  refine WR.iteN (valOk x) rfl (fun h => ?_) (fun h => WR.done ?_)
  · rw [h, if_neg (by simp)]
    refine WR.chkN (dL v) 2000000 (by rw [dL_len]; omega) (by omega) rfl ?_
    refine WR.head (head_dL v) ?_
    refine WR.chkN (dL v) 2000000 (by rw [dL_len]; omega) (by omega) rfl (WR.done rfl)
  · rw [h]; rfl

theorem ev_sActRun (a : List Line) (v w : List Int) (ha : fitAct a) (hv : v.length ≤ 2000000) (hw : w.length ≤ 2000000) : Ev L f_spec_ActRun [.s (dAct a), .s (dL v), .s (dL w)] (Res.ds (actRun a v w)) := by
  refine Ev.eq (vs := [.l (dAct a), .l (dL v), .l (dL w)]) L_spec_ActRun rfl ?_
  have none : (actOk a && (valOk v && argOk w)) = false → actRun a v w = ⟨0, [], []⟩ := fun h => by simp [actRun, h]
  refine WR.ev (ev_ActOk a ha) rfl rfl rfl ?_
  refine WR.iteN (actOk a) rfl (fun h => WR.done ?_) (fun h => ?_)
  · rw [none (by simp [h])]; rfl
  refine WR.ev (ev_sValOk v hv) rfl rfl rfl ?_
  refine WR.iteN (valOk v) rfl (fun h2 => WR.done ?_) (fun h2 => ?_)
  · rw [none (by simp [h2])]; rfl
  refine WR.ev (sArgOk w hw) rfl rfl rfl ?_
  refine WR.iteN (argOk w) rfl (fun h3 => WR.done ?_) (fun h3 => ?_)
  · rw [none (by simp [h3])]; rfl
  have hrun : actRun a v w = run v w a v [] := by simp [actRun, h, h2, h3]
  rw [hrun]
  obtain ⟨v1, v2⟩ := valOk_iff.1 h2
  obtain ⟨w1, w2⟩ := argOk_iff.1 h3
  obtain ⟨a1, a2⟩ := actOk_in h
  refine WR.chkN (dL v) 2000000 (by rw [dL_len]; omega) (by omega) rfl ?_
  refine WR.head (head_dL v) ?_
  refine WR.chkN (dL v) 2000000 (by rw [dL_len]; omega) (by omega) rfl ?_
  simp only [List.cons_append, List.nil_append]
  refine WR.loop (fun m vs => ∃ (i : Int) (x t : List Int) (j : Nat), vs = [.l (dL t), .l (dL x), .i i] ∧ 0 ≤ i ∧ i ≤ 20 ∧ m = a.length - i.toNat ∧ (j : Int) ≤ i ∧ j ≤ 6 ∧ x.length = 3 ∧ Lim (XB j) x ∧ t.length ≤ j ∧ run v w (a.drop i.toNat) x t = run v w a v []) rfl a.length
    ⟨0, v, [], 0, rfl, by omega, by omega, by simp, by omega, by omega, v1, v2, by simp, by simp⟩ ?_
  rintro m _ ⟨i, x, t, j, rfl, i0, i20, hm, hji, hj6, hx, hl, ht, hr⟩
  rw [← hr]
  clear hr
  simp only [List.cons_append, List.nil_append]
  have hX0 := XB_pos j
  have hXl := XB_le hj6
  refine WR.iteP (i < ((dAct a).length : Int)) rfl (fun hi => ?_) (fun hi => ?_)
  · rw [dAct_len] at hi
    obtain ⟨l, hla, hd⟩ := dAct_get i0 hi
    have hok := a2 l (List.mem_of_getElem? hla)
    have hdr := drop_cons hla
    have hs1 : (i + 1).toNat = i.toNat + 1 := by omega
    refine WR.idxA (ds := dAct a) i rfl rfl rfl i0 hd rfl ?_
    simp only [List.cons_append, List.nil_append]
    have hlx : Lim 2000000000 x := hl.mono hXl
    have hrn : ¬ l.kind = 4 → run v w (a.drop i.toNat) x t = if l.kind = 1 then (if atF l.f x w < 0 then run v w (a.drop (i + l.skip + 1).toNat) x t else run v w (a.drop (i + 1).toNat) x t)
        else if l.kind = 2 then run v w (a.drop (i + 1).toNat) (x.set l.pot.toNat (x.getD l.pot.toNat 0 + atF l.f x w)) t else run v w (a.drop (i + 1).toNat) x (t ++ [atF l.f x w]) := fun h4 => by
      rw [hdr, run, if_neg h4, hs1]
      by_cases h1 : l.kind = 1
      · have hsk := ok_skip hok h1
        rw [if_pos h1, if_pos h1, List.drop_drop, show i.toNat + 1 + l.skip.toNat = (i + l.skip + 1).toNat by omega]
      · rw [if_neg h1, if_neg h1]
    have hat := fun h4 : ¬ l.kind = 4 => ev_sAt (AtFit.small (okLine_small hok h4) hx hlx h3)
    have hb := fun h4 : ¬ l.kind = 4 => at_small (okLine_small hok h4) hl w2 hX0
    refine WR.iteP (l.kind = 1) rfl (fun h1 => ?_) (fun h1 => ?_)
    · have h4 : ¬ l.kind = 4 := by omega
      have hat := hat h4
      rw [hrn h4, if_pos h1]
      have hsk := ok_skip hok h1
      refine WR.ev hat rfl rfl rfl ?_
      simp only [List.cons_append, List.nil_append]
      generalize atF l.f x w = n at *
      refine WR.iteP (n < 0) rfl (fun hn => ?_) (fun hn => ?_)
      · rw [if_pos hn]
        refine WR.nextA (vs := [.l (dL t), .l (dL x), .i (i + l.skip + 1)]) ?_ ⟨a.length - (i + l.skip + 1).toNat, by omega, i + l.skip + 1, x, t, j, rfl, by omega, by omega, rfl, by omega, by omega, hx, hl, ht, rfl⟩
        show [V.l (dL t), V.l (dL x), V.i (IntKind.i64.wrap (IntKind.i64.wrap (i + l.skip) + 1))] = _
        rw [w64 (n := i + l.skip) (by omega) (by omega), w64 (by omega) (by omega)]
      · rw [if_neg hn]
        refine WR.nextA (vs := [.l (dL t), .l (dL x), .i (i + 1)]) ?_ ⟨a.length - (i + 1).toNat, by omega, i + 1, x, t, j, rfl, by omega, by omega, rfl, by omega, by omega, hx, hl, ht, rfl⟩
        show [V.l (dL t), V.l (dL x), V.i (IntKind.i64.wrap (i + 1))] = _
        rw [w64 (by omega) (by omega)]
    refine WR.iteP (l.kind = 2) rfl (fun h2' => ?_) (fun h2' => ?_)
    · have h4 : ¬ l.kind = 4 := by omega
      have hat := hat h4
      have hb := hb h4
      rw [hrn h4, if_neg h1, if_pos h2']
      have hj5 : j < 6 := by omega
      have hpt := ok_pot hok h2'
      have hxp := at_getD (l := x) (i := l.pot.toNat) (by omega)
      have hdx : (dL x)[l.pot.toNat]? = some (dI (x.getD l.pot.toNat 0)) := map_at (f := dI) hxp
      have hlp := hl _ (List.mem_of_getElem? hxp)
      generalize atF l.f x w = n at *
      generalize x.getD l.pot.toNat 0 = y at *
      refine WR.chkP (0 ≤ l.pot) rfl hpt.1 ?_
      refine WR.chkP (l.pot < ((dL x).length : Int)) rfl (by rw [dL_len]; omega) ?_
      refine WR.idxA (ds := dL x) l.pot rfl rfl rfl hpt.1 hdx rfl ?_
      simp only [List.cons_append, List.nil_append]
      refine WR.ev hat rfl rfl rfl ?_
      simp only [List.cons_append, List.nil_append]
      refine WR.chkP (0 ≤ l.pot) rfl hpt.1 ?_
      refine WR.chkP (l.pot < ((dL x).length : Int)) rfl (by rw [dL_len]; omega) ?_
      refine WR.idxA (ds := dL x) l.pot rfl rfl rfl hpt.1 hdx rfl ?_
      simp only [List.cons_append, List.nil_append]
      have hstep : XB (j + 1) = 7 * XB j + 60 := rfl
      refine WR.nextA (vs := [.l (dL t), .l (dL (x.set l.pot.toNat (y + n))), .i (i + 1)]) ?_ ⟨a.length - (i + 1).toNat, by omega, i + 1, x.set l.pot.toNat (y + n), t, j + 1, rfl, by omega, by omega, rfl, by omega, by omega, by simp [hx], (hl.mono (XB_mono (by omega))).set (by omega) _, by omega, rfl⟩
      show [V.l (dL t), V.l ((dL x).set l.pot.toNat (dI (IntKind.i64.wrap (y + n)))), V.i (IntKind.i64.wrap (i + 1))] = _
      rw [w64 (n := i + 1) (by omega) (by omega), w64 (by omega) (by omega), dL_set]
    refine WR.iteP (l.kind = 3) rfl (fun h3' => ?_) (fun h3' => ?_)
    · have h4 : ¬ l.kind = 4 := by omega
      have hat := hat h4
      have hj5 : j < 6 := by omega
      rw [hrn h4, if_neg h1, if_neg h2']
      refine WR.ev hat rfl rfl rfl ?_
      simp only [List.cons_append, List.nil_append]
      generalize atF l.f x w = n at *
      refine WR.chkApp (dL t) 10 (by rw [dL_len]; omega) (by omega) rfl ?_
      refine WR.nextA (vs := [.l (dL (t ++ [n])), .l (dL x), .i (i + 1)]) ?_ ⟨a.length - (i + 1).toNat, by omega, i + 1, x, t ++ [n], j + 1, rfl, by omega, by omega, rfl, by omega, by omega, hx, hl.mono (XB_mono (by omega)), by simp; omega, rfl⟩
      show [V.l (dL t ++ [dI n]), V.l (dL x), V.i (IntKind.i64.wrap (i + 1))] = _
      rw [w64 (by omega) (by omega), dL_snoc]
    · have h4 : l.kind = 4 := by
        by_cases h4 : l.kind = 4
        · exact h4
        · exact absurd (ok_kind hok h1 h2' h4) h3'
      rw [hdr, run, if_pos h4]
      refine WR.chkN (dL v) 2000000 (by rw [dL_len]; omega) (by omega) rfl ?_
      refine WR.head (head_dL v) ?_
      refine WR.chkN (dL v) 2000000 (by rw [dL_len]; omega) (by omega) rfl (WR.esc (WR.done rfl))
  · rw [dAct_len] at hi
    rw [List.drop_eq_nil_of_le (by omega), run]
    refine WR.esc ?_
    exact WR.ev (ev_l2End v x t hv (by omega)) rfl rfl rfl (WR.done rfl)

/-- What may come of an act that is ok. -/
def fineRes (v : List Int) (r : Res) : Prop := (r.code = 1 ∧ valOk r.is = true ∧ r.tells.length ≤ 6 ∧ Lim 999999999999 r.tells) ∨ (r.is = v ∧ r.tells = [] ∧ (r.code = 2 ∨ r.code = 3))

theorem run_fine {v w : List Int} (hw : Lim 9 w) : ∀ (n : Nat) (a : List Line) (x t : List Int) (j : Nat), a.length ≤ n → (∀ l ∈ a, l.ok = true) → j + a.length ≤ 6 → x.length = 3 → Lim (XB j) x → t.length ≤ j → Lim 999999999999 t → fineRes v (run v w a x t)
  | n, [], x, t, j, _, _, hj, hx, hl, ht, hlt => by
    rw [run]
    unfold endOf
    split
    · rename_i h
      exact .inl ⟨rfl, h, by simp at hj; show t.length ≤ 6; omega, hlt⟩
    · exact .inr ⟨rfl, rfl, .inr rfl⟩
  | 0, l :: a, x, t, j, h, _, _, _, _, _, _ => by simp at h
  | n + 1, l :: a, x, t, j, h, hok, hj, hx, hl, ht, hlt => by
    have hok1 := hok l (by simp)
    have hok2 : ∀ l ∈ a, l.ok = true := fun m hm => hok m (by simp [hm])
    simp only [List.length_cons] at h hj
    rw [run]
    split
    · exact .inr ⟨rfl, rfl, .inl rfl⟩
    · rename_i h4
      have hX0 := XB_pos j
      have hXl := XB_le (n := j) (by omega)
      have hb := at_small (okLine_small hok1 h4) hl hw hX0
      split
      · split
        · exact run_fine hw n _ x t j (by simp; omega) (fun m hm => hok2 m (List.mem_of_mem_drop hm)) (by simp; omega) hx hl ht hlt
        · exact run_fine hw n a x t j (by omega) hok2 (by omega) hx hl ht hlt
      · split
        · rename_i h2
          have hpt := ok_pot hok1 h2
          have hxp := at_getD (l := x) (i := l.pot.toNat) (by omega)
          have hlp := hl _ (List.mem_of_getElem? hxp)
          have hstep : XB (j + 1) = 7 * XB j + 60 := rfl
          exact run_fine hw n a _ t (j + 1) (by omega) hok2 (by omega) (by simp [hx]) ((hl.mono (XB_mono (by omega))).set (by omega) _) (by omega) hlt
        · refine run_fine hw n a x _ (j + 1) (by omega) hok2 (by omega) hx (hl.mono (XB_mono (by omega))) (by simp; omega) ?_
          intro y hy
          rcases List.mem_append.1 hy with h | h
          · exact hlt y h
          · simp only [List.mem_singleton] at h; subst h; omega

theorem actRun_fine {a : List Line} {v w : List Int} (h1 : actOk a = true) (h2 : valOk v = true) (h3 : argOk w = true) : fineRes v (actRun a v w) := by
  obtain ⟨v1, v2⟩ := valOk_iff.1 h2
  obtain ⟨w1, w2⟩ := argOk_iff.1 h3
  obtain ⟨a1, a2⟩ := actOk_in h1
  have hrun : actRun a v w = run v w a v [] := by simp [actRun, h1, h2, h3]
  rw [hrun]
  exact run_fine w2 a.length a v [] 0 (by omega) a2 (by omega) v1 v2 (by simp) (fun x hx => by simp at hx)

theorem ev_FnActKept (ns : List Int) (hb : ∀ x ∈ ns, 0 ≤ x ∧ x < 256) : Ev L f_laws_FnActKept [.s (bytesD ns)] [dB true] := by
  refine Ev.eq (vs := [.l (bytesD ns)]) L_laws_FnActKept rfl ?_
  refine WR.iteP (1048576 < ((bytesD ns).length : Int)) rfl (fun _ => WR.done rfl) (fun _ => ?_)
  obtain ⟨a, v, w, hd, ha, hv, hw⟩ := ev_DrawActRun ns hb
  have hf := ha.fit
  refine WR.ev hd rfl rfl rfl ?_
  refine WR.ev (ev_ActRun a v w hf (by omega) (by omega)) rfl rfl rfl ?_
  refine WR.ev (ev_sActRun a v w hf (by omega) (by omega)) rfl rfl rfl ?_
  have hfine : actOk a = true → valOk v = true → argOk w = true → fineRes v (actRun a v w) := fun h1 h2 h3 => actRun_fine h1 h2 h3
  have hno : ¬ (actOk a = true ∧ valOk v = true ∧ argOk w = true) → actRun a v w = ⟨0, [], []⟩ := fun h => by
    unfold actRun
    rw [if_neg]
    simpa [Bool.and_eq_true] using h
  have htl : (actRun a v w).tells.length ≤ 2000000 ∧ (actRun a v w).is.length ≤ 2000000 := by
    by_cases h : actOk a = true ∧ valOk v = true ∧ argOk w = true
    · rcases hfine h.1 h.2.1 h.2.2 with ⟨_, h2, h3, _⟩ | ⟨h2, h3, _⟩
      · have := (valOk_iff.1 h2).1; omega
      · rw [h2, h3]; simp; omega
    · rw [hno h]; simp
  generalize actRun a v w = R at *
  simp only [List.cons_append, List.nil_append]
  have hco := ev_coRes R.code R.code R.tells R.tells htl.1
  have hco2 := ev_coInts R.is R.is htl.2
  rw [decide_eq_true rfl, decide_eq_true rfl] at hco
  rw [decide_eq_true rfl] at hco2
  refine WR.ev hco rfl rfl rfl (WR.iteF rfl ?_)
  refine WR.ev hco2 rfl rfl rfl (WR.iteF rfl ?_)
  simp only [List.cons_append, List.nil_append]
  refine WR.ev (ev_ActOk a hf) rfl rfl rfl ?_
  refine WR.iteN (actOk a) rfl (fun h1 => ?_) (fun h1 => ?_)
  · rw [hno (by simp [h1])]
    exact WR.iteT rfl (WR.iteT rfl (WR.ev ev_coHolds rfl rfl rfl (WR.done rfl)))
  refine WR.ev (ev_sValOk v (by omega)) rfl rfl rfl ?_
  refine WR.iteN (valOk v) rfl (fun h2 => ?_) (fun h2 => ?_)
  · rw [hno (by simp [h2])]
    exact WR.iteT rfl (WR.iteT rfl (WR.ev ev_coHolds rfl rfl rfl (WR.done rfl)))
  refine WR.ev (sArgOk w (by omega)) rfl rfl rfl ?_
  refine WR.iteN (argOk w) rfl (fun h3 => ?_) (fun h3 => ?_)
  · rw [hno (by simp [h3])]
    exact WR.iteT rfl (WR.iteT rfl (WR.ev ev_coHolds rfl rfl rfl (WR.done rfl)))
  simp only [List.cons_append, List.nil_append]
  have hres := ev_iResOk R.code R.tells htl.1
  have hvo := ev_ValOk R.is htl.2
  rcases hfine h1 h2 h3 with ⟨e1, e2, e3, e4⟩ | ⟨e1, e2, e3⟩
  · have hok : resOk R.code R.tells = true := resOk_iff.2 ⟨by omega, e3, .inl e1, e4⟩
    rw [hok] at hres
    rw [e2] at hvo
    refine WR.ev hvo rfl rfl rfl (WR.iteT rfl ?_)
    refine WR.iteT (by show decide (R.code = 1) = true; rw [e1]; rfl) (WR.ev hres rfl rfl rfl (WR.done rfl))
  · have hok : resOk R.code R.tells = true := resOk_iff.2 ⟨by omega, by rw [e2]; simp, .inr e2, by rw [e2]; intro x hx; simp at hx⟩
    rw [hok] at hres
    rw [e1, h2] at hvo
    rw [e1]
    refine WR.ev hvo rfl rfl rfl (WR.iteT rfl ?_)
    refine WR.iteF (by show decide (R.code = 1) = false; rw [decide_eq_false]; omega) ?_
    have hco3 := ev_coInts v v (by omega)
    rw [decide_eq_true rfl] at hco3
    refine WR.ev hco3 rfl rfl rfl (WR.iteT rfl ?_)
    refine WR.iteT (by show decide (((dL R.tells).length : Int) = 0) = true; rw [e2]; rfl) (WR.ev hres rfl rfl rfl (WR.done rfl))

end Go.Proofs.YtdibnlhlngodeaaDoor

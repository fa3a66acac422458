import Derived.Test.YtdibnlhlngodeaaGreatDoorPI
set_option linter.unusedVariables false
set_option linter.unusedSimpArgs false
/- What the reference's catalogue of parts and pins comes to. -/
namespace Go.Proofs.YtdibnlhlngodeaaGreatDoor
open Go Go.Tm
structure PartsFit (n : Nat) (s : List (List Int)) : Prop where
  len : s.length ≤ n
  each : ∀ q ∈ s, q.length = 3 ∧ Lim 10000000 q
theorem PartsFit.add {n : Nat} {s : List (List Int)} (h : PartsFit n s) {f : Frm} (hf : Std 10000000 f) : PartsFit (n + 1) (addPart s f) :=
  ⟨by have := addPart_len s f; have := h.len; omega, addPart_all h.each ⟨by rw [part_len]; exact hf.c, part_lim hf.lc⟩⟩
theorem PartsFit.mono {n m : Nat} {s : List (List Int)} (h : PartsFit n s) (hm : n ≤ m) : PartsFit m s := ⟨by have := h.len; omega, h.each⟩
theorem PartsFit.adds {n : Nat} {s : List (List Int)} (h : PartsFit n s) {fs : List Frm} (hf : ∀ f ∈ fs, Std 10000000 f) : PartsFit (n + fs.length) (fs.foldl addPart s) := by
  induction fs generalizing n s with
  | nil => exact h
  | cons f fs ih => exact (ih (h.add (hf f (by simp))) fun g hg => hf g (by simp [hg])).mono (by simp; omega)
theorem PartsFit.rows {n : Nat} {s : List (List Int) × List Bool} (h : PartsFit n s.1) (h3 : s.2.length = 3) {rs : List Row} (hr : ∀ r ∈ rs, RowFit r) : PartsFit (n + 6 * rs.length) (rs.foldl rowBoth s).1 ∧ (rs.foldl rowBoth s).2.length = 3 := by
  induction rs generalizing n s with
  | nil => exact ⟨h, h3⟩
  | cons r rs ih =>
    have hr1 := hr r (by simp)
    have a := (h.adds hr1.g).mono (show n + r.guards.length ≤ n + 6 by have := hr1.gl; omega)
    have b : (rowBoth s r).2.length = 3 := readsL_len (readsL_len h3 fun f hf => (hr1.a f hf).c) fun f hf => (hr1.t f hf).c
    have := ih (s := rowBoth s r) (n := n + 6) a b fun x hx => hr x (by simp [hx])
    exact ⟨this.1.mono (by simp; omega), this.2⟩
theorem both_fit (as : List (List Line)) : PartsFit (3 + 384 * as.length) (both as).1 ∧ (both as).2.length = 3 := by
  have key : ∀ (n : Nat) (s : List (List Int) × List Bool), PartsFit n s.1 → s.2.length = 3 → PartsFit (n + 384 * as.length) (as.foldl actBoth s).1 ∧ (as.foldl actBoth s).2.length = 3 := by
    induction as with
    | nil => intro n s h h3; exact ⟨h, h3⟩
    | cons a as ih =>
      intro n s h h3
      have := h.rows h3 (rs := rowsOf a) rows_fit
      have hl := rows_len a
      have := ih (n + 384) (actBoth s a) (this.1.mono (by omega)) this.2
      exact ⟨this.1.mono (by simp; omega), this.2⟩
  refine key 3 _ ⟨by simp [pots0], ?_⟩ rfl
  intro q hq
  simp [pots0] at hq
  rcases hq with rfl | rfl | rfl <;> exact ⟨rfl, by intro x hx; simp at hx; omega⟩
theorem rdR {rs : List Row} {i : Nat} {r : Row} (h : rs[i]? = some r) : (dRows rs)[i]? = some r.g := map_at (f := Row.g) h
set_option maxHeartbeats 8000000 in
theorem ev_l4Both (as : List (List Line)) (hf : fitActs as) (h4 : as.length ≤ 4) : Ev L f_k19 [.s (dActs as)] [.s (dLL (both as).1), .s (dBl (both as).2)] := by
  refine Ev.eq (vs := [.l (dActs as)]) L_k19 rfl ?_
  refine WR.forP 3 (fun v => [.l (dLL (pots0.take v)), .i v]) (fun _ => True) rfl rfl trivial fun v hv _ => ?_
  refine WR.iteLt v 3 rfl (fun hv3 => ?_) (fun hv3 => ?_)
  · refine WR.ev (ev_FrmPot v (by omega) (by omega)) rfl rfl rfl ?_
    have hp : pots0[v]? = some (potF (v : Int).toNat).c := by
      rw [Int.toNat_natCast]
      match v, hv3 with
      | 0, _ | 1, _ | 2, _ => rfl
      | n + 3, h => omega
    refine WR.chkApp (dLL (pots0.take v)) 3 (by rw [dLL_len]; simp; omega) (by omega) rfl ?_
    refine WR.nextA (vs := [.l (dLL (pots0.take (v + 1))), .i ((v + 1 : Nat) : Int)]) ?_ ⟨hv3, rfl, trivial⟩
    show [V.l (dLL (pots0.take v) ++ [.s (dL (potF (v : Int).toNat).c)]), V.i (IntKind.i64.wrap ((v : Int) + 1))] = _
    rw [wS hv3 (by omega), dLL_snoc, take_succ hp]
  have hv3 : v = 3 := by omega
  subst hv3
  refine WR.esc ?_
  refine WR.forS as.length (fun i vs => ∃ b : List (List Int) × List Bool, vs = [.l (dLL b.1), .l (dBl b.2), .i i] ∧ b = both (as.take i)) rfl ⟨(pots0, [false, false, false]), rfl, rfl⟩ ?_
  rintro i _ hi ⟨⟨b1, b2⟩, rfl, hb⟩
  simp only [sCA, sNA]
  refine WR.iteLen i (dActs_len as) rfl (fun h => ?_) (fun h => ?_)
  · obtain ⟨a, ha, hm⟩ := some_at h
    have hB : both (as.take (i + 1)) = actBoth (b1, b2) a := by rw [hb]; exact foldl_take ha
    obtain ⟨f1, f2⟩ := both_fit (as.take i)
    rw [← hb] at f1 f2
    have f1 := f1.mono (show 3 + 384 * (as.take i).length ≤ 1600 by simp; omega)
    have hrl := rows_len a
    refine WR.idxN i (map_at (f := fun a => .s (dAct a)) ha) rfl rfl rfl rfl ?_
    refine WR.ev (ev_RowsOf a (hf.2 a hm)) rfl rfl rfl ?_
    have hrf : ∀ r ∈ rowsOf a, RowFit r := rows_fit
    have hAB : actBoth (b1, b2) a = (rowsOf a).foldl rowBoth (b1, b2) := rfl
    generalize rowsOf a = rs at *
    refine WR.forS rs.length (fun k vs => ∃ c : List (List Int) × List Bool, vs = [.l (dLL c.1), .l (dBl c.2), .i k] ∧ c = (rs.take k).foldl rowBoth (b1, b2)) rfl ⟨(b1, b2), rfl, rfl⟩ ?_
    rintro k _ hk ⟨⟨c1, c2⟩, rfl, hc⟩
    simp only [sCA, sNA]
    refine WR.iteLen k (dRows_len rs) rfl (fun h' => ?_) (fun h' => ?_)
    · obtain ⟨r, hr, hmr⟩ := some_at h'
      have hfit := hrf r hmr
      have hC : (rs.take (k + 1)).foldl rowBoth (b1, b2) = rowBoth (c1, c2) r := by rw [hc]; exact foldl_take hr
      obtain ⟨g1, g2⟩ := f1.rows f2 (rs := rs.take k) fun x hx => hrf x (List.mem_of_mem_take hx)
      rw [← hc] at g1 g2
      have g1 := g1.mono (show 1600 + 6 * (rs.take k).length ≤ 2000 by simp; omega)
      have hRd := rdR hr
      refine WR.atN k hRd rfl rfl rfl rfl rfl rfl ?_
      refine WR.ev (ev_l4Reads c2 r.adds g2 (fun f hf => (hfit.a f hf).c) (by have := hfit.al; omega)) rfl rfl rfl ?_
      refine WR.atN k hRd rfl rfl rfl rfl rfl rfl ?_
      have e3 : (readsL c2 r.adds).length = 3 := readsL_len g2 fun f hf => (hfit.a f hf).c
      refine WR.ev (ev_l4Reads (readsL c2 r.adds) r.tells e3 (fun f hf => (hfit.t f hf).c) (by have := hfit.tl; omega)) rfl rfl rfl ?_
      have hR : rowBoth (c1, c2) r = (r.guards.foldl addPart c1, readsL (readsL c2 r.adds) r.tells) := rfl
      generalize readsL (readsL c2 r.adds) r.tells = d2 at *
      generalize readsL c2 r.adds = d1 at *
      have hgl := hfit.gl
      refine WR.forS r.guards.length (fun g vs => ∃ e : List (List Int), vs = [.l (dLL e), .i g] ∧ e = (r.guards.take g).foldl addPart c1) rfl ⟨c1, rfl, rfl⟩ ?_
      rintro g _ hg ⟨e, rfl, he⟩
      simp only [sCA, sNA]
      refine WR.atN k hRd rfl rfl rfl rfl rfl rfl ?_
      refine WR.iteLen g (dF_len r.guards) rfl (fun hg' => ?_) (fun hg' => ?_)
      · obtain ⟨f, hfg, hmf⟩ := some_at hg'
        have hsf := hfit.g f hmf
        have hE : (r.guards.take (g + 1)).foldl addPart c1 = addPart e f := by rw [he]; exact foldl_take hfg
        have e1 := (g1.adds (fs := r.guards.take g) fun x hx => hfit.g x (List.mem_of_mem_take hx)).mono (show 2000 + (r.guards.take g).length ≤ 2010 by simp; omega)
        rw [← he] at e1
        have nx : ∀ (x : List (List Int)), x = addPart e f → [V.l (dLL x), V.i (IntKind.i64.wrap ((g : Int) + 1))] = [.l (dLL (addPart e f)), .i ((g + 1 : Nat) : Int)] := by
          intro x hx; rw [hx, wS hg' (by omega)]
        refine WR.atN k hRd rfl rfl rfl rfl rfl rfl ?_
        refine WR.idxN g (map_at (f := Frm.g) hfg) rfl rfl rfl rfl ?_
        refine WR.ev (ev_CatPart f (hsf.lc.mono (by omega)) (by rw [hsf.c]; omega)) rfl rfl rfl ?_
        have el := e1.len
        have hp3 : (partOf f.c).length = 3 := by rw [part_len]; exact hsf.c
        have hAP : addPart e f = if hasAt e (partOf f.c) < 0 ∧ partOf f.c ≠ [0, 0, 0] then e ++ [partOf f.c] else e := rfl
        generalize partOf f.c = pt at *
        refine WR.ev (ev_CatHas e pt (by omega) (fun q hq => by rw [(e1.each q hq).1]; omega)) rfl rfl rfl ?_
        generalize hasAt e pt = ha at *
        refine WR.iteP (ha < 0) rfl (fun h0 => ?_) (fun h0 => ?_)
        · refine WR.ev ev_FrmZero rfl rfl rfl ?_
          refine WR.ev (ev_l4Same pt [0, 0, 0] (by omega)) rfl rfl rfl ?_
          refine WR.iteN (decide (pt = [0, 0, 0])) rfl (fun hz => ?_) (fun hz => ?_)
          · refine WR.chkApp (dLL e) 3000 (by rw [dLL_len]; omega) (by omega) rfl ?_
            refine WR.nextA (vs := [.l (dLL (addPart e f)), .i ((g + 1 : Nat) : Int)]) ?_ ⟨hg', addPart e f, rfl, hE.symm⟩
            show [V.l (dLL e ++ [.s (dL pt)]), V.i (IntKind.i64.wrap ((g : Int) + 1))] = _
            rw [dLL_snoc]
            refine nx _ ?_
            rw [hAP, if_pos ⟨h0, by simpa using hz⟩]
          · refine WR.nextA (nx e ?_) ⟨hg', addPart e f, rfl, hE.symm⟩
            rw [hAP, if_neg]
            intro ⟨_, h⟩
            exact h (by simpa using hz)
        · refine WR.nextA (nx e ?_) ⟨hg', addPart e f, rfl, hE.symm⟩
          rw [hAP, if_neg]
          intro ⟨h, _⟩
          exact h0 h
      · refine WR.esc ?_
        rw [take_all hg'] at he
        refine WR.nextA (vs := [.l (dLL e), .l (dBl d2), .i ((k + 1 : Nat) : Int)]) ?_ ⟨h', (e, d2), rfl, by rw [hC, hR, he]⟩
        show [V.l (dLL e), V.l (dBl d2), V.i (IntKind.i64.wrap ((k : Int) + 1))] = _
        rw [wS h' (by omega)]
    · refine WR.esc ?_
      rw [take_all h'] at hc
      refine WR.nextA (vs := [.l (dLL c1), .l (dBl c2), .i ((i + 1 : Nat) : Int)]) ?_ ⟨h, (c1, c2), rfl, by rw [hB, hAB, hc]⟩
      show [V.l (dLL c1), V.l (dBl c2), V.i (IntKind.i64.wrap ((i : Int) + 1))] = _
      rw [wS h (by omega)]
  · refine WR.esc (WR.done ?_)
    show [D.s (dLL b1), .s (dBl b2)] = _
    rw [take_all h] at hb
    rw [← hb]
theorem catOk_len {as : List (List Line)} (h : catOk as = true) : 1 ≤ as.length ∧ as.length ≤ 4 ∧ ∀ a ∈ as, actOk a = true := by
  simp only [catOk, Bool.and_eq_true, inB_iff, List.all_eq_true] at h
  exact ⟨by omega, by omega, h.2⟩
theorem catForms_fit (as : List (List Line)) : PartsFit 1600 (catForms as) := by
  unfold catForms
  split
  · rename_i h
    exact (both_fit as).1.mono (by have := (catOk_len h).2.1; omega)
  · exact ⟨by simp, by simp⟩
end Go.Proofs.YtdibnlhlngodeaaGreatDoor

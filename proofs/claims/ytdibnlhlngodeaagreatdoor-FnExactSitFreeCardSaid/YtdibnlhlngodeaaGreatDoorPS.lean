import Derived.Test.YtdibnlhlngodeaaGreatDoorPR
import Derived.Test.YtdibnlhlngodeaaGreatDoorTd
set_option linter.unusedVariables false
set_option linter.unusedSimpArgs false
/- All is kept an eye on; who tells of a pot pins it; with an act more there is more: over residual programs. -/
namespace Go.Proofs.YtdibnlhlngodeaaGreatDoor
open Go Go.Tm
theorem ev_zeros_1 (x : Int) : Ev L f_k30 [dI x] [dB (nz x)] := Ev.eq (vs := [.i x]) L_k30 rfl (WR.done rfl)
theorem ev_zeros (l : List Int) (hl : l.length = 3) : Ev L f_k31 [.s (dL l)] [dB (decide (l = [0, 0, 0]))] := by
  refine Ev.eq (vs := [.l (dL l)]) L_k31 rfl ?_
  refine WR.ev (ev_hasInt nz l (fn := f_k30) (caps := []) (by omega) rfl rfl fun x _ => ev_zeros_1 x) rfl rfl rfl (WR.done ?_)
  show [dB (!(l.any nz))] = _
  obtain ⟨a, b, c, rfl⟩ := len3 hl
  congr 3
  by_cases h1 : a = 0 <;> by_cases h2 : b = 0 <;> by_cases h3 : c = 0 <;> simp [nz, h1, h2, h3]
theorem ev_CatPart_1 (x : Int) : Ev L f_k2y [dI x] [dB (nz x)] := Ev.eq (vs := [.i x]) L_k2y rfl (WR.done rfl)
theorem ev_iPart (f : Frm) (hl : Lim 1000000000 f.c) (hn : f.c.length ≤ 2000000) : Ev L f_k2z f.cells [.s (dL (partOf f.c))] := by
  refine Ev.eq (vs := [.l (dL f.c), .l (dL f.d), .i f.k]) L_k2z rfl ?_
  refine WR.ev (ev_clone1 f.c hn) rfl rfl rfl ?_
  refine WR.ev (ev_idxInt nz f.c (fn := f_k2y) (caps := []) hn rfl rfl fun x _ => ev_CatPart_1 x) rfl rfl rfl ?_
  simp only [sCA, sNA]
  rcases place_cases nz f.c with ⟨hp, ha⟩ | ⟨i, x, hp, hx, hnx, ht⟩
  · rw [hp]
    refine WR.iteF rfl (WR.done ?_)
    show [D.s (dL f.c)] = _
    rw [sgn_none ha]
  rw [hp]
  have hi := (List.getElem?_eq_some_iff.1 hx).1
  have hs := sgn_some hx hnx ht
  have hx0 : x ≠ 0 := by simpa [nz] using hnx
  refine WR.iteP ((0 : Int) ≤ (i : Int)) rfl (fun _ => ?_) (fun h => by omega)
  refine WR.atN i (map_at (f := dI) hx) rfl rfl rfl rfl rfl rfl ?_
  simp only [sCA, sNA]
  refine WR.iteP (x < 0) rfl (fun hneg => ?_) (fun hpos => WR.done ?_)
  · have hpart : partOf f.c = f.c.map fun y => 0 - y := by
      unfold partOf
      rw [hs, if_neg (by omega)]
      apply List.map_congr_left
      intro y _; omega
    rw [hpart]
    refine WR.forP f.c.length (fun k => [.l (dL ((f.c.map fun y => 0 - y).take k ++ f.c.drop k)), .i k]) (fun _ => True) rfl rfl trivial fun k hk _ => ?_
    simp only [sCA, sNA]
    refine WR.iteLen k (dL_len f.c) rfl (fun h => ?_) (fun h => ?_)
    · obtain ⟨y, hy, hm⟩ := some_at h
      have hly := hl y hm
      have hcur : ((f.c.map fun y => 0 - y).take k ++ f.c.drop k)[k]? = some y := by
        rw [List.getElem?_append_right (by simp; omega), List.getElem?_drop]
        rw [show k + (k - ((f.c.map fun y => 0 - y).take k).length) = k by simp; omega]; exact hy
      have hny : (f.c.map fun y => 0 - y)[k]? = some (0 - y) := by simp [hy]
      refine WR.atN k (map_at (f := dI) hcur) rfl rfl rfl rfl rfl rfl ?_
      refine WR.atN k (map_at (f := dI) hcur) rfl rfl rfl rfl rfl rfl ?_
      refine WR.nextA (vs := [.l (dL ((f.c.map fun y => 0 - y).take (k + 1) ++ f.c.drop (k + 1))), .i ((k + 1 : Nat) : Int)]) ?_ ⟨h, rfl, trivial⟩
      show [V.l ((dL ((f.c.map fun y => 0 - y).take k ++ f.c.drop k)).set (k : Int).toNat (dI (IntKind.i64.wrap (0 - y)))), V.i (IntKind.i64.wrap ((k : Int) + 1))] = _
      rw [wS h (by omega), w64 (by omega) (by omega), dL_set, Int.toNat_natCast, fill' (by simp) hny]
    · refine WR.esc (WR.done ?_)
      show [D.s (dL ((f.c.map fun y => 0 - y).take k ++ f.c.drop k))] = _
      rw [List.take_of_length_le (by simp; omega), List.drop_eq_nil_of_le (by omega), List.append_nil]
  · show [D.s (dL f.c)] = _
    unfold partOf
    rw [hs, if_pos (by omega)]
    congr 3
    conv => lhs; rw [← List.map_id f.c]
    apply List.map_congr_left
    intro y _
    show y = 1 * y
    omega
theorem ev_CatHas_1 (q p : List Int) (hq : q.length ≤ 2000000) : Ev L f_k32 [.s (dL q), .q [.s (dL p)]] [dB (decide (q = p))] :=
  Ev.eq (vs := [.l (dL q), .d (.q [.s (dL p)])]) L_k32 rfl (WR.get (vs := [.l (dL p)]) rfl rfl (WR.ev (ev_equal q p hq) rfl rfl rfl (WR.done rfl)))
theorem ev_iHas (l : List (List Int)) (p : List Int) (hl : l.length ≤ 2000000) (hq : ∀ q ∈ l, q.length ≤ 2000000) : Ev L f_k34 [.s (dLL l), .s (dL p)] [dI (hasAt l p)] :=
  Ev.eq (vs := [.l (dLL l), .l (dL p)]) L_k34 rfl (WR.ev (ev_idxInts (fun q => decide (q = p)) l (fn := f_k32) (caps := [.q [.s (dL p)]]) hl rfl rfl fun q h => ev_CatHas_1 q p (hq q h)) rfl rfl rfl (WR.done rfl))
theorem ev_CatOk_1 (a : List Line) (ha : fitAct a) : Ev L f_k2b ([.s (dAct a)] ++ ([] : List D).map D.norm) [dB (!actOk a)] :=
  Ev.eq (vs := [.l (dAct a)]) L_k2b rfl (WR.ev (ev_iActOk a ha) rfl rfl rfl (WR.done rfl))
theorem ev_iCatOk (as : List (List Line)) (hf : fitActs as) : Ev L f_k2c [.s (dActs as)] [dB (catOk as)] := by
  have hl := hf.1
  refine Ev.eq (vs := [.l (dActs as)]) L_k2c rfl ?_
  refine WR.ev (ev_in as.length 1 4) rfl ?_ rfl ?_
  · show [dI ((dActs as).length : Int), dI 1, dI 4] = _
    rw [dActs_len]
  refine WR.iteB (inB as.length 1 4) rfl (fun h => ?_) (fun h => WR.done ?_)
  · have e : Ev L f_k21 [.s (dActs as), .f f_k2b []] [dB (as.any fun a => !actOk a)] :=
      ev_contains (g := f_k20) L_k21 rfl rfl
        (ev_idxFunc (sh := .one .s) (as := [(.s (.v 3))]) (ar := [none]) (k := 4) (caps := []) (fun a => .s (dAct a)) (fun a => !actOk a) (fun a => [.s (dAct a)]) (fun a => [.l (dAct a)]) as
          L_k20 rfl hl rfl (fun _ _ => rfl) (fun _ _ => rfl) (fun _ _ _ _ => rfl) rfl fun a ha => ev_CatOk_1 a (hf.2 a ha))
    refine WR.ev e rfl rfl rfl (WR.done ?_)
    show [dB (!(as.any fun a => !actOk a))] = _
    rw [not_any]; simp [catOk, h]
  · show [dB false] = _
    simp [catOk, h]
set_option maxHeartbeats 2000000 in
theorem ev_iForms (as : List (List Line)) (hf : fitActs as) : Ev L f_k35 [.s (dActs as)] [.s (dLL (catForms as))] := by
  refine Ev.eq (vs := [.l (dActs as)]) L_k35 rfl ?_
  refine WR.ev (ev_iCatOk as hf) rfl rfl rfl ?_
  refine WR.iteN (catOk as) rfl (fun h => WR.done ?_) (fun hok => ?_)
  · show [D.s []] = _
    simp [catForms, h, dLL]
  have h4 := (catOk_len hok).2.1
  have hcf : catForms as = (both as).1 := by simp [catForms, hok]
  rw [hcf]
  simp only [sCA, sNA]
  refine WR.forP 3 (fun v => [.l (dLL (pots0.take v)), .i v]) (fun _ => True) rfl rfl trivial fun v hv _ => ?_
  simp only [sCA, sNA]
  refine WR.iteLt v 3 rfl (fun hv3 => ?_) (fun hv3 => ?_)
  · refine WR.ev (ev_iPot v (by omega) (by omega)) rfl rfl rfl ?_
    refine WR.fl (flats_dL _) ?_
    have hp : pots0[v]? = some (potF (v : Int).toNat).c := by
      rw [Int.toNat_natCast]
      match v, hv3 with
      | 0, _ | 1, _ | 2, _ => rfl
      | n + 3, h => omega
    refine WR.chkApp (dLL (pots0.take v)) 3 (by rw [dLL_len]; simp; omega) (by omega) rfl ?_
    refine WR.nextA (vs := [.l (dLL (pots0.take (v + 1))), .i ((v + 1 : Nat) : Int)]) ?_ ⟨hv3, rfl, trivial⟩
    show [V.l (dLL (pots0.take v) ++ [.s (dL (potF (v : Int).toNat).c)]), V.i (IntKind.i64.wrap ((v : Int) + 1))] = _
    rw [wS hv3 (by omega), dLL_snoc, take_succ hp]
  have hv3 : v = 3 := by omega
  subst hv3
  refine WR.esc ?_
  refine WR.forS as.length (fun i vs => ∃ b : List (List Int) × List Bool, vs = [.l (dLL b.1), .i i] ∧ b = both (as.take i)) rfl ⟨(pots0, [false, false, false]), rfl, rfl⟩ ?_
  rintro i _ hi ⟨⟨b1, b2⟩, rfl, hb⟩
  simp only [sCA, sNA]
  refine WR.iteLen i (dActs_len as) rfl (fun h => ?_) (fun h => ?_)
  · obtain ⟨a, ha, hm⟩ := some_at h
    have hB : both (as.take (i + 1)) = actBoth (b1, b2) a := by rw [hb]; exact foldl_take ha
    obtain ⟨f1, f2⟩ := both_fit (as.take i)
    rw [← hb] at f1 f2
    have f1 := f1.mono (show 3 + 384 * (as.take i).length ≤ 1600 by simp; omega)
    have hrl := rows_len a
    refine WR.idxN i (map_at (f := fun a => .s (dAct a)) ha) rfl rfl rfl rfl ?_
    refine WR.ev (ev_iRowsOf a (hf.2 a hm)) rfl rfl rfl ?_
    have hrf : ∀ r ∈ rowsOf a, RowFit r := rows_fit
    have hAB : actBoth (b1, b2) a = (rowsOf a).foldl rowBoth (b1, b2) := rfl
    generalize rowsOf a = rs at *
    refine WR.forS rs.length (fun k vs => ∃ c : List (List Int) × List Bool, vs = [.l (dLL c.1), .i k] ∧ c = (rs.take k).foldl rowBoth (b1, b2)) rfl ⟨(b1, b2), rfl, rfl⟩ ?_
    rintro k _ hk ⟨⟨c1, c2⟩, rfl, hc⟩
    simp only [sCA, sNA]
    refine WR.iteLen k (dRows_len rs) rfl (fun h' => ?_) (fun h' => ?_)
    · obtain ⟨r, hr, hmr⟩ := some_at h'
      have hfit := hrf r hmr
      have hC : (rs.take (k + 1)).foldl rowBoth (b1, b2) = rowBoth (c1, c2) r := by rw [hc]; exact foldl_take hr
      obtain ⟨g1, g2⟩ := f1.rows f2 (rs := rs.take k) fun x hx => hrf x (List.mem_of_mem_take hx)
      rw [← hc] at g1 g2
      have g1 := g1.mono (show 1600 + 6 * (rs.take k).length ≤ 2000 by simp; omega)
      refine WR.atN k (rdR hr) rfl rfl rfl rfl rfl rfl ?_
      simp only [sCA, sNA]
      have hR : rowBoth (c1, c2) r = (r.guards.foldl addPart c1, readsL (readsL c2 r.adds) r.tells) := rfl
      have hgl := hfit.gl
      refine WR.forS r.guards.length (fun g vs => ∃ e : List (List Int), vs = [.l (dLL e), .i g] ∧ e = (r.guards.take g).foldl addPart c1) rfl ⟨c1, rfl, rfl⟩ ?_
      rintro g _ hg ⟨e, rfl, he⟩
      simp only [sCA, sNA]
      refine WR.iteLen g (dF_len r.guards) rfl (fun hg' => ?_) (fun hg' => ?_)
      · obtain ⟨f, hfg, hmf⟩ := some_at hg'
        have hsf := hfit.g f hmf
        have hE : (r.guards.take (g + 1)).foldl addPart c1 = addPart e f := by rw [he]; exact foldl_take hfg
        have e1 := (g1.adds (fs := r.guards.take g) fun x hx => hfit.g x (List.mem_of_mem_take hx)).mono (show 2000 + (r.guards.take g).length ≤ 2010 by simp; omega)
        rw [← he] at e1
        have nx : ∀ (x : List (List Int)), x = addPart e f → [V.l (dLL x), V.i (IntKind.i64.wrap ((g : Int) + 1))] = [.l (dLL (addPart e f)), .i ((g + 1 : Nat) : Int)] := by
          intro x hx; rw [hx, wS hg' (by omega)]
        refine WR.idxN g (map_at (f := Frm.g) hfg) rfl rfl rfl rfl ?_
        refine WR.ev (ev_iPart f (hsf.lc.mono (by omega)) (by rw [hsf.c]; omega)) rfl rfl rfl ?_
        simp only [sCA, sNA]
        have el := e1.len
        have hp3 : (partOf f.c).length = 3 := by rw [part_len]; exact hsf.c
        have hAP : addPart e f = if hasAt e (partOf f.c) < 0 ∧ partOf f.c ≠ [0, 0, 0] then e ++ [partOf f.c] else e := rfl
        generalize partOf f.c = pt at *
        refine WR.ev (ev_zeros pt hp3) rfl rfl rfl ?_
        refine WR.iteN (decide (pt = [0, 0, 0])) rfl (fun hz => ?_) (fun hz => ?_)
        · refine WR.ev (ev_iHas e pt (by omega) (fun q hq => by rw [(e1.each q hq).1]; omega)) rfl rfl rfl ?_
          generalize hasAt e pt = ha at *
          refine WR.iteP (ha < 0) rfl (fun h0 => ?_) (fun h0 => ?_)
          · refine WR.fl (flats_dL _) ?_
            refine WR.chkApp (dLL e) 3000 (by rw [dLL_len]; omega) (by omega) rfl ?_
            refine WR.nextA (vs := [.l (dLL (addPart e f)), .i ((g + 1 : Nat) : Int)]) ?_ ⟨hg', addPart e f, rfl, hE.symm⟩
            show [V.l (dLL e ++ [.s (dL pt)]), V.i (IntKind.i64.wrap ((g : Int) + 1))] = _
            rw [dLL_snoc]
            refine nx _ ?_
            rw [hAP, if_pos ⟨h0, by simpa using hz⟩]
          · refine WR.nextA (nx e ?_) ⟨hg', addPart e f, rfl, hE.symm⟩
            rw [hAP, if_neg]
            intro ⟨h, _⟩
            exact h0 h
        · refine WR.nextA (nx e ?_) ⟨hg', addPart e f, rfl, hE.symm⟩
          rw [hAP, if_neg]
          intro ⟨_, h⟩
          exact h (by simpa using hz)
      · refine WR.esc ?_
        rw [take_all hg'] at he
        refine WR.nextA (vs := [.l (dLL e), .i ((k + 1 : Nat) : Int)]) ?_ ⟨h', (e, (rowBoth (c1, c2) r).2), rfl, by rw [hC, he]; rfl⟩
        show [V.l (dLL e), V.i (IntKind.i64.wrap ((k : Int) + 1))] = _
        rw [wS h' (by omega)]
    · refine WR.esc ?_
      rw [take_all h'] at hc
      refine WR.nextA (vs := [.l (dLL c1), .i ((i + 1 : Nat) : Int)]) ?_ ⟨h, (c1, c2), rfl, by rw [hB, hAB, hc]⟩
      show [V.l (dLL c1), V.i (IntKind.i64.wrap ((i : Int) + 1))] = _
      rw [wS h (by omega)]
  · refine WR.esc (WR.done ?_)
    show [D.s (dLL b1)] = _
    rw [take_all h] at hb
    rw [← hb]
def thinAs (as : List (List Line)) : Prop := as.length ≤ 5 ∧ ∀ a ∈ as, thinA a
theorem thinAs.fit {as : List (List Line)} (h : thinAs as) : fitActs as := ⟨by have := h.1; omega, fun a ha => (h.2 a ha).fit⟩
theorem ev_reads_1 (f : Frm) (hf : f.c.length = 3) (v : Nat) (hv : v < 3) : Ev L f_k39 (f.cells ++ [D.q [dI v]].map D.norm) [dB (decide (f.c.getD v 0 ≠ 0))] := by
  refine Ev.eq (vs := [.l (dL f.c), .l (dL f.d), .i f.k, .d (.q [dI v])]) L_k39 rfl ?_
  refine WR.get (vs := [.i v]) rfl rfl ?_
  refine WR.idxN v (map_at (f := dI) (at_getD (by omega))) rfl rfl rfl rfl (WR.done ?_)
  show [dB (!(decide (f.c.getD v 0 = 0)))] = _
  simp
theorem ev_reads (r : Row) (hr : RowFit r) (v : Nat) (hv : v < 3) : Ev L f_k3a (r.cells ++ [dI v] ++ ([] : List D).map D.norm) [dB (readsM r v)] := by
  refine Ev.eq (vs := [.l (dF r.guards), .l (dF r.adds), .l (dF r.tells), .b r.stop, .i v]) L_k3a rfl ?_
  have ha := hr.al
  have ht := hr.tl
  refine WR.ev (ev_concat [r.adds, r.tells] (by simp) (by simp; omega)) rfl rfl rfl ?_
  have hfl : [r.adds, r.tells].flatten = r.adds ++ r.tells := by simp
  rw [hfl]
  have h3 : ∀ f ∈ r.adds ++ r.tells, f.c.length = 3 := by
    intro f hf
    rcases List.mem_append.1 hf with hf | hf
    · exact (hr.a f hf).c
    · exact (hr.t f hf).c
  have hlen : (r.adds ++ r.tells).length ≤ 2000000 := by simp; omega
  unfold readsM
  generalize r.adds ++ r.tells = all at *
  exact WR.ev (ev_hasFrm (fun f => decide (f.c.getD v 0 ≠ 0)) all (fn := f_k39) (caps := [.q [dI v]]) hlen rfl rfl fun f hf => ev_reads_1 f (h3 f hf) v hv) rfl rfl rfl (WR.done rfl)
theorem ev_iPins (as : List (List Line)) (hf : fitActs as) : Ev L f_k3b [.s (dActs as)] [.s (dBl (catPins as))] := by
  refine Ev.eq (vs := [.l (dActs as)]) L_k3b rfl ?_
  refine WR.ev (ev_iCatOk as hf) rfl rfl rfl ?_
  refine WR.iteN (catOk as) rfl (fun h => WR.done ?_) (fun h => ?_)
  · show [D.s []] = _
    simp [catPins, h, dBl]
  · refine WR.ev (ev_pots readsM as hf (fn := f_k3a) (caps := []) rfl rfl fun r hr v hv => ev_reads r hr v hv) rfl rfl rfl (WR.done ?_)
    show [D.s (dBl (potsM readsM as))] = _
    rw [catPins_eq h]
end Go.Proofs.YtdibnlhlngodeaaGreatDoor

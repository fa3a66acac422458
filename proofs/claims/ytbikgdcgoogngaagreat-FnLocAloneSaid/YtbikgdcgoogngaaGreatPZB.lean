/- Who may go nowhere turns nothing; whoever is alone can do all: over residual programs. -/
import Derived.Test.YtbikgdcgoogngaaGreatPZA
import Derived.Test.YtbikgdcgoogngaaGreatTd
namespace Go.Proofs.YtbikgdcgoogngaaGreat
open Go Go.Tm

theorem ev_FnLocNothing (ns : List Int) (hb : ∀ x ∈ ns, 0 ≤ x ∧ x < 256) : Ev L f_laws_FnLocNothing [.s (bytesD ns)] [dB true] := by
  refine Ev.eq (vs := [.l (bytesD ns)]) L_laws_FnLocNothing rfl ?_
  refine WR.iteP (1048576 < ((bytesD ns).length : Int)) rfl (fun _ => WR.done rfl) (fun _ => ?_)
  obtain ⟨as, b, g, s, a, k, w, hd, ht, bl, gl, s0, s3, al, k0, k5, wl⟩ := ev_DrawLocTry ns hb
  refine WR.ev hd rfl rfl rfl ?_
  simp only [List.cons_append, List.nil_append]
  refine WR.forP g.length (fun i => [.l (dL (List.replicate i 0 ++ g.drop i)), .i i]) (fun _ => True) rfl rfl trivial fun i hi _ => ?_
  simp only [List.cons_append, List.nil_append]
  refine WR.iteLen i (show (dL (List.replicate i 0 ++ g.drop i)).length = g.length by rw [dL_len]; simp; omega) rfl (fun h => ?_) (fun h => ?_)
  · obtain ⟨x, hx, hm⟩ := some_at h
    have hcur : (List.replicate i 0 ++ g.drop i)[i]? = some x := by
      rw [List.getElem?_append_right (by simp), List.getElem?_drop, List.length_replicate, Nat.sub_self, Nat.add_zero]; exact hx
    refine WR.atN i (map_at (f := dI) hcur) rfl rfl rfl rfl rfl rfl ?_
    refine WR.nextA (vs := [.l (dL (List.replicate (i + 1) 0 ++ g.drop (i + 1))), .i ((i + 1 : Nat) : Int)]) ?_ ⟨h, rfl, trivial⟩
    show [V.l ((dL (List.replicate i 0 ++ g.drop i)).set (i : Int).toNat (dI 0)), V.i (IntKind.i64.wrap ((i : Int) + 1))] = _
    rw [wS h (by omega), Int.toNat_natCast, dL_set]
    congr 3
    have hd : g.drop i = x :: g.drop (i + 1) := by
      obtain ⟨h1, rfl⟩ := List.getElem?_eq_some_iff.1 hx
      rw [List.getElem_cons_drop]
    rw [List.set_append_right i 0 (by simp), List.length_replicate, Nat.sub_self, hd, List.set_cons_zero, List.replicate_succ', List.append_assoc]; rfl
  have hi' : i = g.length := by omega
  subst hi'
  rw [List.drop_length, List.append_nil]
  have hg0 : ∀ x ∈ List.replicate g.length (0 : Int), x = 0 := fun x hx => List.eq_of_mem_replicate hx
  have hgl : (List.replicate g.length (0 : Int)).length ≤ 1000000 := by simp; omega
  generalize List.replicate g.length (0 : Int) = g' at *
  refine WR.esc ?_
  refine WR.ev (ev_iLocTry as b g' s [0, 0, 0] k w ht.fit (by omega) hgl (by decide) (by omega)) rfl rfl rfl ?_
  refine WR.ev (ev_sLocTry as b g' s [0, 0, 0] k w ht.fit (by omega) hgl (by decide) (by omega)) rfl rfl rfl ?_
  simp only [List.cons_append, List.nil_append]
  obtain ⟨hl1, hl2⟩ := loc_len (as := as) (b := b) (g := g') (s := s) (a := [0, 0, 0]) (k := k) (w := w) (by decide)
  have hno := loc_nothing (as := as) (b := b) (g := g') (s := s) (k := k) (w := w) hg0
  generalize hR : locM as b g' s [0, 0, 0] k w = R at *
  have ec := ev_coRes R.code R.code R.tells R.tells (by omega)
  rw [decide_eq_true rfl, decide_eq_true rfl] at ec
  have ei := ev_coInts R.adds R.adds (by omega)
  rw [decide_eq_true rfl] at ei
  refine WR.ev ec rfl rfl rfl (WR.iteF rfl ?_)
  refine WR.ev ei rfl rfl rfl (WR.iteF rfl ?_)
  refine WR.iteF (by show (!(R.ok == R.ok)) = false; simp) ?_
  simp only [List.cons_append, List.nil_append]
  refine WR.iteN R.ok rfl (fun hok => ?_) (fun hok => ?_)
  · refine WR.iteT (by show (!R.ok) = true; rw [hok]; rfl) ?_
    exact WR.ev ev_coHolds rfl rfl rfl (WR.done rfl)
  obtain ⟨hadds, htc⟩ := hno hok
  have e0 := ev_coInts R.adds [0, 0, 0] (by omega)
  rw [decide_eq_true hadds] at e0
  refine WR.ev e0 rfl rfl rfl (WR.iteT rfl ?_)
  refine WR.iteF (by show (!R.ok) = false; rw [hok]; rfl) ?_
  refine WR.iteP (((dL R.tells).length : Int) = 0) rfl (fun _ => WR.ev ev_coHolds rfl rfl rfl (WR.done rfl)) (fun h0 => ?_)
  refine WR.iteP (R.code = 1) rfl (fun _ => WR.ev ev_coHolds rfl rfl rfl (WR.done rfl)) (fun h1 => ?_)
  exfalso
  rcases htc with h2 | h2
  · rw [h2] at h0; exact h0 rfl
  · exact h1 h2

theorem parts_ok (as : List (List Line)) : partsOk (catForms as) = true := by
  unfold partsOk
  rw [List.all_eq_true]
  intro p hp
  have := (catForms_fit as).each p hp
  exact allIn_iff.2 ⟨by omega, this.2⟩

set_option maxHeartbeats 1000000 in
theorem ev_FnLocAlone (ns : List Int) (hb : ∀ x ∈ ns, 0 ≤ x ∧ x < 256) : Ev L f_laws_FnLocAlone [.s (bytesD ns)] [dB true] := by
  refine Ev.eq (vs := [.l (bytesD ns)]) L_laws_FnLocAlone rfl ?_
  refine WR.iteP (1048576 < ((bytesD ns).length : Int)) rfl (fun _ => WR.done rfl) (fun _ => ?_)
  obtain ⟨as, b, g, s, a, k, w, hd, ht, bl, gl, s0, s3, al, k0, k5, wl⟩ := ev_DrawLocTry ns hb
  refine WR.ev hd rfl rfl rfl ?_
  simp only [List.cons_append, List.nil_append]
  have common : ∀ g1 : List Int, g1.length ≤ 1000000 → ∃ R : LocR, R = locM as b g1 0 [0, 0, 0] k w ∧ Ev L f_impl_LocTry [.s (dActs as), .s (dL b), .s (dL g1), dI 0, .s (dL [0, 0, 0]), dI k, .s (dL w)] R.ds ∧ Ev L f_spec_LocTry [.s (dActs as), .s (dL b), .s (dL g1), dI 0, .s (dL [0, 0, 0]), dI k, .s (dL w)] R.ds ∧
      Ev L f_laws_coRes [dI R.code, .s (dL R.tells), dI R.code, .s (dL R.tells)] [dB true] ∧ Ev L f_laws_coInts [.s (dL R.adds), .s (dL R.adds)] [dB true] := by
    intro g1 hg1
    obtain ⟨hl1, hl2⟩ := loc_len (as := as) (b := b) (g := g1) (s := 0) (a := [0, 0, 0]) (k := k) (w := w) (by decide)
    refine ⟨_, rfl, ev_iLocTry as b g1 0 [0, 0, 0] k w ht.fit (by omega) hg1 (by decide) (by omega), ev_sLocTry as b g1 0 [0, 0, 0] k w ht.fit (by omega) hg1 (by decide) (by omega), ?_, ?_⟩
    · have ec := ev_coRes (locM as b g1 0 [0, 0, 0] k w).code (locM as b g1 0 [0, 0, 0] k w).code (locM as b g1 0 [0, 0, 0] k w).tells (locM as b g1 0 [0, 0, 0] k w).tells (by omega)
      rw [decide_eq_true rfl, decide_eq_true rfl] at ec
      exact ec
    · have ei := ev_coInts (locM as b g1 0 [0, 0, 0] k w).adds (locM as b g1 0 [0, 0, 0] k w).adds (by omega)
      rw [decide_eq_true rfl] at ei
      exact ei
  refine WR.iteP (0 < ((dL g).length : Int)) rfl (fun hg => ?_) (fun hg => ?_)
  · rw [dL_len] at hg
    have hg1 : (g.take 1).length = 1 := by simp; omega
    have hgt : (dL g).take (1 : Int).toNat = dL (g.take 1) := dL_take g 1
    obtain ⟨R, hR, eI, eS, ec, ei⟩ := common (g.take 1) (by omega)
    have hF : R.ok = true → catOk as = true ∧ trtOk b (g.take 1) = true ∧ argOk w = true ∧ (0 ≤ k ∧ k < as.length) := by
      intro h
      rw [hR] at h
      obtain ⟨q1, q2, q3, q4, _⟩ := locFine_iff.1 (loc_fine h)
      exact ⟨q1, (fine_in (keeps_fineM q4)).1, q3, q2⟩
    have main := fun h1 h2 h3 h4 => loc_alone (as := as) (b := b) (g := g.take 1) (k := k) (w := w) (parts_ok as) h1 h2 hg1 h3 h4
    rw [← hR] at main
    clear hR
    refine WR.chkP ((1 : Int) ≤ ((dL g).length : Int)) rfl (by rw [dL_len]; omega) ?_
    generalize hG : g.take 1 = G at *
    refine WR.ev eI rfl (by show [D.s (dActs as), .s (dL b), .s ((dL g).take (1 : Int).toNat), dI 0, .s (dL [0, 0, 0]), dI k, .s (dL w)] = _; rw [hgt]) rfl ?_
    refine WR.ev eS rfl (by show [D.s (dActs as), .s (dL b), .s ((dL g).take (1 : Int).toNat), dI 0, .s (dL [0, 0, 0]), dI k, .s (dL w)] = _; rw [hgt]) rfl ?_
    simp only [List.cons_append, List.nil_append]
    refine WR.ev ec rfl rfl rfl (WR.iteF rfl ?_)
    refine WR.ev ei rfl rfl rfl (WR.iteF rfl ?_)
    refine WR.iteF (by show (!(R.ok == R.ok)) = false; simp) ?_
    simp only [List.cons_append, List.nil_append]
    refine WR.ev (ev_CatOk as ht.fit) rfl rfl rfl ?_
    refine WR.iteN (catOk as) rfl (fun h => ?_) (fun h1 => ?_)
    · have hno : R.ok = false := Bool.eq_false_iff.2 fun h' => by rw [(hF h').1] at h; cases h
      exact WR.iteT (by show (!R.ok) = true; rw [hno]; rfl) (WR.ev ev_coHolds rfl rfl rfl (WR.done rfl))
    refine WR.ev (ev_sTrtOk b G (by omega) (by omega)) rfl (by show [D.s (dL b), .s ((dL g).take (1 : Int).toNat)] = _; rw [hgt]) rfl ?_
    refine WR.iteN (trtOk b G) rfl (fun h => ?_) (fun h2 => ?_)
    · have hno : R.ok = false := Bool.eq_false_iff.2 fun h' => by rw [(hF h').2.1] at h; cases h
      exact WR.iteT (by show (!R.ok) = true; rw [hno]; rfl) (WR.ev ev_coHolds rfl rfl rfl (WR.done rfl))
    refine WR.ev (sArgOk w (by omega)) rfl rfl rfl ?_
    simp only [List.cons_append, List.nil_append]
    refine WR.iteN (argOk w) rfl (fun h => ?_) (fun h3 => ?_)
    · have hno : R.ok = false := Bool.eq_false_iff.2 fun h' => by rw [(hF h').2.2.1] at h; cases h
      exact WR.iteT (by show (!R.ok) = true; rw [hno]; rfl) (WR.ev ev_coHolds rfl rfl rfl (WR.done rfl))
    refine WR.iteP (k < 0) rfl (fun h => by omega) (fun _ => ?_)
    refine WR.iteP (((dActs as).length : Int) ≤ k) rfl (fun h => ?_) (fun hk => ?_)
    · rw [dActs_len] at h
      have hno : R.ok = false := Bool.eq_false_iff.2 fun h' => by have := (hF h').2.2.2; omega
      exact WR.iteT (by show (!R.ok) = true; rw [hno]; rfl) (WR.ev ev_coHolds rfl rfl rfl (WR.done rfl))
    rw [dActs_len] at hk
    have hkk : 0 ≤ k ∧ k < as.length := ⟨k0, by omega⟩
    obtain ⟨hm, hkx⟩ := mem_getD hkk.1 hkk.2
    obtain ⟨A, hA, hA3, hAl, hc1, hc2⟩ := main h1 h2 h3 hkk
    have hvb := (fine_in (keeps_fineM (keeps_zero (as := as) (parts_ok as) h2))).2.2.2.2.1
    have eA := ev_ActRun (as.getD k.toNat []) b w (ht.fit.2 _ hm) (by omega) (by omega)
    have htl := actRun_len (w := w) (ht.fit.2 _ hm) (show b.length ≤ 1000 by omega)
    rw [← hA] at eA htl
    have ec' : R.ok = true → Ev L f_laws_coRes [dI A.code, .s (dL A.tells), dI R.code, .s (dL R.tells)] [dB true] := by
      intro hok
      have := ev_coRes A.code R.code A.tells R.tells htl
      rw [decide_eq_true (hc2 hok).1, decide_eq_true (hc2 hok).2] at this
      exact this
    refine WR.idxA (ds := dActs as) k rfl rfl rfl k0 (map_at (f := fun a => .s (dAct a)) hkx) rfl ?_
    refine WR.ev eA rfl rfl rfl ?_
    have hpl := pins_len h1
    have epi := ev_iPins as ht.fit
    clear hA main
    generalize catPins as = pins at *
    simp only [List.cons_append, List.nil_append]
    have hxl : (List.zipWith (· - ·) A.is b).length = 3 := by simp; omega
    have hxs : ∀ (i : Nat) (p q : Int), A.is[i]? = some p → b[i]? = some q → (List.zipWith (· - ·) A.is b)[i]? = some (p - q) := fun i p q h1 h2 => by rw [List.getElem?_zipWith, h1, h2]
    generalize List.zipWith (· - ·) A.is b = X at *
    refine WR.forP 3 (fun i => [.l (dL (X.take i)), .b (((X.zip pins).take i).all fun q => !(q.2 && !decide (q.1 = 0))), .i i]) (fun _ => True) rfl rfl trivial fun i hi _ => ?_
    simp only [List.cons_append, List.nil_append]
    refine WR.iteLt i 3 rfl (fun h => ?_) (fun h => ?_)
    · obtain ⟨p, hp, hmp⟩ := some_at (show i < A.is.length by omega)
      obtain ⟨q, hq, hmq⟩ := some_at (show i < b.length by omega)
      obtain ⟨c, hc, _⟩ := some_at (show i < pins.length by omega)
      have hx := hxs i p q hp hq
      have hpb := hAl p hmp
      have hqb := hvb.2 q hmq
      have hz := still_step hx hc
      have hall : ((X.zip pins).take (i + 1)).all (fun q => !(q.2 && !decide (q.1 = 0))) = (((X.zip pins).take i).all (fun q => !(q.2 && !decide (q.1 = 0))) && !(c && !decide (p - q = 0))) := by rw [take_succ hz]; simp
      refine WR.atN i (map_at (f := dI) hp) rfl rfl rfl rfl rfl rfl ?_
      refine WR.atN i (map_at (f := dI) hq) rfl rfl rfl rfl rfl rfl ?_
      simp only [List.cons_append, List.nil_append]
      refine WR.chkApp (dL (X.take i)) 10 (by rw [dL_len]; simp; omega) (by omega) rfl ?_
      have nx : ∀ (z : Bool) {vs : List V}, vs = [V.l (dL (X.take i) ++ [dI (IntKind.i64.wrap (p - q))]), V.b z, V.i (IntKind.i64.wrap ((i : Int) + 1))] → ((X.zip pins).take (i + 1)).all (fun q => !(q.2 && !decide (q.1 = 0))) = z → vs = [V.l (dL (X.take (i + 1))), V.b (((X.zip pins).take (i + 1)).all fun q => !(q.2 && !decide (q.1 = 0))), V.i ((i + 1 : Nat) : Int)] := by
        rintro z _ rfl hz'
        rw [hz', wS h (by omega), w64 (by omega) (by omega), dL_snoc, take_succ hx]
      generalize ((X.zip pins).take i).all (fun q => !(q.2 && !decide (q.1 = 0))) = F at *
      refine WR.iteB F rfl (fun hF1 => ?_) (fun hF1 => ?_)
      · refine WR.ev epi rfl rfl rfl ?_
        refine WR.atN i (map_at (f := dB) hc) rfl rfl rfl rfl rfl rfl ?_
        simp only [List.cons_append, List.nil_append]
        refine WR.iteN c rfl (fun hc0 => ?_) (fun hc0 => ?_)
        · exact WR.nextA (nx true rfl (by rw [hall, hF1, hc0]; rfl)) ⟨h, rfl, trivial⟩
        · have hlast : (dL (X.take i) ++ [dI (IntKind.i64.wrap (p - q))])[i]? = some (dI (p - q)) := by
            rw [w64 (by omega) (by omega), List.getElem?_append_right (by rw [dL_len]; simp; omega), dL_len, show i - (X.take i).length = 0 by simp; omega]; rfl
          refine WR.atN i hlast rfl rfl rfl rfl rfl rfl ?_
          exact WR.nextA (nx (decide (p - q = 0)) rfl (by rw [hall, hF1, hc0]; simp)) ⟨h, rfl, trivial⟩
      · exact WR.nextA (nx false rfl (by rw [hall, hF1]; rfl)) ⟨h, rfl, trivial⟩
    have hi3 : i = 3 := by omega
    subst hi3
    rw [List.take_of_length_le (by omega), List.take_of_length_le (by simp; omega)]
    refine WR.esc ?_
    have hSt : stillM pins X = (X.zip pins).all fun q => !(q.2 && !decide (q.1 = 0)) := rfl
    rw [← hSt]
    generalize stillM pins X = ST at *
    refine WR.iteB ST rfl (fun hst => ?_) (fun hst => ?_)
    · refine WR.ev (ev_iForms as ht.fit) rfl rfl rfl ?_
      simp only [List.cons_append, List.nil_append]
      refine WR.ev (ev_TrtKeeps b G (catForms as) 0 X (by omega) (by omega) ((catForms_fit as).fitLL (by omega)) (by omega)) rfl (by show [D.s (dL b), .s ((dL g).take (1 : Int).toNat), .s (dLL (catForms as)), dI 0, .s (dL X)] = _; rw [hgt]) rfl ?_
      simp only [List.cons_append, List.nil_append]
      rw [hst, Bool.true_and] at hc1
      generalize keeps b G (catForms as) 0 X = K at *
      refine WR.iteP (A.code = 3) rfl (fun h3' => ?_) (fun h3' => ?_)
      · exact WR.iteN R.ok rfl (fun _ => WR.done rfl) (fun hok => WR.ev (ec' hok) rfl rfl rfl (WR.done rfl))
      refine WR.iteB (R.ok == K) rfl (fun hK => ?_) (fun hK => ?_)
      · exact WR.iteN R.ok rfl (fun _ => WR.done rfl) (fun hok => WR.ev (ec' hok) rfl rfl rfl (WR.done rfl))
      have h2' : A.code = 2 ∧ R.ok = true := by
        rcases hc1 with hc1 | hc1 | hc1
        · exact absurd hc1 h3'
        · rw [hc1] at hK; simp at hK
        · exact hc1
      refine WR.iteP (A.code = 2) rfl (fun _ => ?_) (fun h => absurd h2'.1 h)
      refine WR.iteT (by show R.ok = true; exact h2'.2) ?_
      exact WR.iteN R.ok rfl (fun _ => WR.done rfl) (fun hok => WR.ev (ec' hok) rfl rfl rfl (WR.done rfl))
    · rw [hst, Bool.false_and] at hc1
      refine WR.iteP (A.code = 3) rfl (fun h3' => ?_) (fun h3' => ?_)
      · exact WR.iteN R.ok rfl (fun _ => WR.done rfl) (fun hok => WR.ev (ec' hok) rfl rfl rfl (WR.done rfl))
      refine WR.iteB (R.ok == false) rfl (fun hK => ?_) (fun hK => ?_)
      · exact WR.iteN R.ok rfl (fun _ => WR.done rfl) (fun hok => WR.ev (ec' hok) rfl rfl rfl (WR.done rfl))
      have h2' : A.code = 2 ∧ R.ok = true := by
        rcases hc1 with hc1 | hc1 | hc1
        · exact absurd hc1 h3'
        · rw [hc1] at hK; simp at hK
        · exact hc1
      refine WR.iteP (A.code = 2) rfl (fun _ => ?_) (fun h => absurd h2'.1 h)
      refine WR.iteT (by show R.ok = true; exact h2'.2) ?_
      exact WR.iteN R.ok rfl (fun _ => WR.done rfl) (fun hok => WR.ev (ec' hok) rfl rfl rfl (WR.done rfl))
  · obtain ⟨R, hR, eI, eS, ec, ei⟩ := common g (by omega)
    have hg0 : trtOk b g = false := by
      rw [dL_len] at hg
      have : g.length = 0 := by omega
      unfold trtOk
      rw [this]
      simp [inB]
    have hno : R.ok = false := Bool.eq_false_iff.2 fun h => by
      rw [hR] at h
      obtain ⟨q1, q2, q3, q4, _⟩ := locFine_iff.1 (loc_fine h)
      rw [(fine_in (keeps_fineM q4)).1] at hg0; cases hg0
    refine WR.ev eI rfl rfl rfl ?_
    refine WR.ev eS rfl rfl rfl ?_
    simp only [List.cons_append, List.nil_append]
    refine WR.ev ec rfl rfl rfl (WR.iteF rfl ?_)
    refine WR.ev ei rfl rfl rfl (WR.iteF rfl ?_)
    refine WR.iteF (by show (!(R.ok == R.ok)) = false; simp) ?_
    simp only [List.cons_append, List.nil_append]
    refine WR.ev (ev_CatOk as ht.fit) rfl rfl rfl ?_
    refine WR.iteN (catOk as) rfl (fun h => ?_) (fun h1 => ?_)
    · exact WR.iteT (by show (!R.ok) = true; rw [hno]; rfl) (WR.ev ev_coHolds rfl rfl rfl (WR.done rfl))
    refine WR.ev (ev_sTrtOk b g (by omega) (by omega)) rfl rfl rfl ?_
    refine WR.iteT (by show (!(trtOk b g)) = true; rw [hg0]; rfl) ?_
    exact WR.iteT (by show (!R.ok) = true; rw [hno]; rfl) (WR.ev ev_coHolds rfl rfl rfl (WR.done rfl))
end Go.Proofs.YtbikgdcgoogngaaGreat

/- What one site does alone is what would come of it over all: over residual programs. The sum here hands its list back. -/
import Derived.Test.YtbikgdcgoogngaaGreatPZA
import Derived.Test.YtbikgdcgoogngaaGreatTd
namespace Go.Proofs.YtbikgdcgoogngaaGreat
open Go Go.Tm

theorem ev_coSum5 (b : List Int) (as : List (List Int)) {M : Int} (h3 : b.length ≤ 1000) (hl : as.length ≤ 1000) (has : ∀ a ∈ as, a.length = b.length ∧ Lim M a) (hb : Lim M b) (h0 : 0 ≤ M) (hM : M ≤ 1000000000) : Ev L f_laws_coSum [.s (dL b), .s (dLL as)] [.s (dL (coSumM b as)), .s (dLL as)] := by
  refine Ev.eq (vs := [.l (dL b), .l (dLL as)]) L_laws_coSum rfl ?_
  refine WR.chkN (dL b) 1000 (by rw [dL_len]; omega) (by omega) rfl ?_
  refine WR.head (head_dL b) ?_
  refine WR.chkN (dL b) 1000 (by rw [dL_len]; omega) (by omega) rfl ?_
  refine WR.forS as.length (fun i vs => ∃ o : List Int, vs = [.l (dL o), .i i] ∧ o = coSumM b (as.take i) ∧ o.length = b.length ∧ Lim (M * (i + 1)) o) rfl ⟨b, rfl, rfl, rfl, hb.mono (by omega)⟩ ?_
  rintro i _ hi ⟨o, rfl, hoe, hol, hlim⟩
  simp only [List.cons_append, List.nil_append]
  refine WR.iteLen i (dLL_len as) rfl (fun h => ?_) (fun h => ?_)
  · obtain ⟨a, ha, hm⟩ := some_at h
    obtain ⟨ha1, ha2⟩ := has a hm
    have hS : coSumM b (as.take (i + 1)) = sumL o a := by rw [hoe]; exact foldl_take ha
    have hMi : M * ((i : Int) + 1) ≤ M * 1001 := Int.mul_le_mul_of_nonneg_left (by omega) h0
    have hsl : (sumL o a).length = o.length := sumL_len (by omega)
    have hlim2 : Lim (M * ((i + 1 : Nat) + 1)) (sumL o a) := by
      refine (sumL_lim hlim ha2).mono ?_
      push_cast
      have e1 : M * ((i : Int) + 1) = M * i + M := by rw [Int.mul_add]; omega
      have e2 : M * ((i : Int) + 1 + 1) = M * i + M + M := by rw [Int.mul_add, Int.mul_add]; omega
      omega
    refine WR.forP o.length (fun k => [.l (dL ((sumL o a).take k ++ o.drop k)), .i k]) (fun _ => True) rfl rfl trivial fun k hk _ => ?_
    simp only [List.cons_append, List.nil_append]
    refine WR.iteLen k (show (dL ((sumL o a).take k ++ o.drop k)).length = o.length by rw [dL_len]; simp [hsl]; omega) rfl (fun hk' => ?_) (fun hk' => ?_)
    · obtain ⟨x, hx, hmx⟩ := some_at hk'
      obtain ⟨y, hy, hmy⟩ := some_at (show k < a.length by omega)
      have hcur : ((sumL o a).take k ++ o.drop k)[k]? = some x := by
        rw [List.getElem?_append_right (by simp; omega), List.getElem?_drop]
        rw [show k + (k - ((sumL o a).take k).length) = k by simp; omega]; exact hx
      have hs : (sumL o a)[k]? = some (x + y) := by unfold sumL; rw [List.getElem?_zipWith, hx, hy]
      have hxl := hlim x hmx
      have hyl := ha2 y hmy
      refine WR.atN k (map_at (f := dI) hcur) rfl rfl rfl rfl rfl rfl ?_
      refine WR.atN i (map_at (f := fun x => .s (dL x)) ha) rfl rfl rfl rfl rfl rfl ?_
      refine WR.idxN k (map_at (f := dI) hy) rfl rfl rfl rfl ?_
      refine WR.atN k (map_at (f := dI) hcur) rfl rfl rfl rfl rfl rfl ?_
      refine WR.nextA (vs := [.l (dL ((sumL o a).take (k + 1) ++ o.drop (k + 1))), .i ((k + 1 : Nat) : Int)]) ?_ ⟨hk', rfl, trivial⟩
      show [V.l ((dL ((sumL o a).take k ++ o.drop k)).set (k : Int).toNat (dI (IntKind.i64.wrap (x + y)))), V.i (IntKind.i64.wrap ((k : Int) + 1))] = _
      rw [wS hk' (by omega), w64 (by omega) (by omega), dL_set, Int.toNat_natCast, fill' (by omega) hs]
    · rw [List.take_of_length_le (by omega), List.drop_eq_nil_of_le (by omega), List.append_nil]
      refine WR.esc (WR.nextA (vs := [.l (dL (sumL o a)), .i ((i + 1 : Nat) : Int)]) ?_ ⟨h, sumL o a, rfl, hS.symm, by omega, hlim2⟩)
      show [V.l (dL (sumL o a)), V.i (IntKind.i64.wrap ((i : Int) + 1))] = _
      rw [wS h (by omega)]
  · refine WR.esc (WR.done ?_)
    show [D.s (dL o), D.s (dLL as)] = _
    rw [take_all h] at hoe
    rw [hoe]

theorem loc_not {as : List (List Line)} {b g : List Int} {s : Int} {a : List Int} {k : Int} {w : List Int} (h : (locM as b g s a k w).ok = false) : (locM as b g s a k w).code = 0 ∧ ((locM as b g s a k w).adds = [] ∨ (locM as b g s a k w).adds = a) := by
  by_cases hl : locFine as b g s a k w = true
  case neg => unfold locM; rw [if_neg hl]; exact ⟨rfl, .inl rfl⟩
  obtain ⟨r, _, _, e⟩ := loc_eq hl
  rw [e] at h ⊢
  by_cases hs : sureM b g (catForms as) s a w r = true
  case neg => rw [if_neg hs]; exact ⟨rfl, .inr rfl⟩
  rw [if_pos hs] at h ⊢
  unfold rowLoc at h ⊢
  split
  · rename_i hst; rw [if_pos hst] at h; simp at h
  rename_i hst
  rw [if_neg hst] at h
  split
  · rename_i hc
    rw [if_pos hc] at h
    split
    · rename_i ho; rw [if_pos ho] at h; simp at h
    rename_i ho
    rw [if_neg ho] at h
    split
    · exact ⟨rfl, .inr rfl⟩
    rename_i hu
    rw [if_neg hu] at h
    split
    · rename_i hk; rw [if_pos hk] at h; simp at h
    · exact ⟨rfl, .inr rfl⟩
  · exact ⟨rfl, .inr rfl⟩

theorem keeps_zeroS {b g : List Int} {ps : List (List Int)} {s : Int} (hp : partsOk ps = true) (ht : trtOk b g = true) (hs : 0 ≤ s ∧ s < g.length) : keeps b g ps s [0, 0, 0] = true := by
  have ht' := ht
  simp only [trtOk, Bool.and_eq_true, inB_iff, List.all_eq_true] at ht'
  unfold keeps
  have g0 := ht'.2
  obtain ⟨x, hx, hm⟩ := some_at (show s.toNat < g.length by omega)
  have e : g.getD s.toNat 0 = x := by simp [List.getD_eq_getElem?_getD, hx]
  have := g0 x hm
  rw [ht, hp, e]
  simp only [Bool.true_and, Bool.and_eq_true, inB_iff, List.all_eq_true]
  refine ⟨⟨by omega, by decide⟩, fun p hpp => ?_⟩
  have h3 : p.length = 3 := by
    simp only [partsOk, List.all_eq_true, allIn_iff] at hp
    have := (hp p hpp).1; omega
  obtain ⟨u, v, w, rfl⟩ := len3 h3
  unfold keepsP
  rw [inB_iff]
  simp only [dot, Int.mul_zero, Int.add_zero]
  omega

theorem still_of {pins : List Bool} {q : List Int} (hp : pins.length = 3) (hq : q.length = 3) (h : ∀ u : Nat, u < 3 → pins.getD u false = true → q.getD u 0 = 0) : stillM pins q = true := by
  obtain ⟨a1, a2, a3, rfl⟩ := len3 hq
  match pins, hp with
  | [p1, p2, p3], _ =>
    have h0 := h 0 (by omega)
    have h1 := h 1 (by omega)
    have h2 := h 2 (by omega)
    simp only [List.getD_cons_zero, List.getD_cons_succ] at h0 h1 h2
    simp only [stillM, List.zip_cons_cons, List.zip_nil_right, List.all_cons, List.all_nil, Bool.and_true]
    have t : ∀ (p : Bool) (x : Int), (p = true → x = 0) → (!(p && !decide (x = 0))) = true := by
      intro p x hx
      cases p with
      | false => rfl
      | true => rw [hx rfl]; rfl
    rw [t p1 a1 h0, t p2 a2 h1, t p3 a3 h2]; rfl

theorem parts_okC (as : List (List Line)) : partsOk (catForms as) = true := by
  unfold partsOk
  rw [List.all_eq_true]
  intro p hp
  have := (catForms_fit as).each p hp
  exact allIn_iff.2 ⟨by omega, this.2⟩

theorem dLL_set (l : List (List Int)) (k : Nat) (x : List Int) : (dLL l).set k (.s (dL x)) = dLL (l.set k x) := by simp [dLL, List.map_set]

theorem rem_inC (t : Int) {m d : Int} (hm : 0 < m) (hm9 : m ≤ 9) (hd : 0 ≤ d ∧ d ≤ 4) : -20 ≤ IntKind.i64.wrap (t.tmod m - d) ∧ IntKind.i64.wrap (t.tmod m - d) ≤ 20 := by
  have h1 := Int.tmod_lt_of_pos t hm
  have h2 := Int.lt_tmod_of_pos t hm
  rw [w64 (by omega) (by omega)]; omega

set_option maxHeartbeats 1000000 in
theorem ev_FnLocTry (ns ms : List Int) (hb : ∀ x ∈ ns, 0 ≤ x ∧ x < 256) (hb2 : ∀ x ∈ ms, 0 ≤ x ∧ x < 256) : Ev L f_laws_FnLocTry [.s (bytesD ns), .s (bytesD ms)] [dB true] := by
  refine Ev.eq (vs := [.l (bytesD ns), .l (bytesD ms)]) L_laws_FnLocTry rfl ?_
  refine WR.iteP (1048576 < ((bytesD ns).length : Int)) rfl (fun _ => WR.done rfl) (fun _ => ?_)
  refine WR.iteP (1048576 < ((bytesD ms).length : Int)) rfl (fun _ => WR.done rfl) (fun hml => ?_)
  rw [bytesD_len] at hml
  obtain ⟨as, b, g, s, a, k, w, hd, ht, bl, gl, s0, s3, al, k0, k5, wl⟩ := ev_DrawLocTry ns hb
  refine WR.ev hd rfl rfl rfl ?_
  simp only [List.cons_append, List.nil_append]
  refine WR.ev (ev_iLocTry as b g s a k w ht.fit (by omega) (by omega) (by omega) (by omega)) rfl rfl rfl ?_
  refine WR.ev (ev_sLocTry as b g s a k w ht.fit (by omega) (by omega) (by omega) (by omega)) rfl rfl rfl ?_
  simp only [List.cons_append, List.nil_append]
  obtain ⟨hl1, hl2⟩ := loc_len (as := as) (b := b) (g := g) (s := s) (k := k) (w := w) al
  have hnot := loc_not (as := as) (b := b) (g := g) (s := s) (a := a) (k := k) (w := w)
  have hfine := fun h => loc_fine (as := as) (b := b) (g := g) (s := s) (a := a) (k := k) (w := w) h
  have hkeep := fun h => loc_keeps (as := as) (b := b) (g := g) (s := s) (a := a) (k := k) (w := w) h
  have htry := fun ad h => loc_try (as := as) (b := b) (g := g) (s := s) (a := a) (k := k) (w := w) (ad := ad) h
  generalize hR : locM as b g s a k w = R at *
  have ec := ev_coRes R.code R.code R.tells R.tells (by omega)
  rw [decide_eq_true rfl, decide_eq_true rfl] at ec
  have ei := ev_coInts R.adds R.adds (by omega)
  rw [decide_eq_true rfl] at ei
  refine WR.ev ec rfl rfl rfl (WR.iteF rfl ?_)
  refine WR.ev ei rfl rfl rfl (WR.iteF rfl ?_)
  refine WR.iteF (by show (!(R.ok == R.ok)) = false; simp) ?_
  simp only [List.cons_append, List.nil_append]
  refine WR.iteN R.ok rfl (fun hok => ?_) (fun hok => ?_)
  · obtain ⟨hc, ha⟩ := hnot hok
    refine WR.iteP (R.code = 0) rfl (fun _ => ?_) (fun h => absurd hc h)
    refine WR.iteP (((dL R.adds).length : Int) = 0) rfl (fun _ => WR.ev ev_coHolds rfl rfl rfl (WR.done rfl)) (fun h => ?_)
    rcases ha with ha | ha
    · rw [ha] at h; exact absurd rfl h
    · have e0 := ev_coInts R.adds a (by omega)
      rw [decide_eq_true ha] at e0
      refine WR.ev e0 rfl rfl rfl (WR.iteT rfl (WR.ev ev_coHolds rfl rfl rfl (WR.done rfl)))
  clear hnot ec ei
  obtain ⟨h1, hkr, hw, hke, hst⟩ := locFine_iff.1 (hfine hok)
  have hf := keeps_fineM hke
  obtain ⟨htt, _, hsr, _, hb3, ha3, hg⟩ := fine_in hf
  have hpz : ∀ i : Int, 0 ≤ i ∧ i < g.length → keeps b g (catForms as) i [0, 0, 0] = true := fun i hi => keeps_zeroS (parts_okC as) htt hi
  have hpl := pins_len h1
  have hps : fitLL (catForms as) := (catForms_fit as).fitLL (by omega)
  have hRk := hkeep hok
  have hRf := (fine_in (keeps_fineM hRk)).2.2.2.2.2.1
  refine WR.ev (ev_iForms as ht.fit) rfl rfl rfl ?_
  refine WR.ev (ev_iPins as ht.fit) rfl rfl rfl ?_
  simp only [List.cons_append, List.nil_append]
  refine WR.forS g.length (fun i vs => ∃ ad : List (List Int), vs = [.l (dLL ad), .i i] ∧ ad.length = i ∧ ∀ (j : Nat) (x : List Int), ad[j]? = some x → keeps b g (catForms as) j x = true ∧ stillM (catPins as) x = true ∧ ((j : Int) = s → x = a)) rfl ⟨[], rfl, rfl, by simp⟩ ?_
  rintro i _ hi' ⟨ad, rfl, hal, had⟩
  simp only [List.cons_append, List.nil_append]
  refine WR.iteLen i (dL_len g) rfl (fun h => ?_) (fun h => ?_)
  · have push : ∀ (y : List Int), keeps b g (catForms as) i y = true → stillM (catPins as) y = true → ((i : Int) = s → y = a) → ∃ ad' : List (List Int), [V.l (dLL ad ++ [.s (dL y)]), V.i (IntKind.i64.wrap ((i : Int) + 1))] = [.l (dLL ad'), .i ((i + 1 : Nat) : Int)] ∧ ad'.length = i + 1 ∧ ∀ (j : Nat) (x : List Int), ad'[j]? = some x → keeps b g (catForms as) j x = true ∧ stillM (catPins as) x = true ∧ ((j : Int) = s → x = a) := by
      intro y hy1 hy2 hya
      refine ⟨ad ++ [y], by rw [wS h (by omega), dLL_snoc], by simp [hal], ?_⟩
      intro j x hx
      by_cases hji : j < i
      · rw [List.getElem?_append_left (by omega)] at hx
        exact had j x hx
      · rw [List.getElem?_append_right (by omega)] at hx
        have hj0 : j - ad.length = 0 := by
          have := (List.getElem?_eq_some_iff.1 hx).1
          simp at this; omega
        have hji : j = i := by omega
        rw [hj0] at hx
        simp only [List.getElem?_cons_zero, Option.some.injEq] at hx
        subst hx
        subst hji
        exact ⟨hy1, hy2, hya⟩
    refine WR.loop (fun m vs => ∃ (z : List Int) (q : Int), vs = [.l (dL z), .i q] ∧ keeps b g (catForms as) i z = true ∧ stillM (catPins as) z = true ∧ 0 ≤ q ∧ q ≤ 32 ∧ (m : Int) = 40 - q) rfl 40 ⟨[0, 0, 0], 0, rfl, hpz i (by omega), still_zero, by omega, by omega, by omega⟩ ?_
    rintro m _ ⟨z, q, rfl, hz1, hz2, q0, q32, hm⟩
    simp only [List.cons_append, List.nil_append]
    have hw2 : IntKind.i64.wrap (q + 2) = q + 2 := w64 (by omega) (by omega)
    have hw1 : IntKind.i64.wrap (q + 1) = q + 1 := w64 (by omega) (by omega)
    have hw3 : IntKind.i64.wrap (q + 3) = q + 3 := w64 (by omega) (by omega)
    refine WR.iteP (q + 2 < (ms.length : Int)) (by show decide (IntKind.i64.wrap (q + 2) < ((bytesD ms).length : Int)) = _; rw [hw2, bytesD_len]) (fun hq2 => ?_) (fun _ => WR.esc ?_)
    · refine WR.iteP (q < 30) rfl (fun hq30 => ?_) (fun _ => WR.esc ?_)
      · refine WR.idxA (ds := bytesD ms) q rfl rfl rfl q0 (bytesD_get q0 (by omega)) rfl ?_
        refine WR.chk rfl ?_
        refine WR.idxA (ds := bytesD ms) (q + 1) rfl rfl (by show IntKind.i64.wrap (q + 1) = _; exact hw1) (by omega) (bytesD_get (by omega) (by omega)) rfl ?_
        refine WR.chk rfl ?_
        refine WR.idxA (ds := bytesD ms) (q + 2) rfl rfl (by show IntKind.i64.wrap (q + 2) = _; exact hw2) (by omega) (bytesD_get (by omega) (by omega)) rfl ?_
        refine WR.chk rfl ?_
        simp only [List.cons_append, List.nil_append]
        generalize ms.getD q.toNat 0 = x0
        generalize ms.getD (q + 1).toNat 0 = x1
        generalize ms.getD (q + 2).toNat 0 = x2
        have r0 := rem_inC (IntKind.i64.wrap (IntKind.u8.wrap (x0 + IntKind.u8.wrap (i : Int)))) (m := 9) (d := 4) (by omega) (by omega) (by omega)
        have r1 := rem_inC (IntKind.i64.wrap x1) (m := 9) (d := 4) (by omega) (by omega) (by omega)
        have r2 := rem_inC (IntKind.i64.wrap x2) (m := 5) (d := 2) (by omega) (by omega) (by omega)
        refine WR.forS 3 (fun v vs => ∃ y : List Int, vs = [.l (dL y), .i v] ∧ y.length = 3 ∧ ∀ u : Nat, u < v → (catPins as).getD u false = true → y.getD u 0 = 0) rfl ⟨[IntKind.i64.wrap ((IntKind.i64.wrap (IntKind.u8.wrap (x0 + IntKind.u8.wrap (i : Int)))).tmod 9 - 4), IntKind.i64.wrap ((IntKind.i64.wrap x1).tmod 9 - 4), IntKind.i64.wrap ((IntKind.i64.wrap x2).tmod 5 - 2)], rfl, rfl, fun u hu => by omega⟩ ?_
        rintro v _ hv3 ⟨y, rfl, hy3, hyp⟩
        simp only [List.cons_append, List.nil_append]
        refine WR.iteLen v (dL_len y) rfl (fun hv => ?_) (fun hv => ?_)
        · obtain ⟨p, hp, _⟩ := some_at (show v < (catPins as).length by omega)
          obtain ⟨y0, hy0, _⟩ := some_at hv
          have hpv : (catPins as).getD v false = p := by simp [List.getD_eq_getElem?_getD, hp]
          refine WR.atN v (map_at (f := dB) hp) rfl rfl rfl rfl rfl rfl ?_
          simp only [List.cons_append, List.nil_append]
          refine WR.iteB p rfl (fun hp1 => ?_) (fun hp1 => ?_)
          · refine WR.atN v (map_at (f := dI) hy0) rfl rfl rfl rfl rfl rfl ?_
            refine WR.nextA (vs := [.l (dL (y.set v 0)), .i ((v + 1 : Nat) : Int)]) ?_ ⟨by omega, y.set v 0, rfl, by simp [hy3], ?_⟩
            · show [V.l ((dL y).set (v : Int).toNat (dI 0)), V.i (IntKind.i64.wrap ((v : Int) + 1))] = _
              rw [wS hv (by omega), Int.toNat_natCast, dL_set]
            · intro u hu hpu
              rw [List.getD_eq_getElem?_getD, List.getElem?_set]
              by_cases huv : v = u
              · subst huv; simp [hv]
              · rw [if_neg huv, ← List.getD_eq_getElem?_getD]
                exact hyp u (by omega) hpu
          · refine WR.nextA (vs := [.l (dL y), .i ((v + 1 : Nat) : Int)]) ?_ ⟨by omega, y, rfl, hy3, ?_⟩
            · show [V.l (dL y), V.i (IntKind.i64.wrap ((v : Int) + 1))] = _
              rw [wS hv (by omega)]
            · intro u hu hpu
              by_cases huv : u = v
              · subst huv; rw [hpv, hp1] at hpu; cases hpu
              · exact hyp u (by omega) hpu
        · refine WR.esc ?_
          have hsty : stillM (catPins as) y = true := still_of hpl hy3 fun u hu hpu => hyp u (by omega) hpu
          refine WR.ev (ev_TrtKeeps b g (catForms as) i y (by omega) (by omega) hps (by omega)) rfl rfl rfl ?_
          simp only [List.cons_append, List.nil_append]
          refine WR.iteB (keeps b g (catForms as) i y) rfl (fun hky => ?_) (fun _ => ?_)
          · refine WR.nextA (vs := [.l (dL y), .i (q + 3)]) ?_ ⟨m - 3, by omega, y, q + 3, rfl, hky, hsty, by omega, by omega, by omega⟩
            show [V.l (dL y), V.i (IntKind.i64.wrap (q + 3))] = _
            rw [hw3]
          · refine WR.nextA (vs := [.l (dL z), .i (q + 3)]) ?_ ⟨m - 3, by omega, z, q + 3, rfl, hz1, hz2, by omega, by omega, by omega⟩
            show [V.l (dL z), V.i (IntKind.i64.wrap (q + 3))] = _
            rw [hw3]
      · refine WR.iteP ((i : Int) = s) rfl (fun his => ?_) (fun his => ?_)
        · refine WR.chkApp (dLL ad) 10 (by rw [dLL_len]; omega) (by omega) rfl ?_
          exact WR.next ⟨h, push a (by rw [his]; exact hke) hst fun _ => rfl⟩
        · refine WR.chkApp (dLL ad) 10 (by rw [dLL_len]; omega) (by omega) rfl ?_
          exact WR.next ⟨h, push z hz1 hz2 fun e => absurd e his⟩
    · refine WR.iteP ((i : Int) = s) rfl (fun his => ?_) (fun his => ?_)
      · refine WR.chkApp (dLL ad) 10 (by rw [dLL_len]; omega) (by omega) rfl ?_
        exact WR.next ⟨h, push a (by rw [his]; exact hke) hst fun _ => rfl⟩
      · refine WR.chkApp (dLL ad) 10 (by rw [dLL_len]; omega) (by omega) rfl ?_
        exact WR.next ⟨h, push z hz1 hz2 fun e => absurd e his⟩
  · refine WR.esc ?_
    have hadl : ad.length = g.length := by omega
    obtain ⟨a', ha', _⟩ := some_at (show s.toNat < ad.length by omega)
    have hsa : ad[s.toNat]? = some a := by
      have := (had s.toNat a' ha').2.2 (by omega)
      rw [this] at ha'; exact ha'
    have hAll : AllKeep b g as s a ad := ⟨hadl, fun j x hx => ⟨(had j x hx).1, (had j x hx).2.1⟩, hsa⟩
    have had3 : ∀ x ∈ ad, x.length = b.length ∧ Lim 20000 x := by
      intro x hx
      obtain ⟨j, hj⟩ := List.mem_iff_getElem?.1 hx
      have := (fine_in (keeps_fineM (had j x hj).1)).2.2.2.2.2.1
      exact ⟨by omega, this.2⟩
    refine WR.ev (ev_coSum5 b ad (M := 20000) (by omega) (by omega) had3 (Lim.mono (m := 10000) hb3.2 (by omega)) (by omega) (by omega)) rfl rfl rfl ?_
    have hcl : (coSumM b ad).length = b.length := coSum_len fun x hx => (had3 x hx).1
    have hT := htry ad hok hAll
    have hset3 : ∀ x ∈ ad.set s.toNat R.adds, x.length = b.length ∧ Lim 20000 x := by
      intro x hx
      rcases List.mem_or_eq_of_mem_set hx with hx | hx
      · exact had3 x hx
      · subst hx; exact ⟨by omega, hRf.2⟩
    have eS2 := ev_coSum5 b (ad.set s.toNat R.adds) (M := 20000) (by omega) (by simp; omega) hset3 (Lim.mono (m := 10000) hb3.2 (by omega)) (by omega) (by omega)
    have hcl2 : (coSumM b (ad.set s.toNat R.adds)).length = b.length := coSum_len fun x hx => (hset3 x hx).1
    have eA := fun hm => ev_ActRun (as.getD k.toNat []) (coSumM b ad) w hm (by omega) (by omega)
    have eK := ev_TrtKeeps b g (catForms as) s R.adds (by omega) (by omega) hps (by omega)
    rw [hRk] at eK
    obtain ⟨hm, hkx⟩ := mem_getD (as := as) hkr.1 hkr.2
    have htl := actRun_len (w := w) (ht.fit.2 _ hm) (show (coSumM b ad).length ≤ 1000 by omega)
    simp only [List.cons_append, List.nil_append]
    generalize coSumM b ad = vals at *
    generalize coSumM b (ad.set s.toNat R.adds) = vals2 at *
    refine WR.ev (ev_ValOk vals (by omega)) rfl rfl rfl ?_
    refine WR.iteN (valOk vals) rfl (fun _ => ?_) (fun hvv => ?_)
    · exact WR.ev eK rfl rfl rfl (WR.done rfl)
    obtain ⟨t1, t2, t3⟩ := hT hvv
    refine WR.idxA (ds := dActs as) k rfl rfl rfl hkr.1 (map_at (f := fun a => .s (dAct a)) hkx) rfl ?_
    refine WR.ev (eA (ht.fit.2 _ hm)) rfl rfl rfl ?_
    simp only [List.cons_append, List.nil_append]
    generalize actRun (as.getD k.toNat []) vals w = A at *
    refine WR.chkP (0 ≤ s) rfl hsr.1 ?_
    refine WR.chkP (s < ((dLL ad).length : Int)) rfl (by rw [dLL_len]; omega) ?_
    refine WR.chk (by show decide (((dLL ad).length : Int) = ((dLL ad).length : Int)) = true; simp) ?_
    refine WR.idxA (ds := dLL ad) s rfl rfl rfl hsr.1 (map_at (f := fun x => .s (dL x)) hsa) rfl ?_
    have ec := ev_coRes A.code R.code A.tells R.tells htl
    rw [decide_eq_true t1, decide_eq_true t2] at ec
    refine WR.ev ec rfl rfl rfl (WR.iteT rfl ?_)
    have hss : (dLL ad).set s.toNat (.s (dL R.adds)) = dLL (ad.set s.toNat R.adds) := dLL_set ad s.toNat R.adds
    refine WR.chk (by show decide (((dLL ad).length : Int) = (((dLL ad).set s.toNat (.s (dL R.adds))).length : Int)) = true; simp) ?_
    refine WR.ev eS2 rfl (by show [D.s (dL b), .s ((dLL ad).set s.toNat (.s (dL R.adds)))] = _; rw [hss]) rfl ?_
    have ei := ev_coInts A.is vals2 (by rw [t3]; omega)
    rw [decide_eq_true t3] at ei
    simp only [List.cons_append, List.nil_append]
    refine WR.ev ei rfl rfl rfl (WR.iteT rfl ?_)
    exact WR.ev eK rfl rfl rfl (WR.done rfl)
end Go.Proofs.YtbikgdcgoogngaaGreat

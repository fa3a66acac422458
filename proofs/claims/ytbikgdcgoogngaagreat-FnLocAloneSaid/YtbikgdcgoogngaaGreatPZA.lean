/- What a site does alone: draws; who gives more can do more: over residual programs. -/
import Derived.Test.YtbikgdcgoogngaaGreatPZ
namespace Go.Proofs.YtbikgdcgoogngaaGreat
open Go Go.Tm

theorem ev_DrawLocTry (ns : List Int) (hb : ∀ x ∈ ns, 0 ≤ x ∧ x < 256) :
    ∃ as b g s a k w, Ev L f_spec_DrawLocTry [.s (bytesD ns)] [.s (dActs as), .s (dL b), .s (dL g), dI s, .s (dL a), dI k, .s (dL w)] ∧ thinAs as ∧ b.length ≤ 4 ∧ g.length ≤ 3 ∧ 0 ≤ s ∧ s ≤ 3 ∧ a.length ≤ 4 ∧ 0 ≤ k ∧ k ≤ 5 ∧ w.length ≤ 3 := by
  have key : ∃ ds, Ev L f_spec_DrawLocTry [.s (bytesD ns)] ds ∧ ∃ as b g s a k w, ds = [D.s (dActs as), .s (dL b), .s (dL g), dI s, .s (dL a), dI k, .s (dL w)] ∧ thinAs as ∧ b.length ≤ 4 ∧ g.length ≤ 3 ∧ 0 ≤ s ∧ s ≤ 3 ∧ a.length ≤ 4 ∧ 0 ≤ k ∧ k ≤ 5 ∧ w.length ≤ 3 := by
    refine Ev.of (vs := [.l (bytesD ns)]) L_spec_DrawLocTry rfl ?_
    obtain ⟨bs, ho, hr⟩ := ev_open ns hb
    refine WR.ev ho rfl rfl rfl ?_
    obtain ⟨as, q, ea, q1, q2, ht⟩ := ev_l20AnyActs hr (by omega) (n := 16) (by omega) (by omega)
    refine WR.ev ea rfl rfl rfl ?_
    obtain ⟨b, g, p1, et, t1, t2, bl, gl, _, _⟩ := ev_treaty (hr.go (q := q) (by omega) (by omega)) (by omega) (n := 16) (by omega) (by omega)
    refine WR.ev et rfl rfl rfl ?_
    have hr1 : Rdr bs p1 := hr.go (by omega) (by omega)
    obtain ⟨a, p2, eA, t3, t4, al, _⟩ := ev_added hr1 (by omega) (n := 16) (by omega) (by omega)
    refine WR.ev eA rfl rfl rfl ?_
    have hr2 : Rdr bs p2 := hr.go (by omega) (by omega)
    simp only [List.cons_append, List.nil_append]
    refine WR.ev (ev_sPins as ht.fit) rfl rfl rfl ?_
    simp only [List.cons_append, List.nil_append]
    have htl := ht.1
    generalize catPins as = pins at *
    refine WR.forS a.length (fun i vs => ∃ (a' : List Int) (q : Int), vs = [.l (dL a'), .i i, .i q, .l (bytesD bs)] ∧ a'.length = a.length ∧ p2 ≤ q ∧ q ≤ p2 + i) rfl ⟨a, p2, rfl, rfl, by omega, by omega⟩ ?_
    rintro i _ hi ⟨a', q', rfl, hl', q3, q4⟩
    simp only [List.cons_append, List.nil_append]
    have hr3 : Rdr bs q' := hr.go (by omega) (by omega)
    refine WR.iteLen i (dBl_len pins) rfl (fun h => ?_) (fun _ => ?_)
    · refine WR.iteLen i (dL_len a') rfl (fun h' => ?_) (fun _ => ?_)
      · obtain ⟨p, hp, _⟩ := some_at h
        obtain ⟨x, hx, _⟩ := some_at h'
        refine WR.atN i (map_at (f := dB) hp) rfl rfl rfl rfl rfl rfl ?_
        simp only [List.cons_append, List.nil_append]
        refine WR.iteB p rfl (fun _ => ?_) (fun _ => ?_)
        · refine WRpick 8 hr3 (by omega) (by omega) rfl rfl fun u hu0 hu1 => ?_
          simp only [List.cons_append, List.nil_append]
          refine WR.iteP (0 < u) rfl (fun _ => ?_) (fun _ => ?_)
          · refine WR.atN i (map_at (f := dI) hx) rfl rfl rfl rfl rfl rfl ?_
            refine WR.nextA (vs := [.l (dL (a'.set i 0)), .i ((i + 1 : Nat) : Int), .i (q' + 1), .l (bytesD bs)]) ?_ ⟨by omega, a'.set i 0, q' + 1, rfl, by simp [hl'], by omega, by omega⟩
            show [V.l ((dL a').set (i : Int).toNat (dI 0)), V.i (IntKind.i64.wrap ((i : Int) + 1)), V.i (q' + 1), V.l (bytesD bs)] = _
            rw [wS h' (by omega), Int.toNat_natCast, dL_set]
          · refine WR.nextA (vs := [.l (dL a'), .i ((i + 1 : Nat) : Int), .i (q' + 1), .l (bytesD bs)]) ?_ ⟨by omega, a', q' + 1, rfl, hl', by omega, by omega⟩
            show [V.l (dL a'), V.i (IntKind.i64.wrap ((i : Int) + 1)), V.i (q' + 1), V.l (bytesD bs)] = _
            rw [wS h' (by omega)]
        · refine WR.nextA (vs := [.l (dL a'), .i ((i + 1 : Nat) : Int), .i q', .l (bytesD bs)]) ?_ ⟨by omega, a', q', rfl, hl', by omega, by omega⟩
          show [V.l (dL a'), V.i (IntKind.i64.wrap ((i : Int) + 1)), V.i q', V.l (bytesD bs)] = _
          rw [wS h' (by omega)]
      · refine WR.esc ?_
        refine WRpick 3 hr3 (by omega) (by omega) rfl rfl fun u hu0 hu1 => ?_
        simp only [List.cons_append, List.nil_append]
        obtain ⟨w, p3, eW, t5, t6, wl⟩ := ev_l20Args (hr.go (q := q' + 1 + 1 + 1) (by omega) (by omega)) (by omega) (n := 16) (by omega) (by omega)
        refine WR.iteP (0 < u) rfl (fun _ => ?_) (fun _ => ?_)
        · refine WRpick (g.length + 1) (hr.go (q := q' + 1) (by omega) (by omega)) (by omega) (by omega) rfl (by show [D.s (bytesD bs), dI (q' + 1), dI (IntKind.i64.wrap (((dL g).length : Int) + 1))] = _; rw [dL_len, w64 (by omega) (by omega)]) fun s s0 s1 => ?_
          refine WRpick (as.length + 1) (hr.go (q := q' + 1 + 1) (by omega) (by omega)) (by omega) (by omega) rfl (by show [D.s (bytesD bs), dI (q' + 1 + 1), dI (IntKind.i64.wrap (((dActs as).length : Int) + 1))] = _; rw [dActs_len, w64 (by omega) (by omega)]) fun k k0 k1 => ?_
          simp only [List.cons_append, List.nil_append]
          refine WR.ev eW rfl rfl rfl ?_
          exact WR.done ⟨as, b, g, s, [0, 0, 0], k, w, rfl, ht, bl, gl, s0, by omega, by simp, k0, by omega, wl⟩
        · refine WRpick (g.length + 1) (hr.go (q := q' + 1) (by omega) (by omega)) (by omega) (by omega) rfl (by show [D.s (bytesD bs), dI (q' + 1), dI (IntKind.i64.wrap (((dL g).length : Int) + 1))] = _; rw [dL_len, w64 (by omega) (by omega)]) fun s s0 s1 => ?_
          refine WRpick (as.length + 1) (hr.go (q := q' + 1 + 1) (by omega) (by omega)) (by omega) (by omega) rfl (by show [D.s (bytesD bs), dI (q' + 1 + 1), dI (IntKind.i64.wrap (((dActs as).length : Int) + 1))] = _; rw [dActs_len, w64 (by omega) (by omega)]) fun k k0 k1 => ?_
          simp only [List.cons_append, List.nil_append]
          refine WR.ev eW rfl rfl rfl ?_
          exact WR.done ⟨as, b, g, s, a', k, w, rfl, ht, bl, gl, s0, by omega, by omega, k0, by omega, wl⟩
    · refine WR.esc ?_
      refine WRpick 3 hr3 (by omega) (by omega) rfl rfl fun u hu0 hu1 => ?_
      simp only [List.cons_append, List.nil_append]
      obtain ⟨w, p3, eW, t5, t6, wl⟩ := ev_l20Args (hr.go (q := q' + 1 + 1 + 1) (by omega) (by omega)) (by omega) (n := 16) (by omega) (by omega)
      refine WR.iteP (0 < u) rfl (fun _ => ?_) (fun _ => ?_)
      · refine WRpick (g.length + 1) (hr.go (q := q' + 1) (by omega) (by omega)) (by omega) (by omega) rfl (by show [D.s (bytesD bs), dI (q' + 1), dI (IntKind.i64.wrap (((dL g).length : Int) + 1))] = _; rw [dL_len, w64 (by omega) (by omega)]) fun s s0 s1 => ?_
        refine WRpick (as.length + 1) (hr.go (q := q' + 1 + 1) (by omega) (by omega)) (by omega) (by omega) rfl (by show [D.s (bytesD bs), dI (q' + 1 + 1), dI (IntKind.i64.wrap (((dActs as).length : Int) + 1))] = _; rw [dActs_len, w64 (by omega) (by omega)]) fun k k0 k1 => ?_
        simp only [List.cons_append, List.nil_append]
        refine WR.ev eW rfl rfl rfl ?_
        exact WR.done ⟨as, b, g, s, [0, 0, 0], k, w, rfl, ht, bl, gl, s0, by omega, by simp, k0, by omega, wl⟩
      · refine WRpick (g.length + 1) (hr.go (q := q' + 1) (by omega) (by omega)) (by omega) (by omega) rfl (by show [D.s (bytesD bs), dI (q' + 1), dI (IntKind.i64.wrap (((dL g).length : Int) + 1))] = _; rw [dL_len, w64 (by omega) (by omega)]) fun s s0 s1 => ?_
        refine WRpick (as.length + 1) (hr.go (q := q' + 1 + 1) (by omega) (by omega)) (by omega) (by omega) rfl (by show [D.s (bytesD bs), dI (q' + 1 + 1), dI (IntKind.i64.wrap (((dActs as).length : Int) + 1))] = _; rw [dActs_len, w64 (by omega) (by omega)]) fun k k0 k1 => ?_
        simp only [List.cons_append, List.nil_append]
        refine WR.ev eW rfl rfl rfl ?_
        exact WR.done ⟨as, b, g, s, a', k, w, rfl, ht, bl, gl, s0, by omega, by omega, k0, by omega, wl⟩
  obtain ⟨ds, e1, as, b, g, s, a, k, w, rfl, e2⟩ := key
  exact ⟨as, b, g, s, a, k, w, e1, e2⟩

/-- What comes of a try is not long. -/
theorem loc_len {as : List (List Line)} {b g : List Int} {s : Int} {a : List Int} {k : Int} {w : List Int} (ha : a.length ≤ 4) : (locM as b g s a k w).tells.length ≤ 6 ∧ (locM as b g s a k w).adds.length ≤ 4 := by
  unfold locM
  split
  · split
    · rename_i r hr
      have hm := List.mem_of_find?_eq_some hr
      have htl := (rows_fit r hm).tl
      unfold rowLoc
      split
      · exact ⟨by simp, ha⟩
      split
      · split
        · exact ⟨by simp, ha⟩
        split
        · exact ⟨by simp, ha⟩
        split
        · refine ⟨by simp [atL]; omega, ?_⟩
          show (sumL a _).length ≤ 4
          unfold sumL; rw [List.length_zipWith]; omega
        · exact ⟨by simp, ha⟩
      · exact ⟨by simp, ha⟩
    · exact ⟨by simp, ha⟩
  · exact ⟨by simp, by simp⟩

theorem ev_FnLocMore (ns : List Int) (hb : ∀ x ∈ ns, 0 ≤ x ∧ x < 256) : Ev L f_laws_FnLocMore [.s (bytesD ns)] [dB true] := by
  refine Ev.eq (vs := [.l (bytesD ns)]) L_laws_FnLocMore rfl ?_
  refine WR.iteP (1048576 < ((bytesD ns).length : Int)) rfl (fun _ => WR.done rfl) (fun _ => ?_)
  obtain ⟨as, b, g, s, a, k, w, hd, ht, bl, gl, s0, s3, al, k0, k5, wl⟩ := ev_DrawLocTry ns hb
  refine WR.ev hd rfl rfl rfl ?_
  simp only [List.cons_append, List.nil_append]
  have eI : ∀ g' : List Int, g'.length ≤ 1000000 → _ := fun g' hg' => ev_iLocTry as b g' s a k w ht.fit (by omega) hg' (by omega) (by omega)
  refine WR.ev (eI g (by omega)) rfl rfl rfl ?_
  refine WR.ev (ev_sLocTry as b g s a k w ht.fit (by omega) (by omega) (by omega) (by omega)) rfl rfl rfl ?_
  simp only [List.cons_append, List.nil_append]
  obtain ⟨hl1, hl2⟩ := loc_len (as := as) (b := b) (g := g) (s := s) (k := k) (w := w) al
  have hmore : ∀ g', MoreG g g' s → (locM as b g s a k w).ok = true → locM as b g' s a k w = locM as b g s a k w := fun g' h hok => h.loc hok
  have hfine : (locM as b g s a k w).ok = true → _ := fun h => fine_in (keeps_fineM (locFine_iff.1 (loc_fine h)).2.2.2.1)
  generalize hR : locM as b g s a k w = R at *
  have ec := ev_coRes R.code R.code R.tells R.tells (by omega)
  rw [decide_eq_true rfl, decide_eq_true rfl] at ec
  have ei := ev_coInts R.adds R.adds (by omega)
  rw [decide_eq_true rfl] at ei
  refine WR.ev ec rfl rfl rfl (WR.iteF rfl ?_)
  refine WR.ev ei rfl rfl rfl (WR.iteF rfl ?_)
  refine WR.iteF (by show (!(R.ok == R.ok)) = false; simp) ?_
  simp only [List.cons_append, List.nil_append]
  refine WR.iteN R.ok rfl (fun _ => ?_) (fun hok => ?_)
  · refine WR.ev (ev_TrtOk b g (by omega) (by omega)) rfl rfl rfl ?_
    refine WR.ev (ev_sTrtOk b g (by omega) (by omega)) rfl rfl rfl ?_
    refine WR.iteT (by show (trtOk b g == trtOk b g) = true; simp) ?_
    exact WR.ev ev_coHolds rfl rfl rfl (WR.done rfl)
  obtain ⟨_, _, hs, _, _, _, hg⟩ := hfine hok
  have e' : ∀ g', MoreG g g' s → Ev L f_impl_LocTry [.s (dActs as), .s (dL b), .s (dL g'), dI s, .s (dL a), dI k, .s (dL w)] R.ds := by
    intro g' h
    have := eI g' (by rw [h.l]; omega)
    rw [hmore g' h hok] at this
    exact this
  refine WR.forP g.length (fun i => [.i i]) (fun _ => True) rfl rfl trivial fun i hi _ => ?_
  simp only [List.cons_append, List.nil_append]
  refine WR.iteLen i (dL_len g) rfl (fun h => ?_) (fun h => WR.esc (WR.done rfl))
  obtain ⟨x, hx, hm⟩ := some_at h
  have hxx := hg x hm
  have nx : [V.i (IntKind.i64.wrap ((i : Int) + 1))] = [V.i ((i + 1 : Nat) : Int)] := by rw [wS h (by omega)]
  refine WR.cp g (by omega) (by omega) rfl ?_
  refine WR.iteP ((i : Int) = s) rfl (fun his => ?_) (fun his => ?_)
  · refine WR.atN i (map_at (f := dI) hx) rfl rfl rfl rfl rfl rfl ?_
    refine WR.iteP (x < 50) rfl (fun h50 => ?_) (fun h50 => ?_)
    · refine WR.atN i (map_at (f := dI) hx) rfl rfl rfl rfl rfl rfl ?_
      refine WR.atN i (map_at (f := dI) hx) rfl rfl rfl rfl rfl rfl ?_
      simp only [List.cons_append, List.nil_append]
      refine WR.iteF (by show (!(decide ((i : Int) = s))) = false; simp [his]) ?_
      refine WR.ev (e' _ (MoreG.up hg hx his h50)) rfl ?_ rfl ?_
      · show [D.s (dActs as), .s (dL b), .s ((dL g).set (i : Int).toNat (dI (IntKind.i64.wrap (x + 1)))), dI s, .s (dL a), dI k, .s (dL w)] = _
        rw [Int.toNat_natCast, w64 (by omega) (by omega), dL_set]
      simp only [List.cons_append, List.nil_append]
      refine WR.iteF (by show (!R.ok) = false; rw [hok]; rfl) ?_
      refine WR.ev ec rfl rfl rfl (WR.iteF rfl ?_)
      refine WR.ev ei rfl rfl rfl (WR.iteF rfl ?_)
      exact WR.nextA nx ⟨h, rfl, trivial⟩
    · refine WR.iteF (by show (!(decide ((i : Int) = s))) = false; simp [his]) ?_
      refine WR.ev (e' _ (MoreG.same hg)) rfl rfl rfl ?_
      simp only [List.cons_append, List.nil_append]
      refine WR.iteF (by show (!R.ok) = false; rw [hok]; rfl) ?_
      refine WR.ev ec rfl rfl rfl (WR.iteF rfl ?_)
      refine WR.ev ei rfl rfl rfl (WR.iteF rfl ?_)
      exact WR.nextA nx ⟨h, rfl, trivial⟩
  · refine WR.iteT (by show (!(decide ((i : Int) = s))) = true; simp [his]) ?_
    refine WR.atN i (map_at (f := dI) hx) rfl rfl rfl rfl rfl rfl ?_
    refine WR.iteP (0 < x) rfl (fun h0 => ?_) (fun h0 => ?_)
    · refine WR.atN i (map_at (f := dI) hx) rfl rfl rfl rfl rfl rfl ?_
      refine WR.atN i (map_at (f := dI) hx) rfl rfl rfl rfl rfl rfl ?_
      simp only [List.cons_append, List.nil_append]
      refine WR.ev (e' _ (MoreG.down hg hx his s0 h0)) rfl ?_ rfl ?_
      · show [D.s (dActs as), .s (dL b), .s ((dL g).set (i : Int).toNat (dI (IntKind.i64.wrap (x - 1)))), dI s, .s (dL a), dI k, .s (dL w)] = _
        rw [Int.toNat_natCast, w64 (by omega) (by omega), dL_set]
      simp only [List.cons_append, List.nil_append]
      refine WR.iteF (by show (!R.ok) = false; rw [hok]; rfl) ?_
      refine WR.ev ec rfl rfl rfl (WR.iteF rfl ?_)
      refine WR.ev ei rfl rfl rfl (WR.iteF rfl ?_)
      exact WR.nextA nx ⟨h, rfl, trivial⟩
    · refine WR.ev (e' _ (MoreG.same hg)) rfl rfl rfl ?_
      simp only [List.cons_append, List.nil_append]
      refine WR.iteF (by show (!R.ok) = false; rw [hok]; rfl) ?_
      refine WR.ev ec rfl rfl rfl (WR.iteF rfl ?_)
      refine WR.ev ei rfl rfl rfl (WR.iteF rfl ?_)
      exact WR.nextA nx ⟨h, rfl, trivial⟩
end Go.Proofs.YtbikgdcgoogngaaGreat

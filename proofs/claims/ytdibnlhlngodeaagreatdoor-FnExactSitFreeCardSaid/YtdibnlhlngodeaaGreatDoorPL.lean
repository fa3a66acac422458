import Derived.Test.YtdibnlhlngodeaaGreatDoorPK
set_option linter.unusedVariables false
set_option linter.unusedSimpArgs false
/- What the program's treaties come to. -/
namespace Go.Proofs.YtdibnlhlngodeaaGreatDoor
open Go Go.Tm
theorem ev_in (n a b : Int) : Ev L f_k1z [dI n, dI a, dI b] [dB (inB n a b)] := by
  refine Ev.eq (vs := [.i n, .i a, .i b]) L_k1z rfl ?_
  refine WR.iteP (a ≤ n) rfl (fun h => WR.done ?_) (fun h => WR.done ?_)
  · show [dB (decide (n ≤ b))] = _
    simp [inB, h]
  · show [dB false] = _
    simp [inB, h]
theorem ev_idxInt (p : Int → Bool) (l : List Int) {fn : FuncId} {caps : List D} (hlen : l.length ≤ 2000000) (hcap : oneOf (.f fn caps) = .f fn caps) (har : arT L fn = some ([none] ++ caps.map fun _ => none))
    (hc : ∀ x ∈ l, Ev L fn ([dI x] ++ caps.map D.norm) [dB (p x)]) : Ev L f_k23 [.s (dL l), .f fn caps] [dI (place p l)] :=
  ev_idxFunc (sh := .one (.i .i64)) (as := [(.vi .i64 (.v 3))]) (ar := [none]) (k := 4) dI p (fun x => [dI x]) (fun x => [.i x]) l L_k23 rfl hlen hcap (fun _ _ => rfl) (fun _ _ => rfl) (fun _ _ _ _ => rfl) har hc
theorem ev_hasInt (p : Int → Bool) (l : List Int) {fn : FuncId} {caps : List D} (hlen : l.length ≤ 2000000) (hcap : oneOf (.f fn caps) = .f fn caps) (har : arT L fn = some ([none] ++ caps.map fun _ => none))
    (hc : ∀ x ∈ l, Ev L fn ([dI x] ++ caps.map D.norm) [dB (p x)]) : Ev L f_k24 [.s (dL l), .f fn caps] [dB (l.any p)] :=
  ev_contains (g := f_k23) L_k24 rfl hcap (ev_idxInt p l hlen hcap har hc)
theorem ev_idxInts (p : List Int → Bool) (l : List (List Int)) {fn : FuncId} {caps : List D} (hlen : l.length ≤ 2000000) (hcap : oneOf (.f fn caps) = .f fn caps) (har : arT L fn = some ([none] ++ caps.map fun _ => none))
    (hc : ∀ x ∈ l, Ev L fn ([.s (dL x)] ++ caps.map D.norm) [dB (p x)]) : Ev L f_k33 [.s (dLL l), .f fn caps] [dI (place p l)] :=
  ev_idxFunc (sh := .one .s) (as := [(.s (.v 3))]) (ar := [none]) (k := 4) (fun x => .s (dL x)) p (fun x => [.s (dL x)]) (fun x => [.l (dL x)]) l L_k33 rfl hlen hcap (fun _ _ => rfl) (fun _ _ => rfl) (fun _ _ _ _ => rfl) har hc
theorem ev_hasInts (p : List Int → Bool) (l : List (List Int)) {fn : FuncId} {caps : List D} (hlen : l.length ≤ 2000000) (hcap : oneOf (.f fn caps) = .f fn caps) (har : arT L fn = some ([none] ++ caps.map fun _ => none))
    (hc : ∀ x ∈ l, Ev L fn ([.s (dL x)] ++ caps.map D.norm) [dB (p x)]) : Ev L f_k3e [.s (dLL l), .f fn caps] [dB (l.any p)] :=
  ev_contains (g := f_k33) L_k3e rfl hcap (ev_idxInts p l hlen hcap har hc)
theorem not_any {α : Type} (p : α → Bool) (l : List α) : (!(l.any fun x => !p x)) = l.all p := by
  induction l with
  | nil => rfl
  | cons x l ih => simp [ih]
theorem ev_within_1 (x m : Int) (h0 : 0 ≤ m) (hm : m ≤ 10000000000000) : Ev L f_k22 [dI x, .q [dI m]] [dB (!inB x (0 - m) m)] := by
  refine Ev.eq (vs := [.i x, .d (.q [dI m])]) L_k22 rfl ?_
  refine WR.get (vs := [.i m]) rfl rfl ?_
  refine WR.get (vs := [.i m]) rfl rfl ?_
  refine WR.ev (ev_in x (0 - m) m) rfl ?_ rfl (WR.done rfl)
  show [dI x, dI (IntKind.i64.wrap (0 - m)), dI m] = _
  rw [w64 (by omega) (by omega)]
theorem ev_within (l : List Int) (n m : Int) (hl : l.length ≤ 2000000) (h0 : 0 ≤ m) (hm : m ≤ 10000000000000) : Ev L f_k25 [.s (dL l), dI n, dI m] [dB (allIn n m l)] := by
  refine Ev.eq (vs := [.l (dL l), .i n, .i m]) L_k25 rfl ?_
  refine WR.iteP ((l.length : Int) = n) ?_ (fun h => ?_) (fun h => WR.done ?_)
  · show decide (((dL l).length : Int) = n) = _
    rw [dL_len]
  · refine WR.ev (ev_hasInt (fun x => !inB x (0 - m) m) l (fn := f_k22) (caps := [.q [dI m]]) hl rfl rfl fun x _ => ev_within_1 x m h0 hm) rfl rfl rfl (WR.done ?_)
    show [dB (!(l.any fun x => !inB x (0 - m) m))] = _
    rw [not_any]; simp [allIn, h]
  · show [dB false] = _
    simp [allIn, h]
theorem ev_ValOk (l : List Int) (hl : l.length ≤ 2000000) : Ev L f_k2f [.s (dL l)] [dB (valOk l)] :=
  Ev.eq (vs := [.l (dL l)]) L_k2f rfl (WR.ev (ev_within l 3 10000 hl (by omega) (by omega)) rfl rfl rfl (WR.done rfl))
theorem ev_TrtOk_1 (x : Int) : Ev L f_k2e [dI x] [dB (!inB x 0 50)] :=
  Ev.eq (vs := [.i x]) L_k2e rfl (WR.ev (ev_in x 0 50) rfl rfl rfl (WR.done rfl))
theorem ev_TrtOk (b g : List Int) (hb : b.length ≤ 2000000) (hg : g.length ≤ 2000000) : Ev L f_k2g [.s (dL b), .s (dL g)] [dB (trtOk b g)] := by
  refine Ev.eq (vs := [.l (dL b), .l (dL g)]) L_k2g rfl ?_
  refine WR.ev (ev_ValOk b hb) rfl rfl rfl ?_
  refine WR.iteB (valOk b) rfl (fun h => ?_) (fun h => WR.done ?_)
  · refine WR.ev (ev_in g.length 1 3) rfl ?_ rfl ?_
    · show [dI ((dL g).length : Int), dI 1, dI 3] = _
      rw [dL_len]
    refine WR.iteB (inB g.length 1 3) rfl (fun h2 => ?_) (fun h2 => WR.done ?_)
    · refine WR.ev (ev_hasInt (fun x => !inB x 0 50) g (fn := f_k2e) (caps := []) hg rfl rfl fun x _ => ev_TrtOk_1 x) rfl rfl rfl (WR.done ?_)
      show [dB (!(g.any fun x => !inB x 0 50))] = _
      rw [not_any]; simp [trtOk, h, h2]
    · show [dB false] = _
      simp [trtOk, h2]
  · show [dB false] = _
    simp [trtOk, h]
theorem ev_partsOk_1 (p : List Int) (hp : p.length ≤ 2000000) : Ev L f_k3f [.s (dL p)] [dB (!allIn 3 10000000 p)] :=
  Ev.eq (vs := [.l (dL p)]) L_k3f rfl (WR.ev (ev_within p 3 10000000 hp (by omega) (by omega)) rfl rfl rfl (WR.done rfl))
theorem ev_partsOk (ps : List (List Int)) (hp : fitLL ps) : Ev L f_k3g [.s (dLL ps)] [dB (partsOk ps)] := by
  refine Ev.eq (vs := [.l (dLL ps)]) L_k3g rfl ?_
  refine WR.ev (ev_hasInts (fun p => !allIn 3 10000000 p) ps (fn := f_k3f) (caps := []) hp.1 rfl rfl fun p h => ev_partsOk_1 p (hp.2 p h)) rfl rfl rfl (WR.done ?_)
  show [dB (!(ps.any fun p => !allIn 3 10000000 p))] = _
  rw [not_any]; rfl
theorem ev_addedOk (a : List Int) (ha : a.length ≤ 2000000) : Ev L f_k3h [.s (dL a)] [dB (addedOk a)] :=
  Ev.eq (vs := [.l (dL a)]) L_k3h rfl (WR.ev (ev_within a 3 20000 ha (by omega) (by omega)) rfl rfl rfl (WR.done rfl))
def trtFine (b g : List Int) (ps : List (List Int)) (s : Int) (a : List Int) : Bool := trtOk b g && partsOk ps && inB s 0 (g.length - 1) && addedOk a
theorem ev_TrtTreaty_ok (b g : List Int) (ps : List (List Int)) (s : Int) (a : List Int) (hb : b.length ≤ 2000000) (hg : g.length ≤ 2000000) (hp : fitLL ps) (ha : a.length ≤ 2000000) :
    Ev L f_k3i [.s (dL b), .s (dL g), .s (dLL ps), dI s, .s (dL a)] [dB (trtFine b g ps s a)] := by
  refine Ev.eq (vs := [.l (dL b), .l (dL g), .l (dLL ps), .i s, .l (dL a)]) L_k3i rfl ?_
  refine WR.ev (ev_TrtOk b g hb hg) rfl rfl rfl ?_
  refine WR.iteB (trtOk b g) rfl (fun h => ?_) (fun h => WR.done ?_)
  · refine WR.ev (ev_partsOk ps hp) rfl rfl rfl ?_
    refine WR.iteB (partsOk ps) rfl (fun h2 => ?_) (fun h2 => WR.done ?_)
    · refine WR.ev (ev_in s 0 (g.length - 1)) rfl ?_ rfl ?_
      · show [dI s, dI 0, dI (IntKind.i64.wrap (((dL g).length : Int) - 1))] = _
        rw [dL_len, w64 (by omega) (by omega)]
      refine WR.iteB (inB s 0 (g.length - 1)) rfl (fun h3 => ?_) (fun h3 => WR.done ?_)
      · refine WR.ev (ev_addedOk a ha) rfl rfl rfl (WR.done ?_)
        show [dB (addedOk a)] = _
        simp [trtFine, h, h2, h3]
      · show [dB false] = _
        simp [trtFine, h3]
    · show [dB false] = _
      simp [trtFine, h2]
  · show [dB false] = _
    simp [trtFine, h]
theorem ev_dot (p a : List Int) (hp : Lim 100000000 p) (ha : Lim 1000000 a) (hl : p.length = a.length) (h9 : p.length ≤ 999) : Ev L f_k3j [.s (dL p), .s (dL a)] [dI (dot p a)] := by
  refine Ev.eq (vs := [.l (dL p), .l (dL a)]) L_k3j rfl ?_
  refine WR.forP p.length (fun i => [.i (dot (p.take i) (a.take i)), .i i]) (fun _ => True) rfl rfl trivial fun i hi _ => ?_
  refine WR.iteLen i (dL_len p) rfl (fun h => ?_) (fun h => ?_)
  · obtain ⟨x, hx, _⟩ := some_at (show i < p.length by omega)
    obtain ⟨y, hy, _⟩ := some_at (show i < a.length by omega)
    refine WR.idxN i (map_at (f := dI) hx) rfl rfl rfl rfl ?_
    refine WR.idxN i (map_at (f := dI) hy) rfl rfl rfl rfl ?_
    refine WR.nextA (vs := [.i (dot (p.take (i + 1)) (a.take (i + 1))), .i ((i + 1 : Nat) : Int)]) ?_ ⟨h, rfl, trivial⟩
    show [V.i (IntKind.i64.wrap (dot (p.take i) (a.take i) + IntKind.i64.wrap (x * y))), V.i (IntKind.i64.wrap ((i : Int) + 1))] = _
    rw [wS h (by omega), dot_wrap hx hy hp ha (by omega)]
  · refine WR.esc (WR.done ?_)
    show [dI (dot (p.take i) (a.take i))] = _
    rw [take_all h, take_all (by omega)]
theorem ev_TrtKeeps_1 (p a : List Int) (G : Int) (hp : allIn 3 10000000 p = true) (ha : addedOk a = true) (h0 : 0 ≤ G) (h5 : G ≤ 50) : Ev L f_k3k [.s (dL p), .q [.s (dL a)], .q [dI G]] [dB (!keepsP G a p)] := by
  obtain ⟨p1, p2⟩ := allIn_iff.1 hp
  obtain ⟨a1, a2⟩ := allIn_iff.1 ha
  refine Ev.eq (vs := [.l (dL p), .d (.q [.s (dL a)]), .d (.q [dI G])]) L_k3k rfl ?_
  refine WR.get (vs := [.l (dL a)]) rfl rfl ?_
  refine WR.ev (ev_dot p a (Lim.mono (m := 10000000) p2 (by omega)) (Lim.mono (m := 20000) a2 (by omega)) (by omega) (by omega)) rfl rfl rfl ?_
  refine WR.get (vs := [.i G]) rfl rfl ?_
  refine WR.get (vs := [.i G]) rfl rfl ?_
  refine WR.ev (ev_in (dot p a) (0 - G) G) rfl ?_ rfl (WR.done rfl)
  show [dI (dot p a), dI (IntKind.i64.wrap (0 - G)), dI G] = _
  rw [w64 (by omega) (by omega)]
theorem trtFine_iff {b g : List Int} {ps : List (List Int)} {s : Int} {a : List Int} (h : trtFine b g ps s a = true) :
    trtOk b g = true ∧ partsOk ps = true ∧ 0 ≤ s ∧ s < g.length ∧ addedOk a = true ∧ g[s.toNat]? = some (g.getD s.toNat 0) ∧ 0 ≤ g.getD s.toNat 0 ∧ g.getD s.toNat 0 ≤ 50 := by
  simp only [trtFine, Bool.and_eq_true, inB_iff] at h
  obtain ⟨⟨⟨h1, h2⟩, h3⟩, h4⟩ := h
  have hsg : s.toNat < g.length := by omega
  have hgm := getD_in (p := fun x => 0 ≤ x ∧ x ≤ 50) (l := g) (by
    intro x hx
    simp only [trtOk, Bool.and_eq_true, List.all_eq_true] at h1
    exact inB_iff.1 (h1.2 x hx)) hsg
  exact ⟨h1, h2, h3.1, by omega, h4, at_getD hsg, hgm⟩
theorem keeps_fine (b g : List Int) (ps : List (List Int)) (s : Int) (a : List Int) : keeps b g ps s a = (trtFine b g ps s a && ps.all (keepsP (g.getD s.toNat 0) a)) := rfl
theorem ev_TrtKeeps (b g : List Int) (ps : List (List Int)) (s : Int) (a : List Int) (hb : b.length ≤ 2000000) (hg : g.length ≤ 2000000) (hp : fitLL ps) (ha : a.length ≤ 2000000) :
    Ev L f_k3l [.s (dL b), .s (dL g), .s (dLL ps), dI s, .s (dL a)] [dB (keeps b g ps s a)] := by
  refine Ev.eq (vs := [.l (dL b), .l (dL g), .l (dLL ps), .i s, .l (dL a)]) L_k3l rfl ?_
  refine WR.ev (ev_TrtTreaty_ok b g ps s a hb hg hp ha) rfl rfl rfl ?_
  rw [keeps_fine]
  refine WR.iteN (trtFine b g ps s a) rfl (fun h => WR.done ?_) (fun h => ?_)
  · show [dB false] = _
    rw [h]; rfl
  obtain ⟨h1, h2, s0, s1, h4, hd, g0, g5⟩ := trtFine_iff h
  generalize g.getD s.toNat 0 = G at *
  refine WR.idxA (ds := dL g) s rfl rfl rfl s0 (map_at (f := dI) hd) rfl ?_
  refine WR.ev (ev_hasInts (fun p => !keepsP G a p) ps (fn := f_k3k) (caps := [.q [.s (dL a)], .q [dI G]]) hp.1 rfl rfl fun p hm => ev_TrtKeeps_1 p a G (List.all_eq_true.1 h2 p hm) h4 g0 g5) rfl rfl rfl (WR.done ?_)
  show [dB (!(ps.any fun p => !keepsP G a p))] = _
  rw [not_any, h]; rfl
end Go.Proofs.YtdibnlhlngodeaaGreatDoor

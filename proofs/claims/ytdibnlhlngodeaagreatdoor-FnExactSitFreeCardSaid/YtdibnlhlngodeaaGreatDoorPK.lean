import Derived.Test.YtdibnlhlngodeaaGreatDoorPI
set_option linter.unusedVariables false
set_option linter.unusedSimpArgs false
/- What the reference's treaties come to. -/
namespace Go.Proofs.YtdibnlhlngodeaaGreatDoor
open Go Go.Tm
theorem ev_sValOk (l : List Int) (hl : l.length ≤ 2000000) : Ev L f_ks [.s (dL l)] [dB (valOk l)] :=
  Ev.eq (vs := [.l (dL l)]) L_ks rfl (WR.ev (ev_l1All l 3 10000 hl (by omega) (by omega)) rfl rfl rfl (WR.done rfl))
theorem ev_sTrtOk (b g : List Int) (hb : b.length ≤ 2000000) (hg : g.length ≤ 2000000) : Ev L f_kt [.s (dL b), .s (dL g)] [dB (trtOk b g)] := by
  refine Ev.eq (vs := [.l (dL b), .l (dL g)]) L_kt rfl ?_
  refine WR.ev (ev_sValOk b hb) rfl rfl rfl ?_
  refine WR.iteN (valOk b) rfl (fun h => WR.done ?_) (fun h => ?_)
  · show [dB false] = _
    simp [trtOk, h]
  refine WR.ev (ev_l1In g.length 1 3) rfl ?_ rfl ?_
  · show [dI ((dL g).length : Int), dI 1, dI 3] = _
    rw [dL_len]
  refine WR.iteN (inB g.length 1 3) rfl (fun h2 => WR.done ?_) (fun h2 => ?_)
  · show [dB false] = _
    simp [trtOk, h2]
  refine WR.forP g.length (fun i => [.i i]) (fun i => (g.take i).all (fun x => inB x 0 50) = true) rfl rfl (by simp) fun i hi hp => ?_
  refine WR.iteLen i (dL_len g) rfl (fun h' => ?_) (fun h' => ?_)
  · obtain ⟨x, hx, hm⟩ := some_at h'
    refine WR.idxN i (map_at (f := dI) hx) rfl rfl rfl rfl ?_
    refine WR.ev (ev_l1In x 0 50) rfl rfl rfl ?_
    refine WR.iteN (inB x 0 50) rfl (fun hb => WR.esc (WR.done ?_)) (fun hb => ?_)
    · show [dB false] = _
      simp only [trtOk, all_not (p := fun x => inB x 0 50) hx hb, Bool.and_false]
    · refine WR.nextA (vs := [.i ((i + 1 : Nat) : Int)]) ?_ ⟨h', rfl, all_take (p := fun x => inB x 0 50) hx hp hb⟩
      show [V.i (IntKind.i64.wrap ((i : Int) + 1))] = _
      rw [wS h' (by omega)]
  · refine WR.esc (WR.done ?_)
    rw [take_all h'] at hp
    show [dB true] = _
    simp only [trtOk, h, h2, hp]; rfl
def fitLL (ps : List (List Int)) : Prop := ps.length ≤ 2000000 ∧ ∀ p ∈ ps, p.length ≤ 2000000
theorem ev_l5Parts (ps : List (List Int)) (hp : fitLL ps) : Ev L f_k1b [.s (dLL ps)] [dB (partsOk ps)] := by
  have hl := hp.1
  refine Ev.eq (vs := [.l (dLL ps)]) L_k1b rfl ?_
  refine WR.forP ps.length (fun i => [.i i]) (fun i => (ps.take i).all (fun p => allIn 3 10000000 p) = true) rfl rfl (by simp) fun i hi hq => ?_
  refine WR.iteLen i (dLL_len ps) rfl (fun h' => ?_) (fun h' => ?_)
  · obtain ⟨x, hx, hm⟩ := some_at h'
    refine WR.idxN i (map_at (f := fun x => .s (dL x)) hx) rfl rfl rfl rfl ?_
    refine WR.ev (ev_l1All x 3 10000000 (hp.2 x hm) (by omega) (by omega)) rfl rfl rfl ?_
    refine WR.iteN (allIn 3 10000000 x) rfl (fun hb => WR.esc (WR.done ?_)) (fun hb => ?_)
    · show [dB false] = _
      simp only [partsOk, all_not (p := fun p => allIn 3 10000000 p) hx hb]
    · refine WR.nextA (vs := [.i ((i + 1 : Nat) : Int)]) ?_ ⟨h', rfl, all_take (p := fun p => allIn 3 10000000 p) hx hq hb⟩
      show [V.i (IntKind.i64.wrap ((i : Int) + 1))] = _
      rw [wS h' (by omega)]
  · refine WR.esc (WR.done ?_)
    rw [take_all h'] at hq
    show [dB true] = _
    simp only [partsOk, hq]
theorem dot_step {a b : List Int} {i : Nat} {x y : Int} (hx : a[i]? = some x) (hy : b[i]? = some y) : dot (a.take (i + 1)) (b.take (i + 1)) = dot (a.take i) (b.take i) + x * y := by
  have h1 := (List.getElem?_eq_some_iff.1 hx).1
  have h2 := (List.getElem?_eq_some_iff.1 hy).1
  rw [take_succ hx, take_succ hy, dot_snoc x y (by simp; omega)]
theorem dot_wrap {a b : List Int} {i : Nat} {x y : Int} (hx : a[i]? = some x) (hy : b[i]? = some y) (ha : Lim 100000000 a) (hb : Lim 1000000 b) (hi : i < 1000) :
    IntKind.i64.wrap (dot (a.take i) (b.take i) + IntKind.i64.wrap (x * y)) = dot (a.take (i + 1)) (b.take (i + 1)) := by
  have h1 := dot_lim (ha.take i) (hb.take i) (by omega) (by omega)
  have h2 : ((a.take i).length : Int) ≤ 1000 := by simp; omega
  have h3 := mul_lim (ha x (List.mem_of_getElem? hx)) (hb y (List.mem_of_getElem? hy))
  rw [dot_step hx hy, w64 (n := x * y) (by omega) (by omega), w64 (by omega) (by omega)]
theorem ev_l5Times (p a : List Int) (hp : allIn 3 10000000 p = true) (ha : allIn 3 20000 a = true) : Ev L f_k1c [.s (dL p), .s (dL a)] [dI (dot p a)] := by
  obtain ⟨p1, p2⟩ := allIn_iff.1 hp
  obtain ⟨a1, a2⟩ := allIn_iff.1 ha
  have p2 : Lim 100000000 p := Lim.mono (m := 10000000) p2 (by omega)
  have a2 : Lim 1000000 a := Lim.mono (m := 20000) a2 (by omega)
  refine Ev.eq (vs := [.l (dL p), .l (dL a)]) L_k1c rfl ?_
  refine WR.forP 3 (fun i => [.i (dot (p.take i) (a.take i)), .i i]) (fun _ => True) rfl rfl trivial fun i hi _ => ?_
  refine WR.iteLt i 3 rfl (fun h => ?_) (fun h => ?_)
  · obtain ⟨x, hx, _⟩ := some_at (show i < p.length by omega)
    obtain ⟨y, hy, _⟩ := some_at (show i < a.length by omega)
    refine WR.idxN i (map_at (f := dI) hx) rfl rfl rfl rfl ?_
    refine WR.idxN i (map_at (f := dI) hy) rfl rfl rfl rfl ?_
    refine WR.nextA (vs := [.i (dot (p.take (i + 1)) (a.take (i + 1))), .i ((i + 1 : Nat) : Int)]) ?_ ⟨h, rfl, trivial⟩
    show [V.i (IntKind.i64.wrap (dot (p.take i) (a.take i) + IntKind.i64.wrap (x * y))), V.i (IntKind.i64.wrap ((i : Int) + 1))] = _
    rw [wS h (by omega), dot_wrap hx hy p2 a2 (by omega)]
  · refine WR.esc (WR.done ?_)
    show [dI (dot (p.take i) (a.take i))] = _
    rw [List.take_of_length_le (by omega), List.take_of_length_le (by omega)]
theorem at_getD {l : List Int} {i : Nat} (h : i < l.length) : l[i]? = some (l.getD i 0) := by simp [List.getD_eq_getElem?_getD, h]
theorem ev_sTrtKeeps (b g : List Int) (ps : List (List Int)) (s : Int) (a : List Int) (hb : b.length ≤ 2000000) (hg : g.length ≤ 2000000) (hp : fitLL ps) (ha : a.length ≤ 2000000) :
    Ev L f_k1d [.s (dL b), .s (dL g), .s (dLL ps), dI s, .s (dL a)] [dB (keeps b g ps s a)] := by
  have hpl := hp.1
  refine Ev.eq (vs := [.l (dL b), .l (dL g), .l (dLL ps), .i s, .l (dL a)]) L_k1d rfl ?_
  refine WR.ev (ev_sTrtOk b g hb hg) rfl rfl rfl ?_
  refine WR.iteN (trtOk b g) rfl (fun h => WR.done ?_) (fun h => ?_)
  · show [dB false] = _
    simp [keeps, h]
  refine WR.ev (ev_l5Parts ps hp) rfl rfl rfl ?_
  refine WR.iteN (partsOk ps) rfl (fun h2 => WR.done ?_) (fun h2 => ?_)
  · show [dB false] = _
    simp [keeps, h2]
  refine WR.ev (ev_l1In s 0 (g.length - 1)) rfl ?_ rfl ?_
  · show [dI s, dI 0, dI (IntKind.i64.wrap (((dL g).length : Int) - 1))] = _
    rw [dL_len, w64 (by omega) (by omega)]
  refine WR.iteN (inB s 0 (g.length - 1)) rfl (fun h3 => WR.done ?_) (fun h3 => ?_)
  · show [dB false] = _
    simp [keeps, h3]
  refine WR.ev (ev_l1All a 3 20000 ha (by omega) (by omega)) rfl rfl rfl ?_
  refine WR.iteN (allIn 3 20000 a) rfl (fun h4 => WR.done ?_) (fun h4 => ?_)
  · show [dB false] = _
    simp [keeps, addedOk, h4]
  have hs := inB_iff.1 h3
  have hsg : s.toNat < g.length := by omega
  have hgs := at_getD hsg
  have hgm := getD_in (p := fun x => 0 ≤ x ∧ x ≤ 50) (l := g) (by
    intro x hx
    simp only [trtOk, Bool.and_eq_true, List.all_eq_true] at h
    exact inB_iff.1 (h.2 x hx)) hsg
  have hdS : (dL g)[s.toNat]? = some (dI (g.getD s.toNat 0)) := map_at (f := dI) hgs
  simp only [keeps, addedOk, h, h2, h3, h4, Bool.true_and]
  generalize g.getD s.toNat 0 = G at *
  refine WR.forP ps.length (fun i => [.i i]) (fun i => (ps.take i).all (keepsP G a) = true) rfl rfl (by simp) fun i hi hq => ?_
  refine WR.iteLen i (dLL_len ps) rfl (fun h' => ?_) (fun h' => ?_)
  · obtain ⟨x, hx, hm⟩ := some_at h'
    have hxo : allIn 3 10000000 x = true := List.all_eq_true.1 h2 x hm
    refine WR.idxN i (map_at (f := fun x => .s (dL x)) hx) rfl rfl rfl rfl ?_
    refine WR.ev (ev_l5Times x a hxo h4) rfl rfl rfl ?_
    refine WR.idxA (ds := dL g) s rfl rfl rfl hs.1 hdS rfl ?_
    refine WR.idxA (ds := dL g) s rfl rfl rfl hs.1 hdS rfl ?_
    refine WR.ev (ev_l1In (dot x a) (0 - G) G) rfl ?_ rfl ?_
    · show [dI (dot x a), dI (IntKind.i64.wrap (0 - G)), dI G] = _
      rw [w64 (by omega) (by omega)]
    refine WR.iteN (inB (dot x a) (0 - G) G) rfl (fun hb => WR.esc (WR.done ?_)) (fun hb => ?_)
    · show [dB false] = _
      rw [all_not (p := keepsP G a) hx hb]
    · refine WR.nextA (vs := [.i ((i + 1 : Nat) : Int)]) ?_ ⟨h', rfl, all_take (p := keepsP G a) hx hq hb⟩
      show [V.i (IntKind.i64.wrap ((i : Int) + 1))] = _
      rw [wS h' (by omega)]
  · refine WR.esc (WR.done ?_)
    rw [take_all h'] at hq
    show [dB true] = _
    rw [hq]
end Go.Proofs.YtdibnlhlngodeaaGreatDoor

import Derived.Test.YtdibnlhlngodeaaGreatDoorPZE
import Derived.Test.YtdibnlhlngodeaaGreatDoorTd
import Derived.Test.YtdibnlhlngodeaaGreatDoorPT
set_option linter.unusedVariables false
set_option linter.unusedSimpArgs false
/- The program's CatWrites, CatReads and CatPins answer as the reference's: over residual programs. -/
namespace Go.Proofs.YtdibnlhlngodeaaGreatDoor
open Go Go.Tm
def bigF (f : Frm) : Prop := f.c.length ≤ 9223372036854775807 ∧ f.d.length ≤ 9223372036854775807
def bigA (a : List Line) : Prop := a.length ≤ 9223372036854775807 ∧ ∀ l ∈ a, bigF l.f
def bigAs (as : List (List Line)) : Prop := as.length ≤ 9223372036854775807 ∧ ∀ a ∈ as, bigA a
def szF (f : Frm) : Nat := f.c.length + f.d.length
def szA (a : List Line) : Nat := a.length + (a.map fun l => szF l.f).sum
def szAs (as : List (List Line)) : Nat := as.length + (as.map szA).sum
theorem dec_room {left : Int} {n : Nat} (h0 : 0 ≤ left) (h1 : left ≤ 1048576) : -1 ≤ dec left n ∧ dec left n ≤ 1048576 := by
  unfold dec; split <;> omega
theorem dec_le {left : Int} {n : Nat} (h : ¬ dec left n < 0) : (n : Int) ≤ left := by
  unfold dec at h; split at h
  · assumption
  · omega
theorem ev_szIntS (l : List Int) (left : Int) (hl : l.length ≤ 9223372036854775807) (h0 : 0 ≤ left) (h1 : left ≤ 1048576) : Ev L f_k0 [.s (dL l), dI left] [dI (dec left l.length)] := by
  refine Ev.eq (vs := [.l (dL l), .i left]) L_k0 rfl ?_
  have hlen := dL_len l
  have hw : IntKind.i64.wrap (left - ((dL l).length : Int)) = left - l.length := by rw [hlen]; exact w64 (by omega) (by omega)
  refine WR.iteP (left - (l.length : Int) < 0) ?_ (fun h => WR.done ?_) (fun h => WR.done ?_)
  · show decide (IntKind.i64.wrap (left - ((dL l).length : Int)) < 0) = _
    rw [hw]
  · show [dI (-1)] = _
    unfold dec; rw [if_neg (by omega)]
  · show [dI (IntKind.i64.wrap (left - ((dL l).length : Int)))] = _
    unfold dec; rw [hw, if_pos (by omega)]
theorem ev_szFrmForm (f : Frm) (left : Int) (hf : bigF f) (h0 : 0 ≤ left) (h1 : left ≤ 1048576) : Ev L f_k1 (f.cells ++ [dI left]) [dI (dec left (szF f))] := by
  refine Ev.eq (vs := [.l (dL f.c), .l (dL f.d), .i f.k, .i left]) L_k1 rfl ?_
  refine WR.ev (ev_szIntS f.c left hf.1 h0 h1) rfl rfl rfl ?_
  have hr := dec_room (n := f.c.length) h0 h1
  refine WR.iteP (dec left f.c.length < 0) rfl (fun h => WR.done ?_) (fun h => ?_)
  · show [dI (-1)] = _
    rw [szF, dec_lt h h0]
  refine WR.ev (ev_szIntS f.d (dec left f.c.length) hf.2 (by omega) (by omega)) rfl rfl rfl ?_
  refine WR.iteP (dec (dec left f.c.length) f.d.length < 0) rfl (fun h2 => WR.done ?_) (fun h2 => WR.done ?_)
  · show [dI (-1)] = _
    rw [dec_dec h] at h2
    have := (dec_room (n := f.c.length + f.d.length) h0 h1).1
    rw [szF, show dec left (f.c.length + f.d.length) = -1 by omega]
  · show [dI (dec (dec left f.c.length) f.d.length)] = _
    rw [dec_dec h]; rfl
theorem ev_szActLine (l : Line) (left : Int) (hf : bigF l.f) (h0 : 0 ≤ left) (h1 : left ≤ 1048576) : Ev L f_k2 (l.cells ++ [dI left]) [dI (dec left (szF l.f))] := by
  refine Ev.eq (vs := [.i l.kind, .i l.pot, .i l.skip, .l (dL l.f.c), .l (dL l.f.d), .i l.f.k, .i left]) L_k2 rfl ?_
  refine WR.ev (ev_szFrmForm l.f left hf h0 h1) rfl rfl rfl ?_
  have hr := dec_room (n := szF l.f) h0 h1
  refine WR.iteP (dec left (szF l.f) < 0) rfl (fun h => WR.done ?_) (fun h => WR.done rfl)
  show [dI (-1)] = _
  rw [show dec left (szF l.f) = -1 by omega]
theorem szA_succ {a : List Line} {i : Nat} {x : Line} (h : a[i]? = some x) : ((a.take (i + 1)).map fun l => szF l.f).sum = ((a.take i).map fun l => szF l.f).sum + szF x.f := by rw [map_take_succ h]; simp
theorem szAs_succ {a : List (List Line)} {i : Nat} {x : List Line} (h : a[i]? = some x) : ((a.take (i + 1)).map szA).sum = ((a.take i).map szA).sum + szA x := by rw [map_take_succ h]; simp
theorem ev_szActLineS (a : List Line) (left : Int) (ha : bigA a) (h0 : 0 ≤ left) (h1 : left ≤ 1048576) : Ev L f_k3 [.s (dAct a), dI left] [dI (dec left (szA a))] := by
  refine Ev.eq (vs := [.l (dAct a), .i left]) L_k3 rfl ?_
  have hlen := dAct_len a
  have hl := ha.1
  have hw : IntKind.i64.wrap (left - ((dAct a).length : Int)) = left - a.length := by rw [hlen]; exact w64 (by omega) (by omega)
  refine WR.iteP (left - (a.length : Int) < 0) ?_ (fun h => WR.done ?_) (fun h => ?_)
  · show decide (IntKind.i64.wrap (left - ((dAct a).length : Int)) < 0) = _
    rw [hw]
  · show [dI (-1)] = _
    unfold dec szA; rw [if_neg (by omega)]
  have hal : a.length ≤ 1048576 := by omega
  refine WR.forP a.length (fun i => [.i (dec left (a.length + ((a.take i).map fun l => szF l.f).sum)), .i i]) (fun i => ¬ dec left (a.length + ((a.take i).map fun l => szF l.f).sum) < 0) rfl ?_ ?_ fun i hi hp => ?_
  · show [V.i (IntKind.i64.wrap (left - ((dAct a).length : Int))), V.i 0] = _
    rw [hw]
    simp only [List.take_zero, List.map_nil, List.sum_nil, Nat.add_zero]
    unfold dec; rw [if_pos (by omega)]; rfl
  · simp only [List.take_zero, List.map_nil, List.sum_nil, Nat.add_zero]
    unfold dec; rw [if_pos (by omega)]; omega
  simp only [sCA, sNA]
  have hr := dec_room (n := a.length + ((a.take i).map fun l => szF l.f).sum) h0 h1
  refine WR.iteLen i hlen rfl (fun h' => ?_) (fun h' => WR.esc (WR.done ?_))
  · obtain ⟨x, hx, hm⟩ := some_at h'
    refine WR.idxN (vs := [.i x.kind, .i x.pot, .i x.skip, .l (dL x.f.c), .l (dL x.f.d), .i x.f.k]) i (map_at (f := Line.g) hx) rfl rfl rfl rfl ?_
    simp only [sCA, sNA]
    refine WR.ev (ev_szActLine x (dec left (a.length + ((a.take i).map fun l => szF l.f).sum)) (ha.2 x hm) (by omega) (by omega)) rfl rfl rfl ?_
    simp only [sCA, sNA]
    have e := dec_dec (m := szF x.f) hp
    rw [Nat.add_assoc, ← szA_succ hx] at e
    rw [e]
    refine WR.iteP (dec left (a.length + ((a.take (i + 1)).map fun l => szF l.f).sum) < 0) rfl (fun h2 => WR.esc (WR.done ?_)) (fun h2 => ?_)
    · show [dI (-1)] = _
      have : szA a = a.length + ((a.take (i + 1)).map fun l => szF l.f).sum + ((a.drop (i + 1)).map fun l => szF l.f).sum := by
        unfold szA
        conv => lhs; rw [← List.take_append_drop (i + 1) a, List.map_append, List.sum_append, List.take_append_drop]
        omega
      rw [this, dec_lt h2 h0]
    · refine WR.nextA (vs := [.i (dec left (a.length + ((a.take (i + 1)).map fun l => szF l.f).sum)), .i ((i + 1 : Nat) : Int)]) ?_ ⟨h', rfl, h2⟩
      rw [← wS h' (by omega)]; rfl
  · show [dI (dec left (a.length + ((a.take i).map fun l => szF l.f).sum))] = _
    rw [take_all h']; rfl
theorem ev_szActLineSS (a : List (List Line)) (left : Int) (ha : bigAs a) (h0 : 0 ≤ left) (h1 : left ≤ 1048576) : Ev L f_k4 [.s (dActs a), dI left] [dI (dec left (szAs a))] := by
  refine Ev.eq (vs := [.l (dActs a), .i left]) L_k4 rfl ?_
  have hlen := dActs_len a
  have hl := ha.1
  have hw : IntKind.i64.wrap (left - ((dActs a).length : Int)) = left - a.length := by rw [hlen]; exact w64 (by omega) (by omega)
  refine WR.iteP (left - (a.length : Int) < 0) ?_ (fun h => WR.done ?_) (fun h => ?_)
  · show decide (IntKind.i64.wrap (left - ((dActs a).length : Int)) < 0) = _
    rw [hw]
  · show [dI (-1)] = _
    unfold dec szAs; rw [if_neg (by omega)]
  have hal : a.length ≤ 1048576 := by omega
  refine WR.forP a.length (fun i => [.i (dec left (a.length + ((a.take i).map szA).sum)), .i i]) (fun i => ¬ dec left (a.length + ((a.take i).map szA).sum) < 0) rfl ?_ ?_ fun i hi hp => ?_
  · show [V.i (IntKind.i64.wrap (left - ((dActs a).length : Int))), V.i 0] = _
    rw [hw]
    simp only [List.take_zero, List.map_nil, List.sum_nil, Nat.add_zero]
    unfold dec; rw [if_pos (by omega)]; rfl
  · simp only [List.take_zero, List.map_nil, List.sum_nil, Nat.add_zero]
    unfold dec; rw [if_pos (by omega)]; omega
  simp only [sCA, sNA]
  have hr := dec_room (n := a.length + ((a.take i).map szA).sum) h0 h1
  refine WR.iteLen i hlen rfl (fun h' => ?_) (fun h' => WR.esc (WR.done ?_))
  · obtain ⟨x, hx, hm⟩ := some_at h'
    refine WR.idxN (vs := [.l (dAct x)]) i (map_at (f := fun a => D.s (dAct a)) hx) rfl rfl rfl rfl ?_
    simp only [sCA, sNA]
    refine WR.ev (ev_szActLineS x (dec left (a.length + ((a.take i).map szA).sum)) (ha.2 x hm) (by omega) (by omega)) rfl rfl rfl ?_
    simp only [sCA, sNA]
    have e := dec_dec (m := szA x) hp
    rw [Nat.add_assoc, ← szAs_succ hx] at e
    rw [e]
    refine WR.iteP (dec left (a.length + ((a.take (i + 1)).map szA).sum) < 0) rfl (fun h2 => WR.esc (WR.done ?_)) (fun h2 => ?_)
    · show [dI (-1)] = _
      have : szAs a = a.length + ((a.take (i + 1)).map szA).sum + ((a.drop (i + 1)).map szA).sum := by
        unfold szAs
        conv => lhs; rw [← List.take_append_drop (i + 1) a, List.map_append, List.sum_append, List.take_append_drop]
        omega
      rw [this, dec_lt h2 h0]
    · refine WR.nextA (vs := [.i (dec left (a.length + ((a.take (i + 1)).map szA).sum)), .i ((i + 1 : Nat) : Int)]) ?_ ⟨h', rfl, h2⟩
      rw [← wS h' (by omega)]; rfl
  · show [dI (dec left (a.length + ((a.take i).map szA).sum))] = _
    rw [take_all h']; rfl
theorem sum_mem_le {α : Type} (f : α → Nat) {l : List α} {x : α} (h : x ∈ l) : f x ≤ (l.map f).sum := by
  induction l with
  | nil => simp at h
  | cons y l ih =>
    simp only [List.map_cons, List.sum_cons]
    rcases List.mem_cons.1 h with rfl | h
    · omega
    · have := ih h; omega
theorem fitAct_of {a : List Line} (h : szA a ≤ 1048576) : fitAct a := by
  unfold szA at h
  refine ⟨by omega, fun l hl => ?_⟩
  have : szF l.f ≤ (a.map fun l => szF l.f).sum := sum_mem_le (fun l : Line => szF l.f) hl
  have e : szF l.f = l.f.c.length + l.f.d.length := rfl
  exact ⟨by omega, by omega⟩
theorem fitActs_of {as : List (List Line)} (h : szAs as ≤ 1048576) : fitActs as := by
  unfold szAs at h
  refine ⟨by omega, fun a ha => fitAct_of ?_⟩
  have := sum_mem_le szA ha
  omega
abbrev tyInts : Ty := .sl (.i .i64)
abbrev tyFrm : Ty := .st [tyInts, tyInts, .i .i64]
abbrev tyLine : Ty := .st [.i .i64, .i .i64, .i .i64, tyFrm]
theorem ints_of {ds : List D} (h : TySh tyInts ds) : ∃ l, ds = [.s (dL l)] ∧ l.length ≤ 9223372036854775807 := by
  obtain ⟨es, rfl, hl, he⟩ := h
  obtain ⟨l, rfl, _⟩ := map_ex (f := dI) (p := fun _ => True) fun x hx => by
    obtain ⟨cs, ⟨n, rfl⟩, rfl⟩ := he x hx
    exact ⟨n, trivial, rfl⟩
  exact ⟨l, rfl, by rw [List.length_map] at hl; unfold maxLen at hl; omega⟩
theorem frm_of {ds : List D} (h : TySh tyFrm ds) : ∃ f : Frm, ds = f.cells ∧ bigF f := by
  obtain ⟨_, _, rfl, h1, _, _, rfl, h2, _, _, rfl, ⟨k, rfl⟩, rfl⟩ := h
  obtain ⟨c, rfl, hc⟩ := ints_of h1
  obtain ⟨d, rfl, hd⟩ := ints_of h2
  exact ⟨⟨c, d, k⟩, rfl, hc, hd⟩
theorem line_of {ds : List D} (h : TySh tyLine ds) : ∃ l : Line, ds = l.cells ∧ bigF l.f := by
  obtain ⟨_, _, rfl, ⟨a, rfl⟩, _, _, rfl, ⟨b, rfl⟩, _, _, rfl, ⟨c, rfl⟩, _, _, rfl, h4, rfl⟩ := h
  obtain ⟨f, rfl, hf⟩ := frm_of h4
  exact ⟨⟨a, b, c, f⟩, rfl, hf⟩
theorem act_of {ds : List D} (h : TySh (.sl tyLine) ds) : ∃ a, ds = [.s (dAct a)] ∧ bigA a := by
  obtain ⟨es, rfl, hl, he⟩ := h
  obtain ⟨l, rfl, hp⟩ := map_ex (f := Line.g) (p := fun l => bigF l.f) fun x hx => by
    obtain ⟨cs, h1, rfl⟩ := he x hx
    obtain ⟨l, rfl, hf⟩ := line_of h1
    exact ⟨l, hf, rfl⟩
  exact ⟨l, rfl, by rw [List.length_map] at hl; unfold maxLen at hl; omega, hp⟩
theorem acts_of {ds : List D} (h : TySh (.sl (.sl tyLine)) ds) : ∃ a, ds = [.s (dActs a)] ∧ bigAs a := by
  obtain ⟨es, rfl, hl, he⟩ := h
  obtain ⟨l, rfl, hp⟩ := map_ex (f := fun a => D.s (dAct a)) (p := bigA) fun x hx => by
    obtain ⟨cs, h1, rfl⟩ := he x hx
    obtain ⟨a, rfl, ha⟩ := act_of h1
    exact ⟨a, ha, rfl⟩
  exact ⟨l, rfl, by rw [List.length_map] at hl; unfold maxLen at hl; omega, hp⟩
end Go.Proofs.YtdibnlhlngodeaaGreatDoor

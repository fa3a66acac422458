/- What the program's treaties come to. -/
import Derived.Test.YtdibnlhlngodeaaGreatDoorPK
namespace Go.Proofs.YtdibnlhlngodeaaGreatDoor
open Go Go.Tm

theorem ev_in (n a b : Int) : Ev L f_impl_in [dI n, dI a, dI b] [dB (inB n a b)] := by
  refine Ev.eq (vs := [.i n, .i a, .i b]) L_impl_in rfl ?_
  refine WR.iteP (a ≤ n) rfl (fun h => WR.done ?_) (fun h => WR.done ?_)
  · show [dB (decide (n ≤ b))] = _
    simp [inB, h]
  · show [dB false] = _
    simp [inB, h]

/-- A search through numbers. -/
theorem ev_idxInt (p : Int → Bool) (l : List Int) {fn : FuncId} {caps : List D} (hlen : l.length ≤ 2000000) (hcap : oneOf (.f fn caps) = .f fn caps) (har : arT L fn = some ([none] ++ caps.map fun _ => none))
    (hc : ∀ x ∈ l, Ev L fn ([dI x] ++ caps.map D.norm) [dB (p x)]) : Ev L f_slices_IndexFunc_Sint_int [.s (dL l), .f fn caps] [dI (place p l)] :=
  ev_idxFunc (sh := .one (.i .i64)) (as := [(.vi .i64 (.v 3))]) (ar := [none]) (k := 4) dI p (fun x => [dI x]) (fun x => [.i x]) l L_slices_IndexFunc_Sint_int rfl hlen hcap (fun _ _ => rfl) (fun _ _ => rfl) (fun _ _ _ _ => rfl) har hc

theorem ev_hasInt (p : Int → Bool) (l : List Int) {fn : FuncId} {caps : List D} (hlen : l.length ≤ 2000000) (hcap : oneOf (.f fn caps) = .f fn caps) (har : arT L fn = some ([none] ++ caps.map fun _ => none))
    (hc : ∀ x ∈ l, Ev L fn ([dI x] ++ caps.map D.norm) [dB (p x)]) : Ev L f_slices_ContainsFunc_Sint_int [.s (dL l), .f fn caps] [dB (l.any p)] :=
  ev_contains (g := f_slices_IndexFunc_Sint_int) L_slices_ContainsFunc_Sint_int rfl hcap (ev_idxInt p l hlen hcap har hc)

theorem not_any {α : Type} (p : α → Bool) (l : List α) : (!(l.any fun x => !p x)) = l.all p := by
  induction l with
  | nil => rfl
  | cons x l ih => simp [ih]

theorem ev_within_1 (x m : Int) (h0 : 0 ≤ m) (hm : m ≤ 10000000000000) : Ev L f_impl_within_1 [dI x, .q [dI m]] [dB (!inB x (0 - m) m)] := by
  refine Ev.eq (vs := [.i x, .d (.q [dI m])]) L_impl_within_1 rfl ?_
  refine WR.get (vs := [.i m]) rfl rfl ?_
  refine WR.get (vs := [.i m]) rfl rfl ?_
  refine WR.ev (ev_in x (0 - m) m) rfl ?_ rfl (WR.done rfl)
  show [dI x, dI (IntKind.i64.wrap (0 - m)), dI m] = _
  rw [w64 (by omega) (by omega)]

theorem ev_within (l : List Int) (n m : Int) (hl : l.length ≤ 2000000) (h0 : 0 ≤ m) (hm : m ≤ 10000000000000) : Ev L f_impl_within [.s (dL l), dI n, dI m] [dB (allIn n m l)] := by
  refine Ev.eq (vs := [.l (dL l), .i n, .i m]) L_impl_within rfl ?_
  refine WR.iteP ((l.length : Int) = n) ?_ (fun h => ?_) (fun h => WR.done ?_)
  · show decide (((dL l).length : Int) = n) = _
    rw [dL_len]
  · refine WR.ev (ev_hasInt (fun x => !inB x (0 - m) m) l (fn := f_impl_within_1) (caps := [.q [dI m]]) hl rfl rfl fun x _ => ev_within_1 x m h0 hm) rfl rfl rfl (WR.done ?_)
    show [dB (!(l.any fun x => !inB x (0 - m) m))] = _
    rw [not_any]; simp [allIn, h]
  · show [dB false] = _
    simp [allIn, h]

theorem ev_ValOk (l : List Int) (hl : l.length ≤ 2000000) : Ev L f_impl_ValOk [.s (dL l)] [dB (valOk l)] :=
  Ev.eq (vs := [.l (dL l)]) L_impl_ValOk rfl (WR.ev (ev_within l 3 10000 hl (by omega) (by omega)) rfl rfl rfl (WR.done rfl))

theorem ev_TrtOk_1 (x : Int) : Ev L f_impl_TrtOk_1 [dI x] [dB (!inB x 0 50)] :=
  Ev.eq (vs := [.i x]) L_impl_TrtOk_1 rfl (WR.ev (ev_in x 0 50) rfl rfl rfl (WR.done rfl))

theorem ev_TrtOk (b g : List Int) (hb : b.length ≤ 2000000) (hg : g.length ≤ 2000000) : Ev L f_impl_TrtOk [.s (dL b), .s (dL g)] [dB (trtOk b g)] := by
  refine Ev.eq (vs := [.l (dL b), .l (dL g)]) L_impl_TrtOk rfl ?_
  refine WR.ev (ev_ValOk b hb) rfl rfl rfl ?_
  refine WR.iteB (valOk b) rfl (fun h => ?_) (fun h => WR.done ?_)
  · refine WR.ev (ev_in g.length 1 3) rfl ?_ rfl ?_
    · show [dI ((dL g).length : Int), dI 1, dI 3] = _
      rw [dL_len]
    refine WR.iteB (inB g.length 1 3) rfl (fun h2 => ?_) (fun h2 => WR.done ?_)
    · refine WR.ev (ev_hasInt (fun x => !inB x 0 50) g (fn := f_impl_TrtOk_1) (caps := []) hg rfl rfl fun x _ => ev_TrtOk_1 x) rfl rfl rfl (WR.done ?_)
      show [dB (!(g.any fun x => !inB x 0 50))] = _
      rw [not_any]; simp [trtOk, h, h2]
    · show [dB false] = _
      simp [trtOk, h2]
  · show [dB false] = _
    simp [trtOk, h]

theorem ev_addedOk (a : List Int) (ha : a.length ≤ 2000000) : Ev L f_impl_addedOk [.s (dL a)] [dB (addedOk a)] :=
  Ev.eq (vs := [.l (dL a)]) L_impl_addedOk rfl (WR.ev (ev_within a 3 20000 ha (by omega) (by omega)) rfl rfl rfl (WR.done rfl))

/-- What a treaty's functions ask first. -/
def trtFine (b g : List Int) (ps : List (List Int)) (s : Int) (a : List Int) : Bool := trtOk b g && partsOk ps && inB s 0 (g.length - 1) && addedOk a

theorem trtFine_iff {b g : List Int} {ps : List (List Int)} {s : Int} {a : List Int} (h : trtFine b g ps s a = true) :
    trtOk b g = true ∧ partsOk ps = true ∧ 0 ≤ s ∧ s < g.length ∧ addedOk a = true ∧ g[s.toNat]? = some (g.getD s.toNat 0) ∧ 0 ≤ g.getD s.toNat 0 ∧ g.getD s.toNat 0 ≤ 50 := by
  simp only [trtFine, Bool.and_eq_true, inB_iff] at h
  obtain ⟨⟨⟨h1, h2⟩, h3⟩, h4⟩ := h
  have hsg : s.toNat < g.length := by omega
  have hgm := getD_in (p := fun x => 0 ≤ x ∧ x ≤ 50) (l := g) (by
    intro x hx
    simp only [trtOk, Bool.and_eq_true, List.all_eq_true] at h1
    exact inB_iff.1 (h1.2 x hx)) hsg
  exact ⟨h1, h2, h3.1, by omega, h4, at_getD hsg, hgm⟩
theorem keeps_fine (b g : List Int) (ps : List (List Int)) (s : Int) (a : List Int) : keeps b g ps s a = (trtFine b g ps s a && ps.all (keepsP (g.getD s.toNat 0) a)) := rfl

end Go.Proofs.YtdibnlhlngodeaaGreatDoor

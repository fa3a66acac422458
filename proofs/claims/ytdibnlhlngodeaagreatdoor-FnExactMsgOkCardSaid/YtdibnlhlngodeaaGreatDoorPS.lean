/- All is kept an eye on; who tells of a pot pins it; with an act more there is more: over residual programs. -/
import Derived.Test.YtdibnlhlngodeaaGreatDoorPR
import Derived.Test.YtdibnlhlngodeaaGreatDoorTe
namespace Go.Proofs.YtdibnlhlngodeaaGreatDoor
open Go Go.Tm

theorem ev_CatOk_1 (a : List Line) (ha : fitAct a) : Ev L f_impl_CatOk_1 ([.s (dAct a)] ++ ([] : List D).map D.norm) [dB (!actOk a)] :=
  Ev.eq (vs := [.l (dAct a)]) L_impl_CatOk_1 rfl (WR.ev (ev_iActOk a ha) rfl rfl rfl (WR.done rfl))

theorem ev_iCatOk (as : List (List Line)) (hf : fitActs as) : Ev L f_impl_CatOk [.s (dActs as)] [dB (catOk as)] := by
  have hl := hf.1
  refine Ev.eq (vs := [.l (dActs as)]) L_impl_CatOk rfl ?_
  refine WR.ev (ev_in as.length 1 4) rfl ?_ rfl ?_
  · show [dI ((dActs as).length : Int), dI 1, dI 4] = _
    rw [dActs_len]
  refine WR.iteB (inB as.length 1 4) rfl (fun h => ?_) (fun h => WR.done ?_)
  · have e : Ev L f_slices_ContainsFunc_SSimpl_ActLine_Simpl_ActLine [.s (dActs as), .f f_impl_CatOk_1 []] [dB (as.any fun a => !actOk a)] :=
      ev_contains (g := f_slices_IndexFunc_SSimpl_ActLine_Simpl_ActLine) L_slices_ContainsFunc_SSimpl_ActLine_Simpl_ActLine rfl rfl
        (ev_idxFunc (sh := .one .s) (as := [(.s (.v 3))]) (ar := [none]) (k := 4) (caps := []) (fun a => .s (dAct a)) (fun a => !actOk a) (fun a => [.s (dAct a)]) (fun a => [.l (dAct a)]) as
          L_slices_IndexFunc_SSimpl_ActLine_Simpl_ActLine rfl hl rfl (fun _ _ => rfl) (fun _ _ => rfl) (fun _ _ _ _ => rfl) rfl fun a ha => ev_CatOk_1 a (hf.2 a ha))
    refine WR.ev e rfl rfl rfl (WR.done ?_)
    show [dB (!(as.any fun a => !actOk a))] = _
    rw [not_any]; simp [catOk, h]
  · show [dB false] = _
    simp [catOk, h]

/-! ### Draws of any acts -/

def thinAs (as : List (List Line)) : Prop := as.length ≤ 5 ∧ ∀ a ∈ as, thinA a
theorem thinAs.fit {as : List (List Line)} (h : thinAs as) : fitActs as := ⟨by have := h.1; omega, fun a ha => (h.2 a ha).fit⟩

theorem dActs_set (as : List (List Line)) (k : Nat) (a : List Line) : (dActs as).set k (.s (dAct a)) = dActs (as.set k a) := by simp [dActs, List.map_set]

/-! ### The law of forms -/

/-! ### Pins -/

theorem catPins_len (as : List (List Line)) : (catPins as).length ≤ 3 := by
  cases h : catOk as with
  | true => rw [catPins_eq h, pots_len]; omega
  | false => simp [catPins, h]

end Go.Proofs.YtdibnlhlngodeaaGreatDoor

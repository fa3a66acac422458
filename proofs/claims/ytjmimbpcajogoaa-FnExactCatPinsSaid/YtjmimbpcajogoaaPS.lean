/- All is kept an eye on; who tells of a pot pins it; with an act more there is more: over residual programs. -/
import Derived.Test.YtjmimbpcajogoaaPR
import Derived.Test.YtjmimbpcajogoaaTd
namespace Go.Proofs.Ytjmimbpcajogoaa
open Go Go.Tm

theorem ev_CatOk_1 (a : List Line) (ha : fitAct a) : Ev L f_impl_CatOk_1 ([.s (dAct a)] ++ ([] : List D).map D.norm) [dB (!actOk a)] :=
  Ev.eq (vs := [.l (dAct a)]) L_impl_CatOk_1 rfl (WR.ev (ev_iActOk a ha) rfl rfl rfl (WR.done rfl))

theorem ev_iCatOk (as : List (List Line)) (hf : fitActs as) : Ev L f_impl_CatOk [.s (dActs as)] [dB (catOk as)] := by
  have hl := hf.1
  refine Ev.eq (vs := [.l (dActs as)]) L_impl_CatOk rfl ?_
  refine WR.ev (ev_in as.length 1 4) rfl ?_ rfl ?_
  · show [dI ((dActs as).length : Int), dI 1, dI 4] = _
    rw [dActs_len]
  refine WR.iteB (inB as.length 1 4) rfl (fun h => ?_) (fun h => WR.done ?_)
  · have e : Ev L f_slices_ContainsFunc_SSimpl_ActLine_Simpl_ActLine [.s (dActs as), .f f_impl_CatOk_1 []] [dB (as.any fun a => !actOk a)] :=
      ev_contains (g := f_slices_IndexFunc_SSimpl_ActLine_Simpl_ActLine) L_slices_ContainsFunc_SSimpl_ActLine_Simpl_ActLine rfl rfl
        (ev_idxFunc (sh := .one .s) (as := [(.s (.v 3))]) (ar := [none]) (k := 4) (caps := []) (fun a => .s (dAct a)) (fun a => !actOk a) (fun a => [.s (dAct a)]) (fun a => [.l (dAct a)]) as
          L_slices_IndexFunc_SSimpl_ActLine_Simpl_ActLine rfl hl rfl (fun _ _ => rfl) (fun _ _ => rfl) (fun _ _ _ _ => rfl) rfl fun a ha => ev_CatOk_1 a (hf.2 a ha))
    refine WR.ev e rfl rfl rfl (WR.done ?_)
    show [dB (!(as.any fun a => !actOk a))] = _
    rw [not_any]; simp [catOk, h]
  · show [dB false] = _
    simp [catOk, h]

/-! ### Draws of any acts -/

def thinAs (as : List (List Line)) : Prop := as.length ≤ 5 ∧ ∀ a ∈ as, thinA a
theorem thinAs.fit {as : List (List Line)} (h : thinAs as) : fitActs as := ⟨by have := h.1; omega, fun a ha => (h.2 a ha).fit⟩

theorem dActs_set (as : List (List Line)) (k : Nat) (a : List Line) : (dActs as).set k (.s (dAct a)) = dActs (as.set k a) := by simp [dActs, List.map_set]

/-! ### The law of forms -/

/-! ### Pins -/

theorem ev_reads_1 (f : Frm) (hf : f.c.length = 3) (v : Nat) (hv : v < 3) : Ev L f_impl_RowRow_reads_1 (f.cells ++ [D.q [dI v]].map D.norm) [dB (decide (f.c.getD v 0 ≠ 0))] := by
  refine Ev.eq (vs := [.l (dL f.c), .l (dL f.d), .i f.k, .d (.q [dI v])]) L_impl_RowRow_reads_1 rfl ?_
  refine WR.get (vs := [.i v]) rfl rfl ?_
  refine WR.idxN v (map_at (f := dI) (at_getD (by omega))) rfl rfl rfl rfl (WR.done ?_)
  show [dB (!(decide (f.c.getD v 0 = 0)))] = _
  simp

theorem ev_reads (r : Row) (hr : RowFit r) (v : Nat) (hv : v < 3) : Ev L f_impl_RowRow_reads (r.cells ++ [dI v] ++ ([] : List D).map D.norm) [dB (readsM r v)] := by
  refine Ev.eq (vs := [.l (dF r.guards), .l (dF r.adds), .l (dF r.tells), .b r.stop, .i v]) L_impl_RowRow_reads rfl ?_
  have ha := hr.al
  have ht := hr.tl
  refine WR.ev (ev_concat [r.adds, r.tells] (by simp) (by simp; omega)) rfl rfl rfl ?_
  have hfl : [r.adds, r.tells].flatten = r.adds ++ r.tells := by simp
  rw [hfl]
  have h3 : ∀ f ∈ r.adds ++ r.tells, f.c.length = 3 := by
    intro f hf
    rcases List.mem_append.1 hf with hf | hf
    · exact (hr.a f hf).c
    · exact (hr.t f hf).c
  have hlen : (r.adds ++ r.tells).length ≤ 2000000 := by simp; omega
  unfold readsM
  generalize r.adds ++ r.tells = all at *
  exact WR.ev (ev_hasFrm (fun f => decide (f.c.getD v 0 ≠ 0)) all (fn := f_impl_RowRow_reads_1) (caps := [.q [dI v]]) hlen rfl rfl fun f hf => ev_reads_1 f (h3 f hf) v hv) rfl rfl rfl (WR.done rfl)

theorem ev_iPins (as : List (List Line)) (hf : fitActs as) : Ev L f_impl_CatPins [.s (dActs as)] [.s (dBl (catPins as))] := by
  refine Ev.eq (vs := [.l (dActs as)]) L_impl_CatPins rfl ?_
  refine WR.ev (ev_iCatOk as hf) rfl rfl rfl ?_
  refine WR.iteN (catOk as) rfl (fun h => WR.done ?_) (fun h => ?_)
  · show [D.s []] = _
    simp [catPins, h, dBl]
  · refine WR.ev (ev_pots readsM as hf (fn := f_impl_RowRow_reads) (caps := []) rfl rfl fun r hr v hv => ev_reads r hr v hv) rfl rfl rfl (WR.done ?_)
    show [D.s (dBl (potsM readsM as))] = _
    rw [catPins_eq h]

theorem ev_sPins (as : List (List Line)) (hf : fitActs as) : Ev L f_spec_CatPins [.s (dActs as)] [.s (dBl (catPins as))] := by
  refine Ev.eq (vs := [.l (dActs as)]) L_spec_CatPins rfl ?_
  refine WR.ev (ev_CatOk as hf) rfl rfl rfl ?_
  refine WR.iteN (catOk as) rfl (fun h => WR.done ?_) (fun h => ?_)
  · show [D.s []] = _
    simp [catPins, h, dBl]
  · refine WR.ev (ev_l4Both as hf (catOk_len h).2.1) rfl rfl rfl (WR.done ?_)
    show [D.s (dBl (both as).2)] = _
    simp [catPins, h]

theorem catPins_len (as : List (List Line)) : (catPins as).length ≤ 3 := by
  cases h : catOk as with
  | true => rw [catPins_eq h, pots_len]; omega
  | false => simp [catPins, h]

end Go.Proofs.Ytjmimbpcajogoaa

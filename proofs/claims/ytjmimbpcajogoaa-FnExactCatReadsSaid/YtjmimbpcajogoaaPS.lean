/- All is kept an eye on; who tells of a pot pins it; with an act more there is more: over residual programs. -/
import Derived.Test.YtjmimbpcajogoaaPR
import Derived.Test.YtjmimbpcajogoaaTd
namespace Go.Proofs.Ytjmimbpcajogoaa
open Go Go.Tm

/-! ### Draws of any acts -/

def thinAs (as : List (List Line)) : Prop := as.length ≤ 5 ∧ ∀ a ∈ as, thinA a
theorem thinAs.fit {as : List (List Line)} (h : thinAs as) : fitActs as := ⟨by have := h.1; omega, fun a ha => (h.2 a ha).fit⟩

theorem dActs_set (as : List (List Line)) (k : Nat) (a : List Line) : (dActs as).set k (.s (dAct a)) = dActs (as.set k a) := by simp [dActs, List.map_set]

/-! ### The law of forms -/

/-! ### Pins -/

theorem ev_reads_1 (f : Frm) (hf : f.c.length = 3) (v : Nat) (hv : v < 3) : Ev L f_impl_RowRow_reads_1 (f.cells ++ [D.q [dI v]].map D.norm) [dB (decide (f.c.getD v 0 ≠ 0))] := by
  refine Ev.eq (vs := [.l (dL f.c), .l (dL f.d), .i f.k, .d (.q [dI v])]) L_impl_RowRow_reads_1 rfl ?_
  refine WR.get (vs := [.i v]) rfl rfl ?_
  refine WR.idxN v (map_at (f := dI) (at_getD (by omega))) rfl rfl rfl rfl (WR.done ?_)
  show [dB (!(decide (f.c.getD v 0 = 0)))] = _
  simp

theorem ev_reads (r : Row) (hr : RowFit r) (v : Nat) (hv : v < 3) : Ev L f_impl_RowRow_reads (r.cells ++ [dI v] ++ ([] : List D).map D.norm) [dB (readsM r v)] := by
  refine Ev.eq (vs := [.l (dF r.guards), .l (dF r.adds), .l (dF r.tells), .b r.stop, .i v]) L_impl_RowRow_reads rfl ?_
  have ha := hr.al
  have ht := hr.tl
  refine WR.ev (ev_concat [r.adds, r.tells] (by simp) (by simp; omega)) rfl rfl rfl ?_
  have hfl : [r.adds, r.tells].flatten = r.adds ++ r.tells := by simp
  rw [hfl]
  have h3 : ∀ f ∈ r.adds ++ r.tells, f.c.length = 3 := by
    intro f hf
    rcases List.mem_append.1 hf with hf | hf
    · exact (hr.a f hf).c
    · exact (hr.t f hf).c
  have hlen : (r.adds ++ r.tells).length ≤ 2000000 := by simp; omega
  unfold readsM
  generalize r.adds ++ r.tells = all at *
  exact WR.ev (ev_hasFrm (fun f => decide (f.c.getD v 0 ≠ 0)) all (fn := f_impl_RowRow_reads_1) (caps := [.q [dI v]]) hlen rfl rfl fun f hf => ev_reads_1 f (h3 f hf) v hv) rfl rfl rfl (WR.done rfl)

theorem ev_iReads (a : List Line) (ha : fitAct a) : Ev L f_impl_CatReads [.s (dAct a)] [.s (dBl (catReads a))] := by
  refine Ev.eq (vs := [.l (dAct a)]) L_impl_CatReads rfl ?_
  refine WR.ev (ev_iActOk a ha) rfl rfl rfl ?_
  refine WR.iteN (actOk a) rfl (fun h => WR.done ?_) (fun h => ?_)
  · show [D.s []] = _
    simp [catReads, h, dBl]
  · refine WR.ev (ev_pots readsM [a] ⟨by simp, by simp; exact ha⟩ (fn := f_impl_RowRow_reads) (caps := []) rfl rfl fun r hr v hv => ev_reads r hr v hv) rfl rfl rfl (WR.done ?_)
    show [D.s (dBl (potsM readsM [a]))] = _
    simp [catReads, h]

theorem catPins_len (as : List (List Line)) : (catPins as).length ≤ 3 := by
  cases h : catOk as with
  | true => rw [catPins_eq h, pots_len]; omega
  | false => simp [catPins, h]

end Go.Proofs.Ytjmimbpcajogoaa

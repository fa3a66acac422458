/- The machine over trees, part b. -/
import Derived.Test.YtbikgdcgoogngaaGreatTa
import Derived.Below
import Derived.Orders
import Derived.LoopN
import Derived.Tactics
section
/- A machine over trees: calls. -/
open Go.RowKit
namespace Go.Tm

/-- The function comes to F, and makes nothing but new memory. -/
def FnOk (P : Program) (f : FuncId) (F : List D → Option D) : Prop :=
  (∀ args w, (callFunc f args).run P w = .ok (.enter f args) w) ∧
  ∀ (w : World) (ds : List D) (vals : List Value) (fps : List Nat) (r : D), RdTs w ds vals fps → F ds = some r →
    Calls P f vals.toArray w fun e w' => ∃ val fp, e = .returned val ∧ Rd w' r val fp ∧ (∀ b ∈ fp, b ∈ fps ∨ w.heap.size ≤ b) ∧ Below w.heap.size w w'

structure TabOk (P : Program) (T : Tab) : Prop where
  fns : ∀ f S, T.fns f = some S → FnOk P f S.F
  xfns : ∀ f S, T.xfns f = some S → FnX P f S

section
variable {P : Program} {T : Tab} {G : Ghost} {c : Cx} {g : Gh} {m m' : Mem} {w w' : World} {a : Act} {sl : Slots} {o : Oper} {x : X}

theorem Mut_lt (hS : Sim c g m w) {b : Nat} (h : Mut g m b) : b < w.heap.size := by
  obtain ⟨k, o, hk, hrw, hb⟩ := h
  exact (hS.live b k (hS.own k o b hk hrw hb)).1

theorem Compat.below (hS : Sim c g m w) (hb : Below w.heap.size w w') : Compat c g m w g m w' :=
  ⟨hb.size, fun b h1 _ h3 => ⟨hb.block b h3, h1⟩, fun k cs h => ⟨⟨cs, h⟩, rfl⟩, fun k ty sz es dp rw h => .inr ⟨es, dp, rw, h, .inl ⟨rfl, rfl, rfl⟩⟩, fun _ h => h⟩

theorem Sim.below (hS : Sim c g m w) (hb : Below w.heap.size w w') : Sim c g m w' := by
  have hC := Compat.below hS hb
  refine ⟨⟨hb.os.trans hS.frame.os, hb.tape.trans hS.frame.tape, hb.output.trans hS.frame.output, Nat.le_trans hS.frame.size hb.size, fun b h1 h2 => (hb.block b (Nat.lt_of_lt_of_le h1 hS.frame.size)).trans (hS.frame.block b h1 h2)⟩,
    fun k cs hk => ?_, fun k ty sz es dp rw hk => ?_, hS.own, fun b k hk => ?_⟩
  · obtain ⟨b, vs, ty, h1, h2, h3, h4⟩ := hS.box k cs hk
    exact ⟨b, vs, ty, h1, (hb.block b (Array.getElem?_eq_some_iff.1 h2).1).trans h2, VXs_mono hC _ _ h3, h4⟩
  · obtain ⟨h1, h2, h3⟩ := hS.arr k ty sz es dp rw hk
    refine ⟨?_, h2, h3⟩
    rcases h1 with h | ⟨b, cap, cs, a1, a2, a3, a4, a5, a6, a7⟩
    · exact .inl h
    · have hlt := (Array.getElem?_eq_some_iff.1 a5).1
      exact .inr ⟨b, cap, cs, a1, a2, a3, a4, (hb.block b hlt).trans a5, a6, RdEs_same _ _ _ _ _ hb.size (hb.block b hlt) (fun q hq => hb.block q (RdEs_lt _ _ _ _ _ a7 q hq)) a7⟩
  · obtain ⟨h1, h2⟩ := hS.live b k hk
    exact ⟨Nat.lt_of_lt_of_le h1 hb.size, h2⟩

theorem RdCs_vals : ∀ (ds : List D) (vs : List Value) (b off : Nat) (fp : List Nat), RdTs w ds vs fp → (∀ u ∈ vs, u.oneCell = true) → (∀ j u, vs[j]? = some u → w.cell? ⟨b, off + j, none⟩ = some u) → RdCs w ds b off fp
  | [], _, _, _, _, h, _, _ => h.2
  | d :: ds, vs, b, off, fp, ⟨v, vs', f1, f2, e, hf, h1, h2⟩, ho, hc => by
    subst e
    exact ⟨v, f1, f2, by simpa using hc 0 v rfl, hf, h1, RdCs_vals ds vs' b (off + 1) f2 h2 (fun u hu => ho u (by simp [hu])) (fun j u hj => by
      rw [show off + 1 + j = off + (j + 1) by omega]; exact hc (j + 1) u (by simpa using hj)), ho v (by simp)⟩

/-- Blocks that a call may hand back. -/
def inFp (c : Cx) (fp : List Nat) : Prop := ∀ b ∈ fp, b ∈ c.A ∨ c.w0.heap.size ≤ b

theorem own_in (hS : Sim c g m w) {k : Key} {ob : Obj} {b : Nat} (hk : m k = some ob) (hd : ob ≠ .dead) (hb : g.bl k = some b) : b ∈ c.A ∨ c.w0.heap.size ≤ b := by
  have key : ob.rw = true → b ∈ c.A ∨ c.w0.heap.size ≤ b := fun hrw => by
    rcases (hS.live b k (hS.own k ob b hk hrw hb)).2 with h | h
    · exact .inr h
    · exact .inl (c.parA b h)
  cases ob with
  | box cs => exact key rfl
  | dead => exact absurd rfl hd
  | arr ty sz es dp rw =>
    cases rw with
    | true => exact key rfl
    | false => exact ((hS.arr k ty sz es dp false hk).2.2 rfl b hb b (by simp)).2

mutual
theorem pur_sound : ∀ (n : Nat) (x : X) (v : Value) (d : D) (m m' : Mem), Sim c g m w → VX c g m w x v → (pur n x).run m = some (d, m') → m' = m ∧ ∃ fp, Rd w d v fp ∧ inFp c fp
  | 0, _, _, _, _, _, _, _, h => by simp [pur, MP.run] at h
  | n + 1, .d x, v, d, m, m', hS, hx, h => by
    cases ret_some h
    obtain ⟨fp, h1, h2⟩ := hx; exact ⟨rfl, fp, Rd_norm h1, fun b hb => (h2 b hb).2⟩
  | n + 1, .o k l, v, d, m, m', hS, hx, h => by
    obtain ⟨ob, hob, h⟩ := MP.get_some h
    cases ob with
    | arr ty sz es dp rw =>
      simp only at h
      split at h
      · rename_i hn
        cases ret_some h
        have hv := (hx.2.2 ty sz es dp rw hob).2 hn
        have hin := hS.arr k ty sz es dp rw hob
        rcases hin.1 with ⟨_, e, rfl, e2⟩ | ⟨b, cap, cs, hb, e, hle, _, hh, _, hr⟩
        · exact ⟨rfl, [], ⟨none, 0, by rw [hv, e]; rfl, by simp, .inl ⟨rfl, rfl⟩⟩, fun b hb => by simp at hb⟩
        · refine ⟨rfl, b :: g.fd k, ⟨_, cap, by rw [hv, e], hle, .inr ⟨b, 0, sz, _, rfl, (Array.getElem?_eq_some_iff.1 hh).1, rfl, hr⟩⟩, fun q hq => ?_⟩
          rcases List.mem_cons.1 hq with rfl | hq
          · exact own_in hS hob (by simp) hb
          · exact (hin.2.1 q hq).2
      · simp [MP.run] at h
    | _ => simp [MP.run] at h
  | n + 1, .p k off, v, d, m, m', hS, hx, h => by
    obtain ⟨ob, hob, h⟩ := MP.get_some h
    obtain ⟨cs, b, hm, hb, rfl⟩ := hx
    rw [hob] at hm; cases hm
    simp only at h
    split at h
    · rename_i hlt
      obtain ⟨ds, m1, h1, h'⟩ := MP.bind_some h
      clear h
      obtain ⟨b', vs, ty, hb', hh, hv, hone⟩ := hS.box k cs hob
      rw [hb] at hb'; cases hb'
      obtain ⟨rfl, fp, hr, hin⟩ := purs_sound n (cs.drop off) (vs.drop off) ds m m1 hS (VXs_drop _ _ _ hv) h1
      cases ret_some h'
      refine ⟨rfl, b :: fp, ⟨b, off, fp, rfl, (Array.getElem?_eq_some_iff.1 hh).1, rfl, RdCs_vals _ _ _ _ _ hr (fun u hu => hone u (List.mem_of_mem_drop hu)) (fun j u hj => ?_)⟩, fun q hq => ?_⟩
      · rw [cell_of_block hh]; simpa using hj
      · rcases List.mem_cons.1 hq with rfl | hq
        · exact own_in hS hob (by simp) hb
        · exact hin q hq
    · simp [MP.run] at h
  | n + 1, .f fn cs, v, d, m, m', hS, hx, h => by
    obtain ⟨vs, rfl, hv⟩ := hx
    simp only [pur] at h
    split at h
    · rename_i hone
      obtain ⟨ds, m1, h1, h'⟩ := MP.bind_some h
      clear h
      obtain ⟨rfl, fp, hr, hin⟩ := purs_sound n cs vs ds m m1 hS hv h1
      cases ret_some h'
      exact ⟨rfl, fp, ⟨vs, rfl, RdVs_of_Ts _ _ _ hr (ones_sound' _ _ hv hone)⟩, hin⟩
    · simp [MP.run] at h
  | n + 1, .g cs, v, d, m, m', hS, hx, h => by
    obtain ⟨vs, rfl, hv, hone⟩ := hx
    obtain ⟨ds, m1, h1, h'⟩ := MP.bind_some h
    clear h
    obtain ⟨rfl, fp, hr, hin⟩ := purs_sound n cs vs ds m m1 hS hv h1
    cases ret_some h'
    exact ⟨rfl, fp, ⟨vs, rfl, RdVs_of_Ts _ _ _ hr hone⟩, hin⟩
  | n + 1, .t cs, v, d, m, m', hS, hx, h => by
    obtain ⟨vs, rfl, hv⟩ := hx
    obtain ⟨ds, m1, h1, h'⟩ := MP.bind_some h
    clear h
    obtain ⟨rfl, fp, hr, hin⟩ := purs_sound n cs vs ds m m1 hS hv h1
    cases ret_some h'
    exact ⟨rfl, fp, ⟨vs, rfl, hr⟩, hin⟩
  | n + 1, .e _ _ _ _, v, d, m, m', hS, hx, h => by simp [pur, MP.run] at h
  | n + 1, .u, v, d, m, m', hS, hx, h => by simp [pur, MP.run] at h
theorem purs_sound : ∀ (n : Nat) (xs : List X) (vs : List Value) (ds : List D) (m m' : Mem), Sim c g m w → VXs c g m w xs vs → (pur.purs n xs).run m = some (ds, m') → m' = m ∧ ∃ fp, RdTs w ds vs fp ∧ inFp c fp
  | n, [], vs, ds, m, m', hS, hv, h => by
    rw [show pur.purs n [] = .ret [] by cases n <;> rfl] at h
    cases ret_some h
    rw [show vs = [] from hv]; exact ⟨rfl, [], ⟨rfl, rfl⟩, fun b hb => by simp at hb⟩
  | 0, _ :: _, _, _, _, _, _, _, h => by simp [pur.purs, MP.run] at h
  | n + 1, x :: xs, vs, ds, m, m', hS, ⟨v, vs', e, h1, h2⟩, h => by
    subst e
    obtain ⟨d, m1, ha, h3⟩ := MP.bind_some h
    clear h
    obtain ⟨e1, f1, hr1, i1⟩ := pur_sound n x v d m m1 hS h1 ha
    obtain ⟨ds', m2, hb, h4⟩ := MP.bind_some h3
    clear h3
    subst e1
    obtain ⟨e2, f2, hr2, i2⟩ := purs_sound n xs vs' ds' m1 m2 hS h2 hb
    cases ret_some h4
    exact ⟨e2, f1 ++ f2, ⟨v, vs', f1, f2, rfl, rfl, hr1, hr2⟩, fun b hb => (List.mem_append.1 hb).elim (i1 b) (i2 b)⟩
end

mutual
theorem take_sound : ∀ (x : X) (v : Value) (d : D) (m m' : Mem), Sim c g m w → VX c g m w x v → (take x).run m = some (d, m') → (∃ fp, Rd w d v fp ∧ okFp c g m' fp) ∧ Sim c g m' w ∧ Compat c g m w g m' w
  | .d x, v, d, m, m', hS, hx, h => by
    cases ret_some h
    obtain ⟨fp, h1, h2⟩ := hx; exact ⟨⟨fp, Rd_norm h1, h2⟩, hS, .refl _ _ _ _⟩
  | .o k l, v, d, m, m', hS, hx, h => by
    obtain ⟨ob, hob, h⟩ := MP.get_some h
    cases ob with
    | arr ty sz es dp rw =>
      simp only at h
      split at h
      · rename_i hn
        have hab : (absorb (.o k l)).run m = some ((.s es, dp && rw), upd m k (some (.arr ty sz es false false))) := by
          simp only [absorb, MP.run, hob]
          rw [if_pos hn]; simp [MP.run, hob]
        obtain ⟨_, h⟩ := MP.put_some h
        cases ret_some h
        exact absorb_sound hS hx hab
      · simp [MP.run] at h
    | _ => simp [MP.run] at h
  | .g cs, v, d, m, m', hS, hx, h => by
    obtain ⟨vs, rfl, hv, hone⟩ := hx
    obtain ⟨ds, m1, h1, h⟩ := MP.bind_some h
    obtain ⟨⟨fp, hr, ho⟩, hS1, hC1⟩ := takes_sound cs vs ds m m1 hS hv h1
    cases ret_some h
    exact ⟨⟨fp, ⟨vs, rfl, RdVs_of_Ts _ _ _ hr hone⟩, ho⟩, hS1, hC1⟩
  | .f fn cs, v, d, m, m', hS, hx, h => by
    obtain ⟨vs, rfl, hv⟩ := hx
    simp only [take] at h
    split at h
    · rename_i hone
      obtain ⟨ds, m1, h1, h⟩ := MP.bind_some h
      obtain ⟨⟨fp, hr, ho⟩, hS1, hC1⟩ := takes_sound cs vs ds m m1 hS hv h1
      cases ret_some h
      exact ⟨⟨fp, ⟨vs, rfl, RdVs_of_Ts _ _ _ hr (ones_sound' _ _ hv hone)⟩, ho⟩, hS1, hC1⟩
    · simp [MP.run] at h
  | .p _ _, v, d, m, m', hS, hx, h => by simp [take, MP.run] at h
  | .e _ _ _ _, v, d, m, m', hS, hx, h => by simp [take, MP.run] at h
  | .t _, v, d, m, m', hS, hx, h => by simp [take, MP.run] at h
  | .u, v, d, m, m', hS, hx, h => by simp [take, MP.run] at h
theorem takes_sound : ∀ (xs : List X) (vs : List Value) (ds : List D) (m m' : Mem), Sim c g m w → VXs c g m w xs vs → (takes xs).run m = some (ds, m') → (∃ fp, RdTs w ds vs fp ∧ okFp c g m' fp) ∧ Sim c g m' w ∧ Compat c g m w g m' w
  | [], vs, ds, m, m', hS, hv, h => by
    cases ret_some h
    rw [show vs = [] from hv]; exact ⟨⟨[], ⟨rfl, rfl⟩, fun b hb => by simp at hb⟩, hS, .refl _ _ _ _⟩
  | x :: xs, vs, ds, m, m', hS, ⟨v, vs', e, h1, h2⟩, h => by
    subst e
    obtain ⟨d, m1, ha, h⟩ := MP.bind_some h
    obtain ⟨⟨f1, hr1, ho1⟩, hS1, hC1⟩ := take_sound x v d m m1 hS h1 ha
    obtain ⟨ds', m2, hb, h⟩ := MP.bind_some h
    obtain ⟨⟨f2, hr2, ho2⟩, hS2, hC2⟩ := takes_sound xs vs' ds' m1 m2 hS1 (VXs_mono hC1 _ _ h2) hb
    cases ret_some h
    have := okFp_mono hC2 (Rd_lt _ _ _ hr1) ho1
    exact ⟨⟨f1 ++ f2, ⟨v, vs', f1, f2, rfl, rfl, hr1, hr2⟩, fun b hb => by
      rcases List.mem_append.1 hb with hb | hb
      · exact this.1 b hb
      · exact ho2 b hb⟩, hS2, hC1.trans hC2⟩
end

mutual
theorem flat_fp : ∀ (d : D) (v : Value) (fp : List Nat), flat d = true → Rd w d v fp → fp = []
  | .v x, v, fp, _, h => h.2.2
  | .g cs, v, fp, hf, ⟨vs, _, h⟩ => flats_fpV cs vs fp hf h
  | .t cs, v, fp, hf, ⟨vs, _, h⟩ => flats_fpT cs vs fp hf h
  | .s _, v, fp, hf, h => by simp [flat] at hf
  | .q _, v, fp, hf, h => by simp [flat] at hf
  | .f _ _, v, fp, hf, h => by simp [flat] at hf
theorem flats_fpV : ∀ (ds : List D) (vs : List Value) (fp : List Nat), flats ds = true → RdVs w ds vs fp → fp = []
  | [], vs, fp, _, h => h.2
  | d :: ds, vs, fp, hf, ⟨v, vs', f1, f2, e, hfp, h1, h2, _⟩ => by
    simp only [flats, Bool.and_eq_true] at hf
    rw [hfp, flat_fp d v f1 hf.1 h1, flats_fpV ds vs' f2 hf.2 h2]; rfl
theorem flats_fpT : ∀ (ds : List D) (vs : List Value) (fp : List Nat), flats ds = true → RdTs w ds vs fp → fp = []
  | [], vs, fp, _, h => h.2
  | d :: ds, vs, fp, hf, ⟨v, vs', f1, f2, e, hfp, h1, h2⟩ => by
    simp only [flats, Bool.and_eq_true] at hf
    rw [hfp, flat_fp d v f1 hf.1 h1, flats_fpT ds vs' f2 hf.2 h2]; rfl
end

theorem maskTake_sound : ∀ (bs : List Bool) (xs : List X) (vs : List Value) (ys : List X) (m m' : Mem), Sim c g m w → VXs c g m w xs vs → (maskTake bs xs).run m = some (ys, m') → VXs c g m' w ys vs ∧ Sim c g m' w ∧ Compat c g m w g m' w
  | [], xs, vs, ys, m, m', hS, hv, h => by
    simp only [maskTake] at h
    cases ret_some h
    exact ⟨hv, hS, .refl _ _ _ _⟩
  | _ :: _, [], vs, ys, m, m', hS, hv, h => by
    simp only [maskTake] at h
    cases ret_some h
    exact ⟨hv, hS, .refl _ _ _ _⟩
  | b :: bs, x :: xs, vs, ys, m, m', hS, ⟨v, vs', e, h1, h2⟩, h => by
    subst e
    simp only [maskTake] at h
    cases b with
    | true =>
      simp only [if_true] at h
      obtain ⟨d, m1, ha, h⟩ := MP.bind_some h
      obtain ⟨⟨fp, hr, ho⟩, hS1, hC1⟩ := take_sound x v d m m1 hS h1 ha
      obtain ⟨zs, m2, hb, h⟩ := MP.bind_some h
      cases ret_some h
      obtain ⟨h3, hS2, hC2⟩ := maskTake_sound bs xs vs' zs m1 m' hS1 (VXs_mono hC1 _ _ h2) hb
      exact ⟨⟨v, vs', rfl, VX_mono hC2 _ _ (VX_ofD1 d v fp hr ho), h3⟩, hS2, hC1.trans hC2⟩
    | false =>
      simp only [Bool.false_eq_true, if_false] at h
      obtain ⟨zs, m2, hb, h⟩ := MP.bind_some h
      cases ret_some h
      obtain ⟨h3, hS2, hC2⟩ := maskTake_sound bs xs vs' zs m m' hS h2 hb
      exact ⟨⟨v, vs', rfl, VX_mono hC2 _ _ h1, h3⟩, hS2, hC2⟩

theorem Good.behind {m1 : Mem} (hC : Compat c g m w g m1 w) (h : Good P c g m1 w a o x m') : Good P c g m w a o x m' := by
  unfold Good at h ⊢
  refine Oper.wp_mono ?_ h
  rintro a' w' ⟨v, g', h1, h2, h3, h4⟩
  exact ⟨v, g', h1, h2, hC.trans h3, h4⟩

/-- A call, by its contract. -/
theorem callM_sound {f : FuncId} {xs : List X} {vs : List Value} (hT : TabOk P T) (hS : Sim c g m w) (hv : VXs c g m w xs vs) (h : (callM T G o f xs).run m = some (x, m'))
    (hrun : (execOp a.eval o).run P w = (callFunc f vs.toArray).run P w) : Good P c g m w a o x m' := by
  unfold callM at h
  cases hf : T.fns f with
  | none =>
    simp only [hf] at h
    cases hx : T.xfns f with
    | none => simp [hx, MP.run] at h
    | some S =>
      simp only [hx] at h
      split at h
      · exact lendM0_sound (hT.xfns f S hx) hS hv h hrun
      · obtain ⟨ys, m1, h1, h2⟩ := MP.bind_some h
        obtain ⟨h3, hS1, hC1⟩ := maskTake_sound _ _ _ _ _ _ hS hv h1
        exact .behind hC1 (lendM_sound (hT.xfns f S hx) hS1 h3 h2 hrun)
  | some S =>
    obtain ⟨hent, hcall⟩ := hT.fns f S hf
    simp only [hf] at h
    have fin : ∀ (m1 : Mem) (ds : List D) (fps : List Nat) (r : D), Sim c g m1 w → Compat c g m w g m1 w → RdTs w ds vs fps → S.F ds = some r → (flat r = true ∨ okFp c g m1 fps) → Good P c g m w a o (X.ofD r) m1 := by
      intro m1 ds fps r hS1 hC1 hr hF hok
      unfold Good Oper.wp
      rw [hrun, hent]
      refine (hcall w ds vs fps r hr hF).mono ?_
      rintro e w' ⟨val, fp, rfl, hrd, hsub, hb⟩
      have hC2 := Compat.below hS1 hb
      refine ⟨val, g, rfl, hS1.below hb, hC1.trans hC2, VX_ofD r val fp hrd ?_⟩
      rcases hok with hfl | hok
      · rw [flat_fp r val fp hfl hrd]; exact fun b hb => by simp at hb
      · intro b hbm
        rcases hsub b hbm with h1 | h1
        · exact hok b h1
        · refine ⟨fun hm => ?_, .inr (Nat.le_trans hS1.frame.size h1)⟩
          have := Mut_lt hS1 hm
          omega
    · split at h
      · obtain ⟨ds, m1, h1, h'⟩ := MP.bind_some h
        clear h
        obtain ⟨rfl, fps, hr, _⟩ := purs_sound 40 xs vs ds m m1 hS hv h1
        have h := h'; clear h'
        split at h
        · rename_i r hF
          split at h
          · rename_i hfl
            cases ret_some h
            exact fin _ ds fps r hS (.refl _ _ _ _) hr hF (.inl hfl)
          · simp [MP.run] at h
        · simp [MP.run] at h
      · obtain ⟨ds, m1, h1, h⟩ := MP.bind_some h
        obtain ⟨⟨fps, hr, hok⟩, hS1, hC1⟩ := takes_sound xs vs ds m m1 hS hv h1
        split at h
        · rename_i r hF
          cases ret_some h
          exact fin _ ds fps r hS1 hC1 hr hF (.inr hok)
        · simp [MP.run] at h

theorem run_callOp (hT : TabOk P T) (hS : Sim c g m w) (hsl : Held c g m w sl a) {cl : Call} {f : Operand} (ho : o.op = .call cl) (hcl : cl.callee = .value f)
    (h : (opM P T G sl o).run m = some (x, m')) : Good P c g m w a o x m' := by
  have hf := opX_sound hsl f
  unfold opM at h; rw [ho] at h; simp only [hcl] at h
  have hexec : execOp a.eval o = (do let d ← resolve a.eval cl o.type; invoke d.target d.args) := by unfold execOp; rw [ho]
  have hvs := VXs_map (l := cl.args.toList) hsl
  split at h
  · rename_i fn cs hfx
    rw [hfx] at hf
    obtain ⟨vs, hfv, hcs⟩ := hf
    refine callM_sound hT hS (VXs_append _ _ _ _ hvs hcs) h ?_
    rw [hexec]
    simp only [resolve, hcl, hfv, Deferred.ofValue, Sem.run_bind, Sem.run_pure, Result.andThen_ok, invoke]
    congr 2
    apply Array.ext'
    simp
  · rename_i fn cs hfx
    rw [hfx] at hf
    obtain ⟨fp, ⟨vs, hfv, hr⟩, hok⟩ := hf
    have hcs := VXs_d cs vs fp hr hok
    refine callM_sound hT hS (VXs_append _ _ _ _ hvs hcs) h ?_
    rw [hexec]
    simp only [resolve, hcl, hfv, Deferred.ofValue, Sem.run_bind, Sem.run_pure, Result.andThen_ok, invoke]
    congr 2
    apply Array.ext'
    simp
  · simp [MP.run] at h

end

end Go.Tm
end

section
/- A machine over trees: every operation; regions. -/
open Go.RowKit
namespace Go.Tm

section
variable {P : Program} {T : Tab} {G : Ghost} {c : Cx} {g : Gh} {m m' : Mem} {w w' : World} {a : Act} {sl : Slots} {o : Oper} {x : X}

theorem opM_sound (hT : TabOk P T) (hS : Sim c g m w) (hsl : Held c g m w sl a) (h : (opM P T G sl o).run m = some (x, m')) : Good P c g m w a o x m' := by
  cases hop : o.op with
  | move p => exact run_move hS hsl (.inl hop) h
  | assign p => exact run_move hS hsl (.inr hop) h
  | pick p q r => exact run_pick hS hsl hop h
  | alloc t => exact run_allocOp hS hop h
  | box t p => exact run_boxOp hS hsl hop h
  | build t ps => exact run_build' hS hsl hop h
  | buildSlice t n ps => exact run_buildSliceOp hS hsl hop h
  | load t p => exact run_loadOp hS hsl hop h
  | store t p q => exact run_storeOp hS hsl hop h
  | nilCheck p => exact run_nilCheck hS hsl hop h
  | binOp op t p q t' => exact run_binOp hS hsl hop h
  | unOp op t p => exact run_unOp hS hsl hop h
  | convert s d p => exact run_convert hS hsl hop h
  | makeFunc fn fs cs => exact run_makeFunc hS hsl hop h
  | makeSlice t p q => exact run_makeSliceOp hS hsl hop h
  | slice t p lo hi mx => exact run_sliceOp hS hsl hop h
  | fieldAddr t p i => exact run_fieldAddr hS hsl hop h
  | field t p i => exact run_fieldOp hS hsl hop h
  | indexAddr t p q => exact run_indexAddr hS hsl hop h
  | index t p q => exact run_index hS hsl hop h
  | extract p i => exact run_extract hS hsl hop h
  | call cl =>
    cases hcl : cl.callee with
    | value f => exact run_callOp hT hS hsl hop hcl h
    | invoke _ _ => unfold opM at h; rw [hop] at h; simp [hcl, MP.run] at h
    | builtin b =>
      cases b with
      | len => exact run_lenOp hS hsl hop hcl h
      | append => exact run_appendOp hS hsl hop hcl h
      | cap => exact run_capOp hS hsl hop hcl h
      | _ => unfold opM at h; rw [hop] at h; simp [hcl, MP.run] at h
  | _ => unfold opM at h; rw [hop] at h; simp [MP.run] at h

end

end Go.Tm
end

section
/- A machine over trees: regions in the order of the text. -/
open Go.RowKit
namespace Go.Tm

section
variable {P : Program} {T : Tab} {G : Ghost} {c : Cx} {g : Gh} {m m' : Mem} {w w' : World} {a : Act} {sl : Slots} {o : Oper} {x : X} {ops : Array Oper} {Q : Exit → Act → World → Prop}

theorem Oper.wp_to {o : Oper} {a : Act} {w : World} {K K' : Act → World → Prop} (h : ∀ a w, K a w → K' a w) (hh : o.wp P a w K fun _ _ _ => False) : o.wp P a w K' Q := by
  unfold Oper.wp at *
  generalize (execOp a.eval o).run P w = r at *
  cases r with
  | ok n w' =>
    cases n <;> simp only [Oper.upon] at hh ⊢ <;>
      first
        | exact h _ _ hh
        | exact Calls.mono hh (fun e w'' he => by cases e <;> first | exact h _ _ he | exact he.elim | (obtain ⟨_, _, he⟩ := he; exact he.elim))
        | exact Rows.mono hh (fun _ _ he => h _ _ he)
  | halt x w' => cases x <;> simp only [Oper.upon] at hh ⊢

/-- Every destination is a slot of the frame. -/
def dstOk (n : Nat) (ops : Array Oper) : Bool := ops.all fun o => match o.dst with | some d => decide (d < n) | none => true

theorem Held.put {v : Value} {g' : Gh} (hsl : Held c g m w sl a) (hC : Compat c g m w g' m' w') (hd : ∀ d, o.dst = some d → d < a.tmps.size) (hx : VX c g' m' w' x v) :
    Held c g' m' w' (putX sl o.dst x) (a.put o.dst v) := by
  intro t
  cases hdst : o.dst with
  | none => simp only [putX, Act.put]; exact VX_mono hC _ _ (hsl t)
  | some d =>
    simp only [putX, Act.put]
    by_cases htd : t = d
    · subst htd
      have := hd t hdst
      simp only [upd_same]
      simpa [this] using hx
    · rw [upd_other _ _ htd]
      have : (a.tmps.setIfInBounds d v).getD t undef = a.tmps.getD t undef := by
        simp [Array.getElem?_setIfInBounds_ne (Ne.symm htd)]
      rw [this]; exact VX_mono hC _ _ (hsl t)

theorem put_size (a : Act) (d : Option Tmp) (v : Value) : (a.put d v).tmps.size = a.tmps.size := by cases d <;> simp [Act.put]
theorem put_defers (a : Act) (d : Option Tmp) (v : Value) : (a.put d v).defers = a.defers := by cases d <;> rfl

theorem wanted_sound (hsl : Held c g m w sl a) {b : Bool} (h : wantedX ops sl o = some b) : Region.wanted o (yielded ops a.tmps) = b := by
  unfold wantedX at h
  unfold Region.wanted
  cases hg : o.guard with
  | none => simp only [hg, Option.some.injEq] at h; subst h; rfl
  | some gw =>
    obtain ⟨j, want⟩ := gw
    simp only [hg] at h ⊢
    cases hd : (ops[j]?).bind (·.dst) with
    | none => simp [hd] at h
    | some d =>
      simp only [hd] at h
      split at h
      · rename_i b' he
        simp only [Option.some.injEq] at h
        have hv := hsl d
        rw [he] at hv
        have hv := (VX_v_eq hv).1
        have hy : yielded ops a.tmps j = some b' := by
          unfold yielded
          rw [hd]
          simp only [Option.bind_some]
          cases ht : a.tmps[d]? with
          | none => simp [ht, undef] at hv
          | some v => simp [ht] at hv; subst hv; rfl
        rw [hy, ← h]
        cases b' <;> cases want <;> rfl
      · rename_i he
        simp only [Option.some.injEq] at h
        have hv := hsl d
        rw [he] at hv
        obtain ⟨vs, hv, hn⟩ := hv
        have hn : vs = [] := hn
        subst hn
        have hy : yielded ops a.tmps j = none := by
          unfold yielded
          rw [hd]
          simp only [Option.bind_some]
          cases ht : a.tmps[d]? with
          | none => rfl
          | some v => simp [ht] at hv; subst hv; rfl
        rw [hy, ← h]
        cases want <;> rfl
      · cases h

/-- One operation, in whatever order. -/
theorem evOp_sound (hT : TabOk P T) {i : Nat} {st st' : St} (hS : Sim c g st.m w) (hsl : Held c g st.m w st.sl a) (hd : dstOk a.tmps.size ops = true) (h : evOp P T G ops i st = some st') {K : Act → World → Prop}
    (hK : ∀ a' w' g', Sim c g' st'.m w' → Held c g' st'.m w' st'.sl a' → Compat c g st.m w g' st'.m w' → a'.defers = a.defers → a'.tmps.size = a.tmps.size → K a' w') : wpOp P ops Q i K a w := by
  unfold evOp at h
  unfold wpOp
  cases hi : ops[i]? with
  | none => simp [hi] at h
  | some o =>
    have hdo : ∀ d, o.dst = some d → d < a.tmps.size := fun d hod => by
      have := Array.all_eq_true_iff_forall_mem.1 hd o (Array.mem_of_getElem? hi)
      simpa [hod] using this
    simp only [hi] at h ⊢
    cases hw : wantedX ops st.sl o with
    | none => simp [hw] at h
    | some b =>
      have hwant := wanted_sound hsl hw
      rw [hwant]
      cases b with
      | false =>
        simp only [hw, Option.some.injEq] at h
        subst h
        simp only [Bool.false_eq_true, if_false]
        exact hK _ _ g hS (Held.put hsl (.refl _ _ _ _) hdo ⟨[], rfl, rfl⟩) (.refl _ _ _ _) (put_defers _ _ _) (put_size _ _ _)
      | true =>
        simp only [hw] at h
        split at h
        · rename_i x m1 hrun
          simp only [Option.some.injEq] at h
          subst h
          simp only [if_true]
          refine .inl (Oper.wp_to ?_ (opM_sound hT hS hsl hrun))
          rintro a' w' ⟨v, g', rfl, hS', hC', hx'⟩
          exact hK _ _ g' hS' (Held.put hsl hC' hdo hx') hC' (put_defers _ _ _) (put_size _ _ _)
        · cases h

theorem evOps_sound (hT : TabOk P T) : ∀ (l : List Nat) (st st' : St) (g : Gh) (a : Act) (w : World), Sim c g st.m w → Held c g st.m w st.sl a → dstOk a.tmps.size ops = true → evOps P T G ops l st = some st' →
    (∀ a' w' g', Sim c g' st'.m w' → Held c g' st'.m w' st'.sl a' → Compat c g st.m w g' st'.m w' → a'.defers = a.defers → a'.tmps.size = a.tmps.size → Q .normal a' w') → wpOps P ops Q l a w
  | [], st, st', g, a, w, hS, hsl, _, h, hQ => by
    simp only [evOps, Option.some.injEq] at h; subst h
    exact hQ a w g hS hsl (.refl _ _ _ _) rfl rfl
  | i :: l, st, st', g, a, w, hS, hsl, hd, h, hQ => by
    simp only [evOps] at h
    split at h
    · rename_i st1 h1
      rw [wpOps_cons]
      refine evOp_sound hT hS hsl hd h1 fun a' w' g' hS' hsl' hC1 e1 e2 => ?_
      refine evOps_sound hT l st1 st' g' a' w' hS' hsl' (by rw [e2]; exact hd) h fun a'' w'' g'' h3 h4 hC2 h5 h6 => hQ a'' w'' g'' h3 h4 (hC1.trans hC2) (h5.trans e1) (h6.trans e2)
    · cases h

/-! ### Forgetting -/

theorem Sim.restrict {mk : Mem} (hS : Sim c g m w) (h : ∀ k o, mk k = some o → (∃ o0, m k = some o0 ∧ o0.rw = o.rw) ∧
    (∀ cs, o = .box cs → ∃ b vs ty, g.bl k = some b ∧ w.heap[b]? = some (.cells vs.toArray ty (0, 0)) ∧ VXs c g mk w cs vs ∧ ∀ u ∈ vs, u.oneCell = true) ∧ (∀ ty sz es dp rw, o = .arr ty sz es dp rw → m k = some o)) : Sim c g mk w := by
  have hm : ∀ b, Mut g mk b → Mut g m b := by
    rintro b ⟨k, o, hk, hrw, hb⟩
    obtain ⟨⟨o0, h1, h2⟩, _⟩ := h k o hk
    exact ⟨k, o0, h1, by rw [h2]; exact hrw, hb⟩
  have hok : ∀ fp, okFp c g m fp → okFp c g mk fp := fun fp hf b hb => ⟨fun hmm => (hf b hb).1 (hm b hmm), (hf b hb).2⟩
  refine ⟨hS.frame, fun k cs hk => (h k _ hk).2.1 cs rfl, fun k ty sz es dp rw hk => ?_, fun k o b hk hrw hb => ?_, hS.live⟩
  · obtain ⟨h1, h2, h3⟩ := hS.arr k ty sz es dp rw ((h k _ hk).2.2 ty sz es dp rw rfl)
    exact ⟨h1, hok _ h2, fun hr b hb => hok _ (h3 hr b hb)⟩
  · obtain ⟨⟨o0, h1, h2⟩, _⟩ := h k o hk
    exact hS.own k o0 b h1 (by rw [h2]; exact hrw) hb

mutual
theorem erase_sound {mk : Mem} {live : Key → Bool} (hl : ∀ k, live k = true → mk k ≠ none ∧ ∃ f : Obj → Obj, mk k = (m k).map f ∧ (∀ cs, ∃ cs', f (.box cs) = .box cs') ∧ (∀ o, (∀ cs, o ≠ .box cs) → f o = o))
    (hM : ∀ b, Mut g mk b → Mut g m b) : ∀ (x : X) (v : Value), VX c g m w x v → VX c g mk w (erase live x) v
  | .d x, v, ⟨fp, h1, h2⟩ => ⟨fp, h1, fun b hb => ⟨fun hm => (h2 b hb).1 (hM b hm), (h2 b hb).2⟩⟩
  | .g cs, v, ⟨vs, e, h, h1⟩ => ⟨vs, e, erases_sound hl hM cs vs h, h1⟩
  | .t cs, v, ⟨vs, e, h⟩ => ⟨vs, e, erases_sound hl hM cs vs h⟩
  | .f fn cs, v, ⟨vs, e, h⟩ => ⟨vs, e, erases_sound hl hM cs vs h⟩
  | .o k n, v, ⟨h1, ⟨o, ho, hb⟩, h2⟩ => by
    simp only [erase]
    split
    · rename_i hlk
      obtain ⟨_, f, hf, _, hf2⟩ := hl k hlk
      have e : mk k = some o := by rw [hf, ho, Option.map_some, hf2 o hb]
      exact ⟨h1, ⟨o, e, hb⟩, fun ty sz es dp rw h => h2 ty sz es dp rw (by rw [ho, ← e]; exact h)⟩
    · trivial
  | .p k off, v, ⟨cs, b, h1, h2, h3⟩ => by
    simp only [erase]
    split
    · rename_i hlk
      obtain ⟨_, f, hf, hf1, _⟩ := hl k hlk
      obtain ⟨cs', hcs'⟩ := hf1 cs
      exact ⟨cs', b, by rw [hf, h1, Option.map_some, hcs'], h2, h3⟩
    · trivial
  | .e k n i off, v, ⟨h1, ⟨o, ho, hb⟩, h2⟩ => by
    simp only [erase]
    split
    · rename_i hlk
      obtain ⟨_, f, hf, _, hf2⟩ := hl k hlk
      have e : mk k = some o := by rw [hf, ho, Option.map_some, hf2 o hb]
      exact ⟨h1, ⟨o, e, hb⟩, fun ty sz es dp rw h => h2 ty sz es dp rw (by rw [ho, ← e]; exact h)⟩
    · trivial
  | .u, _, _ => trivial
theorem erases_sound {mk : Mem} {live : Key → Bool} (hl : ∀ k, live k = true → mk k ≠ none ∧ ∃ f : Obj → Obj, mk k = (m k).map f ∧ (∀ cs, ∃ cs', f (.box cs) = .box cs') ∧ (∀ o, (∀ cs, o ≠ .box cs) → f o = o))
    (hM : ∀ b, Mut g mk b → Mut g m b) : ∀ (xs : List X) (vs : List Value), VXs c g m w xs vs → VXs c g mk w (erases live xs) vs
  | [], _, h => h
  | x :: xs, vs, ⟨v, vs', e, h1, h2⟩ => ⟨v, vs', e, erase_sound hl hM x v h1, erases_sound hl hM xs vs' h2⟩
end

end

end Go.Tm
end

section
/- A machine over trees: operations that may come in either order. -/
open Go.RowKit
namespace Go.Tm

/-- The names that a step looks at (false) and writes (true). -/
def MP.tch {α : Type} : MP α → Mem → List (Key × Bool)
  | .ret _, _ => []
  | .fail, _ => []
  | .get k c, m => (k, false) :: match m k with
    | some o => (c o).tch m
    | none => []
  | .put k o c, m => (k, true) :: c.tch (upd m k (some o))
  | .new k o c, m => (k, true) :: c.tch (upd m k (some o))

theorem MP.keep {α : Type} : ∀ (p : MP α) (m : Mem) (x : α) (m1 : Mem), p.run m = some (x, m1) → ∀ k, (k, true) ∉ p.tch m → m1 k = m k
  | .ret a, m, x, m1, h, k, hk => by cases ret_some h; rfl
  | .fail, m, x, m1, h, k, hk => by simp [MP.run] at h
  | .get j p, m, x, m1, h, k, hk => by
    obtain ⟨o, ho, h⟩ := MP.get_some h
    exact MP.keep (p o) m x m1 h k (fun hm => hk (by simp [MP.tch, ho, hm]))
  | .put j o p, m, x, m1, h, k, hk => by
    obtain ⟨_, h⟩ := MP.put_some h
    have := MP.keep p _ x m1 h k (fun hm => hk (by simp [MP.tch, hm]))
    rw [this, upd_other _ _ (fun e => hk (by simp [MP.tch, e]))]
  | .new j o p, m, x, m1, h, k, hk => by
    obtain ⟨_, h⟩ := MP.new_some h
    have := MP.keep p _ x m1 h k (fun hm => hk (by simp [MP.tch, hm]))
    rw [this, upd_other _ _ (fun e => hk (by simp [MP.tch, e]))]

/-- A step looks at what it touches alone. -/
theorem MP.frame {α : Type} : ∀ (p : MP α) (m m' : Mem) (x : α) (m1 : Mem), p.run m = some (x, m1) → (∀ k b, (k, b) ∈ p.tch m → m' k = m k) →
    p.tch m' = p.tch m ∧ ∃ m1', p.run m' = some (x, m1') ∧ (∀ k, (k, true) ∈ p.tch m → m1' k = m1 k) ∧ ∀ k, (k, true) ∉ p.tch m → m1' k = m' k
  | .ret a, m, m', x, m1, h, hk => by
    cases ret_some h
    exact ⟨rfl, m', rfl, fun k hm => by simp [MP.tch] at hm, fun _ _ => rfl⟩
  | .fail, m, m', x, m1, h, hk => by simp [MP.run] at h
  | .get j p, m, m', x, m1, h, hk => by
    obtain ⟨o, ho, h⟩ := MP.get_some h
    have e : m' j = some o := (hk j false (by simp [MP.tch])).trans ho
    obtain ⟨h1, m1', h2, h3, h4⟩ := MP.frame (p o) m m' x m1 h (fun k b hm => hk k b (by simp [MP.tch, ho, hm]))
    refine ⟨by simp only [MP.tch, ho, e, h1], m1', by simp only [MP.run, e, h2], fun k hm => h3 k (by simpa [MP.tch, ho] using hm), fun k hm => h4 k (fun hh => hm (by simp [MP.tch, ho, hh]))⟩
  | .put j o p, m, m', x, m1, h, hk => by
    obtain ⟨⟨o', ho⟩, h⟩ := MP.put_some h
    have e : m' j = some o' := (hk j true (by simp [MP.tch])).trans ho
    obtain ⟨h1, m1', h2, h3, h4⟩ := MP.frame p (upd m j (some o)) (upd m' j (some o)) x m1 h (fun k b hm => by
      by_cases hkj : k = j
      · subst hkj; simp only [upd_same]
      · simp only [upd_other _ _ hkj]; exact hk k b (by simp [MP.tch, hm]))
    refine ⟨by simp only [MP.tch, h1], m1', by simp only [MP.run, e, h2], fun k hm => ?_, fun k hm => ?_⟩
    · by_cases hin : (k, true) ∈ p.tch (upd m j (some o))
      · exact h3 k hin
      · have hkj : k = j := by simpa [MP.tch, hin] using hm
        rw [h4 k hin, MP.keep p _ x m1 h k hin, hkj, upd_same, upd_same]
    · have hkj : k ≠ j := fun e => hm (by simp [MP.tch, e])
      rw [h4 k (fun hh => hm (by simp [MP.tch, hh])), upd_other _ _ hkj]
  | .new j o p, m, m', x, m1, h, hk => by
    obtain ⟨ho, h⟩ := MP.new_some h
    have e : m' j = none := (hk j true (by simp [MP.tch])).trans ho
    obtain ⟨h1, m1', h2, h3, h4⟩ := MP.frame p (upd m j (some o)) (upd m' j (some o)) x m1 h (fun k b hm => by
      by_cases hkj : k = j
      · subst hkj; simp only [upd_same]
      · simp only [upd_other _ _ hkj]; exact hk k b (by simp [MP.tch, hm]))
    refine ⟨by simp only [MP.tch, h1], m1', by simp only [MP.run, e, h2], fun k hm => ?_, fun k hm => ?_⟩
    · by_cases hin : (k, true) ∈ p.tch (upd m j (some o))
      · exact h3 k hin
      · have hkj : k = j := by simpa [MP.tch, hin] using hm
        rw [h4 k hin, MP.keep p _ x m1 h k hin, hkj, upd_same, upd_same]
    · have hkj : k ≠ j := fun e => hm (by simp [MP.tch, e])
      rw [h4 k (fun hh => hm (by simp [MP.tch, hh])), upd_other _ _ hkj]

/-- Two operations that may come in either order do not meet. -/
def apart (a b : List (Key × Bool)) : Bool := a.all fun x => b.all fun y => x.1 != y.1 || (!x.2 && !y.2)

theorem apart_spec {a b : List (Key × Bool)} (h : apart a b = true) {k : Key} {x y : Bool} (h1 : (k, x) ∈ a) (h2 : (k, y) ∈ b) : x = false ∧ y = false := by
  have := List.all_eq_true.1 (List.all_eq_true.1 h _ h1) _ h2
  simpa using this

theorem swapM {α β : Type} {p : MP α} {q : MP β} {m m1 m2 : Mem} {x : α} {y : β} (h1 : p.run m = some (x, m1)) (h2 : q.run m1 = some (y, m2)) (ha : apart (p.tch m) (q.tch m1) = true) :
    ∃ m1', q.run m = some (y, m1') ∧ p.run m1' = some (x, m2) ∧ q.tch m = q.tch m1 ∧ p.tch m1' = p.tch m := by
  have n1 : ∀ k b, (k, b) ∈ q.tch m1 → (k, true) ∉ p.tch m := fun k b hb hh => by have := (apart_spec ha hh hb).1; cases this
  have n2 : ∀ k b, (k, b) ∈ p.tch m → (k, true) ∉ q.tch m1 := fun k b hb hh => by have := (apart_spec ha hb hh).2; cases this
  obtain ⟨e1, m1', r1, r2, r3⟩ := MP.frame q m1 m y m2 h2 (fun k b hb => (MP.keep p m x m1 h1 k (n1 k b hb)).symm)
  obtain ⟨e2, m2', s1, s2, s3⟩ := MP.frame p m m1' x m1 h1 (fun k b hb => r3 k (n2 k b hb))
  have : m2' = m2 := by
    funext k
    by_cases hp : (k, true) ∈ p.tch m
    · rw [s2 k hp, MP.keep q m1 y m2 h2 k (n2 k true hp)]
    · rw [s3 k hp]
      by_cases hq : (k, true) ∈ q.tch m1
      · rw [r2 k hq]
      · rw [r3 k hq, MP.keep q m1 y m2 h2 k hq, MP.keep p m x m1 h1 k hp]
  subst this
  exact ⟨m1', r1, s1, e1, e2⟩

section
variable {P : Program} {T : Tab} {G : Ghost} {ops : Array Oper}

theorem opX_congr {sl sl' : Slots} {x : Operand} (h : ∀ t, x = .tmp t → sl' t = sl t) : opX sl' x = opX sl x := by
  cases x with
  | tmp t => exact h t rfl
  | _ => rfl

theorem opM_congr {sl sl' : Slots} {o : Oper} (h : ∀ t, .tmp t ∈ o.op.operands → sl' t = sl t) : opM P T G sl' o = opM P T G sl o := by
  have hx : ∀ x ∈ o.op.operands, opX sl' x = opX sl x := fun x hx => opX_congr fun t e => h t (e ▸ hx)
  clear h
  obtain ⟨dst, op, type, pos, after, guard⟩ := o
  have pairs : ∀ ps : Array (Nat × Operand), (∀ x ∈ ps.map (·.2), opX sl' x = opX sl x) →
      (ps.toList.map fun p => (p.1, opX sl' p.2)) = (ps.toList.map fun p => (p.1, opX sl p.2)) := fun ps hp =>
    List.map_congr_left fun p hm => by
      obtain ⟨i, x⟩ := p
      simp only [hp x (Array.mem_map.2 ⟨(i, x), by simpa using hm, rfl⟩)]
  cases op <;> (try simp only [Op.operands] at hx) <;> unfold opM <;> (try dsimp only)
  case build t ps => rw [pairs ps fun x h => hx x (by simpa using h)]
  case buildSlice t n ps => rw [pairs ps fun x h => hx x (by simpa using h)]
  case makeFunc fn first captured =>
    have : captured.toList.map (opX sl') = captured.toList.map (opX sl) := List.map_congr_left fun x h => hx x (by simp [Array.mem_toList_iff.1 h])
    cases fn <;> first | rfl | (simp only [this])
  case call c =>
    have hargs : c.args.toList.map (opX sl') = c.args.toList.map (opX sl) := List.map_congr_left fun x h => hx x (by simp [Call.operands, Array.mem_toList_iff.1 h])
    cases hc : c.callee with
    | value f =>
      have hf : opX sl' f = opX sl f := hx f (by simp [Call.operands, hc])
      simp only [hf, hargs]
    | invoke r mm => rfl
    | builtin b =>
      cases b <;> simp only
      case len =>
        split
        · rename_i p t e1 e2
          have hp : opX sl' p = opX sl p := hx p (by have : p ∈ c.args := Array.mem_toList_iff.1 (by rw [e1]; simp); simp [Call.operands, this])
          rw [hp]
        · rfl
      case cap =>
        split
        · rename_i p t e1 e2
          have hp : opX sl' p = opX sl p := hx p (by have : p ∈ c.args := Array.mem_toList_iff.1 (by rw [e1]; simp); simp [Call.operands, this])
          rw [hp]
        · rfl
      case append =>
        split
        · rename_i p q t t' e1 e2
          have hp : opX sl' p = opX sl p := hx p (by have : p ∈ c.args := Array.mem_toList_iff.1 (by rw [e1]; simp); simp [Call.operands, this])
          have hq : opX sl' q = opX sl q := hx q (by have : q ∈ c.args := Array.mem_toList_iff.1 (by rw [e1]; simp); simp [Call.operands, this])
          rw [hp, hq]
        · rfl
  case slice t x lo hi mx => cases lo <;> cases hi <;> cases mx <;> simp_all
  all_goals (first | rfl | (simp_all; done))

end

end Go.Tm
end

section
/- A machine over trees: regions in any order. -/
open Go.RowKit
namespace Go.Tm

def MP.runT {α : Type} : MP α → Mem → Option (α × Mem × List (Key × Bool))
  | .ret a, m => some (a, m, [])
  | .fail, _ => none
  | .get k c, m => match m k with
    | some o => ((c o).runT m).map fun r => (r.1, r.2.1, (k, false) :: r.2.2)
    | none => none
  | .put k o c, m => match m k with
    | some _ => (c.runT (upd m k (some o))).map fun r => (r.1, r.2.1, (k, true) :: r.2.2)
    | none => none
  | .new k o c, m => match m k with
    | some _ => none
    | none => (c.runT (upd m k (some o))).map fun r => (r.1, r.2.1, (k, true) :: r.2.2)

theorem MP.runT_eq {α : Type} : ∀ (p : MP α) (m : Mem), p.runT m = (p.run m).map fun r => (r.1, r.2, p.tch m)
  | .ret a, m => rfl
  | .fail, m => rfl
  | .get k p, m => by
    simp only [MP.runT, MP.run, MP.tch]
    cases h : m k with
    | none => rfl
    | some o => simp only [MP.runT_eq (p o) m, Option.map_map]; rfl
  | .put k o p, m => by
    simp only [MP.runT, MP.run, MP.tch]
    cases h : m k with
    | none => rfl
    | some o' => simp only [MP.runT_eq p _, Option.map_map]; rfl
  | .new k o p, m => by
    simp only [MP.runT, MP.run, MP.tch]
    cases h : m k with
    | some o' => rfl
    | none => simp only [MP.runT_eq p _, Option.map_map]; rfl

section
variable (P : Program) (T : Tab) (G : Ghost) (ops : Array Oper)

def tchOp (i : Nat) (st : St) : List (Key × Bool) := match ops[i]? with
  | some o => match wantedX ops st.sl o with
    | some true => (opM P T G st.sl o).tch st.m
    | _ => []
  | none => []

def evM (sl : Slots) (o : Oper) : Option (MP X) := match wantedX ops sl o with
  | some true => some (opM P T G sl o)
  | some false => some (.ret (.t []))
  | none => none

/-- A region's operations, and what each touches. -/
def evOpsT : List Nat → St → Option (St × List (List (Key × Bool)))
  | [], st => some (st, [])
  | i :: l, st => match ops[i]? with
    | none => none
    | some o => match evM P T G ops st.sl o with
      | none => none
      | some p => match p.runT st.m with
        | none => none
        | some (x, m, t) => match evOpsT l ⟨putX st.sl o.dst x, m⟩ with
          | none => none
          | some (st', ts) => some (st', t :: ts)

def RunL (ts : Nat → List (Key × Bool)) : List Nat → St → St → Prop
  | [], st, st' => st = st'
  | i :: l, st, st' => ∃ st1, evOp P T G ops i st = some st1 ∧ tchOp P T G ops i st = ts i ∧ RunL ts l st1 st'
end

def slotApart (ops : Array Oper) (i j : Nat) : Bool := match ops[i]?, ops[j]? with
  | some x, some y => x.apart ops y
  | _, _ => true

section
variable {P : Program} {T : Tab} {G : Ghost} {ops : Array Oper}

theorem evOp_some {i : Nat} {st st' : St} (h : evOp P T G ops i st = some st') :
    ∃ o p x, ops[i]? = some o ∧ evM P T G ops st.sl o = some p ∧ p.run st.m = some (x, st'.m) ∧ st'.sl = putX st.sl o.dst x ∧ tchOp P T G ops i st = p.tch st.m := by
  unfold evOp at h
  unfold tchOp
  cases hi : ops[i]? with
  | none => simp [hi] at h
  | some o =>
    simp only [hi] at h ⊢
    cases hw : wantedX ops st.sl o with
    | none => simp [hw] at h
    | some b =>
      cases b with
      | false =>
        simp only [hw, Option.some.injEq] at h
        subst h
        exact ⟨o, .ret (.t []), .t [], rfl, by simp [evM, hw], rfl, rfl, rfl⟩
      | true =>
        simp only [hw] at h
        split at h
        · rename_i x m1 hr
          simp only [Option.some.injEq] at h
          subst h
          exact ⟨o, _, x, rfl, by simp only [evM, hw], hr, rfl, rfl⟩
        · cases h

theorem evOp_of {i : Nat} {st : St} {o : Oper} {p : MP X} {x : X} {m : Mem} (ho : ops[i]? = some o) (hp : evM P T G ops st.sl o = some p) (hr : p.run st.m = some (x, m)) :
    evOp P T G ops i st = some ⟨putX st.sl o.dst x, m⟩ ∧ tchOp P T G ops i st = p.tch st.m := by
  unfold evM at hp
  unfold evOp tchOp
  simp only [ho]
  split at hp
  · rename_i hw
    simp only [Option.some.injEq] at hp; subst hp
    simp only [hw, hr, and_self]
  · rename_i hw
    simp only [Option.some.injEq] at hp; subst hp
    simp only [hw]
    cases ret_some hr
    exact ⟨rfl, rfl⟩
  · cases hp

theorem evM_put {sl : Slots} {o : Oper} {dst : Option Tmp} {x : X} (h : ∀ d, dst = some d → d ∉ o.looksAt ops) : evM P T G ops (putX sl dst x) o = evM P T G ops sl o := by
  have hne : ∀ t, t ∈ o.looksAt ops → putX sl dst x t = sl t := by
    intro t ht
    cases dst with
    | none => rfl
    | some d => exact upd_other _ _ (fun e => h d rfl (e ▸ ht))
  have h1 : opM P T G (putX sl dst x) o = opM P T G sl o := opM_congr fun t ht => hne t (List.mem_append_left _ (List.mem_filterMap.2 ⟨.tmp t, by simpa using ht, rfl⟩))
  have h2 : wantedX ops (putX sl dst x) o = wantedX ops sl o := by
    unfold wantedX
    cases hg : o.guard with
    | none => rfl
    | some gw =>
      obtain ⟨j, want⟩ := gw
      simp only
      cases hd : (ops[j]?).bind (·.dst) with
      | none => rfl
      | some d => simp only [hne d (by simp [Oper.looksAt, hg, hd])]
  simp only [evM, h1, h2]

theorem swapOp {i j : Nat} {st st1 st2 : St} (h1 : evOp P T G ops i st = some st1) (h2 : evOp P T G ops j st1 = some st2) (hs : slotApart ops i j = true)
    (ha : apart (tchOp P T G ops i st) (tchOp P T G ops j st1) = true) :
    ∃ st1', evOp P T G ops j st = some st1' ∧ evOp P T G ops i st1' = some st2 ∧ tchOp P T G ops j st = tchOp P T G ops j st1 ∧ tchOp P T G ops i st1' = tchOp P T G ops i st := by
  obtain ⟨oi, p, x, hoi, hp, hr, hsl, ht⟩ := evOp_some h1
  obtain ⟨oj, q, y, hoj, hq, hr', hsl', ht'⟩ := evOp_some h2
  unfold slotApart at hs
  simp only [hoi, hoj] at hs
  obtain ⟨a1, a2, a3⟩ := Oper.apart_spec hs
  rw [ht, ht'] at ha
  obtain ⟨m1', r1, r2, e1, e2⟩ := swapM hr hr' ha
  rw [hsl, evM_put a1] at hq
  obtain ⟨b1, b2⟩ := evOp_of hoj hq r1
  refine ⟨_, b1, ?_⟩
  have hp' : evM P T G ops (putX st.sl oj.dst y) oi = some p := by rw [evM_put a3]; exact hp
  obtain ⟨c1, c2⟩ := evOp_of (st := ⟨putX st.sl oj.dst y, m1'⟩) hoi hp' r2
  refine ⟨c1.trans ?_, b2.trans (e1.trans ht'.symm), c2.trans (e2.trans ht.symm)⟩
  congr 1
  cases st2 with
  | mk sl2 m2 =>
    simp only at hsl'
    subst hsl'
    rw [hsl]
    congr 1
    funext t
    cases hdi : oi.dst with
    | none => rfl
    | some d =>
      cases hdj : oj.dst with
      | none => rfl
      | some e =>
        have hne : d ≠ e := fun he => a2 d hdi (by rw [hdj, he])
        simp only [putX, upd]
        by_cases h1 : t = d
        · subst h1; simp [hne]
        · by_cases h2 : t = e
          · subst h2; simp [h1]
          · simp [h1, h2]

def Pair (P : Program) (ops : Array Oper) (ts : Nat → List (Key × Bool)) (i j : Nat) : Prop := slotApart ops i j = true ∧ apart (ts i) (ts j) = true

theorem bring {ts : Nat → List (Key × Bool)} {i : Nat} {st' : St} : ∀ (l : List Nat) (st : St), RunL P T G ops ts l st st' → i ∈ l → l.Pairwise (· < ·) → (∀ j ∈ l, j < i → Pair P ops ts j i) → RunL P T G ops ts (i :: l.filter (· != i)) st st'
  | [], st, h, hi, _, _ => by simp at hi
  | j :: l, st, ⟨st1, h1, h2, h3⟩, hi, hl, hp => by
    obtain ⟨hl1, hl2⟩ := List.pairwise_cons.1 hl
    by_cases hji : j = i
    · subst hji
      have : (j :: l).filter (· != j) = l := by
        rw [List.filter_cons_of_neg (by simp)]
        exact List.filter_eq_self.2 fun k hk => by have := hl1 k hk; simp; omega
      rw [this]
      exact ⟨st1, h1, h2, h3⟩
    · have hil : i ∈ l := by rcases List.mem_cons.1 hi with e | e; exact absurd e.symm hji; exact e
      obtain ⟨st2, g1, g2, g3⟩ := bring l st1 h3 hil hl2 (fun k hk => hp k (by simp [hk]))
      obtain ⟨p1, p2⟩ := hp j (by simp) (hl1 i hil)
      obtain ⟨st1', s1, s2, s3, s4⟩ := swapOp h1 g1 p1 (by rw [h2, g2]; exact p2)
      rw [List.filter_cons_of_pos (by simpa using hji)]
      exact ⟨st1', s1, s3.trans g2, st2, s2, s4.trans h2, g3⟩

theorem RunL_of : ∀ (n a : Nat) (st st' : St) (tl : List (List (Key × Bool))) (ts : Nat → List (Key × Bool)), evOpsT P T G ops (List.range' a n) st = some (st', tl) → (∀ p, p < n → ts (a + p) = tl.getD p []) →
    RunL P T G ops ts (List.range' a n) st st'
  | 0, a, st, st', tl, ts, h, _ => by
    simp only [List.range'_zero, evOpsT, Option.some.injEq, Prod.mk.injEq] at h
    exact h.1
  | n + 1, a, st, st', tl, ts, h, hts => by
    rw [List.range'_succ] at h ⊢
    simp only [evOpsT] at h
    split at h
    · cases h
    · rename_i o ho
      split at h
      · cases h
      · rename_i p hp
        rw [MP.runT_eq] at h
        cases hr : p.run st.m with
        | none => simp [hr] at h
        | some r =>
          obtain ⟨x, m1⟩ := r
          simp only [hr, Option.map_some] at h
          split at h
          · cases h
          · rename_i st2 tl2 h2
            simp only [Option.some.injEq, Prod.mk.injEq] at h
            obtain ⟨e1, e2⟩ := h
            subst e1; subst e2
            obtain ⟨b1, b2⟩ := evOp_of ho hp hr
            refine ⟨_, b1, b2.trans ?_, RunL_of n (a + 1) _ _ tl2 ts h2 fun p hp => ?_⟩
            · have := hts 0 (by omega); simpa using this.symm
            · have := hts (p + 1) (by omega)
              rw [show a + 1 + p = a + (p + 1) by omega, this]; simp

end

/-! ### What is ordered -/

/-- Edges point backward; a mask bit is an edge, or a bit behind an edge. -/
def closedOk (ops : Array Oper) (b : Array Nat) : Bool := (List.range ops.size).all fun i => match ops[i]? with
  | none => true
  | some o => (o.after.all fun e => !Region.binds .any e || decide (e.on < i)) &&
      (List.range ops.size).all fun j => !(b.getD i 0).testBit j || o.after.any fun e => Region.binds .any e && (e.on == j || (b.getD e.on 0).testBit j)

/-- Operations that touch no own memory. -/
def quiet (o : Op) : Bool := match o with
  | .move _ | .assign _ | .pick _ _ _ | .build _ _ | .nilCheck _ | .binOp _ _ _ _ _ | .unOp _ _ _ | .convert _ _ _ | .makeFunc _ _ _ | .field _ _ _ | .index _ _ _ | .extract _ _ => true
  | _ => false

def quietAt (ops : Array Oper) (i : Nat) : Bool := match ops[i]? with
  | some o => quiet o.op
  | none => true

def sok (ops : Array Oper) : Bool :=
  let b := Region.before ops
  closedOk ops b && (List.range ops.size).all fun j => (List.range j).all fun i => (b.getD j 0).testBit i || slotApart ops i j

def un (ops : Array Oper) : List (Nat × Nat) :=
  let b := Region.before ops
  (List.range ops.size).flatMap fun j => (List.range j).filterMap fun i => if (b.getD j 0).testBit i || quietAt ops i || quietAt ops j then none else some (i, j)

section
variable {P : Program} {T : Tab} {G : Ghost} {ops : Array Oper}

theorem tch_retV (v : Option Value) (m : Mem) : (retV v).tch m = [] := by
  unfold retV
  split
  · split <;> rfl
  · rfl

theorem tch_quiet {sl : Slots} {o : Oper} (h : quiet o.op = true) (m : Mem) : (opM P T G sl o).tch m = [] := by
  unfold opM
  cases hop : o.op <;> simp only [quiet, hop, Bool.false_eq_true] at h
  case makeFunc fn f cs => cases fn <;> dsimp only <;> repeat' (first | rfl | split)
  all_goals (try dsimp only)
  all_goals (repeat' (first | rfl | exact tch_retV _ _ | split))

theorem tchOp_quiet {i : Nat} {st : St} (h : quietAt ops i = true) : tchOp P T G ops i st = [] := by
  unfold tchOp
  unfold quietAt at h
  cases hi : ops[i]? with
  | none => rfl
  | some o =>
    simp only [hi] at h ⊢
    split
    · exact tch_quiet h _
    · rfl

def Down (ops : Array Oper) (listed : Array Bool) : Prop := ∀ i o, listed.getD i false = true → ops[i]? = some o → ∀ e ∈ o.after, Region.binds .any e = true → listed.getD e.on false = true

theorem closed_listed {b : Array Nat} {listed : Array Bool} (hc : closedOk ops b = true) (hd : Down ops listed) : ∀ (n i : Nat) (o : Oper), i < n → ops[i]? = some o →
    (∀ e ∈ o.after, Region.binds .any e = true → listed.getD e.on false = true) → ∀ j, j < ops.size → (b.getD i 0).testBit j = true → listed.getD j false = true
  | 0, i, o, hi, _, _, _, _, _ => by omega
  | n + 1, i, o, hi, ho, hall, j, hj, hb => by
    have hlt : i < ops.size := (Array.getElem?_eq_some_iff.1 ho).1
    have h := List.all_eq_true.1 hc i (List.mem_range.2 hlt)
    simp only [ho, Bool.and_eq_true] at h
    have h2 := List.all_eq_true.1 h.2 j (List.mem_range.2 hj)
    simp only [hb, Bool.not_true, Bool.false_or] at h2
    rw [← Array.any_toList] at h2
    obtain ⟨e, he, h3⟩ := List.any_eq_true.1 h2
    have he := Array.mem_toList_iff.1 he
    simp only [Bool.and_eq_true, Bool.or_eq_true, beq_iff_eq] at h3
    have hl := hall e he h3.1
    rcases h3.2 with h4 | h4
    · rw [← h4]; exact hl
    · have h5 := Array.all_eq_true_iff_forall_mem.1 h.1 e he
      simp only [h3.1, Bool.not_true, Bool.false_or, decide_eq_true_eq] at h5
      obtain ⟨oe, hoe⟩ : ∃ oe, ops[e.on]? = some oe := ⟨_, Array.getElem?_eq_getElem (by omega)⟩
      exact closed_listed hc hd n e.on oe (by omega) hoe (fun e' he' hb' => hd e.on oe hl hoe e' he' hb') j hj h4

def rem (ops : Array Oper) (listed : Array Bool) : List Nat := (List.range ops.size).filter fun i => !listed.getD i true

theorem mem_rem {listed : Array Bool} {i : Nat} : i ∈ rem ops listed ↔ i < ops.size ∧ listed.getD i true = false := by
  unfold rem; simp [List.mem_filter]

theorem rem_sorted (listed : Array Bool) : (rem ops listed).Pairwise (· < ·) := List.Pairwise.filter _ List.pairwise_lt_range

theorem rem_set {listed : Array Bool} {i : Nat} (hs : listed.size = ops.size) (hi : i < ops.size) : rem ops (listed.setIfInBounds i true) = (rem ops listed).filter (· != i) := by
  unfold rem
  rw [List.filter_filter]
  refine List.filter_congr fun j _ => ?_
  by_cases hij : i = j
  · subst hij
    simp [hs, hi]
  · rw [getD_set_ne true hij]
    have : (j != i) = true := by simp; omega
    simp [this]

variable {c : Cx} {Q : Exit → Act → World → Prop}

theorem any_sound (hT : TabOk P T) {ts : Nat → List (Key × Bool)} (hs : sok ops = true) (hp : ∀ i j, i < j → j < ops.size → ((Region.before ops).getD j 0).testBit i = false → Pair P ops ts i j) : ∀ (fuel : Nat) (listed : Array Bool) (st st' : St) (g : Gh) (a : Act) (w : World),
    listed.size = ops.size → Down ops listed → (rem ops listed).length ≤ fuel → RunL P T G ops ts (rem ops listed) st st' → Sim c g st.m w → Held c g st.m w st.sl a → dstOk a.tmps.size ops = true →
    (∀ a' w' g', Sim c g' st'.m w' → Held c g' st'.m w' st'.sl a' → Compat c g st.m w g' st'.m w' → a'.defers = a.defers → a'.tmps.size = a.tmps.size → Q .normal a' w') → wpAny P .any ops Q fuel listed a w := by
  have hcl : closedOk ops (Region.before ops) = true := by
    unfold sok at hs; simp only [Bool.and_eq_true] at hs; exact hs.1
  intro fuel
  induction fuel with
  | zero =>
    intro listed st st' g a w hsz hd hlen hr hS hsl hdst hQ
    have he : rem ops listed = [] := List.length_eq_zero_iff.1 (by omega)
    rw [he] at hr
    cases hr
    refine ⟨List.eq_nil_iff_forall_not_mem.2 fun i hi => ?_, hQ a w g hS hsl (.refl _ _ _ _) rfl rfl⟩
    obtain ⟨h1, o, h2, _⟩ := mem_ready.1 hi
    have : i ∈ rem ops listed := mem_rem.2 ⟨(Array.getElem?_eq_some_iff.1 h2).1, h1⟩
    rw [he] at this; simp at this
  | succ fuel ih =>
    intro listed st st' g a w hsz hd hlen hr hS hsl hdst hQ
    refine ⟨fun hnil => ?_, fun i hi => ?_⟩
    · cases he : rem ops listed with
      | nil =>
        rw [he] at hr
        cases hr
        exact hQ a w g hS hsl (.refl _ _ _ _) rfl rfl
      | cons i l =>
        exfalso
        have hi : i ∈ rem ops listed := by rw [he]; simp
        obtain ⟨hlt, hli⟩ := mem_rem.1 hi
        have hsorted := rem_sorted (ops := ops) listed
        rw [he] at hsorted
        have hmin := (List.pairwise_cons.1 hsorted).1
        obtain ⟨o, ho⟩ : ∃ o, ops[i]? = some o := ⟨_, Array.getElem?_eq_getElem hlt⟩
        have : i ∈ Region.ready .any ops listed := mem_ready.2 ⟨hli, o, ho, fun e hem hb => by
          have h := List.all_eq_true.1 hcl i (List.mem_range.2 hlt)
          simp only [ho, Bool.and_eq_true] at h
          have h5 := Array.all_eq_true_iff_forall_mem.1 h.1 e hem
          simp only [hb, Bool.not_true, Bool.false_or, decide_eq_true_eq] at h5
          have hne : e.on ∉ rem ops listed := by
            rw [he]; intro hm
            rcases List.mem_cons.1 hm with e' | e'
            · omega
            · have := hmin _ e'; omega
          have hlt' : e.on < listed.size := by omega
          have : ¬ listed.getD e.on true = false := fun hf => hne (mem_rem.2 ⟨by omega, hf⟩)
          simp only [Array.getD_eq_getD_getElem?, Array.getElem?_eq_getElem hlt', Option.getD_some] at this ⊢
          simpa using this⟩
        rw [hnil] at this; simp at this
    · obtain ⟨h1, o, h2, h3⟩ := mem_ready.1 hi
      have hlt : i < ops.size := (Array.getElem?_eq_some_iff.1 h2).1
      have hir : i ∈ rem ops listed := mem_rem.2 ⟨hlt, h1⟩
      have hb := bring (rem ops listed) st hr hir (rem_sorted listed) (fun j hj hji => by
        obtain ⟨hj1, hj2⟩ := mem_rem.1 hj
        refine hp j i hji hlt ?_
        cases hbit : ((Region.before ops).getD i 0).testBit j with
        | false => rfl
        | true =>
          have := closed_listed hcl hd (i + 1) i o (by omega) h2 h3 j hj1 hbit
          have hjl : j < listed.size := by omega
          simp only [Array.getD_eq_getD_getElem?, Array.getElem?_eq_getElem hjl, Option.getD_some] at this hj2
          rw [this] at hj2; cases hj2)
      obtain ⟨st1, g1, g2, g3⟩ := hb
      refine evOp_sound hT hS hsl hdst g1 fun a' w' g' hS' hsl' hC1 e1 e2 => ?_
      have hset := rem_set (ops := ops) (listed := listed) hsz hlt
      refine ih (listed.setIfInBounds i true) st1 st' g' a' w' (by simp [hsz]) ?_ ?_ (by rw [hset]; exact g3) hS' hsl' (by rw [e2]; exact hdst)
        (fun a'' w'' g'' q1 q2 hC2 q3 q4 => hQ a'' w'' g'' q1 q2 (hC1.trans hC2) (q3.trans e1) (q4.trans e2))
      · intro k ok hk hok e he hbd
        by_cases hik : i = k
        · subst hik
          rw [h2] at hok; cases hok
          exact getD_set_true (h3 e he hbd)
        · rw [getD_set_ne false hik] at hk
          exact getD_set_true (hd k ok hk hok e he hbd)
      · rw [hset]
        have : ((rem ops listed).filter (· != i)).length < (rem ops listed).length := by
          refine List.length_filter_lt_length_iff_exists.2 ⟨i, hir, by simp⟩
        omega

end

end Go.Tm
end

section
/- A machine over trees: code and functions. -/
open Go.RowKit
namespace Go.Tm

def evRegion (P : Program) (T : Tab) (G : Ghost) (id : Nat) (ops : Array Oper) (draw : Bool) (st : St) : Option St :=
  if draw then
    match evOpsT P T G ops (List.range' 0 ops.size) st with
    | none => none
    | some (st1, ts) => if sok ops && (un ops).all fun p => apart (ts.getD p.1 []) (ts.getD p.2 []) then some st1 else none
  else evOps P T G ops (List.range' 0 ops.size) st

def resX (P : Program) (st : St) : List ResultVar → MP (List X)
  | [] => .ret []
  | .tmp t :: rs => (resX P st rs).bind fun xs => .ret (st.sl t :: xs)
  | .cell a t :: rs => (loadM P t (st.sl a)).bind fun x => (resX P st rs).bind fun xs => .ret (x :: xs)

def res1 (xs : List X) : X := match xs with
  | [x] => x
  | _ => .t xs

def argSl (args : List X) : Slots := fun t => args.getD t .u

/-- What a function's end comes to. -/
def evRes (P : Program) (fn : Func) (st : St) : Option D :=
  (((resX P st fn.results.toList).bind fun xs => pur 40 (res1 xs)).run st.m).map (·.1)

/-- Every destination is a slot of the frame. -/
def codeOk (n : Nat) : Code → Bool
  | .region _ ops _ => dstOk n ops
  | .seq a b => codeOk n a && codeOk n b
  | .cond _ a b => codeOk n a && codeOk n b
  | .block _ a => codeOk n a
  | .loop a => codeOk n a
  | _ => true

section
variable {P : Program} {T : Tab} {G : Ghost} {c : Cx} {g : Gh} {m m' : Mem} {w w' : World} {a : Act} {sl : Slots} {o : Oper} {x : X} {ops : Array Oper} {Q : Exit → Act → World → Prop}

theorem tl_quiet : ∀ (n a : Nat) (st st' : St) (tl : List (List (Key × Bool))), evOpsT P T G ops (List.range' a n) st = some (st', tl) → ∀ p, p < n → quietAt ops (a + p) = true → tl.getD p [] = []
  | 0, a, st, st', tl, h, p, hp, _ => by omega
  | n + 1, a, st, st', tl, h, p, hp, hq => by
    rw [List.range'_succ] at h
    simp only [evOpsT] at h
    split at h
    · cases h
    · rename_i o ho
      split at h
      · cases h
      · rename_i q hq'
        rw [MP.runT_eq] at h
        cases hr : q.run st.m with
        | none => simp [hr] at h
        | some r =>
          obtain ⟨x, m1⟩ := r
          simp only [hr, Option.map_some] at h
          split at h
          · cases h
          · rename_i st2 tl2 h2
            simp only [Option.some.injEq, Prod.mk.injEq] at h
            obtain ⟨e1, e2⟩ := h
            subst e1; subst e2
            cases p with
            | zero =>
              have := (evOp_of ho hq' hr).2
              rw [tchOp_quiet (by simpa using hq)] at this
              simpa using this.symm
            | succ p =>
              have := tl_quiet n (a + 1) _ _ tl2 h2 p (by omega) (by rw [show a + 1 + p = a + (p + 1) by omega]; exact hq)
              simpa using this

theorem Sim.drawn (hS : Sim c g m w) (n : Nat) : Sim c g m { w with drawn := n } :=
  hS.below (w' := { w with drawn := n }) ⟨rfl, rfl, rfl, Nat.le_refl _, fun _ _ => rfl⟩

theorem Held.drawn (hS : Sim c g m w) (hsl : Held c g m w sl a) (n : Nat) : Held c g m { w with drawn := n } sl a :=
  fun t => VX_mono (Compat.below hS (w' := { w with drawn := n }) ⟨rfl, rfl, rfl, Nat.le_refl _, fun _ _ => rfl⟩) _ _ (hsl t)

theorem region_sound (hT : TabOk P T) (hm : P.follows .mixedOrders = true) {id : Nat} {draw : Bool} {st st' : St} {g0 : Gh} {m0 : Mem} {w0 : World} (hC0 : Compat c g0 m0 w0 g st.m w) (hS : Sim c g st.m w) (hsl : Held c g st.m w st.sl a) (hd : dstOk a.tmps.size ops = true) (h : evRegion P T G id ops draw st = some st')
    (hQ : ∀ a' w' g', Sim c g' st'.m w' → Held c g' st'.m w' st'.sl a' → Compat c g0 m0 w0 g' st'.m w' → a'.defers = a.defers → a'.tmps.size = a.tmps.size → Q .normal a' w') : (Code.region id ops draw).wp P Q a w := by
  unfold evRegion at h
  cases draw with
  | false =>
    simp only [Bool.false_eq_true, if_false] at h
    refine wp_region ?_
    rw [List.range_eq_range']
    exact evOps_sound hT _ _ _ _ _ _ hS hsl hd h fun a' w' g' h1 h2 hC1 h3 h4 => hQ a' w' g' h1 h2 (hC0.trans hC1) h3 h4
  | true =>
    simp only [if_true] at h
    split at h
    · cases h
    · rename_i st1 tl htl
      split at h
      · rename_i hcond
        simp only [Option.some.injEq] at h; subst h
        simp only [Bool.and_eq_true] at hcond
        obtain ⟨hsok, hun⟩ := hcond
        refine wp_region_any hm ?_
        have hr := RunL_of ops.size 0 st st1 tl (fun i => tl.getD i []) htl (fun p _ => by simp)
        have hq := tl_quiet ops.size 0 st st1 tl htl
        have hrem : rem ops (Array.replicate ops.size false) = List.range' 0 ops.size := by
          unfold rem
          rw [← List.range_eq_range']
          exact List.filter_eq_self.2 fun i hi => by simp [List.mem_range.1 hi]
        refine any_sound (T := T) (G := G) (ts := fun i => tl.getD i []) hT hsok (fun i j hij hj hb => ?_) ops.size _ st st1 g a _ (by simp) (fun i o hi => ?_) (by rw [hrem]; simp) (by rw [hrem]; exact hr) (hS.drawn _) (Held.drawn hS hsl _) hd (fun a' w' g' h1 h2 hC1 h3 h4 => hQ a' w' g' h1 h2 ((hC0.trans (Compat.below hS (w' := { w with drawn := w.drawn + 1 }) ⟨rfl, rfl, rfl, Nat.le_refl _, fun _ _ => rfl⟩)).trans hC1) h3 h4)
        · have h1 : slotApart ops i j = true := by
            unfold sok at hsok
            simp only [Bool.and_eq_true] at hsok
            have := List.all_eq_true.1 (List.all_eq_true.1 hsok.2 j (List.mem_range.2 hj)) i (List.mem_range.2 hij)
            simpa only [hb, Bool.false_or] using this
          refine ⟨h1, ?_⟩
          by_cases hqi : quietAt ops i = true
          · have := hq i (by omega) (by simpa using hqi)
            simp only [this]; rfl
          · by_cases hqj : quietAt ops j = true
            · have := hq j hj (by simpa using hqj)
              simp only [this]
              exact List.all_eq_true.2 fun _ _ => rfl
            · refine List.all_eq_true.1 hun (i, j) ?_
              unfold un
              refine List.mem_flatMap.2 ⟨j, List.mem_range.2 hj, List.mem_filterMap.2 ⟨i, List.mem_range.2 hij, ?_⟩⟩
              simp only [Bool.not_eq_true] at hqi hqj
              simp only [hb, hqi, hqj, Bool.or_false, Bool.false_eq_true, if_false]
        · exfalso
          have : (Array.replicate ops.size false).getD i false = false := by
            simp only [Array.getD_eq_getD_getElem?, Array.getElem?_replicate]; split <;> rfl
          rw [this] at hi; cases hi
      · cases h

theorem loadVar_of {t : TypeId} {v u : Value} (h : (Instr.loadAt t v).run P w = .ok u w) : (do loadVar t (← asAddr v)).run P w = .ok u w := by
  unfold Instr.loadAt Instr.sureAddr at h
  split at h
  · simpa [asAddr] using h
  · simp [stuck] at h

def resOf (vs : List Value) : Value := match vs with
  | [v] => v
  | _ => .tuple vs.toArray

def resV (tmps : Array Value) : ResultVar → Sem Value
  | .tmp t => pure (tmps.getD t undef)
  | .cell a t => do loadVar t (← asAddr (tmps.getD a undef))

theorem resX_sound {st : St} (hS : Sim c g st.m w) (hsl : Held c g st.m w st.sl a) : ∀ (rs : List ResultVar) (xs : List X) (m' : Mem), (resX P st rs).run st.m = some (xs, m') →
    m' = st.m ∧ ∃ vs : List Value, (rs.mapM (resV a.tmps)).run P w = .ok vs w ∧ VXs c g st.m w xs vs
  | [], xs, m', h => by
    cases ret_some h
    exact ⟨rfl, [], by simp, rfl⟩
  | .tmp t :: rs, xs, m', h => by
    obtain ⟨ys, m1, h1, h2⟩ := MP.bind_some h
    obtain ⟨rfl, vs, h3, h4⟩ := resX_sound hS hsl rs ys m1 h1
    cases ret_some h2
    exact ⟨rfl, _ :: vs, by simp [List.mapM_cons, h3, resV], _, vs, rfl, hsl t, h4⟩
  | .cell ad t :: rs, xs, m', h => by
    obtain ⟨x, m0, h0, h⟩ := MP.bind_some h
    obtain ⟨rfl, u, hu, hx⟩ := loadM_sound hS (hsl ad) h0
    obtain ⟨ys, m1, h1, h2⟩ := MP.bind_some h
    obtain ⟨rfl, vs, h3, h4⟩ := resX_sound hS hsl rs ys m1 h1
    cases ret_some h2
    have := loadVar_of hu
    refine ⟨rfl, u :: vs, ?_, u, vs, rfl, hx, h4⟩
    rw [List.mapM_cons]
    rw [Sem.run_bind, show (resV a.tmps (.cell ad t)).run P w = .ok u w from this]
    simp only [Sem.run_bind, Result.andThen_ok, h3, Sem.run_pure]

theorem evRes_sound {fn : Func} {st : St} {r : D} (hS : Sim c g st.m w) (hsl : Held c g st.m w st.sl a) (h : evRes P fn st = some r) :
    ∃ v fp, (results fn a.tmps).run P w = .ok v w ∧ Rd w r v fp ∧ inFp c fp := by
  unfold evRes at h
  cases hr : ((resX P st fn.results.toList).bind fun xs => pur 40 (res1 xs)).run st.m with
  | none => simp [hr] at h
  | some r1 =>
    obtain ⟨r', m2⟩ := r1
    simp only [hr, Option.map_some, Option.some.injEq] at h
    subst h
    obtain ⟨xs, m1, h1, h2⟩ := MP.bind_some hr
    obtain ⟨rfl, vs, h3, h4⟩ := resX_sound (P := P) hS hsl _ xs m1 h1
    have hv : VX c g st.m w (res1 xs) (resOf vs) := by
      have hl := VXs_length _ _ h4
      match xs, vs, hl, h4 with
      | [], [], _, h4 => exact ⟨[], rfl, h4⟩
      | [x], [v], _, ⟨v', vs', e, h5, _⟩ => cases e; exact h5
      | x :: y :: l, u :: v :: l', _, h4 => exact ⟨_, rfl, h4⟩
    obtain ⟨_, fp, h5, h6⟩ := pur_sound 40 _ _ _ _ _ hS hv h2
    refine ⟨_, fp, ?_, h5, h6⟩
    have hres : results fn a.tmps = (fn.results.mapM (resV a.tmps) >>= fun vs => pure (if h : vs.size = 1 then vs[0] else .tuple vs)) := by
      unfold results
      congr 2
    rw [hres]
    rw [Sem.run_bind, Array.mapM_eq_mapM_toList, Sem.run_map, h3]
    match vs with
    | [] => rfl
    | [v] => rfl
    | u :: v :: l => simp [resOf]

end

section
variable {P : Program} {T : Tab} {G : Ghost}

theorem RdTs_get {w : World} : ∀ (ds : List D) (vs : List Value) (fp : List Nat) (t : Nat) (d : D), RdTs w ds vs fp → ds[t]? = some d → ∃ v f, vs[t]? = some v ∧ Rd w d v f ∧ ∀ b ∈ f, b ∈ fp
  | [], _, _, t, d, _, h => by simp at h
  | e :: ds, vs, fp, t, d, ⟨v, vs', f1, f2, ev, hf, h1, h2⟩, h => by
    subst ev; subst hf
    cases t with
    | zero => simp at h; subst h; exact ⟨v, f1, by simp, h1, fun b hb => by simp [hb]⟩
    | succ t =>
      obtain ⟨v', f, a1, a2, a3⟩ := RdTs_get ds vs' f2 t d h2 (by simpa using h)
      exact ⟨v', f, by simpa using a1, a2, fun b hb => by simp [a3 b hb]⟩

theorem RdTs_len {w : World} : ∀ (ds : List D) (vs : List Value) (fp : List Nat), RdTs w ds vs fp → vs.length = ds.length
  | [], vs, _, h => by rw [h.1]; rfl
  | e :: ds, vs, fp, ⟨v, vs', f1, f2, ev, hf, h1, h2⟩ => by subst ev; simp [RdTs_len ds vs' f2 h2]

theorem RdTs_lt' {w : World} : ∀ (ds : List D) (vs : List Value) (fp : List Nat), RdTs w ds vs fp → ∀ b ∈ fp, b < w.heap.size := fun ds vs fp h => RdTs_lt ds vs fp h

theorem dstOk_mono {k n : Nat} (h : k ≤ n) {ops : Array Oper} (hd : dstOk k ops = true) : dstOk n ops = true := by
  unfold dstOk at *
  rw [Array.all_eq_true_iff_forall_mem] at *
  intro o ho
  have := hd o ho
  cases hod : o.dst with
  | none => rfl
  | some d =>
    simp only [hod, decide_eq_true_eq] at this ⊢
    exact Nat.lt_of_lt_of_le this h

theorem codeOk_mono {k n : Nat} (h : k ≤ n) : ∀ C : Code, codeOk k C = true → codeOk n C = true := by
  intro C
  induction C with
  | region id ops draw => intro hc; exact dstOk_mono h hc
  | seq x y ihx ihy => intro hc; simp only [codeOk, Bool.and_eq_true] at hc ⊢; exact ⟨ihx hc.1, ihy hc.2⟩
  | cond b x y ihx ihy => intro hc; simp only [codeOk, Bool.and_eq_true] at hc ⊢; exact ⟨ihx hc.1, ihy hc.2⟩
  | block id x ih => intro hc; exact ih hc
  | loop x ih => intro hc; exact ih hc
  | _ => intro _; rfl

theorem VXs_at {c : Cx} {g : Gh} {m : Mem} {w : World} : ∀ (xs : List X) (vs : List Value) (t : Nat) (x : X), VXs c g m w xs vs → xs[t]? = some x → ∃ v, vs[t]? = some v ∧ VX c g m w x v
  | [], _, t, x, _, h => by simp at h
  | y :: xs, vs, t, x, ⟨v, vs', e, h1, h2⟩, h => by
    subst e
    cases t with
    | zero => simp at h; subst h; exact ⟨v, by simp, h1⟩
    | succ t =>
      obtain ⟨v', a1, a2⟩ := VXs_at xs vs' t x h2 (by simpa using h)
      exact ⟨v', by simpa using a1, a2⟩

end

end Go.Tm
end

section
/- Symbolic execution of the machine over trees: expressions, states, residual programs. -/
namespace Go.Tm

/-- What an atom stands for. -/
inductive V where
  | i (n : Int) | b (t : Bool) | d (x : D) | l (es : List D)
  deriving Inhabited

def V.int : V → Int | .i n => n | _ => 0
def V.bool : V → Bool | .b t => t | _ => false
def V.dat : V → D | .d x => x | _ => .v .nilFunc
def V.lst : V → List D | .l es => es | _ => []

inductive BO where | add | sub | mul | quo | rem | and | or | xor | andNot
  deriving DecidableEq, Repr
inductive CO where | lt | le | eq
  deriving DecidableEq, Repr

/-- Expressions: numbers, booleans, data, lists of data. -/
inductive E where
  | v (n : Nat)
  | da (n : Nat)
  | z (n : Int) | tt | ff
  | bin (o : BO) (k : IntKind) (x y : E)
  | cmp (o : CO) (x y : E)
  | not (x : E)
  | beq (x y : E)
  | len (l : E)
  | cv (k : IntKind) (x : E)
  | vi (k : IntKind) (x : E) | vb (x : E) | vc (x : Value)
  | s (l : E) | g (l : E) | q (l : E) | fn (f : FuncId) (l : E)
  | nil | cons (x l : E) | app (x y : E) | rep (n x : E) | set (l i x : E) | take (l n : E)

def bitsI (o : BinOp) (k : IntKind) (x y : Int) : Int := match o with
  | .and => k.wrap (BitVec.ofInt k.bits x &&& BitVec.ofInt k.bits y).toNat
  | .or => k.wrap (BitVec.ofInt k.bits x ||| BitVec.ofInt k.bits y).toNat
  | .xor => k.wrap (BitVec.ofInt k.bits x ^^^ BitVec.ofInt k.bits y).toNat
  | _ => k.wrap (BitVec.ofInt k.bits x &&& ~~~BitVec.ofInt k.bits y).toNat

def BO.sem (o : BO) (k : IntKind) (x y : Int) : Int := match o with
  | .add => k.wrap (x + y) | .sub => k.wrap (x - y) | .mul => k.wrap (x * y)
  | .quo => k.wrap (x.tdiv y) | .rem => x.tmod y
  | .and => bitsI .and k x y | .or => bitsI .or k x y | .xor => bitsI .xor k x y | .andNot => bitsI .andNot k x y

def CO.sem (o : CO) (x y : Int) : Bool := match o with
  | .lt => decide (x < y) | .le => decide (x ≤ y) | .eq => decide (x = y)

abbrev Env := Nat → V

/-- Data that takes up one cell. -/
def oneOf (x : D) : D := (if x.one then x else .v .nilFunc).norm

def den (ρ : Env) : E → V
  | .v n => ρ n
  | .da n => .d (oneOf (ρ n).dat)
  | .z n => .i n
  | .tt => .b true
  | .ff => .b false
  | .bin o k x y => .i (o.sem k (den ρ x).int (den ρ y).int)
  | .cmp o x y => .b (o.sem (den ρ x).int (den ρ y).int)
  | .not x => .b !(den ρ x).bool
  | .beq x y => .b ((den ρ x).bool == (den ρ y).bool)
  | .len l => .i (den ρ l).lst.length
  | .cv k x => .i (k.wrap (den ρ x).int)
  | .vi k x => .d (.v (.int k (den ρ x).int))
  | .vb x => .d (.v (.bool (den ρ x).bool))
  | .vc x => .d (.v x)
  | .s l => .d (.s (den ρ l).lst)
  | .g l => .d (.g (den ρ l).lst)
  | .q l => .d (.q (den ρ l).lst)
  | .fn f l => .d (.f f (den ρ l).lst)
  | .nil => .l []
  | .cons x l => .l ((den ρ x).dat :: (den ρ l).lst)
  | .app x y => .l ((den ρ x).lst ++ (den ρ y).lst)
  | .rep n x => .l (List.replicate (den ρ n).int.toNat (den ρ x).dat)
  | .set l i x => .l ((den ρ l).lst.set (den ρ i).int.toNat (den ρ x).dat)
  | .take l n => .l ((den ρ l).lst.take (den ρ n).int.toNat)

def dat (ρ : Env) (e : E) : D := (den ρ e).dat
def lst (ρ : Env) (e : E) : List D := (den ρ e).lst
def int (ρ : Env) (e : E) : Int := (den ρ e).int
def bol (ρ : Env) (e : E) : Bool := (den ρ e).bool

def vcSame : Value → Value → Bool
  | .slice none 0 0, .slice none 0 0 => true
  | .nilFunc, .nilFunc => true
  | _, _ => false

/-- Expressions alike. -/
def E.same : E → E → Bool
  | .v n, .v m => n == m
  | .da n, .da m => n == m
  | .z n, .z m => n == m
  | .tt, .tt => true
  | .ff, .ff => true
  | .bin o k x y, .bin o' k' x' y' => o == o' && k == k' && x.same x' && y.same y'
  | .cmp o x y, .cmp o' x' y' => o == o' && x.same x' && y.same y'
  | .not x, .not y => x.same y
  | .beq x y, .beq x' y' => x.same x' && y.same y'
  | .len x, .len y => x.same y
  | .cv k x, .cv k' y => k == k' && x.same y
  | .vi k x, .vi k' y => k == k' && x.same y
  | .vb x, .vb y => x.same y
  | .vc x, .vc y => vcSame x y
  | .s x, .s y => x.same y
  | .g x, .g y => x.same y
  | .q x, .q y => x.same y
  | .fn f x, .fn f' y => f == f' && x.same y
  | .nil, .nil => true
  | .cons x l, .cons y m => x.same y && l.same m
  | .app x l, .app y m => x.same y && l.same m
  | .rep x l, .rep y m => x.same y && l.same m
  | .set x l a, .set y m b => x.same y && l.same m && a.same b
  | .take x l, .take y m => x.same y && l.same m
  | _, _ => false

/-- What a list's length hangs on. -/
def E.base : E → E
  | .set l _ _ => l.base
  | l => l

/-- Lists of one length. -/
def E.lsame (x y : E) : Bool := x.base.same y.base

/-- All atoms lie below. -/
def E.under (c : Nat) : E → Bool
  | .v n | .da n => Nat.blt n c
  | .z _ | .tt | .ff | .vc _ | .nil => true
  | .bin _ _ x y | .cmp _ x y | .beq x y | .cons x y | .app x y | .rep x y | .take x y => x.under c && y.under c
  | .not x | .len x | .cv _ x | .vi _ x | .vb x | .s x | .g x | .q x | .fn _ x => x.under c
  | .set x y w => x.under c && y.under c && w.under c

/-- Data of one cell, whatever the atoms are. -/
def E.isOne : E → Bool
  | .da _ | .vi _ _ | .vb _ | .s _ | .q _ | .fn _ _ => true
  | .vc x => x.oneCell
  | _ => false

def consE : List E → E
  | [] => .nil
  | x :: l => .cons x (consE l)

/-- A list that is written out. -/
def E.list : E → Option (List E)
  | .nil => some []
  | .cons x l => l.list.map (x :: ·)
  | _ => none

def constE : Value → E
  | .int k n => .vi k (.z n)
  | .bool true => .vb .tt
  | .bool false => .vb .ff
  | v => .vc v

def E.norm : E → E
  | .vc (.slice none 0 0) => .s .nil
  | e => e

/-! ### Shapes -/

/-- What one cell holds. -/
inductive Sh1 where | i (k : IntKind) | b | d | s
  deriving DecidableEq, Repr
inductive Sh where | one (a : Sh1) | g (as : List Sh1) | q (as : List Sh1)
  deriving Repr

def Sh1.expr : Sh1 → Nat → E
  | .i k, n => .vi k (.v n)
  | .b, n => .vb (.v n)
  | .d, n => .da n
  | .s, n => .s (.v n)

def exprs : List Sh1 → Nat → List E
  | [], _ => []
  | a :: as, n => a.expr n :: exprs as (n + 1)

def Sh.expr : Sh → Nat → E
  | .one a, n => a.expr n
  | .g as, n => .g (consE (exprs as n))
  | .q as, n => .q (consE (exprs as n))

def Sh.size : Sh → Nat
  | .one _ => 1
  | .g as | .q as => as.length

def sh1 (P : Program) (t : TypeId) : Sh1 := match P.underlying t with
  | some (.int k) => .i k
  | some .bool => .b
  | some (.slice _) => .s
  | _ => .d

def cells1 (P : Program) : Nat → TypeId → Option (List Sh1)
  | 0, _ => none
  | n + 1, t => match P.underlying t with
    | some (.struct fs) => (fs.toList.mapM fun f => cells1 P n f.type).map List.flatten
    | some (.array _ _) => none
    | some _ => some [sh1 P t]
    | none => none

def shOf (P : Program) (t : TypeId) : Option Sh := match aggT P t with
  | some true => (cells1 P 8 t).map .g
  | some false => some (.one (sh1 P t))
  | none => none

/-! ### Residual programs -/

inductive I where
  | chk (b : E)
  | head (sz : Nat) (l : E)
  | get (e : E) (sh : Sh) (n : Nat)
  | idx (l i : E) (sh : Sh) (n : Nat)
  | call (f : FuncId) (as : List E) (rs : List Sh1) (n : Nat)
  | callv (e : E) (as : List E) (ar : List (Option Nat)) (rs : List Sh1) (n : Nat)

inductive R where
  | i (x : I) (r : R)
  | ite (b : E) (x y : R)
  | nilq (c : Nat) (l : E) (x y : R)
  | loop (c : Nat) (init : List E) (body : R)
  | next (vs : List E)
  | done (vs : List E)
  | esc (r : R)

/-- The functions that are called: what they come to; of how many cells the parameters are (of functions that may be handed over). -/
structure Tb where
  call : FuncId → List D → Option (List D)
  ar : FuncId → Option (List (Option Nat))

def I.holds (B : Tb) (ρ : Env) : I → Prop
  | .chk b => bol ρ b = true
  | .head sz l => headOk sz (lst ρ l) = true
  | .get e sh n => dat ρ e = dat ρ (sh.expr n)
  | .idx l i sh n => 0 ≤ int ρ i ∧ (lst ρ l)[(int ρ i).toNat]? = some (dat ρ (sh.expr n))
  | .call f as rs n => B.call f (as.map (dat ρ)) = some ((exprs rs n).map (dat ρ))
  | .callv e as ar rs n => ∃ fn caps, dat ρ e = .f fn caps ∧ B.ar fn = some (ar ++ caps.map fun _ => none) ∧ B.call fn (as.map (dat ρ) ++ caps.map D.norm) = some ((exprs rs n).map (dat ρ))

inductive Oc where
  | next (vs : List V)
  | done (ds : List D)
  | esc (o : Oc)

def agree (c : Nat) (ρ ρ' : Env) : Prop := ∀ j, j < c → ρ' j = ρ j
def setAt (c : Nat) (vs : List V) (ρ : Env) : Prop := ∀ j v, vs[j]? = some v → ρ (c + j) = v

def LoopRel (F : List V → Oc → Prop) : Nat → List V → Oc → Prop
  | 0, _, _ => False
  | n + 1, vs, o => (∃ vs', F vs (.next vs') ∧ LoopRel F n vs' o) ∨ F vs (.esc o)

/-- What a residual program comes to, where the atoms along the way are these. -/
def Run (B : Tb) (N : Nat) : R → Env → Oc → Prop
  | .i x r, ρ, o => x.holds B ρ ∧ Run B N r ρ o
  | .ite b x y, ρ, o => if bol ρ b then Run B N x ρ o else Run B N y ρ o
  | .nilq c l x y, ρ, o => (∃ ρ', agree c ρ ρ' ∧ Run B N y ρ' o) ∧ (lst ρ l = [] → ∃ ρ', agree c ρ ρ' ∧ Run B N x ρ' o)
  | .loop c init body, ρ, o => LoopRel (fun vs o1 => ∃ ρ', agree c ρ ρ' ∧ setAt c vs ρ' ∧ Run B N body ρ' o1) N (init.map (den ρ)) o
  | .next vs, ρ, o => o = .next (vs.map (den ρ))
  | .done vs, ρ, o => o = .done (vs.map (dat ρ))
  | .esc r, ρ, o => ∃ o', o = .esc o' ∧ Run B N r ρ o'

/-! ### Symbolic states -/

inductive SV where
  | d (e : E)
  | g (cs : List SV)
  | o (k : Key) (l : E)
  | p (k : Key) (off : Nat)
  | e (k : Key) (l i : E) (off : Nat)
  | f (fn : FuncId) (cs : List SV)
  | t (cs : List SV)
  | u

inductive SObj where
  | box (cs : List SV)
  | arr (ty : TypeId) (sz : Nat) (l : E) (rw : Bool)
  | dead

abbrev SMem := List (Key × SObj)
abbrev SSl := List (Tmp × SV)

mutual
def γX (ρ : Env) : SV → X
  | .d e => .d (dat ρ e)
  | .g cs => .g (γXs ρ cs)
  | .o k l => .o k (lst ρ l).length
  | .p k off => .p k off
  | .e k l i off => .e k (lst ρ l).length (int ρ i).toNat off
  | .f fn cs => .f fn (γXs ρ cs)
  | .t cs => .t (γXs ρ cs)
  | .u => .u
def γXs (ρ : Env) : List SV → List X
  | [] => []
  | c :: cs => γX ρ c :: γXs ρ cs
end

def γO (ρ : Env) : SObj → Obj
  | .box cs => .box (γXs ρ cs)
  | .arr ty sz l rw => .arr ty sz (lst ρ l) false rw
  | .dead => .dead

def γm (ρ : Env) (m : SMem) : Mem := fun k => (m.lookup k).map (γO ρ)
def γs (ρ : Env) (sl : SSl) : Slots := fun t => match sl.lookup t with
  | some v => γX ρ v
  | none => .u

/-! ### Steps on symbolic memory -/

inductive SMP (α : Type) where
  | ret (a : α)
  | fail
  | get (k : Key) (c : SObj → SMP α)
  | put (k : Key) (o : SObj) (c : SMP α)
  | new (k : Key) (o : SObj) (c : SMP α)
  | ask (i : Nat → I) (m : Nat) (c : Nat → SMP α)

def SMP.bind {α β : Type} : SMP α → (α → SMP β) → SMP β
  | .ret a, h => h a
  | .fail, _ => .fail
  | .get k c, h => .get k fun o => (c o).bind h
  | .put k o c, h => .put k o (c.bind h)
  | .new k o c, h => .new k o (c.bind h)
  | .ask i m c, h => .ask i m fun n => (c n).bind h

structure SOut (α : Type) where
  val : α
  m : SMem
  n : Nat
  is : List I
  tr : List (Key × Bool)

def SMP.run {α : Type} : SMP α → SMem → Nat → Option (SOut α)
  | .ret a, m, n => some ⟨a, m, n, [], []⟩
  | .fail, _, _ => none
  | .get k c, m, n => match m.lookup k with
    | some o => match (c o).run m n with
      | some r => some { r with tr := (k, false) :: r.tr }
      | none => none
    | none => none
  | .put k o c, m, n => match m.lookup k with
    | some _ => match c.run ((k, o) :: m) n with
      | some r => some { r with tr := (k, true) :: r.tr }
      | none => none
    | none => none
  | .new k o c, m, n => match m.lookup k with
    | some _ => none
    | none => match c.run ((k, o) :: m) n with
      | some r => some { r with tr := (k, true) :: r.tr }
      | none => none
  | .ask i j c, m, n => match (c n).run m (n + j) with
    | some r => some { r with is := i n :: r.is }
    | none => none

/-- The steps do what the machine's do. -/
def SMP.Ok {α β : Type} (B : Tb) (ρ : Env) (f : α → β) : SMP α → MP β → Prop
  | .ret a, q => q = .ret (f a)
  | .fail, _ => True
  | .get k c, q => ∃ c', q = .get k c' ∧ ∀ o, SMP.Ok B ρ f (c o) (c' (γO ρ o))
  | .put k o c, q => ∃ c', q = .put k (γO ρ o) c' ∧ SMP.Ok B ρ f c c'
  | .new k o c, q => ∃ c', q = .new k (γO ρ o) c' ∧ SMP.Ok B ρ f c c'
  | .ask i _ c, q => ∀ n, (i n).holds B ρ → SMP.Ok B ρ f (c n) q

theorem γm_cons (ρ : Env) (m : SMem) (k : Key) (o : SObj) : γm ρ ((k, o) :: m) = upd (γm ρ m) k (some (γO ρ o)) := by
  funext j
  unfold γm upd
  by_cases h : j = k
  · subst h; simp
  · have hb : (j == k) = false := by simpa using h
    simp [List.lookup_cons, hb, h]

theorem γs_cons (ρ : Env) (sl : SSl) (t : Tmp) (v : SV) : γs ρ ((t, v) :: sl) = upd (γs ρ sl) t (γX ρ v) := by
  funext j
  unfold γs upd
  by_cases h : j = t
  · subst h; simp
  · have hb : (j == t) = false := by simpa using h
    simp [List.lookup_cons, hb, h]

theorem γm_some {ρ : Env} {m : SMem} {k : Key} {o : SObj} (h : m.lookup k = some o) : γm ρ m k = some (γO ρ o) := by unfold γm; rw [h]; rfl
theorem γm_none {ρ : Env} {m : SMem} {k : Key} (h : m.lookup k = none) : γm ρ m k = none := by unfold γm; rw [h]; rfl

theorem SMP.run_ok {α β : Type} {B : Tb} {ρ : Env} {f : α → β} : ∀ (p : SMP α) (q : MP β) (m : SMem) (n : Nat) (r : SOut α), p.Ok B ρ f q → p.run m n = some r → (∀ i ∈ r.is, i.holds B ρ) →
    q.runT (γm ρ m) = some (f r.val, γm ρ r.m, r.tr)
  | .ret a, q, m, n, r, ho, h, hi => by
    simp only [SMP.run, Option.some.injEq] at h; subst h
    rw [show q = _ from ho]; rfl
  | .fail, _, _, _, _, _, h, _ => by cases h
  | .get k c, q, m, n, r, ⟨c', hq, ho⟩, h, hi => by
    subst hq
    simp only [SMP.run] at h
    split at h
    · rename_i o hk
      split at h
      · rename_i r1 h1
        simp only [Option.some.injEq] at h; subst h
        have := SMP.run_ok (c o) _ m n r1 (ho o) h1 hi
        simp only [MP.runT, γm_some hk, this, Option.map_some]
      · cases h
    · cases h
  | .put k o c, q, m, n, r, ⟨c', hq, ho⟩, h, hi => by
    subst hq
    simp only [SMP.run] at h
    split at h
    · rename_i o0 hk
      split at h
      · rename_i r1 h1
        simp only [Option.some.injEq] at h; subst h
        have := SMP.run_ok c _ _ n r1 ho h1 hi
        rw [γm_cons] at this
        simp only [MP.runT, γm_some hk, this, Option.map_some]
      · cases h
    · cases h
  | .new k o c, q, m, n, r, ⟨c', hq, ho⟩, h, hi => by
    subst hq
    simp only [SMP.run] at h
    split at h
    · cases h
    · rename_i hk
      split at h
      · rename_i r1 h1
        simp only [Option.some.injEq] at h; subst h
        have := SMP.run_ok c _ _ n r1 ho h1 hi
        rw [γm_cons] at this
        simp only [MP.runT, γm_none hk, this, Option.map_some]
      · cases h
  | .ask i j c, q, m, n, r, ho, h, hi => by
    simp only [SMP.run] at h
    split at h
    · rename_i r1 h1
      simp only [Option.some.injEq] at h; subst h
      exact SMP.run_ok (c n) q m _ r1 (ho n (hi _ (by simp))) h1 (fun x hx => hi x (by simp [hx]))
    · cases h

theorem SMP.bind_ok {α β α' β' : Type} {B : Tb} {ρ : Env} {f : α → β} {f' : α' → β'} {h : α → SMP α'} {h' : β → MP β'} (hh : ∀ a, (h a).Ok B ρ f' (h' (f a))) : ∀ (p : SMP α) (q : MP β), p.Ok B ρ f q → (p.bind h).Ok B ρ f' (q.bind h')
  | .ret a, q, ho => by rw [show q = _ from ho]; exact hh a
  | .fail, _, _ => trivial
  | .get k c, q, ⟨c', hq, ho⟩ => by subst hq; exact ⟨_, rfl, fun o => SMP.bind_ok hh (c o) _ (ho o)⟩
  | .put k o c, q, ⟨c', hq, ho⟩ => by subst hq; exact ⟨_, rfl, SMP.bind_ok hh c _ ho⟩
  | .new k o c, q, ⟨c', hq, ho⟩ => by subst hq; exact ⟨_, rfl, SMP.bind_ok hh c _ ho⟩
  | .ask i j c, q, ho => fun n hn => SMP.bind_ok hh (c n) q (ho n hn)

end Go.Tm
end

section
/- Symbolic execution of the machine over trees: the operations. -/
namespace Go.Tm

/-! ### What expressions stand for -/

theorem vcSame_eq {x y : Value} (h : vcSame x y = true) : x = y := by
  unfold vcSame at h
  split at h <;> first | rfl | cases h

theorem same_eq : ∀ (x y : E), x.same y = true → ∀ ρ, den ρ x = den ρ y := by
  intro x
  induction x <;> intro y h ρ <;> cases y <;> (try (simp only [E.same] at h; contradiction)) <;> (try (simp only [E.same, Bool.and_eq_true, beq_iff_eq] at h)) <;> (try rfl)
  case v.v => subst h; rfl
  case da.da => subst h; rfl
  case z.z => subst h; rfl
  case bin.bin ih1 ih2 _ _ _ _ => obtain ⟨⟨⟨rfl, rfl⟩, h1⟩, h2⟩ := h; simp only [den, ih1 _ h1, ih2 _ h2]
  case cmp.cmp ih1 ih2 _ _ _ => obtain ⟨⟨rfl, h1⟩, h2⟩ := h; simp only [den, ih1 _ h1, ih2 _ h2]
  case not.not ih _ => simp only [den, ih _ h]
  case beq.beq ih1 ih2 _ _ => simp only [den, ih1 _ h.1, ih2 _ h.2]
  case len.len ih _ => simp only [den, ih _ h]
  case cv.cv ih _ _ => obtain ⟨rfl, h1⟩ := h; simp only [den, ih _ h1]
  case vi.vi ih _ _ => obtain ⟨rfl, h1⟩ := h; simp only [den, ih _ h1]
  case vb.vb ih _ => simp only [den, ih _ h]
  case vc.vc => rw [vcSame_eq h]
  case s.s ih _ => simp only [den, ih _ h]
  case g.g ih _ => simp only [den, ih _ h]
  case q.q ih _ => simp only [den, ih _ h]
  case fn.fn ih _ _ => obtain ⟨rfl, h1⟩ := h; simp only [den, ih _ h1]
  case cons.cons ih1 ih2 _ _ => simp only [den, ih1 _ h.1, ih2 _ h.2]
  case app.app ih1 ih2 _ _ => simp only [den, ih1 _ h.1, ih2 _ h.2]
  case rep.rep ih1 ih2 _ _ => simp only [den, ih1 _ h.1, ih2 _ h.2]
  case set.set ih1 ih2 ih3 _ _ _ => simp only [den, ih1 _ h.1.1, ih2 _ h.1.2, ih3 _ h.2]
  case take.take ih1 ih2 _ _ => simp only [den, ih1 _ h.1, ih2 _ h.2]

theorem under_eq {c : Nat} {ρ ρ' : Env} (h : agree c ρ ρ') : ∀ (e : E), e.under c = true → den ρ' e = den ρ e := by
  intro e
  induction e <;> intro hu <;> simp [E.under] at hu <;> simp only [den]
  case v => exact h _ hu
  case da => rw [h _ hu]
  case bin ih1 ih2 => rw [ih1 hu.1, ih2 hu.2]
  case cmp ih1 ih2 => rw [ih1 hu.1, ih2 hu.2]
  case not ih => rw [ih hu]
  case beq ih1 ih2 => rw [ih1 hu.1, ih2 hu.2]
  case len ih => rw [ih hu]
  case cv ih => rw [ih hu]
  case vi ih => rw [ih hu]
  case vb ih => rw [ih hu]
  case s ih => rw [ih hu]
  case g ih => rw [ih hu]
  case q ih => rw [ih hu]
  case fn ih => rw [ih hu]
  case cons ih1 ih2 => rw [ih1 hu.1, ih2 hu.2]
  case app ih1 ih2 => rw [ih1 hu.1, ih2 hu.2]
  case rep ih1 ih2 => rw [ih1 hu.1, ih2 hu.2]
  case set ih1 ih2 ih3 => rw [ih1 hu.1.1, ih2 hu.1.2, ih3 hu.2]
  case take ih1 ih2 => rw [ih1 hu.1, ih2 hu.2]

theorem norm_one {x : D} (h : x.one = true) : x.norm.one = true := by
  unfold D.norm; split
  · rfl
  · exact h

theorem norm_cases (x : D) : x.norm = .s [] ∨ x.norm = x := by
  unfold D.norm; split
  · exact .inl rfl
  · exact .inr rfl

theorem norm_norm (x : D) : x.norm.norm = x.norm := by
  rcases norm_cases x with h | h
  · rw [h]; rfl
  · rw [h, h]

theorem oneOf_one (x : D) : (oneOf x).one = true := by
  unfold oneOf; apply norm_one; split
  · assumption
  · rfl

theorem isOne_one {e : E} (h : e.isOne = true) (ρ : Env) : (dat ρ e).one = true := by
  cases e <;> simp [E.isOne] at h <;> unfold dat <;> simp only [den, V.dat] <;> first
    | exact oneOf_one _
    | rfl
    | exact h

theorem one_cells {x : D} (h : x.one = true) : (X.d x).cells = some [.d x] := by
  cases x with
  | g => cases h
  | t => cases h
  | _ => rfl

theorem one_dcells {x : D} (h : x.one = true) : x.cells = [x] := by
  cases x with
  | g => cases h
  | _ => rfl

theorem norm_dat {e : E} (h : e.isOne = true) (ρ : Env) : dat ρ e.norm = (dat ρ e).norm := by
  cases e <;> simp [E.isOne] at h <;> unfold dat <;> simp only [E.norm, den, V.dat]
  case da n => unfold oneOf; rw [norm_norm]
  case vc x =>
    cases x with
    | slice a l c =>
      cases a with
      | none =>
        cases l with
        | zero => cases c <;> rfl
        | succ => rfl
      | some => rfl
    | _ => rfl
  all_goals rfl

theorem isOne_norm {e : E} (h : e.isOne = true) : e.norm.isOne = true := by
  unfold E.norm; split
  · rfl
  · exact h

theorem dat_const (ρ : Env) (v : Value) : dat ρ (constE v) = .v v := by
  unfold constE
  split <;> rfl

theorem isOne_const {v : Value} (h : v.oneCell = true) : (constE v).isOne = true := by
  unfold constE
  split <;> first | rfl | exact h

theorem lst_consE (ρ : Env) : ∀ l : List E, lst ρ (consE l) = l.map (dat ρ)
  | [] => rfl
  | x :: l => by
    show dat ρ x :: lst ρ (consE l) = _
    rw [lst_consE ρ l, List.map_cons]

theorem list_lst (ρ : Env) : ∀ (e : E) (l : List E), e.list = some l → lst ρ e = l.map (dat ρ) := by
  intro e
  induction e <;> intro l h <;> simp [E.list] at h
  case nil => subst h; rfl
  case cons x y _ ih =>
    obtain ⟨l', h1, rfl⟩ := h
    show dat ρ x :: lst ρ y = _
    rw [ih l' h1, List.map_cons]

theorem γXs_map (ρ : Env) : ∀ cs : List SV, γXs ρ cs = cs.map (γX ρ)
  | [] => rfl
  | c :: cs => by simp only [γXs, γXs_map ρ cs, List.map_cons]

theorem Sh1_isOne (a : Sh1) (n : Nat) : (a.expr n).isOne = true := by cases a <;> rfl

theorem exprs_isOne : ∀ (as : List Sh1) (n : Nat), ∀ e ∈ exprs as n, e.isOne = true
  | [], _, e, h => by simp [exprs] at h
  | a :: as, n, e, h => by
    simp only [exprs, List.mem_cons] at h
    rcases h with rfl | h
    · exact Sh1_isOne a n
    · exact exprs_isOne as _ e h

theorem exprs_length : ∀ (as : List Sh1) (n : Nat), (exprs as n).length = as.length
  | [], _ => rfl
  | a :: as, n => by simp [exprs, exprs_length as]

/-- A shape's cells. -/
def Sh.cells : Sh → Nat → List E
  | .one a, n => [a.expr n]
  | .g as, n => exprs as n
  | .q _, _ => []

theorem Sh_cells {sh : Sh} (h : ∀ as, sh ≠ .q as) (ρ : Env) (n : Nat) : (dat ρ (sh.expr n)).cells = (sh.cells n).map (dat ρ) := by
  cases sh with
  | one a => simp only [Sh.expr, Sh.cells, List.map_cons, List.map_nil]; exact one_dcells (isOne_one (Sh1_isOne a n) ρ)
  | g as =>
    show (D.g (lst ρ (consE (exprs as n)))).cells = _
    rw [lst_consE]; rfl
  | q as => exact absurd rfl (h as)

/-! ### Operands and cells -/

def sop (sl : SSl) : Operand → SV
  | .tmp t => match sl.lookup t with
    | some v => v
    | none => .u
  | .const v => if v.oneCell then .d (constE v) else .u
  | .func f => .f f []
  | .global _ => .u

theorem sop_ok (ρ : Env) (sl : SSl) (x : Operand) : opX (γs ρ sl) x = γX ρ (sop sl x) := by
  cases x with
  | tmp t =>
    simp only [opX, γs, sop]
    cases sl.lookup t <;> rfl
  | const v =>
    simp only [opX, sop]
    split
    · simp only [γX, dat_const]
    · rfl
  | func f => rfl
  | global n => rfl

def scells : SV → Option (List SV)
  | .g cs => some cs
  | .d e => if e.isOne then some [.d e] else none
  | .u | .t _ => none
  | x => some [x]

theorem scells_ok {v : SV} {cs : List SV} (h : scells v = some cs) (ρ : Env) : (γX ρ v).cells = some (cs.map (γX ρ)) := by
  cases v with
  | g cs' => simp only [scells, Option.some.injEq] at h; subst h; simp only [γX, X.cells, γXs_map]
  | d e =>
    simp only [scells] at h
    split at h
    · rename_i ho
      simp only [Option.some.injEq] at h; subst h
      simp only [γX, List.map_cons, List.map_nil]
      exact one_cells (isOne_one ho ρ)
    · cases h
  | u => cases h
  | t => cases h
  | o k l => simp only [scells, Option.some.injEq] at h; subst h; rfl
  | p k l => simp only [scells, Option.some.injEq] at h; subst h; rfl
  | e k l i off => simp only [scells, Option.some.injEq] at h; subst h; rfl
  | f fn cs' => simp only [scells, Option.some.injEq] at h; subst h; rfl

def sone : SV → Bool
  | .d e => e.isOne
  | .o _ _ | .p _ _ | .e _ _ _ _ | .f _ _ => true
  | _ => false

theorem sone_ok {v : SV} (h : sone v = true) (ρ : Env) : (γX ρ v).one = true := by
  cases v <;> simp [sone] at h <;> first | rfl | exact isOne_one h ρ

theorem sones_ok {vs : List SV} (h : vs.all sone = true) (ρ : Env) : (vs.map (γX ρ)).all X.one = true := by
  rw [List.all_map, List.all_eq_true] at *
  exact fun x hx => sone_ok (h x hx) ρ

section
variable {B : Tb} {ρ : Env} {P : Program}

/-! ### Absorbing -/

def sabsorb : SV → SMP (E × Bool)
  | .d e => if e.isOne then .ret (e.norm, false) else .fail
  | .o k l => .get k fun
    | .arr ty sz l' _ => if l.lsame l' then .put k (.arr ty sz l' false) (.ret (.s l', false)) else .fail
    | _ => .fail
  | _ => .fail

def fDB (ρ : Env) (p : E × Bool) : D × Bool := (dat ρ p.1, p.2)
def fLB (ρ : Env) (p : List E × Bool) : List D × Bool := (p.1.map (dat ρ), p.2)

theorem same_lst {l l' : E} (h : l.same l' = true) (ρ : Env) : lst ρ l = lst ρ l' := by unfold lst; rw [same_eq _ _ h]
theorem same_dat {l l' : E} (h : l.same l' = true) (ρ : Env) : dat ρ l = dat ρ l' := by unfold dat; rw [same_eq _ _ h]

theorem base_len (ρ : Env) : ∀ l : E, (lst ρ l.base).length = (lst ρ l).length := by
  intro l
  induction l with
  | set l i x ih _ _ =>
    show (lst ρ l.base).length = ((lst ρ l).set (int ρ i).toNat (dat ρ x)).length
    rw [List.length_set]; exact ih
  | _ => rfl

theorem lsame_len {l l' : E} (h : l.lsame l' = true) (ρ : Env) : (lst ρ l).length = (lst ρ l').length := by
  rw [← base_len ρ l, ← base_len ρ l', same_lst h]

theorem sabsorb_ok (v : SV) : (sabsorb v).Ok B ρ (fDB ρ) (absorb (γX ρ v)) := by
  cases v with
  | d e =>
    simp only [sabsorb]
    split
    · rename_i h
      simp only [γX, absorb, SMP.Ok, fDB, norm_dat h]
    · trivial
  | o k l =>
    refine ⟨_, rfl, fun o => ?_⟩
    cases o with
    | arr ty sz l' rw =>
      simp only [γO]
      split
      · rename_i h
        rw [if_pos (lsame_len h ρ)]
        exact ⟨_, rfl, rfl⟩
      · trivial
    | _ => trivial
  | _ => trivial

def sabsorbs : List SV → SMP (List E × Bool)
  | [] => .ret ([], true)
  | x :: xs => (sabsorb x).bind fun d => (sabsorbs xs).bind fun ds => .ret (d.1 :: ds.1, d.2 && ds.2)

theorem sabsorbs_ok : ∀ (vs : List SV), (sabsorbs vs).Ok B ρ (fLB ρ) (absorbs (vs.map (γX ρ)))
  | [] => rfl
  | v :: vs => by
    refine SMP.bind_ok (f := fDB ρ) (fun d => ?_) _ _ (sabsorb_ok v)
    refine SMP.bind_ok (f := fLB ρ) (fun ds => ?_) _ _ (sabsorbs_ok vs)
    rfl

/-! ### Building -/

def sfillX (pl : List (Nat × Nat)) (cs : List SV) : List (Nat × SV) → Option (List SV)
  | [] => some cs
  | (i, x) :: rest =>
    match pl[i]?, scells x with
    | some (off, n), some vs => if vs.length = n ∧ off + n ≤ cs.length then sfillX pl (splice cs off vs) rest else none
    | _, _ => none

theorem splice_map {α β : Type} (f : α → β) (cs : List α) (off : Nat) (vs : List α) : (splice cs off vs).map f = splice (cs.map f) off (vs.map f) := by
  simp [splice, List.map_take, List.map_drop]

theorem sfillX_ok {pl : List (Nat × Nat)} : ∀ (ps : List (Nat × SV)) (cs cs' : List SV), sfillX pl cs ps = some cs' → fillX pl (cs.map (γX ρ)) (ps.map fun p => (p.1, γX ρ p.2)) = some (cs'.map (γX ρ))
  | [], cs, cs', h => by simp only [sfillX, Option.some.injEq] at h; subst h; rfl
  | (i, x) :: rest, cs, cs', h => by
    simp only [sfillX] at h
    split at h
    · rename_i off n vs h1 h2
      split at h
      · rename_i hc
        have := sfillX_ok rest _ _ h
        simp only [List.map_cons, fillX, h1, scells_ok h2, List.length_map, hc, and_self, if_true]
        rw [splice_map] at this; exact this
      · cases h
    · cases h

def smk (ag : Bool) (es : List E) : Option E := match ag, es with
  | true, es => if es.all E.isOne then some (.g (consE es)) else none
  | false, [e] => if e.isOne then some e else none
  | false, _ => none

theorem smk_ok {ag : Bool} {es : List E} {e : E} (h : smk ag es = some e) (ρ : Env) : D.mk ag (es.map (dat ρ)) = some (dat ρ e) := by
  cases ag with
  | true =>
    simp only [smk] at h
    split at h
    · simp only [Option.some.injEq] at h; subst h
      show some (D.g _) = some (D.g (lst ρ (consE es)))
      rw [lst_consE]
    · cases h
  | false =>
    match es, h with
    | [e'], h =>
      simp only [smk] at h
      split at h
      · rename_i ho
        simp only [Option.some.injEq] at h; subst h
        simp only [List.map_cons, List.map_nil, D.mk, isOne_one ho, if_true]
      · cases h

def sfillE (ag : Bool) (sz : Nat) (es : List E) (dp : Bool) : List (Nat × SV) → SMP (List E × Bool)
  | [] => .ret (es, dp)
  | (i, x) :: rest =>
    match scells x with
    | some vs => if vs.length = sz ∧ i < es.length ∧ vs.all sone then (sabsorbs vs).bind fun ds => match smk ag ds.1 with
        | some d => sfillE ag sz (es.set i d) (dp && ds.2) rest
        | none => .fail
      else .fail
    | none => .fail

theorem sfillE_ok {ag : Bool} {sz : Nat} : ∀ (ps : List (Nat × SV)) (es : List E) (dp : Bool), (sfillE ag sz es dp ps).Ok B ρ (fLB ρ) (fillE ag sz (es.map (dat ρ)) dp (ps.map fun p => (p.1, γX ρ p.2)))
  | [], es, dp => rfl
  | (i, x) :: rest, es, dp => by
    simp only [sfillE, List.map_cons, fillE]
    cases hc : scells x with
    | none => trivial
    | some vs =>
      simp only [scells_ok hc, List.length_map]
      split
      · rename_i h
        rw [if_pos ⟨h.1, h.2.1, sones_ok h.2.2 ρ⟩]
        refine SMP.bind_ok (fun ds => ?_) _ _ (sabsorbs_ok vs)
        cases hm : smk ag ds.1 with
        | none => trivial
        | some d =>
          simp only [fLB, smk_ok hm]
          have := sfillE_ok (ag := ag) (sz := sz) rest (es.set i d) (dp && ds.2)
          rw [List.map_set] at this; exact this
      · trivial

/-! ### Memory -/

def scellsAt (P : Program) (t : TypeId) (a : SV) : SMP (List SV) :=
  match a with
  | .d (.q l) => match l.list with
    | some cs => .ret (cs.map .d)
    | none => .fail
  | .d (.da n) => match cells1 P 8 t with
    | some as => .ask (fun n' => .get (.da n) (.q as) n') as.length fun n' => .ret ((exprs as n').map .d)
    | none => .fail
  | .p k off => .get k fun
    | .box cs => .ret (cs.drop off)
    | _ => .fail
  | .e k l i off => .get k fun
    | .arr ty _ l' _ => match shOf P ty with
      | some (.q _) => .fail
      | some sh => if l.lsame l' then .ask (fun n => .idx l' i sh n) sh.size fun n => .ret (((sh.cells n).map .d).drop off) else .fail
      | none => .fail
    | _ => .fail
  | _ => .fail

def fXs (ρ : Env) (cs : List SV) : List X := cs.map (γX ρ)

theorem map_dat (ρ : Env) (l : List E) : (l.map SV.d).map (γX ρ) = (l.map (dat ρ)).map X.d := by simp [γX]

theorem scellsAt_ok (t : TypeId) (a : SV) : (scellsAt P t a).Ok B ρ (fXs ρ) (cellsAt (γX ρ a)) := by
  cases a with
  | d e =>
    cases e with
    | q l =>
      simp only [scellsAt]
      cases h : l.list with
      | none => trivial
      | some cs =>
        show cellsAt (.d (.q (lst ρ l))) = .ret (fXs ρ _)
        rw [list_lst ρ _ _ h]; simp only [cellsAt, fXs, map_dat]
    | da n =>
      simp only [scellsAt]
      cases h : cells1 P 8 t with
      | none => trivial
      | some as =>
        intro n' hn
        simp only [I.holds, Sh.expr] at hn
        simp only [SMP.Ok, γX, hn, fXs, map_dat]
        show cellsAt (.d (.q (lst ρ (consE _)))) = _
        rw [lst_consE]; rfl
    | _ => trivial
  | p k off =>
    refine ⟨_, rfl, fun o => ?_⟩
    cases o with
    | box cs => simp only [γO, SMP.Ok, fXs, γXs_map, List.map_drop]
    | _ => trivial
  | e k l i off =>
    refine ⟨_, rfl, fun o => ?_⟩
    cases o with
    | arr ty sz l' rw =>
      simp only [γO]
      cases hs : shOf P ty with
      | none => trivial
      | some sh =>
        have key : ∀ (hq : ∀ as, sh ≠ .q as), SMP.Ok B ρ (fXs ρ) (if l.lsame l' then .ask (fun n => .idx l' i sh n) sh.size fun n => .ret (((sh.cells n).map .d).drop off) else .fail)
            (match (lst ρ l')[(int ρ i).toNat]? with
              | some e => if (lst ρ l).length = (lst ρ l').length then .ret ((e.cells.map X.d).drop off) else .fail
              | none => .fail) := by
          intro hq
          split
          · rename_i h
            intro n hn
            obtain ⟨h0, h1⟩ := hn
            simp only [h1, lsame_len h ρ, if_true, Sh_cells hq, SMP.Ok, fXs, List.map_drop, map_dat]
          · trivial
        cases sh with
        | q as => trivial
        | one a => exact key (fun as h => by cases h)
        | g as => exact key (fun as h => by cases h)
    | _ => trivial
  | _ => trivial

def sloadM (P : Program) (t : TypeId) (a : SV) : SMP SV :=
  match aggT P t, szOf P t with
  | some true, some n => (scellsAt P t a).bind fun cs => if n ≤ cs.length then .ret (.g (cs.take n)) else .fail
  | some false, some _ => (scellsAt P t a).bind fun cs => match cs with | c :: _ => .ret c | [] => .fail
  | _, _ => .fail

theorem sloadM_ok (t : TypeId) (a : SV) : (sloadM P t a).Ok B ρ (γX ρ) (loadM P t (γX ρ a)) := by
  unfold sloadM loadM
  split
  · rename_i n h1 h2
    simp only [h1, h2]
    refine SMP.bind_ok (fun cs => ?_) _ _ (scellsAt_ok t a)
    simp only [fXs, List.length_map]
    split
    · simp only [SMP.Ok, γX, γXs_map, List.map_take]
    · trivial
  · rename_i n h1 h2
    simp only [h1, h2]
    refine SMP.bind_ok (fun cs => ?_) _ _ (scellsAt_ok t a)
    cases cs with
    | nil => trivial
    | cons c cs => rfl
  · trivial

/-- An element with cells put in. -/
def E.put (cells : List E) (ag : Bool) (off : Nat) (ds : List E) : Option E :=
  if ag then (if off + ds.length ≤ cells.length then some (.g (consE (splice cells off ds))) else none)
  else match off, ds with
    | 0, [d] => some d
    | _, _ => none

def Sh.agg : Sh → Bool
  | .g _ => true
  | _ => false

theorem E_put {sh : Sh} (hq : ∀ as, sh ≠ .q as) {n off : Nat} {ds : List E} {e : E} (h : E.put (sh.cells n) sh.agg off ds = some e) (ρ : Env) : (dat ρ (sh.expr n)).put off (ds.map (dat ρ)) = some (dat ρ e) := by
  cases sh with
  | q as => exact absurd rfl (hq as)
  | g as =>
    unfold E.put at h
    simp only [Sh.agg, if_true] at h
    split at h
    · rename_i hl
      simp only [Option.some.injEq] at h; subst h
      show D.put (.g (lst ρ (consE (exprs as n)))) off _ = some (.g (lst ρ (consE _)))
      rw [lst_consE, lst_consE]
      simp only [D.put, List.length_map]
      rw [if_pos (by simpa [Sh.cells] using hl)]
      simp only [Sh.cells, splice_map]
    · cases h
  | one a =>
    unfold E.put at h
    simp only [Sh.agg, Bool.false_eq_true, if_false] at h
    have ho := isOne_one (Sh1_isOne a n) ρ
    simp only [Sh.expr]
    split at h
    · simp only [Option.some.injEq] at h; subst h
      cases hd : dat ρ (a.expr n) with
      | g => rw [hd] at ho; cases ho
      | _ => rfl
    · cases h

def sstoreM (P : Program) (t : TypeId) (a v : SV) : SMP SV :=
  match scells v, szOf P t with
  | some vs, some n => if vs.length = n ∧ vs.all sone then match a with
      | .p k off => .get k fun
        | .box cs => if off + n ≤ cs.length then .put k (.box (splice cs off vs)) (.ret .u) else .fail
        | _ => .fail
      | .e k l i off => (sabsorbs vs).bind fun ds => .get k fun
        | .arr ty sz l' true => match shOf P ty with
          | some (.q _) => .fail
          | some sh => if l.lsame l' then .ask (fun n => .idx l' i sh n) sh.size fun n => match E.put (sh.cells n) sh.agg off ds.1 with
              | some e' => .put k (.arr ty sz (.set l' i e') true) (.ret .u)
              | none => .fail
            else .fail
          | none => .fail
        | _ => .fail
      | _ => .fail
    else .fail
  | _, _ => .fail

theorem sstoreM_ok (t : TypeId) (a v : SV) : (sstoreM P t a v).Ok B ρ (γX ρ) (storeM P t (γX ρ a) (γX ρ v)) := by
  unfold sstoreM storeM
  cases hc : scells v with
  | none => trivial
  | some vs =>
    cases hz : szOf P t with
    | none => trivial
    | some n =>
      simp only [scells_ok hc, List.length_map]
      split
      · rename_i h
        rw [if_pos ⟨h.1, sones_ok h.2 ρ⟩]
        cases a with
        | p k off =>
          refine ⟨_, rfl, fun o => ?_⟩
          cases o with
          | box cs =>
            simp only [γO, γXs_map, List.length_map]
            split
            · exact ⟨_, by rw [γO, γXs_map, splice_map]; rfl, rfl⟩
            · trivial
          | _ => trivial
        | e k l i off =>
          refine SMP.bind_ok (f := fLB ρ) (fun ds => ?_) _ _ (sabsorbs_ok vs)
          refine ⟨_, rfl, fun o => ?_⟩
          cases o with
          | arr ty sz l' rw =>
            cases rw with
            | false => trivial
            | true =>
              simp only [γO]
              cases hs : shOf P ty with
              | none => trivial
              | some sh =>
                have key : ∀ (hq : ∀ as, sh ≠ .q as), SMP.Ok B ρ (γX ρ) (if l.lsame l' then .ask (fun n => .idx l' i sh n) sh.size fun n => match E.put (sh.cells n) sh.agg off ds.1 with
                      | some e' => .put k (.arr ty sz (.set l' i e') true) (.ret .u)
                      | none => .fail
                    else .fail)
                    (match (lst ρ l')[(int ρ i).toNat]? with
                      | some e => match e.put off (fLB ρ ds).1 with
                        | some e' => if (lst ρ l).length = (lst ρ l').length then .put k (.arr ty sz ((lst ρ l').set (int ρ i).toNat e') false true) (.ret .u) else .fail
                        | none => .fail
                      | none => .fail) := by
                  intro hq
                  split
                  · rename_i hl
                    intro n hn
                    obtain ⟨h0, h1⟩ := hn
                    simp only [h1]
                    split
                    · rename_i e' he
                      simp only [fLB, E_put hq he, lsame_len hl ρ, if_true]
                      exact ⟨_, rfl, rfl⟩
                    · trivial
                  · trivial
                cases sh with
                | q as => trivial
                | one a => exact key (fun as h => by cases h)
                | g as => exact key (fun as h => by cases h)
          | _ => trivial
        | _ => trivial
      · trivial

end

end Go.Tm
end

section
/- Symbolic execution of the machine over trees: matching, signatures, calls. -/
namespace Go.Tm

/-! ### Names -/

mutual
def SV.names : SV → List Key
  | .o k _ => [k]
  | .p k _ => [k]
  | .e k _ _ _ => [k]
  | .g cs => snames cs
  | .t cs => snames cs
  | .f _ cs => snames cs
  | _ => []
def snames : List SV → List Key
  | [] => []
  | c :: cs => SV.names c ++ snames cs
end

mutual
def SV.ren (r : Key → Key) : SV → SV
  | .o k l => .o (r k) l
  | .p k off => .p (r k) off
  | .e k l i off => .e (r k) l i off
  | .g cs => .g (sren r cs)
  | .t cs => .t (sren r cs)
  | .f fn cs => .f fn (sren r cs)
  | .d e => .d e
  | .u => .u
def sren (r : Key → Key) : List SV → List SV
  | [] => []
  | c :: cs => SV.ren r c :: sren r cs
end

def SObj.names : SObj → List Key
  | .box cs => snames cs
  | _ => []

def SObj.ren (r : Key → Key) : SObj → SObj
  | .box cs => .box (sren r cs)
  | o => o

mutual
theorem names_ok (ρ : Env) : ∀ v : SV, (γX ρ v).names = v.names
  | .o _ _ => rfl
  | .p _ _ => rfl
  | .e _ _ _ _ => rfl
  | .g cs => by simp only [γX, X.names, SV.names, snames_ok ρ cs]
  | .t cs => by simp only [γX, X.names, SV.names, snames_ok ρ cs]
  | .f _ cs => by simp only [γX, X.names, SV.names, snames_ok ρ cs]
  | .d _ => rfl
  | .u => rfl
theorem snames_ok (ρ : Env) : ∀ cs : List SV, namesL (γXs ρ cs) = snames cs
  | [] => rfl
  | c :: cs => by simp only [γXs, namesL, snames, names_ok ρ c, snames_ok ρ cs]
end

mutual
theorem ren_ok (ρ : Env) (r : Key → Key) : ∀ v : SV, (γX ρ v).ren r = γX ρ (v.ren r)
  | .o _ _ => rfl
  | .p _ _ => rfl
  | .e _ _ _ _ => rfl
  | .g cs => by simp only [γX, X.ren, SV.ren, sren_ok ρ r cs]
  | .t cs => by simp only [γX, X.ren, SV.ren, sren_ok ρ r cs]
  | .f _ cs => by simp only [γX, X.ren, SV.ren, sren_ok ρ r cs]
  | .d _ => rfl
  | .u => rfl
theorem sren_ok (ρ : Env) (r : Key → Key) : ∀ cs : List SV, renL r (γXs ρ cs) = γXs ρ (sren r cs)
  | [] => rfl
  | c :: cs => by simp only [γXs, renL, sren, ren_ok ρ r c, sren_ok ρ r cs]
end

theorem onames_ok (ρ : Env) (o : SObj) : (γO ρ o).names = o.names := by
  cases o with
  | box cs => exact snames_ok ρ cs
  | _ => rfl

theorem oren_ok (ρ : Env) (r : Key → Key) (o : SObj) : (γO ρ o).ren r = γO ρ (o.ren r) := by
  cases o with
  | box cs => simp only [γO, Obj.ren, SObj.ren, sren_ok]
  | _ => rfl

mutual
def SV.norm : SV → SV
  | .d e => .d e.norm
  | .g cs => .g (snorm cs)
  | x => x
def snorm : List SV → List SV
  | [] => []
  | c :: cs => SV.norm c :: snorm cs
end

mutual
/-- All data are of one cell. -/
def SV.ones : SV → Bool
  | .d e => e.isOne
  | .g cs => sones cs
  | _ => true
def sones : List SV → Bool
  | [] => true
  | c :: cs => SV.ones c && sones cs
end

mutual
theorem vnorm_ok (ρ : Env) : ∀ v : SV, v.ones = true → (γX ρ v).norm = γX ρ v.norm
  | .d e, h => by simp only [γX, X.norm, SV.norm]; rw [norm_dat (by simpa [SV.ones] using h)]
  | .g cs, h => by simp only [γX, X.norm, SV.norm]; rw [snorm_ok ρ cs (by simpa [SV.ones] using h)]
  | .o _ _, _ => rfl
  | .p _ _, _ => rfl
  | .e _ _ _ _, _ => rfl
  | .t _, _ => rfl
  | .f _ _, _ => rfl
  | .u, _ => rfl
theorem snorm_ok (ρ : Env) : ∀ cs : List SV, sones cs = true → normL (γXs ρ cs) = γXs ρ (snorm cs)
  | [], _ => rfl
  | c :: cs, h => by
    simp only [sones, Bool.and_eq_true] at h
    simp only [γXs, normL, snorm]
    rw [vnorm_ok ρ c h.1, snorm_ok ρ cs h.2]
end

/-! ### Names of arrays by what they hold now -/

mutual
def freshV (look : Key → Option E) : SV → SV
  | .o k l => match look k with
    | some l' => if l.lsame l' then .o k l' else .o k l
    | none => .o k l
  | .e k l i off => match look k with
    | some l' => if l.lsame l' then .e k l' i off else .e k l i off
    | none => .e k l i off
  | .g cs => .g (freshVs look cs)
  | .t cs => .t (freshVs look cs)
  | .f fn cs => .f fn (freshVs look cs)
  | v => v
def freshVs (look : Key → Option E) : List SV → List SV
  | [] => []
  | c :: cs => freshV look c :: freshVs look cs
end

mutual
theorem freshV_ok (ρ : Env) (look : Key → Option E) : ∀ v : SV, γX ρ (freshV look v) = γX ρ v
  | .o k l => by
    simp only [freshV]
    split
    · split
      · rename_i h; simp only [γX, lsame_len h ρ]
      · rfl
    · rfl
  | .e k l i off => by
    simp only [freshV]
    split
    · split
      · rename_i h; simp only [γX, lsame_len h ρ]
      · rfl
    · rfl
  | .g cs => by simp only [freshV, γX, freshVs_ok ρ look cs]
  | .t cs => by simp only [freshV, γX, freshVs_ok ρ look cs]
  | .f _ cs => by simp only [freshV, γX, freshVs_ok ρ look cs]
  | .d _ => rfl
  | .p _ _ => rfl
  | .u => rfl
theorem freshVs_ok (ρ : Env) (look : Key → Option E) : ∀ cs : List SV, γXs ρ (freshVs look cs) = γXs ρ cs
  | [] => rfl
  | c :: cs => by simp only [freshVs, γXs, freshV_ok ρ look c, freshVs_ok ρ look cs]
end

def freshO (look : Key → Option E) : SObj → SObj
  | .box cs => .box (freshVs look cs)
  | o => o

theorem freshO_ok (ρ : Env) (look : Key → Option E) (o : SObj) : γO ρ (freshO look o) = γO ρ o := by
  cases o with
  | box cs => simp only [freshO, γO, freshVs_ok]
  | _ => rfl

/-- What an array holds. -/
def holds? (m : SMem) (k : Key) : Option E := match m.lookup k with
  | some (.arr _ _ l _) => some l
  | _ => none

/-! ### Matching with a template -/

/-- Pairs of a template's expressions and what stands there. -/
def mv : SV → SV → Option (List (E × E))
  | .d p, .d e => some [(p, e)]
  | .g ps, .g es => mvs ps es
  | .o k p, .o k' l => if k == k' then some [(.s p, .s l)] else none
  | .p k off, .p k' off' => if k == k' && off == off' then some [] else none
  | .f fn ps, .f fn' es => if fn == fn' then mvs ps es else none
  | .t ps, .t es => mvs ps es
  | .u, .u => some []
  | _, _ => none
where
  mvs : List SV → List SV → Option (List (E × E))
  | [], [] => some []
  | p :: ps, e :: es => match mv p e with
    | some a => match mvs ps es with
      | some b => some (a ++ b)
      | none => none
    | none => none
  | _, _ => none

def mo : SObj → SObj → Option (List (E × E))
  | .box ps, .box es => mv.mvs ps es
  | .arr ty sz p rw, .arr ty' sz' l rw' => if ty == ty' && sz == sz' && rw == rw' then some [(.s p, .s l)] else none
  | .dead, .dead => some []
  | _, _ => none

def mos : List SObj → List SObj → Option (List (E × E))
  | [], [] => some []
  | p :: ps, e :: es => match mo p e with
    | some a => match mos ps es with
      | some b => some (a ++ b)
      | none => none
    | none => none
  | _, _ => none

theorem s_inj {ρ ρ' : Env} {p l : E} (h : dat ρ' (.s p) = dat ρ (.s l)) : lst ρ' p = lst ρ l := by
  have : D.s (lst ρ' p) = D.s (lst ρ l) := h
  injection this

mutual
theorem mv_ok {ρ ρ' : Env} : ∀ (p v : SV) (l : List (E × E)), mv p v = some l → (∀ q ∈ l, dat ρ' q.1 = dat ρ q.2) → γX ρ' p = γX ρ v
  | .d p, v, l, h, hl => by
    cases v with
    | d e =>
      simp only [mv, Option.some.injEq] at h; subst h
      simp only [γX]; rw [hl (p, e) (by simp)]
    | _ => simp [mv] at h
  | .g ps, v, l, h, hl => by
    cases v <;> simp [mv] at h
    simp only [γX]; rw [mvs_ok ps _ l h hl]
  | .o k p, v, l, h, hl => by
    cases v with
    | o k' l' =>
      simp [mv] at h
      obtain ⟨rfl, rfl⟩ := h
      simp only [γX]; rw [s_inj (hl (.s p, .s l') (by simp))]
    | _ => simp [mv] at h
  | .p k off, v, l, h, hl => by
    cases v <;> simp [mv] at h
    obtain ⟨⟨rfl, rfl⟩, rfl⟩ := h; rfl
  | .e _ _ _ _, v, l, h, hl => by cases v <;> simp [mv] at h
  | .f fn ps, v, l, h, hl => by
    cases v <;> simp [mv] at h
    obtain ⟨rfl, h⟩ := h
    simp only [γX]; rw [mvs_ok ps _ l h hl]
  | .t ps, v, l, h, hl => by
    cases v <;> simp [mv] at h
    simp only [γX]; rw [mvs_ok ps _ l h hl]
  | .u, v, l, h, hl => by
    cases v <;> simp [mv] at h; rfl
theorem mvs_ok {ρ ρ' : Env} : ∀ (ps vs : List SV) (l : List (E × E)), mv.mvs ps vs = some l → (∀ q ∈ l, dat ρ' q.1 = dat ρ q.2) → γXs ρ' ps = γXs ρ vs
  | [], [], _, _, _ => rfl
  | [], _ :: _, _, h, _ => by simp [mv.mvs] at h
  | _ :: _, [], _, h, _ => by simp [mv.mvs] at h
  | p :: ps, v :: vs, l, h, hl => by
    simp only [mv.mvs] at h
    split at h
    · rename_i a ha
      split at h
      · rename_i b hb
        simp only [Option.some.injEq] at h; subst h
        simp only [γXs]
        rw [mv_ok p v a ha (fun q hq => hl q (by simp [hq])), mvs_ok ps vs b hb (fun q hq => hl q (by simp [hq]))]
      · cases h
    · cases h
end

theorem mo_ok {ρ ρ' : Env} {p o : SObj} {l : List (E × E)} (h : mo p o = some l) (hl : ∀ q ∈ l, dat ρ' q.1 = dat ρ q.2) : γO ρ' p = γO ρ o := by
  cases p with
  | box ps =>
    cases o <;> simp [mo] at h
    simp only [γO]; rw [mvs_ok _ _ l h hl]
  | arr ty sz p rw =>
    cases o with
    | arr ty' sz' l' rw' =>
      simp [mo] at h
      obtain ⟨⟨⟨rfl, rfl⟩, rfl⟩, rfl⟩ := h
      simp only [γO]; rw [s_inj (hl (.s p, .s l') (by simp))]
    | _ => simp [mo] at h
  | dead => cases o <;> simp [mo] at h; rfl

theorem mos_ok {ρ ρ' : Env} : ∀ (ps os : List SObj) (l : List (E × E)), mos ps os = some l → (∀ q ∈ l, dat ρ' q.1 = dat ρ q.2) → ps.map (γO ρ') = os.map (γO ρ)
  | [], [], _, _, _ => rfl
  | [], _ :: _, _, h, _ => by simp [mos] at h
  | _ :: _, [], _, h, _ => by simp [mos] at h
  | p :: ps, v :: vs, l, h, hl => by
    simp only [mos] at h
    split at h
    · rename_i a ha
      split at h
      · rename_i b hb
        simp only [Option.some.injEq] at h; subst h
        simp only [List.map_cons]
        rw [mo_ok ha (fun q hq => hl q (by simp [hq])), mos_ok ps vs b hb (fun q hq => hl q (by simp [hq]))]
      · cases h
    · cases h

def normed : E → Bool
  | .vc (.slice none 0 0) => false
  | e => e.isOne

theorem normed_ok {e : E} (h : normed e = true) (ρ : Env) : (dat ρ e).norm = dat ρ e := by
  unfold normed at h
  split at h
  · cases h
  · rename_i hne
    have := norm_dat h ρ
    rw [← this]
    unfold E.norm
    split
    · exact absurd rfl hne
    · rfl

/-- The atom of a shape's expression. -/
def atomOf : E → Option Nat
  | .da j => some j
  | .vi _ (.v j) => some j
  | .vb (.v j) => some j
  | .s (.v j) => some j
  | _ => none

def fit1 : E → E → Option E
  | .da _, e => if normed e then some e else none
  | .vi k (.v _), .vi k' x => if k == k' then some x else none
  | .vb (.v _), .vb x => some x
  | .s (.v _), .s x => some x
  | _, _ => none

def fitOld (c : Nat) (p e : E) : Option (Option (Nat × E)) := if p.under c && p.same e then some none else none

/-- An atom's value, by what stands at its place. -/
def fit (c : Nat) (p e : E) : Option (Option (Nat × E)) := match atomOf p with
  | some j => if c ≤ j then (match fit1 p e with | some x => some (some (j, x)) | none => none) else fitOld c p e
  | none => fitOld c p e

def fits (c : Nat) : List (E × E) → Option (List (Nat × E))
  | [] => some []
  | (p, e) :: l => match fit c p e with
    | some r => match fits c l with
      | some bs => some (match r with | some b => b :: bs | none => bs)
      | none => none
    | none => none

/-- Each atom has one value. -/
def consis (bs : List (Nat × E)) : Bool := bs.all fun b => match bs.lookup b.1 with
  | some x => x.same b.2
  | none => false

def envOf (c : Nat) (ρ : Env) (bs : List (Nat × E)) : Env := fun j => if j < c then ρ j else match bs.lookup j with
  | some x => den ρ x
  | none => ρ j

theorem envOf_agree (c : Nat) (ρ : Env) (bs : List (Nat × E)) : agree c ρ (envOf c ρ bs) := fun j hj => by simp [envOf, hj]

theorem oneOf_norm {x : D} (h : x.one = true) : oneOf x = x.norm := by unfold oneOf; rw [if_pos h]

theorem fit1_ok {p e x : E} {j : Nat} {ρ ρ' : Env} (hj : atomOf p = some j) (h : fit1 p e = some x) (hr : ρ' j = den ρ x) :
    dat ρ' p = dat ρ e := by
  unfold fit1 at h
  split at h
  · simp only [atomOf, Option.some.injEq] at hj; subst hj
    split at h
    · rename_i ho
      simp only [Option.some.injEq] at h; subst h
      have h1 : e.isOne = true := by
        unfold normed at ho; split at ho
        · cases ho
        · exact ho
      show oneOf (V.dat (ρ' _)) = _
      rw [hr]
      show oneOf (dat ρ e) = _
      rw [oneOf_norm (isOne_one h1 ρ), normed_ok ho]
    · cases h
  · simp only [atomOf, Option.some.injEq] at hj; subst hj
    split at h
    · rename_i k j k' x' hk
      simp only [Option.some.injEq] at h; subst h
      have hk : k = k' := by simpa using hk
      subst hk
      show D.v (.int k (V.int (ρ' _))) = D.v (.int k (den ρ x').int)
      rw [hr]
    · cases h
  · simp only [atomOf, Option.some.injEq] at hj; subst hj
    simp only [Option.some.injEq] at h; subst h
    rename_i j x'
    show D.v (.bool (V.bool (ρ' _))) = D.v (.bool (den ρ x').bool)
    rw [hr]
  · simp only [atomOf, Option.some.injEq] at hj; subst hj
    simp only [Option.some.injEq] at h; subst h
    rename_i j x'
    show D.s (V.lst (ρ' _)) = D.s (den ρ x').lst
    rw [hr]
  · cases h

theorem fitOld_ok {c : Nat} {p e : E} {r : Option (Nat × E)} {ρ ρ' : Env} (h : fitOld c p e = some r) (ha : agree c ρ ρ') : r = none ∧ dat ρ' p = dat ρ e := by
  unfold fitOld at h
  split at h
  · rename_i h1
    simp only [Bool.and_eq_true] at h1
    simp only [Option.some.injEq] at h
    refine ⟨h.symm, ?_⟩
    unfold dat
    rw [under_eq ha p h1.1, same_eq _ _ h1.2]
  · cases h

/-- What a pair says: the template's data are those. -/
theorem fit_ok {c : Nat} {p e : E} {r : Option (Nat × E)} {ρ ρ' : Env} (h : fit c p e = some r) (ha : agree c ρ ρ') (hr : ∀ j x, r = some (j, x) → ρ' j = den ρ x) :
    dat ρ' p = dat ρ e := by
  unfold fit at h
  split at h
  · rename_i j hj
    split at h
    · split at h
      · rename_i x hx
        simp only [Option.some.injEq] at h
        exact fit1_ok hj hx (hr _ _ h.symm)
      · cases h
    · exact (fitOld_ok h ha).2
  · exact (fitOld_ok h ha).2

theorem fits_mem {c : Nat} : ∀ (l : List (E × E)) (bs : List (Nat × E)), fits c l = some bs → ∀ q ∈ l, ∃ r, fit c q.1 q.2 = some r ∧ ∀ b, r = some b → b ∈ bs
  | [], bs, h, q, hq => by simp at hq
  | (p, e) :: l, bs, h, q, hq => by
    simp only [fits] at h
    split at h
    · rename_i r hr
      split at h
      · rename_i bs' hbs
        simp only [Option.some.injEq] at h; subst h
        rcases List.mem_cons.1 hq with rfl | hq
        · exact ⟨r, hr, fun b hb => by subst hb; simp⟩
        · obtain ⟨r', h1, h2⟩ := fits_mem l bs' hbs q hq
          refine ⟨r', h1, fun b hb => ?_⟩
          have := h2 b hb
          cases r <;> simp [this]
      · cases h
    · cases h

theorem consis_ok {c : Nat} {ρ : Env} {bs : List (Nat × E)} (h : consis bs = true) {b : Nat × E} (hb : b ∈ bs) (hc : c ≤ b.1) : envOf c ρ bs b.1 = den ρ b.2 := by
  unfold consis at h
  have := List.all_eq_true.1 h b hb
  unfold envOf
  rw [if_neg (by omega)]
  split at this
  · rename_i x hx
    exact same_eq _ _ this ρ
  · cases this

theorem fit_ge {c : Nat} {p e : E} {j : Nat} {x : E} (h : fit c p e = some (some (j, x))) : c ≤ j := by
  unfold fit at h
  split at h
  · split at h
    · rename_i hc
      split at h
      · simp only [Option.some.injEq, Prod.mk.injEq] at h
        obtain ⟨rfl, _⟩ := h; exact hc
      · cases h
    · exact absurd (fitOld_ok (ρ := fun _ => .i 0) (ρ' := fun _ => .i 0) h (fun _ _ => rfl)).1 (by simp)
  · exact absurd (fitOld_ok (ρ := fun _ => .i 0) (ρ' := fun _ => .i 0) h (fun _ _ => rfl)).1 (by simp)

/-- A template's expressions, by what stands there. -/
theorem fits_ok {c : Nat} {ρ : Env} {l : List (E × E)} {bs : List (Nat × E)} (h : fits c l = some bs) (hc : consis bs = true) {q : E × E} (hq : q ∈ l) :
    dat (envOf c ρ bs) q.1 = dat ρ q.2 := by
  obtain ⟨r, h1, h2⟩ := fits_mem l bs h q hq
  refine fit_ok h1 (envOf_agree c ρ bs) fun j x hr => ?_
  subst hr
  exact consis_ok hc (h2 _ rfl) (fit_ge h1)


/-! ### Signatures -/

/-- What a function on data comes to. -/
inductive RSh where | one (s : Sh) | tup (ss : List Sh)

def Sh.leaves : Sh → List Sh1
  | .one a => [a]
  | .g as => as
  | .q as => as

def RSh.leaves : RSh → List Sh1
  | .one s => s.leaves
  | .tup ss => ss.flatMap Sh.leaves

/-- A function on data: its parameters (what it has captured last), what it comes to; whether that is plain. -/
structure DSig where
  pars : List Sh
  res : RSh
  flat : Bool

/-- A function that is handed own memory: what it is handed, under the names 0, 1, ..; what each cell holds; what it comes to, what lies under the names then. -/
structure XSig where
  args : List SV
  objs : List SObj
  ins : List Sh1
  res : SV
  robjs : List SObj
  outs : List Sh1

inductive Sig where | d (s : DSig) | x (s : XSig)

def flattenD : List Sh → List D → Option (List D)
  | [], [] => some []
  | .one _ :: ss, d :: ds => (flattenD ss ds).map (d :: ·)
  | .g as :: ss, .g cs :: ds => if cs.length = as.length then (flattenD ss ds).map (cs ++ ·) else none
  | _, _ => none

def splitD : List Sh → List D → Option (List D)
  | [], [] => some []
  | .one _ :: ss, d :: ds => if d.one then (splitD ss ds).map (d :: ·) else none
  | .g as :: ss, ds => if as.length ≤ ds.length then (splitD ss (ds.drop as.length)).map (.g (ds.take as.length) :: ·) else none
  | _, _ => none

def buildR : RSh → List D → Option D
  | .one (.one _), [d] => if d.one then some d else none
  | .one (.g as), ds => if ds.length = as.length then some (.g ds) else none
  | .tup ss, ds => (splitD ss ds).map .t
  | _, _ => none

def Sh.sv : Sh → Nat → SV
  | .one a, n => .d (a.expr n)
  | .g as, n => .g ((exprs as n).map .d)
  | .q as, n => .d (.q (consE (exprs as n)))

def svs : List Sh → Nat → List SV
  | [], _ => []
  | s :: ss, n => s.sv n :: svs ss (n + s.leaves.length)

def RSh.sv : RSh → Nat → SV
  | .one s, n => s.sv n
  | .tup ss, n => .t (svs ss n)

def noQ : Sh → Bool
  | .q _ => false
  | _ => true

def RSh.ok : RSh → Bool
  | .one s => noQ s
  | .tup ss => ss.all noQ

theorem exprs_append : ∀ (as bs : List Sh1) (n : Nat), exprs (as ++ bs) n = exprs as n ++ exprs bs (n + as.length)
  | [], bs, n => by simp [exprs]
  | a :: as, bs, n => by
    simp only [List.cons_append, exprs, exprs_append as bs (n + 1), List.length_cons]
    rw [show n + 1 + as.length = n + (as.length + 1) by omega]

theorem ofD1_one {x : D} (h : x.one = true) : X.ofD1 x = .d x := by
  cases x with
  | g => cases h
  | _ => rfl

theorem ofD_one {x : D} (h : x.one = true) : X.ofD x = .d x := by
  cases x with
  | g => cases h
  | t => cases h
  | _ => rfl

theorem splitD_ok (ρ : Env) : ∀ (ss : List Sh) (n : Nat), ss.all noQ = true → ∃ ds, splitD ss ((exprs (ss.flatMap Sh.leaves) n).map (dat ρ)) = some ds ∧ ds.map X.ofD1 = γXs ρ (svs ss n)
  | [], n, _ => ⟨[], rfl, rfl⟩
  | .one a :: ss, n, h => by
    simp only [List.all_cons, Bool.and_eq_true] at h
    obtain ⟨ds, h1, h2⟩ := splitD_ok ρ ss (n + 1) h.2
    have ho := isOne_one (Sh1_isOne a n) ρ
    refine ⟨dat ρ (a.expr n) :: ds, ?_, ?_⟩
    · show splitD (.one a :: ss) (dat ρ (a.expr n) :: (exprs (ss.flatMap Sh.leaves) (n + 1)).map (dat ρ)) = _
      simp only [splitD, ho, if_true, h1, Option.map_some]
    · simp only [List.map_cons, svs, γXs, Sh.sv, γX, ofD1_one ho]
      rw [h2]; rfl
  | .g as :: ss, n, h => by
    simp only [List.all_cons, Bool.and_eq_true] at h
    obtain ⟨ds, h1, h2⟩ := splitD_ok ρ ss (n + as.length) h.2
    refine ⟨.g ((exprs as n).map (dat ρ)) :: ds, ?_, ?_⟩
    · simp only [List.flatMap_cons, Sh.leaves, exprs_append, List.map_append, splitD]
      rw [if_pos (by simp [exprs_length]), List.drop_left' (by simp [exprs_length]), List.take_left' (by simp [exprs_length]), h1]; rfl
    · simp only [List.map_cons, svs, γXs, Sh.sv, γX, X.ofD1, γXs_map, map_dat, Sh.leaves]
      rw [h2, γXs_map]
  | .q as :: ss, n, h => by simp [noQ] at h

theorem buildR_ok (ρ : Env) (r : RSh) (n : Nat) (h : r.ok = true) : ∃ d, buildR r ((exprs r.leaves n).map (dat ρ)) = some d ∧ X.ofD d = γX ρ (r.sv n) := by
  cases r with
  | one s =>
    cases s with
    | one a =>
      have ho := isOne_one (Sh1_isOne a n) ρ
      refine ⟨dat ρ (a.expr n), ?_, ?_⟩
      · show buildR (.one (.one a)) [dat ρ (a.expr n)] = _
        simp only [buildR, ho, if_true]
      · simp only [RSh.sv, Sh.sv, γX, ofD_one ho]
    | g as =>
      refine ⟨.g ((exprs as n).map (dat ρ)), ?_, ?_⟩
      · simp only [RSh.leaves, Sh.leaves, buildR, List.length_map, exprs_length, if_true]
      · simp only [RSh.sv, Sh.sv, γX, X.ofD, X.ofD1, γXs_map, map_dat]
    | q as => cases h
  | tup ss =>
    obtain ⟨ds, h1, h2⟩ := splitD_ok ρ ss n h
    refine ⟨.t ds, ?_, ?_⟩
    · simp only [RSh.leaves, buildR, h1, Option.map_some]
    · simp only [RSh.sv, γX, X.ofD, h2]

def plainSh : Sh1 → Bool
  | .i _ | .b => true
  | _ => false

theorem flat_exprs (ρ : Env) : ∀ (as : List Sh1) (n : Nat), as.all plainSh = true → flats ((exprs as n).map (dat ρ)) = true
  | [], n, _ => rfl
  | a :: as, n, h => by
    simp only [List.all_cons, Bool.and_eq_true] at h
    simp only [exprs, List.map_cons, flats, flat_exprs ρ as (n + 1) h.2, Bool.and_true]
    cases a <;> first | rfl | (exact absurd h.1 (by simp [plainSh]))

theorem flats_take : ∀ (n : Nat) (ds : List D), flats ds = true → flats (ds.take n) = true ∧ flats (ds.drop n) = true
  | 0, ds, h => ⟨by simp [flats], by simpa using h⟩
  | n + 1, [], h => ⟨rfl, rfl⟩
  | n + 1, d :: ds, h => by
    simp only [flats, Bool.and_eq_true] at h
    obtain ⟨h1, h2⟩ := flats_take n ds h.2
    exact ⟨by simp only [List.take_succ_cons, flats, h.1, h1, Bool.and_self], by simpa using h2⟩

theorem splitD_flat : ∀ (ss : List Sh) (ls ds : List D), splitD ss ls = some ds → flats ls = true → flats ds = true
  | [], [], ds, h, _ => by simp only [splitD, Option.some.injEq] at h; subst h; rfl
  | [], _ :: _, ds, h, _ => by simp [splitD] at h
  | .one a :: ss, [], ds, h, _ => by simp [splitD] at h
  | .one a :: ss, d :: ls, ds, h, hf => by
    simp only [flats, Bool.and_eq_true] at hf
    simp only [splitD] at h
    split at h
    · cases hs : splitD ss ls with
      | none => simp [hs] at h
      | some ds' =>
        simp only [hs, Option.map_some, Option.some.injEq] at h; subst h
        simp only [flats, hf.1, splitD_flat ss ls ds' hs hf.2, Bool.and_self]
    · cases h
  | .g as :: ss, ls, ds, h, hf => by
    simp only [splitD] at h
    split at h
    · cases hs : splitD ss (ls.drop as.length) with
      | none => simp [hs] at h
      | some ds' =>
        simp only [hs, Option.map_some, Option.some.injEq] at h; subst h
        obtain ⟨h1, h2⟩ := flats_take as.length ls hf
        simp only [flats, flat, h1, splitD_flat ss _ ds' hs h2, Bool.and_self]
    · cases h
  | .q as :: ss, ls, ds, h, hf => by simp [splitD] at h

theorem buildR_flat {r : RSh} {ls : List D} {d : D} (h : buildR r ls = some d) (hf : flats ls = true) : flat d = true := by
  unfold buildR at h
  split at h
  · split at h
    · simp only [Option.some.injEq] at h; subst h
      simpa [flats] using hf
    · cases h
  · split at h
    · simp only [Option.some.injEq] at h; subst h
      simpa [flat] using hf
    · cases h
  · rename_i ss
    cases hs : splitD ss ls with
    | none => simp [hs] at h
    | some ds =>
      simp only [hs, Option.map_some, Option.some.injEq] at h; subst h
      simp only [flat]; exact splitD_flat _ _ _ hs hf
  · cases h

/-! ### Functions on data -/

def dspec (s : DSig) (F : List D → Option (List D)) (ds : List D) : Option D :=
  (flattenD s.pars ds).bind fun ls => (F ls).bind fun os => buildR s.res os

/-- The arguments' cells. -/
def sflatten : List Sh → List E → Option (List E)
  | [], [] => some []
  | .one _ :: ss, e :: es => (sflatten ss es).map (e :: ·)
  | .g as :: ss, .g l :: es => match l.list with
    | some cs => if cs.length = as.length then (sflatten ss es).map (cs ++ ·) else none
    | none => none
  | _, _ => none

theorem sflatten_ok (ρ : Env) : ∀ (ss : List Sh) (es ls : List E), sflatten ss es = some ls → flattenD ss (es.map (dat ρ)) = some (ls.map (dat ρ))
  | [], [], ls, h => by simp only [sflatten, Option.some.injEq] at h; subst h; rfl
  | [], _ :: _, ls, h => by simp [sflatten] at h
  | .one a :: ss, [], ls, h => by simp [sflatten] at h
  | .one a :: ss, e :: es, ls, h => by
    simp only [sflatten] at h
    cases hs : sflatten ss es with
    | none => simp [hs] at h
    | some ls' =>
      simp only [hs, Option.map_some, Option.some.injEq] at h; subst h
      simp only [List.map_cons, flattenD, sflatten_ok ρ ss es ls' hs, Option.map_some]
  | .g as :: ss, es, ls, h => by
    match es, h with
    | .g l :: es, h =>
      simp only [sflatten] at h
      split at h
      · rename_i cs hl
        split at h
        · rename_i hlen
          cases hs : sflatten ss es with
          | none => simp [hs] at h
          | some ls' =>
            simp only [hs, Option.map_some, Option.some.injEq] at h; subst h
            show flattenD (.g as :: ss) (D.g (lst ρ l) :: es.map (dat ρ)) = _
            simp only [flattenD, list_lst ρ _ _ hl, List.length_map, hlen, if_true, sflatten_ok ρ ss es ls' hs, Option.map_some, List.map_append]
        · cases h
      · cases h
  | .q as :: ss, es, ls, h => by cases es <;> simp [sflatten] at h

section
variable {B : Tb} {ρ : Env}

def spur : Nat → SV → SMP E
  | 0, _ => .fail
  | _ + 1, .d e => if e.isOne then .ret e.norm else .fail
  | _ + 1, .o k l => .get k fun
    | .arr _ _ l' _ => if l.lsame l' then .ret (.s l') else .fail
    | _ => .fail
  | n + 1, .p k off => .get k fun
    | .box cs => if off < cs.length then (spurs n (cs.drop off)).bind fun ds => .ret (.q (consE ds)) else .fail
    | _ => .fail
  | n + 1, .f fn cs => if cs.all sone then (spurs n cs).bind fun ds => .ret (.fn fn (consE ds)) else .fail
  | n + 1, .g cs => (spurs n cs).bind fun ds => .ret (.g (consE ds))
  | _ + 1, _ => .fail
where
  spurs : Nat → List SV → SMP (List E)
  | _, [] => .ret []
  | 0, _ => .fail
  | n + 1, x :: xs => (spur n x).bind fun d => (spurs n xs).bind fun ds => .ret (d :: ds)

def fEs (ρ : Env) (l : List E) : List D := l.map (dat ρ)

mutual
theorem spur_ok : ∀ (n : Nat) (v : SV), (spur n v).Ok B ρ (dat ρ) (pur n (γX ρ v))
  | 0, v => trivial
  | n + 1, .d e => by
    simp only [spur]
    split
    · rename_i h
      simp only [γX, pur, SMP.Ok, norm_dat h]
    · trivial
  | n + 1, .o k l => by
    refine ⟨_, rfl, fun o => ?_⟩
    cases o with
    | arr ty sz l' rw =>
      simp only [γO]
      split
      · rename_i h
        rw [if_pos (lsame_len h ρ)]; rfl
      · trivial
    | _ => trivial
  | n + 1, .p k off => by
    refine ⟨_, rfl, fun o => ?_⟩
    cases o with
    | box cs =>
      simp only [γO, γXs_map, List.length_map]
      split
      · rw [← List.map_drop]
        refine SMP.bind_ok (f := fEs ρ) (fun ds => ?_) _ _ (spurs_ok n (cs.drop off))
        show MP.ret _ = MP.ret (D.q (lst ρ (consE ds)))
        rw [lst_consE]; rfl
      · trivial
    | _ => trivial
  | n + 1, .f fn cs => by
    simp only [spur, γX, pur]
    split
    · rename_i h
      rw [if_pos (by rw [γXs_map]; exact sones_ok h ρ), γXs_map]
      refine SMP.bind_ok (f := fEs ρ) (fun ds => ?_) _ _ (spurs_ok n cs)
      show MP.ret _ = MP.ret (D.f fn (lst ρ (consE ds)))
      rw [lst_consE]; rfl
    · trivial
  | n + 1, .g cs => by
    simp only [spur, γX, pur, γXs_map]
    refine SMP.bind_ok (f := fEs ρ) (fun ds => ?_) _ _ (spurs_ok n cs)
    show MP.ret _ = MP.ret (D.g (lst ρ (consE ds)))
    rw [lst_consE]; rfl
  | n + 1, .e _ _ _ _ => trivial
  | n + 1, .t _ => trivial
  | n + 1, .u => trivial
theorem spurs_ok : ∀ (n : Nat) (vs : List SV), (spur.spurs n vs).Ok B ρ (fEs ρ) (pur.purs n (vs.map (γX ρ)))
  | 0, [] => rfl
  | n + 1, [] => rfl
  | 0, _ :: _ => trivial
  | n + 1, v :: vs => by
    show SMP.Ok B ρ (fEs ρ) ((spur n v).bind fun d => (spur.spurs n vs).bind fun ds => .ret (d :: ds)) ((pur n (γX ρ v)).bind fun d => (pur.purs n (vs.map (γX ρ))).bind fun ds => .ret (d :: ds))
    refine SMP.bind_ok (f := dat ρ) (fun d => ?_) _ _ (spur_ok n v)
    refine SMP.bind_ok (f := fEs ρ) (fun ds => ?_) _ _ (spurs_ok n vs)
    rfl
end

mutual
def stake : SV → SMP E
  | .d e => if e.isOne then .ret e.norm else .fail
  | .g cs => (stakes cs).bind fun ds => .ret (.g (consE ds))
  | .f fn cs => if cs.all sone then (stakes cs).bind fun ds => .ret (.fn fn (consE ds)) else .fail
  | .o k l => .get k fun
    | .arr ty sz l' _ => if l.lsame l' then .put k (.arr ty sz l' false) (.ret (.s l')) else .fail
    | _ => .fail
  | _ => .fail
def stakes : List SV → SMP (List E)
  | [] => .ret []
  | c :: cs => (stake c).bind fun d => (stakes cs).bind fun ds => .ret (d :: ds)
end

mutual
theorem stake_ok : ∀ (v : SV), (stake v).Ok B ρ (dat ρ) (take (γX ρ v))
  | .d e => by
    simp only [stake]
    split
    · rename_i h
      simp only [γX, take, SMP.Ok, norm_dat h]
    · trivial
  | .o k l => by
    refine ⟨_, rfl, fun o => ?_⟩
    cases o with
    | arr ty sz l' rw =>
      simp only [γO]
      split
      · rename_i h
        rw [if_pos (lsame_len h ρ)]
        exact ⟨_, rfl, rfl⟩
      · trivial
    | _ => trivial
  | .g cs => by
    simp only [stake, γX, take, γXs_map]
    refine SMP.bind_ok (f := fEs ρ) (fun ds => ?_) _ _ (stakes_ok cs)
    show MP.ret _ = MP.ret (D.g (lst ρ (consE ds)))
    rw [lst_consE]; rfl
  | .f fn cs => by
    simp only [stake, γX, take]
    split
    · rename_i h
      rw [if_pos (by rw [γXs_map]; exact sones_ok h ρ), γXs_map]
      refine SMP.bind_ok (f := fEs ρ) (fun ds => ?_) _ _ (stakes_ok cs)
      show MP.ret _ = MP.ret (D.f fn (lst ρ (consE ds)))
      rw [lst_consE]; rfl
    · trivial
  | .p _ _ => trivial
  | .e _ _ _ _ => trivial
  | .t _ => trivial
  | .u => trivial
theorem stakes_ok : ∀ (vs : List SV), (stakes vs).Ok B ρ (fEs ρ) (takes (vs.map (γX ρ)))
  | [] => rfl
  | v :: vs => by
    simp only [stakes, List.map_cons, takes]
    refine SMP.bind_ok (f := dat ρ) (fun d => ?_) _ _ (stake_ok v)
    refine SMP.bind_ok (f := fEs ρ) (fun ds => ?_) _ _ (stakes_ok vs)
    rfl
end

end

end Go.Tm
end

section
/- Symbolic execution of the machine over trees: calls. -/
namespace Go.Tm

/-! ### What a function that is handed own memory comes to -/

def numS (i : Nat) : List SObj → SMem
  | [] => []
  | o :: os => (i, o) :: numS (i + 1) os

theorem numS_lookup : ∀ (os : List SObj) (a k : Nat), (numS a os).lookup k = if a ≤ k then os[k - a]? else none
  | [], a, k => by simp [numS]
  | o :: os, a, k => by
    simp only [numS, List.lookup_cons]
    by_cases h : k = a
    · subst h; simp
    · have hb : (k == a) = false := by simpa using h
      rw [hb, numS_lookup os (a + 1) k]
      by_cases hlt : a ≤ k
      · have e : k - a = (k - (a + 1)) + 1 := by omega
        rw [if_pos (by omega), if_pos hlt, e, List.getElem?_cons_succ]
      · rw [if_neg (by omega), if_neg hlt]

theorem γm_numS (ρ : Env) (os : List SObj) : γm ρ (numS 0 os) = memOf (numbered 0 (os.map (γO ρ))) := by
  funext k
  simp only [γm, memOf, numbered_lookup, numS_lookup, Nat.zero_le, if_true, Nat.sub_zero, List.getElem?_map]

mutual
/-- The data in it. -/
def SV.lv : SV → List E
  | .d e => [e]
  | .g cs => slv cs
  | .t cs => slv cs
  | .f _ cs => slv cs
  | _ => []
def slv : List SV → List E
  | [] => []
  | c :: cs => SV.lv c ++ slv cs
end

mutual
/-- .. and what else it hangs on. -/
def SV.lv2 : SV → List E
  | .d e => [e]
  | .g cs => slv2 cs
  | .t cs => slv2 cs
  | .f _ cs => slv2 cs
  | .o _ l => [.s l]
  | .e _ l i _ => [.s l, .vi .i64 i]
  | _ => []
def slv2 : List SV → List E
  | [] => []
  | c :: cs => SV.lv2 c ++ slv2 cs
end

def SObj.lv : SObj → List E
  | .box cs => slv cs
  | .arr _ _ l _ => [.s l]
  | .dead => []

def SObj.lv2 : SObj → List E
  | .box cs => slv2 cs
  | .arr _ _ l _ => [.s l]
  | .dead => []

section
variable {ρ ρ' : Env}

mutual
theorem lv_ok : ∀ v : SV, γX ρ v = γX ρ' v → ∀ e ∈ v.lv, dat ρ e = dat ρ' e
  | .d e, h, e', he => by
    simp only [SV.lv, List.mem_singleton] at he; subst he
    simp only [γX] at h; injection h
  | .g cs, h, e', he => by simp only [γX] at h; injection h with h; exact slv_ok cs h e' (by simpa [SV.lv] using he)
  | .t cs, h, e', he => by simp only [γX] at h; injection h with h; exact slv_ok cs h e' (by simpa [SV.lv] using he)
  | .f _ cs, h, e', he => by simp only [γX] at h; injection h with _ h; exact slv_ok cs h e' (by simpa [SV.lv] using he)
  | .o _ _, _, e', he => by simp [SV.lv] at he
  | .p _ _, _, e', he => by simp [SV.lv] at he
  | .e _ _ _ _, _, e', he => by simp [SV.lv] at he
  | .u, _, e', he => by simp [SV.lv] at he
theorem slv_ok : ∀ cs : List SV, γXs ρ cs = γXs ρ' cs → ∀ e ∈ slv cs, dat ρ e = dat ρ' e
  | [], _, e', he => by simp [slv] at he
  | c :: cs, h, e', he => by
    simp only [γXs, List.cons.injEq] at h
    simp only [slv, List.mem_append] at he
    rcases he with he | he
    · exact lv_ok c h.1 e' he
    · exact slv_ok cs h.2 e' he
end

mutual
theorem lv2_ok : ∀ v : SV, (∀ e ∈ v.lv2, dat ρ e = dat ρ' e) → γX ρ v = γX ρ' v
  | .d e, h => by simp only [γX]; rw [h e (by simp [SV.lv2])]
  | .g cs, h => by simp only [γX]; rw [slv2_ok cs (fun e he => h e (by simpa [SV.lv2] using he))]
  | .t cs, h => by simp only [γX]; rw [slv2_ok cs (fun e he => h e (by simpa [SV.lv2] using he))]
  | .f _ cs, h => by simp only [γX]; rw [slv2_ok cs (fun e he => h e (by simpa [SV.lv2] using he))]
  | .o _ l, h => by simp only [γX]; rw [s_inj (h (.s l) (by simp [SV.lv2]))]
  | .p _ _, _ => rfl
  | .e _ l i _, h => by
    simp only [γX]; rw [s_inj (h (.s l) (by simp [SV.lv2]))]
    have : D.v (.int .i64 (int ρ i)) = D.v (.int .i64 (int ρ' i)) := h (.vi .i64 i) (by simp [SV.lv2])
    simp only [D.v.injEq, Value.int.injEq, true_and] at this
    rw [this]
  | .u, _ => rfl
theorem slv2_ok : ∀ cs : List SV, (∀ e ∈ slv2 cs, dat ρ e = dat ρ' e) → γXs ρ cs = γXs ρ' cs
  | [], _ => rfl
  | c :: cs, h => by
    simp only [γXs]
    rw [lv2_ok c (fun e he => h e (by simp [slv2, he])), slv2_ok cs (fun e he => h e (by simp [slv2, he]))]
end

theorem olv_ok (o : SObj) (h : γO ρ o = γO ρ' o) : ∀ e ∈ o.lv, dat ρ e = dat ρ' e := by
  intro e he
  cases o with
  | box cs => simp only [γO] at h; injection h with h; exact slv_ok cs h e he
  | arr ty sz l rw =>
    simp only [SObj.lv, List.mem_singleton] at he; subst he
    simp only [γO] at h; injection h with _ _ h
    show D.s (lst ρ l) = D.s (lst ρ' l)
    rw [h]
  | dead => simp [SObj.lv] at he

theorem olv2_ok (o : SObj) (h : ∀ e ∈ o.lv2, dat ρ e = dat ρ' e) : γO ρ o = γO ρ' o := by
  cases o with
  | box cs => simp only [γO]; rw [slv2_ok cs h]
  | arr ty sz l rw => simp only [γO]; rw [s_inj (h (.s l) (by simp [SObj.lv2]))]
  | dead => rfl
end

def XSig.rel (s : XSig) (F : List D → Option (List D)) (xs : List X) (os : List Obj) (r : X × Mem) : Prop :=
  ∃ ρ1 ρ2, xs = γXs ρ1 s.args ∧ os = s.objs.map (γO ρ1) ∧ F ((exprs s.ins 0).map (dat ρ1)) = some ((exprs s.outs 0).map (dat ρ2)) ∧ r = (γX ρ2 s.res, γm ρ2 (numS 0 s.robjs))

def XSig.ok (s : XSig) : Bool :=
  let ls := slv s.args ++ s.objs.flatMap SObj.lv
  let os := exprs s.outs 0
  (exprs s.ins 0).all (fun e => ls.any fun x => x.same e) && (s.res.lv2 ++ s.robjs.flatMap SObj.lv2).all (fun e => os.any fun x => x.same e)

theorem any_same {l : List E} {e : E} (h : l.any (fun x => x.same e) = true) : ∃ x ∈ l, ∀ ρ, dat ρ x = dat ρ e := by
  obtain ⟨x, hx, hs⟩ := List.any_eq_true.1 h
  exact ⟨x, hx, fun ρ => same_dat hs ρ⟩

theorem XSig.rel_one {s : XSig} (hs : s.ok = true) {F : List D → Option (List D)} {xs : List X} {os : List Obj} {r r' : X × Mem} (h : s.rel F xs os r) (h' : s.rel F xs os r') : r = r' := by
  obtain ⟨ρ1, ρ2, hx, ho, hF, rfl⟩ := h
  obtain ⟨σ1, σ2, hx', ho', hF', rfl⟩ := h'
  unfold XSig.ok at hs
  simp only [Bool.and_eq_true] at hs
  have hin : (exprs s.ins 0).map (dat ρ1) = (exprs s.ins 0).map (dat σ1) := by
    refine List.map_congr_left fun e he => ?_
    obtain ⟨x, hxm, hxe⟩ := any_same (List.all_eq_true.1 hs.1 e he)
    rw [← hxe, ← hxe]
    rcases List.mem_append.1 hxm with hm | hm
    · exact slv_ok s.args (hx.symm.trans hx') x hm
    · obtain ⟨o, hom, hxo⟩ := List.mem_flatMap.1 hm
      have : s.objs.map (γO ρ1) = s.objs.map (γO σ1) := ho.symm.trans ho'
      exact olv_ok o (List.map_inj_left.1 this o hom) x hxo
  rw [hin, hF'] at hF
  simp only [Option.some.injEq] at hF
  have hout : ∀ e ∈ s.res.lv2 ++ s.robjs.flatMap SObj.lv2, dat ρ2 e = dat σ2 e := by
    intro e he
    obtain ⟨x, hxm, hxe⟩ := any_same (List.all_eq_true.1 hs.2 e he)
    rw [← hxe, ← hxe]
    exact (List.map_inj_left.1 hF x hxm).symm
  have e1 : γX ρ2 s.res = γX σ2 s.res := lv2_ok _ fun e he => hout e (by simp [he])
  have e2 : γm ρ2 (numS 0 s.robjs) = γm σ2 (numS 0 s.robjs) := by
    rw [γm_numS, γm_numS]
    congr 2
    exact List.map_congr_left fun o ho => olv2_ok o fun e he => hout e (List.mem_append_right _ (List.mem_flatMap.2 ⟨o, ho, he⟩))
  rw [e1, e2]

open Classical in
noncomputable def xspec (s : XSig) (F : List D → Option (List D)) : XSpec := fun xs os => if h : ∃ r, s.rel F xs os r then some h.choose else none

theorem xspec_eq {s : XSig} (hs : s.ok = true) {F : List D → Option (List D)} {xs : List X} {os : List Obj} {r : X × Mem} (h : s.rel F xs os r) : xspec s F xs os = some r := by
  unfold xspec
  have hex : ∃ r, s.rel F xs os r := ⟨r, h⟩
  rw [dif_pos hex, XSig.rel_one hs hex.choose_spec h]

theorem xspec_rel {s : XSig} {F : List D → Option (List D)} {xs : List X} {os : List Obj} {r : X × Mem} (h : xspec s F xs os = some r) : s.rel F xs os r := by
  unfold xspec at h
  split at h
  · rename_i hex
    simp only [Option.some.injEq] at h; subst h
    exact hex.choose_spec
  · cases h

/-! ### Atoms further on -/

def E.up (n : Nat) : E → E
  | .v j => .v (n + j)
  | .da j => .da (n + j)
  | .z m => .z m
  | .tt => .tt
  | .ff => .ff
  | .bin o k x y => .bin o k (x.up n) (y.up n)
  | .cmp o x y => .cmp o (x.up n) (y.up n)
  | .not x => .not (x.up n)
  | .beq x y => .beq (x.up n) (y.up n)
  | .len l => .len (l.up n)
  | .cv k x => .cv k (x.up n)
  | .vi k x => .vi k (x.up n)
  | .vb x => .vb (x.up n)
  | .vc x => .vc x
  | .s l => .s (l.up n)
  | .g l => .g (l.up n)
  | .q l => .q (l.up n)
  | .fn f l => .fn f (l.up n)
  | .nil => .nil
  | .cons x l => .cons (x.up n) (l.up n)
  | .app x y => .app (x.up n) (y.up n)
  | .rep x y => .rep (x.up n) (y.up n)
  | .set x y w => .set (x.up n) (y.up n) (w.up n)
  | .take x y => .take (x.up n) (y.up n)

theorem up_den (ρ : Env) (n : Nat) : ∀ e : E, den ρ (e.up n) = den (fun j => ρ (n + j)) e := by
  intro e
  induction e <;> simp only [E.up, den, *]

mutual
def SV.up (n : Nat) : SV → SV
  | .d e => .d (e.up n)
  | .g cs => .g (sup n cs)
  | .o k l => .o k (l.up n)
  | .p k off => .p k off
  | .e k l i off => .e k (l.up n) (i.up n) off
  | .f fn cs => .f fn (sup n cs)
  | .t cs => .t (sup n cs)
  | .u => .u
def sup (n : Nat) : List SV → List SV
  | [] => []
  | c :: cs => SV.up n c :: sup n cs
end

mutual
theorem SV.up_ok (ρ : Env) (n : Nat) : ∀ v : SV, γX ρ (v.up n) = γX (fun j => ρ (n + j)) v
  | .d e => by simp only [SV.up, γX, dat, up_den]
  | .g cs => by simp only [SV.up, γX, sup_ok ρ n cs]
  | .o k l => by simp only [SV.up, γX, lst, up_den]
  | .p k off => rfl
  | .e k l i off => by simp only [SV.up, γX, lst, int, up_den]
  | .f fn cs => by simp only [SV.up, γX, sup_ok ρ n cs]
  | .t cs => by simp only [SV.up, γX, sup_ok ρ n cs]
  | .u => rfl
theorem sup_ok (ρ : Env) (n : Nat) : ∀ cs : List SV, γXs ρ (sup n cs) = γXs (fun j => ρ (n + j)) cs
  | [] => rfl
  | c :: cs => by simp only [sup, γXs, SV.up_ok ρ n c, sup_ok ρ n cs]
end

def SObj.up (n : Nat) : SObj → SObj
  | .box cs => .box (sup n cs)
  | .arr ty sz l rw => .arr ty sz (l.up n) rw
  | .dead => .dead

theorem SObj.up_ok (ρ : Env) (n : Nat) (o : SObj) : γO ρ (o.up n) = γO (fun j => ρ (n + j)) o := by
  cases o with
  | box cs => simp only [SObj.up, γO, sup_ok]
  | arr ty sz l rw => simp only [SObj.up, γO, lst, up_den]
  | dead => rfl

theorem exprs_up (ρ : Env) : ∀ (as : List Sh1) (n m : Nat), (exprs as (n + m)).map (dat ρ) = (exprs as m).map (dat fun j => ρ (n + j))
  | [], n, m => rfl
  | a :: as, n, m => by
    simp only [exprs, List.map_cons]
    rw [show n + m + 1 = n + (m + 1) by omega, exprs_up ρ as n (m + 1)]
    congr 1
    cases a <;> rfl

/-! ### Lending -/

def sgetAll {α : Type} : List Key → (List SObj → SMP α) → SMP α
  | [], c => c []
  | k :: ks, c => .get k fun o => sgetAll ks fun os => c (o :: os)

def sputAll {α : Type} : List (Key × SObj) → SMP α → SMP α
  | [], c => c
  | (k, o) :: l, c => .put k o (sputAll l c)

def snewAll {α : Type} : List (Key × SObj) → SMP α → SMP α
  | [], c => c
  | (k, o) :: l, c => .new k o (snewAll l c)

section
variable {B : Tb} {ρ : Env}

theorem sgetAll_ok {α β : Type} {f : α → β} : ∀ (ks : List Key) (c : List SObj → SMP α) (c' : List Obj → MP β), (∀ os, (c os).Ok B ρ f (c' (os.map (γO ρ)))) → (sgetAll ks c).Ok B ρ f (getAll ks c')
  | [], c, c', h => h []
  | k :: ks, c, c', h => ⟨_, rfl, fun o => sgetAll_ok ks _ _ fun os => h (o :: os)⟩

theorem sputAll_ok {α β : Type} {f : α → β} : ∀ (l : List (Key × SObj)) (c : SMP α) (c' : MP β), c.Ok B ρ f c' → (sputAll l c).Ok B ρ f (putAll (l.map fun p => (p.1, γO ρ p.2)) c')
  | [], c, c', h => h
  | (k, o) :: l, c, c', h => ⟨_, rfl, sputAll_ok l c c' h⟩

theorem snewAll_ok {α β : Type} {f : α → β} : ∀ (l : List (Key × SObj)) (c : SMP α) (c' : MP β), c.Ok B ρ f c' → (snewAll l c).Ok B ρ f (newAll (l.map fun p => (p.1, γO ρ p.2)) c')
  | [], c, c', h => h
  | (k, o) :: l, c, c', h => ⟨_, rfl, snewAll_ok l c c' h⟩

/-- The values that are handed over. -/
def insE (ins : List Sh1) (bs : List (Nat × E)) : Nat → List E
  | j => match ins with
    | [] => []
    | a :: as => (match bs.lookup j with
      | some x => (match a with | .i k => E.vi k x | .b => .vb x | .d => x | .s => .s x)
      | none => .vc .nilFunc) :: insE as bs (j + 1)

def insOk (ins : List Sh1) (bs : List (Nat × E)) : Nat → Bool
  | j => match ins with
    | [] => true
    | a :: as => (match bs.lookup j with
      | some x => (match a with | .d => x.isOne && normed x | _ => true)
      | none => false) && insOk as bs (j + 1)

theorem insE_ok : ∀ (ins : List Sh1) (bs : List (Nat × E)) (j : Nat), insOk ins bs j = true → (insE ins bs j).map (dat ρ) = (exprs ins j).map (dat (envOf 0 ρ bs))
  | [], bs, j, _ => rfl
  | a :: as, bs, j, h => by
    unfold insOk at h
    simp only [Bool.and_eq_true] at h
    unfold insE
    simp only [exprs, List.map_cons, insE_ok as bs (j + 1) h.2]
    congr 1
    cases hl : bs.lookup j with
    | none => rw [hl] at h; simp at h
    | some x =>
      have he : envOf 0 ρ bs j = den ρ x := by simp [envOf, hl]
      cases a with
      | i k => show D.v (.int k (den ρ x).int) = D.v (.int k (envOf 0 ρ bs j).int); rw [he]
      | b => show D.v (.bool (den ρ x).bool) = D.v (.bool (envOf 0 ρ bs j).bool); rw [he]
      | s => show D.s (den ρ x).lst = D.s (envOf 0 ρ bs j).lst; rw [he]
      | d =>
        show dat ρ x = oneOf (envOf 0 ρ bs j).dat
        rw [he]
        rw [hl] at h
        simp only [Bool.and_eq_true] at h
        show dat ρ x = oneOf (dat ρ x)
        rw [oneOf_norm (isOne_one h.1.1 ρ), normed_ok h.1.2]

def slendWith (s : XSig) (f : FuncId) (kb : Key) (xs : List SV) (L : List Key) (os : List SObj) : SMP SV :=
  if (snames xs ++ os.flatMap SObj.names).all L.contains then
    match mv.mvs s.args (sren (at? L) (freshVs (holds? (L.zip os)) xs)), mos s.objs (os.map fun o => (freshO (holds? (L.zip os)) o).ren (at? L)) with
    | some ps, some qs => match fits 0 (ps ++ qs) with
      | some bs => if consis bs && insOk s.ins bs 0 then
          let n := L.length
          let news := once [] (s.res.names.filter fun k => n ≤ k)
          let all := List.range n ++ news
          if all == List.range s.robjs.length && (s.res.names ++ s.robjs.flatMap SObj.names).all all.contains && Nat.ble news.length 16 then
            .ask (fun a => .call f (insE s.ins bs 0) s.outs a) s.outs.length fun a =>
              let back := fun k => (L ++ (List.range news.length).map (kb + ·)).getD (at? all k) 0
              let os' := s.robjs.map (SObj.up a)
              sputAll (L.zip ((os'.take n).map (SObj.ren back)))
                (snewAll (((List.range news.length).map (kb + ·)).zip ((os'.drop n).map (SObj.ren back))) (.ret ((s.res.up a).ren back)))
          else .fail
        else .fail
      | none => .fail
    | _, _ => .fail
  else .fail

/-! ### Names of arrays that were written elsewhere -/

mutual
/-- What an array's name and the array itself hold, where these may differ. -/
def staleV (look : Key → Option E) : SV → List (E × E)
  | .o k l => match look k with
    | some l' => if l.lsame l' then [] else [(l, l')]
    | none => []
  | .g cs => staleVs look cs
  | .t cs => staleVs look cs
  | .f _ cs => staleVs look cs
  | _ => []
def staleVs (look : Key → Option E) : List SV → List (E × E)
  | [] => []
  | c :: cs => staleV look c ++ staleVs look cs
end

mutual
def forceV (look : Key → Option E) : SV → SV
  | .o k l => match look k with
    | some l' => .o k l'
    | none => .o k l
  | .g cs => .g (forceVs look cs)
  | .t cs => .t (forceVs look cs)
  | .f fn cs => .f fn (forceVs look cs)
  | v => v
def forceVs (look : Key → Option E) : List SV → List SV
  | [] => []
  | c :: cs => forceV look c :: forceVs look cs
end

mutual
theorem forceV_ok (ρ : Env) (look : Key → Option E) : ∀ v : SV, (∀ p ∈ staleV look v, (lst ρ p.1).length = (lst ρ p.2).length) → γX ρ (forceV look v) = γX ρ v
  | .o k l, h => by
    simp only [forceV]
    simp only [staleV] at h
    split
    · rename_i l' hk
      rw [hk] at h
      simp only at h
      by_cases hl : l.lsame l' = true
      · simp only [γX, lsame_len hl ρ]
      · rw [if_neg hl] at h
        simp only [γX, h (l, l') (by simp)]
    · rfl
  | .g cs, h => by simp only [forceV, γX, forceVs_ok ρ look cs h]
  | .t cs, h => by simp only [forceV, γX, forceVs_ok ρ look cs h]
  | .f _ cs, h => by simp only [forceV, γX, forceVs_ok ρ look cs h]
  | .e _ _ _ _, _ => rfl
  | .d _, _ => rfl
  | .p _ _, _ => rfl
  | .u, _ => rfl
theorem forceVs_ok (ρ : Env) (look : Key → Option E) : ∀ cs : List SV, (∀ p ∈ staleVs look cs, (lst ρ p.1).length = (lst ρ p.2).length) → γXs ρ (forceVs look cs) = γXs ρ cs
  | [], _ => rfl
  | c :: cs, h => by
    simp only [staleVs, List.mem_append] at h
    simp only [forceVs, γXs, forceV_ok ρ look c (fun p hp => h p (.inl hp)), forceVs_ok ρ look cs (fun p hp => h p (.inr hp))]
end

/-- That lengths are the same. -/
def sameLens {α : Type} : List (E × E) → SMP α → SMP α
  | [], c => c
  | (l, l') :: ps, c => .ask (fun _ => .chk (.cmp .eq (.len l) (.len l'))) 0 fun _ => sameLens ps c

theorem sameLens_ok {B : Tb} {ρ : Env} {α β : Type} {f : α → β} {c : SMP α} {q : MP β} : ∀ ps : List (E × E), ((∀ p ∈ ps, (lst ρ p.1).length = (lst ρ p.2).length) → c.Ok B ρ f q) → (sameLens ps c).Ok B ρ f q
  | [], h => h (by simp)
  | (l, l') :: ps, h => by
    intro n hn
    refine sameLens_ok ps fun hp => h fun p hm => ?_
    rcases List.mem_cons.1 hm with rfl | hm
    · have h : decide (((lst ρ l).length : Int) = ((lst ρ l').length : Int)) = true := hn
      have h : ((lst ρ l).length : Int) = ((lst ρ l').length : Int) := by simpa using h
      show (lst ρ l).length = (lst ρ l').length
      omega
    · exact hp p hm

def slendM (s : XSig) (f : FuncId) (kb : Key) (xs0 : List SV) : SMP SV :=
  if sones xs0 then
    let xs := snorm xs0
    let ks := once [] (snames xs)
    sgetAll ks fun os => let L := once ks (os.flatMap SObj.names); sgetAll L fun os => sameLens (staleVs (holds? (L.zip os)) xs) (slendWith s f kb (forceVs (holds? (L.zip os)) xs) L os)
  else .fail

def slendM0 (s : XSig) (f : FuncId) (kb : Key) (xs : List SV) : SMP SV :=
  let ks := once [] (snames xs)
  sgetAll ks fun os => let L := once ks (os.flatMap SObj.names); sgetAll L fun os => sameLens (staleVs (holds? (L.zip os)) xs) (slendWith s f kb (forceVs (holds? (L.zip os)) xs) L os)

theorem flatMap_onames (ρ : Env) : ∀ os : List SObj, (os.map (γO ρ)).flatMap Obj.names = os.flatMap SObj.names
  | [] => rfl
  | o :: os => by simp only [List.map_cons, List.flatMap_cons, onames_ok, flatMap_onames ρ os]

theorem mapM_range {α : Type} (f : Key → Option α) (l : List α) (h : ∀ i, f i = l[i]?) : (List.range l.length).mapM f = some l := by
  have key : ∀ (n a : Nat), a + n = l.length → (List.range' a n).mapM f = some (l.drop a) := by
    intro n
    induction n with
    | zero => intro a ha; simp at ha; subst ha; simp
    | succ n ih =>
      intro a ha
      have hlt : a < l.length := by omega
      rw [List.range'_succ, List.mapM_cons, h a, List.getElem?_eq_getElem hlt, ih (a + 1) (by omega), List.drop_eq_getElem_cons hlt]
      rfl
  rw [List.range_eq_range']
  have := key l.length 0 (by omega)
  simpa using this

theorem zip_map_snd {α : Type} (l : List Key) (os : List α) {β : Type} (g : α → β) : (l.zip os).map (fun p => (p.1, g p.2)) = l.zip (os.map g) := by
  rw [List.zip_map_right]; rfl

theorem up_names (n : Nat) : ∀ v : SV, (v.up n).names = v.names := by
  intro v
  have h1 := names_ok (fun _ => .i 0) (v.up n)
  rw [SV.up_ok, names_ok] at h1
  exact h1.symm

theorem slendWith_ok {s : XSig} (hs : s.ok = true) (f : FuncId) (kb : Key) (xs : List SV) (L : List Key) (os : List SObj) :
    (slendWith s f kb xs L os).Ok B ρ (γX ρ) (lendWith (xspec s (B.call f)) kb (γXs ρ xs) L (os.map (γO ρ))) := by
  unfold slendWith
  split
  · rename_i hclo
    split
    · rename_i ps qs hps hqs
      · split
        · rename_i bs hbs
          split
          · rename_i hc
            simp only [Bool.and_eq_true] at hc
            simp only
            split
            · rename_i hall
              simp only [Bool.and_eq_true] at hall
              obtain ⟨⟨hall1, hall2⟩, hlen⟩ := hall
              have hall1 : List.range L.length ++ once [] (s.res.names.filter fun k => L.length ≤ k) = List.range s.robjs.length := by simpa using hall1
              intro a hcall
              simp only [I.holds] at hcall
              have hargs : γXs (envOf 0 ρ bs) s.args = renL (at? L) (γXs ρ xs) := by
                rw [← freshVs_ok ρ (holds? (L.zip os)) xs, sren_ok]
                exact mvs_ok _ _ _ hps fun q hq => fits_ok hbs hc.1 (by simp [hq])
              have hobjs : s.objs.map (γO (envOf 0 ρ bs)) = (os.map (γO ρ)).map (Obj.ren (at? L)) := by
                rw [mos_ok _ _ _ hqs fun q hq => fits_ok hbs hc.1 (by simp [hq])]
                simp only [List.map_map]
                exact List.map_congr_left fun o _ => by simp only [Function.comp]; rw [← oren_ok, freshO_ok]
              have hF : B.call f ((exprs s.ins 0).map (dat (envOf 0 ρ bs))) = some ((exprs s.outs 0).map (dat fun j => ρ (a + j))) := by
                rw [← insE_ok _ _ _ hc.2, hcall]
                congr 1
                exact exprs_up ρ s.outs a 0
              have hspec := xspec_eq hs (F := B.call f) ⟨envOf 0 ρ bs, fun j => ρ (a + j), hargs.symm, hobjs.symm, hF, rfl⟩
              unfold lendWith
              rw [snames_ok, flatMap_onames, if_pos hclo, hspec]
              simp only [names_ok]
              have hm1 : ∀ i, γm (fun j => ρ (a + j)) (numS 0 s.robjs) i = (s.robjs.map (γO fun j => ρ (a + j)))[i]? := by
                intro i
                simp only [γm, numS_lookup, Nat.zero_le, if_true, Nat.sub_zero, List.getElem?_map]
              have hmap : (List.range L.length ++ once [] (s.res.names.filter fun k => decide (L.length ≤ k))).mapM (γm (fun j => ρ (a + j)) (numS 0 s.robjs)) = some (s.robjs.map (γO fun j => ρ (a + j))) := by
                rw [hall1, ← mapM_range _ _ hm1, List.length_map]
              rw [hmap]
              simp only [flatMap_onames]
              have hlen' : (once [] (s.res.names.filter fun k => decide (L.length ≤ k))).length ≤ 16 := Nat.le_of_ble_eq_true hlen
              rw [if_pos (by rw [Bool.and_eq_true]; exact ⟨hall2, by simpa using hlen'⟩)]
              have hren : ∀ (back : Key → Key) (l : List SObj), (l.map (γO fun j => ρ (a + j))).map (Obj.ren back) = ((l.map (SObj.up a)).map (SObj.ren back)).map (γO ρ) := by
                intro back l
                simp only [List.map_map]
                exact List.map_congr_left fun o _ => by simp only [Function.comp, ← oren_ok, SObj.up_ok]
              simp only [← List.map_take, ← List.map_drop]
              rw [hren, hren, ← zip_map_snd _ _ (γO ρ), ← zip_map_snd _ _ (γO ρ)]
              refine sputAll_ok _ _ _ (snewAll_ok _ _ _ ?_)
              simp only [SMP.Ok, ← ren_ok, SV.up_ok]
            · trivial
          · trivial
        · trivial
    · trivial
  · trivial

theorem slendM_ok {s : XSig} (hs : s.ok = true) (f : FuncId) (kb : Key) (xs : List SV) : (slendM s f kb xs).Ok B ρ (γX ρ) (lendM (xspec s (B.call f)) kb (γXs ρ xs)) := by
  unfold slendM lendM lendM0
  split
  · rename_i ho
    rw [snorm_ok ρ xs ho]
    simp only [snames_ok]
    refine sgetAll_ok _ _ _ fun os => ?_
    simp only [flatMap_onames]
    refine sgetAll_ok _ _ _ fun os => sameLens_ok _ fun hp => ?_
    rw [← forceVs_ok ρ _ _ hp]
    exact slendWith_ok hs f kb _ _ _
  · trivial

theorem slendM0_ok {s : XSig} (hs : s.ok = true) (f : FuncId) (kb : Key) (xs : List SV) : (slendM0 s f kb xs).Ok B ρ (γX ρ) (lendM0 (xspec s (B.call f)) kb (γXs ρ xs)) := by
  unfold slendM0 lendM0
  simp only [snames_ok]
  refine sgetAll_ok _ _ _ fun os => ?_
  simp only [flatMap_onames]
  refine sgetAll_ok _ _ _ fun os => sameLens_ok _ fun hp => ?_
  rw [← forceVs_ok ρ _ _ hp]
  exact slendWith_ok hs f kb _ _ _

end

end Go.Tm
end

section
/- Symbolic execution of the machine over trees: every operation. -/
namespace Go.Tm

def Sh.ar : Sh → Option Nat
  | .g as => some as.length
  | _ => none

def arOf (s : DSig) : Option (List (Option Nat)) :=
  if s.flat && s.pars.all noQ && Nat.ble s.pars.length 30 then match s.res with
    | .one (.one _) => some (s.pars.map Sh.ar)
    | _ => none
  else none

def sigOk : Sig → Bool
  | .d s => s.res.ok && (!s.flat || s.res.leaves.all plainSh)
  | .x s => s.ok

def isData : SV → Bool
  | .d _ => true
  | .g cs => cs.all fun | .d _ => true | _ => false
  | _ => false

def XSig.mask (s : XSig) : List Bool := s.args.map isData

/-- One that is handed nil itself. -/
def isNilC : SV → Bool
  | .d (.vc (.slice none 0 0)) => true
  | _ => false
def XSig.raw (s : XSig) : Bool := s.args.any isNilC

noncomputable def tabOf (sg : FuncId → Option Sig) (B : Tb) : Tab where
  fns f := match sg f with
    | some (.d s) => some { F := dspec s (B.call f), flat := s.flat }
    | _ => none
  xfns f := match sg f with
    | some (.x s) => some (xspec s (B.call f))
    | _ => none
  xmask f := match sg f with
    | some (.x s) => s.mask
    | _ => []
  xraw f := match sg f with
    | some (.x s) => s.raw
    | _ => false

structure BOk (sg : FuncId → Option Sig) (B : Tb) : Prop where
  sig : ∀ f s, sg f = some s → sigOk s = true
  ar : ∀ f a, B.ar f = some a → ∃ s, sg f = some (.d s) ∧ arOf s = some a

def callD (s : DSig) (f : FuncId) (es : List E) : SMP SV := match sflatten s.pars es with
  | some ls => .ask (fun n => .call f ls s.res.leaves n) s.res.leaves.length fun n => .ret (s.res.sv n)
  | none => .fail

/-- Data as a value. -/
def ofE : E → Option SV
  | .g l => match l.list with
    | some cs => some (.g (cs.map .d))
    | none => none
  | e => if e.isOne then some (.d e) else none

def smaskTake : List Bool → List SV → SMP (List SV)
  | b :: bs, x :: xs => if b then (stake x).bind fun e => match ofE e with
      | some v => (smaskTake bs xs).bind fun ys => .ret (v :: ys)
      | none => .fail
    else (smaskTake bs xs).bind fun ys => .ret (x :: ys)
  | _, xs => .ret xs

def scallM (sg : FuncId → Option Sig) (kb : Key) (f : FuncId) (args : List SV) : SMP SV := match sg f with
  | some (.d s) => if s.flat then (spur.spurs 40 args).bind fun es => callD s f es else (stakes args).bind fun es => callD s f es
  | some (.x s) => if s.raw then slendM0 s f kb args else (smaskTake s.mask args).bind fun xs => slendM s f kb xs
  | none => .fail

def arE : E → Option Nat
  | .g l => match l.list with
    | some cs => some cs.length
    | none => none
  | _ => none

def flatE : List E → Option (List E)
  | [] => some []
  | .g l :: es => match l.list with
    | some cs => (flatE es).map (cs ++ ·)
    | none => none
  | e :: es => (flatE es).map (e :: ·)

/-- Data as they are. -/
def pureE : SV → Option E
  | .d e => if e.isOne then some e.norm else none
  | .g cs => if Nat.ble cs.length 20 then (cells cs).map fun l => .g (consE l) else none
  | _ => none
where
  cells : List SV → Option (List E)
    | [] => some []
    | .d e :: cs => if e.isOne then (cells cs).map (e.norm :: ·) else none
    | _ => none

def pureEs : List SV → Option (List E)
  | [] => some []
  | v :: vs => match pureE v with
    | some e => (pureEs vs).map (e :: ·)
    | none => none

def callV (n0 : Nat) (args : List SV) (rs : Sh1) : SMP SV :=
  if plainSh rs && Nat.ble args.length 8 then match pureEs args with
    | some es => match flatE es with
      | some ls => .ask (fun n => .callv (.da n0) ls (es.map arE) [rs] n) 1 fun n => .ret (.d (rs.expr n))
      | none => .fail
    | none => .fail
  else .fail

section
variable {B : Tb} {ρ : Env} {sg : FuncId → Option Sig} {P : Program} {G : Ghost}

theorem purs_append : ∀ (n : Nat) (xs ys : List X), xs.length ≤ n → pur.purs n (xs ++ ys) = (pur.purs n xs).bind fun ds => (pur.purs (n - xs.length) ys).bind fun es => .ret (ds ++ es)
  | n, [], ys, _ => by
    have h1 : pur.purs n ([] : List X) = .ret [] := by cases n <;> rfl
    rw [List.nil_append, h1]
    show _ = (pur.purs n ys).bind fun es => .ret es
    generalize pur.purs n ys = p
    induction p with
    | ret a => rfl
    | fail => rfl
    | get k c ih => simp only [MP.bind]; congr 1; funext o; exact ih o
    | put k o c ih => simp only [MP.bind]; rw [← ih]
    | new k o c ih => simp only [MP.bind]; rw [← ih]
  | 0, x :: xs, ys, h => by simp at h
  | n + 1, x :: xs, ys, h => by
    have ih := purs_append n xs ys (by simpa using h)
    have assoc : ∀ {α β γ : Type} (p : MP α) (f : α → MP β) (g : β → MP γ), (p.bind f).bind g = p.bind fun a => (f a).bind g := by
      intro α β γ p f g
      induction p with
      | ret a => rfl
      | fail => rfl
      | get k c ih => simp only [MP.bind]; congr 1; funext o; exact ih o
      | put k o c ih => simp only [MP.bind]; rw [ih]
      | new k o c ih => simp only [MP.bind]; rw [ih]
    show (pur n x).bind (fun d => (pur.purs n (xs ++ ys)).bind fun ds => .ret (d :: ds)) = ((pur n x).bind fun d => (pur.purs n xs).bind fun ds => .ret (d :: ds)).bind _
    rw [ih]
    simp only [assoc, MP.bind, List.length_cons, Nat.add_sub_add_right, List.cons_append]

theorem purs_data : ∀ (n : Nat) (ds : List D), ds.length < n → pur.purs n (ds.map X.d) = .ret (ds.map D.norm)
  | 0, ds, h => by omega
  | n + 1, [], h => rfl
  | n + 1, d :: ds, h => by
    show (pur n (.d d)).bind (fun d => (pur.purs n (ds.map X.d)).bind fun ds => .ret (d :: ds)) = _
    have hlt : ds.length < n := by simpa using h
    obtain ⟨k, rfl⟩ : ∃ k, n = k + 1 := ⟨n - 1, by omega⟩
    rw [purs_data (k + 1) ds hlt]
    rfl

theorem callD_ok {s : DSig} (hs : sigOk (.d s) = true) (f : FuncId) (es : List E) (fl : Bool) (hfl : fl = true → s.flat = true) : (callD s f es).Ok B ρ (γX ρ)
    (match dspec s (B.call f) (fEs ρ es) with
      | some r => if fl then (if flat r then .ret (X.ofD r) else .fail) else .ret (X.ofD r)
      | none => .fail) := by
  unfold callD
  cases hf : sflatten s.pars es with
  | none => trivial
  | some ls =>
    intro n hn
    simp only [I.holds] at hn
    simp only [sigOk, Bool.and_eq_true] at hs
    obtain ⟨d, h1, h2⟩ := buildR_ok ρ s.res n hs.1
    have hd : dspec s (B.call f) (fEs ρ es) = some d := by
      unfold dspec fEs
      rw [sflatten_ok ρ _ _ _ hf, Option.bind_some, hn, Option.bind_some, h1]
    rw [hd]
    simp only [SMP.Ok, ← h2]
    cases fl with
    | false => rfl
    | true =>
      have hpl : s.res.leaves.all plainSh = true := by simpa [hfl rfl] using hs.2
      have := buildR_flat h1 (flat_exprs ρ _ _ hpl)
      simp only [this, if_true]

theorem ofE_ok {e : E} {v : SV} (h : ofE e = some v) (ρ : Env) : X.ofD1 (dat ρ e) = γX ρ v := by
  unfold ofE at h
  split at h
  · rename_i l
    split at h
    · rename_i cs hl
      simp only [Option.some.injEq] at h; subst h
      show X.g ((lst ρ l).map .d) = X.g (γXs ρ (cs.map .d))
      rw [list_lst ρ _ _ hl, γXs_map, map_dat]
    · cases h
  · split at h
    · rename_i ho
      simp only [Option.some.injEq] at h; subst h
      rw [ofD1_one (isOne_one ho ρ)]; rfl
    · cases h

theorem smaskTake_ok : ∀ (bs : List Bool) (xs : List SV), (smaskTake bs xs).Ok B ρ (γXs ρ) (maskTake bs (xs.map (γX ρ)))
  | [], xs => by
    cases xs <;> simp only [smaskTake, maskTake, List.map_nil, SMP.Ok, γXs_map]
  | _ :: _, [] => rfl
  | b :: bs, x :: xs => by
    simp only [smaskTake, maskTake, List.map_cons]
    cases b with
    | true =>
      simp only [if_true]
      refine SMP.bind_ok (f := dat ρ) (fun e => ?_) _ _ (stake_ok x)
      cases he : ofE e with
      | none => trivial
      | some v =>
        simp only [ofE_ok he ρ]
        refine SMP.bind_ok (f := γXs ρ) (fun ys => ?_) _ _ (smaskTake_ok bs xs)
        rfl
    | false =>
      simp only [Bool.false_eq_true, if_false]
      refine SMP.bind_ok (f := γXs ρ) (fun ys => ?_) _ _ (smaskTake_ok bs xs)
      rfl

theorem scallM_ok (hB : BOk sg B) (o : Oper) (f : FuncId) (args : List SV) : (scallM sg (keyOf o) f args).Ok B ρ (γX ρ) (callM (tabOf sg B) G o f (args.map (γX ρ))) := by
  unfold scallM callM tabOf
  simp only
  cases hf : sg f with
  | none => trivial
  | some s =>
    cases s with
    | d s =>
      simp only
      split
      · rename_i hfl
        simp only [pursAll]
        refine SMP.bind_ok (f := fEs ρ) (fun es => ?_) _ _ (spurs_ok 40 args)
        exact callD_ok (hB.sig f _ hf) f es true (fun _ => hfl)
      · refine SMP.bind_ok (f := fEs ρ) (fun es => ?_) _ _ (stakes_ok args)
        exact callD_ok (hB.sig f _ hf) f es false (fun h => by cases h)
    | x s =>
      simp only
      split
      · rw [← γXs_map]; exact slendM0_ok (hB.sig f _ hf) f (keyOf o) args
      · exact SMP.bind_ok (f := γXs ρ) (fun xs => slendM_ok (hB.sig f _ hf) f (keyOf o) xs) _ _ (smaskTake_ok _ args)

theorem flatE_ok : ∀ (es ls : List E) (ss : List Sh) (caps : List D), flatE es = some ls → ss.map Sh.ar = es.map arE ++ caps.map (fun _ => none) → ss.all noQ = true →
    flattenD ss (es.map (dat ρ) ++ caps) = some (ls.map (dat ρ) ++ caps)
  | [], ls, ss, caps, h, hs, hq => by
    simp only [flatE, Option.some.injEq] at h; subst h
    simp only [List.map_nil, List.nil_append] at hs ⊢
    induction caps generalizing ss with
    | nil => simp at hs; subst hs; rfl
    | cons c caps ih =>
      cases ss with
      | nil => simp at hs
      | cons s ss =>
        simp only [List.map_cons, List.cons.injEq] at hs
        simp only [List.all_cons, Bool.and_eq_true] at hq
        cases s with
        | g as => simp [Sh.ar] at hs
        | q as => simp [noQ] at hq
        | one a => simp only [flattenD, ih ss hq.2 hs.2, Option.map_some]
  | e :: es, ls, ss, caps, h, hs, hq => by
    cases ss with
    | nil => simp at hs
    | cons s ss =>
      simp only [List.map_cons, List.cons_append, List.cons.injEq] at hs
      simp only [List.all_cons, Bool.and_eq_true] at hq
      have rest : ∀ ls', flatE es = some ls' → flattenD ss (es.map (dat ρ) ++ caps) = some (ls'.map (dat ρ) ++ caps) := fun ls' h => flatE_ok es ls' ss caps h hs.2 hq.2
      have one : arE e = none → (flatE es).map (e :: ·) = some ls → flattenD (s :: ss) ((e :: es).map (dat ρ) ++ caps) = some (ls.map (dat ρ) ++ caps) := by
        intro ha h
        cases hr : flatE es with
        | none => simp [hr] at h
        | some ls' =>
          simp only [hr, Option.map_some, Option.some.injEq] at h; subst h
          cases s with
          | g as => rw [ha] at hs; simp [Sh.ar] at hs
          | q as => simp [noQ] at hq
          | one a => simp only [List.map_cons, List.cons_append, flattenD, rest ls' hr, Option.map_some]
      cases e with
      | g l =>
        simp only [flatE] at h
        split at h
        · rename_i cs hl
          cases hr : flatE es with
          | none => simp [hr] at h
          | some ls' =>
            simp only [hr, Option.map_some, Option.some.injEq] at h; subst h
            simp only [arE, hl] at hs
            cases s with
            | one a => simp [Sh.ar] at hs
            | q as => simp [noQ] at hq
            | g as =>
              simp only [Sh.ar, Option.some.injEq] at hs
              show flattenD (.g as :: ss) (D.g (lst ρ l) :: (es.map (dat ρ) ++ caps)) = _
              simp only [flattenD, list_lst ρ _ _ hl, List.length_map, hs.1, if_true, rest ls' hr, Option.map_some, List.map_append, List.append_assoc]
        · cases h
      | _ => exact one rfl h

theorem cells_pure : ∀ (cs : List SV) (l : List E) (n : Nat), pureE.cells cs = some l → cs.length < n → pur.purs n (cs.map (γX ρ)) = .ret (l.map (dat ρ))
  | [], l, n, h, hn => by
    simp only [pureE.cells, Option.some.injEq] at h; subst h
    cases n <;> rfl
  | c :: cs, l, 0, h, hn => by simp at hn
  | c :: cs, l, n + 1, h, hn => by
    cases c with
    | d e =>
      simp only [pureE.cells] at h
      split at h
      · rename_i ho
        cases hr : pureE.cells cs with
        | none => simp [hr] at h
        | some l' =>
          simp only [hr, Option.map_some, Option.some.injEq] at h; subst h
          have hlt : cs.length < n := by simpa using hn
          obtain ⟨k, rfl⟩ : ∃ k, n = k + 1 := ⟨n - 1, by omega⟩
          show (pur (k + 1) (X.d (dat ρ e))).bind (fun d => (pur.purs (k + 1) (cs.map (γX ρ))).bind fun ds => .ret (d :: ds)) = _
          rw [cells_pure cs l' (k + 1) hr hlt]
          simp only [pur, MP.bind, List.map_cons, norm_dat ho]
      · cases h
    | _ => simp [pureE.cells] at h

theorem pureE_ok {v : SV} {e : E} {n : Nat} (h : pureE v = some e) (hn : 22 ≤ n) : pur n (γX ρ v) = .ret (dat ρ e) := by
  obtain ⟨k, rfl⟩ : ∃ k, n = k + 1 := ⟨n - 1, by omega⟩
  cases v with
  | d e' =>
    simp only [pureE] at h
    split at h
    · rename_i ho
      simp only [Option.some.injEq] at h; subst h
      simp only [γX, pur, norm_dat ho]
    · cases h
  | g cs =>
    simp only [pureE] at h
    split at h
    · rename_i hl
      have hl : cs.length ≤ 20 := Nat.le_of_ble_eq_true hl
      cases hc : pureE.cells cs with
      | none => simp [hc] at h
      | some l =>
        simp only [hc, Option.map_some, Option.some.injEq] at h; subst h
        simp only [γX, pur, γXs_map, cells_pure cs l k hc (by omega), MP.bind]
        show MP.ret _ = MP.ret (D.g (lst ρ (consE l)))
        rw [lst_consE]
    · cases h
  | _ => simp [pureE] at h

theorem pureEs_ok : ∀ (vs : List SV) (es : List E) (n : Nat), pureEs vs = some es → 22 + vs.length ≤ n → pur.purs n (vs.map (γX ρ)) = .ret (es.map (dat ρ))
  | [], es, n, h, hn => by
    simp only [pureEs, Option.some.injEq] at h; subst h
    cases n <;> rfl
  | v :: vs, es, 0, h, hn => by omega
  | v :: vs, es, n + 1, h, hn => by
    simp only [pureEs] at h
    split at h
    · rename_i e he
      cases hr : pureEs vs with
      | none => simp [hr] at h
      | some es' =>
        simp only [hr, Option.map_some, Option.some.injEq] at h; subst h
        simp only [List.length_cons] at hn
        show (pur n (γX ρ v)).bind (fun d => (pur.purs n (vs.map (γX ρ))).bind fun ds => .ret (d :: ds)) = _
        rw [pureE_ok he (by omega), pureEs_ok vs es' n hr (by omega)]
        rfl
    · cases h

theorem callV_ok (hB : BOk sg B) (o : Oper) (n0 : Nat) (args : List SV) (rs : Sh1) :
    (callV n0 args rs).Ok B ρ (γX ρ) (match X.d (dat ρ (.da n0)) with
      | .f fn cs => callM (tabOf sg B) G o fn (args.map (γX ρ) ++ cs)
      | .d (.f fn cs) => callM (tabOf sg B) G o fn (args.map (γX ρ) ++ cs.map X.d)
      | _ => .fail) := by
  unfold callV
  split
  · rename_i hpl
    simp only [Bool.and_eq_true] at hpl
    have hlen : args.length ≤ 8 := Nat.le_of_ble_eq_true hpl.2
    cases hpe : pureEs args with
    | none => trivial
    | some es =>
      simp only
      cases hfe : flatE es with
      | none => trivial
      | some ls =>
        intro n hn
        obtain ⟨fn, caps, hd, h2, h3⟩ := hn
        rw [hd]
        simp only
        obtain ⟨s, hsg, hs⟩ := hB.ar fn _ h2
        unfold arOf at hs
        split at hs
        · rename_i hcond
          simp only [Bool.and_eq_true] at hcond
          obtain ⟨⟨hflat, hnq⟩, h30⟩ := hcond
          have h30 : s.pars.length ≤ 30 := Nat.le_of_ble_eq_true h30
          split at hs
          · rename_i a hres
            simp only [Option.some.injEq] at hs
            unfold callM tabOf
            simp only [hsg, hflat, if_true, pursAll]
            have hcl : caps.length ≤ 30 := by
              have := congrArg List.length hs
              simp at this; omega
            rw [purs_append 40 _ _ (by simp; omega), pureEs_ok args es 40 hpe (by omega), purs_data _ caps (by simp; omega)]
            simp only [MP.bind]
            have hds : dspec s (B.call fn) (es.map (dat ρ) ++ caps.map D.norm) = some (dat ρ (rs.expr n)) := by
              unfold dspec
              rw [flatE_ok es ls s.pars (caps.map D.norm) hfe (by rw [hs]; simp) hnq, Option.bind_some, h3, Option.bind_some, hres]
              simp only [exprs, List.map_cons, List.map_nil, buildR, isOne_one (Sh1_isOne rs n) ρ, if_true]
            rw [hds]
            have hfl : flat (dat ρ (rs.expr n)) = true := by
              cases rs <;> first | rfl | (exact absurd hpl.1 (by simp [plainSh]))
            simp only [hfl, if_true, SMP.Ok, γX, ofD_one (isOne_one (Sh1_isOne rs n) ρ)]
          · cases hs
        · cases hs
  · trivial

end

end Go.Tm
end

section
/- Symbolic execution of the machine over trees: every operation, put together. -/
namespace Go.Tm

/-! ### Conditions -/

def lenE (l : E) : E := match l.list with
  | some cs => .z cs.length
  | none => .len l

/-- A condition without atoms. -/
def E.known : E → Option Bool
  | .tt => some true
  | .ff => some false
  | .cmp o (.z a) (.z b) => some (o.sem a b)
  | _ => none

def schk {α : Type} (b : E) (c : SMP α) : SMP α := match b.known with
  | some true => c
  | some false => .fail
  | none => .ask (fun _ => .chk b) 0 fun _ => c

def roomMax (P : Program) (e : TypeId) : Option Nat := (tz P e).map fun z => if z.2.2 = 0 then 2 ^ 46 else 2 ^ 46 / z.2.2

def shead {α : Type} (sz : Nat) (l : E) (c : SMP α) : SMP α := match l with
  | .nil => c
  | .cons (.g x) _ => match x.list with
    | some cs => if cs.length = sz then c else .fail
    | none => .fail
  | .cons x _ => if x.isOne && sz == 1 then c else .fail
  | _ => .ask (fun _ => .head sz l) 0 fun _ => c

def sint : SV → Option (IntKind × E)
  | .d (.vi k e) => some (k, e)
  | _ => none

section
variable {B : Tb} {ρ : Env} {sg : FuncId → Option Sig} {P : Program} {G : Ghost}

theorem lenE_ok (l : E) : int ρ (lenE l) = (lst ρ l).length := by
  unfold lenE
  split
  · rename_i cs h
    rw [list_lst ρ _ _ h]; simp [int, den, V.int]
  · rfl

theorem known_ok {b : E} {t : Bool} (h : b.known = some t) : bol ρ b = t := by
  unfold E.known at h
  split at h <;> simp at h <;> subst h <;> rfl

theorem schk_ok {α β : Type} {f : α → β} {b : E} {c : SMP α} {q : MP β} (h : bol ρ b = true → c.Ok B ρ f q) : (schk b c).Ok B ρ f q := by
  unfold schk
  split
  · rename_i hk; exact h (known_ok hk)
  · trivial
  · intro n hn; exact h hn

theorem shead_ok {α β : Type} {f : α → β} {sz : Nat} {l : E} {c : SMP α} {q : MP β} (h : headOk sz (lst ρ l) = true → c.Ok B ρ f q) : (shead sz l c).Ok B ρ f q := by
  unfold shead
  split
  · exact h rfl
  · rename_i x l'
    split
    · rename_i cs hl
      split
      · rename_i hs
        refine h ?_
        show ((D.g (lst ρ x)).cells.length == sz) = true
        rw [list_lst ρ _ _ hl]; simp [D.cells, hs]
      · trivial
    · trivial
  · rename_i x l' _
    split
    · rename_i hx
      simp only [Bool.and_eq_true] at hx
      refine h ?_
      show ((dat ρ x).cells.length == sz) = true
      rw [one_dcells (isOne_one hx.1 ρ)]
      have : sz = 1 := by simpa using hx.2
      subst this; rfl
    · trivial
  · intro n hn; exact h hn

theorem room_of {e : TypeId} {m n : Nat} (h : roomMax P e = some m) (hn : n ≤ m) : room P e n = true := by
  unfold roomMax at h
  unfold room
  cases ht : tz P e with
  | none => simp [ht] at h
  | some z =>
    obtain ⟨a, b, c⟩ := z
    simp only [ht, Option.map_some, Option.some.injEq] at h
    simp only [decide_eq_true_eq]
    split at h
    · rename_i hc; subst hc; exact ⟨by simp, by omega⟩
    · rename_i hc
      have h1 : n ≤ 2 ^ 46 / c := by omega
      have h2 : n * c ≤ 2 ^ 46 := (Nat.le_div_iff_mul_le (by omega)).1 h1
      have h3 : n ≤ n * c := Nat.le_mul_of_pos_right n (by omega)
      exact ⟨h2, by omega⟩

theorem sint_ok {v : SV} {k : IntKind} {e : E} (h : sint v = some (k, e)) : γX ρ v = .d (.v (.int k (int ρ e))) := by
  unfold sint at h
  split at h
  · simp only [Option.some.injEq, Prod.mk.injEq] at h
    obtain ⟨rfl, rfl⟩ := h; rfl
  · cases h

theorem sint_intX {v : SV} {k : IntKind} {e : E} (h : sint v = some (k, e)) : intX (γX ρ v) = some (int ρ e) := by rw [sint_ok h]; rfl

theorem bol_le (a b : E) : bol ρ (.cmp .le a b) = decide (int ρ a ≤ int ρ b) := rfl
theorem bol_lt (a b : E) : bol ρ (.cmp .lt a b) = decide (int ρ a < int ρ b) := rfl
theorem bol_eq (a b : E) : bol ρ (.cmp .eq a b) = decide (int ρ a = int ρ b) := rfl
theorem int_z (n : Int) : int ρ (.z n) = n := rfl

/-! ### Numbers and booleans -/

def sbinI (op : BinOp) (k : IntKind) (a b : E) : SMP SV := match op with
  | .add => .ret (.d (.vi k (.bin .add k a b)))
  | .sub => .ret (.d (.vi k (.bin .sub k a b)))
  | .mul => .ret (.d (.vi k (.bin .mul k a b)))
  | .quo => schk (.not (.cmp .eq b (.z 0))) (.ret (.d (.vi k (.bin .quo k a b))))
  | .rem => schk (.not (.cmp .eq b (.z 0))) (.ret (.d (.vi k (.bin .rem k a b))))
  | .and => .ret (.d (.vi k (.bin .and k a b)))
  | .or => .ret (.d (.vi k (.bin .or k a b)))
  | .xor => .ret (.d (.vi k (.bin .xor k a b)))
  | .eql => .ret (.d (.vb (.cmp .eq a b)))
  | .neq => .ret (.d (.vb (.not (.cmp .eq a b))))
  | .lss => .ret (.d (.vb (.cmp .lt a b)))
  | .leq => .ret (.d (.vb (.cmp .le a b)))
  | .gtr => .ret (.d (.vb (.cmp .lt b a)))
  | .geq => .ret (.d (.vb (.cmp .le b a)))
  | _ => .fail

theorem bin_run {op : BinOp} {t : TypeId} {x y : Operand} {k : IntKind} {a b : Int} {v : Value} (h : pureOf P (do eqGuard op t x y (.int k a) (.int k b); binOp op t (.int k a) (.int k b)) = some v) (ho : v.oneCell = true) :
    retV (pureOf P (do eqGuard op t x y (.int k a) (.int k b); binOp op t (.int k a) (.int k b))) = .ret (.d (.v v)) := by
  rw [h]; simp only [retV, ho, if_true]

theorem sbinI_ok (op : BinOp) (t : TypeId) (x y : Operand) (k : IntKind) (a b : E) : (sbinI op k a b).Ok B ρ (γX ρ)
    (retV (pureOf P (do eqGuard op t x y (.int k (int ρ a)) (.int k (int ρ b)); binOp op t (.int k (int ρ a)) (.int k (int ρ b))))) := by
  cases op with
  | add => exact bin_run (by simp [eqGuard, binOp, Op.intArith]; rfl) rfl
  | sub => exact bin_run (by simp [eqGuard, binOp, Op.intArith]; rfl) rfl
  | mul => exact bin_run (by simp [eqGuard, binOp, Op.intArith]; rfl) rfl
  | quo =>
    simp only [sbinI]
    refine schk_ok fun h => ?_
    have h : (!decide (int ρ b = 0)) = true := h
    have h : ¬ int ρ b = 0 := by simpa using h
    exact bin_run (by simp [eqGuard, binOp, Op.intDiv, h]; rfl) rfl
  | rem =>
    simp only [sbinI]
    refine schk_ok fun h => ?_
    have h : (!decide (int ρ b = 0)) = true := h
    have h : ¬ int ρ b = 0 := by simpa using h
    exact bin_run (by simp [eqGuard, binOp, Op.intDiv, h]; rfl) rfl
  | and => exact bin_run (by simp [eqGuard, binOp, Op.intBits]; rfl) rfl
  | or => exact bin_run (by simp [eqGuard, binOp, Op.intBits]; rfl) rfl
  | xor => exact bin_run (by simp [eqGuard, binOp, Op.intBits]; rfl) rfl
  | eql => exact bin_run (by simp [eqGuard, binOp, Op.intCmp]; rfl) rfl
  | neq => exact bin_run (by simp [eqGuard, binOp, Op.intCmp]; rfl) rfl
  | lss => exact bin_run (by simp [eqGuard, binOp, Op.intCmp]; rfl) rfl
  | leq => exact bin_run (by simp [eqGuard, binOp, Op.intCmp]; rfl) rfl
  | gtr => exact bin_run (by simp [eqGuard, binOp, Op.intCmp]; rfl) rfl
  | geq => exact bin_run (by simp [eqGuard, binOp, Op.intCmp]; rfl) rfl
  | _ => trivial

def sbin (P : Program) (op : BinOp) (t : TypeId) (a b : SV) : SMP SV := match a, b with
  | .d (.vi k x), .d (.vi k' y) => if k = k' then sbinI op k x y else .fail
  | .d (.vb x), .d (.vb y) => match P.underlying t, op with
    | some .bool, .eql => .ret (.d (.vb (.beq x y)))
    | some .bool, .neq => .ret (.d (.vb (.not (.beq x y))))
    | _, _ => .fail
  | _, _ => .fail

theorem pureOf_bind {α β : Type} (f : α → Sem β) : ∀ x : Sem α, pureOf P (x >>= f) = (pureOf P x).bind fun a => pureOf P (f a)
  | .pure a => rfl
  | .program k => pureOf_bind f (k P)
  | .load _ _ _ | .store _ _ _ _ | .new _ _ | .shape _ _ | .freeze _ _ _ | .frozen _ _
  | .getObj _ _ | .setObj _ _ _ | .choose _ _ | .sys _ _ | .mark _ _ | .halt _ => rfl

theorem pureOf_underlying {t : TypeId} {d : TypeDesc} (h : P.underlying t = some d) : pureOf P (underlying t) = some d := by
  unfold underlying
  rw [pureOf_bind]
  show (some P).bind _ = _
  simp only [Option.bind_some, h]; rfl

theorem eq_bool {t : TypeId} (h : P.underlying t = some .bool) (a b : Bool) : pureOf P (Op.equal t (.bool a) (.bool b)) = some (a == b) := by
  show pureOf P (Op.equalIn (9999 + 1) t (.bool a) (.bool b)) = _
  unfold Op.equalIn
  rw [pureOf_bind, pureOf_underlying h]
  rfl

theorem sbin_ok (op : BinOp) (t : TypeId) (x y : Operand) (a b : SV) : (sbin P op t a b).Ok B ρ (γX ρ)
    (match γX ρ a, γX ρ b with
      | .d (.v a), .d (.v b) => retV (pureOf P (do eqGuard op t x y a b; binOp op t a b))
      | _, _ => .fail) := by
  unfold sbin
  split
  · rename_i k a k' b
    split
    · rename_i hk; subst hk
      exact sbinI_ok op t x y k a b
    · trivial
  · rename_i a b
    split
    · rename_i hu _
      show retV (pureOf P (do eqGuard .eql t x y (.bool (bol ρ a)) (.bool (bol ρ b)); binOp .eql t (.bool (bol ρ a)) (.bool (bol ρ b)))) = _
      have : pureOf P (do eqGuard .eql t x y (.bool (bol ρ a)) (.bool (bol ρ b)); binOp .eql t (.bool (bol ρ a)) (.bool (bol ρ b))) = some (.bool (bol ρ a == bol ρ b)) := by
        show pureOf P (Op.equal t (Value.bool (bol ρ a)) (Value.bool (bol ρ b)) >>= fun r => pure (Value.bool r)) = _
        rw [pureOf_bind, eq_bool (by assumption)]; rfl
      rw [this]; rfl
    · rename_i hu _
      show retV (pureOf P (do eqGuard .neq t x y (.bool (bol ρ a)) (.bool (bol ρ b)); binOp .neq t (.bool (bol ρ a)) (.bool (bol ρ b)))) = _
      have : pureOf P (do eqGuard .neq t x y (.bool (bol ρ a)) (.bool (bol ρ b)); binOp .neq t (.bool (bol ρ a)) (.bool (bol ρ b))) = some (.bool (!(bol ρ a == bol ρ b))) := by
        show pureOf P (Op.equal t (Value.bool (bol ρ a)) (Value.bool (bol ρ b)) >>= fun r => pure (Value.bool (!r))) = _
        rw [pureOf_bind, eq_bool (by assumption)]; rfl
      rw [this]; rfl
    · trivial
  · trivial

def sun (op : UnOp) (a : SV) : SMP SV := match op, a with
  | .neg, .d (.vi k x) => .ret (.d (.vi k (.bin .sub k (.z 0) x)))
  | .not, .d (.vb x) => .ret (.d (.vb (match x with | .tt => .ff | .ff => .tt | .not y => y | x => .not x)))
  | _, _ => .fail

theorem sun_ok (op : UnOp) (a : SV) : (sun op a).Ok B ρ (γX ρ) (match γX ρ a with
    | .d (.v a) => retV (pureOf P (Op.unary op a))
    | _ => .fail) := by
  unfold sun
  split
  · rfl
  · rename_i x
    show retV (pureOf P (Op.unary .not (.bool (bol ρ x)))) = _
    have : bol ρ (match x with | .tt => .ff | .ff => .tt | .not y => y | x => .not x) = !bol ρ x := by
      split <;> simp [bol, den, V.bool]
    show MP.ret (X.d (.v (.bool !(bol ρ x)))) = .ret (X.d (.v (.bool (bol ρ _))))
    rw [this]
  · trivial

def sconv (P : Program) (s d : TypeId) (a : SV) : SMP SV := match a, P.underlying s, P.underlying d with
  | .d (.vi k x), some _, some (.int k') => .ret (.d (.vi k' (.cv k' x)))
  | _, _, _ => .fail

theorem sconv_ok (s d : TypeId) (a : SV) : (sconv P s d a).Ok B ρ (γX ρ) (match γX ρ a with
    | .d (.v a) => retV (pureOf P (convert s d a))
    | _ => .fail) := by
  unfold sconv
  split
  · rename_i k x u k' hs hd
    show retV (pureOf P (convert s d (.int k (int ρ x)))) = _
    have : pureOf P (convert s d (.int k (int ρ x))) = some (.int k' (k'.wrap (int ρ x))) := by
      unfold convert
      rw [pureOf_bind, pureOf_underlying hs, Option.bind_some, pureOf_bind, pureOf_underlying hd, Option.bind_some]
      cases u <;> rfl
    rw [this]; rfl
  · trivial

/-! ### Making -/

def zeroE (z : List Value) : List E := z.map fun v => (constE v).norm

theorem zeroE_ok (z : List Value) (h : z.all (·.oneCell) = true) : (zeroE z).map (dat ρ) = z.map fun v => (D.v v).norm := by
  unfold zeroE
  rw [List.map_map]
  refine List.map_congr_left fun v hv => ?_
  show dat ρ (constE v).norm = _
  rw [norm_dat (isOne_const (List.all_eq_true.1 h v hv)), dat_const]

theorem zeroSV (z : List Value) : (z.map fun v => SV.d (constE v)).map (γX ρ) = z.map fun c => X.d (.v c) := by
  rw [List.map_map]
  exact List.map_congr_left fun v _ => by simp only [Function.comp, γX, dat_const]

def sbuildSlice (P : Program) (key : Key) (t : TypeId) (n : Nat) (ps : List (Nat × SV)) : SMP SV := match elemT P t with
  | some e => match szOf P e, aggT P e, zeroOf P e with
    | some sz, some ag, some z => match smk ag (zeroE z) with
      | some zd => if n * sz ≤ 2 ^ 24 ∧ z.length = sz ∧ 0 < sz ∧ z.all (·.oneCell) then
          (sfillE ag sz (List.replicate n zd) true ps).bind fun es =>
            .new key (.arr e sz (consE es.1) true) (.ret (.o key (consE es.1)))
        else .fail
      | none => .fail
    | _, _, _ => .fail
  | none => .fail

theorem sfillE_len {ag : Bool} {sz : Nat} : ∀ (ps : List (Nat × SV)) (es : List E) (dp : Bool) {f : List E × Bool → SMP SV} {g : List D × Bool → MP X},
    (∀ r : List E × Bool, r.1.length = es.length → (f r).Ok B ρ (γX ρ) (g (fLB ρ r))) → ((sfillE ag sz es dp ps).bind f).Ok B ρ (γX ρ) ((fillE ag sz (es.map (dat ρ)) dp (ps.map fun p => (p.1, γX ρ p.2))).bind g)
  | [], es, dp, f, g, h => h (es, dp) rfl
  | (i, x) :: rest, es, dp, f, g, h => by
    simp only [sfillE, List.map_cons, fillE]
    cases hc : scells x with
    | none => trivial
    | some vs =>
      simp only [scells_ok hc, List.length_map]
      split
      · rename_i hh
        rw [if_pos ⟨hh.1, hh.2.1, sones_ok hh.2.2 ρ⟩]
        have assocS : ∀ {α β γ : Type} (p : SMP α) (f : α → SMP β) (g : β → SMP γ), (p.bind f).bind g = p.bind fun a => (f a).bind g := by
          intro α β γ p f g
          induction p with
          | ret a => rfl
          | fail => rfl
          | get k c ih => simp only [SMP.bind]; congr 1; funext o; exact ih o
          | put k o c ih => simp only [SMP.bind]; rw [ih]
          | new k o c ih => simp only [SMP.bind]; rw [ih]
          | ask i m c ih => simp only [SMP.bind]; congr 1; funext o; exact ih o
        have assoc : ∀ {α β γ : Type} (p : MP α) (f : α → MP β) (g : β → MP γ), (p.bind f).bind g = p.bind fun a => (f a).bind g := by
          intro α β γ p f g
          induction p with
          | ret a => rfl
          | fail => rfl
          | get k c ih => simp only [MP.bind]; congr 1; funext o; exact ih o
          | put k o c ih => simp only [MP.bind]; rw [ih]
          | new k o c ih => simp only [MP.bind]; rw [ih]
        rw [assocS, assoc]
        refine SMP.bind_ok (f := fLB ρ) (fun ds => ?_) _ _ (sabsorbs_ok vs)
        cases hm : smk ag ds.1 with
        | none => trivial
        | some d =>
          simp only [fLB, smk_ok hm]
          have := sfillE_len (ag := ag) (sz := sz) rest (es.set i d) (dp && ds.2) (f := f) (g := g) fun r hr => h r (by simpa using hr)
          rw [List.map_set] at this; exact this
      · trivial

theorem sbuildSlice_ok (key : Key) (t : TypeId) (n : Nat) (ps : List (Nat × SV)) : (sbuildSlice P key t n ps).Ok B ρ (γX ρ) (match elemT P t with
    | some e => match szOf P e, aggT P e, zeroOf P e with
      | some sz, some ag, some z => match D.mk ag (z.map fun v => (D.v v).norm) with
        | some zd => if n * sz ≤ 2 ^ 24 ∧ z.length = sz ∧ 0 < sz ∧ z.all (·.oneCell) then
            (fillE ag sz (List.replicate n zd) true (ps.map fun p => (p.1, γX ρ p.2))).bind fun es =>
              .new key (.arr e sz es.1 false true) (.ret (.o key n))
          else .fail
        | none => .fail
      | _, _, _ => .fail
    | none => .fail) := by
  unfold sbuildSlice
  split
  · rename_i e he
    split
    · rename_i sz ag z h1 h2 h3
      cases hz : smk ag (zeroE z) with
      | none => trivial
      | some zd =>
        simp only
        split
        · rename_i hc
          have hmk := smk_ok hz ρ
          rw [zeroE_ok z hc.2.2.2] at hmk
          simp only [hmk]
          rw [← List.map_replicate]
          refine sfillE_len ps _ true fun r hr => ?_
          refine ⟨_, by rw [γO, lst_consE]; rfl, ?_⟩
          simp only [SMP.Ok, γX, lst_consE, List.length_map, hr, List.length_replicate]
        · trivial
    · trivial
  · trivial

def repE (n x : E) : E := match n with
  | .z m => if 0 ≤ m ∧ m ≤ 64 then consE (List.replicate m.toNat x) else .rep n x
  | _ => .rep n x

theorem repE_ok (n x : E) : lst ρ (repE n x) = List.replicate (int ρ n).toNat (dat ρ x) := by
  unfold repE
  split
  · split
    · rw [lst_consE, List.map_replicate]; rfl
    · rfl
  · rfl

def smakeSlice (P : Program) (key : Key) (t : TypeId) (l c : SV) : SMP SV := match elemT P t, sint l, sint c with
  | some e, some (_, l), some (_, c) => match szOf P e, aggT P e, zeroOf P e with
    | some sz, some ag, some z => match smk ag (zeroE z), roomMax P e with
      | some zd, some m => if l.same c ∧ z.length = sz ∧ 0 < sz ∧ z.all (·.oneCell) then
          schk (.cmp .le (.z 0) l) (schk (.cmp .le l (.z m)) (.new key (.arr e sz (repE l zd) true) (.ret (.o key (repE l zd)))))
        else .fail
      | _, _ => .fail
    | _, _, _ => .fail
  | _, _, _ => .fail

theorem smakeSlice_ok (key : Key) (t : TypeId) (l c : SV) : (smakeSlice P key t l c).Ok B ρ (γX ρ) (match elemT P t, intX (γX ρ l), intX (γX ρ c) with
    | some e, some l, some c => match szOf P e, aggT P e, zeroOf P e with
      | some sz, some ag, some z => match D.mk ag (z.map fun v => (D.v v).norm) with
        | some zd => if 0 ≤ l ∧ l = c ∧ room P e l.toNat ∧ z.length = sz ∧ 0 < sz ∧ z.all (·.oneCell) then
            .new key (.arr e sz (List.replicate l.toNat zd) false true) (.ret (.o key l.toNat))
          else .fail
        | none => .fail
      | _, _, _ => .fail
    | _, _, _ => .fail) := by
  unfold smakeSlice
  split
  · rename_i e kl l' kc c' he hl hc
    rw [sint_intX hl, sint_intX hc, he]
    simp only
    split
    · rename_i sz ag z h1 h2 h3
      split
      · rename_i zd m hz hm
        split
        · rename_i hcond
          have hmk := smk_ok hz ρ
          rw [zeroE_ok z hcond.2.2.2] at hmk
          simp only [hmk]
          refine schk_ok fun h0 => schk_ok fun h4 => ?_
          rw [bol_le, decide_eq_true_eq, int_z] at h0 h4
          have hlc : int ρ l' = int ρ c' := by unfold int; rw [same_eq _ _ hcond.1]
          rw [if_pos ⟨h0, hlc, room_of hm (by omega), hcond.2⟩]
          refine ⟨_, by rw [γO, repE_ok], ?_⟩
          simp only [SMP.Ok, γX, repE_ok, List.length_replicate]
        · trivial
      · trivial
    · trivial
  · trivial

def isNil (v : SV) : Bool := match v with
  | .d (.vc (.slice none 0 0)) => true
  | _ => false

theorem isNil_ok {v : SV} (h : isNil v = true) : γX ρ v = .d (.v (.slice none 0 0)) := by
  unfold isNil at h
  split at h
  · rfl
  · cases h

def sappendZ (P : Program) (key : Key) (t t' : TypeId) (a b : SV) : SMP SV := match P.underlying t' with
  | some (.int _) => if isNil a then match elemT P t, sint b with
    | some e, some (_, l) => match szOf P e, aggT P e, zeroOf P e with
      | some sz, some ag, some z => match smk ag (zeroE z), roomMax P e with
        | some zd, some m => if z.length = sz ∧ 0 < sz ∧ z.all (·.oneCell) then
            schk (.cmp .lt (.z 0) l) (schk (.cmp .le l (.z m)) (.new key (.arr e sz (repE l zd) true) (.ret (.o key (repE l zd)))))
          else .fail
        | _, _ => .fail
      | _, _, _ => .fail
    | _, _ => .fail
    else .fail
  | _ => .fail

theorem sappendZ_ok {o : Oper} (t t' : TypeId) (a b : SV) : (sappendZ P (keyOf o) t t' a b).Ok B ρ (γX ρ) (appendZ P o t t' (γX ρ a) (γX ρ b)) := by
  unfold sappendZ
  split
  · rename_i kx hkx
    split
    · rename_i ha
      split
      · rename_i e kl l' he hl
        unfold appendZ
        rw [isNil_ok ha, hkx]
        simp only
        rw [sint_intX hl, he]
        simp only
        split
        · rename_i sz ag z h1 h2 h3
          split
          · rename_i zd m hz hm
            split
            · rename_i hcond
              have hmk := smk_ok hz ρ
              rw [zeroE_ok z hcond.2.2] at hmk
              rw [h1, h2, h3]
              simp only [hmk]
              refine schk_ok fun h0 => schk_ok fun h4 => ?_
              rw [bol_le, decide_eq_true_eq] at h4
              rw [bol_lt, decide_eq_true_eq] at h0
              rw [int_z] at h0 h4
              rw [if_pos ⟨h0, room_of hm (by omega), hcond⟩]
              refine ⟨_, by rw [γO, repE_ok], ?_⟩
              simp only [SMP.Ok, γX, repE_ok, List.length_replicate]
            · trivial
          · trivial
        · trivial
      · trivial
    · trivial
  · trivial

/-! ### Slices -/

def sslice (P : Program) (key : Key) (t : TypeId) (x : SV) (lo hi mx : Option SV) : SMP SV := match lo, hi, mx with
  | none, some hv, none => match sint hv, elemT P t with
   | some (_, h), some e => if (szOf P e).isSome then match x with
    | .d (.s l) => schk (.cmp .le (.z 0) h) (schk (.cmp .le h (lenE l)) (.ret (.d (.s (.take l h)))))
    | .o k l => .get k fun
      | .arr ty sz l' true => if l.lsame l' then schk (.cmp .le (.z 0) h) (schk (.cmp .le h (lenE l'))
          (.put k .dead (.new key (.arr ty sz (.take l' h) true) (.ret (.o key (.take l' h)))))) else .fail
      | _ => .fail
    | .d (.vc (.slice none 0 0)) => match h with
      | .z 0 => .ret (.d (.vc (.slice none 0 0)))
      | _ => .fail
    | _ => .fail
    else .fail
   | _, _ => .fail
  | _, _, _ => .fail

theorem sslice_ok {o : Oper} (t : TypeId) (x : SV) (lo hi mx : Option SV) : (sslice P (keyOf o) t x lo hi mx).Ok B ρ (γX ρ) (sliceM P o t (γX ρ x) (lo.map (γX ρ)) (hi.map (γX ρ)) (mx.map (γX ρ))) := by
  cases lo with
  | some _ => trivial
  | none =>
  cases hi with
  | none => trivial
  | some hv =>
  cases mx with
  | some _ => trivial
  | none =>
  show SMP.Ok B ρ (γX ρ) (match sint hv, elemT P t with
   | some (_, h), some e => if (szOf P e).isSome then _ else .fail
   | _, _ => .fail) _
  cases hh : sint hv with
  | none => trivial
  | some kh =>
    obtain ⟨kh, h⟩ := kh
    cases he : elemT P t with
    | none => trivial
    | some e =>
      simp only
      have hix := sint_intX (ρ := ρ) hh
      split
      · rename_i hsz
        cases x with
        | d e' =>
          cases e' with
          | s l =>
            refine schk_ok fun h0 => schk_ok fun h4 => ?_
            rw [bol_le, decide_eq_true_eq, int_z] at h0
            rw [bol_le, decide_eq_true_eq, lenE_ok] at h4
            show sliceM P o t (.d (.s (lst ρ l))) none (some (γX ρ hv)) none = _
            simp only [sliceM, Option.map_some, hix, he]
            rw [if_pos ⟨h0, h4, hsz⟩]; rfl
          | vc v =>
            split <;> rename_i heq <;> try trivial
            all_goals try (cases heq; done)
            cases heq
            split
            · show sliceM P o t (.d (.v (.slice none 0 0))) none (some (γX ρ hv)) none = _
              simp only [sliceM, Option.map_some, hix, he]
              rw [if_pos ⟨rfl, hsz⟩]; rfl
            · trivial
          | _ => trivial
        | o k l =>
          simp only [γX, sliceM, Option.map_none, Option.map_some, hix, he]
          refine ⟨_, rfl, fun ob => ?_⟩
          cases ob with
          | arr ty sz l' rw =>
            cases rw with
            | false => trivial
            | true =>
              simp only [γO]
              split
              · rename_i hl
                refine schk_ok fun h0 => schk_ok fun h4 => ?_
                rw [bol_le, decide_eq_true_eq, int_z] at h0
                rw [bol_le, decide_eq_true_eq, lenE_ok] at h4
                rw [if_pos ⟨lsame_len hl ρ, h0, h4, hsz⟩]
                refine ⟨_, rfl, _, rfl, ?_⟩
                show MP.ret _ = MP.ret (X.o _ ((lst ρ l').take (int ρ h).toNat).length)
                rw [List.length_take, Nat.min_eq_left (by omega)]
              · trivial
          | _ => trivial
        | _ => trivial
      · trivial

def sfieldAddr (P : Program) (t : TypeId) (x : SV) (i : Nat) : SMP SV := match fieldT P t i with
  | some (off, n) => if n = 0 then .fail else match x with
    | .p k off' => .ret (.p k (off' + off))
    | .e k l j off' => .get k fun
      | .arr _ _ l' _ => if l.lsame l' then .ret (.e k l j (off' + off)) else .fail
      | _ => .fail
    | .d (.q l) => match l.list with
      | some cs => if off < cs.length then .ret (.d (.q (consE (cs.drop off)))) else .fail
      | none => .fail
    | .d (.da a) => match cells1 P 8 t with
      | some as => if off < as.length then .ask (fun n => .get (.da a) (.q as) n) as.length fun n => .ret (.d (.q (consE ((exprs as n).drop off)))) else .fail
      | none => .fail
    | _ => .fail
  | none => .fail

theorem sfieldAddr_ok (t : TypeId) (x : SV) (i : Nat) : (sfieldAddr P t x i).Ok B ρ (γX ρ) (match fieldT P t i with
    | some (off, n) => if n = 0 then .fail else match γX ρ x with
      | .p k off' => .ret (.p k (off' + off))
      | .e k n' j off' => .get k fun
        | .arr _ _ es _ _ => if n' = es.length then .ret (.e k n' j (off' + off)) else .fail
        | _ => .fail
      | .d (.q cs) => if off < cs.length then .ret (.d (.q (cs.drop off))) else .fail
      | _ => .fail
    | none => .fail) := by
  unfold sfieldAddr
  cases hf : fieldT P t i with
  | none => trivial
  | some p =>
    obtain ⟨off, n⟩ := p
    simp only
    split
    · trivial
    · rename_i hn
      cases x with
      | p k off' => rfl
      | e k l j off' =>
        refine ⟨_, rfl, fun o => ?_⟩
        cases o with
        | arr ty sz l' rw =>
          simp only [γO]
          split
          · rename_i hl
            rw [if_pos (lsame_len hl ρ)]; rfl
          · trivial
        | _ => trivial
      | d e =>
        cases e with
        | q l =>
          simp only
          split
          · rename_i cs hl
            split
            · rename_i hlt
              show (if off < (lst ρ l).length then MP.ret (X.d (.q ((lst ρ l).drop off))) else .fail) = _
              rw [list_lst ρ _ _ hl, if_pos (by simpa using hlt)]
              show _ = MP.ret (X.d (.q (lst ρ (consE (cs.drop off)))))
              rw [lst_consE, List.map_drop]
            · trivial
          · trivial
        | da a =>
          simp only
          split
          · rename_i as has
            split
            · rename_i hlt
              intro n' hn'
              simp only [I.holds, Sh.expr] at hn'
              simp only [γX, hn']
              show (if off < (lst ρ (consE (exprs as n'))).length then MP.ret (X.d (.q ((lst ρ (consE (exprs as n'))).drop off))) else .fail) = _
              rw [lst_consE, if_pos (by simpa [exprs_length] using hlt)]
              show _ = MP.ret (X.d (.q (lst ρ (consE ((exprs as n').drop off)))))
              rw [lst_consE, List.map_drop]
            · trivial
          · trivial
        | _ => trivial
      | _ => trivial

def sindexAddr (P : Program) (t : TypeId) (x i : SV) : SMP SV := match elemT P t, sint i with
  | some e, some (_, j) => match szOf P e, x with
    | some sz, .d (.s l) => match shOf P e with
      | some (.q _) => .fail
      | some sh => if sh.size = sz then .ask (fun n => .idx l j sh n) sh.size fun n => .ret (.d (.q (consE (sh.cells n)))) else .fail
      | none => .fail
    | some sz, .o k l => schk (.cmp .le (.z 0) j) (schk (.cmp .lt j (lenE l)) (.get k fun
      | .arr ty sz' l' _ => if l.lsame l' ∧ ty = e ∧ sz' = sz then .ret (.e k l j 0) else if ty = e ∧ sz' = sz then schk (.cmp .eq (.len l) (.len l')) (.ret (.e k l' j 0)) else .fail
      | _ => .fail))
    | _, _ => .fail
  | _, _ => .fail

theorem Sh_cells_len (sh : Sh) (hq : ∀ as, sh ≠ .q as) (n : Nat) : (sh.cells n).length = sh.size := by
  cases sh with
  | one a => rfl
  | g as => exact exprs_length as n
  | q as => exact absurd rfl (hq as)

theorem sindexAddr_ok (t : TypeId) (x i : SV) : (sindexAddr P t x i).Ok B ρ (γX ρ) (match elemT P t, intX (γX ρ i) with
    | some e, some j => match szOf P e, γX ρ x with
      | some sz, .d (.s es) => if 0 ≤ j then match es[j.toNat]? with
          | some e => if e.cells.length = sz then .ret (.d (.q e.cells)) else .fail
          | none => .fail
        else .fail
      | some sz, .o k n => if 0 ≤ j ∧ j < n then .get k fun
          | .arr ty sz' es _ _ => if n = es.length ∧ ty = e ∧ sz' = sz then .ret (.e k n j.toNat 0) else .fail
          | _ => .fail
        else .fail
      | _, _ => .fail
    | _, _ => .fail) := by
  unfold sindexAddr
  split
  · rename_i e kj j he hj
    rw [sint_intX hj, he]
    simp only
    cases hsz : szOf P e with
    | none => trivial
    | some sz =>
      cases x with
      | d ex =>
        cases ex with
        | s l =>
          simp only
          cases hs : shOf P e with
          | none => trivial
          | some sh =>
            have key : ∀ hq : ∀ as, sh ≠ .q as, SMP.Ok B ρ (γX ρ) (if sh.size = sz then .ask (fun n => .idx l j sh n) sh.size fun n => .ret (.d (.q (consE (sh.cells n)))) else .fail)
                (if 0 ≤ int ρ j then match (lst ρ l)[(int ρ j).toNat]? with
                  | some e => if e.cells.length = sz then .ret (X.d (.q e.cells)) else .fail
                  | none => .fail
                else .fail) := by
              intro hq
              split
              · rename_i hsize
                intro n hn
                obtain ⟨h0, h1⟩ := hn
                rw [if_pos h0, h1]
                simp only [Sh_cells hq, List.length_map, Sh_cells_len sh hq, hsize, if_true, SMP.Ok, γX]
                show _ = MP.ret (X.d (.q (lst ρ (consE (sh.cells n)))))
                rw [lst_consE]
              · trivial
            cases sh with
            | q as => trivial
            | one a => exact key (fun as h => by cases h)
            | g as => exact key (fun as h => by cases h)
        | _ => trivial
      | o k l =>
        refine schk_ok fun h0 => schk_ok fun h1 => ?_
        rw [bol_le, decide_eq_true_eq, int_z] at h0
        rw [bol_lt, decide_eq_true_eq, lenE_ok] at h1
        simp only [γX]
        rw [if_pos ⟨h0, h1⟩]
        refine ⟨_, rfl, fun o => ?_⟩
        cases o with
        | arr ty sz' l' rw =>
          simp only [γO]
          split
          · rename_i hc
            rw [if_pos ⟨lsame_len hc.1 ρ, hc.2⟩]; rfl
          · split
            · rename_i hc
              refine schk_ok fun hl => ?_
              have hl : decide (((lst ρ l).length : Int) = ((lst ρ l').length : Int)) = true := hl
              have hl : (lst ρ l).length = (lst ρ l').length := by
                have : ((lst ρ l).length : Int) = ((lst ρ l').length : Int) := by simpa using hl
                omega
              rw [if_pos ⟨hl, hc⟩]
              simp only [SMP.Ok, γX, hl]
            · trivial
        | _ => trivial
      | _ => trivial
  · trivial

def sfield (P : Program) (t : TypeId) (x : SV) (i : Nat) : SMP SV := match fieldT P t i, fieldAgg P t i, x with
  | some (off, n), some true, .g cs => .ret (.g ((cs.drop off).take n))
  | some (off, _), some false, .g cs => match cs[off]? with
    | some c => .ret c
    | none => .fail
  | _, _, _ => .fail

theorem sfield_ok (t : TypeId) (x : SV) (i : Nat) : (sfield P t x i).Ok B ρ (γX ρ) (match fieldT P t i, fieldAgg P t i, γX ρ x with
    | some (off, n), some true, .g cs => .ret (.g ((cs.drop off).take n))
    | some (off, _), some false, .g cs => match cs[off]? with
      | some c => .ret c
      | none => .fail
    | _, _, _ => .fail) := by
  unfold sfield
  split
  · rename_i off n cs h1 h2
    rw [h1, h2]
    simp only [γX, γXs_map, SMP.Ok, List.map_take, List.map_drop]
  · rename_i off n cs h1 h2
    rw [h1, h2]
    simp only [γX, γXs_map, List.getElem?_map]
    cases hc : cs[off]? with
    | none => trivial
    | some c => rfl
  · trivial

def stakeEs : SV → SMP (E × Bool)
  | .d (.s l) => .ret (l, false)
  | .d (.vc (.slice none 0 0)) => .ret (.nil, true)
  | .o k l => .get k fun
    | .arr _ _ l' _ => if l.lsame l' then .ret (l', false) else .fail
    | _ => .fail
  | _ => .fail

def fEB (ρ : Env) (p : E × Bool) : List D × Bool := (lst ρ p.1, p.2)

theorem stakeEs_ok (v : SV) : (stakeEs v).Ok B ρ (fEB ρ) (takeEs (γX ρ v)) := by
  unfold stakeEs
  split
  · rfl
  · rfl
  · refine ⟨_, rfl, fun o => ?_⟩
    cases o with
    | arr ty sz l' rw =>
      simp only [γO]
      split
      · rename_i h
        rw [if_pos (lsame_len h ρ)]
        rfl
      · trivial
    | _ => trivial
  · trivial

def sappend (P : Program) (key : Key) (t : TypeId) (a b : SV) : SMP SV := match elemT P t with
  | none => .fail
  | some e => match szOf P e, roomMax P e with
    | some sz, some m => if 0 < sz ∧ (zeroOf P e).map (·.length) = some sz then (stakeEs b).bind fun f => schk (.cmp .le (lenE f.1) (.z m)) (shead sz f.1 (match a with
        | .d (.vc (.slice none 0 0)) => match f.1 with
          | .cons x l => .new key (.arr e sz (.cons x l) true) (.ret (.o key (.cons x l)))
          | _ => .fail
        | .o k l => .get k fun
          | .arr ty sz' l' true => if l.lsame l' ∧ ty = e ∧ sz' = sz then
              schk (.cmp .le (lenE (.app l' f.1)) (.z m)) (.put k (.arr e sz (.app l' f.1) true) (.ret (.o k (.app l' f.1))))
            else .fail
          | _ => .fail
        | _ => .fail))
      else .fail
    | _, _ => .fail

end

end Go.Tm
end

section
/- Symbolic execution of the machine over trees: every operation, put together. -/
namespace Go.Tm

section
variable {B : Tb} {ρ : Env} {sg : FuncId → Option Sig} {P : Program} {G : Ghost}

theorem sappend_ok {o : Oper} (t : TypeId) (a b : SV) : (sappend P (keyOf o) t a b).Ok B ρ (γX ρ) (appendM P o t (γX ρ a) (γX ρ b)) := by
  unfold sappend appendM
  cases he : elemT P t with
  | none => trivial
  | some e =>
    simp only
    cases hsz : szOf P e with
    | none => trivial
    | some sz =>
      cases hm : roomMax P e with
      | none => trivial
      | some m =>
        simp only
        split
        · rename_i hc
          refine SMP.bind_ok (f := fEB ρ) (fun f => ?_) _ _ (stakeEs_ok b)
          obtain ⟨fl, fb⟩ := f
          refine schk_ok fun h1 => shead_ok fun h2 => ?_
          rw [bol_le, decide_eq_true_eq, lenE_ok, int_z] at h1
          have h1 : ((lst ρ fl).length : Int) ≤ m := h1
          have hcond : room P e (fEB ρ (fl, fb)).1.length = true ∧ headOk sz (fEB ρ (fl, fb)).1 = true ∧ 0 < sz ∧ (zeroOf P e).map (·.length) = some sz :=
            ⟨room_of hm (by show (lst ρ fl).length ≤ m; omega), h2, hc.1, hc.2⟩
          rw [if_pos hcond]
          split
          · split
            · rename_i x l hfl
              have hfl : fl = .cons x l := hfl
              subst hfl
              have hne : ¬ (fEB ρ (E.cons x l, fb)).1 = [] := by
                show ¬ (dat ρ x :: lst ρ l) = []
                simp
              show SMP.Ok B ρ (γX ρ) _ (if (fEB ρ (E.cons x l, fb)).1 = [] then _ else _)
              rw [if_neg hne]
              exact ⟨_, rfl, rfl⟩
            · trivial
          · rename_i k l
            refine ⟨_, rfl, fun ob => ?_⟩
            cases ob with
            | arr ty sz' l' rw =>
              cases rw with
              | false => trivial
              | true =>
                simp only [γO]
                split
                · rename_i hh
                  refine schk_ok fun h3 => ?_
                  rw [bol_le, decide_eq_true_eq, lenE_ok, int_z] at h3
                  have h3 : ((lst ρ (.app l' fl)).length : Int) ≤ m := h3
                  have hlen : (lst ρ (.app l' fl)).length = (lst ρ l').length + (lst ρ fl).length := by
                    show (lst ρ l' ++ lst ρ fl).length = _
                    simp
                  have hcond2 : (lst ρ l).length = (lst ρ l').length ∧ ty = e ∧ sz' = sz ∧ room P e ((lst ρ l).length + (fEB ρ (fl, fb)).1.length) = true :=
                    ⟨lsame_len hh.1 ρ, hh.2.1, hh.2.2, by rw [lsame_len hh.1 ρ]; exact room_of hm (by show (lst ρ l').length + (lst ρ fl).length ≤ m; omega)⟩
                  rw [if_pos hcond2]
                  refine ⟨_, rfl, ?_⟩
                  show MP.ret (X.o k ((lst ρ l).length + (lst ρ fl).length)) = _
                  simp only [SMP.Ok, γX, hlen, lsame_len hh.1 ρ]
                · trivial
            | _ => trivial
          · trivial
        · trivial

def sview : SV → SMP E
  | .d (.s l) => .ret l
  | .d (.vc (.slice none 0 0)) => .ret .nil
  | .o k l => .get k fun
    | .arr _ _ l' _ => if l.lsame l' then .ret l' else .fail
    | _ => .fail
  | _ => .fail

theorem sview_ok (v : SV) : (sview v).Ok B ρ (lst ρ) (viewEs (γX ρ v)) := by
  unfold sview
  split
  · rfl
  · rfl
  · refine ⟨_, rfl, fun o => ?_⟩
    cases o with
    | arr ty sz l' rw =>
      simp only [γO]
      split
      · rename_i h
        rw [if_pos (lsame_len h ρ)]; rfl
      · trivial
    | _ => trivial
  · trivial

def sopM (P : Program) (sg : FuncId → Option Sig) (o : Oper) (sl : SSl) : SMP SV :=
  let r := sop sl
  match o.op with
  | .move x | .assign x => .ret (r x)
  | .pick c a b => match r c with
    | .d (.vb e) => match e.known with
      | some true => .ret (r a)
      | some false => .ret (r b)
      | none => .fail
    | _ => .fail
  | .alloc t => match zeroOf P t with
    | some z => if z.all (·.oneCell) then .new (keyOf o) (.box (z.map fun v => .d (constE v))) (.ret (.p (keyOf o) 0)) else .fail
    | none => .fail
  | .box _ x => match scells (r x) with
    | some cs => .new (keyOf o) (.box cs) (.ret (.p (keyOf o) 0))
    | none => .fail
  | .build t ps => match zeroOf P t, placesT P t with
    | some z, some pl => if z.all (·.oneCell) then match sfillX pl (z.map fun v => .d (constE v)) (ps.toList.map fun p => (p.1, r p.2)) with
      | some cs => .ret (.g cs)
      | none => .fail
      else .fail
    | _, _ => .fail
  | .buildSlice t n ps => sbuildSlice P (keyOf o) t n (ps.toList.map fun p => (p.1, r p.2))
  | .load t a => sloadM P t (r a)
  | .store t a x => sstoreM P t (r a) (r x)
  | .nilCheck x => match r x with
    | .p k off => .ret (.p k off)
    | .d (.q l) => .ret (.d (.q l))
    | .f fn cs => .ret (.f fn cs)
    | .d (.fn f l) => .ret (.d (.fn f l))
    | _ => .fail
  | .binOp op t x y _ => sbin P op t (r x) (r y)
  | .unOp op _ x => sun op (r x)
  | .convert s d x => sconv P s d (r x)
  | .makeFunc (.func f) fs cs => if fs.isEmpty then .ret (.f f (cs.toList.map r)) else .fail
  | .makeSlice t l c => smakeSlice P (keyOf o) t (r l) (r c)
  | .slice t x lo hi mx => sslice P (keyOf o) t (r x) (lo.map r) (hi.map r) (mx.map r)
  | .fieldAddr t x i => sfieldAddr P t (r x) i
  | .field t x i => sfield P t (r x) i
  | .indexAddr t x i => sindexAddr P t (r x) (r i)
  | .extract x i => match r x with
    | .t cs => match cs[i]? with
      | some c => .ret c
      | none => .fail
    | _ => .fail
  | .call c => match c.callee with
    | .builtin .len => match c.args.toList, c.argTypes.toList with
      | [p], [t] => match elemT P t with
        | some _ => (sview (r p)).bind fun l => .ret (.d (.vi .i64 (lenE l)))
        | none => .fail
      | _, _ => .fail
    | .builtin .append => match c.args.toList, c.argTypes.toList with
      | [p, q], [t, t'] => if t' = t then sappend P (keyOf o) t (r p) (r q) else sappendZ P (keyOf o) t t' (r p) (r q)
      | _, _ => .fail
    | .builtin .cap => match c.args.toList, c.argTypes.toList with
      | [p], [t] => if isNilC (r p) then match elemT P t with
        | some _ => .ret (.d (.vi .i64 (.z 0)))
        | none => .fail
        else .fail
      | _, _ => .fail
    | .value f => match r f with
      | .f fn cs => scallM sg (keyOf o) fn (c.args.toList.map r ++ cs)
      | .d (.da n) => callV n (c.args.toList.map r) (sh1 P o.type)
      | _ => .fail
    | _ => .fail
  | _ => .fail

theorem parts_map (ρ : Env) (sl : SSl) (ps : List (Nat × Operand)) : (ps.map fun p => (p.1, opX (γs ρ sl) p.2)) = (ps.map fun p => (p.1, sop sl p.2)).map fun p => (p.1, γX ρ p.2) := by
  rw [List.map_map]
  exact List.map_congr_left fun p _ => by simp only [Function.comp, sop_ok]

theorem ops_map (ρ : Env) (sl : SSl) (l : List Operand) : l.map (opX (γs ρ sl)) = (l.map (sop sl)).map (γX ρ) := by
  rw [List.map_map]
  exact List.map_congr_left fun p _ => by simp only [Function.comp, sop_ok]

theorem len_lst {l : List D} {ty : TypeId} : goInt l.length = Value.int .i64 l.length := rfl

theorem sopM_ok (hB : BOk sg B) (o : Oper) (sl : SSl) : (sopM P sg o sl).Ok B ρ (γX ρ) (opM P (tabOf sg B) G (γs ρ sl) o) := by
  unfold sopM opM
  cases o.op with
  | move x => simp only [sop_ok]; rfl
  | assign x => simp only [sop_ok]; rfl
  | pick c a b =>
    simp only [sop_ok]
    split
    · rename_i e h
      split
      · rename_i hk; rw [h]; have := known_ok (ρ := ρ) hk; rw [show γX ρ (.d (.vb e)) = .d (.v (.bool (bol ρ e))) from rfl, this]; rfl
      · rename_i hk; rw [h]; have := known_ok (ρ := ρ) hk; rw [show γX ρ (.d (.vb e)) = .d (.v (.bool (bol ρ e))) from rfl, this]; rfl
      · trivial
    · trivial
  | alloc t =>
    simp only
    split
    · rename_i z hz
      split
      · rename_i h
        rw [hz]
        simp only [h, if_true]
        refine ⟨_, by rw [γO, γXs_map, zeroSV]; rfl, rfl⟩
      · trivial
    · trivial
  | box t x =>
    simp only [sop_ok]
    split
    · rename_i cs h
      rw [scells_ok h]
      exact ⟨_, by rw [γO, γXs_map]; rfl, rfl⟩
    · trivial
  | build t ps =>
    simp only [parts_map]
    split
    · rename_i z pl hz hpl
      split
      · rename_i h
        split
        · rename_i cs hcs
          have := sfillX_ok (ρ := ρ) _ _ _ hcs
          rw [zeroSV] at this
          rw [hz, hpl]
          simp only [h, if_true]
          rw [this]
          simp only [SMP.Ok, γX, γXs_map]
        · trivial
      · trivial
    · trivial
  | buildSlice t n ps => simp only [parts_map]; exact sbuildSlice_ok _ t n _
  | load t a => simp only [sop_ok]; exact sloadM_ok t _
  | store t a x => simp only [sop_ok]; exact sstoreM_ok t _ _
  | nilCheck x =>
    simp only [sop_ok]
    split
    · rename_i h; rw [h]; rfl
    · rename_i h; rw [h]; rfl
    · rename_i h; rw [h]; rfl
    · rename_i h; rw [h]; rfl
    · trivial
  | binOp op t x y t' => simp only [sop_ok]; exact sbin_ok op t x y _ _
  | unOp op t x => simp only [sop_ok]; exact sun_ok op _
  | convert s d x => simp only [sop_ok]; exact sconv_ok s d _
  | makeFunc fn fs cs =>
    cases fn with
    | func f =>
      simp only
      split
      · rename_i h
        simp only [ops_map, SMP.Ok, γX, γXs_map]
      · trivial
    | _ => trivial
  | makeSlice t l c => simp only [sop_ok]; exact smakeSlice_ok _ t _ _
  | slice t x lo hi mx =>
    simp only [sop_ok]
    have e : ∀ q : Option Operand, q.map (opX (γs ρ sl)) = (q.map (sop sl)).map (γX ρ) := fun q => by cases q <;> simp [sop_ok]
    rw [e, e, e]
    exact sslice_ok t _ _ _ _
  | fieldAddr t x i => simp only [sop_ok]; exact sfieldAddr_ok t _ i
  | field t x i => simp only [sop_ok]; exact sfield_ok t _ i
  | indexAddr t x i => simp only [sop_ok]; exact sindexAddr_ok t _ _
  | extract x i =>
    simp only [sop_ok]
    split
    · rename_i cs h
      rw [h]
      simp only [γX, γXs_map, List.getElem?_map]
      cases hc : cs[i]? with
      | none => trivial
      | some c => rfl
    · trivial
  | call c =>
    simp only
    cases c.callee with
    | builtin b =>
      cases b with
      | len =>
        simp only [sop_ok]
        split
        · rename_i p t hp ht
          rw [hp, ht]
          simp only
          split
          · rename_i e he
            have key : ((sview (sop sl p)).bind fun l => .ret (.d (.vi .i64 (lenE l)))).Ok B ρ (γX ρ) ((viewEs (γX ρ (sop sl p))).bind fun es => .ret (.d (.v (goInt es.length)))) := by
              refine SMP.bind_ok (f := lst ρ) (fun l => ?_) _ _ (sview_ok _)
              show MP.ret (X.d (.v (.int .i64 ((lst ρ l).length : Int)))) = MP.ret (X.d (.v (.int .i64 (int ρ (lenE l)))))
              rw [lenE_ok]
            by_cases hs : ∃ s, γX ρ (sop sl p) = .d (.v (.string s))
            · obtain ⟨s, hs⟩ := hs
              have : sview (sop sl p) = .fail := by
                unfold sview
                split
                · rename_i h; rw [h] at hs; exact absurd hs (by simp [γX, dat, den, V.dat])
                · rename_i h; rw [h] at hs; exact absurd hs (by simp [γX, dat, den, V.dat])
                · rename_i h; rw [h] at hs; exact absurd hs (by simp [γX])
                · rfl
              rw [this]; trivial
            · split
              · rename_i s h; exact absurd ⟨_, h⟩ hs
              · rw [he]; exact key
          · trivial
        · trivial
      | append =>
        simp only [sop_ok]
        split
        · rename_i p q t t' hp ht
          rw [hp, ht]
          simp only
          split
          · rename_i htt
            exact sappend_ok t _ _
          · exact sappendZ_ok t _ _ _
        · trivial
      | cap =>
        simp only [sop_ok]
        split
        · rename_i p t hp ht
          rw [hp, ht]
          simp only
          split
          · rename_i hn
            split
            · rename_i e he
              have hv : sop sl p = .d (.vc (.slice none 0 0)) := by
                revert hn
                unfold isNilC
                split
                · rename_i h; intro _; exact h
                · intro h; cases h
              rw [hv, he]; rfl
            · trivial
          · trivial
        · trivial
      | _ => trivial
    | value f =>
      simp only [sop_ok, ops_map]
      split
      · rename_i fn cs h
        rw [h]
        simp only [γX]
        rw [γXs_map, ← List.map_append]
        exact scallM_ok hB o fn _
      · rename_i n h
        rw [h]
        exact callV_ok hB o n _ _
      · trivial
    | invoke _ _ => trivial
  | _ => trivial

end

end Go.Tm
end

section
/- Symbolic execution of the machine over trees: regions. -/
namespace Go.Tm

structure SSt where
  sl : SSl
  m : SMem

inductive Wt where
  | yes | no | fork (d : Tmp) (b : E) (want : Bool) | bad

def bvOf : Option SV → Option E
  | some (.d (.vb b)) => some b
  | _ => none

/-- What an operation that was not wanted leaves. -/
def isTup0 : Option SV → Bool
  | some (.t []) => true
  | _ => false

/-- Whether an operation is wanted. -/
def swanted (ops : Array Oper) (sl : SSl) (o : Oper) : Wt := match o.guard with
  | none => .yes
  | some (j, want) => match (ops[j]?).bind (·.dst) with
    | some d => match bvOf (sl.lookup d) with
      | some b => match b.known with
        | some t => if t == want then .yes else .no
        | none => .fork d b want
      | none => if isTup0 (sl.lookup d) then .no else .bad
    | none => .bad

def sput (sl : SSl) (dst : Option Tmp) (v : SV) : SSl := match dst with
  | some d => (d, v) :: sl
  | none => sl

def wrapI : List I → R → R
  | [], r => r
  | i :: is, r => .i i (wrapI is r)

def boolE (t : Bool) : E := if t then .tt else .ff

abbrev Trs := List (List (Key × Bool))

def sxOps (P : Program) (sg : FuncId → Option Sig) (ops : Array Oper) : List Nat → SSl → SMem → Nat → Trs → (SSl → SMem → Nat → Trs → Option R) → Option R
  | [], sl, m, n, trs, k => k sl m n trs.reverse
  | i :: l, sl, m, n, trs, k => match ops[i]? with
    | none => none
    | some o =>
      let go := fun (sl : SSl) (b : Bool) => if b then match (sopM P sg o sl).run m n with
          | some r => match sxOps P sg ops l (sput sl o.dst r.val) r.m r.n (r.tr :: trs) k with
            | some R => some (wrapI r.is R)
            | none => none
          | none => none
        else sxOps P sg ops l (sput sl o.dst (.t [])) m n ([] :: trs) k
      match swanted ops sl o with
      | .yes => go sl true
      | .no => go sl false
      | .fork d b want => match go ((d, .d (.vb .tt)) :: sl) want, go ((d, .d (.vb .ff)) :: sl) (!want) with
        | some x, some y => some (.ite b x y)
        | _, _ => none
      | .bad => none

section
variable {B : Tb} {ρ : Env} {sg : FuncId → Option Sig} {P : Program} {G : Ghost} {ops : Array Oper} {N : Nat}

theorem run_wrap : ∀ (is : List I) (r : R) (o : Oc), Run B N (wrapI is r) ρ o → (∀ i ∈ is, i.holds B ρ) ∧ Run B N r ρ o
  | [], r, o, h => ⟨fun i hi => by simp at hi, h⟩
  | i :: is, r, o, h => by
    obtain ⟨h1, h2⟩ := h
    obtain ⟨h3, h4⟩ := run_wrap is r o h2
    exact ⟨fun j hj => by
      rcases List.mem_cons.1 hj with rfl | hj
      · exact h1
      · exact h3 j hj, h4⟩

theorem sput_ok (sl : SSl) (dst : Option Tmp) (v : SV) : putX (γs ρ sl) dst (γX ρ v) = γs ρ (sput sl dst v) := by
  cases dst with
  | none => rfl
  | some d => exact (γs_cons ρ sl d v).symm

theorem γs_at {sl : SSl} {d : Tmp} {v : SV} (h : sl.lookup d = some v) : γs ρ sl d = γX ρ v := by unfold γs; rw [h]

/-- A slot's value, now that it is known. -/
theorem γs_know {sl : SSl} {d : Tmp} {b : E} {t : Bool} (h : sl.lookup d = some (.d (.vb b))) (ht : bol ρ b = t) : γs ρ ((d, .d (.vb (boolE t))) :: sl) = γs ρ sl := by
  rw [γs_cons]
  funext j
  unfold upd
  split
  · rename_i hj; subst hj
    rw [γs_at h]
    show X.d (.v (.bool (bol ρ (boolE t)))) = X.d (.v (.bool (bol ρ b)))
    rw [ht]; cases t <;> rfl
  · rfl

theorem bvOf_ok {sl : SSl} {d : Tmp} {b : E} (h : bvOf (sl.lookup d) = some b) : γs ρ sl d = X.d (.v (.bool (bol ρ b))) ∧ sl.lookup d = some (.d (.vb b)) := by
  unfold bvOf at h
  split at h
  · rename_i b' hl
    simp only [Option.some.injEq] at h; subst h
    exact ⟨by rw [γs_at hl]; rfl, hl⟩
  · cases h

theorem swanted_yes {sl : SSl} {o : Oper} (h : swanted ops sl o = .yes) : wantedX ops (γs ρ sl) o = some true := by
  unfold swanted at h
  unfold wantedX
  split at h
  · rename_i hg; rw [hg]
  · rename_i j want hg
    rw [hg]
    simp only
    split at h
    · rename_i d hd
      rw [hd]
      simp only
      split at h
      · rename_i b hb
        rw [(bvOf_ok (ρ := ρ) hb).1]
        split at h
        · rename_i t ht
          split at h
          · rename_i hw
            rw [known_ok ht]; simpa using hw
          · cases h
        · cases h
      · split at h <;> cases h
    · cases h

theorem isTup0_ok {sl : SSl} {d : Tmp} (h : isTup0 (sl.lookup d) = true) : γs ρ sl d = X.t [] := by
  unfold isTup0 at h
  split at h
  · rename_i hl; rw [γs_at hl]; rfl
  · cases h

theorem swanted_no {sl : SSl} {o : Oper} (h : swanted ops sl o = .no) : wantedX ops (γs ρ sl) o = some false := by
  unfold swanted at h
  unfold wantedX
  split at h
  · cases h
  · rename_i j want hg
    rw [hg]
    simp only
    split at h
    · rename_i d hd
      rw [hd]
      simp only
      split at h
      · rename_i b hb
        rw [(bvOf_ok (ρ := ρ) hb).1]
        split at h
        · rename_i t ht
          split at h
          · cases h
          · rename_i hw
            rw [known_ok ht]; simpa using hw
        · cases h
      · split at h
        · rename_i h0
          rw [isTup0_ok (ρ := ρ) h0]
        · cases h
    · cases h

theorem swanted_fork {sl : SSl} {o : Oper} {d : Tmp} {b : E} {want : Bool} (h : swanted ops sl o = .fork d b want) : sl.lookup d = some (.d (.vb b)) ∧ wantedX ops (γs ρ sl) o = some (bol ρ b == want) := by
  unfold swanted at h
  unfold wantedX
  split at h
  · cases h
  · rename_i j want' hg
    rw [hg]
    simp only
    split at h
    · rename_i d' hd
      rw [hd]
      simp only
      split at h
      · rename_i b' hb
        obtain ⟨h1, h2⟩ := bvOf_ok (ρ := ρ) hb
        rw [h1]
        split at h
        · split at h <;> cases h
        · cases h
          exact ⟨h2, rfl⟩
      · split at h <;> cases h
    · cases h

theorem sxOps_ok (hB : BOk sg B) : ∀ (l : List Nat) (sl : SSl) (m : SMem) (n : Nat) (trs : Trs) (k : SSl → SMem → Nat → Trs → Option R) (R : R) (o : Oc), sxOps P sg ops l sl m n trs k = some R → Run B N R ρ o →
    ∃ sl' m' n' tl R', evOpsT P (tabOf sg B) G ops l ⟨γs ρ sl, γm ρ m⟩ = some (⟨γs ρ sl', γm ρ m'⟩, tl) ∧ k sl' m' n' (trs.reverse ++ tl) = some R' ∧ Run B N R' ρ o
  | [], sl, m, n, trs, k, R, o, h, hr => ⟨sl, m, n, [], R, rfl, by simpa [sxOps] using h, hr⟩
  | i :: l, sl, m, n, trs, k, R, o, h, hr => by
    have ih := sxOps_ok hB l
    simp only [sxOps] at h
    cases hi : ops[i]? with
    | none => simp [hi] at h
    | some op =>
      simp only [hi] at h
      -- the operation, wanted
      have yes : ∀ (sl : SSl) (R : Go.Tm.R), (match (sopM P sg op sl).run m n with
          | some r => match sxOps P sg ops l (sput sl op.dst r.val) r.m r.n (r.tr :: trs) k with
            | some R => some (wrapI r.is R)
            | none => none
          | none => none) = some R → Run B N R ρ o → wantedX ops (γs ρ sl) op = some true →
          ∃ sl' m' n' tl R', evOpsT P (tabOf sg B) G ops (i :: l) ⟨γs ρ sl, γm ρ m⟩ = some (⟨γs ρ sl', γm ρ m'⟩, tl) ∧ k sl' m' n' (trs.reverse ++ tl) = some R' ∧ Run B N R' ρ o := by
        intro sl R h hr hw
        split at h
        · rename_i r hrun
          split at h
          · rename_i R1 h1
            simp only [Option.some.injEq] at h; subst h
            obtain ⟨his, hr⟩ := run_wrap _ _ _ hr
            have hT := SMP.run_ok _ _ _ _ _ (sopM_ok (G := G) (P := P) hB op sl) hrun his
            obtain ⟨sl', m', n', tl, R', e1, e2, e3⟩ := ih _ _ _ _ k R1 o h1 hr
            refine ⟨sl', m', n', r.tr :: tl, R', ?_, by simpa using e2, e3⟩
            simp only [evOpsT, hi, evM, hw, hT, sput_ok, e1]
          · cases h
        · cases h
      have no : ∀ (sl : SSl) (R : Go.Tm.R), sxOps P sg ops l (sput sl op.dst (.t [])) m n ([] :: trs) k = some R → Run B N R ρ o → wantedX ops (γs ρ sl) op = some false →
          ∃ sl' m' n' tl R', evOpsT P (tabOf sg B) G ops (i :: l) ⟨γs ρ sl, γm ρ m⟩ = some (⟨γs ρ sl', γm ρ m'⟩, tl) ∧ k sl' m' n' (trs.reverse ++ tl) = some R' ∧ Run B N R' ρ o := by
        intro sl R h hr hw
        obtain ⟨sl', m', n', tl, R', e1, e2, e3⟩ := ih _ _ _ _ k R o h hr
        refine ⟨sl', m', n', [] :: tl, R', ?_, by simpa using e2, e3⟩
        have e0 : putX (γs ρ sl) op.dst (.t []) = γs ρ (sput sl op.dst (.t [])) := sput_ok sl op.dst (.t [])
        simp only [evOpsT, hi, evM, hw, MP.runT, e0, e1]
      cases hsw : swanted ops sl op with
      | yes =>
        simp only [hsw, if_true] at h
        exact yes sl R h hr (swanted_yes hsw)
      | no =>
        simp only [hsw, Bool.false_eq_true, if_false] at h
        exact no sl R h hr (swanted_no hsw)
      | bad => simp [hsw] at h
      | fork d b want =>
        simp only [hsw] at h
        obtain ⟨hd, hw⟩ := swanted_fork (ρ := ρ) hsw
        split at h
        · rename_i x y hx hy
          simp only [Option.some.injEq] at h; subst h
          have part : ∀ (t : Bool) (w : Bool) (z : Go.Tm.R), bol ρ b = t → (t == want) = w → (if w = true then (match (sopM P sg op ((d, .d (.vb (boolE t))) :: sl)).run m n with
                | some r => match sxOps P sg ops l (sput ((d, .d (.vb (boolE t))) :: sl) op.dst r.val) r.m r.n (r.tr :: trs) k with
                  | some R => some (wrapI r.is R)
                  | none => none
                | none => none) else sxOps P sg ops l (sput ((d, .d (.vb (boolE t))) :: sl) op.dst (.t [])) m n ([] :: trs) k) = some z → Run B N z ρ o →
              ∃ sl' m' n' tl R', evOpsT P (tabOf sg B) G ops (i :: l) ⟨γs ρ sl, γm ρ m⟩ = some (⟨γs ρ sl', γm ρ m'⟩, tl) ∧ k sl' m' n' (trs.reverse ++ tl) = some R' ∧ Run B N R' ρ o := by
            intro t w z ht hwt hz hrz
            have hk := γs_know hd ht
            rw [← hk]
            rw [← hk, ht] at hw
            cases w with
            | true => simp only [if_true] at hz; exact yes _ z hz hrz (by rw [hw, hwt])
            | false => simp only [Bool.false_eq_true, if_false] at hz; exact no _ z hz hrz (by rw [hw, hwt])
          simp only [Run] at hr
          cases hb : bol ρ b with
          | true =>
            rw [hb] at hr
            exact part true want x hb (by cases want <;> rfl) hx hr
          | false =>
            rw [hb] at hr
            simp only [Bool.false_eq_true, if_false] at hr
            exact part false (!want) y hb (by cases want <;> rfl) hy hr
        · cases h

/-- A region, in any order. -/
theorem evOps_of_T {T : Tab} : ∀ (l : List Nat) (st st' : St) (tl : Trs), evOpsT P T G ops l st = some (st', tl) → evOps P T G ops l st = some st'
  | [], st, st', tl, h => by
    simp only [evOpsT, Option.some.injEq, Prod.mk.injEq] at h
    simp only [evOps, h.1]
  | i :: l, st, st', tl, h => by
    simp only [evOpsT] at h
    split at h
    · cases h
    · rename_i o ho
      split at h
      · cases h
      · rename_i p hp
        split at h
        · cases h
        · rename_i x m1 t1 hr
          split at h
          · cases h
          · rename_i st2 ts h2
            simp only [Option.some.injEq, Prod.mk.injEq] at h
            obtain ⟨rfl, rfl⟩ := h
            rw [MP.runT_eq] at hr
            cases hrun : p.run st.m with
            | none => simp [hrun] at hr
            | some q =>
              obtain ⟨x', m'⟩ := q
              simp only [hrun, Option.map_some, Option.some.injEq, Prod.mk.injEq] at hr
              obtain ⟨rfl, rfl, _⟩ := hr
              have := (evOp_of ho hp hrun).1
              simp only [evOps, this]
              exact evOps_of_T l _ _ _ h2

end

end Go.Tm
end

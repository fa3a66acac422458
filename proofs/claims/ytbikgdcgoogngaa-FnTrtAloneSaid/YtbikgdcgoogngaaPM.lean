/- All sites keep to a treaty just if each does: over residual programs. -/
import Derived.Test.YtbikgdcgoogngaaPJ
import Derived.Test.YtbikgdcgoogngaaPL
namespace Go.Proofs.Ytbikgdcgoogngaa
open Go Go.Tm

theorem PartsFit.fitLL {n : Nat} {ps : List (List Int)} (h : PartsFit n ps) (hn : n ≤ 1000000) : fitLL ps := ⟨by have := h.len; omega, fun p hp => by rw [(h.each p hp).1]; omega⟩

theorem ev_DrawTrtAll (ns : List Int) (hb : ∀ x ∈ ns, 0 ≤ x ∧ x < 256) :
    ∃ b g ps as, Ev L f_spec_DrawTrtAll [.s (bytesD ns)] [.s (dL b), .s (dL g), .s (dLL ps), .s (dLL as)] ∧ b.length ≤ 1000000 ∧ g.length ≤ 1000000 ∧ fitLL ps ∧ fitLL as := by
  have key : ∃ ds, Ev L f_spec_DrawTrtAll [.s (bytesD ns)] ds ∧ ∃ b g ps as, ds = [.s (dL b), .s (dL g), .s (dLL ps), .s (dLL as)] ∧ b.length ≤ 1000000 ∧ g.length ≤ 1000000 ∧ fitLL ps ∧ fitLL as := by
    refine Ev.of (vs := [.l (bytesD ns)]) L_spec_DrawTrtAll rfl ?_
    obtain ⟨bs, ho, hr⟩ := ev_open ns hb
    refine WR.ev ho rfl rfl rfl ?_
    obtain ⟨b, g, q, ht, q1, q2, bl, gl, _, _⟩ := ev_treaty hr (by omega) (n := 12) (by omega) (by omega)
    refine WR.ev ht rfl rfl rfl ?_
    refine WR.forS g.length (fun i vs => ∃ (as : List (List Int)) (o : Int), vs = [.l (dLL as), .i i, .i o, .l (bytesD bs)] ∧ q ≤ o ∧ o ≤ q + 10 * i ∧ as.length = i ∧ ∀ a ∈ as, a.length ≤ 4) rfl ⟨[], q, rfl, by omega, by omega, rfl, by simp⟩ ?_
    rintro i _ hi ⟨as, o, rfl, o1, o2, al, a4⟩
    refine WR.iteLen i (dL_len g) rfl (fun h => ?_) (fun h => ?_)
    · obtain ⟨a, q', ha, q3, q4, hal, _⟩ := ev_added (hr.go (q := o) (by omega) (by omega)) (by omega) (n := 16) (by omega) (by omega)
      refine WR.ev ha rfl rfl rfl ?_
      refine WR.chkN (dLL as ++ [.s (dL a)]) 100 (by rw [dLL_snoc, dLL_len]; simp; omega) (by omega) rfl ?_
      refine WR.nextA (vs := [.l (dLL (as ++ [a])), .i ((i + 1 : Nat) : Int), .i q', .l (bytesD bs)]) ?_ ⟨h, as ++ [a], q', rfl, by omega, by omega, by simp; omega, ?_⟩
      · show [V.l (dLL as ++ [.s (dL a)]), V.i (IntKind.i64.wrap ((i : Int) + 1)), V.i q', V.l (bytesD bs)] = _
        rw [wS h (by omega), dLL_snoc]
      · intro x hx
        rcases List.mem_append.1 hx with hx | hx
        · exact a4 x hx
        · simp at hx; subst hx; exact hal
    · refine WR.esc ?_
      have fin : ∀ (as' : List (List Int)), as'.length ≤ 10 → (∀ a ∈ as', a.length ≤ 4) → fitLL as' := fun as' h1 h2 => ⟨by omega, fun a ha => by have := h2 a ha; omega⟩
      refine WRpick 12 (hr.go (q := o) (by omega) (by omega)) (by omega) (by omega) rfl rfl fun u hu0 hu1 => ?_
      obtain ⟨acts, q', he, _, _, hs, _⟩ := ev_l20Acts (hr.go (q := o + 1) (by omega) (by omega)) (by omega)
      have hps : fitLL (catForms acts) := (catForms_fit acts).fitLL (by omega)
      refine WR.iteP (u = 0) rfl (fun hu => ?_) (fun hu => ?_)
      · refine WR.chkN (dLL as ++ [.s (dL [0, 0, 0])]) 100 (by rw [dLL_snoc, dLL_len]; simp; omega) (by omega) rfl ?_
        refine WR.ev he rfl rfl rfl ?_
        refine WR.ev (ev_CatForms acts hs.fit) rfl rfl rfl ?_
        refine WR.done ⟨b, g, catForms acts, as ++ [[0, 0, 0]], ?_, by omega, by omega, hps, fin _ (by simp; omega) ?_⟩
        · show [D.s (dL b), .s (dL g), .s (dLL (catForms acts)), .s (dLL as ++ [.s (dL [0, 0, 0])])] = _
          rw [dLL_snoc]
        · intro x hx
          rcases List.mem_append.1 hx with hx | hx
          · exact a4 x hx
          · simp at hx; subst hx; simp
      · refine WR.ev he rfl rfl rfl ?_
        refine WR.ev (ev_CatForms acts hs.fit) rfl rfl rfl ?_
        exact WR.done ⟨b, g, catForms acts, as, rfl, by omega, by omega, hps, fin _ (by omega) a4⟩
  obtain ⟨ds, e1, b, g, ps, as, rfl, e2⟩ := key
  exact ⟨b, g, ps, as, e1, e2⟩

/-- The rest of the law. -/
def restTA : R :=
  .i (.call f_impl_TrtAll [(.s (.v 1)), (.s (.v 2)), (.s (.v 3)), (.s (.v 4))] [.b] 8) <|
  .ite (.beq (.v 8) (.v 6))
   (
    .i (.call f_impl_TrtAll [(.s (.v 1)), (.s (.v 2)), (.s (.v 3)), (.s (.v 4))] [.b] 9) <|
    .i (.call f_spec_TrtAll [(.s (.v 1)), (.s (.v 2)), (.s (.v 3)), (.s (.v 4))] [.b] 10) <|
    .ite (.beq (.v 9) (.v 10))
     (
      .i (.call f_impl_TrtAll [(.s (.cons (.vi .i64 (.z 0)) (.cons (.vi .i64 (.z 0)) (.cons (.vi .i64 (.z 0)) .nil)))), (.s (.cons (.vi .i64 (.z 0)) .nil)), (.s .nil), (.s (.cons (.s (.cons (.vi .i64 (.z 0)) (.cons (.vi .i64 (.z 0)) (.cons (.vi .i64 (.z 0)) .nil)))) .nil))] [.b] 11) <|
      .done [(.vb (.v 11))])
     (
      .done [(.vb .ff)]))
   (
    .done [(.vb .ff)])

theorem allIx_take {α : Type} {p : Nat → α → Bool} {l : List α} (k : Nat) (h : allIx p l = true) : allIx p (l.take k) = true := by
  rw [allIx_iff] at h ⊢
  intro i x hx
  rw [List.getElem?_take] at hx
  split at hx
  · exact h i x hx
  · cases hx

theorem ev_FnTrtAll (ns : List Int) (hb : ∀ x ∈ ns, 0 ≤ x ∧ x < 256) : Ev L f_laws_FnTrtAll [.s (bytesD ns)] [dB true] := by
  refine Ev.eq (vs := [.l (bytesD ns)]) L_laws_FnTrtAll rfl ?_
  refine WR.iteP (1048576 < ((bytesD ns).length : Int)) rfl (fun _ => WR.done rfl) (fun _ => ?_)
  obtain ⟨b, g, ps, as, hd, bl, gl, hp, ha⟩ := ev_DrawTrtAll ns hb
  refine WR.ev hd rfl rfl rfl ?_
  refine WR.ev (ev_TrtOk b g bl gl) rfl rfl rfl ?_
  have rest : ∀ (t : Bool) (i : Int), trtAll b g ps as = t → WR L restTA [.l (bytesD ns), .l (dL b), .l (dL g), .l (dLL ps), .l (dLL as), .b (trtOk b g), .b t, .i i] (Fin (· = [dB true])) := by
    rintro _ i rfl
    refine WR.ev (ev_TrtAll b g ps as bl gl hp ha) rfl rfl rfl ?_
    refine WR.iteT (by show (trtAll b g ps as == trtAll b g ps as) = true; simp) ?_
    refine WR.ev (ev_TrtAll b g ps as bl gl hp ha) rfl rfl rfl ?_
    refine WR.ev (ev_sTrtAll b g ps as bl gl hp ha) rfl rfl rfl ?_
    refine WR.iteT (by show (trtAll b g ps as == trtAll b g ps as) = true; simp) ?_
    refine WR.ev (ev_TrtAll [0, 0, 0] [0] [] [[0, 0, 0]] (by simp) (by simp) ⟨by simp, by simp⟩ ⟨by simp, by simp⟩) rfl rfl rfl (WR.done ?_)
    rfl
  have hal := ha.1
  refine WR.iteB (trtOk b g) rfl (fun hok => ?_) (fun hok => ?_)
  · let A := fun i => decide (as.length = g.length) && allIx (fun i a => keeps b g ps i a) (as.take i)
    have hA : ∀ i, A i = false → trtAll b g ps as = false := by
      intro i hi
      cases hx : trtAll b g ps as with
      | false => rfl
      | true =>
        simp only [trtAll, Bool.and_eq_true] at hx
        simp only [A, hx.1.2, Bool.true_and, allIx_take i hx.2] at hi
        cases hi
    refine WR.forP as.length (fun i => [.b (A i), .i i]) (fun _ => True) rfl ?_ trivial fun i hi _ => ?_
    · show [V.b (decide (((dLL as).length : Int) = ((dL g).length : Int))), V.i 0] = _
      rw [dLL_len, dL_len]
      by_cases h : as.length = g.length
      · simp [A, h, allIx]
      · simp [A, h, show ¬ (as.length : Int) = g.length by omega]
    refine WR.iteLen i (dLL_len as) rfl (fun h => ?_) (fun h => ?_)
    · refine WR.iteB (A i) rfl (fun ht => ?_) (fun hf => ?_)
      · obtain ⟨x, hx, hm⟩ := some_at h
        refine WR.atN i (map_at (f := fun x => .s (dL x)) hx) rfl rfl rfl rfl rfl rfl ?_
        refine WR.ev (ev_TrtKeeps b g ps i x bl gl hp (ha.2 x hm)) rfl rfl rfl ?_
        refine WR.nextA (vs := [.b (A (i + 1)), .i ((i + 1 : Nat) : Int)]) ?_ ⟨h, rfl, trivial⟩
        show [V.b (keeps b g ps i x), V.i (IntKind.i64.wrap ((i : Int) + 1))] = _
        have e : A (i + 1) = keeps b g ps i x := by
          show (decide (as.length = g.length) && allIx (fun i a => keeps b g ps i a) (as.take (i + 1))) = _
          rw [allIx_succ hx, ← Bool.and_assoc]
          show (A i && keeps b g ps i x) = _
          rw [ht]; rfl
        rw [wS h (by omega), e]
      · rw [hf]
        exact WR.esc (rest false i (hA i hf))
    · refine WR.esc (rest (A i) i ?_)
      show _ = (decide (as.length = g.length) && allIx (fun i a => keeps b g ps i a) (as.take i))
      rw [take_all h, trtAll, hok]; rfl
  · have hf : trtAll b g ps as = false := by simp [trtAll, hok]
    refine WR.forP as.length (fun i => [.b false, .i i]) (fun i => i = 0) rfl rfl rfl fun i hi h0 => ?_
    refine WR.iteLen i (dLL_len as) rfl (fun h => ?_) (fun h => ?_)
    · exact WR.iteF rfl (WR.esc (rest false i hf))
    · exact WR.esc (rest false i hf)

end Go.Proofs.Ytbikgdcgoogngaa

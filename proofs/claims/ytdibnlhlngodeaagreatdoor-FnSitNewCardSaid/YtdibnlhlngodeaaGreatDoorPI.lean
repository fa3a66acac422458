import Derived.Test.YtdibnlhlngodeaaGreatDoorPH
import Derived.Test.YtdibnlhlngodeaaGreatDoorPF
import Derived.Test.YtdibnlhlngodeaaGreatDoorTd
set_option linter.unusedVariables false
set_option linter.unusedSimpArgs false
/- What the reference's parts, pins, and draws of them come to. -/
namespace Go.Proofs.YtdibnlhlngodeaaGreatDoor
open Go Go.Tm
def fitActs (as : List (List Line)) : Prop := as.length ≤ 2000000 ∧ ∀ a ∈ as, fitAct a
theorem slimAs.fit {as : List (List Line)} (h : slimAs as) : fitActs as := ⟨by have := h.1; omega, fun a ha => (h.2 a ha).fit⟩
theorem ev_CatOk (as : List (List Line)) (hf : fitActs as) : Ev L f_k18 [.s (dActs as)] [dB (catOk as)] := by
  have hl := hf.1
  refine Ev.eq (vs := [.l (dActs as)]) L_k18 rfl ?_
  refine WR.ev (ev_l1In as.length 1 4) rfl ?_ rfl ?_
  · show [dI ((dActs as).length : Int), dI 1, dI 4] = _
    rw [dActs_len]
  refine WR.iteN (inB as.length 1 4) rfl (fun h => WR.done ?_) (fun h => ?_)
  · show [dB false] = _
    simp [catOk, h]
  refine WR.forP as.length (fun i => [.i i]) (fun i => (as.take i).all actOk = true) rfl rfl (by simp) fun i hi hp => ?_
  refine WR.iteLen i (dActs_len as) rfl (fun h' => ?_) (fun h' => ?_)
  · obtain ⟨x, hx, hm⟩ := some_at h'
    refine WR.idxN i (map_at (f := fun a => .s (dAct a)) hx) rfl rfl rfl rfl ?_
    refine WR.ev (ev_ActOk x (hf.2 x hm)) rfl rfl rfl ?_
    refine WR.iteN (actOk x) rfl (fun hb => WR.esc (WR.done ?_)) (fun hb => ?_)
    · show [dB false] = _
      simp [catOk, all_not hx hb]
    · refine WR.nextA (vs := [.i ((i + 1 : Nat) : Int)]) ?_ ⟨h', rfl, all_take hx hp hb⟩
      show [V.i (IntKind.i64.wrap ((i : Int) + 1))] = _
      rw [wS h' (by omega)]
  · refine WR.esc (WR.done ?_)
    rw [take_all h'] at hp
    show [dB true] = _
    simp only [catOk, h, hp]; simp
def sameR (cmp : E) (sh : Sh) : R :=
  .ite (.not (.cmp .eq (.len (.v 0)) (.len (.v 1))))
   (
    .done [(.vb .ff)])
   (
    .loop 2 [(.z 0)] <|
      .ite (.cmp .lt (.v 2) (.len (.v 0)))
       (
        .i (.idx (.v 0) (.v 2) sh 3) <|
        .i (.idx (.v 1) (.v 2) sh 4) <|
        .ite (.not cmp)
         (
          .esc <|
          .done [(.vb .ff)])
         (
          .next [(.bin .add .i64 (.v 2) (.z 1))]))
       (
        .esc <|
        .done [(.vb .tt)]))
theorem ev_same {α : Type} [DecidableEq α] {f : FuncId} {H : Hint} {s : Sig} {cmp : E} {sh : Sh} (enc : α → D) (vOf : α → V) (a b : List α) (hf : L.lookup f = some ⟨s, .r H (sameR cmp sh)⟩) (hs : insOf s = [.s, .s])
    (hb : ∀ x, bindSh sh (enc x) = some [vOf x]) (hc : ∀ (v0 v1 v2 : V) (x y : α), bol (envL [v0, v1, v2, vOf x, vOf y]) cmp = decide (x = y)) (hl : a.length ≤ 2000000) :
    Ev L f [.s (a.map enc), .s (b.map enc)] [dB (decide (a = b))] := by
  refine Ev.eq (vs := [.l (a.map enc), .l (b.map enc)]) hf (by rw [hs]; rfl) ?_
  refine WR.iteP (¬ a.length = b.length) ?_ (fun h => WR.done ?_) (fun h => ?_)
  · show (!(decide (((a.map enc).length : Int) = ((b.map enc).length : Int)))) = _
    rw [List.length_map, List.length_map]
    by_cases h : a.length = b.length
    · simp [h]
    · simp [h, show ¬ (a.length : Int) = b.length by omega]
  · show [dB false] = _
    rw [decide_eq_false]
    intro e; exact h (by rw [e])
  have h : a.length = b.length := Classical.not_not.1 h
  refine WR.forP a.length (fun i => [.i i]) (fun i => a.take i = b.take i) rfl rfl rfl fun i hi hp => ?_
  refine WR.iteLen i (List.length_map (f := enc) (as := a)) rfl (fun h' => ?_) (fun h' => ?_)
  · obtain ⟨x, hx, _⟩ := some_at h'
    obtain ⟨y, hy, _⟩ := some_at (show i < b.length by omega)
    refine WR.idxN i (map_at (f := enc) hx) rfl rfl rfl (hb x) ?_
    refine WR.idxN i (map_at (f := enc) hy) rfl rfl rfl (hb y) ?_
    refine WR.iteN (decide (x = y)) ?_ (fun hxy => WR.esc (WR.done ?_)) (fun hxy => ?_)
    · show (!(bol (envL [V.l (a.map enc), .l (b.map enc), .i i, vOf x, vOf y]) cmp)) = _
      rw [hc]
    · show [dB false] = _
      rw [decide_eq_false]
      intro e
      subst e
      rw [hx] at hy
      simp only [Option.some.injEq] at hy
      simp [hy] at hxy
    · have hxy : x = y := by simpa using hxy
      subst hxy
      refine WR.nextA (vs := [.i ((i + 1 : Nat) : Int)]) ?_ ⟨h', rfl, by show a.take (i + 1) = b.take (i + 1); rw [take_succ hx, take_succ hy, hp]⟩
      show [V.i (IntKind.i64.wrap ((i : Int) + 1))] = _
      rw [wS h' (by omega)]
  · refine WR.esc (WR.done ?_)
    rw [take_all h', take_all (by omega)] at hp
    subst hp
    show [dB true] = _
    simp
end Go.Proofs.YtdibnlhlngodeaaGreatDoor

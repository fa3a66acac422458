import Derived.Test.YtohfbfgggkmibaaGreatDoorPZL
set_option linter.unusedVariables false
set_option linter.unusedSimpArgs false
/- The program's WldNew answers as the reference's: over residual programs. -/
namespace Go.Proofs.YtohfbfgggkmibaaGreatDoor
open Go Go.Tm
theorem ev_selfC {α : Type} {f g : FuncId} {H : Hint} {s : Sig} {sh : Sh} {as : List E} {k1 k2 : Nat} (enc : α → D) (vsOf : α → List V) (args : α → List D) (a : List α) (hf : L.lookup f = some ⟨s,.r H (sameCR g sh as k1 k2)⟩) (hs : insOf s = [.s,.s])
    (hb : ∀ x,bindSh sh (enc x) = some (vsOf x)) (hk1 : ∀ x,3 + (vsOf x).length = k1) (hk2 : ∀ x,k1 + (vsOf x).length = k2)
    (ha : ∀ (v0 v1 v2 : V) (x y : α),as.map (dat (envL ([v0,v1,v2] ++ vsOf x ++ vsOf y))) = args x ++ args y)
    (hc : ∀ x ∈ a,Ev L g (args x ++ args x) [dB true]) (hl : a.length ≤ 2000000) :
    Ev L f [.s (a.map enc),.s (a.map enc)] [dB true] := by
  refine Ev.eq (vs := [.l (a.map enc),.l (a.map enc)]) hf (by rw [hs]; rfl) ?_
  refine WR.iteF (by show (!(decide (((a.map enc).length : Int) = ((a.map enc).length : Int)))) = false; simp) ?_
  refine WR.forP a.length (fun i => [.i i]) (fun _ => True) rfl rfl trivial fun i hi _ => ?_
  refine WR.iteLen i (List.length_map (f := enc) (as := a)) rfl (fun h' => ?_) (fun h' => WR.esc (WR.done rfl))
  obtain ⟨x,hx,hmx⟩ := some_at h'
  have k1x := hk1 x
  have k2x := hk2 x
  refine WR.idxN i (map_at (f := enc) hx) rfl rfl rfl (hb x) ?_
  refine WR.idxN i (map_at (f := enc) hx) (by simp; omega) rfl rfl (hb x) ?_
  refine WR.call (ds := [dB true]) (vs := [.b true]) (by simp; omega) (by
    show Ev L g (as.map (dat (envL ([V.l (a.map enc),.l (a.map enc),.i i] ++ vsOf x ++ vsOf x)))) _
    rw [ha]; exact hc x hmx) rfl ?_
  have e1 : ∀ (t : V),envL ([V.l (a.map enc),.l (a.map enc),.i i] ++ vsOf x ++ vsOf x ++ [t]) k2 = t := by
    intro t
    unfold envL
    rw [List.getD_eq_getElem?_getD,List.getElem?_append_right (by simp; omega)]
    rw [show k2 - ([V.l (a.map enc),.l (a.map enc),.i i] ++ vsOf x ++ vsOf x).length = 0 by simp; omega]; rfl
  refine WR.iteF (by show (!(den (envL ([V.l (a.map enc),.l (a.map enc),.i i] ++ vsOf x ++ vsOf x ++ [V.b true])) (.v k2)).bool) = _; simp only [den,e1]; rfl) ?_
  refine WR.nextA (vs := [.i ((i + 1 : Nat) : Int)]) ?_ ⟨h',rfl,trivial⟩
  show [V.i (IntKind.i64.wrap ((i : Int) + 1))] = _
  rw [wS h' (by omega)]
theorem ev_eqSitSiteS (a : List Sit) (hl : a.length ≤ 2000000) (ht : ∀ s ∈ a,fitSit s) : Ev L f_k5c [.s (a.map Sit.g),.s (a.map Sit.g)] [dB true] :=
  ev_selfC (g := f_k5b) (sh := .g [.b,.b,.i .i64,.s,.s,.s]) (as := [(.vb (.v 3)),(.vb (.v 4)),(.vi .i64 (.v 5)),(.s (.v 6)),(.s (.v 7)),(.s (.v 8)),(.vb (.v 9)),(.vb (.v 10)),(.vi .i64 (.v 11)),(.s (.v 12)),(.s (.v 13)),(.s (.v 14))]) (k1 := 9) (k2 := 15)
    Sit.g (fun s => [.b s.up,.b s.frozen,.i s.round,.l (dL s.base),.l (dL s.added),.l (dDs s.done)]) Sit.cells a
    L_k5c rfl (fun _ => rfl) (fun _ => rfl) (fun _ => rfl) (fun _ _ _ _ _ => rfl) (fun x hx => ev_eqSitSite x (ht x hx)) hl
theorem ev_eqConClient (s : Con) (hs : fitCon s) : Ev L f_k5i (s.cells ++ s.cells) [dB true] := by
  refine Ev.eq (vs := [.i s.seq,.b s.busy,.i s.call.client,.i s.call.seq,.i s.call.act,.l (dL s.call.args),.i s.code,.l (dL s.tells),.i s.seq,.b s.busy,.i s.call.client,.i s.call.seq,.i s.call.act,.l (dL s.call.args),.i s.code,.l (dL s.tells)]) L_k5i rfl ?_
  have h1 := ev_eqPlnCall s.call s.call hs.1
  have h2 := ev_eqResResult s.code s.code s.tells s.tells hs.2
  rw [decide_eq_true rfl] at h1
  rw [decide_eq_true rfl,decide_eq_true rfl] at h2
  refine WR.iteF (by show (!decide (s.seq = s.seq)) = false; simp) ?_
  refine WR.iteF (by show (!(s.busy == s.busy)) = false; simp) ?_
  refine WR.ev h1 rfl rfl rfl (WR.iteF rfl ?_)
  exact WR.ev h2 rfl rfl rfl (WR.iteF rfl (WR.done rfl))
theorem ev_eqConClientS (a : List Con) (hl : a.length ≤ 2000000) (ht : ∀ s ∈ a,fitCon s) : Ev L f_k5j [.s (a.map Con.g),.s (a.map Con.g)] [dB true] :=
  ev_selfC (g := f_k5i) (sh := .g [.i .i64,.b,.i .i64,.i .i64,.i .i64,.s,.i .i64,.s]) (as := [(.vi .i64 (.v 3)),(.vb (.v 4)),(.vi .i64 (.v 5)),(.vi .i64 (.v 6)),(.vi .i64 (.v 7)),(.s (.v 8)),(.vi .i64 (.v 9)),(.s (.v 10)),(.vi .i64 (.v 11)),(.vb (.v 12)),(.vi .i64 (.v 13)),(.vi .i64 (.v 14)),(.vi .i64 (.v 15)),(.s (.v 16)),(.vi .i64 (.v 17)),(.s (.v 18))]) (k1 := 11) (k2 := 19)
    Con.g (fun s => [.i s.seq,.b s.busy,.i s.call.client,.i s.call.seq,.i s.call.act,.l (dL s.call.args),.i s.code,.l (dL s.tells)]) Con.cells a
    L_k5j rfl (fun _ => rfl) (fun _ => rfl) (fun _ => rfl) (fun _ _ _ _ _ => rfl) (fun x hx => ev_eqConClient x (ht x hx)) hl
end Go.Proofs.YtohfbfgggkmibaaGreatDoor

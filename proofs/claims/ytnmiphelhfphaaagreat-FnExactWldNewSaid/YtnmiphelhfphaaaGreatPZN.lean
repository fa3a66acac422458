/- The program's WldNew answers as the reference's: the functions, and the law: over residual programs. -/
import Derived.Test.YtnmiphelhfphaaaGreatPZM
namespace Go.Proofs.YtnmiphelhfphaaaGreat
open Go Go.Tm

theorem snocA (l : List Line) (x : Line) : dAct l ++ [x.g] = dAct (l ++ [x]) := by simp [dAct]
theorem snocAs (l : List (List Line)) (x : List Line) : dActs l ++ [.s (dAct x)] = dActs (l ++ [x]) := by simp [dActs]

theorem ev_sCopyActs (as : List (List Line)) (hf : fitActs as) : Ev L f_spec_l6CopyActs [.s (dActs as)] [.s (dActs as)] := by
  refine Ev.eq (vs := [.l (dActs as)]) L_spec_l6CopyActs rfl ?_
  have hl := hf.1
  refine WR.forP as.length (fun i => [.l (dActs (as.take i)), .i i]) (fun _ => True) rfl rfl trivial fun i hi _ => ?_
  simp only [List.cons_append, List.nil_append]
  refine WR.iteLen i (dActs_len as) rfl (fun h => ?_) (fun h => WR.esc (WR.done ?_))
  · obtain ⟨a, ha, hm⟩ := some_at h
    obtain ⟨hal, hax⟩ := hf.2 a hm
    refine WR.forP a.length (fun j => [.l (dAct (a.take j)), .i j]) (fun _ => True) rfl rfl trivial fun j hj _ => ?_
    simp only [List.cons_append, List.nil_append]
    refine WR.idxN (vs := [.l (dAct a)]) i (map_at (f := fun a => D.s (dAct a)) ha) rfl rfl rfl rfl ?_
    simp only [List.cons_append, List.nil_append]
    refine WR.iteLen j (dAct_len a) rfl (fun h' => ?_) (fun h' => ?_)
    · obtain ⟨x, hx, hmx⟩ := some_at h'
      have hxf := hax x hmx
      refine WR.idxN (vs := [.l (dAct a)]) i (map_at (f := fun a => D.s (dAct a)) ha) rfl rfl rfl rfl ?_
      simp only [List.cons_append, List.nil_append]
      refine WR.idxN (vs := [.i x.kind, .i x.pot, .i x.skip, .l (dL x.f.c), .l (dL x.f.d), .i x.f.k]) j (map_at (f := Line.g) hx) rfl rfl rfl rfl ?_
      simp only [List.cons_append, List.nil_append]
      refine WR.chkN (dL x.f.c) 2000000 (by rw [dL_len]; exact hxf.1) (by omega) rfl ?_
      refine WR.head (head_dL x.f.c) ?_
      refine WR.chkN (dL x.f.c) 2000000 (by rw [dL_len]; exact hxf.1) (by omega) rfl ?_
      refine WR.chkN (dL x.f.d) 2000000 (by rw [dL_len]; exact hxf.2) (by omega) rfl ?_
      refine WR.head (head_dL x.f.d) ?_
      refine WR.chkN (dL x.f.d) 2000000 (by rw [dL_len]; exact hxf.2) (by omega) rfl ?_
      refine WR.chkApp (dAct (a.take j)) 2000000 (by rw [dAct_len]; simp; omega) (by omega) rfl ?_
      refine WR.nextA (vs := [.l (dAct (a.take (j + 1))), .i ((j + 1 : Nat) : Int)]) ?_ ⟨h', rfl, trivial⟩
      show [V.l (dAct (a.take j) ++ [x.g]), V.i (IntKind.i64.wrap ((j : Int) + 1))] = _
      rw [wS h' (by omega), snocA, take_succ hx]
    · refine WR.esc ?_
      rw [take_all h']
      refine WR.chkApp (dActs (as.take i)) 2000000 (by rw [dActs_len]; simp; omega) (by omega) rfl ?_
      refine WR.nextA (vs := [.l (dActs (as.take (i + 1))), .i ((i + 1 : Nat) : Int)]) ?_ ⟨h, rfl, trivial⟩
      show [V.l (dActs (as.take i) ++ [.s (dAct a)]), V.i (IntKind.i64.wrap ((i : Int) + 1))] = _
      rw [wS h (by omega), snocAs, take_succ ha]
  · show [D.s (dActs (as.take i))] = _
    rw [take_all h]

theorem ev_sCopy (p : Pln) (hp : fitPln p) : Ev L f_spec_l6Copy p.cells p.cells := by
  refine Ev.eq (vs := [.i p.n, .l (dActs p.acts), .l (dL p.gives), .l (dL p.start)]) L_spec_l6Copy rfl ?_
  refine WR.ev (ev_sCopyActs p.acts hp.1) rfl rfl rfl ?_
  refine WR.chkN (dL p.gives) 2000000 (by rw [dL_len]; exact hp.2.1) (by omega) rfl ?_
  refine WR.head (head_dL p.gives) ?_
  refine WR.chkN (dL p.gives) 2000000 (by rw [dL_len]; exact hp.2.1) (by omega) rfl ?_
  refine WR.chkN (dL p.start) 2000000 (by rw [dL_len]; exact hp.2.2) (by omega) rfl ?_
  refine WR.head (head_dL p.start) ?_
  refine WR.chkN (dL p.start) 2000000 (by rw [dL_len]; exact hp.2.2) (by omega) rfl ?_
  exact WR.done rfl

theorem ev_iCopied (p : Pln) (hp : fitPln p) : Ev L f_impl_PlnPlan_copied p.cells p.cells := by
  refine Ev.eq (vs := [.i p.n, .l (dActs p.acts), .l (dL p.gives), .l (dL p.start)]) L_impl_PlnPlan_copied rfl ?_
  have hl := hp.1.1
  refine WR.forP p.acts.length (fun i => [.l (dActs (p.acts.take i)), .i i]) (fun _ => True) rfl rfl trivial fun i hi _ => ?_
  simp only [List.cons_append, List.nil_append]
  refine WR.iteLen i (dActs_len p.acts) rfl (fun h => ?_) (fun h => WR.esc ?_)
  · obtain ⟨a, ha, hm⟩ := some_at h
    obtain ⟨hal, hax⟩ := hp.1.2 a hm
    refine WR.idxN (vs := [.l (dAct a)]) i (map_at (f := fun a => D.s (dAct a)) ha) rfl rfl rfl rfl ?_
    simp only [List.cons_append, List.nil_append]
    refine WR.forP a.length (fun j => [.l (dAct (a.take j)), .i j]) (fun _ => True) rfl rfl trivial fun j hj _ => ?_
    simp only [List.cons_append, List.nil_append]
    refine WR.iteLen j (dAct_len a) rfl (fun h' => ?_) (fun h' => ?_)
    · obtain ⟨x, hx, hmx⟩ := some_at h'
      refine WR.idxN (vs := [.i x.kind, .i x.pot, .i x.skip, .l (dL x.f.c), .l (dL x.f.d), .i x.f.k]) j (map_at (f := Line.g) hx) rfl rfl rfl rfl ?_
      simp only [List.cons_append, List.nil_append]
      refine WR.ev (vs := [.l (dL x.f.c), .l (dL x.f.d), .i x.f.k]) (ev_copied x.f (hax x hmx)) rfl rfl rfl ?_
      simp only [List.cons_append, List.nil_append]
      refine WR.fl (flats_dL x.f.c) (WR.fl (flats_dL x.f.d) ?_)
      refine WR.chkApp (dAct (a.take j)) 2000000 (by rw [dAct_len]; simp; omega) (by omega) rfl ?_
      refine WR.nextA (vs := [.l (dAct (a.take (j + 1))), .i ((j + 1 : Nat) : Int)]) ?_ ⟨h', rfl, trivial⟩
      show [V.l (dAct (a.take j) ++ [x.g]), V.i (IntKind.i64.wrap ((j : Int) + 1))] = _
      rw [wS h' (by omega), snocA, take_succ hx]
    · refine WR.esc ?_
      rw [take_all h']
      refine WR.chkApp (dActs (p.acts.take i)) 2000000 (by rw [dActs_len]; simp; omega) (by omega) rfl ?_
      refine WR.nextA (vs := [.l (dActs (p.acts.take (i + 1))), .i ((i + 1 : Nat) : Int)]) ?_ ⟨h, rfl, trivial⟩
      show [V.l (dActs (p.acts.take i) ++ [.s (dAct a)]), V.i (IntKind.i64.wrap ((i : Int) + 1))] = _
      rw [wS h (by omega), snocAs, take_succ ha]
  · rw [take_all h]
    refine WR.ev (ev_clone1 p.gives hp.2.1) rfl rfl rfl ?_
    exact WR.ev (ev_clone1 p.start hp.2.2) rfl rfl rfl (WR.done rfl)

/-! ### Worlds -/

structure Wld where
  p : Pln
  sites : List Sit
  c : Clk
  cons : List Con
def Wld.cells (w : Wld) : List D := [dI w.p.n, .s (dActs w.p.acts), .s (dL w.p.gives), .s (dL w.p.start), .s (w.sites.map Sit.g), dB w.c.up, dI w.c.round, .s (dL w.c.base), .s (dDs w.c.done), .s (dCs w.c.wants), .s (dGs w.c.got), .s (w.cons.map Con.g), .s [], .s []]
def con0 : Con := ⟨0, false, ⟨0, 0, 0, []⟩, 0, []⟩
def wldNew (p : Pln) : Wld := if plnOk p then ⟨p, List.replicate p.gives.length (sitNew p), clkNew p, List.replicate p.n.toNat con0⟩ else ⟨⟨0, [], [], []⟩, [], clkNew p, []⟩

theorem ev_sWldNew (p : Pln) (hp : fitPln p) : Ev L f_spec_WldNew p.cells (wldNew p).cells := by
  refine Ev.eq (vs := [.i p.n, .l (dActs p.acts), .l (dL p.gives), .l (dL p.start)]) L_spec_WldNew rfl ?_
  refine WR.ev (ev_sPlnOk p hp) rfl rfl rfl ?_
  refine WR.iteN (plnOk p) rfl (fun h => WR.done ?_) (fun h => ?_)
  · show _ = (wldNew p).cells
    unfold wldNew clkNew; rw [if_neg (by simp [h]), if_neg (by simp [h])]; rfl
  obtain ⟨h1, h2, h3, _⟩ := plnOk_n h
  have hW : wldNew p = ⟨p, List.replicate p.gives.length (sitNew p), clkNew p, List.replicate p.n.toNat con0⟩ := by unfold wldNew; rw [if_pos h]
  rw [hW]
  have hsn := ev_sSitNew p hp
  have hcn := ev_sClkNew p hp
  have hg := hp.2.1
  generalize sitNew p = s at *
  generalize clkNew p = c at *
  refine WR.ev (vs := [.i p.n, .l (dActs p.acts), .l (dL p.gives), .l (dL p.start)]) (ev_sCopy p hp) rfl rfl rfl ?_
  simp only [List.cons_append, List.nil_append]
  refine WR.ev (vs := [.b c.up, .i c.round, .l (dL c.base), .l (dDs c.done), .l (dCs c.wants), .l (dGs c.got)]) hcn rfl rfl rfl ?_
  simp only [List.cons_append, List.nil_append]
  refine WR.forP p.gives.length (fun i => [.l ((List.replicate i s).map Sit.g), .i i]) (fun _ => True) rfl rfl trivial fun i hi _ => ?_
  simp only [List.cons_append, List.nil_append]
  refine WR.iteLen i (dL_len p.gives) rfl (fun h => ?_) (fun h' => WR.esc ?_)
  · refine WR.ev (vs := [.b s.up, .b s.frozen, .i s.round, .l (dL s.base), .l (dL s.added), .l (dDs s.done)]) hsn rfl rfl rfl ?_
    simp only [List.cons_append, List.nil_append]
    refine WR.chkApp ((List.replicate i s).map Sit.g) 2000000 (by simp; omega) (by omega) rfl ?_
    refine WR.nextA (vs := [.l ((List.replicate (i + 1) s).map Sit.g), .i ((i + 1 : Nat) : Int)]) ?_ ⟨h, rfl, trivial⟩
    show [V.l ((List.replicate i s).map Sit.g ++ [Sit.g s]), V.i (IntKind.i64.wrap ((i : Int) + 1))] = _
    rw [wS h (by omega), List.replicate_succ']
    simp
  have hil : i = p.gives.length := by omega
  subst hil
  refine WR.forP p.n.toNat (fun i => [.l ((List.replicate i con0).map Con.g), .i i]) (fun _ => True) rfl rfl trivial fun j hj _ => ?_
  simp only [List.cons_append, List.nil_append]
  refine WR.iteLt j p.n.toNat (by show decide ((j : Int) < p.n) = _; rw [show ((p.n.toNat : Nat) : Int) = p.n by omega]) (fun h => ?_) (fun h' => WR.esc (WR.done ?_))
  · refine WR.chkApp ((List.replicate j con0).map Con.g) 4 (by simp; omega) (by omega) rfl ?_
    refine WR.nextA (vs := [.l ((List.replicate (j + 1) con0).map Con.g), .i ((j + 1 : Nat) : Int)]) ?_ ⟨h, rfl, trivial⟩
    show [V.l ((List.replicate j con0).map Con.g ++ [Con.g con0]), V.i (IntKind.i64.wrap ((j : Int) + 1))] = _
    rw [wS h (by omega), List.replicate_succ']
    simp
  · have hjl : j = p.n.toNat := by omega
    subst hjl
    rfl

theorem ev_iWldNew (p : Pln) (hp : fitPln p) : Ev L f_impl_WldNew p.cells (wldNew p).cells := by
  refine Ev.eq (vs := [.i p.n, .l (dActs p.acts), .l (dL p.gives), .l (dL p.start)]) L_impl_WldNew rfl ?_
  refine WR.ev (ev_iPlnOk p hp) rfl rfl rfl ?_
  refine WR.iteN (plnOk p) rfl (fun h => WR.done ?_) (fun h => ?_)
  · show _ = (wldNew p).cells
    unfold wldNew clkNew; rw [if_neg (by simp [h]), if_neg (by simp [h])]; rfl
  obtain ⟨h1, h2, h3, _⟩ := plnOk_n h
  have hW : wldNew p = ⟨p, List.replicate p.gives.length (sitNew p), clkNew p, List.replicate p.n.toNat con0⟩ := by unfold wldNew; rw [if_pos h]
  rw [hW]
  have hsn := ev_siteNew p hp (by omega) h2
  have hcn := ev_clerkNew p hp (by omega) h2
  have hse : sitNew p = ⟨true, false, 0, p.start, [0, 0, 0], List.replicate p.n.toNat don0⟩ := by unfold sitNew; rw [if_pos h]
  have hce : clkNew p = ⟨true, 0, p.start, List.replicate p.n.toNat don0, [], List.replicate p.gives.length got0⟩ := by unfold clkNew; rw [if_pos h]
  rw [← hse] at hsn
  rw [← hce] at hcn
  have hg := hp.2.1
  clear hse hce
  generalize sitNew p = s at *
  generalize clkNew p = c at *
  refine WR.ev (vs := [.i p.n, .l (dActs p.acts), .l (dL p.gives), .l (dL p.start)]) (ev_iCopied p hp) rfl rfl rfl ?_
  simp only [List.cons_append, List.nil_append]
  refine WR.ev (vs := [.b c.up, .i c.round, .l (dL c.base), .l (dDs c.done), .l (dCs c.wants), .l (dGs c.got)]) hcn rfl rfl rfl ?_
  simp only [List.cons_append, List.nil_append]
  refine WR.chk (by show decide (0 ≤ p.n) = true; rw [decide_eq_true_eq]; omega) ?_
  refine WR.chk (by show decide (p.n ≤ (733007751850 : Int)) = true; simp only [decide_eq_true_eq]; omega) ?_
  refine WR.forP p.gives.length (fun i => [.l ((List.replicate i s).map Sit.g), .i i]) (fun _ => True) rfl rfl trivial fun i hi _ => ?_
  simp only [List.cons_append, List.nil_append]
  refine WR.iteLen i (dL_len p.gives) rfl (fun h => ?_) (fun h' => WR.esc (WR.done ?_))
  · refine WR.ev (vs := [.b s.up, .b s.frozen, .i s.round, .l (dL s.base), .l (dL s.added), .l (dDs s.done)]) hsn rfl rfl rfl ?_
    simp only [List.cons_append, List.nil_append]
    refine WR.fl (flats_dL s.base) ?_
    refine WR.chkApp ((List.replicate i s).map Sit.g) 2000000 (by simp; omega) (by omega) rfl ?_
    refine WR.nextA (vs := [.l ((List.replicate (i + 1) s).map Sit.g), .i ((i + 1 : Nat) : Int)]) ?_ ⟨h, rfl, trivial⟩
    show [V.l ((List.replicate i s).map Sit.g ++ [Sit.g s]), V.i (IntKind.i64.wrap ((i : Int) + 1))] = _
    rw [wS h (by omega), List.replicate_succ']
    simp
  · have hil : i = p.gives.length := by omega
    subst hil
    show [_, _, _, _, _, _, _, _, _, _, _, D.s (List.replicate p.n.toNat (Con.g con0)), _, _] = _
    unfold Wld.cells
    rw [List.map_replicate (f := Con.g)]
    rfl

end Go.Proofs.YtnmiphelhfphaaaGreat

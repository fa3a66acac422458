import Derived.Test.YtohfbfgggkmibaaGreatDoorPZW
import Derived.Test.YtohfbfgggkmibaaGreatDoorPZR
set_option linter.unusedVariables false
set_option linter.unusedSimpArgs false
/- The program's ClkFall answers as the reference's: over residual programs. -/
namespace Go.Proofs.YtohfbfgggkmibaaGreatDoor
open Go Go.Tm
theorem ev_l6CopyCall (x : Cal) (h : x.args.length ≤ 2000000) : Ev L f_k1x x.cells x.cells := by
  refine Ev.eq (vs := [.i x.client,.i x.seq,.i x.act,.l (dL x.args)]) L_k1x rfl ?_
  refine WR.chkN (dL x.args) 2000000 (by rw [dL_len]; omega) (by omega) rfl ?_
  refine WR.head (head_dL x.args) ?_
  exact WR.chkN (dL x.args) 2000000 (by rw [dL_len]; omega) (by omega) rfl (WR.done rfl)
theorem ev_callCopied (x : Cal) (h : x.args.length ≤ 2000000) : Ev L f_k48 x.cells x.cells :=
  Ev.eq (vs := [.i x.client,.i x.seq,.i x.act,.l (dL x.args)]) L_k48 rfl (WR.ev (vs := [.l (dL x.args)]) (ev_clone1 x.args h) rfl rfl rfl (WR.done rfl))
theorem ev_l9Copy (c : Clk) (hc : fitClk c) : Ev L f_k1y c.cells c.cells := by
  refine Ev.eq (vs := [.b c.up,.i c.round,.l (dL c.base),.l (dDs c.done),.l (dCs c.wants),.l (dGs c.got)]) L_k1y rfl ?_
  have h1 := hc.b
  have h2 := hc.c
  have h3 := hc.g
  refine WR.chkN (dL c.base) 2000000 (by rw [dL_len]; omega) (by omega) rfl ?_
  refine WR.head (head_dL c.base) ?_
  refine WR.chkN (dL c.base) 2000000 (by rw [dL_len]; omega) (by omega) rfl ?_
  refine WR.ev (vs := [.l (dDs c.done)]) (ev_l6CopyDone c.done ⟨hc.d,hc.dt⟩) rfl rfl rfl ?_
  simp only [sCA,sNA]
  refine WR.forP c.wants.length (fun i => [.l (dCs (c.wants.take i)),.i i]) (fun _ => True) rfl rfl trivial fun i hi _ => ?_
  simp only [sCA,sNA]
  refine WR.iteLen i (dCs_len c.wants) rfl (fun h => ?_) (fun h => WR.esc ?_)
  · obtain ⟨x,hx,hm⟩ := some_at h
    refine WR.idxN (vs := [.i x.client,.i x.seq,.i x.act,.l (dL x.args)]) i (map_at (f := Cal.g) hx) rfl rfl rfl rfl ?_
    simp only [sCA,sNA]
    refine WR.ev (vs := [.i x.client,.i x.seq,.i x.act,.l (dL x.args)]) (ev_l6CopyCall x (hc.ct x hm)) rfl rfl rfl ?_
    simp only [sCA,sNA]
    refine WR.chkApp (dCs (c.wants.take i)) 2000000 (by rw [dCs_len,List.length_take]; omega) (by omega) rfl ?_
    refine WR.nextA (vs := [.l (dCs (c.wants.take (i + 1))),.i ((i + 1 : Nat) : Int)]) ?_ ⟨h,rfl,trivial⟩
    show [V.l (dCs (c.wants.take i) ++ [x.g]),V.i (IntKind.i64.wrap ((i : Int) + 1))] = _
    rw [wS h (by omega),take_succ hx]
    simp only [dCs,List.map_append,List.map_cons,List.map_nil]
  rw [take_all h]
  refine WR.forP c.got.length (fun i => [.l (dGs (c.got.take i)),.i i]) (fun _ => True) rfl rfl trivial fun j hj _ => ?_
  simp only [sCA,sNA]
  refine WR.iteLen j (dGs_len c.got) rfl (fun h => ?_) (fun h => WR.esc (WR.done ?_))
  · obtain ⟨x,hx,hm⟩ := some_at h
    have hg : (dGs c.got)[j]? = some x.g := map_at (f := Got.g) hx
    have hx1 := hc.gt x hm
    have ha : (dL x.added).length ≤ 2000000 := by rw [dL_len]; exact hx1.1
    have hs : (dL x.seqs).length ≤ 2000000 := by rw [dL_len]; exact hx1.2
    refine WR.idxN (vs := [.b x.has,.l (dL x.added),.l (dL x.seqs)]) j hg rfl rfl rfl rfl ?_
    simp only [sCA,sNA]
    refine WR.idxN (vs := [.b x.has,.l (dL x.added),.l (dL x.seqs)]) j hg rfl rfl rfl rfl ?_
    simp only [sCA,sNA]
    refine WR.chkN (dL x.added) 2000000 ha (by omega) rfl ?_
    refine WR.head (head_dL x.added) ?_
    refine WR.chkN (dL x.added) 2000000 ha (by omega) rfl ?_
    refine WR.idxN (vs := [.b x.has,.l (dL x.added),.l (dL x.seqs)]) j hg rfl rfl rfl rfl ?_
    simp only [sCA,sNA]
    refine WR.chkN (dL x.seqs) 2000000 hs (by omega) rfl ?_
    refine WR.head (head_dL x.seqs) ?_
    refine WR.chkN (dL x.seqs) 2000000 hs (by omega) rfl ?_
    refine WR.chkApp (dGs (c.got.take j)) 2000000 (by rw [dGs_len,List.length_take]; omega) (by omega) rfl ?_
    refine WR.nextA (vs := [.l (dGs (c.got.take (j + 1))),.i ((j + 1 : Nat) : Int)]) ?_ ⟨h,rfl,trivial⟩
    show [V.l (dGs (c.got.take j) ++ [x.g]),V.i (IntKind.i64.wrap ((j : Int) + 1))] = _
    rw [wS h (by omega),take_succ hx]
    simp only [dGs,List.map_append,List.map_cons,List.map_nil]
  · rw [take_all h]; rfl
theorem ev_clkCopied (c : Clk) (hc : fitClk c) : Ev L f_k4b c.cells c.cells := by
  refine Ev.eq (vs := [.b c.up,.i c.round,.l (dL c.base),.l (dDs c.done),.l (dCs c.wants),.l (dGs c.got)]) L_k4b rfl ?_
  have h2 := hc.c
  have h3 := hc.g
  refine WR.forP c.wants.length (fun i => [.l (dCs (c.wants.take i)),.i i]) (fun _ => True) rfl rfl trivial fun i hi _ => ?_
  simp only [sCA,sNA]
  refine WR.iteLen i (dCs_len c.wants) rfl (fun h => ?_) (fun h => WR.esc ?_)
  · obtain ⟨x,hx,hm⟩ := some_at h
    refine WR.idxN (vs := [.i x.client,.i x.seq,.i x.act,.l (dL x.args)]) i (map_at (f := Cal.g) hx) rfl rfl rfl rfl ?_
    simp only [sCA,sNA]
    refine WR.ev (vs := [.i x.client,.i x.seq,.i x.act,.l (dL x.args)]) (ev_callCopied x (hc.ct x hm)) rfl rfl rfl ?_
    simp only [sCA,sNA]
    refine WR.fl (flats_map dI (fun _ => rfl) x.args) ?_
    refine WR.chkApp (dCs (c.wants.take i)) 2000000 (by rw [dCs_len,List.length_take]; omega) (by omega) rfl ?_
    refine WR.nextA (vs := [.l (dCs (c.wants.take (i + 1))),.i ((i + 1 : Nat) : Int)]) ?_ ⟨h,rfl,trivial⟩
    show [V.l (dCs (c.wants.take i) ++ [x.g]),V.i (IntKind.i64.wrap ((i : Int) + 1))] = _
    rw [wS h (by omega),take_succ hx]
    simp only [dCs,List.map_append,List.map_cons,List.map_nil]
  rw [take_all h]
  refine WR.forP c.got.length (fun i => [.l (dGs (c.got.take i)),.i i]) (fun _ => True) rfl rfl trivial fun j hj _ => ?_
  simp only [sCA,sNA]
  refine WR.iteLen j (dGs_len c.got) rfl (fun h => ?_) (fun h => WR.esc ?_)
  · obtain ⟨x,hx,hm⟩ := some_at h
    have hx1 := hc.gt x hm
    refine WR.idxN (vs := [.b x.has,.l (dL x.added),.l (dL x.seqs)]) j (map_at (f := Got.g) hx) rfl rfl rfl rfl ?_
    simp only [sCA,sNA]
    refine WR.ev (vs := [.l (dL x.added)]) (ev_clone1 x.added hx1.1) rfl rfl rfl ?_
    refine WR.ev (vs := [.l (dL x.seqs)]) (ev_clone1 x.seqs hx1.2) rfl rfl rfl ?_
    simp only [sCA,sNA]
    refine WR.fl (flats_map dI (fun _ => rfl) x.added) ?_
    refine WR.fl (flats_map dI (fun _ => rfl) x.seqs) ?_
    refine WR.chkApp (dGs (c.got.take j)) 2000000 (by rw [dGs_len,List.length_take]; omega) (by omega) rfl ?_
    refine WR.nextA (vs := [.l (dGs (c.got.take (j + 1))),.i ((j + 1 : Nat) : Int)]) ?_ ⟨h,rfl,trivial⟩
    show [V.l (dGs (c.got.take j) ++ [x.g]),V.i (IntKind.i64.wrap ((j : Int) + 1))] = _
    rw [wS h (by omega),take_succ hx]
    simp only [dGs,List.map_append,List.map_cons,List.map_nil]
  rw [take_all h]
  refine WR.ev (vs := [.l (dL c.base)]) (ev_clone1 c.base hc.b) rfl rfl rfl ?_
  exact WR.ev (vs := [.l (dDs c.done)]) (ev_dones c.done ⟨hc.d,hc.dt⟩) rfl rfl rfl (WR.done rfl)
def clkDrop (c : Clk) (u : Bool) : Clk := if c.up = u then c else ⟨u,c.round,c.base,c.done,[],List.replicate c.got.length got0⟩
def clkFall (p : Pln) (c : Clk) (u : Bool) : Clk := if clkOkP p c then clkDrop c u else ⟨false,0,[],[],[],[]⟩
theorem ev_l9Fall (p : Pln) (c : Clk) (u : Bool) (hp : fitPln p) (hc : fitClk c) (hl : c.got.length = p.gives.length) : Ev L f_k20 (p.cells ++ c.cells ++ [dB u]) (clkDrop c u).cells := by
  refine Ev.eq (vs := [.i p.n,.l (dActs p.acts),.l (dL p.gives),.l (dL p.start),.b c.up,.i c.round,.l (dL c.base),.l (dDs c.done),.l (dCs c.wants),.l (dGs c.got),.b u]) L_k20 rfl ?_
  refine WR.ev (vs := [.b c.up,.i c.round,.l (dL c.base),.l (dDs c.done),.l (dCs c.wants),.l (dGs c.got)]) (ev_l9Copy c hc) rfl rfl rfl ?_
  simp only [sCA,sNA]
  refine WR.iteN (u == c.up) rfl (fun h => ?_) (fun h => WR.done ?_)
  · refine WR.ev (ev_l9None p hp.2.1) rfl rfl rfl (WR.done ?_)
    have h : ¬ c.up = u := fun e => by rw [e] at h; simp at h
    show _ = (clkDrop c u).cells
    unfold clkDrop; rw [if_neg h,hl]; rfl
  · have h : u = c.up := by simpa using h
    show _ = (clkDrop c u).cells
    unfold clkDrop; rw [if_pos h.symm,h]; rfl
theorem ev_sClkFall (p : Pln) (c : Clk) (u : Bool) (hp : fitPln p) (hc : fitClk c) : Ev L f_k21 (p.cells ++ c.cells ++ [dB u]) (clkFall p c u).cells := by
  refine Ev.eq (vs := [.i p.n,.l (dActs p.acts),.l (dL p.gives),.l (dL p.start),.b c.up,.i c.round,.l (dL c.base),.l (dDs c.done),.l (dCs c.wants),.l (dGs c.got),.b u]) L_k21 rfl ?_
  refine WR.ev (ev_sClkOk p c hp hc) rfl rfl rfl ?_
  refine WR.iteN (clkOkP p c) rfl (fun h => WR.done ?_) (fun h => ?_)
  · show _ = (clkFall p c u).cells
    unfold clkFall; rw [if_neg (by simp [h])]; rfl
  have e : clkFall p c u = clkDrop c u := by unfold clkFall; rw [if_pos h]
  rw [e]
  have hv := ev_l9Fall p c u hp hc (clkOk_len h)
  generalize clkDrop c u = r at *
  exact WR.ev (vs := [.b r.up,.i r.round,.l (dL r.base),.l (dDs r.done),.l (dCs r.wants),.l (dGs r.got)]) hv rfl rfl rfl (WR.done rfl)
theorem ev_forget (c : Clk) (hg : c.got.length ≤ 2000000) : Ev L f_k4c c.cells (Clk.cells ⟨c.up,c.round,c.base,c.done,[],List.replicate c.got.length got0⟩) := by
  refine Ev.eq (vs := [.b c.up,.i c.round,.l (dL c.base),.l (dDs c.done),.l (dCs c.wants),.l (dGs c.got)]) L_k4c rfl ?_
  refine WR.chk (by show decide ((0 : Int) ≤ ((dGs c.got).length : Int)) = true; simp) ?_
  refine WR.chkN (dGs c.got) 2000000 (by rw [dGs_len]; exact hg) (by omega) rfl ?_
  refine WR.done ?_
  show [_,_,_,_,_,D.s (List.replicate ((dGs c.got).length : Int).toNat (Got.g got0))] = _
  unfold Clk.cells dCs dGs
  rw [List.map_replicate,List.length_map,Int.toNat_natCast]; rfl
theorem ev_fall (c : Clk) (u : Bool) (hc : fitClk c) : Ev L f_k4d (c.cells ++ [dB u]) (clkDrop c u).cells := by
  refine Ev.eq (vs := [.b c.up,.i c.round,.l (dL c.base),.l (dDs c.done),.l (dCs c.wants),.l (dGs c.got),.b u]) L_k4d rfl ?_
  refine WR.iteN (c.up == u) rfl (fun h => ?_) (fun h => WR.done ?_)
  · have h : ¬ c.up = u := fun e => by rw [e] at h; simp at h
    have e : clkDrop c u = ⟨u,c.round,c.base,c.done,[],List.replicate c.got.length got0⟩ := by unfold clkDrop; rw [if_neg h]
    rw [e]
    have hv := ev_forget ⟨u,c.round,c.base,c.done,c.wants,c.got⟩ hc.g
    generalize List.replicate c.got.length got0 = g0 at *
    exact WR.ev (vs := [.b u,.i c.round,.l (dL c.base),.l (dDs c.done),.l (dCs []),.l (dGs g0)]) hv rfl rfl rfl (WR.done rfl)
  · have h : c.up = u := by simpa using h
    show _ = (clkDrop c u).cells
    unfold clkDrop; rw [if_pos h]; rfl
theorem ev_iClkFall (p : Pln) (c : Clk) (u : Bool) (hp : fitPln p) (hc : fitClk c) : Ev L f_k4e (p.cells ++ c.cells ++ [dB u]) (clkFall p c u).cells := by
  refine Ev.eq (vs := [.i p.n,.l (dActs p.acts),.l (dL p.gives),.l (dL p.start),.b c.up,.i c.round,.l (dL c.base),.l (dDs c.done),.l (dCs c.wants),.l (dGs c.got),.b u]) L_k4e rfl ?_
  refine WR.ev (ev_iClkOk p c hp hc) rfl rfl rfl ?_
  refine WR.iteN (clkOkP p c) rfl (fun h => WR.done ?_) (fun h => ?_)
  · show _ = (clkFall p c u).cells
    unfold clkFall; rw [if_neg (by simp [h])]; rfl
  have e : clkFall p c u = clkDrop c u := by unfold clkFall; rw [if_pos h]
  rw [e]
  refine WR.ev (vs := [.b c.up,.i c.round,.l (dL c.base),.l (dDs c.done),.l (dCs c.wants),.l (dGs c.got)]) (ev_clkCopied c hc) rfl rfl rfl ?_
  simp only [sCA,sNA]
  have hv := ev_fall c u hc
  generalize clkDrop c u = r at *
  exact WR.ev (vs := [.b r.up,.i r.round,.l (dL r.base),.l (dDs r.done),.l (dCs r.wants),.l (dGs r.got)]) hv rfl rfl rfl (WR.done rfl)
theorem fit_clkFall (p : Pln) {c : Clk} (u : Bool) (hc : fitClk c) : fitClk (clkFall p c u) := by
  unfold clkFall clkDrop
  split
  · split
    · exact hc
    · exact ⟨hc.b,hc.d,hc.dt,by simp,fun d hd => by simp at hd,by simp; exact hc.g,fun d hd => by rw [(List.mem_replicate.1 hd).2]; simp [got0]⟩
  · exact ⟨by simp,by simp,fun d hd => by simp at hd,by simp,fun d hd => by simp at hd,by simp,fun d hd => by simp at hd⟩
theorem wts_sz {α : Type} (w s : α → Nat) (k : Nat) (h : ∀ x,w x ≤ k + k * s x) (l : List α) : wts w l ≤ k * szL s l := by
  unfold wts szL
  induction l with
  | nil => simp
  | cons x l ih =>
    simp only [List.map_cons,List.sum_cons,List.length_cons] at ih ⊢
    have := h x
    rw [Nat.mul_add] at ih ⊢
    rw [Nat.mul_add k (s x),Nat.mul_succ]
    omega
theorem wtClk_le (c : Clk) : wtClk c ≤ 3 * szClk c := by
  have h1 := wts_sz Don.w szDon 3 (fun x => by show 2 + x.tells.length ≤ _; unfold szDon; omega) c.done
  have h2 := wts_sz Cal.w szCal 3 (fun x => by show 3 + x.args.length ≤ _; unfold szCal; omega) c.wants
  have h3 := wts_sz Got.w szGot 3 (fun x => by show 1 + x.added.length + x.seqs.length ≤ _; unfold szGot; omega) c.got
  unfold wtClk szClk; omega
theorem wt_clkFall (p : Pln) (c : Clk) (u : Bool) : wtClk (clkFall p c u) ≤ wtClk c + c.got.length := by
  unfold clkFall clkDrop
  split
  · split
    · omega
    · unfold wtClk
      rw [wts_replicate]
      have e : got0.w = 1 := rfl
      have e2 : wts Cal.w ([] : List Cal) = 0 := rfl
      simp only [e,e2]
      omega
  · simp [wtClk,wts]
theorem ev_FnExactClkFall (p : Pln) (c : Clk) (u : Bool) (hb : bigPln p) (hbc : bigClk c) : Ev L f_k56 (p.cells ++ c.cells ++ [dB u]) [dB true] := by
  refine Ev.eq (vs := [.i p.n,.l (dActs p.acts),.l (dL p.gives),.l (dL p.start),.b c.up,.i c.round,.l (dL c.base),.l (dDs c.done),.l (dCs c.wants),.l (dGs c.got),.b u]) L_k56 rfl ?_
  refine WR.ev (ev_szPlnPlan p 1048576 hb (by omega) (by omega)) rfl rfl rfl ?_
  have hr := dec_room (left := 1048576) (n := szPln p) (by omega) (by omega)
  refine WR.iteP (dec 1048576 (szPln p) < 0) rfl (fun _ => WR.done rfl) (fun h => ?_)
  have hsz : szPln p ≤ 1048576 := by have := dec_le h; omega
  have hf : fitPln p := fitPln_of hsz
  have hto := ev_toPlnPlan p hf
  refine WR.ev (ev_szClkClerk c (dec 1048576 (szPln p)) hbc (by omega) (by omega)) rfl rfl rfl ?_
  simp only [sCA,sNA]
  have hrs := dec_room (left := (dec 1048576 (szPln p))) (n := szClk c) (by omega) (by omega)
  refine WR.iteP (dec (dec 1048576 (szPln p)) (szClk c) < 0) rfl (fun _ => WR.done rfl) (fun hss => ?_)
  have hsz2 : szClk c ≤ 1048576 := by have := dec_le hss; omega
  have hfc : fitClk c := fitClk_of hsz2
  have htoc := ev_toClkClerk c hfc
  have hwp := wtPln_le p
  have hws := wtClk_le c
  have hwr := wt_clkFall p c u
  have hgl := hfc.g
  have hr2 := fit_clkFall p u hfc
  have hs := ev_sClkFall p c u hf hfc
  have hi := ev_iClkFall p c u hf hfc
  obtain ⟨es,hmk⟩ := ev_markPlnPlan p hf (by omega)
  have hms := ev_mkClkClerk c hfc (1 + wtPln p) (by omega) (by omega)
  generalize hmc : mkCl (1 + wtPln p) c = mc at *
  generalize clkFall p c u = r at *
  have heq := ev_eqClkClerk r hr2
  have heqs := ev_eqClkClerk c hfc
  have hmr := ev_markClkClerk r hr2 (by omega)
  have hhr := ev_heldClkClerk r hr2 (by omega)
  generalize hmk2 : mkClk r = m at *
  have ht1 : m.base.length = r.base.length := by rw [← hmk2]; simp [mkClk,cnt_len]
  have ht2 : m.done.length = r.done.length := by rw [← hmk2]; simp [mkClk,mkAll_len]
  have ht3 : m.wants.length = r.wants.length := by rw [← hmk2]; simp [mkClk,mkAll_len]
  have ht4 : m.got.length = r.got.length := by rw [← hmk2]; simp [mkClk,mkAll_len]
  have hcell : m.cells = [dB r.up,dI r.round,.s (dL m.base),.s (dDs m.done),.s (dCs m.wants),.s (dGs m.got)] := by rw [← hmk2]; rfl
  rw [hcell] at hhr
  refine WR.ev (vs := [.i p.n,.l (dActs p.acts),.l (dL p.gives),.l (dL p.start)]) hto rfl rfl rfl ?_
  simp only [sCA,sNA]
  refine WR.ev (vs := [.b c.up,.i c.round,.l (dL c.base),.l (dDs c.done),.l (dCs c.wants),.l (dGs c.got)]) htoc rfl rfl rfl ?_
  simp only [sCA,sNA]
  refine WR.ev (vs := [.b r.up,.i r.round,.l (dL r.base),.l (dDs r.done),.l (dCs r.wants),.l (dGs r.got)]) hs rfl rfl rfl ?_
  simp only [sCA,sNA]
  refine WR.ev (vs := [.i p.n,.l (dActs p.acts),.l (dL p.gives),.l (dL p.start)]) hto rfl rfl rfl ?_
  simp only [sCA,sNA]
  refine WR.ev (vs := [.b c.up,.i c.round,.l (dL c.base),.l (dDs c.done),.l (dCs c.wants),.l (dGs c.got)]) htoc rfl rfl rfl ?_
  simp only [sCA,sNA]
  refine WR.ev (vs := [.b r.up,.i r.round,.l (dL r.base),.l (dDs r.done),.l (dCs r.wants),.l (dGs r.got)]) hi rfl rfl rfl ?_
  simp only [sCA,sNA]
  refine WR.fl (flats_map dI (fun _ => rfl) r.base) ?_
  refine WR.ev heq rfl rfl rfl (WR.iteF rfl ?_)
  simp only [sCA,sNA]
  refine WR.ev (vs := [.i p.n,.l (dActs p.acts),.l (dL p.gives),.l (dL p.start)]) hto rfl rfl rfl ?_
  simp only [sCA,sNA]
  refine WR.ev (ev_eqPlnPlan p hf) rfl rfl rfl (WR.iteF rfl ?_)
  simp only [sCA,sNA]
  refine WR.ev (vs := [.b c.up,.i c.round,.l (dL c.base),.l (dDs c.done),.l (dCs c.wants),.l (dGs c.got)]) htoc rfl rfl rfl ?_
  simp only [sCA,sNA]
  refine WR.ev heqs rfl rfl rfl (WR.iteF rfl ?_)
  simp only [sCA,sNA]
  refine WR.ev (vs := [.i (1 + wtPln p),.l es,.l (dL (cnt (1 + wtAs p.acts) p.gives.length)),.l (dL (cnt (1 + wtAs p.acts + p.gives.length) p.start.length))]) hmk rfl rfl rfl ?_
  simp only [sCA,sNA]
  refine WR.ev (vs := [.i (1 + wtPln p + wtClk c),.l (dL mc.base),.l (dDs mc.done),.l (dCs mc.wants),.l (dGs mc.got)]) hms rfl rfl rfl ?_
  simp only [sCA,sNA]
  refine WR.iteF (by show decide ((1 : Int) + wtPln p + wtClk c < 0) = false; rw [decide_eq_false]; omega) ?_
  refine WR.ev heq rfl rfl rfl (WR.iteF rfl ?_)
  simp only [sCA,sNA]
  refine WR.ev (vs := [.i (1 + wtClk r),.l (dL m.base),.l (dDs m.done),.l (dCs m.wants),.l (dGs m.got)]) hmr rfl rfl rfl ?_
  simp only [sCA,sNA]
  have c1 : decide (((dL r.base).length : Int) = ((dL m.base).length : Int)) = true := by rw [dL_len,dL_len,ht1]; simp
  have c2 : decide (((dDs r.done).length : Int) = ((dDs m.done).length : Int)) = true := by simp [dDs,ht2]
  have c3 : decide (((dCs r.wants).length : Int) = ((dCs m.wants).length : Int)) = true := by simp [dCs,ht3]
  have c4 : decide (((dGs r.got).length : Int) = ((dGs m.got).length : Int)) = true := by simp [dGs,ht4]
  refine WR.chk c1 (WR.chk c2 (WR.chk c3 (WR.chk c4 ?_)))
  refine WR.ev (vs := [.i (1 + wtClk r)]) hhr rfl rfl rfl ?_
  simp only [sCA,sNA]
  have hneg : decide ((1 : Int) + (wtClk r : Int) < 0) = false := by rw [decide_eq_false]; omega
  have hsame : (!decide ((1 : Int) + (wtClk r : Int) = (1 : Int) + (wtClk r : Int))) = false := by simp
  refine WR.iteF hneg (WR.iteF hsame ?_)
  refine WR.ev (vs := [.i p.n,.l (dActs p.acts),.l (dL p.gives),.l (dL p.start)]) hto rfl rfl rfl ?_
  simp only [sCA,sNA]
  refine WR.ev (vs := [.b c.up,.i c.round,.l (dL c.base),.l (dDs c.done),.l (dCs c.wants),.l (dGs c.got)]) htoc rfl rfl rfl ?_
  simp only [sCA,sNA]
  refine WR.ev (vs := [.b r.up,.i r.round,.l (dL r.base),.l (dDs r.done),.l (dCs r.wants),.l (dGs r.got)]) hi rfl rfl rfl ?_
  simp only [sCA,sNA]
  refine WR.fl (flats_map dI (fun _ => rfl) r.base) ?_
  refine WR.ev heq rfl rfl rfl (WR.iteF rfl ?_)
  simp only [sCA,sNA]
  refine WR.chk c1 (WR.chk c2 (WR.chk c3 (WR.chk c4 ?_)))
  refine WR.ev (vs := [.i (1 + wtClk r)]) hhr rfl rfl rfl ?_
  simp only [sCA,sNA]
  exact WR.iteF hneg (WR.iteF hsame (WR.done rfl))
theorem arg_FnExactClkFall (dss : List (List D)) (h : TySs [tyPlan,tyClk,.b] dss) : ∃ ls,flattenD [.g [.i .i64,.s,.s,.s],.g [.b,.i .i64,.s,.s,.s,.s],.one .b] (argsS [tyPlan,tyClk,.b] dss) = some ls ∧ Ev L f_k56 ls [dB true] := by
  obtain ⟨ds,_,rfl,h1,es,_,rfl,h2,gs,_,rfl,⟨u,rfl⟩,rfl⟩ := h
  obtain ⟨p,rfl,hp⟩ := plan_of h1
  obtain ⟨c,rfl,hc⟩ := clk_of h2
  exact ⟨_,rfl,ev_FnExactClkFall p c u hp hc⟩
end Go.Proofs.YtohfbfgggkmibaaGreatDoor

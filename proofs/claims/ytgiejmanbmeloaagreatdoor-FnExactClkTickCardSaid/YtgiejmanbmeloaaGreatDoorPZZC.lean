import Derived.Test.YtgiejmanbmeloaaGreatDoorPZY
import Derived.Test.YtgiejmanbmeloaaGreatDoorPZZA
set_option linter.unusedVariables false
set_option linter.unusedSimpArgs false
/- The program's ClkTick answers as the reference's: over residual programs. -/
namespace Go.Proofs.YtgiejmanbmeloaaGreatDoor
open Go Go.Tm
def pactM (c : Clk) (i : Nat) : Msg := ⟨4,i,0,c.round,⟨0,0,0,[]⟩,c.base,[],c.done⟩
def frzM (c : Clk) (i : Nat) : Msg := ⟨2,i,0,c.round,⟨0,0,0,[]⟩,[],[],[]⟩
def pactsM (c : Clk) (n : Nat) : List Msg := (List.range n).map (pactM c)
def frzsM (c : Clk) (n : Nat) : List Msg := (List.range n).map (frzM c)
theorem pactsM_succ (c : Clk) (n : Nat) : pactsM c (n + 1) = pactsM c n ++ [pactM c n] := by simp [pactsM,List.range_succ]
theorem frzsM_succ (c : Clk) (n : Nat) : frzsM c (n + 1) = frzsM c n ++ [frzM c n] := by simp [frzsM,List.range_succ]
theorem pactsM_len (c : Clk) (n : Nat) : (pactsM c n).length = n := by simp [pactsM]
theorem frzsM_len (c : Clk) (n : Nat) : (frzsM c n).length = n := by simp [frzsM]
def busy (c : Clk) : Bool := decide (0 < c.wants.length) || decide (0 < hasN c.got)
def tickM (c : Clk) : List Msg := if c.up then (if busy c then pactsM c c.got.length ++ frzsM c c.got.length else pactsM c c.got.length) else []
theorem dMs_app (a b : List Msg) : dMs (a ++ b) = dMs a ++ dMs b := by simp [dMs]
theorem dMs_len (a : List Msg) : (dMs a).length = a.length := by simp [dMs]
theorem dMs_pact (c : Clk) (i : Nat) : dMs [pactM c i] = [.g [dI 4,dI i,dI 0,dI c.round,dI 0,dI 0,dI 0,.s [],.s (dL c.base),.s [],.s (dDs c.done)]] := rfl
theorem dMs_frz (c : Clk) (i : Nat) : dMs [frzM c i] = [.g [dI 2,dI i,dI 0,dI c.round,dI 0,dI 0,dI 0,.s [],.s [],.s [],.s []]] := rfl
theorem ev_pacts (c : Clk) (hc : fitClk c) : Ev L f_k49 c.cells ([.s (dMs (pactsM c c.got.length))] ++ c.cells) := by
  refine Ev.eq (vs := [.b c.up,.i c.round,.l (dL c.base),.l (dDs c.done),.l (dCs c.wants),.l (dGs c.got)]) L_k49 rfl ?_
  have hg := hc.g
  refine WR.forP c.got.length (fun i => [.l (dMs (pactsM c i)),.i i]) (fun _ => True) rfl rfl trivial fun i hi _ => ?_
  simp only [sC,sN]
  refine WR.iteLen i (dGs_len c.got) rfl (fun h => ?_) (fun h => WR.esc (WR.done ?_))
  · refine WR.ev (vs := [.l (dL c.base)]) (ev_clone1 c.base hc.b) rfl rfl rfl ?_
    refine WR.ev (vs := [.l (dDs c.done)]) (ev_dones c.done ⟨hc.d,hc.dt⟩) rfl rfl rfl ?_
    simp only [sC,sN]
    refine WR.fl (flats_map dI (fun _ => rfl) c.base) ?_
    refine WR.chkApp (dMs (pactsM c i)) 2000000 (by rw [dMs_len,pactsM_len]; omega) (by omega) rfl ?_
    refine WR.nextA (vs := [.l (dMs (pactsM c (i + 1))),.i ((i + 1 : Nat) : Int)]) ?_ ⟨h,rfl,trivial⟩
    show [V.l (dMs (pactsM c i) ++ [.g [dI 4,dI i,dI 0,dI c.round,dI 0,dI 0,dI 0,.s [],.s (dL c.base),.s [],.s (dDs c.done)]]),V.i (IntKind.i64.wrap ((i : Int) + 1))] = _
    rw [wS h (by omega),pactsM_succ,dMs_app,dMs_pact]
  · rw [show i = c.got.length by omega]; rfl
theorem ev_tick_1 (x : Got) : Ev L f_k4c x.cells [dB x.has] :=
  Ev.eq (vs := [.b x.has,.l (dL x.added),.l (dL x.seqs)]) L_k4c rfl (WR.done rfl)
theorem hasN_any (l : List Got) : (l.any fun g => g.has) = decide (0 < hasN l) := by
  rw [Bool.eq_iff_iff,decide_eq_true_eq]
  unfold hasN
  rw [List.length_pos_iff_exists_mem]
  simp
theorem ev_tick (c : Clk) (hc : fitClk c) : Ev L f_k4d c.cells ([.s (dMs (tickM c))] ++ c.cells) := by
  refine Ev.eq (vs := [.b c.up,.i c.round,.l (dL c.base),.l (dDs c.done),.l (dCs c.wants),.l (dGs c.got)]) L_k4d rfl ?_
  have hg := hc.g
  have hcc := hc.c
  refine WR.iteN c.up rfl (fun a => WR.done (by unfold tickM; rw [if_neg (by simp [a])]; rfl)) (fun a => ?_)
  have hp := ev_pacts c hc
  have hpl := pactsM_len c c.got.length
  have et : tickM c = if busy c then pactsM c c.got.length ++ frzsM c c.got.length else pactsM c c.got.length := by unfold tickM; rw [if_pos a]
  rw [et]
  clear et
  generalize pactsM c c.got.length = ps at *
  refine WR.ev (vs := [.l (dMs ps),.b c.up,.i c.round,.l (dL c.base),.l (dDs c.done),.l (dCs c.wants),.l (dGs c.got)]) hp rfl rfl rfl ?_
  simp only [sC,sN]
  refine WR.iteP ((0 : Int) < (c.wants.length : Int)) (by show decide ((0 : Int) < ((dCs c.wants).length : Int)) = _; rw [dCs_len]) (fun b => ?_) (fun b => ?_)
  · have e : busy c = true := by unfold busy; rw [decide_eq_true (by omega)]; rfl
    rw [if_pos e]
    refine WR.forP c.got.length (fun i => [.l (dMs (ps ++ frzsM c i)),.i i]) (fun _ => True) rfl (by rw [show frzsM c 0 = [] from rfl,List.append_nil]; rfl) trivial fun i hi _ => ?_
    simp only [sC,sN]
    refine WR.iteLen i (dGs_len c.got) rfl (fun h => ?_) (fun h => WR.esc (WR.done ?_))
    · refine WR.chkApp (dMs (ps ++ frzsM c i)) 4000000 (by rw [dMs_len,List.length_append,frzsM_len]; omega) (by omega) rfl ?_
      refine WR.nextA (vs := [.l (dMs (ps ++ frzsM c (i + 1))),.i ((i + 1 : Nat) : Int)]) ?_ ⟨h,rfl,trivial⟩
      show [V.l (dMs (ps ++ frzsM c i) ++ [.g [dI 2,dI i,dI 0,dI c.round,dI 0,dI 0,dI 0,.s [],.s [],.s [],.s []]]),V.i (IntKind.i64.wrap ((i : Int) + 1))] = _
      rw [wS h (by omega),frzsM_succ,← List.append_assoc,dMs_app (ps ++ frzsM c i),dMs_frz]
    · rw [show i = c.got.length by omega]; rfl
  · refine WR.ev (ev_hasGot (fun g => g.has) c.got (fn := f_k4c) (caps := []) hg rfl rfl fun x _ => by simpa using ev_tick_1 x) rfl rfl rfl ?_
    simp only [sC,sN]
    rw [hasN_any]
    refine WR.iteP (0 < hasN c.got) rfl (fun d => ?_) (fun d => ?_)
    · have e : busy c = true := by unfold busy; rw [decide_eq_true d,Bool.or_true]
      rw [if_pos e]
      refine WR.forP c.got.length (fun i => [.l (dMs (ps ++ frzsM c i)),.i i]) (fun _ => True) rfl (by rw [show frzsM c 0 = [] from rfl,List.append_nil]; rfl) trivial fun i hi _ => ?_
      simp only [sC,sN]
      refine WR.iteLen i (dGs_len c.got) rfl (fun h => ?_) (fun h => WR.esc (WR.done ?_))
      · refine WR.chkApp (dMs (ps ++ frzsM c i)) 4000000 (by rw [dMs_len,List.length_append,frzsM_len]; omega) (by omega) rfl ?_
        refine WR.nextA (vs := [.l (dMs (ps ++ frzsM c (i + 1))),.i ((i + 1 : Nat) : Int)]) ?_ ⟨h,rfl,trivial⟩
        show [V.l (dMs (ps ++ frzsM c i) ++ [.g [dI 2,dI i,dI 0,dI c.round,dI 0,dI 0,dI 0,.s [],.s [],.s [],.s []]]),V.i (IntKind.i64.wrap ((i : Int) + 1))] = _
        rw [wS h (by omega),frzsM_succ,← List.append_assoc,dMs_app (ps ++ frzsM c i),dMs_frz]
      · rw [show i = c.got.length by omega]; rfl
    · have e : busy c = false := by unfold busy; rw [decide_eq_false d,decide_eq_false (by omega)]; rfl
      rw [if_neg (by rw [e]; simp)]
      exact WR.done rfl
theorem ev_clip (l : List Msg) : Ev L f_k4e [.s (dMs l)] [.s (dMs l)] :=
  Ev.eq (vs := [.l (dMs l)]) L_k4e rfl (WR.chk (by show decide (((dMs l).length : Int) = ((dMs l).length : Int)) = true; simp) (WR.chk (by show decide (((dMs l).length : Int) = ((dMs l).length : Int)) = true; simp) (WR.done rfl)))
theorem ev_l9Pact (c : Clk) (i : Nat) (hc : fitClk c) : Ev L f_k1x (c.cells ++ [dI i]) (pactM c i).cells := by
  refine Ev.eq (vs := [.b c.up,.i c.round,.l (dL c.base),.l (dDs c.done),.l (dCs c.wants),.l (dGs c.got),.i i]) L_k1x rfl ?_
  have h1 := hc.b
  refine WR.chkN (dL c.base) 2000000 (by rw [dL1]; omega) (by omega) rfl ?_
  refine WR.head (head_dL c.base) ?_
  refine WR.chkN (dL c.base) 2000000 (by rw [dL1]; omega) (by omega) rfl ?_
  exact WR.ev (vs := [.l (dDs c.done)]) (ev_l6CopyDone c.done ⟨hc.d,hc.dt⟩) rfl rfl rfl (WR.done rfl)
theorem ev_l9Told (p : Pln) (c : Clk) (hp : fitPln p) (hc : fitClk c) : Ev L f_k1y (p.cells ++ c.cells) [.s (dMs (pactsM c p.gives.length))] := by
  refine Ev.eq (vs := [.i p.n,.l (dActs p.acts),.l (dL p.gives),.l (dL p.start),.b c.up,.i c.round,.l (dL c.base),.l (dDs c.done),.l (dCs c.wants),.l (dGs c.got)]) L_k1y rfl ?_
  have hg := hp.2.1
  refine WR.forP p.gives.length (fun i => [.l (dMs (pactsM c i)),.i i]) (fun _ => True) rfl rfl trivial fun i hi _ => ?_
  simp only [sC,sN]
  refine WR.iteLen i (dL1 p.gives) rfl (fun h => ?_) (fun h => WR.esc (WR.done ?_))
  · refine WR.ev (vs := [.i 4,.i i,.i 0,.i c.round,.i 0,.i 0,.i 0,.l [],.l (dL c.base),.l [],.l (dDs c.done)]) (ev_l9Pact c i hc) rfl rfl rfl ?_
    simp only [sC,sN]
    refine WR.chkApp (dMs (pactsM c i)) 2000000 (by rw [dMs_len,pactsM_len]; omega) (by omega) rfl ?_
    refine WR.nextA (vs := [.l (dMs (pactsM c (i + 1))),.i ((i + 1 : Nat) : Int)]) ?_ ⟨h,rfl,trivial⟩
    show [V.l (dMs (pactsM c i) ++ [.g [dI 4,dI i,dI 0,dI c.round,dI 0,dI 0,dI 0,.s [],.s (dL c.base),.s [],.s (dDs c.done)]]),V.i (IntKind.i64.wrap ((i : Int) + 1))] = _
    rw [wS h (by omega),pactsM_succ,dMs_app,dMs_pact]
  · rw [show i = p.gives.length by omega]; rfl
theorem ev_l9Tick (p : Pln) (c : Clk) (hp : fitPln p) (hc : fitClk c) (hl : c.got.length = p.gives.length) : Ev L f_k1z (p.cells ++ c.cells) [.s (dMs (tickM c))] := by
  refine Ev.eq (vs := [.i p.n,.l (dActs p.acts),.l (dL p.gives),.l (dL p.start),.b c.up,.i c.round,.l (dL c.base),.l (dDs c.done),.l (dCs c.wants),.l (dGs c.got)]) L_k1z rfl ?_
  have hg := hp.2.1
  have hcc := hc.c
  refine WR.iteN c.up rfl (fun a => WR.done (by unfold tickM; rw [if_neg (by simp [a])]; rfl)) (fun a => ?_)
  have ht := ev_l9Told p c hp hc
  have hpl := pactsM_len c p.gives.length
  have hh := ev_l9Has c hc.g
  have et : tickM c = if busy c then pactsM c p.gives.length ++ frzsM c p.gives.length else pactsM c p.gives.length := by unfold tickM; rw [if_pos a,hl]
  rw [et]
  clear et
  generalize pactsM c p.gives.length = ps at *
  refine WR.ev (vs := [.l (dMs ps)]) ht rfl rfl rfl ?_
  simp only [sC,sN]
  refine WR.forP p.gives.length (fun i => [.l (dMs (ps ++ frzsM c i)),.i i]) (fun i => i = 0 ∨ busy c = true) rfl (by rw [show frzsM c 0 = [] from rfl,List.append_nil]; rfl) (.inl rfl) fun i hi hq => ?_
  simp only [sC,sN]
  have hs : dMs (ps ++ frzsM c i) ++ [.g [dI 2,dI i,dI 0,dI c.round,dI 0,dI 0,dI 0,.s [],.s [],.s [],.s []]] = dMs (ps ++ frzsM c (i + 1)) := by rw [frzsM_succ,← List.append_assoc,dMs_app (ps ++ frzsM c i),dMs_frz]
  have hlen : (dMs (ps ++ frzsM c i)).length ≤ 4000000 := by rw [dMs_len,List.length_append,frzsM_len]; omega
  have hend : ¬ i < p.gives.length ∨ busy c = false → [D.s (dMs (ps ++ frzsM c i))] = [D.s (dMs (if busy c then ps ++ frzsM c p.gives.length else ps))] := fun q => by
    by_cases hb : busy c = true
    · rw [if_pos hb]
      rcases q with q | q
      · rw [show i = p.gives.length by omega]
      · rw [q] at hb; cases hb
    · rw [if_neg hb]
      rcases hq with e | e
      · rw [e,show frzsM c 0 = [] from rfl,List.append_nil]
      · exact absurd e hb
  generalize dMs (ps ++ frzsM c i) = ms at *
  refine WR.iteLen i (dL1 p.gives) rfl (fun h => ?_) (fun h => WR.esc (WR.done (hend (.inl h))))
  have hw : IntKind.i64.wrap ((i : Int) + 1) = ((i + 1 : Nat) : Int) := wS h (by omega)
  refine WR.iteP ((0 : Int) < (c.wants.length : Int)) (by show decide ((0 : Int) < ((dCs c.wants).length : Int)) = _; rw [dCs_len]) (fun b => ?_) (fun b => ?_)
  · have e : busy c = true := by unfold busy; rw [decide_eq_true (by omega)]; rfl
    refine WR.chkApp ms 4000000 hlen (by omega) rfl ?_
    refine WR.nextA ?_ ⟨h,rfl,.inr e⟩
    show [V.l (ms ++ [.g [dI 2,dI i,dI 0,dI c.round,dI 0,dI 0,dI 0,.s [],.s [],.s [],.s []]]),V.i (IntKind.i64.wrap ((i : Int) + 1))] = _
    rw [hs,hw]
  · refine WR.ev hh rfl rfl rfl ?_
    simp only [sC,sN]
    refine WR.iteP ((0 : Int) < (hasN c.got : Int)) rfl (fun d => ?_) (fun d => WR.esc (WR.done (hend (.inr ?_))))
    · have e : busy c = true := by unfold busy; rw [decide_eq_true (show 0 < hasN c.got by omega),Bool.or_true]
      refine WR.chkApp ms 4000000 hlen (by omega) rfl ?_
      refine WR.nextA ?_ ⟨h,rfl,.inr e⟩
      show [V.l (ms ++ [.g [dI 2,dI i,dI 0,dI c.round,dI 0,dI 0,dI 0,.s [],.s [],.s [],.s []]]),V.i (IntKind.i64.wrap ((i : Int) + 1))] = _
      rw [hs,hw]
    · unfold busy; rw [decide_eq_false (by omega),decide_eq_false (by omega)]; rfl
def clkTick (p : Pln) (c : Clk) : List Msg := if clkOkP p c then tickM c else []
theorem ev_sClkTick (p : Pln) (c : Clk) (hp : fitPln p) (hc : fitClk c) : Ev L f_k20 (p.cells ++ c.cells) [.s (dMs (clkTick p c))] := by
  refine Ev.eq (vs := [.i p.n,.l (dActs p.acts),.l (dL p.gives),.l (dL p.start),.b c.up,.i c.round,.l (dL c.base),.l (dDs c.done),.l (dCs c.wants),.l (dGs c.got)]) L_k20 rfl ?_
  refine WR.ev (ev_sClkOk p c hp hc) rfl rfl rfl ?_
  refine WR.iteN (clkOkP p c) rfl (fun h => WR.done ?_) (fun h => ?_)
  · unfold clkTick; rw [if_neg (by simp [h])]; rfl
  refine WR.ev (ev_l9Tick p c hp hc (clkOk_len h)) rfl rfl rfl (WR.done ?_)
  unfold clkTick; rw [if_pos h]; rfl
theorem ev_iClkTick (p : Pln) (c : Clk) (hp : fitPln p) (hc : fitClk c) : Ev L f_k4f (p.cells ++ c.cells) [.s (dMs (clkTick p c))] := by
  refine Ev.eq (vs := [.i p.n,.l (dActs p.acts),.l (dL p.gives),.l (dL p.start),.b c.up,.i c.round,.l (dL c.base),.l (dDs c.done),.l (dCs c.wants),.l (dGs c.got)]) L_k4f rfl ?_
  refine WR.ev (ev_iClkOk p c hp hc) rfl rfl rfl ?_
  refine WR.iteN (clkOkP p c) rfl (fun h => WR.done ?_) (fun h => ?_)
  · unfold clkTick; rw [if_neg (by simp [h])]; rfl
  have et : clkTick p c = tickM c := by unfold clkTick; rw [if_pos h]
  rw [et]
  refine WR.ev (vs := [.l (dMs (tickM c)),.b c.up,.i c.round,.l (dL c.base),.l (dDs c.done),.l (dCs c.wants),.l (dGs c.got)]) (ev_tick c hc) rfl rfl rfl ?_
  simp only [sC,sN]
  exact WR.ev (vs := [.l (dMs (tickM c))]) (ev_clip (tickM c)) rfl rfl rfl (WR.done rfl)
theorem tick_mem {p : Pln} {c : Clk} {x : Msg} (h : x ∈ clkTick p c) : ∃ i,x = pactM c i ∨ x = frzM c i := by
  unfold clkTick tickM at h
  split at h
  · split at h
    · split at h
      · rcases List.mem_append.1 h with h | h
        · obtain ⟨i,_,rfl⟩ := List.mem_map.1 h; exact ⟨i,.inl rfl⟩
        · obtain ⟨i,_,rfl⟩ := List.mem_map.1 h; exact ⟨i,.inr rfl⟩
      · obtain ⟨i,_,rfl⟩ := List.mem_map.1 h; exact ⟨i,.inl rfl⟩
    · simp at h
  · simp at h
theorem fit_clkTick {p : Pln} {c : Clk} (hc : fitClk c) : ∀ x ∈ clkTick p c,fitMsg x := by
  intro x hx
  obtain ⟨i,rfl | rfl⟩ := tick_mem hx
  · exact ⟨by simp [pactM],hc.b,by simp [pactM],hc.d,hc.dt⟩
  · exact ⟨by simp [frzM],by simp [frzM],by simp [frzM],by simp [frzM],fun d hd => by simp [frzM] at hd⟩
theorem trt_gives {s g : List Int} (h : trtOk s g = true) : g.length ≤ 3 := by
  simp only [trtOk,Bool.and_eq_true,inB_iff] at h
  have := h.1.2.2
  omega
theorem len_clkTick {p : Pln} {c : Clk} : (clkTick p c).length ≤ 6 := by
  unfold clkTick
  split
  · rename_i h
    have hl := clkOk_len h
    simp only [clkOkP,Bool.and_eq_true] at h
    obtain ⟨_,_,_,h4⟩ := plnOk_n h.1
    have hg := trt_gives h4
    unfold tickM
    split
    · split
      · rw [List.length_append,pactsM_len,frzsM_len]; omega
      · rw [pactsM_len]; omega
    · simp
  · simp
theorem wts_big2 {α : Type} (w : α → Nat) (N : Nat) (l : List α) (h : ∀ x ∈ l,w x ≤ N) : wts w l ≤ N * l.length := by
  unfold wts
  induction l with
  | nil => simp
  | cons x l ih =>
    have h1 := ih fun y hy => h y (List.mem_cons_of_mem _ hy)
    have h2 := h x (List.mem_cons_self ..)
    simp only [List.map_cons,List.sum_cons,List.length_cons,Nat.mul_succ]
    omega
theorem wt_clkTick {p : Pln} {c : Clk} (hz : szClk c ≤ 1048576) : wts Msg.w (clkTick p c) ≤ 10000000 * 6 := by
  have hd := wts_don c.done
  have hb : wts Msg.w (clkTick p c) ≤ 10000000 * (clkTick p c).length := wts_big2 Msg.w 10000000 _ fun x hx => by
    obtain ⟨i,rfl | rfl⟩ := tick_mem hx
    · unfold szClk at hz
      show 7 + 0 + c.base.length + 0 + wts Don.w c.done ≤ _
      omega
    · show 7 + 0 + 0 + 0 + 0 ≤ _
      omega
  exact Nat.le_trans hb (Nat.mul_le_mul_left _ len_clkTick)
theorem ev_FnExactClkTick (p : Pln) (c : Clk) (hb : bigPln p) (hbc : bigClk c) : Ev L f_k58 (p.cells ++ c.cells) [dB true] := by
  refine Ev.eq (vs := [.i p.n,.l (dActs p.acts),.l (dL p.gives),.l (dL p.start),.b c.up,.i c.round,.l (dL c.base),.l (dDs c.done),.l (dCs c.wants),.l (dGs c.got)]) L_k58 rfl ?_
  refine WR.ev (ev_szPlnPlan p 1048576 hb (by omega) (by omega)) rfl rfl rfl ?_
  have hr := dec_room (left := 1048576) (n := szPln p) (by omega) (by omega)
  refine WR.iteP (dec 1048576 (szPln p) < 0) rfl (fun _ => WR.done rfl) (fun h => ?_)
  have hsz : szPln p ≤ 1048576 := by have := dec_le h; omega
  have hf : fitPln p := fitPln_of hsz
  have hto := ev_toPlnPlan p hf
  refine WR.ev (ev_szClkClerk c (dec 1048576 (szPln p)) hbc (by omega) (by omega)) rfl rfl rfl ?_
  simp only [sC,sN]
  have hrs := dec_room (left := (dec 1048576 (szPln p))) (n := szClk c) (by omega) (by omega)
  refine WR.iteP (dec (dec 1048576 (szPln p)) (szClk c) < 0) rfl (fun _ => WR.done rfl) (fun hss => ?_)
  have hsz2 : szClk c ≤ 1048576 := by have := dec_le hss; omega
  have hfc : fitClk c := fitClk_of hsz2
  have htoc := ev_toClkClerk c hfc
  have hwp := wtPln_le p
  have hws := wtClk_le c
  have hs := ev_sClkTick p c hf hfc
  have hi := ev_iClkTick p c hf hfc
  have hwm := wt_clkTick (p := p) hsz2
  have hfm := fit_clkTick (p := p) hfc
  have hlm := len_clkTick (p := p) (c := c)
  obtain ⟨es,hmk⟩ := ev_markPlnPlan p hf (by omega)
  have hms := ev_mkClkClerk c hfc (1 + wtPln p) (by omega) (by omega)
  generalize hmc : mkCl (1 + wtPln p) c = mc at *
  generalize clkTick p c = ms at *
  have heqm := ev_eqMsgMsgS ms ⟨by omega,hfm⟩
  have heqs := ev_eqClkClerk c hfc
  have hml := ev_markMsgMsgS ms 1 (by omega) hfm (by omega) (by omega)
  have hhm := ev_heldMsgMsgS ms 1 (by omega) hfm (by omega) (by omega)
  have hml2 : (mkAll Msg.w Msg.mk' 1 ms).length = ms.length := mkAll_len ..
  generalize mkAll Msg.w Msg.mk' 1 ms = mm at *
  refine WR.ev (vs := [.i p.n,.l (dActs p.acts),.l (dL p.gives),.l (dL p.start)]) hto rfl rfl rfl ?_
  simp only [sC,sN]
  refine WR.ev (vs := [.b c.up,.i c.round,.l (dL c.base),.l (dDs c.done),.l (dCs c.wants),.l (dGs c.got)]) htoc rfl rfl rfl ?_
  simp only [sC,sN]
  refine WR.ev (vs := [.l (dMs ms)]) hs rfl rfl rfl ?_
  simp only [sC,sN]
  refine WR.ev (vs := [.i p.n,.l (dActs p.acts),.l (dL p.gives),.l (dL p.start)]) hto rfl rfl rfl ?_
  simp only [sC,sN]
  refine WR.ev (vs := [.b c.up,.i c.round,.l (dL c.base),.l (dDs c.done),.l (dCs c.wants),.l (dGs c.got)]) htoc rfl rfl rfl ?_
  simp only [sC,sN]
  refine WR.ev (vs := [.l (dMs ms)]) hi rfl rfl rfl ?_
  simp only [sC,sN]
  refine WR.ev heqm rfl rfl rfl (WR.iteF rfl ?_)
  simp only [sC,sN]
  refine WR.ev (vs := [.i p.n,.l (dActs p.acts),.l (dL p.gives),.l (dL p.start)]) hto rfl rfl rfl ?_
  simp only [sC,sN]
  refine WR.ev (ev_eqPlnPlan p hf) rfl rfl rfl (WR.iteF rfl ?_)
  simp only [sC,sN]
  refine WR.ev (vs := [.b c.up,.i c.round,.l (dL c.base),.l (dDs c.done),.l (dCs c.wants),.l (dGs c.got)]) htoc rfl rfl rfl ?_
  simp only [sC,sN]
  refine WR.ev heqs rfl rfl rfl (WR.iteF rfl ?_)
  simp only [sC,sN]
  refine WR.ev (vs := [.i (1 + wtPln p),.l es,.l (dL (cnt (1 + wtAs p.acts) p.gives.length)),.l (dL (cnt (1 + wtAs p.acts + p.gives.length) p.start.length))]) hmk rfl rfl rfl ?_
  simp only [sC,sN]
  refine WR.ev (vs := [.i (1 + wtPln p + wtClk c),.l (dL mc.base),.l (dDs mc.done),.l (dCs mc.wants),.l (dGs mc.got)]) hms rfl rfl rfl ?_
  simp only [sC,sN]
  refine WR.iteF (by show decide ((1 : Int) + wtPln p + wtClk c < 0) = false; rw [decide_eq_false]; omega) ?_
  refine WR.ev heqm rfl rfl rfl (WR.iteF rfl ?_)
  simp only [sC,sN]
  refine WR.ev (vs := [.i (1 + wts Msg.w ms),.l (dMs mm)]) hml rfl rfl rfl ?_
  simp only [sC,sN]
  have c1 : decide (((dMs ms).length : Int) = ((dMs mm).length : Int)) = true := by simp [dMs,hml2]
  have hneg : decide ((1 : Int) + (wts Msg.w ms : Int) < 0) = false := by rw [decide_eq_false]; omega
  have hsame : (!decide ((1 : Int) + (wts Msg.w ms : Int) = (1 : Int) + (wts Msg.w ms : Int))) = false := by simp
  refine WR.chk c1 ?_
  refine WR.ev (vs := [.i (1 + wts Msg.w ms)]) hhm rfl rfl rfl ?_
  simp only [sC,sN]
  refine WR.iteF hneg (WR.iteF hsame ?_)
  refine WR.ev (vs := [.i p.n,.l (dActs p.acts),.l (dL p.gives),.l (dL p.start)]) hto rfl rfl rfl ?_
  simp only [sC,sN]
  refine WR.ev (vs := [.b c.up,.i c.round,.l (dL c.base),.l (dDs c.done),.l (dCs c.wants),.l (dGs c.got)]) htoc rfl rfl rfl ?_
  simp only [sC,sN]
  refine WR.ev (vs := [.l (dMs ms)]) hi rfl rfl rfl ?_
  simp only [sC,sN]
  refine WR.ev heqm rfl rfl rfl (WR.iteF rfl ?_)
  simp only [sC,sN]
  refine WR.chk c1 ?_
  refine WR.ev (vs := [.i (1 + wts Msg.w ms)]) hhm rfl rfl rfl ?_
  simp only [sC,sN]
  exact WR.iteF hneg (WR.iteF hsame (WR.done rfl))
theorem arg_FnExactClkTick (dss : List (List D)) (h : TySs [tyPlan,tyClk] dss) : ∃ ls,flattenD [.g [.i .i64,.s,.s,.s],.g [.b,.i .i64,.s,.s,.s,.s]] (argsS [tyPlan,tyClk] dss) = some ls ∧ Ev L f_k58 ls [dB true] := by
  obtain ⟨ds,_,rfl,h1,es,_,rfl,h2,rfl⟩ := h
  obtain ⟨p,rfl,hp⟩ := plan_of h1
  obtain ⟨c,rfl,hc⟩ := clk_of h2
  exact ⟨_,rfl,ev_FnExactClkTick p c hp hc⟩
end Go.Proofs.YtgiejmanbmeloaaGreatDoor

import Derived.Test.YtdibnlhlngodeaaGreatDoorPZU
set_option linter.unusedVariables false
set_option linter.unusedSimpArgs false
/- The program's ClkOk and ClkReady answer as the reference's: over residual programs. -/
namespace Go.Proofs.YtdibnlhlngodeaaGreatDoor
open Go Go.Tm
def emp (g : Got) : Bool := decide (g.added.length = 0) && decide (g.seqs.length = 0)
def gotS (p : Pln) (b : List Int) (l : List Got) (j : Nat) : Bool :=
  if (l.getD j got0).has then keepOk p b j (l.getD j got0).added && seqsOk p.n (l.getD j got0).seqs else emp (l.getD j got0)
def wantS (p : Pln) (l : List Cal) (j : Nat) : Bool := callOk p (l.getD j ⟨0, 0, 0, []⟩) && (decide (j = 0) || decide ((l.getD (j - 1) ⟨0, 0, 0, []⟩).client < (l.getD j ⟨0, 0, 0, []⟩).client))
def hasN (l : List Got) : Nat := (l.filter fun g => g.has).length
def allTo (n : Nat) (f : Nat → Bool) : Bool := (List.range n).all f
theorem allTo_succ (n : Nat) (f : Nat → Bool) : allTo (n + 1) f = (allTo n f && f n) := by simp [allTo, List.range_succ]
theorem allTo_iff {n : Nat} {f : Nat → Bool} : allTo n f = true ↔ ∀ j, j < n → f j = true := by simp [allTo]
theorem allTo_no {n i : Nat} {f : Nat → Bool} (h : i < n) (hf : f i = false) : allTo n f = false := by
  cases e : allTo n f with
  | false => rfl
  | true => rw [allTo_iff.1 e i h] at hf; cases hf
def clkOk (p : Pln) (c : Clk) : Bool := inB c.round 0 200 && (valOk c.base && (doneOk p.n c.done && ((decide (c.got.length = p.gives.length) && allTo c.got.length (gotS p c.base c.got)) &&
  (allTo c.wants.length (wantS p c.wants) && (c.up || (decide (c.wants.length = 0) && decide (hasN c.got = 0)))))))
def clkOkP (p : Pln) (c : Clk) : Bool := plnOk p && clkOk p c
theorem dGs_len (l : List Got) : (dGs l).length = l.length := by simp [dGs]
theorem dCs_len (l : List Cal) : (dCs l).length = l.length := by simp [dCs]
theorem getD_of {α : Type} {l : List α} {i : Nat} {x d : α} (h : l[i]? = some x) : l.getD i d = x := by simp [List.getD_eq_getElem?_getD, h]
theorem wantS_at {p : Pln} {l : List Cal} {i : Nat} {x : Cal} (h : l[i]? = some x) : wantS p l i = (callOk p x && (decide (i = 0) || decide ((l.getD (i - 1) ⟨0, 0, 0, []⟩).client < x.client))) := by
  unfold wantS; rw [getD_of h]
theorem ev_gotNone (x : Got) : Ev L f_k3a x.cells [dB (!x.has && emp x)] := by
  refine Ev.eq (vs := [.b x.has, .l (dL x.added), .l (dL x.seqs)]) L_k3a rfl ?_
  refine WR.iteN x.has rfl (fun a => ?_) (fun a => WR.done (by show [dB false] = _; rw [a]; rfl))
  refine WR.iteB (decide (x.added.length = 0)) (em_dec _ (dL_len _)) (fun b => WR.done ?_) (fun b => WR.done (by show [dB false] = _; rw [emp, b]; simp))
  show [dB (decide (((dL x.seqs).length : Int) = 0))] = _
  rw [em_dec _ (dL_len _), a, emp, b]; simp
def gotI (p : Pln) (b : List Int) (up : Bool) (l : List Got) (j : Nat) : Bool :=
  (up && ((l.getD j got0).has && (keepOk p b j (l.getD j got0).added && seqsOk p.n (l.getD j got0).seqs))) || (!(l.getD j got0).has && emp (l.getD j got0))
theorem gotI_up (p : Pln) (b : List Int) (l : List Got) (j : Nat) : gotI p b true l j = gotS p b l j := by
  unfold gotI gotS
  cases (l.getD j got0).has <;> simp
theorem gotI_down (p : Pln) (b : List Int) (l : List Got) : allTo l.length (gotI p b false l) = (allTo l.length (gotS p b l) && decide (hasN l = 0)) := by
  rw [Bool.eq_iff_iff, Bool.and_eq_true, allTo_iff, allTo_iff, decide_eq_true_eq]
  have hn : hasN l = 0 ↔ ∀ j, j < l.length → (l.getD j got0).has = false := by
    unfold hasN
    rw [List.length_eq_zero_iff, List.filter_eq_nil_iff]
    constructor
    · intro h j hj
      obtain ⟨x, hx, hm⟩ := some_at hj
      rw [getD_of hx]
      simpa using h x hm
    · intro h x hx
      obtain ⟨j, hj, e⟩ := List.getElem_of_mem hx
      have := h j hj
      rw [getD_of (x := x) (by rw [List.getElem?_eq_getElem hj, e])] at this
      simp [this]
  rw [hn]
  constructor
  · intro h
    have h0 : ∀ j, j < l.length → (l.getD j got0).has = false := fun j hj => by
      have := h j hj
      unfold gotI at this
      cases hh : (l.getD j got0).has with
      | false => rfl
      | true => rw [hh] at this; simp at this
    refine ⟨fun j hj => ?_, h0⟩
    have := h j hj
    unfold gotI at this
    unfold gotS
    rw [h0 j hj] at this ⊢
    simpa using this
  · rintro ⟨h, h0⟩ j hj
    have := h j hj
    unfold gotS at this
    unfold gotI
    rw [h0 j hj] at this ⊢
    simpa using this
theorem clkOk_eq (p : Pln) (c : Clk) : clkOk p c = (inB c.round 0 200 && (valOk c.base && (doneOk p.n c.done && (decide (c.got.length = p.gives.length) &&
    (allTo c.wants.length (fun j => wantS p c.wants j && c.up) && allTo c.got.length (gotI p c.base c.up c.got)))))) := by
  unfold clkOk
  cases hu : c.up with
  | true =>
    have e : gotI p c.base true c.got = gotS p c.base c.got := funext fun j => gotI_up p c.base c.got j
    have e2 : (fun j => wantS p c.wants j && true) = wantS p c.wants := funext fun j => Bool.and_true _
    rw [e, e2, Bool.true_or, Bool.and_true]
    cases inB c.round 0 200 <;> cases valOk c.base <;> cases doneOk p.n c.done <;> cases decide (c.got.length = p.gives.length) <;> cases allTo c.got.length (gotS p c.base c.got) <;> cases allTo c.wants.length (wantS p c.wants) <;> rfl
  | false =>
    rw [gotI_down]
    have e2 : allTo c.wants.length (fun j => wantS p c.wants j && false) = decide (c.wants.length = 0) := by
      cases hl : c.wants.length with
      | zero => rfl
      | succ n => rw [allTo_no (i := 0) (by omega) (Bool.and_false _)]; simp
    rw [e2, Bool.false_or]
    cases hl : decide (c.wants.length = 0) with
    | false => simp
    | true =>
      have h0 : c.wants.length = 0 := by simpa using hl
      rw [h0]
      have : allTo 0 (wantS p c.wants) = true := rfl
      rw [this]
      cases inB c.round 0 200 <;> cases valOk c.base <;> cases doneOk p.n c.done <;> cases decide (c.got.length = p.gives.length) <;> cases allTo c.got.length (gotS p c.base c.got) <;> cases decide (hasN c.got = 0) <;> rfl
theorem ev_clerkOk (p : Pln) (c : Clk) (hp : fitPln p) (hk : fitClk c) (h1 : 1 ≤ p.n) (h2 : p.n ≤ 4) (hc : catOk p.acts = true) :
    Ev L f_k3b (p.cells ++ [.s (dActs p.acts), .s (dLL (catForms p.acts)), .s (dBl (catPins p.acts))] ++ c.cells) [dB (clkOk p c)] := by
  refine Ev.eq (vs := [.i p.n, .l (dActs p.acts), .l (dL p.gives), .l (dL p.start), .l (dActs p.acts), .l (dLL (catForms p.acts)), .l (dBl (catPins p.acts)), .b c.up, .i c.round, .l (dL c.base), .l (dDs c.done), .l (dCs c.wants), .l (dGs c.got)]) L_k3b rfl ?_
  have hps : fitLL (catForms p.acts) := (catForms_fit p.acts).fitLL (by omega)
  have hwl := hk.c
  have hgl := hk.g
  rw [clkOk_eq]
  refine WR.ev (ev_in c.round 0 200) rfl rfl rfl ?_
  refine WR.iteN (inB c.round 0 200) rfl (fun b => WR.done (by show [dB false] = _; rw [b]; rfl)) (fun a1 => ?_)
  refine WR.ev (ev_ValOk c.base hk.b) rfl rfl rfl ?_
  refine WR.iteN (valOk c.base) rfl (fun b => WR.done (by show [dB false] = _; rw [b, Bool.false_and, Bool.and_false])) (fun a2 => ?_)
  refine WR.ev (ev_doneOk p c.done ⟨hk.d, hk.dt⟩) rfl rfl rfl ?_
  refine WR.iteN (doneOk p.n c.done) rfl (fun b => WR.done (by show [dB false] = _; rw [b, Bool.false_and, Bool.and_false, Bool.and_false])) (fun a3 => ?_)
  refine WR.iteN (decide (c.got.length = p.gives.length)) ?_ (fun b => WR.done (by show [dB false] = _; rw [b, Bool.false_and, Bool.and_false, Bool.and_false, Bool.and_false])) (fun a4 => ?_)
  · show (!decide (((dGs c.got).length : Int) = ((dL p.gives).length : Int))) = _
    rw [dGs_len, dL_len]; simp [Int.ofNat_inj]
  rw [a1, a2, a3, a4]
  simp only [Bool.true_and]
  generalize hB : allTo c.wants.length (fun j => wantS p c.wants j && c.up) = B
  simp only [sCA, sNA]
  refine WR.forP c.wants.length (fun i => [.i i]) (fun i => allTo i (fun j => wantS p c.wants j && c.up) = true) rfl rfl rfl fun i hi hq => ?_
  simp only [sCA, sNA]
  refine WR.iteLen i (dCs_len c.wants) rfl (fun h' => ?_) (fun h' => WR.esc ?_)
  · obtain ⟨x, hx, hm⟩ := some_at h'
    have hwi := wantS_at (p := p) hx
    have bad : (wantS p c.wants i && c.up) = false → [dB false] = [dB (B && allTo c.got.length (gotI p c.base c.up c.got))] := fun h => by rw [← hB, allTo_no h' h]; rfl
    have good : (wantS p c.wants i && c.up) = true → allTo (i + 1) (fun j => wantS p c.wants j && c.up) = true := fun h => by rw [allTo_succ, hq, h]; rfl
    have nx : [V.i (IntKind.i64.wrap ((i : Int) + 1))] = [V.i ((i + 1 : Nat) : Int)] := by rw [wS h' (by omega)]
    refine WR.idxN (vs := [.i x.client, .i x.seq, .i x.act, .l (dL x.args)]) i (map_at (f := Cal.g) hx) rfl rfl rfl rfl ?_
    simp only [sCA, sNA]
    refine WR.ev (ev_callOk p x hp h1 h2 (hk.ct x hm)) rfl rfl rfl ?_
    simp only [sCA, sNA]
    refine WR.iteN (callOk p x) rfl (fun b => WR.esc (WR.done (bad (by rw [hwi, b]; rfl)))) (fun b => ?_)
    rw [b, Bool.true_and] at hwi
    refine WR.iteP ((0 : Int) < (i : Int)) rfl (fun h0 => ?_) (fun h0 => ?_)
    · obtain ⟨y, hy, _⟩ := some_at (show i - 1 < c.wants.length by omega)
      rw [getD_of hy, decide_eq_false (show ¬ i = 0 by omega), Bool.false_or] at hwi
      refine WR.idxN (vs := [.i y.client, .i y.seq, .i y.act, .l (dL y.args)]) (i - 1) (map_at (f := Cal.g) hy) rfl rfl ?_ rfl ?_
      · show IntKind.i64.wrap ((i : Int) - 1) = ((i - 1 : Nat) : Int)
        rw [w64 (by omega) (by omega)]; omega
      simp only [sCA, sNA]
      refine WR.iteP (x.client ≤ y.client) rfl (fun g => WR.esc (WR.done (bad (by rw [hwi, decide_eq_false (by omega)]; rfl)))) (fun g => ?_)
      exact WR.iteN c.up rfl (fun u => WR.esc (WR.done (bad (by rw [u, Bool.and_false])))) (fun u => WR.nextA nx ⟨h', rfl, good (by rw [hwi, u, decide_eq_true (by omega)]; rfl)⟩)
    · exact WR.iteN c.up rfl (fun u => WR.esc (WR.done (bad (by rw [u, Bool.and_false])))) (fun u => WR.nextA nx ⟨h', rfl, good (by rw [hwi, u, decide_eq_true (show i = 0 by omega)]; rfl)⟩)
  · rw [show i = c.wants.length by omega] at hq
    rw [hB] at hq
    rw [hq, Bool.true_and]
    clear hB hq h' hi
    refine WR.forP c.got.length (fun i => [.i i]) (fun i => allTo i (gotI p c.base c.up c.got) = true) rfl rfl rfl fun i hi hq => ?_
    simp only [sCA, sNA]
    refine WR.iteLen i (dGs_len c.got) rfl (fun h' => ?_) (fun h' => WR.esc (WR.done ?_))
    · obtain ⟨x, hx, hm⟩ := some_at h'
      have hxf := hk.gt x hm
      have hgi : gotI p c.base c.up c.got i = ((c.up && (x.has && (keepOk p c.base i x.added && seqsOk p.n x.seqs))) || (!x.has && emp x)) := by unfold gotI; rw [getD_of hx]
      have bad : gotI p c.base c.up c.got i = false → [dB false] = [dB (allTo c.got.length (gotI p c.base c.up c.got))] := fun h => by rw [allTo_no h' h]
      have good : gotI p c.base c.up c.got i = true → allTo (i + 1) (gotI p c.base c.up c.got) = true := fun h => by rw [allTo_succ, hq, h]; rfl
      have nx : [V.i (IntKind.i64.wrap ((i : Int) + 1))] = [V.i ((i + 1 : Nat) : Int)] := by rw [wS h' (by omega)]
      have hno := ev_gotNone x
      have last : (c.up && (x.has && (keepOk p c.base i x.added && seqsOk p.n x.seqs))) = false → gotI p c.base c.up c.got i = (!x.has && emp x) := fun h => by rw [hgi, h, Bool.false_or]
      refine WR.idxN (vs := [.b x.has, .l (dL x.added), .l (dL x.seqs)]) i (map_at (f := Got.g) hx) rfl rfl rfl rfl ?_
      simp only [sCA, sNA]
      refine WR.iteB c.up rfl (fun u => ?_) (fun u => ?_)
      · refine WR.iteB x.has rfl (fun hh => ?_) (fun hh => ?_)
        · refine WR.ev (ev_iTreaty p c.base) rfl rfl rfl ?_
          refine WR.ev (ev_keepsR p.acts (catForms p.acts) (catPins p.acts) c.base p.gives i x.added (pins_len hc) hk.b hp.2.1 hps hxf.1) rfl rfl rfl ?_
          simp only [sCA, sNA]
          refine WR.iteB (keepOk p c.base i x.added) rfl (fun e => ?_) (fun e => ?_)
          · refine WR.ev (ev_seqsOk p x.seqs hxf.2) rfl rfl rfl ?_
            simp only [sCA, sNA]
            refine WR.iteN (seqsOk p.n x.seqs) rfl (fun f => ?_) (fun f => WR.nextA nx ⟨h', rfl, good (by rw [hgi, u, hh, e, f]; rfl)⟩)
            refine WR.ev hno rfl rfl rfl ?_
            exact WR.iteN (!x.has && emp x) rfl (fun g => WR.esc (WR.done (bad (by rw [last (by simp [f])]; exact g)))) (fun g => WR.nextA nx ⟨h', rfl, good (by rw [last (by simp [f])]; exact g)⟩)
          · refine WR.ev hno rfl rfl rfl ?_
            exact WR.iteN (!x.has && emp x) rfl (fun g => WR.esc (WR.done (bad (by rw [last (by simp [e])]; exact g)))) (fun g => WR.nextA nx ⟨h', rfl, good (by rw [last (by simp [e])]; exact g)⟩)
        · refine WR.ev hno rfl rfl rfl ?_
          exact WR.iteN (!x.has && emp x) rfl (fun g => WR.esc (WR.done (bad (by rw [last (by simp [hh])]; exact g)))) (fun g => WR.nextA nx ⟨h', rfl, good (by rw [last (by simp [hh])]; exact g)⟩)
      · refine WR.ev hno rfl rfl rfl ?_
        exact WR.iteN (!x.has && emp x) rfl (fun g => WR.esc (WR.done (bad (by rw [last (by simp [u])]; exact g)))) (fun g => WR.nextA nx ⟨h', rfl, good (by rw [last (by simp [u])]; exact g)⟩)
    · show [dB true] = _
      rw [show i = c.got.length by omega] at hq
      rw [hq]
theorem ev_iClkOk (p : Pln) (c : Clk) (hp : fitPln p) (hk : fitClk c) : Ev L f_k3c (p.cells ++ c.cells) [dB (clkOkP p c)] := by
  refine Ev.eq (vs := [.i p.n, .l (dActs p.acts), .l (dL p.gives), .l (dL p.start), .b c.up, .i c.round, .l (dL c.base), .l (dDs c.done), .l (dCs c.wants), .l (dGs c.got)]) L_k3c rfl ?_
  refine WR.ev (ev_iPlnOk p hp) rfl rfl rfl ?_
  refine WR.iteB (plnOk p) rfl (fun a => ?_) (fun b => WR.done (by show [dB false] = _; simp only [clkOkP, b, Bool.false_and, Bool.and_false]))
  obtain ⟨n1, n2, _⟩ := plnOk_n a
  have hc := plnOk_cat a
  refine WR.ev (ev_rulesOf p.acts hp.1) rfl rfl rfl ?_
  simp only [sCA, sNA]
  refine WR.ev (ev_clerkOk p c hp hk n1 n2 hc) rfl rfl rfl (WR.done ?_)
  show [dB (clkOk p c)] = _
  simp only [clkOkP, a, Bool.true_and]
def clkReady (p : Pln) (c : Clk) : Bool := clkOkP p c && decide (hasN c.got = p.gives.length)
theorem clkOk_len {p : Pln} {c : Clk} (h : clkOkP p c = true) : c.got.length = p.gives.length := by
  simp only [clkOkP, clkOk, Bool.and_eq_true, decide_eq_true_eq] at h
  exact h.2.2.2.2.1.1
theorem hasN_all (l : List Got) : (l.all fun g => g.has) = decide (hasN l = l.length) := by
  rw [Bool.eq_iff_iff, decide_eq_true_eq]
  unfold hasN
  rw [List.length_filter_eq_length_iff]
  simp
theorem ev_hasGot (q : Got → Bool) (l : List Got) {fn : FuncId} {caps : List D} (hlen : l.length ≤ 2000000) (hcap : oneOf (.f fn caps) = .f fn caps) (har : arT L fn = some ([some 3] ++ caps.map fun _ => none))
    (hc : ∀ x ∈ l, Ev L fn (x.cells ++ caps.map D.norm) [dB (q x)]) : Ev L f_k3e [.s (dGs l), .f fn caps] [dB (l.any q)] :=
  ev_contains (g := f_k3d) L_k3e rfl hcap
    (ev_idxFunc (sh := .g [.b, .s, .s]) (as := [(.vb (.v 3)), (.s (.v 4)), (.s (.v 5))]) (ar := [some 3]) (k := 6) Got.g q Got.cells (fun x => [.b x.has, .l (dL x.added), .l (dL x.seqs)]) l
      L_k3d rfl hlen hcap (fun _ _ => rfl) (fun _ _ => rfl) (fun _ _ _ _ => rfl) har hc)
theorem ev_ready_1 (x : Got) : Ev L f_k3f x.cells [dB (!x.has)] :=
  Ev.eq (vs := [.b x.has, .l (dL x.added), .l (dL x.seqs)]) L_k3f rfl (WR.done rfl)
theorem ev_ready (c : Clk) (hk : c.got.length ≤ 2000000) : Ev L f_k3g c.cells ([dB (decide (hasN c.got = c.got.length))] ++ c.cells) := by
  refine Ev.eq (vs := [.b c.up, .i c.round, .l (dL c.base), .l (dDs c.done), .l (dCs c.wants), .l (dGs c.got)]) L_k3g rfl ?_
  refine WR.ev (ev_hasGot (fun g => !g.has) c.got (fn := f_k3f) (caps := []) hk rfl rfl fun x _ => by simpa using ev_ready_1 x) rfl rfl rfl (WR.done ?_)
  show [dB (!(c.got.any fun g => !g.has)), _, _, _, _, _, _] = _
  rw [not_any, hasN_all]; rfl
theorem ev_iClkReady (p : Pln) (c : Clk) (hp : fitPln p) (hk : fitClk c) : Ev L f_k3h (p.cells ++ c.cells) [dB (clkReady p c)] := by
  refine Ev.eq (vs := [.i p.n, .l (dActs p.acts), .l (dL p.gives), .l (dL p.start), .b c.up, .i c.round, .l (dL c.base), .l (dDs c.done), .l (dCs c.wants), .l (dGs c.got)]) L_k3h rfl ?_
  refine WR.ev (ev_iClkOk p c hp hk) rfl rfl rfl ?_
  refine WR.iteB (clkOkP p c) rfl (fun a => ?_) (fun b => WR.done (by show [dB false] = _; simp only [clkReady, b, Bool.false_and, Bool.and_false]))
  refine WR.ev (ev_ready c hk.g) rfl rfl rfl (WR.done ?_)
  show [dB (decide (hasN c.got = c.got.length))] = _
  rw [clkOk_len a]
  simp only [clkReady, a, Bool.true_and]
end Go.Proofs.YtdibnlhlngodeaaGreatDoor

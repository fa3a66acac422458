import Derived.Test.YtohfbfgggkmibaaGreatDoorPZS
import Derived.Test.YtohfbfgggkmibaaGreatDoorPZM
set_option linter.unusedVariables false
set_option linter.unusedSimpArgs false
/- The program's MsgOk answers as the reference's: over residual programs. -/
namespace Go.Proofs.YtohfbfgggkmibaaGreatDoor
open Go Go.Tm
def em (n : Nat) : Bool := decide (n = 0)
def bareM (x : Msg) (c v s d : Bool) : Bool := (c || noneC x.call) && ((v || em x.vals.length) && ((s || em x.seqs.length) && (d || em x.done.length)))
theorem ev_l7Bare (x : Msg) (c v s d : Bool) : Ev L f_k1p (x.cells ++ [dB c,dB v,dB s,dB d]) [dB (bareM x c v s d)] := by
  refine Ev.eq (vs := [.i x.kind,.i x.to,.i x.frm,.i x.round,.i x.call.client,.i x.call.seq,.i x.call.act,.l (dL x.call.args),.l (dL x.vals),.l (dL x.seqs),.l (dDs x.done),.b c,.b v,.b s,.b d]) L_k1p rfl ?_
  have ea : decide (((dL x.call.args).length : Int) = 0) = em x.call.args.length := em_dec _ (dL_len _)
  have ev : decide (((dL x.vals).length : Int) = 0) = em x.vals.length := em_dec _ (dL_len _)
  have es : decide (((dL x.seqs).length : Int) = 0) = em x.seqs.length := em_dec _ (dL_len _)
  have ed : decide (((dDs x.done).length : Int) = 0) = em x.done.length := em_dec _ (dDs_len _)
  have hn : noneC x.call = (decide (x.call.client = 0) && (decide (x.call.seq = 0) && (decide (x.call.act = 0) && em x.call.args.length))) := rfl
  have fin : ∀ b,b = bareM x c v s d → [dB b] = [dB (bareM x c v s d)] := fun b h => by rw [h]
  have ed2 : ([dB (decide (((dDs x.done).length : Int) = 0))] : List D) = [dB (em x.done.length)] := by rw [ed]
  unfold bareM at fin ⊢
  rw [hn] at fin ⊢
  generalize em x.call.args.length = ba at *
  generalize em x.vals.length = bv at *
  generalize em x.seqs.length = bs at *
  generalize em x.done.length = bd at *
  clear hn
  generalize hb1 : decide (x.call.client = 0) = b1 at *
  generalize hb2 : decide (x.call.seq = 0) = b2 at *
  generalize hb3 : decide (x.call.act = 0) = b3 at *
  repeat' (first
    | exact WR.done (fin true (by simp only [*,Bool.and_true,Bool.or_true,Bool.true_or,Bool.and_self,Bool.or_self]))
    | exact WR.done (fin false (by simp only [*,Bool.and_false,Bool.false_and,Bool.or_self,Bool.or_false,Bool.false_or,Bool.true_and,Bool.and_true,Bool.true_or,Bool.or_true,Bool.and_self]))
    | exact WR.done (ed2.trans (fin _ (by simp only [*,Bool.or_self,Bool.or_false,Bool.false_or,Bool.true_and,Bool.and_true,Bool.true_or,Bool.or_true,Bool.and_self])))
    | refine WR.iteB c rfl (fun h => ?_) (fun h => ?_)
    | refine WR.iteB v rfl (fun h => ?_) (fun h => ?_)
    | refine WR.iteB s rfl (fun h => ?_) (fun h => ?_)
    | refine WR.iteB d rfl (fun h => ?_) (fun h => ?_)
    | refine WR.iteB ba ea (fun h => ?_) (fun h => ?_)
    | refine WR.iteB bv ev (fun h => ?_) (fun h => ?_)
    | refine WR.iteB bs es (fun h => ?_) (fun h => ?_)
    | refine WR.iteB b1 hb1 (fun h => ?_) (fun h => ?_)
    | refine WR.iteB b2 hb2 (fun h => ?_) (fun h => ?_)
    | refine WR.iteB b3 hb3 (fun h => ?_) (fun h => ?_))
def siteIn (p : Pln) (k : Int) : Bool := inB k 0 ((p.gives.length : Int) - 1)
def msgOk (p : Pln) (x : Msg) : Bool := inB x.round 0 200 && (
  if x.kind = 1 then decide (x.to = -1) && (decide (x.frm = 0) && (decide (x.round = 0) && (callOk p x.call && bareM x true false false false)))
  else if x.kind = 2 then siteIn p x.to && (decide (x.frm = 0) && bareM x false false false false)
  else if x.kind = 3 then decide (x.to = -1) && (siteIn p x.frm && (allIn 3 20000 x.vals && (seqsOk p.n x.seqs && bareM x false true true false)))
  else if x.kind = 4 then siteIn p x.to && (decide (x.frm = 0) && (valOk x.vals && (doneOk p.n x.done && bareM x false true false true)))
  else false)
theorem ev_siteL (p : Pln) (k : Int) (hp : fitPln p) : Ev L f_ko [dI k,dI 0,dI (IntKind.i64.wrap (((dL p.gives).length : Int) - 1))] [dB (siteIn p k)] := by
  rw [dL_len,len_wrap hp.2.1]
  exact ev_l1In k 0 _
theorem ev_l7Ok (p : Pln) (x : Msg) (hp : fitPln p) (h1 : 1 ≤ p.n) (h2 : p.n ≤ 4) (hx : fitMsg x) : Ev L f_k1r (p.cells ++ x.cells) [dB (msgOk p x)] := by
  refine Ev.eq (vs := [.i p.n,.l (dActs p.acts),.l (dL p.gives),.l (dL p.start),.i x.kind,.i x.to,.i x.frm,.i x.round,.i x.call.client,.i x.call.seq,.i x.call.act,.l (dL x.call.args),.l (dL x.vals),.l (dL x.seqs),.l (dDs x.done)]) L_k1r rfl ?_
  refine WR.ev (ev_l1In x.round 0 200) rfl rfl rfl ?_
  refine WR.iteN (inB x.round 0 200) rfl (fun a => WR.done (by show [dB false] = _; simp [msgOk,a])) (fun a => ?_)
  refine WR.iteP (x.kind = 1) rfl (fun k1 => ?_) (fun k1 => ?_)
  · have e : msgOk p x = (decide (x.to = -1) && (decide (x.frm = 0) && (decide (x.round = 0) && (callOk p x.call && bareM x true false false false)))) := by unfold msgOk; rw [if_pos k1,a,Bool.true_and]
    rw [e]
    refine WR.iteB (decide (x.to = -1)) rfl (fun b => ?_) (fun b => WR.done (by show [dB false] = _; simp [b]))
    refine WR.iteB (decide (x.frm = 0)) rfl (fun c => ?_) (fun b => WR.done (by show [dB false] = _; simp [b]))
    refine WR.iteB (decide (x.round = 0)) rfl (fun d => ?_) (fun b => WR.done (by show [dB false] = _; simp [b]))
    refine WR.ev (ev_l6Call p x.call hp h1 h2 hx.1) rfl rfl rfl ?_
    refine WR.iteB (callOk p x.call) rfl (fun f => ?_) (fun b => WR.done (by show [dB false] = _; simp [b]))
    refine WR.ev (ev_l7Bare x true false false false) rfl rfl rfl (WR.done ?_)
    rw [b,c,d,f]; rfl
  refine WR.iteP (x.kind = 2) rfl (fun k2 => ?_) (fun k2 => ?_)
  · have e : msgOk p x = (siteIn p x.to && (decide (x.frm = 0) && bareM x false false false false)) := by unfold msgOk; rw [if_neg k1,if_pos k2,a,Bool.true_and]
    rw [e]
    refine WR.ev (ev_siteL p x.to hp) rfl rfl rfl ?_
    refine WR.iteB (siteIn p x.to) rfl (fun b => ?_) (fun b => WR.done (by show [dB false] = _; simp [b]))
    refine WR.iteB (decide (x.frm = 0)) rfl (fun c => ?_) (fun b => WR.done (by show [dB false] = _; simp [b]))
    refine WR.ev (ev_l7Bare x false false false false) rfl rfl rfl (WR.done ?_)
    rw [b,c]; rfl
  refine WR.iteP (x.kind = 3) rfl (fun k3 => ?_) (fun k3 => ?_)
  · have e : msgOk p x = (decide (x.to = -1) && (siteIn p x.frm && (allIn 3 20000 x.vals && (seqsOk p.n x.seqs && bareM x false true true false)))) := by unfold msgOk; rw [if_neg k1,if_neg k2,if_pos k3,a,Bool.true_and]
    rw [e]
    refine WR.iteB (decide (x.to = -1)) rfl (fun b => ?_) (fun b => WR.done (by show [dB false] = _; simp [b]))
    refine WR.ev (ev_siteL p x.frm hp) rfl rfl rfl ?_
    refine WR.iteB (siteIn p x.frm) rfl (fun c => ?_) (fun b => WR.done (by show [dB false] = _; simp [b]))
    refine WR.ev (ev_l1All x.vals 3 20000 hx.2.1 (by omega) (by omega)) rfl rfl rfl ?_
    refine WR.iteB (allIn 3 20000 x.vals) rfl (fun d => ?_) (fun b => WR.done (by show [dB false] = _; simp [b]))
    refine WR.ev (ev_l7Seqs p x.seqs hx.2.2.1) rfl rfl rfl ?_
    refine WR.iteB (seqsOk p.n x.seqs) rfl (fun f => ?_) (fun b => WR.done (by show [dB false] = _; simp [b]))
    refine WR.ev (ev_l7Bare x false true true false) rfl rfl rfl (WR.done ?_)
    rw [b,c,d,f]; rfl
  refine WR.iteP (x.kind = 4) rfl (fun k4 => ?_) (fun k4 => WR.done (by show [dB false] = _; simp [msgOk,k1,k2,k3,k4]))
  have e : msgOk p x = (siteIn p x.to && (decide (x.frm = 0) && (valOk x.vals && (doneOk p.n x.done && bareM x false true false true)))) := by unfold msgOk; rw [if_neg k1,if_neg k2,if_neg k3,if_pos k4,a,Bool.true_and]
  rw [e]
  refine WR.ev (ev_siteL p x.to hp) rfl rfl rfl ?_
  refine WR.iteB (siteIn p x.to) rfl (fun b => ?_) (fun b => WR.done (by show [dB false] = _; simp [b]))
  refine WR.iteB (decide (x.frm = 0)) rfl (fun c => ?_) (fun b => WR.done (by show [dB false] = _; simp [b]))
  refine WR.ev (ev_sValOk x.vals hx.2.1) rfl rfl rfl ?_
  refine WR.iteB (valOk x.vals) rfl (fun d => ?_) (fun b => WR.done (by show [dB false] = _; simp [b]))
  refine WR.ev (ev_l6Done p x.done hx.2.2.2) rfl rfl rfl ?_
  refine WR.iteB (doneOk p.n x.done) rfl (fun f => ?_) (fun b => WR.done (by show [dB false] = _; simp [b]))
  refine WR.ev (ev_l7Bare x false true false true) rfl rfl rfl (WR.done ?_)
  rw [b,c,d,f]; rfl
theorem ev_msgOk (p : Pln) (x : Msg) (hp : fitPln p) (h1 : 1 ≤ p.n) (h2 : p.n ≤ 4) (hx : fitMsg x) : Ev L f_k46 (p.cells ++ x.cells) [dB (msgOk p x)] := by
  refine Ev.eq (vs := [.i p.n,.l (dActs p.acts),.l (dL p.gives),.l (dL p.start),.i x.kind,.i x.to,.i x.frm,.i x.round,.i x.call.client,.i x.call.seq,.i x.call.act,.l (dL x.call.args),.l (dL x.vals),.l (dL x.seqs),.l (dDs x.done)]) L_k46 rfl ?_
  have ev : decide (((dL x.vals).length : Int) = 0) = em x.vals.length := em_dec _ (dL_len _)
  have es : decide (((dL x.seqs).length : Int) = 0) = em x.seqs.length := em_dec _ (dL_len _)
  have ed : decide (((dDs x.done).length : Int) = 0) = em x.done.length := em_dec _ (dDs_len _)
  refine WR.ev (ev_noneC x.call) rfl rfl rfl ?_
  refine WR.ev (ev_in x.round 0 200) rfl rfl rfl ?_
  have z0 : x.round = 0 → inB x.round 0 200 = true := fun h => by rw [h]; rfl
  refine WR.iteP (x.kind = 1) rfl (fun k1 => ?_) (fun k1 => ?_)
  · have e : msgOk p x = (inB x.round 0 200 && (decide (x.to = -1) && (decide (x.frm = 0) && (decide (x.round = 0) && (callOk p x.call && (em x.vals.length && (em x.seqs.length && em x.done.length))))))) := by
      unfold msgOk; rw [if_pos k1]; simp only [bareM,Bool.true_or,Bool.false_or,Bool.true_and]
    rw [e]
    refine WR.ev (ev_callOk p x.call hp h1 h2 hx.1) rfl rfl rfl ?_
    refine WR.iteB (decide (x.to = -1)) rfl (fun b => ?_) (fun b => WR.done (by show [dB false] = _; simp [b]))
    refine WR.iteB (decide (x.frm = 0)) rfl (fun c => ?_) (fun b => WR.done (by show [dB false] = _; simp [b]))
    refine WR.iteB (callOk p x.call) rfl (fun f => ?_) (fun b => WR.done (by show [dB false] = _; simp [b]))
    refine WR.iteP (x.round = 0) rfl (fun d => ?_) (fun b => WR.done (by show [dB false] = _; simp [b]))
    refine WR.iteB (em x.vals.length) ev (fun g => ?_) (fun b => WR.done (by show [dB false] = _; simp [b]))
    refine WR.iteB (em x.seqs.length) es (fun h => WR.done ?_) (fun b => WR.done (by show [dB false] = _; simp [b]))
    show [dB (decide (((dDs x.done).length : Int) = 0))] = _
    rw [ed,z0 d,b,c,f,g,h,decide_eq_true d]; rfl
  refine WR.iteP (x.kind = 2) rfl (fun k2 => ?_) (fun k2 => ?_)
  · have e : msgOk p x = (inB x.round 0 200 && (siteIn p x.to && (decide (x.frm = 0) && (noneC x.call && (em x.vals.length && (em x.seqs.length && em x.done.length)))))) := by
      unfold msgOk; rw [if_neg k1,if_pos k2]; simp only [bareM,Bool.true_or,Bool.false_or,Bool.true_and]
    rw [e]
    refine WR.ev (ev_isSite p x.to hp) rfl rfl rfl ?_
    refine WR.iteB (siteIn p x.to) rfl (fun b => ?_) (fun b => WR.done (by show [dB false] = _; simp [b]))
    refine WR.iteB (decide (x.frm = 0)) rfl (fun c => ?_) (fun b => WR.done (by show [dB false] = _; simp [b]))
    refine WR.iteB (noneC x.call) rfl (fun d => ?_) (fun b => WR.done (by show [dB false] = _; simp [b]))
    refine WR.iteB (inB x.round 0 200) rfl (fun a => ?_) (fun b => WR.done (by show [dB false] = _; simp [b]))
    refine WR.iteB (em x.vals.length) ev (fun g => ?_) (fun b => WR.done (by show [dB false] = _; simp [b]))
    refine WR.iteB (em x.seqs.length) es (fun h => WR.done ?_) (fun b => WR.done (by show [dB false] = _; simp [b]))
    show [dB (decide (((dDs x.done).length : Int) = 0))] = _
    rw [ed,a,b,c,d,g,h]; rfl
  refine WR.iteP (x.kind = 3) rfl (fun k3 => ?_) (fun k3 => ?_)
  · have e : msgOk p x = (inB x.round 0 200 && (decide (x.to = -1) && (siteIn p x.frm && (addedOk x.vals && (seqsOk p.n x.seqs && (noneC x.call && em x.done.length)))))) := by
      unfold msgOk; rw [if_neg k1,if_neg k2,if_pos k3]; simp only [bareM,Bool.true_or,Bool.false_or,Bool.true_and]; rfl
    rw [e]
    refine WR.ev (ev_isSite p x.frm hp) rfl rfl rfl ?_
    refine WR.ev (ev_addedOk x.vals hx.2.1) rfl rfl rfl ?_
    refine WR.ev (ev_seqsOk p x.seqs hx.2.2.1) rfl rfl rfl ?_
    refine WR.iteB (decide (x.to = -1)) rfl (fun b => ?_) (fun b => WR.done (by show [dB false] = _; simp [b]))
    refine WR.iteB (siteIn p x.frm) rfl (fun c => ?_) (fun b => WR.done (by show [dB false] = _; simp [b]))
    refine WR.iteB (noneC x.call) rfl (fun d => ?_) (fun b => WR.done (by show [dB false] = _; simp [b]))
    refine WR.iteB (inB x.round 0 200) rfl (fun a => ?_) (fun b => WR.done (by show [dB false] = _; simp [b]))
    refine WR.iteB (addedOk x.vals) rfl (fun g => ?_) (fun b => WR.done (by show [dB false] = _; simp [b]))
    refine WR.iteB (seqsOk p.n x.seqs) rfl (fun h => WR.done ?_) (fun b => WR.done (by show [dB false] = _; simp [b]))
    show [dB (decide (((dDs x.done).length : Int) = 0))] = _
    rw [ed,a,b,c,d,g,h]; rfl
  refine WR.iteP (x.kind = 4) rfl (fun k4 => ?_) (fun k4 => WR.done (by show [dB false] = _; simp [msgOk,k1,k2,k3,k4]))
  have e : msgOk p x = (inB x.round 0 200 && (siteIn p x.to && (decide (x.frm = 0) && (valOk x.vals && (doneOk p.n x.done && (noneC x.call && em x.seqs.length)))))) := by
    unfold msgOk; rw [if_neg k1,if_neg k2,if_neg k3,if_pos k4]; simp only [bareM,Bool.true_or,Bool.false_or,Bool.true_and,Bool.and_true]
  rw [e]
  refine WR.ev (ev_isSite p x.to hp) rfl rfl rfl ?_
  refine WR.ev (ev_ValOk x.vals hx.2.1) rfl rfl rfl ?_
  refine WR.ev (ev_doneOk p x.done hx.2.2.2) rfl rfl rfl ?_
  refine WR.iteB (siteIn p x.to) rfl (fun b => ?_) (fun b => WR.done (by show [dB false] = _; simp [b]))
  refine WR.iteB (decide (x.frm = 0)) rfl (fun c => ?_) (fun b => WR.done (by show [dB false] = _; simp [b]))
  refine WR.iteB (noneC x.call) rfl (fun d => ?_) (fun b => WR.done (by show [dB false] = _; simp [b]))
  refine WR.iteB (inB x.round 0 200) rfl (fun a => ?_) (fun b => WR.done (by show [dB false] = _; simp [b]))
  refine WR.iteB (valOk x.vals) rfl (fun g => ?_) (fun b => WR.done (by show [dB false] = _; simp [b]))
  refine WR.iteB (em x.seqs.length) es (fun h => WR.done ?_) (fun b => WR.done (by show [dB false] = _; simp [b]))
  show [dB (doneOk p.n x.done)] = _
  rw [a,b,c,d,g,h]; simp
def msgOkP (p : Pln) (x : Msg) : Bool := plnOk p && msgOk p x
theorem ev_sMsgOk (p : Pln) (x : Msg) (hp : fitPln p) (hx : fitMsg x) : Ev L f_k1s (p.cells ++ x.cells) [dB (msgOkP p x)] := by
  refine Ev.eq (vs := [.i p.n,.l (dActs p.acts),.l (dL p.gives),.l (dL p.start),.i x.kind,.i x.to,.i x.frm,.i x.round,.i x.call.client,.i x.call.seq,.i x.call.act,.l (dL x.call.args),.l (dL x.vals),.l (dL x.seqs),.l (dDs x.done)]) L_k1s rfl ?_
  refine WR.ev (ev_sPlnOk p hp) rfl rfl rfl ?_
  refine WR.iteB (plnOk p) rfl (fun a => ?_) (fun a => WR.done (by show [dB false] = _; simp [msgOkP,a]))
  obtain ⟨n1,n2,_⟩ := plnOk_n a
  exact WR.ev (ev_l7Ok p x hp n1 n2 hx) rfl rfl rfl (WR.done (by show [dB (msgOk p x)] = _; simp [msgOkP,a]))
theorem ev_iMsgOk (p : Pln) (x : Msg) (hp : fitPln p) (hx : fitMsg x) : Ev L f_k47 (p.cells ++ x.cells) [dB (msgOkP p x)] := by
  refine Ev.eq (vs := [.i p.n,.l (dActs p.acts),.l (dL p.gives),.l (dL p.start),.i x.kind,.i x.to,.i x.frm,.i x.round,.i x.call.client,.i x.call.seq,.i x.call.act,.l (dL x.call.args),.l (dL x.vals),.l (dL x.seqs),.l (dDs x.done)]) L_k47 rfl ?_
  refine WR.ev (ev_iPlnOk p hp) rfl rfl rfl ?_
  refine WR.iteB (plnOk p) rfl (fun a => ?_) (fun a => WR.done (by show [dB false] = _; simp [msgOkP,a]))
  obtain ⟨n1,n2,_⟩ := plnOk_n a
  exact WR.ev (ev_msgOk p x hp n1 n2 hx) rfl rfl rfl (WR.done (by show [dB (msgOk p x)] = _; simp [msgOkP,a]))
theorem ev_eqMsgMsg (x : Msg) (hx : fitMsg x) : Ev L f_k4k (x.cells ++ x.cells) [dB true] := by
  refine Ev.eq (vs := [.i x.kind,.i x.to,.i x.frm,.i x.round,.i x.call.client,.i x.call.seq,.i x.call.act,.l (dL x.call.args),.l (dL x.vals),.l (dL x.seqs),.l (dDs x.done),.i x.kind,.i x.to,.i x.frm,.i x.round,.i x.call.client,.i x.call.seq,.i x.call.act,.l (dL x.call.args),.l (dL x.vals),.l (dL x.seqs),.l (dDs x.done)]) L_k4k rfl ?_
  have h1 := ev_eqPlnCall x.call x.call hx.1
  have h2 := ev_eqIntS x.vals x.vals hx.2.1
  have h3 := ev_eqIntS x.seqs x.seqs hx.2.2.1
  have h4 := ev_eqPlnDoneS x.done x.done hx.2.2.2.1 hx.2.2.2.2
  rw [decide_eq_true rfl] at h1 h2 h3 h4
  refine WR.iteF (by show (!decide (x.kind = x.kind)) = false; simp) ?_
  refine WR.iteF (by show (!decide (x.to = x.to)) = false; simp) ?_
  refine WR.iteF (by show (!decide (x.frm = x.frm)) = false; simp) ?_
  refine WR.iteF (by show (!decide (x.round = x.round)) = false; simp) ?_
  refine WR.ev h1 rfl rfl rfl (WR.iteF rfl ?_)
  refine WR.ev h2 rfl rfl rfl (WR.iteF rfl ?_)
  refine WR.ev h3 rfl rfl rfl (WR.iteF rfl ?_)
  exact WR.ev h4 rfl rfl rfl (WR.iteF rfl (WR.done rfl))
end Go.Proofs.YtohfbfgggkmibaaGreatDoor
/- The program's SitOk and SitFree answer as the reference's: over residual programs. -/
namespace Go.Proofs.YtohfbfgggkmibaaGreatDoor
open Go Go.Tm
theorem plnOk_cat {p : Pln} (h : plnOk p = true) : catOk p.acts = true := by
  simp only [plnOk,Bool.and_eq_true] at h
  exact h.2.1
def keepOk (p : Pln) (b : List Int) (k : Int) (a : List Int) : Bool := keeps b p.gives (catForms p.acts) k a && stillM (catPins p.acts) a
def sitOk (p : Pln) (s : Sit) (k : Int) : Bool := inB s.round 0 200 && (valOk s.base && (keepOk p s.base k s.added && doneOk p.n s.done))
def sitOkP (p : Pln) (s : Sit) (k : Int) : Bool := plnOk p && (siteIn p k && sitOk p s k)
theorem ev_l8Treaty (p : Pln) (s : Sit) : Ev L f_k1c (p.cells ++ s.cells) [.s (dL s.base),.s (dL p.gives)] :=
  Ev.eq (vs := [.i p.n,.l (dActs p.acts),.l (dL p.gives),.l (dL p.start),.b s.up,.b s.frozen,.i s.round,.l (dL s.base),.l (dL s.added),.l (dDs s.done)]) L_k1c rfl (WR.done rfl)
theorem ev_l8Ok (p : Pln) (s : Sit) (k : Int) (hp : fitPln p) (hs : fitSit s) (hc : catOk p.acts = true) :
    Ev L f_k1l (p.cells ++ [.s (dLL (catForms p.acts)),.s (dBl (catPins p.acts))] ++ s.cells ++ [dI k]) [dB (sitOk p s k)] := by
  refine Ev.eq (vs := [.i p.n,.l (dActs p.acts),.l (dL p.gives),.l (dL p.start),.l (dLL (catForms p.acts)),.l (dBl (catPins p.acts)),.b s.up,.b s.frozen,.i s.round,.l (dL s.base),.l (dL s.added),.l (dDs s.done),.i k]) L_k1l rfl ?_
  have hps : fitLL (catForms p.acts) := (catForms_fit p.acts).fitLL (by omega)
  refine WR.ev (ev_l1In s.round 0 200) rfl rfl rfl ?_
  refine WR.iteB (inB s.round 0 200) rfl (fun a => ?_) (fun b => WR.done (by show [dB false] = _; simp [sitOk,b]))
  refine WR.ev (ev_sValOk s.base hs.1) rfl rfl rfl ?_
  refine WR.iteB (valOk s.base) rfl (fun d => ?_) (fun b => WR.done (by show [dB false] = _; simp [sitOk,b]))
  refine WR.ev (ev_l8Treaty p s) rfl rfl rfl ?_
  refine WR.ev (ev_sTrtKeeps s.base p.gives (catForms p.acts) k s.added hs.1 hp.2.1 hps hs.2.1) rfl rfl rfl ?_
  simp only [sCA,sNA]
  refine WR.iteB (keeps s.base p.gives (catForms p.acts) k s.added) rfl (fun e => ?_) (fun b => WR.done (by show [dB false] = _; simp [sitOk,keepOk,b]))
  refine WR.ev (ev_l5Still (catPins p.acts) s.added (pins_len hc) (keeps_len e)) rfl rfl rfl ?_
  simp only [sCA,sNA]
  refine WR.iteB (stillM (catPins p.acts) s.added) rfl (fun f => ?_) (fun b => WR.done (by show [dB false] = _; simp [sitOk,keepOk,b]))
  refine WR.ev (ev_l6Done p s.done ⟨hs.2.2.1,hs.2.2.2⟩) rfl rfl rfl (WR.done ?_)
  show [dB (doneOk p.n s.done)] = _
  simp [sitOk,keepOk,a,d,e,f]
theorem ev_sSitOk (p : Pln) (s : Sit) (k : Int) (hp : fitPln p) (hs : fitSit s) : Ev L f_k1m (p.cells ++ s.cells ++ [dI k]) [dB (sitOkP p s k)] := by
  refine Ev.eq (vs := [.i p.n,.l (dActs p.acts),.l (dL p.gives),.l (dL p.start),.b s.up,.b s.frozen,.i s.round,.l (dL s.base),.l (dL s.added),.l (dDs s.done),.i k]) L_k1m rfl ?_
  refine WR.ev (ev_sPlnOk p hp) rfl rfl rfl ?_
  refine WR.iteN (plnOk p) rfl (fun b => WR.done (by show [dB false] = _; simp [sitOkP,b])) (fun a => ?_)
  refine WR.ev (ev_siteL p k hp) rfl rfl rfl ?_
  refine WR.iteN (siteIn p k) rfl (fun b => WR.done (by show [dB false] = _; simp [sitOkP,b])) (fun d => ?_)
  have hc := plnOk_cat a
  have e1 : (both p.acts).1 = catForms p.acts := by simp [catForms,hc]
  have e2 : (both p.acts).2 = catPins p.acts := by simp [catPins,hc]
  have eB := ev_l4Both p.acts hp.1 (catOk_len hc).2.1
  rw [e1,e2] at eB
  refine WR.ev eB rfl rfl rfl ?_
  simp only [sCA,sNA]
  refine WR.ev (ev_l8Ok p s k hp hs hc) rfl rfl rfl (WR.done ?_)
  show [dB (sitOk p s k)] = _
  simp [sitOkP,a,d]
theorem ev_siteOk (p : Pln) (s : Sit) (k : Int) (hp : fitPln p) (hs : fitSit s) (hc : catOk p.acts = true) :
    Ev L f_k3y (p.cells ++ [.s (dActs p.acts),.s (dLL (catForms p.acts)),.s (dBl (catPins p.acts))] ++ s.cells ++ [dI k]) [dB (siteIn p k && sitOk p s k)] := by
  refine Ev.eq (vs := [.i p.n,.l (dActs p.acts),.l (dL p.gives),.l (dL p.start),.l (dActs p.acts),.l (dLL (catForms p.acts)),.l (dBl (catPins p.acts)),.b s.up,.b s.frozen,.i s.round,.l (dL s.base),.l (dL s.added),.l (dDs s.done),.i k]) L_k3y rfl ?_
  have hps : fitLL (catForms p.acts) := (catForms_fit p.acts).fitLL (by omega)
  refine WR.ev (ev_isSite p k hp) rfl rfl rfl ?_
  refine WR.iteB (siteIn p k) rfl (fun g => ?_) (fun b => WR.done (by show [dB false] = _; simp [sitOk,b]))
  refine WR.ev (ev_in s.round 0 200) rfl rfl rfl ?_
  refine WR.iteB (inB s.round 0 200) rfl (fun a => ?_) (fun b => WR.done (by show [dB false] = _; simp [sitOk,b]))
  refine WR.ev (ev_ValOk s.base hs.1) rfl rfl rfl ?_
  refine WR.iteB (valOk s.base) rfl (fun d => ?_) (fun b => WR.done (by show [dB false] = _; simp [sitOk,b]))
  refine WR.ev (ev_iTreaty p s.base) rfl rfl rfl ?_
  refine WR.ev (ev_keepsR p.acts (catForms p.acts) (catPins p.acts) s.base p.gives k s.added (pins_len hc) hs.1 hp.2.1 hps hs.2.1) rfl rfl rfl ?_
  simp only [sCA,sNA]
  refine WR.iteB (keepOk p s.base k s.added) rfl (fun e => ?_) (fun b => WR.done (by show [dB false] = _; simp [sitOk,b]))
  refine WR.ev (ev_doneOk p s.done ⟨hs.2.2.1,hs.2.2.2⟩) rfl rfl rfl (WR.done ?_)
  show [dB (doneOk p.n s.done)] = _
  simp [sitOk,g,a,d,e]
theorem ev_iSitOk (p : Pln) (s : Sit) (k : Int) (hp : fitPln p) (hs : fitSit s) : Ev L f_k3z (p.cells ++ s.cells ++ [dI k]) [dB (sitOkP p s k)] := by
  refine Ev.eq (vs := [.i p.n,.l (dActs p.acts),.l (dL p.gives),.l (dL p.start),.b s.up,.b s.frozen,.i s.round,.l (dL s.base),.l (dL s.added),.l (dDs s.done),.i k]) L_k3z rfl ?_
  refine WR.ev (ev_iPlnOk p hp) rfl rfl rfl ?_
  refine WR.iteB (plnOk p) rfl (fun a => ?_) (fun b => WR.done (by show [dB false] = _; simp [sitOkP,b]))
  have hc := plnOk_cat a
  refine WR.ev (ev_rulesOf p.acts hp.1) rfl rfl rfl ?_
  simp only [sCA,sNA]
  refine WR.ev (ev_siteOk p s k hp hs hc) rfl rfl rfl (WR.done ?_)
  show [dB (siteIn p k && sitOk p s k)] = _
  simp [sitOkP,a]
end Go.Proofs.YtohfbfgggkmibaaGreatDoor
/- The program's ClkOk and ClkReady answer as the reference's: over residual programs. -/
namespace Go.Proofs.YtohfbfgggkmibaaGreatDoor
open Go Go.Tm
theorem getD_of {α : Type} {l : List α} {i : Nat} {x d : α} (h : l[i]? = some x) : l.getD i d = x := by simp [List.getD_eq_getElem?_getD,h]
end Go.Proofs.YtohfbfgggkmibaaGreatDoor
/- The program's SitFall answers as the reference's: over residual programs. -/
namespace Go.Proofs.YtohfbfgggkmibaaGreatDoor
open Go Go.Tm
theorem ev_l6CopyRes (c : Int) (l : List Int) (hl : l.length ≤ 2000000) : Ev L f_k1t [dI c,.s (dL l)] [dI c,.s (dL l)] := by
  refine Ev.eq (vs := [.i c,.l (dL l)]) L_k1t rfl ?_
  refine WR.chkN (dL l) 2000000 (by rw [dL_len]; omega) (by omega) rfl ?_
  refine WR.head (head_dL l) ?_
  exact WR.chkN (dL l) 2000000 (by rw [dL_len]; omega) (by omega) rfl (WR.done rfl)
theorem ev_l6CopyDone (l : List Don) (hl : fitL fitDon l) : Ev L f_k1u [.s (dDs l)] [.s (dDs l)] := by
  refine Ev.eq (vs := [.l (dDs l)]) L_k1u rfl ?_
  have hl0 := hl.1
  refine WR.forP l.length (fun i => [.l (dDs (l.take i)),.i i]) (fun _ => True) rfl rfl trivial fun i hi _ => ?_
  simp only [sCA,sNA]
  refine WR.iteLen i (dDs_len l) rfl (fun h => ?_) (fun h => WR.esc (WR.done ?_))
  · obtain ⟨x,hx,hm⟩ := some_at h
    have hg : (dDs l)[i]? = some x.g := map_at (f := Don.g) hx
    refine WR.idxN (vs := [.i x.seq,.i x.code,.l (dL x.tells)]) i hg rfl rfl rfl rfl ?_
    refine WR.idxN (vs := [.i x.seq,.i x.code,.l (dL x.tells)]) i hg rfl rfl rfl rfl ?_
    refine WR.ev (vs := [.i x.code,.l (dL x.tells)]) (ev_l6CopyRes x.code x.tells (hl.2 x hm)) rfl rfl rfl ?_
    simp only [sCA,sNA]
    refine WR.chkApp (dDs (l.take i)) 2000000 (by rw [dDs_len,List.length_take]; omega) (by omega) rfl ?_
    refine WR.nextA (vs := [.l (dDs (l.take (i + 1))),.i ((i + 1 : Nat) : Int)]) ?_ ⟨h,rfl,trivial⟩
    show [V.l (dDs (l.take i) ++ [x.g]),V.i (IntKind.i64.wrap ((i : Int) + 1))] = _
    rw [wS h (by omega),take_succ hx]
    simp only [dDs,List.map_append,List.map_cons,List.map_nil]
  · show [D.s (dDs (l.take i))] = _
    rw [take_all h]
theorem ev_l8Copy (s : Sit) (hs : fitSit s) : Ev L f_k1v s.cells s.cells := by
  refine Ev.eq (vs := [.b s.up,.b s.frozen,.i s.round,.l (dL s.base),.l (dL s.added),.l (dDs s.done)]) L_k1v rfl ?_
  have h1 := hs.1
  have h2 := hs.2.1
  refine WR.chkN (dL s.base) 2000000 (by rw [dL_len]; omega) (by omega) rfl ?_
  refine WR.head (head_dL s.base) ?_
  refine WR.chkN (dL s.base) 2000000 (by rw [dL_len]; omega) (by omega) rfl ?_
  refine WR.chkN (dL s.added) 2000000 (by rw [dL_len]; omega) (by omega) rfl ?_
  refine WR.head (head_dL s.added) ?_
  refine WR.chkN (dL s.added) 2000000 (by rw [dL_len]; omega) (by omega) rfl ?_
  exact WR.ev (vs := [.l (dDs s.done)]) (ev_l6CopyDone s.done ⟨hs.2.2.1,hs.2.2.2⟩) rfl rfl rfl (WR.done rfl)
theorem ev_resCopied (c : Int) (l : List Int) (hl : l.length ≤ 2000000) : Ev L f_k48 [dI c,.s (dL l)] [dI c,.s (dL l)] :=
  Ev.eq (vs := [.i c,.l (dL l)]) L_k48 rfl (WR.ev (vs := [.l (dL l)]) (ev_clone1 l hl) rfl rfl rfl (WR.done rfl))
theorem ev_dones (l : List Don) (hl : fitL fitDon l) : Ev L f_k49 [.s (dDs l)] [.s (dDs l)] := by
  refine Ev.eq (vs := [.l (dDs l)]) L_k49 rfl ?_
  have hl0 := hl.1
  refine WR.forP l.length (fun i => [.l (dDs (l.take i)),.i i]) (fun _ => True) rfl rfl trivial fun i hi _ => ?_
  simp only [sCA,sNA]
  refine WR.iteLen i (dDs_len l) rfl (fun h => ?_) (fun h => WR.esc (WR.done ?_))
  · obtain ⟨x,hx,hm⟩ := some_at h
    have hg : (dDs l)[i]? = some x.g := map_at (f := Don.g) hx
    refine WR.idxN (vs := [.i x.seq,.i x.code,.l (dL x.tells)]) i hg rfl rfl rfl rfl ?_
    refine WR.ev (vs := [.i x.code,.l (dL x.tells)]) (ev_resCopied x.code x.tells (hl.2 x hm)) rfl rfl rfl ?_
    simp only [sCA,sNA]
    refine WR.fl (flats_map dI (fun _ => rfl) x.tells) ?_
    refine WR.chkApp (dDs (l.take i)) 2000000 (by rw [dDs_len,List.length_take]; omega) (by omega) rfl ?_
    refine WR.nextA (vs := [.l (dDs (l.take (i + 1))),.i ((i + 1 : Nat) : Int)]) ?_ ⟨h,rfl,trivial⟩
    show [V.l (dDs (l.take i) ++ [x.g]),V.i (IntKind.i64.wrap ((i : Int) + 1))] = _
    rw [wS h (by omega),take_succ hx]
    simp only [dDs,List.map_append,List.map_cons,List.map_nil]
  · show [D.s (dDs (l.take i))] = _
    rw [take_all h]
theorem ev_sitCopied (s : Sit) (hs : fitSit s) : Ev L f_k4a s.cells s.cells := by
  refine Ev.eq (vs := [.b s.up,.b s.frozen,.i s.round,.l (dL s.base),.l (dL s.added),.l (dDs s.done)]) L_k4a rfl ?_
  refine WR.ev (vs := [.l (dL s.base)]) (ev_clone1 s.base hs.1) rfl rfl rfl ?_
  refine WR.ev (vs := [.l (dL s.added)]) (ev_clone1 s.added hs.2.1) rfl rfl rfl ?_
  exact WR.ev (vs := [.l (dDs s.done)]) (ev_dones s.done ⟨hs.2.2.1,hs.2.2.2⟩) rfl rfl rfl (WR.done rfl)
theorem wts_don (l : List Don) : wts Don.w l ≤ 2 * szL szDon l := by
  unfold wts szL
  induction l with
  | nil => simp
  | cons x l ih =>
    simp only [List.map_cons,List.sum_cons,List.length_cons] at ih ⊢
    have : Don.w x = 2 + szDon x := rfl
    omega
theorem wtSit_le (s : Sit) : wtSit s ≤ 2 * szSit s := by
  have := wts_don s.done
  unfold wtSit szSit; omega
theorem ev_markSitK (s : Sit) (k : Int) (hs : fitSit s) (hw : wtSit s ≤ 10000000000) (h0 : 0 ≤ k) (h1 : k ≤ 100000000000) :
    Ev L f_k4w (s.cells ++ [dI k]) [dI (k + wtSit s),.s (dL (cnt k s.base.length)),.s (dL (cnt (k + s.base.length) s.added.length)),.s (dDs (mkAll Don.w Don.mk' (k + s.base.length + s.added.length) s.done))] := by
  unfold wtSit at hw
  refine Ev.eq (vs := [.b s.up,.b s.frozen,.i s.round,.l (dL s.base),.l (dL s.added),.l (dDs s.done),.i k]) L_k4w rfl ?_
  refine WR.ev (ev_markIntS s.base k hs.1 (by omega) (by omega)) rfl rfl rfl ?_
  refine WR.ev (ev_markIntS s.added (k + s.base.length) hs.2.1 (by omega) (by omega)) rfl rfl rfl ?_
  refine WR.ev (ev_markPlnDoneS s.done (k + s.base.length + s.added.length) hs.2.2.1 hs.2.2.2 (by omega) (by omega)) rfl rfl rfl ?_
  refine WR.done ?_
  show [dI (k + s.base.length + s.added.length + wts Don.w s.done),_,_,_] = _
  rw [show k + (s.base.length : Int) + s.added.length + wts Don.w s.done = k + wtSit s by unfold wtSit; push_cast; omega]
  rfl
end Go.Proofs.YtohfbfgggkmibaaGreatDoor
/- Worlds: sizes,copies,comparisons; which of them are ok: over residual programs. -/
namespace Go.Proofs.YtohfbfgggkmibaaGreatDoor
open Go Go.Tm
structure LogD where
  call : Cal
  code : Int
  tells : List Int
  deriving DecidableEq
abbrev dSt (l : List Sit) : List D := l.map Sit.g
abbrev dCn (l : List Con) : List D := l.map Con.g
abbrev dMs (l : List Msg) : List D := l.map Msg.g
def LogD.cells (x : LogD) : List D := [dI x.call.client,dI x.call.seq,dI x.call.act,.s (dL x.call.args),dI x.code,.s (dL x.tells)]
def LogD.g (x : LogD) : D := .g x.cells
abbrev dLg (l : List LogD) : List D := l.map LogD.g
theorem ev_eqMsgMsgS (a : List Msg) (hl : fitL fitMsg a) : Ev L f_k4l [.s (dMs a),.s (dMs a)] [dB true] :=
  ev_selfC (g := f_k4k) (sh := .g [.i .i64,.i .i64,.i .i64,.i .i64,.i .i64,.i .i64,.i .i64,.s,.s,.s,.s]) (as := [(.vi .i64 (.v 3)),(.vi .i64 (.v 4)),(.vi .i64 (.v 5)),(.vi .i64 (.v 6)),(.vi .i64 (.v 7)),(.vi .i64 (.v 8)),(.vi .i64 (.v 9)),(.s (.v 10)),(.s (.v 11)),(.s (.v 12)),(.s (.v 13)),(.vi .i64 (.v 14)),(.vi .i64 (.v 15)),(.vi .i64 (.v 16)),(.vi .i64 (.v 17)),(.vi .i64 (.v 18)),(.vi .i64 (.v 19)),(.vi .i64 (.v 20)),(.s (.v 21)),(.s (.v 22)),(.s (.v 23)),(.s (.v 24))]) (k1 := 14) (k2 := 25)
    Msg.g (fun x => [.i x.kind,.i x.to,.i x.frm,.i x.round,.i x.call.client,.i x.call.seq,.i x.call.act,.l (dL x.call.args),.l (dL x.vals),.l (dL x.seqs),.l (dDs x.done)]) Msg.cells a L_k4l rfl (fun _ => rfl) (fun _ => rfl) (fun _ => rfl) (fun _ _ _ _ _ => rfl) (fun x hx => ev_eqMsgMsg x (hl.2 x hx)) hl.1
structure Wrl where
  p : Pln
  sites : List Sit
  c : Clk
  cons : List Con
  net : List Msg
  log : List LogD
def Wrl.cells (w : Wrl) : List D := w.p.cells ++ [.s (dSt w.sites)] ++ w.c.cells ++ [.s (dCn w.cons),.s (dMs w.net),.s (dLg w.log)]
end Go.Proofs.YtohfbfgggkmibaaGreatDoor

import Derived.Test.YtohfbfgggkmibaaGreatDoorPZS
set_option linter.unusedVariables false
set_option linter.unusedSimpArgs false
/- The program's MsgOk answers as the reference's: over residual programs. -/
namespace Go.Proofs.YtohfbfgggkmibaaGreatDoor
open Go Go.Tm
def em (n : Nat) : Bool := decide (n = 0)
def bareM (x : Msg) (c v s d : Bool) : Bool := (c || noneC x.call) && ((v || em x.vals.length) && ((s || em x.seqs.length) && (d || em x.done.length)))
theorem ev_l7Bare (x : Msg) (c v s d : Bool) : Ev L f_k2c (x.cells ++ [dB c,dB v,dB s,dB d]) [dB (bareM x c v s d)] := by
  refine Ev.eq (vs := [.i x.kind,.i x.to,.i x.frm,.i x.round,.i x.call.client,.i x.call.seq,.i x.call.act,.l (dL x.call.args),.l (dL x.vals),.l (dL x.seqs),.l (dDs x.done),.b c,.b v,.b s,.b d]) L_k2c rfl ?_
  have ea : decide (((dL x.call.args).length : Int) = 0) = em x.call.args.length := em_dec _ (dL_len _)
  have ev : decide (((dL x.vals).length : Int) = 0) = em x.vals.length := em_dec _ (dL_len _)
  have es : decide (((dL x.seqs).length : Int) = 0) = em x.seqs.length := em_dec _ (dL_len _)
  have ed : decide (((dDs x.done).length : Int) = 0) = em x.done.length := em_dec _ (dDs_len _)
  have hn : noneC x.call = (decide (x.call.client = 0) && (decide (x.call.seq = 0) && (decide (x.call.act = 0) && em x.call.args.length))) := rfl
  have fin : ∀ b,b = bareM x c v s d → [dB b] = [dB (bareM x c v s d)] := fun b h => by rw [h]
  have ed2 : ([dB (decide (((dDs x.done).length : Int) = 0))] : List D) = [dB (em x.done.length)] := by rw [ed]
  unfold bareM at fin ⊢
  rw [hn] at fin ⊢
  generalize em x.call.args.length = ba at *
  generalize em x.vals.length = bv at *
  generalize em x.seqs.length = bs at *
  generalize em x.done.length = bd at *
  clear hn
  generalize hb1 : decide (x.call.client = 0) = b1 at *
  generalize hb2 : decide (x.call.seq = 0) = b2 at *
  generalize hb3 : decide (x.call.act = 0) = b3 at *
  repeat' (first
    | exact WR.done (fin true (by simp only [*,Bool.and_true,Bool.or_true,Bool.true_or,Bool.and_self,Bool.or_self]))
    | exact WR.done (fin false (by simp only [*,Bool.and_false,Bool.false_and,Bool.or_self,Bool.or_false,Bool.false_or,Bool.true_and,Bool.and_true,Bool.true_or,Bool.or_true,Bool.and_self]))
    | exact WR.done (ed2.trans (fin _ (by simp only [*,Bool.or_self,Bool.or_false,Bool.false_or,Bool.true_and,Bool.and_true,Bool.true_or,Bool.or_true,Bool.and_self])))
    | refine WR.iteB c rfl (fun h => ?_) (fun h => ?_)
    | refine WR.iteB v rfl (fun h => ?_) (fun h => ?_)
    | refine WR.iteB s rfl (fun h => ?_) (fun h => ?_)
    | refine WR.iteB d rfl (fun h => ?_) (fun h => ?_)
    | refine WR.iteB ba ea (fun h => ?_) (fun h => ?_)
    | refine WR.iteB bv ev (fun h => ?_) (fun h => ?_)
    | refine WR.iteB bs es (fun h => ?_) (fun h => ?_)
    | refine WR.iteB b1 hb1 (fun h => ?_) (fun h => ?_)
    | refine WR.iteB b2 hb2 (fun h => ?_) (fun h => ?_)
    | refine WR.iteB b3 hb3 (fun h => ?_) (fun h => ?_))
def siteIn (p : Pln) (k : Int) : Bool := inB k 0 ((p.gives.length : Int) - 1)
def msgOk (p : Pln) (x : Msg) : Bool := inB x.round 0 200 && (
  if x.kind = 1 then decide (x.to = -1) && (decide (x.frm = 0) && (decide (x.round = 0) && (callOk p x.call && bareM x true false false false)))
  else if x.kind = 2 then siteIn p x.to && (decide (x.frm = 0) && bareM x false false false false)
  else if x.kind = 3 then decide (x.to = -1) && (siteIn p x.frm && (allIn 3 20000 x.vals && (seqsOk p.n x.seqs && bareM x false true true false)))
  else if x.kind = 4 then siteIn p x.to && (decide (x.frm = 0) && (valOk x.vals && (doneOk p.n x.done && bareM x false true false true)))
  else false)
theorem ev_siteL (p : Pln) (k : Int) (hp : fitPln p) : Ev L f_k1a [dI k,dI 0,dI (IntKind.i64.wrap (((dL p.gives).length : Int) - 1))] [dB (siteIn p k)] := by
  rw [dL_len,len_wrap hp.2.1]
  exact ev_l1In k 0 _
theorem ev_l7Ok (p : Pln) (x : Msg) (hp : fitPln p) (h1 : 1 ≤ p.n) (h2 : p.n ≤ 4) (hx : fitMsg x) : Ev L f_k2e (p.cells ++ x.cells) [dB (msgOk p x)] := by
  refine Ev.eq (vs := [.i p.n,.l (dActs p.acts),.l (dL p.gives),.l (dL p.start),.i x.kind,.i x.to,.i x.frm,.i x.round,.i x.call.client,.i x.call.seq,.i x.call.act,.l (dL x.call.args),.l (dL x.vals),.l (dL x.seqs),.l (dDs x.done)]) L_k2e rfl ?_
  refine WR.ev (ev_l1In x.round 0 200) rfl rfl rfl ?_
  refine WR.iteN (inB x.round 0 200) rfl (fun a => WR.done (by show [dB false] = _; simp [msgOk,a])) (fun a => ?_)
  refine WR.iteP (x.kind = 1) rfl (fun k1 => ?_) (fun k1 => ?_)
  · have e : msgOk p x = (decide (x.to = -1) && (decide (x.frm = 0) && (decide (x.round = 0) && (callOk p x.call && bareM x true false false false)))) := by unfold msgOk; rw [if_pos k1,a,Bool.true_and]
    rw [e]
    refine WR.iteB (decide (x.to = -1)) rfl (fun b => ?_) (fun b => WR.done (by show [dB false] = _; simp [b]))
    refine WR.iteB (decide (x.frm = 0)) rfl (fun c => ?_) (fun b => WR.done (by show [dB false] = _; simp [b]))
    refine WR.iteB (decide (x.round = 0)) rfl (fun d => ?_) (fun b => WR.done (by show [dB false] = _; simp [b]))
    refine WR.ev (ev_l6Call p x.call hp h1 h2 hx.1) rfl rfl rfl ?_
    refine WR.iteB (callOk p x.call) rfl (fun f => ?_) (fun b => WR.done (by show [dB false] = _; simp [b]))
    refine WR.ev (ev_l7Bare x true false false false) rfl rfl rfl (WR.done ?_)
    rw [b,c,d,f]; rfl
  refine WR.iteP (x.kind = 2) rfl (fun k2 => ?_) (fun k2 => ?_)
  · have e : msgOk p x = (siteIn p x.to && (decide (x.frm = 0) && bareM x false false false false)) := by unfold msgOk; rw [if_neg k1,if_pos k2,a,Bool.true_and]
    rw [e]
    refine WR.ev (ev_siteL p x.to hp) rfl rfl rfl ?_
    refine WR.iteB (siteIn p x.to) rfl (fun b => ?_) (fun b => WR.done (by show [dB false] = _; simp [b]))
    refine WR.iteB (decide (x.frm = 0)) rfl (fun c => ?_) (fun b => WR.done (by show [dB false] = _; simp [b]))
    refine WR.ev (ev_l7Bare x false false false false) rfl rfl rfl (WR.done ?_)
    rw [b,c]; rfl
  refine WR.iteP (x.kind = 3) rfl (fun k3 => ?_) (fun k3 => ?_)
  · have e : msgOk p x = (decide (x.to = -1) && (siteIn p x.frm && (allIn 3 20000 x.vals && (seqsOk p.n x.seqs && bareM x false true true false)))) := by unfold msgOk; rw [if_neg k1,if_neg k2,if_pos k3,a,Bool.true_and]
    rw [e]
    refine WR.iteB (decide (x.to = -1)) rfl (fun b => ?_) (fun b => WR.done (by show [dB false] = _; simp [b]))
    refine WR.ev (ev_siteL p x.frm hp) rfl rfl rfl ?_
    refine WR.iteB (siteIn p x.frm) rfl (fun c => ?_) (fun b => WR.done (by show [dB false] = _; simp [b]))
    refine WR.ev (ev_l1All x.vals 3 20000 hx.2.1 (by omega) (by omega)) rfl rfl rfl ?_
    refine WR.iteB (allIn 3 20000 x.vals) rfl (fun d => ?_) (fun b => WR.done (by show [dB false] = _; simp [b]))
    refine WR.ev (ev_l7Seqs p x.seqs hx.2.2.1) rfl rfl rfl ?_
    refine WR.iteB (seqsOk p.n x.seqs) rfl (fun f => ?_) (fun b => WR.done (by show [dB false] = _; simp [b]))
    refine WR.ev (ev_l7Bare x false true true false) rfl rfl rfl (WR.done ?_)
    rw [b,c,d,f]; rfl
  refine WR.iteP (x.kind = 4) rfl (fun k4 => ?_) (fun k4 => WR.done (by show [dB false] = _; simp [msgOk,k1,k2,k3,k4]))
  have e : msgOk p x = (siteIn p x.to && (decide (x.frm = 0) && (valOk x.vals && (doneOk p.n x.done && bareM x false true false true)))) := by unfold msgOk; rw [if_neg k1,if_neg k2,if_neg k3,if_pos k4,a,Bool.true_and]
  rw [e]
  refine WR.ev (ev_siteL p x.to hp) rfl rfl rfl ?_
  refine WR.iteB (siteIn p x.to) rfl (fun b => ?_) (fun b => WR.done (by show [dB false] = _; simp [b]))
  refine WR.iteB (decide (x.frm = 0)) rfl (fun c => ?_) (fun b => WR.done (by show [dB false] = _; simp [b]))
  refine WR.ev (ev_sValOk x.vals hx.2.1) rfl rfl rfl ?_
  refine WR.iteB (valOk x.vals) rfl (fun d => ?_) (fun b => WR.done (by show [dB false] = _; simp [b]))
  refine WR.ev (ev_l6Done p x.done hx.2.2.2) rfl rfl rfl ?_
  refine WR.iteB (doneOk p.n x.done) rfl (fun f => ?_) (fun b => WR.done (by show [dB false] = _; simp [b]))
  refine WR.ev (ev_l7Bare x false true false true) rfl rfl rfl (WR.done ?_)
  rw [b,c,d,f]; rfl
theorem ev_msgOk (p : Pln) (x : Msg) (hp : fitPln p) (h1 : 1 ≤ p.n) (h2 : p.n ≤ 4) (hx : fitMsg x) : Ev L f_k4x (p.cells ++ x.cells) [dB (msgOk p x)] := by
  refine Ev.eq (vs := [.i p.n,.l (dActs p.acts),.l (dL p.gives),.l (dL p.start),.i x.kind,.i x.to,.i x.frm,.i x.round,.i x.call.client,.i x.call.seq,.i x.call.act,.l (dL x.call.args),.l (dL x.vals),.l (dL x.seqs),.l (dDs x.done)]) L_k4x rfl ?_
  have ev : decide (((dL x.vals).length : Int) = 0) = em x.vals.length := em_dec _ (dL_len _)
  have es : decide (((dL x.seqs).length : Int) = 0) = em x.seqs.length := em_dec _ (dL_len _)
  have ed : decide (((dDs x.done).length : Int) = 0) = em x.done.length := em_dec _ (dDs_len _)
  refine WR.ev (ev_noneC x.call) rfl rfl rfl ?_
  refine WR.ev (ev_in x.round 0 200) rfl rfl rfl ?_
  have z0 : x.round = 0 → inB x.round 0 200 = true := fun h => by rw [h]; rfl
  refine WR.iteP (x.kind = 1) rfl (fun k1 => ?_) (fun k1 => ?_)
  · have e : msgOk p x = (inB x.round 0 200 && (decide (x.to = -1) && (decide (x.frm = 0) && (decide (x.round = 0) && (callOk p x.call && (em x.vals.length && (em x.seqs.length && em x.done.length))))))) := by
      unfold msgOk; rw [if_pos k1]; simp only [bareM,Bool.true_or,Bool.false_or,Bool.true_and]
    rw [e]
    refine WR.ev (ev_callOk p x.call hp h1 h2 hx.1) rfl rfl rfl ?_
    refine WR.iteB (decide (x.to = -1)) rfl (fun b => ?_) (fun b => WR.done (by show [dB false] = _; simp [b]))
    refine WR.iteB (decide (x.frm = 0)) rfl (fun c => ?_) (fun b => WR.done (by show [dB false] = _; simp [b]))
    refine WR.iteB (callOk p x.call) rfl (fun f => ?_) (fun b => WR.done (by show [dB false] = _; simp [b]))
    refine WR.iteP (x.round = 0) rfl (fun d => ?_) (fun b => WR.done (by show [dB false] = _; simp [b]))
    refine WR.iteB (em x.vals.length) ev (fun g => ?_) (fun b => WR.done (by show [dB false] = _; simp [b]))
    refine WR.iteB (em x.seqs.length) es (fun h => WR.done ?_) (fun b => WR.done (by show [dB false] = _; simp [b]))
    show [dB (decide (((dDs x.done).length : Int) = 0))] = _
    rw [ed,z0 d,b,c,f,g,h,decide_eq_true d]; rfl
  refine WR.iteP (x.kind = 2) rfl (fun k2 => ?_) (fun k2 => ?_)
  · have e : msgOk p x = (inB x.round 0 200 && (siteIn p x.to && (decide (x.frm = 0) && (noneC x.call && (em x.vals.length && (em x.seqs.length && em x.done.length)))))) := by
      unfold msgOk; rw [if_neg k1,if_pos k2]; simp only [bareM,Bool.true_or,Bool.false_or,Bool.true_and]
    rw [e]
    refine WR.ev (ev_isSite p x.to hp) rfl rfl rfl ?_
    refine WR.iteB (siteIn p x.to) rfl (fun b => ?_) (fun b => WR.done (by show [dB false] = _; simp [b]))
    refine WR.iteB (decide (x.frm = 0)) rfl (fun c => ?_) (fun b => WR.done (by show [dB false] = _; simp [b]))
    refine WR.iteB (noneC x.call) rfl (fun d => ?_) (fun b => WR.done (by show [dB false] = _; simp [b]))
    refine WR.iteB (inB x.round 0 200) rfl (fun a => ?_) (fun b => WR.done (by show [dB false] = _; simp [b]))
    refine WR.iteB (em x.vals.length) ev (fun g => ?_) (fun b => WR.done (by show [dB false] = _; simp [b]))
    refine WR.iteB (em x.seqs.length) es (fun h => WR.done ?_) (fun b => WR.done (by show [dB false] = _; simp [b]))
    show [dB (decide (((dDs x.done).length : Int) = 0))] = _
    rw [ed,a,b,c,d,g,h]; rfl
  refine WR.iteP (x.kind = 3) rfl (fun k3 => ?_) (fun k3 => ?_)
  · have e : msgOk p x = (inB x.round 0 200 && (decide (x.to = -1) && (siteIn p x.frm && (addedOk x.vals && (seqsOk p.n x.seqs && (noneC x.call && em x.done.length)))))) := by
      unfold msgOk; rw [if_neg k1,if_neg k2,if_pos k3]; simp only [bareM,Bool.true_or,Bool.false_or,Bool.true_and]; rfl
    rw [e]
    refine WR.ev (ev_isSite p x.frm hp) rfl rfl rfl ?_
    refine WR.ev (ev_addedOk x.vals hx.2.1) rfl rfl rfl ?_
    refine WR.ev (ev_seqsOk p x.seqs hx.2.2.1) rfl rfl rfl ?_
    refine WR.iteB (decide (x.to = -1)) rfl (fun b => ?_) (fun b => WR.done (by show [dB false] = _; simp [b]))
    refine WR.iteB (siteIn p x.frm) rfl (fun c => ?_) (fun b => WR.done (by show [dB false] = _; simp [b]))
    refine WR.iteB (noneC x.call) rfl (fun d => ?_) (fun b => WR.done (by show [dB false] = _; simp [b]))
    refine WR.iteB (inB x.round 0 200) rfl (fun a => ?_) (fun b => WR.done (by show [dB false] = _; simp [b]))
    refine WR.iteB (addedOk x.vals) rfl (fun g => ?_) (fun b => WR.done (by show [dB false] = _; simp [b]))
    refine WR.iteB (seqsOk p.n x.seqs) rfl (fun h => WR.done ?_) (fun b => WR.done (by show [dB false] = _; simp [b]))
    show [dB (decide (((dDs x.done).length : Int) = 0))] = _
    rw [ed,a,b,c,d,g,h]; rfl
  refine WR.iteP (x.kind = 4) rfl (fun k4 => ?_) (fun k4 => WR.done (by show [dB false] = _; simp [msgOk,k1,k2,k3,k4]))
  have e : msgOk p x = (inB x.round 0 200 && (siteIn p x.to && (decide (x.frm = 0) && (valOk x.vals && (doneOk p.n x.done && (noneC x.call && em x.seqs.length)))))) := by
    unfold msgOk; rw [if_neg k1,if_neg k2,if_neg k3,if_pos k4]; simp only [bareM,Bool.true_or,Bool.false_or,Bool.true_and,Bool.and_true]
  rw [e]
  refine WR.ev (ev_isSite p x.to hp) rfl rfl rfl ?_
  refine WR.ev (ev_ValOk x.vals hx.2.1) rfl rfl rfl ?_
  refine WR.ev (ev_doneOk p x.done hx.2.2.2) rfl rfl rfl ?_
  refine WR.iteB (siteIn p x.to) rfl (fun b => ?_) (fun b => WR.done (by show [dB false] = _; simp [b]))
  refine WR.iteB (decide (x.frm = 0)) rfl (fun c => ?_) (fun b => WR.done (by show [dB false] = _; simp [b]))
  refine WR.iteB (noneC x.call) rfl (fun d => ?_) (fun b => WR.done (by show [dB false] = _; simp [b]))
  refine WR.iteB (inB x.round 0 200) rfl (fun a => ?_) (fun b => WR.done (by show [dB false] = _; simp [b]))
  refine WR.iteB (valOk x.vals) rfl (fun g => ?_) (fun b => WR.done (by show [dB false] = _; simp [b]))
  refine WR.iteB (em x.seqs.length) es (fun h => WR.done ?_) (fun b => WR.done (by show [dB false] = _; simp [b]))
  show [dB (doneOk p.n x.done)] = _
  rw [a,b,c,d,g,h]; simp
theorem ev_eqMsgMsg (x : Msg) (hx : fitMsg x) : Ev L f_k5k (x.cells ++ x.cells) [dB true] := by
  refine Ev.eq (vs := [.i x.kind,.i x.to,.i x.frm,.i x.round,.i x.call.client,.i x.call.seq,.i x.call.act,.l (dL x.call.args),.l (dL x.vals),.l (dL x.seqs),.l (dDs x.done),.i x.kind,.i x.to,.i x.frm,.i x.round,.i x.call.client,.i x.call.seq,.i x.call.act,.l (dL x.call.args),.l (dL x.vals),.l (dL x.seqs),.l (dDs x.done)]) L_k5k rfl ?_
  have h1 := ev_eqPlnCall x.call x.call hx.1
  have h2 := ev_eqIntS x.vals x.vals hx.2.1
  have h3 := ev_eqIntS x.seqs x.seqs hx.2.2.1
  have h4 := ev_eqPlnDoneS x.done x.done hx.2.2.2.1 hx.2.2.2.2
  rw [decide_eq_true rfl] at h1 h2 h3 h4
  refine WR.iteF (by show (!decide (x.kind = x.kind)) = false; simp) ?_
  refine WR.iteF (by show (!decide (x.to = x.to)) = false; simp) ?_
  refine WR.iteF (by show (!decide (x.frm = x.frm)) = false; simp) ?_
  refine WR.iteF (by show (!decide (x.round = x.round)) = false; simp) ?_
  refine WR.ev h1 rfl rfl rfl (WR.iteF rfl ?_)
  refine WR.ev h2 rfl rfl rfl (WR.iteF rfl ?_)
  refine WR.ev h3 rfl rfl rfl (WR.iteF rfl ?_)
  exact WR.ev h4 rfl rfl rfl (WR.iteF rfl (WR.done rfl))
end Go.Proofs.YtohfbfgggkmibaaGreatDoor

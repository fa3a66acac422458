import Derived.Test.YtdibnlhlngodeaaGreatDoorPZT
import Derived.Test.YtdibnlhlngodeaaGreatDoorPZI
set_option linter.unusedVariables false
set_option linter.unusedSimpArgs false
/- The program's SitOk and SitFree answer as the reference's: over residual programs. -/
namespace Go.Proofs.YtdibnlhlngodeaaGreatDoor
open Go Go.Tm
theorem plnOk_cat {p : Pln} (h : plnOk p = true) : catOk p.acts = true := by
  simp only [plnOk, Bool.and_eq_true] at h
  exact h.2.1
def keepOk (p : Pln) (b : List Int) (k : Int) (a : List Int) : Bool := keeps b p.gives (catForms p.acts) k a && stillM (catPins p.acts) a
def sitOk (p : Pln) (s : Sit) (k : Int) : Bool := inB s.round 0 200 && (valOk s.base && (keepOk p s.base k s.added && doneOk p.n s.done))
def sitOkP (p : Pln) (s : Sit) (k : Int) : Bool := plnOk p && (siteIn p k && sitOk p s k)
theorem ev_l8Treaty (p : Pln) (s : Sit) : Ev L f_k1a (p.cells ++ s.cells) [.s (dL s.base), .s (dL p.gives)] :=
  Ev.eq (vs := [.i p.n, .l (dActs p.acts), .l (dL p.gives), .l (dL p.start), .b s.up, .b s.frozen, .i s.round, .l (dL s.base), .l (dL s.added), .l (dDs s.done)]) L_k1a rfl (WR.done rfl)
theorem ev_l8Ok (p : Pln) (s : Sit) (k : Int) (hp : fitPln p) (hs : fitSit s) (hc : catOk p.acts = true) :
    Ev L f_k1j (p.cells ++ [.s (dLL (catForms p.acts)), .s (dBl (catPins p.acts))] ++ s.cells ++ [dI k]) [dB (sitOk p s k)] := by
  refine Ev.eq (vs := [.i p.n, .l (dActs p.acts), .l (dL p.gives), .l (dL p.start), .l (dLL (catForms p.acts)), .l (dBl (catPins p.acts)), .b s.up, .b s.frozen, .i s.round, .l (dL s.base), .l (dL s.added), .l (dDs s.done), .i k]) L_k1j rfl ?_
  have hps : fitLL (catForms p.acts) := (catForms_fit p.acts).fitLL (by omega)
  refine WR.ev (ev_l1In s.round 0 200) rfl rfl rfl ?_
  refine WR.iteB (inB s.round 0 200) rfl (fun a => ?_) (fun b => WR.done (by show [dB false] = _; simp [sitOk, b]))
  refine WR.ev (ev_sValOk s.base hs.1) rfl rfl rfl ?_
  refine WR.iteB (valOk s.base) rfl (fun d => ?_) (fun b => WR.done (by show [dB false] = _; simp [sitOk, b]))
  refine WR.ev (ev_l8Treaty p s) rfl rfl rfl ?_
  refine WR.ev (ev_sTrtKeeps s.base p.gives (catForms p.acts) k s.added hs.1 hp.2.1 hps hs.2.1) rfl rfl rfl ?_
  simp only [sCA, sNA]
  refine WR.iteB (keeps s.base p.gives (catForms p.acts) k s.added) rfl (fun e => ?_) (fun b => WR.done (by show [dB false] = _; simp [sitOk, keepOk, b]))
  refine WR.ev (ev_l5Still (catPins p.acts) s.added (pins_len hc) (keeps_len e)) rfl rfl rfl ?_
  simp only [sCA, sNA]
  refine WR.iteB (stillM (catPins p.acts) s.added) rfl (fun f => ?_) (fun b => WR.done (by show [dB false] = _; simp [sitOk, keepOk, b]))
  refine WR.ev (ev_l6Done p s.done ⟨hs.2.2.1, hs.2.2.2⟩) rfl rfl rfl (WR.done ?_)
  show [dB (doneOk p.n s.done)] = _
  simp [sitOk, keepOk, a, d, e, f]
theorem ev_sSitOk (p : Pln) (s : Sit) (k : Int) (hp : fitPln p) (hs : fitSit s) : Ev L f_k1k (p.cells ++ s.cells ++ [dI k]) [dB (sitOkP p s k)] := by
  refine Ev.eq (vs := [.i p.n, .l (dActs p.acts), .l (dL p.gives), .l (dL p.start), .b s.up, .b s.frozen, .i s.round, .l (dL s.base), .l (dL s.added), .l (dDs s.done), .i k]) L_k1k rfl ?_
  refine WR.ev (ev_sPlnOk p hp) rfl rfl rfl ?_
  refine WR.iteN (plnOk p) rfl (fun b => WR.done (by show [dB false] = _; simp [sitOkP, b])) (fun a => ?_)
  refine WR.ev (ev_siteL p k hp) rfl rfl rfl ?_
  refine WR.iteN (siteIn p k) rfl (fun b => WR.done (by show [dB false] = _; simp [sitOkP, b])) (fun d => ?_)
  have hc := plnOk_cat a
  have e1 : (both p.acts).1 = catForms p.acts := by simp [catForms, hc]
  have e2 : (both p.acts).2 = catPins p.acts := by simp [catPins, hc]
  have eB := ev_l4Both p.acts hp.1 (catOk_len hc).2.1
  rw [e1, e2] at eB
  refine WR.ev eB rfl rfl rfl ?_
  simp only [sCA, sNA]
  refine WR.ev (ev_l8Ok p s k hp hs hc) rfl rfl rfl (WR.done ?_)
  show [dB (sitOk p s k)] = _
  simp [sitOkP, a, d]
theorem ev_siteOk (p : Pln) (s : Sit) (k : Int) (hp : fitPln p) (hs : fitSit s) (hc : catOk p.acts = true) :
    Ev L f_k3y (p.cells ++ [.s (dActs p.acts), .s (dLL (catForms p.acts)), .s (dBl (catPins p.acts))] ++ s.cells ++ [dI k]) [dB (siteIn p k && sitOk p s k)] := by
  refine Ev.eq (vs := [.i p.n, .l (dActs p.acts), .l (dL p.gives), .l (dL p.start), .l (dActs p.acts), .l (dLL (catForms p.acts)), .l (dBl (catPins p.acts)), .b s.up, .b s.frozen, .i s.round, .l (dL s.base), .l (dL s.added), .l (dDs s.done), .i k]) L_k3y rfl ?_
  have hps : fitLL (catForms p.acts) := (catForms_fit p.acts).fitLL (by omega)
  refine WR.ev (ev_isSite p k hp) rfl rfl rfl ?_
  refine WR.iteB (siteIn p k) rfl (fun g => ?_) (fun b => WR.done (by show [dB false] = _; simp [sitOk, b]))
  refine WR.ev (ev_in s.round 0 200) rfl rfl rfl ?_
  refine WR.iteB (inB s.round 0 200) rfl (fun a => ?_) (fun b => WR.done (by show [dB false] = _; simp [sitOk, b]))
  refine WR.ev (ev_ValOk s.base hs.1) rfl rfl rfl ?_
  refine WR.iteB (valOk s.base) rfl (fun d => ?_) (fun b => WR.done (by show [dB false] = _; simp [sitOk, b]))
  refine WR.ev (ev_iTreaty p s.base) rfl rfl rfl ?_
  refine WR.ev (ev_keepsR p.acts (catForms p.acts) (catPins p.acts) s.base p.gives k s.added (pins_len hc) hs.1 hp.2.1 hps hs.2.1) rfl rfl rfl ?_
  simp only [sCA, sNA]
  refine WR.iteB (keepOk p s.base k s.added) rfl (fun e => ?_) (fun b => WR.done (by show [dB false] = _; simp [sitOk, b]))
  refine WR.ev (ev_doneOk p s.done ⟨hs.2.2.1, hs.2.2.2⟩) rfl rfl rfl (WR.done ?_)
  show [dB (doneOk p.n s.done)] = _
  simp [sitOk, g, a, d, e]
theorem ev_iSitOk (p : Pln) (s : Sit) (k : Int) (hp : fitPln p) (hs : fitSit s) : Ev L f_k3z (p.cells ++ s.cells ++ [dI k]) [dB (sitOkP p s k)] := by
  refine Ev.eq (vs := [.i p.n, .l (dActs p.acts), .l (dL p.gives), .l (dL p.start), .b s.up, .b s.frozen, .i s.round, .l (dL s.base), .l (dL s.added), .l (dDs s.done), .i k]) L_k3z rfl ?_
  refine WR.ev (ev_iPlnOk p hp) rfl rfl rfl ?_
  refine WR.iteB (plnOk p) rfl (fun a => ?_) (fun b => WR.done (by show [dB false] = _; simp [sitOkP, b]))
  have hc := plnOk_cat a
  refine WR.ev (ev_rulesOf p.acts hp.1) rfl rfl rfl ?_
  simp only [sCA, sNA]
  refine WR.ev (ev_siteOk p s k hp hs hc) rfl rfl rfl (WR.done ?_)
  show [dB (siteIn p k && sitOk p s k)] = _
  simp [sitOkP, a]
theorem ev_sCallOk (p : Pln) (c : Cal) (hp : fitPln p) (hc : fitCal c) : Ev L f_k1n (p.cells ++ c.cells) [dB (plnOk p && callOk p c)] := by
  refine Ev.eq (vs := [.i p.n, .l (dActs p.acts), .l (dL p.gives), .l (dL p.start), .i c.client, .i c.seq, .i c.act, .l (dL c.args)]) L_k1n rfl ?_
  refine WR.ev (ev_sPlnOk p hp) rfl rfl rfl ?_
  refine WR.iteB (plnOk p) rfl (fun a => ?_) (fun b => WR.done (by show [dB false] = _; simp [callOk, b]))
  obtain ⟨n1, n2, _⟩ := plnOk_n a
  exact WR.ev (ev_l6Call p c hp n1 n2 hc) rfl rfl rfl (WR.done (by rw [a]; rfl))
theorem ev_iCallOk (p : Pln) (c : Cal) (hp : fitPln p) (hc : fitCal c) : Ev L f_k43 (p.cells ++ c.cells) [dB (plnOk p && callOk p c)] := by
  refine Ev.eq (vs := [.i p.n, .l (dActs p.acts), .l (dL p.gives), .l (dL p.start), .i c.client, .i c.seq, .i c.act, .l (dL c.args)]) L_k43 rfl ?_
  refine WR.ev (ev_iPlnOk p hp) rfl rfl rfl ?_
  refine WR.iteB (plnOk p) rfl (fun a => ?_) (fun b => WR.done (by show [dB false] = _; simp [callOk, b]))
  obtain ⟨n1, n2, _⟩ := plnOk_n a
  exact WR.ev (ev_callOk p c hp n1 n2 hc) rfl rfl rfl (WR.done (by rw [a]; rfl))
def sitFree (p : Pln) (s : Sit) (k : Int) (c : Cal) : Bool := sitOkP p s k && ((plnOk p && callOk p c) && (s.up && (!s.frozen && (locM p.acts s.base p.gives k s.added c.act c.args).ok)))
theorem ev_alone (p : Pln) (s : Sit) (k : Int) (c : Cal) (hp : fitPln p) (hs : fitSit s) (hc : fitCal c) :
    Ev L f_k4d (s.cells ++ p.cells ++ [dI k] ++ c.cells) ((locM p.acts s.base p.gives k s.added c.act c.args).ds ++ s.cells) := by
  refine Ev.eq (vs := [.b s.up, .b s.frozen, .i s.round, .l (dL s.base), .l (dL s.added), .l (dDs s.done), .i p.n, .l (dActs p.acts), .l (dL p.gives), .l (dL p.start), .i k, .i c.client, .i c.seq, .i c.act, .l (dL c.args)]) L_k4d rfl ?_
  refine WR.ev (ev_iTreaty p s.base) rfl rfl rfl ?_
  simp only [sCA, sNA]
  refine WR.ev (ev_iLocTry p.acts s.base p.gives k s.added c.act c.args hp.1 hs.1 hp.2.1 hs.2.1 hc) rfl rfl rfl (WR.done rfl)
theorem ev_sSitFree (p : Pln) (s : Sit) (k : Int) (c : Cal) (hp : fitPln p) (hs : fitSit s) (hc : fitCal c) : Ev L f_k1y (p.cells ++ s.cells ++ [dI k] ++ c.cells) [dB (sitFree p s k c)] := by
  refine Ev.eq (vs := [.i p.n, .l (dActs p.acts), .l (dL p.gives), .l (dL p.start), .b s.up, .b s.frozen, .i s.round, .l (dL s.base), .l (dL s.added), .l (dDs s.done), .i k, .i c.client, .i c.seq, .i c.act, .l (dL c.args)]) L_k1y rfl ?_
  refine WR.ev (ev_sSitOk p s k hp hs) rfl rfl rfl ?_
  refine WR.iteN (sitOkP p s k) rfl (fun b => WR.done (by show [dB false] = _; simp [sitFree, b])) (fun a => ?_)
  refine WR.ev (ev_sCallOk p c hp hc) rfl rfl rfl ?_
  refine WR.iteN (plnOk p && callOk p c) rfl (fun b => WR.done (by show [dB false] = _; simp only [sitFree, b, Bool.false_and, Bool.and_false])) (fun d => ?_)
  refine WR.iteN s.up rfl (fun b => WR.done (by show [dB false] = _; simp [sitFree, b])) (fun e => ?_)
  refine WR.iteB s.frozen rfl (fun b => WR.done (by show [dB false] = _; simp [sitFree, b])) (fun f => ?_)
  refine WR.ev (ev_l8Treaty p s) rfl rfl rfl ?_
  simp only [sCA, sNA]
  refine WR.ev (ev_sLocTry p.acts s.base p.gives k s.added c.act c.args hp.1 hs.1 hp.2.1 hs.2.1 hc) rfl rfl rfl (WR.done ?_)
  show [dB (locM p.acts s.base p.gives k s.added c.act c.args).ok] = _
  simp only [sitFree, a, d, e, f, Bool.true_and, Bool.not_false]
theorem ev_iSitFree (p : Pln) (s : Sit) (k : Int) (c : Cal) (hp : fitPln p) (hs : fitSit s) (hc : fitCal c) : Ev L f_k4e (p.cells ++ s.cells ++ [dI k] ++ c.cells) [dB (sitFree p s k c)] := by
  refine Ev.eq (vs := [.i p.n, .l (dActs p.acts), .l (dL p.gives), .l (dL p.start), .b s.up, .b s.frozen, .i s.round, .l (dL s.base), .l (dL s.added), .l (dDs s.done), .i k, .i c.client, .i c.seq, .i c.act, .l (dL c.args)]) L_k4e rfl ?_
  refine WR.ev (ev_iSitOk p s k hp hs) rfl rfl rfl ?_
  refine WR.iteN (sitOkP p s k) rfl (fun b => WR.done (by show [dB false] = _; simp [sitFree, b])) (fun a => ?_)
  refine WR.ev (ev_iCallOk p c hp hc) rfl rfl rfl ?_
  refine WR.iteN (plnOk p && callOk p c) rfl (fun b => WR.done (by show [dB false] = _; simp only [sitFree, b, Bool.false_and, Bool.and_false])) (fun d => ?_)
  refine WR.iteN s.up rfl (fun b => WR.done (by show [dB false] = _; simp [sitFree, b])) (fun e => ?_)
  refine WR.iteB s.frozen rfl (fun b => WR.done (by show [dB false] = _; simp [sitFree, b])) (fun f => ?_)
  refine WR.ev (ev_alone p s k c hp hs hc) rfl rfl rfl (WR.done ?_)
  show [dB (locM p.acts s.base p.gives k s.added c.act c.args).ok] = _
  simp only [sitFree, a, d, e, f, Bool.true_and, Bool.not_false]
theorem ev_FnExactSitFree (p : Pln) (s : Sit) (k : Int) (c : Cal) (hb : bigPln p) (hbs : bigSit s) (hbc : bigCal c) : Ev L f_k4q (p.cells ++ s.cells ++ [dI k] ++ c.cells) [dB true] := by
  refine Ev.eq (vs := [.i p.n, .l (dActs p.acts), .l (dL p.gives), .l (dL p.start), .b s.up, .b s.frozen, .i s.round, .l (dL s.base), .l (dL s.added), .l (dDs s.done), .i k, .i c.client, .i c.seq, .i c.act, .l (dL c.args)]) L_k4q rfl ?_
  refine WR.ev (ev_szPlnPlan p 1048576 hb (by omega) (by omega)) rfl rfl rfl ?_
  have hr := dec_room (left := 1048576) (n := szPln p) (by omega) (by omega)
  refine WR.iteP (dec 1048576 (szPln p) < 0) rfl (fun _ => WR.done rfl) (fun h => ?_)
  have hsz : szPln p ≤ 1048576 := by have := dec_le h; omega
  have hf : fitPln p := fitPln_of hsz
  have hto := ev_toPlnPlan p hf
  refine WR.ev (ev_szSitSite s (dec 1048576 (szPln p)) hbs (by omega) (by omega)) rfl rfl rfl ?_
  simp only [sCA, sNA]
  have hrs := dec_room (left := (dec 1048576 (szPln p))) (n := szSit s) (by omega) (by omega)
  refine WR.iteP (dec (dec 1048576 (szPln p)) (szSit s) < 0) rfl (fun _ => WR.done rfl) (fun hs => ?_)
  have hfs : fitSit s := fitSit_of (by have := dec_le hs; omega)
  have htos := ev_toSitSite s hfs
  refine WR.ev (ev_szPlnCall c (dec (dec 1048576 (szPln p)) (szSit s)) hbc (by omega) (by omega)) rfl rfl rfl ?_
  simp only [sCA, sNA]
  have hrc := dec_room (left := (dec (dec 1048576 (szPln p)) (szSit s))) (n := szCal c) (by omega) (by omega)
  refine WR.iteP (dec (dec (dec 1048576 (szPln p)) (szSit s)) (szCal c) < 0) rfl (fun _ => WR.done rfl) (fun hc => ?_)
  have hfc : fitCal c := fitCal_of (by have := dec_le hc; omega)
  have htoc := ev_toPlnCall c hfc
  have hs := ev_sSitFree p s k c hf hfs hfc
  have hi := ev_iSitFree p s k c hf hfs hfc
  generalize sitFree p s k c = m at *
  refine WR.ev (vs := [.i p.n, .l (dActs p.acts), .l (dL p.gives), .l (dL p.start)]) hto rfl rfl rfl ?_
  simp only [sCA, sNA]
  refine WR.ev (vs := [.b s.up, .b s.frozen, .i s.round, .l (dL s.base), .l (dL s.added), .l (dDs s.done)]) htos rfl rfl rfl ?_
  simp only [sCA, sNA]
  refine WR.ev (vs := [.i c.client, .i c.seq, .i c.act, .l (dL c.args)]) htoc rfl rfl rfl ?_
  simp only [sCA, sNA]
  refine WR.ev hs rfl rfl rfl ?_
  simp only [sCA, sNA]
  refine WR.ev (vs := [.i p.n, .l (dActs p.acts), .l (dL p.gives), .l (dL p.start)]) hto rfl rfl rfl ?_
  simp only [sCA, sNA]
  refine WR.ev (vs := [.b s.up, .b s.frozen, .i s.round, .l (dL s.base), .l (dL s.added), .l (dDs s.done)]) htos rfl rfl rfl ?_
  simp only [sCA, sNA]
  refine WR.ev (vs := [.i c.client, .i c.seq, .i c.act, .l (dL c.args)]) htoc rfl rfl rfl ?_
  simp only [sCA, sNA]
  refine WR.ev hi rfl rfl rfl ?_
  simp only [sCA, sNA]
  refine WR.iteF (by show (!(m == m)) = false; simp) ?_
  refine WR.ev (vs := [.i p.n, .l (dActs p.acts), .l (dL p.gives), .l (dL p.start)]) hto rfl rfl rfl ?_
  simp only [sCA, sNA]
  refine WR.ev (ev_eqPlnPlan p hf) rfl rfl rfl (WR.iteF rfl ?_)
  simp only [sCA, sNA]
  refine WR.ev (vs := [.b s.up, .b s.frozen, .i s.round, .l (dL s.base), .l (dL s.added), .l (dDs s.done)]) htos rfl rfl rfl ?_
  simp only [sCA, sNA]
  refine WR.ev (ev_eqSitSite s hfs) rfl rfl rfl (WR.iteF rfl ?_)
  simp only [sCA, sNA]
  have heqc := ev_eqPlnCall c c hfc
  rw [decide_eq_true rfl] at heqc
  refine WR.ev (vs := [.i c.client, .i c.seq, .i c.act, .l (dL c.args)]) htoc rfl rfl rfl ?_
  simp only [sCA, sNA]
  refine WR.ev heqc rfl rfl rfl (WR.iteF rfl ?_)
  simp only [sCA, sNA]
  exact WR.done rfl
theorem arg_FnExactSitFree (dss : List (List D)) (h : TySs [tyPlan, tySit, .i .i64, tyCal] dss) : ∃ ls, flattenD [.g [.i .i64, .s, .s, .s], .g [.b, .b, .i .i64, .s, .s, .s], .one (.i .i64), .g [.i .i64, .i .i64, .i .i64, .s]] (argsS [tyPlan, tySit, .i .i64, tyCal] dss) = some ls ∧ Ev L f_k4q ls [dB true] := by
  obtain ⟨ds, _, rfl, h1, es, _, rfl, h2, fs, _, rfl, ⟨k, rfl⟩, gs, _, rfl, h3, rfl⟩ := h
  obtain ⟨p, rfl, hp⟩ := plan_of h1
  obtain ⟨s, rfl, hs⟩ := sit_of h2
  obtain ⟨c, rfl, hc⟩ := cal_of h3
  exact ⟨_, rfl, ev_FnExactSitFree p s k c hp hs hc⟩
end Go.Proofs.YtdibnlhlngodeaaGreatDoor

import Derived.Test.YtdibnlhlngodeaaGreatDoorPZT
import Derived.Test.YtdibnlhlngodeaaGreatDoorPZI
set_option linter.unusedVariables false
set_option linter.unusedSimpArgs false
/- The program's SitOk and SitFree answer as the reference's: over residual programs. -/
namespace Go.Proofs.YtdibnlhlngodeaaGreatDoor
open Go Go.Tm
theorem plnOk_cat {p : Pln} (h : plnOk p = true) : catOk p.acts = true := by
  simp only [plnOk, Bool.and_eq_true] at h
  exact h.2.1
def keepOk (p : Pln) (b : List Int) (k : Int) (a : List Int) : Bool := keeps b p.gives (catForms p.acts) k a && stillM (catPins p.acts) a
def sitOk (p : Pln) (s : Sit) (k : Int) : Bool := inB s.round 0 200 && (valOk s.base && (keepOk p s.base k s.added && doneOk p.n s.done))
def sitOkP (p : Pln) (s : Sit) (k : Int) : Bool := plnOk p && (siteIn p k && sitOk p s k)
theorem ev_l8Treaty (p : Pln) (s : Sit) : Ev L f_k18 (p.cells ++ s.cells) [.s (dL s.base), .s (dL p.gives)] :=
  Ev.eq (vs := [.i p.n, .l (dActs p.acts), .l (dL p.gives), .l (dL p.start), .b s.up, .b s.frozen, .i s.round, .l (dL s.base), .l (dL s.added), .l (dDs s.done)]) L_k18 rfl (WR.done rfl)
theorem ev_l8Ok (p : Pln) (s : Sit) (k : Int) (hp : fitPln p) (hs : fitSit s) (hc : catOk p.acts = true) :
    Ev L f_k1h (p.cells ++ [.s (dLL (catForms p.acts)), .s (dBl (catPins p.acts))] ++ s.cells ++ [dI k]) [dB (sitOk p s k)] := by
  refine Ev.eq (vs := [.i p.n, .l (dActs p.acts), .l (dL p.gives), .l (dL p.start), .l (dLL (catForms p.acts)), .l (dBl (catPins p.acts)), .b s.up, .b s.frozen, .i s.round, .l (dL s.base), .l (dL s.added), .l (dDs s.done), .i k]) L_k1h rfl ?_
  have hps : fitLL (catForms p.acts) := (catForms_fit p.acts).fitLL (by omega)
  refine WR.ev (ev_l1In s.round 0 200) rfl rfl rfl ?_
  refine WR.iteB (inB s.round 0 200) rfl (fun a => ?_) (fun b => WR.done (by show [dB false] = _; simp [sitOk, b]))
  refine WR.ev (ev_sValOk s.base hs.1) rfl rfl rfl ?_
  refine WR.iteB (valOk s.base) rfl (fun d => ?_) (fun b => WR.done (by show [dB false] = _; simp [sitOk, b]))
  refine WR.ev (ev_l8Treaty p s) rfl rfl rfl ?_
  refine WR.ev (ev_sTrtKeeps s.base p.gives (catForms p.acts) k s.added hs.1 hp.2.1 hps hs.2.1) rfl rfl rfl ?_
  simp only [sCA, sNA]
  refine WR.iteB (keeps s.base p.gives (catForms p.acts) k s.added) rfl (fun e => ?_) (fun b => WR.done (by show [dB false] = _; simp [sitOk, keepOk, b]))
  refine WR.ev (ev_l5Still (catPins p.acts) s.added (pins_len hc) (keeps_len e)) rfl rfl rfl ?_
  simp only [sCA, sNA]
  refine WR.iteB (stillM (catPins p.acts) s.added) rfl (fun f => ?_) (fun b => WR.done (by show [dB false] = _; simp [sitOk, keepOk, b]))
  refine WR.ev (ev_l6Done p s.done ⟨hs.2.2.1, hs.2.2.2⟩) rfl rfl rfl (WR.done ?_)
  show [dB (doneOk p.n s.done)] = _
  simp [sitOk, keepOk, a, d, e, f]
theorem ev_sSitOk (p : Pln) (s : Sit) (k : Int) (hp : fitPln p) (hs : fitSit s) : Ev L f_k1i (p.cells ++ s.cells ++ [dI k]) [dB (sitOkP p s k)] := by
  refine Ev.eq (vs := [.i p.n, .l (dActs p.acts), .l (dL p.gives), .l (dL p.start), .b s.up, .b s.frozen, .i s.round, .l (dL s.base), .l (dL s.added), .l (dDs s.done), .i k]) L_k1i rfl ?_
  refine WR.ev (ev_sPlnOk p hp) rfl rfl rfl ?_
  refine WR.iteN (plnOk p) rfl (fun b => WR.done (by show [dB false] = _; simp [sitOkP, b])) (fun a => ?_)
  refine WR.ev (ev_siteL p k hp) rfl rfl rfl ?_
  refine WR.iteN (siteIn p k) rfl (fun b => WR.done (by show [dB false] = _; simp [sitOkP, b])) (fun d => ?_)
  have hc := plnOk_cat a
  have e1 : (both p.acts).1 = catForms p.acts := by simp [catForms, hc]
  have e2 : (both p.acts).2 = catPins p.acts := by simp [catPins, hc]
  have eB := ev_l4Both p.acts hp.1 (catOk_len hc).2.1
  rw [e1, e2] at eB
  refine WR.ev eB rfl rfl rfl ?_
  simp only [sCA, sNA]
  refine WR.ev (ev_l8Ok p s k hp hs hc) rfl rfl rfl (WR.done ?_)
  show [dB (sitOk p s k)] = _
  simp [sitOkP, a, d]
theorem ev_siteOk (p : Pln) (s : Sit) (k : Int) (hp : fitPln p) (hs : fitSit s) (hc : catOk p.acts = true) :
    Ev L f_k3m (p.cells ++ [.s (dActs p.acts), .s (dLL (catForms p.acts)), .s (dBl (catPins p.acts))] ++ s.cells ++ [dI k]) [dB (siteIn p k && sitOk p s k)] := by
  refine Ev.eq (vs := [.i p.n, .l (dActs p.acts), .l (dL p.gives), .l (dL p.start), .l (dActs p.acts), .l (dLL (catForms p.acts)), .l (dBl (catPins p.acts)), .b s.up, .b s.frozen, .i s.round, .l (dL s.base), .l (dL s.added), .l (dDs s.done), .i k]) L_k3m rfl ?_
  have hps : fitLL (catForms p.acts) := (catForms_fit p.acts).fitLL (by omega)
  refine WR.ev (ev_isSite p k hp) rfl rfl rfl ?_
  refine WR.iteB (siteIn p k) rfl (fun g => ?_) (fun b => WR.done (by show [dB false] = _; simp [sitOk, b]))
  refine WR.ev (ev_in s.round 0 200) rfl rfl rfl ?_
  refine WR.iteB (inB s.round 0 200) rfl (fun a => ?_) (fun b => WR.done (by show [dB false] = _; simp [sitOk, b]))
  refine WR.ev (ev_ValOk s.base hs.1) rfl rfl rfl ?_
  refine WR.iteB (valOk s.base) rfl (fun d => ?_) (fun b => WR.done (by show [dB false] = _; simp [sitOk, b]))
  refine WR.ev (ev_iTreaty p s.base) rfl rfl rfl ?_
  refine WR.ev (ev_keepsR p.acts (catForms p.acts) (catPins p.acts) s.base p.gives k s.added (pins_len hc) hs.1 hp.2.1 hps hs.2.1) rfl rfl rfl ?_
  simp only [sCA, sNA]
  refine WR.iteB (keepOk p s.base k s.added) rfl (fun e => ?_) (fun b => WR.done (by show [dB false] = _; simp [sitOk, b]))
  refine WR.ev (ev_doneOk p s.done ⟨hs.2.2.1, hs.2.2.2⟩) rfl rfl rfl (WR.done ?_)
  show [dB (doneOk p.n s.done)] = _
  simp [sitOk, g, a, d, e]
theorem ev_iSitOk (p : Pln) (s : Sit) (k : Int) (hp : fitPln p) (hs : fitSit s) : Ev L f_k3n (p.cells ++ s.cells ++ [dI k]) [dB (sitOkP p s k)] := by
  refine Ev.eq (vs := [.i p.n, .l (dActs p.acts), .l (dL p.gives), .l (dL p.start), .b s.up, .b s.frozen, .i s.round, .l (dL s.base), .l (dL s.added), .l (dDs s.done), .i k]) L_k3n rfl ?_
  refine WR.ev (ev_iPlnOk p hp) rfl rfl rfl ?_
  refine WR.iteB (plnOk p) rfl (fun a => ?_) (fun b => WR.done (by show [dB false] = _; simp [sitOkP, b]))
  have hc := plnOk_cat a
  refine WR.ev (ev_rulesOf p.acts hp.1) rfl rfl rfl ?_
  simp only [sCA, sNA]
  refine WR.ev (ev_siteOk p s k hp hs hc) rfl rfl rfl (WR.done ?_)
  show [dB (siteIn p k && sitOk p s k)] = _
  simp [sitOkP, a]
end Go.Proofs.YtdibnlhlngodeaaGreatDoor

import Derived.Test.YtdibnlhlngodeaaGreatDoorPZF
import Derived.Test.YtdibnlhlngodeaaGreatDoorPK
import Derived.Test.YtdibnlhlngodeaaGreatDoorPL
import Derived.Test.YtdibnlhlngodeaaGreatDoorPN
set_option linter.unusedVariables false
set_option linter.unusedSimpArgs false
/- The program's SitNew and ClkNew answer as the reference's: over residual programs. -/
namespace Go.Proofs.YtdibnlhlngodeaaGreatDoor
open Go Go.Tm
structure Pln where
  n : Int
  acts : List (List Line)
  gives : List Int
  start : List Int
  deriving DecidableEq
def Pln.cells (p : Pln) : List D := [dI p.n, .s (dActs p.acts), .s (dL p.gives), .s (dL p.start)]
def fitPln (p : Pln) : Prop := fitActs p.acts ∧ p.gives.length ≤ 2000000 ∧ p.start.length ≤ 2000000
def bigPln (p : Pln) : Prop := bigAs p.acts ∧ p.gives.length ≤ 9223372036854775807 ∧ p.start.length ≤ 9223372036854775807
def szPln (p : Pln) : Nat := szAs p.acts + p.gives.length + p.start.length
def wtPln (p : Pln) : Nat := wtAs p.acts + p.gives.length + p.start.length
theorem fitPln_of {p : Pln} (h : szPln p ≤ 1048576) : fitPln p := by
  unfold szPln at h
  exact ⟨fitActs_of (by omega), by omega, by omega⟩
theorem ev_toPlnPlan (p : Pln) (hp : fitPln p) : Ev L f_kf p.cells p.cells := by
  refine Ev.eq (vs := [.i p.n, .l (dActs p.acts), .l (dL p.gives), .l (dL p.start)]) L_kf rfl ?_
  refine WR.ev (ev_toActLineSS p.acts hp.1) rfl rfl rfl ?_
  refine WR.ev (ev_toIntS p.gives hp.2.1) rfl rfl rfl ?_
  refine WR.ev (ev_toIntS p.start hp.2.2) rfl rfl rfl ?_
  exact WR.done rfl
theorem ev_eqPlnPlan (p : Pln) (hp : fitPln p) : Ev L f_k41 (p.cells ++ p.cells) [dB true] := by
  refine Ev.eq (vs := [.i p.n, .l (dActs p.acts), .l (dL p.gives), .l (dL p.start), .i p.n, .l (dActs p.acts), .l (dL p.gives), .l (dL p.start)]) L_k41 rfl ?_
  have h1 := ev_eqActLineSS p.acts p.acts hp.1
  have h2 := ev_eqIntS p.gives p.gives hp.2.1
  have h3 := ev_eqIntS p.start p.start hp.2.2
  rw [decide_eq_true rfl] at h1 h2 h3
  refine WR.iteF (by show (!decide (p.n = p.n)) = false; simp) ?_
  refine WR.ev h1 rfl rfl rfl (WR.iteF rfl ?_)
  refine WR.ev h2 rfl rfl rfl (WR.iteF rfl ?_)
  exact WR.ev h3 rfl rfl rfl (WR.iteF rfl (WR.done rfl))
theorem ev_szPlnPlan (p : Pln) (left : Int) (hp : bigPln p) (h0 : 0 ≤ left) (h1 : left ≤ 1048576) : Ev L f_k5 (p.cells ++ [dI left]) [dI (dec left (szPln p))] := by
  refine Ev.eq (vs := [.i p.n, .l (dActs p.acts), .l (dL p.gives), .l (dL p.start), .i left]) L_k5 rfl ?_
  refine WR.ev (ev_szActLineSS p.acts left hp.1 h0 h1) rfl rfl rfl ?_
  have hr := dec_room (n := szAs p.acts) h0 h1
  refine WR.iteP (dec left (szAs p.acts) < 0) rfl (fun h => WR.done ?_) (fun h => ?_)
  · show [dI (-1)] = _
    rw [szPln, Nat.add_assoc, dec_lt h h0]
  refine WR.ev (ev_szIntS p.gives (dec left (szAs p.acts)) hp.2.1 (by omega) (by omega)) rfl rfl rfl ?_
  have hr2 := dec_room (n := szAs p.acts + p.gives.length) h0 h1
  rw [dec_dec h]
  refine WR.iteP (dec left (szAs p.acts + p.gives.length) < 0) rfl (fun h => WR.done ?_) (fun h => ?_)
  · show [dI (-1)] = _
    rw [szPln, dec_lt h h0]
  refine WR.ev (ev_szIntS p.start (dec left (szAs p.acts + p.gives.length)) hp.2.2 (by omega) (by omega)) rfl rfl rfl ?_
  rw [dec_dec h]
  have hr3 := dec_room (n := szAs p.acts + p.gives.length + p.start.length) h0 h1
  refine WR.iteP (dec left (szAs p.acts + p.gives.length + p.start.length) < 0) rfl (fun h => WR.done ?_) (fun h => WR.done rfl)
  show [dI (-1)] = _
  rw [szPln, show dec left (szAs p.acts + p.gives.length + p.start.length) = -1 by omega]
theorem ev_markPlnPlan (p : Pln) (hp : fitPln p) (hw : wtPln p ≤ 10000000000) : ∃ es, Ev L f_k45 (p.cells ++ [dI 1]) [dI (1 + wtPln p), .s es, .s (dL (cnt (1 + wtAs p.acts) p.gives.length)), .s (dL (cnt (1 + wtAs p.acts + p.gives.length) p.start.length))] := by
  unfold wtPln at hw
  obtain ⟨ds, hmk, es, rfl, hes⟩ := ev_markActLineSS p.acts hp.1 1 (by omega) (by omega)
  refine ⟨es, Ev.eq (vs := [.i p.n, .l (dActs p.acts), .l (dL p.gives), .l (dL p.start), .i 1]) L_k45 rfl ?_⟩
  refine WR.ev (vs := [.i (1 + wtAs p.acts), .l es]) hmk rfl rfl rfl ?_
  refine WR.ev (vs := [.i (1 + wtAs p.acts + p.gives.length), .l (dL (cnt (1 + wtAs p.acts) p.gives.length))]) (ev_markIntS p.gives (1 + wtAs p.acts) hp.2.1 (by omega) (by omega)) rfl rfl rfl ?_
  refine WR.ev (vs := [.i (1 + wtAs p.acts + p.gives.length + p.start.length), .l (dL (cnt (1 + wtAs p.acts + p.gives.length) p.start.length))]) (ev_markIntS p.start (1 + wtAs p.acts + p.gives.length) hp.2.2 (by omega) (by omega)) rfl rfl rfl ?_
  refine WR.done ?_
  show [dI (1 + wtAs p.acts + p.gives.length + p.start.length), D.s es, _, _] = _
  rw [show (1 : Int) + wtAs p.acts + p.gives.length + p.start.length = 1 + wtPln p by unfold wtPln; push_cast; omega]
  rfl
def plnOk (p : Pln) : Bool := inB p.n 1 4 && (catOk p.acts && (allIn 3 1000 p.start && trtOk p.start p.gives))
theorem ev_sPlnOk (p : Pln) (hp : fitPln p) : Ev L f_ks p.cells [dB (plnOk p)] := by
  refine Ev.eq (vs := [.i p.n, .l (dActs p.acts), .l (dL p.gives), .l (dL p.start)]) L_ks rfl ?_
  refine WR.ev (ev_l1In p.n 1 4) rfl rfl rfl ?_
  refine WR.iteB (inB p.n 1 4) rfl (fun h1 => ?_) (fun h1 => WR.done (by show [dB false] = _; simp [plnOk, h1]))
  refine WR.ev (ev_CatOk p.acts hp.1) rfl rfl rfl ?_
  refine WR.iteB (catOk p.acts) rfl (fun h2 => ?_) (fun h2 => WR.done (by show [dB false] = _; simp [plnOk, h2]))
  refine WR.ev (ev_l1All p.start 3 1000 hp.2.2 (by omega) (by omega)) rfl rfl rfl ?_
  refine WR.iteB (allIn 3 1000 p.start) rfl (fun h3 => ?_) (fun h3 => WR.done (by show [dB false] = _; simp [plnOk, h3]))
  refine WR.ev (ev_sTrtOk p.start p.gives hp.2.2 hp.2.1) rfl rfl rfl (WR.done ?_)
  show [dB (trtOk p.start p.gives)] = _
  simp [plnOk, h1, h2, h3]
theorem ev_iTreaty (p : Pln) (b : List Int) : Ev L f_k21 (p.cells ++ [.s (dL b)]) [.s (dL b), .s (dL p.gives)] :=
  Ev.eq (vs := [.i p.n, .l (dActs p.acts), .l (dL p.gives), .l (dL p.start), .l (dL b)]) L_k21 rfl (WR.done rfl)
theorem ev_iPlnOk (p : Pln) (hp : fitPln p) : Ev L f_k25 p.cells [dB (plnOk p)] := by
  refine Ev.eq (vs := [.i p.n, .l (dActs p.acts), .l (dL p.gives), .l (dL p.start)]) L_k25 rfl ?_
  refine WR.ev (ev_in p.n 1 4) rfl rfl rfl ?_
  refine WR.iteB (inB p.n 1 4) rfl (fun h1 => ?_) (fun h1 => WR.done (by show [dB false] = _; simp [plnOk, h1]))
  refine WR.ev (ev_iCatOk p.acts hp.1) rfl rfl rfl ?_
  refine WR.iteB (catOk p.acts) rfl (fun h2 => ?_) (fun h2 => WR.done (by show [dB false] = _; simp [plnOk, h2]))
  refine WR.ev (ev_within p.start 3 1000 hp.2.2 (by omega) (by omega)) rfl rfl rfl ?_
  refine WR.iteB (allIn 3 1000 p.start) rfl (fun h3 => ?_) (fun h3 => WR.done (by show [dB false] = _; simp [plnOk, h3]))
  refine WR.ev (ev_iTreaty p p.start) rfl rfl rfl ?_
  refine WR.ev (ev_TrtOk p.start p.gives hp.2.2 hp.2.1) rfl rfl rfl (WR.done ?_)
  show [dB (trtOk p.start p.gives)] = _
  simp [plnOk, h1, h2, h3]
theorem ev_eqResResult (a b : Int) (c d : List Int) (hl : c.length ≤ 2000000) : Ev L f_k3t [dI a, .s (dL c), dI b, .s (dL d)] [dB (decide (a = b) && decide (c = d))] := by
  refine Ev.eq (vs := [.i a, .l (dL c), .i b, .l (dL d)]) L_k3t rfl ?_
  refine WR.iteN (decide (a = b)) rfl (fun h => WR.done (by show [dB false] = _; rw [h]; rfl)) (fun h => ?_)
  refine WR.ev (ev_eqIntS c d hl) rfl rfl rfl ?_
  refine WR.iteN (decide (c = d)) rfl (fun h2 => WR.done (by show [dB false] = _; rw [h, h2]; rfl)) (fun h2 => WR.done (by show [dB true] = _; rw [h, h2]; rfl))
theorem ev_eqPlnDone (a b : Don) (hl : a.tells.length ≤ 2000000) : Ev L f_k3u (a.cells ++ b.cells) [dB (decide (a = b))] := by
  refine Ev.eq (vs := [.i a.seq, .i a.code, .l (dL a.tells), .i b.seq, .i b.code, .l (dL b.tells)]) L_k3u rfl ?_
  have e : decide (a = b) = (decide (a.seq = b.seq) && (decide (a.code = b.code) && decide (a.tells = b.tells))) := by
    obtain ⟨a1, a2, a3⟩ := a
    obtain ⟨b1, b2, b3⟩ := b
    simp only [Don.mk.injEq]
    by_cases h1 : a1 = b1 <;> by_cases h2 : a2 = b2 <;> by_cases h3 : a3 = b3 <;> simp [h1, h2, h3]
  rw [e]
  refine WR.iteN (decide (a.seq = b.seq)) rfl (fun h => WR.done (by show [dB false] = _; rw [h]; rfl)) (fun h => ?_)
  refine WR.ev (ev_eqResResult a.code b.code a.tells b.tells hl) rfl rfl rfl ?_
  refine WR.iteN (decide (a.code = b.code) && decide (a.tells = b.tells)) rfl (fun h2 => WR.done (by show [dB false] = _; rw [h, h2]; rfl)) (fun h2 => WR.done (by show [dB true] = _; rw [h, h2]; rfl))
theorem ev_eqPlnDoneS (a b : List Don) (hl : a.length ≤ 2000000) (ht : ∀ d ∈ a, d.tells.length ≤ 2000000) : Ev L f_k3v [.s (dDs a), .s (dDs b)] [dB (decide (a = b))] :=
  ev_sameC (g := f_k3u) (sh := .g [.i .i64, .i .i64, .s]) (as := [(.vi .i64 (.v 3)), (.vi .i64 (.v 4)), (.s (.v 5)), (.vi .i64 (.v 6)), (.vi .i64 (.v 7)), (.s (.v 8))]) (k1 := 6) (k2 := 9)
    Don.g (fun x => [.i x.seq, .i x.code, .l (dL x.tells)]) Don.cells a b
    L_k3v rfl (fun _ => rfl) (fun _ => rfl) (fun _ => rfl) (fun _ _ _ _ _ => rfl) (fun x hx y => ev_eqPlnDone x y (ht x hx)) hl
theorem ev_markPlnDoneS (l : List Don) (k : Int) (hl : l.length ≤ 2000000) (ht : ∀ d ∈ l, d.tells.length ≤ 2000000) (h0 : 0 ≤ k) (h1 : k + wts Don.w l ≤ 1000000000000) :
    Ev L f_k46 [.s (dDs l), dI k] [dI (k + wts Don.w l), .s (dDs (mkAll Don.w Don.mk' k l))] :=
  ev_markLoop Don.g Don.w Don.mk' l k L_k46 rfl h0 h1 hl fun v0 v1 es i x q hx hxi hi hq0 hq1 => by
    have hil : i < es.length := (List.getElem?_eq_some_iff.1 hxi).1
    have hxt := ht x hx
    have hw : x.w = 2 + x.tells.length := rfl
    have e1 : IntKind.i64.wrap (q + 1) = q + 1 := w64 (by omega) (by omega)
    have e2 : IntKind.i64.wrap (q + 1 + 1) = q + 1 + 1 := w64 (by omega) (by omega)
    refine WR.atN (vs := [.i x.seq, .i x.code, .l (dL x.tells)]) (ds := es) i hxi rfl rfl rfl rfl rfl rfl ?_
    simp only [sCA, sNA]
    generalize hes1 : es.set i (.g [dI q, dI x.code, .s (dL x.tells)]) = es1
    have hl1 : es1.length = es.length := by rw [← hes1]; simp
    refine WR.atN (vs := [.i q, .i x.code, .l (dL x.tells)]) (ds := es1) (d := .g [dI q, dI x.code, .s (dL x.tells)]) i (by rw [← hes1]; exact set_at _ hil) rfl (by rw [hl1]; rfl) rfl (by rw [← hes1]; rfl) rfl rfl ?_
    simp only [sCA, sNA]
    generalize hes2 : es1.set i (.g [dI q, dI (q + 1), .s (dL x.tells)]) = es2
    have hl2 : es2.length = es.length := by rw [← hes2]; simp [hl1]
    have hes2' : es2 = (es.set i (.g [dI q, dI x.code, .s (dL x.tells)])).set i (.g [dI q, dI (IntKind.i64.wrap (q + 1)), .s (dL x.tells)]) := by rw [e1, hes1, hes2]
    refine WR.atN (vs := [.i q, .i (q + 1), .l (dL x.tells)]) (ds := es2) (d := .g [dI q, dI (q + 1), .s (dL x.tells)]) i (by rw [← hes2]; exact set_at _ (by omega)) rfl (by rw [hl2]; rfl) rfl (by rw [hes2']; rfl) rfl rfl ?_
    simp only [sCA, sNA]
    refine WR.ev (vs := [.i (q + 1 + 1 + x.tells.length), .l (dL (cnt (q + 1 + 1) x.tells.length))]) (ev_markIntS x.tells (q + 1 + 1) hxt (by omega) (by omega)) rfl ?_ rfl ?_
    · show [D.s (dL x.tells), dI (IntKind.i64.wrap (IntKind.i64.wrap (q + 1) + 1))] = _
      rw [e1, e2]
    simp only [sCA, sNA]
    refine WR.chk ?_ ?_
    · show decide (((dL (cnt (q + 1 + 1) x.tells.length)).length : Int) = ((dL x.tells).length : Int)) = true
      rw [dL_len, dL_len, cnt_len]; simp
    refine WR.nextA ?_ rfl
    show [V.l (((es.set i (.g [dI q, dI x.code, .s (dL x.tells)])).set i (.g [dI q, dI (IntKind.i64.wrap (q + 1)), .s (dL x.tells)])).set i (.g [dI q, dI (q + 1), .s (dL (cnt (q + 1 + 1) x.tells.length))])), V.i (q + 1 + 1 + x.tells.length), V.i (IntKind.i64.wrap ((i : Int) + 1))] = _
    rw [wS' (by omega), List.set_set, List.set_set, show q + 1 + 1 + (x.tells.length : Int) = q + (x.w : Nat) by rw [hw]; push_cast; omega]
    rfl
theorem ev_heldPlnDoneS (l : List Don) (k : Int) (hl : l.length ≤ 2000000) (ht : ∀ d ∈ l, d.tells.length ≤ 2000000) (h0 : 0 ≤ k) (h1 : k + wts Don.w l ≤ 1000000000000) :
    Ev L f_k49 [.s (dDs (mkAll Don.w Don.mk' k l)), dI k] [dI (k + wts Don.w l)] :=
  ev_heldLoop Don.g Don.w Don.mk' l k L_k49 rfl h0 h1 hl fun v1 es i x q hx hxi hi hq0 hq1 => by
    have hxt := ht x hx
    have hw : x.w = 2 + x.tells.length := rfl
    have e1 : IntKind.i64.wrap (q + 1) = q + 1 := w64 (by omega) (by omega)
    have e2 : IntKind.i64.wrap (q + 1 + 1) = q + 1 + 1 := w64 (by omega) (by omega)
    refine WR.idxN (vs := [.i q, .i (q + 1), .l (dL (cnt (q + 1 + 1) x.tells.length))]) i hxi rfl rfl rfl rfl ?_
    refine WR.iteF (by show (!decide (q = q)) = false; simp) ?_
    refine WR.idxN (vs := [.i q, .i (q + 1), .l (dL (cnt (q + 1 + 1) x.tells.length))]) i hxi rfl rfl rfl rfl ?_
    refine WR.iteF (by show (!decide (q + 1 = IntKind.i64.wrap (q + 1))) = false; rw [e1]; simp) ?_
    refine WR.idxN (vs := [.i q, .i (q + 1), .l (dL (cnt (q + 1 + 1) x.tells.length))]) i hxi rfl rfl rfl rfl ?_
    simp only [sCA, sNA]
    refine WR.ev (vs := [.i (q + 1 + 1 + x.tells.length)]) (ev_heldIntS (q + 1 + 1) x.tells.length hxt (by omega) (by omega)) rfl ?_ rfl ?_
    · show [D.s (dL (cnt (q + 1 + 1) x.tells.length)), dI (IntKind.i64.wrap (IntKind.i64.wrap (q + 1) + 1))] = _
      rw [e1, e2]
    simp only [sCA, sNA]
    refine WR.iteF (by show decide (q + 1 + 1 + (x.tells.length : Int) < 0) = false; rw [decide_eq_false]; omega) ?_
    refine WR.nextA ?_ rfl
    show [V.i (q + 1 + 1 + x.tells.length), V.i (IntKind.i64.wrap ((i : Int) + 1))] = _
    rw [wS' (by omega), show q + 1 + 1 + (x.tells.length : Int) = q + (x.w : Nat) by rw [hw]; push_cast; omega]
structure Sit where
  up : Bool
  frozen : Bool
  round : Int
  base : List Int
  added : List Int
  done : List Don
  deriving DecidableEq
def Sit.cells (s : Sit) : List D := [dB s.up, dB s.frozen, dI s.round, .s (dL s.base), .s (dL s.added), .s (dDs s.done)]
def fitSit (s : Sit) : Prop := s.base.length ≤ 2000000 ∧ s.added.length ≤ 2000000 ∧ s.done.length ≤ 2000000 ∧ ∀ d ∈ s.done, d.tells.length ≤ 2000000
def wtSit (s : Sit) : Nat := s.base.length + s.added.length + wts Don.w s.done
def mkSit (s : Sit) : Sit := ⟨s.up, s.frozen, s.round, cnt 1 s.base.length, cnt (1 + s.base.length) s.added.length, mkAll Don.w Don.mk' (1 + s.base.length + s.added.length) s.done⟩
theorem ev_eqSitSite (s : Sit) (hs : fitSit s) : Ev L f_k3w (s.cells ++ s.cells) [dB true] := by
  refine Ev.eq (vs := [.b s.up, .b s.frozen, .i s.round, .l (dL s.base), .l (dL s.added), .l (dDs s.done), .b s.up, .b s.frozen, .i s.round, .l (dL s.base), .l (dL s.added), .l (dDs s.done)]) L_k3w rfl ?_
  have h1 := ev_eqIntS s.base s.base hs.1
  have h2 := ev_eqIntS s.added s.added hs.2.1
  have h3 := ev_eqPlnDoneS s.done s.done hs.2.2.1 hs.2.2.2
  rw [decide_eq_true rfl] at h1 h2 h3
  refine WR.iteF (by show (!(s.up == s.up)) = false; simp) ?_
  refine WR.iteF (by show (!(s.frozen == s.frozen)) = false; simp) ?_
  refine WR.iteF (by show (!decide (s.round = s.round)) = false; simp) ?_
  refine WR.ev h1 rfl rfl rfl (WR.iteF rfl ?_)
  refine WR.ev h2 rfl rfl rfl (WR.iteF rfl ?_)
  exact WR.ev h3 rfl rfl rfl (WR.iteF rfl (WR.done rfl))
theorem ev_markSitSite (s : Sit) (hs : fitSit s) (hw : wtSit s ≤ 10000000000) : Ev L f_k47 (s.cells ++ [dI 1]) [dI (1 + wtSit s), .s (dL (mkSit s).base), .s (dL (mkSit s).added), .s (dDs (mkSit s).done)] := by
  unfold wtSit at hw
  refine Ev.eq (vs := [.b s.up, .b s.frozen, .i s.round, .l (dL s.base), .l (dL s.added), .l (dDs s.done), .i 1]) L_k47 rfl ?_
  refine WR.ev (ev_markIntS s.base 1 hs.1 (by omega) (by omega)) rfl rfl rfl ?_
  refine WR.ev (ev_markIntS s.added (1 + s.base.length) hs.2.1 (by omega) (by omega)) rfl rfl rfl ?_
  refine WR.ev (ev_markPlnDoneS s.done (1 + s.base.length + s.added.length) hs.2.2.1 hs.2.2.2 (by omega) (by omega)) rfl rfl rfl ?_
  refine WR.done ?_
  show [dI (1 + s.base.length + s.added.length + wts Don.w s.done), _, _, _] = _
  rw [show (1 : Int) + s.base.length + s.added.length + wts Don.w s.done = 1 + wtSit s by unfold wtSit; push_cast; omega]
  rfl
theorem ev_heldSitSite (s : Sit) (hs : fitSit s) (hw : wtSit s ≤ 10000000000) : Ev L f_k4a ((mkSit s).cells ++ [dI 1]) [dI (1 + wtSit s)] := by
  unfold wtSit at hw
  refine Ev.eq (vs := [.b s.up, .b s.frozen, .i s.round, .l (dL (mkSit s).base), .l (dL (mkSit s).added), .l (dDs (mkSit s).done), .i 1]) L_k4a rfl ?_
  refine WR.ev (ev_heldIntS 1 s.base.length hs.1 (by omega) (by omega)) rfl rfl rfl ?_
  refine WR.iteF (by show decide (1 + (s.base.length : Int) < 0) = false; rw [decide_eq_false]; omega) ?_
  refine WR.ev (ev_heldIntS (1 + s.base.length) s.added.length hs.2.1 (by omega) (by omega)) rfl rfl rfl ?_
  refine WR.iteF (by show decide (1 + (s.base.length : Int) + s.added.length < 0) = false; rw [decide_eq_false]; omega) ?_
  refine WR.ev (ev_heldPlnDoneS s.done (1 + s.base.length + s.added.length) hs.2.2.1 hs.2.2.2 (by omega) (by omega)) rfl rfl rfl ?_
  refine WR.iteF (by show decide (1 + (s.base.length : Int) + s.added.length + wts Don.w s.done < 0) = false; rw [decide_eq_false]; omega) (WR.done ?_)
  show [dI (1 + s.base.length + s.added.length + wts Don.w s.done)] = _
  rw [show (1 : Int) + s.base.length + s.added.length + wts Don.w s.done = 1 + wtSit s by unfold wtSit; push_cast; omega]
theorem wtPln_le (p : Pln) : wtPln p ≤ 4 * szPln p := by
  have := wtAs_le p.acts
  unfold wtPln szPln; omega
abbrev tyPlan : Ty := .st [.i .i64, .sl (.sl tyLine), tyInts, tyInts]
theorem plan_of {ds : List D} (h : TySh tyPlan ds) : ∃ p : Pln, ds = p.cells ∧ bigPln p := by
  obtain ⟨_, _, rfl, ⟨n, rfl⟩, _, _, rfl, h1, _, _, rfl, h2, _, _, rfl, h3, rfl⟩ := h
  obtain ⟨as, rfl, ha⟩ := acts_of h1
  obtain ⟨g, rfl, hg⟩ := ints_of h2
  obtain ⟨s, rfl, hs⟩ := ints_of h3
  exact ⟨⟨n, as, g, s⟩, rfl, ha, hg, hs⟩
end Go.Proofs.YtdibnlhlngodeaaGreatDoor

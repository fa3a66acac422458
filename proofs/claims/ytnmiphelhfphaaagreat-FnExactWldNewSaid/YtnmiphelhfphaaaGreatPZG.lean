/- The program's SitNew and ClkNew answer as the reference's: over residual programs. -/
import Derived.Test.YtnmiphelhfphaaaGreatPZF
import Derived.Test.YtnmiphelhfphaaaGreatPK
import Derived.Test.YtnmiphelhfphaaaGreatPL
import Derived.Test.YtnmiphelhfphaaaGreatPN
namespace Go.Proofs.YtnmiphelhfphaaaGreat
open Go Go.Tm

/-! ### Plans -/

structure Pln where
  n : Int
  acts : List (List Line)
  gives : List Int
  start : List Int
  deriving DecidableEq
def Pln.cells (p : Pln) : List D := [dI p.n, .s (dActs p.acts), .s (dL p.gives), .s (dL p.start)]
def fitPln (p : Pln) : Prop := fitActs p.acts ∧ p.gives.length ≤ 2000000 ∧ p.start.length ≤ 2000000
def bigPln (p : Pln) : Prop := bigAs p.acts ∧ p.gives.length ≤ 9223372036854775807 ∧ p.start.length ≤ 9223372036854775807
def szPln (p : Pln) : Nat := szAs p.acts + p.gives.length + p.start.length
def wtPln (p : Pln) : Nat := wtAs p.acts + p.gives.length + p.start.length

theorem fitPln_of {p : Pln} (h : szPln p ≤ 1048576) : fitPln p := by
  unfold szPln at h
  exact ⟨fitActs_of (by omega), by omega, by omega⟩

theorem ev_toPlnPlan (p : Pln) (hp : fitPln p) : Ev L f_laws_toPlnPlan p.cells p.cells := by
  refine Ev.eq (vs := [.i p.n, .l (dActs p.acts), .l (dL p.gives), .l (dL p.start)]) L_laws_toPlnPlan rfl ?_
  refine WR.ev (ev_toActLineSS p.acts hp.1) rfl rfl rfl ?_
  refine WR.ev (ev_toIntS p.gives hp.2.1) rfl rfl rfl ?_
  refine WR.ev (ev_toIntS p.start hp.2.2) rfl rfl rfl ?_
  exact WR.done rfl

theorem ev_eqPlnPlan (p : Pln) (hp : fitPln p) : Ev L f_laws_eqPlnPlan (p.cells ++ p.cells) [dB true] := by
  refine Ev.eq (vs := [.i p.n, .l (dActs p.acts), .l (dL p.gives), .l (dL p.start), .i p.n, .l (dActs p.acts), .l (dL p.gives), .l (dL p.start)]) L_laws_eqPlnPlan rfl ?_
  have h1 := ev_eqActLineSS p.acts p.acts hp.1
  have h2 := ev_eqIntS p.gives p.gives hp.2.1
  have h3 := ev_eqIntS p.start p.start hp.2.2
  rw [decide_eq_true rfl] at h1 h2 h3
  refine WR.iteF (by show (!decide (p.n = p.n)) = false; simp) ?_
  refine WR.ev h1 rfl rfl rfl (WR.iteF rfl ?_)
  refine WR.ev h2 rfl rfl rfl (WR.iteF rfl ?_)
  exact WR.ev h3 rfl rfl rfl (WR.iteF rfl (WR.done rfl))

theorem ev_szPlnPlan (p : Pln) (left : Int) (hp : bigPln p) (h0 : 0 ≤ left) (h1 : left ≤ 1048576) : Ev L f_laws_szPlnPlan (p.cells ++ [dI left]) [dI (dec left (szPln p))] := by
  refine Ev.eq (vs := [.i p.n, .l (dActs p.acts), .l (dL p.gives), .l (dL p.start), .i left]) L_laws_szPlnPlan rfl ?_
  refine WR.ev (ev_szActLineSS p.acts left hp.1 h0 h1) rfl rfl rfl ?_
  have hr := dec_room (n := szAs p.acts) h0 h1
  refine WR.iteP (dec left (szAs p.acts) < 0) rfl (fun h => WR.done ?_) (fun h => ?_)
  · show [dI (-1)] = _
    rw [szPln, Nat.add_assoc, dec_lt h h0]
  refine WR.ev (ev_szIntS p.gives (dec left (szAs p.acts)) hp.2.1 (by omega) (by omega)) rfl rfl rfl ?_
  have hr2 := dec_room (n := szAs p.acts + p.gives.length) h0 h1
  rw [dec_dec h]
  refine WR.iteP (dec left (szAs p.acts + p.gives.length) < 0) rfl (fun h => WR.done ?_) (fun h => ?_)
  · show [dI (-1)] = _
    rw [szPln, dec_lt h h0]
  refine WR.ev (ev_szIntS p.start (dec left (szAs p.acts + p.gives.length)) hp.2.2 (by omega) (by omega)) rfl rfl rfl ?_
  rw [dec_dec h]
  have hr3 := dec_room (n := szAs p.acts + p.gives.length + p.start.length) h0 h1
  refine WR.iteP (dec left (szAs p.acts + p.gives.length + p.start.length) < 0) rfl (fun h => WR.done ?_) (fun h => WR.done rfl)
  show [dI (-1)] = _
  rw [szPln, show dec left (szAs p.acts + p.gives.length + p.start.length) = -1 by omega]

theorem ev_markPlnPlan (p : Pln) (hp : fitPln p) (hw : wtPln p ≤ 10000000000) : ∃ es, Ev L f_laws_markPlnPlan (p.cells ++ [dI 1]) [dI (1 + wtPln p), .s es, .s (dL (cnt (1 + wtAs p.acts) p.gives.length)), .s (dL (cnt (1 + wtAs p.acts + p.gives.length) p.start.length))] := by
  unfold wtPln at hw
  obtain ⟨ds, hmk, es, rfl, hes⟩ := ev_markActLineSS p.acts hp.1 1 (by omega) (by omega)
  refine ⟨es, Ev.eq (vs := [.i p.n, .l (dActs p.acts), .l (dL p.gives), .l (dL p.start), .i 1]) L_laws_markPlnPlan rfl ?_⟩
  refine WR.ev (vs := [.i (1 + wtAs p.acts), .l es]) hmk rfl rfl rfl ?_
  refine WR.ev (vs := [.i (1 + wtAs p.acts + p.gives.length), .l (dL (cnt (1 + wtAs p.acts) p.gives.length))]) (ev_markIntS p.gives (1 + wtAs p.acts) hp.2.1 (by omega) (by omega)) rfl rfl rfl ?_
  refine WR.ev (vs := [.i (1 + wtAs p.acts + p.gives.length + p.start.length), .l (dL (cnt (1 + wtAs p.acts + p.gives.length) p.start.length))]) (ev_markIntS p.start (1 + wtAs p.acts + p.gives.length) hp.2.2 (by omega) (by omega)) rfl rfl rfl ?_
  refine WR.done ?_
  show [dI (1 + wtAs p.acts + p.gives.length + p.start.length), D.s es, _, _] = _
  rw [show (1 : Int) + wtAs p.acts + p.gives.length + p.start.length = 1 + wtPln p by unfold wtPln; push_cast; omega]
  rfl

/-- Whether a plan is ok. -/
def plnOk (p : Pln) : Bool := inB p.n 1 4 && (catOk p.acts && (allIn 3 1000 p.start && trtOk p.start p.gives))

theorem ev_sPlnOk (p : Pln) (hp : fitPln p) : Ev L f_spec_PlnOk p.cells [dB (plnOk p)] := by
  refine Ev.eq (vs := [.i p.n, .l (dActs p.acts), .l (dL p.gives), .l (dL p.start)]) L_spec_PlnOk rfl ?_
  refine WR.ev (ev_l1In p.n 1 4) rfl rfl rfl ?_
  refine WR.iteB (inB p.n 1 4) rfl (fun h1 => ?_) (fun h1 => WR.done (by show [dB false] = _; simp [plnOk, h1]))
  refine WR.ev (ev_CatOk p.acts hp.1) rfl rfl rfl ?_
  refine WR.iteB (catOk p.acts) rfl (fun h2 => ?_) (fun h2 => WR.done (by show [dB false] = _; simp [plnOk, h2]))
  refine WR.ev (ev_l1All p.start 3 1000 hp.2.2 (by omega) (by omega)) rfl rfl rfl ?_
  refine WR.iteB (allIn 3 1000 p.start) rfl (fun h3 => ?_) (fun h3 => WR.done (by show [dB false] = _; simp [plnOk, h3]))
  refine WR.ev (ev_sTrtOk p.start p.gives hp.2.2 hp.2.1) rfl rfl rfl (WR.done ?_)
  show [dB (trtOk p.start p.gives)] = _
  simp [plnOk, h1, h2, h3]

theorem ev_iTreaty (p : Pln) (b : List Int) : Ev L f_impl_PlnPlan_treaty (p.cells ++ [.s (dL b)]) [.s (dL b), .s (dL p.gives)] :=
  Ev.eq (vs := [.i p.n, .l (dActs p.acts), .l (dL p.gives), .l (dL p.start), .l (dL b)]) L_impl_PlnPlan_treaty rfl (WR.done rfl)

theorem ev_iPlnOk (p : Pln) (hp : fitPln p) : Ev L f_impl_PlnOk p.cells [dB (plnOk p)] := by
  refine Ev.eq (vs := [.i p.n, .l (dActs p.acts), .l (dL p.gives), .l (dL p.start)]) L_impl_PlnOk rfl ?_
  refine WR.ev (ev_in p.n 1 4) rfl rfl rfl ?_
  refine WR.iteB (inB p.n 1 4) rfl (fun h1 => ?_) (fun h1 => WR.done (by show [dB false] = _; simp [plnOk, h1]))
  refine WR.ev (ev_iCatOk p.acts hp.1) rfl rfl rfl ?_
  refine WR.iteB (catOk p.acts) rfl (fun h2 => ?_) (fun h2 => WR.done (by show [dB false] = _; simp [plnOk, h2]))
  refine WR.ev (ev_within p.start 3 1000 hp.2.2 (by omega) (by omega)) rfl rfl rfl ?_
  refine WR.iteB (allIn 3 1000 p.start) rfl (fun h3 => ?_) (fun h3 => WR.done (by show [dB false] = _; simp [plnOk, h3]))
  refine WR.ev (ev_iTreaty p p.start) rfl rfl rfl ?_
  refine WR.ev (ev_TrtOk p.start p.gives hp.2.2 hp.2.1) rfl rfl rfl (WR.done ?_)
  show [dB (trtOk p.start p.gives)] = _
  simp [plnOk, h1, h2, h3]

/-! ### What was done -/

theorem ev_eqResResult (a b : Int) (c d : List Int) (hl : c.length ≤ 2000000) : Ev L f_laws_eqResResult [dI a, .s (dL c), dI b, .s (dL d)] [dB (decide (a = b) && decide (c = d))] := by
  refine Ev.eq (vs := [.i a, .l (dL c), .i b, .l (dL d)]) L_laws_eqResResult rfl ?_
  refine WR.iteN (decide (a = b)) rfl (fun h => WR.done (by show [dB false] = _; rw [h]; rfl)) (fun h => ?_)
  refine WR.ev (ev_eqIntS c d hl) rfl rfl rfl ?_
  refine WR.iteN (decide (c = d)) rfl (fun h2 => WR.done (by show [dB false] = _; rw [h, h2]; rfl)) (fun h2 => WR.done (by show [dB true] = _; rw [h, h2]; rfl))

theorem ev_eqPlnDone (a b : Don) (hl : a.tells.length ≤ 2000000) : Ev L f_laws_eqPlnDone (a.cells ++ b.cells) [dB (decide (a = b))] := by
  refine Ev.eq (vs := [.i a.seq, .i a.code, .l (dL a.tells), .i b.seq, .i b.code, .l (dL b.tells)]) L_laws_eqPlnDone rfl ?_
  have e : decide (a = b) = (decide (a.seq = b.seq) && (decide (a.code = b.code) && decide (a.tells = b.tells))) := by
    obtain ⟨a1, a2, a3⟩ := a
    obtain ⟨b1, b2, b3⟩ := b
    simp only [Don.mk.injEq]
    by_cases h1 : a1 = b1 <;> by_cases h2 : a2 = b2 <;> by_cases h3 : a3 = b3 <;> simp [h1, h2, h3]
  rw [e]
  refine WR.iteN (decide (a.seq = b.seq)) rfl (fun h => WR.done (by show [dB false] = _; rw [h]; rfl)) (fun h => ?_)
  refine WR.ev (ev_eqResResult a.code b.code a.tells b.tells hl) rfl rfl rfl ?_
  refine WR.iteN (decide (a.code = b.code) && decide (a.tells = b.tells)) rfl (fun h2 => WR.done (by show [dB false] = _; rw [h, h2]; rfl)) (fun h2 => WR.done (by show [dB true] = _; rw [h, h2]; rfl))

theorem ev_eqPlnDoneS (a b : List Don) (hl : a.length ≤ 2000000) (ht : ∀ d ∈ a, d.tells.length ≤ 2000000) : Ev L f_laws_eqPlnDoneS [.s (dDs a), .s (dDs b)] [dB (decide (a = b))] :=
  ev_sameC (g := f_laws_eqPlnDone) (sh := .g [.i .i64, .i .i64, .s]) (as := [(.vi .i64 (.v 3)), (.vi .i64 (.v 4)), (.s (.v 5)), (.vi .i64 (.v 6)), (.vi .i64 (.v 7)), (.s (.v 8))]) (k1 := 6) (k2 := 9)
    Don.g (fun x => [.i x.seq, .i x.code, .l (dL x.tells)]) Don.cells a b
    L_laws_eqPlnDoneS rfl (fun _ => rfl) (fun _ => rfl) (fun _ => rfl) (fun _ _ _ _ _ => rfl) (fun x hx y => ev_eqPlnDone x y (ht x hx)) hl

theorem ev_markPlnDoneS (l : List Don) (k : Int) (hl : l.length ≤ 2000000) (ht : ∀ d ∈ l, d.tells.length ≤ 2000000) (h0 : 0 ≤ k) (h1 : k + wts Don.w l ≤ 1000000000000) :
    Ev L f_laws_markPlnDoneS [.s (dDs l), dI k] [dI (k + wts Don.w l), .s (dDs (mkAll Don.w Don.mk' k l))] :=
  ev_markLoop Don.g Don.w Don.mk' l k L_laws_markPlnDoneS rfl h0 h1 hl fun v0 v1 es i x q hx hxi hi hq0 hq1 => by
    have hil : i < es.length := (List.getElem?_eq_some_iff.1 hxi).1
    have hxt := ht x hx
    have hw : x.w = 2 + x.tells.length := rfl
    have e1 : IntKind.i64.wrap (q + 1) = q + 1 := w64 (by omega) (by omega)
    have e2 : IntKind.i64.wrap (q + 1 + 1) = q + 1 + 1 := w64 (by omega) (by omega)
    refine WR.atN (vs := [.i x.seq, .i x.code, .l (dL x.tells)]) (ds := es) i hxi rfl rfl rfl rfl rfl rfl ?_
    simp only [List.cons_append, List.nil_append]
    generalize hes1 : es.set i (.g [dI q, dI x.code, .s (dL x.tells)]) = es1
    have hl1 : es1.length = es.length := by rw [← hes1]; simp
    refine WR.atN (vs := [.i q, .i x.code, .l (dL x.tells)]) (ds := es1) (d := .g [dI q, dI x.code, .s (dL x.tells)]) i (by rw [← hes1]; exact set_at _ hil) rfl (by rw [hl1]; rfl) rfl (by rw [← hes1]; rfl) rfl rfl ?_
    simp only [List.cons_append, List.nil_append]
    generalize hes2 : es1.set i (.g [dI q, dI (q + 1), .s (dL x.tells)]) = es2
    have hl2 : es2.length = es.length := by rw [← hes2]; simp [hl1]
    have hes2' : es2 = (es.set i (.g [dI q, dI x.code, .s (dL x.tells)])).set i (.g [dI q, dI (IntKind.i64.wrap (q + 1)), .s (dL x.tells)]) := by rw [e1, hes1, hes2]
    refine WR.atN (vs := [.i q, .i (q + 1), .l (dL x.tells)]) (ds := es2) (d := .g [dI q, dI (q + 1), .s (dL x.tells)]) i (by rw [← hes2]; exact set_at _ (by omega)) rfl (by rw [hl2]; rfl) rfl (by rw [hes2']; rfl) rfl rfl ?_
    simp only [List.cons_append, List.nil_append]
    refine WR.ev (vs := [.i (q + 1 + 1 + x.tells.length), .l (dL (cnt (q + 1 + 1) x.tells.length))]) (ev_markIntS x.tells (q + 1 + 1) hxt (by omega) (by omega)) rfl ?_ rfl ?_
    · show [D.s (dL x.tells), dI (IntKind.i64.wrap (IntKind.i64.wrap (q + 1) + 1))] = _
      rw [e1, e2]
    simp only [List.cons_append, List.nil_append]
    refine WR.chk ?_ ?_
    · show decide (((dL (cnt (q + 1 + 1) x.tells.length)).length : Int) = ((dL x.tells).length : Int)) = true
      rw [dL_len, dL_len, cnt_len]; simp
    refine WR.nextA ?_ rfl
    show [V.l (((es.set i (.g [dI q, dI x.code, .s (dL x.tells)])).set i (.g [dI q, dI (IntKind.i64.wrap (q + 1)), .s (dL x.tells)])).set i (.g [dI q, dI (q + 1), .s (dL (cnt (q + 1 + 1) x.tells.length))])), V.i (q + 1 + 1 + x.tells.length), V.i (IntKind.i64.wrap ((i : Int) + 1))] = _
    rw [wS' (by omega), List.set_set, List.set_set, show q + 1 + 1 + (x.tells.length : Int) = q + (x.w : Nat) by rw [hw]; push_cast; omega]
    rfl

theorem ev_heldPlnDoneS (l : List Don) (k : Int) (hl : l.length ≤ 2000000) (ht : ∀ d ∈ l, d.tells.length ≤ 2000000) (h0 : 0 ≤ k) (h1 : k + wts Don.w l ≤ 1000000000000) :
    Ev L f_laws_heldPlnDoneS [.s (dDs (mkAll Don.w Don.mk' k l)), dI k] [dI (k + wts Don.w l)] :=
  ev_heldLoop Don.g Don.w Don.mk' l k L_laws_heldPlnDoneS rfl h0 h1 hl fun v1 es i x q hx hxi hi hq0 hq1 => by
    have hxt := ht x hx
    have hw : x.w = 2 + x.tells.length := rfl
    have e1 : IntKind.i64.wrap (q + 1) = q + 1 := w64 (by omega) (by omega)
    have e2 : IntKind.i64.wrap (q + 1 + 1) = q + 1 + 1 := w64 (by omega) (by omega)
    refine WR.idxN (vs := [.i q, .i (q + 1), .l (dL (cnt (q + 1 + 1) x.tells.length))]) i hxi rfl rfl rfl rfl ?_
    refine WR.iteF (by show (!decide (q = q)) = false; simp) ?_
    refine WR.idxN (vs := [.i q, .i (q + 1), .l (dL (cnt (q + 1 + 1) x.tells.length))]) i hxi rfl rfl rfl rfl ?_
    refine WR.iteF (by show (!decide (q + 1 = IntKind.i64.wrap (q + 1))) = false; rw [e1]; simp) ?_
    refine WR.idxN (vs := [.i q, .i (q + 1), .l (dL (cnt (q + 1 + 1) x.tells.length))]) i hxi rfl rfl rfl rfl ?_
    simp only [List.cons_append, List.nil_append]
    refine WR.ev (vs := [.i (q + 1 + 1 + x.tells.length)]) (ev_heldIntS (q + 1 + 1) x.tells.length hxt (by omega) (by omega)) rfl ?_ rfl ?_
    · show [D.s (dL (cnt (q + 1 + 1) x.tells.length)), dI (IntKind.i64.wrap (IntKind.i64.wrap (q + 1) + 1))] = _
      rw [e1, e2]
    simp only [List.cons_append, List.nil_append]
    refine WR.iteF (by show decide (q + 1 + 1 + (x.tells.length : Int) < 0) = false; rw [decide_eq_false]; omega) ?_
    refine WR.nextA ?_ rfl
    show [V.i (q + 1 + 1 + x.tells.length), V.i (IntKind.i64.wrap ((i : Int) + 1))] = _
    rw [wS' (by omega), show q + 1 + 1 + (x.tells.length : Int) = q + (x.w : Nat) by rw [hw]; push_cast; omega]

/-! ### Sites -/

structure Sit where
  up : Bool
  frozen : Bool
  round : Int
  base : List Int
  added : List Int
  done : List Don
  deriving DecidableEq
def Sit.cells (s : Sit) : List D := [dB s.up, dB s.frozen, dI s.round, .s (dL s.base), .s (dL s.added), .s (dDs s.done)]
def fitSit (s : Sit) : Prop := s.base.length ≤ 2000000 ∧ s.added.length ≤ 2000000 ∧ s.done.length ≤ 2000000 ∧ ∀ d ∈ s.done, d.tells.length ≤ 2000000
def wtSit (s : Sit) : Nat := s.base.length + s.added.length + wts Don.w s.done
def mkSit (s : Sit) : Sit := ⟨s.up, s.frozen, s.round, cnt 1 s.base.length, cnt (1 + s.base.length) s.added.length, mkAll Don.w Don.mk' (1 + s.base.length + s.added.length) s.done⟩

theorem ev_eqSitSite (s : Sit) (hs : fitSit s) : Ev L f_laws_eqSitSite (s.cells ++ s.cells) [dB true] := by
  refine Ev.eq (vs := [.b s.up, .b s.frozen, .i s.round, .l (dL s.base), .l (dL s.added), .l (dDs s.done), .b s.up, .b s.frozen, .i s.round, .l (dL s.base), .l (dL s.added), .l (dDs s.done)]) L_laws_eqSitSite rfl ?_
  have h1 := ev_eqIntS s.base s.base hs.1
  have h2 := ev_eqIntS s.added s.added hs.2.1
  have h3 := ev_eqPlnDoneS s.done s.done hs.2.2.1 hs.2.2.2
  rw [decide_eq_true rfl] at h1 h2 h3
  refine WR.iteF (by show (!(s.up == s.up)) = false; simp) ?_
  refine WR.iteF (by show (!(s.frozen == s.frozen)) = false; simp) ?_
  refine WR.iteF (by show (!decide (s.round = s.round)) = false; simp) ?_
  refine WR.ev h1 rfl rfl rfl (WR.iteF rfl ?_)
  refine WR.ev h2 rfl rfl rfl (WR.iteF rfl ?_)
  exact WR.ev h3 rfl rfl rfl (WR.iteF rfl (WR.done rfl))

/-- A new site. -/
def don0 : Don := ⟨0, 0, []⟩
def sitNew (p : Pln) : Sit := if plnOk p then ⟨true, false, 0, p.start, [0, 0, 0], List.replicate p.n.toNat don0⟩ else ⟨false, false, 0, [], [], []⟩

theorem plnOk_n {p : Pln} (h : plnOk p = true) : 1 ≤ p.n ∧ p.n ≤ 4 ∧ p.start.length = 3 ∧ trtOk p.start p.gives = true := by
  simp only [plnOk, Bool.and_eq_true, inB_iff, allIn_iff] at h
  obtain ⟨⟨h1, h2⟩, _, ⟨h3, _⟩, h4⟩ := h
  exact ⟨h1, h2, by omega, h4⟩

theorem ev_l6New (p : Pln) (h0 : 0 ≤ p.n) (h1 : p.n ≤ 4) : Ev L f_spec_l6New p.cells [.s (dDs (List.replicate p.n.toNat don0))] := by
  refine Ev.eq (vs := [.i p.n, .l (dActs p.acts), .l (dL p.gives), .l (dL p.start)]) L_spec_l6New rfl ?_
  refine WR.forP p.n.toNat (fun i => [.l (dDs (List.replicate i don0)), .i i]) (fun _ => True) rfl rfl trivial fun i hi _ => ?_
  simp only [List.cons_append, List.nil_append]
  have hl : (dDs (List.replicate i don0)).length = i := by simp [dDs]
  refine WR.iteLt i p.n.toNat (by show decide ((i : Int) < p.n) = _; rw [show ((p.n.toNat : Nat) : Int) = p.n by omega]) (fun h => ?_) (fun h => WR.esc (WR.done ?_))
  · refine WR.chkApp (dDs (List.replicate i don0)) 4 (by omega) (by omega) rfl ?_
    refine WR.nextA (vs := [.l (dDs (List.replicate (i + 1) don0)), .i ((i + 1 : Nat) : Int)]) ?_ ⟨h, rfl, trivial⟩
    show [V.l (dDs (List.replicate i don0) ++ [Don.g don0]), V.i (IntKind.i64.wrap ((i : Int) + 1))] = _
    rw [wS h (by omega), List.replicate_succ']
    simp [dDs]
  · show [D.s (dDs (List.replicate i don0))] = _
    rw [show i = p.n.toNat by omega]

theorem ev_sSitNew (p : Pln) (hp : fitPln p) : Ev L f_spec_SitNew p.cells (sitNew p).cells := by
  refine Ev.eq (vs := [.i p.n, .l (dActs p.acts), .l (dL p.gives), .l (dL p.start)]) L_spec_SitNew rfl ?_
  refine WR.ev (ev_sPlnOk p hp) rfl rfl rfl ?_
  refine WR.iteN (plnOk p) rfl (fun h => WR.done ?_) (fun h => ?_)
  · show _ = (sitNew p).cells
    unfold sitNew; rw [if_neg (by simp [h])]; rfl
  obtain ⟨h1, h2, h3, _⟩ := plnOk_n h
  refine WR.chkN (dL p.start) 2000000 (by rw [dL_len]; exact hp.2.2) (by omega) rfl ?_
  refine WR.head (head_dL p.start) ?_
  refine WR.chkN (dL p.start) 2000000 (by rw [dL_len]; exact hp.2.2) (by omega) rfl ?_
  refine WR.ev (ev_l6New p (by omega) h2) rfl rfl rfl (WR.done ?_)
  show _ = (sitNew p).cells
  unfold sitNew; rw [if_pos h]; rfl

theorem ev_siteNew (p : Pln) (hp : fitPln p) (h1 : 0 ≤ p.n) (h2 : p.n ≤ 4) : Ev L f_impl_PlnPlan_siteNew p.cells (Sit.cells ⟨true, false, 0, p.start, [0, 0, 0], List.replicate p.n.toNat don0⟩) := by
  refine Ev.eq (vs := [.i p.n, .l (dActs p.acts), .l (dL p.gives), .l (dL p.start)]) L_impl_PlnPlan_siteNew rfl ?_
  refine WR.ev (ev_clone1 p.start hp.2.2) rfl rfl rfl ?_
  refine WR.chk (by show decide (0 ≤ p.n) = true; simpa using h1) ?_
  refine WR.chk (by show decide (p.n ≤ (1759218604441 : Int)) = true; simp only [decide_eq_true_eq]; omega) ?_
  refine WR.done ?_
  show [_, _, _, _, _, D.s (List.replicate p.n.toNat (Don.g don0))] = _
  unfold Sit.cells dDs
  rw [List.map_replicate]; rfl

theorem fit_sitNew (p : Pln) (hp : fitPln p) : fitSit (sitNew p) := by
  unfold sitNew
  split
  · rename_i h
    obtain ⟨h1, h2, h3, _⟩ := plnOk_n h
    refine ⟨hp.2.2, by simp, by simp; omega, fun d hd => ?_⟩
    rw [(List.mem_replicate.1 hd).2]; simp [don0]
  · exact ⟨by simp, by simp, by simp, fun d hd => by simp at hd⟩

theorem wt_sitNew (p : Pln) (hp : fitPln p) : wtSit (sitNew p) ≤ 10000000000 := by
  unfold sitNew
  split
  · rename_i h
    obtain ⟨h1, h2, h3, _⟩ := plnOk_n h
    have e : ∀ n : Nat, wts Don.w (List.replicate n don0) = 2 * n := fun n => by
      induction n with
      | zero => rfl
      | succ n ih =>
        have h5 : wts Don.w (don0 :: List.replicate n don0) = 2 + wts Don.w (List.replicate n don0) := rfl
        rw [List.replicate_succ, h5, ih]; omega
    unfold wtSit
    simp only [e, h3, List.length_cons, List.length_nil]
    omega
  · simp [wtSit, wts]

theorem wtPln_le (p : Pln) : wtPln p ≤ 4 * szPln p := by
  have := wtAs_le p.acts
  unfold wtPln szPln; omega

abbrev tyPlan : Ty := .st [.i .i64, .sl (.sl tyLine), tyInts, tyInts]

theorem plan_of {ds : List D} (h : TySh tyPlan ds) : ∃ p : Pln, ds = p.cells ∧ bigPln p := by
  obtain ⟨_, _, rfl, ⟨n, rfl⟩, _, _, rfl, h1, _, _, rfl, h2, _, _, rfl, h3, rfl⟩ := h
  obtain ⟨as, rfl, ha⟩ := acts_of h1
  obtain ⟨g, rfl, hg⟩ := ints_of h2
  obtain ⟨s, rfl, hs⟩ := ints_of h3
  exact ⟨⟨n, as, g, s⟩, rfl, ha, hg, hs⟩

end Go.Proofs.YtnmiphelhfphaaaGreat

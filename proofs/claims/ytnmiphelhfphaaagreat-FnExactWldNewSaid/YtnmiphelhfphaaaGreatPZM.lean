/- The program's WldNew answers as the reference's: over residual programs. -/
import Derived.Test.YtnmiphelhfphaaaGreatPZL
namespace Go.Proofs.YtnmiphelhfphaaaGreat
open Go Go.Tm

/-- A list is as it is itself, by a function. -/
theorem ev_selfC {α : Type} {f g : FuncId} {H : Hint} {s : Sig} {sh : Sh} {as : List E} {k1 k2 : Nat} (enc : α → D) (vsOf : α → List V) (args : α → List D) (a : List α) (hf : L.lookup f = some ⟨s, .r H (sameCR g sh as k1 k2)⟩) (hs : insOf s = [.s, .s])
    (hb : ∀ x, bindSh sh (enc x) = some (vsOf x)) (hk1 : ∀ x, 3 + (vsOf x).length = k1) (hk2 : ∀ x, k1 + (vsOf x).length = k2)
    (ha : ∀ (v0 v1 v2 : V) (x y : α), as.map (dat (envL ([v0, v1, v2] ++ vsOf x ++ vsOf y))) = args x ++ args y)
    (hc : ∀ x ∈ a, Ev L g (args x ++ args x) [dB true]) (hl : a.length ≤ 2000000) :
    Ev L f [.s (a.map enc), .s (a.map enc)] [dB true] := by
  refine Ev.eq (vs := [.l (a.map enc), .l (a.map enc)]) hf (by rw [hs]; rfl) ?_
  refine WR.iteF (by show (!(decide (((a.map enc).length : Int) = ((a.map enc).length : Int)))) = false; simp) ?_
  refine WR.forP a.length (fun i => [.i i]) (fun _ => True) rfl rfl trivial fun i hi _ => ?_
  refine WR.iteLen i (List.length_map (f := enc) (as := a)) rfl (fun h' => ?_) (fun h' => WR.esc (WR.done rfl))
  obtain ⟨x, hx, hmx⟩ := some_at h'
  have k1x := hk1 x
  have k2x := hk2 x
  refine WR.idxN i (map_at (f := enc) hx) rfl rfl rfl (hb x) ?_
  refine WR.idxN i (map_at (f := enc) hx) (by simp; omega) rfl rfl (hb x) ?_
  refine WR.call (ds := [dB true]) (vs := [.b true]) (by simp; omega) (by
    show Ev L g (as.map (dat (envL ([V.l (a.map enc), .l (a.map enc), .i i] ++ vsOf x ++ vsOf x)))) _
    rw [ha]; exact hc x hmx) rfl ?_
  have e1 : ∀ (t : V), envL ([V.l (a.map enc), .l (a.map enc), .i i] ++ vsOf x ++ vsOf x ++ [t]) k2 = t := by
    intro t
    unfold envL
    rw [List.getD_eq_getElem?_getD, List.getElem?_append_right (by simp; omega)]
    rw [show k2 - ([V.l (a.map enc), .l (a.map enc), .i i] ++ vsOf x ++ vsOf x).length = 0 by simp; omega]; rfl
  refine WR.iteF (by show (!(den (envL ([V.l (a.map enc), .l (a.map enc), .i i] ++ vsOf x ++ vsOf x ++ [V.b true])) (.v k2)).bool) = _; simp only [den, e1]; rfl) ?_
  refine WR.nextA (vs := [.i ((i + 1 : Nat) : Int)]) ?_ ⟨h', rfl, trivial⟩
  show [V.i (IntKind.i64.wrap ((i : Int) + 1))] = _
  rw [wS h' (by omega)]

theorem ev_eqSitSiteS (a : List Sit) (hl : a.length ≤ 2000000) (ht : ∀ s ∈ a, fitSit s) : Ev L f_laws_eqSitSiteS [.s (a.map Sit.g), .s (a.map Sit.g)] [dB true] :=
  ev_selfC (g := f_laws_eqSitSite) (sh := .g [.b, .b, .i .i64, .s, .s, .s]) (as := [(.vb (.v 3)), (.vb (.v 4)), (.vi .i64 (.v 5)), (.s (.v 6)), (.s (.v 7)), (.s (.v 8)), (.vb (.v 9)), (.vb (.v 10)), (.vi .i64 (.v 11)), (.s (.v 12)), (.s (.v 13)), (.s (.v 14))]) (k1 := 9) (k2 := 15)
    Sit.g (fun s => [.b s.up, .b s.frozen, .i s.round, .l (dL s.base), .l (dL s.added), .l (dDs s.done)]) Sit.cells a
    L_laws_eqSitSiteS rfl (fun _ => rfl) (fun _ => rfl) (fun _ => rfl) (fun _ _ _ _ _ => rfl) (fun x hx => ev_eqSitSite x (ht x hx)) hl

theorem ev_eqConClient (s : Con) (hs : fitCon s) : Ev L f_laws_eqConClient (s.cells ++ s.cells) [dB true] := by
  refine Ev.eq (vs := [.i s.seq, .b s.busy, .i s.call.client, .i s.call.seq, .i s.call.act, .l (dL s.call.args), .i s.code, .l (dL s.tells), .i s.seq, .b s.busy, .i s.call.client, .i s.call.seq, .i s.call.act, .l (dL s.call.args), .i s.code, .l (dL s.tells)]) L_laws_eqConClient rfl ?_
  have h1 := ev_eqPlnCall s.call s.call hs.1
  have h2 := ev_eqResResult s.code s.code s.tells s.tells hs.2
  rw [decide_eq_true rfl] at h1
  rw [decide_eq_true rfl, decide_eq_true rfl] at h2
  refine WR.iteF (by show (!decide (s.seq = s.seq)) = false; simp) ?_
  refine WR.iteF (by show (!(s.busy == s.busy)) = false; simp) ?_
  refine WR.ev h1 rfl rfl rfl (WR.iteF rfl ?_)
  exact WR.ev h2 rfl rfl rfl (WR.iteF rfl (WR.done rfl))

theorem ev_eqConClientS (a : List Con) (hl : a.length ≤ 2000000) (ht : ∀ s ∈ a, fitCon s) : Ev L f_laws_eqConClientS [.s (a.map Con.g), .s (a.map Con.g)] [dB true] :=
  ev_selfC (g := f_laws_eqConClient) (sh := .g [.i .i64, .b, .i .i64, .i .i64, .i .i64, .s, .i .i64, .s]) (as := [(.vi .i64 (.v 3)), (.vb (.v 4)), (.vi .i64 (.v 5)), (.vi .i64 (.v 6)), (.vi .i64 (.v 7)), (.s (.v 8)), (.vi .i64 (.v 9)), (.s (.v 10)), (.vi .i64 (.v 11)), (.vb (.v 12)), (.vi .i64 (.v 13)), (.vi .i64 (.v 14)), (.vi .i64 (.v 15)), (.s (.v 16)), (.vi .i64 (.v 17)), (.s (.v 18))]) (k1 := 11) (k2 := 19)
    Con.g (fun s => [.i s.seq, .b s.busy, .i s.call.client, .i s.call.seq, .i s.call.act, .l (dL s.call.args), .i s.code, .l (dL s.tells)]) Con.cells a
    L_laws_eqConClientS rfl (fun _ => rfl) (fun _ => rfl) (fun _ => rfl) (fun _ _ _ _ _ => rfl) (fun x hx => ev_eqConClient x (ht x hx)) hl

theorem ev_eqNoMsg : Ev L f_laws_eqMsgMsgS [.s [], .s []] [dB true] :=
  ev_selfC (α := Empty) (fun x => nomatch x) (fun x => nomatch x) (fun x => nomatch x) [] L_laws_eqMsgMsgS rfl (fun x => nomatch x) (fun x => nomatch x) (fun x => nomatch x) (fun _ _ _ x _ => nomatch x) (fun x => nomatch x) (by simp)
theorem ev_eqNoLog : Ev L f_laws_eqLogDoneS [.s [], .s []] [dB true] :=
  ev_selfC (α := Empty) (fun x => nomatch x) (fun x => nomatch x) (fun x => nomatch x) [] L_laws_eqLogDoneS rfl (fun x => nomatch x) (fun x => nomatch x) (fun x => nomatch x) (fun _ _ _ x _ => nomatch x) (fun x => nomatch x) (by simp)
theorem ev_mkNoMsg (k : Int) (h0 : 0 ≤ k) (h1 : k ≤ 1000000000000) : Ev L f_laws_markMsgMsgS [.s [], dI k] [dI k, .s []] := by
  have := ev_markLoop (α := Empty) (fun x => nomatch x) (fun x => nomatch x) (fun _ x => nomatch x) [] k L_laws_markMsgMsgS rfl h0 (by simpa [wts] using h1) (by simp) (fun _ _ _ _ x => nomatch x)
  simpa [wts, mkAll] using this
theorem ev_mkNoLog (k : Int) (h0 : 0 ≤ k) (h1 : k ≤ 1000000000000) : Ev L f_laws_markLogDoneS [.s [], dI k] [dI k, .s []] := by
  have := ev_markLoop (α := Empty) (fun x => nomatch x) (fun x => nomatch x) (fun _ x => nomatch x) [] k L_laws_markLogDoneS rfl h0 (by simpa [wts] using h1) (by simp) (fun _ _ _ _ x => nomatch x)
  simpa [wts, mkAll] using this
theorem ev_hdNoMsg (k : Int) (h0 : 0 ≤ k) (h1 : k ≤ 1000000000000) : Ev L f_laws_heldMsgMsgS [.s [], dI k] [dI k] := by
  have := ev_heldLoop (α := Empty) (fun x => nomatch x) (fun x => nomatch x) (fun _ x => nomatch x) [] k L_laws_heldMsgMsgS rfl h0 (by simpa [wts] using h1) (by simp) (fun _ _ _ x => nomatch x)
  simpa [wts, mkAll] using this
theorem ev_hdNoLog (k : Int) (h0 : 0 ≤ k) (h1 : k ≤ 1000000000000) : Ev L f_laws_heldLogDoneS [.s [], dI k] [dI k] := by
  have := ev_heldLoop (α := Empty) (fun x => nomatch x) (fun x => nomatch x) (fun _ x => nomatch x) [] k L_laws_heldLogDoneS rfl h0 (by simpa [wts] using h1) (by simp) (fun _ _ _ x => nomatch x)
  simpa [wts, mkAll] using this

/-! ### Acts and plans -/

def mkAct (q : Int) (a : List Line) : List Line := mkAll wtL mkLn q a

theorem ev_mkActLineSS (l : List (List Line)) (k : Int) (hl : l.length ≤ 2000000) (ht : ∀ a ∈ l, fitAct a) (h0 : 0 ≤ k) (h1 : k + wtAs l ≤ 1000000000000) :
    Ev L f_laws_markActLineSS [.s (dActs l), dI k] [dI (k + wtAs l), .s (dActs (mkAll wtA mkAct k l))] :=
  ev_markLoop (fun a => D.s (dAct a)) wtA mkAct l k L_laws_markActLineSS rfl h0 h1 hl fun v0 v1 es i x q hx hxi hi hq0 hq1 => by
    have hx1 := ht x hx
    refine WR.atN (vs := [.l (dAct x)]) (ds := es) i hxi rfl rfl rfl rfl rfl rfl ?_
    simp only [List.cons_append, List.nil_append]
    refine WR.ev (vs := [.i (q + wtA x), .l (dAct (mkAct q x))]) (ev_mkActLineS x q hx1.1 hx1.2 (by omega) (by exact hq1)) rfl rfl rfl ?_
    simp only [List.cons_append, List.nil_append]
    refine WR.chk ?_ ?_
    · show decide (((dAct (mkAct q x)).length : Int) = ((dAct x).length : Int)) = true
      rw [dAct_len, dAct_len, mkAct, mkAll_len]; simp
    refine WR.nextA ?_ rfl
    show [V.l (es.set i (.s (dAct (mkAct q x)))), V.i (q + wtA x), V.i (IntKind.i64.wrap ((i : Int) + 1))] = _
    rw [wS' (by omega)]

theorem ev_hdActLineSS (l : List (List Line)) (k : Int) (hl : l.length ≤ 2000000) (ht : ∀ a ∈ l, fitAct a) (h0 : 0 ≤ k) (h1 : k + wtAs l ≤ 1000000000000) :
    Ev L f_laws_heldActLineSS [.s (dActs (mkAll wtA mkAct k l)), dI k] [dI (k + wtAs l)] :=
  ev_heldLoop (fun a => D.s (dAct a)) wtA mkAct l k L_laws_heldActLineSS rfl h0 h1 hl fun v1 es i x q hx hxi hi hq0 hq1 => by
    have hx1 := ht x hx
    refine WR.idxN (vs := [.l (dAct (mkAct q x))]) i hxi rfl rfl rfl rfl ?_
    simp only [List.cons_append, List.nil_append]
    refine WR.ev (vs := [.i (q + wtA x)]) (ev_hdActLineS x q hx1.1 hx1.2 (by omega) (by exact hq1)) rfl rfl rfl ?_
    simp only [List.cons_append, List.nil_append]
    refine WR.iteF (by show decide (q + (wtA x : Int) < 0) = false; rw [decide_eq_false]; omega) ?_
    refine WR.nextA ?_ rfl
    show [V.i (q + wtA x), V.i (IntKind.i64.wrap ((i : Int) + 1))] = _
    rw [wS' (by omega)]

theorem ev_mkPlnPlan (p : Pln) (hp : fitPln p) (k : Int) (h0 : 0 ≤ k) (h1 : k + wtPln p ≤ 1000000000000) :
    Ev L f_laws_markPlnPlan (p.cells ++ [dI k]) [dI (k + wtPln p), .s (dActs (mkAll wtA mkAct k p.acts)), .s (dL (cnt (k + wtAs p.acts) p.gives.length)), .s (dL (cnt (k + wtAs p.acts + p.gives.length) p.start.length))] := by
  unfold wtPln at h1
  refine Ev.eq (vs := [.i p.n, .l (dActs p.acts), .l (dL p.gives), .l (dL p.start), .i k]) L_laws_markPlnPlan rfl ?_
  refine WR.ev (ev_mkActLineSS p.acts k hp.1.1 hp.1.2 h0 (by omega)) rfl rfl rfl ?_
  refine WR.ev (ev_markIntS p.gives (k + wtAs p.acts) hp.2.1 (by omega) (by omega)) rfl rfl rfl ?_
  refine WR.ev (ev_markIntS p.start (k + wtAs p.acts + p.gives.length) hp.2.2 (by omega) (by omega)) rfl rfl rfl ?_
  refine WR.done ?_
  show [dI (k + wtAs p.acts + p.gives.length + p.start.length), _, _, _] = _
  rw [show k + wtAs p.acts + p.gives.length + p.start.length = k + wtPln p by unfold wtPln; push_cast; omega]
  rfl

theorem ev_hdPlnPlan (p : Pln) (hp : fitPln p) (k : Int) (h0 : 0 ≤ k) (h1 : k + wtPln p ≤ 1000000000000) :
    Ev L f_laws_heldPlnPlan [dI p.n, .s (dActs (mkAll wtA mkAct k p.acts)), .s (dL (cnt (k + wtAs p.acts) p.gives.length)), .s (dL (cnt (k + wtAs p.acts + p.gives.length) p.start.length)), dI k] [dI (k + wtPln p)] := by
  unfold wtPln at h1
  refine Ev.eq (vs := [.i p.n, .l (dActs (mkAll wtA mkAct k p.acts)), .l (dL (cnt (k + wtAs p.acts) p.gives.length)), .l (dL (cnt (k + wtAs p.acts + p.gives.length) p.start.length)), .i k]) L_laws_heldPlnPlan rfl ?_
  refine WR.ev (ev_hdActLineSS p.acts k hp.1.1 hp.1.2 h0 (by omega)) rfl rfl rfl ?_
  refine WR.iteF (by show decide (k + (wtAs p.acts : Int) < 0) = false; rw [decide_eq_false]; omega) ?_
  refine WR.ev (ev_heldIntS (k + wtAs p.acts) p.gives.length hp.2.1 (by omega) (by omega)) rfl rfl rfl ?_
  refine WR.iteF (by show decide (k + (wtAs p.acts : Int) + p.gives.length < 0) = false; rw [decide_eq_false]; omega) ?_
  refine WR.ev (ev_heldIntS (k + wtAs p.acts + p.gives.length) p.start.length hp.2.2 (by omega) (by omega)) rfl rfl rfl ?_
  refine WR.iteF (by show decide (k + (wtAs p.acts : Int) + p.gives.length + p.start.length < 0) = false; rw [decide_eq_false]; omega) (WR.done ?_)
  show [dI (k + wtAs p.acts + p.gives.length + p.start.length)] = _
  rw [show k + wtAs p.acts + p.gives.length + p.start.length = k + wtPln p by unfold wtPln; push_cast; omega]

/-! ### The clerk, from any number on -/

def mkCl (q : Int) (s : Clk) : Clk := ⟨s.up, s.round, cnt q s.base.length, mkAll Don.w Don.mk' (q + s.base.length) s.done, mkAll Cal.w Cal.mk' (q + s.base.length + wts Don.w s.done) s.wants, mkAll Got.w Got.mk' (q + s.base.length + wts Don.w s.done + wts Cal.w s.wants) s.got⟩

theorem ev_mkClkClerk (s : Clk) (hs : fitClk s) (k : Int) (h0 : 0 ≤ k) (hw : k + wtClk s ≤ 1000000000000) : Ev L f_laws_markClkClerk (s.cells ++ [dI k]) [dI (k + wtClk s), .s (dL (mkCl k s).base), .s (dDs (mkCl k s).done), .s (dCs (mkCl k s).wants), .s (dGs (mkCl k s).got)] := by
  unfold wtClk at hw
  refine Ev.eq (vs := [.b s.up, .i s.round, .l (dL s.base), .l (dDs s.done), .l (dCs s.wants), .l (dGs s.got), .i k]) L_laws_markClkClerk rfl ?_
  refine WR.ev (ev_markIntS s.base k hs.b (by omega) (by omega)) rfl rfl rfl ?_
  refine WR.ev (ev_markPlnDoneS s.done (k + s.base.length) hs.d hs.dt (by omega) (by omega)) rfl rfl rfl ?_
  refine WR.ev (ev_markPlnCallS s.wants (k + s.base.length + wts Don.w s.done) hs.c hs.ct (by omega) (by omega)) rfl rfl rfl ?_
  refine WR.ev (ev_markClkGotS s.got (k + s.base.length + wts Don.w s.done + wts Cal.w s.wants) hs.g hs.gt (by omega) (by omega)) rfl rfl rfl ?_
  refine WR.done ?_
  show [dI (k + s.base.length + wts Don.w s.done + wts Cal.w s.wants + wts Got.w s.got), _, _, _, _] = _
  rw [show k + s.base.length + wts Don.w s.done + wts Cal.w s.wants + wts Got.w s.got = k + wtClk s by unfold wtClk; push_cast; omega]
  rfl

theorem ev_hdClkClerk (s : Clk) (hs : fitClk s) (k : Int) (h0 : 0 ≤ k) (hw : k + wtClk s ≤ 1000000000000) : Ev L f_laws_heldClkClerk ((mkCl k s).cells ++ [dI k]) [dI (k + wtClk s)] := by
  unfold wtClk at hw
  refine Ev.eq (vs := [.b s.up, .i s.round, .l (dL (mkCl k s).base), .l (dDs (mkCl k s).done), .l (dCs (mkCl k s).wants), .l (dGs (mkCl k s).got), .i k]) L_laws_heldClkClerk rfl ?_
  refine WR.ev (ev_heldIntS k s.base.length hs.b (by omega) (by omega)) rfl rfl rfl ?_
  refine WR.iteF (by show decide (k + (s.base.length : Int) < 0) = false; rw [decide_eq_false]; omega) ?_
  refine WR.ev (ev_heldPlnDoneS s.done (k + s.base.length) hs.d hs.dt (by omega) (by omega)) rfl rfl rfl ?_
  refine WR.iteF (by show decide (k + (s.base.length : Int) + wts Don.w s.done < 0) = false; rw [decide_eq_false]; omega) ?_
  refine WR.ev (ev_heldPlnCallS s.wants (k + s.base.length + wts Don.w s.done) hs.c hs.ct (by omega) (by omega)) rfl rfl rfl ?_
  refine WR.iteF (by show decide (k + (s.base.length : Int) + wts Don.w s.done + wts Cal.w s.wants < 0) = false; rw [decide_eq_false]; omega) ?_
  refine WR.ev (ev_heldClkGotS s.got (k + s.base.length + wts Don.w s.done + wts Cal.w s.wants) hs.g hs.gt (by omega) (by omega)) rfl rfl rfl ?_
  refine WR.iteF (by show decide (k + (s.base.length : Int) + wts Don.w s.done + wts Cal.w s.wants + wts Got.w s.got < 0) = false; rw [decide_eq_false]; omega) (WR.done ?_)
  show [dI (k + s.base.length + wts Don.w s.done + wts Cal.w s.wants + wts Got.w s.got)] = _
  rw [show k + s.base.length + wts Don.w s.done + wts Cal.w s.wants + wts Got.w s.got = k + wtClk s by unfold wtClk; push_cast; omega]

end Go.Proofs.YtnmiphelhfphaaaGreat

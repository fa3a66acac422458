import Derived.Test.YtgiejmanbmeloaaGreatDoorPZG
import Derived.Test.YtgiejmanbmeloaaGreatDoorPZ
import Derived.Test.YtgiejmanbmeloaaGreatDoorPN
import Derived.Test.YtgiejmanbmeloaaGreatDoorTd
import Derived.Laws.Strings
import Derived.Lib.ItoaLen
set_option linter.unusedVariables false
set_option linter.unusedSimpArgs false
/- The program's ClkNew answers as the reference's: over residual programs. -/
namespace Go.Proofs.YtgiejmanbmeloaaGreatDoor
open Go Go.Tm
theorem ev_eqClkGot (a b : Got) (hl : a.added.length ≤ 2000000) (hl2 : a.seqs.length ≤ 2000000) : Ev L f_k4t (a.cells ++ b.cells) [dB (decide (a = b))] := by
  refine Ev.eq (vs := [.b a.has,.l (dL a.added),.l (dL a.seqs),.b b.has,.l (dL b.added),.l (dL b.seqs)]) L_k4t rfl ?_
  have e : decide (a = b) = (decide (a.has = b.has) && (decide (a.added = b.added) && decide (a.seqs = b.seqs))) := by
    obtain ⟨a1,a2,a3⟩ := a
    obtain ⟨b1,b2,b3⟩ := b
    simp only [Got.mk.injEq]
    by_cases h1 : a1 = b1 <;> by_cases h2 : a2 = b2 <;> by_cases h3 : a3 = b3 <;> simp [h1,h2,h3]
  rw [e]
  refine WR.iteN (decide (a.has = b.has)) (by show (!(a.has == b.has)) = _; cases a.has <;> cases b.has <;> rfl) (fun h => WR.done (by show [dB false] = _; rw [h]; rfl)) (fun h => ?_)
  refine WR.ev (ev_eqIntS a.added b.added hl) rfl rfl rfl ?_
  refine WR.iteN (decide (a.added = b.added)) rfl (fun h2 => WR.done (by show [dB false] = _; rw [h,h2]; rfl)) (fun h2 => ?_)
  refine WR.ev (ev_eqIntS a.seqs b.seqs hl2) rfl rfl rfl ?_
  refine WR.iteN (decide (a.seqs = b.seqs)) rfl (fun h3 => WR.done (by show [dB false] = _; rw [h,h2,h3]; rfl)) (fun h3 => WR.done (by show [dB true] = _; rw [h,h2,h3]; rfl))
theorem ev_eqClkGotS (a b : List Got) (hl : a.length ≤ 2000000) (ht : ∀ d ∈ a,d.added.length ≤ 2000000 ∧ d.seqs.length ≤ 2000000) : Ev L f_k4u [.s (dGs a),.s (dGs b)] [dB (decide (a = b))] :=
  ev_sameC (g := f_k4t) (sh := .g [.b,.s,.s]) (as := [(.vb (.v 3)),(.s (.v 4)),(.s (.v 5)),(.vb (.v 6)),(.s (.v 7)),(.s (.v 8))]) (k1 := 6) (k2 := 9)
    Got.g (fun x => [.b x.has,.l (dL x.added),.l (dL x.seqs)]) Got.cells a b
    L_k4u rfl (fun _ => rfl) (fun _ => rfl) (fun _ => rfl) (fun _ _ _ _ _ => rfl) (fun x hx y => ev_eqClkGot x y (ht x hx).1 (ht x hx).2) hl
theorem ev_eqPlnCall (a b : Cal) (hl : a.args.length ≤ 2000000) : Ev L f_k4h (a.cells ++ b.cells) [dB (decide (a = b))] := by
  refine Ev.eq (vs := [.i a.client,.i a.seq,.i a.act,.l (dL a.args),.i b.client,.i b.seq,.i b.act,.l (dL b.args)]) L_k4h rfl ?_
  have e : decide (a = b) = (decide (a.client = b.client) && (decide (a.seq = b.seq) && (decide (a.act = b.act) && decide (a.args = b.args)))) := by
    obtain ⟨a1,a2,a3,a4⟩ := a
    obtain ⟨b1,b2,b3,b4⟩ := b
    simp only [Cal.mk.injEq]
    by_cases h1 : a1 = b1 <;> by_cases h2 : a2 = b2 <;> by_cases h3 : a3 = b3 <;> by_cases h4 : a4 = b4 <;> simp [h1,h2,h3,h4]
  rw [e]
  refine WR.iteN (decide (a.client = b.client)) rfl (fun h => WR.done (by show [dB false] = _; rw [h]; rfl)) (fun h => ?_)
  refine WR.iteN (decide (a.seq = b.seq)) rfl (fun h2 => WR.done (by show [dB false] = _; rw [h,h2]; rfl)) (fun h2 => ?_)
  refine WR.iteN (decide (a.act = b.act)) rfl (fun h3 => WR.done (by show [dB false] = _; rw [h,h2,h3]; rfl)) (fun h3 => ?_)
  refine WR.ev (ev_eqIntS a.args b.args hl) rfl rfl rfl ?_
  refine WR.iteN (decide (a.args = b.args)) rfl (fun h4 => WR.done (by show [dB false] = _; rw [h,h2,h3,h4]; rfl)) (fun h4 => WR.done (by show [dB true] = _; rw [h,h2,h3,h4]; rfl))
theorem ev_eqPlnCallS (a b : List Cal) (hl : a.length ≤ 2000000) (ht : ∀ d ∈ a,d.args.length ≤ 2000000) : Ev L f_k4s [.s (dCs a),.s (dCs b)] [dB (decide (a = b))] :=
  ev_sameC (g := f_k4h) (sh := .g [.i .i64,.i .i64,.i .i64,.s]) (as := [(.vi .i64 (.v 3)),(.vi .i64 (.v 4)),(.vi .i64 (.v 5)),(.s (.v 6)),(.vi .i64 (.v 7)),(.vi .i64 (.v 8)),(.vi .i64 (.v 9)),(.s (.v 10))]) (k1 := 7) (k2 := 11)
    Cal.g (fun x => [.i x.client,.i x.seq,.i x.act,.l (dL x.args)]) Cal.cells a b
    L_k4s rfl (fun _ => rfl) (fun _ => rfl) (fun _ => rfl) (fun _ _ _ _ _ => rfl) (fun x hx y => ev_eqPlnCall x y (ht x hx)) hl
theorem ev_markPlnCallS (l : List Cal) (k : Int) (hl : l.length ≤ 2000000) (ht : ∀ d ∈ l,d.args.length ≤ 2000000) (h0 : 0 ≤ k) (h1 : k + wts Cal.w l ≤ 1000000000000) :
    Ev L f_k51 [.s (dCs l),dI k] [dI (k + wts Cal.w l),.s (dCs (mkAll Cal.w Cal.mk' k l))] :=
  ev_markLoop Cal.g Cal.w Cal.mk' l k L_k51 rfl h0 h1 hl fun v0 v1 es i x q hx hxi hi hq0 hq1 => by
    have hil : i < es.length := (List.getElem?_eq_some_iff.1 hxi).1
    have hxt := ht x hx
    have hw : x.w = 3 + x.args.length := rfl
    have e1 : IntKind.i64.wrap (q + 1) = q + 1 := w64 (by omega) (by omega)
    have e2 : IntKind.i64.wrap (q + 1 + 1) = q + 1 + 1 := w64 (by omega) (by omega)
    have e3 : IntKind.i64.wrap (q + 1 + 1 + 1) = q + 1 + 1 + 1 := w64 (by omega) (by omega)
    refine WR.atN (vs := [.i x.client,.i x.seq,.i x.act,.l (dL x.args)]) (ds := es) i hxi rfl rfl rfl rfl rfl rfl ?_
    simp only [sC,sN]
    generalize hes1 : es.set i (.g [dI q,dI x.seq,dI x.act,.s (dL x.args)]) = es1
    have hl1 : es1.length = es.length := by rw [← hes1]; simp
    refine WR.atN (vs := [.i q,.i x.seq,.i x.act,.l (dL x.args)]) (ds := es1) (d := .g [dI q,dI x.seq,dI x.act,.s (dL x.args)]) i (by rw [← hes1]; exact set_at _ hil) rfl (by rw [hl1]; rfl) rfl (by rw [← hes1]; rfl) rfl rfl ?_
    simp only [sC,sN]
    generalize hes2 : es1.set i (.g [dI q,dI (q + 1),dI x.act,.s (dL x.args)]) = es2
    have hl2 : es2.length = es.length := by rw [← hes2]; simp [hl1]
    have hes2' : es2 = (es.set i (.g [dI q,dI x.seq,dI x.act,.s (dL x.args)])).set i (.g [dI q,dI (IntKind.i64.wrap (q + 1)),dI x.act,.s (dL x.args)]) := by rw [e1,hes1,hes2]
    refine WR.atN (vs := [.i q,.i (q + 1),.i x.act,.l (dL x.args)]) (ds := es2) (d := .g [dI q,dI (q + 1),dI x.act,.s (dL x.args)]) i (by rw [← hes2]; exact set_at _ (by omega)) rfl (by rw [hl2]; rfl) rfl (by rw [hes2']; rfl) rfl rfl ?_
    simp only [sC,sN]
    generalize hes3 : es2.set i (.g [dI q,dI (q + 1),dI (q + 1 + 1),.s (dL x.args)]) = es3
    have hl3 : es3.length = es.length := by rw [← hes3]; simp [hl2]
    have hes3' : es3 = ((es.set i (.g [dI q,dI x.seq,dI x.act,.s (dL x.args)])).set i (.g [dI q,dI (IntKind.i64.wrap (q + 1)),dI x.act,.s (dL x.args)])).set i (.g [dI q,dI (q + 1),dI (IntKind.i64.wrap (IntKind.i64.wrap (q + 1) + 1)),.s (dL x.args)]) := by rw [e1,e2,hes1,hes2,hes3]
    refine WR.atN (vs := [.i q,.i (q + 1),.i (q + 1 + 1),.l (dL x.args)]) (ds := es3) (d := .g [dI q,dI (q + 1),dI (q + 1 + 1),.s (dL x.args)]) i (by rw [← hes3]; exact set_at _ (by omega)) rfl (by rw [hl3]; rfl) rfl (by rw [hes3']; rfl) rfl rfl ?_
    simp only [sC,sN]
    refine WR.ev (vs := [.i (q + 1 + 1 + 1 + x.args.length),.l (dL (cnt (q + 1 + 1 + 1) x.args.length))]) (ev_markIntS x.args (q + 1 + 1 + 1) hxt (by omega) (by omega)) rfl ?_ rfl ?_
    · show [D.s (dL x.args),dI (IntKind.i64.wrap (IntKind.i64.wrap (IntKind.i64.wrap (q + 1) + 1) + 1))] = _
      rw [e1,e2,e3]
    simp only [sC,sN]
    refine WR.chk ?_ ?_
    · show decide (((dL (cnt (q + 1 + 1 + 1) x.args.length)).length : Int) = ((dL x.args).length : Int)) = true
      rw [dL1,dL1,cnt_len]; simp
    refine WR.nextA ?_ rfl
    show [V.l ((((es.set i (.g [dI q,dI x.seq,dI x.act,.s (dL x.args)])).set i (.g [dI q,dI (IntKind.i64.wrap (q + 1)),dI x.act,.s (dL x.args)])).set i (.g [dI q,dI (q + 1),dI (IntKind.i64.wrap (IntKind.i64.wrap (q + 1) + 1)),.s (dL x.args)])).set i (.g [dI q,dI (q + 1),dI (q + 1 + 1),.s (dL (cnt (q + 1 + 1 + 1) x.args.length))])),V.i (q + 1 + 1 + 1 + x.args.length),V.i (IntKind.i64.wrap ((i : Int) + 1))] = _
    rw [wS' (by omega),List.set_set,List.set_set,List.set_set,show q + 1 + 1 + 1 + (x.args.length : Int) = q + (x.w : Nat) by rw [hw]; push_cast; omega]
    rfl
theorem ev_markClkGotS (l : List Got) (k : Int) (hl : l.length ≤ 2000000) (ht : ∀ d ∈ l,d.added.length ≤ 2000000 ∧ d.seqs.length ≤ 2000000) (h0 : 0 ≤ k) (h1 : k + wts Got.w l ≤ 1000000000000) :
    Ev L f_k52 [.s (dGs l),dI k] [dI (k + wts Got.w l),.s (dGs (mkAll Got.w Got.mk' k l))] :=
  ev_markLoop Got.g Got.w Got.mk' l k L_k52 rfl h0 h1 hl fun v0 v1 es i x q hx hxi hi hq0 hq1 => by
    have hil : i < es.length := (List.getElem?_eq_some_iff.1 hxi).1
    obtain ⟨hx1,hx2⟩ := ht x hx
    have hw : x.w = 1 + x.added.length + x.seqs.length := rfl
    have e1 : IntKind.i64.wrap (q + 1) = q + 1 := w64 (by omega) (by omega)
    generalize hB : decide (q.tmod 3 = 0) = B
    refine WR.chk rfl ?_
    refine WR.atN (vs := [.b x.has,.l (dL x.added),.l (dL x.seqs)]) (ds := es) i hxi rfl rfl rfl rfl rfl rfl ?_
    simp only [sC,sN]
    generalize hes1 : es.set i (.g [dB B,.s (dL x.added),.s (dL x.seqs)]) = es1
    have hl1 : es1.length = es.length := by rw [← hes1]; simp
    have hes1' : es1 = es.set i (.g [dB (decide (q.tmod 3 = 0)),.s (dL x.added),.s (dL x.seqs)]) := by rw [hB,hes1]
    refine WR.atN (vs := [.b B,.l (dL x.added),.l (dL x.seqs)]) (ds := es1) (d := .g [dB B,.s (dL x.added),.s (dL x.seqs)]) i (by rw [← hes1]; exact set_at _ hil) rfl (by rw [hl1]; rfl) rfl (by rw [hes1']; rfl) rfl rfl ?_
    simp only [sC,sN]
    refine WR.ev (vs := [.i (q + 1 + x.added.length),.l (dL (cnt (q + 1) x.added.length))]) (ev_markIntS x.added (q + 1) hx1 (by omega) (by omega)) rfl ?_ rfl ?_
    · show [D.s (dL x.added),dI (IntKind.i64.wrap (q + 1))] = _
      rw [e1]
    simp only [sC,sN]
    refine WR.chk ?_ ?_
    · show decide (((dL (cnt (q + 1) x.added.length)).length : Int) = ((dL x.added).length : Int)) = true
      rw [dL1,dL1,cnt_len]; simp
    generalize hes2 : es1.set i (.g [dB B,.s (dL (cnt (q + 1) x.added.length)),.s (dL x.seqs)]) = es2
    have hl2 : es2.length = es.length := by rw [← hes2]; simp [hl1]
    refine WR.atN (vs := [.b B,.l (dL (cnt (q + 1) x.added.length)),.l (dL x.seqs)]) (ds := es2) (d := .g [dB B,.s (dL (cnt (q + 1) x.added.length)),.s (dL x.seqs)]) i (by rw [← hes2]; exact set_at _ (by omega)) rfl (by rw [hl2]; rfl) rfl (by rw [← hes2,hes1']; rfl) rfl rfl ?_
    simp only [sC,sN]
    refine WR.ev (vs := [.i (q + 1 + x.added.length + x.seqs.length),.l (dL (cnt (q + 1 + x.added.length) x.seqs.length))]) (ev_markIntS x.seqs (q + 1 + x.added.length) hx2 (by omega) (by omega)) rfl rfl rfl ?_
    simp only [sC,sN]
    refine WR.chk ?_ ?_
    · show decide (((dL (cnt (q + 1 + x.added.length) x.seqs.length)).length : Int) = ((dL x.seqs).length : Int)) = true
      rw [dL1,dL1,cnt_len]; simp
    refine WR.nextA ?_ rfl
    show [V.l (((es.set i (.g [dB (decide (q.tmod 3 = 0)),.s (dL x.added),.s (dL x.seqs)])).set i (.g [dB B,.s (dL (cnt (q + 1) x.added.length)),.s (dL x.seqs)])).set i (.g [dB B,.s (dL (cnt (q + 1) x.added.length)),.s (dL (cnt (q + 1 + x.added.length) x.seqs.length))])),V.i (q + 1 + x.added.length + x.seqs.length),V.i (IntKind.i64.wrap ((i : Int) + 1))] = _
    rw [wS' (by omega),List.set_set,List.set_set,show q + 1 + (x.added.length : Int) + x.seqs.length = q + (x.w : Nat) by rw [hw]; push_cast; omega,← hB]
    rfl
structure Clk where
  up : Bool
  round : Int
  base : List Int
  done : List Don
  wants : List Cal
  got : List Got
  deriving DecidableEq
def Clk.cells (s : Clk) : List D := [dB s.up,dI s.round,.s (dL s.base),.s (dDs s.done),.s (dCs s.wants),.s (dGs s.got)]
structure fitClk (s : Clk) : Prop where
  b : s.base.length ≤ 2000000
  d : s.done.length ≤ 2000000
  dt : ∀ d ∈ s.done,d.tells.length ≤ 2000000
  c : s.wants.length ≤ 2000000
  ct : ∀ d ∈ s.wants,d.args.length ≤ 2000000
  g : s.got.length ≤ 2000000
  gt : ∀ d ∈ s.got,d.added.length ≤ 2000000 ∧ d.seqs.length ≤ 2000000
def wtClk (s : Clk) : Nat := s.base.length + wts Don.w s.done + wts Cal.w s.wants + wts Got.w s.got
theorem ev_eqClkClerk (s : Clk) (hs : fitClk s) : Ev L f_k4v (s.cells ++ s.cells) [dB true] := by
  refine Ev.eq (vs := [.b s.up,.i s.round,.l (dL s.base),.l (dDs s.done),.l (dCs s.wants),.l (dGs s.got),.b s.up,.i s.round,.l (dL s.base),.l (dDs s.done),.l (dCs s.wants),.l (dGs s.got)]) L_k4v rfl ?_
  have h1 := ev_eqIntS s.base s.base hs.b
  have h2 := ev_eqPlnDoneS s.done s.done hs.d hs.dt
  have h3 := ev_eqPlnCallS s.wants s.wants hs.c hs.ct
  have h4 := ev_eqClkGotS s.got s.got hs.g hs.gt
  rw [decide_eq_true rfl] at h1 h2 h3 h4
  refine WR.iteF (by show (!(s.up == s.up)) = false; simp) ?_
  refine WR.iteF (by show (!decide (s.round = s.round)) = false; simp) ?_
  refine WR.ev h1 rfl rfl rfl (WR.iteF rfl ?_)
  refine WR.ev h2 rfl rfl rfl (WR.iteF rfl ?_)
  refine WR.ev h3 rfl rfl rfl (WR.iteF rfl ?_)
  exact WR.ev h4 rfl rfl rfl (WR.iteF rfl (WR.done rfl))
def got0 : Got := ⟨false,[],[]⟩
end Go.Proofs.YtgiejmanbmeloaaGreatDoor
/- The program's LocTry answers as the reference's: over residual programs. -/
namespace Go.Proofs.YtgiejmanbmeloaaGreatDoor
open Go Go.Tm
end Go.Proofs.YtgiejmanbmeloaaGreatDoor
/- Marks,and what is held,of plans,sites and clients: over residual programs. Printed by wip/tools/pzl.py. -/
namespace Go.Proofs.YtgiejmanbmeloaaGreatDoor
open Go Go.Tm
def Sit.w (s : Sit) : Nat := 3 + s.base.length + s.added.length + wts Don.w s.done
def Sit.mk' (q : Int) (s : Sit) : Sit := ⟨decide (q.tmod 3 = 0),decide ((q + 1).tmod 3 = 0),q + 1 + 1,cnt (q + 1 + 1 + 1) s.base.length,cnt (q + 1 + 1 + 1 + s.base.length) s.added.length,
  mkAll Don.w Don.mk' (q + 1 + 1 + 1 + s.base.length + s.added.length) s.done⟩
def Sit.g (s : Sit) : D := .g s.cells
structure Con where
  seq : Int
  busy : Bool
  call : Cal
  code : Int
  tells : List Int
  deriving DecidableEq
def Con.cells (s : Con) : List D := [dI s.seq,dB s.busy,dI s.call.client,dI s.call.seq,dI s.call.act,.s (dL s.call.args),dI s.code,.s (dL s.tells)]
def Con.g (s : Con) : D := .g s.cells
def Con.w (s : Con) : Nat := 6 + s.call.args.length + s.tells.length
def Con.mk' (q : Int) (s : Con) : Con := ⟨q,decide ((q + 1).tmod 3 = 0),⟨q + 1 + 1,q + 1 + 1 + 1,q + 1 + 1 + 1 + 1,cnt (q + 1 + 1 + 1 + 1 + 1) s.call.args.length⟩,q + 1 + 1 + 1 + 1 + 1 + s.call.args.length,
  cnt (q + 1 + 1 + 1 + 1 + 1 + s.call.args.length + 1) s.tells.length⟩
end Go.Proofs.YtgiejmanbmeloaaGreatDoor
/- The program's WldNew answers as the reference's: over residual programs. -/
namespace Go.Proofs.YtgiejmanbmeloaaGreatDoor
open Go Go.Tm
theorem ev_selfC {α : Type} {f g : FuncId} {H : Hint} {s : Sig} {sh : Sh} {as : List E} {k1 k2 : Nat} (enc : α → D) (vsOf : α → List V) (args : α → List D) (a : List α) (hf : L.lookup f = some ⟨s,.r H (sameCR g sh as k1 k2)⟩) (hs : insOf s = [.s,.s])
    (hb : ∀ x,bindSh sh (enc x) = some (vsOf x)) (hk1 : ∀ x,3 + (vsOf x).length = k1) (hk2 : ∀ x,k1 + (vsOf x).length = k2)
    (ha : ∀ (v0 v1 v2 : V) (x y : α),as.map (dat (envL ([v0,v1,v2] ++ vsOf x ++ vsOf y))) = args x ++ args y)
    (hc : ∀ x ∈ a,Ev L g (args x ++ args x) [dB true]) (hl : a.length ≤ 2000000) :
    Ev L f [.s (a.map enc),.s (a.map enc)] [dB true] := by
  refine Ev.eq (vs := [.l (a.map enc),.l (a.map enc)]) hf (by rw [hs]; rfl) ?_
  refine WR.iteF (by show (!(decide (((a.map enc).length : Int) = ((a.map enc).length : Int)))) = false; simp) ?_
  refine WR.forP a.length (fun i => [.i i]) (fun _ => True) rfl rfl trivial fun i hi _ => ?_
  refine WR.iteLen i (List.length_map (f := enc) (as := a)) rfl (fun h' => ?_) (fun h' => WR.esc (WR.done rfl))
  obtain ⟨x,hx,hmx⟩ := sA1 h'
  have k1x := hk1 x
  have k2x := hk2 x
  refine WR.idxN i (mA1 (f := enc) hx) rfl rfl rfl (hb x) ?_
  refine WR.idxN i (mA1 (f := enc) hx) (by simp; omega) rfl rfl (hb x) ?_
  refine WR.call (ds := [dB true]) (vs := [.b true]) (by simp; omega) (by
    show Ev L g (as.map (dat (envL ([V.l (a.map enc),.l (a.map enc),.i i] ++ vsOf x ++ vsOf x)))) _
    rw [ha]; exact hc x hmx) rfl ?_
  have e1 : ∀ (t : V),envL ([V.l (a.map enc),.l (a.map enc),.i i] ++ vsOf x ++ vsOf x ++ [t]) k2 = t := by
    intro t
    unfold envL
    rw [List.getD_eq_getElem?_getD,List.getElem?_append_right (by simp; omega)]
    rw [show k2 - ([V.l (a.map enc),.l (a.map enc),.i i] ++ vsOf x ++ vsOf x).length = 0 by simp; omega]; rfl
  refine WR.iteF (by show (!(den (envL ([V.l (a.map enc),.l (a.map enc),.i i] ++ vsOf x ++ vsOf x ++ [V.b true])) (.v k2)).bool) = _; simp only [den,e1]; rfl) ?_
  refine WR.nextA (vs := [.i ((i + 1 : Nat) : Int)]) ?_ ⟨h',rfl,trivial⟩
  show [V.i (IntKind.i64.wrap ((i : Int) + 1))] = _
  rw [wS h' (by omega)]
def mkCl (q : Int) (s : Clk) : Clk := ⟨s.up,s.round,cnt q s.base.length,mkAll Don.w Don.mk' (q + s.base.length) s.done,mkAll Cal.w Cal.mk' (q + s.base.length + wts Don.w s.done) s.wants,mkAll Got.w Got.mk' (q + s.base.length + wts Don.w s.done + wts Cal.w s.wants) s.got⟩
theorem ev_mkClkClerk (s : Clk) (hs : fitClk s) (k : Int) (h0 : 0 ≤ k) (hw : k + wtClk s ≤ 1000000000000) : Ev L f_k53 (s.cells ++ [dI k]) [dI (k + wtClk s),.s (dL (mkCl k s).base),.s (dDs (mkCl k s).done),.s (dCs (mkCl k s).wants),.s (dGs (mkCl k s).got)] := by
  unfold wtClk at hw
  refine Ev.eq (vs := [.b s.up,.i s.round,.l (dL s.base),.l (dDs s.done),.l (dCs s.wants),.l (dGs s.got),.i k]) L_k53 rfl ?_
  refine WR.ev (ev_markIntS s.base k hs.b (by omega) (by omega)) rfl rfl rfl ?_
  refine WR.ev (ev_markPlnDoneS s.done (k + s.base.length) hs.d hs.dt (by omega) (by omega)) rfl rfl rfl ?_
  refine WR.ev (ev_markPlnCallS s.wants (k + s.base.length + wts Don.w s.done) hs.c hs.ct (by omega) (by omega)) rfl rfl rfl ?_
  refine WR.ev (ev_markClkGotS s.got (k + s.base.length + wts Don.w s.done + wts Cal.w s.wants) hs.g hs.gt (by omega) (by omega)) rfl rfl rfl ?_
  refine WR.done ?_
  show [dI (k + s.base.length + wts Don.w s.done + wts Cal.w s.wants + wts Got.w s.got),_,_,_,_] = _
  rw [show k + s.base.length + wts Don.w s.done + wts Cal.w s.wants + wts Got.w s.got = k + wtClk s by unfold wtClk; push_cast; omega]
  rfl
end Go.Proofs.YtgiejmanbmeloaaGreatDoor
/- Results as texts: which of them are ok. -/
namespace Go.Proofs.YtgiejmanbmeloaaGreatDoor
open Go Go.Tm
def resOk (c : Int) (t : List Int) : Bool := inB c 1 3 && (decide (t.length ≤ 6) && ((decide (c = 1) || t.isEmpty) && allIn t.length 999999999999 t))
theorem resOk_iff {c : Int} {t : List Int} : resOk c t = true ↔ (1 ≤ c ∧ c ≤ 3) ∧ t.length ≤ 6 ∧ (c = 1 ∨ t = []) ∧ Lim 999999999999 t := by
  unfold resOk inB
  simp only [Bool.and_eq_true,Bool.or_eq_true,decide_eq_true_eq,List.isEmpty_iff,allIn_iff]
  exact ⟨fun h => ⟨h.1,h.2.1,h.2.2.1,h.2.2.2.2⟩,fun h => ⟨h.1,h.2.1,h.2.2.1,trivial,h.2.2.2⟩⟩
def wordsB : List (List UInt8) := [[],[100,111,110,101],[115,116,111,112,112,101,100],[111,118,101,114]]
def resB (c : Int) (t : List Int) : List UInt8 := if resOk c t then wordsB.getD c.toNat [] ++ joinB t else []
theorem ba_app (a b : List UInt8) : (⟨a.toArray⟩ : ByteArray) ++ ⟨b.toArray⟩ = ⟨(a ++ b).toArray⟩ := by
  apply ByteArray.ext
  simp
theorem cat_str {a b : List UInt8} (h : a.length + b.length ≤ 1000000) : primF .cat [strD a,strD b] = some (strD (a ++ b)) := by
  show (if (⟨a.toArray⟩ : ByteArray).size + (⟨b.toArray⟩ : ByteArray).size ≤ 2 ^ 62 then some (D.v (.string ((⟨a.toArray⟩ : ByteArray) ++ ⟨b.toArray⟩))) else none) = _
  rw [if_pos,ba_app]
  · rfl
  show a.toArray.size + b.toArray.size ≤ 2 ^ 62
  simp only [List.size_toArray]
  omega
theorem seq_str (a b : List UInt8) : primF .seq [strD a,strD b] = some (dB (a == b)) := by
  show some (D.v (.bool ((⟨a.toArray⟩ : ByteArray).toList == (⟨b.toArray⟩ : ByteArray).toList))) = _
  rw [ByteArray.toList_mk,ByteArray.toList_mk]
theorem joinB_le (t : List Int) (hl : Lim 999999999999 t) : (joinB t).length ≤ 22 * t.length := by
  induction t with
  | nil => simp [joinB]
  | cons n l ih =>
    have h1 := hl n (by simp)
    have h2 := Lib.itoa_length_le n (by omega) (by omega)
    have h3 := ih fun m hm => hl m (by simp [hm])
    simp only [joinB,List.flatMap_cons,List.length_append,List.length_cons] at h3 ⊢
    omega
theorem word_at {c : Int} (h : inB c 1 3 = true) : wordsB[c.toNat]? = some (wordsB.getD c.toNat []) ∧ wordsB.getD c.toNat [] ≠ [] ∧ (wordsB.getD c.toNat []).length ≤ 7 := by
  unfold inB at h
  simp only [Bool.and_eq_true,decide_eq_true_eq] at h
  rcases (show c = 1 ∨ c = 2 ∨ c = 3 by omega) with rfl | rfl | rfl <;> exact ⟨rfl,by decide,by decide⟩
theorem resB_empty (c : Int) (t : List Int) : (resB c t == []) = !resOk c t := by
  unfold resB
  split
  · rename_i h
    have hin : inB c 1 3 = true := by unfold resOk at h; simp only [Bool.and_eq_true] at h; exact h.1
    have := (word_at hin).2.1
    rw [h]
    have h2 : wordsB.getD c.toNat [] ++ joinB t ≠ [] := fun e => this (List.append_eq_nil_iff.1 e).1
    generalize wordsB.getD c.toNat [] ++ joinB t = l at h2
    cases l with
    | nil => exact absurd rfl h2
    | cons x l => rfl
  · rename_i h
    simp [h]
theorem ev_joined (t : List Int) (h6 : t.length ≤ 6) (hl : Lim 999999999999 t) : Ev L f_k3j [.s (dL t)] [strD (joinB t)] := by
  refine Ev.m L_k3j ?_
  show (if (dL t).length ≤ 4096 then ((dL t).mapM i64D).map fun l => [strD (joinB l)] else none) = _
  have e : (dL t).mapM i64D = some t := mapM_i64_of fun n hn => by have := hl n hn; omega
  rw [if_pos (by rw [dL1]; omega),e]
  rfl
theorem ev_codeWords : Ev L f_k3i [] [.s (wordsB.map strD)] :=
  Ev.eq (vs := []) L_k3i rfl (WR.done rfl)
theorem ev_iResText (c : Int) (t : List Int) (ht : t.length ≤ 2000000) : Ev L f_k3k [dI c,.s (dL t)] [strD (resB c t)] := by
  refine Ev.eq (vs := [.i c,.l (dL t)]) L_k3k rfl ?_
  have no : resOk c t = false → ([strD []] : List D) = [strD (resB c t)] := fun h => by simp [resB,h]
  refine WR.ev (ev_in c 1 3) rfl rfl rfl ?_
  refine WR.iteN (inB c 1 3) rfl (fun h => WR.done (no (by simp [resOk,h]))) (fun h1 => ?_)
  refine WR.iteP (6 < ((dL t).length : Int)) rfl (fun h => WR.done (no ?_)) (fun h2 => ?_)
  · rw [dL1] at h
    simp only [resOk,show ¬ t.length ≤ 6 by omega,decide_false,Bool.false_and,Bool.and_false]
  rw [dL1] at h2
  obtain ⟨w1,_,w3⟩ := word_at h1
  have hidx : (wordsB.map strD)[c.toNat]? = some (strD (wordsB.getD c.toNat [])) := by rw [List.getElem?_map,w1]; rfl
  have hc0 : 0 ≤ c := by unfold inB at h1; simp only [Bool.and_eq_true,decide_eq_true_eq] at h1; omega
  have hc4 : c < ((wordsB.map strD).length : Int) := by unfold inB at h1; simp only [Bool.and_eq_true,decide_eq_true_eq] at h1; show c < 4; omega
  have hwn := ev_within t t.length 999999999999 ht (by omega) (by omega)
  refine WR.iteN (decide (c = 1)) rfl (fun h3 => ?_) (fun h3 => ?_)
  · refine WR.iteP (0 < ((dL t).length : Int)) rfl (fun h => WR.done (no ?_)) (fun h4 => ?_)
    · rw [dL1] at h
      have : t.isEmpty = false := by cases t with
        | nil => simp at h
        | cons x t => rfl
      simp only [resOk,h3,this,Bool.or_false,Bool.false_and,Bool.and_false]
    · rw [dL1] at h4
      have h4 : t = [] := List.length_eq_zero_iff.1 (by omega)
      refine WR.ev hwn rfl (by show [D.s (dL t),dI ((dL t).length : Int),dI 999999999999] = _; rw [dL1]) rfl ?_
      refine WR.iteN (allIn t.length 999999999999 t) rfl (fun h => WR.done (no (by simp only [resOk,h,Bool.and_false]))) (fun h5 => ?_)
      have hl := (allIn_iff.1 h5).2
      have hj := joinB_le t hl
      have hok : resOk c t = true := by simp only [resOk,h1,h5,h4,List.length_nil,List.isEmpty_nil,Bool.or_true,Bool.true_and]; simp [allIn]
      have e : strD (resB c t) = strD (wordsB.getD c.toNat [] ++ joinB t) := by simp only [resB,hok,if_true]
      rw [e]
      refine WR.ev ev_codeWords rfl rfl rfl ?_
      refine WR.chkP (0 ≤ c) rfl hc0 (WR.chkP (c < ((wordsB.map strD).length : Int)) rfl hc4 ?_)
      refine WR.idxA (ds := wordsB.map strD) c rfl rfl rfl hc0 hidx rfl ?_
      refine WR.ev (ev_joined t (by omega) hl) rfl rfl rfl ?_
      refine WR.prim rfl (cat_str (by omega)) rfl (WR.done rfl)
  · refine WR.ev hwn rfl (by show [D.s (dL t),dI ((dL t).length : Int),dI 999999999999] = _; rw [dL1]) rfl ?_
    refine WR.iteN (allIn t.length 999999999999 t) rfl (fun h => WR.done (no (by simp only [resOk,h,Bool.and_false]))) (fun h5 => ?_)
    have hl := (allIn_iff.1 h5).2
    have hj := joinB_le t hl
    have hok : resOk c t = true := by simp only [resOk,h1,h5,h3,Bool.true_or,Bool.true_and,Bool.and_true]; simp; omega
    have e : strD (resB c t) = strD (wordsB.getD c.toNat [] ++ joinB t) := by simp only [resB,hok,if_true]
    rw [e]
    refine WR.ev ev_codeWords rfl rfl rfl ?_
    refine WR.chkP (0 ≤ c) rfl hc0 (WR.chkP (c < ((wordsB.map strD).length : Int)) rfl hc4 ?_)
    refine WR.idxA (ds := wordsB.map strD) c rfl rfl rfl hc0 hidx rfl ?_
    refine WR.ev (ev_joined t (by omega) hl) rfl rfl rfl ?_
    refine WR.prim rfl (cat_str (by omega)) rfl (WR.done rfl)
theorem ev_iResOk (c : Int) (t : List Int) (ht : t.length ≤ 2000000) : Ev L f_k3l [dI c,.s (dL t)] [dB (resOk c t)] := by
  refine Ev.eq (vs := [.i c,.l (dL t)]) L_k3l rfl ?_
  refine WR.ev (ev_iResText c t ht) rfl rfl rfl ?_
  refine WR.prim rfl (seq_str (resB c t) []) rfl (WR.done ?_)
  show [dB (!(resB c t == []))] = _
  rw [resB_empty,Bool.not_not]
end Go.Proofs.YtgiejmanbmeloaaGreatDoor
/- Sizes and copies of calls,of what was done,of sites,clerks and messages: over residual programs. -/
namespace Go.Proofs.YtgiejmanbmeloaaGreatDoor
open Go Go.Tm
def szL {α : Type} (f : α → Nat) (l : List α) : Nat := l.length + (l.map f).sum
theorem szL_succ {α : Type} (f : α → Nat) {l : List α} {i : Nat} {x : α} (h : l[i]? = some x) : ((l.take (i + 1)).map f).sum = ((l.take i).map f).sum + f x := by rw [map_take_succ h]; simp
theorem szL_split {α : Type} (f : α → Nat) (l : List α) (i : Nat) : szL f l = l.length + ((l.take i).map f).sum + ((l.drop i).map f).sum := by
  unfold szL
  conv => lhs; rw [← List.take_append_drop i l,List.map_append,List.sum_append,List.take_append_drop]
  omega
theorem szL_len {α : Type} (f : α → Nat) (l : List α) : l.length ≤ szL f l := by unfold szL; omega
theorem szL_mem {α : Type} (f : α → Nat) {l : List α} {x : α} (h : x ∈ l) : f x ≤ szL f l := by
  have : f x ≤ (l.map f).sum := by
    induction l with
    | nil => simp at h
    | cons y l ih =>
      simp only [List.map_cons,List.sum_cons]
      rcases List.mem_cons.1 h with rfl | h
      · omega
      · have := ih h; omega
  unfold szL; omega
def bigL {α : Type} (f : α → Prop) (l : List α) : Prop := l.length ≤ 9223372036854775807 ∧ ∀ x ∈ l,f x
def fitL {α : Type} (f : α → Prop) (l : List α) : Prop := l.length ≤ 2000000 ∧ ∀ x ∈ l,f x
theorem fitL_of {α : Type} {f : α → Nat} {p : α → Prop} (hp : ∀ x,f x ≤ 1048576 → p x) {l : List α} (h : szL f l ≤ 1048576) : fitL p l :=
  ⟨by have := szL_len f l; omega,fun x hx => hp x (by have := szL_mem f hx; omega)⟩
def szCal (x : Cal) : Nat := x.args.length
def bigCal (x : Cal) : Prop := x.args.length ≤ 9223372036854775807
def fitCal (x : Cal) : Prop := x.args.length ≤ 2000000
theorem fitCal_of {x : Cal} (h : szCal x ≤ 1048576) : fitCal x := by
  unfold szCal at h
  exact by show _ ≤ _; omega
def szDon (x : Don) : Nat := x.tells.length
def bigDon (x : Don) : Prop := x.tells.length ≤ 9223372036854775807
def fitDon (x : Don) : Prop := x.tells.length ≤ 2000000
theorem fitDon_of {x : Don} (h : szDon x ≤ 1048576) : fitDon x := by
  unfold szDon at h
  exact by show _ ≤ _; omega
def szGot (x : Got) : Nat := x.added.length + x.seqs.length
def bigGot (x : Got) : Prop := x.added.length ≤ 9223372036854775807 ∧ x.seqs.length ≤ 9223372036854775807
def fitGot (x : Got) : Prop := x.added.length ≤ 2000000 ∧ x.seqs.length ≤ 2000000
theorem fitGot_of {x : Got} (h : szGot x ≤ 1048576) : fitGot x := by
  unfold szGot at h
  exact ⟨by omega,by omega⟩
theorem ev_szPlnCall (x : Cal) (left : Int) (hb : bigCal x) (h0 : 0 ≤ left) (h1 : left ≤ 1048576) : Ev L f_k9 (x.cells ++ [dI left]) [dI (dec left (szCal x))] := by
  refine Ev.eq (vs := [.i x.client,.i x.seq,.i x.act,.l (dL x.args),.i left]) L_k9 rfl ?_
  refine WR.ev (ev_szIntS x.args left hb h0 h1) rfl rfl rfl ?_
  simp only [sC,sN]
  have hr0 := dec_room (n := x.args.length) h0 h1
  refine WR.iteP (dec left (x.args.length) < 0) rfl (fun h => WR.done ?_) (fun h => WR.done rfl)
  show [dI (-1)] = [dI (dec left (szCal x))]
  have e : dec left (szCal x) = dec left (x.args.length) := rfl
  rw [e,show dec left (x.args.length) = -1 by omega]
theorem ev_szPlnCallS (l : List Cal) (left : Int) (hb : bigL bigCal l) (h0 : 0 ≤ left) (h1 : left ≤ 1048576) : Ev L f_ka [.s (dCs l),dI left] [dI (dec left (szL szCal l))] := by
  refine Ev.eq (vs := [.l (dCs l),.i left]) L_ka rfl ?_
  have hlen : (dCs l).length = l.length := by simp [dCs]
  have hl := hb.1
  have hw : IntKind.i64.wrap (left - ((dCs l).length : Int)) = left - l.length := by rw [hlen]; exact w64 (by omega) (by omega)
  refine WR.iteP (left - (l.length : Int) < 0) ?_ (fun h => WR.done ?_) (fun h => ?_)
  · show decide (IntKind.i64.wrap (left - ((dCs l).length : Int)) < 0) = _
    rw [hw]
  · show [dI (-1)] = _
    unfold dec szL; rw [if_neg (by omega)]
  have hal : l.length ≤ 1048576 := by omega
  refine WR.forP l.length (fun i => [.i (dec left (l.length + ((l.take i).map szCal).sum)),.i i]) (fun i => ¬ dec left (l.length + ((l.take i).map szCal).sum) < 0) rfl ?_ ?_ fun i hi hp => ?_
  · show [V.i (IntKind.i64.wrap (left - ((dCs l).length : Int))),V.i 0] = _
    rw [hw]
    simp only [List.take_zero,List.map_nil,List.sum_nil,Nat.add_zero]
    unfold dec; rw [if_pos (by omega)]; rfl
  · simp only [List.take_zero,List.map_nil,List.sum_nil,Nat.add_zero]
    unfold dec; rw [if_pos (by omega)]; omega
  simp only [sC,sN]
  have hr := dec_room (n := l.length + ((l.take i).map szCal).sum) h0 h1
  refine WR.iteLen i hlen rfl (fun h' => ?_) (fun h' => WR.esc (WR.done ?_))
  · obtain ⟨x,hx,hm⟩ := sA1 h'
    refine WR.idxN (vs := [.i x.client,.i x.seq,.i x.act,.l (dL x.args)]) i (mA1 (f := Cal.g) hx) rfl rfl rfl rfl ?_
    simp only [sC,sN]
    refine WR.ev (ev_szPlnCall x (dec left (l.length + ((l.take i).map szCal).sum)) (hb.2 x hm) (by omega) (by omega)) rfl rfl rfl ?_
    simp only [sC,sN]
    have e := dec_dec (m := szCal x) hp
    rw [Nat.add_assoc,← szL_succ szCal hx] at e
    rw [e]
    refine WR.iteP (dec left (l.length + ((l.take (i + 1)).map szCal).sum) < 0) rfl (fun h2 => WR.esc (WR.done ?_)) (fun h2 => ?_)
    · show [dI (-1)] = _
      rw [szL_split szCal l (i + 1),dec_lt h2 h0]
    · refine WR.nextA (vs := [.i (dec left (l.length + ((l.take (i + 1)).map szCal).sum)),.i ((i + 1 : Nat) : Int)]) ?_ ⟨h',rfl,h2⟩
      rw [← wS h' (by omega)]; rfl
  · show [dI (dec left (l.length + ((l.take i).map szCal).sum))] = _
    rw [tA1 h']; rfl
theorem ev_szResResult (c : Int) (t : List Int) (left : Int) (hb : t.length ≤ 9223372036854775807) (h0 : 0 ≤ left) (h1 : left ≤ 1048576) : Ev L f_k6 [dI c,.s (dL t),dI left] [dI (dec left t.length)] := by
  refine Ev.eq (vs := [.i c,.l (dL t),.i left]) L_k6 rfl ?_
  refine WR.ev (ev_szIntS t left hb h0 h1) rfl rfl rfl ?_
  have hr := dec_room (n := t.length) h0 h1
  refine WR.iteP (dec left t.length < 0) rfl (fun h => WR.done ?_) (fun h => WR.done rfl)
  show [dI (-1)] = _
  rw [show dec left t.length = -1 by omega]
theorem ev_szPlnDone (x : Don) (left : Int) (hb : bigDon x) (h0 : 0 ≤ left) (h1 : left ≤ 1048576) : Ev L f_k7 (x.cells ++ [dI left]) [dI (dec left (szDon x))] := by
  refine Ev.eq (vs := [.i x.seq,.i x.code,.l (dL x.tells),.i left]) L_k7 rfl ?_
  refine WR.ev (ev_szResResult x.code x.tells left hb h0 h1) rfl rfl rfl ?_
  simp only [sC,sN]
  have hr0 := dec_room (n := x.tells.length) h0 h1
  refine WR.iteP (dec left (x.tells.length) < 0) rfl (fun h => WR.done ?_) (fun h => WR.done rfl)
  show [dI (-1)] = [dI (dec left (szDon x))]
  have e : dec left (szDon x) = dec left (x.tells.length) := rfl
  rw [e,show dec left (x.tells.length) = -1 by omega]
theorem ev_szPlnDoneS (l : List Don) (left : Int) (hb : bigL bigDon l) (h0 : 0 ≤ left) (h1 : left ≤ 1048576) : Ev L f_k8 [.s (dDs l),dI left] [dI (dec left (szL szDon l))] := by
  refine Ev.eq (vs := [.l (dDs l),.i left]) L_k8 rfl ?_
  have hlen : (dDs l).length = l.length := by simp [dDs]
  have hl := hb.1
  have hw : IntKind.i64.wrap (left - ((dDs l).length : Int)) = left - l.length := by rw [hlen]; exact w64 (by omega) (by omega)
  refine WR.iteP (left - (l.length : Int) < 0) ?_ (fun h => WR.done ?_) (fun h => ?_)
  · show decide (IntKind.i64.wrap (left - ((dDs l).length : Int)) < 0) = _
    rw [hw]
  · show [dI (-1)] = _
    unfold dec szL; rw [if_neg (by omega)]
  have hal : l.length ≤ 1048576 := by omega
  refine WR.forP l.length (fun i => [.i (dec left (l.length + ((l.take i).map szDon).sum)),.i i]) (fun i => ¬ dec left (l.length + ((l.take i).map szDon).sum) < 0) rfl ?_ ?_ fun i hi hp => ?_
  · show [V.i (IntKind.i64.wrap (left - ((dDs l).length : Int))),V.i 0] = _
    rw [hw]
    simp only [List.take_zero,List.map_nil,List.sum_nil,Nat.add_zero]
    unfold dec; rw [if_pos (by omega)]; rfl
  · simp only [List.take_zero,List.map_nil,List.sum_nil,Nat.add_zero]
    unfold dec; rw [if_pos (by omega)]; omega
  simp only [sC,sN]
  have hr := dec_room (n := l.length + ((l.take i).map szDon).sum) h0 h1
  refine WR.iteLen i hlen rfl (fun h' => ?_) (fun h' => WR.esc (WR.done ?_))
  · obtain ⟨x,hx,hm⟩ := sA1 h'
    refine WR.idxN (vs := [.i x.seq,.i x.code,.l (dL x.tells)]) i (mA1 (f := Don.g) hx) rfl rfl rfl rfl ?_
    simp only [sC,sN]
    refine WR.ev (ev_szPlnDone x (dec left (l.length + ((l.take i).map szDon).sum)) (hb.2 x hm) (by omega) (by omega)) rfl rfl rfl ?_
    simp only [sC,sN]
    have e := dec_dec (m := szDon x) hp
    rw [Nat.add_assoc,← szL_succ szDon hx] at e
    rw [e]
    refine WR.iteP (dec left (l.length + ((l.take (i + 1)).map szDon).sum) < 0) rfl (fun h2 => WR.esc (WR.done ?_)) (fun h2 => ?_)
    · show [dI (-1)] = _
      rw [szL_split szDon l (i + 1),dec_lt h2 h0]
    · refine WR.nextA (vs := [.i (dec left (l.length + ((l.take (i + 1)).map szDon).sum)),.i ((i + 1 : Nat) : Int)]) ?_ ⟨h',rfl,h2⟩
      rw [← wS h' (by omega)]; rfl
  · show [dI (dec left (l.length + ((l.take i).map szDon).sum))] = _
    rw [tA1 h']; rfl
theorem ev_szClkGot (x : Got) (left : Int) (hb : bigGot x) (h0 : 0 ≤ left) (h1 : left ≤ 1048576) : Ev L f_kb (x.cells ++ [dI left]) [dI (dec left (szGot x))] := by
  refine Ev.eq (vs := [.b x.has,.l (dL x.added),.l (dL x.seqs),.i left]) L_kb rfl ?_
  refine WR.ev (ev_szIntS x.added left hb.1 h0 h1) rfl rfl rfl ?_
  simp only [sC,sN]
  have hr0 := dec_room (n := x.added.length) h0 h1
  refine WR.iteP (dec left (x.added.length) < 0) rfl (fun h => WR.done ?_) (fun h => ?_)
  · show [dI (-1)] = _
    rw [show szGot x = x.added.length + (x.seqs.length) by unfold szGot; omega,dec_lt h h0]
  refine WR.ev (ev_szIntS x.seqs (dec left (x.added.length)) hb.2 (by omega) (by omega)) rfl rfl rfl ?_
  simp only [sC,sN]
  have hr1 := dec_room (n := x.added.length + x.seqs.length) h0 h1
  rw [dec_dec h]
  refine WR.iteP (dec left (x.added.length + x.seqs.length) < 0) rfl (fun h => WR.done ?_) (fun h => WR.done rfl)
  show [dI (-1)] = [dI (dec left (szGot x))]
  have e : dec left (szGot x) = dec left (x.added.length + x.seqs.length) := rfl
  rw [e,show dec left (x.added.length + x.seqs.length) = -1 by omega]
theorem ev_szClkGotS (l : List Got) (left : Int) (hb : bigL bigGot l) (h0 : 0 ≤ left) (h1 : left ≤ 1048576) : Ev L f_kc [.s (dGs l),dI left] [dI (dec left (szL szGot l))] := by
  refine Ev.eq (vs := [.l (dGs l),.i left]) L_kc rfl ?_
  have hlen : (dGs l).length = l.length := by simp [dGs]
  have hl := hb.1
  have hw : IntKind.i64.wrap (left - ((dGs l).length : Int)) = left - l.length := by rw [hlen]; exact w64 (by omega) (by omega)
  refine WR.iteP (left - (l.length : Int) < 0) ?_ (fun h => WR.done ?_) (fun h => ?_)
  · show decide (IntKind.i64.wrap (left - ((dGs l).length : Int)) < 0) = _
    rw [hw]
  · show [dI (-1)] = _
    unfold dec szL; rw [if_neg (by omega)]
  have hal : l.length ≤ 1048576 := by omega
  refine WR.forP l.length (fun i => [.i (dec left (l.length + ((l.take i).map szGot).sum)),.i i]) (fun i => ¬ dec left (l.length + ((l.take i).map szGot).sum) < 0) rfl ?_ ?_ fun i hi hp => ?_
  · show [V.i (IntKind.i64.wrap (left - ((dGs l).length : Int))),V.i 0] = _
    rw [hw]
    simp only [List.take_zero,List.map_nil,List.sum_nil,Nat.add_zero]
    unfold dec; rw [if_pos (by omega)]; rfl
  · simp only [List.take_zero,List.map_nil,List.sum_nil,Nat.add_zero]
    unfold dec; rw [if_pos (by omega)]; omega
  simp only [sC,sN]
  have hr := dec_room (n := l.length + ((l.take i).map szGot).sum) h0 h1
  refine WR.iteLen i hlen rfl (fun h' => ?_) (fun h' => WR.esc (WR.done ?_))
  · obtain ⟨x,hx,hm⟩ := sA1 h'
    refine WR.idxN (vs := [.b x.has,.l (dL x.added),.l (dL x.seqs)]) i (mA1 (f := Got.g) hx) rfl rfl rfl rfl ?_
    simp only [sC,sN]
    refine WR.ev (ev_szClkGot x (dec left (l.length + ((l.take i).map szGot).sum)) (hb.2 x hm) (by omega) (by omega)) rfl rfl rfl ?_
    simp only [sC,sN]
    have e := dec_dec (m := szGot x) hp
    rw [Nat.add_assoc,← szL_succ szGot hx] at e
    rw [e]
    refine WR.iteP (dec left (l.length + ((l.take (i + 1)).map szGot).sum) < 0) rfl (fun h2 => WR.esc (WR.done ?_)) (fun h2 => ?_)
    · show [dI (-1)] = _
      rw [szL_split szGot l (i + 1),dec_lt h2 h0]
    · refine WR.nextA (vs := [.i (dec left (l.length + ((l.take (i + 1)).map szGot).sum)),.i ((i + 1 : Nat) : Int)]) ?_ ⟨h',rfl,h2⟩
      rw [← wS h' (by omega)]; rfl
  · show [dI (dec left (l.length + ((l.take i).map szGot).sum))] = _
    rw [tA1 h']; rfl
def szClk (x : Clk) : Nat := x.base.length + szL szDon x.done + szL szCal x.wants + szL szGot x.got
def bigClk (x : Clk) : Prop := x.base.length ≤ 9223372036854775807 ∧ bigL bigDon x.done ∧ bigL bigCal x.wants ∧ bigL bigGot x.got
theorem ev_szClkClerk (x : Clk) (left : Int) (hb : bigClk x) (h0 : 0 ≤ left) (h1 : left ≤ 1048576) : Ev L f_kd (x.cells ++ [dI left]) [dI (dec left (szClk x))] := by
  refine Ev.eq (vs := [.b x.up,.i x.round,.l (dL x.base),.l (dDs x.done),.l (dCs x.wants),.l (dGs x.got),.i left]) L_kd rfl ?_
  refine WR.ev (ev_szIntS x.base left hb.1 h0 h1) rfl rfl rfl ?_
  simp only [sC,sN]
  have hr0 := dec_room (n := x.base.length) h0 h1
  refine WR.iteP (dec left (x.base.length) < 0) rfl (fun h => WR.done ?_) (fun h => ?_)
  · show [dI (-1)] = _
    rw [show szClk x = x.base.length + (szL szDon x.done + szL szCal x.wants + szL szGot x.got) by unfold szClk; omega,dec_lt h h0]
  refine WR.ev (ev_szPlnDoneS x.done (dec left (x.base.length)) hb.2.1 (by omega) (by omega)) rfl rfl rfl ?_
  simp only [sC,sN]
  have hr1 := dec_room (n := x.base.length + szL szDon x.done) h0 h1
  rw [dec_dec h]
  refine WR.iteP (dec left (x.base.length + szL szDon x.done) < 0) rfl (fun h => WR.done ?_) (fun h => ?_)
  · show [dI (-1)] = _
    rw [show szClk x = x.base.length + szL szDon x.done + (szL szCal x.wants + szL szGot x.got) by unfold szClk; omega,dec_lt h h0]
  refine WR.ev (ev_szPlnCallS x.wants (dec left (x.base.length + szL szDon x.done)) hb.2.2.1 (by omega) (by omega)) rfl rfl rfl ?_
  simp only [sC,sN]
  have hr2 := dec_room (n := x.base.length + szL szDon x.done + szL szCal x.wants) h0 h1
  rw [dec_dec h]
  refine WR.iteP (dec left (x.base.length + szL szDon x.done + szL szCal x.wants) < 0) rfl (fun h => WR.done ?_) (fun h => ?_)
  · show [dI (-1)] = _
    rw [show szClk x = x.base.length + szL szDon x.done + szL szCal x.wants + (szL szGot x.got) by unfold szClk; omega,dec_lt h h0]
  refine WR.ev (ev_szClkGotS x.got (dec left (x.base.length + szL szDon x.done + szL szCal x.wants)) hb.2.2.2 (by omega) (by omega)) rfl rfl rfl ?_
  simp only [sC,sN]
  have hr3 := dec_room (n := x.base.length + szL szDon x.done + szL szCal x.wants + szL szGot x.got) h0 h1
  rw [dec_dec h]
  refine WR.iteP (dec left (x.base.length + szL szDon x.done + szL szCal x.wants + szL szGot x.got) < 0) rfl (fun h => WR.done ?_) (fun h => WR.done rfl)
  show [dI (-1)] = [dI (dec left (szClk x))]
  have e : dec left (szClk x) = dec left (x.base.length + szL szDon x.done + szL szCal x.wants + szL szGot x.got) := rfl
  rw [e,show dec left (x.base.length + szL szDon x.done + szL szCal x.wants + szL szGot x.got) = -1 by omega]
structure Msg where
  kind : Int
  to : Int
  frm : Int
  round : Int
  call : Cal
  vals : List Int
  seqs : List Int
  done : List Don
  deriving DecidableEq
def Msg.cells (x : Msg) : List D := [dI x.kind,dI x.to,dI x.frm,dI x.round,dI x.call.client,dI x.call.seq,dI x.call.act,.s (dL x.call.args),.s (dL x.vals),.s (dL x.seqs),.s (dDs x.done)]
def Msg.g (x : Msg) : D := .g x.cells
def fitMsg (x : Msg) : Prop := x.call.args.length ≤ 2000000 ∧ x.vals.length ≤ 2000000 ∧ x.seqs.length ≤ 2000000 ∧ fitL fitDon x.done
theorem ev_toPlnCall (x : Cal) (hf : fitCal x) : Ev L f_kn x.cells x.cells := by
  refine Ev.eq (vs := [.i x.client,.i x.seq,.i x.act,.l (dL x.args)]) L_kn rfl ?_
  refine WR.ev (vs := [.l (dL x.args)]) (ev_toIntS x.args hf) rfl rfl rfl ?_
  simp only [sC,sN]
  exact WR.done rfl
theorem ev_toPlnCallS (l : List Cal) (hf : fitL fitCal l) : Ev L f_ko [.s (dCs l)] [.s (dCs l)] := by
  refine Ev.eq (vs := [.l (dCs l)]) L_ko rfl ?_
  have hlen : (dCs l).length = l.length := by simp [dCs]
  have hl := hf.1
  refine WR.chk (by show decide ((0 : Int) ≤ ((dCs l).length : Int)) = true; simp) ?_
  refine WR.chkN (dCs l) 2000000 (by omega) (by omega) rfl ?_
  refine WR.forP (dCs l).length (fun i => [.l ((dCs l).take i ++ List.replicate ((dCs l).length - i) (Cal.g ⟨0,0,0,[]⟩)),.i i]) (fun _ => True) rfl ?_ trivial fun i hi _ => ?_
  · show [V.l (List.replicate ((dCs l).length : Int).toNat (Cal.g ⟨0,0,0,[]⟩)),V.i 0] = _
    simp
  simp only [sC,sN]
  refine WR.iteLen i (ds := dCs l) rfl rfl (fun h => ?_) (fun h => WR.esc (WR.done ?_))
  · obtain ⟨x,hx,hm⟩ := sA1 (show i < l.length by omega)
    refine WR.idxN (vs := [.i x.client,.i x.seq,.i x.act,.l (dL x.args)]) i (mA1 (f := Cal.g) hx) rfl rfl rfl rfl ?_
    simp only [sC,sN]
    refine WR.ev (vs := [.i x.client,.i x.seq,.i x.act,.l (dL x.args)]) (ev_toPlnCall x (hf.2 x hm)) rfl rfl rfl ?_
    simp only [sC,sN]
    refine WR.atN (vs := [.i 0,.i 0,.i 0,.l []]) (ds := (dCs l).take i ++ List.replicate ((dCs l).length - i) (Cal.g ⟨0,0,0,[]⟩)) i (fill_at h) rfl rfl rfl rfl rfl rfl ?_
    refine WR.nextA (vs := [.l ((dCs l).take (i + 1) ++ List.replicate ((dCs l).length - (i + 1)) (Cal.g ⟨0,0,0,[]⟩)),.i ((i + 1 : Nat) : Int)]) ?_ ⟨h,rfl,trivial⟩
    show [V.l (((dCs l).take i ++ List.replicate ((dCs l).length - i) (Cal.g ⟨0,0,0,[]⟩)).set (i : Int).toNat (Cal.g x)),V.i (IntKind.i64.wrap ((i : Int) + 1))] = _
    rw [wS h (by omega),Int.toNat_natCast,fill_set (es := dCs l) (mA1 (f := Cal.g) hx)]
  · show [D.s ((dCs l).take i ++ List.replicate ((dCs l).length - i) (Cal.g ⟨0,0,0,[]⟩))] = _
    rw [fill_end h]
theorem ev_toResResult (c : Int) (t : List Int) (ht : t.length ≤ 2000000) : Ev L f_kk [dI c,.s (dL t)] [dI c,.s (dL t)] := by
  refine Ev.eq (vs := [.i c,.l (dL t)]) L_kk rfl ?_
  exact WR.ev (vs := [.l (dL t)]) (ev_toIntS t ht) rfl rfl rfl (WR.done rfl)
theorem ev_toPlnDone (x : Don) (hf : fitDon x) : Ev L f_kl x.cells x.cells := by
  refine Ev.eq (vs := [.i x.seq,.i x.code,.l (dL x.tells)]) L_kl rfl ?_
  refine WR.ev (vs := [.i x.code,.l (dL x.tells)]) (ev_toResResult x.code x.tells hf) rfl rfl rfl ?_
  simp only [sC,sN]
  exact WR.done rfl
theorem ev_toPlnDoneS (l : List Don) (hf : fitL fitDon l) : Ev L f_km [.s (dDs l)] [.s (dDs l)] := by
  refine Ev.eq (vs := [.l (dDs l)]) L_km rfl ?_
  have hlen : (dDs l).length = l.length := by simp [dDs]
  have hl := hf.1
  refine WR.chk (by show decide ((0 : Int) ≤ ((dDs l).length : Int)) = true; simp) ?_
  refine WR.chkN (dDs l) 2000000 (by omega) (by omega) rfl ?_
  refine WR.forP (dDs l).length (fun i => [.l ((dDs l).take i ++ List.replicate ((dDs l).length - i) (Don.g ⟨0,0,[]⟩)),.i i]) (fun _ => True) rfl ?_ trivial fun i hi _ => ?_
  · show [V.l (List.replicate ((dDs l).length : Int).toNat (Don.g ⟨0,0,[]⟩)),V.i 0] = _
    simp
  simp only [sC,sN]
  refine WR.iteLen i (ds := dDs l) rfl rfl (fun h => ?_) (fun h => WR.esc (WR.done ?_))
  · obtain ⟨x,hx,hm⟩ := sA1 (show i < l.length by omega)
    refine WR.idxN (vs := [.i x.seq,.i x.code,.l (dL x.tells)]) i (mA1 (f := Don.g) hx) rfl rfl rfl rfl ?_
    simp only [sC,sN]
    refine WR.ev (vs := [.i x.seq,.i x.code,.l (dL x.tells)]) (ev_toPlnDone x (hf.2 x hm)) rfl rfl rfl ?_
    simp only [sC,sN]
    refine WR.atN (vs := [.i 0,.i 0,.l []]) (ds := (dDs l).take i ++ List.replicate ((dDs l).length - i) (Don.g ⟨0,0,[]⟩)) i (fill_at h) rfl rfl rfl rfl rfl rfl ?_
    refine WR.nextA (vs := [.l ((dDs l).take (i + 1) ++ List.replicate ((dDs l).length - (i + 1)) (Don.g ⟨0,0,[]⟩)),.i ((i + 1 : Nat) : Int)]) ?_ ⟨h,rfl,trivial⟩
    show [V.l (((dDs l).take i ++ List.replicate ((dDs l).length - i) (Don.g ⟨0,0,[]⟩)).set (i : Int).toNat (Don.g x)),V.i (IntKind.i64.wrap ((i : Int) + 1))] = _
    rw [wS h (by omega),Int.toNat_natCast,fill_set (es := dDs l) (mA1 (f := Don.g) hx)]
  · show [D.s ((dDs l).take i ++ List.replicate ((dDs l).length - i) (Don.g ⟨0,0,[]⟩))] = _
    rw [fill_end h]
theorem ev_toClkGot (x : Got) (hf : fitGot x) : Ev L f_kp x.cells x.cells := by
  refine Ev.eq (vs := [.b x.has,.l (dL x.added),.l (dL x.seqs)]) L_kp rfl ?_
  refine WR.ev (vs := [.l (dL x.added)]) (ev_toIntS x.added hf.1) rfl rfl rfl ?_
  simp only [sC,sN]
  refine WR.ev (vs := [.l (dL x.seqs)]) (ev_toIntS x.seqs hf.2) rfl rfl rfl ?_
  simp only [sC,sN]
  exact WR.done rfl
theorem ev_toClkGotS (l : List Got) (hf : fitL fitGot l) : Ev L f_kq [.s (dGs l)] [.s (dGs l)] := by
  refine Ev.eq (vs := [.l (dGs l)]) L_kq rfl ?_
  have hlen : (dGs l).length = l.length := by simp [dGs]
  have hl := hf.1
  refine WR.chk (by show decide ((0 : Int) ≤ ((dGs l).length : Int)) = true; simp) ?_
  refine WR.chkN (dGs l) 2000000 (by omega) (by omega) rfl ?_
  refine WR.forP (dGs l).length (fun i => [.l ((dGs l).take i ++ List.replicate ((dGs l).length - i) (Got.g ⟨false,[],[]⟩)),.i i]) (fun _ => True) rfl ?_ trivial fun i hi _ => ?_
  · show [V.l (List.replicate ((dGs l).length : Int).toNat (Got.g ⟨false,[],[]⟩)),V.i 0] = _
    simp
  simp only [sC,sN]
  refine WR.iteLen i (ds := dGs l) rfl rfl (fun h => ?_) (fun h => WR.esc (WR.done ?_))
  · obtain ⟨x,hx,hm⟩ := sA1 (show i < l.length by omega)
    refine WR.idxN (vs := [.b x.has,.l (dL x.added),.l (dL x.seqs)]) i (mA1 (f := Got.g) hx) rfl rfl rfl rfl ?_
    simp only [sC,sN]
    refine WR.ev (vs := [.b x.has,.l (dL x.added),.l (dL x.seqs)]) (ev_toClkGot x (hf.2 x hm)) rfl rfl rfl ?_
    simp only [sC,sN]
    refine WR.atN (vs := [.b false,.l [],.l []]) (ds := (dGs l).take i ++ List.replicate ((dGs l).length - i) (Got.g ⟨false,[],[]⟩)) i (fill_at h) rfl rfl rfl rfl rfl rfl ?_
    refine WR.nextA (vs := [.l ((dGs l).take (i + 1) ++ List.replicate ((dGs l).length - (i + 1)) (Got.g ⟨false,[],[]⟩)),.i ((i + 1 : Nat) : Int)]) ?_ ⟨h,rfl,trivial⟩
    show [V.l (((dGs l).take i ++ List.replicate ((dGs l).length - i) (Got.g ⟨false,[],[]⟩)).set (i : Int).toNat (Got.g x)),V.i (IntKind.i64.wrap ((i : Int) + 1))] = _
    rw [wS h (by omega),Int.toNat_natCast,fill_set (es := dGs l) (mA1 (f := Got.g) hx)]
  · show [D.s ((dGs l).take i ++ List.replicate ((dGs l).length - i) (Got.g ⟨false,[],[]⟩))] = _
    rw [fill_end h]
theorem fitClk_of {x : Clk} (h : szClk x ≤ 1048576) : fitClk x := by
  unfold szClk at h
  have hd := fitL_of (f := szDon) (p := fitDon) (fun _ => fitDon_of) (l := x.done) (by omega)
  have hc := fitL_of (f := szCal) (p := fitCal) (fun _ => fitCal_of) (l := x.wants) (by omega)
  have hg := fitL_of (f := szGot) (p := fitGot) (fun _ => fitGot_of) (l := x.got) (by omega)
  exact ⟨by omega,hd.1,hd.2,hc.1,hc.2,hg.1,hg.2⟩
theorem ev_toClkClerk (x : Clk) (hf : fitClk x) : Ev L f_kr x.cells x.cells := by
  refine Ev.eq (vs := [.b x.up,.i x.round,.l (dL x.base),.l (dDs x.done),.l (dCs x.wants),.l (dGs x.got)]) L_kr rfl ?_
  refine WR.ev (vs := [.l (dL x.base)]) (ev_toIntS x.base hf.b) rfl rfl rfl ?_
  refine WR.ev (vs := [.l (dDs x.done)]) (ev_toPlnDoneS x.done ⟨hf.d,hf.dt⟩) rfl rfl rfl ?_
  refine WR.ev (vs := [.l (dCs x.wants)]) (ev_toPlnCallS x.wants ⟨hf.c,hf.ct⟩) rfl rfl rfl ?_
  refine WR.ev (vs := [.l (dGs x.got)]) (ev_toClkGotS x.got ⟨hf.g,hf.gt⟩) rfl rfl rfl ?_
  exact WR.done rfl
abbrev tyCal : Ty := .st [.i .i64,.i .i64,.i .i64,tyInts]
abbrev tyRes : Ty := .st [.i .i64,tyInts]
abbrev tyDon : Ty := .st [.i .i64,tyRes]
abbrev tyGot : Ty := .st [.b,tyInts,tyInts]
abbrev tyClk : Ty := .st [.b,.i .i64,tyInts,.sl tyDon,.sl tyCal,.sl tyGot]
theorem cal_of {ds : List D} (h : TySh tyCal ds) : ∃ x : Cal,ds = x.cells ∧ bigCal x := by
  obtain ⟨_,_,rfl,⟨a,rfl⟩,_,_,rfl,⟨b,rfl⟩,_,_,rfl,⟨c,rfl⟩,_,_,rfl,h1,rfl⟩ := h
  obtain ⟨l,rfl,hl⟩ := ints_of h1
  exact ⟨⟨a,b,c,l⟩,rfl,hl⟩
theorem don_of {ds : List D} (h : TySh tyDon ds) : ∃ x : Don,ds = x.cells ∧ bigDon x := by
  obtain ⟨_,_,rfl,⟨a,rfl⟩,_,_,rfl,⟨_,_,rfl,⟨b,rfl⟩,_,_,rfl,h1,rfl⟩,rfl⟩ := h
  obtain ⟨l,rfl,hl⟩ := ints_of h1
  exact ⟨⟨a,b,l⟩,rfl,hl⟩
theorem got_of {ds : List D} (h : TySh tyGot ds) : ∃ x : Got,ds = x.cells ∧ bigGot x := by
  obtain ⟨_,_,rfl,⟨a,rfl⟩,_,_,rfl,h1,_,_,rfl,h2,rfl⟩ := h
  obtain ⟨l,rfl,hl⟩ := ints_of h1
  obtain ⟨m,rfl,hm⟩ := ints_of h2
  exact ⟨⟨a,l,m⟩,rfl,hl,hm⟩
theorem dons_of {ds : List D} (h : TySh (.sl tyDon) ds) : ∃ l,ds = [.s (dDs l)] ∧ bigL bigDon l := by
  obtain ⟨es,rfl,hl,he⟩ := h
  obtain ⟨l,rfl,hp⟩ := map_ex (f := Don.g) (p := bigDon) fun x hx => by
    obtain ⟨cs,h1,rfl⟩ := he x hx
    obtain ⟨l,rfl,hf⟩ := don_of h1
    exact ⟨l,hf,rfl⟩
  exact ⟨l,rfl,by rw [List.length_map] at hl; unfold maxLen at hl; omega,hp⟩
theorem cals_of {ds : List D} (h : TySh (.sl tyCal) ds) : ∃ l,ds = [.s (dCs l)] ∧ bigL bigCal l := by
  obtain ⟨es,rfl,hl,he⟩ := h
  obtain ⟨l,rfl,hp⟩ := map_ex (f := Cal.g) (p := bigCal) fun x hx => by
    obtain ⟨cs,h1,rfl⟩ := he x hx
    obtain ⟨l,rfl,hf⟩ := cal_of h1
    exact ⟨l,hf,rfl⟩
  exact ⟨l,rfl,by rw [List.length_map] at hl; unfold maxLen at hl; omega,hp⟩
theorem gots_of {ds : List D} (h : TySh (.sl tyGot) ds) : ∃ l,ds = [.s (dGs l)] ∧ bigL bigGot l := by
  obtain ⟨es,rfl,hl,he⟩ := h
  obtain ⟨l,rfl,hp⟩ := map_ex (f := Got.g) (p := bigGot) fun x hx => by
    obtain ⟨cs,h1,rfl⟩ := he x hx
    obtain ⟨l,rfl,hf⟩ := got_of h1
    exact ⟨l,hf,rfl⟩
  exact ⟨l,rfl,by rw [List.length_map] at hl; unfold maxLen at hl; omega,hp⟩
theorem clk_of {ds : List D} (h : TySh tyClk ds) : ∃ x : Clk,ds = x.cells ∧ bigClk x := by
  obtain ⟨_,_,rfl,⟨a,rfl⟩,_,_,rfl,⟨b,rfl⟩,_,_,rfl,h1,_,_,rfl,h2,_,_,rfl,h3,_,_,rfl,h4,rfl⟩ := h
  obtain ⟨l,rfl,hl⟩ := ints_of h1
  obtain ⟨d,rfl,hd⟩ := dons_of h2
  obtain ⟨c,rfl,hc⟩ := cals_of h3
  obtain ⟨g,rfl,hg⟩ := gots_of h4
  exact ⟨⟨a,b,l,d,c,g⟩,rfl,hl,hd,hc,hg⟩
end Go.Proofs.YtgiejmanbmeloaaGreatDoor

import Derived.Test.YtdibnlhlngodeaaGreatDoorPV
import Derived.Test.YtdibnlhlngodeaaGreatDoorTd
set_option linter.unusedVariables false
set_option linter.unusedSimpArgs false
/- What a site does alone: over residual programs. -/
namespace Go.Proofs.YtdibnlhlngodeaaGreatDoor
open Go Go.Tm
theorem WR.cp {l : List V} {Q : Oc → Prop} {r : R} {c : Nat} {N : Int} (x : List Int) (hx : x.length ≤ 1000) (hN : 1000 ≤ N) (he : lst (envL l) (.v c) = dL x) (h : WR L r l Q) :
    WR L (.i (.chk (.cmp .le (.len (.v c)) (.z N))) (.i (.head 1 (.v c)) (.i (.chk (.cmp .le (.len (.app .nil (.v c))) (.z N))) r))) l Q :=
  WR.chkN (dL x) 1000 (by rw [dL_len]; omega) hN he (WR.head (by rw [he]; exact head_dL x) (WR.chkN (dL x) 1000 (by rw [dL_len]; omega) hN he h))
theorem still_step {pins : List Bool} {a : List Int} {i : Nat} {x : Int} {b : Bool} (hx : a[i]? = some x) (hb : pins[i]? = some b) : (a.zip pins)[i]? = some (x, b) := by
  rw [List.getElem?_zip_eq_some]; exact ⟨hx, hb⟩
theorem ev_unpinned (as : List (List Line)) (ps : List (List Int)) (pins : List Bool) (a : List Int) (hp : pins.length = 3) (ha : a.length = 3) : Ev L f_k3m [.s (dActs as), .s (dLL ps), .s (dBl pins), .s (dL a)] [dB (stillM pins a)] := by
  refine Ev.eq (vs := [.l (dActs as), .l (dLL ps), .l (dBl pins), .l (dL a)]) L_k3m rfl ?_
  refine WR.forP a.length (fun i => [.i i]) (fun i => ((a.zip pins).take i).all (fun q => !(q.2 && !decide (q.1 = 0))) = true) rfl rfl rfl fun i hi hq => ?_
  simp only [sCA, sNA]
  refine WR.iteLen i (dL_len a) rfl (fun h => ?_) (fun h => ?_)
  · obtain ⟨x, hx, _⟩ := some_at h
    obtain ⟨b, hb, _⟩ := some_at (show i < pins.length by omega)
    have hz := still_step hx hb
    refine WR.idxN i (map_at (f := dI) hx) rfl rfl rfl rfl ?_
    refine WR.iteN (decide (x = 0)) rfl (fun h0 => ?_) (fun h0 => ?_)
    · refine WR.idxN i (map_at (f := dB) hb) rfl rfl rfl rfl ?_
      refine WR.iteB b rfl (fun hb1 => WR.esc (WR.done ?_)) (fun hb1 => ?_)
      · show [dB false] = _
        unfold stillM
        rw [all_not hz (by simp only [h0, hb1]; rfl)]
      · refine WR.nextA (vs := [.i ((i + 1 : Nat) : Int)]) ?_ ⟨h, rfl, all_take hz hq (by simp only [hb1]; rfl)⟩
        show [V.i (IntKind.i64.wrap ((i : Int) + 1))] = _
        rw [wS h (by omega)]
    · refine WR.nextA (vs := [.i ((i + 1 : Nat) : Int)]) ?_ ⟨h, rfl, all_take hz hq (by simp only [h0]; simp)⟩
      show [V.i (IntKind.i64.wrap ((i : Int) + 1))] = _
      rw [wS h (by omega)]
  · refine WR.esc (WR.done ?_)
    rw [List.take_of_length_le (by simp; omega)] at hq
    unfold stillM
    rw [hq]; rfl
theorem ev_l5Still (pins : List Bool) (a : List Int) (hp : pins.length = 3) (ha : a.length = 3) : Ev L f_k1e [.s (dBl pins), .s (dL a)] [dB (stillM pins a)] := by
  refine Ev.eq (vs := [.l (dBl pins), .l (dL a)]) L_k1e rfl ?_
  refine WR.forP 3 (fun i => [.i i]) (fun i => ((a.zip pins).take i).all (fun q => !(q.2 && !decide (q.1 = 0))) = true) rfl rfl rfl fun i hi hq => ?_
  simp only [sCA, sNA]
  refine WR.iteLt i 3 rfl (fun h => ?_) (fun h => ?_)
  · obtain ⟨x, hx, _⟩ := some_at (show i < a.length by omega)
    obtain ⟨b, hb, _⟩ := some_at (show i < pins.length by omega)
    have hz := still_step hx hb
    refine WR.idxN i (map_at (f := dB) hb) rfl rfl rfl rfl ?_
    refine WR.iteB b rfl (fun hb1 => ?_) (fun hb1 => ?_)
    · refine WR.idxN i (map_at (f := dI) hx) rfl rfl rfl rfl ?_
      refine WR.iteN (decide (x = 0)) rfl (fun h0 => WR.esc (WR.done ?_)) (fun h0 => ?_)
      · show [dB false] = _
        unfold stillM
        rw [all_not hz (by simp only [h0, hb1]; rfl)]
      · refine WR.nextA (vs := [.i ((i + 1 : Nat) : Int)]) ?_ ⟨h, rfl, all_take hz hq (by simp only [h0]; simp)⟩
        show [V.i (IntKind.i64.wrap ((i : Int) + 1))] = _
        rw [wS h (by omega)]
    · refine WR.nextA (vs := [.i ((i + 1 : Nat) : Int)]) ?_ ⟨h, rfl, all_take hz hq (by simp only [hb1]; rfl)⟩
      show [V.i (IntKind.i64.wrap ((i : Int) + 1))] = _
      rw [wS h (by omega)]
  · refine WR.esc (WR.done ?_)
    rw [List.take_of_length_le (by simp; omega)] at hq
    unfold stillM
    rw [hq]; rfl
theorem ev_rulesOf (as : List (List Line)) (hf : fitActs as) : Ev L f_k3c [.s (dActs as)] [.s (dActs as), .s (dLL (catForms as)), .s (dBl (catPins as))] := by
  refine Ev.eq (vs := [.l (dActs as)]) L_k3c rfl ?_
  refine WR.ev (ev_iForms as hf) rfl rfl rfl ?_
  refine WR.ev (ev_iPins as hf) rfl rfl rfl (WR.done rfl)
theorem keeps_len {b g : List Int} {ps : List (List Int)} {s : Int} {a : List Int} (h : keeps b g ps s a = true) : a.length = 3 := (fine_in (keeps_fineM h)).2.2.2.2.2.1.1
theorem ev_keepsR (as : List (List Line)) (ps : List (List Int)) (pins : List Bool) (b g : List Int) (s : Int) (a : List Int) (hpi : pins.length = 3) (hb : b.length ≤ 2000000) (hg : g.length ≤ 2000000) (hp : fitLL ps) (ha : a.length ≤ 2000000) :
    Ev L f_k3n [.s (dActs as), .s (dLL ps), .s (dBl pins), .s (dL b), .s (dL g), dI s, .s (dL a)] [dB (keeps b g ps s a && stillM pins a)] := by
  refine Ev.eq (vs := [.l (dActs as), .l (dLL ps), .l (dBl pins), .l (dL b), .l (dL g), .i s, .l (dL a)]) L_k3n rfl ?_
  refine WR.ev (ev_TrtKeeps b g ps s a hb hg hp ha) rfl rfl rfl ?_
  refine WR.iteB (keeps b g ps s a) rfl (fun h => ?_) (fun h => WR.done ?_)
  · refine WR.ev (ev_unpinned as ps pins a hpi (keeps_len h)) rfl rfl rfl (WR.done ?_)
    rw [h]; rfl
  · rw [h]; rfl
def capsU (as : List (List Line)) (ps : List (List Int)) (pins : List Bool) (b g : List Int) (s : Int) (a w : List Int) : List D := [.q [.s (dL b), .s (dL g)], .q [.s (dActs as), .s (dLL ps), .s (dBl pins)], .q [dI s], .q [.s (dL a)], .q [.s (dL w)]]
def sureF (b g : List Int) (ps : List (List Int)) (s : Int) (a w : List Int) (f : Frm) : Bool := (boundsM b g ps s a f w).2.2 && decide (0 ≤ (boundsM b g ps s a f w).1)
structure FitB (b g : List Int) (ps : List (List Int)) (a w : List Int) : Prop where
  b : b.length ≤ 2000000
  g : g.length ≤ 2000000
  p : fitLL ps
  a : a.length ≤ 2000000
  w : w.length ≤ 2000000
theorem ev_LocTry_1 (as : List (List Line)) (ps : List (List Int)) (pins : List Bool) (b g : List Int) (s : Int) (a w : List Int) (h : FitB b g ps a w) (f : Frm) (hf : Frm.fit f) :
    Ev L f_k48 (f.cells ++ (capsU as ps pins b g s a w).map D.norm) [dB (!(sureF b g ps s a w f))] := by
  refine Ev.eq (vs := [.l (dL f.c), .l (dL f.d), .i f.k, .d (.q [.s (dL b), .s (dL g)]), .d (.q [.s (dActs as), .s (dLL ps), .s (dBl pins)]), .d (.q [dI s]), .d (.q [.s (dL a)]), .d (.q [.s (dL w)])]) L_k48 rfl ?_
  refine WR.get (vs := [.l (dL b), .l (dL g)]) rfl rfl ?_
  refine WR.get (vs := [.l (dActs as), .l (dLL ps), .l (dBl pins)]) rfl rfl ?_
  refine WR.get (vs := [.i s]) rfl rfl ?_
  refine WR.get (vs := [.l (dL a)]) rfl rfl ?_
  refine WR.get (vs := [.l (dL w)]) rfl rfl ?_
  simp only [sCA, sNA]
  refine WR.ev (ev_iBounds b g ps s a f w h.b h.g h.p h.a hf h.w) rfl rfl rfl ?_
  unfold sureF
  generalize boundsM b g ps s a f w = B
  refine WR.iteN B.2.2 rfl (fun h => WR.done ?_) (fun h => WR.done ?_)
  · rw [h]; rfl
  · show [dB (decide (B.1 < 0))] = _
    rw [h]
    by_cases hn : B.1 < 0
    · simp [hn, show ¬ 0 ≤ B.1 by omega]
    · simp [hn, show 0 ≤ B.1 by omega]
theorem ev_LocTry_2 (as : List (List Line)) (ps : List (List Int)) (pins : List Bool) (b g : List Int) (s : Int) (a w : List Int) (h : FitB b g ps a w) (r : Row) (hr : RowFit r) :
    Ev L f_k49 (r.cells ++ [D.q [.f f_k48 (capsU as ps pins b g s a w)]].map D.norm) [dB (sureM b g ps s a w r)] := by
  refine Ev.eq (vs := [.l (dF r.guards), .l (dF r.adds), .l (dF r.tells), .b r.stop, .d (.q [.f f_k48 (capsU as ps pins b g s a w)])]) L_k49 rfl ?_
  refine WR.get (vs := [.d (.f f_k48 (capsU as ps pins b g s a w))]) rfl rfl ?_
  simp only [sCA, sNA]
  have hgl := hr.gl
  refine WR.ev (ev_hasFrm (fun f => !(sureF b g ps s a w f)) r.guards (fn := f_k48) (caps := capsU as ps pins b g s a w) (by omega) rfl rfl fun f hf => ev_LocTry_1 as ps pins b g s a w h f (hr.g f hf).fit) rfl rfl rfl (WR.done ?_)
  show [dB (!(r.guards.any fun f => !(sureF b g ps s a w f)))] = _
  rw [not_any]; rfl
theorem ev_idxRow (p : Row → Bool) (l : List Row) {fn : FuncId} {caps : List D} (hlen : l.length ≤ 2000000) (hcap : oneOf (.f fn caps) = .f fn caps) (har : arT L fn = some ([some 4] ++ caps.map fun _ => none))
    (hc : ∀ x ∈ l, Ev L fn (x.cells ++ caps.map D.norm) [dB (p x)]) : Ev L f_k4a [.s (dRows l), .f fn caps] [dI (place p l)] :=
  ev_idxFunc (sh := .g [.s, .s, .s, .b]) (as := [(.s (.v 3)), (.s (.v 4)), (.s (.v 5)), (.vb (.v 6))]) (ar := [some 4]) (k := 7) Row.g p Row.cells (fun x => [.l (dF x.guards), .l (dF x.adds), .l (dF x.tells), .b x.stop]) l
    L_k4a rfl hlen hcap (fun _ _ => rfl) (fun _ _ => rfl) (fun _ _ _ _ => rfl) har hc
theorem ev_l5Sure (b g : List Int) (ps : List (List Int)) (s : Int) (a w : List Int) (h : FitB b g ps a w) (r : Row) (hr : RowFit r) :
    Ev L f_k1s ([.s (dL b), .s (dL g), .s (dLL ps), dI s, .s (dL a)] ++ r.cells ++ [.s (dL w)]) [dB (sureM b g ps s a w r)] := by
  refine Ev.eq (vs := [.l (dL b), .l (dL g), .l (dLL ps), .i s, .l (dL a), .l (dF r.guards), .l (dF r.adds), .l (dF r.tells), .b r.stop, .l (dL w)]) L_k1s rfl ?_
  have hgl := hr.gl
  refine WR.forP r.guards.length (fun i => [.i i]) (fun i => (r.guards.take i).all (sureF b g ps s a w) = true) rfl rfl rfl fun i hi hq => ?_
  simp only [sCA, sNA]
  have hS : sureM b g ps s a w r = r.guards.all (sureF b g ps s a w) := rfl
  rw [hS]
  refine WR.iteLen i (dF_len r.guards) rfl (fun h' => ?_) (fun h' => ?_)
  · obtain ⟨f, hf, hm⟩ := some_at h'
    refine WR.idxN i (map_at (f := Frm.g) hf) rfl rfl rfl rfl ?_
    refine WR.ev (ev_sBounds b g ps s a f w h.b h.g h.p h.a (hr.g f hm).fit h.w) rfl rfl rfl ?_
    simp only [sCA, sNA]
    have hF : sureF b g ps s a w f = ((boundsM b g ps s a f w).2.2 && decide (0 ≤ (boundsM b g ps s a f w).1)) := rfl
    generalize boundsM b g ps s a f w = B at *
    refine WR.iteN B.2.2 rfl (fun h1 => WR.esc (WR.done ?_)) (fun h1 => ?_)
    · rw [all_not hf (by rw [hF, h1]; rfl)]; rfl
    refine WR.iteP (B.1 < 0) rfl (fun h2 => WR.esc (WR.done ?_)) (fun h2 => ?_)
    · rw [all_not hf (by rw [hF, h1]; simp; omega)]; rfl
    refine WR.nextA (vs := [.i ((i + 1 : Nat) : Int)]) ?_ ⟨h', rfl, all_take hf hq (by rw [hF, h1]; simp; omega)⟩
    show [V.i (IntKind.i64.wrap ((i : Int) + 1))] = _
    rw [wS h' (by omega)]
  · refine WR.esc (WR.done ?_)
    rw [take_all h'] at hq
    rw [hq]; rfl
end Go.Proofs.YtdibnlhlngodeaaGreatDoor

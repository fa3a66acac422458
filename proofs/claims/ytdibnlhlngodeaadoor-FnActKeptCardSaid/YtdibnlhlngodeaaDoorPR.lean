/- What an act does not turn stays: over residual programs. -/
import Derived.Test.YtdibnlhlngodeaaDoorPQ
import Derived.Test.YtdibnlhlngodeaaDoorTd
namespace Go.Proofs.YtdibnlhlngodeaaDoor
open Go Go.Tm

theorem ev_l20Args {bs : List Int} {p n : Int} (hr : Rdr bs p) (hf : p ≤ 999999999000) (h1 : 1 ≤ n) (hn : n ≤ 2000000) :
    ∃ a q, Ev L f_spec_l20Args [.s (bytesD bs), dI p, dI n] [.s (dL a), .s (bytesD bs), dI q] ∧ p ≤ q ∧ q ≤ p + 10 ∧ a.length ≤ 3 := by
  have key : ∃ ds, Ev L f_spec_l20Args [.s (bytesD bs), dI p, dI n] ds ∧ ∃ a q, ds = [.s (dL a), .s (bytesD bs), dI q] ∧ p ≤ q ∧ q ≤ p + 10 ∧ a.length ≤ 3 := by
    refine Ev.of (vs := [.l (bytesD bs), .i p, .i n]) L_spec_l20Args rfl ?_
    have go : ∀ q, p ≤ q → q ≤ p + 10 → Rdr bs q := fun q h h' => hr.go h (by omega)
    refine WRpick 19 hr (by omega) (by omega) rfl rfl fun u hu0 hu1 => ?_
    refine WRpick 19 (go (p + 1) (by omega) (by omega)) (by omega) (by omega) rfl rfl fun v hv0 hv1 => ?_
    refine WRpick n (go (p + 1 + 1) (by omega) (by omega)) h1 hn rfl rfl fun w hw0 hw1 => ?_
    simp only [List.cons_append, List.nil_append]
    have e : [dI (IntKind.i64.wrap (u - 9)), dI (IntKind.i64.wrap (v - 9))] = dL [u - 9, v - 9] := by
      rw [w64 (by omega) (by omega), w64 (by omega) (by omega)]; rfl
    refine WR.iteP (w = 0) rfl (fun hw => ?_) (fun hw => ?_)
    · refine WRpick 3 (go (p + 1 + 1 + 1) (by omega) (by omega)) (by omega) (by omega) rfl rfl fun z hz0 hz1 => ?_
      simp only [List.cons_append, List.nil_append]
      refine WR.iteP (z = 0) rfl (fun hz => WR.done ?_) (fun hz => ?_)
      · refine ⟨[u - 9, v - 9].take 1, p + 1 + 1 + 1 + 1, ?_, by omega, by omega, by simp⟩
        show [D.s ([dI (IntKind.i64.wrap (u - 9)), dI (IntKind.i64.wrap (v - 9))].take 1), .s (bytesD bs), dI (p + 1 + 1 + 1 + 1)] = _
        rw [e, dL_take]
      refine WR.iteP (z = 1) rfl (fun hz => ?_) (fun hz => ?_)
      · refine WR.chkApp [dI (IntKind.i64.wrap (u - 9)), dI (IntKind.i64.wrap (v - 9))] 2 (by simp) (by omega) rfl ?_
        refine WR.done ⟨[u - 9, v - 9] ++ [0], p + 1 + 1 + 1 + 1, ?_, by omega, by omega, by simp⟩
        show [D.s ([dI (IntKind.i64.wrap (u - 9)), dI (IntKind.i64.wrap (v - 9))] ++ [dI 0]), .s (bytesD bs), dI (p + 1 + 1 + 1 + 1)] = _
        rw [e, dL_snoc]
      · refine WRpick 2 (go (p + 1 + 1 + 1 + 1) (by omega) (by omega)) (by omega) (by omega) rfl rfl fun a ha0 ha1 => ?_
        refine WRpick 2 (go (p + 1 + 1 + 1 + 1 + 1) (by omega) (by omega)) (by omega) (by omega) rfl rfl fun b hb0 hb1 => ?_
        simp only [List.cons_append, List.nil_append]
        refine WRconst [10, -10] b hb0 hb1 rfl rfl rfl rfl rfl fun x => ?_
        refine WR.chkP (0 ≤ a) rfl ha0 ?_
        refine WR.chkP (a < 2) rfl ha1 ?_
        refine WR.idxA (ds := dL [u - 9, v - 9]) a rfl e rfl ha0 (dL_get ha0 (by simpa using ha1)) rfl ?_
        refine WR.done ⟨[u - 9, v - 9].set a.toNat x, p + 1 + 1 + 1 + 1 + 1 + 1, ?_, by omega, by omega, by simp⟩
        show [D.s ([dI (IntKind.i64.wrap (u - 9)), dI (IntKind.i64.wrap (v - 9))].set a.toNat (dI x)), .s (bytesD bs), dI (p + 1 + 1 + 1 + 1 + 1 + 1)] = _
        rw [e, dL_set]
    · refine WR.done ⟨[u - 9, v - 9], p + 1 + 1 + 1, ?_, by omega, by omega, by simp⟩
      show [D.s [dI (IntKind.i64.wrap (u - 9)), dI (IntKind.i64.wrap (v - 9))], .s (bytesD bs), dI (p + 1 + 1 + 1)] = _
      rw [e]
  obtain ⟨ds, e1, a, q, rfl, e2⟩ := key
  exact ⟨a, q, e1, e2⟩

theorem ev_DrawActRun (ns : List Int) (hb : ∀ x ∈ ns, 0 ≤ x ∧ x < 256) : ∃ a v w, Ev L f_spec_DrawActRun [.s (bytesD ns)] [.s (dAct a), .s (dL v), .s (dL w)] ∧ thinA a ∧ v.length ≤ 4 ∧ w.length ≤ 3 := by
  obtain ⟨bs, ho, hr⟩ := ev_open ns hb
  obtain ⟨a, q, e, q1, q2, ha⟩ := ev_l20AnyAct hr (by omega) (n := 16) (by omega) (by omega)
  obtain ⟨v, q', e', q3, q4, hv, _⟩ := ev_vals (hr.go (q := q) (by omega) (by omega)) (by omega) (n := 16) (by omega)
  obtain ⟨w, q'', e'', q5, q6, hw⟩ := ev_l20Args (hr.go (q := q') (by omega) (by omega)) (by omega) (n := 16) (by omega) (by omega)
  exact ⟨a, v, w, Ev.eq (vs := [.l (bytesD ns)]) L_spec_DrawActRun rfl (WR.ev ho rfl rfl rfl (WR.ev e rfl rfl rfl (WR.ev e' rfl rfl rfl (WR.ev e'' rfl rfl rfl (WR.done rfl))))), ha, hv, hw⟩

/-! ### What forms are -/

theorem dot_wrapG {a b : List Int} {i : Nat} {x y A B : Int} (hx : a[i]? = some x) (hy : b[i]? = some y) (ha : Lim A a) (hb : Lim B b) (hA : 0 ≤ A) (hB : 0 ≤ B) (hi : i < 1000) (hAB : A * B ≤ 1000000000000000) :
    IntKind.i64.wrap (dot (a.take i) (b.take i) + IntKind.i64.wrap (x * y)) = dot (a.take (i + 1)) (b.take (i + 1)) := by
  have h1 := dot_lim (ha.take i) (hb.take i) hA hB
  have h2 : ((a.take i).length : Int) ≤ 1000 := by simp; omega
  have h0 : 0 ≤ A * B := Int.mul_nonneg hA hB
  have h3 := mul_lim (ha x (List.mem_of_getElem? hx)) (hb y (List.mem_of_getElem? hy))
  have h4 : A * B * ((a.take i).length : Int) ≤ A * B * 1000 := Int.mul_le_mul_of_nonneg_left h2 h0
  rw [dot_step hx hy, w64 (n := x * y) (by omega) (by omega), w64 (by omega) (by omega)]

theorem ev_dotG {p a : List Int} {A B : Int} (hp : Lim A p) (ha : Lim B a) (hA : 0 ≤ A) (hB : 0 ≤ B) (hAB : A * B ≤ 1000000000000000) (hl : p.length = a.length) (h9 : p.length ≤ 999) : Ev L f_impl_dot [.s (dL p), .s (dL a)] [dI (dot p a)] := by
  refine Ev.eq (vs := [.l (dL p), .l (dL a)]) L_impl_dot rfl ?_
  refine WR.forP p.length (fun i => [.i (dot (p.take i) (a.take i)), .i i]) (fun _ => True) rfl rfl trivial fun i hi _ => ?_
  refine WR.iteLen i (dL_len p) rfl (fun h => ?_) (fun h => ?_)
  · obtain ⟨x, hx, _⟩ := some_at (show i < p.length by omega)
    obtain ⟨y, hy, _⟩ := some_at (show i < a.length by omega)
    refine WR.idxN i (map_at (f := dI) hx) rfl rfl rfl rfl ?_
    refine WR.idxN i (map_at (f := dI) hy) rfl rfl rfl rfl ?_
    refine WR.nextA (vs := [.i (dot (p.take (i + 1)) (a.take (i + 1))), .i ((i + 1 : Nat) : Int)]) ?_ ⟨h, rfl, trivial⟩
    show [V.i (IntKind.i64.wrap (dot (p.take i) (a.take i) + IntKind.i64.wrap (x * y))), V.i (IntKind.i64.wrap ((i : Int) + 1))] = _
    rw [wS h (by omega), dot_wrapG hx hy hp ha hA hB (by omega) hAB]
  · refine WR.esc (WR.done ?_)
    show [dI (dot (p.take i) (a.take i))] = _
    rw [take_all h, take_all (by omega)]

/-- A form, pots and arguments that fit together, and are not too large. -/
structure AtFit (f : Frm) (v w : List Int) : Prop where
  c : f.c.length = 3
  d : f.d.length = 2
  v3 : v.length = 3
  w2 : w.length = 2
  a : ∃ A B : Int, 0 ≤ A ∧ 0 ≤ B ∧ A * B ≤ 1000000000000000 ∧ Lim A f.c ∧ Lim A f.d ∧ Lim B v ∧ Lim B w ∧ -1000000000000000 ≤ f.k ∧ f.k ≤ 1000000000000000

theorem AtFit.sums {f : Frm} {v w : List Int} (h : AtFit f v w) : (-3000000000000000 ≤ dot f.c v ∧ dot f.c v ≤ 3000000000000000) ∧ (-2000000000000000 ≤ dot f.d w ∧ dot f.d w ≤ 2000000000000000) ∧ -1000000000000000 ≤ f.k ∧ f.k ≤ 1000000000000000 := by
  obtain ⟨A, B, hA, hB, hAB, h1, h2, h3, h4, h5⟩ := h.a
  have a := dot_lim h1 h3 hA hB
  have b := dot_lim h2 h4 hA hB
  rw [h.c] at a
  rw [h.d] at b
  exact ⟨by omega, by omega, h5⟩

theorem ev_iAt {f : Frm} {v w : List Int} (h : AtFit f v w) : Ev L f_impl_FrmForm_at (f.cells ++ [.s (dL v), .s (dL w)]) [dI (atF f v w)] := by
  obtain ⟨A, B, hA, hB, hAB, h1, h2, h3, h4, h5⟩ := h.a
  obtain ⟨s1, s2, s3⟩ := h.sums
  refine Ev.eq (vs := [.l (dL f.c), .l (dL f.d), .i f.k, .l (dL v), .l (dL w)]) L_impl_FrmForm_at rfl ?_
  refine WR.ev (ev_dotG h1 h3 hA hB hAB (by rw [h.c, h.v3]) (by rw [h.c]; omega)) rfl rfl rfl ?_
  refine WR.ev (ev_dotG h2 h4 hA hB hAB (by rw [h.d, h.w2]) (by rw [h.d]; omega)) rfl rfl rfl (WR.done ?_)
  show [dI (IntKind.i64.wrap (IntKind.i64.wrap (dot f.c v + dot f.d w) + f.k))] = _
  rw [w64 (n := dot f.c v + dot f.d w) (by omega) (by omega), w64 (by omega) (by omega)]; rfl

theorem valOk_iff {l : List Int} : valOk l = true ↔ l.length = 3 ∧ Lim 10000 l := by
  unfold valOk
  rw [allIn_iff]
  exact ⟨fun h => ⟨by omega, h.2⟩, fun h => ⟨by omega, h.2⟩⟩
theorem argOk_iff {l : List Int} : argOk l = true ↔ l.length = 2 ∧ Lim 9 l := by
  unfold argOk
  rw [allIn_iff]
  exact ⟨fun h => ⟨by omega, h.2⟩, fun h => ⟨by omega, h.2⟩⟩

/-- Of a form that is ok, at pots that are. -/
theorem AtFit.std {f : Frm} {v w : List Int} (hf : Std 10000000 f) (hv : valOk v = true) (hw : argOk w = true) : AtFit f v w := by
  obtain ⟨v1, v2⟩ := valOk_iff.1 hv
  obtain ⟨w1, w2⟩ := argOk_iff.1 hw
  exact ⟨hf.c, hf.d, v1, w1, 10000000, 10000, by omega, by omega, by omega, hf.lc, hf.ld, v2, w2.mono (by omega), by have := hf.k; omega⟩
theorem AtFit.small {f : Frm} {x w : List Int} (hf : f.small = true) (hx : x.length = 3) (hl : Lim 2000000000 x) (hw : argOk w = true) : AtFit f x w := by
  obtain ⟨h1, h2, h3, h4, h5⟩ := small_std hf
  obtain ⟨w1, w2⟩ := argOk_iff.1 hw
  exact ⟨h1, h2, hx, w1, 2, 2000000000, by omega, by omega, by omega, h3, h4, hl, w2.mono (by omega), by omega⟩

/-! ### Runs -/

def Res.ds (r : Res) : List D := [dI r.code, .s (dL r.tells), .s (dL r.is)]

theorem ok_kind {l : Line} (h : l.ok = true) (h1 : ¬ l.kind = 1) (h2 : ¬ l.kind = 2) (h4 : ¬ l.kind = 4) : l.kind = 3 := by
  unfold Line.ok at h
  rw [if_neg h1, if_neg h2] at h
  split at h
  · assumption
  · simp [h4] at h

theorem ev_ActRun (a : List Line) (v w : List Int) (ha : fitAct a) (hv : v.length ≤ 2000000) (hw : w.length ≤ 2000000) : Ev L f_impl_ActRun [.s (dAct a), .s (dL v), .s (dL w)] (Res.ds (actRun a v w)) := by
  refine Ev.eq (vs := [.l (dAct a), .l (dL v), .l (dL w)]) L_impl_ActRun rfl ?_
  have none : (actOk a && (valOk v && argOk w)) = false → actRun a v w = ⟨0, [], []⟩ := fun h => by simp [actRun, h]
  refine WR.ev (ev_iActOk a ha) rfl rfl rfl ?_
  refine WR.iteN (actOk a) rfl (fun h => WR.done ?_) (fun h => ?_)
  · rw [none (by simp [h])]; rfl
  refine WR.ev (ev_ValOk v hv) rfl rfl rfl ?_
  refine WR.iteN (valOk v) rfl (fun h2 => WR.done ?_) (fun h2 => ?_)
  · rw [none (by simp [h2])]; rfl
  refine WR.ev (ev_ArgOk w hw) rfl rfl rfl ?_
  refine WR.iteN (argOk w) rfl (fun h3 => WR.done ?_) (fun h3 => ?_)
  · rw [none (by simp [h3])]; rfl
  have hrun : actRun a v w = run v w a v [] := by simp [actRun, h, h2, h3]
  rw [hrun]
  obtain ⟨v1, v2⟩ := valOk_iff.1 h2
  obtain ⟨w1, w2⟩ := argOk_iff.1 h3
  obtain ⟨a1, a2⟩ := actOk_in h
  refine WR.ev (ev_clone1 v hv) rfl rfl rfl ?_
  simp only [List.cons_append, List.nil_append]
  refine WR.loop (fun m vs => ∃ (i : Int) (x t : List Int) (j : Nat), vs = [.l (dL t), .l (dL x), .i i] ∧ 0 ≤ i ∧ i ≤ 20 ∧ m = a.length - i.toNat ∧ (j : Int) ≤ i ∧ j ≤ 6 ∧ x.length = 3 ∧ Lim (XB j) x ∧ t.length ≤ j ∧ run v w (a.drop i.toNat) x t = run v w a v []) rfl a.length
    ⟨0, v, [], 0, rfl, by omega, by omega, by simp, by omega, by omega, v1, v2, by simp, by simp⟩ ?_
  rintro m _ ⟨i, x, t, j, rfl, i0, i20, hm, hji, hj6, hx, hl, ht, hr⟩
  rw [← hr]
  clear hr
  simp only [List.cons_append, List.nil_append]
  have hX0 := XB_pos j
  have hXl := XB_le hj6
  refine WR.iteP (i < ((dAct a).length : Int)) rfl (fun hi => ?_) (fun hi => ?_)
  · rw [dAct_len] at hi
    obtain ⟨l, hla, hd⟩ := dAct_get i0 hi
    have hok := a2 l (List.mem_of_getElem? hla)
    have hdr := drop_cons hla
    have hs1 : (i + 1).toNat = i.toNat + 1 := by omega
    refine WR.idxA (ds := dAct a) i rfl rfl rfl i0 hd rfl ?_
    simp only [List.cons_append, List.nil_append]
    refine WR.iteP (l.kind = 4) rfl (fun h4 => ?_) (fun h4 => ?_)
    · refine WR.ev (ev_clone1 v hv) rfl rfl rfl (WR.esc (WR.done ?_))
      rw [hdr, run, if_pos h4]; rfl
    have hsm := okLine_small hok h4
    have hlx : Lim 2000000000 x := hl.mono hXl
    refine WR.ev (ev_iAt (AtFit.small hsm hx hlx h3)) rfl rfl rfl ?_
    have hb := at_small hsm hl w2 hX0
    simp only [List.cons_append, List.nil_append]
    have hrn : run v w (a.drop i.toNat) x t = if l.kind = 1 then (if atF l.f x w < 0 then run v w (a.drop (i + l.skip + 1).toNat) x t else run v w (a.drop (i + 1).toNat) x t)
        else if l.kind = 2 then run v w (a.drop (i + 1).toNat) (x.set l.pot.toNat (x.getD l.pot.toNat 0 + atF l.f x w)) t else run v w (a.drop (i + 1).toNat) x (t ++ [atF l.f x w]) := by
      rw [hdr, run, if_neg h4, hs1]
      by_cases h1 : l.kind = 1
      · have hsk := ok_skip hok h1
        rw [if_pos h1, if_pos h1, List.drop_drop, show i.toNat + 1 + l.skip.toNat = (i + l.skip + 1).toNat by omega]
      · rw [if_neg h1, if_neg h1]
    rw [hrn]
    clear hrn
    generalize atF l.f x w = n at *
    refine WR.iteP (l.kind = 1) rfl (fun h1 => ?_) (fun h1 => ?_)
    · have hsk := ok_skip hok h1
      rw [if_pos h1]
      refine WR.iteP (n < 0) rfl (fun hn => ?_) (fun hn => ?_)
      · rw [if_pos hn]
        refine WR.nextA (vs := [.l (dL t), .l (dL x), .i (i + l.skip + 1)]) ?_ ⟨a.length - (i + l.skip + 1).toNat, by omega, i + l.skip + 1, x, t, j, rfl, by omega, by omega, rfl, by omega, by omega, hx, hl, ht, rfl⟩
        show [V.l (dL t), V.l (dL x), V.i (IntKind.i64.wrap (IntKind.i64.wrap (i + l.skip) + 1))] = _
        rw [w64 (n := i + l.skip) (by omega) (by omega), w64 (by omega) (by omega)]
      · rw [if_neg hn]
        refine WR.nextA (vs := [.l (dL t), .l (dL x), .i (i + 1)]) ?_ ⟨a.length - (i + 1).toNat, by omega, i + 1, x, t, j, rfl, by omega, by omega, rfl, by omega, by omega, hx, hl, ht, rfl⟩
        show [V.l (dL t), V.l (dL x), V.i (IntKind.i64.wrap (i + 1))] = _
        rw [w64 (by omega) (by omega)]
    rw [if_neg h1]
    have hj5 : j < 6 := by omega
    refine WR.iteP (l.kind = 2) rfl (fun h2' => ?_) (fun h2' => ?_)
    · have hpt := ok_pot hok h2'
      rw [if_pos h2']
      have hxp := at_getD (l := x) (i := l.pot.toNat) (by omega)
      have hdx : (dL x)[l.pot.toNat]? = some (dI (x.getD l.pot.toNat 0)) := map_at (f := dI) hxp
      have hlp := hl _ (List.mem_of_getElem? hxp)
      generalize x.getD l.pot.toNat 0 = y at *
      refine WR.chkP (0 ≤ l.pot) rfl hpt.1 ?_
      refine WR.chkP (l.pot < ((dL x).length : Int)) rfl (by rw [dL_len]; omega) ?_
      refine WR.idxA (ds := dL x) l.pot rfl rfl rfl hpt.1 hdx rfl ?_
      refine WR.chkP (0 ≤ l.pot) rfl hpt.1 ?_
      refine WR.chkP (l.pot < ((dL x).length : Int)) rfl (by rw [dL_len]; omega) ?_
      refine WR.idxA (ds := dL x) l.pot rfl rfl rfl hpt.1 hdx rfl ?_
      simp only [List.cons_append, List.nil_append]
      have hstep : XB (j + 1) = 7 * XB j + 60 := rfl
      refine WR.nextA (vs := [.l (dL t), .l (dL (x.set l.pot.toNat (y + n))), .i (i + 1)]) ?_ ⟨a.length - (i + 1).toNat, by omega, i + 1, x.set l.pot.toNat (y + n), t, j + 1, rfl, by omega, by omega, rfl, by omega, by omega, by simp [hx], (hl.mono (XB_mono (by omega))).set (by omega) _, by omega, rfl⟩
      show [V.l (dL t), V.l ((dL x).set l.pot.toNat (dI (IntKind.i64.wrap (y + n)))), V.i (IntKind.i64.wrap (i + 1))] = _
      rw [w64 (n := i + 1) (by omega) (by omega), w64 (by omega) (by omega), dL_set]
    rw [if_neg h2']
    have h3' := ok_kind hok h1 h2' h4
    refine WR.iteP (l.kind = 3) rfl (fun _ => ?_) (fun h => absurd h3' h)
    refine WR.chkApp (dL t) 10 (by rw [dL_len]; omega) (by omega) rfl ?_
    refine WR.nextA (vs := [.l (dL (t ++ [n])), .l (dL x), .i (i + 1)]) ?_ ⟨a.length - (i + 1).toNat, by omega, i + 1, x, t ++ [n], j + 1, rfl, by omega, by omega, rfl, by omega, by omega, hx, hl.mono (XB_mono (by omega)), by simp; omega, rfl⟩
    show [V.l (dL t ++ [dI n]), V.l (dL x), V.i (IntKind.i64.wrap (i + 1))] = _
    rw [w64 (by omega) (by omega), dL_snoc]
  · rw [dAct_len] at hi
    rw [List.drop_eq_nil_of_le (by omega), run]
    refine WR.esc ?_
    refine WR.ev (ev_ValOk x (by omega)) rfl rfl rfl ?_
    unfold endOf
    refine WR.iteN (valOk x) rfl (fun hvx => ?_) (fun hvx => WR.done ?_)
    · rw [hvx, if_neg (by simp)]
      exact WR.ev (ev_clone1 v hv) rfl rfl rfl (WR.done rfl)
    · rw [hvx]; rfl

/-! ### Pots of which something holds -/

theorem dActs_one (a : List Line) : dActs [a] = [.s (dAct a)] := rfl

def catWrites (a : List Line) : List Bool := if actOk a then potsM writesM [a] else []
def catReads (a : List Line) : List Bool := if actOk a then potsM readsM [a] else []

theorem catWrites_len (a : List Line) : (catWrites a).length ≤ 3 := by
  unfold catWrites; split
  · rw [pots_len]; omega
  · simp

/-- What is not turned stays. -/
theorem run_stays {a : List Line} {v w : List Int} (hok : actOk a = true) (hv : valOk v = true) (hw : argOk w = true) {i : Nat} (hi : i < 3) (h : (catWrites a).getD i false = false) :
    (actRun a v w).is.length = 3 ∧ (actRun a v w).is.getD i 0 = v.getD i 0 := by
  obtain ⟨v1, v2⟩ := valOk_iff.1 hv
  obtain ⟨w1, w2⟩ := argOk_iff.1 hw
  have hrun : actRun a v w = run v w a v [] := by simp [actRun, hok, hv, hw]
  obtain ⟨l1, l2, r, e1, e2, e3, e4, e5⟩ := one_way hok v1 w1
  have hr : r ∈ rowsOf a := by rw [e1]; simp
  have hfit := rows_fit r hr
  rw [hrun, ← e5]
  simp only [catWrites, hok, if_true] at h
  rw [pots_at _ _ hi] at h
  simp only [List.any_cons, List.any_nil, Bool.or_false, List.any_eq_false] at h
  have hwr := h r hr
  unfold rowRes
  cases hs : r.stop with
  | true => exact ⟨v1, rfl⟩
  | false =>
    rw [if_neg (by simp)]
    unfold endOf
    split
    · have hal := hfit.ns hs
      simp only [writesM, hs, Bool.not_false, Bool.true_and, Bool.not_eq_true', decide_eq_false_iff_not, Classical.not_not, Bool.not_eq_true, Bool.not_eq_false', decide_eq_true_eq] at hwr
      have hz : ((atL r.adds v w).getD i 0) = 0 := by rw [atL_getD (by omega), hwr, at_zero]
      have hl : (atL r.adds v w).length = 3 := by simp [atL, hal]
      refine ⟨by simp [hl, v1], ?_⟩
      simp only [List.getD_eq_getElem?_getD] at hz ⊢
      have h1 : v[i]? = some (v.getD i 0) := at_getD (by omega)
      have h2 : (atL r.adds v w)[i]? = some ((atL r.adds v w).getD i 0) := at_getD (by omega)
      rw [List.getElem?_zipWith, h1, h2]
      simp only [List.getD_eq_getElem?_getD, hz]
      simp
    · exact ⟨v1, rfl⟩

end Go.Proofs.YtdibnlhlngodeaaDoor

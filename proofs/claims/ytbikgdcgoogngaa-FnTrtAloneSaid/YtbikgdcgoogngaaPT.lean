/- There is one way, and it is the act; what an act does not read turns no answer; with an act more there is more: over residual programs. -/
import Derived.Test.YtbikgdcgoogngaaPS
import Derived.Test.YtbikgdcgoogngaaPK
import Derived.Test.YtbikgdcgoogngaaTc
namespace Go.Proofs.Ytbikgdcgoogngaa
open Go Go.Tm

theorem ev_RowFits_1 {f : Frm} {v w : List Int} (h : AtFit f v w) : Ev L f_impl_RowFits_1 (f.cells ++ [D.q [.s (dL v)], D.q [.s (dL w)]].map D.norm) [dB (!decide (0 ≤ atF f v w))] := by
  refine Ev.eq (vs := [.l (dL f.c), .l (dL f.d), .i f.k, .d (.q [.s (dL v)]), .d (.q [.s (dL w)])]) L_impl_RowFits_1 rfl ?_
  refine WR.get (vs := [.l (dL v)]) rfl rfl ?_
  refine WR.get (vs := [.l (dL w)]) rfl rfl ?_
  refine WR.ev (ev_iAt h) rfl rfl rfl (WR.done ?_)
  show [dB (decide (atF f v w < 0))] = _
  congr 3
  by_cases h : atF f v w < 0
  · simp [h]
  · simp [h, show 0 ≤ atF f v w by omega]

theorem ev_rowOk (r : Row) (hr : RowFit r) (v w : List Int) (hv : v.length ≤ 1000000) (hw : w.length ≤ 1000000) : Ev L f_impl_rowOk (r.cells ++ [.s (dL v), .s (dL w)]) [dB (valOk v && argOk w)] := by
  refine Ev.eq (vs := [.l (dF r.guards), .l (dF r.adds), .l (dF r.tells), .b r.stop, .l (dL v), .l (dL w)]) L_impl_rowOk rfl ?_
  have e := ev_RowOk r (fit_of_row hr)
  rw [hr.okM] at e
  refine WR.ev e rfl rfl rfl (WR.iteT rfl ?_)
  refine WR.ev (ev_ValOk v hv) rfl rfl rfl ?_
  refine WR.iteB (valOk v) rfl (fun h => ?_) (fun h => WR.done ?_)
  · refine WR.ev (ev_ArgOk w hw) rfl rfl rfl (WR.done ?_)
    rw [h]; rfl
  · rw [h]; rfl

def rowFitsM (r : Row) (v w : List Int) : Bool := valOk v && argOk w && guardsHold r v w

theorem ev_RowFits (r : Row) (hr : RowFit r) (v w : List Int) (hv : v.length ≤ 1000000) (hw : w.length ≤ 1000000) : Ev L f_impl_RowFits (r.cells ++ [.s (dL v), .s (dL w)]) [dB (rowFitsM r v w)] := by
  refine Ev.eq (vs := [.l (dF r.guards), .l (dF r.adds), .l (dF r.tells), .b r.stop, .l (dL v), .l (dL w)]) L_impl_RowFits rfl ?_
  refine WR.ev (ev_rowOk r hr v w hv hw) rfl rfl rfl ?_
  unfold rowFitsM
  refine WR.iteB (valOk v && argOk w) rfl (fun h => ?_) (fun h => WR.done ?_)
  · have h' := h
    simp only [Bool.and_eq_true] at h'
    have hgl := hr.gl
    refine WR.ev (ev_hasFrm (fun f => !decide (0 ≤ atF f v w)) r.guards (fn := f_impl_RowFits_1) (caps := [.q [.s (dL v)], .q [.s (dL w)]]) (by omega) rfl rfl fun f hf => ev_RowFits_1 (AtFit.std (hr.g f hf) h'.1 h'.2)) rfl rfl rfl (WR.done ?_)
    show [dB (!(r.guards.any fun f => !decide (0 ≤ atF f v w)))] = _
    rw [not_any, h, Bool.true_and]; rfl
  · rw [h]; rfl

theorem ev_all {fs : List Frm} {v w : List Int} (hl : fs.length ≤ 1000) (hf : ∀ f ∈ fs, AtFit f v w) : Ev L f_impl_all [.s (dF fs), .s (dL v), .s (dL w)] [.s (dL (atL fs v w))] := by
  refine Ev.eq (vs := [.l (dF fs), .l (dL v), .l (dL w)]) L_impl_all rfl ?_
  refine WR.forP fs.length (fun i => [.l (dL (atL (fs.take i) v w)), .i i]) (fun _ => True) rfl rfl trivial fun i hi _ => ?_
  refine WR.iteLen i (dF_len fs) rfl (fun h => ?_) (fun h => ?_)
  · obtain ⟨x, hx, hm⟩ := some_at h
    refine WR.idxN i (map_at (f := Frm.g) hx) rfl rfl rfl rfl ?_
    refine WR.ev (ev_iAt (hf x hm)) rfl rfl rfl ?_
    refine WR.chkApp (dL (atL (fs.take i) v w)) 1000 (by rw [dL_len]; simp [atL]; omega) (by omega) rfl ?_
    refine WR.nextA (vs := [.l (dL (atL (fs.take (i + 1)) v w)), .i ((i + 1 : Nat) : Int)]) ?_ ⟨h, rfl, trivial⟩
    show [V.l (dL (atL (fs.take i) v w) ++ [dI (atF x v w)]), V.i (IntKind.i64.wrap ((i : Int) + 1))] = _
    rw [wS h (by omega), dL_snoc, take_succ hx]
    simp [atL]
  · refine WR.esc (WR.done ?_)
    rw [take_all h]; rfl

theorem addU_one {a b : List Int} (h : b.length = a.length) : addU a b 1 = List.zipWith (· + ·) a b := by
  rw [addU_eq h]
  unfold addL
  congr 1
  funext x y
  omega

theorem ev_plus {a b : List Int} {M : Int} (ha : Lim M a) (hb : Lim M b) (hM : M ≤ 4000000000000000000) (hl : b.length = a.length) (h9 : a.length ≤ 1000) : Ev L f_impl_plus [.s (dL a), .s (dL b)] [.s (dL (List.zipWith (· + ·) a b))] := by
  refine Ev.eq (vs := [.l (dL a), .l (dL b)]) L_impl_plus rfl ?_
  refine WR.ev (ev_clone1 a (by omega)) rfl rfl rfl ?_
  refine WR.forP b.length (fun i => [.l (dL (addL a (b.take i) 1 ++ a.drop i)), .i i]) (fun _ => True) rfl (by simp [addL, den, envL, V.int]) trivial fun i hi _ => ?_
  simp only [List.cons_append, List.nil_append]
  refine WR.iteLen i (dL_len b) rfl (fun h => ?_) (fun h => ?_)
  · obtain ⟨x, hx, hmx⟩ := some_at (show i < a.length by omega)
    obtain ⟨y, hy, hmy⟩ := some_at h
    obtain ⟨s1, s2⟩ := addU_step (n := 1) (by omega) hx hy
    have hxl := ha x hmx
    have hyl := hb y hmy
    refine WR.idxN i (map_at (f := dI) hy) rfl rfl rfl rfl ?_
    refine WR.atN i (map_at (f := dI) s1) rfl rfl rfl rfl rfl rfl ?_
    refine WR.atN i (map_at (f := dI) s1) rfl rfl rfl rfl rfl rfl ?_
    refine WR.nextA (vs := [.l (dL (addL a (b.take (i + 1)) 1 ++ a.drop (i + 1))), .i ((i + 1 : Nat) : Int)]) ?_ ⟨h, rfl, trivial⟩
    show [V.l ((dL (addL a (b.take i) 1 ++ a.drop i)).set (i : Int).toNat (dI (IntKind.i64.wrap (x + y)))), V.i (IntKind.i64.wrap ((i : Int) + 1))] = _
    rw [wS h (by omega), w64 (by omega) (by omega), dL_set, Int.toNat_natCast, show x + y = x + 1 * y by omega, s2]
  · refine WR.esc (WR.done ?_)
    show [D.s (dL (addL a (b.take i) 1 ++ a.drop i))] = _
    rw [take_all h, show i = b.length by omega, ← addU_one hl]; rfl

theorem at_lim {f : Frm} {v w : List Int} (h : AtFit f v w) : -6000000000000000 ≤ atF f v w ∧ atF f v w ≤ 6000000000000000 := by
  obtain ⟨s1, s2, s3⟩ := h.sums
  unfold atF; omega
theorem atL_lim {fs : List Frm} {v w : List Int} (h : ∀ f ∈ fs, AtFit f v w) : Lim 6000000000000000 (atL fs v w) := by
  intro x hx
  simp only [atL, List.mem_map] at hx
  obtain ⟨f, hf, rfl⟩ := hx
  exact at_lim (h f hf)

theorem ev_RowDo (r : Row) (hr : RowFit r) {v w : List Int} (hv : valOk v = true) (hw : argOk w = true) : Ev L f_impl_RowDo (r.cells ++ [.s (dL v), .s (dL w)]) (Res.ds (rowRes r v w)) := by
  obtain ⟨v1, v2⟩ := valOk_iff.1 hv
  obtain ⟨w1, w2⟩ := argOk_iff.1 hw
  refine Ev.eq (vs := [.l (dF r.guards), .l (dF r.adds), .l (dF r.tells), .b r.stop, .l (dL v), .l (dL w)]) L_impl_RowDo rfl ?_
  have e := ev_rowOk r hr v w (by omega) (by omega)
  rw [hv, hw] at e
  refine WR.ev e rfl rfl rfl (WR.iteF rfl ?_)
  simp only [List.cons_append, List.nil_append]
  unfold rowRes
  refine WR.iteB r.stop rfl (fun h => ?_) (fun h => ?_)
  · rw [h, if_pos rfl]
    exact WR.ev (ev_clone1 v (by omega)) rfl rfl rfl (WR.done rfl)
  · have hal := hr.ns h
    have htl := hr.tl
    have fa : ∀ f ∈ r.adds, AtFit f v w := fun f hf => AtFit.std (hr.a f hf) hv hw
    have ft : ∀ f ∈ r.tells, AtFit f v w := fun f hf => AtFit.std (hr.t f hf) hv hw
    rw [h, if_neg (by simp)]
    refine WR.ev (ev_all (by omega) fa) rfl rfl rfl ?_
    have hl3 : (atL r.adds v w).length = 3 := by simp [atL, hal]
    refine WR.ev (ev_plus (M := 6000000000000000) (v2.mono (by omega)) (atL_lim fa) (by omega) (by omega) (by omega)) rfl rfl rfl ?_
    simp only [List.cons_append, List.nil_append]
    have hz3 : (List.zipWith (· + ·) v (atL r.adds v w)).length = 3 := by simp [v1, hl3]
    generalize List.zipWith (· + ·) v (atL r.adds v w) = own at *
    refine WR.ev (ev_ValOk own (by omega)) rfl rfl rfl ?_
    unfold endOf
    refine WR.iteN (valOk own) rfl (fun h2 => ?_) (fun h2 => ?_)
    · rw [h2, if_neg (by simp)]
      exact WR.ev (ev_clone1 v (by omega)) rfl rfl rfl (WR.done rfl)
    · rw [h2, if_pos rfl]
      exact WR.ev (ev_all (by omega) ft) rfl rfl rfl (WR.done rfl)

theorem ev_coRes (c1 c2 : Int) (t1 t2 : List Int) (hl : t1.length ≤ 1000000) : Ev L f_laws_coRes [dI c1, .s (dL t1), dI c2, .s (dL t2)] [dB (decide (c1 = c2) && decide (t1 = t2))] := by
  refine Ev.eq (vs := [.i c1, .l (dL t1), .i c2, .l (dL t2)]) L_laws_coRes rfl ?_
  refine WR.iteP (c1 = c2) rfl (fun h => ?_) (fun h => WR.done ?_)
  · refine WR.ev (ev_coInts t1 t2 hl) rfl rfl rfl (WR.done ?_)
    rw [decide_eq_true h]; rfl
  · rw [decide_eq_false h]; rfl

theorem run_len {v w : List Int} : ∀ (n : Nat) (a : List Line) (x t : List Int), a.length = n → (run v w a x t).tells.length ≤ t.length + n := by
  intro n
  induction n using Nat.strongRecOn with
  | _ n ih =>
    intro a x t hn
    cases a with
    | nil => rw [run]; unfold endOf; split <;> simp
    | cons l rest =>
      simp only [List.length_cons] at hn
      rw [run]
      split
      · simp
      split
      · split
        · have := ih (rest.drop l.skip.toNat).length (by simp; omega) (rest.drop l.skip.toNat) x t rfl
          simp at this; omega
        · have := ih rest.length (by omega) rest x t rfl; omega
      split
      · have := ih rest.length (by omega) rest (x.set l.pot.toNat (x.getD l.pot.toNat 0 + atF l.f x w)) t rfl; omega
      · have := ih rest.length (by omega) rest x (t ++ [atF l.f x w]) rfl
        simp at this; omega

theorem actRun_len {a : List Line} {v w : List Int} (ha : fitAct a) (hv : v.length ≤ 1000) : (actRun a v w).tells.length ≤ 1000000 := by
  unfold actRun
  split
  · have := run_len (v := v) (w := w) a.length a v [] rfl
    have := ha.1
    simp at *; omega
  · simp

theorem sArgOk (l : List Int) (hl : l.length ≤ 1000000) : Ev L f_spec_ArgOk [.s (dL l)] [dB (argOk l)] :=
  Ev.eq (vs := [.l (dL l)]) L_spec_ArgOk rfl (WR.ev (ev_l1All l 2 9 hl (by omega) (by omega)) rfl rfl rfl (WR.done rfl))

theorem ev_FnRowsOne (ns : List Int) (hb : ∀ x ∈ ns, 0 ≤ x ∧ x < 256) : Ev L f_laws_FnRowsOne [.s (bytesD ns)] [dB true] := by
  refine Ev.eq (vs := [.l (bytesD ns)]) L_laws_FnRowsOne rfl ?_
  refine WR.iteP (1048576 < ((bytesD ns).length : Int)) rfl (fun _ => WR.done rfl) (fun _ => ?_)
  obtain ⟨a, v, w, hd, ha, hv, hw⟩ := ev_DrawActRun ns hb
  refine WR.ev hd rfl rfl rfl ?_
  refine WR.ev (ev_iRowsOf a ha.fit) rfl rfl rfl ?_
  refine WR.ev (ev_RowsOf a ha.fit) rfl rfl rfl ?_
  have hrl := rows_len a
  have hrf : ∀ r ∈ rowsOf a, RowFit r := rows_fit
  have hco := ev_coRows (rowsOf a) (rowsOf a) (by omega) fun r hr => fit_of_row (hrf r hr)
  rw [decide_eq_true rfl] at hco
  refine WR.ev hco rfl rfl rfl (WR.iteF rfl ?_)
  refine WR.ev (ev_ActOk a ha.fit) rfl rfl rfl ?_
  simp only [List.cons_append, List.nil_append]
  refine WR.iteN (actOk a) rfl (fun _ => ?_) (fun h1 => ?_)
  · refine WR.ev (ev_iActOk a ha.fit) rfl rfl rfl (WR.ev (ev_ActOk a ha.fit) rfl rfl rfl ?_)
    exact WR.iteT (by show (actOk a == actOk a) = true; simp) (WR.ev ev_coHolds rfl rfl rfl (WR.done rfl))
  refine WR.ev (ev_sValOk v (by omega)) rfl rfl rfl ?_
  refine WR.iteN (valOk v) rfl (fun _ => ?_) (fun h2 => ?_)
  · refine WR.ev (ev_iActOk a ha.fit) rfl rfl rfl (WR.ev (ev_ActOk a ha.fit) rfl rfl rfl ?_)
    exact WR.iteT (by show (actOk a == actOk a) = true; simp) (WR.ev ev_coHolds rfl rfl rfl (WR.done rfl))
  refine WR.ev (sArgOk w (by omega)) rfl rfl rfl ?_
  refine WR.iteN (argOk w) rfl (fun _ => ?_) (fun h3 => ?_)
  · refine WR.ev (ev_iActOk a ha.fit) rfl rfl rfl (WR.ev (ev_ActOk a ha.fit) rfl rfl rfl ?_)
    exact WR.iteT (by show (actOk a == actOk a) = true; simp) (WR.ev ev_coHolds rfl rfl rfl (WR.done rfl))
  obtain ⟨hc1, hone⟩ := fits_one h1 (valOk_iff.1 h2).1 (argOk_iff.1 h3).1
  have hrun : run v w a v [] = actRun a v w := by simp [actRun, h1, h2, h3]
  rw [hrun] at hone
  have htl := actRun_len (w := w) ha.fit (show v.length ≤ 1000 by omega)
  have hAR := ev_ActRun a v w ha.fit (by omega) (by omega)
  have hi3 : (actRun a v w).is.length ≤ 1000000 := by
    obtain ⟨l1, l2, r, e1, e2, e3, e4, e5⟩ := one_way h1 (valOk_iff.1 h2).1 (argOk_iff.1 h3).1
    rw [hrun] at e5
    rw [← e5]
    have hv3 := (valOk_iff.1 h2).1
    unfold rowRes
    split
    · show v.length ≤ _; omega
    · unfold endOf; split
      · simp; omega
      · show v.length ≤ _; omega
  generalize actRun a v w = R at *
  generalize rowsOf a = rs at *
  simp only [List.cons_append, List.nil_append]
  refine WR.forP rs.length (fun i => [.l (dL v), .l (dL w), .i ((rs.take i).countP (fun r => guardsHold r v w) : Nat), .i i]) (fun _ => True) rfl rfl trivial fun i hi _ => ?_
  simp only [List.cons_append, List.nil_append]
  refine WR.iteLen i (dRows_len rs) rfl (fun h => ?_) (fun h => ?_)
  · obtain ⟨r, hr, hm⟩ := some_at h
    have hfit := hrf r hm
    have hcs : (rs.take (i + 1)).countP (fun r => guardsHold r v w) = (rs.take i).countP (fun r => guardsHold r v w) + if guardsHold r v w then 1 else 0 := by
      rw [take_succ hr, List.countP_append, List.countP_singleton]
    have hcl : (rs.take i).countP (fun r => guardsHold r v w) ≤ 64 := Nat.le_trans List.countP_le_length (by simp; omega)
    refine WR.atN i (rdR hr) rfl rfl rfl rfl rfl rfl ?_
    refine WR.ev (ev_RowFits r hfit v w (by omega) (by omega)) rfl rfl rfl ?_
    simp only [List.cons_append, List.nil_append]
    refine WR.iteB (guardsHold r v w) (by show rowFitsM r v w = _; simp [rowFitsM, h2, h3]) (fun hg => ?_) (fun hg => ?_)
    · have hres := hone r hm hg
      refine WR.atN i (rdR hr) rfl rfl rfl rfl rfl rfl ?_
      have eD := ev_RowDo r hfit h2 h3
      rw [hres] at eD
      refine WR.ev eD rfl rfl rfl ?_
      simp only [List.cons_append, List.nil_append]
      refine WR.ev hAR rfl rfl rfl ?_
      simp only [List.cons_append, List.nil_append]
      have ec := ev_coRes R.code R.code R.tells R.tells htl
      rw [decide_eq_true rfl, decide_eq_true rfl] at ec
      refine WR.ev ec rfl rfl rfl (WR.iteF rfl ?_)
      have ei := ev_coInts R.is R.is hi3
      rw [decide_eq_true rfl] at ei
      refine WR.ev ei rfl rfl rfl (WR.iteF rfl ?_)
      refine WR.nextA (vs := [.l (dL v), .l (dL w), .i ((rs.take (i + 1)).countP (fun r => guardsHold r v w) : Nat), .i ((i + 1 : Nat) : Int)]) ?_ ⟨h, rfl, trivial⟩
      show [V.l (dL v), V.l (dL w), V.i (IntKind.i64.wrap (((rs.take i).countP (fun r => guardsHold r v w) : Nat) + 1)), V.i (IntKind.i64.wrap ((i : Int) + 1))] = _
      rw [wS h (by omega), wS' (by omega), hcs, hg]; rfl
    · refine WR.nextA (vs := [.l (dL v), .l (dL w), .i ((rs.take (i + 1)).countP (fun r => guardsHold r v w) : Nat), .i ((i + 1 : Nat) : Int)]) ?_ ⟨h, rfl, trivial⟩
      show [V.l (dL v), V.l (dL w), V.i ((rs.take i).countP (fun r => guardsHold r v w) : Nat), V.i (IntKind.i64.wrap ((i : Int) + 1))] = _
      rw [wS h (by omega), hcs, hg]; rfl
  · refine WR.esc (WR.done ?_)
    show [dB (decide (((rs.take i).countP (fun r => guardsHold r v w) : Int) = 1))] = _
    rw [take_all h, hc1]; rfl

/-! ### What is not read -/

theorem ev_sReads (a : List Line) (ha : fitAct a) : Ev L f_spec_CatReads [.s (dAct a)] [.s (dBl (catReads a))] := by
  refine Ev.eq (vs := [.l (dAct a)]) L_spec_CatReads rfl ?_
  refine WR.ev (ev_ActOk a ha) rfl rfl rfl ?_
  refine WR.iteN (actOk a) rfl (fun h => WR.done ?_) (fun h => ?_)
  · show [D.s []] = _
    simp [catReads, h, dBl]
  refine WR.ev (ev_RowsOf a ha) rfl rfl rfl ?_
  have hrf : ∀ r ∈ rowsOf a, RowFit r := rows_fit
  have hrl := rows_len a
  have hcw : catReads a = (rowsOf a).foldl (fun p r => orB p (readsM r)) [false, false, false] := by simp [catReads, h, potsM]
  rw [hcw]
  clear hcw
  generalize rowsOf a = rs at *
  simp only [List.cons_append, List.nil_append]
  refine WR.forS rs.length (fun k vs => ∃ q : List Bool, vs = [.l (dBl q), .i k] ∧ q.length = 3 ∧ q = (rs.take k).foldl (fun p r => orB p (readsM r)) [false, false, false]) rfl ⟨[false, false, false], rfl, rfl, rfl⟩ ?_
  rintro k _ hk ⟨q, rfl, hq, hqe⟩
  simp only [List.cons_append, List.nil_append]
  refine WR.iteLen k (dRows_len rs) rfl (fun h'' => ?_) (fun h'' => ?_)
  · obtain ⟨r, hr, hmr⟩ := some_at h''
    have hfit := hrf r hmr
    have hC : (rs.take (k + 1)).foldl (fun p r => orB p (readsM r)) [false, false, false] = orB q (readsM r) := by rw [hqe]; exact foldl_take hr
    have hal := hfit.al
    have htl := hfit.tl
    have e3 : (readsL q r.adds).length = 3 := readsL_len hq fun f hf => (hfit.a f hf).c
    refine WR.atN k (rdR hr) rfl rfl rfl rfl rfl rfl ?_
    refine WR.ev (ev_l4Reads q r.adds hq (fun f hf => (hfit.a f hf).c) (by omega)) rfl rfl rfl ?_
    refine WR.atN k (rdR hr) rfl rfl rfl rfl rfl rfl ?_
    refine WR.ev (ev_l4Reads (readsL q r.adds) r.tells e3 (fun f hf => (hfit.t f hf).c) (by omega)) rfl rfl rfl ?_
    rw [reads_row hq hfit]
    simp only [List.cons_append, List.nil_append]
    refine WR.nextA (vs := [.l (dBl (orB q (readsM r))), .i ((k + 1 : Nat) : Int)]) ?_ ⟨h'', orB q (readsM r), rfl, by rw [orB_len]; exact hq, hC.symm⟩
    show [V.l (dBl (orB q (readsM r))), V.i (IntKind.i64.wrap ((k : Int) + 1))] = _
    rw [wS h'' (by omega)]
  · refine WR.esc (WR.done ?_)
    show [D.s (dBl q)] = _
    rw [take_all h''] at hqe
    rw [hqe]

theorem catReads_len (a : List Line) : (catReads a).length ≤ 3 := by
  unfold catReads; split
  · rw [pots_len]; omega
  · simp

theorem done_end {r : Row} {v w : List Int} (h : (rowRes r v w).code = 1) : (rowRes r v w).is = List.zipWith (· + ·) v (atL r.adds v w) ∧ (rowRes r v w).tells = atL r.tells v w ∧ r.stop = false := by
  unfold rowRes at *
  split at h
  · simp at h
  · rename_i hs
    rw [if_neg hs]
    unfold endOf at *
    split at h
    · rename_i hv; rw [if_pos hv]; exact ⟨rfl, rfl, by simpa using hs⟩
    · simp at h

set_option maxHeartbeats 1000000 in
theorem ev_FnCatReads (ns : List Int) (hb : ∀ x ∈ ns, 0 ≤ x ∧ x < 256) : Ev L f_laws_FnCatReads [.s (bytesD ns)] [dB true] := by
  refine Ev.eq (vs := [.l (bytesD ns)]) L_laws_FnCatReads rfl ?_
  refine WR.iteP (1048576 < ((bytesD ns).length : Int)) rfl (fun _ => WR.done rfl) (fun _ => ?_)
  obtain ⟨a, v, w, hd, ha, hv, hw⟩ := ev_DrawActRun ns hb
  refine WR.ev hd rfl rfl rfl ?_
  refine WR.ev (ev_iReads a ha.fit) rfl rfl rfl ?_
  refine WR.ev (ev_sReads a ha.fit) rfl rfl rfl ?_
  have hcl := catReads_len a
  have hco := ev_coBools (catReads a) (catReads a) (by omega)
  rw [decide_eq_true rfl] at hco
  refine WR.ev hco rfl rfl rfl (WR.iteF rfl ?_)
  refine WR.ev (ev_ActRun a v w ha.fit (by omega) (by omega)) rfl rfl rfl ?_
  simp only [List.cons_append, List.nil_append]
  refine WR.iteP ((actRun a v w).code = 0) rfl (fun h => WR.ev ev_coHolds rfl rfl rfl (WR.done rfl)) (fun h => ?_)
  have hok : actOk a = true ∧ valOk v = true ∧ argOk w = true := by
    unfold actRun at h
    split at h
    · rename_i h'
      simpa [Bool.and_eq_true] using h'
    · exact absurd rfl h
  obtain ⟨h1, h2, h3⟩ := hok
  obtain ⟨v1, v2⟩ := valOk_iff.1 h2
  have w1 := (argOk_iff.1 h3).1
  have hC3 : (catReads a).length = 3 := by simp only [catReads, h1, if_true]; exact pots_len _ _
  have hread : ∀ r ∈ rowsOf a, ∀ i, i < 3 → readsM r i = true → (catReads a).getD i false = true := by
    intro r hr i hi hri
    simp only [catReads, h1, if_true]
    rw [pots_at _ _ hi]
    simp only [List.any_cons, List.any_nil, Bool.or_false]
    exact List.any_eq_true.2 ⟨r, hr, hri⟩
  have hrun : ∀ o : List Int, valOk o = true → actRun a o w = run o w a o [] := fun o ho => by simp [actRun, h1, h3, ho]
  have hrows : ∀ o : List Int, valOk o = true → ∀ r ∈ rowsOf a, guardsHold r o w = true → rowRes r o w = actRun a o w := fun o ho r hr hg => by
    rw [hrun o ho]; exact (fits_one h1 (valOk_iff.1 ho).1 w1).2 r hr hg
  have htells : ∀ o : List Int, o.length ≤ 1000 → (actRun a o w).tells.length ≤ 1000000 := fun o ho => actRun_len ha.fit ho
  generalize catReads a = C at *
  refine WR.chkN (dL v) 100 (by rw [dL_len]; omega) (by omega) rfl ?_
  refine WR.head (head_dL v) ?_
  refine WR.chkN (dL v) 100 (by rw [dL_len]; omega) (by omega) rfl ?_
  refine WR.forS 3 (fun i vs => ∃ o : List Int, vs = [.l (dL o), .i i] ∧ o.length = 3 ∧ ∀ j, j < 3 → C.getD j false = true → v.getD j 0 = o.getD j 0) rfl ⟨v, rfl, v1, fun _ _ _ => rfl⟩ ?_
  rintro i _ hi ⟨o, rfl, ho, hag⟩
  simp only [List.cons_append, List.nil_append]
  refine WR.iteLt i 3 rfl (fun h' => ?_) (fun _ => ?_)
  · have hcc : C[i]? = some (C.getD i false) := by simp [List.getD_eq_getElem?_getD, show i < C.length by omega]
    refine WR.atN i (map_at (f := dB) hcc) rfl rfl rfl rfl rfl rfl ?_
    refine WR.iteN (C.getD i false) rfl (fun hcf => ?_) (fun _ => ?_)
    · have hvi := at_getD (l := v) (i := i) (by omega)
      have hoi := at_getD (l := o) (i := i) (by omega)
      refine WR.atN i (map_at (f := dI) hvi) rfl rfl rfl rfl rfl rfl ?_
      refine WR.chk rfl (WR.chk rfl ?_)
      refine WR.atN i (map_at (f := dI) hoi) rfl rfl rfl rfl rfl rfl ?_
      simp only [List.cons_append, List.nil_append]
      refine WR.nextA (vs := [.l (dL (o.set i (IntKind.i64.wrap ((IntKind.i64.wrap (IntKind.i64.wrap (v.getD i 0 + 1) + ((bytesD ns).length : Int).tmod 7)).tdiv 2)))), .i ((i + 1 : Nat) : Int)]) ?_ ⟨h', _, rfl, by simp [ho], ?_⟩
      · show [V.l ((dL o).set (i : Int).toNat (dI (IntKind.i64.wrap ((IntKind.i64.wrap (IntKind.i64.wrap (v.getD i 0 + 1) + ((bytesD ns).length : Int).tmod 7)).tdiv 2)))), V.i (IntKind.i64.wrap ((i : Int) + 1))] = _
        rw [wS h' (by omega), dL_set, Int.toNat_natCast]
      · intro j hj hcj
        have hne : i ≠ j := fun e => by subst e; rw [hcf] at hcj; cases hcj
        rw [hag j hj hcj]
        simp [List.getD_eq_getElem?_getD, List.getElem?_set_ne hne]
    · refine WR.nextA (vs := [.l (dL o), .i ((i + 1 : Nat) : Int)]) ?_ ⟨h', o, rfl, ho, hag⟩
      show [V.l (dL o), V.i (IntKind.i64.wrap ((i : Int) + 1))] = _
      rw [wS h' (by omega)]
  refine WR.esc ?_
  refine WR.ev (ev_ActRun a o w ha.fit (by omega) (by omega)) rfl rfl rfl ?_
  refine WR.ev (ev_iRowsOf a ha.fit) rfl rfl rfl ?_
  simp only [List.cons_append, List.nil_append]
  have hrf : ∀ r ∈ rowsOf a, RowFit r := rows_fit
  have hrl := rows_len a
  have ra := hrows v h2
  have rb := fun (hv : valOk o = true) => hrows o hv
  have ta := htells v (by omega)
  generalize actRun a v w = RA at *
  generalize actRun a o w = RB at *
  generalize rowsOf a = rs at *
  refine WR.forP rs.length (fun i => [.i i]) (fun _ => True) rfl rfl trivial fun k hk _ => ?_
  simp only [List.cons_append, List.nil_append]
  refine WR.iteLen k (dRows_len rs) rfl (fun h' => ?_) (fun _ => WR.esc (WR.done rfl))
  obtain ⟨r, hr, hm⟩ := some_at h'
  have hfit := hrf r hm
  have nx : [V.i (IntKind.i64.wrap ((k : Int) + 1))] = [V.i ((k + 1 : Nat) : Int)] := by rw [wS h' (by omega)]
  refine WR.atN k (rdR hr) rfl rfl rfl rfl rfl rfl ?_
  refine WR.ev (ev_RowFits r hfit v w (by omega) (by omega)) rfl rfl rfl ?_
  simp only [List.cons_append, List.nil_append]
  refine WR.iteB (rowFitsM r v w) rfl (fun hfa => ?_) (fun _ => WR.nextA nx ⟨h', rfl, trivial⟩)
  refine WR.atN k (rdR hr) rfl rfl rfl rfl rfl rfl ?_
  refine WR.ev (ev_RowFits r hfit o w (by omega) (by omega)) rfl rfl rfl ?_
  simp only [List.cons_append, List.nil_append]
  refine WR.iteB (rowFitsM r o w) rfl (fun hfb => ?_) (fun _ => WR.nextA nx ⟨h', rfl, trivial⟩)
  simp only [rowFitsM, Bool.and_eq_true] at hfa hfb
  have e1 := ra r hm hfa.2
  have e2 := rb hfb.1.1 r hm hfb.2
  refine WR.iteP (RA.code = 1) rfl (fun hca => ?_) (fun _ => WR.nextA nx ⟨h', rfl, trivial⟩)
  refine WR.iteP (RB.code = 1) rfl (fun hcb => ?_) (fun _ => WR.nextA nx ⟨h', rfl, trivial⟩)
  rw [← e1] at hca
  rw [← e2] at hcb
  obtain ⟨a1, a2, hst⟩ := done_end hca
  obtain ⟨b1, b2, _⟩ := done_end hcb
  rw [e1] at a1 a2
  rw [e2] at b1 b2
  obtain ⟨g1, g2⟩ := reads_alike hfit v1 ho fun i hi hri => hag i hi (hread r hm i hi hri)
  rw [← g1] at b1
  rw [← g2] at b2
  have hal := hfit.ns hst
  have hA3 : (atL r.adds v w).length = 3 := by simp [atL, hal]
  generalize atL r.adds v w = AD at *
  generalize atL r.tells v w = TL at *
  refine WR.forP 3 (fun i => [.i i]) (fun _ => True) rfl rfl trivial fun i hi _ => ?_
  simp only [List.cons_append, List.nil_append]
  refine WR.iteLt i 3 rfl (fun hi3 => ?_) (fun _ => ?_)
  · have hvi := at_getD (l := v) (i := i) (by omega)
    have hoi := at_getD (l := o) (i := i) (by omega)
    have hdi := at_getD (l := AD) (i := i) (by omega)
    have hxa : RA.is[i]? = some (v.getD i 0 + AD.getD i 0) := by rw [a1, List.getElem?_zipWith, hvi, hdi]
    have hxb : RB.is[i]? = some (o.getD i 0 + AD.getD i 0) := by rw [b1, List.getElem?_zipWith, hoi, hdi]
    generalize v.getD i 0 = x at *
    generalize o.getD i 0 = y at *
    generalize AD.getD i 0 = d at *
    refine WR.atN i (map_at (f := dI) hxa) rfl rfl rfl rfl rfl rfl ?_
    refine WR.atN i (map_at (f := dI) hvi) rfl rfl rfl rfl rfl rfl ?_
    refine WR.atN i (map_at (f := dI) hxb) rfl rfl rfl rfl rfl rfl ?_
    refine WR.atN i (map_at (f := dI) hoi) rfl rfl rfl rfl rfl rfl ?_
    simp only [List.cons_append, List.nil_append]
    refine WR.iteF ?_ (WR.nextA (vs := [.i ((i + 1 : Nat) : Int)]) ?_ ⟨hi3, rfl, trivial⟩)
    · show (!(decide (IntKind.i64.wrap (x + d - x) = IntKind.i64.wrap (y + d - y)))) = false
      rw [show x + d - x = d by omega, show y + d - y = d by omega]; simp
    · show [V.i (IntKind.i64.wrap ((i : Int) + 1))] = _
      rw [wS hi3 (by omega)]
  · refine WR.esc ?_
    have ec := ev_coInts RA.tells RB.tells ta
    rw [a2, b2, decide_eq_true rfl] at ec
    rw [a2, b2]
    exact WR.ev ec rfl rfl rfl (WR.esc (WR.done rfl))

end Go.Proofs.Ytbikgdcgoogngaa

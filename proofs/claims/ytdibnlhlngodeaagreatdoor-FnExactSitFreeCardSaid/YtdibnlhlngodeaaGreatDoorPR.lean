import Derived.Test.YtdibnlhlngodeaaGreatDoorPQ
import Derived.Test.YtdibnlhlngodeaaGreatDoorTd
set_option linter.unusedVariables false
set_option linter.unusedSimpArgs false
/- What an act does not turn stays: over residual programs. -/
namespace Go.Proofs.YtdibnlhlngodeaaGreatDoor
open Go Go.Tm
theorem dot_wrapG {a b : List Int} {i : Nat} {x y A B : Int} (hx : a[i]? = some x) (hy : b[i]? = some y) (ha : Lim A a) (hb : Lim B b) (hA : 0 ≤ A) (hB : 0 ≤ B) (hi : i < 1000) (hAB : A * B ≤ 1000000000000000) :
    IntKind.i64.wrap (dot (a.take i) (b.take i) + IntKind.i64.wrap (x * y)) = dot (a.take (i + 1)) (b.take (i + 1)) := by
  have h1 := dot_lim (ha.take i) (hb.take i) hA hB
  have h2 : ((a.take i).length : Int) ≤ 1000 := by simp; omega
  have h0 : 0 ≤ A * B := Int.mul_nonneg hA hB
  have h3 := mul_lim (ha x (List.mem_of_getElem? hx)) (hb y (List.mem_of_getElem? hy))
  have h4 : A * B * ((a.take i).length : Int) ≤ A * B * 1000 := Int.mul_le_mul_of_nonneg_left h2 h0
  rw [dot_step hx hy, w64 (n := x * y) (by omega) (by omega), w64 (by omega) (by omega)]
theorem ev_dotG {p a : List Int} {A B : Int} (hp : Lim A p) (ha : Lim B a) (hA : 0 ≤ A) (hB : 0 ≤ B) (hAB : A * B ≤ 1000000000000000) (hl : p.length = a.length) (h9 : p.length ≤ 999) : Ev L f_k3j [.s (dL p), .s (dL a)] [dI (dot p a)] := by
  refine Ev.eq (vs := [.l (dL p), .l (dL a)]) L_k3j rfl ?_
  refine WR.forP p.length (fun i => [.i (dot (p.take i) (a.take i)), .i i]) (fun _ => True) rfl rfl trivial fun i hi _ => ?_
  refine WR.iteLen i (dL_len p) rfl (fun h => ?_) (fun h => ?_)
  · obtain ⟨x, hx, _⟩ := some_at (show i < p.length by omega)
    obtain ⟨y, hy, _⟩ := some_at (show i < a.length by omega)
    refine WR.idxN i (map_at (f := dI) hx) rfl rfl rfl rfl ?_
    refine WR.idxN i (map_at (f := dI) hy) rfl rfl rfl rfl ?_
    refine WR.nextA (vs := [.i (dot (p.take (i + 1)) (a.take (i + 1))), .i ((i + 1 : Nat) : Int)]) ?_ ⟨h, rfl, trivial⟩
    show [V.i (IntKind.i64.wrap (dot (p.take i) (a.take i) + IntKind.i64.wrap (x * y))), V.i (IntKind.i64.wrap ((i : Int) + 1))] = _
    rw [wS h (by omega), dot_wrapG hx hy hp ha hA hB (by omega) hAB]
  · refine WR.esc (WR.done ?_)
    show [dI (dot (p.take i) (a.take i))] = _
    rw [take_all h, take_all (by omega)]
structure AtFit (f : Frm) (v w : List Int) : Prop where
  c : f.c.length = 3
  d : f.d.length = 2
  v3 : v.length = 3
  w2 : w.length = 2
  a : ∃ A B : Int, 0 ≤ A ∧ 0 ≤ B ∧ A * B ≤ 1000000000000000 ∧ Lim A f.c ∧ Lim A f.d ∧ Lim B v ∧ Lim B w ∧ -1000000000000000 ≤ f.k ∧ f.k ≤ 1000000000000000
theorem AtFit.sums {f : Frm} {v w : List Int} (h : AtFit f v w) : (-3000000000000000 ≤ dot f.c v ∧ dot f.c v ≤ 3000000000000000) ∧ (-2000000000000000 ≤ dot f.d w ∧ dot f.d w ≤ 2000000000000000) ∧ -1000000000000000 ≤ f.k ∧ f.k ≤ 1000000000000000 := by
  obtain ⟨A, B, hA, hB, hAB, h1, h2, h3, h4, h5⟩ := h.a
  have a := dot_lim h1 h3 hA hB
  have b := dot_lim h2 h4 hA hB
  rw [h.c] at a
  rw [h.d] at b
  exact ⟨by omega, by omega, h5⟩
theorem ev_iAt {f : Frm} {v w : List Int} (h : AtFit f v w) : Ev L f_k45 (f.cells ++ [.s (dL v), .s (dL w)]) [dI (atF f v w)] := by
  obtain ⟨A, B, hA, hB, hAB, h1, h2, h3, h4, h5⟩ := h.a
  obtain ⟨s1, s2, s3⟩ := h.sums
  refine Ev.eq (vs := [.l (dL f.c), .l (dL f.d), .i f.k, .l (dL v), .l (dL w)]) L_k45 rfl ?_
  refine WR.ev (ev_dotG h1 h3 hA hB hAB (by rw [h.c, h.v3]) (by rw [h.c]; omega)) rfl rfl rfl ?_
  refine WR.ev (ev_dotG h2 h4 hA hB hAB (by rw [h.d, h.w2]) (by rw [h.d]; omega)) rfl rfl rfl (WR.done ?_)
  show [dI (IntKind.i64.wrap (IntKind.i64.wrap (dot f.c v + dot f.d w) + f.k))] = _
  rw [w64 (n := dot f.c v + dot f.d w) (by omega) (by omega), w64 (by omega) (by omega)]; rfl
theorem valOk_iff {l : List Int} : valOk l = true ↔ l.length = 3 ∧ Lim 10000 l := by
  unfold valOk
  rw [allIn_iff]
  exact ⟨fun h => ⟨by omega, h.2⟩, fun h => ⟨by omega, h.2⟩⟩
theorem argOk_iff {l : List Int} : argOk l = true ↔ l.length = 2 ∧ Lim 9 l := by
  unfold argOk
  rw [allIn_iff]
  exact ⟨fun h => ⟨by omega, h.2⟩, fun h => ⟨by omega, h.2⟩⟩
theorem AtFit.std {f : Frm} {v w : List Int} (hf : Std 10000000 f) (hv : valOk v = true) (hw : argOk w = true) : AtFit f v w := by
  obtain ⟨v1, v2⟩ := valOk_iff.1 hv
  obtain ⟨w1, w2⟩ := argOk_iff.1 hw
  exact ⟨hf.c, hf.d, v1, w1, 10000000, 10000, by omega, by omega, by omega, hf.lc, hf.ld, v2, w2.mono (by omega), by have := hf.k; omega⟩
theorem AtFit.small {f : Frm} {x w : List Int} (hf : f.small = true) (hx : x.length = 3) (hl : Lim 2000000000 x) (hw : argOk w = true) : AtFit f x w := by
  obtain ⟨h1, h2, h3, h4, h5⟩ := small_std hf
  obtain ⟨w1, w2⟩ := argOk_iff.1 hw
  exact ⟨h1, h2, hx, w1, 2, 2000000000, by omega, by omega, by omega, h3, h4, hl, w2.mono (by omega), by omega⟩
def Res.ds (r : Res) : List D := [dI r.code, .s (dL r.tells), .s (dL r.is)]
theorem ev_pots (h : Row → Nat → Bool) (as : List (List Line)) (hf : fitActs as) {fn : FuncId} {caps : List D} (hcap : oneOf (.f fn caps) = .f fn caps) (har : arT L fn = some ([some 4, none] ++ caps.map fun _ => none))
    (hc : ∀ r, RowFit r → ∀ v : Nat, v < 3 → Ev L fn (r.cells ++ [dI v] ++ caps.map D.norm) [dB (h r v)]) : Ev L f_k36 [.s (dActs as), .f fn caps] [.s (dBl (potsM h as))] := by
  have hl := hf.1
  refine Ev.eq (vs := [.l (dActs as), .d (.f fn caps)]) L_k36 rfl ?_
  refine WR.forS as.length (fun i vs => ∃ p : List Bool, vs = [.l (dBl p), .i i] ∧ p.length = 3 ∧ p = potsM h (as.take i)) rfl ⟨[false, false, false], rfl, rfl, rfl⟩ ?_
  rintro i _ hi ⟨p, rfl, hp, hpe⟩
  simp only [sCA, sNA]
  refine WR.iteLen i (dActs_len as) rfl (fun h' => ?_) (fun h' => ?_)
  · obtain ⟨a, ha, hm⟩ := some_at h'
    have hB : potsM h (as.take (i + 1)) = (rowsOf a).foldl (fun p r => orB p (h r)) p := by rw [hpe]; exact foldl_take ha
    refine WR.idxN i (map_at (f := fun a => .s (dAct a)) ha) rfl rfl rfl rfl ?_
    refine WR.ev (ev_iRowsOf a (hf.2 a hm)) rfl rfl rfl ?_
    have hrf : ∀ r ∈ rowsOf a, RowFit r := rows_fit
    have hrl := rows_len a
    generalize rowsOf a = rs at *
    refine WR.forS rs.length (fun k vs => ∃ q : List Bool, vs = [.l (dBl q), .i k] ∧ q.length = 3 ∧ q = (rs.take k).foldl (fun p r => orB p (h r)) p) rfl ⟨p, rfl, hp, rfl⟩ ?_
    rintro k _ hk ⟨q, rfl, hq, hqe⟩
    simp only [sCA, sNA]
    refine WR.iteLen k (dRows_len rs) rfl (fun h'' => ?_) (fun h'' => ?_)
    · obtain ⟨r, hr, hmr⟩ := some_at h''
      have hfit := hrf r hmr
      have hC : (rs.take (k + 1)).foldl (fun p r => orB p (h r)) p = orB q (h r) := by rw [hqe]; exact foldl_take hr
      refine WR.atN k (rdR hr) rfl rfl rfl rfl rfl rfl ?_
      have hO : (orB q (h r)).length = 3 := by rw [orB_len]; exact hq
      refine WR.forP 3 (fun v => [.l (dBl ((orB q (h r)).take v ++ q.drop v)), .i v]) (fun _ => True) rfl rfl trivial fun v hv _ => ?_
      simp only [sCA, sNA]
      refine WR.iteLen v (show (dBl q).length = 3 by rw [dBl_len]; exact hq) rfl (fun hv3 => ?_) (fun hv3 => ?_)
      · obtain ⟨b, hb, _⟩ := some_at (show v < q.length by omega)
        have ho := orB_at (h := h r) hb
        have hcur : ((orB q (h r)).take v ++ q.drop v)[v]? = some b := by
          rw [List.getElem?_append_right (by simp; omega), List.getElem?_drop]
          rw [show v + (v - ((orB q (h r)).take v).length) = v by simp; omega]; exact hb
        have nx : ∀ c : Bool, c = (b || h r v) → [V.l ((dBl ((orB q (h r)).take v ++ q.drop v)).set (v : Int).toNat (dB c)), V.i (IntKind.i64.wrap ((v : Int) + 1))] = [.l (dBl ((orB q (h r)).take (v + 1) ++ q.drop (v + 1))), .i ((v + 1 : Nat) : Int)] := by
          intro c hc'
          rw [← hc'] at ho
          rw [wS hv3 (by omega), dBl_set, Int.toNat_natCast, fill' (by omega) ho]
        refine WR.atN v (map_at (f := dB) hcur) rfl rfl rfl rfl rfl rfl ?_
        refine WR.iteB b rfl (fun hbt => ?_) (fun hbf => ?_)
        · refine WR.atN v (map_at (f := dB) hcur) rfl rfl rfl rfl rfl rfl ?_
          exact WR.nextA (nx true (by simp [hbt])) ⟨hv3, rfl, trivial⟩
        · refine WR.callv (fn := fn) (caps := caps) (ds := [dB (h r v)]) (vs := [.b (h r v)]) rfl hcap har (hc r hfit v hv3) rfl ?_
          refine WR.atN v (map_at (f := dB) hcur) rfl rfl rfl rfl rfl rfl ?_
          exact WR.nextA (nx (h r v) (by simp [hbf])) ⟨hv3, rfl, trivial⟩
      · have hv3 : v = 3 := by omega
        subst hv3
        rw [List.take_of_length_le (by omega), List.drop_eq_nil_of_le (by omega), List.append_nil]
        refine WR.esc (WR.nextA (vs := [.l (dBl (orB q (h r))), .i ((k + 1 : Nat) : Int)]) ?_ ⟨h'', orB q (h r), rfl, hO, hC.symm⟩)
        show [V.l (dBl (orB q (h r))), V.i (IntKind.i64.wrap ((k : Int) + 1))] = _
        rw [wS h'' (by omega)]
    · rw [take_all h''] at hqe
      refine WR.esc (WR.nextA (vs := [.l (dBl q), .i ((i + 1 : Nat) : Int)]) ?_ ⟨h', q, rfl, hq, by rw [hB, hqe]⟩)
      show [V.l (dBl q), V.i (IntKind.i64.wrap ((i : Int) + 1))] = _
      rw [wS h' (by omega)]
  · refine WR.esc (WR.done ?_)
    show [D.s (dBl p)] = _
    rw [take_all h'] at hpe
    rw [hpe]
end Go.Proofs.YtdibnlhlngodeaaGreatDoor

import Derived.Test.YtdibnlhlngodeaaGreatDoorPD
import Derived.Test.YtdibnlhlngodeaaGreatDoorPE
import Derived.Test.YtdibnlhlngodeaaGreatDoorTd
set_option linter.unusedVariables false
set_option linter.unusedSimpArgs false
/- What sums of forms and the ways through an act come to: the reference's. -/
namespace Go.Proofs.YtdibnlhlngodeaaGreatDoor
open Go Go.Tm
theorem wrapsum {x y n M N : Int} (hx : -M ≤ x ∧ x ≤ M) (hy : -M ≤ y ∧ y ≤ M) (hn : -N ≤ n ∧ n ≤ N) (hM : M ≤ 1000000000) (hN : N ≤ 1000000000) : IntKind.i64.wrap (x + IntKind.i64.wrap (n * y)) = x + n * y := by
  have h := mul_lim (A := 1000000000) (B := 1000000000) (n := n) (y := y) (by omega) (by omega)
  rw [w64 (n := n * y) (by omega) (by omega), w64 (by omega) (by omega)]
theorem ev_l1Sum {a b : Frm} {n M : Int} (ha : Std M a) (hb : Std M b) (hM : M ≤ 1000000000) (hn : -1000000000 ≤ n ∧ n ≤ 1000000000) :
    Ev L f_kx (a.cells ++ b.cells ++ [dI n]) (sumF a b n).cells := by
  refine Ev.eq (vs := [.l (dL a.c), .l (dL a.d), .i a.k, .l (dL b.c), .l (dL b.d), .i b.k, .i n]) L_kx rfl ?_
  refine WR.callA (args := []) rfl rfl ev_FrmZero rfl ?_
  have hc := ha.c
  have hc' := hb.c
  have hd := ha.d
  have hd' := hb.d
  have hS : (addL a.c b.c n).length = 3 := by rw [addL_len]; omega
  have hT : (addL a.d b.d n).length = 2 := by rw [addL_len]; omega
  refine WR.loop (fun m vs => ∃ i : Nat, i ≤ 3 ∧ m = 3 - i ∧ vs = [.l (dL ((addL a.c b.c n).take i ++ ([0, 0, 0] : List Int).drop i)), .i i]) rfl 3 ⟨0, by omega, rfl, rfl⟩ ?_
  rintro m _ ⟨i, hi, hm, rfl⟩
  refine WR.iteP ((i : Int) < 3) rfl (fun h => ?_) (fun h => ?_)
  · refine WR.idxA (ds := dL a.c) i rfl rfl rfl (by omega) (dL_get (by omega) (by omega)) rfl ?_
    refine WR.idxA (ds := dL b.c) i rfl rfl rfl (by omega) (dL_get (by omega) (by omega)) rfl ?_
    refine WR.chkP ((0 : Int) ≤ i) rfl (by omega) ?_
    have hlen : ((addL a.c b.c n).take i ++ ([0, 0, 0] : List Int).drop i).length = 3 := by simp [hS]; omega
    refine WR.chkP ((i : Int) < ((dL ((addL a.c b.c n).take i ++ ([0, 0, 0] : List Int).drop i)).length : Int)) rfl (by rw [dL_len, hlen]; omega) ?_
    refine WR.idxA (ds := dL ((addL a.c b.c n).take i ++ ([0, 0, 0] : List Int).drop i)) i rfl rfl rfl (by omega) (dL_get (by omega) (by omega)) rfl ?_
    refine WR.nextA (vs := [.l (dL ((addL a.c b.c n).take (i + 1) ++ ([0, 0, 0] : List Int).drop (i + 1))), .i ((i + 1 : Nat) : Int)]) ?_ ⟨m - 1, by omega, i + 1, by omega, by omega, rfl⟩
    show [V.l ((dL ((addL a.c b.c n).take i ++ ([0, 0, 0] : List Int).drop i)).set (i : Int).toNat (dI (IntKind.i64.wrap (a.c.getD (i : Int).toNat 0 + IntKind.i64.wrap (n * b.c.getD (i : Int).toNat 0))))), V.i (IntKind.i64.wrap ((i : Int) + 1))] = _
    have hx := getD_in ha.lc (k := (i : Int).toNat) (by omega)
    have hy := getD_in hb.lc (k := (i : Int).toNat) (by omega)
    rw [wrapsum hx hy hn hM (by omega), dL_set, Int.toNat_natCast, fill (by rw [hS]; rfl), w64 (by omega) (by omega)]
    · rfl
    · exact addL_get (by omega) (by omega)
  refine WR.esc ?_
  have hi3 : i = 3 := by omega
  subst hi3
  rw [List.take_of_length_le (by omega), show ([0, 0, 0] : List Int).drop 3 = [] from rfl, List.append_nil]
  refine WR.loop (fun m vs => ∃ i : Nat, i ≤ 2 ∧ m = 2 - i ∧ vs = [.l (dL ((addL a.d b.d n).take i ++ ([0, 0] : List Int).drop i)), .i i]) rfl 2 ⟨0, by omega, rfl, rfl⟩ ?_
  rintro m _ ⟨i, hi, hm, rfl⟩
  refine WR.iteP ((i : Int) < 2) rfl (fun h => ?_) (fun h => ?_)
  · refine WR.idxA (ds := dL a.d) i rfl rfl rfl (by omega) (dL_get (by omega) (by omega)) rfl ?_
    refine WR.idxA (ds := dL b.d) i rfl rfl rfl (by omega) (dL_get (by omega) (by omega)) rfl ?_
    refine WR.chkP ((0 : Int) ≤ i) rfl (by omega) ?_
    have hlen : ((addL a.d b.d n).take i ++ ([0, 0] : List Int).drop i).length = 2 := by simp [hT]; omega
    refine WR.chkP ((i : Int) < ((dL ((addL a.d b.d n).take i ++ ([0, 0] : List Int).drop i)).length : Int)) rfl (by rw [dL_len, hlen]; omega) ?_
    refine WR.idxA (ds := dL ((addL a.d b.d n).take i ++ ([0, 0] : List Int).drop i)) i rfl rfl rfl (by omega) (dL_get (by omega) (by omega)) rfl ?_
    refine WR.nextA (vs := [.l (dL ((addL a.d b.d n).take (i + 1) ++ ([0, 0] : List Int).drop (i + 1))), .i ((i + 1 : Nat) : Int)]) ?_ ⟨m - 1, by omega, i + 1, by omega, by omega, rfl⟩
    show [V.l ((dL ((addL a.d b.d n).take i ++ ([0, 0] : List Int).drop i)).set (i : Int).toNat (dI (IntKind.i64.wrap (a.d.getD (i : Int).toNat 0 + IntKind.i64.wrap (n * b.d.getD (i : Int).toNat 0))))), V.i (IntKind.i64.wrap ((i : Int) + 1))] = _
    have hx := getD_in ha.ld (k := (i : Int).toNat) (by omega)
    have hy := getD_in hb.ld (k := (i : Int).toNat) (by omega)
    rw [wrapsum hx hy hn hM (by omega), dL_set, Int.toNat_natCast, fill (by rw [hT]; rfl), w64 (by omega) (by omega)]
    · rfl
    · exact addL_get (by omega) (by omega)
  refine WR.esc ?_
  have hi2 : i = 2 := by omega
  subst hi2
  rw [List.take_of_length_le (by omega), show ([0, 0] : List Int).drop 2 = [] from rfl, List.append_nil]
  refine WR.done ?_
  show [D.s (dL (addL a.c b.c n)), .s (dL (addL a.d b.d n)), dI (IntKind.i64.wrap (a.k + IntKind.i64.wrap (n * b.k)))] = _
  rw [wrapsum ha.k hb.k hn hM (by omega)]; rfl
theorem ev_FrmPot (v : Int) (h0 : 0 ≤ v) (h2 : v ≤ 2) : Ev L f_kw [dI v] (potF v.toNat).cells := by
  refine Ev.eq (vs := [.i v]) L_kw rfl ?_
  refine WR.callA (args := [dI v, dI 0, dI 2]) rfl rfl (ev_l1In v 0 2) rfl ?_
  refine WR.iteF (by show (!(inB v 0 2)) = false; simp [inB, h0, h2]) ?_
  refine WR.callA (args := []) rfl rfl ev_FrmZero rfl ?_
  refine WR.chkP (0 ≤ v) rfl h0 ?_
  refine WR.chkP (v < 3) rfl (by omega) ?_
  refine WR.idxA (ds := dL [0, 0, 0]) v rfl rfl rfl h0 (dL_get h0 (by simp; omega)) rfl ?_
  refine WR.done ?_
  show [D.s ((dL [0, 0, 0]).set v.toNat (dI 1)), .s (dL [0, 0]), dI 0] = _
  rw [dL_set]; rfl
theorem ev_l3Copy {l : List Frm} {M : Int} (hl : l.length ≤ 2000000) (hs : ∀ f ∈ l, Std M f) (h0 : 0 ≤ M) (hM : M ≤ 1000000000) : Ev L f_ky [.s (dF l)] [.s (dF l)] := by
  refine Ev.eq (vs := [.l (dF l)]) L_ky rfl ?_
  refine WR.loop (fun m vs => ∃ i : Int, 0 ≤ i ∧ i ≤ l.length ∧ (m : Int) = l.length - i ∧ vs = [.l (dF (l.take i.toNat)), .i i]) rfl l.length ⟨0, by omega, by omega, by omega, rfl⟩ ?_
  rintro m _ ⟨i, i0, i1, hm, rfl⟩
  refine WR.iteP (i < ((dF l).length : Int)) rfl (fun hi => ?_) (fun hi => ?_)
  · rw [dF_len] at hi
    refine WR.callA (args := []) rfl rfl ev_FrmZero rfl ?_
    obtain ⟨x, hx, hd⟩ := dF_get i0 hi
    have hsx := hs x (List.mem_of_getElem? hx)
    refine WR.idxA (ds := dF l) i rfl rfl rfl i0 hd rfl ?_
    have e := ev_l1Sum (zero_std.mono h0) hsx hM (n := 1) (by omega)
    rw [sumF_zero hsx] at e
    refine WR.callA (args := Frm.zero.cells ++ x.cells ++ [dI 1]) rfl rfl e rfl ?_
    refine WR.chkLen (dF (l.take i.toNat) ++ [x.g]) rfl (by rw [dF_snoc, dF_len]; simp; omega) ?_
    refine WR.nextA (vs := [.l (dF (l.take (i + 1).toNat)), .i (i + 1)]) ?_ ⟨m - 1, by omega, i + 1, by omega, by omega, by omega, rfl⟩
    show [V.l (dF (l.take i.toNat) ++ [x.g]), V.i (IntKind.i64.wrap (i + 1))] = _
    rw [dF_snoc, show (i + 1).toNat = i.toNat + 1 by omega, take_succ hx, w64 (by omega) (by omega)]
  · rw [dF_len] at hi
    refine WR.esc (WR.done ?_)
    show [D.s (dF (l.take i.toNat))] = _
    rw [List.take_of_length_le (by omega)]
theorem ev_l3Minus {f : Frm} {M : Int} (hf : Std M f) (h0 : 0 ≤ M) (hM : M ≤ 100000000) : Ev L f_k11 f.cells (minusF f).cells := by
  refine Ev.eq (vs := [.l (dL f.c), .l (dL f.d), .i f.k]) L_k11 rfl ?_
  refine WR.callA (args := []) rfl rfl ev_FrmZero rfl ?_
  refine WR.callA (args := Frm.zero.cells ++ f.cells ++ [dI (-1)]) rfl rfl (ev_l1Sum (zero_std.mono h0) hf (by omega) (by omega)) rfl ?_
  refine WR.done ?_
  have hk := (sumF_std zero_std hf (n := -1) (N := 1) (by omega)).k
  show [D.s (dL (sumF Frm.zero f (-1)).c), .s (dL (sumF Frm.zero f (-1)).d), dI (IntKind.i64.wrap ((sumF Frm.zero f (-1)).k - 1))] = _
  rw [w64 (by omega) (by omega)]; rfl
theorem ev_FrmInto {f : Frm} {pots : List Frm} {M : Int} (hf : f.small = true) (hl : pots.length = 3) (hp : ∀ p ∈ pots, Std M p) (h0 : 0 ≤ M) (hM : M ≤ 1000000) :
    Ev L f_k10 (f.cells ++ [.s (dF pots)]) (intoF f pots).cells := by
  obtain ⟨f1, f2, f3, f4, f5⟩ := small_std hf
  have hfs := small_Std hf
  refine Ev.eq (vs := [.l (dL f.c), .l (dL f.d), .i f.k, .l (dF pots)]) L_k10 rfl ?_
  have ok : ∀ g : Frm, Std (20 + 6 * M) g → Ev L f_kz g.cells [dB true] := fun g hg => by
    have := ev_FrmOk g hg.fit
    rwa [hg.okF (by omega)] at this
  refine WR.callA (args := f.cells) rfl rfl (ok f (hfs.mono (by omega))) rfl ?_
  refine WR.iteF rfl ?_
  have c0 : bol (envL ([V.l (dL f.c), V.l (dL f.d), V.i f.k, V.l (dF pots)] ++ [V.b true])) (.not (.cmp .eq (.len (.v 3)) (.z 3))) = decide (¬ (pots.length : Int) = 3) := by
    simp [bol, den, V.bool, V.int, V.lst, CO.sem, envL, dF_len]
  refine WR.iteP (¬ (pots.length : Int) = 3) c0 (fun h => by omega) (fun _ => ?_)
  obtain ⟨p0, h00, d0⟩ := dF_get (l := pots) (i := 0) (by omega) (by omega)
  obtain ⟨p1, h11, d1⟩ := dF_get (l := pots) (i := 1) (by omega) (by omega)
  obtain ⟨p2, h22, d2⟩ := dF_get (l := pots) (i := 2) (by omega) (by omega)
  refine WR.idxA (ds := dF pots) 0 rfl rfl rfl (by omega) d0 rfl ?_
  refine WR.callA (args := p0.cells) rfl rfl (ok p0 ((hp p0 (List.mem_of_getElem? h00)).mono (by omega))) rfl ?_
  refine WR.iteF rfl ?_
  refine WR.idxA (ds := dF pots) 1 rfl rfl rfl (by omega) d1 rfl ?_
  refine WR.callA (args := p1.cells) rfl rfl (ok p1 ((hp p1 (List.mem_of_getElem? h11)).mono (by omega))) rfl ?_
  refine WR.iteF rfl ?_
  refine WR.idxA (ds := dF pots) 2 rfl rfl rfl (by omega) d2 rfl ?_
  refine WR.callA (args := p2.cells) rfl rfl (ok p2 ((hp p2 (List.mem_of_getElem? h22)).mono (by omega))) rfl ?_
  refine WR.iteF rfl ?_
  refine WR.chkLen (dL f.d) rfl (by rw [dL_len]; omega) ?_
  refine WR.head (by show headOk 1 (dL f.d) = true; cases f.d <;> rfl) ?_
  refine WR.chkLen (dL f.d) rfl (by rw [dL_len]; omega) ?_
  let acc : Nat → Frm := fun i => (List.zip (pots.take i) (f.c.take i)).foldl (fun x q => sumF x q.1 q.2) ⟨[0, 0, 0], f.d, f.k⟩
  have hacc : ∀ i, i ≤ 3 → Std (20 + 6 * M) (acc i) := fun i hi => by
    rcases into_steps hf hp h0 i hi with h | h
    · refine h.mono ?_
      have : 2 * M * (i : Int) ≤ 2 * M * 3 := Int.mul_le_mul_of_nonneg_left (by omega) (by omega)
      omega
    · omega
  refine WR.loop (fun m vs => ∃ i : Nat, i ≤ 3 ∧ m = 3 - i ∧ vs = [.l (dL (acc i).c), .l (dL (acc i).d), .i i, .i (acc i).k]) rfl 3 ⟨0, by omega, rfl, rfl⟩ ?_
  rintro m _ ⟨i, hi, hm, rfl⟩
  refine WR.iteP ((i : Int) < 3) rfl (fun h => ?_) (fun h => ?_)
  · obtain ⟨x, hx, hd⟩ := dF_get (l := pots) (i := (i : Int)) (by omega) (by omega)
    have hsx := hp x (List.mem_of_getElem? hx)
    refine WR.idxA (ds := dF pots) i rfl rfl rfl (by omega) hd rfl ?_
    refine WR.idxA (ds := dL f.c) i rfl rfl rfl (by omega) (dL_get (by omega) (by omega)) rfl ?_
    have hy := getD_in f3 (k := (i : Int).toNat) (by omega)
    have hn : acc (i + 1) = sumF (acc i) x (f.c.getD (i : Int).toNat 0) := by
      rw [Int.toNat_natCast] at hx
      have e2 : f.c[i]? = some (f.c.getD (i : Int).toNat 0) := by simp [List.getD_eq_getElem?_getD, show i < f.c.length by omega]
      simp only [acc]
      rw [take_succ hx, take_succ e2, List.zip_append (by simp; omega), List.foldl_append]; rfl
    refine WR.callA (args := (acc i).cells ++ x.cells ++ [dI (f.c.getD (i : Int).toNat 0)]) rfl rfl (ev_l1Sum (hacc i hi) (hsx.mono (by omega)) (by omega) (by omega)) rfl ?_
    refine WR.nextA (vs := [.l (dL (acc (i + 1)).c), .l (dL (acc (i + 1)).d), .i ((i + 1 : Nat) : Int), .i (acc (i + 1)).k]) ?_ ⟨m - 1, by omega, i + 1, by omega, by omega, rfl⟩
    rw [hn]
    show [V.l _, V.l _, V.i (IntKind.i64.wrap ((i : Int) + 1)), V.i _] = _
    rw [w64 (by omega) (by omega)]; rfl
  refine WR.esc ?_
  have hi3 : i = 3 := by omega
  subst hi3
  refine WR.callA (args := (acc 3).cells) rfl rfl (ok _ (hacc 3 (by omega))) rfl ?_
  refine WR.iteF rfl ?_
  refine WR.done ?_
  show (acc 3).cells = _
  simp only [acc]
  rw [List.take_of_length_le (by omega), List.take_of_length_le (by omega)]; rfl
end Go.Proofs.YtdibnlhlngodeaaGreatDoor

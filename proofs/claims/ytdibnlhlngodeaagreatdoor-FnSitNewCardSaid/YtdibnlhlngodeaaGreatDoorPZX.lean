import Derived.Test.YtdibnlhlngodeaaGreatDoorPZV
import Derived.Test.YtdibnlhlngodeaaGreatDoorPS
import Derived.Test.YtdibnlhlngodeaaGreatDoorTd
set_option linter.unusedVariables false
set_option linter.unusedSimpArgs false
/- In the beginning all are alike: over residual programs. -/
namespace Go.Proofs.YtdibnlhlngodeaaGreatDoor
open Go Go.Tm
theorem ev_l21Plan {bs : List Int} {p : Int} (hr : Rdr bs p) (hf : p ≤ 999999900000) :
    ∃ (l : Pln) (q : Int), Ev L f_ke [.s (bytesD bs), dI p] (l.cells ++ [.s (bytesD bs), dI q]) ∧ p ≤ q ∧ q ≤ p + 2000 ∧ thinAs l.acts ∧ l.gives.length ≤ 3 ∧ l.start.length = 3 := by
  have key : ∃ ds, Ev L f_ke [.s (bytesD bs), dI p] ds ∧ ∃ (l : Pln) (q : Int), ds = l.cells ++ [.s (bytesD bs), dI q] ∧ p ≤ q ∧ q ≤ p + 2000 ∧ thinAs l.acts ∧ l.gives.length ≤ 3 ∧ l.start.length = 3 := by
    refine Ev.of (vs := [.l (bytesD bs), .i p]) L_ke rfl ?_
    refine WRpick 4 hr (by omega) (by omega) rfl rfl fun u hu0 hu1 => ?_
    obtain ⟨as, q, he, q1, q2, hs, _⟩ := ev_l20Acts (hr.go (q := p + 1) (by omega) (by omega)) (by omega)
    have ht : thinAs as := ⟨by have := hs.1; omega, fun a ha => (hs.2 a ha).thin⟩
    refine WR.ev he rfl rfl rfl ?_
    refine WRpick 3 (hr.go (q := q) (by omega) (by omega)) (by omega) (by omega) rfl rfl fun w hw0 hw1 => ?_
    simp only [sCA, sNA]
    refine WR.loop (fun m vs => ∃ (gs : List Int) (k o : Int), vs = [.l (dL gs), .i k, .i o, .l (bytesD bs)] ∧ q ≤ o ∧ o + k ≤ q + 10 ∧ 0 ≤ k ∧ k ≤ 3 ∧ (m : Int) = k ∧ (gs.length : Int) + k = 1 + w) rfl (1 + w).toNat
      ⟨[], 1 + w, q + 1, ?_, by omega, by omega, by omega, by omega, by omega, by simp⟩ ?_
    · show [V.l [], V.i (IntKind.i64.wrap (1 + w)), V.i (q + 1), V.l (bytesD bs)] = _
      rw [w64 (by omega) (by omega)]; rfl
    rintro m _ ⟨gs, k, o, rfl, o1, o2, k0, k3, hm, hl⟩
    simp only [sCA, sNA]
    refine WR.iteP (0 < k) rfl (fun h => ?_) (fun h => WR.esc ?_)
    · refine WRpick 5 (hr.go (q := o) (by omega) (by omega)) (by omega) (by omega) rfl rfl fun x hx0 hx1 => ?_
      simp only [sCA, sNA]
      refine WR.chkP (0 ≤ x) rfl hx0 ?_
      refine WR.chkP (x < 5) rfl hx1 ?_
      refine WR.idxA (ds := dL [0, 3, 9, 20, 50]) x rfl rfl rfl hx0 (dL_get hx0 hx1) rfl ?_
      generalize ([0, 3, 9, 20, 50] : List Int).getD x.toNat 0 = y
      refine WR.chkApp (dL gs) 10 (by rw [dL_len]; omega) (by omega) rfl ?_
      refine WR.nextA (vs := [.l (dL (gs ++ [y])), .i (k - 1), .i (o + 1), .l (bytesD bs)]) ?_ ⟨m - 1, by omega, gs ++ [y], k - 1, o + 1, rfl, by omega, by omega, by omega, by omega, by omega, by simp; omega⟩
      show [V.l (dL gs ++ [dI y]), V.i (IntKind.i64.wrap (k - 1)), V.i (o + 1), V.l (bytesD bs)] = _
      rw [dL_snoc, w64 (by omega) (by omega)]
    refine WR.loop (fun m vs => ∃ (ss : List Int) (r : Int), vs = [.l (dL ss), .i (ss.length : Int), .i r, .l (bytesD bs)] ∧ o ≤ r ∧ r ≤ o + ss.length ∧ ss.length ≤ 3 ∧ m = 3 - ss.length) rfl 3
      ⟨[], o, rfl, by omega, by simp, by simp, by simp⟩ ?_
    rintro m _ ⟨ss, r, rfl, r1, r2, hs3, hm3⟩
    simp only [sCA, sNA]
    refine WR.iteP ((ss.length : Int) < 3) rfl (fun h3 => ?_) (fun h3 => WR.esc (WR.done ⟨⟨1 + u, as, gs, ss⟩, r, ?_, by omega, by omega, ht, ?_, ?_⟩))
    · refine WRpick 6 (hr.go (q := r) (by omega) (by omega)) (by omega) (by omega) rfl rfl fun x hx0 hx1 => ?_
      simp only [sCA, sNA]
      refine WR.chkP (0 ≤ x) rfl hx0 ?_
      refine WR.chkP (x < 6) rfl hx1 ?_
      refine WR.idxA (ds := dL [0, 5, 20, 60, 200, -8]) x rfl rfl rfl hx0 (dL_get hx0 hx1) rfl ?_
      generalize ([0, 5, 20, 60, 200, -8] : List Int).getD x.toNat 0 = y
      refine WR.chkApp (dL ss) 10 (by rw [dL_len]; omega) (by omega) rfl ?_
      refine WR.nextA (vs := [.l (dL (ss ++ [y])), .i ((ss ++ [y]).length : Int), .i (r + 1), .l (bytesD bs)]) ?_ ⟨m - 1, by omega, ss ++ [y], r + 1, rfl, by omega, by simp; omega, by simp; omega, by simp; omega⟩
      show [V.l (dL ss ++ [dI y]), V.i (IntKind.i64.wrap ((ss.length : Int) + 1)), V.i (r + 1), V.l (bytesD bs)] = _
      rw [dL_snoc, w64 (by omega) (by omega)]; simp
    · show [dI (IntKind.i64.wrap (1 + u)), D.s (dActs as), D.s (dL gs), D.s (dL ss), D.s (bytesD bs), dI r] = _
      rw [w64 (by omega) (by omega)]; rfl
    · show gs.length ≤ 3
      omega
    · show ss.length = 3
      omega
  obtain ⟨ds, e1, l, q, rfl, e2⟩ := key
  exact ⟨l, q, e1, e2⟩
theorem dL_app (a b : List Int) : dL a ++ dL b = dL (a ++ b) := by simp [dL]
theorem ev_l21AnyPlan {bs : List Int} {p n : Int} (hr : Rdr bs p) (hf : p ≤ 999999800000) (n1 : 1 ≤ n) (n2 : n ≤ 2000000) :
    ∃ (l : Pln) (q : Int), Ev L f_ki [.s (bytesD bs), dI p, dI n] (l.cells ++ [.s (bytesD bs), dI q]) ∧ p ≤ q ∧ q ≤ p + 5000 ∧ fitPln l := by
  have key : ∃ ds, Ev L f_ki [.s (bytesD bs), dI p, dI n] ds ∧ ∃ (l : Pln) (q : Int), ds = l.cells ++ [.s (bytesD bs), dI q] ∧ p ≤ q ∧ q ≤ p + 5000 ∧ fitPln l := by
    refine Ev.of (vs := [.l (bytesD bs), .i p, .i n]) L_ki rfl ?_
    obtain ⟨l, q, he, q1, q2, ha, hg, hs⟩ := ev_l21Plan hr (by omega)
    have hfit : fitPln l := ⟨ha.fit, by omega, by omega⟩
    refine WR.ev (vs := [.i l.n, .l (dActs l.acts), .l (dL l.gives), .l (dL l.start), .l (bytesD bs), .i q]) he rfl rfl rfl ?_
    simp only [sCA, sNA]
    refine WRpick n (hr.go (q := q) (by omega) (by omega)) n1 n2 rfl rfl fun u hu0 hu1 => ?_
    simp only [sCA, sNA]
    refine WR.iteP (0 < u) rfl (fun _ => WR.done ⟨l, q + 1, rfl, by omega, by omega, hfit⟩) (fun _ => ?_)
    refine WRpick 5 (hr.go (q := q + 1) (by omega) (by omega)) (by omega) (by omega) rfl rfl fun v hv0 hv1 => ?_
    simp only [sCA, sNA]
    refine WR.iteP (v = 0) rfl (fun _ => ?_) (fun _ => ?_)
    · refine WRpick 3 (hr.go (q := q + 1 + 1) (by omega) (by omega)) (by omega) (by omega) rfl rfl fun x hx0 hx1 => ?_
      simp only [sCA, sNA]
      refine WR.chkP (0 ≤ x) rfl hx0 ?_
      refine WR.chkP (x < 3) rfl hx1 ?_
      refine WR.idxA (ds := dL [0, 5, -1]) x rfl rfl rfl hx0 (dL_get hx0 hx1) rfl ?_
      exact WR.done ⟨⟨([0, 5, -1] : List Int).getD x.toNat 0, l.acts, l.gives, l.start⟩, q + 1 + 1 + 1, rfl, by omega, by omega, hfit⟩
    refine WR.iteP (v = 1) rfl (fun _ => ?_) (fun _ => ?_)
    · obtain ⟨as, o, ea, o1, o2, hth⟩ := ev_l20AnyActs (hr.go (q := q + 1 + 1) (by omega) (by omega)) (by omega) (n := 1) (by omega) (by omega)
      refine WR.ev ea rfl rfl rfl ?_
      simp only [sCA, sNA]
      exact WR.done ⟨⟨l.n, as, l.gives, l.start⟩, o, rfl, by omega, by omega, ⟨hth.fit, hfit.2⟩⟩
    refine WR.iteP (v = 2) rfl (fun _ => ?_) (fun _ => ?_)
    · refine WRpick 4 (hr.go (q := q + 1 + 1) (by omega) (by omega)) (by omega) (by omega) rfl rfl fun x hx0 hx1 => ?_
      simp only [sCA, sNA]
      refine WR.chkP (0 ≤ x) rfl hx0 ?_
      refine WR.chkP (x < 4) rfl hx1 ?_
      refine WR.idxA (ds := dL [-1, 51, 3, 3]) x rfl rfl rfl hx0 (dL_get hx0 hx1) rfl ?_
      generalize ([-1, 51, 3, 3] : List Int).getD x.toNat 0 = y
      refine WR.chkN (dL (l.gives ++ [y, 4, 4])) 100 (by rw [dL_len]; simp; omega) (by omega) (dL_app l.gives [y, 4, 4]) ?_
      refine WR.done ⟨⟨l.n, l.acts, l.gives ++ [y, 4, 4], l.start⟩, q + 1 + 1 + 1, ?_, by omega, by omega, ⟨hfit.1, by simp; omega, hfit.2.2⟩⟩
      show [dI l.n, D.s (dActs l.acts), D.s (dL l.gives ++ dL [y, 4, 4]), D.s (dL l.start), D.s (bytesD bs), dI (q + 1 + 1 + 1)] = _
      rw [dL_app]; rfl
    refine WR.iteP (v = 3) rfl (fun _ => ?_) (fun _ => ?_)
    · refine WRpick 3 (hr.go (q := q + 1 + 1) (by omega) (by omega)) (by omega) (by omega) rfl rfl fun x hx0 hx1 => ?_
      simp only [sCA, sNA]
      refine WR.chkP (0 ≤ x) rfl hx0 ?_
      refine WR.chkP (x < 3) rfl hx1 ?_
      refine WR.idxA (ds := dL [1001, -1000, 1000]) x rfl rfl rfl hx0 (dL_get hx0 hx1) rfl ?_
      generalize ([1001, -1000, 1000] : List Int).getD x.toNat 0 = y
      obtain ⟨z, hz, _⟩ := some_at (show 0 < l.start.length by omega)
      refine WR.chkP ((0 : Int) < ((dL l.start).length : Int)) rfl (by rw [dL_len]; omega) ?_
      refine WR.idxN 0 (map_at (f := dI) hz) rfl rfl rfl rfl ?_
      refine WR.done ⟨⟨l.n, l.acts, l.gives, l.start.set 0 y⟩, q + 1 + 1 + 1, ?_, by omega, by omega, ⟨hfit.1, hfit.2.1, by simp; omega⟩⟩
      show [dI l.n, D.s (dActs l.acts), D.s (dL l.gives), D.s ((dL l.start).set (0 : Int).toNat (dI y)), D.s (bytesD bs), dI (q + 1 + 1 + 1)] = _
      rw [dL_set]; rfl
    · refine WR.chkP ((2 : Int) ≤ ((dL l.start).length : Int)) rfl (by rw [dL_len]; omega) ?_
      refine WR.done ⟨⟨l.n, l.acts, l.gives, l.start.take 2⟩, q + 1 + 1, ?_, by omega, by omega, ⟨hfit.1, hfit.2.1, by simp; omega⟩⟩
      show [dI l.n, D.s (dActs l.acts), D.s (dL l.gives), D.s ((dL l.start).take (2 : Int).toNat), D.s (bytesD bs), dI (q + 1 + 1)] = _
      rw [show ((2 : Int).toNat) = 2 from rfl, dL_take]; rfl
  obtain ⟨ds, e1, l, q, rfl, e2⟩ := key
  exact ⟨l, q, e1, e2⟩
theorem ev_DrawSitNew (ns : List Int) (hb : ∀ x ∈ ns, 0 ≤ x ∧ x < 256) : ∃ l : Pln, Ev L f_kj [.s (bytesD ns)] l.cells ∧ fitPln l := by
  obtain ⟨bs, ho, hr⟩ := ev_open ns hb
  obtain ⟨l, q, e, _, _, hl⟩ := ev_l21AnyPlan hr (by omega) (n := 6) (by omega) (by omega)
  exact ⟨l, Ev.eq (vs := [.l (bytesD ns)]) L_kj rfl (WR.ev ho rfl rfl rfl (WR.ev (vs := [.i l.n, .l (dActs l.acts), .l (dL l.gives), .l (dL l.start), .l (bytesD bs), .i q]) e rfl rfl rfl (WR.done rfl))), hl⟩
theorem coInts_refl (l : List Int) (hl : l.length ≤ 2000000) : Ev L f_k1e [.s (dL l), .s (dL l)] [dB true] := by
  have h := ev_coInts l l hl
  rwa [decide_eq_true rfl] at h
theorem coDone_refl (l : List Don) (hl : fitL fitDon l) : Ev L f_k1g [.s (dDs l), .s (dDs l)] [dB true] := by
  refine Ev.eq (vs := [.l (dDs l), .l (dDs l)]) L_k1g rfl ?_
  have hl0 := hl.1
  refine WR.iteF (by show (!decide (((dDs l).length : Int) = ((dDs l).length : Int))) = false; simp) ?_
  refine WR.forP l.length (fun i => [.i i]) (fun _ => True) rfl rfl trivial fun i hi _ => ?_
  simp only [sCA, sNA]
  refine WR.iteLen i (dDs_len l) rfl (fun h => ?_) (fun h => WR.esc (WR.done rfl))
  obtain ⟨x, hx, hm⟩ := some_at h
  have hg : (dDs l)[i]? = some x.g := map_at (f := Don.g) hx
  have hco := ev_coRes x.code x.code x.tells x.tells (hl.2 x hm)
  rw [decide_eq_true rfl, decide_eq_true rfl] at hco
  refine WR.idxN (vs := [.i x.seq, .i x.code, .l (dL x.tells)]) i hg rfl rfl rfl rfl ?_
  refine WR.idxN (vs := [.i x.seq, .i x.code, .l (dL x.tells)]) i hg rfl rfl rfl rfl ?_
  simp only [sCA, sNA]
  refine WR.iteF (by show (!decide (x.seq = x.seq)) = false; simp) ?_
  refine WR.idxN (vs := [.i x.seq, .i x.code, .l (dL x.tells)]) i hg rfl rfl rfl rfl ?_
  refine WR.idxN (vs := [.i x.seq, .i x.code, .l (dL x.tells)]) i hg rfl rfl rfl rfl ?_
  simp only [sCA, sNA]
  refine WR.ev hco rfl rfl rfl (WR.iteF rfl ?_)
  exact WR.nextA (vs := [.i ((i + 1 : Nat) : Int)]) (by rw [← wS h (by omega)]; rfl) ⟨h, rfl, trivial⟩
theorem coSite_refl (s : Sit) (hs : fitSit s) : Ev L f_k1h (s.cells ++ s.cells) [dB true] := by
  refine Ev.eq (vs := [.b s.up, .b s.frozen, .i s.round, .l (dL s.base), .l (dL s.added), .l (dDs s.done), .b s.up, .b s.frozen, .i s.round, .l (dL s.base), .l (dL s.added), .l (dDs s.done)]) L_k1h rfl ?_
  refine WR.iteT (by show (s.up == s.up) = true; simp) ?_
  refine WR.iteT (by show (s.frozen == s.frozen) = true; simp) ?_
  refine WR.iteT (by show decide (s.round = s.round) = true; simp) ?_
  refine WR.ev (coInts_refl s.base hs.1) rfl rfl rfl (WR.iteT rfl ?_)
  refine WR.ev (coInts_refl s.added hs.2.1) rfl rfl rfl (WR.iteT rfl ?_)
  exact WR.ev (coDone_refl s.done ⟨hs.2.2.1, hs.2.2.2⟩) rfl rfl rfl (WR.done rfl)
theorem coCalls_refl (l : List Cal) (hl : l.length ≤ 2000000) (ht : ∀ d ∈ l, d.args.length ≤ 2000000) : Ev L f_k1l [.s (dCs l), .s (dCs l)] [dB true] := by
  refine Ev.eq (vs := [.l (dCs l), .l (dCs l)]) L_k1l rfl ?_
  refine WR.iteF (by show (!decide (((dCs l).length : Int) = ((dCs l).length : Int))) = false; simp) ?_
  refine WR.forP l.length (fun i => [.i i]) (fun _ => True) rfl rfl trivial fun i hi _ => ?_
  simp only [sCA, sNA]
  refine WR.iteLen i (dCs_len l) rfl (fun h => ?_) (fun h => WR.esc (WR.done rfl))
  obtain ⟨x, hx, hm⟩ := some_at h
  have hg : (dCs l)[i]? = some x.g := map_at (f := Cal.g) hx
  have hco : Ev L f_k1k (x.cells ++ x.cells) [dB true] := by
    refine Ev.eq (vs := [.i x.client, .i x.seq, .i x.act, .l (dL x.args), .i x.client, .i x.seq, .i x.act, .l (dL x.args)]) L_k1k rfl ?_
    refine WR.iteT (by show decide (x.client = x.client) = true; simp) ?_
    refine WR.iteT (by show decide (x.seq = x.seq) = true; simp) ?_
    refine WR.iteT (by show decide (x.act = x.act) = true; simp) ?_
    exact WR.ev (coInts_refl x.args (ht x hm)) rfl rfl rfl (WR.done rfl)
  refine WR.idxN (vs := [.i x.client, .i x.seq, .i x.act, .l (dL x.args)]) i hg rfl rfl rfl rfl ?_
  refine WR.idxN (vs := [.i x.client, .i x.seq, .i x.act, .l (dL x.args)]) i hg rfl rfl rfl rfl ?_
  simp only [sCA, sNA]
  refine WR.ev hco rfl rfl rfl (WR.iteF rfl ?_)
  exact WR.nextA (vs := [.i ((i + 1 : Nat) : Int)]) (by rw [← wS h (by omega)]; rfl) ⟨h, rfl, trivial⟩
theorem coClerk_refl (c : Clk) (hk : fitClk c) : Ev L f_k1m (c.cells ++ c.cells) [dB true] := by
  refine Ev.eq (vs := [.b c.up, .i c.round, .l (dL c.base), .l (dDs c.done), .l (dCs c.wants), .l (dGs c.got), .b c.up, .i c.round, .l (dL c.base), .l (dDs c.done), .l (dCs c.wants), .l (dGs c.got)]) L_k1m rfl ?_
  have hgl := hk.g
  refine WR.iteF (by show (!(c.up == c.up)) = false; simp) ?_
  refine WR.iteF (by show (!decide (c.round = c.round)) = false; simp) ?_
  refine WR.ev (coInts_refl c.base hk.b) rfl rfl rfl (WR.iteF rfl ?_)
  refine WR.ev (coDone_refl c.done ⟨hk.d, hk.dt⟩) rfl rfl rfl (WR.iteF rfl ?_)
  refine WR.ev (coCalls_refl c.wants hk.c hk.ct) rfl rfl rfl (WR.iteF rfl ?_)
  refine WR.iteF (by show (!decide (((dGs c.got).length : Int) = ((dGs c.got).length : Int))) = false; simp) ?_
  simp only [sCA, sNA]
  refine WR.forP c.got.length (fun i => [.i i]) (fun _ => True) rfl rfl trivial fun i hi _ => ?_
  simp only [sCA, sNA]
  refine WR.iteLen i (dGs_len c.got) rfl (fun h => ?_) (fun h => WR.esc (WR.done rfl))
  obtain ⟨x, hx, hm⟩ := some_at h
  have hg : (dGs c.got)[i]? = some x.g := map_at (f := Got.g) hx
  have hxf := hk.gt x hm
  refine WR.idxN (vs := [.b x.has, .l (dL x.added), .l (dL x.seqs)]) i hg rfl rfl rfl rfl ?_
  refine WR.idxN (vs := [.b x.has, .l (dL x.added), .l (dL x.seqs)]) i hg rfl rfl rfl rfl ?_
  simp only [sCA, sNA]
  refine WR.iteF (by show (!(x.has == x.has)) = false; simp) ?_
  refine WR.idxN (vs := [.b x.has, .l (dL x.added), .l (dL x.seqs)]) i hg rfl rfl rfl rfl ?_
  refine WR.idxN (vs := [.b x.has, .l (dL x.added), .l (dL x.seqs)]) i hg rfl rfl rfl rfl ?_
  simp only [sCA, sNA]
  refine WR.ev (coInts_refl x.added hxf.1) rfl rfl rfl (WR.iteF rfl ?_)
  simp only [sCA, sNA]
  refine WR.idxN (vs := [.b x.has, .l (dL x.added), .l (dL x.seqs)]) i hg rfl rfl rfl rfl ?_
  refine WR.idxN (vs := [.b x.has, .l (dL x.added), .l (dL x.seqs)]) i hg rfl rfl rfl rfl ?_
  simp only [sCA, sNA]
  refine WR.ev (coInts_refl x.seqs hxf.2) rfl rfl rfl (WR.iteF rfl ?_)
  exact WR.nextA (vs := [.i ((i + 1 : Nat) : Int)]) (by rw [← wS h (by omega)]; rfl) ⟨h, rfl, trivial⟩
theorem doneOk_new {n : Int} (h0 : 0 ≤ n) : doneOk n (List.replicate n.toNat don0) = true := by
  unfold doneOk
  rw [Bool.and_eq_true]
  refine ⟨by simp; omega, ?_⟩
  rw [List.all_eq_true]
  intro d hd
  rw [(List.mem_replicate.1 hd).2]
  rfl
theorem parts_ok2 (as : List (List Line)) : partsOk (catForms as) = true := by
  unfold partsOk
  rw [List.all_eq_true]
  intro p hp
  have := (catForms_fit as).each p hp
  exact allIn_iff.2 ⟨by omega, this.2⟩
theorem keepOk_new {p : Pln} (h : plnOk p = true) : keepOk p p.start 0 [0, 0, 0] = true := by
  unfold keepOk
  rw [keeps_zero (parts_ok2 p.acts) (plnOk_n h).2.2.2, Bool.true_and]
  unfold stillM
  rw [List.all_eq_true]
  rintro ⟨x, q⟩ hq
  have hx : x ∈ [(0 : Int), 0, 0] := (List.of_mem_zip hq).1
  have : x = 0 := by simpa using hx
  subst this; simp
theorem valOk_start {p : Pln} (h : plnOk p = true) : valOk p.start = true := by
  simp only [plnOk, Bool.and_eq_true, allIn_iff] at h
  have := h.2.2.1
  have hl : Lim 1000 p.start := this.2
  exact valOk_iff.2 ⟨by omega, hl.mono (by omega)⟩
theorem gives_in {p : Pln} (h : plnOk p = true) : 1 ≤ p.gives.length ∧ p.gives.length ≤ 3 := by
  have := (plnOk_n h).2.2.2
  simp only [trtOk, Bool.and_eq_true, inB_iff] at this
  omega
theorem sitNew_ok {p : Pln} (h : plnOk p = true) : sitOkP p (sitNew p) 0 = true := by
  obtain ⟨n1, n2, h3, _⟩ := plnOk_n h
  have hg := gives_in h
  have hs : sitNew p = ⟨true, false, 0, p.start, [0, 0, 0], List.replicate p.n.toNat don0⟩ := by unfold sitNew; rw [if_pos h]
  rw [hs]
  unfold sitOkP sitOk
  rw [h, valOk_start h, keepOk_new h, doneOk_new (by omega)]
  simp only [siteIn, inB, Bool.and_true, Bool.true_and, Bool.and_eq_true, decide_eq_true_eq]
  omega
theorem clkNew_ok {p : Pln} (h : plnOk p = true) : clkOkP p (clkNew p) = true ∧ clkReady p (clkNew p) = false := by
  obtain ⟨n1, n2, h3, _⟩ := plnOk_n h
  have hg := gives_in h
  have hs : clkNew p = ⟨true, 0, p.start, List.replicate p.n.toNat don0, [], List.replicate p.gives.length got0⟩ := by unfold clkNew; rw [if_pos h]
  have hgot : ∀ j, gotS p p.start (List.replicate p.gives.length got0) j = true := fun j => by
    unfold gotS
    have : (List.replicate p.gives.length got0).getD j got0 = got0 := by
      rw [List.getD_eq_getElem?_getD, List.getElem?_replicate]
      split <;> rfl
    rw [this]; rfl
  have hh : hasN (List.replicate p.gives.length got0) = 0 := by
    unfold hasN
    rw [List.length_eq_zero_iff, List.filter_eq_nil_iff]
    intro x hx
    rw [(List.mem_replicate.1 hx).2]
    simp [got0]
  have hok : clkOkP p (clkNew p) = true := by
    rw [hs]
    unfold clkOkP clkOk
    rw [h, valOk_start h, doneOk_new (by omega), allTo_iff.2 fun j _ => hgot j]
    simp [inB, allTo]
  refine ⟨hok, ?_⟩
  unfold clkReady
  rw [hok, hs]
  show (true && decide (hasN (List.replicate p.gives.length got0) = p.gives.length)) = false
  rw [hh, Bool.true_and]
  exact decide_eq_false (by omega)
theorem ev_FnSitNew (ns : List Int) (hb : ∀ x ∈ ns, 0 ≤ x ∧ x < 256) : Ev L f_k3i [.s (bytesD ns)] [dB true] := by
  refine Ev.eq (vs := [.l (bytesD ns)]) L_k3i rfl ?_
  refine WR.iteP (1048576 < ((bytesD ns).length : Int)) rfl (fun _ => WR.done rfl) (fun _ => ?_)
  obtain ⟨p, hd, hp⟩ := ev_DrawSitNew ns hb
  have hs1 := ev_iSitNew p hp
  have hs2 := ev_sSitNew p hp
  have hk1 := ev_iClkNew p hp
  have hk2 := ev_sClkNew p hp
  have fs := fit_sitNew p hp
  have fk := (fit_clkNew p hp).1
  have cs := coSite_refl (sitNew p) fs
  have ck := coClerk_refl (clkNew p) fk
  have is := ev_iSitOk p (sitNew p) 0 hp fs
  have ik := ev_iClkOk p (clkNew p) hp fk
  have ir := ev_iClkReady p (clkNew p) hp fk
  have hno : plnOk p = false → sitNew p = ⟨false, false, 0, [], [], []⟩ ∧ clkNew p = ⟨false, 0, [], [], [], []⟩ := fun h => ⟨by unfold sitNew; rw [if_neg (by simp [h])], by unfold clkNew; rw [if_neg (by simp [h])]⟩
  have hyes : plnOk p = true → sitNew p = ⟨true, false, 0, p.start, [0, 0, 0], List.replicate p.n.toNat don0⟩ ∧ clkNew p = ⟨true, 0, p.start, List.replicate p.n.toNat don0, [], List.replicate p.gives.length got0⟩ := fun h => ⟨by unfold sitNew; rw [if_pos h], by unfold clkNew; rw [if_pos h]⟩
  have hok1 : plnOk p = true → sitOkP p (sitNew p) 0 = true := sitNew_ok
  have hok2 : plnOk p = true → clkOkP p (clkNew p) = true ∧ clkReady p (clkNew p) = false := clkNew_ok
  generalize sitNew p = s at *
  generalize clkNew p = c at *
  refine WR.ev (vs := [.i p.n, .l (dActs p.acts), .l (dL p.gives), .l (dL p.start)]) hd rfl rfl rfl ?_
  simp only [sCA, sNA]
  refine WR.ev (vs := [.b s.up, .b s.frozen, .i s.round, .l (dL s.base), .l (dL s.added), .l (dDs s.done)]) hs1 rfl rfl rfl ?_
  simp only [sCA, sNA]
  refine WR.ev (vs := [.b c.up, .i c.round, .l (dL c.base), .l (dDs c.done), .l (dCs c.wants), .l (dGs c.got)]) hk1 rfl rfl rfl ?_
  simp only [sCA, sNA]
  refine WR.ev (vs := [.b s.up, .b s.frozen, .i s.round, .l (dL s.base), .l (dL s.added), .l (dDs s.done)]) hs2 rfl rfl rfl ?_
  simp only [sCA, sNA]
  refine WR.ev cs rfl rfl rfl (WR.iteF rfl ?_)
  simp only [sCA, sNA]
  refine WR.ev (vs := [.b c.up, .i c.round, .l (dL c.base), .l (dDs c.done), .l (dCs c.wants), .l (dGs c.got)]) hk2 rfl rfl rfl ?_
  simp only [sCA, sNA]
  refine WR.ev ck rfl rfl rfl (WR.iteF rfl ?_)
  simp only [sCA, sNA]
  refine WR.ev (ev_sPlnOk p hp) rfl rfl rfl ?_
  simp only [sCA, sNA]
  refine WR.iteN (plnOk p) rfl (fun h => ?_) (fun h => ?_)
  · obtain ⟨rfl, rfl⟩ := hno h
    refine WR.ev cs rfl rfl rfl (WR.iteT rfl ?_)
    exact WR.ev ck rfl rfl rfl (WR.iteT rfl (WR.ev ev_coHolds rfl rfl rfl (WR.done rfl)))
  obtain ⟨hc1, hc2⟩ := hok2 h
  have hc0 := hok1 h
  rw [hc0] at is
  rw [hc1] at ik
  rw [hc2] at ir
  obtain ⟨rfl, rfl⟩ := hyes h
  refine WR.ev is rfl rfl rfl (WR.iteT rfl ?_)
  simp only [sCA, sNA]
  refine WR.ev ik rfl rfl rfl (WR.iteT rfl ?_)
  simp only [sCA, sNA]
  refine WR.ev (coInts_refl p.start hp.2.2) rfl rfl rfl (WR.iteT rfl ?_)
  simp only [sCA, sNA]
  refine WR.ev (coInts_refl p.start hp.2.2) rfl rfl rfl (WR.iteT rfl ?_)
  simp only [sCA, sNA]
  refine WR.ev (coDone_refl _ ⟨fs.2.2.1, fs.2.2.2⟩) rfl rfl rfl (WR.iteT rfl ?_)
  simp only [sCA, sNA]
  refine WR.iteT rfl (WR.iteT rfl ?_)
  exact WR.ev ir rfl rfl rfl (WR.done rfl)
end Go.Proofs.YtdibnlhlngodeaaGreatDoor

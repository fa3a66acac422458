import Derived.Test.YtdibnlhlngodeaaGreatDoorPZU
set_option linter.unusedVariables false
set_option linter.unusedSimpArgs false
/- The program's SitFall answers as the reference's: over residual programs. -/
namespace Go.Proofs.YtdibnlhlngodeaaGreatDoor
open Go Go.Tm
theorem ev_l6CopyRes (c : Int) (l : List Int) (hl : l.length ≤ 2000000) : Ev L f_k1j [dI c, .s (dL l)] [dI c, .s (dL l)] := by
  refine Ev.eq (vs := [.i c, .l (dL l)]) L_k1j rfl ?_
  refine WR.chkN (dL l) 2000000 (by rw [dL_len]; omega) (by omega) rfl ?_
  refine WR.head (head_dL l) ?_
  exact WR.chkN (dL l) 2000000 (by rw [dL_len]; omega) (by omega) rfl (WR.done rfl)
theorem ev_l6CopyDone (l : List Don) (hl : fitL fitDon l) : Ev L f_k1k [.s (dDs l)] [.s (dDs l)] := by
  refine Ev.eq (vs := [.l (dDs l)]) L_k1k rfl ?_
  have hl0 := hl.1
  refine WR.forP l.length (fun i => [.l (dDs (l.take i)), .i i]) (fun _ => True) rfl rfl trivial fun i hi _ => ?_
  simp only [sCA, sNA]
  refine WR.iteLen i (dDs_len l) rfl (fun h => ?_) (fun h => WR.esc (WR.done ?_))
  · obtain ⟨x, hx, hm⟩ := some_at h
    have hg : (dDs l)[i]? = some x.g := map_at (f := Don.g) hx
    refine WR.idxN (vs := [.i x.seq, .i x.code, .l (dL x.tells)]) i hg rfl rfl rfl rfl ?_
    refine WR.idxN (vs := [.i x.seq, .i x.code, .l (dL x.tells)]) i hg rfl rfl rfl rfl ?_
    refine WR.ev (vs := [.i x.code, .l (dL x.tells)]) (ev_l6CopyRes x.code x.tells (hl.2 x hm)) rfl rfl rfl ?_
    simp only [sCA, sNA]
    refine WR.chkApp (dDs (l.take i)) 2000000 (by rw [dDs_len, List.length_take]; omega) (by omega) rfl ?_
    refine WR.nextA (vs := [.l (dDs (l.take (i + 1))), .i ((i + 1 : Nat) : Int)]) ?_ ⟨h, rfl, trivial⟩
    show [V.l (dDs (l.take i) ++ [x.g]), V.i (IntKind.i64.wrap ((i : Int) + 1))] = _
    rw [wS h (by omega), take_succ hx]
    simp only [dDs, List.map_append, List.map_cons, List.map_nil]
  · show [D.s (dDs (l.take i))] = _
    rw [take_all h]
theorem ev_l8Copy (s : Sit) (hs : fitSit s) : Ev L f_k1l s.cells s.cells := by
  refine Ev.eq (vs := [.b s.up, .b s.frozen, .i s.round, .l (dL s.base), .l (dL s.added), .l (dDs s.done)]) L_k1l rfl ?_
  have h1 := hs.1
  have h2 := hs.2.1
  refine WR.chkN (dL s.base) 2000000 (by rw [dL_len]; omega) (by omega) rfl ?_
  refine WR.head (head_dL s.base) ?_
  refine WR.chkN (dL s.base) 2000000 (by rw [dL_len]; omega) (by omega) rfl ?_
  refine WR.chkN (dL s.added) 2000000 (by rw [dL_len]; omega) (by omega) rfl ?_
  refine WR.head (head_dL s.added) ?_
  refine WR.chkN (dL s.added) 2000000 (by rw [dL_len]; omega) (by omega) rfl ?_
  exact WR.ev (vs := [.l (dDs s.done)]) (ev_l6CopyDone s.done ⟨hs.2.2.1, hs.2.2.2⟩) rfl rfl rfl (WR.done rfl)
theorem ev_resCopied (c : Int) (l : List Int) (hl : l.length ≤ 2000000) : Ev L f_k3o [dI c, .s (dL l)] [dI c, .s (dL l)] :=
  Ev.eq (vs := [.i c, .l (dL l)]) L_k3o rfl (WR.ev (vs := [.l (dL l)]) (ev_clone1 l hl) rfl rfl rfl (WR.done rfl))
theorem ev_dones (l : List Don) (hl : fitL fitDon l) : Ev L f_k3p [.s (dDs l)] [.s (dDs l)] := by
  refine Ev.eq (vs := [.l (dDs l)]) L_k3p rfl ?_
  have hl0 := hl.1
  refine WR.forP l.length (fun i => [.l (dDs (l.take i)), .i i]) (fun _ => True) rfl rfl trivial fun i hi _ => ?_
  simp only [sCA, sNA]
  refine WR.iteLen i (dDs_len l) rfl (fun h => ?_) (fun h => WR.esc (WR.done ?_))
  · obtain ⟨x, hx, hm⟩ := some_at h
    have hg : (dDs l)[i]? = some x.g := map_at (f := Don.g) hx
    refine WR.idxN (vs := [.i x.seq, .i x.code, .l (dL x.tells)]) i hg rfl rfl rfl rfl ?_
    refine WR.ev (vs := [.i x.code, .l (dL x.tells)]) (ev_resCopied x.code x.tells (hl.2 x hm)) rfl rfl rfl ?_
    simp only [sCA, sNA]
    refine WR.fl (flats_map dI (fun _ => rfl) x.tells) ?_
    refine WR.chkApp (dDs (l.take i)) 2000000 (by rw [dDs_len, List.length_take]; omega) (by omega) rfl ?_
    refine WR.nextA (vs := [.l (dDs (l.take (i + 1))), .i ((i + 1 : Nat) : Int)]) ?_ ⟨h, rfl, trivial⟩
    show [V.l (dDs (l.take i) ++ [x.g]), V.i (IntKind.i64.wrap ((i : Int) + 1))] = _
    rw [wS h (by omega), take_succ hx]
    simp only [dDs, List.map_append, List.map_cons, List.map_nil]
  · show [D.s (dDs (l.take i))] = _
    rw [take_all h]
theorem ev_sitCopied (s : Sit) (hs : fitSit s) : Ev L f_k3q s.cells s.cells := by
  refine Ev.eq (vs := [.b s.up, .b s.frozen, .i s.round, .l (dL s.base), .l (dL s.added), .l (dDs s.done)]) L_k3q rfl ?_
  refine WR.ev (vs := [.l (dL s.base)]) (ev_clone1 s.base hs.1) rfl rfl rfl ?_
  refine WR.ev (vs := [.l (dL s.added)]) (ev_clone1 s.added hs.2.1) rfl rfl rfl ?_
  exact WR.ev (vs := [.l (dDs s.done)]) (ev_dones s.done ⟨hs.2.2.1, hs.2.2.2⟩) rfl rfl rfl (WR.done rfl)
def sitFall (p : Pln) (s : Sit) (k : Int) (up : Bool) : Sit := if sitOkP p s k then ⟨up, s.frozen, s.round, s.base, s.added, s.done⟩ else ⟨false, false, 0, [], [], []⟩
theorem ev_sSitFall (p : Pln) (s : Sit) (k : Int) (u : Bool) (hp : fitPln p) (hs : fitSit s) : Ev L f_k1m (p.cells ++ s.cells ++ [dI k, dB u]) (sitFall p s k u).cells := by
  refine Ev.eq (vs := [.i p.n, .l (dActs p.acts), .l (dL p.gives), .l (dL p.start), .b s.up, .b s.frozen, .i s.round, .l (dL s.base), .l (dL s.added), .l (dDs s.done), .i k, .b u]) L_k1m rfl ?_
  refine WR.ev (ev_sSitOk p s k hp hs) rfl rfl rfl ?_
  refine WR.iteN (sitOkP p s k) rfl (fun h => WR.done ?_) (fun h => ?_)
  · show _ = (sitFall p s k u).cells
    unfold sitFall; rw [if_neg (by simp [h])]; rfl
  refine WR.ev (vs := [.b s.up, .b s.frozen, .i s.round, .l (dL s.base), .l (dL s.added), .l (dDs s.done)]) (ev_l8Copy s hs) rfl rfl rfl (WR.done ?_)
  show _ = (sitFall p s k u).cells
  unfold sitFall; rw [if_pos h]; rfl
theorem ev_iSitFall (p : Pln) (s : Sit) (k : Int) (u : Bool) (hp : fitPln p) (hs : fitSit s) : Ev L f_k3r (p.cells ++ s.cells ++ [dI k, dB u]) (sitFall p s k u).cells := by
  refine Ev.eq (vs := [.i p.n, .l (dActs p.acts), .l (dL p.gives), .l (dL p.start), .b s.up, .b s.frozen, .i s.round, .l (dL s.base), .l (dL s.added), .l (dDs s.done), .i k, .b u]) L_k3r rfl ?_
  refine WR.ev (ev_iSitOk p s k hp hs) rfl rfl rfl ?_
  refine WR.iteN (sitOkP p s k) rfl (fun h => WR.done ?_) (fun h => ?_)
  · show _ = (sitFall p s k u).cells
    unfold sitFall; rw [if_neg (by simp [h])]; rfl
  refine WR.ev (vs := [.b s.up, .b s.frozen, .i s.round, .l (dL s.base), .l (dL s.added), .l (dDs s.done)]) (ev_sitCopied s hs) rfl rfl rfl (WR.done ?_)
  show _ = (sitFall p s k u).cells
  unfold sitFall; rw [if_pos h]; rfl
theorem fit_sitFall (p : Pln) {s : Sit} (k : Int) (u : Bool) (hs : fitSit s) : fitSit (sitFall p s k u) := by
  unfold sitFall
  split
  · exact hs
  · exact ⟨by simp, by simp, by simp, fun d hd => by simp at hd⟩
theorem wts_don (l : List Don) : wts Don.w l ≤ 2 * szL szDon l := by
  unfold wts szL
  induction l with
  | nil => simp
  | cons x l ih =>
    simp only [List.map_cons, List.sum_cons, List.length_cons] at ih ⊢
    have : Don.w x = 2 + szDon x := rfl
    omega
theorem wtSit_le (s : Sit) : wtSit s ≤ 2 * szSit s := by
  have := wts_don s.done
  unfold wtSit szSit; omega
theorem wt_sitFall (p : Pln) (s : Sit) (k : Int) (u : Bool) : wtSit (sitFall p s k u) ≤ wtSit s := by
  unfold sitFall
  split
  · exact Nat.le_refl _
  · simp [wtSit, wts]
theorem ev_markSitK (s : Sit) (k : Int) (hs : fitSit s) (hw : wtSit s ≤ 10000000000) (h0 : 0 ≤ k) (h1 : k ≤ 100000000000) :
    Ev L f_k47 (s.cells ++ [dI k]) [dI (k + wtSit s), .s (dL (cnt k s.base.length)), .s (dL (cnt (k + s.base.length) s.added.length)), .s (dDs (mkAll Don.w Don.mk' (k + s.base.length + s.added.length) s.done))] := by
  unfold wtSit at hw
  refine Ev.eq (vs := [.b s.up, .b s.frozen, .i s.round, .l (dL s.base), .l (dL s.added), .l (dDs s.done), .i k]) L_k47 rfl ?_
  refine WR.ev (ev_markIntS s.base k hs.1 (by omega) (by omega)) rfl rfl rfl ?_
  refine WR.ev (ev_markIntS s.added (k + s.base.length) hs.2.1 (by omega) (by omega)) rfl rfl rfl ?_
  refine WR.ev (ev_markPlnDoneS s.done (k + s.base.length + s.added.length) hs.2.2.1 hs.2.2.2 (by omega) (by omega)) rfl rfl rfl ?_
  refine WR.done ?_
  show [dI (k + s.base.length + s.added.length + wts Don.w s.done), _, _, _] = _
  rw [show k + (s.base.length : Int) + s.added.length + wts Don.w s.done = k + wtSit s by unfold wtSit; push_cast; omega]
  rfl
theorem ev_FnExactSitFall (p : Pln) (s : Sit) (k : Int) (u : Bool) (hb : bigPln p) (hbs : bigSit s) : Ev L f_k4b (p.cells ++ s.cells ++ [dI k, dB u]) [dB true] := by
  refine Ev.eq (vs := [.i p.n, .l (dActs p.acts), .l (dL p.gives), .l (dL p.start), .b s.up, .b s.frozen, .i s.round, .l (dL s.base), .l (dL s.added), .l (dDs s.done), .i k, .b u]) L_k4b rfl ?_
  refine WR.ev (ev_szPlnPlan p 1048576 hb (by omega) (by omega)) rfl rfl rfl ?_
  have hr := dec_room (left := 1048576) (n := szPln p) (by omega) (by omega)
  refine WR.iteP (dec 1048576 (szPln p) < 0) rfl (fun _ => WR.done rfl) (fun h => ?_)
  have hsz : szPln p ≤ 1048576 := by have := dec_le h; omega
  have hf : fitPln p := fitPln_of hsz
  have hto := ev_toPlnPlan p hf
  refine WR.ev (ev_szSitSite s (dec 1048576 (szPln p)) hbs (by omega) (by omega)) rfl rfl rfl ?_
  simp only [sCA, sNA]
  have hrs := dec_room (left := (dec 1048576 (szPln p))) (n := szSit s) (by omega) (by omega)
  refine WR.iteP (dec (dec 1048576 (szPln p)) (szSit s) < 0) rfl (fun _ => WR.done rfl) (fun hss => ?_)
  have hsz2 : szSit s ≤ 1048576 := by have := dec_le hss; omega
  have hfs : fitSit s := fitSit_of hsz2
  have htos := ev_toSitSite s hfs
  have hwp := wtPln_le p
  have hws := wtSit_le s
  have hwr := wt_sitFall p s k u
  have hr2 := fit_sitFall p k u hfs
  have hs := ev_sSitFall p s k u hf hfs
  have hi := ev_iSitFall p s k u hf hfs
  obtain ⟨es, hmk⟩ := ev_markPlnPlan p hf (by omega)
  have hms := ev_markSitK s (1 + wtPln p) hfs (by omega) (by omega) (by omega)
  generalize sitFall p s k u = r at *
  have heq := ev_eqSitSite r hr2
  have heqs := ev_eqSitSite s hfs
  have hmr := ev_markSitSite r hr2 (by omega)
  have hhr := ev_heldSitSite r hr2 (by omega)
  generalize hmk2 : mkSit r = m at *
  have ht1 : m.base.length = r.base.length := by rw [← hmk2]; simp [mkSit, cnt_len]
  have ht2 : m.added.length = r.added.length := by rw [← hmk2]; simp [mkSit, cnt_len]
  have ht3 : m.done.length = r.done.length := by rw [← hmk2]; simp [mkSit, mkAll_len]
  have hcell : m.cells = [dB r.up, dB r.frozen, dI r.round, .s (dL m.base), .s (dL m.added), .s (dDs m.done)] := by rw [← hmk2]; rfl
  rw [hcell] at hhr
  refine WR.ev (vs := [.i p.n, .l (dActs p.acts), .l (dL p.gives), .l (dL p.start)]) hto rfl rfl rfl ?_
  simp only [sCA, sNA]
  refine WR.ev (vs := [.b s.up, .b s.frozen, .i s.round, .l (dL s.base), .l (dL s.added), .l (dDs s.done)]) htos rfl rfl rfl ?_
  simp only [sCA, sNA]
  refine WR.ev (vs := [.b r.up, .b r.frozen, .i r.round, .l (dL r.base), .l (dL r.added), .l (dDs r.done)]) hs rfl rfl rfl ?_
  simp only [sCA, sNA]
  refine WR.ev (vs := [.i p.n, .l (dActs p.acts), .l (dL p.gives), .l (dL p.start)]) hto rfl rfl rfl ?_
  simp only [sCA, sNA]
  refine WR.ev (vs := [.b s.up, .b s.frozen, .i s.round, .l (dL s.base), .l (dL s.added), .l (dDs s.done)]) htos rfl rfl rfl ?_
  simp only [sCA, sNA]
  refine WR.ev (vs := [.b r.up, .b r.frozen, .i r.round, .l (dL r.base), .l (dL r.added), .l (dDs r.done)]) hi rfl rfl rfl ?_
  simp only [sCA, sNA]
  refine WR.fl (flats_map dI (fun _ => rfl) r.base) ?_
  refine WR.fl (flats_map dI (fun _ => rfl) r.added) ?_
  refine WR.ev heq rfl rfl rfl (WR.iteF rfl ?_)
  simp only [sCA, sNA]
  refine WR.ev (vs := [.i p.n, .l (dActs p.acts), .l (dL p.gives), .l (dL p.start)]) hto rfl rfl rfl ?_
  simp only [sCA, sNA]
  refine WR.ev (ev_eqPlnPlan p hf) rfl rfl rfl (WR.iteF rfl ?_)
  simp only [sCA, sNA]
  refine WR.ev (vs := [.b s.up, .b s.frozen, .i s.round, .l (dL s.base), .l (dL s.added), .l (dDs s.done)]) htos rfl rfl rfl ?_
  simp only [sCA, sNA]
  refine WR.ev heqs rfl rfl rfl (WR.iteF rfl ?_)
  simp only [sCA, sNA]
  refine WR.ev (vs := [.i (1 + wtPln p), .l es, .l (dL (cnt (1 + wtAs p.acts) p.gives.length)), .l (dL (cnt (1 + wtAs p.acts + p.gives.length) p.start.length))]) hmk rfl rfl rfl ?_
  simp only [sCA, sNA]
  refine WR.ev (vs := [.i (1 + wtPln p + wtSit s), .l (dL (cnt (1 + wtPln p) s.base.length)), .l (dL (cnt (1 + wtPln p + s.base.length) s.added.length)), .l (dDs (mkAll Don.w Don.mk' (1 + wtPln p + s.base.length + s.added.length) s.done))]) hms rfl rfl rfl ?_
  simp only [sCA, sNA]
  refine WR.iteF (by show decide ((1 : Int) + wtPln p + wtSit s < 0) = false; rw [decide_eq_false]; omega) ?_
  refine WR.ev heq rfl rfl rfl (WR.iteF rfl ?_)
  simp only [sCA, sNA]
  refine WR.ev (vs := [.i (1 + wtSit r), .l (dL m.base), .l (dL m.added), .l (dDs m.done)]) hmr rfl rfl rfl ?_
  simp only [sCA, sNA]
  have c1 : decide (((dL r.base).length : Int) = ((dL m.base).length : Int)) = true := by rw [dL_len, dL_len, ht1]; simp
  have c2 : decide (((dL r.added).length : Int) = ((dL m.added).length : Int)) = true := by rw [dL_len, dL_len, ht2]; simp
  have c3 : decide (((dDs r.done).length : Int) = ((dDs m.done).length : Int)) = true := by simp [dDs, ht3]
  refine WR.chk c1 (WR.chk c2 (WR.chk c3 ?_))
  refine WR.ev (vs := [.i (1 + wtSit r)]) hhr rfl rfl rfl ?_
  simp only [sCA, sNA]
  have hneg : decide ((1 : Int) + (wtSit r : Int) < 0) = false := by rw [decide_eq_false]; omega
  have hsame : (!decide ((1 : Int) + (wtSit r : Int) = (1 : Int) + (wtSit r : Int))) = false := by simp
  refine WR.iteF hneg (WR.iteF hsame ?_)
  refine WR.ev (vs := [.i p.n, .l (dActs p.acts), .l (dL p.gives), .l (dL p.start)]) hto rfl rfl rfl ?_
  simp only [sCA, sNA]
  refine WR.ev (vs := [.b s.up, .b s.frozen, .i s.round, .l (dL s.base), .l (dL s.added), .l (dDs s.done)]) htos rfl rfl rfl ?_
  simp only [sCA, sNA]
  refine WR.ev (vs := [.b r.up, .b r.frozen, .i r.round, .l (dL r.base), .l (dL r.added), .l (dDs r.done)]) hi rfl rfl rfl ?_
  simp only [sCA, sNA]
  refine WR.fl (flats_map dI (fun _ => rfl) r.base) ?_
  refine WR.fl (flats_map dI (fun _ => rfl) r.added) ?_
  refine WR.ev heq rfl rfl rfl (WR.iteF rfl ?_)
  simp only [sCA, sNA]
  refine WR.chk c1 (WR.chk c2 (WR.chk c3 ?_))
  refine WR.ev (vs := [.i (1 + wtSit r)]) hhr rfl rfl rfl ?_
  simp only [sCA, sNA]
  exact WR.iteF hneg (WR.iteF hsame (WR.done rfl))
theorem arg_FnExactSitFall (dss : List (List D)) (h : TySs [tyPlan, tySit, .i .i64, .b] dss) : ∃ ls, flattenD [.g [.i .i64, .s, .s, .s], .g [.b, .b, .i .i64, .s, .s, .s], .one (.i .i64), .one .b] (argsS [tyPlan, tySit, .i .i64, .b] dss) = some ls ∧ Ev L f_k4b ls [dB true] := by
  obtain ⟨ds, _, rfl, h1, es, _, rfl, h2, fs, _, rfl, ⟨k, rfl⟩, gs, _, rfl, ⟨u, rfl⟩, rfl⟩ := h
  obtain ⟨p, rfl, hp⟩ := plan_of h1
  obtain ⟨s, rfl, hs⟩ := sit_of h2
  exact ⟨_, rfl, ev_FnExactSitFall p s k u hp hs⟩
end Go.Proofs.YtdibnlhlngodeaaGreatDoor

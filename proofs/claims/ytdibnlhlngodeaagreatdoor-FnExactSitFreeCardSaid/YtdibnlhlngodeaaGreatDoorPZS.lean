import Derived.Test.YtdibnlhlngodeaaGreatDoorPZP
import Derived.Test.YtdibnlhlngodeaaGreatDoorPZR
set_option linter.unusedVariables false
set_option linter.unusedSimpArgs false
/- Results, calls, what was done, messages: which of them are ok. -/
namespace Go.Proofs.YtdibnlhlngodeaaGreatDoor
open Go Go.Tm
theorem ev_l1Digits (n : Int) (h0 : -999999999999 ≤ n) (h1 : n ≤ 999999999999) : Ev L f_k1f [dI n] [strD (Lib.itoa n)] := by
  refine Ev.m L_k1f ?_
  show (i64D (dI n)).map _ = _
  rw [show i64D (dI n) = some n by show (if _ then some n else none) = _; rw [if_pos (by omega)]]
  rfl
theorem joinB_step {t : List Int} {i : Nat} {x : Int} (h : t[i]? = some x) : joinB (t.take (i + 1)) = joinB (t.take i) ++ [32] ++ Lib.itoa x := by
  unfold joinB
  rw [take_succ h, List.flatMap_append]
  simp only [List.flatMap_cons, List.flatMap_nil, List.append_nil, List.append_assoc, List.singleton_append]
theorem ev_sResText (c : Int) (t : List Int) (ht : t.length ≤ 2000000) : Ev L f_k1g [dI c, .s (dL t)] [strD (resB c t)] := by
  refine Ev.eq (vs := [.i c, .l (dL t)]) L_k1g rfl ?_
  have no : resOk c t = false → ([strD []] : List D) = [strD (resB c t)] := fun h => by simp [resB, h]
  refine WR.ev (ev_l1In c 1 3) rfl rfl rfl ?_
  refine WR.iteN (inB c 1 3) rfl (fun h => WR.done (no (by simp [resOk, h]))) (fun h1 => ?_)
  obtain ⟨w1, _, w3⟩ := word_at h1
  have hidx : (wordsB.map strD)[c.toNat]? = some (strD (wordsB.getD c.toNat [])) := by rw [List.getElem?_map, w1]; rfl
  have hc0 : 0 ≤ c := by unfold inB at h1; simp only [Bool.and_eq_true, decide_eq_true_eq] at h1; omega
  have hc4 : c < 4 := by unfold inB at h1; simp only [Bool.and_eq_true, decide_eq_true_eq] at h1; omega
  have hal := ev_l1All t t.length 999999999999 ht (by omega) (by omega)
  have six : 6 < t.length → resOk c t = false := fun h => by simp only [resOk, show ¬ t.length ≤ 6 by omega, decide_false, Bool.false_and, Bool.and_false]
  have ok : t.length ≤ 6 → (c = 1 ∨ t = []) → allIn t.length 999999999999 t = true → resOk c t = true := fun h2 h3 h4 => resOk_iff.2 ⟨by unfold inB at h1; simp only [Bool.and_eq_true, decide_eq_true_eq] at h1; omega, h2, h3, (allIn_iff.1 h4).2⟩
  refine WR.iteN (decide (c = 1)) rfl (fun h3 => ?_) (fun h3 => ?_)
  · refine WR.iteP (0 < ((dL t).length : Int)) rfl (fun h => WR.done (no ?_)) (fun h4 => ?_)
    · rw [dL_len] at h
      have : t.isEmpty = false := by cases t with
        | nil => simp at h
        | cons x t => rfl
      simp only [resOk, h3, this, Bool.or_false, Bool.false_and, Bool.and_false]
    rw [dL_len] at h4
    have h4 : t = [] := List.length_eq_zero_iff.1 (by omega)
    refine WR.iteP (6 < ((dL t).length : Int)) rfl (fun h => WR.done (no (six (by rw [dL_len] at h; omega)))) (fun h2 => ?_)
    rw [dL_len] at h2
    refine WR.ev hal rfl (by show [D.s (dL t), dI ((dL t).length : Int), dI 999999999999] = _; rw [dL_len]) rfl ?_
    refine WR.iteN (allIn t.length 999999999999 t) rfl (fun h => WR.done (no (by simp only [resOk, h, Bool.and_false]))) (fun h5 => ?_)
    have hok := ok (by omega) (.inr h4) h5
    have hl := (allIn_iff.1 h5).2
    have e : strD (resB c t) = strD (wordsB.getD c.toNat [] ++ joinB t) := by simp only [resB, hok, if_true]
    rw [e]
    refine WR.chkP (0 ≤ c) rfl hc0 (WR.chkP (c < 4) rfl hc4 ?_)
    refine WR.idxA (ds := wordsB.map strD) c rfl rfl rfl hc0 hidx rfl ?_
    subst h4
    refine WR.loop (fun _ vs => vs = [.d (strD (wordsB.getD c.toNat [])), .i 0]) rfl 0 rfl ?_
    rintro m _ rfl
    refine WR.iteF rfl (WR.esc (WR.done ?_))
    show [strD (wordsB.getD c.toNat [])] = [strD (wordsB.getD c.toNat [] ++ joinB [])]
    rw [show joinB [] = [] from rfl, List.append_nil]
  · refine WR.iteP (6 < ((dL t).length : Int)) rfl (fun h => WR.done (no (six (by rw [dL_len] at h; omega)))) (fun h2 => ?_)
    rw [dL_len] at h2
    refine WR.ev hal rfl (by show [D.s (dL t), dI ((dL t).length : Int), dI 999999999999] = _; rw [dL_len]) rfl ?_
    refine WR.iteN (allIn t.length 999999999999 t) rfl (fun h => WR.done (no (by simp only [resOk, h, Bool.and_false]))) (fun h5 => ?_)
    have hok := ok (by omega) (.inl (by simpa using h3)) h5
    have hl := (allIn_iff.1 h5).2
    have e : strD (resB c t) = strD (wordsB.getD c.toNat [] ++ joinB t) := by simp only [resB, hok, if_true]
    rw [e]
    refine WR.chkP (0 ≤ c) rfl hc0 (WR.chkP (c < 4) rfl hc4 ?_)
    refine WR.idxA (ds := wordsB.map strD) c rfl rfl rfl hc0 hidx rfl ?_
    generalize wordsB.getD c.toNat [] = wd at *
    refine WR.forP t.length (fun i => [.d (strD (wd ++ joinB (t.take i))), .i i]) (fun _ => True) rfl ?_ trivial fun i hi _ => ?_
    · show [V.d (strD wd), V.i 0] = _
      rw [List.take_zero, show joinB [] = [] from rfl, List.append_nil]; rfl
    simp only [sCA, sNA]
    refine WR.iteLen i (dL_len t) rfl (fun h => ?_) (fun h => WR.esc (WR.done ?_))
    · obtain ⟨x, hx, hm⟩ := some_at h
      have hxb := hl x hm
      have hj := joinB_le (t.take i) fun m hm => hl m (List.mem_of_mem_take hm)
      rw [List.length_take, Nat.min_eq_left (by omega)] at hj
      have hxl := Lib.itoa_length_le x (by omega) (by omega)
      refine WR.prim rfl (cat_str (a := wd ++ joinB (t.take i)) (b := [32]) (by simp; omega)) rfl ?_
      refine WR.idxN i (map_at (f := dI) hx) rfl rfl rfl rfl ?_
      refine WR.ev (ev_l1Digits x (by omega) (by omega)) rfl rfl rfl ?_
      refine WR.prim rfl (cat_str (a := wd ++ joinB (t.take i) ++ [32]) (b := Lib.itoa x) (by simp; omega)) rfl ?_
      refine WR.nextA (vs := [.d (strD (wd ++ joinB (t.take (i + 1)))), .i ((i + 1 : Nat) : Int)]) ?_ ⟨h, rfl, trivial⟩
      show [V.d (strD (wd ++ joinB (t.take i) ++ [32] ++ Lib.itoa x)), V.i (IntKind.i64.wrap ((i : Int) + 1))] = _
      rw [wS h (by omega), joinB_step hx]
      simp only [List.append_assoc]
    · show [strD (wd ++ joinB (t.take i))] = _
      rw [take_all h]
theorem ev_sResOk (c : Int) (t : List Int) (ht : t.length ≤ 2000000) : Ev L f_k1h [dI c, .s (dL t)] [dB (resOk c t)] := by
  refine Ev.eq (vs := [.i c, .l (dL t)]) L_k1h rfl ?_
  refine WR.ev (ev_sResText c t ht) rfl rfl rfl ?_
  refine WR.prim rfl (seq_str (resB c t) []) rfl (WR.done ?_)
  show [dB (!(resB c t == []))] = _
  rw [resB_empty, Bool.not_not]
def callOk (p : Pln) (c : Cal) : Bool := inB c.client 0 (p.n - 1) && (inB c.seq 1 300 && (inB c.act 0 ((p.acts.length : Int) - 1) && argOk c.args))
theorem len_wrap {n : Nat} (h : n ≤ 2000000) : IntKind.i64.wrap ((n : Int) - 1) = (n : Int) - 1 := w64 (by omega) (by omega)
theorem ev_l6Call (p : Pln) (c : Cal) (hp : fitPln p) (h1 : 1 ≤ p.n) (h2 : p.n ≤ 4) (hc : fitCal c) : Ev L f_k1m (p.cells ++ c.cells) [dB (callOk p c)] := by
  refine Ev.eq (vs := [.i p.n, .l (dActs p.acts), .l (dL p.gives), .l (dL p.start), .i c.client, .i c.seq, .i c.act, .l (dL c.args)]) L_k1m rfl ?_
  have w1 : IntKind.i64.wrap (p.n - 1) = p.n - 1 := w64 (by omega) (by omega)
  have w2 : IntKind.i64.wrap (((dActs p.acts).length : Int) - 1) = (p.acts.length : Int) - 1 := by rw [dActs_len]; exact len_wrap hp.1.1
  refine WR.ev (ev_l1In c.client 0 (p.n - 1)) rfl (by show [dI c.client, dI 0, dI (IntKind.i64.wrap (p.n - 1))] = _; rw [w1]) rfl ?_
  refine WR.iteB (inB c.client 0 (p.n - 1)) rfl (fun a => ?_) (fun a => WR.done (by show [dB false] = _; simp [callOk, a]))
  refine WR.ev (ev_l1In c.seq 1 300) rfl rfl rfl ?_
  refine WR.iteB (inB c.seq 1 300) rfl (fun b => ?_) (fun b => WR.done (by show [dB false] = _; simp [callOk, b]))
  refine WR.ev (ev_l1In c.act 0 ((p.acts.length : Int) - 1)) rfl (by show [dI c.act, dI 0, dI (IntKind.i64.wrap (((dActs p.acts).length : Int) - 1))] = _; rw [w2]) rfl ?_
  refine WR.iteB (inB c.act 0 ((p.acts.length : Int) - 1)) rfl (fun d => ?_) (fun d => WR.done (by show [dB false] = _; simp [callOk, d]))
  refine WR.ev (sArgOk c.args hc) rfl rfl rfl (WR.done ?_)
  show [dB (argOk c.args)] = _
  simp [callOk, a, b, d]
theorem ev_isClient (p : Pln) (k : Int) (h1 : 1 ≤ p.n) (h2 : p.n ≤ 4) : Ev L f_k40 (p.cells ++ [dI k]) [dB (inB k 0 (p.n - 1))] := by
  refine Ev.eq (vs := [.i p.n, .l (dActs p.acts), .l (dL p.gives), .l (dL p.start), .i k]) L_k40 rfl ?_
  have w1 : IntKind.i64.wrap (p.n - 1) = p.n - 1 := w64 (by omega) (by omega)
  exact WR.ev (ev_in k 0 (p.n - 1)) rfl (by show [dI k, dI 0, dI (IntKind.i64.wrap (p.n - 1))] = _; rw [w1]) rfl (WR.done rfl)
theorem ev_isSite (p : Pln) (k : Int) (hp : fitPln p) : Ev L f_k3d (p.cells ++ [dI k]) [dB (inB k 0 ((p.gives.length : Int) - 1))] := by
  refine Ev.eq (vs := [.i p.n, .l (dActs p.acts), .l (dL p.gives), .l (dL p.start), .i k]) L_k3d rfl ?_
  have w1 : IntKind.i64.wrap (((dL p.gives).length : Int) - 1) = (p.gives.length : Int) - 1 := by rw [dL_len]; exact len_wrap hp.2.1
  exact WR.ev (ev_in k 0 ((p.gives.length : Int) - 1)) rfl (by show [dI k, dI 0, dI (IntKind.i64.wrap (((dL p.gives).length : Int) - 1))] = _; rw [w1]) rfl (WR.done rfl)
theorem ev_callOk (p : Pln) (c : Cal) (hp : fitPln p) (h1 : 1 ≤ p.n) (h2 : p.n ≤ 4) (hc : fitCal c) : Ev L f_k42 (p.cells ++ c.cells) [dB (callOk p c)] := by
  refine Ev.eq (vs := [.i p.n, .l (dActs p.acts), .l (dL p.gives), .l (dL p.start), .i c.client, .i c.seq, .i c.act, .l (dL c.args)]) L_k42 rfl ?_
  have w2 : IntKind.i64.wrap (((dActs p.acts).length : Int) - 1) = (p.acts.length : Int) - 1 := by rw [dActs_len]; exact len_wrap hp.1.1
  refine WR.ev (ev_isClient p c.client h1 h2) rfl rfl rfl ?_
  refine WR.iteB (inB c.client 0 (p.n - 1)) rfl (fun a => ?_) (fun a => WR.done (by show [dB false] = _; simp [callOk, a]))
  refine WR.ev (ev_in c.act 0 ((p.acts.length : Int) - 1)) rfl (by show [dI c.act, dI 0, dI (IntKind.i64.wrap (((dActs p.acts).length : Int) - 1))] = _; rw [w2]) rfl ?_
  refine WR.iteB (inB c.act 0 ((p.acts.length : Int) - 1)) rfl (fun d => ?_) (fun d => WR.done (by show [dB false] = _; simp [callOk, d]))
  refine WR.ev (ev_in c.seq 1 300) rfl rfl rfl ?_
  refine WR.iteB (inB c.seq 1 300) rfl (fun b => ?_) (fun b => WR.done (by show [dB false] = _; simp [callOk, b]))
  refine WR.ev (ev_ArgOk c.args hc) rfl rfl rfl (WR.done ?_)
  show [dB (argOk c.args)] = _
  simp [callOk, a, b, d]
theorem em_dec (n : Nat) {m : Nat} (h : m = n) : decide ((m : Int) = 0) = decide (n = 0) := by subst h; simp
def donOk (d : Don) : Bool := if d.seq = 0 then decide (d.code = 0) && decide (d.tells.length = 0) else inB d.seq 1 300 && resOk d.code d.tells
def doneOk (n : Int) (l : List Don) : Bool := decide ((l.length : Int) = n) && l.all donOk
theorem dDs_len (l : List Don) : (dDs l).length = l.length := by simp [dDs]
theorem donOk_cases {d : Don} (hs : inB d.seq 0 300 = true) : donOk d = if decide (d.seq = 0) = decide (d.code = 0) then (if d.seq = 0 then decide (d.tells.length = 0) else resOk d.code d.tells) else false := by
  unfold donOk
  by_cases h : d.seq = 0
  · rw [if_pos h, if_pos h]
    by_cases h2 : d.code = 0 <;> simp [h, h2]
  · rw [if_neg h, if_neg h]
    have hin : inB d.seq 1 300 = true := by unfold inB at hs ⊢; simp only [Bool.and_eq_true, decide_eq_true_eq] at hs ⊢; omega
    by_cases h2 : d.code = 0
    · have : resOk d.code d.tells = false := by unfold resOk inB; simp [h2]
      simp [h, h2, this, resOk, inB]
    · simp [h, h2, hin]
theorem ev_l6Done (p : Pln) (l : List Don) (hl : fitL fitDon l) : Ev L f_k1i (p.cells ++ [.s (dDs l)]) [dB (doneOk p.n l)] := by
  refine Ev.eq (vs := [.i p.n, .l (dActs p.acts), .l (dL p.gives), .l (dL p.start), .l (dDs l)]) L_k1i rfl ?_
  have hl0 := hl.1
  refine WR.iteN (decide ((l.length : Int) = p.n)) (by show (!decide (((dDs l).length : Int) = p.n)) = _; rw [dDs_len]) (fun h => WR.done (by show [dB false] = _; simp only [doneOk, h, Bool.false_and])) (fun h => ?_)
  refine WR.forP l.length (fun i => [.i i]) (fun i => ((l.take i).all donOk) = true) rfl rfl rfl fun i hi hq => ?_
  simp only [sCA, sNA]
  refine WR.iteLen i (dDs_len l) rfl (fun h' => ?_) (fun h' => WR.esc (WR.done ?_))
  · obtain ⟨x, hx, hm⟩ := some_at h'
    have hg : (dDs l)[i]? = some x.g := map_at (f := Don.g) hx
    have bad : donOk x = false → [dB false] = [dB (doneOk p.n l)] := fun hb => by
      have : l.all donOk = false := by rw [← List.take_append_drop i l, List.all_append, drop_cons hx]; simp [hb]
      simp [doneOk, this]
    have good : donOk x = true → ((l.take (i + 1)).all donOk) = true := fun hb => by rw [take_succ hx, List.all_append, hq]; simp [hb]
    have nx : [V.i (IntKind.i64.wrap ((i : Int) + 1))] = [V.i ((i + 1 : Nat) : Int)] := by rw [wS h' (by omega)]
    refine WR.idxN (vs := [.i x.seq, .i x.code, .l (dL x.tells)]) i hg rfl rfl rfl rfl ?_
    refine WR.ev (ev_l1In x.seq 0 300) rfl rfl rfl ?_
    simp only [sCA, sNA]
    refine WR.iteN (inB x.seq 0 300) rfl (fun b => WR.esc (WR.done (bad ?_))) (fun b => ?_)
    · unfold donOk
      rw [if_neg (by intro e; rw [e] at b; simp [inB] at b)]
      have : inB x.seq 1 300 = false := by
        unfold inB at b ⊢
        simp only [Bool.and_eq_false_iff, decide_eq_false_iff_not] at b ⊢
        omega
      simp [this]
    have hc := donOk_cases b
    refine WR.idxN (vs := [.i x.seq, .i x.code, .l (dL x.tells)]) i hg rfl rfl rfl rfl ?_
    refine WR.idxN (vs := [.i x.seq, .i x.code, .l (dL x.tells)]) i hg rfl rfl rfl rfl ?_
    simp only [sCA, sNA]
    refine WR.iteN (decide (x.seq = 0) == decide (x.code = 0)) rfl (fun e => WR.esc (WR.done (bad ?_))) (fun e => ?_)
    · rw [hc, if_neg (by simpa using e)]
    rw [if_pos (by simpa using e)] at hc
    refine WR.idxN (vs := [.i x.seq, .i x.code, .l (dL x.tells)]) i hg rfl rfl rfl rfl ?_
    simp only [sCA, sNA]
    refine WR.iteP (x.seq = 0) rfl (fun h0 => ?_) (fun h0 => ?_)
    · rw [if_pos h0] at hc
      refine WR.idxN (vs := [.i x.seq, .i x.code, .l (dL x.tells)]) i hg rfl rfl rfl rfl ?_
      simp only [sCA, sNA]
      refine WR.iteP (0 < ((dL x.tells).length : Int)) rfl (fun ht => WR.esc (WR.done (bad ?_))) (fun ht => ?_)
      · rw [dL_len] at ht
        rw [hc]; exact decide_eq_false (by omega)
      refine WR.idxN (vs := [.i x.seq, .i x.code, .l (dL x.tells)]) i hg rfl rfl rfl rfl ?_
      simp only [sCA, sNA]
      refine WR.iteF (by show decide ((0 : Int) < x.seq) = false; rw [h0]; rfl) ?_
      exact WR.nextA nx ⟨h', rfl, good (by rw [dL_len] at ht; rw [hc]; exact decide_eq_true (by omega))⟩
    · rw [if_neg h0] at hc
      have hpos : 0 < x.seq := by unfold inB at b; simp only [Bool.and_eq_true, decide_eq_true_eq] at b; omega
      refine WR.idxN (vs := [.i x.seq, .i x.code, .l (dL x.tells)]) i hg rfl rfl rfl rfl ?_
      simp only [sCA, sNA]
      refine WR.iteT (by show decide ((0 : Int) < x.seq) = true; simpa using hpos) ?_
      refine WR.idxN (vs := [.i x.seq, .i x.code, .l (dL x.tells)]) i hg rfl rfl rfl rfl ?_
      refine WR.ev (ev_sResOk x.code x.tells (hl.2 x hm)) rfl rfl rfl ?_
      exact WR.iteN (resOk x.code x.tells) rfl (fun e => WR.esc (WR.done (bad (by rw [hc, e])))) (fun e => WR.nextA nx ⟨h', rfl, good (by rw [hc, e])⟩)
  · show [dB true] = _
    rw [take_all h'] at hq
    simp [doneOk, h, hq]
theorem ev_donOk (d : Don) (hd : fitDon d) : Ev L f_k3v d.cells [dB (donOk d)] := by
  refine Ev.eq (vs := [.i d.seq, .i d.code, .l (dL d.tells)]) L_k3v rfl ?_
  refine WR.iteP (d.seq = 0) rfl (fun h => ?_) (fun h => ?_)
  · refine WR.ev (ds := [dB (decide (d.code = 0) && decide (d.tells.length = 0))]) (Ev.eq (vs := [.i d.code, .l (dL d.tells)]) L_k3q rfl ?_) rfl rfl rfl (WR.done (by rw [donOk, if_pos h]; rfl))
    refine WR.iteP (d.code = 0) rfl (fun a => WR.done ?_) (fun a => WR.done (by show [dB false] = _; simp [a]))
    show [dB (decide (((dL d.tells).length : Int) = 0))] = _
    rw [em_dec d.tells.length (dL_len _)]
    simp [a]
  · refine WR.ev (ev_in d.seq 1 300) rfl rfl rfl ?_
    refine WR.iteB (inB d.seq 1 300) rfl (fun a => ?_) (fun a => WR.done (by show [dB false] = _; simp [donOk, h, a]))
    refine WR.ev (ev_iResOk d.code d.tells hd) rfl rfl rfl (WR.done ?_)
    show [dB (resOk d.code d.tells)] = _
    simp [donOk, h, a]
theorem ev_doneOk_1 (d : Don) (hd : fitDon d) : Ev L f_k3w d.cells [dB (!donOk d)] :=
  Ev.eq (vs := [.i d.seq, .i d.code, .l (dL d.tells)]) L_k3w rfl (WR.ev (ev_donOk d hd) rfl rfl rfl (WR.done rfl))
theorem ev_hasDon (q : Don → Bool) (l : List Don) {fn : FuncId} {caps : List D} (hlen : l.length ≤ 2000000) (hcap : oneOf (.f fn caps) = .f fn caps) (har : arT L fn = some ([some 3] ++ caps.map fun _ => none))
    (hc : ∀ x ∈ l, Ev L fn (x.cells ++ caps.map D.norm) [dB (q x)]) : Ev L f_k3p [.s (dDs l), .f fn caps] [dB (l.any q)] :=
  ev_contains (g := f_k3o) L_k3p rfl hcap
    (ev_idxFunc (sh := .g [.i .i64, .i .i64, .s]) (as := [(.vi .i64 (.v 3)), (.vi .i64 (.v 4)), (.s (.v 5))]) (ar := [some 3]) (k := 6) Don.g q Don.cells (fun x => [.i x.seq, .i x.code, .l (dL x.tells)]) l
      L_k3o rfl hlen hcap (fun _ _ => rfl) (fun _ _ => rfl) (fun _ _ _ _ => rfl) har hc)
theorem ev_doneOk (p : Pln) (l : List Don) (hl : fitL fitDon l) : Ev L f_k3x (p.cells ++ [.s (dDs l)]) [dB (doneOk p.n l)] := by
  refine Ev.eq (vs := [.i p.n, .l (dActs p.acts), .l (dL p.gives), .l (dL p.start), .l (dDs l)]) L_k3x rfl ?_
  refine WR.iteP ((l.length : Int) = p.n) (by show decide (((dDs l).length : Int) = p.n) = _; rw [dDs_len]) (fun h => ?_) (fun h => WR.done (by show [dB false] = _; simp [doneOk, h]))
  refine WR.ev (ev_hasDon (fun d => !donOk d) l (fn := f_k3w) (caps := []) hl.1 rfl rfl fun x hx => by simpa using ev_doneOk_1 x (hl.2 x hx)) rfl rfl rfl (WR.done ?_)
  show [dB (!(l.any fun d => !donOk d))] = _
  rw [not_any]; simp [doneOk, h]
end Go.Proofs.YtdibnlhlngodeaaGreatDoor

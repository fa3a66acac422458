import Derived.Test.YtgiejmanbmeloaaGreatDoorPZR
set_option linter.unusedVariables false
set_option linter.unusedSimpArgs false
/- Results,calls,what was done,messages: which of them are ok. -/
namespace Go.Proofs.YtgiejmanbmeloaaGreatDoor
open Go Go.Tm
theorem ev_l1Digits (n : Int) (h0 : -999999999999 ≤ n) (h1 : n ≤ 999999999999) : Ev L f_k1g [dI n] [strD (Lib.itoa n)] := by
  refine Ev.m L_k1g ?_
  show (i64D (dI n)).map _ = _
  rw [show i64D (dI n) = some n by show (if _ then some n else none) = _; rw [if_pos (by omega)]]
  rfl
theorem joinB_step {t : List Int} {i : Nat} {x : Int} (h : t[i]? = some x) : joinB (t.take (i + 1)) = joinB (t.take i) ++ [32] ++ Lib.itoa x := by
  unfold joinB
  rw [tS1 h,List.flatMap_append]
  simp only [List.flatMap_cons,List.flatMap_nil,List.append_nil,List.append_assoc,List.singleton_append]
theorem ev_sResText (c : Int) (t : List Int) (ht : t.length ≤ 2000000) : Ev L f_k1h [dI c,.s (dL t)] [strD (resB c t)] := by
  refine Ev.eq (vs := [.i c,.l (dL t)]) L_k1h rfl ?_
  have no : resOk c t = false → ([strD []] : List D) = [strD (resB c t)] := fun h => by simp [resB,h]
  refine WR.ev (ev_l1In c 1 3) rfl rfl rfl ?_
  refine WR.iteN (inB c 1 3) rfl (fun h => WR.done (no (by simp [resOk,h]))) (fun h1 => ?_)
  obtain ⟨w1,_,w3⟩ := word_at h1
  have hidx : (wordsB.map strD)[c.toNat]? = some (strD (wordsB.getD c.toNat [])) := by rw [List.getElem?_map,w1]; rfl
  have hc0 : 0 ≤ c := by unfold inB at h1; simp only [Bool.and_eq_true,decide_eq_true_eq] at h1; omega
  have hc4 : c < 4 := by unfold inB at h1; simp only [Bool.and_eq_true,decide_eq_true_eq] at h1; omega
  have hal := ev_l1All t t.length 999999999999 ht (by omega) (by omega)
  have six : 6 < t.length → resOk c t = false := fun h => by simp only [resOk,show ¬ t.length ≤ 6 by omega,decide_false,Bool.false_and,Bool.and_false]
  have ok : t.length ≤ 6 → (c = 1 ∨ t = []) → allIn t.length 999999999999 t = true → resOk c t = true := fun h2 h3 h4 => resOk_iff.2 ⟨by unfold inB at h1; simp only [Bool.and_eq_true,decide_eq_true_eq] at h1; omega,h2,h3,(allIn_iff.1 h4).2⟩
  refine WR.iteN (decide (c = 1)) rfl (fun h3 => ?_) (fun h3 => ?_)
  · refine WR.iteP (0 < ((dL t).length : Int)) rfl (fun h => WR.done (no ?_)) (fun h4 => ?_)
    · rw [dL1] at h
      have : t.isEmpty = false := by cases t with
        | nil => simp at h
        | cons x t => rfl
      simp only [resOk,h3,this,Bool.or_false,Bool.false_and,Bool.and_false]
    rw [dL1] at h4
    have h4 : t = [] := List.length_eq_zero_iff.1 (by omega)
    refine WR.iteP (6 < ((dL t).length : Int)) rfl (fun h => WR.done (no (six (by rw [dL1] at h; omega)))) (fun h2 => ?_)
    rw [dL1] at h2
    refine WR.ev hal rfl (by show [D.s (dL t),dI ((dL t).length : Int),dI 999999999999] = _; rw [dL1]) rfl ?_
    refine WR.iteN (allIn t.length 999999999999 t) rfl (fun h => WR.done (no (by simp only [resOk,h,Bool.and_false]))) (fun h5 => ?_)
    have hok := ok (by omega) (.inr h4) h5
    have hl := (allIn_iff.1 h5).2
    have e : strD (resB c t) = strD (wordsB.getD c.toNat [] ++ joinB t) := by simp only [resB,hok,if_true]
    rw [e]
    refine WR.chkP (0 ≤ c) rfl hc0 (WR.chkP (c < 4) rfl hc4 ?_)
    refine WR.idxA (ds := wordsB.map strD) c rfl rfl rfl hc0 hidx rfl ?_
    subst h4
    refine WR.loop (fun _ vs => vs = [.d (strD (wordsB.getD c.toNat [])),.i 0]) rfl 0 rfl ?_
    rintro m _ rfl
    refine WR.iteF rfl (WR.esc (WR.done ?_))
    show [strD (wordsB.getD c.toNat [])] = [strD (wordsB.getD c.toNat [] ++ joinB [])]
    rw [show joinB [] = [] from rfl,List.append_nil]
  · refine WR.iteP (6 < ((dL t).length : Int)) rfl (fun h => WR.done (no (six (by rw [dL1] at h; omega)))) (fun h2 => ?_)
    rw [dL1] at h2
    refine WR.ev hal rfl (by show [D.s (dL t),dI ((dL t).length : Int),dI 999999999999] = _; rw [dL1]) rfl ?_
    refine WR.iteN (allIn t.length 999999999999 t) rfl (fun h => WR.done (no (by simp only [resOk,h,Bool.and_false]))) (fun h5 => ?_)
    have hok := ok (by omega) (.inl (by simpa using h3)) h5
    have hl := (allIn_iff.1 h5).2
    have e : strD (resB c t) = strD (wordsB.getD c.toNat [] ++ joinB t) := by simp only [resB,hok,if_true]
    rw [e]
    refine WR.chkP (0 ≤ c) rfl hc0 (WR.chkP (c < 4) rfl hc4 ?_)
    refine WR.idxA (ds := wordsB.map strD) c rfl rfl rfl hc0 hidx rfl ?_
    generalize wordsB.getD c.toNat [] = wd at *
    refine WR.forP t.length (fun i => [.d (strD (wd ++ joinB (t.take i))),.i i]) (fun _ => True) rfl ?_ trivial fun i hi _ => ?_
    · show [V.d (strD wd),V.i 0] = _
      rw [List.take_zero,show joinB [] = [] from rfl,List.append_nil]; rfl
    simp only [sC,sN]
    refine WR.iteLen i (dL1 t) rfl (fun h => ?_) (fun h => WR.esc (WR.done ?_))
    · obtain ⟨x,hx,hm⟩ := sA1 h
      have hxb := hl x hm
      have hj := joinB_le (t.take i) fun m hm => hl m (List.mem_of_mem_take hm)
      rw [List.length_take,Nat.min_eq_left (by omega)] at hj
      have hxl := Lib.itoa_length_le x (by omega) (by omega)
      refine WR.prim rfl (cat_str (a := wd ++ joinB (t.take i)) (b := [32]) (by simp; omega)) rfl ?_
      refine WR.idxN i (mA1 (f := dI) hx) rfl rfl rfl rfl ?_
      refine WR.ev (ev_l1Digits x (by omega) (by omega)) rfl rfl rfl ?_
      refine WR.prim rfl (cat_str (a := wd ++ joinB (t.take i) ++ [32]) (b := Lib.itoa x) (by simp; omega)) rfl ?_
      refine WR.nextA (vs := [.d (strD (wd ++ joinB (t.take (i + 1)))),.i ((i + 1 : Nat) : Int)]) ?_ ⟨h,rfl,trivial⟩
      show [V.d (strD (wd ++ joinB (t.take i) ++ [32] ++ Lib.itoa x)),V.i (IntKind.i64.wrap ((i : Int) + 1))] = _
      rw [wS h (by omega),joinB_step hx]
      simp only [List.append_assoc]
    · show [strD (wd ++ joinB (t.take i))] = _
      rw [tA1 h]
theorem ev_sResOk (c : Int) (t : List Int) (ht : t.length ≤ 2000000) : Ev L f_k1i [dI c,.s (dL t)] [dB (resOk c t)] := by
  refine Ev.eq (vs := [.i c,.l (dL t)]) L_k1i rfl ?_
  refine WR.ev (ev_sResText c t ht) rfl rfl rfl ?_
  refine WR.prim rfl (seq_str (resB c t) []) rfl (WR.done ?_)
  show [dB (!(resB c t == []))] = _
  rw [resB_empty,Bool.not_not]
def callOk (p : Pln) (c : Cal) : Bool := inB c.client 0 (p.n - 1) && (inB c.seq 1 300 && (inB c.act 0 ((p.acts.length : Int) - 1) && argOk c.args))
theorem len_wrap {n : Nat} (h : n ≤ 2000000) : IntKind.i64.wrap ((n : Int) - 1) = (n : Int) - 1 := w64 (by omega) (by omega)
theorem ev_l6Call (p : Pln) (c : Cal) (hp : fitPln p) (h1 : 1 ≤ p.n) (h2 : p.n ≤ 4) (hc : fitCal c) : Ev L f_k1r (p.cells ++ c.cells) [dB (callOk p c)] := by
  refine Ev.eq (vs := [.i p.n,.l (dActs p.acts),.l (dL p.gives),.l (dL p.start),.i c.client,.i c.seq,.i c.act,.l (dL c.args)]) L_k1r rfl ?_
  have w1 : IntKind.i64.wrap (p.n - 1) = p.n - 1 := w64 (by omega) (by omega)
  have w2 : IntKind.i64.wrap (((dActs p.acts).length : Int) - 1) = (p.acts.length : Int) - 1 := by rw [dActs_len]; exact len_wrap hp.1.1
  refine WR.ev (ev_l1In c.client 0 (p.n - 1)) rfl (by show [dI c.client,dI 0,dI (IntKind.i64.wrap (p.n - 1))] = _; rw [w1]) rfl ?_
  refine WR.iteB (inB c.client 0 (p.n - 1)) rfl (fun a => ?_) (fun a => WR.done (by show [dB false] = _; simp [callOk,a]))
  refine WR.ev (ev_l1In c.seq 1 300) rfl rfl rfl ?_
  refine WR.iteB (inB c.seq 1 300) rfl (fun b => ?_) (fun b => WR.done (by show [dB false] = _; simp [callOk,b]))
  refine WR.ev (ev_l1In c.act 0 ((p.acts.length : Int) - 1)) rfl (by show [dI c.act,dI 0,dI (IntKind.i64.wrap (((dActs p.acts).length : Int) - 1))] = _; rw [w2]) rfl ?_
  refine WR.iteB (inB c.act 0 ((p.acts.length : Int) - 1)) rfl (fun d => ?_) (fun d => WR.done (by show [dB false] = _; simp [callOk,d]))
  refine WR.ev (sArgOk c.args hc) rfl rfl rfl (WR.done ?_)
  show [dB (argOk c.args)] = _
  simp [callOk,a,b,d]
theorem ev_isClient (p : Pln) (k : Int) (h1 : 1 ≤ p.n) (h2 : p.n ≤ 4) : Ev L f_k3p (p.cells ++ [dI k]) [dB (inB k 0 (p.n - 1))] := by
  refine Ev.eq (vs := [.i p.n,.l (dActs p.acts),.l (dL p.gives),.l (dL p.start),.i k]) L_k3p rfl ?_
  have w1 : IntKind.i64.wrap (p.n - 1) = p.n - 1 := w64 (by omega) (by omega)
  exact WR.ev (ev_in k 0 (p.n - 1)) rfl (by show [dI k,dI 0,dI (IntKind.i64.wrap (p.n - 1))] = _; rw [w1]) rfl (WR.done rfl)
theorem ev_callOk (p : Pln) (c : Cal) (hp : fitPln p) (h1 : 1 ≤ p.n) (h2 : p.n ≤ 4) (hc : fitCal c) : Ev L f_k3r (p.cells ++ c.cells) [dB (callOk p c)] := by
  refine Ev.eq (vs := [.i p.n,.l (dActs p.acts),.l (dL p.gives),.l (dL p.start),.i c.client,.i c.seq,.i c.act,.l (dL c.args)]) L_k3r rfl ?_
  have w2 : IntKind.i64.wrap (((dActs p.acts).length : Int) - 1) = (p.acts.length : Int) - 1 := by rw [dActs_len]; exact len_wrap hp.1.1
  refine WR.ev (ev_isClient p c.client h1 h2) rfl rfl rfl ?_
  refine WR.iteB (inB c.client 0 (p.n - 1)) rfl (fun a => ?_) (fun a => WR.done (by show [dB false] = _; simp [callOk,a]))
  refine WR.ev (ev_in c.act 0 ((p.acts.length : Int) - 1)) rfl (by show [dI c.act,dI 0,dI (IntKind.i64.wrap (((dActs p.acts).length : Int) - 1))] = _; rw [w2]) rfl ?_
  refine WR.iteB (inB c.act 0 ((p.acts.length : Int) - 1)) rfl (fun d => ?_) (fun d => WR.done (by show [dB false] = _; simp [callOk,d]))
  refine WR.ev (ev_in c.seq 1 300) rfl rfl rfl ?_
  refine WR.iteB (inB c.seq 1 300) rfl (fun b => ?_) (fun b => WR.done (by show [dB false] = _; simp [callOk,b]))
  refine WR.ev (ev_ArgOk c.args hc) rfl rfl rfl (WR.done ?_)
  show [dB (argOk c.args)] = _
  simp [callOk,a,b,d]
theorem em_dec (n : Nat) {m : Nat} (h : m = n) : decide ((m : Int) = 0) = decide (n = 0) := by subst h; simp
def donOk (d : Don) : Bool := if d.seq = 0 then decide (d.code = 0) && decide (d.tells.length = 0) else inB d.seq 1 300 && resOk d.code d.tells
def doneOk (n : Int) (l : List Don) : Bool := decide ((l.length : Int) = n) && l.all donOk
def seqsOk (n : Int) (l : List Int) : Bool := decide ((l.length : Int) = n) && l.all fun x => inB x 0 300
theorem dDs_len (l : List Don) : (dDs l).length = l.length := by simp [dDs]
theorem ev_l7Seqs (p : Pln) (l : List Int) (hl : l.length ≤ 2000000) : Ev L f_k1o (p.cells ++ [.s (dL l)]) [dB (seqsOk p.n l)] := by
  refine Ev.eq (vs := [.i p.n,.l (dActs p.acts),.l (dL p.gives),.l (dL p.start),.l (dL l)]) L_k1o rfl ?_
  refine WR.iteN (decide ((l.length : Int) = p.n)) (by show (!decide (((dL l).length : Int) = p.n)) = _; rw [dL1]) (fun h => WR.done (by show [dB false] = _; simp only [seqsOk,h,Bool.false_and])) (fun h => ?_)
  refine WR.forP l.length (fun i => [.i i]) (fun i => ((l.take i).all fun x => inB x 0 300) = true) rfl rfl rfl fun i hi hq => ?_
  simp only [sC,sN]
  refine WR.iteLen i (dL1 l) rfl (fun h' => ?_) (fun h' => WR.esc (WR.done ?_))
  · obtain ⟨x,hx,_⟩ := sA1 h'
    refine WR.idxN i (mA1 (f := dI) hx) rfl rfl rfl rfl ?_
    refine WR.ev (ev_l1In x 0 300) rfl rfl rfl ?_
    refine WR.iteN (inB x 0 300) rfl (fun b => WR.esc (WR.done ?_)) (fun b => WR.nextA (vs := [.i ((i + 1 : Nat) : Int)]) (by rw [← wS h' (by omega)]; rfl) ⟨h',rfl,by show ((l.take (i + 1)).all fun x => inB x 0 300) = true; rw [tS1 hx,List.all_append,hq]; simp [b]⟩)
    show [dB false] = _
    have : (l.all fun x => inB x 0 300) = false := by rw [← List.take_append_drop i l,List.all_append,drop_cons hx]; simp [b]
    simp [seqsOk,this]
  · show [dB true] = _
    rw [tA1 h'] at hq
    simp [seqsOk,h,hq]
theorem donOk_cases {d : Don} (hs : inB d.seq 0 300 = true) : donOk d = if decide (d.seq = 0) = decide (d.code = 0) then (if d.seq = 0 then decide (d.tells.length = 0) else resOk d.code d.tells) else false := by
  unfold donOk
  by_cases h : d.seq = 0
  · rw [if_pos h,if_pos h]
    by_cases h2 : d.code = 0 <;> simp [h,h2]
  · rw [if_neg h,if_neg h]
    have hin : inB d.seq 1 300 = true := by unfold inB at hs ⊢; simp only [Bool.and_eq_true,decide_eq_true_eq] at hs ⊢; omega
    by_cases h2 : d.code = 0
    · have : resOk d.code d.tells = false := by unfold resOk inB; simp [h2]
      simp [h,h2,this,resOk,inB]
    · simp [h,h2,hin]
theorem ev_l6Done (p : Pln) (l : List Don) (hl : fitL fitDon l) : Ev L f_k1j (p.cells ++ [.s (dDs l)]) [dB (doneOk p.n l)] := by
  refine Ev.eq (vs := [.i p.n,.l (dActs p.acts),.l (dL p.gives),.l (dL p.start),.l (dDs l)]) L_k1j rfl ?_
  have hl0 := hl.1
  refine WR.iteN (decide ((l.length : Int) = p.n)) (by show (!decide (((dDs l).length : Int) = p.n)) = _; rw [dDs_len]) (fun h => WR.done (by show [dB false] = _; simp only [doneOk,h,Bool.false_and])) (fun h => ?_)
  refine WR.forP l.length (fun i => [.i i]) (fun i => ((l.take i).all donOk) = true) rfl rfl rfl fun i hi hq => ?_
  simp only [sC,sN]
  refine WR.iteLen i (dDs_len l) rfl (fun h' => ?_) (fun h' => WR.esc (WR.done ?_))
  · obtain ⟨x,hx,hm⟩ := sA1 h'
    have hg : (dDs l)[i]? = some x.g := mA1 (f := Don.g) hx
    have bad : donOk x = false → [dB false] = [dB (doneOk p.n l)] := fun hb => by
      have : l.all donOk = false := by rw [← List.take_append_drop i l,List.all_append,drop_cons hx]; simp [hb]
      simp [doneOk,this]
    have good : donOk x = true → ((l.take (i + 1)).all donOk) = true := fun hb => by rw [tS1 hx,List.all_append,hq]; simp [hb]
    have nx : [V.i (IntKind.i64.wrap ((i : Int) + 1))] = [V.i ((i + 1 : Nat) : Int)] := by rw [wS h' (by omega)]
    refine WR.idxN (vs := [.i x.seq,.i x.code,.l (dL x.tells)]) i hg rfl rfl rfl rfl ?_
    refine WR.ev (ev_l1In x.seq 0 300) rfl rfl rfl ?_
    simp only [sC,sN]
    refine WR.iteN (inB x.seq 0 300) rfl (fun b => WR.esc (WR.done (bad ?_))) (fun b => ?_)
    · unfold donOk
      rw [if_neg (by intro e; rw [e] at b; simp [inB] at b)]
      have : inB x.seq 1 300 = false := by
        unfold inB at b ⊢
        simp only [Bool.and_eq_false_iff,decide_eq_false_iff_not] at b ⊢
        omega
      simp [this]
    have hc := donOk_cases b
    refine WR.idxN (vs := [.i x.seq,.i x.code,.l (dL x.tells)]) i hg rfl rfl rfl rfl ?_
    refine WR.idxN (vs := [.i x.seq,.i x.code,.l (dL x.tells)]) i hg rfl rfl rfl rfl ?_
    simp only [sC,sN]
    refine WR.iteN (decide (x.seq = 0) == decide (x.code = 0)) rfl (fun e => WR.esc (WR.done (bad ?_))) (fun e => ?_)
    · rw [hc,if_neg (by simpa using e)]
    rw [if_pos (by simpa using e)] at hc
    refine WR.idxN (vs := [.i x.seq,.i x.code,.l (dL x.tells)]) i hg rfl rfl rfl rfl ?_
    simp only [sC,sN]
    refine WR.iteP (x.seq = 0) rfl (fun h0 => ?_) (fun h0 => ?_)
    · rw [if_pos h0] at hc
      refine WR.idxN (vs := [.i x.seq,.i x.code,.l (dL x.tells)]) i hg rfl rfl rfl rfl ?_
      simp only [sC,sN]
      refine WR.iteP (0 < ((dL x.tells).length : Int)) rfl (fun ht => WR.esc (WR.done (bad ?_))) (fun ht => ?_)
      · rw [dL1] at ht
        rw [hc]; exact decide_eq_false (by omega)
      refine WR.idxN (vs := [.i x.seq,.i x.code,.l (dL x.tells)]) i hg rfl rfl rfl rfl ?_
      simp only [sC,sN]
      refine WR.iteF (by show decide ((0 : Int) < x.seq) = false; rw [h0]; rfl) ?_
      exact WR.nextA nx ⟨h',rfl,good (by rw [dL1] at ht; rw [hc]; exact decide_eq_true (by omega))⟩
    · rw [if_neg h0] at hc
      have hpos : 0 < x.seq := by unfold inB at b; simp only [Bool.and_eq_true,decide_eq_true_eq] at b; omega
      refine WR.idxN (vs := [.i x.seq,.i x.code,.l (dL x.tells)]) i hg rfl rfl rfl rfl ?_
      simp only [sC,sN]
      refine WR.iteT (by show decide ((0 : Int) < x.seq) = true; simpa using hpos) ?_
      refine WR.idxN (vs := [.i x.seq,.i x.code,.l (dL x.tells)]) i hg rfl rfl rfl rfl ?_
      refine WR.ev (ev_sResOk x.code x.tells (hl.2 x hm)) rfl rfl rfl ?_
      exact WR.iteN (resOk x.code x.tells) rfl (fun e => WR.esc (WR.done (bad (by rw [hc,e])))) (fun e => WR.nextA nx ⟨h',rfl,good (by rw [hc,e])⟩)
  · show [dB true] = _
    rw [tA1 h'] at hq
    simp [doneOk,h,hq]
theorem ev_seqsOk_1 (x : Int) : Ev L f_k42 [dI x] [dB (!inB x 0 300)] :=
  Ev.eq (vs := [.i x]) L_k42 rfl (WR.ev (ev_in x 0 300) rfl rfl rfl (WR.done rfl))
theorem ev_seqsOk (p : Pln) (l : List Int) (hl : l.length ≤ 2000000) : Ev L f_k43 (p.cells ++ [.s (dL l)]) [dB (seqsOk p.n l)] := by
  refine Ev.eq (vs := [.i p.n,.l (dActs p.acts),.l (dL p.gives),.l (dL p.start),.l (dL l)]) L_k43 rfl ?_
  refine WR.iteP ((l.length : Int) = p.n) (by show decide (((dL l).length : Int) = p.n) = _; rw [dL1]) (fun h => ?_) (fun h => WR.done (by show [dB false] = _; simp [seqsOk,h]))
  refine WR.ev (ev_hasInt (fun x => !inB x 0 300) l (fn := f_k42) (caps := []) hl rfl rfl fun x _ => ev_seqsOk_1 x) rfl rfl rfl (WR.done ?_)
  show [dB (!(l.any fun x => !inB x 0 300))] = _
  rw [not_any]; simp [seqsOk,h]
theorem ev_donOk (d : Don) (hd : fitDon d) : Ev L f_k3m d.cells [dB (donOk d)] := by
  refine Ev.eq (vs := [.i d.seq,.i d.code,.l (dL d.tells)]) L_k3m rfl ?_
  refine WR.iteP (d.seq = 0) rfl (fun h => ?_) (fun h => ?_)
  · refine WR.ev (ds := [dB (decide (d.code = 0) && decide (d.tells.length = 0))]) (Ev.eq (vs := [.i d.code,.l (dL d.tells)]) L_k3h rfl ?_) rfl rfl rfl (WR.done (by rw [donOk,if_pos h]; rfl))
    refine WR.iteP (d.code = 0) rfl (fun a => WR.done ?_) (fun a => WR.done (by show [dB false] = _; simp [a]))
    show [dB (decide (((dL d.tells).length : Int) = 0))] = _
    rw [em_dec d.tells.length (dL1 _)]
    simp [a]
  · refine WR.ev (ev_in d.seq 1 300) rfl rfl rfl ?_
    refine WR.iteB (inB d.seq 1 300) rfl (fun a => ?_) (fun a => WR.done (by show [dB false] = _; simp [donOk,h,a]))
    refine WR.ev (ev_iResOk d.code d.tells hd) rfl rfl rfl (WR.done ?_)
    show [dB (resOk d.code d.tells)] = _
    simp [donOk,h,a]
theorem ev_doneOk_1 (d : Don) (hd : fitDon d) : Ev L f_k3n d.cells [dB (!donOk d)] :=
  Ev.eq (vs := [.i d.seq,.i d.code,.l (dL d.tells)]) L_k3n rfl (WR.ev (ev_donOk d hd) rfl rfl rfl (WR.done rfl))
theorem ev_hasDon (q : Don → Bool) (l : List Don) {fn : FuncId} {caps : List D} (hlen : l.length ≤ 2000000) (hcap : oneOf (.f fn caps) = .f fn caps) (har : arT L fn = some ([some 3] ++ caps.map fun _ => none))
    (hc : ∀ x ∈ l,Ev L fn (x.cells ++ caps.map D.norm) [dB (q x)]) : Ev L f_k3g [.s (dDs l),.f fn caps] [dB (l.any q)] :=
  ev_contains (g := f_k3f) L_k3g rfl hcap
    (ev_idxFunc (sh := .g [.i .i64,.i .i64,.s]) (as := [(.vi .i64 (.v 3)),(.vi .i64 (.v 4)),(.s (.v 5))]) (ar := [some 3]) (k := 6) Don.g q Don.cells (fun x => [.i x.seq,.i x.code,.l (dL x.tells)]) l
      L_k3f rfl hlen hcap (fun _ _ => rfl) (fun _ _ => rfl) (fun _ _ _ _ => rfl) har hc)
theorem ev_doneOk (p : Pln) (l : List Don) (hl : fitL fitDon l) : Ev L f_k3o (p.cells ++ [.s (dDs l)]) [dB (doneOk p.n l)] := by
  refine Ev.eq (vs := [.i p.n,.l (dActs p.acts),.l (dL p.gives),.l (dL p.start),.l (dDs l)]) L_k3o rfl ?_
  refine WR.iteP ((l.length : Int) = p.n) (by show decide (((dDs l).length : Int) = p.n) = _; rw [dDs_len]) (fun h => ?_) (fun h => WR.done (by show [dB false] = _; simp [doneOk,h]))
  refine WR.ev (ev_hasDon (fun d => !donOk d) l (fn := f_k3n) (caps := []) hl.1 rfl rfl fun x hx => by simpa using ev_doneOk_1 x (hl.2 x hx)) rfl rfl rfl (WR.done ?_)
  show [dB (!(l.any fun d => !donOk d))] = _
  rw [not_any]; simp [doneOk,h]
end Go.Proofs.YtgiejmanbmeloaaGreatDoor
/- The program's MsgOk answers as the reference's: over residual programs. -/
namespace Go.Proofs.YtgiejmanbmeloaaGreatDoor
open Go Go.Tm
theorem ev_eqMsgMsg (x : Msg) (hx : fitMsg x) : Ev L f_k4l (x.cells ++ x.cells) [dB true] := by
  refine Ev.eq (vs := [.i x.kind,.i x.to,.i x.frm,.i x.round,.i x.call.client,.i x.call.seq,.i x.call.act,.l (dL x.call.args),.l (dL x.vals),.l (dL x.seqs),.l (dDs x.done),.i x.kind,.i x.to,.i x.frm,.i x.round,.i x.call.client,.i x.call.seq,.i x.call.act,.l (dL x.call.args),.l (dL x.vals),.l (dL x.seqs),.l (dDs x.done)]) L_k4l rfl ?_
  have h1 := ev_eqPlnCall x.call x.call hx.1
  have h2 := ev_eqIntS x.vals x.vals hx.2.1
  have h3 := ev_eqIntS x.seqs x.seqs hx.2.2.1
  have h4 := ev_eqPlnDoneS x.done x.done hx.2.2.2.1 hx.2.2.2.2
  rw [decide_eq_true rfl] at h1 h2 h3 h4
  refine WR.iteF (by show (!decide (x.kind = x.kind)) = false; simp) ?_
  refine WR.iteF (by show (!decide (x.to = x.to)) = false; simp) ?_
  refine WR.iteF (by show (!decide (x.frm = x.frm)) = false; simp) ?_
  refine WR.iteF (by show (!decide (x.round = x.round)) = false; simp) ?_
  refine WR.ev h1 rfl rfl rfl (WR.iteF rfl ?_)
  refine WR.ev h2 rfl rfl rfl (WR.iteF rfl ?_)
  refine WR.ev h3 rfl rfl rfl (WR.iteF rfl ?_)
  exact WR.ev h4 rfl rfl rfl (WR.iteF rfl (WR.done rfl))
end Go.Proofs.YtgiejmanbmeloaaGreatDoor
/- The program's SitOk and SitFree answer as the reference's: over residual programs. -/
namespace Go.Proofs.YtgiejmanbmeloaaGreatDoor
open Go Go.Tm
theorem plnOk_cat {p : Pln} (h : plnOk p = true) : catOk p.acts = true := by
  simp only [plnOk,Bool.and_eq_true] at h
  exact h.2.1
def keepOk (p : Pln) (b : List Int) (k : Int) (a : List Int) : Bool := keeps b p.gives (catForms p.acts) k a && stillM (catPins p.acts) a
end Go.Proofs.YtgiejmanbmeloaaGreatDoor
/- The program's ClkOk and ClkReady answer as the reference's: over residual programs. -/
namespace Go.Proofs.YtgiejmanbmeloaaGreatDoor
open Go Go.Tm
def emp (g : Got) : Bool := decide (g.added.length = 0) && decide (g.seqs.length = 0)
def gotS (p : Pln) (b : List Int) (l : List Got) (j : Nat) : Bool :=
  if (l.getD j got0).has then keepOk p b j (l.getD j got0).added && seqsOk p.n (l.getD j got0).seqs else emp (l.getD j got0)
def wantS (p : Pln) (l : List Cal) (j : Nat) : Bool := callOk p (l.getD j ⟨0,0,0,[]⟩) && (decide (j = 0) || decide ((l.getD (j - 1) ⟨0,0,0,[]⟩).client < (l.getD j ⟨0,0,0,[]⟩).client))
def hasN (l : List Got) : Nat := (l.filter fun g => g.has).length
def allTo (n : Nat) (f : Nat → Bool) : Bool := (List.range n).all f
theorem allTo_succ (n : Nat) (f : Nat → Bool) : allTo (n + 1) f = (allTo n f && f n) := by simp [allTo,List.range_succ]
theorem allTo_iff {n : Nat} {f : Nat → Bool} : allTo n f = true ↔ ∀ j,j < n → f j = true := by simp [allTo]
theorem allTo_no {n i : Nat} {f : Nat → Bool} (h : i < n) (hf : f i = false) : allTo n f = false := by
  cases e : allTo n f with
  | false => rfl
  | true => rw [allTo_iff.1 e i h] at hf; cases hf
def clkOk (p : Pln) (c : Clk) : Bool := inB c.round 0 200 && (valOk c.base && (doneOk p.n c.done && ((decide (c.got.length = p.gives.length) && allTo c.got.length (gotS p c.base c.got)) &&
  (allTo c.wants.length (wantS p c.wants) && (c.up || (decide (c.wants.length = 0) && decide (hasN c.got = 0)))))))
def clkOkP (p : Pln) (c : Clk) : Bool := plnOk p && clkOk p c
theorem dGs_len (l : List Got) : (dGs l).length = l.length := by simp [dGs]
theorem dCs_len (l : List Cal) : (dCs l).length = l.length := by simp [dCs]
theorem getD_of {α : Type} {l : List α} {i : Nat} {x d : α} (h : l[i]? = some x) : l.getD i d = x := by simp [List.getD_eq_getElem?_getD,h]
theorem ev_l9Got (p : Pln) (c : Clk) (hp : fitPln p) (hk : fitClk c) (hc : catOk p.acts = true) :
    Ev L f_k1p (p.cells ++ [.s (dLL (catForms p.acts)),.s (dBl (catPins p.acts))] ++ c.cells) [dB (decide (c.got.length = p.gives.length) && allTo c.got.length (gotS p c.base c.got))] := by
  refine Ev.eq (vs := [.i p.n,.l (dActs p.acts),.l (dL p.gives),.l (dL p.start),.l (dLL (catForms p.acts)),.l (dBl (catPins p.acts)),.b c.up,.i c.round,.l (dL c.base),.l (dDs c.done),.l (dCs c.wants),.l (dGs c.got)]) L_k1p rfl ?_
  have hps : fitLL (catForms p.acts) := (catForms_fit p.acts).fitLL (by omega)
  have hgl := hk.g
  refine WR.iteN (decide (c.got.length = p.gives.length)) ?_ (fun b => WR.done (by show [dB false] = _; simp only [b,Bool.false_and])) (fun a => ?_)
  · show (!decide (((dGs c.got).length : Int) = ((dL p.gives).length : Int))) = _
    rw [dGs_len,dL1]; simp [Int.ofNat_inj]
  rw [a,Bool.true_and]
  refine WR.forP c.got.length (fun i => [.i i]) (fun i => allTo i (gotS p c.base c.got) = true) rfl rfl rfl fun i hi hq => ?_
  simp only [sC,sN]
  refine WR.iteLen i (dGs_len c.got) rfl (fun h' => ?_) (fun h' => WR.esc (WR.done ?_))
  · obtain ⟨x,hx,hm⟩ := sA1 h'
    have hxf := hk.gt x hm
    have hD := getD_of (d := got0) hx
    have hgs : gotS p c.base c.got i = if x.has then keepOk p c.base i x.added && seqsOk p.n x.seqs else emp x := by unfold gotS; rw [hD]
    have bad : gotS p c.base c.got i = false → [dB false] = [dB (allTo c.got.length (gotS p c.base c.got))] := fun h => by rw [allTo_no h' h]
    have good : gotS p c.base c.got i = true → allTo (i + 1) (gotS p c.base c.got) = true := fun h => by rw [allTo_succ,hq,h]; rfl
    have nx : [V.i (IntKind.i64.wrap ((i : Int) + 1))] = [V.i ((i + 1 : Nat) : Int)] := by rw [wS h' (by omega)]
    refine WR.idxN (vs := [.b x.has,.l (dL x.added),.l (dL x.seqs)]) i (mA1 (f := Got.g) hx) rfl rfl rfl rfl ?_
    simp only [sC,sN]
    refine WR.iteN x.has rfl (fun hn => ?_) (fun hh => ?_)
    · rw [hn] at hgs
      have hw : IntKind.i64.wrap (((dL x.added).length : Int) + ((dL x.seqs).length : Int)) = (x.added.length : Int) + x.seqs.length := by rw [dL1,dL1]; exact w64 (by omega) (by omega)
      refine WR.iteP ((0 : Int) < (x.added.length : Int) + x.seqs.length) (by show decide ((0 : Int) < IntKind.i64.wrap (((dL x.added).length : Int) + ((dL x.seqs).length : Int))) = _; rw [hw]) (fun h0 => WR.esc (WR.done (bad ?_))) (fun h0 => ?_)
      · rw [hgs]; simp only [Bool.false_eq_true,if_false,emp,Bool.and_eq_false_iff,decide_eq_false_iff_not]; omega
      refine WR.iteF (by show x.has = false; exact hn) (WR.nextA nx ⟨h',rfl,good ?_⟩)
      rw [hgs]; simp only [Bool.false_eq_true,if_false,emp,Bool.and_eq_true,decide_eq_true_eq]; omega
    · rw [hh] at hgs
      simp only [if_true] at hgs
      refine WR.iteT (by show x.has = true; exact hh) ?_
      refine WR.ev (ev_sTrtKeeps c.base p.gives (catForms p.acts) i x.added hk.b hp.2.1 hps hxf.1) rfl rfl rfl ?_
      simp only [sC,sN]
      refine WR.iteN (keeps c.base p.gives (catForms p.acts) i x.added) rfl (fun e => WR.esc (WR.done (bad (by rw [hgs,keepOk,e]; rfl)))) (fun e => ?_)
      refine WR.ev (ev_l5Still (catPins p.acts) x.added (pins_len hc) (keeps_len e)) rfl rfl rfl ?_
      simp only [sC,sN]
      refine WR.iteN (stillM (catPins p.acts) x.added) rfl (fun f => WR.esc (WR.done (bad (by rw [hgs,keepOk,e,f]; rfl)))) (fun f => ?_)
      refine WR.ev (ev_l7Seqs p x.seqs hxf.2) rfl rfl rfl ?_
      simp only [sC,sN]
      exact WR.iteN (seqsOk p.n x.seqs) rfl (fun g => WR.esc (WR.done (bad (by rw [hgs,g,Bool.and_false])))) (fun g => WR.nextA nx ⟨h',rfl,good (by rw [hgs,keepOk,e,f,g]; rfl)⟩)
  · show [dB true] = _
    rw [show i = c.got.length by omega] at hq
    rw [hq]
theorem hasN_take {l : List Got} {i : Nat} {x : Got} (h : l[i]? = some x) : hasN (l.take (i + 1)) = hasN (l.take i) + (if x.has then 1 else 0) := by
  unfold hasN
  rw [tS1 h,List.filter_append,List.length_append]
  cases hx : x.has <;> simp [hx]
theorem hasN_le (l : List Got) : hasN l ≤ l.length := List.length_filter_le _ _
theorem ev_l9Has (c : Clk) (hk : c.got.length ≤ 2000000) : Ev L f_k1s c.cells [dI (hasN c.got)] := by
  refine Ev.eq (vs := [.b c.up,.i c.round,.l (dL c.base),.l (dDs c.done),.l (dCs c.wants),.l (dGs c.got)]) L_k1s rfl ?_
  refine WR.forP c.got.length (fun i => [.i (hasN (c.got.take i)),.i i]) (fun _ => True) rfl rfl trivial fun i hi _ => ?_
  simp only [sC,sN]
  refine WR.iteLen i (dGs_len c.got) rfl (fun h' => ?_) (fun h' => WR.esc (WR.done ?_))
  · obtain ⟨x,hx,hm⟩ := sA1 h'
    have hs := hasN_take hx
    have hle := hasN_le (c.got.take i)
    rw [List.length_take] at hle
    refine WR.idxN (vs := [.b x.has,.l (dL x.added),.l (dL x.seqs)]) i (mA1 (f := Got.g) hx) rfl rfl rfl rfl ?_
    simp only [sC,sN]
    refine WR.iteB x.has rfl (fun hh => ?_) (fun hh => ?_)
    · refine WR.nextA (vs := [.i ((hasN (c.got.take (i + 1)) : Nat) : Int),.i ((i + 1 : Nat) : Int)]) ?_ ⟨h',rfl,trivial⟩
      show [V.i (IntKind.i64.wrap ((hasN (c.got.take i) : Int) + 1)),V.i (IntKind.i64.wrap ((i : Int) + 1))] = _
      rw [wS h' (by omega),w64 (by omega) (by omega),hs,hh]; rfl
    · refine WR.nextA (vs := [.i ((hasN (c.got.take (i + 1)) : Nat) : Int),.i ((i + 1 : Nat) : Int)]) ?_ ⟨h',rfl,trivial⟩
      show [V.i (hasN (c.got.take i) : Int),V.i (IntKind.i64.wrap ((i : Int) + 1))] = _
      rw [wS h' (by omega),hs,hh]; rfl
  · show [dI (hasN (c.got.take i))] = _
    rw [tA1 h']
theorem wantS_at {p : Pln} {l : List Cal} {i : Nat} {x : Cal} (h : l[i]? = some x) : wantS p l i = (callOk p x && (decide (i = 0) || decide ((l.getD (i - 1) ⟨0,0,0,[]⟩).client < x.client))) := by
  unfold wantS; rw [getD_of h]
theorem ev_l9Ok (p : Pln) (c : Clk) (hp : fitPln p) (hk : fitClk c) (h1 : 1 ≤ p.n) (h2 : p.n ≤ 4) (hc : catOk p.acts = true) :
    Ev L f_k1t (p.cells ++ [.s (dLL (catForms p.acts)),.s (dBl (catPins p.acts))] ++ c.cells) [dB (clkOk p c)] := by
  refine Ev.eq (vs := [.i p.n,.l (dActs p.acts),.l (dL p.gives),.l (dL p.start),.l (dLL (catForms p.acts)),.l (dBl (catPins p.acts)),.b c.up,.i c.round,.l (dL c.base),.l (dDs c.done),.l (dCs c.wants),.l (dGs c.got)]) L_k1t rfl ?_
  have hwl := hk.c
  refine WR.ev (ev_l1In c.round 0 200) rfl rfl rfl ?_
  refine WR.iteN (inB c.round 0 200) rfl (fun b => WR.done (by show [dB false] = _; simp only [clkOk,b,Bool.false_and,Bool.and_false])) (fun a1 => ?_)
  refine WR.ev (ev_sValOk c.base hk.b) rfl rfl rfl ?_
  refine WR.iteN (valOk c.base) rfl (fun b => WR.done (by show [dB false] = _; simp only [clkOk,b,Bool.false_and,Bool.and_false])) (fun a2 => ?_)
  refine WR.ev (ev_l6Done p c.done ⟨hk.d,hk.dt⟩) rfl rfl rfl ?_
  refine WR.iteN (doneOk p.n c.done) rfl (fun b => WR.done (by show [dB false] = _; simp only [clkOk,b,Bool.false_and,Bool.and_false])) (fun a3 => ?_)
  refine WR.ev (ev_l9Got p c hp hk hc) rfl rfl rfl ?_
  refine WR.iteN (decide (c.got.length = p.gives.length) && allTo c.got.length (gotS p c.base c.got)) rfl (fun b => WR.done (by show [dB false] = _; simp only [clkOk,b,Bool.false_and,Bool.and_false])) (fun a4 => ?_)
  have e : clkOk p c = (allTo c.wants.length (wantS p c.wants) && (c.up || (decide (c.wants.length = 0) && decide (hasN c.got = 0)))) := by
    unfold clkOk; rw [a1,a2,a3,a4]; simp only [Bool.true_and]
  rw [e]
  simp only [sC,sN]
  refine WR.forP c.wants.length (fun i => [.i i]) (fun i => allTo i (wantS p c.wants) = true) rfl rfl rfl fun i hi hq => ?_
  simp only [sC,sN]
  refine WR.iteLen i (dCs_len c.wants) rfl (fun h' => ?_) (fun h' => WR.esc ?_)
  · obtain ⟨x,hx,hm⟩ := sA1 h'
    have hwi := wantS_at (p := p) hx
    have bad : wantS p c.wants i = false → [dB false] = [dB (allTo c.wants.length (wantS p c.wants) && (c.up || (decide (c.wants.length = 0) && decide (hasN c.got = 0))))] := fun h => by rw [allTo_no h' h]; rfl
    have good : wantS p c.wants i = true → allTo (i + 1) (wantS p c.wants) = true := fun h => by rw [allTo_succ,hq,h]; rfl
    have nx : [V.i (IntKind.i64.wrap ((i : Int) + 1))] = [V.i ((i + 1 : Nat) : Int)] := by rw [wS h' (by omega)]
    refine WR.idxN (vs := [.i x.client,.i x.seq,.i x.act,.l (dL x.args)]) i (mA1 (f := Cal.g) hx) rfl rfl rfl rfl ?_
    simp only [sC,sN]
    refine WR.ev (ev_l6Call p x hp h1 h2 (hk.ct x hm)) rfl rfl rfl ?_
    simp only [sC,sN]
    refine WR.iteN (callOk p x) rfl (fun b => WR.esc (WR.done (bad (by rw [hwi,b]; rfl)))) (fun b => ?_)
    rw [b,Bool.true_and] at hwi
    refine WR.iteP ((0 : Int) < (i : Int)) rfl (fun h0 => ?_) (fun h0 => WR.nextA nx ⟨h',rfl,good (by rw [hwi,decide_eq_true (show i = 0 by omega)]; rfl)⟩)
    obtain ⟨y,hy,_⟩ := sA1 (show i - 1 < c.wants.length by omega)
    rw [getD_of hy,decide_eq_false (show ¬ i = 0 by omega),Bool.false_or] at hwi
    refine WR.idxN (vs := [.i y.client,.i y.seq,.i y.act,.l (dL y.args)]) (i - 1) (mA1 (f := Cal.g) hy) rfl rfl ?_ rfl ?_
    · show IntKind.i64.wrap ((i : Int) - 1) = ((i - 1 : Nat) : Int)
      rw [w64 (by omega) (by omega)]; omega
    refine WR.idxN (vs := [.i x.client,.i x.seq,.i x.act,.l (dL x.args)]) i (mA1 (f := Cal.g) hx) rfl rfl rfl rfl ?_
    simp only [sC,sN]
    exact WR.iteP (x.client ≤ y.client) rfl (fun g => WR.esc (WR.done (bad (by rw [hwi]; exact decide_eq_false (by omega))))) (fun g => WR.nextA nx ⟨h',rfl,good (by rw [hwi]; exact decide_eq_true (by omega))⟩)
  · rw [show i = c.wants.length by omega] at hq
    rw [hq,Bool.true_and]
    refine WR.iteB c.up rfl (fun u => WR.done (by show [dB true] = _; rw [u]; rfl)) (fun u => ?_)
    rw [show (c.up || (decide (c.wants.length = 0) && decide (hasN c.got = 0))) = (decide (c.wants.length = 0) && decide (hasN c.got = 0)) by rw [u,Bool.false_or]]
    refine WR.iteB (decide (c.wants.length = 0)) (by show decide (((dCs c.wants).length : Int) = 0) = _; exact em_dec _ (dCs_len _)) (fun w => ?_) (fun w => WR.done (by show [dB false] = _; rw [w]; rfl))
    refine WR.ev (ev_l9Has c hk.g) rfl rfl rfl (WR.done ?_)
    show [dB (decide ((hasN c.got : Int) = 0))] = _
    rw [w,em_dec _ rfl]; rfl
theorem ev_sClkOk (p : Pln) (c : Clk) (hp : fitPln p) (hk : fitClk c) : Ev L f_k1u (p.cells ++ c.cells) [dB (clkOkP p c)] := by
  refine Ev.eq (vs := [.i p.n,.l (dActs p.acts),.l (dL p.gives),.l (dL p.start),.b c.up,.i c.round,.l (dL c.base),.l (dDs c.done),.l (dCs c.wants),.l (dGs c.got)]) L_k1u rfl ?_
  refine WR.ev (ev_sPlnOk p hp) rfl rfl rfl ?_
  refine WR.iteN (plnOk p) rfl (fun b => WR.done (by show [dB false] = _; simp only [clkOkP,b,Bool.false_and,Bool.and_false])) (fun a => ?_)
  obtain ⟨n1,n2,_⟩ := plnOk_n a
  have hc := plnOk_cat a
  have e1 : (both p.acts).1 = catForms p.acts := by simp [catForms,hc]
  have e2 : (both p.acts).2 = catPins p.acts := by simp [catPins,hc]
  have eB := ev_l4Both p.acts hp.1 (catOk_len hc).2.1
  rw [e1,e2] at eB
  refine WR.ev eB rfl rfl rfl ?_
  simp only [sC,sN]
  refine WR.ev (ev_l9Ok p c hp hk n1 n2 hc) rfl rfl rfl (WR.done ?_)
  show [dB (clkOk p c)] = _
  simp only [clkOkP,a,Bool.true_and]
theorem ev_gotNone (x : Got) : Ev L f_k44 x.cells [dB (!x.has && emp x)] := by
  refine Ev.eq (vs := [.b x.has,.l (dL x.added),.l (dL x.seqs)]) L_k44 rfl ?_
  refine WR.iteN x.has rfl (fun a => ?_) (fun a => WR.done (by show [dB false] = _; rw [a]; rfl))
  refine WR.iteB (decide (x.added.length = 0)) (em_dec _ (dL1 _)) (fun b => WR.done ?_) (fun b => WR.done (by show [dB false] = _; rw [emp,b]; simp))
  show [dB (decide (((dL x.seqs).length : Int) = 0))] = _
  rw [em_dec _ (dL1 _),a,emp,b]; simp
def gotI (p : Pln) (b : List Int) (up : Bool) (l : List Got) (j : Nat) : Bool :=
  (up && ((l.getD j got0).has && (keepOk p b j (l.getD j got0).added && seqsOk p.n (l.getD j got0).seqs))) || (!(l.getD j got0).has && emp (l.getD j got0))
theorem gotI_up (p : Pln) (b : List Int) (l : List Got) (j : Nat) : gotI p b true l j = gotS p b l j := by
  unfold gotI gotS
  cases (l.getD j got0).has <;> simp
theorem gotI_down (p : Pln) (b : List Int) (l : List Got) : allTo l.length (gotI p b false l) = (allTo l.length (gotS p b l) && decide (hasN l = 0)) := by
  rw [Bool.eq_iff_iff,Bool.and_eq_true,allTo_iff,allTo_iff,decide_eq_true_eq]
  have hn : hasN l = 0 ↔ ∀ j,j < l.length → (l.getD j got0).has = false := by
    unfold hasN
    rw [List.length_eq_zero_iff,List.filter_eq_nil_iff]
    constructor
    · intro h j hj
      obtain ⟨x,hx,hm⟩ := sA1 hj
      rw [getD_of hx]
      simpa using h x hm
    · intro h x hx
      obtain ⟨j,hj,e⟩ := List.getElem_of_mem hx
      have := h j hj
      rw [getD_of (x := x) (by rw [List.getElem?_eq_getElem hj,e])] at this
      simp [this]
  rw [hn]
  constructor
  · intro h
    have h0 : ∀ j,j < l.length → (l.getD j got0).has = false := fun j hj => by
      have := h j hj
      unfold gotI at this
      cases hh : (l.getD j got0).has with
      | false => rfl
      | true => rw [hh] at this; simp at this
    refine ⟨fun j hj => ?_,h0⟩
    have := h j hj
    unfold gotI at this
    unfold gotS
    rw [h0 j hj] at this ⊢
    simpa using this
  · rintro ⟨h,h0⟩ j hj
    have := h j hj
    unfold gotS at this
    unfold gotI
    rw [h0 j hj] at this ⊢
    simpa using this
theorem clkOk_eq (p : Pln) (c : Clk) : clkOk p c = (inB c.round 0 200 && (valOk c.base && (doneOk p.n c.done && (decide (c.got.length = p.gives.length) &&
    (allTo c.wants.length (fun j => wantS p c.wants j && c.up) && allTo c.got.length (gotI p c.base c.up c.got)))))) := by
  unfold clkOk
  cases hu : c.up with
  | true =>
    have e : gotI p c.base true c.got = gotS p c.base c.got := funext fun j => gotI_up p c.base c.got j
    have e2 : (fun j => wantS p c.wants j && true) = wantS p c.wants := funext fun j => Bool.and_true _
    rw [e,e2,Bool.true_or,Bool.and_true]
    cases inB c.round 0 200 <;> cases valOk c.base <;> cases doneOk p.n c.done <;> cases decide (c.got.length = p.gives.length) <;> cases allTo c.got.length (gotS p c.base c.got) <;> cases allTo c.wants.length (wantS p c.wants) <;> rfl
  | false =>
    rw [gotI_down]
    have e2 : allTo c.wants.length (fun j => wantS p c.wants j && false) = decide (c.wants.length = 0) := by
      cases hl : c.wants.length with
      | zero => rfl
      | succ n => rw [allTo_no (i := 0) (by omega) (Bool.and_false _)]; simp
    rw [e2,Bool.false_or]
    cases hl : decide (c.wants.length = 0) with
    | false => simp
    | true =>
      have h0 : c.wants.length = 0 := by simpa using hl
      rw [h0]
      have : allTo 0 (wantS p c.wants) = true := rfl
      rw [this]
      cases inB c.round 0 200 <;> cases valOk c.base <;> cases doneOk p.n c.done <;> cases decide (c.got.length = p.gives.length) <;> cases allTo c.got.length (gotS p c.base c.got) <;> cases decide (hasN c.got = 0) <;> rfl
theorem ev_clerkOk (p : Pln) (c : Clk) (hp : fitPln p) (hk : fitClk c) (h1 : 1 ≤ p.n) (h2 : p.n ≤ 4) (hc : catOk p.acts = true) :
    Ev L f_k45 (p.cells ++ [.s (dActs p.acts),.s (dLL (catForms p.acts)),.s (dBl (catPins p.acts))] ++ c.cells) [dB (clkOk p c)] := by
  refine Ev.eq (vs := [.i p.n,.l (dActs p.acts),.l (dL p.gives),.l (dL p.start),.l (dActs p.acts),.l (dLL (catForms p.acts)),.l (dBl (catPins p.acts)),.b c.up,.i c.round,.l (dL c.base),.l (dDs c.done),.l (dCs c.wants),.l (dGs c.got)]) L_k45 rfl ?_
  have hps : fitLL (catForms p.acts) := (catForms_fit p.acts).fitLL (by omega)
  have hwl := hk.c
  have hgl := hk.g
  rw [clkOk_eq]
  refine WR.ev (ev_in c.round 0 200) rfl rfl rfl ?_
  refine WR.iteN (inB c.round 0 200) rfl (fun b => WR.done (by show [dB false] = _; rw [b]; rfl)) (fun a1 => ?_)
  refine WR.ev (ev_ValOk c.base hk.b) rfl rfl rfl ?_
  refine WR.iteN (valOk c.base) rfl (fun b => WR.done (by show [dB false] = _; rw [b,Bool.false_and,Bool.and_false])) (fun a2 => ?_)
  refine WR.ev (ev_doneOk p c.done ⟨hk.d,hk.dt⟩) rfl rfl rfl ?_
  refine WR.iteN (doneOk p.n c.done) rfl (fun b => WR.done (by show [dB false] = _; rw [b,Bool.false_and,Bool.and_false,Bool.and_false])) (fun a3 => ?_)
  refine WR.iteN (decide (c.got.length = p.gives.length)) ?_ (fun b => WR.done (by show [dB false] = _; rw [b,Bool.false_and,Bool.and_false,Bool.and_false,Bool.and_false])) (fun a4 => ?_)
  · show (!decide (((dGs c.got).length : Int) = ((dL p.gives).length : Int))) = _
    rw [dGs_len,dL1]; simp [Int.ofNat_inj]
  rw [a1,a2,a3,a4]
  simp only [Bool.true_and]
  generalize hB : allTo c.wants.length (fun j => wantS p c.wants j && c.up) = B
  simp only [sC,sN]
  refine WR.forP c.wants.length (fun i => [.i i]) (fun i => allTo i (fun j => wantS p c.wants j && c.up) = true) rfl rfl rfl fun i hi hq => ?_
  simp only [sC,sN]
  refine WR.iteLen i (dCs_len c.wants) rfl (fun h' => ?_) (fun h' => WR.esc ?_)
  · obtain ⟨x,hx,hm⟩ := sA1 h'
    have hwi := wantS_at (p := p) hx
    have bad : (wantS p c.wants i && c.up) = false → [dB false] = [dB (B && allTo c.got.length (gotI p c.base c.up c.got))] := fun h => by rw [← hB,allTo_no h' h]; rfl
    have good : (wantS p c.wants i && c.up) = true → allTo (i + 1) (fun j => wantS p c.wants j && c.up) = true := fun h => by rw [allTo_succ,hq,h]; rfl
    have nx : [V.i (IntKind.i64.wrap ((i : Int) + 1))] = [V.i ((i + 1 : Nat) : Int)] := by rw [wS h' (by omega)]
    refine WR.idxN (vs := [.i x.client,.i x.seq,.i x.act,.l (dL x.args)]) i (mA1 (f := Cal.g) hx) rfl rfl rfl rfl ?_
    simp only [sC,sN]
    refine WR.ev (ev_callOk p x hp h1 h2 (hk.ct x hm)) rfl rfl rfl ?_
    simp only [sC,sN]
    refine WR.iteN (callOk p x) rfl (fun b => WR.esc (WR.done (bad (by rw [hwi,b]; rfl)))) (fun b => ?_)
    rw [b,Bool.true_and] at hwi
    refine WR.iteP ((0 : Int) < (i : Int)) rfl (fun h0 => ?_) (fun h0 => ?_)
    · obtain ⟨y,hy,_⟩ := sA1 (show i - 1 < c.wants.length by omega)
      rw [getD_of hy,decide_eq_false (show ¬ i = 0 by omega),Bool.false_or] at hwi
      refine WR.idxN (vs := [.i y.client,.i y.seq,.i y.act,.l (dL y.args)]) (i - 1) (mA1 (f := Cal.g) hy) rfl rfl ?_ rfl ?_
      · show IntKind.i64.wrap ((i : Int) - 1) = ((i - 1 : Nat) : Int)
        rw [w64 (by omega) (by omega)]; omega
      simp only [sC,sN]
      refine WR.iteP (x.client ≤ y.client) rfl (fun g => WR.esc (WR.done (bad (by rw [hwi,decide_eq_false (by omega)]; rfl)))) (fun g => ?_)
      exact WR.iteN c.up rfl (fun u => WR.esc (WR.done (bad (by rw [u,Bool.and_false])))) (fun u => WR.nextA nx ⟨h',rfl,good (by rw [hwi,u,decide_eq_true (by omega)]; rfl)⟩)
    · exact WR.iteN c.up rfl (fun u => WR.esc (WR.done (bad (by rw [u,Bool.and_false])))) (fun u => WR.nextA nx ⟨h',rfl,good (by rw [hwi,u,decide_eq_true (show i = 0 by omega)]; rfl)⟩)
  · rw [show i = c.wants.length by omega] at hq
    rw [hB] at hq
    rw [hq,Bool.true_and]
    clear hB hq h' hi
    refine WR.forP c.got.length (fun i => [.i i]) (fun i => allTo i (gotI p c.base c.up c.got) = true) rfl rfl rfl fun i hi hq => ?_
    simp only [sC,sN]
    refine WR.iteLen i (dGs_len c.got) rfl (fun h' => ?_) (fun h' => WR.esc (WR.done ?_))
    · obtain ⟨x,hx,hm⟩ := sA1 h'
      have hxf := hk.gt x hm
      have hgi : gotI p c.base c.up c.got i = ((c.up && (x.has && (keepOk p c.base i x.added && seqsOk p.n x.seqs))) || (!x.has && emp x)) := by unfold gotI; rw [getD_of hx]
      have bad : gotI p c.base c.up c.got i = false → [dB false] = [dB (allTo c.got.length (gotI p c.base c.up c.got))] := fun h => by rw [allTo_no h' h]
      have good : gotI p c.base c.up c.got i = true → allTo (i + 1) (gotI p c.base c.up c.got) = true := fun h => by rw [allTo_succ,hq,h]; rfl
      have nx : [V.i (IntKind.i64.wrap ((i : Int) + 1))] = [V.i ((i + 1 : Nat) : Int)] := by rw [wS h' (by omega)]
      have hno := ev_gotNone x
      have last : (c.up && (x.has && (keepOk p c.base i x.added && seqsOk p.n x.seqs))) = false → gotI p c.base c.up c.got i = (!x.has && emp x) := fun h => by rw [hgi,h,Bool.false_or]
      refine WR.idxN (vs := [.b x.has,.l (dL x.added),.l (dL x.seqs)]) i (mA1 (f := Got.g) hx) rfl rfl rfl rfl ?_
      simp only [sC,sN]
      refine WR.iteB c.up rfl (fun u => ?_) (fun u => ?_)
      · refine WR.iteB x.has rfl (fun hh => ?_) (fun hh => ?_)
        · refine WR.ev (ev_iTreaty p c.base) rfl rfl rfl ?_
          refine WR.ev (ev_keepsR p.acts (catForms p.acts) (catPins p.acts) c.base p.gives i x.added (pins_len hc) hk.b hp.2.1 hps hxf.1) rfl rfl rfl ?_
          simp only [sC,sN]
          refine WR.iteB (keepOk p c.base i x.added) rfl (fun e => ?_) (fun e => ?_)
          · refine WR.ev (ev_seqsOk p x.seqs hxf.2) rfl rfl rfl ?_
            simp only [sC,sN]
            refine WR.iteN (seqsOk p.n x.seqs) rfl (fun f => ?_) (fun f => WR.nextA nx ⟨h',rfl,good (by rw [hgi,u,hh,e,f]; rfl)⟩)
            refine WR.ev hno rfl rfl rfl ?_
            exact WR.iteN (!x.has && emp x) rfl (fun g => WR.esc (WR.done (bad (by rw [last (by simp [f])]; exact g)))) (fun g => WR.nextA nx ⟨h',rfl,good (by rw [last (by simp [f])]; exact g)⟩)
          · refine WR.ev hno rfl rfl rfl ?_
            exact WR.iteN (!x.has && emp x) rfl (fun g => WR.esc (WR.done (bad (by rw [last (by simp [e])]; exact g)))) (fun g => WR.nextA nx ⟨h',rfl,good (by rw [last (by simp [e])]; exact g)⟩)
        · refine WR.ev hno rfl rfl rfl ?_
          exact WR.iteN (!x.has && emp x) rfl (fun g => WR.esc (WR.done (bad (by rw [last (by simp [hh])]; exact g)))) (fun g => WR.nextA nx ⟨h',rfl,good (by rw [last (by simp [hh])]; exact g)⟩)
      · refine WR.ev hno rfl rfl rfl ?_
        exact WR.iteN (!x.has && emp x) rfl (fun g => WR.esc (WR.done (bad (by rw [last (by simp [u])]; exact g)))) (fun g => WR.nextA nx ⟨h',rfl,good (by rw [last (by simp [u])]; exact g)⟩)
    · show [dB true] = _
      rw [show i = c.got.length by omega] at hq
      rw [hq]
theorem ev_iClkOk (p : Pln) (c : Clk) (hp : fitPln p) (hk : fitClk c) : Ev L f_k46 (p.cells ++ c.cells) [dB (clkOkP p c)] := by
  refine Ev.eq (vs := [.i p.n,.l (dActs p.acts),.l (dL p.gives),.l (dL p.start),.b c.up,.i c.round,.l (dL c.base),.l (dDs c.done),.l (dCs c.wants),.l (dGs c.got)]) L_k46 rfl ?_
  refine WR.ev (ev_iPlnOk p hp) rfl rfl rfl ?_
  refine WR.iteB (plnOk p) rfl (fun a => ?_) (fun b => WR.done (by show [dB false] = _; simp only [clkOkP,b,Bool.false_and,Bool.and_false]))
  obtain ⟨n1,n2,_⟩ := plnOk_n a
  have hc := plnOk_cat a
  refine WR.ev (ev_rulesOf p.acts hp.1) rfl rfl rfl ?_
  simp only [sC,sN]
  refine WR.ev (ev_clerkOk p c hp hk n1 n2 hc) rfl rfl rfl (WR.done ?_)
  show [dB (clkOk p c)] = _
  simp only [clkOkP,a,Bool.true_and]
theorem clkOk_len {p : Pln} {c : Clk} (h : clkOkP p c = true) : c.got.length = p.gives.length := by
  simp only [clkOkP,clkOk,Bool.and_eq_true,decide_eq_true_eq] at h
  exact h.2.2.2.2.1.1
theorem ev_hasGot (q : Got → Bool) (l : List Got) {fn : FuncId} {caps : List D} (hlen : l.length ≤ 2000000) (hcap : oneOf (.f fn caps) = .f fn caps) (har : arT L fn = some ([some 3] ++ caps.map fun _ => none))
    (hc : ∀ x ∈ l,Ev L fn (x.cells ++ caps.map D.norm) [dB (q x)]) : Ev L f_k4b [.s (dGs l),.f fn caps] [dB (l.any q)] :=
  ev_contains (g := f_k4a) L_k4b rfl hcap
    (ev_idxFunc (sh := .g [.b,.s,.s]) (as := [(.vb (.v 3)),(.s (.v 4)),(.s (.v 5))]) (ar := [some 3]) (k := 6) Got.g q Got.cells (fun x => [.b x.has,.l (dL x.added),.l (dL x.seqs)]) l
      L_k4a rfl hlen hcap (fun _ _ => rfl) (fun _ _ => rfl) (fun _ _ _ _ => rfl) har hc)
end Go.Proofs.YtgiejmanbmeloaaGreatDoor
/- The program's SitFall answers as the reference's: over residual programs. -/
namespace Go.Proofs.YtgiejmanbmeloaaGreatDoor
open Go Go.Tm
theorem ev_l6CopyRes (c : Int) (l : List Int) (hl : l.length ≤ 2000000) : Ev L f_k1v [dI c,.s (dL l)] [dI c,.s (dL l)] := by
  refine Ev.eq (vs := [.i c,.l (dL l)]) L_k1v rfl ?_
  refine WR.chkN (dL l) 2000000 (by rw [dL1]; omega) (by omega) rfl ?_
  refine WR.head (head_dL l) ?_
  exact WR.chkN (dL l) 2000000 (by rw [dL1]; omega) (by omega) rfl (WR.done rfl)
theorem ev_l6CopyDone (l : List Don) (hl : fitL fitDon l) : Ev L f_k1w [.s (dDs l)] [.s (dDs l)] := by
  refine Ev.eq (vs := [.l (dDs l)]) L_k1w rfl ?_
  have hl0 := hl.1
  refine WR.forP l.length (fun i => [.l (dDs (l.take i)),.i i]) (fun _ => True) rfl rfl trivial fun i hi _ => ?_
  simp only [sC,sN]
  refine WR.iteLen i (dDs_len l) rfl (fun h => ?_) (fun h => WR.esc (WR.done ?_))
  · obtain ⟨x,hx,hm⟩ := sA1 h
    have hg : (dDs l)[i]? = some x.g := mA1 (f := Don.g) hx
    refine WR.idxN (vs := [.i x.seq,.i x.code,.l (dL x.tells)]) i hg rfl rfl rfl rfl ?_
    refine WR.idxN (vs := [.i x.seq,.i x.code,.l (dL x.tells)]) i hg rfl rfl rfl rfl ?_
    refine WR.ev (vs := [.i x.code,.l (dL x.tells)]) (ev_l6CopyRes x.code x.tells (hl.2 x hm)) rfl rfl rfl ?_
    simp only [sC,sN]
    refine WR.chkApp (dDs (l.take i)) 2000000 (by rw [dDs_len,List.length_take]; omega) (by omega) rfl ?_
    refine WR.nextA (vs := [.l (dDs (l.take (i + 1))),.i ((i + 1 : Nat) : Int)]) ?_ ⟨h,rfl,trivial⟩
    show [V.l (dDs (l.take i) ++ [x.g]),V.i (IntKind.i64.wrap ((i : Int) + 1))] = _
    rw [wS h (by omega),tS1 hx]
    simp only [dDs,List.map_append,List.map_cons,List.map_nil]
  · show [D.s (dDs (l.take i))] = _
    rw [tA1 h]
theorem ev_resCopied (c : Int) (l : List Int) (hl : l.length ≤ 2000000) : Ev L f_k47 [dI c,.s (dL l)] [dI c,.s (dL l)] :=
  Ev.eq (vs := [.i c,.l (dL l)]) L_k47 rfl (WR.ev (vs := [.l (dL l)]) (ev_clone1 l hl) rfl rfl rfl (WR.done rfl))
theorem ev_dones (l : List Don) (hl : fitL fitDon l) : Ev L f_k48 [.s (dDs l)] [.s (dDs l)] := by
  refine Ev.eq (vs := [.l (dDs l)]) L_k48 rfl ?_
  have hl0 := hl.1
  refine WR.forP l.length (fun i => [.l (dDs (l.take i)),.i i]) (fun _ => True) rfl rfl trivial fun i hi _ => ?_
  simp only [sC,sN]
  refine WR.iteLen i (dDs_len l) rfl (fun h => ?_) (fun h => WR.esc (WR.done ?_))
  · obtain ⟨x,hx,hm⟩ := sA1 h
    have hg : (dDs l)[i]? = some x.g := mA1 (f := Don.g) hx
    refine WR.idxN (vs := [.i x.seq,.i x.code,.l (dL x.tells)]) i hg rfl rfl rfl rfl ?_
    refine WR.ev (vs := [.i x.code,.l (dL x.tells)]) (ev_resCopied x.code x.tells (hl.2 x hm)) rfl rfl rfl ?_
    simp only [sC,sN]
    refine WR.fl (flats_map dI (fun _ => rfl) x.tells) ?_
    refine WR.chkApp (dDs (l.take i)) 2000000 (by rw [dDs_len,List.length_take]; omega) (by omega) rfl ?_
    refine WR.nextA (vs := [.l (dDs (l.take (i + 1))),.i ((i + 1 : Nat) : Int)]) ?_ ⟨h,rfl,trivial⟩
    show [V.l (dDs (l.take i) ++ [x.g]),V.i (IntKind.i64.wrap ((i : Int) + 1))] = _
    rw [wS h (by omega),tS1 hx]
    simp only [dDs,List.map_append,List.map_cons,List.map_nil]
  · show [D.s (dDs (l.take i))] = _
    rw [tA1 h]
theorem wts_don (l : List Don) : wts Don.w l ≤ 2 * szL szDon l := by
  unfold wts szL
  induction l with
  | nil => simp
  | cons x l ih =>
    simp only [List.map_cons,List.sum_cons,List.length_cons] at ih ⊢
    have : Don.w x = 2 + szDon x := rfl
    omega
end Go.Proofs.YtgiejmanbmeloaaGreatDoor
/- Worlds: sizes,copies,comparisons; which of them are ok: over residual programs. -/
namespace Go.Proofs.YtgiejmanbmeloaaGreatDoor
open Go Go.Tm
structure LogD where
  call : Cal
  code : Int
  tells : List Int
  deriving DecidableEq
abbrev dSt (l : List Sit) : List D := l.map Sit.g
abbrev dCn (l : List Con) : List D := l.map Con.g
abbrev dMs (l : List Msg) : List D := l.map Msg.g
def LogD.cells (x : LogD) : List D := [dI x.call.client,dI x.call.seq,dI x.call.act,.s (dL x.call.args),dI x.code,.s (dL x.tells)]
def LogD.g (x : LogD) : D := .g x.cells
abbrev dLg (l : List LogD) : List D := l.map LogD.g
theorem ev_eqMsgMsgS (a : List Msg) (hl : fitL fitMsg a) : Ev L f_k4m [.s (dMs a),.s (dMs a)] [dB true] :=
  ev_selfC (g := f_k4l) (sh := .g [.i .i64,.i .i64,.i .i64,.i .i64,.i .i64,.i .i64,.i .i64,.s,.s,.s,.s]) (as := [(.vi .i64 (.v 3)),(.vi .i64 (.v 4)),(.vi .i64 (.v 5)),(.vi .i64 (.v 6)),(.vi .i64 (.v 7)),(.vi .i64 (.v 8)),(.vi .i64 (.v 9)),(.s (.v 10)),(.s (.v 11)),(.s (.v 12)),(.s (.v 13)),(.vi .i64 (.v 14)),(.vi .i64 (.v 15)),(.vi .i64 (.v 16)),(.vi .i64 (.v 17)),(.vi .i64 (.v 18)),(.vi .i64 (.v 19)),(.vi .i64 (.v 20)),(.s (.v 21)),(.s (.v 22)),(.s (.v 23)),(.s (.v 24))]) (k1 := 14) (k2 := 25)
    Msg.g (fun x => [.i x.kind,.i x.to,.i x.frm,.i x.round,.i x.call.client,.i x.call.seq,.i x.call.act,.l (dL x.call.args),.l (dL x.vals),.l (dL x.seqs),.l (dDs x.done)]) Msg.cells a L_k4m rfl (fun _ => rfl) (fun _ => rfl) (fun _ => rfl) (fun _ _ _ _ _ => rfl) (fun x hx => ev_eqMsgMsg x (hl.2 x hx)) hl.1
structure Wrl where
  p : Pln
  sites : List Sit
  c : Clk
  cons : List Con
  net : List Msg
  log : List LogD
def Wrl.cells (w : Wrl) : List D := w.p.cells ++ [.s (dSt w.sites)] ++ w.c.cells ++ [.s (dCn w.cons),.s (dMs w.net),.s (dLg w.log)]
end Go.Proofs.YtgiejmanbmeloaaGreatDoor

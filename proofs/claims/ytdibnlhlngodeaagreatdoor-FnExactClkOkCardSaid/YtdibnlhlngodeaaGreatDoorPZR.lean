import Derived.Test.YtdibnlhlngodeaaGreatDoorPZG
import Derived.Test.YtdibnlhlngodeaaGreatDoorPZH
set_option linter.unusedVariables false
set_option linter.unusedSimpArgs false
/- Sizes and copies of calls, of what was done, of sites, clerks and messages: over residual programs. -/
namespace Go.Proofs.YtdibnlhlngodeaaGreatDoor
open Go Go.Tm
def szL {α : Type} (f : α → Nat) (l : List α) : Nat := l.length + (l.map f).sum
theorem szL_succ {α : Type} (f : α → Nat) {l : List α} {i : Nat} {x : α} (h : l[i]? = some x) : ((l.take (i + 1)).map f).sum = ((l.take i).map f).sum + f x := by rw [map_take_succ h]; simp
theorem szL_split {α : Type} (f : α → Nat) (l : List α) (i : Nat) : szL f l = l.length + ((l.take i).map f).sum + ((l.drop i).map f).sum := by
  unfold szL
  conv => lhs; rw [← List.take_append_drop i l, List.map_append, List.sum_append, List.take_append_drop]
  omega
theorem szL_len {α : Type} (f : α → Nat) (l : List α) : l.length ≤ szL f l := by unfold szL; omega
theorem szL_mem {α : Type} (f : α → Nat) {l : List α} {x : α} (h : x ∈ l) : f x ≤ szL f l := by
  have : f x ≤ (l.map f).sum := by
    induction l with
    | nil => simp at h
    | cons y l ih =>
      simp only [List.map_cons, List.sum_cons]
      rcases List.mem_cons.1 h with rfl | h
      · omega
      · have := ih h; omega
  unfold szL; omega
def bigL {α : Type} (f : α → Prop) (l : List α) : Prop := l.length ≤ 9223372036854775807 ∧ ∀ x ∈ l, f x
def fitL {α : Type} (f : α → Prop) (l : List α) : Prop := l.length ≤ 2000000 ∧ ∀ x ∈ l, f x
theorem fitL_of {α : Type} {f : α → Nat} {p : α → Prop} (hp : ∀ x, f x ≤ 1048576 → p x) {l : List α} (h : szL f l ≤ 1048576) : fitL p l :=
  ⟨by have := szL_len f l; omega, fun x hx => hp x (by have := szL_mem f hx; omega)⟩
def szCal (x : Cal) : Nat := x.args.length
def bigCal (x : Cal) : Prop := x.args.length ≤ 9223372036854775807
def fitCal (x : Cal) : Prop := x.args.length ≤ 2000000
theorem fitCal_of {x : Cal} (h : szCal x ≤ 1048576) : fitCal x := by
  unfold szCal at h
  exact by show _ ≤ _; omega
def szDon (x : Don) : Nat := x.tells.length
def bigDon (x : Don) : Prop := x.tells.length ≤ 9223372036854775807
def fitDon (x : Don) : Prop := x.tells.length ≤ 2000000
theorem fitDon_of {x : Don} (h : szDon x ≤ 1048576) : fitDon x := by
  unfold szDon at h
  exact by show _ ≤ _; omega
def szGot (x : Got) : Nat := x.added.length + x.seqs.length
def bigGot (x : Got) : Prop := x.added.length ≤ 9223372036854775807 ∧ x.seqs.length ≤ 9223372036854775807
def fitGot (x : Got) : Prop := x.added.length ≤ 2000000 ∧ x.seqs.length ≤ 2000000
theorem fitGot_of {x : Got} (h : szGot x ≤ 1048576) : fitGot x := by
  unfold szGot at h
  exact ⟨by omega, by omega⟩
theorem ev_szPlnCall (x : Cal) (left : Int) (hb : bigCal x) (h0 : 0 ≤ left) (h1 : left ≤ 1048576) : Ev L f_k9 (x.cells ++ [dI left]) [dI (dec left (szCal x))] := by
  refine Ev.eq (vs := [.i x.client, .i x.seq, .i x.act, .l (dL x.args), .i left]) L_k9 rfl ?_
  refine WR.ev (ev_szIntS x.args left hb h0 h1) rfl rfl rfl ?_
  simp only [sCA, sNA]
  have hr0 := dec_room (n := x.args.length) h0 h1
  refine WR.iteP (dec left (x.args.length) < 0) rfl (fun h => WR.done ?_) (fun h => WR.done rfl)
  show [dI (-1)] = [dI (dec left (szCal x))]
  have e : dec left (szCal x) = dec left (x.args.length) := rfl
  rw [e, show dec left (x.args.length) = -1 by omega]
theorem ev_szPlnCallS (l : List Cal) (left : Int) (hb : bigL bigCal l) (h0 : 0 ≤ left) (h1 : left ≤ 1048576) : Ev L f_ka [.s (dCs l), dI left] [dI (dec left (szL szCal l))] := by
  refine Ev.eq (vs := [.l (dCs l), .i left]) L_ka rfl ?_
  have hlen : (dCs l).length = l.length := by simp [dCs]
  have hl := hb.1
  have hw : IntKind.i64.wrap (left - ((dCs l).length : Int)) = left - l.length := by rw [hlen]; exact w64 (by omega) (by omega)
  refine WR.iteP (left - (l.length : Int) < 0) ?_ (fun h => WR.done ?_) (fun h => ?_)
  · show decide (IntKind.i64.wrap (left - ((dCs l).length : Int)) < 0) = _
    rw [hw]
  · show [dI (-1)] = _
    unfold dec szL; rw [if_neg (by omega)]
  have hal : l.length ≤ 1048576 := by omega
  refine WR.forP l.length (fun i => [.i (dec left (l.length + ((l.take i).map szCal).sum)), .i i]) (fun i => ¬ dec left (l.length + ((l.take i).map szCal).sum) < 0) rfl ?_ ?_ fun i hi hp => ?_
  · show [V.i (IntKind.i64.wrap (left - ((dCs l).length : Int))), V.i 0] = _
    rw [hw]
    simp only [List.take_zero, List.map_nil, List.sum_nil, Nat.add_zero]
    unfold dec; rw [if_pos (by omega)]; rfl
  · simp only [List.take_zero, List.map_nil, List.sum_nil, Nat.add_zero]
    unfold dec; rw [if_pos (by omega)]; omega
  simp only [sCA, sNA]
  have hr := dec_room (n := l.length + ((l.take i).map szCal).sum) h0 h1
  refine WR.iteLen i hlen rfl (fun h' => ?_) (fun h' => WR.esc (WR.done ?_))
  · obtain ⟨x, hx, hm⟩ := some_at h'
    refine WR.idxN (vs := [.i x.client, .i x.seq, .i x.act, .l (dL x.args)]) i (map_at (f := Cal.g) hx) rfl rfl rfl rfl ?_
    simp only [sCA, sNA]
    refine WR.ev (ev_szPlnCall x (dec left (l.length + ((l.take i).map szCal).sum)) (hb.2 x hm) (by omega) (by omega)) rfl rfl rfl ?_
    simp only [sCA, sNA]
    have e := dec_dec (m := szCal x) hp
    rw [Nat.add_assoc, ← szL_succ szCal hx] at e
    rw [e]
    refine WR.iteP (dec left (l.length + ((l.take (i + 1)).map szCal).sum) < 0) rfl (fun h2 => WR.esc (WR.done ?_)) (fun h2 => ?_)
    · show [dI (-1)] = _
      rw [szL_split szCal l (i + 1), dec_lt h2 h0]
    · refine WR.nextA (vs := [.i (dec left (l.length + ((l.take (i + 1)).map szCal).sum)), .i ((i + 1 : Nat) : Int)]) ?_ ⟨h', rfl, h2⟩
      rw [← wS h' (by omega)]; rfl
  · show [dI (dec left (l.length + ((l.take i).map szCal).sum))] = _
    rw [take_all h']; rfl
theorem ev_szResResult (c : Int) (t : List Int) (left : Int) (hb : t.length ≤ 9223372036854775807) (h0 : 0 ≤ left) (h1 : left ≤ 1048576) : Ev L f_k6 [dI c, .s (dL t), dI left] [dI (dec left t.length)] := by
  refine Ev.eq (vs := [.i c, .l (dL t), .i left]) L_k6 rfl ?_
  refine WR.ev (ev_szIntS t left hb h0 h1) rfl rfl rfl ?_
  have hr := dec_room (n := t.length) h0 h1
  refine WR.iteP (dec left t.length < 0) rfl (fun h => WR.done ?_) (fun h => WR.done rfl)
  show [dI (-1)] = _
  rw [show dec left t.length = -1 by omega]
theorem ev_szPlnDone (x : Don) (left : Int) (hb : bigDon x) (h0 : 0 ≤ left) (h1 : left ≤ 1048576) : Ev L f_k7 (x.cells ++ [dI left]) [dI (dec left (szDon x))] := by
  refine Ev.eq (vs := [.i x.seq, .i x.code, .l (dL x.tells), .i left]) L_k7 rfl ?_
  refine WR.ev (ev_szResResult x.code x.tells left hb h0 h1) rfl rfl rfl ?_
  simp only [sCA, sNA]
  have hr0 := dec_room (n := x.tells.length) h0 h1
  refine WR.iteP (dec left (x.tells.length) < 0) rfl (fun h => WR.done ?_) (fun h => WR.done rfl)
  show [dI (-1)] = [dI (dec left (szDon x))]
  have e : dec left (szDon x) = dec left (x.tells.length) := rfl
  rw [e, show dec left (x.tells.length) = -1 by omega]
theorem ev_szPlnDoneS (l : List Don) (left : Int) (hb : bigL bigDon l) (h0 : 0 ≤ left) (h1 : left ≤ 1048576) : Ev L f_k8 [.s (dDs l), dI left] [dI (dec left (szL szDon l))] := by
  refine Ev.eq (vs := [.l (dDs l), .i left]) L_k8 rfl ?_
  have hlen : (dDs l).length = l.length := by simp [dDs]
  have hl := hb.1
  have hw : IntKind.i64.wrap (left - ((dDs l).length : Int)) = left - l.length := by rw [hlen]; exact w64 (by omega) (by omega)
  refine WR.iteP (left - (l.length : Int) < 0) ?_ (fun h => WR.done ?_) (fun h => ?_)
  · show decide (IntKind.i64.wrap (left - ((dDs l).length : Int)) < 0) = _
    rw [hw]
  · show [dI (-1)] = _
    unfold dec szL; rw [if_neg (by omega)]
  have hal : l.length ≤ 1048576 := by omega
  refine WR.forP l.length (fun i => [.i (dec left (l.length + ((l.take i).map szDon).sum)), .i i]) (fun i => ¬ dec left (l.length + ((l.take i).map szDon).sum) < 0) rfl ?_ ?_ fun i hi hp => ?_
  · show [V.i (IntKind.i64.wrap (left - ((dDs l).length : Int))), V.i 0] = _
    rw [hw]
    simp only [List.take_zero, List.map_nil, List.sum_nil, Nat.add_zero]
    unfold dec; rw [if_pos (by omega)]; rfl
  · simp only [List.take_zero, List.map_nil, List.sum_nil, Nat.add_zero]
    unfold dec; rw [if_pos (by omega)]; omega
  simp only [sCA, sNA]
  have hr := dec_room (n := l.length + ((l.take i).map szDon).sum) h0 h1
  refine WR.iteLen i hlen rfl (fun h' => ?_) (fun h' => WR.esc (WR.done ?_))
  · obtain ⟨x, hx, hm⟩ := some_at h'
    refine WR.idxN (vs := [.i x.seq, .i x.code, .l (dL x.tells)]) i (map_at (f := Don.g) hx) rfl rfl rfl rfl ?_
    simp only [sCA, sNA]
    refine WR.ev (ev_szPlnDone x (dec left (l.length + ((l.take i).map szDon).sum)) (hb.2 x hm) (by omega) (by omega)) rfl rfl rfl ?_
    simp only [sCA, sNA]
    have e := dec_dec (m := szDon x) hp
    rw [Nat.add_assoc, ← szL_succ szDon hx] at e
    rw [e]
    refine WR.iteP (dec left (l.length + ((l.take (i + 1)).map szDon).sum) < 0) rfl (fun h2 => WR.esc (WR.done ?_)) (fun h2 => ?_)
    · show [dI (-1)] = _
      rw [szL_split szDon l (i + 1), dec_lt h2 h0]
    · refine WR.nextA (vs := [.i (dec left (l.length + ((l.take (i + 1)).map szDon).sum)), .i ((i + 1 : Nat) : Int)]) ?_ ⟨h', rfl, h2⟩
      rw [← wS h' (by omega)]; rfl
  · show [dI (dec left (l.length + ((l.take i).map szDon).sum))] = _
    rw [take_all h']; rfl
theorem ev_szClkGot (x : Got) (left : Int) (hb : bigGot x) (h0 : 0 ≤ left) (h1 : left ≤ 1048576) : Ev L f_kb (x.cells ++ [dI left]) [dI (dec left (szGot x))] := by
  refine Ev.eq (vs := [.b x.has, .l (dL x.added), .l (dL x.seqs), .i left]) L_kb rfl ?_
  refine WR.ev (ev_szIntS x.added left hb.1 h0 h1) rfl rfl rfl ?_
  simp only [sCA, sNA]
  have hr0 := dec_room (n := x.added.length) h0 h1
  refine WR.iteP (dec left (x.added.length) < 0) rfl (fun h => WR.done ?_) (fun h => ?_)
  · show [dI (-1)] = _
    rw [show szGot x = x.added.length + (x.seqs.length) by unfold szGot; omega, dec_lt h h0]
  refine WR.ev (ev_szIntS x.seqs (dec left (x.added.length)) hb.2 (by omega) (by omega)) rfl rfl rfl ?_
  simp only [sCA, sNA]
  have hr1 := dec_room (n := x.added.length + x.seqs.length) h0 h1
  rw [dec_dec h]
  refine WR.iteP (dec left (x.added.length + x.seqs.length) < 0) rfl (fun h => WR.done ?_) (fun h => WR.done rfl)
  show [dI (-1)] = [dI (dec left (szGot x))]
  have e : dec left (szGot x) = dec left (x.added.length + x.seqs.length) := rfl
  rw [e, show dec left (x.added.length + x.seqs.length) = -1 by omega]
theorem ev_szClkGotS (l : List Got) (left : Int) (hb : bigL bigGot l) (h0 : 0 ≤ left) (h1 : left ≤ 1048576) : Ev L f_kc [.s (dGs l), dI left] [dI (dec left (szL szGot l))] := by
  refine Ev.eq (vs := [.l (dGs l), .i left]) L_kc rfl ?_
  have hlen : (dGs l).length = l.length := by simp [dGs]
  have hl := hb.1
  have hw : IntKind.i64.wrap (left - ((dGs l).length : Int)) = left - l.length := by rw [hlen]; exact w64 (by omega) (by omega)
  refine WR.iteP (left - (l.length : Int) < 0) ?_ (fun h => WR.done ?_) (fun h => ?_)
  · show decide (IntKind.i64.wrap (left - ((dGs l).length : Int)) < 0) = _
    rw [hw]
  · show [dI (-1)] = _
    unfold dec szL; rw [if_neg (by omega)]
  have hal : l.length ≤ 1048576 := by omega
  refine WR.forP l.length (fun i => [.i (dec left (l.length + ((l.take i).map szGot).sum)), .i i]) (fun i => ¬ dec left (l.length + ((l.take i).map szGot).sum) < 0) rfl ?_ ?_ fun i hi hp => ?_
  · show [V.i (IntKind.i64.wrap (left - ((dGs l).length : Int))), V.i 0] = _
    rw [hw]
    simp only [List.take_zero, List.map_nil, List.sum_nil, Nat.add_zero]
    unfold dec; rw [if_pos (by omega)]; rfl
  · simp only [List.take_zero, List.map_nil, List.sum_nil, Nat.add_zero]
    unfold dec; rw [if_pos (by omega)]; omega
  simp only [sCA, sNA]
  have hr := dec_room (n := l.length + ((l.take i).map szGot).sum) h0 h1
  refine WR.iteLen i hlen rfl (fun h' => ?_) (fun h' => WR.esc (WR.done ?_))
  · obtain ⟨x, hx, hm⟩ := some_at h'
    refine WR.idxN (vs := [.b x.has, .l (dL x.added), .l (dL x.seqs)]) i (map_at (f := Got.g) hx) rfl rfl rfl rfl ?_
    simp only [sCA, sNA]
    refine WR.ev (ev_szClkGot x (dec left (l.length + ((l.take i).map szGot).sum)) (hb.2 x hm) (by omega) (by omega)) rfl rfl rfl ?_
    simp only [sCA, sNA]
    have e := dec_dec (m := szGot x) hp
    rw [Nat.add_assoc, ← szL_succ szGot hx] at e
    rw [e]
    refine WR.iteP (dec left (l.length + ((l.take (i + 1)).map szGot).sum) < 0) rfl (fun h2 => WR.esc (WR.done ?_)) (fun h2 => ?_)
    · show [dI (-1)] = _
      rw [szL_split szGot l (i + 1), dec_lt h2 h0]
    · refine WR.nextA (vs := [.i (dec left (l.length + ((l.take (i + 1)).map szGot).sum)), .i ((i + 1 : Nat) : Int)]) ?_ ⟨h', rfl, h2⟩
      rw [← wS h' (by omega)]; rfl
  · show [dI (dec left (l.length + ((l.take i).map szGot).sum))] = _
    rw [take_all h']; rfl
def szClk (x : Clk) : Nat := x.base.length + szL szDon x.done + szL szCal x.wants + szL szGot x.got
def bigClk (x : Clk) : Prop := x.base.length ≤ 9223372036854775807 ∧ bigL bigDon x.done ∧ bigL bigCal x.wants ∧ bigL bigGot x.got
theorem ev_szClkClerk (x : Clk) (left : Int) (hb : bigClk x) (h0 : 0 ≤ left) (h1 : left ≤ 1048576) : Ev L f_kd (x.cells ++ [dI left]) [dI (dec left (szClk x))] := by
  refine Ev.eq (vs := [.b x.up, .i x.round, .l (dL x.base), .l (dDs x.done), .l (dCs x.wants), .l (dGs x.got), .i left]) L_kd rfl ?_
  refine WR.ev (ev_szIntS x.base left hb.1 h0 h1) rfl rfl rfl ?_
  simp only [sCA, sNA]
  have hr0 := dec_room (n := x.base.length) h0 h1
  refine WR.iteP (dec left (x.base.length) < 0) rfl (fun h => WR.done ?_) (fun h => ?_)
  · show [dI (-1)] = _
    rw [show szClk x = x.base.length + (szL szDon x.done + szL szCal x.wants + szL szGot x.got) by unfold szClk; omega, dec_lt h h0]
  refine WR.ev (ev_szPlnDoneS x.done (dec left (x.base.length)) hb.2.1 (by omega) (by omega)) rfl rfl rfl ?_
  simp only [sCA, sNA]
  have hr1 := dec_room (n := x.base.length + szL szDon x.done) h0 h1
  rw [dec_dec h]
  refine WR.iteP (dec left (x.base.length + szL szDon x.done) < 0) rfl (fun h => WR.done ?_) (fun h => ?_)
  · show [dI (-1)] = _
    rw [show szClk x = x.base.length + szL szDon x.done + (szL szCal x.wants + szL szGot x.got) by unfold szClk; omega, dec_lt h h0]
  refine WR.ev (ev_szPlnCallS x.wants (dec left (x.base.length + szL szDon x.done)) hb.2.2.1 (by omega) (by omega)) rfl rfl rfl ?_
  simp only [sCA, sNA]
  have hr2 := dec_room (n := x.base.length + szL szDon x.done + szL szCal x.wants) h0 h1
  rw [dec_dec h]
  refine WR.iteP (dec left (x.base.length + szL szDon x.done + szL szCal x.wants) < 0) rfl (fun h => WR.done ?_) (fun h => ?_)
  · show [dI (-1)] = _
    rw [show szClk x = x.base.length + szL szDon x.done + szL szCal x.wants + (szL szGot x.got) by unfold szClk; omega, dec_lt h h0]
  refine WR.ev (ev_szClkGotS x.got (dec left (x.base.length + szL szDon x.done + szL szCal x.wants)) hb.2.2.2 (by omega) (by omega)) rfl rfl rfl ?_
  simp only [sCA, sNA]
  have hr3 := dec_room (n := x.base.length + szL szDon x.done + szL szCal x.wants + szL szGot x.got) h0 h1
  rw [dec_dec h]
  refine WR.iteP (dec left (x.base.length + szL szDon x.done + szL szCal x.wants + szL szGot x.got) < 0) rfl (fun h => WR.done ?_) (fun h => WR.done rfl)
  show [dI (-1)] = [dI (dec left (szClk x))]
  have e : dec left (szClk x) = dec left (x.base.length + szL szDon x.done + szL szCal x.wants + szL szGot x.got) := rfl
  rw [e, show dec left (x.base.length + szL szDon x.done + szL szCal x.wants + szL szGot x.got) = -1 by omega]
structure Msg where
  kind : Int
  to : Int
  frm : Int
  round : Int
  call : Cal
  vals : List Int
  seqs : List Int
  done : List Don
  deriving DecidableEq
def Msg.cells (x : Msg) : List D := [dI x.kind, dI x.to, dI x.frm, dI x.round, dI x.call.client, dI x.call.seq, dI x.call.act, .s (dL x.call.args), .s (dL x.vals), .s (dL x.seqs), .s (dDs x.done)]
def Msg.g (x : Msg) : D := .g x.cells
theorem ev_toPlnCall (x : Cal) (hf : fitCal x) : Ev L f_kn x.cells x.cells := by
  refine Ev.eq (vs := [.i x.client, .i x.seq, .i x.act, .l (dL x.args)]) L_kn rfl ?_
  refine WR.ev (vs := [.l (dL x.args)]) (ev_toIntS x.args hf) rfl rfl rfl ?_
  simp only [sCA, sNA]
  exact WR.done rfl
theorem ev_toPlnCallS (l : List Cal) (hf : fitL fitCal l) : Ev L f_ko [.s (dCs l)] [.s (dCs l)] := by
  refine Ev.eq (vs := [.l (dCs l)]) L_ko rfl ?_
  have hlen : (dCs l).length = l.length := by simp [dCs]
  have hl := hf.1
  refine WR.chk (by show decide ((0 : Int) ≤ ((dCs l).length : Int)) = true; simp) ?_
  refine WR.chkN (dCs l) 2000000 (by omega) (by omega) rfl ?_
  refine WR.forP (dCs l).length (fun i => [.l ((dCs l).take i ++ List.replicate ((dCs l).length - i) (Cal.g ⟨0, 0, 0, []⟩)), .i i]) (fun _ => True) rfl ?_ trivial fun i hi _ => ?_
  · show [V.l (List.replicate ((dCs l).length : Int).toNat (Cal.g ⟨0, 0, 0, []⟩)), V.i 0] = _
    simp
  simp only [sCA, sNA]
  refine WR.iteLen i (ds := dCs l) rfl rfl (fun h => ?_) (fun h => WR.esc (WR.done ?_))
  · obtain ⟨x, hx, hm⟩ := some_at (show i < l.length by omega)
    refine WR.idxN (vs := [.i x.client, .i x.seq, .i x.act, .l (dL x.args)]) i (map_at (f := Cal.g) hx) rfl rfl rfl rfl ?_
    simp only [sCA, sNA]
    refine WR.ev (vs := [.i x.client, .i x.seq, .i x.act, .l (dL x.args)]) (ev_toPlnCall x (hf.2 x hm)) rfl rfl rfl ?_
    simp only [sCA, sNA]
    refine WR.atN (vs := [.i 0, .i 0, .i 0, .l []]) (ds := (dCs l).take i ++ List.replicate ((dCs l).length - i) (Cal.g ⟨0, 0, 0, []⟩)) i (fill_at h) rfl rfl rfl rfl rfl rfl ?_
    refine WR.nextA (vs := [.l ((dCs l).take (i + 1) ++ List.replicate ((dCs l).length - (i + 1)) (Cal.g ⟨0, 0, 0, []⟩)), .i ((i + 1 : Nat) : Int)]) ?_ ⟨h, rfl, trivial⟩
    show [V.l (((dCs l).take i ++ List.replicate ((dCs l).length - i) (Cal.g ⟨0, 0, 0, []⟩)).set (i : Int).toNat (Cal.g x)), V.i (IntKind.i64.wrap ((i : Int) + 1))] = _
    rw [wS h (by omega), Int.toNat_natCast, fill_set (es := dCs l) (map_at (f := Cal.g) hx)]
  · show [D.s ((dCs l).take i ++ List.replicate ((dCs l).length - i) (Cal.g ⟨0, 0, 0, []⟩))] = _
    rw [fill_end h]
theorem ev_toResResult (c : Int) (t : List Int) (ht : t.length ≤ 2000000) : Ev L f_kk [dI c, .s (dL t)] [dI c, .s (dL t)] := by
  refine Ev.eq (vs := [.i c, .l (dL t)]) L_kk rfl ?_
  exact WR.ev (vs := [.l (dL t)]) (ev_toIntS t ht) rfl rfl rfl (WR.done rfl)
theorem ev_toPlnDone (x : Don) (hf : fitDon x) : Ev L f_kl x.cells x.cells := by
  refine Ev.eq (vs := [.i x.seq, .i x.code, .l (dL x.tells)]) L_kl rfl ?_
  refine WR.ev (vs := [.i x.code, .l (dL x.tells)]) (ev_toResResult x.code x.tells hf) rfl rfl rfl ?_
  simp only [sCA, sNA]
  exact WR.done rfl
theorem ev_toPlnDoneS (l : List Don) (hf : fitL fitDon l) : Ev L f_km [.s (dDs l)] [.s (dDs l)] := by
  refine Ev.eq (vs := [.l (dDs l)]) L_km rfl ?_
  have hlen : (dDs l).length = l.length := by simp [dDs]
  have hl := hf.1
  refine WR.chk (by show decide ((0 : Int) ≤ ((dDs l).length : Int)) = true; simp) ?_
  refine WR.chkN (dDs l) 2000000 (by omega) (by omega) rfl ?_
  refine WR.forP (dDs l).length (fun i => [.l ((dDs l).take i ++ List.replicate ((dDs l).length - i) (Don.g ⟨0, 0, []⟩)), .i i]) (fun _ => True) rfl ?_ trivial fun i hi _ => ?_
  · show [V.l (List.replicate ((dDs l).length : Int).toNat (Don.g ⟨0, 0, []⟩)), V.i 0] = _
    simp
  simp only [sCA, sNA]
  refine WR.iteLen i (ds := dDs l) rfl rfl (fun h => ?_) (fun h => WR.esc (WR.done ?_))
  · obtain ⟨x, hx, hm⟩ := some_at (show i < l.length by omega)
    refine WR.idxN (vs := [.i x.seq, .i x.code, .l (dL x.tells)]) i (map_at (f := Don.g) hx) rfl rfl rfl rfl ?_
    simp only [sCA, sNA]
    refine WR.ev (vs := [.i x.seq, .i x.code, .l (dL x.tells)]) (ev_toPlnDone x (hf.2 x hm)) rfl rfl rfl ?_
    simp only [sCA, sNA]
    refine WR.atN (vs := [.i 0, .i 0, .l []]) (ds := (dDs l).take i ++ List.replicate ((dDs l).length - i) (Don.g ⟨0, 0, []⟩)) i (fill_at h) rfl rfl rfl rfl rfl rfl ?_
    refine WR.nextA (vs := [.l ((dDs l).take (i + 1) ++ List.replicate ((dDs l).length - (i + 1)) (Don.g ⟨0, 0, []⟩)), .i ((i + 1 : Nat) : Int)]) ?_ ⟨h, rfl, trivial⟩
    show [V.l (((dDs l).take i ++ List.replicate ((dDs l).length - i) (Don.g ⟨0, 0, []⟩)).set (i : Int).toNat (Don.g x)), V.i (IntKind.i64.wrap ((i : Int) + 1))] = _
    rw [wS h (by omega), Int.toNat_natCast, fill_set (es := dDs l) (map_at (f := Don.g) hx)]
  · show [D.s ((dDs l).take i ++ List.replicate ((dDs l).length - i) (Don.g ⟨0, 0, []⟩))] = _
    rw [fill_end h]
theorem ev_toClkGot (x : Got) (hf : fitGot x) : Ev L f_kp x.cells x.cells := by
  refine Ev.eq (vs := [.b x.has, .l (dL x.added), .l (dL x.seqs)]) L_kp rfl ?_
  refine WR.ev (vs := [.l (dL x.added)]) (ev_toIntS x.added hf.1) rfl rfl rfl ?_
  simp only [sCA, sNA]
  refine WR.ev (vs := [.l (dL x.seqs)]) (ev_toIntS x.seqs hf.2) rfl rfl rfl ?_
  simp only [sCA, sNA]
  exact WR.done rfl
theorem ev_toClkGotS (l : List Got) (hf : fitL fitGot l) : Ev L f_kq [.s (dGs l)] [.s (dGs l)] := by
  refine Ev.eq (vs := [.l (dGs l)]) L_kq rfl ?_
  have hlen : (dGs l).length = l.length := by simp [dGs]
  have hl := hf.1
  refine WR.chk (by show decide ((0 : Int) ≤ ((dGs l).length : Int)) = true; simp) ?_
  refine WR.chkN (dGs l) 2000000 (by omega) (by omega) rfl ?_
  refine WR.forP (dGs l).length (fun i => [.l ((dGs l).take i ++ List.replicate ((dGs l).length - i) (Got.g ⟨false, [], []⟩)), .i i]) (fun _ => True) rfl ?_ trivial fun i hi _ => ?_
  · show [V.l (List.replicate ((dGs l).length : Int).toNat (Got.g ⟨false, [], []⟩)), V.i 0] = _
    simp
  simp only [sCA, sNA]
  refine WR.iteLen i (ds := dGs l) rfl rfl (fun h => ?_) (fun h => WR.esc (WR.done ?_))
  · obtain ⟨x, hx, hm⟩ := some_at (show i < l.length by omega)
    refine WR.idxN (vs := [.b x.has, .l (dL x.added), .l (dL x.seqs)]) i (map_at (f := Got.g) hx) rfl rfl rfl rfl ?_
    simp only [sCA, sNA]
    refine WR.ev (vs := [.b x.has, .l (dL x.added), .l (dL x.seqs)]) (ev_toClkGot x (hf.2 x hm)) rfl rfl rfl ?_
    simp only [sCA, sNA]
    refine WR.atN (vs := [.b false, .l [], .l []]) (ds := (dGs l).take i ++ List.replicate ((dGs l).length - i) (Got.g ⟨false, [], []⟩)) i (fill_at h) rfl rfl rfl rfl rfl rfl ?_
    refine WR.nextA (vs := [.l ((dGs l).take (i + 1) ++ List.replicate ((dGs l).length - (i + 1)) (Got.g ⟨false, [], []⟩)), .i ((i + 1 : Nat) : Int)]) ?_ ⟨h, rfl, trivial⟩
    show [V.l (((dGs l).take i ++ List.replicate ((dGs l).length - i) (Got.g ⟨false, [], []⟩)).set (i : Int).toNat (Got.g x)), V.i (IntKind.i64.wrap ((i : Int) + 1))] = _
    rw [wS h (by omega), Int.toNat_natCast, fill_set (es := dGs l) (map_at (f := Got.g) hx)]
  · show [D.s ((dGs l).take i ++ List.replicate ((dGs l).length - i) (Got.g ⟨false, [], []⟩))] = _
    rw [fill_end h]
theorem fitClk_of {x : Clk} (h : szClk x ≤ 1048576) : fitClk x := by
  unfold szClk at h
  have hd := fitL_of (f := szDon) (p := fitDon) (fun _ => fitDon_of) (l := x.done) (by omega)
  have hc := fitL_of (f := szCal) (p := fitCal) (fun _ => fitCal_of) (l := x.wants) (by omega)
  have hg := fitL_of (f := szGot) (p := fitGot) (fun _ => fitGot_of) (l := x.got) (by omega)
  exact ⟨by omega, hd.1, hd.2, hc.1, hc.2, hg.1, hg.2⟩
theorem ev_toClkClerk (x : Clk) (hf : fitClk x) : Ev L f_kr x.cells x.cells := by
  refine Ev.eq (vs := [.b x.up, .i x.round, .l (dL x.base), .l (dDs x.done), .l (dCs x.wants), .l (dGs x.got)]) L_kr rfl ?_
  refine WR.ev (vs := [.l (dL x.base)]) (ev_toIntS x.base hf.b) rfl rfl rfl ?_
  refine WR.ev (vs := [.l (dDs x.done)]) (ev_toPlnDoneS x.done ⟨hf.d, hf.dt⟩) rfl rfl rfl ?_
  refine WR.ev (vs := [.l (dCs x.wants)]) (ev_toPlnCallS x.wants ⟨hf.c, hf.ct⟩) rfl rfl rfl ?_
  refine WR.ev (vs := [.l (dGs x.got)]) (ev_toClkGotS x.got ⟨hf.g, hf.gt⟩) rfl rfl rfl ?_
  exact WR.done rfl
abbrev tyCal : Ty := .st [.i .i64, .i .i64, .i .i64, tyInts]
abbrev tyRes : Ty := .st [.i .i64, tyInts]
abbrev tyDon : Ty := .st [.i .i64, tyRes]
abbrev tyGot : Ty := .st [.b, tyInts, tyInts]
abbrev tyClk : Ty := .st [.b, .i .i64, tyInts, .sl tyDon, .sl tyCal, .sl tyGot]
theorem cal_of {ds : List D} (h : TySh tyCal ds) : ∃ x : Cal, ds = x.cells ∧ bigCal x := by
  obtain ⟨_, _, rfl, ⟨a, rfl⟩, _, _, rfl, ⟨b, rfl⟩, _, _, rfl, ⟨c, rfl⟩, _, _, rfl, h1, rfl⟩ := h
  obtain ⟨l, rfl, hl⟩ := ints_of h1
  exact ⟨⟨a, b, c, l⟩, rfl, hl⟩
theorem don_of {ds : List D} (h : TySh tyDon ds) : ∃ x : Don, ds = x.cells ∧ bigDon x := by
  obtain ⟨_, _, rfl, ⟨a, rfl⟩, _, _, rfl, ⟨_, _, rfl, ⟨b, rfl⟩, _, _, rfl, h1, rfl⟩, rfl⟩ := h
  obtain ⟨l, rfl, hl⟩ := ints_of h1
  exact ⟨⟨a, b, l⟩, rfl, hl⟩
theorem got_of {ds : List D} (h : TySh tyGot ds) : ∃ x : Got, ds = x.cells ∧ bigGot x := by
  obtain ⟨_, _, rfl, ⟨a, rfl⟩, _, _, rfl, h1, _, _, rfl, h2, rfl⟩ := h
  obtain ⟨l, rfl, hl⟩ := ints_of h1
  obtain ⟨m, rfl, hm⟩ := ints_of h2
  exact ⟨⟨a, l, m⟩, rfl, hl, hm⟩
theorem dons_of {ds : List D} (h : TySh (.sl tyDon) ds) : ∃ l, ds = [.s (dDs l)] ∧ bigL bigDon l := by
  obtain ⟨es, rfl, hl, he⟩ := h
  obtain ⟨l, rfl, hp⟩ := map_ex (f := Don.g) (p := bigDon) fun x hx => by
    obtain ⟨cs, h1, rfl⟩ := he x hx
    obtain ⟨l, rfl, hf⟩ := don_of h1
    exact ⟨l, hf, rfl⟩
  exact ⟨l, rfl, by rw [List.length_map] at hl; unfold maxLen at hl; omega, hp⟩
theorem cals_of {ds : List D} (h : TySh (.sl tyCal) ds) : ∃ l, ds = [.s (dCs l)] ∧ bigL bigCal l := by
  obtain ⟨es, rfl, hl, he⟩ := h
  obtain ⟨l, rfl, hp⟩ := map_ex (f := Cal.g) (p := bigCal) fun x hx => by
    obtain ⟨cs, h1, rfl⟩ := he x hx
    obtain ⟨l, rfl, hf⟩ := cal_of h1
    exact ⟨l, hf, rfl⟩
  exact ⟨l, rfl, by rw [List.length_map] at hl; unfold maxLen at hl; omega, hp⟩
theorem gots_of {ds : List D} (h : TySh (.sl tyGot) ds) : ∃ l, ds = [.s (dGs l)] ∧ bigL bigGot l := by
  obtain ⟨es, rfl, hl, he⟩ := h
  obtain ⟨l, rfl, hp⟩ := map_ex (f := Got.g) (p := bigGot) fun x hx => by
    obtain ⟨cs, h1, rfl⟩ := he x hx
    obtain ⟨l, rfl, hf⟩ := got_of h1
    exact ⟨l, hf, rfl⟩
  exact ⟨l, rfl, by rw [List.length_map] at hl; unfold maxLen at hl; omega, hp⟩
theorem clk_of {ds : List D} (h : TySh tyClk ds) : ∃ x : Clk, ds = x.cells ∧ bigClk x := by
  obtain ⟨_, _, rfl, ⟨a, rfl⟩, _, _, rfl, ⟨b, rfl⟩, _, _, rfl, h1, _, _, rfl, h2, _, _, rfl, h3, _, _, rfl, h4, rfl⟩ := h
  obtain ⟨l, rfl, hl⟩ := ints_of h1
  obtain ⟨d, rfl, hd⟩ := dons_of h2
  obtain ⟨c, rfl, hc⟩ := cals_of h3
  obtain ⟨g, rfl, hg⟩ := gots_of h4
  exact ⟨⟨a, b, l, d, c, g⟩, rfl, hl, hd, hc, hg⟩
end Go.Proofs.YtdibnlhlngodeaaGreatDoor
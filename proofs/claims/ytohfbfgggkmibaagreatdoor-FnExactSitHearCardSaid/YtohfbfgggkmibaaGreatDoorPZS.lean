import Derived.Test.YtohfbfgggkmibaaGreatDoorPN
import Derived.Test.YtohfbfgggkmibaaGreatDoorTd
import Derived.Laws.Strings
import Derived.Lib.ItoaLen
import Derived.Test.YtohfbfgggkmibaaGreatDoorPZM
set_option linter.unusedVariables false
set_option linter.unusedSimpArgs false
/- Results as texts: which of them are ok. -/
namespace Go.Proofs.YtohfbfgggkmibaaGreatDoor
open Go Go.Tm
def resOk (c : Int) (t : List Int) : Bool := inB c 1 3 && (decide (t.length ≤ 6) && ((decide (c = 1) || t.isEmpty) && allIn t.length 999999999999 t))
theorem resOk_iff {c : Int} {t : List Int} : resOk c t = true ↔ (1 ≤ c ∧ c ≤ 3) ∧ t.length ≤ 6 ∧ (c = 1 ∨ t = []) ∧ Lim 999999999999 t := by
  unfold resOk inB
  simp only [Bool.and_eq_true,Bool.or_eq_true,decide_eq_true_eq,List.isEmpty_iff,allIn_iff]
  exact ⟨fun h => ⟨h.1,h.2.1,h.2.2.1,h.2.2.2.2⟩,fun h => ⟨h.1,h.2.1,h.2.2.1,trivial,h.2.2.2⟩⟩
def wordsB : List (List UInt8) := [[],[100,111,110,101],[115,116,111,112,112,101,100],[111,118,101,114]]
def resB (c : Int) (t : List Int) : List UInt8 := if resOk c t then wordsB.getD c.toNat [] ++ joinB t else []
theorem ba_app (a b : List UInt8) : (⟨a.toArray⟩ : ByteArray) ++ ⟨b.toArray⟩ = ⟨(a ++ b).toArray⟩ := by
  apply ByteArray.ext
  simp
theorem cat_str {a b : List UInt8} (h : a.length + b.length ≤ 1000000) : primF .cat [strD a,strD b] = some (strD (a ++ b)) := by
  show (if (⟨a.toArray⟩ : ByteArray).size + (⟨b.toArray⟩ : ByteArray).size ≤ 2 ^ 62 then some (D.v (.string ((⟨a.toArray⟩ : ByteArray) ++ ⟨b.toArray⟩))) else none) = _
  rw [if_pos,ba_app]
  · rfl
  show a.toArray.size + b.toArray.size ≤ 2 ^ 62
  simp only [List.size_toArray]
  omega
theorem seq_str (a b : List UInt8) : primF .seq [strD a,strD b] = some (dB (a == b)) := by
  show some (D.v (.bool ((⟨a.toArray⟩ : ByteArray).toList == (⟨b.toArray⟩ : ByteArray).toList))) = _
  rw [ByteArray.toList_mk,ByteArray.toList_mk]
theorem joinB_le (t : List Int) (hl : Lim 999999999999 t) : (joinB t).length ≤ 22 * t.length := by
  induction t with
  | nil => simp [joinB]
  | cons n l ih =>
    have h1 := hl n (by simp)
    have h2 := Lib.itoa_length_le n (by omega) (by omega)
    have h3 := ih fun m hm => hl m (by simp [hm])
    simp only [joinB,List.flatMap_cons,List.length_append,List.length_cons] at h3 ⊢
    omega
theorem word_at {c : Int} (h : inB c 1 3 = true) : wordsB[c.toNat]? = some (wordsB.getD c.toNat []) ∧ wordsB.getD c.toNat [] ≠ [] ∧ (wordsB.getD c.toNat []).length ≤ 7 := by
  unfold inB at h
  simp only [Bool.and_eq_true,decide_eq_true_eq] at h
  rcases (show c = 1 ∨ c = 2 ∨ c = 3 by omega) with rfl | rfl | rfl <;> exact ⟨rfl,by decide,by decide⟩
theorem resB_empty (c : Int) (t : List Int) : (resB c t == []) = !resOk c t := by
  unfold resB
  split
  · rename_i h
    have hin : inB c 1 3 = true := by unfold resOk at h; simp only [Bool.and_eq_true] at h; exact h.1
    have := (word_at hin).2.1
    rw [h]
    have h2 : wordsB.getD c.toNat [] ++ joinB t ≠ [] := fun e => this (List.append_eq_nil_iff.1 e).1
    generalize wordsB.getD c.toNat [] ++ joinB t = l at h2
    cases l with
    | nil => exact absurd rfl h2
    | cons x l => rfl
  · rename_i h
    simp [h]
theorem ev_joined (t : List Int) (h6 : t.length ≤ 6) (hl : Lim 999999999999 t) : Ev L f_k3s [.s (dL t)] [strD (joinB t)] := by
  refine Ev.m L_k3s ?_
  show (if (dL t).length ≤ 4096 then ((dL t).mapM i64D).map fun l => [strD (joinB l)] else none) = _
  have e : (dL t).mapM i64D = some t := mapM_i64_of fun n hn => by have := hl n hn; omega
  rw [if_pos (by rw [dL_len]; omega),e]
  rfl
theorem ev_codeWords : Ev L f_k3r [] [.s (wordsB.map strD)] :=
  Ev.eq (vs := []) L_k3r rfl (WR.done rfl)
theorem ev_iResText (c : Int) (t : List Int) (ht : t.length ≤ 2000000) : Ev L f_k3t [dI c,.s (dL t)] [strD (resB c t)] := by
  refine Ev.eq (vs := [.i c,.l (dL t)]) L_k3t rfl ?_
  have no : resOk c t = false → ([strD []] : List D) = [strD (resB c t)] := fun h => by simp [resB,h]
  refine WR.ev (ev_in c 1 3) rfl rfl rfl ?_
  refine WR.iteN (inB c 1 3) rfl (fun h => WR.done (no (by simp [resOk,h]))) (fun h1 => ?_)
  refine WR.iteP (6 < ((dL t).length : Int)) rfl (fun h => WR.done (no ?_)) (fun h2 => ?_)
  · rw [dL_len] at h
    simp only [resOk,show ¬ t.length ≤ 6 by omega,decide_false,Bool.false_and,Bool.and_false]
  rw [dL_len] at h2
  obtain ⟨w1,_,w3⟩ := word_at h1
  have hidx : (wordsB.map strD)[c.toNat]? = some (strD (wordsB.getD c.toNat [])) := by rw [List.getElem?_map,w1]; rfl
  have hc0 : 0 ≤ c := by unfold inB at h1; simp only [Bool.and_eq_true,decide_eq_true_eq] at h1; omega
  have hc4 : c < ((wordsB.map strD).length : Int) := by unfold inB at h1; simp only [Bool.and_eq_true,decide_eq_true_eq] at h1; show c < 4; omega
  have hwn := ev_within t t.length 999999999999 ht (by omega) (by omega)
  refine WR.iteN (decide (c = 1)) rfl (fun h3 => ?_) (fun h3 => ?_)
  · refine WR.iteP (0 < ((dL t).length : Int)) rfl (fun h => WR.done (no ?_)) (fun h4 => ?_)
    · rw [dL_len] at h
      have : t.isEmpty = false := by cases t with
        | nil => simp at h
        | cons x t => rfl
      simp only [resOk,h3,this,Bool.or_false,Bool.false_and,Bool.and_false]
    · rw [dL_len] at h4
      have h4 : t = [] := List.length_eq_zero_iff.1 (by omega)
      refine WR.ev hwn rfl (by show [D.s (dL t),dI ((dL t).length : Int),dI 999999999999] = _; rw [dL_len]) rfl ?_
      refine WR.iteN (allIn t.length 999999999999 t) rfl (fun h => WR.done (no (by simp only [resOk,h,Bool.and_false]))) (fun h5 => ?_)
      have hl := (allIn_iff.1 h5).2
      have hj := joinB_le t hl
      have hok : resOk c t = true := by simp only [resOk,h1,h5,h4,List.length_nil,List.isEmpty_nil,Bool.or_true,Bool.true_and]; simp [allIn]
      have e : strD (resB c t) = strD (wordsB.getD c.toNat [] ++ joinB t) := by simp only [resB,hok,if_true]
      rw [e]
      refine WR.ev ev_codeWords rfl rfl rfl ?_
      refine WR.chkP (0 ≤ c) rfl hc0 (WR.chkP (c < ((wordsB.map strD).length : Int)) rfl hc4 ?_)
      refine WR.idxA (ds := wordsB.map strD) c rfl rfl rfl hc0 hidx rfl ?_
      refine WR.ev (ev_joined t (by omega) hl) rfl rfl rfl ?_
      refine WR.prim rfl (cat_str (by omega)) rfl (WR.done rfl)
  · refine WR.ev hwn rfl (by show [D.s (dL t),dI ((dL t).length : Int),dI 999999999999] = _; rw [dL_len]) rfl ?_
    refine WR.iteN (allIn t.length 999999999999 t) rfl (fun h => WR.done (no (by simp only [resOk,h,Bool.and_false]))) (fun h5 => ?_)
    have hl := (allIn_iff.1 h5).2
    have hj := joinB_le t hl
    have hok : resOk c t = true := by simp only [resOk,h1,h5,h3,Bool.true_or,Bool.true_and,Bool.and_true]; simp; omega
    have e : strD (resB c t) = strD (wordsB.getD c.toNat [] ++ joinB t) := by simp only [resB,hok,if_true]
    rw [e]
    refine WR.ev ev_codeWords rfl rfl rfl ?_
    refine WR.chkP (0 ≤ c) rfl hc0 (WR.chkP (c < ((wordsB.map strD).length : Int)) rfl hc4 ?_)
    refine WR.idxA (ds := wordsB.map strD) c rfl rfl rfl hc0 hidx rfl ?_
    refine WR.ev (ev_joined t (by omega) hl) rfl rfl rfl ?_
    refine WR.prim rfl (cat_str (by omega)) rfl (WR.done rfl)
theorem ev_iResOk (c : Int) (t : List Int) (ht : t.length ≤ 2000000) : Ev L f_k3u [dI c,.s (dL t)] [dB (resOk c t)] := by
  refine Ev.eq (vs := [.i c,.l (dL t)]) L_k3u rfl ?_
  refine WR.ev (ev_iResText c t ht) rfl rfl rfl ?_
  refine WR.prim rfl (seq_str (resB c t) []) rfl (WR.done ?_)
  show [dB (!(resB c t == []))] = _
  rw [resB_empty,Bool.not_not]
end Go.Proofs.YtohfbfgggkmibaaGreatDoor
/- Sizes and copies of calls,of what was done,of sites,clerks and messages: over residual programs. -/
namespace Go.Proofs.YtohfbfgggkmibaaGreatDoor
open Go Go.Tm
def szL {α : Type} (f : α → Nat) (l : List α) : Nat := l.length + (l.map f).sum
theorem szL_succ {α : Type} (f : α → Nat) {l : List α} {i : Nat} {x : α} (h : l[i]? = some x) : ((l.take (i + 1)).map f).sum = ((l.take i).map f).sum + f x := by rw [map_take_succ h]; simp
theorem szL_split {α : Type} (f : α → Nat) (l : List α) (i : Nat) : szL f l = l.length + ((l.take i).map f).sum + ((l.drop i).map f).sum := by
  unfold szL
  conv => lhs; rw [← List.take_append_drop i l,List.map_append,List.sum_append,List.take_append_drop]
  omega
theorem szL_len {α : Type} (f : α → Nat) (l : List α) : l.length ≤ szL f l := by unfold szL; omega
theorem szL_mem {α : Type} (f : α → Nat) {l : List α} {x : α} (h : x ∈ l) : f x ≤ szL f l := by
  have : f x ≤ (l.map f).sum := by
    induction l with
    | nil => simp at h
    | cons y l ih =>
      simp only [List.map_cons,List.sum_cons]
      rcases List.mem_cons.1 h with rfl | h
      · omega
      · have := ih h; omega
  unfold szL; omega
def bigL {α : Type} (f : α → Prop) (l : List α) : Prop := l.length ≤ 9223372036854775807 ∧ ∀ x ∈ l,f x
def fitL {α : Type} (f : α → Prop) (l : List α) : Prop := l.length ≤ 2000000 ∧ ∀ x ∈ l,f x
theorem fitL_of {α : Type} {f : α → Nat} {p : α → Prop} (hp : ∀ x,f x ≤ 1048576 → p x) {l : List α} (h : szL f l ≤ 1048576) : fitL p l :=
  ⟨by have := szL_len f l; omega,fun x hx => hp x (by have := szL_mem f hx; omega)⟩
def szCal (x : Cal) : Nat := x.args.length
def bigCal (x : Cal) : Prop := x.args.length ≤ 9223372036854775807
def fitCal (x : Cal) : Prop := x.args.length ≤ 2000000
def szDon (x : Don) : Nat := x.tells.length
def bigDon (x : Don) : Prop := x.tells.length ≤ 9223372036854775807
def fitDon (x : Don) : Prop := x.tells.length ≤ 2000000
theorem fitDon_of {x : Don} (h : szDon x ≤ 1048576) : fitDon x := by
  unfold szDon at h
  exact by show _ ≤ _; omega
theorem ev_szPlnCall (x : Cal) (left : Int) (hb : bigCal x) (h0 : 0 ≤ left) (h1 : left ≤ 1048576) : Ev L f_ka (x.cells ++ [dI left]) [dI (dec left (szCal x))] := by
  refine Ev.eq (vs := [.i x.client,.i x.seq,.i x.act,.l (dL x.args),.i left]) L_ka rfl ?_
  refine WR.ev (ev_szIntS x.args left hb h0 h1) rfl rfl rfl ?_
  simp only [sCA,sNA]
  have hr0 := dec_room (n := x.args.length) h0 h1
  refine WR.iteP (dec left (x.args.length) < 0) rfl (fun h => WR.done ?_) (fun h => WR.done rfl)
  show [dI (-1)] = [dI (dec left (szCal x))]
  have e : dec left (szCal x) = dec left (x.args.length) := rfl
  rw [e,show dec left (x.args.length) = -1 by omega]
theorem ev_szResResult (c : Int) (t : List Int) (left : Int) (hb : t.length ≤ 9223372036854775807) (h0 : 0 ≤ left) (h1 : left ≤ 1048576) : Ev L f_k6 [dI c,.s (dL t),dI left] [dI (dec left t.length)] := by
  refine Ev.eq (vs := [.i c,.l (dL t),.i left]) L_k6 rfl ?_
  refine WR.ev (ev_szIntS t left hb h0 h1) rfl rfl rfl ?_
  have hr := dec_room (n := t.length) h0 h1
  refine WR.iteP (dec left t.length < 0) rfl (fun h => WR.done ?_) (fun h => WR.done rfl)
  show [dI (-1)] = _
  rw [show dec left t.length = -1 by omega]
theorem ev_szPlnDone (x : Don) (left : Int) (hb : bigDon x) (h0 : 0 ≤ left) (h1 : left ≤ 1048576) : Ev L f_k7 (x.cells ++ [dI left]) [dI (dec left (szDon x))] := by
  refine Ev.eq (vs := [.i x.seq,.i x.code,.l (dL x.tells),.i left]) L_k7 rfl ?_
  refine WR.ev (ev_szResResult x.code x.tells left hb h0 h1) rfl rfl rfl ?_
  simp only [sCA,sNA]
  have hr0 := dec_room (n := x.tells.length) h0 h1
  refine WR.iteP (dec left (x.tells.length) < 0) rfl (fun h => WR.done ?_) (fun h => WR.done rfl)
  show [dI (-1)] = [dI (dec left (szDon x))]
  have e : dec left (szDon x) = dec left (x.tells.length) := rfl
  rw [e,show dec left (x.tells.length) = -1 by omega]
theorem ev_szPlnDoneS (l : List Don) (left : Int) (hb : bigL bigDon l) (h0 : 0 ≤ left) (h1 : left ≤ 1048576) : Ev L f_k8 [.s (dDs l),dI left] [dI (dec left (szL szDon l))] := by
  refine Ev.eq (vs := [.l (dDs l),.i left]) L_k8 rfl ?_
  have hlen : (dDs l).length = l.length := by simp [dDs]
  have hl := hb.1
  have hw : IntKind.i64.wrap (left - ((dDs l).length : Int)) = left - l.length := by rw [hlen]; exact w64 (by omega) (by omega)
  refine WR.iteP (left - (l.length : Int) < 0) ?_ (fun h => WR.done ?_) (fun h => ?_)
  · show decide (IntKind.i64.wrap (left - ((dDs l).length : Int)) < 0) = _
    rw [hw]
  · show [dI (-1)] = _
    unfold dec szL; rw [if_neg (by omega)]
  have hal : l.length ≤ 1048576 := by omega
  refine WR.forP l.length (fun i => [.i (dec left (l.length + ((l.take i).map szDon).sum)),.i i]) (fun i => ¬ dec left (l.length + ((l.take i).map szDon).sum) < 0) rfl ?_ ?_ fun i hi hp => ?_
  · show [V.i (IntKind.i64.wrap (left - ((dDs l).length : Int))),V.i 0] = _
    rw [hw]
    simp only [List.take_zero,List.map_nil,List.sum_nil,Nat.add_zero]
    unfold dec; rw [if_pos (by omega)]; rfl
  · simp only [List.take_zero,List.map_nil,List.sum_nil,Nat.add_zero]
    unfold dec; rw [if_pos (by omega)]; omega
  simp only [sCA,sNA]
  have hr := dec_room (n := l.length + ((l.take i).map szDon).sum) h0 h1
  refine WR.iteLen i hlen rfl (fun h' => ?_) (fun h' => WR.esc (WR.done ?_))
  · obtain ⟨x,hx,hm⟩ := some_at h'
    refine WR.idxN (vs := [.i x.seq,.i x.code,.l (dL x.tells)]) i (map_at (f := Don.g) hx) rfl rfl rfl rfl ?_
    simp only [sCA,sNA]
    refine WR.ev (ev_szPlnDone x (dec left (l.length + ((l.take i).map szDon).sum)) (hb.2 x hm) (by omega) (by omega)) rfl rfl rfl ?_
    simp only [sCA,sNA]
    have e := dec_dec (m := szDon x) hp
    rw [Nat.add_assoc,← szL_succ szDon hx] at e
    rw [e]
    refine WR.iteP (dec left (l.length + ((l.take (i + 1)).map szDon).sum) < 0) rfl (fun h2 => WR.esc (WR.done ?_)) (fun h2 => ?_)
    · show [dI (-1)] = _
      rw [szL_split szDon l (i + 1),dec_lt h2 h0]
    · refine WR.nextA (vs := [.i (dec left (l.length + ((l.take (i + 1)).map szDon).sum)),.i ((i + 1 : Nat) : Int)]) ?_ ⟨h',rfl,h2⟩
      rw [← wS h' (by omega)]; rfl
  · show [dI (dec left (l.length + ((l.take i).map szDon).sum))] = _
    rw [take_all h']; rfl
def szSit (x : Sit) : Nat := x.base.length + x.added.length + szL szDon x.done
def bigSit (x : Sit) : Prop := x.base.length ≤ 9223372036854775807 ∧ x.added.length ≤ 9223372036854775807 ∧ bigL bigDon x.done
theorem ev_szSitSite (x : Sit) (left : Int) (hb : bigSit x) (h0 : 0 ≤ left) (h1 : left ≤ 1048576) : Ev L f_k9 (x.cells ++ [dI left]) [dI (dec left (szSit x))] := by
  refine Ev.eq (vs := [.b x.up,.b x.frozen,.i x.round,.l (dL x.base),.l (dL x.added),.l (dDs x.done),.i left]) L_k9 rfl ?_
  refine WR.ev (ev_szIntS x.base left hb.1 h0 h1) rfl rfl rfl ?_
  simp only [sCA,sNA]
  have hr0 := dec_room (n := x.base.length) h0 h1
  refine WR.iteP (dec left (x.base.length) < 0) rfl (fun h => WR.done ?_) (fun h => ?_)
  · show [dI (-1)] = _
    rw [show szSit x = x.base.length + (x.added.length + szL szDon x.done) by unfold szSit; omega,dec_lt h h0]
  refine WR.ev (ev_szIntS x.added (dec left (x.base.length)) hb.2.1 (by omega) (by omega)) rfl rfl rfl ?_
  simp only [sCA,sNA]
  have hr1 := dec_room (n := x.base.length + x.added.length) h0 h1
  rw [dec_dec h]
  refine WR.iteP (dec left (x.base.length + x.added.length) < 0) rfl (fun h => WR.done ?_) (fun h => ?_)
  · show [dI (-1)] = _
    rw [show szSit x = x.base.length + x.added.length + (szL szDon x.done) by unfold szSit; omega,dec_lt h h0]
  refine WR.ev (ev_szPlnDoneS x.done (dec left (x.base.length + x.added.length)) hb.2.2 (by omega) (by omega)) rfl rfl rfl ?_
  simp only [sCA,sNA]
  have hr2 := dec_room (n := x.base.length + x.added.length + szL szDon x.done) h0 h1
  rw [dec_dec h]
  refine WR.iteP (dec left (x.base.length + x.added.length + szL szDon x.done) < 0) rfl (fun h => WR.done ?_) (fun h => WR.done rfl)
  show [dI (-1)] = [dI (dec left (szSit x))]
  have e : dec left (szSit x) = dec left (x.base.length + x.added.length + szL szDon x.done) := rfl
  rw [e,show dec left (x.base.length + x.added.length + szL szDon x.done) = -1 by omega]
structure Msg where
  kind : Int
  to : Int
  frm : Int
  round : Int
  call : Cal
  vals : List Int
  seqs : List Int
  done : List Don
  deriving DecidableEq
def Msg.cells (x : Msg) : List D := [dI x.kind,dI x.to,dI x.frm,dI x.round,dI x.call.client,dI x.call.seq,dI x.call.act,.s (dL x.call.args),.s (dL x.vals),.s (dL x.seqs),.s (dDs x.done)]
def Msg.g (x : Msg) : D := .g x.cells
def szMsg (x : Msg) : Nat := x.call.args.length + x.vals.length + x.seqs.length + szL szDon x.done
def bigMsg (x : Msg) : Prop := x.call.args.length ≤ 9223372036854775807 ∧ x.vals.length ≤ 9223372036854775807 ∧ x.seqs.length ≤ 9223372036854775807 ∧ bigL bigDon x.done
def fitMsg (x : Msg) : Prop := x.call.args.length ≤ 2000000 ∧ x.vals.length ≤ 2000000 ∧ x.seqs.length ≤ 2000000 ∧ fitL fitDon x.done
theorem fitMsg_of {x : Msg} (h : szMsg x ≤ 1048576) : fitMsg x := by
  unfold szMsg at h
  exact ⟨by omega,by omega,by omega,fitL_of (f := szDon) (p := fitDon) (fun _ => fitDon_of) (by omega)⟩
theorem ev_szMsgMsg (x : Msg) (left : Int) (hb : bigMsg x) (h0 : 0 ≤ left) (h1 : left ≤ 1048576) : Ev L f_kb (x.cells ++ [dI left]) [dI (dec left (szMsg x))] := by
  refine Ev.eq (vs := [.i x.kind,.i x.to,.i x.frm,.i x.round,.i x.call.client,.i x.call.seq,.i x.call.act,.l (dL x.call.args),.l (dL x.vals),.l (dL x.seqs),.l (dDs x.done),.i left]) L_kb rfl ?_
  refine WR.ev (ev_szPlnCall x.call left hb.1 h0 h1) rfl rfl rfl ?_
  simp only [sCA,sNA]
  have hr0 := dec_room (n := x.call.args.length) h0 h1
  refine WR.iteP (dec left (x.call.args.length) < 0) rfl (fun h => WR.done ?_) (fun h => ?_)
  · show [dI (-1)] = _
    rw [show szMsg x = x.call.args.length + (x.vals.length + x.seqs.length + szL szDon x.done) by unfold szMsg; omega,dec_lt h h0]
  refine WR.ev (ev_szIntS x.vals (dec left (x.call.args.length)) hb.2.1 (by omega) (by omega)) rfl rfl rfl ?_
  simp only [sCA,sNA]
  have hr1 := dec_room (n := x.call.args.length + x.vals.length) h0 h1
  rw [dec_dec h]
  refine WR.iteP (dec left (x.call.args.length + x.vals.length) < 0) rfl (fun h => WR.done ?_) (fun h => ?_)
  · show [dI (-1)] = _
    rw [show szMsg x = x.call.args.length + x.vals.length + (x.seqs.length + szL szDon x.done) by unfold szMsg; omega,dec_lt h h0]
  refine WR.ev (ev_szIntS x.seqs (dec left (x.call.args.length + x.vals.length)) hb.2.2.1 (by omega) (by omega)) rfl rfl rfl ?_
  simp only [sCA,sNA]
  have hr2 := dec_room (n := x.call.args.length + x.vals.length + x.seqs.length) h0 h1
  rw [dec_dec h]
  refine WR.iteP (dec left (x.call.args.length + x.vals.length + x.seqs.length) < 0) rfl (fun h => WR.done ?_) (fun h => ?_)
  · show [dI (-1)] = _
    rw [show szMsg x = x.call.args.length + x.vals.length + x.seqs.length + (szL szDon x.done) by unfold szMsg; omega,dec_lt h h0]
  refine WR.ev (ev_szPlnDoneS x.done (dec left (x.call.args.length + x.vals.length + x.seqs.length)) hb.2.2.2 (by omega) (by omega)) rfl rfl rfl ?_
  simp only [sCA,sNA]
  have hr3 := dec_room (n := x.call.args.length + x.vals.length + x.seqs.length + szL szDon x.done) h0 h1
  rw [dec_dec h]
  refine WR.iteP (dec left (x.call.args.length + x.vals.length + x.seqs.length + szL szDon x.done) < 0) rfl (fun h => WR.done ?_) (fun h => WR.done rfl)
  show [dI (-1)] = [dI (dec left (szMsg x))]
  have e : dec left (szMsg x) = dec left (x.call.args.length + x.vals.length + x.seqs.length + szL szDon x.done) := rfl
  rw [e,show dec left (x.call.args.length + x.vals.length + x.seqs.length + szL szDon x.done) = -1 by omega]
theorem ev_toPlnCall (x : Cal) (hf : fitCal x) : Ev L f_km x.cells x.cells := by
  refine Ev.eq (vs := [.i x.client,.i x.seq,.i x.act,.l (dL x.args)]) L_km rfl ?_
  refine WR.ev (vs := [.l (dL x.args)]) (ev_toIntS x.args hf) rfl rfl rfl ?_
  simp only [sCA,sNA]
  exact WR.done rfl
theorem ev_toResResult (c : Int) (t : List Int) (ht : t.length ≤ 2000000) : Ev L f_ki [dI c,.s (dL t)] [dI c,.s (dL t)] := by
  refine Ev.eq (vs := [.i c,.l (dL t)]) L_ki rfl ?_
  exact WR.ev (vs := [.l (dL t)]) (ev_toIntS t ht) rfl rfl rfl (WR.done rfl)
theorem ev_toPlnDone (x : Don) (hf : fitDon x) : Ev L f_kj x.cells x.cells := by
  refine Ev.eq (vs := [.i x.seq,.i x.code,.l (dL x.tells)]) L_kj rfl ?_
  refine WR.ev (vs := [.i x.code,.l (dL x.tells)]) (ev_toResResult x.code x.tells hf) rfl rfl rfl ?_
  simp only [sCA,sNA]
  exact WR.done rfl
theorem ev_toPlnDoneS (l : List Don) (hf : fitL fitDon l) : Ev L f_kk [.s (dDs l)] [.s (dDs l)] := by
  refine Ev.eq (vs := [.l (dDs l)]) L_kk rfl ?_
  have hlen : (dDs l).length = l.length := by simp [dDs]
  have hl := hf.1
  refine WR.chk (by show decide ((0 : Int) ≤ ((dDs l).length : Int)) = true; simp) ?_
  refine WR.chkN (dDs l) 2000000 (by omega) (by omega) rfl ?_
  refine WR.forP (dDs l).length (fun i => [.l ((dDs l).take i ++ List.replicate ((dDs l).length - i) (Don.g ⟨0,0,[]⟩)),.i i]) (fun _ => True) rfl ?_ trivial fun i hi _ => ?_
  · show [V.l (List.replicate ((dDs l).length : Int).toNat (Don.g ⟨0,0,[]⟩)),V.i 0] = _
    simp
  simp only [sCA,sNA]
  refine WR.iteLen i (ds := dDs l) rfl rfl (fun h => ?_) (fun h => WR.esc (WR.done ?_))
  · obtain ⟨x,hx,hm⟩ := some_at (show i < l.length by omega)
    refine WR.idxN (vs := [.i x.seq,.i x.code,.l (dL x.tells)]) i (map_at (f := Don.g) hx) rfl rfl rfl rfl ?_
    simp only [sCA,sNA]
    refine WR.ev (vs := [.i x.seq,.i x.code,.l (dL x.tells)]) (ev_toPlnDone x (hf.2 x hm)) rfl rfl rfl ?_
    simp only [sCA,sNA]
    refine WR.atN (vs := [.i 0,.i 0,.l []]) (ds := (dDs l).take i ++ List.replicate ((dDs l).length - i) (Don.g ⟨0,0,[]⟩)) i (fill_at h) rfl rfl rfl rfl rfl rfl ?_
    refine WR.nextA (vs := [.l ((dDs l).take (i + 1) ++ List.replicate ((dDs l).length - (i + 1)) (Don.g ⟨0,0,[]⟩)),.i ((i + 1 : Nat) : Int)]) ?_ ⟨h,rfl,trivial⟩
    show [V.l (((dDs l).take i ++ List.replicate ((dDs l).length - i) (Don.g ⟨0,0,[]⟩)).set (i : Int).toNat (Don.g x)),V.i (IntKind.i64.wrap ((i : Int) + 1))] = _
    rw [wS h (by omega),Int.toNat_natCast,fill_set (es := dDs l) (map_at (f := Don.g) hx)]
  · show [D.s ((dDs l).take i ++ List.replicate ((dDs l).length - i) (Don.g ⟨0,0,[]⟩))] = _
    rw [fill_end h]
theorem fitSit_of {x : Sit} (h : szSit x ≤ 1048576) : fitSit x := by
  unfold szSit at h
  have hd := fitL_of (f := szDon) (p := fitDon) (fun _ => fitDon_of) (l := x.done) (by omega)
  exact ⟨by omega,by omega,hd.1,hd.2⟩
theorem ev_toSitSite (x : Sit) (hf : fitSit x) : Ev L f_kl x.cells x.cells := by
  refine Ev.eq (vs := [.b x.up,.b x.frozen,.i x.round,.l (dL x.base),.l (dL x.added),.l (dDs x.done)]) L_kl rfl ?_
  refine WR.ev (vs := [.l (dL x.base)]) (ev_toIntS x.base hf.1) rfl rfl rfl ?_
  refine WR.ev (vs := [.l (dL x.added)]) (ev_toIntS x.added hf.2.1) rfl rfl rfl ?_
  refine WR.ev (vs := [.l (dDs x.done)]) (ev_toPlnDoneS x.done ⟨hf.2.2.1,hf.2.2.2⟩) rfl rfl rfl ?_
  exact WR.done rfl
theorem ev_toMsgMsg (x : Msg) (hf : fitMsg x) : Ev L f_kn x.cells x.cells := by
  refine Ev.eq (vs := [.i x.kind,.i x.to,.i x.frm,.i x.round,.i x.call.client,.i x.call.seq,.i x.call.act,.l (dL x.call.args),.l (dL x.vals),.l (dL x.seqs),.l (dDs x.done)]) L_kn rfl ?_
  refine WR.ev (vs := [.i x.call.client,.i x.call.seq,.i x.call.act,.l (dL x.call.args)]) (ev_toPlnCall x.call hf.1) rfl rfl rfl ?_
  simp only [sCA,sNA]
  refine WR.ev (vs := [.l (dL x.vals)]) (ev_toIntS x.vals hf.2.1) rfl rfl rfl ?_
  simp only [sCA,sNA]
  refine WR.ev (vs := [.l (dL x.seqs)]) (ev_toIntS x.seqs hf.2.2.1) rfl rfl rfl ?_
  simp only [sCA,sNA]
  refine WR.ev (vs := [.l (dDs x.done)]) (ev_toPlnDoneS x.done hf.2.2.2) rfl rfl rfl ?_
  simp only [sCA,sNA]
  exact WR.done rfl
abbrev tyCal : Ty := .st [.i .i64,.i .i64,.i .i64,tyInts]
abbrev tyRes : Ty := .st [.i .i64,tyInts]
abbrev tyDon : Ty := .st [.i .i64,tyRes]
abbrev tySit : Ty := .st [.b,.b,.i .i64,tyInts,tyInts,.sl tyDon]
abbrev tyMsg : Ty := .st [.i .i64,.i .i64,.i .i64,.i .i64,tyCal,tyInts,tyInts,.sl tyDon]
theorem cal_of {ds : List D} (h : TySh tyCal ds) : ∃ x : Cal,ds = x.cells ∧ bigCal x := by
  obtain ⟨_,_,rfl,⟨a,rfl⟩,_,_,rfl,⟨b,rfl⟩,_,_,rfl,⟨c,rfl⟩,_,_,rfl,h1,rfl⟩ := h
  obtain ⟨l,rfl,hl⟩ := ints_of h1
  exact ⟨⟨a,b,c,l⟩,rfl,hl⟩
theorem don_of {ds : List D} (h : TySh tyDon ds) : ∃ x : Don,ds = x.cells ∧ bigDon x := by
  obtain ⟨_,_,rfl,⟨a,rfl⟩,_,_,rfl,⟨_,_,rfl,⟨b,rfl⟩,_,_,rfl,h1,rfl⟩,rfl⟩ := h
  obtain ⟨l,rfl,hl⟩ := ints_of h1
  exact ⟨⟨a,b,l⟩,rfl,hl⟩
theorem dons_of {ds : List D} (h : TySh (.sl tyDon) ds) : ∃ l,ds = [.s (dDs l)] ∧ bigL bigDon l := by
  obtain ⟨es,rfl,hl,he⟩ := h
  obtain ⟨l,rfl,hp⟩ := map_ex (f := Don.g) (p := bigDon) fun x hx => by
    obtain ⟨cs,h1,rfl⟩ := he x hx
    obtain ⟨l,rfl,hf⟩ := don_of h1
    exact ⟨l,hf,rfl⟩
  exact ⟨l,rfl,by rw [List.length_map] at hl; unfold maxLen at hl; omega,hp⟩
theorem sit_of {ds : List D} (h : TySh tySit ds) : ∃ x : Sit,ds = x.cells ∧ bigSit x := by
  obtain ⟨_,_,rfl,⟨a,rfl⟩,_,_,rfl,⟨b,rfl⟩,_,_,rfl,⟨c,rfl⟩,_,_,rfl,h1,_,_,rfl,h2,_,_,rfl,h3,rfl⟩ := h
  obtain ⟨l,rfl,hl⟩ := ints_of h1
  obtain ⟨m,rfl,hm⟩ := ints_of h2
  obtain ⟨d,rfl,hd⟩ := dons_of h3
  exact ⟨⟨a,b,c,l,m,d⟩,rfl,hl,hm,hd⟩
theorem msg_of {ds : List D} (h : TySh tyMsg ds) : ∃ x : Msg,ds = x.cells ∧ bigMsg x := by
  obtain ⟨_,_,rfl,⟨a,rfl⟩,_,_,rfl,⟨b,rfl⟩,_,_,rfl,⟨c,rfl⟩,_,_,rfl,⟨d,rfl⟩,_,_,rfl,h1,_,_,rfl,h2,_,_,rfl,h3,_,_,rfl,h4,rfl⟩ := h
  obtain ⟨cl,rfl,hc⟩ := cal_of h1
  obtain ⟨l,rfl,hl⟩ := ints_of h2
  obtain ⟨m,rfl,hm⟩ := ints_of h3
  obtain ⟨dn,rfl,hd⟩ := dons_of h4
  exact ⟨⟨a,b,c,d,cl,l,m,dn⟩,rfl,hc,hl,hm,hd⟩
end Go.Proofs.YtohfbfgggkmibaaGreatDoor
/- Results,calls,what was done,messages: which of them are ok. -/
namespace Go.Proofs.YtohfbfgggkmibaaGreatDoor
open Go Go.Tm
theorem ev_l1Digits (n : Int) (h0 : -999999999999 ≤ n) (h1 : n ≤ 999999999999) : Ev L f_k1h [dI n] [strD (Lib.itoa n)] := by
  refine Ev.m L_k1h ?_
  show (i64D (dI n)).map _ = _
  rw [show i64D (dI n) = some n by show (if _ then some n else none) = _; rw [if_pos (by omega)]]
  rfl
theorem joinB_step {t : List Int} {i : Nat} {x : Int} (h : t[i]? = some x) : joinB (t.take (i + 1)) = joinB (t.take i) ++ [32] ++ Lib.itoa x := by
  unfold joinB
  rw [take_succ h,List.flatMap_append]
  simp only [List.flatMap_cons,List.flatMap_nil,List.append_nil,List.append_assoc,List.singleton_append]
theorem ev_sResText (c : Int) (t : List Int) (ht : t.length ≤ 2000000) : Ev L f_k1i [dI c,.s (dL t)] [strD (resB c t)] := by
  refine Ev.eq (vs := [.i c,.l (dL t)]) L_k1i rfl ?_
  have no : resOk c t = false → ([strD []] : List D) = [strD (resB c t)] := fun h => by simp [resB,h]
  refine WR.ev (ev_l1In c 1 3) rfl rfl rfl ?_
  refine WR.iteN (inB c 1 3) rfl (fun h => WR.done (no (by simp [resOk,h]))) (fun h1 => ?_)
  obtain ⟨w1,_,w3⟩ := word_at h1
  have hidx : (wordsB.map strD)[c.toNat]? = some (strD (wordsB.getD c.toNat [])) := by rw [List.getElem?_map,w1]; rfl
  have hc0 : 0 ≤ c := by unfold inB at h1; simp only [Bool.and_eq_true,decide_eq_true_eq] at h1; omega
  have hc4 : c < 4 := by unfold inB at h1; simp only [Bool.and_eq_true,decide_eq_true_eq] at h1; omega
  have hal := ev_l1All t t.length 999999999999 ht (by omega) (by omega)
  have six : 6 < t.length → resOk c t = false := fun h => by simp only [resOk,show ¬ t.length ≤ 6 by omega,decide_false,Bool.false_and,Bool.and_false]
  have ok : t.length ≤ 6 → (c = 1 ∨ t = []) → allIn t.length 999999999999 t = true → resOk c t = true := fun h2 h3 h4 => resOk_iff.2 ⟨by unfold inB at h1; simp only [Bool.and_eq_true,decide_eq_true_eq] at h1; omega,h2,h3,(allIn_iff.1 h4).2⟩
  refine WR.iteN (decide (c = 1)) rfl (fun h3 => ?_) (fun h3 => ?_)
  · refine WR.iteP (0 < ((dL t).length : Int)) rfl (fun h => WR.done (no ?_)) (fun h4 => ?_)
    · rw [dL_len] at h
      have : t.isEmpty = false := by cases t with
        | nil => simp at h
        | cons x t => rfl
      simp only [resOk,h3,this,Bool.or_false,Bool.false_and,Bool.and_false]
    rw [dL_len] at h4
    have h4 : t = [] := List.length_eq_zero_iff.1 (by omega)
    refine WR.iteP (6 < ((dL t).length : Int)) rfl (fun h => WR.done (no (six (by rw [dL_len] at h; omega)))) (fun h2 => ?_)
    rw [dL_len] at h2
    refine WR.ev hal rfl (by show [D.s (dL t),dI ((dL t).length : Int),dI 999999999999] = _; rw [dL_len]) rfl ?_
    refine WR.iteN (allIn t.length 999999999999 t) rfl (fun h => WR.done (no (by simp only [resOk,h,Bool.and_false]))) (fun h5 => ?_)
    have hok := ok (by omega) (.inr h4) h5
    have hl := (allIn_iff.1 h5).2
    have e : strD (resB c t) = strD (wordsB.getD c.toNat [] ++ joinB t) := by simp only [resB,hok,if_true]
    rw [e]
    refine WR.chkP (0 ≤ c) rfl hc0 (WR.chkP (c < 4) rfl hc4 ?_)
    refine WR.idxA (ds := wordsB.map strD) c rfl rfl rfl hc0 hidx rfl ?_
    subst h4
    refine WR.loop (fun _ vs => vs = [.d (strD (wordsB.getD c.toNat [])),.i 0]) rfl 0 rfl ?_
    rintro m _ rfl
    refine WR.iteF rfl (WR.esc (WR.done ?_))
    show [strD (wordsB.getD c.toNat [])] = [strD (wordsB.getD c.toNat [] ++ joinB [])]
    rw [show joinB [] = [] from rfl,List.append_nil]
  · refine WR.iteP (6 < ((dL t).length : Int)) rfl (fun h => WR.done (no (six (by rw [dL_len] at h; omega)))) (fun h2 => ?_)
    rw [dL_len] at h2
    refine WR.ev hal rfl (by show [D.s (dL t),dI ((dL t).length : Int),dI 999999999999] = _; rw [dL_len]) rfl ?_
    refine WR.iteN (allIn t.length 999999999999 t) rfl (fun h => WR.done (no (by simp only [resOk,h,Bool.and_false]))) (fun h5 => ?_)
    have hok := ok (by omega) (.inl (by simpa using h3)) h5
    have hl := (allIn_iff.1 h5).2
    have e : strD (resB c t) = strD (wordsB.getD c.toNat [] ++ joinB t) := by simp only [resB,hok,if_true]
    rw [e]
    refine WR.chkP (0 ≤ c) rfl hc0 (WR.chkP (c < 4) rfl hc4 ?_)
    refine WR.idxA (ds := wordsB.map strD) c rfl rfl rfl hc0 hidx rfl ?_
    generalize wordsB.getD c.toNat [] = wd at *
    refine WR.forP t.length (fun i => [.d (strD (wd ++ joinB (t.take i))),.i i]) (fun _ => True) rfl ?_ trivial fun i hi _ => ?_
    · show [V.d (strD wd),V.i 0] = _
      rw [List.take_zero,show joinB [] = [] from rfl,List.append_nil]; rfl
    simp only [sCA,sNA]
    refine WR.iteLen i (dL_len t) rfl (fun h => ?_) (fun h => WR.esc (WR.done ?_))
    · obtain ⟨x,hx,hm⟩ := some_at h
      have hxb := hl x hm
      have hj := joinB_le (t.take i) fun m hm => hl m (List.mem_of_mem_take hm)
      rw [List.length_take,Nat.min_eq_left (by omega)] at hj
      have hxl := Lib.itoa_length_le x (by omega) (by omega)
      refine WR.prim rfl (cat_str (a := wd ++ joinB (t.take i)) (b := [32]) (by simp; omega)) rfl ?_
      refine WR.idxN i (map_at (f := dI) hx) rfl rfl rfl rfl ?_
      refine WR.ev (ev_l1Digits x (by omega) (by omega)) rfl rfl rfl ?_
      refine WR.prim rfl (cat_str (a := wd ++ joinB (t.take i) ++ [32]) (b := Lib.itoa x) (by simp; omega)) rfl ?_
      refine WR.nextA (vs := [.d (strD (wd ++ joinB (t.take (i + 1)))),.i ((i + 1 : Nat) : Int)]) ?_ ⟨h,rfl,trivial⟩
      show [V.d (strD (wd ++ joinB (t.take i) ++ [32] ++ Lib.itoa x)),V.i (IntKind.i64.wrap ((i : Int) + 1))] = _
      rw [wS h (by omega),joinB_step hx]
      simp only [List.append_assoc]
    · show [strD (wd ++ joinB (t.take i))] = _
      rw [take_all h]
theorem ev_sResOk (c : Int) (t : List Int) (ht : t.length ≤ 2000000) : Ev L f_k1j [dI c,.s (dL t)] [dB (resOk c t)] := by
  refine Ev.eq (vs := [.i c,.l (dL t)]) L_k1j rfl ?_
  refine WR.ev (ev_sResText c t ht) rfl rfl rfl ?_
  refine WR.prim rfl (seq_str (resB c t) []) rfl (WR.done ?_)
  show [dB (!(resB c t == []))] = _
  rw [resB_empty,Bool.not_not]
def callOk (p : Pln) (c : Cal) : Bool := inB c.client 0 (p.n - 1) && (inB c.seq 1 300 && (inB c.act 0 ((p.acts.length : Int) - 1) && argOk c.args))
theorem len_wrap {n : Nat} (h : n ≤ 2000000) : IntKind.i64.wrap ((n : Int) - 1) = (n : Int) - 1 := w64 (by omega) (by omega)
theorem ev_l6Call (p : Pln) (c : Cal) (hp : fitPln p) (h1 : 1 ≤ p.n) (h2 : p.n ≤ 4) (hc : fitCal c) : Ev L f_k1o (p.cells ++ c.cells) [dB (callOk p c)] := by
  refine Ev.eq (vs := [.i p.n,.l (dActs p.acts),.l (dL p.gives),.l (dL p.start),.i c.client,.i c.seq,.i c.act,.l (dL c.args)]) L_k1o rfl ?_
  have w1 : IntKind.i64.wrap (p.n - 1) = p.n - 1 := w64 (by omega) (by omega)
  have w2 : IntKind.i64.wrap (((dActs p.acts).length : Int) - 1) = (p.acts.length : Int) - 1 := by rw [dActs_len]; exact len_wrap hp.1.1
  refine WR.ev (ev_l1In c.client 0 (p.n - 1)) rfl (by show [dI c.client,dI 0,dI (IntKind.i64.wrap (p.n - 1))] = _; rw [w1]) rfl ?_
  refine WR.iteB (inB c.client 0 (p.n - 1)) rfl (fun a => ?_) (fun a => WR.done (by show [dB false] = _; simp [callOk,a]))
  refine WR.ev (ev_l1In c.seq 1 300) rfl rfl rfl ?_
  refine WR.iteB (inB c.seq 1 300) rfl (fun b => ?_) (fun b => WR.done (by show [dB false] = _; simp [callOk,b]))
  refine WR.ev (ev_l1In c.act 0 ((p.acts.length : Int) - 1)) rfl (by show [dI c.act,dI 0,dI (IntKind.i64.wrap (((dActs p.acts).length : Int) - 1))] = _; rw [w2]) rfl ?_
  refine WR.iteB (inB c.act 0 ((p.acts.length : Int) - 1)) rfl (fun d => ?_) (fun d => WR.done (by show [dB false] = _; simp [callOk,d]))
  refine WR.ev (sArgOk c.args hc) rfl rfl rfl (WR.done ?_)
  show [dB (argOk c.args)] = _
  simp [callOk,a,b,d]
theorem ev_isClient (p : Pln) (k : Int) (h1 : 1 ≤ p.n) (h2 : p.n ≤ 4) : Ev L f_k41 (p.cells ++ [dI k]) [dB (inB k 0 (p.n - 1))] := by
  refine Ev.eq (vs := [.i p.n,.l (dActs p.acts),.l (dL p.gives),.l (dL p.start),.i k]) L_k41 rfl ?_
  have w1 : IntKind.i64.wrap (p.n - 1) = p.n - 1 := w64 (by omega) (by omega)
  exact WR.ev (ev_in k 0 (p.n - 1)) rfl (by show [dI k,dI 0,dI (IntKind.i64.wrap (p.n - 1))] = _; rw [w1]) rfl (WR.done rfl)
theorem ev_isSite (p : Pln) (k : Int) (hp : fitPln p) : Ev L f_k3d (p.cells ++ [dI k]) [dB (inB k 0 ((p.gives.length : Int) - 1))] := by
  refine Ev.eq (vs := [.i p.n,.l (dActs p.acts),.l (dL p.gives),.l (dL p.start),.i k]) L_k3d rfl ?_
  have w1 : IntKind.i64.wrap (((dL p.gives).length : Int) - 1) = (p.gives.length : Int) - 1 := by rw [dL_len]; exact len_wrap hp.2.1
  exact WR.ev (ev_in k 0 ((p.gives.length : Int) - 1)) rfl (by show [dI k,dI 0,dI (IntKind.i64.wrap (((dL p.gives).length : Int) - 1))] = _; rw [w1]) rfl (WR.done rfl)
theorem ev_callOk (p : Pln) (c : Cal) (hp : fitPln p) (h1 : 1 ≤ p.n) (h2 : p.n ≤ 4) (hc : fitCal c) : Ev L f_k43 (p.cells ++ c.cells) [dB (callOk p c)] := by
  refine Ev.eq (vs := [.i p.n,.l (dActs p.acts),.l (dL p.gives),.l (dL p.start),.i c.client,.i c.seq,.i c.act,.l (dL c.args)]) L_k43 rfl ?_
  have w2 : IntKind.i64.wrap (((dActs p.acts).length : Int) - 1) = (p.acts.length : Int) - 1 := by rw [dActs_len]; exact len_wrap hp.1.1
  refine WR.ev (ev_isClient p c.client h1 h2) rfl rfl rfl ?_
  refine WR.iteB (inB c.client 0 (p.n - 1)) rfl (fun a => ?_) (fun a => WR.done (by show [dB false] = _; simp [callOk,a]))
  refine WR.ev (ev_in c.act 0 ((p.acts.length : Int) - 1)) rfl (by show [dI c.act,dI 0,dI (IntKind.i64.wrap (((dActs p.acts).length : Int) - 1))] = _; rw [w2]) rfl ?_
  refine WR.iteB (inB c.act 0 ((p.acts.length : Int) - 1)) rfl (fun d => ?_) (fun d => WR.done (by show [dB false] = _; simp [callOk,d]))
  refine WR.ev (ev_in c.seq 1 300) rfl rfl rfl ?_
  refine WR.iteB (inB c.seq 1 300) rfl (fun b => ?_) (fun b => WR.done (by show [dB false] = _; simp [callOk,b]))
  refine WR.ev (ev_ArgOk c.args hc) rfl rfl rfl (WR.done ?_)
  show [dB (argOk c.args)] = _
  simp [callOk,a,b,d]
theorem em_dec (n : Nat) {m : Nat} (h : m = n) : decide ((m : Int) = 0) = decide (n = 0) := by subst h; simp
def noneC (c : Cal) : Bool := decide (c.client = 0) && (decide (c.seq = 0) && (decide (c.act = 0) && decide (c.args.length = 0)))
theorem ev_noneC (c : Cal) : Ev L f_k40 c.cells [dB (noneC c)] := by
  refine Ev.eq (vs := [.i c.client,.i c.seq,.i c.act,.l (dL c.args)]) L_k40 rfl ?_
  refine WR.iteP (c.client = 0) rfl (fun a => ?_) (fun a => WR.done (by show [dB false] = _; simp [noneC,a]))
  refine WR.iteP (c.seq = 0) rfl (fun b => ?_) (fun b => WR.done (by show [dB false] = _; simp [noneC,b]))
  refine WR.iteP (c.act = 0) rfl (fun d => WR.done ?_) (fun d => WR.done (by show [dB false] = _; simp [noneC,d]))
  show [dB (decide (((dL c.args).length : Int) = 0))] = _
  rw [em_dec c.args.length (dL_len _)]
  simp [noneC,a,b,d]
def donOk (d : Don) : Bool := if d.seq = 0 then decide (d.code = 0) && decide (d.tells.length = 0) else inB d.seq 1 300 && resOk d.code d.tells
def doneOk (n : Int) (l : List Don) : Bool := decide ((l.length : Int) = n) && l.all donOk
def seqsOk (n : Int) (l : List Int) : Bool := decide ((l.length : Int) = n) && l.all fun x => inB x 0 300
theorem dDs_len (l : List Don) : (dDs l).length = l.length := by simp [dDs]
theorem ev_l7Seqs (p : Pln) (l : List Int) (hl : l.length ≤ 2000000) : Ev L f_k1q (p.cells ++ [.s (dL l)]) [dB (seqsOk p.n l)] := by
  refine Ev.eq (vs := [.i p.n,.l (dActs p.acts),.l (dL p.gives),.l (dL p.start),.l (dL l)]) L_k1q rfl ?_
  refine WR.iteN (decide ((l.length : Int) = p.n)) (by show (!decide (((dL l).length : Int) = p.n)) = _; rw [dL_len]) (fun h => WR.done (by show [dB false] = _; simp only [seqsOk,h,Bool.false_and])) (fun h => ?_)
  refine WR.forP l.length (fun i => [.i i]) (fun i => ((l.take i).all fun x => inB x 0 300) = true) rfl rfl rfl fun i hi hq => ?_
  simp only [sCA,sNA]
  refine WR.iteLen i (dL_len l) rfl (fun h' => ?_) (fun h' => WR.esc (WR.done ?_))
  · obtain ⟨x,hx,_⟩ := some_at h'
    refine WR.idxN i (map_at (f := dI) hx) rfl rfl rfl rfl ?_
    refine WR.ev (ev_l1In x 0 300) rfl rfl rfl ?_
    refine WR.iteN (inB x 0 300) rfl (fun b => WR.esc (WR.done ?_)) (fun b => WR.nextA (vs := [.i ((i + 1 : Nat) : Int)]) (by rw [← wS h' (by omega)]; rfl) ⟨h',rfl,by show ((l.take (i + 1)).all fun x => inB x 0 300) = true; rw [take_succ hx,List.all_append,hq]; simp [b]⟩)
    show [dB false] = _
    have : (l.all fun x => inB x 0 300) = false := by rw [← List.take_append_drop i l,List.all_append,drop_cons hx]; simp [b]
    simp [seqsOk,this]
  · show [dB true] = _
    rw [take_all h'] at hq
    simp [seqsOk,h,hq]
theorem donOk_cases {d : Don} (hs : inB d.seq 0 300 = true) : donOk d = if decide (d.seq = 0) = decide (d.code = 0) then (if d.seq = 0 then decide (d.tells.length = 0) else resOk d.code d.tells) else false := by
  unfold donOk
  by_cases h : d.seq = 0
  · rw [if_pos h,if_pos h]
    by_cases h2 : d.code = 0 <;> simp [h,h2]
  · rw [if_neg h,if_neg h]
    have hin : inB d.seq 1 300 = true := by unfold inB at hs ⊢; simp only [Bool.and_eq_true,decide_eq_true_eq] at hs ⊢; omega
    by_cases h2 : d.code = 0
    · have : resOk d.code d.tells = false := by unfold resOk inB; simp [h2]
      simp [h,h2,this,resOk,inB]
    · simp [h,h2,hin]
theorem ev_l6Done (p : Pln) (l : List Don) (hl : fitL fitDon l) : Ev L f_k1k (p.cells ++ [.s (dDs l)]) [dB (doneOk p.n l)] := by
  refine Ev.eq (vs := [.i p.n,.l (dActs p.acts),.l (dL p.gives),.l (dL p.start),.l (dDs l)]) L_k1k rfl ?_
  have hl0 := hl.1
  refine WR.iteN (decide ((l.length : Int) = p.n)) (by show (!decide (((dDs l).length : Int) = p.n)) = _; rw [dDs_len]) (fun h => WR.done (by show [dB false] = _; simp only [doneOk,h,Bool.false_and])) (fun h => ?_)
  refine WR.forP l.length (fun i => [.i i]) (fun i => ((l.take i).all donOk) = true) rfl rfl rfl fun i hi hq => ?_
  simp only [sCA,sNA]
  refine WR.iteLen i (dDs_len l) rfl (fun h' => ?_) (fun h' => WR.esc (WR.done ?_))
  · obtain ⟨x,hx,hm⟩ := some_at h'
    have hg : (dDs l)[i]? = some x.g := map_at (f := Don.g) hx
    have bad : donOk x = false → [dB false] = [dB (doneOk p.n l)] := fun hb => by
      have : l.all donOk = false := by rw [← List.take_append_drop i l,List.all_append,drop_cons hx]; simp [hb]
      simp [doneOk,this]
    have good : donOk x = true → ((l.take (i + 1)).all donOk) = true := fun hb => by rw [take_succ hx,List.all_append,hq]; simp [hb]
    have nx : [V.i (IntKind.i64.wrap ((i : Int) + 1))] = [V.i ((i + 1 : Nat) : Int)] := by rw [wS h' (by omega)]
    refine WR.idxN (vs := [.i x.seq,.i x.code,.l (dL x.tells)]) i hg rfl rfl rfl rfl ?_
    refine WR.ev (ev_l1In x.seq 0 300) rfl rfl rfl ?_
    simp only [sCA,sNA]
    refine WR.iteN (inB x.seq 0 300) rfl (fun b => WR.esc (WR.done (bad ?_))) (fun b => ?_)
    · unfold donOk
      rw [if_neg (by intro e; rw [e] at b; simp [inB] at b)]
      have : inB x.seq 1 300 = false := by
        unfold inB at b ⊢
        simp only [Bool.and_eq_false_iff,decide_eq_false_iff_not] at b ⊢
        omega
      simp [this]
    have hc := donOk_cases b
    refine WR.idxN (vs := [.i x.seq,.i x.code,.l (dL x.tells)]) i hg rfl rfl rfl rfl ?_
    refine WR.idxN (vs := [.i x.seq,.i x.code,.l (dL x.tells)]) i hg rfl rfl rfl rfl ?_
    simp only [sCA,sNA]
    refine WR.iteN (decide (x.seq = 0) == decide (x.code = 0)) rfl (fun e => WR.esc (WR.done (bad ?_))) (fun e => ?_)
    · rw [hc,if_neg (by simpa using e)]
    rw [if_pos (by simpa using e)] at hc
    refine WR.idxN (vs := [.i x.seq,.i x.code,.l (dL x.tells)]) i hg rfl rfl rfl rfl ?_
    simp only [sCA,sNA]
    refine WR.iteP (x.seq = 0) rfl (fun h0 => ?_) (fun h0 => ?_)
    · rw [if_pos h0] at hc
      refine WR.idxN (vs := [.i x.seq,.i x.code,.l (dL x.tells)]) i hg rfl rfl rfl rfl ?_
      simp only [sCA,sNA]
      refine WR.iteP (0 < ((dL x.tells).length : Int)) rfl (fun ht => WR.esc (WR.done (bad ?_))) (fun ht => ?_)
      · rw [dL_len] at ht
        rw [hc]; exact decide_eq_false (by omega)
      refine WR.idxN (vs := [.i x.seq,.i x.code,.l (dL x.tells)]) i hg rfl rfl rfl rfl ?_
      simp only [sCA,sNA]
      refine WR.iteF (by show decide ((0 : Int) < x.seq) = false; rw [h0]; rfl) ?_
      exact WR.nextA nx ⟨h',rfl,good (by rw [dL_len] at ht; rw [hc]; exact decide_eq_true (by omega))⟩
    · rw [if_neg h0] at hc
      have hpos : 0 < x.seq := by unfold inB at b; simp only [Bool.and_eq_true,decide_eq_true_eq] at b; omega
      refine WR.idxN (vs := [.i x.seq,.i x.code,.l (dL x.tells)]) i hg rfl rfl rfl rfl ?_
      simp only [sCA,sNA]
      refine WR.iteT (by show decide ((0 : Int) < x.seq) = true; simpa using hpos) ?_
      refine WR.idxN (vs := [.i x.seq,.i x.code,.l (dL x.tells)]) i hg rfl rfl rfl rfl ?_
      refine WR.ev (ev_sResOk x.code x.tells (hl.2 x hm)) rfl rfl rfl ?_
      exact WR.iteN (resOk x.code x.tells) rfl (fun e => WR.esc (WR.done (bad (by rw [hc,e])))) (fun e => WR.nextA nx ⟨h',rfl,good (by rw [hc,e])⟩)
  · show [dB true] = _
    rw [take_all h'] at hq
    simp [doneOk,h,hq]
theorem ev_seqsOk_1 (x : Int) : Ev L f_k44 [dI x] [dB (!inB x 0 300)] :=
  Ev.eq (vs := [.i x]) L_k44 rfl (WR.ev (ev_in x 0 300) rfl rfl rfl (WR.done rfl))
theorem ev_seqsOk (p : Pln) (l : List Int) (hl : l.length ≤ 2000000) : Ev L f_k45 (p.cells ++ [.s (dL l)]) [dB (seqsOk p.n l)] := by
  refine Ev.eq (vs := [.i p.n,.l (dActs p.acts),.l (dL p.gives),.l (dL p.start),.l (dL l)]) L_k45 rfl ?_
  refine WR.iteP ((l.length : Int) = p.n) (by show decide (((dL l).length : Int) = p.n) = _; rw [dL_len]) (fun h => ?_) (fun h => WR.done (by show [dB false] = _; simp [seqsOk,h]))
  refine WR.ev (ev_hasInt (fun x => !inB x 0 300) l (fn := f_k44) (caps := []) hl rfl rfl fun x _ => ev_seqsOk_1 x) rfl rfl rfl (WR.done ?_)
  show [dB (!(l.any fun x => !inB x 0 300))] = _
  rw [not_any]; simp [seqsOk,h]
theorem ev_donOk (d : Don) (hd : fitDon d) : Ev L f_k3v d.cells [dB (donOk d)] := by
  refine Ev.eq (vs := [.i d.seq,.i d.code,.l (dL d.tells)]) L_k3v rfl ?_
  refine WR.iteP (d.seq = 0) rfl (fun h => ?_) (fun h => ?_)
  · refine WR.ev (ds := [dB (decide (d.code = 0) && decide (d.tells.length = 0))]) (Ev.eq (vs := [.i d.code,.l (dL d.tells)]) L_k3q rfl ?_) rfl rfl rfl (WR.done (by rw [donOk,if_pos h]; rfl))
    refine WR.iteP (d.code = 0) rfl (fun a => WR.done ?_) (fun a => WR.done (by show [dB false] = _; simp [a]))
    show [dB (decide (((dL d.tells).length : Int) = 0))] = _
    rw [em_dec d.tells.length (dL_len _)]
    simp [a]
  · refine WR.ev (ev_in d.seq 1 300) rfl rfl rfl ?_
    refine WR.iteB (inB d.seq 1 300) rfl (fun a => ?_) (fun a => WR.done (by show [dB false] = _; simp [donOk,h,a]))
    refine WR.ev (ev_iResOk d.code d.tells hd) rfl rfl rfl (WR.done ?_)
    show [dB (resOk d.code d.tells)] = _
    simp [donOk,h,a]
theorem ev_doneOk_1 (d : Don) (hd : fitDon d) : Ev L f_k3w d.cells [dB (!donOk d)] :=
  Ev.eq (vs := [.i d.seq,.i d.code,.l (dL d.tells)]) L_k3w rfl (WR.ev (ev_donOk d hd) rfl rfl rfl (WR.done rfl))
theorem ev_hasDon (q : Don → Bool) (l : List Don) {fn : FuncId} {caps : List D} (hlen : l.length ≤ 2000000) (hcap : oneOf (.f fn caps) = .f fn caps) (har : arT L fn = some ([some 3] ++ caps.map fun _ => none))
    (hc : ∀ x ∈ l,Ev L fn (x.cells ++ caps.map D.norm) [dB (q x)]) : Ev L f_k3p [.s (dDs l),.f fn caps] [dB (l.any q)] :=
  ev_contains (g := f_k3o) L_k3p rfl hcap
    (ev_idxFunc (sh := .g [.i .i64,.i .i64,.s]) (as := [(.vi .i64 (.v 3)),(.vi .i64 (.v 4)),(.s (.v 5))]) (ar := [some 3]) (k := 6) Don.g q Don.cells (fun x => [.i x.seq,.i x.code,.l (dL x.tells)]) l
      L_k3o rfl hlen hcap (fun _ _ => rfl) (fun _ _ => rfl) (fun _ _ _ _ => rfl) har hc)
theorem ev_doneOk (p : Pln) (l : List Don) (hl : fitL fitDon l) : Ev L f_k3x (p.cells ++ [.s (dDs l)]) [dB (doneOk p.n l)] := by
  refine Ev.eq (vs := [.i p.n,.l (dActs p.acts),.l (dL p.gives),.l (dL p.start),.l (dDs l)]) L_k3x rfl ?_
  refine WR.iteP ((l.length : Int) = p.n) (by show decide (((dDs l).length : Int) = p.n) = _; rw [dDs_len]) (fun h => ?_) (fun h => WR.done (by show [dB false] = _; simp [doneOk,h]))
  refine WR.ev (ev_hasDon (fun d => !donOk d) l (fn := f_k3w) (caps := []) hl.1 rfl rfl fun x hx => by simpa using ev_doneOk_1 x (hl.2 x hx)) rfl rfl rfl (WR.done ?_)
  show [dB (!(l.any fun d => !donOk d))] = _
  rw [not_any]; simp [doneOk,h]
end Go.Proofs.YtohfbfgggkmibaaGreatDoor

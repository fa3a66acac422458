import Derived.Test.YtdibnlhlngodeaaGreatDoorPL
import Derived.Test.YtdibnlhlngodeaaGreatDoorTd
import Derived.Laws.Strings
import Derived.Lib.ItoaLen
set_option linter.unusedVariables false
set_option linter.unusedSimpArgs false
/- Results as texts: which of them are ok. -/
namespace Go.Proofs.YtdibnlhlngodeaaGreatDoor
open Go Go.Tm
def resOk (c : Int) (t : List Int) : Bool := inB c 1 3 && (decide (t.length ≤ 6) && ((decide (c = 1) || t.isEmpty) && allIn t.length 999999999999 t))
theorem resOk_iff {c : Int} {t : List Int} : resOk c t = true ↔ (1 ≤ c ∧ c ≤ 3) ∧ t.length ≤ 6 ∧ (c = 1 ∨ t = []) ∧ Lim 999999999999 t := by
  unfold resOk inB
  simp only [Bool.and_eq_true, Bool.or_eq_true, decide_eq_true_eq, List.isEmpty_iff, allIn_iff]
  exact ⟨fun h => ⟨h.1, h.2.1, h.2.2.1, h.2.2.2.2⟩, fun h => ⟨h.1, h.2.1, h.2.2.1, trivial, h.2.2.2⟩⟩
def wordsB : List (List UInt8) := [[], [100, 111, 110, 101], [115, 116, 111, 112, 112, 101, 100], [111, 118, 101, 114]]
def resB (c : Int) (t : List Int) : List UInt8 := if resOk c t then wordsB.getD c.toNat [] ++ joinB t else []
theorem ba_app (a b : List UInt8) : (⟨a.toArray⟩ : ByteArray) ++ ⟨b.toArray⟩ = ⟨(a ++ b).toArray⟩ := by
  apply ByteArray.ext
  simp
theorem cat_str {a b : List UInt8} (h : a.length + b.length ≤ 1000000) : primF .cat [strD a, strD b] = some (strD (a ++ b)) := by
  show (if (⟨a.toArray⟩ : ByteArray).size + (⟨b.toArray⟩ : ByteArray).size ≤ 2 ^ 62 then some (D.v (.string ((⟨a.toArray⟩ : ByteArray) ++ ⟨b.toArray⟩))) else none) = _
  rw [if_pos, ba_app]
  · rfl
  show a.toArray.size + b.toArray.size ≤ 2 ^ 62
  simp only [List.size_toArray]
  omega
theorem seq_str (a b : List UInt8) : primF .seq [strD a, strD b] = some (dB (a == b)) := by
  show some (D.v (.bool ((⟨a.toArray⟩ : ByteArray).toList == (⟨b.toArray⟩ : ByteArray).toList))) = _
  rw [ByteArray.toList_mk, ByteArray.toList_mk]
theorem joinB_le (t : List Int) (hl : Lim 999999999999 t) : (joinB t).length ≤ 22 * t.length := by
  induction t with
  | nil => simp [joinB]
  | cons n l ih =>
    have h1 := hl n (by simp)
    have h2 := Lib.itoa_length_le n (by omega) (by omega)
    have h3 := ih fun m hm => hl m (by simp [hm])
    simp only [joinB, List.flatMap_cons, List.length_append, List.length_cons] at h3 ⊢
    omega
theorem word_at {c : Int} (h : inB c 1 3 = true) : wordsB[c.toNat]? = some (wordsB.getD c.toNat []) ∧ wordsB.getD c.toNat [] ≠ [] ∧ (wordsB.getD c.toNat []).length ≤ 7 := by
  unfold inB at h
  simp only [Bool.and_eq_true, decide_eq_true_eq] at h
  rcases (show c = 1 ∨ c = 2 ∨ c = 3 by omega) with rfl | rfl | rfl <;> exact ⟨rfl, by decide, by decide⟩
theorem resB_empty (c : Int) (t : List Int) : (resB c t == []) = !resOk c t := by
  unfold resB
  split
  · rename_i h
    have hin : inB c 1 3 = true := by unfold resOk at h; simp only [Bool.and_eq_true] at h; exact h.1
    have := (word_at hin).2.1
    rw [h]
    have h2 : wordsB.getD c.toNat [] ++ joinB t ≠ [] := fun e => this (List.append_eq_nil_iff.1 e).1
    generalize wordsB.getD c.toNat [] ++ joinB t = l at h2
    cases l with
    | nil => exact absurd rfl h2
    | cons x l => rfl
  · rename_i h
    simp [h]
theorem ev_joined (t : List Int) (h6 : t.length ≤ 6) (hl : Lim 999999999999 t) : Ev L f_k3s [.s (dL t)] [strD (joinB t)] := by
  refine Ev.m L_k3s ?_
  show (if (dL t).length ≤ 4096 then ((dL t).mapM i64D).map fun l => [strD (joinB l)] else none) = _
  have e : (dL t).mapM i64D = some t := mapM_i64_of fun n hn => by have := hl n hn; omega
  rw [if_pos (by rw [dL_len]; omega), e]
  rfl
theorem ev_codeWords : Ev L f_k3r [] [.s (wordsB.map strD)] :=
  Ev.eq (vs := []) L_k3r rfl (WR.done rfl)
theorem ev_iResText (c : Int) (t : List Int) (ht : t.length ≤ 2000000) : Ev L f_k3t [dI c, .s (dL t)] [strD (resB c t)] := by
  refine Ev.eq (vs := [.i c, .l (dL t)]) L_k3t rfl ?_
  have no : resOk c t = false → ([strD []] : List D) = [strD (resB c t)] := fun h => by simp [resB, h]
  refine WR.ev (ev_in c 1 3) rfl rfl rfl ?_
  refine WR.iteN (inB c 1 3) rfl (fun h => WR.done (no (by simp [resOk, h]))) (fun h1 => ?_)
  refine WR.iteP (6 < ((dL t).length : Int)) rfl (fun h => WR.done (no ?_)) (fun h2 => ?_)
  · rw [dL_len] at h
    simp only [resOk, show ¬ t.length ≤ 6 by omega, decide_false, Bool.false_and, Bool.and_false]
  rw [dL_len] at h2
  obtain ⟨w1, _, w3⟩ := word_at h1
  have hidx : (wordsB.map strD)[c.toNat]? = some (strD (wordsB.getD c.toNat [])) := by rw [List.getElem?_map, w1]; rfl
  have hc0 : 0 ≤ c := by unfold inB at h1; simp only [Bool.and_eq_true, decide_eq_true_eq] at h1; omega
  have hc4 : c < ((wordsB.map strD).length : Int) := by unfold inB at h1; simp only [Bool.and_eq_true, decide_eq_true_eq] at h1; show c < 4; omega
  have hwn := ev_within t t.length 999999999999 ht (by omega) (by omega)
  refine WR.iteN (decide (c = 1)) rfl (fun h3 => ?_) (fun h3 => ?_)
  · refine WR.iteP (0 < ((dL t).length : Int)) rfl (fun h => WR.done (no ?_)) (fun h4 => ?_)
    · rw [dL_len] at h
      have : t.isEmpty = false := by cases t with
        | nil => simp at h
        | cons x t => rfl
      simp only [resOk, h3, this, Bool.or_false, Bool.false_and, Bool.and_false]
    · rw [dL_len] at h4
      have h4 : t = [] := List.length_eq_zero_iff.1 (by omega)
      refine WR.ev hwn rfl (by show [D.s (dL t), dI ((dL t).length : Int), dI 999999999999] = _; rw [dL_len]) rfl ?_
      refine WR.iteN (allIn t.length 999999999999 t) rfl (fun h => WR.done (no (by simp only [resOk, h, Bool.and_false]))) (fun h5 => ?_)
      have hl := (allIn_iff.1 h5).2
      have hj := joinB_le t hl
      have hok : resOk c t = true := by simp only [resOk, h1, h5, h4, List.length_nil, List.isEmpty_nil, Bool.or_true, Bool.true_and]; simp [allIn]
      have e : strD (resB c t) = strD (wordsB.getD c.toNat [] ++ joinB t) := by simp only [resB, hok, if_true]
      rw [e]
      refine WR.ev ev_codeWords rfl rfl rfl ?_
      refine WR.chkP (0 ≤ c) rfl hc0 (WR.chkP (c < ((wordsB.map strD).length : Int)) rfl hc4 ?_)
      refine WR.idxA (ds := wordsB.map strD) c rfl rfl rfl hc0 hidx rfl ?_
      refine WR.ev (ev_joined t (by omega) hl) rfl rfl rfl ?_
      refine WR.prim rfl (cat_str (by omega)) rfl (WR.done rfl)
  · refine WR.ev hwn rfl (by show [D.s (dL t), dI ((dL t).length : Int), dI 999999999999] = _; rw [dL_len]) rfl ?_
    refine WR.iteN (allIn t.length 999999999999 t) rfl (fun h => WR.done (no (by simp only [resOk, h, Bool.and_false]))) (fun h5 => ?_)
    have hl := (allIn_iff.1 h5).2
    have hj := joinB_le t hl
    have hok : resOk c t = true := by simp only [resOk, h1, h5, h3, Bool.true_or, Bool.true_and, Bool.and_true]; simp; omega
    have e : strD (resB c t) = strD (wordsB.getD c.toNat [] ++ joinB t) := by simp only [resB, hok, if_true]
    rw [e]
    refine WR.ev ev_codeWords rfl rfl rfl ?_
    refine WR.chkP (0 ≤ c) rfl hc0 (WR.chkP (c < ((wordsB.map strD).length : Int)) rfl hc4 ?_)
    refine WR.idxA (ds := wordsB.map strD) c rfl rfl rfl hc0 hidx rfl ?_
    refine WR.ev (ev_joined t (by omega) hl) rfl rfl rfl ?_
    refine WR.prim rfl (cat_str (by omega)) rfl (WR.done rfl)
theorem ev_iResOk (c : Int) (t : List Int) (ht : t.length ≤ 2000000) : Ev L f_k3u [dI c, .s (dL t)] [dB (resOk c t)] := by
  refine Ev.eq (vs := [.i c, .l (dL t)]) L_k3u rfl ?_
  refine WR.ev (ev_iResText c t ht) rfl rfl rfl ?_
  refine WR.prim rfl (seq_str (resB c t) []) rfl (WR.done ?_)
  show [dB (!(resB c t == []))] = _
  rw [resB_empty, Bool.not_not]
end Go.Proofs.YtdibnlhlngodeaaGreatDoor

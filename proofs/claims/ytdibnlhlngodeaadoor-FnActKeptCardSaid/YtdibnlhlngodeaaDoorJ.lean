/- What impl.joined and spec.l1Digits come to: the texts of numbers. -/
import Derived.Test.YtdibnlhlngodeaaDoorS
import Derived.Test.YtdibnlhlngodeaaDoorTd
import Derived.WalkKit
import Derived.BigCall
import Derived.Lib.ItoaLen
import Derived.Lib.AppendIntMem
namespace Go.Proofs
open Go.Shelf Go.RowKit
def Tryd.hlays166_ren : Go.Shelf.Ren := ⟨fun | 166 => 51 | 240 => 55 | 276 => 57 | n => n, fun | 0 => 0 | 3 => 3 | 4 => 4 | 9 => 9 | 20 => 20 | 37 => 22 | 70 => 71 | 72 => 73 | 75 => 75 | 80 => 79 | 164 => 81 | 5 => 5 | n => n, fun | n => n⟩
theorem Tryd.hlays166 : Go.Proofs.Lays.n166 Tryd.prog Tryd.hlays166_ren := {
  mixed := by kernel_rfl
  f166 := Tryd.func51.trans (congrArg some (by kernel_rfl))
  f240 := Tryd.func55.trans (congrArg some (by kernel_rfl))
  f276 := Tryd.func57.trans (congrArg some (by kernel_rfl))
  t0 := Tryd.underlying0
  a0 := Tryd.isAgg0
  z0 := Tryd.sizeOf0
  v0 := Tryd.zeroValue0
  t3 := Tryd.underlying3
  a3 := Tryd.isAgg3
  z3 := Tryd.sizeOf3
  v3 := Tryd.zeroValue3
  t4 := Tryd.underlying4
  a4 := Tryd.isAgg4
  z4 := Tryd.sizeOf4
  v4 := Tryd.zeroValue4
  t9 := Tryd.underlying9
  a9 := Tryd.isAgg9
  z9 := Tryd.sizeOf9
  v9 := Tryd.zeroValue9
  t20 := Tryd.underlying20
  a20 := Tryd.isAgg20
  z20 := Tryd.sizeOf20
  v20 := Tryd.zeroValue20
  t37 := Tryd.underlying22
  a37 := Tryd.isAgg22
  z37 := Tryd.sizeOf22
  v37 := Tryd.zeroValue22
  t70 := Tryd.underlying71
  a70 := Tryd.isAgg71
  z70 := Tryd.sizeOf71
  v70 := Tryd.zeroValue71
  t72 := Tryd.underlying73
  a72 := Tryd.isAgg73
  z72 := Tryd.sizeOf73
  v72 := Tryd.zeroValue73
  t75 := Tryd.underlying75
  a75 := Tryd.isAgg75
  z75 := Tryd.sizeOf75
  v75 := Tryd.zeroValue75
  t164 := Tryd.underlying81
  a164 := Tryd.isAgg81
  z164 := Tryd.sizeOf81
  v164 := Tryd.zeroValue81 }
theorem Tryd.hExtra : Builder.Extra Tryd.prog Tryd.hlays166_ren := {
  sizeBuilder := by kernel_rfl
  liesBuilder := by kernel_rfl
  t5 := Tryd.underlying5
  a5 := Tryd.isAgg5
  z5 := Tryd.sizeOf5
  v5 := Tryd.zeroValue5
  infoByte := by kernel_rfl
  cellsByte := by kernel_rfl
  sizeByte := by kernel_rfl
  neB5 := by decide }
theorem Tryd.hWriteString (B b : Nat) (bs : List Value) (s : ByteArray) (w : World) (h : Lib.IsBuilderF 73 5 B b bs w) (hlen : bs.length + s.size ≤ 140737488355328) (hBw : B ≤ w.heap.size) :
    Calls Tryd.prog 51 #[.pointer (some ⟨b, 0, none⟩), .string s] w fun e w' => e = .returned (.tuple #[.int .i64 s.size, .nilIface]) ∧ (Lib.BuilderAtF 73 5 B b (.pointer (some ⟨b, 0, none⟩)) (bs ++ Lib.strCells s) w' ∧ Below B w w' ∧ Lib.OthersKept 5 (some b) w w') :=
  Any.Builder_WriteString_k Tryd.hlays166 Tryd.hExtra B b bs s w h hlen hBw

namespace YtdibnlhlngodeaaDoor
open Go Go.Tm

theorem isB_grow {T e : TypeId} {B b : Nat} {bs : List Value} {w : World} (h : Lib.IsBuilderF T e B b bs w) (k : Nat) (os : Array Obj) : Lib.IsBuilderF T e B b bs (Sort.grow (w.drewN k) os) := by
  have one : ∀ p, Lib.BuilderAtF T e B b p bs w → Lib.BuilderAtF T e B b p bs (Sort.grow (w.drewN k) os) := by
    rintro p ⟨hB, v, hb, hown, hne⟩
    have hlt : b < w.heap.size := (Array.getElem?_eq_some_iff.1 hb).1
    refine ⟨hB, v, (Lib.heap_grow_old w k os b hlt).trans hb, hown.kept (row := none) ⟨rfl, rfl, rfl, Lib.size_grow w k os, fun j hj _ => Lib.heap_grow_old w k os j hj⟩ ?_, hne⟩
    cases v.ownBlock with
    | none => exact .inl rfl
    | some x => exact .inr (by simp)
  exact h.imp (one _) (one _)

theorem tab_below {B : Nat} {w w' : World} {zs : List Int} {nm : String} (hb : Below w.heap.size w w') (h : Lib.TabIs Tryd.prog w nm .u64 zs) : Lib.TabIs Tryd.prog w' nm .u64 zs :=
  (Fix.tab Tryd.prog nm .u64 zs).keep w w' h fun b hm => hb.block b ((Fix.tab Tryd.prog nm .u64 zs).lt w h b hm)

theorem joinB_len : ∀ (l : List Int), (∀ n ∈ l, -9223372036854775807 ≤ n ∧ n ≤ 9223372036854775807) → (joinB l).length ≤ 22 * l.length
  | [], _ => by simp [joinB]
  | n :: l, h => by
    have h1 := h n (by simp)
    have h2 := Lib.itoa_length_le n (by omega) (by omega)
    have h3 := joinB_len l fun m hm => h m (by simp [hm])
    simp only [joinB, List.flatMap_cons, List.length_append, List.length_cons] at h3 ⊢
    omega

theorem joinB_take (l : List Int) (k : Nat) (h : k < l.length) : joinB (l.take (k + 1)) = joinB (l.take k) ++ (32 :: Lib.itoa l[k]) := by
  unfold joinB
  rw [List.take_succ_eq_append_getElem h, List.flatMap_append]
  simp only [List.flatMap_cons, List.flatMap_nil, List.append_nil]

set_option maxHeartbeats 4000000 in
set_option maxRecDepth 1000000 in
theorem joined_walk (A : Option Addr) (cap : Nat) (l : List Int) (w : World) (htab : Lib.TabIs Tryd.prog w "internal/strconv.uint64pow10" .u64 Lib.pow10Tab) (hl : l.length ≤ 4096) (hcap : l.length ≤ cap)
    (hb : ∀ n ∈ l, -9223372036854775807 ≤ n ∧ n ≤ 9223372036854775807)
    (hc : ∀ i (h : i < l.length), ∃ b o, A = some ⟨b, o, none⟩ ∧ b < w.heap.size ∧ w.cell? ⟨b, o + i, none⟩ = some (.int .i64 l[i])) :
    Calls Tryd.prog 43 #[.slice A l.length cap] w fun e w' => e = .returned (.string ⟨(joinB l).toArray⟩) ∧ Below w.heap.size w w' := by
  go_enter Tryd.func43, Tryd.ntmps43
  go_wp2
  go_loopw [8] (fun i wr => ∃ (k : Nat), k ≤ l.length ∧ i = .int .i64 k ∧ Lib.IsBuilderF 73 5 w.heap.size w.heap.size (Lib.byteCells (joinB (l.take k))) wr ∧ Below w.heap.size w wr) (fun i _ => l.length - (intOf i).toNat)
  case atStart => exact ⟨0, Nat.zero_le _, rfl, Lib.IsBuilderF.of (Lib.fresh_isBuilder 73 5 w), (Below.refl _ w).alloc (Nat.le_refl _) _⟩
  case round =>
    obtain ⟨k, hk, rfl, hI, hbw⟩ := hrel
    have hsz := hbw.size
    by_cases hlt : k < l.length
    · obtain ⟨b, o, rfl, hbl, hcell⟩ := hc k hlt
      have hcx : wr.cell? ⟨b, o + k, none⟩ = some (.int .i64 l[k]) := (hbw.cell hbl).trans hcell
      have hn := hb l[k] (List.getElem_mem hlt)
      have htr := tab_below (B := 0) hbw htab
      have hil := Lib.itoa_length_le l[k] (by omega) (by omega)
      have hjl := joinB_len (l.take k) fun m hm => hb m (List.mem_of_mem_take hm)
      rw [List.length_take, Nat.min_eq_left (by omega)] at hjl
      go_wp2_with (go_at_call 52; refine (Tryd.strconv_Itoa l[k] (by omega) (by omega) wr htr).mono ?_)
      rintro e W1 ⟨rfl, kk, os, rfl⟩
      have hI1 := isB_grow hI kk os
      have hb1 := hbw.trans (Lib.below_grow w.heap.size wr (by omega) kk os)
      have hs1 := Lib.size_grow wr kk os
      go_wp2_with (go_at_call 51; refine (Tryd.hWriteString w.heap.size w.heap.size _ ⟨(32 :: Lib.itoa l[k]).toArray⟩ _ hI1 ?_ (by omega)).mono ?_)
      · rw [Lib.byteCells_length]
        show _ + (32 :: Lib.itoa l[k]).toArray.size ≤ _
        rw [List.size_toArray, List.length_cons]
        omega
      rintro e W2 ⟨rfl, h2, b2, _⟩
      go_wp2
      go_roundw
      case rel =>
        refine ⟨k + 1, by omega, by simp, ?_, hb1.trans b2⟩
        rw [joinB_take l k hlt, Lib.byteCells_append]
        exact Or.inr h2
      case measure => simp [intOf]; omega
    · go_wp2_with (go_at_call 53; refine (Tryd.Builder_String_any_k w.heap.size w.heap.size (joinB (l.take k)) _ hI (by omega)).mono ?_)
      rintro e W1 ⟨rfl, _, b1, _⟩
      go_wp2
      go_ret
      rw [List.take_of_length_le (by omega)]
      exact ⟨rfl, hbw.trans b1⟩

theorem hand_impl_joined : FnOk Tryd.prog (Fix.tab Tryd.prog "internal/strconv.uint64pow10" .u64 Lib.pow10Tab) 43 (dspec ⟨[.one .s], .one (.one .d), true⟩ joinedF) :=
  joined_ok (enters_of Tryd.func43 (by kernel_rfl) rfl) fun A cap l w hI h1 h2 h3 h4 => joined_walk A cap l w hI h1 h2 h3 fun i hi => by
    rcases h4 with rfl | ⟨b, o, e, h5, h6⟩
    · simp at hi
    · exact ⟨b, o, e, h5, h6 i hi⟩


end YtdibnlhlngodeaaDoor
end Go.Proofs

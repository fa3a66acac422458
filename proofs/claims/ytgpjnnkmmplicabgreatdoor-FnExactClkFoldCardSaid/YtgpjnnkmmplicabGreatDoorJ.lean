/- What impl.joined and spec.l1Digits come to: the texts of numbers. -/
import Derived.Test.YtgpjnnkmmplicabGreatDoorS
import Derived.Test.YtgpjnnkmmplicabGreatDoorTd
import Derived.WalkKit
import Derived.BigCall
import Derived.Lib.ItoaLen
import Derived.Lib.AppendIntMem
set_option linter.unusedVariables false
set_option linter.unusedSimpArgs false
namespace Go.Proofs
open Go.Shelf Go.RowKit
def Tryz.hlays166_ren:Go.Shelf.Ren:=⟨fun | 166=>204 | 240=>207 | 276=>209 | n=>n,fun | 0=>0 | 3=>3 | 4=>4 | 9=>9 | 20=>20 | 37=>215 | 70=>219 | 72=>221 | 75=>223 | 80=>226 | 164=>229 | 5=>5 | n=>n,fun | n=>n⟩
theorem Tryz.hlays166:Go.Proofs.Lays.n166 Tryz.prog Tryz.hlays166_ren:={
 mixed:=by kernel_rfl
 f166:=Tryz.func204.trans (congrArg some (by kernel_rfl))
 f240:=Tryz.func207.trans (congrArg some (by kernel_rfl))
 f276:=Tryz.func209.trans (congrArg some (by kernel_rfl))
 t0:=Tryz.underlying0
 a0:=Tryz.isAgg0
 z0:=Tryz.sizeOf0
 v0:=Tryz.zeroValue0
 t3:=Tryz.underlying3
 a3:=Tryz.isAgg3
 z3:=Tryz.sizeOf3
 v3:=Tryz.zeroValue3
 t4:=Tryz.underlying4
 a4:=Tryz.isAgg4
 z4:=Tryz.sizeOf4
 v4:=Tryz.zeroValue4
 t9:=Tryz.underlying9
 a9:=Tryz.isAgg9
 z9:=Tryz.sizeOf9
 v9:=Tryz.zeroValue9
 t20:=Tryz.underlying20
 a20:=Tryz.isAgg20
 z20:=Tryz.sizeOf20
 v20:=Tryz.zeroValue20
 t37:=Tryz.underlying215
 a37:=Tryz.isAgg215
 z37:=Tryz.sizeOf215
 v37:=Tryz.zeroValue215
 t70:=Tryz.underlying219
 a70:=Tryz.isAgg219
 z70:=Tryz.sizeOf219
 v70:=Tryz.zeroValue219
 t72:=Tryz.underlying221
 a72:=Tryz.isAgg221
 z72:=Tryz.sizeOf221
 v72:=Tryz.zeroValue221
 t75:=Tryz.underlying223
 a75:=Tryz.isAgg223
 z75:=Tryz.sizeOf223
 v75:=Tryz.zeroValue223
 t164:=Tryz.underlying229
 a164:=Tryz.isAgg229
 z164:=Tryz.sizeOf229
 v164:=Tryz.zeroValue229 }
theorem Tryz.hExtra:Builder.Extra Tryz.prog Tryz.hlays166_ren:={
 sizeBuilder:=by kernel_rfl
 liesBuilder:=by kernel_rfl
 t5:=Tryz.underlying5
 a5:=Tryz.isAgg5
 z5:=Tryz.sizeOf5
 v5:=Tryz.zeroValue5
 infoByte:=by kernel_rfl
 cellsByte:=by kernel_rfl
 sizeByte:=by kernel_rfl
 neB5:=by decide }
theorem Tryz.hWriteString (B b:Nat) (bs:List Value) (s:ByteArray) (w:World) (h:Lib.IsBuilderF 221 5 B b bs w) (hlen:bs.length+s.size≤140737488355328) (hBw:B≤w.heap.size) :
  Calls Tryz.prog 204 #[.pointer (some ⟨b,0,none⟩),.string s] w fun e w'=>e = .returned (.tuple #[.int .i64 s.size,.nilIface])∧(Lib.BuilderAtF 221 5 B b (.pointer (some ⟨b,0,none⟩)) (bs++Lib.strCells s) w'∧Below B w w'∧Lib.OthersKept 5 (some b) w w') :=
 Any.Builder_WriteString_k Tryz.hlays166 Tryz.hExtra B b bs s w h hlen hBw
namespace YtgpjnnkmmplicabGreatDoor
open Go Go.Tm
theorem Jn3 {T e:TypeId} {B b:Nat} {bs:List Value} {w:World} (h:Lib.IsBuilderF T e B b bs w) (k:Nat) (os:Array Obj):Lib.IsBuilderF T e B b bs (Sort.grow (w.drewN k) os):=by
 have one :∀p,Lib.BuilderAtF T e B b p bs w→Lib.BuilderAtF T e B b p bs (Sort.grow (w.drewN k) os):=by
  rintro p ⟨hB,v,hb,hown,hne⟩;have hlt:b<w.heap.size:=(Array.getElem?_eq_some_iff.1 hb).1;refine⟨hB,v,(Lib.heap_grow_old w k os b hlt).trans hb,hown.kept (row:=none) ⟨rfl,rfl,rfl,Lib.size_grow w k os,fun j hj _=>Lib.heap_grow_old w k os j hj⟩ ?_,hne⟩;cases v.ownBlock with
  | none=>exact .inl rfl
  | some x=>exact .inr (by simp)
 exact h.imp (one _) (one _)
theorem Jlg {B:Nat} {w w':World} {zs:List Int} {nm:String} (hb:Below w.heap.size w w') (h:Lib.TabIs Tryz.prog w nm .u64 zs):Lib.TabIs Tryz.prog w' nm .u64 zs :=
 (Fix.tab Tryz.prog nm .u64 zs).keep w w' h fun b hm=>hb.block b ((Fix.tab Tryz.prog nm .u64 zs).lt w h b hm)
theorem Je5 :∀(l:List Int),(∀n∈l,-9223372036854775807≤n∧n≤9223372036854775807)→(J4 l).length≤22*l.length
 | [],_=>by simp[J4]
 | n::l,h=>by
  have h1:=h n (by simp);have h2:=Lib.itoa_length_le n (by omega) (by omega);have h3:=Je5 l fun m hm=>h m (by simp[hm]);simp only[J4,List.flatMap_cons,List.length_append,List.length_cons] at h3 ⊢;omega
theorem Jjv (l:List Int) (k:Nat) (h:k<l.length):J4 (l.take (k+1))=J4 (l.take k)++(32::Lib.itoa l[k]):=by
 unfold J4;rw[List.take_succ_eq_append_getElem h,List.flatMap_append];simp only[List.flatMap_cons,List.flatMap_nil,List.append_nil]
set_option maxHeartbeats 4000000 in
set_option maxRecDepth 1000000 in
theorem joined_walk (A : Option Addr) (cap : Nat) (l : List Int) (w : World) (htab : Lib.TabIs Tryz.prog w "internal/strconv.uint64pow10" .u64 Lib.pow10Tab) (hl : l.length ≤ 4096) (hcap : l.length ≤ cap)
  (hb :∀n∈l,-9223372036854775807≤n∧n≤9223372036854775807)
  (hc :∀i (h:i<l.length),∃ b o,A=some ⟨b,o,none⟩∧b<w.heap.size∧w.cell? ⟨b,o+i,none⟩=some (.int .i64 l[i])) :
  Calls Tryz.prog 197 #[.slice A l.length cap] w fun e w'=>e = .returned (.string ⟨(J4 l).toArray⟩)∧Below w.heap.size w w':=by
 go_enter Tryz.func197,Tryz.ntmps197
 go_wp2
 go_loopw [8] (fun i wr=>∃ (k:Nat),k≤l.length∧i = .int .i64 k∧Lib.IsBuilderF 221 5 w.heap.size w.heap.size (Lib.byteCells (J4 (l.take k))) wr∧Below w.heap.size w wr) (fun i _=>l.length-(intOf i).toNat)
 case atStart=>exact⟨0,Nat.zero_le _,rfl,Lib.IsBuilderF.of (Lib.fresh_isBuilder 221 5 w),(Below.refl _ w).alloc (Nat.le_refl _) _⟩
 case round =>
  obtain⟨k,hk,rfl,hI,hbw⟩:=hrel;have hsz:=hbw.size
  by_cases hlt:k<l.length
  ·obtain⟨b,o,rfl,hbl,hcell⟩:=hc k hlt;have hcx:wr.cell? ⟨b,o+k,none⟩=some (.int .i64 l[k]):=(hbw.cell hbl).trans hcell;have hn:=hb l[k] (List.getElem_mem hlt);have htr:=Jlg (B:=0) hbw htab;have hil:=Lib.itoa_length_le l[k] (by omega) (by omega);have hjl:=Je5 (l.take k) fun m hm=>hb m (List.mem_of_mem_take hm);rw[List.length_take,Nat.min_eq_left (by omega)] at hjl
   go_wp2_with (go_at_call 205;refine(Tryz.strconv_Itoa l[k] (by omega) (by omega) wr htr).mono ?_)
   rintro e W1 ⟨rfl,kk,os,rfl⟩;have hI1:=Jn3 hI kk os;have hb1:=hbw.trans (Lib.below_grow w.heap.size wr (by omega) kk os);have hs1:=Lib.size_grow wr kk os
   go_wp2_with (go_at_call 204;refine(Tryz.hWriteString w.heap.size w.heap.size _ ⟨(32::Lib.itoa l[k]).toArray⟩ _ hI1 ?_ (by omega)).mono ?_)
   ·rw[Lib.byteCells_length];show _+(32::Lib.itoa l[k]).toArray.size≤_;rw[List.size_toArray,List.length_cons];omega
   rintro e W2 ⟨rfl,h2,b2,_⟩
   go_wp2
   go_roundw
   case rel =>
    refine⟨k+1,by omega,by simp,?_,hb1.trans b2⟩;rw[Jjv l k hlt,Lib.byteCells_append];exact Or.inr h2
   case measure=>simp[intOf];omega
  ·go_wp2_with (go_at_call 206;refine(Tryz.Builder_String_any_k w.heap.size w.heap.size (J4 (l.take k)) _ hI (by omega)).mono ?_)
   rintro e W1 ⟨rfl,_,b1,_⟩
   go_wp2
   go_ret
   rw[List.take_of_length_le (by omega)];exact⟨rfl,hbw.trans b1⟩
theorem hand_k3o : FnOk Tryz.prog (Fix.tab Tryz.prog "internal/strconv.uint64pow10" .u64 Lib.pow10Tab) 197 (dspec ⟨[.one .s], .one (.one .d), true⟩ joinedF) :=
 JlE (enters_of Tryz.func197 (by kernel_rfl) rfl) fun A cap l w hI h1 h2 h3 h4=>joined_walk A cap l w hI h1 h2 h3 fun i hi=>by
  rcases h4 with rfl | ⟨b,o,e,h5,h6⟩
  ·simp at hi
  ·exact⟨b,o,e,h5,h6 i hi⟩
theorem Jj0 (a b:List UInt8):(⟨a.toArray⟩:ByteArray)++⟨b.toArray⟩=⟨(a++b).toArray⟩:=by
 apply ByteArray.ext;simp
set_option maxHeartbeats 4000000 in
set_option maxRecDepth 1000000 in
theorem Jdd (n:Nat) (w:World) (hn:n≤9223372036854775807):Calls Tryz.prog 186 #[.int .i64 (n:Int)] w fun e w'=>e = .returned (.string ⟨(Lib.decDigits n).toArray⟩)∧Below w.heap.size w w':=by
 have h20:=Lib.nDigits_le20 n (by omega)
 go_enter Tryz.func186,Tryz.ntmps186
 go_wp2
 go_loopw [0,3] (fun vn vo wr=>∃ (m:Nat) (acc:List UInt8),vn = .int .i64 m∧vo = .string ⟨acc.toArray⟩∧m≤n∧Lib.decDigits m++acc=Lib.decDigits n∧Below w.heap.size w wr) (fun vn _ _=>(intOf vn).toNat)
 case atStart=>exact⟨n,[],rfl,rfl,Nat.le_refl _,List.append_nil _,Below.refl _ _⟩
 case round =>
  obtain⟨m,acc,rfl,rfl,hm,hacc,hbw⟩:=hrel;have hsz:=hbw.size;have hal:acc.length≤20:=by
   have h:=congrArg List.length hacc;rw[List.length_append,Lib.decDigits_length,Lib.decDigits_length] at h;omega
  have hcv :∀(x:Int) (c:UInt8),(c.toNat:Int)=x→(convert 215 9 (.slice (some ⟨wr.heap.size,0,none⟩) 1 1)).run Tryz.prog (wr.alloc (.cells #[.int .u8 x] 5)) = .ok (.string ⟨[c].toArray⟩) (wr.alloc (.cells #[.int .u8 x] 5)):=fun x c hx =>
   run_convert_bytes_back (P:=Tryz.prog) (wr.alloc (.cells #[.int .u8 x] 5)) 215 9 5 ⟨wr.heap.size,0,none⟩ 1 [c] Tryz.underlying215 Tryz.underlying5 Tryz.underlying9 fun j hj=>by
    have h0:j=0:=by simp at hj;omega
    subst h0;rw[←hx];exact World.cell?_alloc_new _ _ _ 0
  by_cases h9:9<m
  ·obtain⟨c,Hc⟩ : ∃ c,Hid (c=UInt8.ofNat (48+m % 10)):=⟨_,rfl⟩;have hcv1:=hcv (48+(m:Int) % 10) c (by rw[show c=UInt8.ofNat (48+m % 10) from Hc];simp;omega);clear hcv
   go_wp2
   go_roundw
   case rel =>
    refine⟨m / 10,c::acc,by simp,by rw[Jj0];rfl,by omega,?_,hbw.alloc hsz _⟩;rw[show c=UInt8.ofNat (48+m % 10) from Hc,←hacc]
    conv=>rhs;rw[Lib.decDigits,dif_neg (by omega)]
    simp
   case measure=>simp[intOf];omega
  ·obtain⟨c,Hc⟩ : ∃ c,Hid (c=UInt8.ofNat (48+m)):=⟨_,rfl⟩;have hcv1:=hcv (48+(m:Int)) c (by rw[show c=UInt8.ofNat (48+m) from Hc];simp;omega);clear hcv
   go_wp2
   go_ret
   refine⟨?_,hbw.alloc hsz _⟩;rw[←hacc,Lib.decDigits_one (by omega),←show c=UInt8.ofNat (48+m) from Hc,←Jj0];rfl
set_option maxHeartbeats 4000000 in
set_option maxRecDepth 1000000 in
theorem Jic (n:Int) (w:World) (h0 : -9223372036854775807≤n) (h1:n≤9223372036854775807):Calls Tryz.prog 186 #[.int .i64 n] w fun e w'=>e = .returned (.string ⟨(Lib.itoa n).toArray⟩)∧Below w.heap.size w w':=by
 by_cases hs:0≤n
 ·obtain⟨m,rfl⟩ : ∃ m:Nat,n=m:=⟨n.toNat,by omega⟩;rw[Lib.itoa_nonneg];exact Jdd m w (by omega)
 ·obtain⟨m,rfl⟩ : ∃ m:Nat,n = -(m:Int):=⟨n.natAbs,by omega⟩;have hl:=Lib.nDigits_le20 m (by omega);rw[Lib.itoa_neg m (by omega)];rw[←Lib.decDigits_length] at hl
  go_enter Tryz.func186,Tryz.ntmps186
  go_wp2_with (go_at_call 186;refine(Jdd m w (by omega)).mono ?_)
  rintro e W1 rfl hb
  go_wp2
  go_ret
  exact⟨rfl,hb⟩
theorem hand_k1g : FnOk Tryz.prog (Fix.tab Tryz.prog "internal/strconv.uint64pow10" .u64 Lib.pow10Tab) 186 (dspec ⟨[.one (.i .i64)], .one (.one .d), true⟩ digitsF) :=
 Jk6 (enters_of Tryz.func186 (by kernel_rfl) rfl) fun n w h0 h1=>Jic n w h0 h1
end YtgpjnnkmmplicabGreatDoor
end Go.Proofs

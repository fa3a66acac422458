import Derived.Test.YtgpjnnkmmplicaaGreatDoorPZL
import Derived.Test.YtgpjnnkmmplicaaGreatDoorPN
import Derived.Test.YtgpjnnkmmplicaaGreatDoorTd
import Derived.Laws.Strings
import Derived.Lib.ItoaLen
import Derived.Test.YtgpjnnkmmplicaaGreatDoorPT
import Derived.Test.YtgpjnnkmmplicaaGreatDoorTe
set_option linter.unusedVariables false
set_option linter.unusedSimpArgs false
/- The program's WldNew answers as the reference's: over residual programs. -/
namespace Go.Proofs.YtgpjnnkmmplicaaGreatDoor
open Go Go.Tm
open Go.IntKind (i64)
theorem Jne {α:Type} {f g:FuncId} {H:XQ} {s:Sig} {sh:Sh} {as:List E} {k1 k2:Nat} (enc:α→D) (vsOf:α→List V) (args:α→List D) (a:List α) (hf:L.lookup f=some ⟨s,.r H (Jmi g sh as k1 k2)⟩) (hs:Zn s=[.s,.s])
  (hb :∀x,YW sh (enc x)=some (vsOf x)) (hk1 :∀x,3+(vsOf x).length=k1) (hk2 :∀x,k1+(vsOf x).length=k2)
  (ha :∀(v0 v1 v2:V) (x y:α),as.map (dat (Jp ([v0,v1,v2]++vsOf x++vsOf y)))=args x++args y)
  (hc :∀x∈a,Ev L g (args x++args x) [dB true]) (hl:a.length≤2000000) :
  Ev L f [.s (a.map enc),.s (a.map enc)] [dB true]:=by
 refine Jq7 (vs:=[.l (a.map enc),.l (a.map enc)]) hf (by rw[hs];rfl) ?_;refine JqM (by show (!(decide (((a.map enc).length:Int)=((a.map enc).length:Int))))=false;simp) ?_;refine JqH a.length (fun i=>[.i i]) (fun _=>True) rfl rfl trivial fun i hi _=>?_;refine Jqv i (Jri (f:=enc) (as:=a)) rfl (fun h'=>?_) (fun h'=>JqG (JqK rfl));obtain⟨x,hx,hmx⟩:=sA1 h';have k1x:=hk1 x;have k2x:=hk2 x;refine JqJ i (mA1 (f:=enc) hx) rfl rfl rfl (hb x) ?_;refine JqJ i (mA1 (f:=enc) hx) (by simp;omega) rfl rfl (hb x) ?_;refine Jqy (ds:=[dB true]) (vs:=[.b true]) (by simp;omega) (by
  show Ev L g (as.map (dat (Jp ([V.l (a.map enc),.l (a.map enc),.i i]++vsOf x++vsOf x)))) _;rw[ha];exact hc x hmx) rfl ?_
 have e1 :∀(t:V),Jp ([V.l (a.map enc),.l (a.map enc),.i i]++vsOf x++vsOf x++[t]) k2=t:=by
  intro t;unfold Jp;rw[Jrc,JrB (by simp;omega)];rw[show k2-([V.l (a.map enc),.l (a.map enc),.i i]++vsOf x++vsOf x).length=0 by simp;omega];rfl
 refine JqM (by show (!(den (Jp ([V.l (a.map enc),.l (a.map enc),.i i]++vsOf x++vsOf x++[V.b true])) (.v k2)).bool)=_;simp only[den,e1];rfl) ?_;refine JqI (vs:=[.i ((i+1:Nat):Int)]) ?_ ⟨h',rfl,trivial⟩;show [V.i (i64.wrap ((i:Int)+1))]=_;rw[wS h' (by omega)]
/- Results as texts: which of them are ok. -/
def JP (c:Int) (t:List Int):Bool:=inB c 1 3&&(decide (t.length≤6)&&((decide (c=1)||t.isEmpty)&&JE t.length 999999999999 t))
theorem Jaj {c:Int} {t:List Int}:JP c t=true↔(1≤c∧c≤3)∧t.length≤6∧(c=1∨t=[])∧Lim 999999999999 t:=by
 unfold JP inB;simp only[Jq9,Bool.or_eq_true,decide_eq_true_eq,List.isEmpty_iff,Jy];exact⟨fun h=>⟨h.1,h.2.1,h.2.2.1,h.2.2.2.2⟩,fun h=>⟨h.1,h.2.1,h.2.2.1,trivial,h.2.2.2⟩⟩
def J5:List (List UInt8):=[[],[100,111,110,101],[115,116,111,112,112,101,100],[111,118,101,114]]
def Kl (c:Int) (t:List Int):List UInt8:=if JP c t then J5.getD c.toNat []++J6 t else []
theorem JoT (a b:List UInt8):(⟨a.toArray⟩:ByteArray)++⟨b.toArray⟩=⟨(a++b).toArray⟩:=by
 apply ByteArray.ext;simp
theorem Jbx {a b:List UInt8} (h:a.length+b.length≤1000000):Zm .cat [Qz a,Qz b]=some (Qz (a++b)):=by
 show (if(⟨a.toArray⟩:ByteArray).size+(⟨b.toArray⟩:ByteArray).size≤2 ^ 62 then some (D.v (.string ((⟨a.toArray⟩:ByteArray)++⟨b.toArray⟩))) else none)=_;rw[if_pos,JoT]
 ·rfl
 show a.toArray.size+b.toArray.size≤2 ^ 62;simp only[List.size_toArray];omega
theorem Jj1 (a b:List UInt8):Zm .seq [Qz a,Qz b]=some (dB (a == b)):=by
 show some (D.v (.bool ((⟨a.toArray⟩:ByteArray).toList == (⟨b.toArray⟩:ByteArray).toList)))=_;rw[ByteArray.toList_mk,ByteArray.toList_mk]
theorem JcQ (t:List Int) (hl:Lim 999999999999 t):(J6 t).length≤22*t.length:=by
 induction t with
 | nil=>simp[J6]
 | cons n l ih =>
  have h1:=hl n (by simp);have h2:=Lib.itoa_length_le n (by omega) (by omega);have h3:=ih fun m hm=>hl m (by simp[hm]);simp only[J6,List.flatMap_cons,Jrf,List.length_cons] at h3 ⊢;omega
theorem JfI {c:Int} (h:inB c 1 3=true):J5[c.toNat]? = some (J5.getD c.toNat [])∧J5.getD c.toNat []≠[]∧(J5.getD c.toNat []).length≤7:=by
 unfold inB at h;simp only[Jq9,decide_eq_true_eq] at h;rcases (show c=1∨c=2∨c=3 by omega) with rfl | rfl | rfl <;> exact⟨rfl,by decide,by decide⟩
theorem Jdu (c:Int) (t:List Int):(Kl c t == []) = !JP c t:=by
 unfold Kl;split
 ·rename_i h;have hin:inB c 1 3=true:=by unfold JP at h;simp only[Jq9] at h;exact h.1
  have:=(JfI hin).2.1;rw[h];have h2:J5.getD c.toNat []++J6 t≠[]:=fun e=>this (List.append_eq_nil_iff.1 e).1;generalize J5.getD c.toNat []++J6 t=l at h2;cases l with
  | nil=>exact absurd rfl h2
  | cons x l=>rfl
 ·rename_i h;simp[h]
theorem Jez (t:List Int) (h6:t.length≤6) (hl:Lim 999999999999 t):Ev L f_k3w [.s (dL t)] [Qz (J6 t)]:=by
 refine Jq6 L_k3w ?_;show (if(dL t).length≤4096 then((dL t).mapM Jbo).map fun l=>[Qz (J6 l)] else none)=_;have e:(dL t).mapM Jbo=some t:=Ja3 fun n hn=>by have:=hl n hn;omega
 rw[if_pos (by rw[dL1];omega),e];rfl
theorem Ws:Ev L f_k3v [] [.s (J5.map Qz)] :=
 Jq7 (vs:=[]) L_k3v rfl (JqK rfl)
theorem Jgr (c:Int) (t:List Int) (ht:t.length≤2000000):Ev L f_k3x [dI c,.s (dL t)] [Qz (Kl c t)]:=by
 refine Jq7 (vs:=[.i c,.l (dL t)]) L_k3x rfl ?_;have no:JP c t=false→([Qz []]:List D)=[Qz (Kl c t)]:=fun h=>by simp[Kl,h]
 refine JqC (XE c 1 3) rfl rfl rfl ?_;refine JqA (inB c 1 3) rfl (fun h=>JqK (no (by simp[JP,h]))) (fun h1=>?_);refine JqL (6<((dL t).length:Int)) rfl (fun h=>JqK (no ?_)) (fun h2=>?_)
 ·rw[dL1] at h;simp only[JP,show ¬t.length≤6 by omega,decide_false,Bool.false_and,Bool.and_false]
 rw[dL1] at h2;obtain⟨w1,_,w3⟩:=JfI h1;have hidx:(J5.map Qz)[c.toNat]? = some (Qz (J5.getD c.toNat [])):=by rw[Jru,w1];rfl
 have hc0:0≤c:=by unfold inB at h1;simp only[Jq9,decide_eq_true_eq] at h1;omega
 have hc4:c<((J5.map Qz).length:Int):=by unfold inB at h1;simp only[Jq9,decide_eq_true_eq] at h1;show c<4;omega
 have hwn:=Q8 t t.length 999999999999 ht (by omega) (by omega);refine JqA (decide (c=1)) rfl (fun h3=>?_) (fun h3=>?_)
 ·refine JqL (0<((dL t).length:Int)) rfl (fun h=>JqK (no ?_)) (fun h4=>?_)
  ·rw[dL1] at h;have:t.isEmpty=false:=by cases t with
    | nil=>simp at h
    | cons x t=>rfl
   simp only[JP,h3,this,Bool.or_false,Bool.false_and,Bool.and_false]
  ·rw[dL1] at h4;have h4:t=[]:=List.length_eq_zero_iff.1 (by omega);refine JqC hwn rfl (by show [D.s (dL t),dI ((dL t).length:Int),dI 999999999999]=_;rw[dL1]) rfl ?_;refine JqA (JE t.length 999999999999 t) rfl (fun h=>JqK (no (by simp only[JP,h,Bool.and_false]))) (fun h5=>?_);have hl:=(Jy.1 h5).2;have hj:=JcQ t hl;have hok:JP c t=true:=by simp only[JP,h1,h5,h4,List.length_nil,List.isEmpty_nil,Bool.or_true,Jrt];simp[JE]
   have e:Qz (Kl c t)=Qz (J5.getD c.toNat []++J6 t):=by simp only[Kl,hok,if_true]
   rw[e];refine JqC Ws rfl rfl rfl ?_;refine JqF (0≤c) rfl hc0 (JqF (c<((J5.map Qz).length:Int)) rfl hc4 ?_);refine JqO (ds:=J5.map Qz) c rfl rfl rfl hc0 hidx rfl ?_;refine JqC (Jez t (by omega) hl) rfl rfl rfl ?_;refine Jqw rfl (Jbx (by omega)) rfl (JqK rfl)
 ·refine JqC hwn rfl (by show [D.s (dL t),dI ((dL t).length:Int),dI 999999999999]=_;rw[dL1]) rfl ?_;refine JqA (JE t.length 999999999999 t) rfl (fun h=>JqK (no (by simp only[JP,h,Bool.and_false]))) (fun h5=>?_);have hl:=(Jy.1 h5).2;have hj:=JcQ t hl;have hok:JP c t=true:=by simp only[JP,h1,h5,h3,Bool.true_or,Jrt,Bool.and_true];simp;omega
  have e:Qz (Kl c t)=Qz (J5.getD c.toNat []++J6 t):=by simp only[Kl,hok,if_true]
  rw[e];refine JqC Ws rfl rfl rfl ?_;refine JqF (0≤c) rfl hc0 (JqF (c<((J5.map Qz).length:Int)) rfl hc4 ?_);refine JqO (ds:=J5.map Qz) c rfl rfl rfl hc0 hidx rfl ?_;refine JqC (Jez t (by omega) hl) rfl rfl rfl ?_;refine Jqw rfl (Jbx (by omega)) rfl (JqK rfl)
theorem Jk8 (c:Int) (t:List Int) (ht:t.length≤2000000):Ev L f_k3y [dI c,.s (dL t)] [dB (JP c t)]:=by
 refine Jq7 (vs:=[.i c,.l (dL t)]) L_k3y rfl ?_;refine JqC (Jgr c t ht) rfl rfl rfl ?_;refine Jqw rfl (Jj1 (Kl c t) []) rfl (JqK ?_);show [dB (!(Kl c t == []))]=_;rw[Jdu,Bool.not_not]
/- Sizes and copies of calls,of what was done,of sites,clerks and messages: over residual programs. -/
def szL {α:Type} (f:α→Nat) (l:List α):Nat:=l.length+(l.map f).sum
theorem Jmt {α:Type} (f:α→Nat) {l:List α} {i:Nat} {x:α} (h:l[i]? = some x):((l.take (i+1)).map f).sum=((l.take i).map f).sum+f x:=by rw[Q6 h];simp
theorem JkT {α:Type} (f:α→Nat) (l:List α) (i:Nat):szL f l=l.length+((l.take i).map f).sum+((l.drop i).map f).sum:=by
 unfold szL
 conv=>lhs;rw[←List.take_append_drop i l,List.map_append,List.sum_append,List.take_append_drop]
 omega
theorem Jn4 {α:Type} (f:α→Nat) (l:List α):l.length≤szL f l:=by unfold szL;omega
theorem JoA {α:Type} (f:α→Nat) {l:List α} {x:α} (h:x∈l):f x≤szL f l:=by
 have:f x≤(l.map f).sum:=by
  induction l with
  | nil=>simp at h
  | cons y l ih =>
   simp only[Jrh,List.sum_cons];rcases Jrs.1 h with rfl | h
   ·omega
   ·have:=ih h;omega
 unfold szL;omega
def Jpy {α:Type} (f:α→Prop) (l:List α):Prop:=l.length≤9223372036854775807∧∀x∈l,f x
def JhV {α:Type} (f:α→Prop) (l:List α):Prop:=l.length≤2000000∧∀x∈l,f x
theorem Jn1 {α:Type} {f:α→Nat} {p:α→Prop} (hp :∀x,f x≤1048576→p x) {l:List α} (h:szL f l≤1048576):JhV p l :=
 ⟨by have:=Jn4 f l;omega,fun x hx=>hp x (by have:=JoA f hx;omega)⟩
def JbN (x:Cal):Nat:=x.args.length
def JiN (x:Cal):Prop:=x.args.length≤9223372036854775807
def Yb (x:Cal):Prop:=x.args.length≤2000000
theorem Jlv {x:Cal} (h:JbN x≤1048576):Yb x:=by
 unfold JbN at h;exact by show _≤_;omega
def QT (x:Don):Nat:=x.tells.length
def Jam (x:Don):Prop:=x.tells.length≤9223372036854775807
def YQ (x:Don):Prop:=x.tells.length≤2000000
theorem JlT {x:Don} (h:QT x≤1048576):YQ x:=by
 unfold QT at h;exact by show _≤_;omega
theorem JfL (x:Cal) (left:Int) (hb:JiN x) (h0:0≤left) (h1:left≤1048576):Ev L f_ka (x.cells++[dI left]) [dI (dec left (JbN x))]:=by
 refine Jq7 (vs:=[.i x.client,.i x.seq,.i x.act,.l (dL x.args),.i left]) L_ka rfl ?_;refine JqC (XY x.args left hb h0 h1) rfl rfl rfl ?_;simp only[sC,sN];have hr0:=J2 (n:=x.args.length) h0 h1;refine JqL (dec left (x.args.length)<0) rfl (fun h=>JqK ?_) (fun h=>JqK rfl);show [dI (-1)]=[dI (dec left (JbN x))];have e:dec left (JbN x)=dec left (x.args.length):=rfl;rw[e,show dec left (x.args.length) = -1 by omega]
theorem Jcv (c:Int) (t:List Int) (left:Int) (hb:t.length≤9223372036854775807) (h0:0≤left) (h1:left≤1048576):Ev L f_k6 [dI c,.s (dL t),dI left] [dI (dec left t.length)]:=by
 refine Jq7 (vs:=[.i c,.l (dL t),.i left]) L_k6 rfl ?_;refine JqC (XY t left hb h0 h1) rfl rfl rfl ?_;have hr:=J2 (n:=t.length) h0 h1;refine JqL (dec left t.length<0) rfl (fun h=>JqK ?_) (fun h=>JqK rfl);show [dI (-1)]=_;rw[show dec left t.length = -1 by omega]
theorem Jfy (x:Don) (left:Int) (hb:Jam x) (h0:0≤left) (h1:left≤1048576):Ev L f_k7 (x.cells++[dI left]) [dI (dec left (QT x))]:=by
 refine Jq7 (vs:=[.i x.seq,.i x.code,.l (dL x.tells),.i left]) L_k7 rfl ?_;refine JqC (Jcv x.code x.tells left hb h0 h1) rfl rfl rfl ?_;simp only[sC,sN];have hr0:=J2 (n:=x.tells.length) h0 h1;refine JqL (dec left (x.tells.length)<0) rfl (fun h=>JqK ?_) (fun h=>JqK rfl);show [dI (-1)]=[dI (dec left (QT x))];have e:dec left (QT x)=dec left (x.tells.length):=rfl;rw[e,show dec left (x.tells.length) = -1 by omega]
theorem JdH (l:List Don) (left:Int) (hb:Jpy Jam l) (h0:0≤left) (h1:left≤1048576):Ev L f_k8 [.s (dDs l),dI left] [dI (dec left (szL QT l))]:=by
 refine Jq7 (vs:=[.l (dDs l),.i left]) L_k8 rfl ?_;have hlen:(dDs l).length=l.length:=by simp[dDs]
 have hl:=hb.1;have hw:i64.wrap (left-((dDs l).length:Int))=left-l.length:=by rw[hlen];exact w64 (by omega) (by omega)
 refine JqL (left-(l.length:Int)<0) ?_ (fun h=>JqK ?_) (fun h=>?_)
 ·show decide (i64.wrap (left-((dDs l).length:Int))<0)=_;rw[hw]
 ·show [dI (-1)]=_;unfold dec szL;rw[if_neg (by omega)]
 have hal:l.length≤1048576:=by omega
 refine JqH l.length (fun i=>[.i (dec left (l.length+((l.take i).map QT).sum)),.i i]) (fun i=>¬dec left (l.length+((l.take i).map QT).sum)<0) rfl ?_ ?_ fun i hi hp=>?_
 ·show [V.i (i64.wrap (left-((dDs l).length:Int))),V.i 0]=_;rw[hw];simp only[List.take_zero,List.map_nil,List.sum_nil,Nat.add_zero];unfold dec;rw[if_pos (by omega)];rfl
 ·simp only[List.take_zero,List.map_nil,List.sum_nil,Nat.add_zero];unfold dec;rw[if_pos (by omega)];omega
 simp only[sC,sN];have hr:=J2 (n:=l.length+((l.take i).map QT).sum) h0 h1;refine Jqv i hlen rfl (fun h'=>?_) (fun h'=>JqG (JqK ?_))
 ·obtain⟨x,hx,hm⟩:=sA1 h';refine JqJ (vs:=[.i x.seq,.i x.code,.l (dL x.tells)]) i (mA1 (f:=Don.g) hx) rfl rfl rfl rfl ?_;simp only[sC,sN];refine JqC (Jfy x (dec left (l.length+((l.take i).map QT).sum)) (hb.2 x hm) (by omega) (by omega)) rfl rfl rfl ?_;simp only[sC,sN];have e:=Y4 (m:=QT x) hp;rw[Nat.add_assoc,←Jmt QT hx] at e;rw[e];refine JqL (dec left (l.length+((l.take (i+1)).map QT).sum)<0) rfl (fun h2=>JqG (JqK ?_)) (fun h2=>?_)
  ·show [dI (-1)]=_;rw[JkT QT l (i+1),UL h2 h0]
  ·refine JqI (vs:=[.i (dec left (l.length+((l.take (i+1)).map QT).sum)),.i ((i+1:Nat):Int)]) ?_ ⟨h',rfl,h2⟩;rw[←wS h' (by omega)];rfl
 ·show [dI (dec left (l.length+((l.take i).map QT).sum))]=_;rw[tA1 h'];rfl
def YN (x:Sit):Nat:=x.base.length+x.added.length+szL QT x.done
def Jih (x:Sit):Prop:=x.base.length≤9223372036854775807∧x.added.length≤9223372036854775807∧Jpy Jam x.done
theorem Jfr (x:Sit) (left:Int) (hb:Jih x) (h0:0≤left) (h1:left≤1048576):Ev L f_k9 (x.cells++[dI left]) [dI (dec left (YN x))]:=by
 refine Jq7 (vs:=[.b x.up,.b x.frozen,.i x.round,.l (dL x.base),.l (dL x.added),.l (dDs x.done),.i left]) L_k9 rfl ?_;refine JqC (XY x.base left hb.1 h0 h1) rfl rfl rfl ?_;simp only[sC,sN];have hr0:=J2 (n:=x.base.length) h0 h1;refine JqL (dec left (x.base.length)<0) rfl (fun h=>JqK ?_) (fun h=>?_)
 ·show [dI (-1)]=_;rw[show YN x=x.base.length+(x.added.length+szL QT x.done) by unfold YN;omega,UL h h0]
 refine JqC (XY x.added (dec left (x.base.length)) hb.2.1 (by omega) (by omega)) rfl rfl rfl ?_;simp only[sC,sN];have hr1:=J2 (n:=x.base.length+x.added.length) h0 h1;rw[Y4 h];refine JqL (dec left (x.base.length+x.added.length)<0) rfl (fun h=>JqK ?_) (fun h=>?_)
 ·show [dI (-1)]=_;rw[show YN x=x.base.length+x.added.length+(szL QT x.done) by unfold YN;omega,UL h h0]
 refine JqC (JdH x.done (dec left (x.base.length+x.added.length)) hb.2.2 (by omega) (by omega)) rfl rfl rfl ?_;simp only[sC,sN];have hr2:=J2 (n:=x.base.length+x.added.length+szL QT x.done) h0 h1;rw[Y4 h];refine JqL (dec left (x.base.length+x.added.length+szL QT x.done)<0) rfl (fun h=>JqK ?_) (fun h=>JqK rfl);show [dI (-1)]=[dI (dec left (YN x))];have e:dec left (YN x)=dec left (x.base.length+x.added.length+szL QT x.done):=rfl;rw[e,show dec left (x.base.length+x.added.length+szL QT x.done) = -1 by omega]
structure Msg where
 kind:Int
 to:Int
 frm:Int
 round:Int
 call:Cal
 vals:List Int
 seqs:List Int
 done:List Don
 deriving DecidableEq
def Msg.cells (x:Msg):List D:=[dI x.kind,dI x.to,dI x.frm,dI x.round,dI x.call.client,dI x.call.seq,dI x.call.act,.s (dL x.call.args),.s (dL x.vals),.s (dL x.seqs),.s (dDs x.done)]
def Msg.g (x:Msg):D:= .g x.cells
def Ul (x:Msg):Prop:=x.call.args.length≤2000000∧x.vals.length≤2000000∧x.seqs.length≤2000000∧JhV YQ x.done
theorem JfN (x:Cal) (hf:Yb x):Ev L f_kl x.cells x.cells:=by
 refine Jq7 (vs:=[.i x.client,.i x.seq,.i x.act,.l (dL x.args)]) L_kl rfl ?_;refine JqC (vs:=[.l (dL x.args)]) (XW x.args hf) rfl rfl rfl ?_;simp only[sC,sN];exact JqK rfl
theorem JcH (c:Int) (t:List Int) (ht:t.length≤2000000):Ev L f_kh [dI c,.s (dL t)] [dI c,.s (dL t)]:=by
 refine Jq7 (vs:=[.i c,.l (dL t)]) L_kh rfl ?_;exact JqC (vs:=[.l (dL t)]) (XW t ht) rfl rfl rfl (JqK rfl)
theorem Jfd (x:Don) (hf:YQ x):Ev L f_ki x.cells x.cells:=by
 refine Jq7 (vs:=[.i x.seq,.i x.code,.l (dL x.tells)]) L_ki rfl ?_;refine JqC (vs:=[.i x.code,.l (dL x.tells)]) (JcH x.code x.tells hf) rfl rfl rfl ?_;simp only[sC,sN];exact JqK rfl
theorem JdB (l:List Don) (hf:JhV YQ l):Ev L f_kj [.s (dDs l)] [.s (dDs l)]:=by
 refine Jq7 (vs:=[.l (dDs l)]) L_kj rfl ?_;have hlen:(dDs l).length=l.length:=by simp[dDs]
 have hl:=hf.1;refine JqV (by show decide ((0:Int)≤((dDs l).length:Int))=true;simp) ?_;refine JqQ (dDs l) 2000000 (by omega) (by omega) rfl ?_;refine JqH (dDs l).length (fun i=>[.l ((dDs l).take i++List.replicate ((dDs l).length-i) (Don.g ⟨0,0,[]⟩)),.i i]) (fun _=>True) rfl ?_ trivial fun i hi _=>?_
 ·show [V.l (List.replicate ((dDs l).length:Int).toNat (Don.g ⟨0,0,[]⟩)),V.i 0]=_;simp
 simp only[sC,sN];refine Jqv i (ds:=dDs l) rfl rfl (fun h=>?_) (fun h=>JqG (JqK ?_))
 ·obtain⟨x,hx,hm⟩:=sA1 (show i<l.length by omega);refine JqJ (vs:=[.i x.seq,.i x.code,.l (dL x.tells)]) i (mA1 (f:=Don.g) hx) rfl rfl rfl rfl ?_;simp only[sC,sN];refine JqC (vs:=[.i x.seq,.i x.code,.l (dL x.tells)]) (Jfd x (hf.2 x hm)) rfl rfl rfl ?_;simp only[sC,sN];refine JqB (vs:=[.i 0,.i 0,.l []]) (ds:=(dDs l).take i++List.replicate ((dDs l).length-i) (Don.g ⟨0,0,[]⟩)) i (JbG h) rfl rfl rfl rfl rfl rfl ?_;refine JqI (vs:=[.l ((dDs l).take (i+1)++List.replicate ((dDs l).length-(i+1)) (Don.g ⟨0,0,[]⟩)),.i ((i+1:Nat):Int)]) ?_ ⟨h,rfl,trivial⟩;show [V.l (((dDs l).take i++List.replicate ((dDs l).length-i) (Don.g ⟨0,0,[]⟩)).set (i:Int).toNat (Don.g x)),V.i (i64.wrap ((i:Int)+1))]=_;rw[wS h (by omega),Int.toNat_natCast,Ww (es:=dDs l) (mA1 (f:=Don.g) hx)]
 ·show [D.s ((dDs l).take i++List.replicate ((dDs l).length-i) (Don.g ⟨0,0,[]⟩))]=_;rw[V5 h]
theorem JlN {x:Sit} (h:YN x≤1048576):Qj x:=by
 unfold YN at h;have hd:=Jn1 (f:=QT) (p:=YQ) (fun _=>JlT) (l:=x.done) (by omega);exact⟨by omega,by omega,hd.1,hd.2⟩
theorem Jgh (x:Sit) (hf:Qj x):Ev L f_kk x.cells x.cells:=by
 refine Jq7 (vs:=[.b x.up,.b x.frozen,.i x.round,.l (dL x.base),.l (dL x.added),.l (dDs x.done)]) L_kk rfl ?_;refine JqC (vs:=[.l (dL x.base)]) (XW x.base hf.1) rfl rfl rfl ?_;refine JqC (vs:=[.l (dL x.added)]) (XW x.added hf.2.1) rfl rfl rfl ?_;refine JqC (vs:=[.l (dDs x.done)]) (JdB x.done ⟨hf.2.2.1,hf.2.2.2⟩) rfl rfl rfl ?_;exact JqK rfl
abbrev tyCal:Ty:= .st [.i .i64,.i .i64,.i .i64,KC]
abbrev JpB:Ty:= .st [.i .i64,KC]
abbrev Jmr:Ty:= .st [.i .i64,JpB]
abbrev tySit:Ty:= .st [.b,.b,.i .i64,KC,KC,.sl Jmr]
theorem Jpx {ds:List D} (h:VO tyCal ds) : ∃ x:Cal,ds=x.cells∧JiN x:=by
 obtain⟨_,_,rfl,⟨a,rfl⟩,_,_,rfl,⟨b,rfl⟩,_,_,rfl,⟨c,rfl⟩,_,_,rfl,h1,rfl⟩:=h;obtain⟨l,rfl,hl⟩:=ZQ h1;exact⟨⟨a,b,c,l⟩,rfl,hl⟩
theorem Jpe {ds:List D} (h:VO Jmr ds) : ∃ x:Don,ds=x.cells∧Jam x:=by
 obtain⟨_,_,rfl,⟨a,rfl⟩,_,_,rfl,⟨_,_,rfl,⟨b,rfl⟩,_,_,rfl,h1,rfl⟩,rfl⟩:=h;obtain⟨l,rfl,hl⟩:=ZQ h1;exact⟨⟨a,b,l⟩,rfl,hl⟩
theorem Job {ds:List D} (h:VO (.sl Jmr) ds) : ∃ l,ds=[.s (dDs l)]∧Jpy Jam l:=by
 obtain⟨es,rfl,hl,he⟩:=h;obtain⟨l,rfl,hp⟩:=Jcp (f:=Don.g) (p:=Jam) fun x hx=>by
  obtain⟨cs,h1,rfl⟩:=he x hx;obtain⟨l,rfl,hf⟩:=Jpe h1;exact⟨l,hf,rfl⟩
 exact⟨l,rfl,by rw[Jri] at hl;unfold maxLen at hl;omega,hp⟩
theorem Jpk {ds:List D} (h:VO tySit ds) : ∃ x:Sit,ds=x.cells∧Jih x:=by
 obtain⟨_,_,rfl,⟨a,rfl⟩,_,_,rfl,⟨b,rfl⟩,_,_,rfl,⟨c,rfl⟩,_,_,rfl,h1,_,_,rfl,h2,_,_,rfl,h3,rfl⟩:=h;obtain⟨l,rfl,hl⟩:=ZQ h1;obtain⟨m,rfl,hm⟩:=ZQ h2;obtain⟨d,rfl,hd⟩:=Job h3;exact⟨⟨a,b,c,l,m,d⟩,rfl,hl,hm,hd⟩
/- Results,calls,what was done,messages: which of them are ok. -/
theorem Jhi (n:Int) (h0 : -999999999999≤n) (h1:n≤999999999999):Ev L f_k1f [dI n] [Qz (Lib.itoa n)]:=by
 refine Jq6 L_k1f ?_;show (Jbo (dI n)).map _=_;rw[show Jbo (dI n)=some n by show (if _ then some n else none)=_;rw[if_pos (by omega)]];rfl
theorem JiV {t:List Int} {i:Nat} {x:Int} (h:t[i]? = some x):J6 (t.take (i+1))=J6 (t.take i)++[32]++Lib.itoa x:=by
 unfold J6;rw[tS1 h,List.flatMap_append];simp only[List.flatMap_cons,List.flatMap_nil,List.append_nil,List.append_assoc,List.singleton_append]
theorem JgI (c:Int) (t:List Int) (ht:t.length≤2000000):Ev L f_k1g [dI c,.s (dL t)] [Qz (Kl c t)]:=by
 refine Jq7 (vs:=[.i c,.l (dL t)]) L_k1g rfl ?_;have no:JP c t=false→([Qz []]:List D)=[Qz (Kl c t)]:=fun h=>by simp[Kl,h]
 refine JqC (Qg c 1 3) rfl rfl rfl ?_;refine JqA (inB c 1 3) rfl (fun h=>JqK (no (by simp[JP,h]))) (fun h1=>?_);obtain⟨w1,_,w3⟩:=JfI h1;have hidx:(J5.map Qz)[c.toNat]? = some (Qz (J5.getD c.toNat [])):=by rw[Jru,w1];rfl
 have hc0:0≤c:=by unfold inB at h1;simp only[Jq9,decide_eq_true_eq] at h1;omega
 have hc4:c<4:=by unfold inB at h1;simp only[Jq9,decide_eq_true_eq] at h1;omega
 have hal:=Q4 t t.length 999999999999 ht (by omega) (by omega);have six:6<t.length→JP c t=false:=fun h=>by simp only[JP,show ¬t.length≤6 by omega,decide_false,Bool.false_and,Bool.and_false]
 have ok:t.length≤6→(c=1∨t=[])→JE t.length 999999999999 t=true→JP c t=true:=fun h2 h3 h4=>Jaj.2 ⟨by unfold inB at h1;simp only[Jq9,decide_eq_true_eq] at h1;omega,h2,h3,(Jy.1 h4).2⟩;refine JqA (decide (c=1)) rfl (fun h3=>?_) (fun h3=>?_)
 ·refine JqL (0<((dL t).length:Int)) rfl (fun h=>JqK (no ?_)) (fun h4=>?_)
  ·rw[dL1] at h;have:t.isEmpty=false:=by cases t with
    | nil=>simp at h
    | cons x t=>rfl
   simp only[JP,h3,this,Bool.or_false,Bool.false_and,Bool.and_false]
  rw[dL1] at h4;have h4:t=[]:=List.length_eq_zero_iff.1 (by omega);refine JqL (6<((dL t).length:Int)) rfl (fun h=>JqK (no (six (by rw[dL1] at h;omega)))) (fun h2=>?_);rw[dL1] at h2;refine JqC hal rfl (by show [D.s (dL t),dI ((dL t).length:Int),dI 999999999999]=_;rw[dL1]) rfl ?_;refine JqA (JE t.length 999999999999 t) rfl (fun h=>JqK (no (by simp only[JP,h,Bool.and_false]))) (fun h5=>?_);have hok:=ok (by omega) (.inr h4) h5;have hl:=(Jy.1 h5).2;have e:Qz (Kl c t)=Qz (J5.getD c.toNat []++J6 t):=by simp only[Kl,hok,if_true]
  rw[e];refine JqF (0≤c) rfl hc0 (JqF (c<4) rfl hc4 ?_);refine JqO (ds:=J5.map Qz) c rfl rfl rfl hc0 hidx rfl ?_;subst h4;refine JqU (fun _ vs=>vs=[.d (Qz (J5.getD c.toNat [])),.i 0]) rfl 0 rfl ?_;rintro m _ rfl;refine JqM rfl (JqG (JqK ?_));show [Qz (J5.getD c.toNat [])]=[Qz (J5.getD c.toNat []++J6 [])];rw[show J6 []=[] from rfl,List.append_nil]
 ·refine JqL (6<((dL t).length:Int)) rfl (fun h=>JqK (no (six (by rw[dL1] at h;omega)))) (fun h2=>?_);rw[dL1] at h2;refine JqC hal rfl (by show [D.s (dL t),dI ((dL t).length:Int),dI 999999999999]=_;rw[dL1]) rfl ?_;refine JqA (JE t.length 999999999999 t) rfl (fun h=>JqK (no (by simp only[JP,h,Bool.and_false]))) (fun h5=>?_);have hok:=ok (by omega) (.inl (by simpa using h3)) h5;have hl:=(Jy.1 h5).2;have e:Qz (Kl c t)=Qz (J5.getD c.toNat []++J6 t):=by simp only[Kl,hok,if_true]
  rw[e];refine JqF (0≤c) rfl hc0 (JqF (c<4) rfl hc4 ?_);refine JqO (ds:=J5.map Qz) c rfl rfl rfl hc0 hidx rfl ?_;generalize J5.getD c.toNat []=wd at *;refine JqH t.length (fun i=>[.d (Qz (wd++J6 (t.take i))),.i i]) (fun _=>True) rfl ?_ trivial fun i hi _=>?_
  ·show [V.d (Qz wd),V.i 0]=_;rw[List.take_zero,show J6 []=[] from rfl,List.append_nil];rfl
  simp only[sC,sN];refine Jqv i (dL1 t) rfl (fun h=>?_) (fun h=>JqG (JqK ?_))
  ·obtain⟨x,hx,hm⟩:=sA1 h;have hxb:=hl x hm;have hj:=JcQ (t.take i) fun m hm=>hl m (Jrx hm);rw[Jro,Nat.min_eq_left (by omega)] at hj;have hxl:=Lib.itoa_length_le x (by omega) (by omega);refine Jqw rfl (Jbx (a:=wd++J6 (t.take i)) (b:=[32]) (by simp;omega)) rfl ?_;refine JqJ i (mA1 (f:=dI) hx) rfl rfl rfl rfl ?_;refine JqC (Jhi x (by omega) (by omega)) rfl rfl rfl ?_;refine Jqw rfl (Jbx (a:=wd++J6 (t.take i)++[32]) (b:=Lib.itoa x) (by simp;omega)) rfl ?_;refine JqI (vs:=[.d (Qz (wd++J6 (t.take (i+1)))),.i ((i+1:Nat):Int)]) ?_ ⟨h,rfl,trivial⟩;show [V.d (Qz (wd++J6 (t.take i)++[32]++Lib.itoa x)),V.i (i64.wrap ((i:Int)+1))]=_;rw[wS h (by omega),JiV hx];simp only[List.append_assoc]
  ·show [Qz (wd++J6 (t.take i))]=_;rw[tA1 h]
theorem JkO (c:Int) (t:List Int) (ht:t.length≤2000000):Ev L f_k1h [dI c,.s (dL t)] [dB (JP c t)]:=by
 refine Jq7 (vs:=[.i c,.l (dL t)]) L_k1h rfl ?_;refine JqC (JgI c t ht) rfl rfl rfl ?_;refine Jqw rfl (Jj1 (Kl c t) []) rfl (JqK ?_);show [dB (!(Kl c t == []))]=_;rw[Jdu,Bool.not_not]
def JX (p:Pln) (c:Cal):Bool:=inB c.client 0 (p.n-1)&&(inB c.seq 1 300&&(inB c.act 0 ((p.acts.length:Int)-1)&&QL c.args))
theorem WL {n:Nat} (h:n≤2000000):i64.wrap ((n:Int)-1)=(n:Int)-1:=w64 (by omega) (by omega)
theorem JlF (p:Pln) (c:Cal) (hp:QB p) (h1:1≤p.n) (h2:p.n≤4) (hc:Yb c):Ev L f_k1m (p.cells++c.cells) [dB (JX p c)]:=by
 refine Jq7 (vs:=[.i p.n,.l (Jf p.acts),.l (dL p.gives),.l (dL p.start),.i c.client,.i c.seq,.i c.act,.l (dL c.args)]) L_k1m rfl ?_;have w1:i64.wrap (p.n-1)=p.n-1:=w64 (by omega) (by omega);have w2:i64.wrap (((Jf p.acts).length:Int)-1)=(p.acts.length:Int)-1:=by rw[QC];exact WL hp.1.1
 refine JqC (Qg c.client 0 (p.n-1)) rfl (by show [dI c.client,dI 0,dI (i64.wrap (p.n-1))]=_;rw[w1]) rfl ?_;refine JqZ (inB c.client 0 (p.n-1)) rfl (fun a=>?_) (fun a=>JqK (by show [dB false]=_;simp[JX,a]));refine JqC (Qg c.seq 1 300) rfl rfl rfl ?_;refine JqZ (inB c.seq 1 300) rfl (fun b=>?_) (fun b=>JqK (by show [dB false]=_;simp[JX,b]));refine JqC (Qg c.act 0 ((p.acts.length:Int)-1)) rfl (by show [dI c.act,dI 0,dI (i64.wrap (((Jf p.acts).length:Int)-1))]=_;rw[w2]) rfl ?_;refine JqZ (inB c.act 0 ((p.acts.length:Int)-1)) rfl (fun d=>?_) (fun d=>JqK (by show [dB false]=_;simp[JX,d]));refine JqC (Jmm c.args hc) rfl rfl rfl (JqK ?_);show [dB (QL c.args)]=_;simp[JX,a,b,d]
theorem Jh6 (p:Pln) (k:Int) (h1:1≤p.n) (h2:p.n≤4):Ev L f_k44 (p.cells++[dI k]) [dB (inB k 0 (p.n-1))]:=by
 refine Jq7 (vs:=[.i p.n,.l (Jf p.acts),.l (dL p.gives),.l (dL p.start),.i k]) L_k44 rfl ?_;have w1:i64.wrap (p.n-1)=p.n-1:=w64 (by omega) (by omega);exact JqC (XE k 0 (p.n-1)) rfl (by show [dI k,dI 0,dI (i64.wrap (p.n-1))]=_;rw[w1]) rfl (JqK rfl)
theorem JkU (p:Pln) (k:Int) (hp:QB p):Ev L f_k3h (p.cells++[dI k]) [dB (inB k 0 ((p.gives.length:Int)-1))]:=by
 refine Jq7 (vs:=[.i p.n,.l (Jf p.acts),.l (dL p.gives),.l (dL p.start),.i k]) L_k3h rfl ?_;have w1:i64.wrap (((dL p.gives).length:Int)-1)=(p.gives.length:Int)-1:=by rw[dL1];exact WL hp.2.1
 exact JqC (XE k 0 ((p.gives.length:Int)-1)) rfl (by show [dI k,dI 0,dI (i64.wrap (((dL p.gives).length:Int)-1))]=_;rw[w1]) rfl (JqK rfl)
theorem JkF (p:Pln) (c:Cal) (hp:QB p) (h1:1≤p.n) (h2:p.n≤4) (hc:Yb c):Ev L f_k46 (p.cells++c.cells) [dB (JX p c)]:=by
 refine Jq7 (vs:=[.i p.n,.l (Jf p.acts),.l (dL p.gives),.l (dL p.start),.i c.client,.i c.seq,.i c.act,.l (dL c.args)]) L_k46 rfl ?_;have w2:i64.wrap (((Jf p.acts).length:Int)-1)=(p.acts.length:Int)-1:=by rw[QC];exact WL hp.1.1
 refine JqC (Jh6 p c.client h1 h2) rfl rfl rfl ?_;refine JqZ (inB c.client 0 (p.n-1)) rfl (fun a=>?_) (fun a=>JqK (by show [dB false]=_;simp[JX,a]));refine JqC (XE c.act 0 ((p.acts.length:Int)-1)) rfl (by show [dI c.act,dI 0,dI (i64.wrap (((Jf p.acts).length:Int)-1))]=_;rw[w2]) rfl ?_;refine JqZ (inB c.act 0 ((p.acts.length:Int)-1)) rfl (fun d=>?_) (fun d=>JqK (by show [dB false]=_;simp[JX,d]));refine JqC (XE c.seq 1 300) rfl rfl rfl ?_;refine JqZ (inB c.seq 1 300) rfl (fun b=>?_) (fun b=>JqK (by show [dB false]=_;simp[JX,b]));refine JqC (Jct c.args hc) rfl rfl rfl (JqK ?_);show [dB (QL c.args)]=_;simp[JX,a,b,d]
theorem Jpo (n:Nat) {m:Nat} (h:m=n):decide ((m:Int)=0)=decide (n=0):=by subst h;simp
def JpI (c:Cal):Bool:=decide (c.client=0)&&(decide (c.seq=0)&&(decide (c.act=0)&&decide (c.args.length=0)))
def XJ (d:Don):Bool:=if d.seq=0 then decide (d.code=0)&&decide (d.tells.length=0) else inB d.seq 1 300&&JP d.code d.tells
def Xl (n:Int) (l:List Don):Bool:=decide ((l.length:Int)=n)&&l.all XJ
def Jpt (n:Int) (l:List Int):Bool:=decide ((l.length:Int)=n)&&l.all fun x=>inB x 0 300
theorem X2 (l:List Don):(dDs l).length=l.length:=by simp[dDs]
theorem Jid {d:Don} (hs:inB d.seq 0 300=true):XJ d=if decide (d.seq=0)=decide (d.code=0) then(if d.seq=0 then decide (d.tells.length=0) else JP d.code d.tells) else false:=by
 unfold XJ
 by_cases h:d.seq=0
 ·rw[if_pos h,if_pos h]
  by_cases h2:d.code=0 <;> simp[h,h2]
 ·rw[if_neg h,if_neg h];have hin:inB d.seq 1 300=true:=by unfold inB at hs ⊢;simp only[Jq9,decide_eq_true_eq] at hs ⊢;omega
  by_cases h2:d.code=0
  ·have:JP d.code d.tells=false:=by unfold JP inB;simp[h2]
   simp[h,h2,this,JP,inB]
  ·simp[h,h2,hin]
theorem Jk4 (p:Pln) (l:List Don) (hl:JhV YQ l):Ev L f_k1i (p.cells++[.s (dDs l)]) [dB (Xl p.n l)]:=by
 refine Jq7 (vs:=[.i p.n,.l (Jf p.acts),.l (dL p.gives),.l (dL p.start),.l (dDs l)]) L_k1i rfl ?_;have hl0:=hl.1;refine JqA (decide ((l.length:Int)=p.n)) (by show (!decide (((dDs l).length:Int)=p.n))=_;rw[X2]) (fun h=>JqK (by show [dB false]=_;simp only[Xl,h,Bool.false_and])) (fun h=>?_);refine JqH l.length (fun i=>[.i i]) (fun i=>((l.take i).all XJ)=true) rfl rfl rfl fun i hi hq=>?_;simp only[sC,sN];refine Jqv i (X2 l) rfl (fun h'=>?_) (fun h'=>JqG (JqK ?_))
 ·obtain⟨x,hx,hm⟩:=sA1 h';have hg:(dDs l)[i]? = some x.g:=mA1 (f:=Don.g) hx;have bad:XJ x=false→[dB false]=[dB (Xl p.n l)]:=fun hb=>by
   have:l.all XJ=false:=by rw[←List.take_append_drop i l,List.all_append,ZY hx];simp[hb]
   simp[Xl,this]
  have good:XJ x=true→((l.take (i+1)).all XJ)=true:=fun hb=>by rw[tS1 hx,List.all_append,hq];simp[hb]
  have nx:[V.i (i64.wrap ((i:Int)+1))]=[V.i ((i+1:Nat):Int)]:=by rw[wS h' (by omega)]
  refine JqJ (vs:=[.i x.seq,.i x.code,.l (dL x.tells)]) i hg rfl rfl rfl rfl ?_;refine JqC (Qg x.seq 0 300) rfl rfl rfl ?_;simp only[sC,sN];refine JqA (inB x.seq 0 300) rfl (fun b=>JqG (JqK (bad ?_))) (fun b=>?_)
  ·unfold XJ;rw[if_neg (by intro e;rw[e] at b;simp[inB] at b)];have:inB x.seq 1 300=false:=by
    unfold inB at b ⊢;simp only[Bool.and_eq_false_iff,decide_eq_false_iff_not] at b ⊢;omega
   simp[this]
  have hc:=Jid b;refine JqJ (vs:=[.i x.seq,.i x.code,.l (dL x.tells)]) i hg rfl rfl rfl rfl ?_;refine JqJ (vs:=[.i x.seq,.i x.code,.l (dL x.tells)]) i hg rfl rfl rfl rfl ?_;simp only[sC,sN];refine JqA (decide (x.seq=0) == decide (x.code=0)) rfl (fun e=>JqG (JqK (bad ?_))) (fun e=>?_)
  ·rw[hc,if_neg (by simpa using e)]
  rw[if_pos (by simpa using e)] at hc;refine JqJ (vs:=[.i x.seq,.i x.code,.l (dL x.tells)]) i hg rfl rfl rfl rfl ?_;simp only[sC,sN];refine JqL (x.seq=0) rfl (fun h0=>?_) (fun h0=>?_)
  ·rw[if_pos h0] at hc;refine JqJ (vs:=[.i x.seq,.i x.code,.l (dL x.tells)]) i hg rfl rfl rfl rfl ?_;simp only[sC,sN];refine JqL (0<((dL x.tells).length:Int)) rfl (fun ht=>JqG (JqK (bad ?_))) (fun ht=>?_)
   ·rw[dL1] at ht;rw[hc];exact decide_eq_false (by omega)
   refine JqJ (vs:=[.i x.seq,.i x.code,.l (dL x.tells)]) i hg rfl rfl rfl rfl ?_;simp only[sC,sN];refine JqM (by show decide ((0:Int)<x.seq)=false;rw[h0];rfl) ?_;exact JqI nx ⟨h',rfl,good (by rw[dL1] at ht;rw[hc];exact decide_eq_true (by omega))⟩
  ·rw[if_neg h0] at hc;have hpos:0<x.seq:=by unfold inB at b;simp only[Jq9,decide_eq_true_eq] at b;omega
   refine JqJ (vs:=[.i x.seq,.i x.code,.l (dL x.tells)]) i hg rfl rfl rfl rfl ?_;simp only[sC,sN];refine Jqt (by show decide ((0:Int)<x.seq)=true;simpa using hpos) ?_;refine JqJ (vs:=[.i x.seq,.i x.code,.l (dL x.tells)]) i hg rfl rfl rfl rfl ?_;refine JqC (JkO x.code x.tells (hl.2 x hm)) rfl rfl rfl ?_;exact JqA (JP x.code x.tells) rfl (fun e=>JqG (JqK (bad (by rw[hc,e])))) (fun e=>JqI nx ⟨h',rfl,good (by rw[hc,e])⟩)
 ·show [dB true]=_;rw[tA1 h'] at hq;simp[Xl,h,hq]
theorem Jnk (d:Don) (hd:YQ d):Ev L f_k3z d.cells [dB (XJ d)]:=by
 refine Jq7 (vs:=[.i d.seq,.i d.code,.l (dL d.tells)]) L_k3z rfl ?_;refine JqL (d.seq=0) rfl (fun h=>?_) (fun h=>?_)
 ·refine JqC (ds:=[dB (decide (d.code=0)&&decide (d.tells.length=0))]) (Jq7 (vs:=[.i d.code,.l (dL d.tells)]) L_k3u rfl ?_) rfl rfl rfl (JqK (by rw[XJ,if_pos h];rfl));refine JqL (d.code=0) rfl (fun a=>JqK ?_) (fun a=>JqK (by show [dB false]=_;simp[a]));show [dB (decide (((dL d.tells).length:Int)=0))]=_;rw[Jpo d.tells.length (dL1 _)];simp[a]
 ·refine JqC (XE d.seq 1 300) rfl rfl rfl ?_;refine JqZ (inB d.seq 1 300) rfl (fun a=>?_) (fun a=>JqK (by show [dB false]=_;simp[XJ,h,a]));refine JqC (Jk8 d.code d.tells hd) rfl rfl rfl (JqK ?_);show [dB (JP d.code d.tells)]=_;simp[XJ,h,a]
theorem JhW (d:Don) (hd:YQ d):Ev L f_k40 d.cells [dB (!XJ d)] :=
 Jq7 (vs:=[.i d.seq,.i d.code,.l (dL d.tells)]) L_k40 rfl (JqC (Jnk d hd) rfl rfl rfl (JqK rfl))
theorem JlU (q:Don→Bool) (l:List Don) {fn:FuncId} {caps:List D} (hlen:l.length≤2000000) (hcap:QZ (.f fn caps) = .f fn caps) (har:arT L fn=some ([some 3]++caps.map fun _=>none))
  (hc :∀x∈l,Ev L fn (x.cells++caps.map D.norm) [dB (q x)]):Ev L f_k3t [.s (dDs l),.f fn caps] [dB (l.any q)] :=
 YJ (g := f_k3s) L_k3t rfl hcap
   (Yl (sh:= .g [.i .i64,.i .i64,.s]) (as:=[(.vi .i64 (.v 3)),(.vi .i64 (.v 4)),(.s (.v 5))]) (ar:=[some 3]) (k:=6) Don.g q Don.cells (fun x=>[.i x.seq,.i x.code,.l (dL x.tells)]) l
     L_k3s rfl hlen hcap (fun _ _=>rfl) (fun _ _=>rfl) (fun _ _ _ _=>rfl) har hc)
theorem JlI (p:Pln) (l:List Don) (hl:JhV YQ l):Ev L f_k41 (p.cells++[.s (dDs l)]) [dB (Xl p.n l)]:=by
 refine Jq7 (vs:=[.i p.n,.l (Jf p.acts),.l (dL p.gives),.l (dL p.start),.l (dDs l)]) L_k41 rfl ?_;refine JqL ((l.length:Int)=p.n) (by show decide (((dDs l).length:Int)=p.n)=_;rw[X2]) (fun h=>?_) (fun h=>JqK (by show [dB false]=_;simp[Xl,h]));refine JqC (JlU (fun d=>!XJ d) l (fn:=f_k40) (caps:=[]) hl.1 rfl rfl fun x hx=>by simpa using JhW x (hl.2 x hx)) rfl rfl rfl (JqK ?_);show [dB (!(l.any fun d=>!XJ d))]=_;rw[Kq];simp[Xl,h]
/- The program's MsgOk answers as the reference's: over residual programs. -/
def em (n:Nat):Bool:=decide (n=0)
def JgY (x:Msg) (c v s d:Bool):Bool:=(c||JpI x.call)&&((v||em x.vals.length)&&((s||em x.seqs.length)&&(d||em x.done.length)))
def KF (p:Pln) (k:Int):Bool:=inB k 0 ((p.gives.length:Int)-1)
def JnB (p:Pln) (x:Msg):Bool:=inB x.round 0 200&&(
 if x.kind=1 then decide (x.to = -1)&&(decide (x.frm=0)&&(decide (x.round=0)&&(JX p x.call&&JgY x true false false false)))
 else if x.kind=2 then KF p x.to&&(decide (x.frm=0)&&JgY x false false false false)
 else if x.kind=3 then decide (x.to = -1)&&(KF p x.frm&&(JE 3 20000 x.vals&&(Jpt p.n x.seqs&&JgY x false true true false)))
 else if x.kind=4 then KF p x.to&&(decide (x.frm=0)&&(Xb x.vals&&(Xl p.n x.done&&JgY x false true false true)))
 else false)
theorem Jl0 (p:Pln) (k:Int) (hp:QB p):Ev L f_km [dI k,dI 0,dI (i64.wrap (((dL p.gives).length:Int)-1))] [dB (KF p k)]:=by
 rw[dL1,WL hp.2.1];exact Qg k 0 _
theorem Jhq (x:Msg) (hx:Ul x):Ev L f_k4w (x.cells++x.cells) [dB true]:=by
 refine Jq7 (vs:=[.i x.kind,.i x.to,.i x.frm,.i x.round,.i x.call.client,.i x.call.seq,.i x.call.act,.l (dL x.call.args),.l (dL x.vals),.l (dL x.seqs),.l (dDs x.done),.i x.kind,.i x.to,.i x.frm,.i x.round,.i x.call.client,.i x.call.seq,.i x.call.act,.l (dL x.call.args),.l (dL x.vals),.l (dL x.seqs),.l (dDs x.done)]) L_k4w rfl ?_;have h1:=WA x.call x.call hx.1;have h2:=Q9 x.vals x.vals hx.2.1;have h3:=Q9 x.seqs x.seqs hx.2.2.1;have h4:=Vz x.done x.done hx.2.2.2.1 hx.2.2.2.2;rw[decide_eq_true rfl] at h1 h2 h3 h4;refine JqM (by show (!decide (x.kind=x.kind))=false;simp) ?_;refine JqM (by show (!decide (x.to=x.to))=false;simp) ?_;refine JqM (by show (!decide (x.frm=x.frm))=false;simp) ?_;refine JqM (by show (!decide (x.round=x.round))=false;simp) ?_;refine JqC h1 rfl rfl rfl (JqM rfl ?_);refine JqC h2 rfl rfl rfl (JqM rfl ?_);refine JqC h3 rfl rfl rfl (JqM rfl ?_);exact JqC h4 rfl rfl rfl (JqM rfl (JqK rfl))
/- The program's SitOk and SitFree answer as the reference's: over residual programs. -/
theorem Vh {p:Pln} (h:Qq p=true):QA p.acts=true:=by
 simp only[Qq,Jq9] at h;exact h.2.1
def Zz (p:Pln) (b:List Int) (k:Int) (a:List Int):Bool:=keeps b p.gives (Jb p.acts) k a&&JZ (Jh p.acts) a
def Q1 (p:Pln) (s:Sit) (k:Int):Bool:=inB s.round 0 200&&(Xb s.base&&(Zz p s.base k s.added&&Xl p.n s.done))
def YU (p:Pln) (s:Sit) (k:Int):Bool:=Qq p&&(KF p k&&Q1 p s k)
theorem JaP (p:Pln) (s:Sit):Ev L f_k1a (p.cells++s.cells) [.s (dL s.base),.s (dL p.gives)] :=
 Jq7 (vs:=[.i p.n,.l (Jf p.acts),.l (dL p.gives),.l (dL p.start),.b s.up,.b s.frozen,.i s.round,.l (dL s.base),.l (dL s.added),.l (dDs s.done)]) L_k1a rfl (JqK rfl)
theorem Jon (p:Pln) (s:Sit) (k:Int) (hp:QB p) (hs:Qj s) (hc:QA p.acts=true) :
  Ev L f_k1j (p.cells++[.s (dLL (Jb p.acts)),.s (dBl (Jh p.acts))]++s.cells++[dI k]) [dB (Q1 p s k)]:=by
 refine Jq7 (vs:=[.i p.n,.l (Jf p.acts),.l (dL p.gives),.l (dL p.start),.l (dLL (Jb p.acts)),.l (dBl (Jh p.acts)),.b s.up,.b s.frozen,.i s.round,.l (dL s.base),.l (dL s.added),.l (dDs s.done),.i k]) L_k1j rfl ?_;have hps:fitLL (Jb p.acts):=(Xq p.acts).fitLL (by omega);refine JqC (Qg s.round 0 200) rfl rfl rfl ?_;refine JqZ (inB s.round 0 200) rfl (fun a=>?_) (fun b=>JqK (by show [dB false]=_;simp[Q1,b]));refine JqC (Jd3 s.base hs.1) rfl rfl rfl ?_;refine JqZ (Xb s.base) rfl (fun d=>?_) (fun b=>JqK (by show [dB false]=_;simp[Q1,b]));refine JqC (JaP p s) rfl rfl rfl ?_;refine JqC (V7 s.base p.gives (Jb p.acts) k s.added hs.1 hp.2.1 hps hs.2.1) rfl rfl rfl ?_;simp only[sC,sN];refine JqZ (keeps s.base p.gives (Jb p.acts) k s.added) rfl (fun e=>?_) (fun b=>JqK (by show [dB false]=_;simp[Q1,Zz,b]));refine JqC (Jji (Jh p.acts) s.added (Wk hc) (JeP e)) rfl rfl rfl ?_;simp only[sC,sN];refine JqZ (JZ (Jh p.acts) s.added) rfl (fun f=>?_) (fun b=>JqK (by show [dB false]=_;simp[Q1,Zz,b]));refine JqC (Jk4 p s.done ⟨hs.2.2.1,hs.2.2.2⟩) rfl rfl rfl (JqK ?_);show [dB (Xl p.n s.done)]=_;simp[Q1,Zz,a,d,e,f]
theorem Jk1 (p:Pln) (s:Sit) (k:Int) (hp:QB p) (hs:Qj s):Ev L f_k1k (p.cells++s.cells++[dI k]) [dB (YU p s k)]:=by
 refine Jq7 (vs:=[.i p.n,.l (Jf p.acts),.l (dL p.gives),.l (dL p.start),.b s.up,.b s.frozen,.i s.round,.l (dL s.base),.l (dL s.added),.l (dDs s.done),.i k]) L_k1k rfl ?_;refine JqC (Jeu p hp) rfl rfl rfl ?_;refine JqA (Qq p) rfl (fun b=>JqK (by show [dB false]=_;simp[YU,b])) (fun a=>?_);refine JqC (Jl0 p k hp) rfl rfl rfl ?_;refine JqA (KF p k) rfl (fun b=>JqK (by show [dB false]=_;simp[YU,b])) (fun d=>?_);have hc:=Vh a;have e1:(UN p.acts).1=Jb p.acts:=by simp[Jb,hc]
 have e2:(UN p.acts).2=Jh p.acts:=by simp[Jh,hc]
 have eB:=JeE p.acts hp.1 (U1 hc).2.1;rw[e1,e2] at eB;refine JqC eB rfl rfl rfl ?_;simp only[sC,sN];refine JqC (Jon p s k hp hs hc) rfl rfl rfl (JqK ?_);show [dB (Q1 p s k)]=_;simp[YU,a,d]
theorem Jkz (p:Pln) (s:Sit) (k:Int) (hp:QB p) (hs:Qj s) (hc:QA p.acts=true) :
  Ev L f_k42 (p.cells++[.s (Jf p.acts),.s (dLL (Jb p.acts)),.s (dBl (Jh p.acts))]++s.cells++[dI k]) [dB (KF p k&&Q1 p s k)]:=by
 refine Jq7 (vs:=[.i p.n,.l (Jf p.acts),.l (dL p.gives),.l (dL p.start),.l (Jf p.acts),.l (dLL (Jb p.acts)),.l (dBl (Jh p.acts)),.b s.up,.b s.frozen,.i s.round,.l (dL s.base),.l (dL s.added),.l (dDs s.done),.i k]) L_k42 rfl ?_;have hps:fitLL (Jb p.acts):=(Xq p.acts).fitLL (by omega);refine JqC (JkU p k hp) rfl rfl rfl ?_;refine JqZ (KF p k) rfl (fun g=>?_) (fun b=>JqK (by show [dB false]=_;simp[Q1,b]));refine JqC (XE s.round 0 200) rfl rfl rfl ?_;refine JqZ (inB s.round 0 200) rfl (fun a=>?_) (fun b=>JqK (by show [dB false]=_;simp[Q1,b]));refine JqC (Jgl s.base hs.1) rfl rfl rfl ?_;refine JqZ (Xb s.base) rfl (fun d=>?_) (fun b=>JqK (by show [dB false]=_;simp[Q1,b]));refine JqC (VI p s.base) rfl rfl rfl ?_;refine JqC (JeU p.acts (Jb p.acts) (Jh p.acts) s.base p.gives k s.added (Wk hc) hs.1 hp.2.1 hps hs.2.1) rfl rfl rfl ?_;simp only[sC,sN];refine JqZ (Zz p s.base k s.added) rfl (fun e=>?_) (fun b=>JqK (by show [dB false]=_;simp[Q1,b]));refine JqC (JlI p s.done ⟨hs.2.2.1,hs.2.2.2⟩) rfl rfl rfl (JqK ?_);show [dB (Xl p.n s.done)]=_;simp[Q1,g,a,d,e]
theorem JlL (p:Pln) (s:Sit) (k:Int) (hp:QB p) (hs:Qj s):Ev L f_k43 (p.cells++s.cells++[dI k]) [dB (YU p s k)]:=by
 refine Jq7 (vs:=[.i p.n,.l (Jf p.acts),.l (dL p.gives),.l (dL p.start),.b s.up,.b s.frozen,.i s.round,.l (dL s.base),.l (dL s.added),.l (dDs s.done),.i k]) L_k43 rfl ?_;refine JqC (Jd5 p hp) rfl rfl rfl ?_;refine JqZ (Qq p) rfl (fun a=>?_) (fun b=>JqK (by show [dB false]=_;simp[YU,b]));have hc:=Vh a;refine JqC (JcK p.acts hp.1) rfl rfl rfl ?_;simp only[sC,sN];refine JqC (Jkz p s k hp hs hc) rfl rfl rfl (JqK ?_);show [dB (KF p k&&Q1 p s k)]=_;simp[YU,a]
theorem Jif (p:Pln) (c:Cal) (hp:QB p) (hc:Yb c):Ev L f_k1n (p.cells++c.cells) [dB (Qq p&&JX p c)]:=by
 refine Jq7 (vs:=[.i p.n,.l (Jf p.acts),.l (dL p.gives),.l (dL p.start),.i c.client,.i c.seq,.i c.act,.l (dL c.args)]) L_k1n rfl ?_;refine JqC (Jeu p hp) rfl rfl rfl ?_;refine JqZ (Qq p) rfl (fun a=>?_) (fun b=>JqK (by show [dB false]=_;simp[JX,b]));obtain⟨n1,n2,_⟩:=JbA a;exact JqC (JlF p c hp n1 n2 hc) rfl rfl rfl (JqK (by rw[a];rfl))
theorem Jiu (p:Pln) (c:Cal) (hp:QB p) (hc:Yb c):Ev L f_k47 (p.cells++c.cells) [dB (Qq p&&JX p c)]:=by
 refine Jq7 (vs:=[.i p.n,.l (Jf p.acts),.l (dL p.gives),.l (dL p.start),.i c.client,.i c.seq,.i c.act,.l (dL c.args)]) L_k47 rfl ?_;refine JqC (Jd5 p hp) rfl rfl rfl ?_;refine JqZ (Qq p) rfl (fun a=>?_) (fun b=>JqK (by show [dB false]=_;simp[JX,b]));obtain⟨n1,n2,_⟩:=JbA a;exact JqC (JkF p c hp n1 n2 hc) rfl rfl rfl (JqK (by rw[a];rfl))
/- The program's ClkOk and ClkReady answer as the reference's: over residual programs. -/
def hasN (l:List Got):Nat:=(l.filter fun g=>g.has).length
theorem JeX {α:Type} {l:List α} {i:Nat} {x d:α} (h:l[i]? = some x):l.getD i d=x:=by simp[Jrc,h]
/- The program's SitFall answers as the reference's: over residual programs. -/
theorem KD (c:Int) (l:List Int) (hl:l.length≤2000000):Ev L f_k1o [dI c,.s (dL l)] [dI c,.s (dL l)]:=by
 refine Jq7 (vs:=[.i c,.l (dL l)]) L_k1o rfl ?_;refine JqQ (dL l) 2000000 (by rw[dL1];omega) (by omega) rfl ?_;refine Jqx (Vd l) ?_;exact JqQ (dL l) 2000000 (by rw[dL1];omega) (by omega) rfl (JqK rfl)
theorem JdK (l:List Don) (hl:JhV YQ l):Ev L f_k1p [.s (dDs l)] [.s (dDs l)]:=by
 refine Jq7 (vs:=[.l (dDs l)]) L_k1p rfl ?_;have hl0:=hl.1;refine JqH l.length (fun i=>[.l (dDs (l.take i)),.i i]) (fun _=>True) rfl rfl trivial fun i hi _=>?_;simp only[sC,sN];refine Jqv i (X2 l) rfl (fun h=>?_) (fun h=>JqG (JqK ?_))
 ·obtain⟨x,hx,hm⟩:=sA1 h;have hg:(dDs l)[i]? = some x.g:=mA1 (f:=Don.g) hx;refine JqJ (vs:=[.i x.seq,.i x.code,.l (dL x.tells)]) i hg rfl rfl rfl rfl ?_;refine JqJ (vs:=[.i x.seq,.i x.code,.l (dL x.tells)]) i hg rfl rfl rfl rfl ?_;refine JqC (vs:=[.i x.code,.l (dL x.tells)]) (KD x.code x.tells (hl.2 x hm)) rfl rfl rfl ?_;simp only[sC,sN];refine JqR (dDs (l.take i)) 2000000 (by rw[X2,Jro];omega) (by omega) rfl ?_;refine JqI (vs:=[.l (dDs (l.take (i+1))),.i ((i+1:Nat):Int)]) ?_ ⟨h,rfl,trivial⟩;show [V.l (dDs (l.take i)++[x.g]),V.i (i64.wrap ((i:Int)+1))]=_;rw[wS h (by omega),tS1 hx];simp only[dDs,List.map_append,Jrh,List.map_nil]
 ·show [D.s (dDs (l.take i))]=_;rw[tA1 h]
theorem Jk0 (s:Sit) (hs:Qj s):Ev L f_k1q s.cells s.cells:=by
 refine Jq7 (vs:=[.b s.up,.b s.frozen,.i s.round,.l (dL s.base),.l (dL s.added),.l (dDs s.done)]) L_k1q rfl ?_;have h1:=hs.1;have h2:=hs.2.1;refine JqQ (dL s.base) 2000000 (by rw[dL1];omega) (by omega) rfl ?_;refine Jqx (Vd s.base) ?_;refine JqQ (dL s.base) 2000000 (by rw[dL1];omega) (by omega) rfl ?_;refine JqQ (dL s.added) 2000000 (by rw[dL1];omega) (by omega) rfl ?_;refine Jqx (Vd s.added) ?_;refine JqQ (dL s.added) 2000000 (by rw[dL1];omega) (by omega) rfl ?_;exact JqC (vs:=[.l (dDs s.done)]) (JdK s.done ⟨hs.2.2.1,hs.2.2.2⟩) rfl rfl rfl (JqK rfl)
theorem Kt (c:Int) (l:List Int) (hl:l.length≤2000000):Ev L f_k48 [dI c,.s (dL l)] [dI c,.s (dL l)] :=
 Jq7 (vs:=[.i c,.l (dL l)]) L_k48 rfl (JqC (vs:=[.l (dL l)]) (Xu l hl) rfl rfl rfl (JqK rfl))
theorem JmB (l:List Don) (hl:JhV YQ l):Ev L f_k49 [.s (dDs l)] [.s (dDs l)]:=by
 refine Jq7 (vs:=[.l (dDs l)]) L_k49 rfl ?_;have hl0:=hl.1;refine JqH l.length (fun i=>[.l (dDs (l.take i)),.i i]) (fun _=>True) rfl rfl trivial fun i hi _=>?_;simp only[sC,sN];refine Jqv i (X2 l) rfl (fun h=>?_) (fun h=>JqG (JqK ?_))
 ·obtain⟨x,hx,hm⟩:=sA1 h;have hg:(dDs l)[i]? = some x.g:=mA1 (f:=Don.g) hx;refine JqJ (vs:=[.i x.seq,.i x.code,.l (dL x.tells)]) i hg rfl rfl rfl rfl ?_;refine JqC (vs:=[.i x.code,.l (dL x.tells)]) (Kt x.code x.tells (hl.2 x hm)) rfl rfl rfl ?_;simp only[sC,sN]
  try refine Jq3 (QD dI (fun _=>rfl) x.tells) ?_
  refine JqR (dDs (l.take i)) 2000000 (by rw[X2,Jro];omega) (by omega) rfl ?_;refine JqI (vs:=[.l (dDs (l.take (i+1))),.i ((i+1:Nat):Int)]) ?_ ⟨h,rfl,trivial⟩;show [V.l (dDs (l.take i)++[x.g]),V.i (i64.wrap ((i:Int)+1))]=_;rw[wS h (by omega),tS1 hx];simp only[dDs,List.map_append,Jrh,List.map_nil]
 ·show [D.s (dDs (l.take i))]=_;rw[tA1 h]
theorem JfS (s:Sit) (hs:Qj s):Ev L f_k4a s.cells s.cells:=by
 refine Jq7 (vs:=[.b s.up,.b s.frozen,.i s.round,.l (dL s.base),.l (dL s.added),.l (dDs s.done)]) L_k4a rfl ?_;refine JqC (vs:=[.l (dL s.base)]) (Xu s.base hs.1) rfl rfl rfl ?_;refine JqC (vs:=[.l (dL s.added)]) (Xu s.added hs.2.1) rfl rfl rfl ?_;exact JqC (vs:=[.l (dDs s.done)]) (JmB s.done ⟨hs.2.2.1,hs.2.2.2⟩) rfl rfl rfl (JqK rfl)
theorem JnX (l:List Don):wts Don.w l≤2*szL QT l:=by
 unfold wts szL
 induction l with
 | nil=>simp
 | cons x l ih =>
  simp only[Jrh,List.sum_cons,List.length_cons] at ih ⊢;have:Don.w x=2+QT x:=rfl;omega
theorem JnA (s:Sit):JD s≤2*YN s:=by
 have:=JnX s.done;unfold JD YN;omega
theorem Jg2 (s:Sit) (k:Int) (hs:Qj s) (hw:JD s≤10000000000) (h0:0≤k) (h1:k≤100000000000) :
  Ev L f_k58 (s.cells++[dI k]) [dI (k+JD s),.s (dL (cnt k s.base.length)),.s (dL (cnt (k+s.base.length) s.added.length)),.s (dDs (JS Don.w Don.mk' (k+s.base.length+s.added.length) s.done))]:=by
 unfold JD at hw;refine Jq7 (vs:=[.b s.up,.b s.frozen,.i s.round,.l (dL s.base),.l (dL s.added),.l (dDs s.done),.i k]) L_k58 rfl ?_;refine JqC (JK s.base k hs.1 (by omega) (by omega)) rfl rfl rfl ?_;refine JqC (JK s.added (k+s.base.length) hs.2.1 (by omega) (by omega)) rfl rfl rfl ?_;refine JqC (YR s.done (k+s.base.length+s.added.length) hs.2.2.1 hs.2.2.2 (by omega) (by omega)) rfl rfl rfl ?_;refine JqK ?_;show [dI (k+s.base.length+s.added.length+wts Don.w s.done),_,_,_]=_;rw[show k+(s.base.length:Int)+s.added.length+wts Don.w s.done=k+JD s by unfold JD;push_cast;omega];rfl
/- In the beginning all are alike: over residual programs. -/
theorem Jc0 {p:Pln} (h:Qq p=true):1≤p.gives.length∧p.gives.length≤3:=by
 have:=(JbA h).2.2.2;simp only[Qu,Jq9,JH] at this;omega
/- Worlds: sizes,copies,comparisons; which of them are ok: over residual programs. -/
structure Jio where
 call:Cal
 code:Int
 tells:List Int
 deriving DecidableEq
abbrev dSt (l:List Sit):List D:=l.map Sit.g
abbrev dCn (l:List Con):List D:=l.map Con.g
abbrev dMs (l:List Msg):List D:=l.map Msg.g
def Jio.cells (x:Jio):List D:=[dI x.call.client,dI x.call.seq,dI x.call.act,.s (dL x.call.args),dI x.code,.s (dL x.tells)]
def Jio.g (x:Jio):D:= .g x.cells
abbrev dLg (l:List Jio):List D:=l.map Jio.g
theorem Jfe (a:List Msg) (hl:JhV Ul a):Ev L f_k4x [.s (dMs a),.s (dMs a)] [dB true] :=
 Jne (g:=f_k4w) (sh:= .g [.i .i64,.i .i64,.i .i64,.i .i64,.i .i64,.i .i64,.i .i64,.s,.s,.s,.s]) (as:=[(.vi .i64 (.v 3)),(.vi .i64 (.v 4)),(.vi .i64 (.v 5)),(.vi .i64 (.v 6)),(.vi .i64 (.v 7)),(.vi .i64 (.v 8)),(.vi .i64 (.v 9)),(.s (.v 10)),(.s (.v 11)),(.s (.v 12)),(.s (.v 13)),(.vi .i64 (.v 14)),(.vi .i64 (.v 15)),(.vi .i64 (.v 16)),(.vi .i64 (.v 17)),(.vi .i64 (.v 18)),(.vi .i64 (.v 19)),(.vi .i64 (.v 20)),(.s (.v 21)),(.s (.v 22)),(.s (.v 23)),(.s (.v 24))]) (k1:=14) (k2:=25)
  Msg.g (fun x=>[.i x.kind,.i x.to,.i x.frm,.i x.round,.i x.call.client,.i x.call.seq,.i x.call.act,.l (dL x.call.args),.l (dL x.vals),.l (dL x.seqs),.l (dDs x.done)]) Msg.cells a L_k4x rfl (fun _=>rfl) (fun _=>rfl) (fun _=>rfl) (fun _ _ _ _ _=>rfl) (fun x hx=>Jhq x (hl.2 x hx)) hl.1
structure Wrl where
 p:Pln
 sites:List Sit
 c:Clk
 cons:List Con
 net:List Msg
 log:List Jio
def Wrl.cells (w:Wrl):List D:=w.p.cells++[.s (dSt w.sites)]++w.c.cells++[.s (dCn w.cons),.s (dMs w.net),.s (dLg w.log)]
end Go.Proofs.YtgpjnnkmmplicaaGreatDoor

import Derived.Test.YtngcnclchcahlaaGreatDoorPM
import Derived.Test.YtngcnclchcahlaaGreatDoorTd
import Derived.Laws.Strings
import Derived.Lib.ItoaLen
import Derived.Test.YtngcnclchcahlaaGreatDoorPV
import Derived.Test.YtngcnclchcahlaaGreatDoorPZN
set_option linter.unusedVariables false
set_option linter.unusedSimpArgs false
/- Results as texts: which of them are ok. -/
namespace Go.Proofs.YtngcnclchcahlaaGreatDoor
open Go Go.Tm
open Go.IntKind (i64)
def JL (c:Int) (t:List Int):Bool:=inB c 1 3&&(decide (t.length≤6)&&((decide (c=1)||t.isEmpty)&&JJ t.length 999999999999 t))
theorem XW {c:Int} {t:List Int}:JL c t=true↔(1≤c∧c≤3)∧t.length≤6∧(c=1∨t=[])∧Lim 999999999999 t:=by
 unfold JL inB;simp only[Jt9,Bool.or_eq_true,decide_eq_true_eq,List.isEmpty_iff,Jo];exact⟨fun h=>⟨h.1,h.2.1,h.2.2.1,h.2.2.2.2⟩,fun h=>⟨h.1,h.2.1,h.2.2.1,trivial,h.2.2.2⟩⟩
def Qo:List (List UInt8):=[[],[100,111,110,101],[115,116,111,112,112,101,100],[111,118,101,114]]
def KO (c:Int) (t:List Int):List UInt8:=if JL c t then Qo.getD c.toNat []++Qq t else []
theorem Jq3 (a b:List UInt8):(⟨a.toArray⟩:ByteArray)++⟨b.toArray⟩=⟨(a++b).toArray⟩:=by
 apply ByteArray.ext;simp
theorem JcB {a b:List UInt8} (h:a.length+b.length≤1000000):ZY .cat [Q2 a,Q2 b]=some (Q2 (a++b)):=by
 show (if(⟨a.toArray⟩:ByteArray).size+(⟨b.toArray⟩:ByteArray).size≤2 ^ 62 then some (D.v (.string ((⟨a.toArray⟩:ByteArray)++⟨b.toArray⟩))) else none)=_;rw[if_pos,Jq3]
 ·rfl
 show a.toArray.size+b.toArray.size≤2 ^ 62;simp only[List.size_toArray];omega
theorem JlD (a b:List UInt8):ZY .seq [Q2 a,Q2 b]=some (dB (a == b)):=by
 show some (D.v (.bool ((⟨a.toArray⟩:ByteArray).toList == (⟨b.toArray⟩:ByteArray).toList)))=_;rw[ByteArray.toList_mk,ByteArray.toList_mk]
theorem Jdt (t:List Int) (hl:Lim 999999999999 t):(Qq t).length≤22*t.length:=by
 induction t with
 | nil=>simp[Qq]
 | cons n l ih =>
  have h1:=hl n (by simp);have h2:=Lib.itoa_length_le n (by omega) (by omega);have h3:=ih fun m hm=>hl m (by simp[hm]);simp only[Qq,List.flatMap_cons,Juf,List.length_cons] at h3 ⊢;omega
theorem Jgk {c:Int} (h:inB c 1 3=true):Qo[c.toNat]? = some (Qo.getD c.toNat [])∧Qo.getD c.toNat []≠[]∧(Qo.getD c.toNat []).length≤7:=by
 unfold inB at h;simp only[Jt9,decide_eq_true_eq] at h;rcases (show c=1∨c=2∨c=3 by omega) with rfl | rfl | rfl <;> exact⟨rfl,by decide,by decide⟩
theorem Jc7 (c:Int) (t:List Int):(KO c t == []) = !JL c t:=by
 unfold KO;split
 ·rename_i h;have hin:inB c 1 3=true:=by unfold JL at h;simp only[Jt9] at h;exact h.1
  have:=(Jgk hin).2.1;rw[h];have h2:Qo.getD c.toNat []++Qq t≠[]:=fun e=>this (List.append_eq_nil_iff.1 e).1;generalize Qo.getD c.toNat []++Qq t=l at h2;cases l with
  | nil=>exact absurd rfl h2
  | cons x l=>rfl
 ·rename_i h;simp[h]
theorem JeW (t:List Int) (h6:t.length≤6) (hl:Lim 999999999999 t):Ev L f_k52 [.s (dL t)] [Q2 (Qq t)]:=by
 refine Jt5 L_k52 ?_;show (if(dL t).length≤4096 then((dL t).mapM Jcq).map fun l=>[Q2 (Qq l)] else none)=_;have e:(dL t).mapM Jcq=some t:=Jb9 fun n hn=>by have:=hl n hn;omega
 rw[if_pos (by rw[dL1];omega),e];rfl
theorem JaH:Ev L f_k51 [] [.s (Qo.map Q2)] :=
 Jt7 (vs:=[]) L_k51 rfl (Jt0 rfl)
theorem Jil (c:Int) (t:List Int) (ht:t.length≤2000000):Ev L f_k53 [dI c,.s (dL t)] [Q2 (KO c t)]:=by
 refine Jt7 (vs:=[.i c,.l (dL t)]) L_k53 rfl ?_;have no:JL c t=false→([Q2 []]:List D)=[Q2 (KO c t)]:=fun h=>by simp[KO,h]
 refine JtE (Yf c 1 3) rfl rfl rfl ?_;refine Jt1 (inB c 1 3) rfl (fun h=>Jt0 (no (by simp[JL,h]))) (fun h1=>?_);refine Jty (6<((dL t).length:Int)) rfl (fun h=>Jt0 (no ?_)) (fun h2=>?_)
 ·rw[dL1] at h;simp only[JL,show ¬t.length≤6 by omega,decide_false,Bool.false_and,Bool.and_false]
 rw[dL1] at h2;obtain⟨w1,_,w3⟩:=Jgk h1;have hidx:(Qo.map Q2)[c.toNat]? = some (Q2 (Qo.getD c.toNat [])):=by rw[Juu,w1];rfl
 have hc0:0≤c:=by unfold inB at h1;simp only[Jt9,decide_eq_true_eq] at h1;omega
 have hc4:c<((Qo.map Q2).length:Int):=by unfold inB at h1;simp only[Jt9,decide_eq_true_eq] at h1;show c<4;omega
 have hwn:=Xw t t.length 999999999999 ht (by omega) (by omega);refine Jt1 (decide (c=1)) rfl (fun h3=>?_) (fun h3=>?_)
 ·refine Jty (0<((dL t).length:Int)) rfl (fun h=>Jt0 (no ?_)) (fun h4=>?_)
  ·rw[dL1] at h;have:t.isEmpty=false:=by cases t with
    | nil=>simp at h
    | cons x t=>rfl
   simp only[JL,h3,this,Bool.or_false,Bool.false_and,Bool.and_false]
  ·rw[dL1] at h4;have h4:t=[]:=List.length_eq_zero_iff.1 (by omega);refine JtE hwn rfl (by show [D.s (dL t),dI ((dL t).length:Int),dI 999999999999]=_;rw[dL1]) rfl ?_;refine Jt1 (JJ t.length 999999999999 t) rfl (fun h=>Jt0 (no (by simp only[JL,h,Bool.and_false]))) (fun h5=>?_);have hl:=(Jo.1 h5).2;have hj:=Jdt t hl;have hok:JL c t=true:=by simp only[JL,h1,h5,h4,List.length_nil,List.isEmpty_nil,Bool.or_true,Jut];simp[JJ]
   have e:Q2 (KO c t)=Q2 (Qo.getD c.toNat []++Qq t):=by simp only[KO,hok,if_true]
   rw[e];refine JtE JaH rfl rfl rfl ?_;refine JtP (0≤c) rfl hc0 (JtP (c<((Qo.map Q2).length:Int)) rfl hc4 ?_);refine JtJ (ds:=Qo.map Q2) c rfl rfl rfl hc0 hidx rfl ?_;refine JtE (JeW t (by omega) hl) rfl rfl rfl ?_;refine JtM rfl (JcB (by omega)) rfl (Jt0 rfl)
 ·refine JtE hwn rfl (by show [D.s (dL t),dI ((dL t).length:Int),dI 999999999999]=_;rw[dL1]) rfl ?_;refine Jt1 (JJ t.length 999999999999 t) rfl (fun h=>Jt0 (no (by simp only[JL,h,Bool.and_false]))) (fun h5=>?_);have hl:=(Jo.1 h5).2;have hj:=Jdt t hl;have hok:JL c t=true:=by simp only[JL,h1,h5,h3,Bool.true_or,Jut,Bool.and_true];simp;omega
  have e:Q2 (KO c t)=Q2 (Qo.getD c.toNat []++Qq t):=by simp only[KO,hok,if_true]
  rw[e];refine JtE JaH rfl rfl rfl ?_;refine JtP (0≤c) rfl hc0 (JtP (c<((Qo.map Q2).length:Int)) rfl hc4 ?_);refine JtJ (ds:=Qo.map Q2) c rfl rfl rfl hc0 hidx rfl ?_;refine JtE (JeW t (by omega) hl) rfl rfl rfl ?_;refine JtM rfl (JcB (by omega)) rfl (Jt0 rfl)
theorem JlV (c:Int) (t:List Int) (ht:t.length≤2000000):Ev L f_k54 [dI c,.s (dL t)] [dB (JL c t)]:=by
 refine Jt7 (vs:=[.i c,.l (dL t)]) L_k54 rfl ?_;refine JtE (Jil c t ht) rfl rfl rfl ?_;refine JtM rfl (JlD (KO c t) []) rfl (Jt0 ?_);show [dB (!(KO c t == []))]=_;rw[Jc7,Bool.not_not]
/- What does not come to its end turns nothing: over residual programs. -/
theorem JoP (v x t:List Int) (hv:v.length≤2000000) (hx:x.length≤2000000):Ev L f_k2j [.s (dL v),.s (dL x),.s (dL t)] (Res.ds (Jjf v x t)):=by
 refine Jt7 (vs:=[.l (dL v),.l (dL x),.l (dL t)]) L_k2j rfl ?_;refine JtE (YV x hx) rfl rfl rfl ?_;unfold Jjf;refine Jt1 (JY x) rfl (fun h=>?_) (fun h=>Jt0 ?_)
 ·rw[h,if_neg (by simp)];refine Jtv (dL v) 2000000 (by rw[dL1];omega) (by omega) rfl ?_;refine JtH (JS v) ?_;refine Jtv (dL v) 2000000 (by rw[dL1];omega) (by omega) rfl (Jt0 rfl)
 ·rw[h];rfl
theorem Jj2 (a:List Jg) (v w:List Int) (ha:KB a) (hv:v.length≤2000000) (hw:w.length≤2000000):Ev L f_k2k [.s (Jl a),.s (dL v),.s (dL w)] (Res.ds (Kg a v w)):=by
 refine Jt7 (vs:=[.l (Jl a),.l (dL v),.l (dL w)]) L_k2k rfl ?_;have none:(Qp a&&(JY v&&QR w))=false→Kg a v w=⟨0,[],[]⟩:=fun h=>by simp[Kg,h]
 refine JtE (JaB a ha) rfl rfl rfl ?_;refine Jt1 (Qp a) rfl (fun h=>Jt0 ?_) (fun h=>?_)
 ·rw[none (by simp[h])];rfl
 refine JtE (YV v hv) rfl rfl rfl ?_;refine Jt1 (JY v) rfl (fun h2=>Jt0 ?_) (fun h2=>?_)
 ·rw[none (by simp[h2])];rfl
 refine JtE (Jj5 w hw) rfl rfl rfl ?_;refine Jt1 (QR w) rfl (fun h3=>Jt0 ?_) (fun h3=>?_)
 ·rw[none (by simp[h3])];rfl
 have hrun:Kg a v w=run v w a v []:=by simp[Kg,h,h2,h3]
 rw[hrun];obtain⟨v1,v2⟩:=Qg.1 h2;obtain⟨w1,w2⟩:=XX.1 h3;obtain⟨a1,a2⟩:=KL h;refine Jtv (dL v) 2000000 (by rw[dL1];omega) (by omega) rfl ?_;refine JtH (JS v) ?_;refine Jtv (dL v) 2000000 (by rw[dL1];omega) (by omega) rfl ?_;simp only[sC,sN];refine JtL (fun m vs=>∃ (i:Int) (x t:List Int) (j:Nat),vs=[.l (dL t),.l (dL x),.i i]∧0≤i∧i≤20∧m=a.length-i.toNat∧(j:Int)≤i∧j≤6∧x.length=3∧Lim (XB j) x∧t.length≤j∧run v w (a.drop i.toNat) x t=run v w a v []) rfl a.length
  ⟨0,v,[],0,rfl,by omega,by omega,by simp,by omega,by omega,v1,v2,by simp,by simp⟩ ?_
 rintro m _ ⟨i,x,t,j,rfl,i0,i20,hm,hji,hj6,hx,hl,ht,hr⟩;rw[←hr];clear hr;simp only[sC,sN];have hX0:=Jhi j;have hXl:=Jqq hj6;refine Jty (i<((Jl a).length:Int)) rfl (fun hi=>?_) (fun hi=>?_)
 ·rw[JN] at hi;obtain⟨l,hla,hd⟩:=UN i0 hi;have hok:=a2 l (Jug hla);have hdr:=Xx hla;have hs1:(i+1).toNat=i.toNat+1:=by omega
  refine JtJ (ds:=Jl a) i rfl rfl rfl i0 hd rfl ?_;simp only[sC,sN];have hlx:Lim 2000000000 x:=hl.mono hXl;have hrn : ¬l.kind=4→run v w (a.drop i.toNat) x t=if l.kind=1 then(if atF l.f x w<0 then run v w (a.drop (i+l.skip+1).toNat) x t else run v w (a.drop (i+1).toNat) x t)
    else if l.kind=2 then run v w (a.drop (i+1).toNat) (x.set l.pot.toNat (x.getD l.pot.toNat 0+atF l.f x w)) t else run v w (a.drop (i+1).toNat) x (t++[atF l.f x w]):=fun h4=>by
   rw[hdr,run,if_neg h4,hs1]
   by_cases h1:l.kind=1
   ·have hsk:=JcQ hok h1;rw[if_pos h1,if_pos h1,List.drop_drop,show i.toNat+1+l.skip.toNat=(i+l.skip+1).toNat by omega]
   ·rw[if_neg h1,if_neg h1]
  have hat:=fun h4 : ¬l.kind=4=>JgZ (YQ.small (X2 hok h4) hx hlx h3);have hb:=fun h4 : ¬l.kind=4=>JiC (X2 hok h4) hl w2 hX0;refine Jty (l.kind=1) rfl (fun h1=>?_) (fun h1=>?_)
  ·have h4 : ¬l.kind=4:=by omega
   have hat:=hat h4;rw[hrn h4,if_pos h1];have hsk:=JcQ hok h1;refine JtE hat rfl rfl rfl ?_;simp only[sC,sN];generalize atF l.f x w=n at *;refine Jty (n<0) rfl (fun hn=>?_) (fun hn=>?_)
   ·rw[if_pos hn];refine JtK (vs:=[.l (dL t),.l (dL x),.i (i+l.skip+1)]) ?_ ⟨a.length-(i+l.skip+1).toNat,by omega,i+l.skip+1,x,t,j,rfl,by omega,by omega,rfl,by omega,by omega,hx,hl,ht,rfl⟩;show [V.l (dL t),V.l (dL x),V.i (i64.wrap (i64.wrap (i+l.skip)+1))]=_;rw[w64 (n:=i+l.skip) (by omega) (by omega),w64 (by omega) (by omega)]
   ·rw[if_neg hn];refine JtK (vs:=[.l (dL t),.l (dL x),.i (i+1)]) ?_ ⟨a.length-(i+1).toNat,by omega,i+1,x,t,j,rfl,by omega,by omega,rfl,by omega,by omega,hx,hl,ht,rfl⟩;show [V.l (dL t),V.l (dL x),V.i (i64.wrap (i+1))]=_;rw[w64 (by omega) (by omega)]
  refine Jty (l.kind=2) rfl (fun h2'=>?_) (fun h2'=>?_)
  ·have h4 : ¬l.kind=4:=by omega
   have hat:=hat h4;have hb:=hb h4;rw[hrn h4,if_neg h1,if_pos h2'];have hj5:j<6:=by omega
   have hpt:=Jgs hok h2';have hxp:=Ja4 (l:=x) (i:=l.pot.toNat) (by omega);have hdx:(dL x)[l.pot.toNat]? = some (dI (x.getD l.pot.toNat 0)):=mA1 (f:=dI) hxp;have hlp:=hl _ (Jug hxp);generalize atF l.f x w=n at *;generalize x.getD l.pot.toNat 0=y at *;refine JtP (0≤l.pot) rfl hpt.1 ?_;refine JtP (l.pot<((dL x).length:Int)) rfl (by rw[dL1];omega) ?_;refine JtJ (ds:=dL x) l.pot rfl rfl rfl hpt.1 hdx rfl ?_;simp only[sC,sN];refine JtE hat rfl rfl rfl ?_;simp only[sC,sN];refine JtP (0≤l.pot) rfl hpt.1 ?_;refine JtP (l.pot<((dL x).length:Int)) rfl (by rw[dL1];omega) ?_;refine JtJ (ds:=dL x) l.pot rfl rfl rfl hpt.1 hdx rfl ?_;simp only[sC,sN];have hstep:XB (j+1)=7*XB j+60:=rfl;refine JtK (vs:=[.l (dL t),.l (dL (x.set l.pot.toNat (y+n))),.i (i+1)]) ?_ ⟨a.length-(i+1).toNat,by omega,i+1,x.set l.pot.toNat (y+n),t,j+1,rfl,by omega,by omega,rfl,by omega,by omega,by simp[hx],(hl.mono (JcM (by omega))).set (by omega) _,by omega,rfl⟩;show [V.l (dL t),V.l ((dL x).set l.pot.toNat (dI (i64.wrap (y+n)))),V.i (i64.wrap (i+1))]=_;rw[w64 (n:=i+1) (by omega) (by omega),w64 (by omega) (by omega),QH]
  refine Jty (l.kind=3) rfl (fun h3'=>?_) (fun h3'=>?_)
  ·have h4 : ¬l.kind=4:=by omega
   have hat:=hat h4;have hj5:j<6:=by omega
   rw[hrn h4,if_neg h1,if_neg h2'];refine JtE hat rfl rfl rfl ?_;simp only[sC,sN];generalize atF l.f x w=n at *;refine JtR (dL t) 10 (by rw[dL1];omega) (by omega) rfl ?_;refine JtK (vs:=[.l (dL (t++[n])),.l (dL x),.i (i+1)]) ?_ ⟨a.length-(i+1).toNat,by omega,i+1,x,t++[n],j+1,rfl,by omega,by omega,rfl,by omega,by omega,hx,hl.mono (JcM (by omega)),by simp;omega,rfl⟩;show [V.l (dL t++[dI n]),V.l (dL x),V.i (i64.wrap (i+1))]=_;rw[w64 (by omega) (by omega),Q8]
  ·have h4:l.kind=4:=by
    by_cases h4:l.kind=4
    ·exact h4
    ·exact absurd (Jqg hok h1 h2' h4) h3'
   rw[hdr,run,if_pos h4];refine Jtv (dL v) 2000000 (by rw[dL1];omega) (by omega) rfl ?_;refine JtH (JS v) ?_;refine Jtv (dL v) 2000000 (by rw[dL1];omega) (by omega) rfl (JtA (Jt0 rfl))
 ·rw[JN] at hi;rw[List.drop_eq_nil_of_le (by omega),run];refine JtA ?_;exact JtE (JoP v x t hv (by omega)) rfl rfl rfl (Jt0 rfl)
def Jlz (v:List Int) (r:Res):Prop:=(r.code=1∧JY r.is=true∧r.tells.length≤6∧Lim 999999999999 r.tells)∨(r.is=v∧r.tells=[]∧(r.code=2∨r.code=3))
theorem Vc {v w:List Int} (hw:Lim 9 w) :∀(n:Nat) (a:List Jg) (x t:List Int) (j:Nat),a.length≤n→(∀l∈a,l.ok=true)→j+a.length≤6→x.length=3→Lim (XB j) x→t.length≤j→Lim 999999999999 t→Jlz v (run v w a x t)
 | n,[],x,t,j,_,_,hj,hx,hl,ht,hlt=>by
  rw[run];unfold Jjf;split
  ·rename_i h;exact .inl ⟨rfl,h,by simp at hj;show t.length≤6;omega,hlt⟩
  ·exact .inr ⟨rfl,rfl,.inr rfl⟩
 | 0,l::a,x,t,j,h,_,_,_,_,_,_=>by simp at h
 | n+1,l::a,x,t,j,h,hok,hj,hx,hl,ht,hlt=>by
  have hok1:=hok l (by simp);have hok2 :∀l∈a,l.ok=true:=fun m hm=>hok m (by simp[hm]);simp only[List.length_cons] at h hj;rw[run];split
  ·exact .inr ⟨rfl,rfl,.inl rfl⟩
  ·rename_i h4;have hX0:=Jhi j;have hXl:=Jqq (n:=j) (by omega);have hb:=JiC (X2 hok1 h4) hl hw hX0;split
   ·split
    ·exact Vc hw n _ x t j (by simp;omega) (fun m hm=>hok2 m (List.mem_of_mem_drop hm)) (by simp;omega) hx hl ht hlt
    ·exact Vc hw n a x t j (by omega) hok2 (by omega) hx hl ht hlt
   ·split
    ·rename_i h2;have hpt:=Jgs hok1 h2;have hxp:=Ja4 (l:=x) (i:=l.pot.toNat) (by omega);have hlp:=hl _ (Jug hxp);have hstep:XB (j+1)=7*XB j+60:=rfl;exact Vc hw n a _ t (j+1) (by omega) hok2 (by omega) (by simp[hx]) ((hl.mono (JcM (by omega))).set (by omega) _) (by omega) hlt
    ·refine Vc hw n a x _ (j+1) (by omega) hok2 (by omega) hx (hl.mono (JcM (by omega))) (by simp;omega) ?_;intro y hy;rcases Jue.1 hy with h | h
     ·exact hlt y h
     ·simp only[Jur] at h;subst h;omega
theorem Jh3 {a:List Jg} {v w:List Int} (h1:Qp a=true) (h2:JY v=true) (h3:QR w=true):Jlz v (Kg a v w):=by
 obtain⟨v1,v2⟩:=Qg.1 h2;obtain⟨w1,w2⟩:=XX.1 h3;obtain⟨a1,a2⟩:=KL h1;have hrun:Kg a v w=run v w a v []:=by simp[Kg,h1,h2,h3]
 rw[hrun];exact Vc w2 a.length a v [] 0 (by omega) a2 (by omega) v1 v2 (by simp) (fun x hx=>by simp at hx)
/- Sizes and copies of calls,of what was done,of sites,clerks and messages: over residual programs. -/
def Wj {α:Type} (f:α→Prop) (l:List α):Prop:=l.length≤2000000∧∀x∈l,f x
def XJ (x:Cal):Prop:=x.args.length≤2000000
def Yn (x:Don):Prop:=x.tells.length≤2000000
structure Msg where
 kind:Int
 to:Int
 frm:Int
 round:Int
 call:Cal
 vals:List Int
 seqs:List Int
 done:List Don
 deriving DecidableEq
def Msg.cells (x:Msg):List D:=[dI x.kind,dI x.to,dI x.frm,dI x.round,dI x.call.client,dI x.call.seq,dI x.call.act,.s (dL x.call.args),.s (dL x.vals),.s (dL x.seqs),.s (dDs x.done)]
def Msg.g (x:Msg):D:= .g x.cells
def ZP (x:Msg):Prop:=x.call.args.length≤2000000∧x.vals.length≤2000000∧x.seqs.length≤2000000∧Wj Yn x.done
/- Results,calls,what was done,messages: which of them are ok. -/
theorem JiF (n:Int) (h0 : -999999999999≤n) (h1:n≤999999999999):Ev L f_k1a [dI n] [Q2 (Lib.itoa n)]:=by
 refine Jt5 L_k1a ?_;show (Jcq (dI n)).map _=_;rw[show Jcq (dI n)=some n by show (if _ then some n else none)=_;rw[if_pos (by omega)]];rfl
theorem JjQ {t:List Int} {i:Nat} {x:Int} (h:t[i]? = some x):Qq (t.take (i+1))=Qq (t.take i)++[32]++Lib.itoa x:=by
 unfold Qq;rw[tS1 h,List.flatMap_append];simp only[List.flatMap_cons,List.flatMap_nil,List.append_nil,List.append_assoc,List.singleton_append]
theorem Jii (c:Int) (t:List Int) (ht:t.length≤2000000):Ev L f_k1b [dI c,.s (dL t)] [Q2 (KO c t)]:=by
 refine Jt7 (vs:=[.i c,.l (dL t)]) L_k1b rfl ?_;have no:JL c t=false→([Q2 []]:List D)=[Q2 (KO c t)]:=fun h=>by simp[KO,h]
 refine JtE (JP c 1 3) rfl rfl rfl ?_;refine Jt1 (inB c 1 3) rfl (fun h=>Jt0 (no (by simp[JL,h]))) (fun h1=>?_);obtain⟨w1,_,w3⟩:=Jgk h1;have hidx:(Qo.map Q2)[c.toNat]? = some (Q2 (Qo.getD c.toNat [])):=by rw[Juu,w1];rfl
 have hc0:0≤c:=by unfold inB at h1;simp only[Jt9,decide_eq_true_eq] at h1;omega
 have hc4:c<4:=by unfold inB at h1;simp only[Jt9,decide_eq_true_eq] at h1;omega
 have hal:=Xj t t.length 999999999999 ht (by omega) (by omega);have six:6<t.length→JL c t=false:=fun h=>by simp only[JL,show ¬t.length≤6 by omega,decide_false,Bool.false_and,Bool.and_false]
 have ok:t.length≤6→(c=1∨t=[])→JJ t.length 999999999999 t=true→JL c t=true:=fun h2 h3 h4=>XW.2 ⟨by unfold inB at h1;simp only[Jt9,decide_eq_true_eq] at h1;omega,h2,h3,(Jo.1 h4).2⟩;refine Jt1 (decide (c=1)) rfl (fun h3=>?_) (fun h3=>?_)
 ·refine Jty (0<((dL t).length:Int)) rfl (fun h=>Jt0 (no ?_)) (fun h4=>?_)
  ·rw[dL1] at h;have:t.isEmpty=false:=by cases t with
    | nil=>simp at h
    | cons x t=>rfl
   simp only[JL,h3,this,Bool.or_false,Bool.false_and,Bool.and_false]
  rw[dL1] at h4;have h4:t=[]:=List.length_eq_zero_iff.1 (by omega);refine Jty (6<((dL t).length:Int)) rfl (fun h=>Jt0 (no (six (by rw[dL1] at h;omega)))) (fun h2=>?_);rw[dL1] at h2;refine JtE hal rfl (by show [D.s (dL t),dI ((dL t).length:Int),dI 999999999999]=_;rw[dL1]) rfl ?_;refine Jt1 (JJ t.length 999999999999 t) rfl (fun h=>Jt0 (no (by simp only[JL,h,Bool.and_false]))) (fun h5=>?_);have hok:=ok (by omega) (.inr h4) h5;have hl:=(Jo.1 h5).2;have e:Q2 (KO c t)=Q2 (Qo.getD c.toNat []++Qq t):=by simp only[KO,hok,if_true]
  rw[e];refine JtP (0≤c) rfl hc0 (JtP (c<4) rfl hc4 ?_);refine JtJ (ds:=Qo.map Q2) c rfl rfl rfl hc0 hidx rfl ?_;subst h4;refine JtL (fun _ vs=>vs=[.d (Q2 (Qo.getD c.toNat [])),.i 0]) rfl 0 rfl ?_;rintro m _ rfl;refine JtN rfl (JtA (Jt0 ?_));show [Q2 (Qo.getD c.toNat [])]=[Q2 (Qo.getD c.toNat []++Qq [])];rw[show Qq []=[] from rfl,List.append_nil]
 ·refine Jty (6<((dL t).length:Int)) rfl (fun h=>Jt0 (no (six (by rw[dL1] at h;omega)))) (fun h2=>?_);rw[dL1] at h2;refine JtE hal rfl (by show [D.s (dL t),dI ((dL t).length:Int),dI 999999999999]=_;rw[dL1]) rfl ?_;refine Jt1 (JJ t.length 999999999999 t) rfl (fun h=>Jt0 (no (by simp only[JL,h,Bool.and_false]))) (fun h5=>?_);have hok:=ok (by omega) (.inl (by simpa using h3)) h5;have hl:=(Jo.1 h5).2;have e:Q2 (KO c t)=Q2 (Qo.getD c.toNat []++Qq t):=by simp only[KO,hok,if_true]
  rw[e];refine JtP (0≤c) rfl hc0 (JtP (c<4) rfl hc4 ?_);refine JtJ (ds:=Qo.map Q2) c rfl rfl rfl hc0 hidx rfl ?_;generalize Qo.getD c.toNat []=wd at *;refine Jtt t.length (fun i=>[.d (Q2 (wd++Qq (t.take i))),.i i]) (fun _=>True) rfl ?_ trivial fun i hi _=>?_
  ·show [V.d (Q2 wd),V.i 0]=_;rw[List.take_zero,show Qq []=[] from rfl,List.append_nil];rfl
  simp only[sC,sN];refine JtT i (dL1 t) rfl (fun h=>?_) (fun h=>JtA (Jt0 ?_))
  ·obtain⟨x,hx,hm⟩:=sA1 h;have hxb:=hl x hm;have hj:=Jdt (t.take i) fun m hm=>hl m (Jux hm);rw[Juo,Nat.min_eq_left (by omega)] at hj;have hxl:=Lib.itoa_length_le x (by omega) (by omega);refine JtM rfl (JcB (a:=wd++Qq (t.take i)) (b:=[32]) (by simp;omega)) rfl ?_;refine JtY i (mA1 (f:=dI) hx) rfl rfl rfl rfl ?_;refine JtE (JiF x (by omega) (by omega)) rfl rfl rfl ?_;refine JtM rfl (JcB (a:=wd++Qq (t.take i)++[32]) (b:=Lib.itoa x) (by simp;omega)) rfl ?_;refine JtK (vs:=[.d (Q2 (wd++Qq (t.take (i+1)))),.i ((i+1:Nat):Int)]) ?_ ⟨h,rfl,trivial⟩;show [V.d (Q2 (wd++Qq (t.take i)++[32]++Lib.itoa x)),V.i (i64.wrap ((i:Int)+1))]=_;rw[wS h (by omega),JjQ hx];simp only[List.append_assoc]
  ·show [Q2 (wd++Qq (t.take i))]=_;rw[tA1 h]
theorem Jbc (c:Int) (t:List Int) (ht:t.length≤2000000):Ev L f_k1c [dI c,.s (dL t)] [dB (JL c t)]:=by
 refine Jt7 (vs:=[.i c,.l (dL t)]) L_k1c rfl ?_;refine JtE (Jii c t ht) rfl rfl rfl ?_;refine JtM rfl (JlD (KO c t) []) rfl (Jt0 ?_);show [dB (!(KO c t == []))]=_;rw[Jc7,Bool.not_not]
def Jk (p:Pln) (c:Cal):Bool:=inB c.client 0 (p.n-1)&&(inB c.seq 1 300&&(inB c.act 0 ((p.acts.length:Int)-1)&&QR c.args))
theorem JaE {n:Nat} (h:n≤2000000):i64.wrap ((n:Int)-1)=(n:Int)-1:=w64 (by omega) (by omega)
theorem Y3 (p:Pln) (c:Cal) (hp:JM p) (h1:1≤p.n) (h2:p.n≤4) (hc:XJ c):Ev L f_k19 (p.cells++c.cells) [dB (Jk p c)]:=by
 refine Jt7 (vs:=[.i p.n,.l (Jd p.acts),.l (dL p.gives),.l (dL p.start),.i c.client,.i c.seq,.i c.act,.l (dL c.args)]) L_k19 rfl ?_;have w1:i64.wrap (p.n-1)=p.n-1:=w64 (by omega) (by omega);have w2:i64.wrap (((Jd p.acts).length:Int)-1)=(p.acts.length:Int)-1:=by rw[JK];exact JaE hp.1.1
 refine JtE (JP c.client 0 (p.n-1)) rfl (by show [dI c.client,dI 0,dI (i64.wrap (p.n-1))]=_;rw[w1]) rfl ?_;refine JtG (inB c.client 0 (p.n-1)) rfl (fun a=>?_) (fun a=>Jt0 (by show [dB false]=_;simp[Jk,a]));refine JtE (JP c.seq 1 300) rfl rfl rfl ?_;refine JtG (inB c.seq 1 300) rfl (fun b=>?_) (fun b=>Jt0 (by show [dB false]=_;simp[Jk,b]));refine JtE (JP c.act 0 ((p.acts.length:Int)-1)) rfl (by show [dI c.act,dI 0,dI (i64.wrap (((Jd p.acts).length:Int)-1))]=_;rw[w2]) rfl ?_;refine JtG (inB c.act 0 ((p.acts.length:Int)-1)) rfl (fun d=>?_) (fun d=>Jt0 (by show [dB false]=_;simp[Jk,d]));refine JtE (Jj5 c.args hc) rfl rfl rfl (Jt0 ?_);show [dB (QR c.args)]=_;simp[Jk,a,b,d]
theorem JiT (p:Pln) (k:Int) (h1:1≤p.n) (h2:p.n≤4):Ev L f_k5a (p.cells++[dI k]) [dB (inB k 0 (p.n-1))]:=by
 refine Jt7 (vs:=[.i p.n,.l (Jd p.acts),.l (dL p.gives),.l (dL p.start),.i k]) L_k5a rfl ?_;have w1:i64.wrap (p.n-1)=p.n-1:=w64 (by omega) (by omega);exact JtE (Yf k 0 (p.n-1)) rfl (by show [dI k,dI 0,dI (i64.wrap (p.n-1))]=_;rw[w1]) rfl (Jt0 rfl)
theorem Jml (p:Pln) (k:Int) (hp:JM p):Ev L f_k4n (p.cells++[dI k]) [dB (inB k 0 ((p.gives.length:Int)-1))]:=by
 refine Jt7 (vs:=[.i p.n,.l (Jd p.acts),.l (dL p.gives),.l (dL p.start),.i k]) L_k4n rfl ?_;have w1:i64.wrap (((dL p.gives).length:Int)-1)=(p.gives.length:Int)-1:=by rw[dL1];exact JaE hp.2.1
 exact JtE (Yf k 0 ((p.gives.length:Int)-1)) rfl (by show [dI k,dI 0,dI (i64.wrap (((dL p.gives).length:Int)-1))]=_;rw[w1]) rfl (Jt0 rfl)
theorem Jmk (p:Pln) (c:Cal) (hp:JM p) (h1:1≤p.n) (h2:p.n≤4) (hc:XJ c):Ev L f_k5c (p.cells++c.cells) [dB (Jk p c)]:=by
 refine Jt7 (vs:=[.i p.n,.l (Jd p.acts),.l (dL p.gives),.l (dL p.start),.i c.client,.i c.seq,.i c.act,.l (dL c.args)]) L_k5c rfl ?_;have w2:i64.wrap (((Jd p.acts).length:Int)-1)=(p.acts.length:Int)-1:=by rw[JK];exact JaE hp.1.1
 refine JtE (JiT p c.client h1 h2) rfl rfl rfl ?_;refine JtG (inB c.client 0 (p.n-1)) rfl (fun a=>?_) (fun a=>Jt0 (by show [dB false]=_;simp[Jk,a]));refine JtE (Yf c.act 0 ((p.acts.length:Int)-1)) rfl (by show [dI c.act,dI 0,dI (i64.wrap (((Jd p.acts).length:Int)-1))]=_;rw[w2]) rfl ?_;refine JtG (inB c.act 0 ((p.acts.length:Int)-1)) rfl (fun d=>?_) (fun d=>Jt0 (by show [dB false]=_;simp[Jk,d]));refine JtE (Yf c.seq 1 300) rfl rfl rfl ?_;refine JtG (inB c.seq 1 300) rfl (fun b=>?_) (fun b=>Jt0 (by show [dB false]=_;simp[Jk,b]));refine JtE (Jdk c.args hc) rfl rfl rfl (Jt0 ?_);show [dB (QR c.args)]=_;simp[Jk,a,b,d]
theorem UC (n:Nat) {m:Nat} (h:m=n):decide ((m:Int)=0)=decide (n=0):=by subst h;simp
def Zg (c:Cal):Bool:=decide (c.client=0)&&(decide (c.seq=0)&&(decide (c.act=0)&&decide (c.args.length=0)))
def Xf (d:Don):Bool:=if d.seq=0 then decide (d.code=0)&&decide (d.tells.length=0) else inB d.seq 1 300&&JL d.code d.tells
def Qi (n:Int) (l:List Don):Bool:=decide ((l.length:Int)=n)&&l.all Xf
def Ym (n:Int) (l:List Int):Bool:=decide ((l.length:Int)=n)&&l.all fun x=>inB x 0 300
theorem QC (l:List Don):(dDs l).length=l.length:=by simp[dDs]
theorem Jf5 (p:Pln) (l:List Int) (hl:l.length≤2000000):Ev L f_k1n (p.cells++[.s (dL l)]) [dB (Ym p.n l)]:=by
 refine Jt7 (vs:=[.i p.n,.l (Jd p.acts),.l (dL p.gives),.l (dL p.start),.l (dL l)]) L_k1n rfl ?_;refine Jt1 (decide ((l.length:Int)=p.n)) (by show (!decide (((dL l).length:Int)=p.n))=_;rw[dL1]) (fun h=>Jt0 (by show [dB false]=_;simp only[Ym,h,Bool.false_and])) (fun h=>?_);refine Jtt l.length (fun i=>[.i i]) (fun i=>((l.take i).all fun x=>inB x 0 300)=true) rfl rfl rfl fun i hi hq=>?_;simp only[sC,sN];refine JtT i (dL1 l) rfl (fun h'=>?_) (fun h'=>JtA (Jt0 ?_))
 ·obtain⟨x,hx,_⟩:=sA1 h';refine JtY i (mA1 (f:=dI) hx) rfl rfl rfl rfl ?_;refine JtE (JP x 0 300) rfl rfl rfl ?_;refine Jt1 (inB x 0 300) rfl (fun b=>JtA (Jt0 ?_)) (fun b=>JtK (vs:=[.i ((i+1:Nat):Int)]) (by rw[←wS h' (by omega)];rfl) ⟨h',rfl,by show ((l.take (i+1)).all fun x=>inB x 0 300)=true;rw[tS1 hx,List.all_append,hq];simp[b]⟩);show [dB false]=_;have:(l.all fun x=>inB x 0 300)=false:=by rw[←List.take_append_drop i l,List.all_append,Xx hx];simp[b]
  simp[Ym,this]
 ·show [dB true]=_;rw[tA1 h'] at hq;simp[Ym,h,hq]
theorem JbX {d:Don} (hs:inB d.seq 0 300=true):Xf d=if decide (d.seq=0)=decide (d.code=0) then(if d.seq=0 then decide (d.tells.length=0) else JL d.code d.tells) else false:=by
 unfold Xf
 by_cases h:d.seq=0
 ·rw[if_pos h,if_pos h]
  by_cases h2:d.code=0 <;> simp[h,h2]
 ·rw[if_neg h,if_neg h];have hin:inB d.seq 1 300=true:=by unfold inB at hs ⊢;simp only[Jt9,decide_eq_true_eq] at hs ⊢;omega
  by_cases h2:d.code=0
  ·have:JL d.code d.tells=false:=by unfold JL inB;simp[h2]
   simp[h,h2,this,JL,inB]
  ·simp[h,h2,hin]
theorem Jbe (p:Pln) (l:List Don) (hl:Wj Yn l):Ev L f_k1j (p.cells++[.s (dDs l)]) [dB (Qi p.n l)]:=by
 refine Jt7 (vs:=[.i p.n,.l (Jd p.acts),.l (dL p.gives),.l (dL p.start),.l (dDs l)]) L_k1j rfl ?_;have hl0:=hl.1;refine Jt1 (decide ((l.length:Int)=p.n)) (by show (!decide (((dDs l).length:Int)=p.n))=_;rw[QC]) (fun h=>Jt0 (by show [dB false]=_;simp only[Qi,h,Bool.false_and])) (fun h=>?_);refine Jtt l.length (fun i=>[.i i]) (fun i=>((l.take i).all Xf)=true) rfl rfl rfl fun i hi hq=>?_;simp only[sC,sN];refine JtT i (QC l) rfl (fun h'=>?_) (fun h'=>JtA (Jt0 ?_))
 ·obtain⟨x,hx,hm⟩:=sA1 h';have hg:(dDs l)[i]? = some x.g:=mA1 (f:=Don.g) hx;have bad:Xf x=false→[dB false]=[dB (Qi p.n l)]:=fun hb=>by
   have:l.all Xf=false:=by rw[←List.take_append_drop i l,List.all_append,Xx hx];simp[hb]
   simp[Qi,this]
  have good:Xf x=true→((l.take (i+1)).all Xf)=true:=fun hb=>by rw[tS1 hx,List.all_append,hq];simp[hb]
  have nx:[V.i (i64.wrap ((i:Int)+1))]=[V.i ((i+1:Nat):Int)]:=by rw[wS h' (by omega)]
  refine JtY (vs:=[.i x.seq,.i x.code,.l (dL x.tells)]) i hg rfl rfl rfl rfl ?_;refine JtE (JP x.seq 0 300) rfl rfl rfl ?_;simp only[sC,sN];refine Jt1 (inB x.seq 0 300) rfl (fun b=>JtA (Jt0 (bad ?_))) (fun b=>?_)
  ·unfold Xf;rw[if_neg (by intro e;rw[e] at b;simp[inB] at b)];have:inB x.seq 1 300=false:=by
    unfold inB at b ⊢;simp only[Bool.and_eq_false_iff,decide_eq_false_iff_not] at b ⊢;omega
   simp[this]
  have hc:=JbX b;refine JtY (vs:=[.i x.seq,.i x.code,.l (dL x.tells)]) i hg rfl rfl rfl rfl ?_;refine JtY (vs:=[.i x.seq,.i x.code,.l (dL x.tells)]) i hg rfl rfl rfl rfl ?_;simp only[sC,sN];refine Jt1 (decide (x.seq=0) == decide (x.code=0)) rfl (fun e=>JtA (Jt0 (bad ?_))) (fun e=>?_)
  ·rw[hc,if_neg (by simpa using e)]
  rw[if_pos (by simpa using e)] at hc;refine JtY (vs:=[.i x.seq,.i x.code,.l (dL x.tells)]) i hg rfl rfl rfl rfl ?_;simp only[sC,sN];refine Jty (x.seq=0) rfl (fun h0=>?_) (fun h0=>?_)
  ·rw[if_pos h0] at hc;refine JtY (vs:=[.i x.seq,.i x.code,.l (dL x.tells)]) i hg rfl rfl rfl rfl ?_;simp only[sC,sN];refine Jty (0<((dL x.tells).length:Int)) rfl (fun ht=>JtA (Jt0 (bad ?_))) (fun ht=>?_)
   ·rw[dL1] at ht;rw[hc];exact decide_eq_false (by omega)
   refine JtY (vs:=[.i x.seq,.i x.code,.l (dL x.tells)]) i hg rfl rfl rfl rfl ?_;simp only[sC,sN];refine JtN (by show decide ((0:Int)<x.seq)=false;rw[h0];rfl) ?_;exact JtK nx ⟨h',rfl,good (by rw[dL1] at ht;rw[hc];exact decide_eq_true (by omega))⟩
  ·rw[if_neg h0] at hc;have hpos:0<x.seq:=by unfold inB at b;simp only[Jt9,decide_eq_true_eq] at b;omega
   refine JtY (vs:=[.i x.seq,.i x.code,.l (dL x.tells)]) i hg rfl rfl rfl rfl ?_;simp only[sC,sN];refine JtZ (by show decide ((0:Int)<x.seq)=true;simpa using hpos) ?_;refine JtY (vs:=[.i x.seq,.i x.code,.l (dL x.tells)]) i hg rfl rfl rfl rfl ?_;refine JtE (Jbc x.code x.tells (hl.2 x hm)) rfl rfl rfl ?_;exact Jt1 (JL x.code x.tells) rfl (fun e=>JtA (Jt0 (bad (by rw[hc,e])))) (fun e=>JtK nx ⟨h',rfl,good (by rw[hc,e])⟩)
 ·show [dB true]=_;rw[tA1 h'] at hq;simp[Qi,h,hq]
theorem Jpl (d:Don) (hd:Yn d):Ev L f_k55 d.cells [dB (Xf d)]:=by
 refine Jt7 (vs:=[.i d.seq,.i d.code,.l (dL d.tells)]) L_k55 rfl ?_;refine Jty (d.seq=0) rfl (fun h=>?_) (fun h=>?_)
 ·refine JtE (ds:=[dB (decide (d.code=0)&&decide (d.tells.length=0))]) (Jt7 (vs:=[.i d.code,.l (dL d.tells)]) L_k50 rfl ?_) rfl rfl rfl (Jt0 (by rw[Xf,if_pos h];rfl));refine Jty (d.code=0) rfl (fun a=>Jt0 ?_) (fun a=>Jt0 (by show [dB false]=_;simp[a]));show [dB (decide (((dL d.tells).length:Int)=0))]=_;rw[UC d.tells.length (dL1 _)];simp[a]
 ·refine JtE (Yf d.seq 1 300) rfl rfl rfl ?_;refine JtG (inB d.seq 1 300) rfl (fun a=>?_) (fun a=>Jt0 (by show [dB false]=_;simp[Xf,h,a]));refine JtE (JlV d.code d.tells hd) rfl rfl rfl (Jt0 ?_);show [dB (JL d.code d.tells)]=_;simp[Xf,h,a]
theorem Jiw (d:Don) (hd:Yn d):Ev L f_k56 d.cells [dB (!Xf d)] :=
 Jt7 (vs:=[.i d.seq,.i d.code,.l (dL d.tells)]) L_k56 rfl (JtE (Jpl d hd) rfl rfl rfl (Jt0 rfl))
theorem JmU (q:Don→Bool) (l:List Don) {fn:FuncId} {caps:List D} (hlen:l.length≤2000000) (hcap:Xu (.f fn caps) = .f fn caps) (har:arT L fn=some ([some 3]++caps.map fun _=>none))
  (hc :∀x∈l,Ev L fn (x.cells++caps.map D.norm) [dB (q x)]):Ev L f_k4z [.s (dDs l),.f fn caps] [dB (l.any q)] :=
 Zl (g := f_k4y) L_k4z rfl hcap
   (YY (sh:= .g [.i .i64,.i .i64,.s]) (as:=[(.vi .i64 (.v 3)),(.vi .i64 (.v 4)),(.s (.v 5))]) (ar:=[some 3]) (k:=6) Don.g q Don.cells (fun x=>[.i x.seq,.i x.code,.l (dL x.tells)]) l
     L_k4y rfl hlen hcap (fun _ _=>rfl) (fun _ _=>rfl) (fun _ _ _ _=>rfl) har hc)
theorem JmK (p:Pln) (l:List Don) (hl:Wj Yn l):Ev L f_k57 (p.cells++[.s (dDs l)]) [dB (Qi p.n l)]:=by
 refine Jt7 (vs:=[.i p.n,.l (Jd p.acts),.l (dL p.gives),.l (dL p.start),.l (dDs l)]) L_k57 rfl ?_;refine Jty ((l.length:Int)=p.n) (by show decide (((dDs l).length:Int)=p.n)=_;rw[QC]) (fun h=>?_) (fun h=>Jt0 (by show [dB false]=_;simp[Qi,h]));refine JtE (JmU (fun d=>!Xf d) l (fn:=f_k56) (caps:=[]) hl.1 rfl rfl fun x hx=>by simpa using Jiw x (hl.2 x hx)) rfl rfl rfl (Jt0 ?_);show [dB (!(l.any fun d=>!Xf d))]=_;rw[Ue];simp[Qi,h]
/- The program's MsgOk answers as the reference's: over residual programs. -/
def em (n:Nat):Bool:=decide (n=0)
def Yx (x:Msg) (c v s d:Bool):Bool:=(c||Zg x.call)&&((v||em x.vals.length)&&((s||em x.seqs.length)&&(d||em x.done.length)))
theorem VP (x:Msg) (c v s d:Bool):Ev L f_k1m (x.cells++[dB c,dB v,dB s,dB d]) [dB (Yx x c v s d)]:=by
 refine Jt7 (vs:=[.i x.kind,.i x.to,.i x.frm,.i x.round,.i x.call.client,.i x.call.seq,.i x.call.act,.l (dL x.call.args),.l (dL x.vals),.l (dL x.seqs),.l (dDs x.done),.b c,.b v,.b s,.b d]) L_k1m rfl ?_;have ea:decide (((dL x.call.args).length:Int)=0)=em x.call.args.length:=UC _ (dL1 _);have ev:decide (((dL x.vals).length:Int)=0)=em x.vals.length:=UC _ (dL1 _);have es:decide (((dL x.seqs).length:Int)=0)=em x.seqs.length:=UC _ (dL1 _);have ed:decide (((dDs x.done).length:Int)=0)=em x.done.length:=UC _ (QC _);have hn:Zg x.call=(decide (x.call.client=0)&&(decide (x.call.seq=0)&&(decide (x.call.act=0)&&em x.call.args.length))):=rfl;have fin :∀b,b=Yx x c v s d→[dB b]=[dB (Yx x c v s d)]:=fun b h=>by rw[h]
 have ed2:([dB (decide (((dDs x.done).length:Int)=0))]:List D)=[dB (em x.done.length)]:=by rw[ed]
 unfold Yx at fin ⊢;rw[hn] at fin ⊢;generalize em x.call.args.length=ba at *;generalize em x.vals.length=bv at *;generalize em x.seqs.length=bs at *;generalize em x.done.length=bd at *;clear hn;generalize hb1:decide (x.call.client=0)=b1 at *;generalize hb2:decide (x.call.seq=0)=b2 at *;generalize hb3:decide (x.call.act=0)=b3 at *
 repeat' (first
  | exact Jt0 (fin true (by simp only[*,Bool.and_true,Bool.or_true,Bool.true_or,Bool.and_self,Bool.or_self]))
  | exact Jt0 (fin false (by simp only[*,Bool.and_false,Bool.false_and,Bool.or_self,Bool.or_false,Bool.false_or,Jut,Bool.and_true,Bool.true_or,Bool.or_true,Bool.and_self]))
  | exact Jt0 (ed2.trans (fin _ (by simp only[*,Bool.or_self,Bool.or_false,Bool.false_or,Jut,Bool.and_true,Bool.true_or,Bool.or_true,Bool.and_self])))
  | refine JtG c rfl (fun h=>?_) (fun h=>?_)
  | refine JtG v rfl (fun h=>?_) (fun h=>?_)
  | refine JtG s rfl (fun h=>?_) (fun h=>?_)
  | refine JtG d rfl (fun h=>?_) (fun h=>?_)
  | refine JtG ba ea (fun h=>?_) (fun h=>?_)
  | refine JtG bv ev (fun h=>?_) (fun h=>?_)
  | refine JtG bs es (fun h=>?_) (fun h=>?_)
  | refine JtG b1 hb1 (fun h=>?_) (fun h=>?_)
  | refine JtG b2 hb2 (fun h=>?_) (fun h=>?_)
  | refine JtG b3 hb3 (fun h=>?_) (fun h=>?_))
def XQ (p:Pln) (k:Int):Bool:=inB k 0 ((p.gives.length:Int)-1)
def JV (p:Pln) (x:Msg):Bool:=inB x.round 0 200&&(
 if x.kind=1 then decide (x.to = -1)&&(decide (x.frm=0)&&(decide (x.round=0)&&(Jk p x.call&&Yx x true false false false)))
 else if x.kind=2 then XQ p x.to&&(decide (x.frm=0)&&Yx x false false false false)
 else if x.kind=3 then decide (x.to = -1)&&(XQ p x.frm&&(JJ 3 20000 x.vals&&(Ym p.n x.seqs&&Yx x false true true false)))
 else if x.kind=4 then XQ p x.to&&(decide (x.frm=0)&&(JY x.vals&&(Qi p.n x.done&&Yx x false true false true)))
 else false)
theorem JaG (p:Pln) (k:Int) (hp:JM p):Ev L f_k7 [dI k,dI 0,dI (i64.wrap (((dL p.gives).length:Int)-1))] [dB (XQ p k)]:=by
 rw[dL1,JaE hp.2.1];exact JP k 0 _
theorem Jpr (p:Pln) (x:Msg) (hp:JM p) (h1:1≤p.n) (h2:p.n≤4) (hx:ZP x):Ev L f_k1o (p.cells++x.cells) [dB (JV p x)]:=by
 refine Jt7 (vs:=[.i p.n,.l (Jd p.acts),.l (dL p.gives),.l (dL p.start),.i x.kind,.i x.to,.i x.frm,.i x.round,.i x.call.client,.i x.call.seq,.i x.call.act,.l (dL x.call.args),.l (dL x.vals),.l (dL x.seqs),.l (dDs x.done)]) L_k1o rfl ?_;refine JtE (JP x.round 0 200) rfl rfl rfl ?_;refine Jt1 (inB x.round 0 200) rfl (fun a=>Jt0 (by show [dB false]=_;simp[JV,a])) (fun a=>?_);refine Jty (x.kind=1) rfl (fun k1=>?_) (fun k1=>?_)
 ·have e:JV p x=(decide (x.to = -1)&&(decide (x.frm=0)&&(decide (x.round=0)&&(Jk p x.call&&Yx x true false false false)))):=by unfold JV;rw[if_pos k1,a,Jut]
  rw[e];refine JtG (decide (x.to = -1)) rfl (fun b=>?_) (fun b=>Jt0 (by show [dB false]=_;simp[b]));refine JtG (decide (x.frm=0)) rfl (fun c=>?_) (fun b=>Jt0 (by show [dB false]=_;simp[b]));refine JtG (decide (x.round=0)) rfl (fun d=>?_) (fun b=>Jt0 (by show [dB false]=_;simp[b]));refine JtE (Y3 p x.call hp h1 h2 hx.1) rfl rfl rfl ?_;refine JtG (Jk p x.call) rfl (fun f=>?_) (fun b=>Jt0 (by show [dB false]=_;simp[b]));refine JtE (VP x true false false false) rfl rfl rfl (Jt0 ?_);rw[b,c,d,f];rfl
 refine Jty (x.kind=2) rfl (fun k2=>?_) (fun k2=>?_)
 ·have e:JV p x=(XQ p x.to&&(decide (x.frm=0)&&Yx x false false false false)):=by unfold JV;rw[if_neg k1,if_pos k2,a,Jut]
  rw[e];refine JtE (JaG p x.to hp) rfl rfl rfl ?_;refine JtG (XQ p x.to) rfl (fun b=>?_) (fun b=>Jt0 (by show [dB false]=_;simp[b]));refine JtG (decide (x.frm=0)) rfl (fun c=>?_) (fun b=>Jt0 (by show [dB false]=_;simp[b]));refine JtE (VP x false false false false) rfl rfl rfl (Jt0 ?_);rw[b,c];rfl
 refine Jty (x.kind=3) rfl (fun k3=>?_) (fun k3=>?_)
 ·have e:JV p x=(decide (x.to = -1)&&(XQ p x.frm&&(JJ 3 20000 x.vals&&(Ym p.n x.seqs&&Yx x false true true false)))):=by unfold JV;rw[if_neg k1,if_neg k2,if_pos k3,a,Jut]
  rw[e];refine JtG (decide (x.to = -1)) rfl (fun b=>?_) (fun b=>Jt0 (by show [dB false]=_;simp[b]));refine JtE (JaG p x.frm hp) rfl rfl rfl ?_;refine JtG (XQ p x.frm) rfl (fun c=>?_) (fun b=>Jt0 (by show [dB false]=_;simp[b]));refine JtE (Xj x.vals 3 20000 hx.2.1 (by omega) (by omega)) rfl rfl rfl ?_;refine JtG (JJ 3 20000 x.vals) rfl (fun d=>?_) (fun b=>Jt0 (by show [dB false]=_;simp[b]));refine JtE (Jf5 p x.seqs hx.2.2.1) rfl rfl rfl ?_;refine JtG (Ym p.n x.seqs) rfl (fun f=>?_) (fun b=>Jt0 (by show [dB false]=_;simp[b]));refine JtE (VP x false true true false) rfl rfl rfl (Jt0 ?_);rw[b,c,d,f];rfl
 refine Jty (x.kind=4) rfl (fun k4=>?_) (fun k4=>Jt0 (by show [dB false]=_;simp[JV,k1,k2,k3,k4]));have e:JV p x=(XQ p x.to&&(decide (x.frm=0)&&(JY x.vals&&(Qi p.n x.done&&Yx x false true false true)))):=by unfold JV;rw[if_neg k1,if_neg k2,if_neg k3,if_pos k4,a,Jut]
 rw[e];refine JtE (JaG p x.to hp) rfl rfl rfl ?_;refine JtG (XQ p x.to) rfl (fun b=>?_) (fun b=>Jt0 (by show [dB false]=_;simp[b]));refine JtG (decide (x.frm=0)) rfl (fun c=>?_) (fun b=>Jt0 (by show [dB false]=_;simp[b]));refine JtE (YV x.vals hx.2.1) rfl rfl rfl ?_;refine JtG (JY x.vals) rfl (fun d=>?_) (fun b=>Jt0 (by show [dB false]=_;simp[b]));refine JtE (Jbe p x.done hx.2.2.2) rfl rfl rfl ?_;refine JtG (Qi p.n x.done) rfl (fun f=>?_) (fun b=>Jt0 (by show [dB false]=_;simp[b]));refine JtE (VP x false true false true) rfl rfl rfl (Jt0 ?_);rw[b,c,d,f];rfl
/- The program's SitOk and SitFree answer as the reference's: over residual programs. -/
theorem Xl {p:Pln} (h:Jt p=true):Qk p.acts=true:=by
 simp only[Jt,Jt9] at h;exact h.2.1
def Xp (p:Pln) (b:List Int) (k:Int) (a:List Int):Bool:=keeps b p.gives (Jb p.acts) k a&&J5 (Jh p.acts) a
def JW (p:Pln) (s:Sit) (k:Int):Bool:=inB s.round 0 200&&(JY s.base&&(Xp p s.base k s.added&&Qi p.n s.done))
def Xz (p:Pln) (s:Sit) (k:Int):Bool:=Jt p&&(XQ p k&&JW p s k)
theorem Jca (p:Pln) (s:Sit):Ev L f_k1e (p.cells++s.cells) [.s (dL s.base),.s (dL p.gives)] :=
 Jt7 (vs:=[.i p.n,.l (Jd p.acts),.l (dL p.gives),.l (dL p.start),.b s.up,.b s.frozen,.i s.round,.l (dL s.base),.l (dL s.added),.l (dDs s.done)]) L_k1e rfl (Jt0 rfl)
theorem JkV (p:Pln) (s:Sit) (k:Int) (hp:JM p) (hs:Qu s) (hc:Qk p.acts=true) :
  Ev L f_k1k (p.cells++[.s (dLL (Jb p.acts)),.s (dBl (Jh p.acts))]++s.cells++[dI k]) [dB (JW p s k)]:=by
 refine Jt7 (vs:=[.i p.n,.l (Jd p.acts),.l (dL p.gives),.l (dL p.start),.l (dLL (Jb p.acts)),.l (dBl (Jh p.acts)),.b s.up,.b s.frozen,.i s.round,.l (dL s.base),.l (dL s.added),.l (dDs s.done),.i k]) L_k1k rfl ?_;have hps:fitLL (Jb p.acts):=(QM p.acts).fitLL (by omega);refine JtE (JP s.round 0 200) rfl rfl rfl ?_;refine JtG (inB s.round 0 200) rfl (fun a=>?_) (fun b=>Jt0 (by show [dB false]=_;simp[JW,b]));refine JtE (YV s.base hs.1) rfl rfl rfl ?_;refine JtG (JY s.base) rfl (fun d=>?_) (fun b=>Jt0 (by show [dB false]=_;simp[JW,b]));refine JtE (Jca p s) rfl rfl rfl ?_;refine JtE (ZF s.base p.gives (Jb p.acts) k s.added hs.1 hp.2.1 hps hs.2.1) rfl rfl rfl ?_;simp only[sC,sN];refine JtG (keeps s.base p.gives (Jb p.acts) k s.added) rfl (fun e=>?_) (fun b=>Jt0 (by show [dB false]=_;simp[JW,Xp,b]));refine JtE (WL (Jh p.acts) s.added (KX hc) (VN e)) rfl rfl rfl ?_;simp only[sC,sN];refine JtG (J5 (Jh p.acts) s.added) rfl (fun f=>?_) (fun b=>Jt0 (by show [dB false]=_;simp[JW,Xp,b]));refine JtE (Jbe p s.done ⟨hs.2.2.1,hs.2.2.2⟩) rfl rfl rfl (Jt0 ?_);show [dB (Qi p.n s.done)]=_;simp[JW,Xp,a,d,e,f]
theorem JeZ (p:Pln) (s:Sit) (k:Int) (hp:JM p) (hs:Qu s):Ev L f_k5u (p.cells++s.cells++[dI k]) [dB (Xz p s k)]:=by
 refine Jt7 (vs:=[.i p.n,.l (Jd p.acts),.l (dL p.gives),.l (dL p.start),.b s.up,.b s.frozen,.i s.round,.l (dL s.base),.l (dL s.added),.l (dDs s.done),.i k]) L_k5u rfl ?_;refine JtE (ZJ p hp) rfl rfl rfl ?_;refine Jt1 (Jt p) rfl (fun b=>Jt0 (by show [dB false]=_;simp[Xz,b])) (fun a=>?_);refine JtE (JaG p k hp) rfl rfl rfl ?_;refine Jt1 (XQ p k) rfl (fun b=>Jt0 (by show [dB false]=_;simp[Xz,b])) (fun d=>?_);have hc:=Xl a;have e1:(Ud p.acts).1=Jb p.acts:=by simp[Jb,hc]
 have e2:(Ud p.acts).2=Jh p.acts:=by simp[Jh,hc]
 have eB:=Jbq p.acts hp.1 (Xv hc).2.1;rw[e1,e2] at eB;refine JtE eB rfl rfl rfl ?_;simp only[sC,sN];refine JtE (JkV p s k hp hs hc) rfl rfl rfl (Jt0 ?_);show [dB (JW p s k)]=_;simp[Xz,a,d]
theorem JmC (p:Pln) (s:Sit) (k:Int) (hp:JM p) (hs:Qu s) (hc:Qk p.acts=true) :
  Ev L f_k58 (p.cells++[.s (Jd p.acts),.s (dLL (Jb p.acts)),.s (dBl (Jh p.acts))]++s.cells++[dI k]) [dB (XQ p k&&JW p s k)]:=by
 refine Jt7 (vs:=[.i p.n,.l (Jd p.acts),.l (dL p.gives),.l (dL p.start),.l (Jd p.acts),.l (dLL (Jb p.acts)),.l (dBl (Jh p.acts)),.b s.up,.b s.frozen,.i s.round,.l (dL s.base),.l (dL s.added),.l (dDs s.done),.i k]) L_k58 rfl ?_;have hps:fitLL (Jb p.acts):=(QM p.acts).fitLL (by omega);refine JtE (Jml p k hp) rfl rfl rfl ?_;refine JtG (XQ p k) rfl (fun g=>?_) (fun b=>Jt0 (by show [dB false]=_;simp[JW,b]));refine JtE (Yf s.round 0 200) rfl rfl rfl ?_;refine JtG (inB s.round 0 200) rfl (fun a=>?_) (fun b=>Jt0 (by show [dB false]=_;simp[JW,b]));refine JtE (JiJ s.base hs.1) rfl rfl rfl ?_;refine JtG (JY s.base) rfl (fun d=>?_) (fun b=>Jt0 (by show [dB false]=_;simp[JW,b]));refine JtE (WM p s.base) rfl rfl rfl ?_;refine JtE (Jfu p.acts (Jb p.acts) (Jh p.acts) s.base p.gives k s.added (KX hc) hs.1 hp.2.1 hps hs.2.1) rfl rfl rfl ?_;simp only[sC,sN];refine JtG (Xp p s.base k s.added) rfl (fun e=>?_) (fun b=>Jt0 (by show [dB false]=_;simp[JW,b]));refine JtE (JmK p s.done ⟨hs.2.2.1,hs.2.2.2⟩) rfl rfl rfl (Jt0 ?_);show [dB (Qi p.n s.done)]=_;simp[JW,g,a,d,e]
theorem JeY (p:Pln) (s:Sit) (k:Int) (hp:JM p) (hs:Qu s):Ev L f_k59 (p.cells++s.cells++[dI k]) [dB (Xz p s k)]:=by
 refine Jt7 (vs:=[.i p.n,.l (Jd p.acts),.l (dL p.gives),.l (dL p.start),.b s.up,.b s.frozen,.i s.round,.l (dL s.base),.l (dL s.added),.l (dDs s.done),.i k]) L_k59 rfl ?_;refine JtE (Jfo p hp) rfl rfl rfl ?_;refine JtG (Jt p) rfl (fun a=>?_) (fun b=>Jt0 (by show [dB false]=_;simp[Xz,b]));have hc:=Xl a;refine JtE (JdF p.acts hp.1) rfl rfl rfl ?_;simp only[sC,sN];refine JtE (JmC p s k hp hs hc) rfl rfl rfl (Jt0 ?_);show [dB (XQ p k&&JW p s k)]=_;simp[Xz,a]
theorem JdC (p:Pln) (c:Cal) (hp:JM p) (hc:XJ c):Ev L f_k5v (p.cells++c.cells) [dB (Jt p&&Jk p c)]:=by
 refine Jt7 (vs:=[.i p.n,.l (Jd p.acts),.l (dL p.gives),.l (dL p.start),.i c.client,.i c.seq,.i c.act,.l (dL c.args)]) L_k5v rfl ?_;refine JtE (ZJ p hp) rfl rfl rfl ?_;refine JtG (Jt p) rfl (fun a=>?_) (fun b=>Jt0 (by show [dB false]=_;simp[Jk,b]));obtain⟨n1,n2,_⟩:=Qb a;exact JtE (Y3 p c hp n1 n2 hc) rfl rfl rfl (Jt0 (by rw[a];rfl))
theorem Jkp (p:Pln) (c:Cal) (hp:JM p) (hc:XJ c):Ev L f_k5d (p.cells++c.cells) [dB (Jt p&&Jk p c)]:=by
 refine Jt7 (vs:=[.i p.n,.l (Jd p.acts),.l (dL p.gives),.l (dL p.start),.i c.client,.i c.seq,.i c.act,.l (dL c.args)]) L_k5d rfl ?_;refine JtE (Jfo p hp) rfl rfl rfl ?_;refine JtG (Jt p) rfl (fun a=>?_) (fun b=>Jt0 (by show [dB false]=_;simp[Jk,b]));obtain⟨n1,n2,_⟩:=Qb a;exact JtE (Jmk p c hp n1 n2 hc) rfl rfl rfl (Jt0 (by rw[a];rfl))
end Go.Proofs.YtngcnclchcahlaaGreatDoor

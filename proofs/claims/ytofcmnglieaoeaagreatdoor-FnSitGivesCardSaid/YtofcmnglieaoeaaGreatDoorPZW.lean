import Derived.Test.YtofcmnglieaoeaaGreatDoorPZR
set_option linter.unusedVariables false
set_option linter.unusedSimpArgs false
/- Results,calls,what was done,messages: which of them are ok. -/
namespace Go.Proofs.YtofcmnglieaoeaaGreatDoor
open Go Go.Tm
open Go.IntKind (i64)
theorem JiE (n:Int) (h0 : -999999999999≤n) (h1:n≤999999999999):Ev L f_k1a [dI n] [Q2 (Lib.itoa n)]:=by
 refine Juf L_k1a ?_;show (Jcq (dI n)).map _=_;rw[show Jcq (dI n)=some n by show (if _ then some n else none)=_;rw[if_pos (by omega)]];rfl
theorem JjX {t:List Int} {i:Nat} {x:Int} (h:t[i]? = some x):Qt (t.take (i+1))=Qt (t.take i)++[32]++Lib.itoa x:=by
 unfold Qt;rw[tS1 h,List.flatMap_append];simp only[List.flatMap_cons,List.flatMap_nil,List.append_nil,List.append_assoc,List.singleton_append]
theorem JhU (c:Int) (t:List Int) (ht:t.length≤2000000):Ev L f_k1b [dI c,.s (dL t)] [Q2 (KS c t)]:=by
 refine Jud (vs:=[.i c,.l (dL t)]) L_k1b rfl ?_;have no:JL c t=false→([Q2 []]:List D)=[Q2 (KS c t)]:=fun h=>by simp[KS,h]
 refine JtL (JQ c 1 3) rfl rfl rfl ?_;refine JtI (inB c 1 3) rfl (fun h=>Jt9 (no (by simp[JL,h]))) (fun h1=>?_);obtain⟨w1,_,w3⟩:=JgC h1;have hidx:(Qq.map Q2)[c.toNat]? = some (Q2 (Qq.getD c.toNat [])):=by rw[JuD,w1];rfl
 have hc0:0≤c:=by unfold inB at h1;simp only[Jui,decide_eq_true_eq] at h1;omega
 have hc4:c<4:=by unfold inB at h1;simp only[Jui,decide_eq_true_eq] at h1;omega
 have hal:=Xr t t.length 999999999999 ht (by omega) (by omega);have six:6<t.length→JL c t=false:=fun h=>by simp only[JL,show ¬t.length≤6 by omega,decide_false,Bool.false_and,Bool.and_false]
 have ok:t.length≤6→(c=1∨t=[])→JG t.length 999999999999 t=true→JL c t=true:=fun h2 h3 h4=>YB.2 ⟨by unfold inB at h1;simp only[Jui,decide_eq_true_eq] at h1;omega,h2,h3,(Jo.1 h4).2⟩;refine JtI (decide (c=1)) rfl (fun h3=>?_) (fun h3=>?_)
 ·refine Jt2 (0<((dL t).length:Int)) rfl (fun h=>Jt9 (no ?_)) (fun h4=>?_)
  ·rw[dL1] at h;have:t.isEmpty=false:=by cases t with
    | nil=>simp at h
    | cons x t=>rfl
   simp only[JL,h3,this,Bool.or_false,Bool.false_and,Bool.and_false]
  rw[dL1] at h4;have h4:t=[]:=List.length_eq_zero_iff.1 (by omega);refine Jt2 (6<((dL t).length:Int)) rfl (fun h=>Jt9 (no (six (by rw[dL1] at h;omega)))) (fun h2=>?_);rw[dL1] at h2;refine JtL hal rfl (by show [D.s (dL t),dI ((dL t).length:Int),dI 999999999999]=_;rw[dL1]) rfl ?_;refine JtI (JG t.length 999999999999 t) rfl (fun h=>Jt9 (no (by simp only[JL,h,Bool.and_false]))) (fun h5=>?_);have hok:=ok (by omega) (.inr h4) h5;have hl:=(Jo.1 h5).2;have e:Q2 (KS c t)=Q2 (Qq.getD c.toNat []++Qt t):=by simp only[KS,hok,if_true]
  rw[e];refine JtF (0≤c) rfl hc0 (JtF (c<4) rfl hc4 ?_);refine JtJ (ds:=Qq.map Q2) c rfl rfl rfl hc0 hidx rfl ?_;subst h4;refine JtE (fun _ vs=>vs=[.d (Q2 (Qq.getD c.toNat [])),.i 0]) rfl 0 rfl ?_;rintro m _ rfl;refine JtG rfl (JtX (Jt9 ?_));show [Q2 (Qq.getD c.toNat [])]=[Q2 (Qq.getD c.toNat []++Qt [])];rw[show Qt []=[] from rfl,List.append_nil]
 ·refine Jt2 (6<((dL t).length:Int)) rfl (fun h=>Jt9 (no (six (by rw[dL1] at h;omega)))) (fun h2=>?_);rw[dL1] at h2;refine JtL hal rfl (by show [D.s (dL t),dI ((dL t).length:Int),dI 999999999999]=_;rw[dL1]) rfl ?_;refine JtI (JG t.length 999999999999 t) rfl (fun h=>Jt9 (no (by simp only[JL,h,Bool.and_false]))) (fun h5=>?_);have hok:=ok (by omega) (.inl (by simpa using h3)) h5;have hl:=(Jo.1 h5).2;have e:Q2 (KS c t)=Q2 (Qq.getD c.toNat []++Qt t):=by simp only[KS,hok,if_true]
  rw[e];refine JtF (0≤c) rfl hc0 (JtF (c<4) rfl hc4 ?_);refine JtJ (ds:=Qq.map Q2) c rfl rfl rfl hc0 hidx rfl ?_;generalize Qq.getD c.toNat []=wd at *;refine Jt5 t.length (fun i=>[.d (Q2 (wd++Qt (t.take i))),.i i]) (fun _=>True) rfl ?_ trivial fun i hi _=>?_
  ·show [V.d (Q2 wd),V.i 0]=_;rw[List.take_zero,show Qt []=[] from rfl,List.append_nil];rfl
  simp only[sC,sN];refine JtN i (dL1 t) rfl (fun h=>?_) (fun h=>JtX (Jt9 ?_))
  ·obtain⟨x,hx,hm⟩:=sA1 h;have hxb:=hl x hm;have hj:=Jc9 (t.take i) fun m hm=>hl m (JuG hm);rw[Jux,Nat.min_eq_left (by omega)] at hj;have hxl:=Lib.itoa_length_le x (by omega) (by omega);refine Jt4 rfl (JcL (a:=wd++Qt (t.take i)) (b:=[32]) (by simp;omega)) rfl ?_;refine Jt3 i (mA1 (f:=dI) hx) rfl rfl rfl rfl ?_;refine JtL (JiE x (by omega) (by omega)) rfl rfl rfl ?_;refine Jt4 rfl (JcL (a:=wd++Qt (t.take i)++[32]) (b:=Lib.itoa x) (by simp;omega)) rfl ?_;refine JtH (vs:=[.d (Q2 (wd++Qt (t.take (i+1)))),.i ((i+1:Nat):Int)]) ?_ ⟨h,rfl,trivial⟩;show [V.d (Q2 (wd++Qt (t.take i)++[32]++Lib.itoa x)),V.i (i64.wrap ((i:Int)+1))]=_;rw[wS h (by omega),JjX hx];simp only[List.append_assoc]
  ·show [Q2 (wd++Qt (t.take i))]=_;rw[tA1 h]
theorem Jbi (c:Int) (t:List Int) (ht:t.length≤2000000):Ev L f_k1c [dI c,.s (dL t)] [dB (JL c t)]:=by
 refine Jud (vs:=[.i c,.l (dL t)]) L_k1c rfl ?_;refine JtL (JhU c t ht) rfl rfl rfl ?_;refine Jt4 rfl (JkN (KS c t) []) rfl (Jt9 ?_);show [dB (!(KS c t == []))]=_;rw[Jc8,Bool.not_not]
def Jq (p:Pln) (c:Cal):Bool:=inB c.client 0 (p.n-1)&&(inB c.seq 1 300&&(inB c.act 0 ((p.acts.length:Int)-1)&&Q7 c.args))
theorem JaH {n:Nat} (h:n≤2000000):i64.wrap ((n:Int)-1)=(n:Int)-1:=w64 (by omega) (by omega)
theorem ZG (p:Pln) (c:Cal) (hp:JN p) (h1:1≤p.n) (h2:p.n≤4) (hc:Uj c):Ev L f_k19 (p.cells++c.cells) [dB (Jq p c)]:=by
 refine Jud (vs:=[.i p.n,.l (Je p.acts),.l (dL p.gives),.l (dL p.start),.i c.client,.i c.seq,.i c.act,.l (dL c.args)]) L_k19 rfl ?_;have w1:i64.wrap (p.n-1)=p.n-1:=w64 (by omega) (by omega);have w2:i64.wrap (((Je p.acts).length:Int)-1)=(p.acts.length:Int)-1:=by rw[JO];exact JaH hp.1.1
 refine JtL (JQ c.client 0 (p.n-1)) rfl (by show [dI c.client,dI 0,dI (i64.wrap (p.n-1))]=_;rw[w1]) rfl ?_;refine Jua (inB c.client 0 (p.n-1)) rfl (fun a=>?_) (fun a=>Jt9 (by show [dB false]=_;simp[Jq,a]));refine JtL (JQ c.seq 1 300) rfl rfl rfl ?_;refine Jua (inB c.seq 1 300) rfl (fun b=>?_) (fun b=>Jt9 (by show [dB false]=_;simp[Jq,b]));refine JtL (JQ c.act 0 ((p.acts.length:Int)-1)) rfl (by show [dI c.act,dI 0,dI (i64.wrap (((Je p.acts).length:Int)-1))]=_;rw[w2]) rfl ?_;refine Jua (inB c.act 0 ((p.acts.length:Int)-1)) rfl (fun d=>?_) (fun d=>Jt9 (by show [dB false]=_;simp[Jq,d]));refine JtL (Jkg c.args hc) rfl rfl rfl (Jt9 ?_);show [dB (Q7 c.args)]=_;simp[Jq,a,b,d]
theorem Jhw (p:Pln) (k:Int) (h1:1≤p.n) (h2:p.n≤4):Ev L f_k5c (p.cells++[dI k]) [dB (inB k 0 (p.n-1))]:=by
 refine Jud (vs:=[.i p.n,.l (Je p.acts),.l (dL p.gives),.l (dL p.start),.i k]) L_k5c rfl ?_;have w1:i64.wrap (p.n-1)=p.n-1:=w64 (by omega) (by omega);exact JtL (X8 k 0 (p.n-1)) rfl (by show [dI k,dI 0,dI (i64.wrap (p.n-1))]=_;rw[w1]) rfl (Jt9 rfl)
theorem VZ (p:Pln) (k:Int) (hp:JN p):Ev L f_k4o (p.cells++[dI k]) [dB (inB k 0 ((p.gives.length:Int)-1))]:=by
 refine Jud (vs:=[.i p.n,.l (Je p.acts),.l (dL p.gives),.l (dL p.start),.i k]) L_k4o rfl ?_;have w1:i64.wrap (((dL p.gives).length:Int)-1)=(p.gives.length:Int)-1:=by rw[dL1];exact JaH hp.2.1
 exact JtL (X8 k 0 ((p.gives.length:Int)-1)) rfl (by show [dI k,dI 0,dI (i64.wrap (((dL p.gives).length:Int)-1))]=_;rw[w1]) rfl (Jt9 rfl)
theorem Jm2 (p:Pln) (c:Cal) (hp:JN p) (h1:1≤p.n) (h2:p.n≤4) (hc:Uj c):Ev L f_k5e (p.cells++c.cells) [dB (Jq p c)]:=by
 refine Jud (vs:=[.i p.n,.l (Je p.acts),.l (dL p.gives),.l (dL p.start),.i c.client,.i c.seq,.i c.act,.l (dL c.args)]) L_k5e rfl ?_;have w2:i64.wrap (((Je p.acts).length:Int)-1)=(p.acts.length:Int)-1:=by rw[JO];exact JaH hp.1.1
 refine JtL (Jhw p c.client h1 h2) rfl rfl rfl ?_;refine Jua (inB c.client 0 (p.n-1)) rfl (fun a=>?_) (fun a=>Jt9 (by show [dB false]=_;simp[Jq,a]));refine JtL (X8 c.act 0 ((p.acts.length:Int)-1)) rfl (by show [dI c.act,dI 0,dI (i64.wrap (((Je p.acts).length:Int)-1))]=_;rw[w2]) rfl ?_;refine Jua (inB c.act 0 ((p.acts.length:Int)-1)) rfl (fun d=>?_) (fun d=>Jt9 (by show [dB false]=_;simp[Jq,d]));refine JtL (X8 c.seq 1 300) rfl rfl rfl ?_;refine Jua (inB c.seq 1 300) rfl (fun b=>?_) (fun b=>Jt9 (by show [dB false]=_;simp[Jq,b]));refine JtL (JnW c.args hc) rfl rfl rfl (Jt9 ?_);show [dB (Q7 c.args)]=_;simp[Jq,a,b,d]
theorem Y0 (n:Nat) {m:Nat} (h:m=n):decide ((m:Int)=0)=decide (n=0):=by subst h;simp
def Xj (c:Cal):Bool:=decide (c.client=0)&&(decide (c.seq=0)&&(decide (c.act=0)&&decide (c.args.length=0)))
theorem Jnk (c:Cal):Ev L f_k5b c.cells [dB (Xj c)]:=by
 refine Jud (vs:=[.i c.client,.i c.seq,.i c.act,.l (dL c.args)]) L_k5b rfl ?_;refine Jt2 (c.client=0) rfl (fun a=>?_) (fun a=>Jt9 (by show [dB false]=_;simp[Xj,a]));refine Jt2 (c.seq=0) rfl (fun b=>?_) (fun b=>Jt9 (by show [dB false]=_;simp[Xj,b]));refine Jt2 (c.act=0) rfl (fun d=>Jt9 ?_) (fun d=>Jt9 (by show [dB false]=_;simp[Xj,d]));show [dB (decide (((dL c.args).length:Int)=0))]=_;rw[Y0 c.args.length (dL1 _)];simp[Xj,a,b,d]
def Xi (d:Don):Bool:=if d.seq=0 then decide (d.code=0)&&decide (d.tells.length=0) else inB d.seq 1 300&&JL d.code d.tells
def JX (n:Int) (l:List Don):Bool:=decide ((l.length:Int)=n)&&l.all Xi
def Xm (n:Int) (l:List Int):Bool:=decide ((l.length:Int)=n)&&l.all fun x=>inB x 0 300
theorem Qv (l:List Don):(dDs l).length=l.length:=by simp[dDs]
theorem JfE (p:Pln) (l:List Int) (hl:l.length≤2000000):Ev L f_k1n (p.cells++[.s (dL l)]) [dB (Xm p.n l)]:=by
 refine Jud (vs:=[.i p.n,.l (Je p.acts),.l (dL p.gives),.l (dL p.start),.l (dL l)]) L_k1n rfl ?_;refine JtI (decide ((l.length:Int)=p.n)) (by show (!decide (((dL l).length:Int)=p.n))=_;rw[dL1]) (fun h=>Jt9 (by show [dB false]=_;simp only[Xm,h,Bool.false_and])) (fun h=>?_);refine Jt5 l.length (fun i=>[.i i]) (fun i=>((l.take i).all fun x=>inB x 0 300)=true) rfl rfl rfl fun i hi hq=>?_;simp only[sC,sN];refine JtN i (dL1 l) rfl (fun h'=>?_) (fun h'=>JtX (Jt9 ?_))
 ·obtain⟨x,hx,_⟩:=sA1 h';refine Jt3 i (mA1 (f:=dI) hx) rfl rfl rfl rfl ?_;refine JtL (JQ x 0 300) rfl rfl rfl ?_;refine JtI (inB x 0 300) rfl (fun b=>JtX (Jt9 ?_)) (fun b=>JtH (vs:=[.i ((i+1:Nat):Int)]) (by rw[←wS h' (by omega)];rfl) ⟨h',rfl,by show ((l.take (i+1)).all fun x=>inB x 0 300)=true;rw[tS1 hx,List.all_append,hq];simp[b]⟩);show [dB false]=_;have:(l.all fun x=>inB x 0 300)=false:=by rw[←List.take_append_drop i l,List.all_append,XF hx];simp[b]
  simp[Xm,this]
 ·show [dB true]=_;rw[tA1 h'] at hq;simp[Xm,h,hq]
theorem Jcf {d:Don} (hs:inB d.seq 0 300=true):Xi d=if decide (d.seq=0)=decide (d.code=0) then(if d.seq=0 then decide (d.tells.length=0) else JL d.code d.tells) else false:=by
 unfold Xi
 by_cases h:d.seq=0
 ·rw[if_pos h,if_pos h]
  by_cases h2:d.code=0 <;> simp[h,h2]
 ·rw[if_neg h,if_neg h];have hin:inB d.seq 1 300=true:=by unfold inB at hs ⊢;simp only[Jui,decide_eq_true_eq] at hs ⊢;omega
  by_cases h2:d.code=0
  ·have:JL d.code d.tells=false:=by unfold JL inB;simp[h2]
   simp[h,h2,this,JL,inB]
  ·simp[h,h2,hin]
theorem Jbo (p:Pln) (l:List Don) (hl:Wa Yr l):Ev L f_k1j (p.cells++[.s (dDs l)]) [dB (JX p.n l)]:=by
 refine Jud (vs:=[.i p.n,.l (Je p.acts),.l (dL p.gives),.l (dL p.start),.l (dDs l)]) L_k1j rfl ?_;have hl0:=hl.1;refine JtI (decide ((l.length:Int)=p.n)) (by show (!decide (((dDs l).length:Int)=p.n))=_;rw[Qv]) (fun h=>Jt9 (by show [dB false]=_;simp only[JX,h,Bool.false_and])) (fun h=>?_);refine Jt5 l.length (fun i=>[.i i]) (fun i=>((l.take i).all Xi)=true) rfl rfl rfl fun i hi hq=>?_;simp only[sC,sN];refine JtN i (Qv l) rfl (fun h'=>?_) (fun h'=>JtX (Jt9 ?_))
 ·obtain⟨x,hx,hm⟩:=sA1 h';have hg:(dDs l)[i]? = some x.g:=mA1 (f:=Don.g) hx;have bad:Xi x=false→[dB false]=[dB (JX p.n l)]:=fun hb=>by
   have:l.all Xi=false:=by rw[←List.take_append_drop i l,List.all_append,XF hx];simp[hb]
   simp[JX,this]
  have good:Xi x=true→((l.take (i+1)).all Xi)=true:=fun hb=>by rw[tS1 hx,List.all_append,hq];simp[hb]
  have nx:[V.i (i64.wrap ((i:Int)+1))]=[V.i ((i+1:Nat):Int)]:=by rw[wS h' (by omega)]
  refine Jt3 (vs:=[.i x.seq,.i x.code,.l (dL x.tells)]) i hg rfl rfl rfl rfl ?_;refine JtL (JQ x.seq 0 300) rfl rfl rfl ?_;simp only[sC,sN];refine JtI (inB x.seq 0 300) rfl (fun b=>JtX (Jt9 (bad ?_))) (fun b=>?_)
  ·unfold Xi;rw[if_neg (by intro e;rw[e] at b;simp[inB] at b)];have:inB x.seq 1 300=false:=by
    unfold inB at b ⊢;simp only[Bool.and_eq_false_iff,decide_eq_false_iff_not] at b ⊢;omega
   simp[this]
  have hc:=Jcf b;refine Jt3 (vs:=[.i x.seq,.i x.code,.l (dL x.tells)]) i hg rfl rfl rfl rfl ?_;refine Jt3 (vs:=[.i x.seq,.i x.code,.l (dL x.tells)]) i hg rfl rfl rfl rfl ?_;simp only[sC,sN];refine JtI (decide (x.seq=0) == decide (x.code=0)) rfl (fun e=>JtX (Jt9 (bad ?_))) (fun e=>?_)
  ·rw[hc,if_neg (by simpa using e)]
  rw[if_pos (by simpa using e)] at hc;refine Jt3 (vs:=[.i x.seq,.i x.code,.l (dL x.tells)]) i hg rfl rfl rfl rfl ?_;simp only[sC,sN];refine Jt2 (x.seq=0) rfl (fun h0=>?_) (fun h0=>?_)
  ·rw[if_pos h0] at hc;refine Jt3 (vs:=[.i x.seq,.i x.code,.l (dL x.tells)]) i hg rfl rfl rfl rfl ?_;simp only[sC,sN];refine Jt2 (0<((dL x.tells).length:Int)) rfl (fun ht=>JtX (Jt9 (bad ?_))) (fun ht=>?_)
   ·rw[dL1] at ht;rw[hc];exact decide_eq_false (by omega)
   refine Jt3 (vs:=[.i x.seq,.i x.code,.l (dL x.tells)]) i hg rfl rfl rfl rfl ?_;simp only[sC,sN];refine JtG (by show decide ((0:Int)<x.seq)=false;rw[h0];rfl) ?_;exact JtH nx ⟨h',rfl,good (by rw[dL1] at ht;rw[hc];exact decide_eq_true (by omega))⟩
  ·rw[if_neg h0] at hc;have hpos:0<x.seq:=by unfold inB at b;simp only[Jui,decide_eq_true_eq] at b;omega
   refine Jt3 (vs:=[.i x.seq,.i x.code,.l (dL x.tells)]) i hg rfl rfl rfl rfl ?_;simp only[sC,sN];refine Jt1 (by show decide ((0:Int)<x.seq)=true;simpa using hpos) ?_;refine Jt3 (vs:=[.i x.seq,.i x.code,.l (dL x.tells)]) i hg rfl rfl rfl rfl ?_;refine JtL (Jbi x.code x.tells (hl.2 x hm)) rfl rfl rfl ?_;exact JtI (JL x.code x.tells) rfl (fun e=>JtX (Jt9 (bad (by rw[hc,e])))) (fun e=>JtH nx ⟨h',rfl,good (by rw[hc,e])⟩)
 ·show [dB true]=_;rw[tA1 h'] at hq;simp[JX,h,hq]
theorem Ji0 (x:Int):Ev L f_k5f [dI x] [dB (!inB x 0 300)] :=
 Jud (vs:=[.i x]) L_k5f rfl (JtL (X8 x 0 300) rfl rfl rfl (Jt9 rfl))
theorem JmE (p:Pln) (l:List Int) (hl:l.length≤2000000):Ev L f_k5g (p.cells++[.s (dL l)]) [dB (Xm p.n l)]:=by
 refine Jud (vs:=[.i p.n,.l (Je p.acts),.l (dL p.gives),.l (dL p.start),.l (dL l)]) L_k5g rfl ?_;refine Jt2 ((l.length:Int)=p.n) (by show decide (((dL l).length:Int)=p.n)=_;rw[dL1]) (fun h=>?_) (fun h=>Jt9 (by show [dB false]=_;simp[Xm,h]));refine JtL (V7 (fun x=>!inB x 0 300) l (fn:=f_k5f) (caps:=[]) hl rfl rfl fun x _=>Ji0 x) rfl rfl rfl (Jt9 ?_);show [dB (!(l.any fun x=>!inB x 0 300))]=_;rw[UC];simp[Xm,h]
theorem Jn5 (d:Don) (hd:Yr d):Ev L f_k56 d.cells [dB (Xi d)]:=by
 refine Jud (vs:=[.i d.seq,.i d.code,.l (dL d.tells)]) L_k56 rfl ?_;refine Jt2 (d.seq=0) rfl (fun h=>?_) (fun h=>?_)
 ·refine JtL (ds:=[dB (decide (d.code=0)&&decide (d.tells.length=0))]) (Jud (vs:=[.i d.code,.l (dL d.tells)]) L_k51 rfl ?_) rfl rfl rfl (Jt9 (by rw[Xi,if_pos h];rfl));refine Jt2 (d.code=0) rfl (fun a=>Jt9 ?_) (fun a=>Jt9 (by show [dB false]=_;simp[a]));show [dB (decide (((dL d.tells).length:Int)=0))]=_;rw[Y0 d.tells.length (dL1 _)];simp[a]
 ·refine JtL (X8 d.seq 1 300) rfl rfl rfl ?_;refine Jua (inB d.seq 1 300) rfl (fun a=>?_) (fun a=>Jt9 (by show [dB false]=_;simp[Xi,h,a]));refine JtL (Jm8 d.code d.tells hd) rfl rfl rfl (Jt9 ?_);show [dB (JL d.code d.tells)]=_;simp[Xi,h,a]
theorem Jjd (d:Don) (hd:Yr d):Ev L f_k57 d.cells [dB (!Xi d)] :=
 Jud (vs:=[.i d.seq,.i d.code,.l (dL d.tells)]) L_k57 rfl (JtL (Jn5 d hd) rfl rfl rfl (Jt9 rfl))
theorem Jmr (q:Don→Bool) (l:List Don) {fn:FuncId} {caps:List D} (hlen:l.length≤2000000) (hcap:XN (.f fn caps) = .f fn caps) (har:arT L fn=some ([some 3]++caps.map fun _=>none))
  (hc :∀x∈l,Ev L fn (x.cells++caps.map D.norm) [dB (q x)]):Ev L f_k50 [.s (dDs l),.f fn caps] [dB (l.any q)] :=
 Zm (g := f_k4z) L_k50 rfl hcap
   (Z7 (sh:= .g [.i .i64,.i .i64,.s]) (as:=[(.vi .i64 (.v 3)),(.vi .i64 (.v 4)),(.s (.v 5))]) (ar:=[some 3]) (k:=6) Don.g q Don.cells (fun x=>[.i x.seq,.i x.code,.l (dL x.tells)]) l
     L_k4z rfl hlen hcap (fun _ _=>rfl) (fun _ _=>rfl) (fun _ _ _ _=>rfl) har hc)
theorem JfD (p:Pln) (l:List Don) (hl:Wa Yr l):Ev L f_k58 (p.cells++[.s (dDs l)]) [dB (JX p.n l)]:=by
 refine Jud (vs:=[.i p.n,.l (Je p.acts),.l (dL p.gives),.l (dL p.start),.l (dDs l)]) L_k58 rfl ?_;refine Jt2 ((l.length:Int)=p.n) (by show decide (((dDs l).length:Int)=p.n)=_;rw[Qv]) (fun h=>?_) (fun h=>Jt9 (by show [dB false]=_;simp[JX,h]));refine JtL (Jmr (fun d=>!Xi d) l (fn:=f_k57) (caps:=[]) hl.1 rfl rfl fun x hx=>by simpa using Jjd x (hl.2 x hx)) rfl rfl rfl (Jt9 ?_);show [dB (!(l.any fun d=>!Xi d))]=_;rw[UC];simp[JX,h]
/- The program's MsgOk answers as the reference's: over residual programs. -/
def em (n:Nat):Bool:=decide (n=0)
def XM (x:Msg) (c v s d:Bool):Bool:=(c||Xj x.call)&&((v||em x.vals.length)&&((s||em x.seqs.length)&&(d||em x.done.length)))
theorem VO (x:Msg) (c v s d:Bool):Ev L f_k1m (x.cells++[dB c,dB v,dB s,dB d]) [dB (XM x c v s d)]:=by
 refine Jud (vs:=[.i x.kind,.i x.to,.i x.frm,.i x.round,.i x.call.client,.i x.call.seq,.i x.call.act,.l (dL x.call.args),.l (dL x.vals),.l (dL x.seqs),.l (dDs x.done),.b c,.b v,.b s,.b d]) L_k1m rfl ?_;have ea:decide (((dL x.call.args).length:Int)=0)=em x.call.args.length:=Y0 _ (dL1 _);have ev:decide (((dL x.vals).length:Int)=0)=em x.vals.length:=Y0 _ (dL1 _);have es:decide (((dL x.seqs).length:Int)=0)=em x.seqs.length:=Y0 _ (dL1 _);have ed:decide (((dDs x.done).length:Int)=0)=em x.done.length:=Y0 _ (Qv _);have hn:Xj x.call=(decide (x.call.client=0)&&(decide (x.call.seq=0)&&(decide (x.call.act=0)&&em x.call.args.length))):=rfl;have fin :∀b,b=XM x c v s d→[dB b]=[dB (XM x c v s d)]:=fun b h=>by rw[h]
 have ed2:([dB (decide (((dDs x.done).length:Int)=0))]:List D)=[dB (em x.done.length)]:=by rw[ed]
 unfold XM at fin ⊢;rw[hn] at fin ⊢;generalize em x.call.args.length=ba at *;generalize em x.vals.length=bv at *;generalize em x.seqs.length=bs at *;generalize em x.done.length=bd at *;clear hn;generalize hb1:decide (x.call.client=0)=b1 at *;generalize hb2:decide (x.call.seq=0)=b2 at *;generalize hb3:decide (x.call.act=0)=b3 at *
 repeat' (first
  | exact Jt9 (fin true (by simp only[*,Bool.and_true,Bool.or_true,Bool.true_or,Bool.and_self,Bool.or_self]))
  | exact Jt9 (fin false (by simp only[*,Bool.and_false,Bool.false_and,Bool.or_self,Bool.or_false,Bool.false_or,JuC,Bool.and_true,Bool.true_or,Bool.or_true,Bool.and_self]))
  | exact Jt9 (ed2.trans (fin _ (by simp only[*,Bool.or_self,Bool.or_false,Bool.false_or,JuC,Bool.and_true,Bool.true_or,Bool.or_true,Bool.and_self])))
  | refine Jua c rfl (fun h=>?_) (fun h=>?_)
  | refine Jua v rfl (fun h=>?_) (fun h=>?_)
  | refine Jua s rfl (fun h=>?_) (fun h=>?_)
  | refine Jua d rfl (fun h=>?_) (fun h=>?_)
  | refine Jua ba ea (fun h=>?_) (fun h=>?_)
  | refine Jua bv ev (fun h=>?_) (fun h=>?_)
  | refine Jua bs es (fun h=>?_) (fun h=>?_)
  | refine Jua b1 hb1 (fun h=>?_) (fun h=>?_)
  | refine Jua b2 hb2 (fun h=>?_) (fun h=>?_)
  | refine Jua b3 hb3 (fun h=>?_) (fun h=>?_))
def QS (p:Pln) (k:Int):Bool:=inB k 0 ((p.gives.length:Int)-1)
def Jw (p:Pln) (x:Msg):Bool:=inB x.round 0 200&&(
 if x.kind=1 then decide (x.to = -1)&&(decide (x.frm=0)&&(decide (x.round=0)&&(Jq p x.call&&XM x true false false false)))
 else if x.kind=2 then QS p x.to&&(decide (x.frm=0)&&XM x false false false false)
 else if x.kind=3 then decide (x.to = -1)&&(QS p x.frm&&(JG 3 20000 x.vals&&(Xm p.n x.seqs&&XM x false true true false)))
 else if x.kind=4 then QS p x.to&&(decide (x.frm=0)&&(JU x.vals&&(JX p.n x.done&&XM x false true false true)))
 else false)
theorem Jay (p:Pln) (k:Int) (hp:JN p):Ev L f_k7 [dI k,dI 0,dI (i64.wrap (((dL p.gives).length:Int)-1))] [dB (QS p k)]:=by
 rw[dL1,JaH hp.2.1];exact JQ k 0 _
theorem Jlg (p:Pln) (x:Msg) (hp:JN p) (h1:1≤p.n) (h2:p.n≤4) (hx:Qd x):Ev L f_k1o (p.cells++x.cells) [dB (Jw p x)]:=by
 refine Jud (vs:=[.i p.n,.l (Je p.acts),.l (dL p.gives),.l (dL p.start),.i x.kind,.i x.to,.i x.frm,.i x.round,.i x.call.client,.i x.call.seq,.i x.call.act,.l (dL x.call.args),.l (dL x.vals),.l (dL x.seqs),.l (dDs x.done)]) L_k1o rfl ?_;refine JtL (JQ x.round 0 200) rfl rfl rfl ?_;refine JtI (inB x.round 0 200) rfl (fun a=>Jt9 (by show [dB false]=_;simp[Jw,a])) (fun a=>?_);refine Jt2 (x.kind=1) rfl (fun k1=>?_) (fun k1=>?_)
 ·have e:Jw p x=(decide (x.to = -1)&&(decide (x.frm=0)&&(decide (x.round=0)&&(Jq p x.call&&XM x true false false false)))):=by unfold Jw;rw[if_pos k1,a,JuC]
  rw[e];refine Jua (decide (x.to = -1)) rfl (fun b=>?_) (fun b=>Jt9 (by show [dB false]=_;simp[b]));refine Jua (decide (x.frm=0)) rfl (fun c=>?_) (fun b=>Jt9 (by show [dB false]=_;simp[b]));refine Jua (decide (x.round=0)) rfl (fun d=>?_) (fun b=>Jt9 (by show [dB false]=_;simp[b]));refine JtL (ZG p x.call hp h1 h2 hx.1) rfl rfl rfl ?_;refine Jua (Jq p x.call) rfl (fun f=>?_) (fun b=>Jt9 (by show [dB false]=_;simp[b]));refine JtL (VO x true false false false) rfl rfl rfl (Jt9 ?_);rw[b,c,d,f];rfl
 refine Jt2 (x.kind=2) rfl (fun k2=>?_) (fun k2=>?_)
 ·have e:Jw p x=(QS p x.to&&(decide (x.frm=0)&&XM x false false false false)):=by unfold Jw;rw[if_neg k1,if_pos k2,a,JuC]
  rw[e];refine JtL (Jay p x.to hp) rfl rfl rfl ?_;refine Jua (QS p x.to) rfl (fun b=>?_) (fun b=>Jt9 (by show [dB false]=_;simp[b]));refine Jua (decide (x.frm=0)) rfl (fun c=>?_) (fun b=>Jt9 (by show [dB false]=_;simp[b]));refine JtL (VO x false false false false) rfl rfl rfl (Jt9 ?_);rw[b,c];rfl
 refine Jt2 (x.kind=3) rfl (fun k3=>?_) (fun k3=>?_)
 ·have e:Jw p x=(decide (x.to = -1)&&(QS p x.frm&&(JG 3 20000 x.vals&&(Xm p.n x.seqs&&XM x false true true false)))):=by unfold Jw;rw[if_neg k1,if_neg k2,if_pos k3,a,JuC]
  rw[e];refine Jua (decide (x.to = -1)) rfl (fun b=>?_) (fun b=>Jt9 (by show [dB false]=_;simp[b]));refine JtL (Jay p x.frm hp) rfl rfl rfl ?_;refine Jua (QS p x.frm) rfl (fun c=>?_) (fun b=>Jt9 (by show [dB false]=_;simp[b]));refine JtL (Xr x.vals 3 20000 hx.2.1 (by omega) (by omega)) rfl rfl rfl ?_;refine Jua (JG 3 20000 x.vals) rfl (fun d=>?_) (fun b=>Jt9 (by show [dB false]=_;simp[b]));refine JtL (JfE p x.seqs hx.2.2.1) rfl rfl rfl ?_;refine Jua (Xm p.n x.seqs) rfl (fun f=>?_) (fun b=>Jt9 (by show [dB false]=_;simp[b]));refine JtL (VO x false true true false) rfl rfl rfl (Jt9 ?_);rw[b,c,d,f];rfl
 refine Jt2 (x.kind=4) rfl (fun k4=>?_) (fun k4=>Jt9 (by show [dB false]=_;simp[Jw,k1,k2,k3,k4]));have e:Jw p x=(QS p x.to&&(decide (x.frm=0)&&(JU x.vals&&(JX p.n x.done&&XM x false true false true)))):=by unfold Jw;rw[if_neg k1,if_neg k2,if_neg k3,if_pos k4,a,JuC]
 rw[e];refine JtL (Jay p x.to hp) rfl rfl rfl ?_;refine Jua (QS p x.to) rfl (fun b=>?_) (fun b=>Jt9 (by show [dB false]=_;simp[b]));refine Jua (decide (x.frm=0)) rfl (fun c=>?_) (fun b=>Jt9 (by show [dB false]=_;simp[b]));refine JtL (Y2 x.vals hx.2.1) rfl rfl rfl ?_;refine Jua (JU x.vals) rfl (fun d=>?_) (fun b=>Jt9 (by show [dB false]=_;simp[b]));refine JtL (Jbo p x.done hx.2.2.2) rfl rfl rfl ?_;refine Jua (JX p.n x.done) rfl (fun f=>?_) (fun b=>Jt9 (by show [dB false]=_;simp[b]));refine JtL (VO x false true false true) rfl rfl rfl (Jt9 ?_);rw[b,c,d,f];rfl
theorem Jnt (p:Pln) (x:Msg) (hp:JN p) (h1:1≤p.n) (h2:p.n≤4) (hx:Qd x):Ev L f_k5h (p.cells++x.cells) [dB (Jw p x)]:=by
 refine Jud (vs:=[.i p.n,.l (Je p.acts),.l (dL p.gives),.l (dL p.start),.i x.kind,.i x.to,.i x.frm,.i x.round,.i x.call.client,.i x.call.seq,.i x.call.act,.l (dL x.call.args),.l (dL x.vals),.l (dL x.seqs),.l (dDs x.done)]) L_k5h rfl ?_;have ev:decide (((dL x.vals).length:Int)=0)=em x.vals.length:=Y0 _ (dL1 _);have es:decide (((dL x.seqs).length:Int)=0)=em x.seqs.length:=Y0 _ (dL1 _);have ed:decide (((dDs x.done).length:Int)=0)=em x.done.length:=Y0 _ (Qv _);refine JtL (Jnk x.call) rfl rfl rfl ?_;refine JtL (X8 x.round 0 200) rfl rfl rfl ?_;have z0:x.round=0→inB x.round 0 200=true:=fun h=>by rw[h];rfl
 refine Jt2 (x.kind=1) rfl (fun k1=>?_) (fun k1=>?_)
 ·have e:Jw p x=(inB x.round 0 200&&(decide (x.to = -1)&&(decide (x.frm=0)&&(decide (x.round=0)&&(Jq p x.call&&(em x.vals.length&&(em x.seqs.length&&em x.done.length))))))):=by
   unfold Jw;rw[if_pos k1];simp only[XM,Bool.true_or,Bool.false_or,JuC]
  rw[e];refine JtL (Jm2 p x.call hp h1 h2 hx.1) rfl rfl rfl ?_;refine Jua (decide (x.to = -1)) rfl (fun b=>?_) (fun b=>Jt9 (by show [dB false]=_;simp[b]));refine Jua (decide (x.frm=0)) rfl (fun c=>?_) (fun b=>Jt9 (by show [dB false]=_;simp[b]));refine Jua (Jq p x.call) rfl (fun f=>?_) (fun b=>Jt9 (by show [dB false]=_;simp[b]));refine Jt2 (x.round=0) rfl (fun d=>?_) (fun b=>Jt9 (by show [dB false]=_;simp[b]));refine Jua (em x.vals.length) ev (fun g=>?_) (fun b=>Jt9 (by show [dB false]=_;simp[b]));refine Jua (em x.seqs.length) es (fun h=>Jt9 ?_) (fun b=>Jt9 (by show [dB false]=_;simp[b]));show [dB (decide (((dDs x.done).length:Int)=0))]=_;rw[ed,z0 d,b,c,f,g,h,decide_eq_true d];rfl
 refine Jt2 (x.kind=2) rfl (fun k2=>?_) (fun k2=>?_)
 ·have e:Jw p x=(inB x.round 0 200&&(QS p x.to&&(decide (x.frm=0)&&(Xj x.call&&(em x.vals.length&&(em x.seqs.length&&em x.done.length)))))):=by
   unfold Jw;rw[if_neg k1,if_pos k2];simp only[XM,Bool.true_or,Bool.false_or,JuC]
  rw[e];refine JtL (VZ p x.to hp) rfl rfl rfl ?_;refine Jua (QS p x.to) rfl (fun b=>?_) (fun b=>Jt9 (by show [dB false]=_;simp[b]));refine Jua (decide (x.frm=0)) rfl (fun c=>?_) (fun b=>Jt9 (by show [dB false]=_;simp[b]));refine Jua (Xj x.call) rfl (fun d=>?_) (fun b=>Jt9 (by show [dB false]=_;simp[b]));refine Jua (inB x.round 0 200) rfl (fun a=>?_) (fun b=>Jt9 (by show [dB false]=_;simp[b]));refine Jua (em x.vals.length) ev (fun g=>?_) (fun b=>Jt9 (by show [dB false]=_;simp[b]));refine Jua (em x.seqs.length) es (fun h=>Jt9 ?_) (fun b=>Jt9 (by show [dB false]=_;simp[b]));show [dB (decide (((dDs x.done).length:Int)=0))]=_;rw[ed,a,b,c,d,g,h];rfl
 refine Jt2 (x.kind=3) rfl (fun k3=>?_) (fun k3=>?_)
 ·have e:Jw p x=(inB x.round 0 200&&(decide (x.to = -1)&&(QS p x.frm&&(Qw x.vals&&(Xm p.n x.seqs&&(Xj x.call&&em x.done.length)))))):=by
   unfold Jw;rw[if_neg k1,if_neg k2,if_pos k3];simp only[XM,Bool.true_or,Bool.false_or,JuC];rfl
  rw[e];refine JtL (VZ p x.frm hp) rfl rfl rfl ?_;refine JtL (JcW x.vals hx.2.1) rfl rfl rfl ?_;refine JtL (JmE p x.seqs hx.2.2.1) rfl rfl rfl ?_;refine Jua (decide (x.to = -1)) rfl (fun b=>?_) (fun b=>Jt9 (by show [dB false]=_;simp[b]));refine Jua (QS p x.frm) rfl (fun c=>?_) (fun b=>Jt9 (by show [dB false]=_;simp[b]));refine Jua (Xj x.call) rfl (fun d=>?_) (fun b=>Jt9 (by show [dB false]=_;simp[b]));refine Jua (inB x.round 0 200) rfl (fun a=>?_) (fun b=>Jt9 (by show [dB false]=_;simp[b]));refine Jua (Qw x.vals) rfl (fun g=>?_) (fun b=>Jt9 (by show [dB false]=_;simp[b]));refine Jua (Xm p.n x.seqs) rfl (fun h=>Jt9 ?_) (fun b=>Jt9 (by show [dB false]=_;simp[b]));show [dB (decide (((dDs x.done).length:Int)=0))]=_;rw[ed,a,b,c,d,g,h];rfl
 refine Jt2 (x.kind=4) rfl (fun k4=>?_) (fun k4=>Jt9 (by show [dB false]=_;simp[Jw,k1,k2,k3,k4]));have e:Jw p x=(inB x.round 0 200&&(QS p x.to&&(decide (x.frm=0)&&(JU x.vals&&(JX p.n x.done&&(Xj x.call&&em x.seqs.length)))))):=by
  unfold Jw;rw[if_neg k1,if_neg k2,if_neg k3,if_pos k4];simp only[XM,Bool.true_or,Bool.false_or,JuC,Bool.and_true]
 rw[e];refine JtL (VZ p x.to hp) rfl rfl rfl ?_;refine JtL (Jc0 x.vals hx.2.1) rfl rfl rfl ?_;refine JtL (JfD p x.done hx.2.2.2) rfl rfl rfl ?_;refine Jua (QS p x.to) rfl (fun b=>?_) (fun b=>Jt9 (by show [dB false]=_;simp[b]));refine Jua (decide (x.frm=0)) rfl (fun c=>?_) (fun b=>Jt9 (by show [dB false]=_;simp[b]));refine Jua (Xj x.call) rfl (fun d=>?_) (fun b=>Jt9 (by show [dB false]=_;simp[b]));refine Jua (inB x.round 0 200) rfl (fun a=>?_) (fun b=>Jt9 (by show [dB false]=_;simp[b]));refine Jua (JU x.vals) rfl (fun g=>?_) (fun b=>Jt9 (by show [dB false]=_;simp[b]));refine Jua (em x.seqs.length) es (fun h=>Jt9 ?_) (fun b=>Jt9 (by show [dB false]=_;simp[b]));show [dB (JX p.n x.done)]=_;rw[a,b,c,d,g,h];simp
def Yu (p:Pln) (x:Msg):Bool:=JC p&&Jw p x
theorem JfW (p:Pln) (x:Msg) (hp:JN p) (hx:Qd x):Ev L f_k5q (p.cells++x.cells) [dB (Yu p x)]:=by
 refine Jud (vs:=[.i p.n,.l (Je p.acts),.l (dL p.gives),.l (dL p.start),.i x.kind,.i x.to,.i x.frm,.i x.round,.i x.call.client,.i x.call.seq,.i x.call.act,.l (dL x.call.args),.l (dL x.vals),.l (dL x.seqs),.l (dDs x.done)]) L_k5q rfl ?_;refine JtL (ZL p hp) rfl rfl rfl ?_;refine Jua (JC p) rfl (fun a=>?_) (fun a=>Jt9 (by show [dB false]=_;simp[Yu,a]));obtain⟨n1,n2,_⟩:=J1 a;exact JtL (Jlg p x hp n1 n2 hx) rfl rfl rfl (Jt9 (by show [dB (Jw p x)]=_;simp[Yu,a]))
theorem JfR (p:Pln) (x:Msg) (hp:JN p) (hx:Qd x):Ev L f_k5i (p.cells++x.cells) [dB (Yu p x)]:=by
 refine Jud (vs:=[.i p.n,.l (Je p.acts),.l (dL p.gives),.l (dL p.start),.i x.kind,.i x.to,.i x.frm,.i x.round,.i x.call.client,.i x.call.seq,.i x.call.act,.l (dL x.call.args),.l (dL x.vals),.l (dL x.seqs),.l (dDs x.done)]) L_k5i rfl ?_;refine JtL (JfK p hp) rfl rfl rfl ?_;refine Jua (JC p) rfl (fun a=>?_) (fun a=>Jt9 (by show [dB false]=_;simp[Yu,a]));obtain⟨n1,n2,_⟩:=J1 a;exact JtL (Jnt p x hp n1 n2 hx) rfl rfl rfl (Jt9 (by show [dB (Jw p x)]=_;simp[Yu,a]))
/- The program's SitOk and SitFree answer as the reference's: over residual programs. -/
theorem XH {p:Pln} (h:JC p=true):Qs p.acts=true:=by
 simp only[JC,Jui] at h;exact h.2.1
def Xz (p:Pln) (b:List Int) (k:Int) (a:List Int):Bool:=keeps b p.gives (Jb p.acts) k a&&Qe (Jj p.acts) a
def J2 (p:Pln) (s:Sit) (k:Int):Bool:=inB s.round 0 200&&(JU s.base&&(Xz p s.base k s.added&&JX p.n s.done))
def Xp (p:Pln) (s:Sit) (k:Int):Bool:=JC p&&(QS p k&&J2 p s k)
theorem JbN (p:Pln) (s:Sit):Ev L f_k1e (p.cells++s.cells) [.s (dL s.base),.s (dL p.gives)] :=
 Jud (vs:=[.i p.n,.l (Je p.acts),.l (dL p.gives),.l (dL p.start),.b s.up,.b s.frozen,.i s.round,.l (dL s.base),.l (dL s.added),.l (dDs s.done)]) L_k1e rfl (Jt9 rfl)
theorem Jk9 (p:Pln) (s:Sit) (k:Int) (hp:JN p) (hs:Qa s) (hc:Qs p.acts=true) :
  Ev L f_k1k (p.cells++[.s (dLL (Jb p.acts)),.s (dBl (Jj p.acts))]++s.cells++[dI k]) [dB (J2 p s k)]:=by
 refine Jud (vs:=[.i p.n,.l (Je p.acts),.l (dL p.gives),.l (dL p.start),.l (dLL (Jb p.acts)),.l (dBl (Jj p.acts)),.b s.up,.b s.frozen,.i s.round,.l (dL s.base),.l (dL s.added),.l (dDs s.done),.i k]) L_k1k rfl ?_;have hps:fitLL (Jb p.acts):=(Xc p.acts).fitLL (by omega);refine JtL (JQ s.round 0 200) rfl rfl rfl ?_;refine Jua (inB s.round 0 200) rfl (fun a=>?_) (fun b=>Jt9 (by show [dB false]=_;simp[J2,b]));refine JtL (Y2 s.base hs.1) rfl rfl rfl ?_;refine Jua (JU s.base) rfl (fun d=>?_) (fun b=>Jt9 (by show [dB false]=_;simp[J2,b]));refine JtL (JbN p s) rfl rfl rfl ?_;refine JtL (Zw s.base p.gives (Jb p.acts) k s.added hs.1 hp.2.1 hps hs.2.1) rfl rfl rfl ?_;simp only[sC,sN];refine Jua (keeps s.base p.gives (Jb p.acts) k s.added) rfl (fun e=>?_) (fun b=>Jt9 (by show [dB false]=_;simp[J2,Xz,b]));refine JtL (WH (Jj p.acts) s.added (UX hc) (VR e)) rfl rfl rfl ?_;simp only[sC,sN];refine Jua (Qe (Jj p.acts) s.added) rfl (fun f=>?_) (fun b=>Jt9 (by show [dB false]=_;simp[J2,Xz,b]));refine JtL (Jbo p s.done ⟨hs.2.2.1,hs.2.2.2⟩) rfl rfl rfl (Jt9 ?_);show [dB (JX p.n s.done)]=_;simp[J2,Xz,a,d,e,f]
theorem JfH (p:Pln) (s:Sit) (k:Int) (hp:JN p) (hs:Qa s):Ev L f_k5p (p.cells++s.cells++[dI k]) [dB (Xp p s k)]:=by
 refine Jud (vs:=[.i p.n,.l (Je p.acts),.l (dL p.gives),.l (dL p.start),.b s.up,.b s.frozen,.i s.round,.l (dL s.base),.l (dL s.added),.l (dDs s.done),.i k]) L_k5p rfl ?_;refine JtL (ZL p hp) rfl rfl rfl ?_;refine JtI (JC p) rfl (fun b=>Jt9 (by show [dB false]=_;simp[Xp,b])) (fun a=>?_);refine JtL (Jay p k hp) rfl rfl rfl ?_;refine JtI (QS p k) rfl (fun b=>Jt9 (by show [dB false]=_;simp[Xp,b])) (fun d=>?_);have hc:=XH a;have e1:(UO p.acts).1=Jb p.acts:=by simp[Jb,hc]
 have e2:(UO p.acts).2=Jj p.acts:=by simp[Jj,hc]
 have eB:=Jfp p.acts hp.1 (X4 hc).2.1;rw[e1,e2] at eB;refine JtL eB rfl rfl rfl ?_;simp only[sC,sN];refine JtL (Jk9 p s k hp hs hc) rfl rfl rfl (Jt9 ?_);show [dB (J2 p s k)]=_;simp[Xp,a,d]
theorem Jm7 (p:Pln) (s:Sit) (k:Int) (hp:JN p) (hs:Qa s) (hc:Qs p.acts=true) :
  Ev L f_k59 (p.cells++[.s (Je p.acts),.s (dLL (Jb p.acts)),.s (dBl (Jj p.acts))]++s.cells++[dI k]) [dB (QS p k&&J2 p s k)]:=by
 refine Jud (vs:=[.i p.n,.l (Je p.acts),.l (dL p.gives),.l (dL p.start),.l (Je p.acts),.l (dLL (Jb p.acts)),.l (dBl (Jj p.acts)),.b s.up,.b s.frozen,.i s.round,.l (dL s.base),.l (dL s.added),.l (dDs s.done),.i k]) L_k59 rfl ?_;have hps:fitLL (Jb p.acts):=(Xc p.acts).fitLL (by omega);refine JtL (VZ p k hp) rfl rfl rfl ?_;refine Jua (QS p k) rfl (fun g=>?_) (fun b=>Jt9 (by show [dB false]=_;simp[J2,b]));refine JtL (X8 s.round 0 200) rfl rfl rfl ?_;refine Jua (inB s.round 0 200) rfl (fun a=>?_) (fun b=>Jt9 (by show [dB false]=_;simp[J2,b]));refine JtL (Jc0 s.base hs.1) rfl rfl rfl ?_;refine Jua (JU s.base) rfl (fun d=>?_) (fun b=>Jt9 (by show [dB false]=_;simp[J2,b]));refine JtL (Jet p s.base) rfl rfl rfl ?_;refine JtL (JmK p.acts (Jb p.acts) (Jj p.acts) s.base p.gives k s.added (UX hc) hs.1 hp.2.1 hps hs.2.1) rfl rfl rfl ?_;simp only[sC,sN];refine Jua (Xz p s.base k s.added) rfl (fun e=>?_) (fun b=>Jt9 (by show [dB false]=_;simp[J2,b]));refine JtL (JfD p s.done ⟨hs.2.2.1,hs.2.2.2⟩) rfl rfl rfl (Jt9 ?_);show [dB (JX p.n s.done)]=_;simp[J2,g,a,d,e]
theorem JfP (p:Pln) (s:Sit) (k:Int) (hp:JN p) (hs:Qa s):Ev L f_k5a (p.cells++s.cells++[dI k]) [dB (Xp p s k)]:=by
 refine Jud (vs:=[.i p.n,.l (Je p.acts),.l (dL p.gives),.l (dL p.start),.b s.up,.b s.frozen,.i s.round,.l (dL s.base),.l (dL s.added),.l (dDs s.done),.i k]) L_k5a rfl ?_;refine JtL (JfK p hp) rfl rfl rfl ?_;refine Jua (JC p) rfl (fun a=>?_) (fun b=>Jt9 (by show [dB false]=_;simp[Xp,b]));have hc:=XH a;refine JtL (JkH p.acts hp.1) rfl rfl rfl ?_;simp only[sC,sN];refine JtL (Jm7 p s k hp hs hc) rfl rfl rfl (Jt9 ?_);show [dB (QS p k&&J2 p s k)]=_;simp[Xp,a]
/- The program's ClkOk and ClkReady answer as the reference's: over residual programs. -/
def emp (g:Got):Bool:=decide (g.added.length=0)&&decide (g.seqs.length=0)
def K5 (p:Pln) (b:List Int) (l:List Got) (j:Nat):Bool :=
 if(l.getD j X0).has then Xz p b j (l.getD j X0).added&&Xm p.n (l.getD j X0).seqs else emp (l.getD j X0)
def Wk (p:Pln) (l:List Cal) (j:Nat):Bool:=Jq p (l.getD j ⟨0,0,0,[]⟩)&&(decide (j=0)||decide ((l.getD (j-1) ⟨0,0,0,[]⟩).client<(l.getD j ⟨0,0,0,[]⟩).client))
def XW (l:List Got):Nat:=(l.filter fun g=>g.has).length
def Q4 (n:Nat) (f:Nat→Bool):Bool:=(List.range n).all f
theorem Ur (n:Nat) (f:Nat→Bool):Q4 (n+1) f=(Q4 n f&&f n):=by simp[Q4,List.range_succ]
theorem Zf {n:Nat} {f:Nat→Bool}:Q4 n f=true↔∀j,j<n→f j=true:=by simp[Q4]
theorem JaN {n i:Nat} {f:Nat→Bool} (h:i<n) (hf:f i=false):Q4 n f=false:=by
 cases e:Q4 n f with
 | false=>rfl
 | true=>rw[Zf.1 e i h] at hf;cases hf
def Zs (p:Pln) (c:Clk):Bool:=inB c.round 0 200&&(JU c.base&&(JX p.n c.done&&((decide (c.got.length=p.gives.length)&&Q4 c.got.length (K5 p c.base c.got)) &&
 (Q4 c.wants.length (Wk p c.wants)&&(c.up||(decide (c.wants.length=0)&&decide (XW c.got=0)))))))
def Jdq (p:Pln) (c:Clk):Bool:=JC p&&Zs p c
theorem Ul (l:List Got):(dGs l).length=l.length:=by simp[dGs]
theorem Yj (l:List Cal):(dCs l).length=l.length:=by simp[dCs]
theorem QM {α:Type} {l:List α} {i:Nat} {x d:α} (h:l[i]? = some x):l.getD i d=x:=by simp[Jul,h]
theorem JoS (p:Pln) (c:Clk) (hp:JN p) (hk:KH c) (hc:Qs p.acts=true) :
  Ev L f_k1p (p.cells++[.s (dLL (Jb p.acts)),.s (dBl (Jj p.acts))]++c.cells) [dB (decide (c.got.length=p.gives.length)&&Q4 c.got.length (K5 p c.base c.got))]:=by
 refine Jud (vs:=[.i p.n,.l (Je p.acts),.l (dL p.gives),.l (dL p.start),.l (dLL (Jb p.acts)),.l (dBl (Jj p.acts)),.b c.up,.i c.round,.l (dL c.base),.l (dDs c.done),.l (dCs c.wants),.l (dGs c.got)]) L_k1p rfl ?_;have hps:fitLL (Jb p.acts):=(Xc p.acts).fitLL (by omega);have hgl:=hk.g;refine JtI (decide (c.got.length=p.gives.length)) ?_ (fun b=>Jt9 (by show [dB false]=_;simp only[b,Bool.false_and])) (fun a=>?_)
 ·show (!decide (((dGs c.got).length:Int)=((dL p.gives).length:Int)))=_;rw[Ul,dL1];simp[Int.ofNat_inj]
 rw[a,JuC];refine Jt5 c.got.length (fun i=>[.i i]) (fun i=>Q4 i (K5 p c.base c.got)=true) rfl rfl rfl fun i hi hq=>?_;simp only[sC,sN];refine JtN i (Ul c.got) rfl (fun h'=>?_) (fun h'=>JtX (Jt9 ?_))
 ·obtain⟨x,hx,hm⟩:=sA1 h';have hxf:=hk.gt x hm;have hD:=QM (d:=X0) hx;have hgs:K5 p c.base c.got i=if x.has then Xz p c.base i x.added&&Xm p.n x.seqs else emp x:=by unfold K5;rw[hD]
  have bad:K5 p c.base c.got i=false→[dB false]=[dB (Q4 c.got.length (K5 p c.base c.got))]:=fun h=>by rw[JaN h' h]
  have good:K5 p c.base c.got i=true→Q4 (i+1) (K5 p c.base c.got)=true:=fun h=>by rw[Ur,hq,h];rfl
  have nx:[V.i (i64.wrap ((i:Int)+1))]=[V.i ((i+1:Nat):Int)]:=by rw[wS h' (by omega)]
  refine Jt3 (vs:=[.b x.has,.l (dL x.added),.l (dL x.seqs)]) i (mA1 (f:=Got.g) hx) rfl rfl rfl rfl ?_;simp only[sC,sN];refine JtI x.has rfl (fun hn=>?_) (fun hh=>?_)
  ·rw[hn] at hgs;have hw:i64.wrap (((dL x.added).length:Int)+((dL x.seqs).length:Int))=(x.added.length:Int)+x.seqs.length:=by rw[dL1,dL1];exact w64 (by omega) (by omega)
   refine Jt2 ((0:Int)<(x.added.length:Int)+x.seqs.length) (by show decide ((0:Int)<i64.wrap (((dL x.added).length:Int)+((dL x.seqs).length:Int)))=_;rw[hw]) (fun h0=>JtX (Jt9 (bad ?_))) (fun h0=>?_)
   ·rw[hgs];simp only[Juy,if_false,emp,Bool.and_eq_false_iff,decide_eq_false_iff_not];omega
   refine JtG (by show x.has=false;exact hn) (JtH nx ⟨h',rfl,good ?_⟩);rw[hgs];simp only[Juy,if_false,emp,Jui,decide_eq_true_eq];omega
  ·rw[hh] at hgs;simp only[if_true] at hgs;refine Jt1 (by show x.has=true;exact hh) ?_;refine JtL (Zw c.base p.gives (Jb p.acts) i x.added hk.b hp.2.1 hps hxf.1) rfl rfl rfl ?_;simp only[sC,sN];refine JtI (keeps c.base p.gives (Jb p.acts) i x.added) rfl (fun e=>JtX (Jt9 (bad (by rw[hgs,Xz,e];rfl)))) (fun e=>?_);refine JtL (WH (Jj p.acts) x.added (UX hc) (VR e)) rfl rfl rfl ?_;simp only[sC,sN];refine JtI (Qe (Jj p.acts) x.added) rfl (fun f=>JtX (Jt9 (bad (by rw[hgs,Xz,e,f];rfl)))) (fun f=>?_);refine JtL (JfE p x.seqs hxf.2) rfl rfl rfl ?_;simp only[sC,sN];exact JtI (Xm p.n x.seqs) rfl (fun g=>JtX (Jt9 (bad (by rw[hgs,g,Bool.and_false])))) (fun g=>JtH nx ⟨h',rfl,good (by rw[hgs,Xz,e,f,g];rfl)⟩)
 ·show [dB true]=_;rw[show i=c.got.length by omega] at hq;rw[hq]
theorem Jmg {l:List Got} {i:Nat} {x:Got} (h:l[i]? = some x):XW (l.take (i+1))=XW (l.take i)+(if x.has then 1 else 0):=by
 unfold XW;rw[tS1 h,List.filter_append,Juo];cases hx:x.has <;> simp[hx]
theorem Jlo (l:List Got):XW l≤l.length:=List.length_filter_le _ _
theorem JeC (c:Clk) (hk:c.got.length≤2000000):Ev L f_k1q c.cells [dI (XW c.got)]:=by
 refine Jud (vs:=[.b c.up,.i c.round,.l (dL c.base),.l (dDs c.done),.l (dCs c.wants),.l (dGs c.got)]) L_k1q rfl ?_;refine Jt5 c.got.length (fun i=>[.i (XW (c.got.take i)),.i i]) (fun _=>True) rfl rfl trivial fun i hi _=>?_;simp only[sC,sN];refine JtN i (Ul c.got) rfl (fun h'=>?_) (fun h'=>JtX (Jt9 ?_))
 ·obtain⟨x,hx,hm⟩:=sA1 h';have hs:=Jmg hx;have hle:=Jlo (c.got.take i);rw[Jux] at hle;refine Jt3 (vs:=[.b x.has,.l (dL x.added),.l (dL x.seqs)]) i (mA1 (f:=Got.g) hx) rfl rfl rfl rfl ?_;simp only[sC,sN];refine Jua x.has rfl (fun hh=>?_) (fun hh=>?_)
  ·refine JtH (vs:=[.i ((XW (c.got.take (i+1)):Nat):Int),.i ((i+1:Nat):Int)]) ?_ ⟨h',rfl,trivial⟩;show [V.i (i64.wrap ((XW (c.got.take i):Int)+1)),V.i (i64.wrap ((i:Int)+1))]=_;rw[wS h' (by omega),w64 (by omega) (by omega),hs,hh];rfl
  ·refine JtH (vs:=[.i ((XW (c.got.take (i+1)):Nat):Int),.i ((i+1:Nat):Int)]) ?_ ⟨h',rfl,trivial⟩;show [V.i (XW (c.got.take i):Int),V.i (i64.wrap ((i:Int)+1))]=_;rw[wS h' (by omega),hs,hh];rfl
 ·show [dI (XW (c.got.take i))]=_;rw[tA1 h']
theorem JdN {p:Pln} {l:List Cal} {i:Nat} {x:Cal} (h:l[i]? = some x):Wk p l i=(Jq p x&&(decide (i=0)||decide ((l.getD (i-1) ⟨0,0,0,[]⟩).client<x.client))):=by
 unfold Wk;rw[QM h]
theorem Jps (p:Pln) (c:Clk) (hp:JN p) (hk:KH c) (h1:1≤p.n) (h2:p.n≤4) (hc:Qs p.acts=true) :
  Ev L f_k1r (p.cells++[.s (dLL (Jb p.acts)),.s (dBl (Jj p.acts))]++c.cells) [dB (Zs p c)]:=by
 refine Jud (vs:=[.i p.n,.l (Je p.acts),.l (dL p.gives),.l (dL p.start),.l (dLL (Jb p.acts)),.l (dBl (Jj p.acts)),.b c.up,.i c.round,.l (dL c.base),.l (dDs c.done),.l (dCs c.wants),.l (dGs c.got)]) L_k1r rfl ?_;have hwl:=hk.c;refine JtL (JQ c.round 0 200) rfl rfl rfl ?_;refine JtI (inB c.round 0 200) rfl (fun b=>Jt9 (by show [dB false]=_;simp only[Zs,b,Bool.false_and,Bool.and_false])) (fun a1=>?_);refine JtL (Y2 c.base hk.b) rfl rfl rfl ?_;refine JtI (JU c.base) rfl (fun b=>Jt9 (by show [dB false]=_;simp only[Zs,b,Bool.false_and,Bool.and_false])) (fun a2=>?_);refine JtL (Jbo p c.done ⟨hk.d,hk.dt⟩) rfl rfl rfl ?_;refine JtI (JX p.n c.done) rfl (fun b=>Jt9 (by show [dB false]=_;simp only[Zs,b,Bool.false_and,Bool.and_false])) (fun a3=>?_);refine JtL (JoS p c hp hk hc) rfl rfl rfl ?_;refine JtI (decide (c.got.length=p.gives.length)&&Q4 c.got.length (K5 p c.base c.got)) rfl (fun b=>Jt9 (by show [dB false]=_;simp only[Zs,b,Bool.false_and,Bool.and_false])) (fun a4=>?_);have e:Zs p c=(Q4 c.wants.length (Wk p c.wants)&&(c.up||(decide (c.wants.length=0)&&decide (XW c.got=0)))):=by
  unfold Zs;rw[a1,a2,a3,a4];simp only[JuC]
 rw[e];simp only[sC,sN];refine Jt5 c.wants.length (fun i=>[.i i]) (fun i=>Q4 i (Wk p c.wants)=true) rfl rfl rfl fun i hi hq=>?_;simp only[sC,sN];refine JtN i (Yj c.wants) rfl (fun h'=>?_) (fun h'=>JtX ?_)
 ·obtain⟨x,hx,hm⟩:=sA1 h';have hwi:=JdN (p:=p) hx;have bad:Wk p c.wants i=false→[dB false]=[dB (Q4 c.wants.length (Wk p c.wants)&&(c.up||(decide (c.wants.length=0)&&decide (XW c.got=0))))]:=fun h=>by rw[JaN h' h];rfl
  have good:Wk p c.wants i=true→Q4 (i+1) (Wk p c.wants)=true:=fun h=>by rw[Ur,hq,h];rfl
  have nx:[V.i (i64.wrap ((i:Int)+1))]=[V.i ((i+1:Nat):Int)]:=by rw[wS h' (by omega)]
  refine Jt3 (vs:=[.i x.client,.i x.seq,.i x.act,.l (dL x.args)]) i (mA1 (f:=Cal.g) hx) rfl rfl rfl rfl ?_;simp only[sC,sN];refine JtL (ZG p x hp h1 h2 (hk.ct x hm)) rfl rfl rfl ?_;simp only[sC,sN];refine JtI (Jq p x) rfl (fun b=>JtX (Jt9 (bad (by rw[hwi,b];rfl)))) (fun b=>?_);rw[b,JuC] at hwi;refine Jt2 ((0:Int)<(i:Int)) rfl (fun h0=>?_) (fun h0=>JtH nx ⟨h',rfl,good (by rw[hwi,decide_eq_true (show i=0 by omega)];rfl)⟩);obtain⟨y,hy,_⟩:=sA1 (show i-1<c.wants.length by omega);rw[QM hy,decide_eq_false (show ¬i=0 by omega),Bool.false_or] at hwi;refine Jt3 (vs:=[.i y.client,.i y.seq,.i y.act,.l (dL y.args)]) (i-1) (mA1 (f:=Cal.g) hy) rfl rfl ?_ rfl ?_
  ·show i64.wrap ((i:Int)-1)=((i-1:Nat):Int);rw[w64 (by omega) (by omega)];omega
  refine Jt3 (vs:=[.i x.client,.i x.seq,.i x.act,.l (dL x.args)]) i (mA1 (f:=Cal.g) hx) rfl rfl rfl rfl ?_;simp only[sC,sN];exact Jt2 (x.client≤y.client) rfl (fun g=>JtX (Jt9 (bad (by rw[hwi];exact decide_eq_false (by omega))))) (fun g=>JtH nx ⟨h',rfl,good (by rw[hwi];exact decide_eq_true (by omega))⟩)
 ·rw[show i=c.wants.length by omega] at hq;rw[hq,JuC];refine Jua c.up rfl (fun u=>Jt9 (by show [dB true]=_;rw[u];rfl)) (fun u=>?_);rw[show (c.up||(decide (c.wants.length=0)&&decide (XW c.got=0)))=(decide (c.wants.length=0)&&decide (XW c.got=0)) by rw[u,Bool.false_or]];refine Jua (decide (c.wants.length=0)) (by show decide (((dCs c.wants).length:Int)=0)=_;exact Y0 _ (Yj _)) (fun w=>?_) (fun w=>Jt9 (by show [dB false]=_;rw[w];rfl));refine JtL (JeC c hk.g) rfl rfl rfl (Jt9 ?_);show [dB (decide ((XW c.got:Int)=0))]=_;rw[w,Y0 _ rfl];rfl
def Jho (p:Pln) (c:Clk):Bool:=Jdq p c&&decide (XW c.got=p.gives.length)
theorem Jn0 (l:List Got):(l.all fun g=>g.has)=decide (XW l=l.length):=by
 rw[Bool.eq_iff_iff,decide_eq_true_eq];unfold XW;rw[List.length_filter_eq_length_iff];simp
/- The program's SitFall answers as the reference's: over residual programs. -/
theorem Qf (c:Int) (l:List Int) (hl:l.length≤2000000):Ev L f_k1t [dI c,.s (dL l)] [dI c,.s (dL l)]:=by
 refine Jud (vs:=[.i c,.l (dL l)]) L_k1t rfl ?_;refine JtM (dL l) 2000000 (by rw[dL1];omega) (by omega) rfl ?_;refine JtS (JR l) ?_;exact JtM (dL l) 2000000 (by rw[dL1];omega) (by omega) rfl (Jt9 rfl)
theorem Yh (l:List Don) (hl:Wa Yr l):Ev L f_k1u [.s (dDs l)] [.s (dDs l)]:=by
 refine Jud (vs:=[.l (dDs l)]) L_k1u rfl ?_;have hl0:=hl.1;refine Jt5 l.length (fun i=>[.l (dDs (l.take i)),.i i]) (fun _=>True) rfl rfl trivial fun i hi _=>?_;simp only[sC,sN];refine JtN i (Qv l) rfl (fun h=>?_) (fun h=>JtX (Jt9 ?_))
 ·obtain⟨x,hx,hm⟩:=sA1 h;have hg:(dDs l)[i]? = some x.g:=mA1 (f:=Don.g) hx;refine Jt3 (vs:=[.i x.seq,.i x.code,.l (dL x.tells)]) i hg rfl rfl rfl rfl ?_;refine Jt3 (vs:=[.i x.seq,.i x.code,.l (dL x.tells)]) i hg rfl rfl rfl rfl ?_;refine JtL (vs:=[.i x.code,.l (dL x.tells)]) (Qf x.code x.tells (hl.2 x hm)) rfl rfl rfl ?_;simp only[sC,sN];refine Juc (dDs (l.take i)) 2000000 (by rw[Qv,Jux];omega) (by omega) rfl ?_;refine JtH (vs:=[.l (dDs (l.take (i+1))),.i ((i+1:Nat):Int)]) ?_ ⟨h,rfl,trivial⟩;show [V.l (dDs (l.take i)++[x.g]),V.i (i64.wrap ((i:Int)+1))]=_;rw[wS h (by omega),tS1 hx];simp only[dDs,List.map_append,Juq,List.map_nil]
 ·show [D.s (dDs (l.take i))]=_;rw[tA1 h]
theorem V9 (s:Sit) (hs:Qa s):Ev L f_k1x s.cells s.cells:=by
 refine Jud (vs:=[.b s.up,.b s.frozen,.i s.round,.l (dL s.base),.l (dL s.added),.l (dDs s.done)]) L_k1x rfl ?_;have h1:=hs.1;have h2:=hs.2.1;refine JtM (dL s.base) 2000000 (by rw[dL1];omega) (by omega) rfl ?_;refine JtS (JR s.base) ?_;refine JtM (dL s.base) 2000000 (by rw[dL1];omega) (by omega) rfl ?_;refine JtM (dL s.added) 2000000 (by rw[dL1];omega) (by omega) rfl ?_;refine JtS (JR s.added) ?_;refine JtM (dL s.added) 2000000 (by rw[dL1];omega) (by omega) rfl ?_;exact JtL (vs:=[.l (dDs s.done)]) (Yh s.done ⟨hs.2.2.1,hs.2.2.2⟩) rfl rfl rfl (Jt9 rfl)
theorem Jag (c:Int) (l:List Int) (hl:l.length≤2000000):Ev L f_k5j [dI c,.s (dL l)] [dI c,.s (dL l)] :=
 Jud (vs:=[.i c,.l (dL l)]) L_k5j rfl (JtL (vs:=[.l (dL l)]) (YC l hl) rfl rfl rfl (Jt9 rfl))
theorem Jpa (l:List Don) (hl:Wa Yr l):Ev L f_k5k [.s (dDs l)] [.s (dDs l)]:=by
 refine Jud (vs:=[.l (dDs l)]) L_k5k rfl ?_;have hl0:=hl.1;refine Jt5 l.length (fun i=>[.l (dDs (l.take i)),.i i]) (fun _=>True) rfl rfl trivial fun i hi _=>?_;simp only[sC,sN];refine JtN i (Qv l) rfl (fun h=>?_) (fun h=>JtX (Jt9 ?_))
 ·obtain⟨x,hx,hm⟩:=sA1 h;have hg:(dDs l)[i]? = some x.g:=mA1 (f:=Don.g) hx;refine Jt3 (vs:=[.i x.seq,.i x.code,.l (dL x.tells)]) i hg rfl rfl rfl rfl ?_;refine JtL (vs:=[.i x.code,.l (dL x.tells)]) (Jag x.code x.tells (hl.2 x hm)) rfl rfl rfl ?_;simp only[sC,sN];refine Jt6 (Ub dI (fun _=>rfl) x.tells) ?_;refine Juc (dDs (l.take i)) 2000000 (by rw[Qv,Jux];omega) (by omega) rfl ?_;refine JtH (vs:=[.l (dDs (l.take (i+1))),.i ((i+1:Nat):Int)]) ?_ ⟨h,rfl,trivial⟩;show [V.l (dDs (l.take i)++[x.g]),V.i (i64.wrap ((i:Int)+1))]=_;rw[wS h (by omega),tS1 hx];simp only[dDs,List.map_append,Juq,List.map_nil]
 ·show [D.s (dDs (l.take i))]=_;rw[tA1 h]
theorem Ja0 (s:Sit) (hs:Qa s):Ev L f_k5l s.cells s.cells:=by
 refine Jud (vs:=[.b s.up,.b s.frozen,.i s.round,.l (dL s.base),.l (dL s.added),.l (dDs s.done)]) L_k5l rfl ?_;refine JtL (vs:=[.l (dL s.base)]) (YC s.base hs.1) rfl rfl rfl ?_;refine JtL (vs:=[.l (dL s.added)]) (YC s.added hs.2.1) rfl rfl rfl ?_;exact JtL (vs:=[.l (dDs s.done)]) (Jpa s.done ⟨hs.2.2.1,hs.2.2.2⟩) rfl rfl rfl (Jt9 rfl)
def YN (p:Pln) (s:Sit) (k:Int) (up:Bool):Sit:=if Xp p s k then ⟨up,s.frozen,s.round,s.base,s.added,s.done⟩ else ⟨false,false,0,[],[],[]⟩
theorem Jb1 (p:Pln) (s:Sit) (k:Int) (u:Bool) (hp:JN p) (hs:Qa s):Ev L f_k60 (p.cells++s.cells++[dI k,dB u]) (YN p s k u).cells:=by
 refine Jud (vs:=[.i p.n,.l (Je p.acts),.l (dL p.gives),.l (dL p.start),.b s.up,.b s.frozen,.i s.round,.l (dL s.base),.l (dL s.added),.l (dDs s.done),.i k,.b u]) L_k60 rfl ?_;refine JtL (JfP p s k hp hs) rfl rfl rfl ?_;refine JtI (Xp p s k) rfl (fun h=>Jt9 ?_) (fun h=>?_)
 ·show _=(YN p s k u).cells;unfold YN;rw[if_neg (by simp[h])];rfl
 refine JtL (vs:=[.b s.up,.b s.frozen,.i s.round,.l (dL s.base),.l (dL s.added),.l (dDs s.done)]) (Ja0 s hs) rfl rfl rfl (Jt9 ?_);show _=(YN p s k u).cells;unfold YN;rw[if_pos h];rfl
theorem Jh8 (p:Pln) {s:Sit} (k:Int) (u:Bool) (hs:Qa s):Qa (YN p s k u):=by
 unfold YN;split
 ·exact hs
 ·exact⟨by simp,by simp,by simp,fun d hd=>by simp at hd⟩
end Go.Proofs.YtofcmnglieaoeaaGreatDoor

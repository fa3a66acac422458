import Derived.Test.YtofcmnglieaoeabGreatDoorPZR
set_option linter.unusedVariables false
set_option linter.unusedSimpArgs false
/- Results,calls,what was done,messages: which of them are ok. -/
namespace Go.Proofs.YtofcmnglieaoeabGreatDoor
open Go Go.Tm
open Go.IntKind (i64)
theorem Jiw (n:Int) (h0 : -999999999999≤n) (h1:n≤999999999999):Ev L f_k1a [dI n] [Q2 (Lib.itoa n)]:=by
 refine Juz L_k1a ?_;show (Jch (dI n)).map _=_;rw[show Jch (dI n)=some n by show (if _ then some n else none)=_;rw[if_pos (by omega)]];rfl
theorem JjQ {t:List Int} {i:Nat} {x:Int} (h:t[i]? = some x):Qv (t.take (i+1))=Qv (t.take i)++[32]++Lib.itoa x:=by
 unfold Qv;rw[tS1 h,List.flatMap_append];simp only[List.flatMap_cons,List.flatMap_nil,List.append_nil,List.append_assoc,List.singleton_append]
theorem JhM (c:Int) (t:List Int) (ht:t.length≤2000000):Ev L f_k1b [dI c,.s (dL t)] [Q2 (K1 c t)]:=by
 refine JuA (vs:=[.i c,.l (dL t)]) L_k1b rfl ?_;have no:JK c t=false→([Q2 []]:List D)=[Q2 (K1 c t)]:=fun h=>by simp[K1,h]
 refine Jur (JP c 1 3) rfl rfl rfl ?_;refine Jum (inB c 1 3) rfl (fun h=>Jue (no (by simp[JK,h]))) (fun h1=>?_);obtain⟨w1,_,w3⟩:=Jge h1;have hidx:(Qq.map Q2)[c.toNat]? = some (Q2 (Qq.getD c.toNat [])):=by rw[JuY,w1];rfl
 have hc0:0≤c:=by unfold inB at h1;simp only[JuD,decide_eq_true_eq] at h1;omega
 have hc4:c<4:=by unfold inB at h1;simp only[JuD,decide_eq_true_eq] at h1;omega
 have hal:=Xr t t.length 999999999999 ht (by omega) (by omega);have six:6<t.length→JK c t=false:=fun h=>by simp only[JK,show ¬t.length≤6 by omega,decide_false,Bool.false_and,Bool.and_false]
 have ok:t.length≤6→(c=1∨t=[])→JF t.length 999999999999 t=true→JK c t=true:=fun h2 h3 h4=>Yz.2 ⟨by unfold inB at h1;simp only[JuD,decide_eq_true_eq] at h1;omega,h2,h3,(Jp.1 h4).2⟩;refine Jum (decide (c=1)) rfl (fun h3=>?_) (fun h3=>?_)
 ·refine Jt8 (0<((dL t).length:Int)) rfl (fun h=>Jue (no ?_)) (fun h4=>?_)
  ·rw[dL1] at h;have:t.isEmpty=false:=by cases t with
    | nil=>simp at h
    | cons x t=>rfl
   simp only[JK,h3,this,Bool.or_false,Bool.false_and,Bool.and_false]
  rw[dL1] at h4;have h4:t=[]:=List.length_eq_zero_iff.1 (by omega);refine Jt8 (6<((dL t).length:Int)) rfl (fun h=>Jue (no (six (by rw[dL1] at h;omega)))) (fun h2=>?_);rw[dL1] at h2;refine Jur hal rfl (by show [D.s (dL t),dI ((dL t).length:Int),dI 999999999999]=_;rw[dL1]) rfl ?_;refine Jum (JF t.length 999999999999 t) rfl (fun h=>Jue (no (by simp only[JK,h,Bool.and_false]))) (fun h5=>?_);have hok:=ok (by omega) (.inr h4) h5;have hl:=(Jp.1 h5).2;have e:Q2 (K1 c t)=Q2 (Qq.getD c.toNat []++Qv t):=by simp only[K1,hok,if_true]
  rw[e];refine Juf (0≤c) rfl hc0 (Juf (c<4) rfl hc4 ?_);refine Jug (ds:=Qq.map Q2) c rfl rfl rfl hc0 hidx rfl ?_;subst h4;refine Jt6 (fun _ vs=>vs=[.d (Q2 (Qq.getD c.toNat [])),.i 0]) rfl 0 rfl ?_;rintro m _ rfl;refine Juq rfl (Juk (Jue ?_));show [Q2 (Qq.getD c.toNat [])]=[Q2 (Qq.getD c.toNat []++Qv [])];rw[show Qv []=[] from rfl,List.append_nil]
 ·refine Jt8 (6<((dL t).length:Int)) rfl (fun h=>Jue (no (six (by rw[dL1] at h;omega)))) (fun h2=>?_);rw[dL1] at h2;refine Jur hal rfl (by show [D.s (dL t),dI ((dL t).length:Int),dI 999999999999]=_;rw[dL1]) rfl ?_;refine Jum (JF t.length 999999999999 t) rfl (fun h=>Jue (no (by simp only[JK,h,Bool.and_false]))) (fun h5=>?_);have hok:=ok (by omega) (.inl (by simpa using h3)) h5;have hl:=(Jp.1 h5).2;have e:Q2 (K1 c t)=Q2 (Qq.getD c.toNat []++Qv t):=by simp only[K1,hok,if_true]
  rw[e];refine Juf (0≤c) rfl hc0 (Juf (c<4) rfl hc4 ?_);refine Jug (ds:=Qq.map Q2) c rfl rfl rfl hc0 hidx rfl ?_;generalize Qq.getD c.toNat []=wd at *;refine Jt3 t.length (fun i=>[.d (Q2 (wd++Qv (t.take i))),.i i]) (fun _=>True) rfl ?_ trivial fun i hi _=>?_
  ·show [V.d (Q2 wd),V.i 0]=_;rw[List.take_zero,show Qv []=[] from rfl,List.append_nil];rfl
  simp only[sC,sN];refine JtY i (dL1 t) rfl (fun h=>?_) (fun h=>Juk (Jue ?_))
  ·obtain⟨x,hx,hm⟩:=sA1 h;have hxb:=hl x hm;have hj:=Jdz (t.take i) fun m hm=>hl m (Ju1 hm);rw[JuS,Nat.min_eq_left (by omega)] at hj;have hxl:=Lib.itoa_length_le x (by omega) (by omega);refine Jul rfl (Jck (a:=wd++Qv (t.take i)) (b:=[32]) (by simp;omega)) rfl ?_;refine Juo i (mA1 (f:=dI) hx) rfl rfl rfl rfl ?_;refine Jur (Jiw x (by omega) (by omega)) rfl rfl rfl ?_;refine Jul rfl (Jck (a:=wd++Qv (t.take i)++[32]) (b:=Lib.itoa x) (by simp;omega)) rfl ?_;refine Jt4 (vs:=[.d (Q2 (wd++Qv (t.take (i+1)))),.i ((i+1:Nat):Int)]) ?_ ⟨h,rfl,trivial⟩;show [V.d (Q2 (wd++Qv (t.take i)++[32]++Lib.itoa x)),V.i (i64.wrap ((i:Int)+1))]=_;rw[wS h (by omega),JjQ hx];simp only[List.append_assoc]
  ·show [Q2 (wd++Qv (t.take i))]=_;rw[tA1 h]
theorem Jbx (c:Int) (t:List Int) (ht:t.length≤2000000):Ev L f_k1c [dI c,.s (dL t)] [dB (JK c t)]:=by
 refine JuA (vs:=[.i c,.l (dL t)]) L_k1c rfl ?_;refine Jur (JhM c t ht) rfl rfl rfl ?_;refine Jul rfl (JkR (K1 c t) []) rfl (Jue ?_);show [dB (!(K1 c t == []))]=_;rw[Jem,Bool.not_not]
def Jl (p:Pln) (c:Cal):Bool:=inB c.client 0 (p.n-1)&&(inB c.seq 1 300&&(inB c.act 0 ((p.acts.length:Int)-1)&&Q6 c.args))
theorem JdK {n:Nat} (h:n≤2000000):i64.wrap ((n:Int)-1)=(n:Int)-1:=w64 (by omega) (by omega)
theorem Qr (p:Pln) (c:Cal) (hp:JV p) (h1:1≤p.n) (h2:p.n≤4) (hc:YL c):Ev L f_k19 (p.cells++c.cells) [dB (Jl p c)]:=by
 refine JuA (vs:=[.i p.n,.l (Jc p.acts),.l (dL p.gives),.l (dL p.start),.i c.client,.i c.seq,.i c.act,.l (dL c.args)]) L_k19 rfl ?_;have w1:i64.wrap (p.n-1)=p.n-1:=w64 (by omega) (by omega);have w2:i64.wrap (((Jc p.acts).length:Int)-1)=(p.acts.length:Int)-1:=by rw[JN];exact JdK hp.1.1
 refine Jur (JP c.client 0 (p.n-1)) rfl (by show [dI c.client,dI 0,dI (i64.wrap (p.n-1))]=_;rw[w1]) rfl ?_;refine Jud (inB c.client 0 (p.n-1)) rfl (fun a=>?_) (fun a=>Jue (by show [dB false]=_;simp[Jl,a]));refine Jur (JP c.seq 1 300) rfl rfl rfl ?_;refine Jud (inB c.seq 1 300) rfl (fun b=>?_) (fun b=>Jue (by show [dB false]=_;simp[Jl,b]));refine Jur (JP c.act 0 ((p.acts.length:Int)-1)) rfl (by show [dI c.act,dI 0,dI (i64.wrap (((Jc p.acts).length:Int)-1))]=_;rw[w2]) rfl ?_;refine Jud (inB c.act 0 ((p.acts.length:Int)-1)) rfl (fun d=>?_) (fun d=>Jue (by show [dB false]=_;simp[Jl,d]));refine Jur (Jjr c.args hc) rfl rfl rfl (Jue ?_);show [dB (Q6 c.args)]=_;simp[Jl,a,b,d]
theorem Jh4 (p:Pln) (k:Int) (h1:1≤p.n) (h2:p.n≤4):Ev L f_k4v (p.cells++[dI k]) [dB (inB k 0 (p.n-1))]:=by
 refine JuA (vs:=[.i p.n,.l (Jc p.acts),.l (dL p.gives),.l (dL p.start),.i k]) L_k4v rfl ?_;have w1:i64.wrap (p.n-1)=p.n-1:=w64 (by omega) (by omega);exact Jur (Yy k 0 (p.n-1)) rfl (by show [dI k,dI 0,dI (i64.wrap (p.n-1))]=_;rw[w1]) rfl (Jue rfl)
theorem Jl6 (p:Pln) (c:Cal) (hp:JV p) (h1:1≤p.n) (h2:p.n≤4) (hc:YL c):Ev L f_k4x (p.cells++c.cells) [dB (Jl p c)]:=by
 refine JuA (vs:=[.i p.n,.l (Jc p.acts),.l (dL p.gives),.l (dL p.start),.i c.client,.i c.seq,.i c.act,.l (dL c.args)]) L_k4x rfl ?_;have w2:i64.wrap (((Jc p.acts).length:Int)-1)=(p.acts.length:Int)-1:=by rw[JN];exact JdK hp.1.1
 refine Jur (Jh4 p c.client h1 h2) rfl rfl rfl ?_;refine Jud (inB c.client 0 (p.n-1)) rfl (fun a=>?_) (fun a=>Jue (by show [dB false]=_;simp[Jl,a]));refine Jur (Yy c.act 0 ((p.acts.length:Int)-1)) rfl (by show [dI c.act,dI 0,dI (i64.wrap (((Jc p.acts).length:Int)-1))]=_;rw[w2]) rfl ?_;refine Jud (inB c.act 0 ((p.acts.length:Int)-1)) rfl (fun d=>?_) (fun d=>Jue (by show [dB false]=_;simp[Jl,d]));refine Jur (Yy c.seq 1 300) rfl rfl rfl ?_;refine Jud (inB c.seq 1 300) rfl (fun b=>?_) (fun b=>Jue (by show [dB false]=_;simp[Jl,b]));refine Jur (Jni c.args hc) rfl rfl rfl (Jue ?_);show [dB (Q6 c.args)]=_;simp[Jl,a,b,d]
theorem Ke (n:Nat) {m:Nat} (h:m=n):decide ((m:Int)=0)=decide (n=0):=by subst h;simp
def Zo (c:Cal):Bool:=decide (c.client=0)&&(decide (c.seq=0)&&(decide (c.act=0)&&decide (c.args.length=0)))
def Xj (d:Don):Bool:=if d.seq=0 then decide (d.code=0)&&decide (d.tells.length=0) else inB d.seq 1 300&&JK d.code d.tells
def J4 (n:Int) (l:List Don):Bool:=decide ((l.length:Int)=n)&&l.all Xj
def Q5 (n:Int) (l:List Int):Bool:=decide ((l.length:Int)=n)&&l.all fun x=>inB x 0 300
theorem Xn (l:List Don):(dDs l).length=l.length:=by simp[dDs]
theorem Jfe (p:Pln) (l:List Int) (hl:l.length≤2000000):Ev L f_k1n (p.cells++[.s (dL l)]) [dB (Q5 p.n l)]:=by
 refine JuA (vs:=[.i p.n,.l (Jc p.acts),.l (dL p.gives),.l (dL p.start),.l (dL l)]) L_k1n rfl ?_;refine Jum (decide ((l.length:Int)=p.n)) (by show (!decide (((dL l).length:Int)=p.n))=_;rw[dL1]) (fun h=>Jue (by show [dB false]=_;simp only[Q5,h,Bool.false_and])) (fun h=>?_);refine Jt3 l.length (fun i=>[.i i]) (fun i=>((l.take i).all fun x=>inB x 0 300)=true) rfl rfl rfl fun i hi hq=>?_;simp only[sC,sN];refine JtY i (dL1 l) rfl (fun h'=>?_) (fun h'=>Juk (Jue ?_))
 ·obtain⟨x,hx,_⟩:=sA1 h';refine Juo i (mA1 (f:=dI) hx) rfl rfl rfl rfl ?_;refine Jur (JP x 0 300) rfl rfl rfl ?_;refine Jum (inB x 0 300) rfl (fun b=>Juk (Jue ?_)) (fun b=>Jt4 (vs:=[.i ((i+1:Nat):Int)]) (by rw[←wS h' (by omega)];rfl) ⟨h',rfl,by show ((l.take (i+1)).all fun x=>inB x 0 300)=true;rw[tS1 hx,List.all_append,hq];simp[b]⟩);show [dB false]=_;have:(l.all fun x=>inB x 0 300)=false:=by rw[←List.take_append_drop i l,List.all_append,XF hx];simp[b]
  simp[Q5,this]
 ·show [dB true]=_;rw[tA1 h'] at hq;simp[Q5,h,hq]
theorem JbW {d:Don} (hs:inB d.seq 0 300=true):Xj d=if decide (d.seq=0)=decide (d.code=0) then(if d.seq=0 then decide (d.tells.length=0) else JK d.code d.tells) else false:=by
 unfold Xj
 by_cases h:d.seq=0
 ·rw[if_pos h,if_pos h]
  by_cases h2:d.code=0 <;> simp[h,h2]
 ·rw[if_neg h,if_neg h];have hin:inB d.seq 1 300=true:=by unfold inB at hs ⊢;simp only[JuD,decide_eq_true_eq] at hs ⊢;omega
  by_cases h2:d.code=0
  ·have:JK d.code d.tells=false:=by unfold JK inB;simp[h2]
   simp[h,h2,this,JK,inB]
  ·simp[h,h2,hin]
theorem JaZ (p:Pln) (l:List Don) (hl:Wd YX l):Ev L f_k1j (p.cells++[.s (dDs l)]) [dB (J4 p.n l)]:=by
 refine JuA (vs:=[.i p.n,.l (Jc p.acts),.l (dL p.gives),.l (dL p.start),.l (dDs l)]) L_k1j rfl ?_;have hl0:=hl.1;refine Jum (decide ((l.length:Int)=p.n)) (by show (!decide (((dDs l).length:Int)=p.n))=_;rw[Xn]) (fun h=>Jue (by show [dB false]=_;simp only[J4,h,Bool.false_and])) (fun h=>?_);refine Jt3 l.length (fun i=>[.i i]) (fun i=>((l.take i).all Xj)=true) rfl rfl rfl fun i hi hq=>?_;simp only[sC,sN];refine JtY i (Xn l) rfl (fun h'=>?_) (fun h'=>Juk (Jue ?_))
 ·obtain⟨x,hx,hm⟩:=sA1 h';have hg:(dDs l)[i]? = some x.g:=mA1 (f:=Don.g) hx;have bad:Xj x=false→[dB false]=[dB (J4 p.n l)]:=fun hb=>by
   have:l.all Xj=false:=by rw[←List.take_append_drop i l,List.all_append,XF hx];simp[hb]
   simp[J4,this]
  have good:Xj x=true→((l.take (i+1)).all Xj)=true:=fun hb=>by rw[tS1 hx,List.all_append,hq];simp[hb]
  have nx:[V.i (i64.wrap ((i:Int)+1))]=[V.i ((i+1:Nat):Int)]:=by rw[wS h' (by omega)]
  refine Juo (vs:=[.i x.seq,.i x.code,.l (dL x.tells)]) i hg rfl rfl rfl rfl ?_;refine Jur (JP x.seq 0 300) rfl rfl rfl ?_;simp only[sC,sN];refine Jum (inB x.seq 0 300) rfl (fun b=>Juk (Jue (bad ?_))) (fun b=>?_)
  ·unfold Xj;rw[if_neg (by intro e;rw[e] at b;simp[inB] at b)];have:inB x.seq 1 300=false:=by
    unfold inB at b ⊢;simp only[Bool.and_eq_false_iff,decide_eq_false_iff_not] at b ⊢;omega
   simp[this]
  have hc:=JbW b;refine Juo (vs:=[.i x.seq,.i x.code,.l (dL x.tells)]) i hg rfl rfl rfl rfl ?_;refine Juo (vs:=[.i x.seq,.i x.code,.l (dL x.tells)]) i hg rfl rfl rfl rfl ?_;simp only[sC,sN];refine Jum (decide (x.seq=0) == decide (x.code=0)) rfl (fun e=>Juk (Jue (bad ?_))) (fun e=>?_)
  ·rw[hc,if_neg (by simpa using e)]
  rw[if_pos (by simpa using e)] at hc;refine Juo (vs:=[.i x.seq,.i x.code,.l (dL x.tells)]) i hg rfl rfl rfl rfl ?_;simp only[sC,sN];refine Jt8 (x.seq=0) rfl (fun h0=>?_) (fun h0=>?_)
  ·rw[if_pos h0] at hc;refine Juo (vs:=[.i x.seq,.i x.code,.l (dL x.tells)]) i hg rfl rfl rfl rfl ?_;simp only[sC,sN];refine Jt8 (0<((dL x.tells).length:Int)) rfl (fun ht=>Juk (Jue (bad ?_))) (fun ht=>?_)
   ·rw[dL1] at ht;rw[hc];exact decide_eq_false (by omega)
   refine Juo (vs:=[.i x.seq,.i x.code,.l (dL x.tells)]) i hg rfl rfl rfl rfl ?_;simp only[sC,sN];refine Juq (by show decide ((0:Int)<x.seq)=false;rw[h0];rfl) ?_;exact Jt4 nx ⟨h',rfl,good (by rw[dL1] at ht;rw[hc];exact decide_eq_true (by omega))⟩
  ·rw[if_neg h0] at hc;have hpos:0<x.seq:=by unfold inB at b;simp only[JuD,decide_eq_true_eq] at b;omega
   refine Juo (vs:=[.i x.seq,.i x.code,.l (dL x.tells)]) i hg rfl rfl rfl rfl ?_;simp only[sC,sN];refine Jua (by show decide ((0:Int)<x.seq)=true;simpa using hpos) ?_;refine Juo (vs:=[.i x.seq,.i x.code,.l (dL x.tells)]) i hg rfl rfl rfl rfl ?_;refine Jur (Jbx x.code x.tells (hl.2 x hm)) rfl rfl rfl ?_;exact Jum (JK x.code x.tells) rfl (fun e=>Juk (Jue (bad (by rw[hc,e])))) (fun e=>Jt4 nx ⟨h',rfl,good (by rw[hc,e])⟩)
 ·show [dB true]=_;rw[tA1 h'] at hq;simp[J4,h,hq]
theorem Jih (x:Int):Ev L f_k58 [dI x] [dB (!inB x 0 300)] :=
 JuA (vs:=[.i x]) L_k58 rfl (Jur (Yy x 0 300) rfl rfl rfl (Jue rfl))
theorem JmU (p:Pln) (l:List Int) (hl:l.length≤2000000):Ev L f_k59 (p.cells++[.s (dL l)]) [dB (Q5 p.n l)]:=by
 refine JuA (vs:=[.i p.n,.l (Jc p.acts),.l (dL p.gives),.l (dL p.start),.l (dL l)]) L_k59 rfl ?_;refine Jt8 ((l.length:Int)=p.n) (by show decide (((dL l).length:Int)=p.n)=_;rw[dL1]) (fun h=>?_) (fun h=>Jue (by show [dB false]=_;simp[Q5,h]));refine Jur (VW (fun x=>!inB x 0 300) l (fn:=f_k58) (caps:=[]) hl rfl rfl fun x _=>Jih x) rfl rfl rfl (Jue ?_);show [dB (!(l.any fun x=>!inB x 0 300))]=_;rw[Ul];simp[Q5,h]
theorem JnO (d:Don) (hd:YX d):Ev L f_k4s d.cells [dB (Xj d)]:=by
 refine JuA (vs:=[.i d.seq,.i d.code,.l (dL d.tells)]) L_k4s rfl ?_;refine Jt8 (d.seq=0) rfl (fun h=>?_) (fun h=>?_)
 ·refine Jur (ds:=[dB (decide (d.code=0)&&decide (d.tells.length=0))]) (JuA (vs:=[.i d.code,.l (dL d.tells)]) L_k4n rfl ?_) rfl rfl rfl (Jue (by rw[Xj,if_pos h];rfl));refine Jt8 (d.code=0) rfl (fun a=>Jue ?_) (fun a=>Jue (by show [dB false]=_;simp[a]));show [dB (decide (((dL d.tells).length:Int)=0))]=_;rw[Ke d.tells.length (dL1 _)];simp[a]
 ·refine Jur (Yy d.seq 1 300) rfl rfl rfl ?_;refine Jud (inB d.seq 1 300) rfl (fun a=>?_) (fun a=>Jue (by show [dB false]=_;simp[Xj,h,a]));refine Jur (JmD d.code d.tells hd) rfl rfl rfl (Jue ?_);show [dB (JK d.code d.tells)]=_;simp[Xj,h,a]
theorem Jin (d:Don) (hd:YX d):Ev L f_k4t d.cells [dB (!Xj d)] :=
 JuA (vs:=[.i d.seq,.i d.code,.l (dL d.tells)]) L_k4t rfl (Jur (JnO d hd) rfl rfl rfl (Jue rfl))
theorem Jl8 (q:Don→Bool) (l:List Don) {fn:FuncId} {caps:List D} (hlen:l.length≤2000000) (hcap:XJ (.f fn caps) = .f fn caps) (har:arT L fn=some ([some 3]++caps.map fun _=>none))
  (hc :∀x∈l,Ev L fn (x.cells++caps.map D.norm) [dB (q x)]):Ev L f_k4m [.s (dDs l),.f fn caps] [dB (l.any q)] :=
 Zj (g := f_k4l) L_k4m rfl hcap
   (ZZ (sh:= .g [.i .i64,.i .i64,.s]) (as:=[(.vi .i64 (.v 3)),(.vi .i64 (.v 4)),(.s (.v 5))]) (ar:=[some 3]) (k:=6) Don.g q Don.cells (fun x=>[.i x.seq,.i x.code,.l (dL x.tells)]) l
     L_k4l rfl hlen hcap (fun _ _=>rfl) (fun _ _=>rfl) (fun _ _ _ _=>rfl) har hc)
theorem JmG (p:Pln) (l:List Don) (hl:Wd YX l):Ev L f_k4u (p.cells++[.s (dDs l)]) [dB (J4 p.n l)]:=by
 refine JuA (vs:=[.i p.n,.l (Jc p.acts),.l (dL p.gives),.l (dL p.start),.l (dDs l)]) L_k4u rfl ?_;refine Jt8 ((l.length:Int)=p.n) (by show decide (((dDs l).length:Int)=p.n)=_;rw[Xn]) (fun h=>?_) (fun h=>Jue (by show [dB false]=_;simp[J4,h]));refine Jur (Jl8 (fun d=>!Xj d) l (fn:=f_k4t) (caps:=[]) hl.1 rfl rfl fun x hx=>by simpa using Jin x (hl.2 x hx)) rfl rfl rfl (Jue ?_);show [dB (!(l.any fun d=>!Xj d))]=_;rw[Ul];simp[J4,h]
/- The program's MsgOk answers as the reference's: over residual programs. -/
def em (n:Nat):Bool:=decide (n=0)
def Yw (x:Msg) (c v s d:Bool):Bool:=(c||Zo x.call)&&((v||em x.vals.length)&&((s||em x.seqs.length)&&(d||em x.done.length)))
theorem VM (x:Msg) (c v s d:Bool):Ev L f_k1m (x.cells++[dB c,dB v,dB s,dB d]) [dB (Yw x c v s d)]:=by
 refine JuA (vs:=[.i x.kind,.i x.to,.i x.frm,.i x.round,.i x.call.client,.i x.call.seq,.i x.call.act,.l (dL x.call.args),.l (dL x.vals),.l (dL x.seqs),.l (dDs x.done),.b c,.b v,.b s,.b d]) L_k1m rfl ?_;have ea:decide (((dL x.call.args).length:Int)=0)=em x.call.args.length:=Ke _ (dL1 _);have ev:decide (((dL x.vals).length:Int)=0)=em x.vals.length:=Ke _ (dL1 _);have es:decide (((dL x.seqs).length:Int)=0)=em x.seqs.length:=Ke _ (dL1 _);have ed:decide (((dDs x.done).length:Int)=0)=em x.done.length:=Ke _ (Xn _);have hn:Zo x.call=(decide (x.call.client=0)&&(decide (x.call.seq=0)&&(decide (x.call.act=0)&&em x.call.args.length))):=rfl;have fin :∀b,b=Yw x c v s d→[dB b]=[dB (Yw x c v s d)]:=fun b h=>by rw[h]
 have ed2:([dB (decide (((dDs x.done).length:Int)=0))]:List D)=[dB (em x.done.length)]:=by rw[ed]
 unfold Yw at fin ⊢;rw[hn] at fin ⊢;generalize em x.call.args.length=ba at *;generalize em x.vals.length=bv at *;generalize em x.seqs.length=bs at *;generalize em x.done.length=bd at *;clear hn;generalize hb1:decide (x.call.client=0)=b1 at *;generalize hb2:decide (x.call.seq=0)=b2 at *;generalize hb3:decide (x.call.act=0)=b3 at *
 repeat' (first
  | exact Jue (fin true (by simp only[*,Bool.and_true,Bool.or_true,Bool.true_or,Bool.and_self,Bool.or_self]))
  | exact Jue (fin false (by simp only[*,Bool.and_false,Bool.false_and,Bool.or_self,Bool.or_false,Bool.false_or,JuX,Bool.and_true,Bool.true_or,Bool.or_true,Bool.and_self]))
  | exact Jue (ed2.trans (fin _ (by simp only[*,Bool.or_self,Bool.or_false,Bool.false_or,JuX,Bool.and_true,Bool.true_or,Bool.or_true,Bool.and_self])))
  | refine Jud c rfl (fun h=>?_) (fun h=>?_)
  | refine Jud v rfl (fun h=>?_) (fun h=>?_)
  | refine Jud s rfl (fun h=>?_) (fun h=>?_)
  | refine Jud d rfl (fun h=>?_) (fun h=>?_)
  | refine Jud ba ea (fun h=>?_) (fun h=>?_)
  | refine Jud bv ev (fun h=>?_) (fun h=>?_)
  | refine Jud bs es (fun h=>?_) (fun h=>?_)
  | refine Jud b1 hb1 (fun h=>?_) (fun h=>?_)
  | refine Jud b2 hb2 (fun h=>?_) (fun h=>?_)
  | refine Jud b3 hb3 (fun h=>?_) (fun h=>?_))
def Zq (p:Pln) (k:Int):Bool:=inB k 0 ((p.gives.length:Int)-1)
def JX (p:Pln) (x:Msg):Bool:=inB x.round 0 200&&(
 if x.kind=1 then decide (x.to = -1)&&(decide (x.frm=0)&&(decide (x.round=0)&&(Jl p x.call&&Yw x true false false false)))
 else if x.kind=2 then Zq p x.to&&(decide (x.frm=0)&&Yw x false false false false)
 else if x.kind=3 then decide (x.to = -1)&&(Zq p x.frm&&(JF 3 20000 x.vals&&(Q5 p.n x.seqs&&Yw x false true true false)))
 else if x.kind=4 then Zq p x.to&&(decide (x.frm=0)&&(JR x.vals&&(J4 p.n x.done&&Yw x false true false true)))
 else false)
theorem Jd3 (p:Pln) (k:Int) (hp:JV p):Ev L f_k7 [dI k,dI 0,dI (i64.wrap (((dL p.gives).length:Int)-1))] [dB (Zq p k)]:=by
 rw[dL1,JdK hp.2.1];exact JP k 0 _
theorem JpM (p:Pln) (x:Msg) (hp:JV p) (h1:1≤p.n) (h2:p.n≤4) (hx:Vx x):Ev L f_k1o (p.cells++x.cells) [dB (JX p x)]:=by
 refine JuA (vs:=[.i p.n,.l (Jc p.acts),.l (dL p.gives),.l (dL p.start),.i x.kind,.i x.to,.i x.frm,.i x.round,.i x.call.client,.i x.call.seq,.i x.call.act,.l (dL x.call.args),.l (dL x.vals),.l (dL x.seqs),.l (dDs x.done)]) L_k1o rfl ?_;refine Jur (JP x.round 0 200) rfl rfl rfl ?_;refine Jum (inB x.round 0 200) rfl (fun a=>Jue (by show [dB false]=_;simp[JX,a])) (fun a=>?_);refine Jt8 (x.kind=1) rfl (fun k1=>?_) (fun k1=>?_)
 ·have e:JX p x=(decide (x.to = -1)&&(decide (x.frm=0)&&(decide (x.round=0)&&(Jl p x.call&&Yw x true false false false)))):=by unfold JX;rw[if_pos k1,a,JuX]
  rw[e];refine Jud (decide (x.to = -1)) rfl (fun b=>?_) (fun b=>Jue (by show [dB false]=_;simp[b]));refine Jud (decide (x.frm=0)) rfl (fun c=>?_) (fun b=>Jue (by show [dB false]=_;simp[b]));refine Jud (decide (x.round=0)) rfl (fun d=>?_) (fun b=>Jue (by show [dB false]=_;simp[b]));refine Jur (Qr p x.call hp h1 h2 hx.1) rfl rfl rfl ?_;refine Jud (Jl p x.call) rfl (fun f=>?_) (fun b=>Jue (by show [dB false]=_;simp[b]));refine Jur (VM x true false false false) rfl rfl rfl (Jue ?_);rw[b,c,d,f];rfl
 refine Jt8 (x.kind=2) rfl (fun k2=>?_) (fun k2=>?_)
 ·have e:JX p x=(Zq p x.to&&(decide (x.frm=0)&&Yw x false false false false)):=by unfold JX;rw[if_neg k1,if_pos k2,a,JuX]
  rw[e];refine Jur (Jd3 p x.to hp) rfl rfl rfl ?_;refine Jud (Zq p x.to) rfl (fun b=>?_) (fun b=>Jue (by show [dB false]=_;simp[b]));refine Jud (decide (x.frm=0)) rfl (fun c=>?_) (fun b=>Jue (by show [dB false]=_;simp[b]));refine Jur (VM x false false false false) rfl rfl rfl (Jue ?_);rw[b,c];rfl
 refine Jt8 (x.kind=3) rfl (fun k3=>?_) (fun k3=>?_)
 ·have e:JX p x=(decide (x.to = -1)&&(Zq p x.frm&&(JF 3 20000 x.vals&&(Q5 p.n x.seqs&&Yw x false true true false)))):=by unfold JX;rw[if_neg k1,if_neg k2,if_pos k3,a,JuX]
  rw[e];refine Jud (decide (x.to = -1)) rfl (fun b=>?_) (fun b=>Jue (by show [dB false]=_;simp[b]));refine Jur (Jd3 p x.frm hp) rfl rfl rfl ?_;refine Jud (Zq p x.frm) rfl (fun c=>?_) (fun b=>Jue (by show [dB false]=_;simp[b]));refine Jur (Xr x.vals 3 20000 hx.2.1 (by omega) (by omega)) rfl rfl rfl ?_;refine Jud (JF 3 20000 x.vals) rfl (fun d=>?_) (fun b=>Jue (by show [dB false]=_;simp[b]));refine Jur (Jfe p x.seqs hx.2.2.1) rfl rfl rfl ?_;refine Jud (Q5 p.n x.seqs) rfl (fun f=>?_) (fun b=>Jue (by show [dB false]=_;simp[b]));refine Jur (VM x false true true false) rfl rfl rfl (Jue ?_);rw[b,c,d,f];rfl
 refine Jt8 (x.kind=4) rfl (fun k4=>?_) (fun k4=>Jue (by show [dB false]=_;simp[JX,k1,k2,k3,k4]));have e:JX p x=(Zq p x.to&&(decide (x.frm=0)&&(JR x.vals&&(J4 p.n x.done&&Yw x false true false true)))):=by unfold JX;rw[if_neg k1,if_neg k2,if_neg k3,if_pos k4,a,JuX]
 rw[e];refine Jur (Jd3 p x.to hp) rfl rfl rfl ?_;refine Jud (Zq p x.to) rfl (fun b=>?_) (fun b=>Jue (by show [dB false]=_;simp[b]));refine Jud (decide (x.frm=0)) rfl (fun c=>?_) (fun b=>Jue (by show [dB false]=_;simp[b]));refine Jur (Zc x.vals hx.2.1) rfl rfl rfl ?_;refine Jud (JR x.vals) rfl (fun d=>?_) (fun b=>Jue (by show [dB false]=_;simp[b]));refine Jur (JaZ p x.done hx.2.2.2) rfl rfl rfl ?_;refine Jud (J4 p.n x.done) rfl (fun f=>?_) (fun b=>Jue (by show [dB false]=_;simp[b]));refine Jur (VM x false true false true) rfl rfl rfl (Jue ?_);rw[b,c,d,f];rfl
/- The program's SitOk and SitFree answer as the reference's: over residual programs. -/
theorem XH {p:Pln} (h:JL p=true):Qu p.acts=true:=by
 simp only[JL,JuD] at h;exact h.2.1
def Q4 (p:Pln) (b:List Int) (k:Int) (a:List Int):Bool:=keeps b p.gives (Jb p.acts) k a&&Qc (Jj p.acts) a
def QW (p:Pln) (s:Sit) (k:Int):Bool:=inB s.round 0 200&&(JR s.base&&(Q4 p s.base k s.added&&J4 p.n s.done))
theorem Jb1 (p:Pln) (s:Sit):Ev L f_k1e (p.cells++s.cells) [.s (dL s.base),.s (dL p.gives)] :=
 JuA (vs:=[.i p.n,.l (Jc p.acts),.l (dL p.gives),.l (dL p.start),.b s.up,.b s.frozen,.i s.round,.l (dL s.base),.l (dL s.added),.l (dDs s.done)]) L_k1e rfl (Jue rfl)
theorem JpS (p:Pln) (s:Sit) (k:Int) (hp:JV p) (hs:KH s) (hc:Qu p.acts=true) :
  Ev L f_k1k (p.cells++[.s (dLL (Jb p.acts)),.s (dBl (Jj p.acts))]++s.cells++[dI k]) [dB (QW p s k)]:=by
 refine JuA (vs:=[.i p.n,.l (Jc p.acts),.l (dL p.gives),.l (dL p.start),.l (dLL (Jb p.acts)),.l (dBl (Jj p.acts)),.b s.up,.b s.frozen,.i s.round,.l (dL s.base),.l (dL s.added),.l (dDs s.done),.i k]) L_k1k rfl ?_;have hps:fitLL (Jb p.acts):=(Xc p.acts).fitLL (by omega);refine Jur (JP s.round 0 200) rfl rfl rfl ?_;refine Jud (inB s.round 0 200) rfl (fun a=>?_) (fun b=>Jue (by show [dB false]=_;simp[QW,b]));refine Jur (Zc s.base hs.1) rfl rfl rfl ?_;refine Jud (JR s.base) rfl (fun d=>?_) (fun b=>Jue (by show [dB false]=_;simp[QW,b]));refine Jur (Jb1 p s) rfl rfl rfl ?_;refine Jur (Zz s.base p.gives (Jb p.acts) k s.added hs.1 hp.2.1 hps hs.2.1) rfl rfl rfl ?_;simp only[sC,sN];refine Jud (keeps s.base p.gives (Jb p.acts) k s.added) rfl (fun e=>?_) (fun b=>Jue (by show [dB false]=_;simp[QW,Q4,b]));refine Jur (WO (Jj p.acts) s.added (Vd hc) (VY e)) rfl rfl rfl ?_;simp only[sC,sN];refine Jud (Qc (Jj p.acts) s.added) rfl (fun f=>?_) (fun b=>Jue (by show [dB false]=_;simp[QW,Q4,b]));refine Jur (JaZ p s.done ⟨hs.2.2.1,hs.2.2.2⟩) rfl rfl rfl (Jue ?_);show [dB (J4 p.n s.done)]=_;simp[QW,Q4,a,d,e,f]
/- The program's ClkOk and ClkReady answer as the reference's: over residual programs. -/
def emp (g:Got):Bool:=decide (g.added.length=0)&&decide (g.seqs.length=0)
def YT (p:Pln) (b:List Int) (l:List Got) (j:Nat):Bool :=
 if(l.getD j Qn).has then Q4 p b j (l.getD j Qn).added&&Q5 p.n (l.getD j Qn).seqs else emp (l.getD j Qn)
def Yh (p:Pln) (l:List Cal) (j:Nat):Bool:=Jl p (l.getD j ⟨0,0,0,[]⟩)&&(decide (j=0)||decide ((l.getD (j-1) ⟨0,0,0,[]⟩).client<(l.getD j ⟨0,0,0,[]⟩).client))
def Xy (l:List Got):Nat:=(l.filter fun g=>g.has).length
def JQ (n:Nat) (f:Nat→Bool):Bool:=(List.range n).all f
theorem Zb (n:Nat) (f:Nat→Bool):JQ (n+1) f=(JQ n f&&f n):=by simp[JQ,List.range_succ]
theorem X6 {n:Nat} {f:Nat→Bool}:JQ n f=true↔∀j,j<n→f j=true:=by simp[JQ]
theorem ZY {n i:Nat} {f:Nat→Bool} (h:i<n) (hf:f i=false):JQ n f=false:=by
 cases e:JQ n f with
 | false=>rfl
 | true=>rw[X6.1 e i h] at hf;cases hf
def X8 (p:Pln) (c:Clk):Bool:=inB c.round 0 200&&(JR c.base&&(J4 p.n c.done&&((decide (c.got.length=p.gives.length)&&JQ c.got.length (YT p c.base c.got)) &&
 (JQ c.wants.length (Yh p c.wants)&&(c.up||(decide (c.wants.length=0)&&decide (Xy c.got=0)))))))
def Xu (p:Pln) (c:Clk):Bool:=JL p&&X8 p c
theorem Xm (l:List Got):(dGs l).length=l.length:=by simp[dGs]
theorem Xb (l:List Cal):(dCs l).length=l.length:=by simp[dCs]
theorem Qd {α:Type} {l:List α} {i:Nat} {x d:α} (h:l[i]? = some x):l.getD i d=x:=by simp[JuG,h]
theorem JoC (p:Pln) (c:Clk) (hp:JV p) (hk:Qy c) (hc:Qu p.acts=true) :
  Ev L f_k1p (p.cells++[.s (dLL (Jb p.acts)),.s (dBl (Jj p.acts))]++c.cells) [dB (decide (c.got.length=p.gives.length)&&JQ c.got.length (YT p c.base c.got))]:=by
 refine JuA (vs:=[.i p.n,.l (Jc p.acts),.l (dL p.gives),.l (dL p.start),.l (dLL (Jb p.acts)),.l (dBl (Jj p.acts)),.b c.up,.i c.round,.l (dL c.base),.l (dDs c.done),.l (dCs c.wants),.l (dGs c.got)]) L_k1p rfl ?_;have hps:fitLL (Jb p.acts):=(Xc p.acts).fitLL (by omega);have hgl:=hk.g;refine Jum (decide (c.got.length=p.gives.length)) ?_ (fun b=>Jue (by show [dB false]=_;simp only[b,Bool.false_and])) (fun a=>?_)
 ·show (!decide (((dGs c.got).length:Int)=((dL p.gives).length:Int)))=_;rw[Xm,dL1];simp[Int.ofNat_inj]
 rw[a,JuX];refine Jt3 c.got.length (fun i=>[.i i]) (fun i=>JQ i (YT p c.base c.got)=true) rfl rfl rfl fun i hi hq=>?_;simp only[sC,sN];refine JtY i (Xm c.got) rfl (fun h'=>?_) (fun h'=>Juk (Jue ?_))
 ·obtain⟨x,hx,hm⟩:=sA1 h';have hxf:=hk.gt x hm;have hD:=Qd (d:=Qn) hx;have hgs:YT p c.base c.got i=if x.has then Q4 p c.base i x.added&&Q5 p.n x.seqs else emp x:=by unfold YT;rw[hD]
  have bad:YT p c.base c.got i=false→[dB false]=[dB (JQ c.got.length (YT p c.base c.got))]:=fun h=>by rw[ZY h' h]
  have good:YT p c.base c.got i=true→JQ (i+1) (YT p c.base c.got)=true:=fun h=>by rw[Zb,hq,h];rfl
  have nx:[V.i (i64.wrap ((i:Int)+1))]=[V.i ((i+1:Nat):Int)]:=by rw[wS h' (by omega)]
  refine Juo (vs:=[.b x.has,.l (dL x.added),.l (dL x.seqs)]) i (mA1 (f:=Got.g) hx) rfl rfl rfl rfl ?_;simp only[sC,sN];refine Jum x.has rfl (fun hn=>?_) (fun hh=>?_)
  ·rw[hn] at hgs;have hw:i64.wrap (((dL x.added).length:Int)+((dL x.seqs).length:Int))=(x.added.length:Int)+x.seqs.length:=by rw[dL1,dL1];exact w64 (by omega) (by omega)
   refine Jt8 ((0:Int)<(x.added.length:Int)+x.seqs.length) (by show decide ((0:Int)<i64.wrap (((dL x.added).length:Int)+((dL x.seqs).length:Int)))=_;rw[hw]) (fun h0=>Juk (Jue (bad ?_))) (fun h0=>?_)
   ·rw[hgs];simp only[JuT,if_false,emp,Bool.and_eq_false_iff,decide_eq_false_iff_not];omega
   refine Juq (by show x.has=false;exact hn) (Jt4 nx ⟨h',rfl,good ?_⟩);rw[hgs];simp only[JuT,if_false,emp,JuD,decide_eq_true_eq];omega
  ·rw[hh] at hgs;simp only[if_true] at hgs;refine Jua (by show x.has=true;exact hh) ?_;refine Jur (Zz c.base p.gives (Jb p.acts) i x.added hk.b hp.2.1 hps hxf.1) rfl rfl rfl ?_;simp only[sC,sN];refine Jum (keeps c.base p.gives (Jb p.acts) i x.added) rfl (fun e=>Juk (Jue (bad (by rw[hgs,Q4,e];rfl)))) (fun e=>?_);refine Jur (WO (Jj p.acts) x.added (Vd hc) (VY e)) rfl rfl rfl ?_;simp only[sC,sN];refine Jum (Qc (Jj p.acts) x.added) rfl (fun f=>Juk (Jue (bad (by rw[hgs,Q4,e,f];rfl)))) (fun f=>?_);refine Jur (Jfe p x.seqs hxf.2) rfl rfl rfl ?_;simp only[sC,sN];exact Jum (Q5 p.n x.seqs) rfl (fun g=>Juk (Jue (bad (by rw[hgs,g,Bool.and_false])))) (fun g=>Jt4 nx ⟨h',rfl,good (by rw[hgs,Q4,e,f,g];rfl)⟩)
 ·show [dB true]=_;rw[show i=c.got.length by omega] at hq;rw[hq]
theorem JmS {l:List Got} {i:Nat} {x:Got} (h:l[i]? = some x):Xy (l.take (i+1))=Xy (l.take i)+(if x.has then 1 else 0):=by
 unfold Xy;rw[tS1 h,List.filter_append,JuJ];cases hx:x.has <;> simp[hx]
theorem Jlu (l:List Got):Xy l≤l.length:=List.length_filter_le _ _
theorem Jec (c:Clk) (hk:c.got.length≤2000000):Ev L f_k1q c.cells [dI (Xy c.got)]:=by
 refine JuA (vs:=[.b c.up,.i c.round,.l (dL c.base),.l (dDs c.done),.l (dCs c.wants),.l (dGs c.got)]) L_k1q rfl ?_;refine Jt3 c.got.length (fun i=>[.i (Xy (c.got.take i)),.i i]) (fun _=>True) rfl rfl trivial fun i hi _=>?_;simp only[sC,sN];refine JtY i (Xm c.got) rfl (fun h'=>?_) (fun h'=>Juk (Jue ?_))
 ·obtain⟨x,hx,hm⟩:=sA1 h';have hs:=JmS hx;have hle:=Jlu (c.got.take i);rw[JuS] at hle;refine Juo (vs:=[.b x.has,.l (dL x.added),.l (dL x.seqs)]) i (mA1 (f:=Got.g) hx) rfl rfl rfl rfl ?_;simp only[sC,sN];refine Jud x.has rfl (fun hh=>?_) (fun hh=>?_)
  ·refine Jt4 (vs:=[.i ((Xy (c.got.take (i+1)):Nat):Int),.i ((i+1:Nat):Int)]) ?_ ⟨h',rfl,trivial⟩;show [V.i (i64.wrap ((Xy (c.got.take i):Int)+1)),V.i (i64.wrap ((i:Int)+1))]=_;rw[wS h' (by omega),w64 (by omega) (by omega),hs,hh];rfl
  ·refine Jt4 (vs:=[.i ((Xy (c.got.take (i+1)):Nat):Int),.i ((i+1:Nat):Int)]) ?_ ⟨h',rfl,trivial⟩;show [V.i (Xy (c.got.take i):Int),V.i (i64.wrap ((i:Int)+1))]=_;rw[wS h' (by omega),hs,hh];rfl
 ·show [dI (Xy (c.got.take i))]=_;rw[tA1 h']
theorem JaS {p:Pln} {l:List Cal} {i:Nat} {x:Cal} (h:l[i]? = some x):Yh p l i=(Jl p x&&(decide (i=0)||decide ((l.getD (i-1) ⟨0,0,0,[]⟩).client<x.client))):=by
 unfold Yh;rw[Qd h]
theorem Jlx (p:Pln) (c:Clk) (hp:JV p) (hk:Qy c) (h1:1≤p.n) (h2:p.n≤4) (hc:Qu p.acts=true) :
  Ev L f_k1r (p.cells++[.s (dLL (Jb p.acts)),.s (dBl (Jj p.acts))]++c.cells) [dB (X8 p c)]:=by
 refine JuA (vs:=[.i p.n,.l (Jc p.acts),.l (dL p.gives),.l (dL p.start),.l (dLL (Jb p.acts)),.l (dBl (Jj p.acts)),.b c.up,.i c.round,.l (dL c.base),.l (dDs c.done),.l (dCs c.wants),.l (dGs c.got)]) L_k1r rfl ?_;have hwl:=hk.c;refine Jur (JP c.round 0 200) rfl rfl rfl ?_;refine Jum (inB c.round 0 200) rfl (fun b=>Jue (by show [dB false]=_;simp only[X8,b,Bool.false_and,Bool.and_false])) (fun a1=>?_);refine Jur (Zc c.base hk.b) rfl rfl rfl ?_;refine Jum (JR c.base) rfl (fun b=>Jue (by show [dB false]=_;simp only[X8,b,Bool.false_and,Bool.and_false])) (fun a2=>?_);refine Jur (JaZ p c.done ⟨hk.d,hk.dt⟩) rfl rfl rfl ?_;refine Jum (J4 p.n c.done) rfl (fun b=>Jue (by show [dB false]=_;simp only[X8,b,Bool.false_and,Bool.and_false])) (fun a3=>?_);refine Jur (JoC p c hp hk hc) rfl rfl rfl ?_;refine Jum (decide (c.got.length=p.gives.length)&&JQ c.got.length (YT p c.base c.got)) rfl (fun b=>Jue (by show [dB false]=_;simp only[X8,b,Bool.false_and,Bool.and_false])) (fun a4=>?_);have e:X8 p c=(JQ c.wants.length (Yh p c.wants)&&(c.up||(decide (c.wants.length=0)&&decide (Xy c.got=0)))):=by
  unfold X8;rw[a1,a2,a3,a4];simp only[JuX]
 rw[e];simp only[sC,sN];refine Jt3 c.wants.length (fun i=>[.i i]) (fun i=>JQ i (Yh p c.wants)=true) rfl rfl rfl fun i hi hq=>?_;simp only[sC,sN];refine JtY i (Xb c.wants) rfl (fun h'=>?_) (fun h'=>Juk ?_)
 ·obtain⟨x,hx,hm⟩:=sA1 h';have hwi:=JaS (p:=p) hx;have bad:Yh p c.wants i=false→[dB false]=[dB (JQ c.wants.length (Yh p c.wants)&&(c.up||(decide (c.wants.length=0)&&decide (Xy c.got=0))))]:=fun h=>by rw[ZY h' h];rfl
  have good:Yh p c.wants i=true→JQ (i+1) (Yh p c.wants)=true:=fun h=>by rw[Zb,hq,h];rfl
  have nx:[V.i (i64.wrap ((i:Int)+1))]=[V.i ((i+1:Nat):Int)]:=by rw[wS h' (by omega)]
  refine Juo (vs:=[.i x.client,.i x.seq,.i x.act,.l (dL x.args)]) i (mA1 (f:=Cal.g) hx) rfl rfl rfl rfl ?_;simp only[sC,sN];refine Jur (Qr p x hp h1 h2 (hk.ct x hm)) rfl rfl rfl ?_;simp only[sC,sN];refine Jum (Jl p x) rfl (fun b=>Juk (Jue (bad (by rw[hwi,b];rfl)))) (fun b=>?_);rw[b,JuX] at hwi;refine Jt8 ((0:Int)<(i:Int)) rfl (fun h0=>?_) (fun h0=>Jt4 nx ⟨h',rfl,good (by rw[hwi,decide_eq_true (show i=0 by omega)];rfl)⟩);obtain⟨y,hy,_⟩:=sA1 (show i-1<c.wants.length by omega);rw[Qd hy,decide_eq_false (show ¬i=0 by omega),Bool.false_or] at hwi;refine Juo (vs:=[.i y.client,.i y.seq,.i y.act,.l (dL y.args)]) (i-1) (mA1 (f:=Cal.g) hy) rfl rfl ?_ rfl ?_
  ·show i64.wrap ((i:Int)-1)=((i-1:Nat):Int);rw[w64 (by omega) (by omega)];omega
  refine Juo (vs:=[.i x.client,.i x.seq,.i x.act,.l (dL x.args)]) i (mA1 (f:=Cal.g) hx) rfl rfl rfl rfl ?_;simp only[sC,sN];exact Jt8 (x.client≤y.client) rfl (fun g=>Juk (Jue (bad (by rw[hwi];exact decide_eq_false (by omega))))) (fun g=>Jt4 nx ⟨h',rfl,good (by rw[hwi];exact decide_eq_true (by omega))⟩)
 ·rw[show i=c.wants.length by omega] at hq;rw[hq,JuX];refine Jud c.up rfl (fun u=>Jue (by show [dB true]=_;rw[u];rfl)) (fun u=>?_);rw[show (c.up||(decide (c.wants.length=0)&&decide (Xy c.got=0)))=(decide (c.wants.length=0)&&decide (Xy c.got=0)) by rw[u,Bool.false_or]];refine Jud (decide (c.wants.length=0)) (by show decide (((dCs c.wants).length:Int)=0)=_;exact Ke _ (Xb _)) (fun w=>?_) (fun w=>Jue (by show [dB false]=_;rw[w];rfl));refine Jur (Jec c hk.g) rfl rfl rfl (Jue ?_);show [dB (decide ((Xy c.got:Int)=0))]=_;rw[w,Ke _ rfl];rfl
theorem JeJ (p:Pln) (c:Clk) (hp:JV p) (hk:Qy c):Ev L f_k5k (p.cells++c.cells) [dB (Xu p c)]:=by
 refine JuA (vs:=[.i p.n,.l (Jc p.acts),.l (dL p.gives),.l (dL p.start),.b c.up,.i c.round,.l (dL c.base),.l (dDs c.done),.l (dCs c.wants),.l (dGs c.got)]) L_k5k rfl ?_;refine Jur (K7 p hp) rfl rfl rfl ?_;refine Jum (JL p) rfl (fun b=>Jue (by show [dB false]=_;simp only[Xu,b,Bool.false_and,Bool.and_false])) (fun a=>?_);obtain⟨n1,n2,_⟩:=J9 a;have hc:=XH a;have e1:(U2 p.acts).1=Jb p.acts:=by simp[Jb,hc]
 have e2:(U2 p.acts).2=Jj p.acts:=by simp[Jj,hc]
 have eB:=JeO p.acts hp.1 (X5 hc).2.1;rw[e1,e2] at eB;refine Jur eB rfl rfl rfl ?_;simp only[sC,sN];refine Jur (Jlx p c hp hk n1 n2 hc) rfl rfl rfl (Jue ?_);show [dB (X8 p c)]=_;simp only[Xu,a,JuX]
theorem Jj2 (x:Got):Ev L f_k5a x.cells [dB (!x.has&&emp x)]:=by
 refine JuA (vs:=[.b x.has,.l (dL x.added),.l (dL x.seqs)]) L_k5a rfl ?_;refine Jum x.has rfl (fun a=>?_) (fun a=>Jue (by show [dB false]=_;rw[a];rfl));refine Jud (decide (x.added.length=0)) (Ke _ (dL1 _)) (fun b=>Jue ?_) (fun b=>Jue (by show [dB false]=_;rw[emp,b];simp));show [dB (decide (((dL x.seqs).length:Int)=0))]=_;rw[Ke _ (dL1 _),a,emp,b];simp
def Vu (p:Pln) (b:List Int) (up:Bool) (l:List Got) (j:Nat):Bool :=
 (up&&((l.getD j Qn).has&&(Q4 p b j (l.getD j Qn).added&&Q5 p.n (l.getD j Qn).seqs)))||(!(l.getD j Qn).has&&emp (l.getD j Qn))
theorem Jpg (p:Pln) (b:List Int) (l:List Got) (j:Nat):Vu p b true l j=YT p b l j:=by
 unfold Vu YT;cases (l.getD j Qn).has <;> simp
theorem Jl2 (p:Pln) (b:List Int) (l:List Got):JQ l.length (Vu p b false l)=(JQ l.length (YT p b l)&&decide (Xy l=0)):=by
 rw[Bool.eq_iff_iff,JuD,X6,X6,decide_eq_true_eq];have hn:Xy l=0↔∀j,j<l.length→(l.getD j Qn).has=false:=by
  unfold Xy;rw[List.length_eq_zero_iff,List.filter_eq_nil_iff];constructor
  ·intro h j hj;obtain⟨x,hx,hm⟩:=sA1 hj;rw[Qd hx];simpa using h x hm
  ·intro h x hx;obtain⟨j,hj,e⟩:=List.getElem_of_mem hx;have:=h j hj;rw[Qd (x:=x) (by rw[JuO hj,e])] at this;simp[this]
 rw[hn];constructor
 ·intro h;have h0 :∀j,j<l.length→(l.getD j Qn).has=false:=fun j hj=>by
   have:=h j hj;unfold Vu at this;cases hh:(l.getD j Qn).has with
   | false=>rfl
   | true=>rw[hh] at this;simp at this
  refine⟨fun j hj=>?_,h0⟩;have:=h j hj;unfold Vu at this;unfold YT;rw[h0 j hj] at this ⊢;simpa using this
 ·rintro⟨h,h0⟩ j hj;have:=h j hj;unfold YT at this;unfold Vu;rw[h0 j hj] at this ⊢;simpa using this
theorem Jot (p:Pln) (c:Clk):X8 p c=(inB c.round 0 200&&(JR c.base&&(J4 p.n c.done&&(decide (c.got.length=p.gives.length) &&
  (JQ c.wants.length (fun j=>Yh p c.wants j&&c.up)&&JQ c.got.length (Vu p c.base c.up c.got)))))):=by
 unfold X8;cases hu:c.up with
 | true =>
  have e:Vu p c.base true c.got=YT p c.base c.got:=funext fun j=>Jpg p c.base c.got j;have e2:(fun j=>Yh p c.wants j&&true)=Yh p c.wants:=funext fun j=>Bool.and_true _;rw[e,e2,Bool.true_or,Bool.and_true];cases inB c.round 0 200 <;> cases JR c.base <;> cases J4 p.n c.done <;> cases decide (c.got.length=p.gives.length) <;> cases JQ c.got.length (YT p c.base c.got) <;> cases JQ c.wants.length (Yh p c.wants) <;> rfl
 | false =>
  rw[Jl2];have e2:JQ c.wants.length (fun j=>Yh p c.wants j&&false)=decide (c.wants.length=0):=by
   cases hl:c.wants.length with
   | zero=>rfl
   | succ n=>rw[ZY (i:=0) (by omega) (Bool.and_false _)];simp
  rw[e2,Bool.false_or];cases hl:decide (c.wants.length=0) with
  | false=>simp
  | true =>
   have h0:c.wants.length=0:=by simpa using hl
   rw[h0];have:JQ 0 (Yh p c.wants)=true:=rfl;rw[this];cases inB c.round 0 200 <;> cases JR c.base <;> cases J4 p.n c.done <;> cases decide (c.got.length=p.gives.length) <;> cases JQ c.got.length (YT p c.base c.got) <;> cases decide (Xy c.got=0) <;> rfl
theorem Jjo (p:Pln) (c:Clk) (hp:JV p) (hk:Qy c) (h1:1≤p.n) (h2:p.n≤4) (hc:Qu p.acts=true) :
  Ev L f_k5b (p.cells++[.s (Jc p.acts),.s (dLL (Jb p.acts)),.s (dBl (Jj p.acts))]++c.cells) [dB (X8 p c)]:=by
 refine JuA (vs:=[.i p.n,.l (Jc p.acts),.l (dL p.gives),.l (dL p.start),.l (Jc p.acts),.l (dLL (Jb p.acts)),.l (dBl (Jj p.acts)),.b c.up,.i c.round,.l (dL c.base),.l (dDs c.done),.l (dCs c.wants),.l (dGs c.got)]) L_k5b rfl ?_;have hps:fitLL (Jb p.acts):=(Xc p.acts).fitLL (by omega);have hwl:=hk.c;have hgl:=hk.g;rw[Jot];refine Jur (Yy c.round 0 200) rfl rfl rfl ?_;refine Jum (inB c.round 0 200) rfl (fun b=>Jue (by show [dB false]=_;rw[b];rfl)) (fun a1=>?_);refine Jur (Jiy c.base hk.b) rfl rfl rfl ?_;refine Jum (JR c.base) rfl (fun b=>Jue (by show [dB false]=_;rw[b,Bool.false_and,Bool.and_false])) (fun a2=>?_);refine Jur (JmG p c.done ⟨hk.d,hk.dt⟩) rfl rfl rfl ?_;refine Jum (J4 p.n c.done) rfl (fun b=>Jue (by show [dB false]=_;rw[b,Bool.false_and,Bool.and_false,Bool.and_false])) (fun a3=>?_);refine Jum (decide (c.got.length=p.gives.length)) ?_ (fun b=>Jue (by show [dB false]=_;rw[b,Bool.false_and,Bool.and_false,Bool.and_false,Bool.and_false])) (fun a4=>?_)
 ·show (!decide (((dGs c.got).length:Int)=((dL p.gives).length:Int)))=_;rw[Xm,dL1];simp[Int.ofNat_inj]
 rw[a1,a2,a3,a4];simp only[JuX];generalize hB:JQ c.wants.length (fun j=>Yh p c.wants j&&c.up)=B;simp only[sC,sN];refine Jt3 c.wants.length (fun i=>[.i i]) (fun i=>JQ i (fun j=>Yh p c.wants j&&c.up)=true) rfl rfl rfl fun i hi hq=>?_;simp only[sC,sN];refine JtY i (Xb c.wants) rfl (fun h'=>?_) (fun h'=>Juk ?_)
 ·obtain⟨x,hx,hm⟩:=sA1 h';have hwi:=JaS (p:=p) hx;have bad:(Yh p c.wants i&&c.up)=false→[dB false]=[dB (B&&JQ c.got.length (Vu p c.base c.up c.got))]:=fun h=>by rw[←hB,ZY h' h];rfl
  have good:(Yh p c.wants i&&c.up)=true→JQ (i+1) (fun j=>Yh p c.wants j&&c.up)=true:=fun h=>by rw[Zb,hq,h];rfl
  have nx:[V.i (i64.wrap ((i:Int)+1))]=[V.i ((i+1:Nat):Int)]:=by rw[wS h' (by omega)]
  refine Juo (vs:=[.i x.client,.i x.seq,.i x.act,.l (dL x.args)]) i (mA1 (f:=Cal.g) hx) rfl rfl rfl rfl ?_;simp only[sC,sN];refine Jur (Jl6 p x hp h1 h2 (hk.ct x hm)) rfl rfl rfl ?_;simp only[sC,sN];refine Jum (Jl p x) rfl (fun b=>Juk (Jue (bad (by rw[hwi,b];rfl)))) (fun b=>?_);rw[b,JuX] at hwi;refine Jt8 ((0:Int)<(i:Int)) rfl (fun h0=>?_) (fun h0=>?_)
  ·obtain⟨y,hy,_⟩:=sA1 (show i-1<c.wants.length by omega);rw[Qd hy,decide_eq_false (show ¬i=0 by omega),Bool.false_or] at hwi;refine Juo (vs:=[.i y.client,.i y.seq,.i y.act,.l (dL y.args)]) (i-1) (mA1 (f:=Cal.g) hy) rfl rfl ?_ rfl ?_
   ·show i64.wrap ((i:Int)-1)=((i-1:Nat):Int);rw[w64 (by omega) (by omega)];omega
   simp only[sC,sN];refine Jt8 (x.client≤y.client) rfl (fun g=>Juk (Jue (bad (by rw[hwi,decide_eq_false (by omega)];rfl)))) (fun g=>?_);exact Jum c.up rfl (fun u=>Juk (Jue (bad (by rw[u,Bool.and_false])))) (fun u=>Jt4 nx ⟨h',rfl,good (by rw[hwi,u,decide_eq_true (by omega)];rfl)⟩)
  ·exact Jum c.up rfl (fun u=>Juk (Jue (bad (by rw[u,Bool.and_false])))) (fun u=>Jt4 nx ⟨h',rfl,good (by rw[hwi,u,decide_eq_true (show i=0 by omega)];rfl)⟩)
 ·rw[show i=c.wants.length by omega] at hq;rw[hB] at hq;rw[hq,JuX];clear hB hq h' hi;refine Jt3 c.got.length (fun i=>[.i i]) (fun i=>JQ i (Vu p c.base c.up c.got)=true) rfl rfl rfl fun i hi hq=>?_;simp only[sC,sN];refine JtY i (Xm c.got) rfl (fun h'=>?_) (fun h'=>Juk (Jue ?_))
  ·obtain⟨x,hx,hm⟩:=sA1 h';have hxf:=hk.gt x hm;have hgi:Vu p c.base c.up c.got i=((c.up&&(x.has&&(Q4 p c.base i x.added&&Q5 p.n x.seqs)))||(!x.has&&emp x)):=by unfold Vu;rw[Qd hx]
   have bad:Vu p c.base c.up c.got i=false→[dB false]=[dB (JQ c.got.length (Vu p c.base c.up c.got))]:=fun h=>by rw[ZY h' h]
   have good:Vu p c.base c.up c.got i=true→JQ (i+1) (Vu p c.base c.up c.got)=true:=fun h=>by rw[Zb,hq,h];rfl
   have nx:[V.i (i64.wrap ((i:Int)+1))]=[V.i ((i+1:Nat):Int)]:=by rw[wS h' (by omega)]
   have hno:=Jj2 x;have last:(c.up&&(x.has&&(Q4 p c.base i x.added&&Q5 p.n x.seqs)))=false→Vu p c.base c.up c.got i=(!x.has&&emp x):=fun h=>by rw[hgi,h,Bool.false_or]
   refine Juo (vs:=[.b x.has,.l (dL x.added),.l (dL x.seqs)]) i (mA1 (f:=Got.g) hx) rfl rfl rfl rfl ?_;simp only[sC,sN];refine Jud c.up rfl (fun u=>?_) (fun u=>?_)
   ·refine Jud x.has rfl (fun hh=>?_) (fun hh=>?_)
    ·refine Jur (Jdt p c.base) rfl rfl rfl ?_;refine Jur (Jm1 p.acts (Jb p.acts) (Jj p.acts) c.base p.gives i x.added (Vd hc) hk.b hp.2.1 hps hxf.1) rfl rfl rfl ?_;simp only[sC,sN];refine Jud (Q4 p c.base i x.added) rfl (fun e=>?_) (fun e=>?_)
     ·refine Jur (JmU p x.seqs hxf.2) rfl rfl rfl ?_;simp only[sC,sN];refine Jum (Q5 p.n x.seqs) rfl (fun f=>?_) (fun f=>Jt4 nx ⟨h',rfl,good (by rw[hgi,u,hh,e,f];rfl)⟩);refine Jur hno rfl rfl rfl ?_;exact Jum (!x.has&&emp x) rfl (fun g=>Juk (Jue (bad (by rw[last (by simp[f])];exact g)))) (fun g=>Jt4 nx ⟨h',rfl,good (by rw[last (by simp[f])];exact g)⟩)
     ·refine Jur hno rfl rfl rfl ?_;exact Jum (!x.has&&emp x) rfl (fun g=>Juk (Jue (bad (by rw[last (by simp[e])];exact g)))) (fun g=>Jt4 nx ⟨h',rfl,good (by rw[last (by simp[e])];exact g)⟩)
    ·refine Jur hno rfl rfl rfl ?_;exact Jum (!x.has&&emp x) rfl (fun g=>Juk (Jue (bad (by rw[last (by simp[hh])];exact g)))) (fun g=>Jt4 nx ⟨h',rfl,good (by rw[last (by simp[hh])];exact g)⟩)
   ·refine Jur hno rfl rfl rfl ?_;exact Jum (!x.has&&emp x) rfl (fun g=>Juk (Jue (bad (by rw[last (by simp[u])];exact g)))) (fun g=>Jt4 nx ⟨h',rfl,good (by rw[last (by simp[u])];exact g)⟩)
  ·show [dB true]=_;rw[show i=c.got.length by omega] at hq;rw[hq]
theorem JfP (p:Pln) (c:Clk) (hp:JV p) (hk:Qy c):Ev L f_k5c (p.cells++c.cells) [dB (Xu p c)]:=by
 refine JuA (vs:=[.i p.n,.l (Jc p.acts),.l (dL p.gives),.l (dL p.start),.b c.up,.i c.round,.l (dL c.base),.l (dDs c.done),.l (dCs c.wants),.l (dGs c.got)]) L_k5c rfl ?_;refine Jur (JmO p hp) rfl rfl rfl ?_;refine Jud (JL p) rfl (fun a=>?_) (fun b=>Jue (by show [dB false]=_;simp only[Xu,b,Bool.false_and,Bool.and_false]));obtain⟨n1,n2,_⟩:=J9 a;have hc:=XH a;refine Jur (JjN p.acts hp.1) rfl rfl rfl ?_;simp only[sC,sN];refine Jur (Jjo p c hp hk n1 n2 hc) rfl rfl rfl (Jue ?_);show [dB (X8 p c)]=_;simp only[Xu,a,JuX]
def Jhc (p:Pln) (c:Clk):Bool:=Xu p c&&decide (Xy c.got=p.gives.length)
theorem Jmi {p:Pln} {c:Clk} (h:Xu p c=true):c.got.length=p.gives.length:=by
 simp only[Xu,X8,JuD,decide_eq_true_eq] at h;exact h.2.2.2.2.1.1
theorem JnE (l:List Got):(l.all fun g=>g.has)=decide (Xy l=l.length):=by
 rw[Bool.eq_iff_iff,decide_eq_true_eq];unfold Xy;rw[List.length_filter_eq_length_iff];simp
/- The program's SitFall answers as the reference's: over residual programs. -/
theorem Qb (c:Int) (l:List Int) (hl:l.length≤2000000):Ev L f_k1t [dI c,.s (dL l)] [dI c,.s (dL l)]:=by
 refine JuA (vs:=[.i c,.l (dL l)]) L_k1t rfl ?_;refine Juj (dL l) 2000000 (by rw[dL1];omega) (by omega) rfl ?_;refine Juc (JT l) ?_;exact Juj (dL l) 2000000 (by rw[dL1];omega) (by omega) rfl (Jue rfl)
theorem Zd (l:List Don) (hl:Wd YX l):Ev L f_k1u [.s (dDs l)] [.s (dDs l)]:=by
 refine JuA (vs:=[.l (dDs l)]) L_k1u rfl ?_;have hl0:=hl.1;refine Jt3 l.length (fun i=>[.l (dDs (l.take i)),.i i]) (fun _=>True) rfl rfl trivial fun i hi _=>?_;simp only[sC,sN];refine JtY i (Xn l) rfl (fun h=>?_) (fun h=>Juk (Jue ?_))
 ·obtain⟨x,hx,hm⟩:=sA1 h;have hg:(dDs l)[i]? = some x.g:=mA1 (f:=Don.g) hx;refine Juo (vs:=[.i x.seq,.i x.code,.l (dL x.tells)]) i hg rfl rfl rfl rfl ?_;refine Juo (vs:=[.i x.seq,.i x.code,.l (dL x.tells)]) i hg rfl rfl rfl rfl ?_;refine Jur (vs:=[.i x.code,.l (dL x.tells)]) (Qb x.code x.tells (hl.2 x hm)) rfl rfl rfl ?_;simp only[sC,sN];refine Jus (dDs (l.take i)) 2000000 (by rw[Xn,JuS];omega) (by omega) rfl ?_;refine Jt4 (vs:=[.l (dDs (l.take (i+1))),.i ((i+1:Nat):Int)]) ?_ ⟨h,rfl,trivial⟩;show [V.l (dDs (l.take i)++[x.g]),V.i (i64.wrap ((i:Int)+1))]=_;rw[wS h (by omega),tS1 hx];simp only[dDs,List.map_append,JuL,List.map_nil]
 ·show [D.s (dDs (l.take i))]=_;rw[tA1 h]
theorem Jbt (s:Sit) (hs:KH s):Ev L f_k1x s.cells s.cells:=by
 refine JuA (vs:=[.b s.up,.b s.frozen,.i s.round,.l (dL s.base),.l (dL s.added),.l (dDs s.done)]) L_k1x rfl ?_;have h1:=hs.1;have h2:=hs.2.1;refine Juj (dL s.base) 2000000 (by rw[dL1];omega) (by omega) rfl ?_;refine Juc (JT s.base) ?_;refine Juj (dL s.base) 2000000 (by rw[dL1];omega) (by omega) rfl ?_;refine Juj (dL s.added) 2000000 (by rw[dL1];omega) (by omega) rfl ?_;refine Juc (JT s.added) ?_;refine Juj (dL s.added) 2000000 (by rw[dL1];omega) (by omega) rfl ?_;exact Jur (vs:=[.l (dDs s.done)]) (Zd s.done ⟨hs.2.2.1,hs.2.2.2⟩) rfl rfl rfl (Jue rfl)
theorem JgT (c:Int) (l:List Int) (hl:l.length≤2000000):Ev L f_k5e [dI c,.s (dL l)] [dI c,.s (dL l)] :=
 JuA (vs:=[.i c,.l (dL l)]) L_k5e rfl (Jur (vs:=[.l (dL l)]) (Ys l hl) rfl rfl rfl (Jue rfl))
theorem Jnr (l:List Don) (hl:Wd YX l):Ev L f_k5f [.s (dDs l)] [.s (dDs l)]:=by
 refine JuA (vs:=[.l (dDs l)]) L_k5f rfl ?_;have hl0:=hl.1;refine Jt3 l.length (fun i=>[.l (dDs (l.take i)),.i i]) (fun _=>True) rfl rfl trivial fun i hi _=>?_;simp only[sC,sN];refine JtY i (Xn l) rfl (fun h=>?_) (fun h=>Juk (Jue ?_))
 ·obtain⟨x,hx,hm⟩:=sA1 h;have hg:(dDs l)[i]? = some x.g:=mA1 (f:=Don.g) hx;refine Juo (vs:=[.i x.seq,.i x.code,.l (dL x.tells)]) i hg rfl rfl rfl rfl ?_;refine Jur (vs:=[.i x.code,.l (dL x.tells)]) (JgT x.code x.tells (hl.2 x hm)) rfl rfl rfl ?_;simp only[sC,sN];refine Juv (KL dI (fun _=>rfl) x.tells) ?_;refine Jus (dDs (l.take i)) 2000000 (by rw[Xn,JuS];omega) (by omega) rfl ?_;refine Jt4 (vs:=[.l (dDs (l.take (i+1))),.i ((i+1:Nat):Int)]) ?_ ⟨h,rfl,trivial⟩;show [V.l (dDs (l.take i)++[x.g]),V.i (i64.wrap ((i:Int)+1))]=_;rw[wS h (by omega),tS1 hx];simp only[dDs,List.map_append,JuL,List.map_nil]
 ·show [D.s (dDs (l.take i))]=_;rw[tA1 h]
end Go.Proofs.YtofcmnglieaoeabGreatDoor

import Derived.Test.YtofcmnglieaoeabGreatDoorPZR
set_option linter.unusedVariables false
set_option linter.unusedSimpArgs false
/- Results,calls,what was done,messages: which of them are ok. -/
namespace Go.Proofs.YtofcmnglieaoeabGreatDoor
open Go Go.Tm
open Go.IntKind (i64)
theorem JhI (n:Int) (h0 : -999999999999≤n) (h1:n≤999999999999):Ev L f_k1a [dI n] [Q6 (Lib.itoa n)]:=by
 refine JuP L_k1a ?_;show (Jcj (dI n)).map _=_;rw[show Jcj (dI n)=some n by show (if _ then some n else none)=_;rw[if_pos (by omega)]];rfl
theorem Jj6 {t:List Int} {i:Nat} {x:Int} (h:t[i]? = some x):Qx (t.take (i+1))=Qx (t.take i)++[32]++Lib.itoa x:=by
 unfold Qx;rw[tS1 h,List.flatMap_append];simp only[List.flatMap_cons,List.flatMap_nil,List.append_nil,List.append_assoc,List.singleton_append]
theorem JiF (c:Int) (t:List Int) (ht:t.length≤2000000):Ev L f_k1b [dI c,.s (dL t)] [Q6 (K9 c t)]:=by
 refine JuM (vs:=[.i c,.l (dL t)]) L_k1b rfl ?_;have no:JM c t=false→([Q6 []]:List D)=[Q6 (K9 c t)]:=fun h=>by simp[K9,h]
 refine Juc (JQ c 1 3) rfl rfl rfl ?_;refine JuE (inB c 1 3) rfl (fun h=>JuC (no (by simp[JM,h]))) (fun h1=>?_);obtain⟨w1,_,w3⟩:=Jgm h1;have hidx:(Qt.map Q6)[c.toNat]? = some (Q6 (Qt.getD c.toNat [])):=by rw[Jvc,w1];rfl
 have hc0:0≤c:=by unfold inB at h1;simp only[JuR,decide_eq_true_eq] at h1;omega
 have hc4:c<4:=by unfold inB at h1;simp only[JuR,decide_eq_true_eq] at h1;omega
 have hal:=Xv t t.length 999999999999 ht (by omega) (by omega);have six:6<t.length→JM c t=false:=fun h=>by simp only[JM,show ¬t.length≤6 by omega,decide_false,Bool.false_and,Bool.and_false]
 have ok:t.length≤6→(c=1∨t=[])→JJ t.length 999999999999 t=true→JM c t=true:=fun h2 h3 h4=>Yz.2 ⟨by unfold inB at h1;simp only[JuR,decide_eq_true_eq] at h1;omega,h2,h3,(Jp.1 h4).2⟩;refine JuE (decide (c=1)) rfl (fun h3=>?_) (fun h3=>?_)
 ·refine JuB (0<((dL t).length:Int)) rfl (fun h=>JuC (no ?_)) (fun h4=>?_)
  ·rw[dL1] at h;have:t.isEmpty=false:=by cases t with
    | nil=>simp at h
    | cons x t=>rfl
   simp only[JM,h3,this,Bool.or_false,Bool.false_and,Bool.and_false]
  rw[dL1] at h4;have h4:t=[]:=List.length_eq_zero_iff.1 (by omega);refine JuB (6<((dL t).length:Int)) rfl (fun h=>JuC (no (six (by rw[dL1] at h;omega)))) (fun h2=>?_);rw[dL1] at h2;refine Juc hal rfl (by show [D.s (dL t),dI ((dL t).length:Int),dI 999999999999]=_;rw[dL1]) rfl ?_;refine JuE (JJ t.length 999999999999 t) rfl (fun h=>JuC (no (by simp only[JM,h,Bool.and_false]))) (fun h5=>?_);have hok:=ok (by omega) (.inr h4) h5;have hl:=(Jp.1 h5).2;have e:Q6 (K9 c t)=Q6 (Qt.getD c.toNat []++Qx t):=by simp only[K9,hok,if_true]
  rw[e];refine Juz (0≤c) rfl hc0 (Juz (c<4) rfl hc4 ?_);refine Jui (ds:=Qt.map Q6) c rfl rfl rfl hc0 hidx rfl ?_;subst h4;refine Juh (fun _ vs=>vs=[.d (Q6 (Qt.getD c.toNat [])),.i 0]) rfl 0 rfl ?_;rintro m _ rfl;refine Jul rfl (JuJ (JuC ?_));show [Q6 (Qt.getD c.toNat [])]=[Q6 (Qt.getD c.toNat []++Qx [])];rw[show Qx []=[] from rfl,List.append_nil]
 ·refine JuB (6<((dL t).length:Int)) rfl (fun h=>JuC (no (six (by rw[dL1] at h;omega)))) (fun h2=>?_);rw[dL1] at h2;refine Juc hal rfl (by show [D.s (dL t),dI ((dL t).length:Int),dI 999999999999]=_;rw[dL1]) rfl ?_;refine JuE (JJ t.length 999999999999 t) rfl (fun h=>JuC (no (by simp only[JM,h,Bool.and_false]))) (fun h5=>?_);have hok:=ok (by omega) (.inl (by simpa using h3)) h5;have hl:=(Jp.1 h5).2;have e:Q6 (K9 c t)=Q6 (Qt.getD c.toNat []++Qx t):=by simp only[K9,hok,if_true]
  rw[e];refine Juz (0≤c) rfl hc0 (Juz (c<4) rfl hc4 ?_);refine Jui (ds:=Qt.map Q6) c rfl rfl rfl hc0 hidx rfl ?_;generalize Qt.getD c.toNat []=wd at *;refine Jut t.length (fun i=>[.d (Q6 (wd++Qx (t.take i))),.i i]) (fun _=>True) rfl ?_ trivial fun i hi _=>?_
  ·show [V.d (Q6 wd),V.i 0]=_;rw[List.take_zero,show Qx []=[] from rfl,List.append_nil];rfl
  simp only[sC,sN];refine JuF i (dL1 t) rfl (fun h=>?_) (fun h=>JuJ (JuC ?_))
  ·obtain⟨x,hx,hm⟩:=sA1 h;have hxb:=hl x hm;have hj:=Jem (t.take i) fun m hm=>hl m (Jvf hm);rw[Ju6,Nat.min_eq_left (by omega)] at hj;have hxl:=Lib.itoa_length_le x (by omega) (by omega);refine JuI rfl (Jcx (a:=wd++Qx (t.take i)) (b:=[32]) (by simp;omega)) rfl ?_;refine Jud i (mA1 (f:=dI) hx) rfl rfl rfl rfl ?_;refine Juc (JhI x (by omega) (by omega)) rfl rfl rfl ?_;refine JuI rfl (Jcx (a:=wd++Qx (t.take i)++[32]) (b:=Lib.itoa x) (by simp;omega)) rfl ?_;refine JuK (vs:=[.d (Q6 (wd++Qx (t.take (i+1)))),.i ((i+1:Nat):Int)]) ?_ ⟨h,rfl,trivial⟩;show [V.d (Q6 (wd++Qx (t.take i)++[32]++Lib.itoa x)),V.i (i64.wrap ((i:Int)+1))]=_;rw[wS h (by omega),Jj6 hx];simp only[List.append_assoc]
  ·show [Q6 (wd++Qx (t.take i))]=_;rw[tA1 h]
theorem Jbz (c:Int) (t:List Int) (ht:t.length≤2000000):Ev L f_k1c [dI c,.s (dL t)] [dB (JM c t)]:=by
 refine JuM (vs:=[.i c,.l (dL t)]) L_k1c rfl ?_;refine Juc (JiF c t ht) rfl rfl rfl ?_;refine JuI rfl (JkK (K9 c t) []) rfl (JuC ?_);show [dB (!(K9 c t == []))]=_;rw[JdN,Bool.not_not]
def Jl (p:Pln) (c:Cal):Bool:=inB c.client 0 (p.n-1)&&(inB c.seq 1 300&&(inB c.act 0 ((p.acts.length:Int)-1)&&Xc c.args))
theorem Jab {n:Nat} (h:n≤2000000):i64.wrap ((n:Int)-1)=(n:Int)-1:=w64 (by omega) (by omega)
theorem Qu (p:Pln) (c:Cal) (hp:JR p) (h1:1≤p.n) (h2:p.n≤4) (hc:YS c):Ev L f_k19 (p.cells++c.cells) [dB (Jl p c)]:=by
 refine JuM (vs:=[.i p.n,.l (Jc p.acts),.l (dL p.gives),.l (dL p.start),.i c.client,.i c.seq,.i c.act,.l (dL c.args)]) L_k19 rfl ?_;have w1:i64.wrap (p.n-1)=p.n-1:=w64 (by omega) (by omega);have w2:i64.wrap (((Jc p.acts).length:Int)-1)=(p.acts.length:Int)-1:=by rw[JO];exact Jab hp.1.1
 refine Juc (JQ c.client 0 (p.n-1)) rfl (by show [dI c.client,dI 0,dI (i64.wrap (p.n-1))]=_;rw[w1]) rfl ?_;refine Jup (inB c.client 0 (p.n-1)) rfl (fun a=>?_) (fun a=>JuC (by show [dB false]=_;simp[Jl,a]));refine Juc (JQ c.seq 1 300) rfl rfl rfl ?_;refine Jup (inB c.seq 1 300) rfl (fun b=>?_) (fun b=>JuC (by show [dB false]=_;simp[Jl,b]));refine Juc (JQ c.act 0 ((p.acts.length:Int)-1)) rfl (by show [dI c.act,dI 0,dI (i64.wrap (((Jc p.acts).length:Int)-1))]=_;rw[w2]) rfl ?_;refine Jup (inB c.act 0 ((p.acts.length:Int)-1)) rfl (fun d=>?_) (fun d=>JuC (by show [dB false]=_;simp[Jl,d]));refine Juc (JjL c.args hc) rfl rfl rfl (JuC ?_);show [dB (Xc c.args)]=_;simp[Jl,a,b,d]
theorem Jii (p:Pln) (k:Int) (h1:1≤p.n) (h2:p.n≤4):Ev L f_k4v (p.cells++[dI k]) [dB (inB k 0 (p.n-1))]:=by
 refine JuM (vs:=[.i p.n,.l (Jc p.acts),.l (dL p.gives),.l (dL p.start),.i k]) L_k4v rfl ?_;have w1:i64.wrap (p.n-1)=p.n-1:=w64 (by omega) (by omega);exact Juc (Ye k 0 (p.n-1)) rfl (by show [dI k,dI 0,dI (i64.wrap (p.n-1))]=_;rw[w1]) rfl (JuC rfl)
theorem Jbw (p:Pln) (k:Int) (hp:JR p):Ev L f_k5w (p.cells++[dI k]) [dB (inB k 0 ((p.gives.length:Int)-1))]:=by
 refine JuM (vs:=[.i p.n,.l (Jc p.acts),.l (dL p.gives),.l (dL p.start),.i k]) L_k5w rfl ?_;have w1:i64.wrap (((dL p.gives).length:Int)-1)=(p.gives.length:Int)-1:=by rw[dL1];exact Jab hp.2.1
 exact Juc (Ye k 0 ((p.gives.length:Int)-1)) rfl (by show [dI k,dI 0,dI (i64.wrap (((dL p.gives).length:Int)-1))]=_;rw[w1]) rfl (JuC rfl)
theorem Jfi (p:Pln) (c:Cal) (hp:JR p) (h1:1≤p.n) (h2:p.n≤4) (hc:YS c):Ev L f_k4x (p.cells++c.cells) [dB (Jl p c)]:=by
 refine JuM (vs:=[.i p.n,.l (Jc p.acts),.l (dL p.gives),.l (dL p.start),.i c.client,.i c.seq,.i c.act,.l (dL c.args)]) L_k4x rfl ?_;have w2:i64.wrap (((Jc p.acts).length:Int)-1)=(p.acts.length:Int)-1:=by rw[JO];exact Jab hp.1.1
 refine Juc (Jii p c.client h1 h2) rfl rfl rfl ?_;refine Jup (inB c.client 0 (p.n-1)) rfl (fun a=>?_) (fun a=>JuC (by show [dB false]=_;simp[Jl,a]));refine Juc (Ye c.act 0 ((p.acts.length:Int)-1)) rfl (by show [dI c.act,dI 0,dI (i64.wrap (((Jc p.acts).length:Int)-1))]=_;rw[w2]) rfl ?_;refine Jup (inB c.act 0 ((p.acts.length:Int)-1)) rfl (fun d=>?_) (fun d=>JuC (by show [dB false]=_;simp[Jl,d]));refine Juc (Ye c.seq 1 300) rfl rfl rfl ?_;refine Jup (inB c.seq 1 300) rfl (fun b=>?_) (fun b=>JuC (by show [dB false]=_;simp[Jl,b]));refine Juc (Jod c.args hc) rfl rfl rfl (JuC ?_);show [dB (Xc c.args)]=_;simp[Jl,a,b,d]
theorem Yx (n:Nat) {m:Nat} (h:m=n):decide ((m:Int)=0)=decide (n=0):=by subst h;simp
def Xp (c:Cal):Bool:=decide (c.client=0)&&(decide (c.seq=0)&&(decide (c.act=0)&&decide (c.args.length=0)))
theorem Jo2 (c:Cal):Ev L f_k5v c.cells [dB (Xp c)]:=by
 refine JuM (vs:=[.i c.client,.i c.seq,.i c.act,.l (dL c.args)]) L_k5v rfl ?_;refine JuB (c.client=0) rfl (fun a=>?_) (fun a=>JuC (by show [dB false]=_;simp[Xp,a]));refine JuB (c.seq=0) rfl (fun b=>?_) (fun b=>JuC (by show [dB false]=_;simp[Xp,b]));refine JuB (c.act=0) rfl (fun d=>JuC ?_) (fun d=>JuC (by show [dB false]=_;simp[Xp,d]));show [dB (decide (((dL c.args).length:Int)=0))]=_;rw[Yx c.args.length (dL1 _)];simp[Xp,a,b,d]
def Xo (d:Don):Bool:=if d.seq=0 then decide (d.code=0)&&decide (d.tells.length=0) else inB d.seq 1 300&&JM d.code d.tells
def JX (n:Int) (l:List Don):Bool:=decide ((l.length:Int)=n)&&l.all Xo
def QO (n:Int) (l:List Int):Bool:=decide ((l.length:Int)=n)&&l.all fun x=>inB x 0 300
theorem Xj (l:List Don):(dDs l).length=l.length:=by simp[dDs]
theorem JeM (p:Pln) (l:List Int) (hl:l.length≤2000000):Ev L f_k1n (p.cells++[.s (dL l)]) [dB (QO p.n l)]:=by
 refine JuM (vs:=[.i p.n,.l (Jc p.acts),.l (dL p.gives),.l (dL p.start),.l (dL l)]) L_k1n rfl ?_;refine JuE (decide ((l.length:Int)=p.n)) (by show (!decide (((dL l).length:Int)=p.n))=_;rw[dL1]) (fun h=>JuC (by show [dB false]=_;simp only[QO,h,Bool.false_and])) (fun h=>?_);refine Jut l.length (fun i=>[.i i]) (fun i=>((l.take i).all fun x=>inB x 0 300)=true) rfl rfl rfl fun i hi hq=>?_;simp only[sC,sN];refine JuF i (dL1 l) rfl (fun h'=>?_) (fun h'=>JuJ (JuC ?_))
 ·obtain⟨x,hx,_⟩:=sA1 h';refine Jud i (mA1 (f:=dI) hx) rfl rfl rfl rfl ?_;refine Juc (JQ x 0 300) rfl rfl rfl ?_;refine JuE (inB x 0 300) rfl (fun b=>JuJ (JuC ?_)) (fun b=>JuK (vs:=[.i ((i+1:Nat):Int)]) (by rw[←wS h' (by omega)];rfl) ⟨h',rfl,by show ((l.take (i+1)).all fun x=>inB x 0 300)=true;rw[tS1 hx,List.all_append,hq];simp[b]⟩);show [dB false]=_;have:(l.all fun x=>inB x 0 300)=false:=by rw[←List.take_append_drop i l,List.all_append,XH hx];simp[b]
  simp[QO,this]
 ·show [dB true]=_;rw[tA1 h'] at hq;simp[QO,h,hq]
theorem Jb5 {d:Don} (hs:inB d.seq 0 300=true):Xo d=if decide (d.seq=0)=decide (d.code=0) then(if d.seq=0 then decide (d.tells.length=0) else JM d.code d.tells) else false:=by
 unfold Xo
 by_cases h:d.seq=0
 ·rw[if_pos h,if_pos h]
  by_cases h2:d.code=0 <;> simp[h,h2]
 ·rw[if_neg h,if_neg h];have hin:inB d.seq 1 300=true:=by unfold inB at hs ⊢;simp only[JuR,decide_eq_true_eq] at hs ⊢;omega
  by_cases h2:d.code=0
  ·have:JM d.code d.tells=false:=by unfold JM inB;simp[h2]
   simp[h,h2,this,JM,inB]
  ·simp[h,h2,hin]
theorem Jbd (p:Pln) (l:List Don) (hl:UN YZ l):Ev L f_k1j (p.cells++[.s (dDs l)]) [dB (JX p.n l)]:=by
 refine JuM (vs:=[.i p.n,.l (Jc p.acts),.l (dL p.gives),.l (dL p.start),.l (dDs l)]) L_k1j rfl ?_;have hl0:=hl.1;refine JuE (decide ((l.length:Int)=p.n)) (by show (!decide (((dDs l).length:Int)=p.n))=_;rw[Xj]) (fun h=>JuC (by show [dB false]=_;simp only[JX,h,Bool.false_and])) (fun h=>?_);refine Jut l.length (fun i=>[.i i]) (fun i=>((l.take i).all Xo)=true) rfl rfl rfl fun i hi hq=>?_;simp only[sC,sN];refine JuF i (Xj l) rfl (fun h'=>?_) (fun h'=>JuJ (JuC ?_))
 ·obtain⟨x,hx,hm⟩:=sA1 h';have hg:(dDs l)[i]? = some x.g:=mA1 (f:=Don.g) hx;have bad:Xo x=false→[dB false]=[dB (JX p.n l)]:=fun hb=>by
   have:l.all Xo=false:=by rw[←List.take_append_drop i l,List.all_append,XH hx];simp[hb]
   simp[JX,this]
  have good:Xo x=true→((l.take (i+1)).all Xo)=true:=fun hb=>by rw[tS1 hx,List.all_append,hq];simp[hb]
  have nx:[V.i (i64.wrap ((i:Int)+1))]=[V.i ((i+1:Nat):Int)]:=by rw[wS h' (by omega)]
  refine Jud (vs:=[.i x.seq,.i x.code,.l (dL x.tells)]) i hg rfl rfl rfl rfl ?_;refine Juc (JQ x.seq 0 300) rfl rfl rfl ?_;simp only[sC,sN];refine JuE (inB x.seq 0 300) rfl (fun b=>JuJ (JuC (bad ?_))) (fun b=>?_)
  ·unfold Xo;rw[if_neg (by intro e;rw[e] at b;simp[inB] at b)];have:inB x.seq 1 300=false:=by
    unfold inB at b ⊢;simp only[Bool.and_eq_false_iff,decide_eq_false_iff_not] at b ⊢;omega
   simp[this]
  have hc:=Jb5 b;refine Jud (vs:=[.i x.seq,.i x.code,.l (dL x.tells)]) i hg rfl rfl rfl rfl ?_;refine Jud (vs:=[.i x.seq,.i x.code,.l (dL x.tells)]) i hg rfl rfl rfl rfl ?_;simp only[sC,sN];refine JuE (decide (x.seq=0) == decide (x.code=0)) rfl (fun e=>JuJ (JuC (bad ?_))) (fun e=>?_)
  ·rw[hc,if_neg (by simpa using e)]
  rw[if_pos (by simpa using e)] at hc;refine Jud (vs:=[.i x.seq,.i x.code,.l (dL x.tells)]) i hg rfl rfl rfl rfl ?_;simp only[sC,sN];refine JuB (x.seq=0) rfl (fun h0=>?_) (fun h0=>?_)
  ·rw[if_pos h0] at hc;refine Jud (vs:=[.i x.seq,.i x.code,.l (dL x.tells)]) i hg rfl rfl rfl rfl ?_;simp only[sC,sN];refine JuB (0<((dL x.tells).length:Int)) rfl (fun ht=>JuJ (JuC (bad ?_))) (fun ht=>?_)
   ·rw[dL1] at ht;rw[hc];exact decide_eq_false (by omega)
   refine Jud (vs:=[.i x.seq,.i x.code,.l (dL x.tells)]) i hg rfl rfl rfl rfl ?_;simp only[sC,sN];refine Jul (by show decide ((0:Int)<x.seq)=false;rw[h0];rfl) ?_;exact JuK nx ⟨h',rfl,good (by rw[dL1] at ht;rw[hc];exact decide_eq_true (by omega))⟩
  ·rw[if_neg h0] at hc;have hpos:0<x.seq:=by unfold inB at b;simp only[JuR,decide_eq_true_eq] at b;omega
   refine Jud (vs:=[.i x.seq,.i x.code,.l (dL x.tells)]) i hg rfl rfl rfl rfl ?_;simp only[sC,sN];refine Jur (by show decide ((0:Int)<x.seq)=true;simpa using hpos) ?_;refine Jud (vs:=[.i x.seq,.i x.code,.l (dL x.tells)]) i hg rfl rfl rfl rfl ?_;refine Juc (Jbz x.code x.tells (hl.2 x hm)) rfl rfl rfl ?_;exact JuE (JM x.code x.tells) rfl (fun e=>JuJ (JuC (bad (by rw[hc,e])))) (fun e=>JuK nx ⟨h',rfl,good (by rw[hc,e])⟩)
 ·show [dB true]=_;rw[tA1 h'] at hq;simp[JX,h,hq]
theorem Ji6 (x:Int):Ev L f_k58 [dI x] [dB (!inB x 0 300)] :=
 JuM (vs:=[.i x]) L_k58 rfl (Juc (Ye x 0 300) rfl rfl rfl (JuC rfl))
theorem Je1 (p:Pln) (l:List Int) (hl:l.length≤2000000):Ev L f_k59 (p.cells++[.s (dL l)]) [dB (QO p.n l)]:=by
 refine JuM (vs:=[.i p.n,.l (Jc p.acts),.l (dL p.gives),.l (dL p.start),.l (dL l)]) L_k59 rfl ?_;refine JuB ((l.length:Int)=p.n) (by show decide (((dL l).length:Int)=p.n)=_;rw[dL1]) (fun h=>?_) (fun h=>JuC (by show [dB false]=_;simp[QO,h]));refine Juc (VO (fun x=>!inB x 0 300) l (fn:=f_k58) (caps:=[]) hl rfl rfl fun x _=>Ji6 x) rfl rfl rfl (JuC ?_);show [dB (!(l.any fun x=>!inB x 0 300))]=_;rw[UF];simp[QO,h]
theorem JnS (d:Don) (hd:YZ d):Ev L f_k4s d.cells [dB (Xo d)]:=by
 refine JuM (vs:=[.i d.seq,.i d.code,.l (dL d.tells)]) L_k4s rfl ?_;refine JuB (d.seq=0) rfl (fun h=>?_) (fun h=>?_)
 ·refine Juc (ds:=[dB (decide (d.code=0)&&decide (d.tells.length=0))]) (JuM (vs:=[.i d.code,.l (dL d.tells)]) L_k4n rfl ?_) rfl rfl rfl (JuC (by rw[Xo,if_pos h];rfl));refine JuB (d.code=0) rfl (fun a=>JuC ?_) (fun a=>JuC (by show [dB false]=_;simp[a]));show [dB (decide (((dL d.tells).length:Int)=0))]=_;rw[Yx d.tells.length (dL1 _)];simp[a]
 ·refine Juc (Ye d.seq 1 300) rfl rfl rfl ?_;refine Jup (inB d.seq 1 300) rfl (fun a=>?_) (fun a=>JuC (by show [dB false]=_;simp[Xo,h,a]));refine Juc (JmL d.code d.tells hd) rfl rfl rfl (JuC ?_);show [dB (JM d.code d.tells)]=_;simp[Xo,h,a]
theorem Jjf (d:Don) (hd:YZ d):Ev L f_k4t d.cells [dB (!Xo d)] :=
 JuM (vs:=[.i d.seq,.i d.code,.l (dL d.tells)]) L_k4t rfl (Juc (JnS d hd) rfl rfl rfl (JuC rfl))
theorem Jnb (q:Don→Bool) (l:List Don) {fn:FuncId} {caps:List D} (hlen:l.length≤2000000) (hcap:XF (.f fn caps) = .f fn caps) (har:arT L fn=some ([some 3]++caps.map fun _=>none))
  (hc :∀x∈l,Ev L fn (x.cells++caps.map D.norm) [dB (q x)]):Ev L f_k4m [.s (dDs l),.f fn caps] [dB (l.any q)] :=
 YA (g := f_k4l) L_k4m rfl hcap
   (Y5 (sh:= .g [.i .i64,.i .i64,.s]) (as:=[(.vi .i64 (.v 3)),(.vi .i64 (.v 4)),(.s (.v 5))]) (ar:=[some 3]) (k:=6) Don.g q Don.cells (fun x=>[.i x.seq,.i x.code,.l (dL x.tells)]) l
     L_k4l rfl hlen hcap (fun _ _=>rfl) (fun _ _=>rfl) (fun _ _ _ _=>rfl) har hc)
theorem JeR (p:Pln) (l:List Don) (hl:UN YZ l):Ev L f_k4u (p.cells++[.s (dDs l)]) [dB (JX p.n l)]:=by
 refine JuM (vs:=[.i p.n,.l (Jc p.acts),.l (dL p.gives),.l (dL p.start),.l (dDs l)]) L_k4u rfl ?_;refine JuB ((l.length:Int)=p.n) (by show decide (((dDs l).length:Int)=p.n)=_;rw[Xj]) (fun h=>?_) (fun h=>JuC (by show [dB false]=_;simp[JX,h]));refine Juc (Jnb (fun d=>!Xo d) l (fn:=f_k4t) (caps:=[]) hl.1 rfl rfl fun x hx=>by simpa using Jjf x (hl.2 x hx)) rfl rfl rfl (JuC ?_);show [dB (!(l.any fun d=>!Xo d))]=_;rw[UF];simp[JX,h]
/- The program's MsgOk answers as the reference's: over residual programs. -/
def em (n:Nat):Bool:=decide (n=0)
def XO (x:Msg) (c v s d:Bool):Bool:=(c||Xp x.call)&&((v||em x.vals.length)&&((s||em x.seqs.length)&&(d||em x.done.length)))
theorem VP (x:Msg) (c v s d:Bool):Ev L f_k1m (x.cells++[dB c,dB v,dB s,dB d]) [dB (XO x c v s d)]:=by
 refine JuM (vs:=[.i x.kind,.i x.to,.i x.frm,.i x.round,.i x.call.client,.i x.call.seq,.i x.call.act,.l (dL x.call.args),.l (dL x.vals),.l (dL x.seqs),.l (dDs x.done),.b c,.b v,.b s,.b d]) L_k1m rfl ?_;have ea:decide (((dL x.call.args).length:Int)=0)=em x.call.args.length:=Yx _ (dL1 _);have ev:decide (((dL x.vals).length:Int)=0)=em x.vals.length:=Yx _ (dL1 _);have es:decide (((dL x.seqs).length:Int)=0)=em x.seqs.length:=Yx _ (dL1 _);have ed:decide (((dDs x.done).length:Int)=0)=em x.done.length:=Yx _ (Xj _);have hn:Xp x.call=(decide (x.call.client=0)&&(decide (x.call.seq=0)&&(decide (x.call.act=0)&&em x.call.args.length))):=rfl;have fin :∀b,b=XO x c v s d→[dB b]=[dB (XO x c v s d)]:=fun b h=>by rw[h]
 have ed2:([dB (decide (((dDs x.done).length:Int)=0))]:List D)=[dB (em x.done.length)]:=by rw[ed]
 unfold XO at fin ⊢;rw[hn] at fin ⊢;generalize em x.call.args.length=ba at *;generalize em x.vals.length=bv at *;generalize em x.seqs.length=bs at *;generalize em x.done.length=bd at *;clear hn;generalize hb1:decide (x.call.client=0)=b1 at *;generalize hb2:decide (x.call.seq=0)=b2 at *;generalize hb3:decide (x.call.act=0)=b3 at *
 repeat' (first
  | exact JuC (fin true (by simp only[*,Bool.and_true,Bool.or_true,Bool.true_or,Bool.and_self,Bool.or_self]))
  | exact JuC (fin false (by simp only[*,Bool.and_false,Bool.false_and,Bool.or_self,Bool.or_false,Bool.false_or,Jvb,Bool.and_true,Bool.true_or,Bool.or_true,Bool.and_self]))
  | exact JuC (ed2.trans (fin _ (by simp only[*,Bool.or_self,Bool.or_false,Bool.false_or,Jvb,Bool.and_true,Bool.true_or,Bool.or_true,Bool.and_self])))
  | refine Jup c rfl (fun h=>?_) (fun h=>?_)
  | refine Jup v rfl (fun h=>?_) (fun h=>?_)
  | refine Jup s rfl (fun h=>?_) (fun h=>?_)
  | refine Jup d rfl (fun h=>?_) (fun h=>?_)
  | refine Jup ba ea (fun h=>?_) (fun h=>?_)
  | refine Jup bv ev (fun h=>?_) (fun h=>?_)
  | refine Jup bs es (fun h=>?_) (fun h=>?_)
  | refine Jup b1 hb1 (fun h=>?_) (fun h=>?_)
  | refine Jup b2 hb2 (fun h=>?_) (fun h=>?_)
  | refine Jup b3 hb3 (fun h=>?_) (fun h=>?_))
def XK (p:Pln) (k:Int):Bool:=inB k 0 ((p.gives.length:Int)-1)
def JC (p:Pln) (x:Msg):Bool:=inB x.round 0 200&&(
 if x.kind=1 then decide (x.to = -1)&&(decide (x.frm=0)&&(decide (x.round=0)&&(Jl p x.call&&XO x true false false false)))
 else if x.kind=2 then XK p x.to&&(decide (x.frm=0)&&XO x false false false false)
 else if x.kind=3 then decide (x.to = -1)&&(XK p x.frm&&(JJ 3 20000 x.vals&&(QO p.n x.seqs&&XO x false true true false)))
 else if x.kind=4 then XK p x.to&&(decide (x.frm=0)&&(JS x.vals&&(JX p.n x.done&&XO x false true false true)))
 else false)
theorem Jde (p:Pln) (k:Int) (hp:JR p):Ev L f_k7 [dI k,dI 0,dI (i64.wrap (((dL p.gives).length:Int)-1))] [dB (XK p k)]:=by
 rw[dL1,Jab hp.2.1];exact JQ k 0 _
theorem JpH (p:Pln) (x:Msg) (hp:JR p) (h1:1≤p.n) (h2:p.n≤4) (hx:Zb x):Ev L f_k1o (p.cells++x.cells) [dB (JC p x)]:=by
 refine JuM (vs:=[.i p.n,.l (Jc p.acts),.l (dL p.gives),.l (dL p.start),.i x.kind,.i x.to,.i x.frm,.i x.round,.i x.call.client,.i x.call.seq,.i x.call.act,.l (dL x.call.args),.l (dL x.vals),.l (dL x.seqs),.l (dDs x.done)]) L_k1o rfl ?_;refine Juc (JQ x.round 0 200) rfl rfl rfl ?_;refine JuE (inB x.round 0 200) rfl (fun a=>JuC (by show [dB false]=_;simp[JC,a])) (fun a=>?_);refine JuB (x.kind=1) rfl (fun k1=>?_) (fun k1=>?_)
 ·have e:JC p x=(decide (x.to = -1)&&(decide (x.frm=0)&&(decide (x.round=0)&&(Jl p x.call&&XO x true false false false)))):=by unfold JC;rw[if_pos k1,a,Jvb]
  rw[e];refine Jup (decide (x.to = -1)) rfl (fun b=>?_) (fun b=>JuC (by show [dB false]=_;simp[b]));refine Jup (decide (x.frm=0)) rfl (fun c=>?_) (fun b=>JuC (by show [dB false]=_;simp[b]));refine Jup (decide (x.round=0)) rfl (fun d=>?_) (fun b=>JuC (by show [dB false]=_;simp[b]));refine Juc (Qu p x.call hp h1 h2 hx.1) rfl rfl rfl ?_;refine Jup (Jl p x.call) rfl (fun f=>?_) (fun b=>JuC (by show [dB false]=_;simp[b]));refine Juc (VP x true false false false) rfl rfl rfl (JuC ?_);rw[b,c,d,f];rfl
 refine JuB (x.kind=2) rfl (fun k2=>?_) (fun k2=>?_)
 ·have e:JC p x=(XK p x.to&&(decide (x.frm=0)&&XO x false false false false)):=by unfold JC;rw[if_neg k1,if_pos k2,a,Jvb]
  rw[e];refine Juc (Jde p x.to hp) rfl rfl rfl ?_;refine Jup (XK p x.to) rfl (fun b=>?_) (fun b=>JuC (by show [dB false]=_;simp[b]));refine Jup (decide (x.frm=0)) rfl (fun c=>?_) (fun b=>JuC (by show [dB false]=_;simp[b]));refine Juc (VP x false false false false) rfl rfl rfl (JuC ?_);rw[b,c];rfl
 refine JuB (x.kind=3) rfl (fun k3=>?_) (fun k3=>?_)
 ·have e:JC p x=(decide (x.to = -1)&&(XK p x.frm&&(JJ 3 20000 x.vals&&(QO p.n x.seqs&&XO x false true true false)))):=by unfold JC;rw[if_neg k1,if_neg k2,if_pos k3,a,Jvb]
  rw[e];refine Jup (decide (x.to = -1)) rfl (fun b=>?_) (fun b=>JuC (by show [dB false]=_;simp[b]));refine Juc (Jde p x.frm hp) rfl rfl rfl ?_;refine Jup (XK p x.frm) rfl (fun c=>?_) (fun b=>JuC (by show [dB false]=_;simp[b]));refine Juc (Xv x.vals 3 20000 hx.2.1 (by omega) (by omega)) rfl rfl rfl ?_;refine Jup (JJ 3 20000 x.vals) rfl (fun d=>?_) (fun b=>JuC (by show [dB false]=_;simp[b]));refine Juc (JeM p x.seqs hx.2.2.1) rfl rfl rfl ?_;refine Jup (QO p.n x.seqs) rfl (fun f=>?_) (fun b=>JuC (by show [dB false]=_;simp[b]));refine Juc (VP x false true true false) rfl rfl rfl (JuC ?_);rw[b,c,d,f];rfl
 refine JuB (x.kind=4) rfl (fun k4=>?_) (fun k4=>JuC (by show [dB false]=_;simp[JC,k1,k2,k3,k4]));have e:JC p x=(XK p x.to&&(decide (x.frm=0)&&(JS x.vals&&(JX p.n x.done&&XO x false true false true)))):=by unfold JC;rw[if_neg k1,if_neg k2,if_neg k3,if_pos k4,a,Jvb]
 rw[e];refine Juc (Jde p x.to hp) rfl rfl rfl ?_;refine Jup (XK p x.to) rfl (fun b=>?_) (fun b=>JuC (by show [dB false]=_;simp[b]));refine Jup (decide (x.frm=0)) rfl (fun c=>?_) (fun b=>JuC (by show [dB false]=_;simp[b]));refine Juc (Y6 x.vals hx.2.1) rfl rfl rfl ?_;refine Jup (JS x.vals) rfl (fun d=>?_) (fun b=>JuC (by show [dB false]=_;simp[b]));refine Juc (Jbd p x.done hx.2.2.2) rfl rfl rfl ?_;refine Jup (JX p.n x.done) rfl (fun f=>?_) (fun b=>JuC (by show [dB false]=_;simp[b]));refine Juc (VP x false true false true) rfl rfl rfl (JuC ?_);rw[b,c,d,f];rfl
theorem Joc (p:Pln) (x:Msg) (hp:JR p) (h1:1≤p.n) (h2:p.n≤4) (hx:Zb x):Ev L f_k5x (p.cells++x.cells) [dB (JC p x)]:=by
 refine JuM (vs:=[.i p.n,.l (Jc p.acts),.l (dL p.gives),.l (dL p.start),.i x.kind,.i x.to,.i x.frm,.i x.round,.i x.call.client,.i x.call.seq,.i x.call.act,.l (dL x.call.args),.l (dL x.vals),.l (dL x.seqs),.l (dDs x.done)]) L_k5x rfl ?_;have ev:decide (((dL x.vals).length:Int)=0)=em x.vals.length:=Yx _ (dL1 _);have es:decide (((dL x.seqs).length:Int)=0)=em x.seqs.length:=Yx _ (dL1 _);have ed:decide (((dDs x.done).length:Int)=0)=em x.done.length:=Yx _ (Xj _);refine Juc (Jo2 x.call) rfl rfl rfl ?_;refine Juc (Ye x.round 0 200) rfl rfl rfl ?_;have z0:x.round=0→inB x.round 0 200=true:=fun h=>by rw[h];rfl
 refine JuB (x.kind=1) rfl (fun k1=>?_) (fun k1=>?_)
 ·have e:JC p x=(inB x.round 0 200&&(decide (x.to = -1)&&(decide (x.frm=0)&&(decide (x.round=0)&&(Jl p x.call&&(em x.vals.length&&(em x.seqs.length&&em x.done.length))))))):=by
   unfold JC;rw[if_pos k1];simp only[XO,Bool.true_or,Bool.false_or,Jvb]
  rw[e];refine Juc (Jfi p x.call hp h1 h2 hx.1) rfl rfl rfl ?_;refine Jup (decide (x.to = -1)) rfl (fun b=>?_) (fun b=>JuC (by show [dB false]=_;simp[b]));refine Jup (decide (x.frm=0)) rfl (fun c=>?_) (fun b=>JuC (by show [dB false]=_;simp[b]));refine Jup (Jl p x.call) rfl (fun f=>?_) (fun b=>JuC (by show [dB false]=_;simp[b]));refine JuB (x.round=0) rfl (fun d=>?_) (fun b=>JuC (by show [dB false]=_;simp[b]));refine Jup (em x.vals.length) ev (fun g=>?_) (fun b=>JuC (by show [dB false]=_;simp[b]));refine Jup (em x.seqs.length) es (fun h=>JuC ?_) (fun b=>JuC (by show [dB false]=_;simp[b]));show [dB (decide (((dDs x.done).length:Int)=0))]=_;rw[ed,z0 d,b,c,f,g,h,decide_eq_true d];rfl
 refine JuB (x.kind=2) rfl (fun k2=>?_) (fun k2=>?_)
 ·have e:JC p x=(inB x.round 0 200&&(XK p x.to&&(decide (x.frm=0)&&(Xp x.call&&(em x.vals.length&&(em x.seqs.length&&em x.done.length)))))):=by
   unfold JC;rw[if_neg k1,if_pos k2];simp only[XO,Bool.true_or,Bool.false_or,Jvb]
  rw[e];refine Juc (Jbw p x.to hp) rfl rfl rfl ?_;refine Jup (XK p x.to) rfl (fun b=>?_) (fun b=>JuC (by show [dB false]=_;simp[b]));refine Jup (decide (x.frm=0)) rfl (fun c=>?_) (fun b=>JuC (by show [dB false]=_;simp[b]));refine Jup (Xp x.call) rfl (fun d=>?_) (fun b=>JuC (by show [dB false]=_;simp[b]));refine Jup (inB x.round 0 200) rfl (fun a=>?_) (fun b=>JuC (by show [dB false]=_;simp[b]));refine Jup (em x.vals.length) ev (fun g=>?_) (fun b=>JuC (by show [dB false]=_;simp[b]));refine Jup (em x.seqs.length) es (fun h=>JuC ?_) (fun b=>JuC (by show [dB false]=_;simp[b]));show [dB (decide (((dDs x.done).length:Int)=0))]=_;rw[ed,a,b,c,d,g,h];rfl
 refine JuB (x.kind=3) rfl (fun k3=>?_) (fun k3=>?_)
 ·have e:JC p x=(inB x.round 0 200&&(decide (x.to = -1)&&(XK p x.frm&&(Qz x.vals&&(QO p.n x.seqs&&(Xp x.call&&em x.done.length)))))):=by
   unfold JC;rw[if_neg k1,if_neg k2,if_pos k3];simp only[XO,Bool.true_or,Bool.false_or,Jvb];rfl
  rw[e];refine Juc (Jbw p x.frm hp) rfl rfl rfl ?_;refine Juc (Jdv x.vals hx.2.1) rfl rfl rfl ?_;refine Juc (Je1 p x.seqs hx.2.2.1) rfl rfl rfl ?_;refine Jup (decide (x.to = -1)) rfl (fun b=>?_) (fun b=>JuC (by show [dB false]=_;simp[b]));refine Jup (XK p x.frm) rfl (fun c=>?_) (fun b=>JuC (by show [dB false]=_;simp[b]));refine Jup (Xp x.call) rfl (fun d=>?_) (fun b=>JuC (by show [dB false]=_;simp[b]));refine Jup (inB x.round 0 200) rfl (fun a=>?_) (fun b=>JuC (by show [dB false]=_;simp[b]));refine Jup (Qz x.vals) rfl (fun g=>?_) (fun b=>JuC (by show [dB false]=_;simp[b]));refine Jup (QO p.n x.seqs) rfl (fun h=>JuC ?_) (fun b=>JuC (by show [dB false]=_;simp[b]));show [dB (decide (((dDs x.done).length:Int)=0))]=_;rw[ed,a,b,c,d,g,h];rfl
 refine JuB (x.kind=4) rfl (fun k4=>?_) (fun k4=>JuC (by show [dB false]=_;simp[JC,k1,k2,k3,k4]));have e:JC p x=(inB x.round 0 200&&(XK p x.to&&(decide (x.frm=0)&&(JS x.vals&&(JX p.n x.done&&(Xp x.call&&em x.seqs.length)))))):=by
  unfold JC;rw[if_neg k1,if_neg k2,if_neg k3,if_pos k4];simp only[XO,Bool.true_or,Bool.false_or,Jvb,Bool.and_true]
 rw[e];refine Juc (Jbw p x.to hp) rfl rfl rfl ?_;refine Juc (Jdm x.vals hx.2.1) rfl rfl rfl ?_;refine Juc (JeR p x.done hx.2.2.2) rfl rfl rfl ?_;refine Jup (XK p x.to) rfl (fun b=>?_) (fun b=>JuC (by show [dB false]=_;simp[b]));refine Jup (decide (x.frm=0)) rfl (fun c=>?_) (fun b=>JuC (by show [dB false]=_;simp[b]));refine Jup (Xp x.call) rfl (fun d=>?_) (fun b=>JuC (by show [dB false]=_;simp[b]));refine Jup (inB x.round 0 200) rfl (fun a=>?_) (fun b=>JuC (by show [dB false]=_;simp[b]));refine Jup (JS x.vals) rfl (fun g=>?_) (fun b=>JuC (by show [dB false]=_;simp[b]));refine Jup (em x.seqs.length) es (fun h=>JuC ?_) (fun b=>JuC (by show [dB false]=_;simp[b]));show [dB (JX p.n x.done)]=_;rw[a,b,c,d,g,h];simp
def JcU (p:Pln) (x:Msg):Bool:=JE p&&JC p x
theorem JlS (p:Pln) (x:Msg) (hp:JR p) (hx:Zb x):Ev L f_k5y (p.cells++x.cells) [dB (JcU p x)]:=by
 refine JuM (vs:=[.i p.n,.l (Jc p.acts),.l (dL p.gives),.l (dL p.start),.i x.kind,.i x.to,.i x.frm,.i x.round,.i x.call.client,.i x.call.seq,.i x.call.act,.l (dL x.call.args),.l (dL x.vals),.l (dL x.seqs),.l (dDs x.done)]) L_k5y rfl ?_;refine Juc (JfT p hp) rfl rfl rfl ?_;refine Jup (JE p) rfl (fun a=>?_) (fun a=>JuC (by show [dB false]=_;simp[JcU,a]));obtain⟨n1,n2,_⟩:=J2 a;exact Juc (Joc p x hp n1 n2 hx) rfl rfl rfl (JuC (by show [dB (JC p x)]=_;simp[JcU,a]))
/- The program's SitOk and SitFree answer as the reference's: over residual programs. -/
theorem XI {p:Pln} (h:JE p=true):Qv p.acts=true:=by
 simp only[JE,JuR] at h;exact h.2.1
def Q9 (p:Pln) (b:List Int) (k:Int) (a:List Int):Bool:=keeps b p.gives (Jb p.acts) k a&&Qj (Jj p.acts) a
def Q3 (p:Pln) (s:Sit) (k:Int):Bool:=inB s.round 0 200&&(JS s.base&&(Q9 p s.base k s.added&&JX p.n s.done))
theorem JbQ (p:Pln) (s:Sit):Ev L f_k1e (p.cells++s.cells) [.s (dL s.base),.s (dL p.gives)] :=
 JuM (vs:=[.i p.n,.l (Jc p.acts),.l (dL p.gives),.l (dL p.start),.b s.up,.b s.frozen,.i s.round,.l (dL s.base),.l (dL s.added),.l (dDs s.done)]) L_k1e rfl (JuC rfl)
theorem Jpx (p:Pln) (s:Sit) (k:Int) (hp:JR p) (hs:KF s) (hc:Qv p.acts=true) :
  Ev L f_k1k (p.cells++[.s (dLL (Jb p.acts)),.s (dBl (Jj p.acts))]++s.cells++[dI k]) [dB (Q3 p s k)]:=by
 refine JuM (vs:=[.i p.n,.l (Jc p.acts),.l (dL p.gives),.l (dL p.start),.l (dLL (Jb p.acts)),.l (dBl (Jj p.acts)),.b s.up,.b s.frozen,.i s.round,.l (dL s.base),.l (dL s.added),.l (dDs s.done),.i k]) L_k1k rfl ?_;have hps:fitLL (Jb p.acts):=(Xh p.acts).fitLL (by omega);refine Juc (JQ s.round 0 200) rfl rfl rfl ?_;refine Jup (inB s.round 0 200) rfl (fun a=>?_) (fun b=>JuC (by show [dB false]=_;simp[Q3,b]));refine Juc (Y6 s.base hs.1) rfl rfl rfl ?_;refine Jup (JS s.base) rfl (fun d=>?_) (fun b=>JuC (by show [dB false]=_;simp[Q3,b]));refine Juc (JbQ p s) rfl rfl rfl ?_;refine Juc (ZD s.base p.gives (Jb p.acts) k s.added hs.1 hp.2.1 hps hs.2.1) rfl rfl rfl ?_;simp only[sC,sN];refine Jup (keeps s.base p.gives (Jb p.acts) k s.added) rfl (fun e=>?_) (fun b=>JuC (by show [dB false]=_;simp[Q3,Q9,b]));refine Juc (WH (Jj p.acts) s.added (VF hc) (VT e)) rfl rfl rfl ?_;simp only[sC,sN];refine Jup (Qj (Jj p.acts) s.added) rfl (fun f=>?_) (fun b=>JuC (by show [dB false]=_;simp[Q3,Q9,b]));refine Juc (Jbd p s.done ⟨hs.2.2.1,hs.2.2.2⟩) rfl rfl rfl (JuC ?_);show [dB (JX p.n s.done)]=_;simp[Q3,Q9,a,d,e,f]
end Go.Proofs.YtofcmnglieaoeabGreatDoor

import Derived.Test.YtofcmnglieaoeaaGreatDoorPZR
set_option linter.unusedVariables false
set_option linter.unusedSimpArgs false
/- Results,calls,what was done,messages: which of them are ok. -/
namespace Go.Proofs.YtofcmnglieaoeaaGreatDoor
open Go Go.Tm
open Go.IntKind (i64)
theorem JhE (n:Int) (h0 : -999999999999≤n) (h1:n≤999999999999):Ev L f_k1a [dI n] [Q2 (Lib.itoa n)]:=by
 refine Jun L_k1a ?_;show (Jcs (dI n)).map _=_;rw[show Jcs (dI n)=some n by show (if _ then some n else none)=_;rw[if_pos (by omega)]];rfl
theorem Jjw {t:List Int} {i:Nat} {x:Int} (h:t[i]? = some x):Qw (t.take (i+1))=Qw (t.take i)++[32]++Lib.itoa x:=by
 unfold Qw;rw[tS1 h,List.flatMap_append];simp only[List.flatMap_cons,List.flatMap_nil,List.append_nil,List.append_assoc,List.singleton_append]
theorem JhV (c:Int) (t:List Int) (ht:t.length≤2000000):Ev L f_k1b [dI c,.s (dL t)] [Q2 (K5 c t)]:=by
 refine Juq (vs:=[.i c,.l (dL t)]) L_k1b rfl ?_;have no:JK c t=false→([Q2 []]:List D)=[Q2 (K5 c t)]:=fun h=>by simp[K5,h]
 refine Jua (JQ c 1 3) rfl rfl rfl ?_;refine JtQ (inB c 1 3) rfl (fun h=>JtU (no (by simp[JK,h]))) (fun h1=>?_);obtain⟨w1,_,w3⟩:=Jhe h1;have hidx:(Qr.map Q2)[c.toNat]? = some (Q2 (Qr.getD c.toNat [])):=by rw[JuN,w1];rfl
 have hc0:0≤c:=by unfold inB at h1;simp only[Jus,decide_eq_true_eq] at h1;omega
 have hc4:c<4:=by unfold inB at h1;simp only[Jus,decide_eq_true_eq] at h1;omega
 have hal:=Xl t t.length 999999999999 ht (by omega) (by omega);have six:6<t.length→JK c t=false:=fun h=>by simp only[JK,show ¬t.length≤6 by omega,decide_false,Bool.false_and,Bool.and_false]
 have ok:t.length≤6→(c=1∨t=[])→JH t.length 999999999999 t=true→JK c t=true:=fun h2 h3 h4=>YD.2 ⟨by unfold inB at h1;simp only[Jus,decide_eq_true_eq] at h1;omega,h2,h3,(Jo.1 h4).2⟩;refine JtQ (decide (c=1)) rfl (fun h3=>?_) (fun h3=>?_)
 ·refine Jue (0<((dL t).length:Int)) rfl (fun h=>JtU (no ?_)) (fun h4=>?_)
  ·rw[dL1] at h;have:t.isEmpty=false:=by cases t with
    | nil=>simp at h
    | cons x t=>rfl
   simp only[JK,h3,this,Bool.or_false,Bool.false_and,Bool.and_false]
  rw[dL1] at h4;have h4:t=[]:=List.length_eq_zero_iff.1 (by omega);refine Jue (6<((dL t).length:Int)) rfl (fun h=>JtU (no (six (by rw[dL1] at h;omega)))) (fun h2=>?_);rw[dL1] at h2;refine Jua hal rfl (by show [D.s (dL t),dI ((dL t).length:Int),dI 999999999999]=_;rw[dL1]) rfl ?_;refine JtQ (JH t.length 999999999999 t) rfl (fun h=>JtU (no (by simp only[JK,h,Bool.and_false]))) (fun h5=>?_);have hok:=ok (by omega) (.inr h4) h5;have hl:=(Jo.1 h5).2;have e:Q2 (K5 c t)=Q2 (Qr.getD c.toNat []++Qw t):=by simp only[K5,hok,if_true]
  rw[e];refine JtY (0≤c) rfl hc0 (JtY (c<4) rfl hc4 ?_);refine Jt5 (ds:=Qr.map Q2) c rfl rfl rfl hc0 hidx rfl ?_;subst h4;refine Jt3 (fun _ vs=>vs=[.d (Q2 (Qr.getD c.toNat [])),.i 0]) rfl 0 rfl ?_;rintro m _ rfl;refine JtO rfl (Juj (JtU ?_));show [Q2 (Qr.getD c.toNat [])]=[Q2 (Qr.getD c.toNat []++Qw [])];rw[show Qw []=[] from rfl,List.append_nil]
 ·refine Jue (6<((dL t).length:Int)) rfl (fun h=>JtU (no (six (by rw[dL1] at h;omega)))) (fun h2=>?_);rw[dL1] at h2;refine Jua hal rfl (by show [D.s (dL t),dI ((dL t).length:Int),dI 999999999999]=_;rw[dL1]) rfl ?_;refine JtQ (JH t.length 999999999999 t) rfl (fun h=>JtU (no (by simp only[JK,h,Bool.and_false]))) (fun h5=>?_);have hok:=ok (by omega) (.inl (by simpa using h3)) h5;have hl:=(Jo.1 h5).2;have e:Q2 (K5 c t)=Q2 (Qr.getD c.toNat []++Qw t):=by simp only[K5,hok,if_true]
  rw[e];refine JtY (0≤c) rfl hc0 (JtY (c<4) rfl hc4 ?_);refine Jt5 (ds:=Qr.map Q2) c rfl rfl rfl hc0 hidx rfl ?_;generalize Qr.getD c.toNat []=wd at *;refine Jt7 t.length (fun i=>[.d (Q2 (wd++Qw (t.take i))),.i i]) (fun _=>True) rfl ?_ trivial fun i hi _=>?_
  ·show [V.d (Q2 wd),V.i 0]=_;rw[List.take_zero,show Qw []=[] from rfl,List.append_nil];rfl
  simp only[sC,sN];refine Jub i (dL1 t) rfl (fun h=>?_) (fun h=>Juj (JtU ?_))
  ·obtain⟨x,hx,hm⟩:=sA1 h;have hxb:=hl x hm;have hj:=Jdd (t.take i) fun m hm=>hl m (JuQ hm);rw[JuH,Nat.min_eq_left (by omega)] at hj;have hxl:=Lib.itoa_length_le x (by omega) (by omega);refine Jt1 rfl (JcE (a:=wd++Qw (t.take i)) (b:=[32]) (by simp;omega)) rfl ?_;refine JtX i (mA1 (f:=dI) hx) rfl rfl rfl rfl ?_;refine Jua (JhE x (by omega) (by omega)) rfl rfl rfl ?_;refine Jt1 rfl (JcE (a:=wd++Qw (t.take i)++[32]) (b:=Lib.itoa x) (by simp;omega)) rfl ?_;refine Juk (vs:=[.d (Q2 (wd++Qw (t.take (i+1)))),.i ((i+1:Nat):Int)]) ?_ ⟨h,rfl,trivial⟩;show [V.d (Q2 (wd++Qw (t.take i)++[32]++Lib.itoa x)),V.i (i64.wrap ((i:Int)+1))]=_;rw[wS h (by omega),Jjw hx];simp only[List.append_assoc]
  ·show [Q2 (wd++Qw (t.take i))]=_;rw[tA1 h]
theorem JbB (c:Int) (t:List Int) (ht:t.length≤2000000):Ev L f_k1c [dI c,.s (dL t)] [dB (JK c t)]:=by
 refine Juq (vs:=[.i c,.l (dL t)]) L_k1c rfl ?_;refine Jua (JhV c t ht) rfl rfl rfl ?_;refine Jt1 rfl (Jlx (K5 c t) []) rfl (JtU ?_);show [dB (!(K5 c t == []))]=_;rw[Jew,Bool.not_not]
def Jq (p:Pln) (c:Cal):Bool:=inB c.client 0 (p.n-1)&&(inB c.seq 1 300&&(inB c.act 0 ((p.acts.length:Int)-1)&&Q8 c.args))
theorem W9 {n:Nat} (h:n≤2000000):i64.wrap ((n:Int)-1)=(n:Int)-1:=w64 (by omega) (by omega)
theorem ZF (p:Pln) (c:Cal) (hp:JO p) (h1:1≤p.n) (h2:p.n≤4) (hc:UB c):Ev L f_k19 (p.cells++c.cells) [dB (Jq p c)]:=by
 refine Juq (vs:=[.i p.n,.l (Je p.acts),.l (dL p.gives),.l (dL p.start),.i c.client,.i c.seq,.i c.act,.l (dL c.args)]) L_k19 rfl ?_;have w1:i64.wrap (p.n-1)=p.n-1:=w64 (by omega) (by omega);have w2:i64.wrap (((Je p.acts).length:Int)-1)=(p.acts.length:Int)-1:=by rw[JM];exact W9 hp.1.1
 refine Jua (JQ c.client 0 (p.n-1)) rfl (by show [dI c.client,dI 0,dI (i64.wrap (p.n-1))]=_;rw[w1]) rfl ?_;refine Jt4 (inB c.client 0 (p.n-1)) rfl (fun a=>?_) (fun a=>JtU (by show [dB false]=_;simp[Jq,a]));refine Jua (JQ c.seq 1 300) rfl rfl rfl ?_;refine Jt4 (inB c.seq 1 300) rfl (fun b=>?_) (fun b=>JtU (by show [dB false]=_;simp[Jq,b]));refine Jua (JQ c.act 0 ((p.acts.length:Int)-1)) rfl (by show [dI c.act,dI 0,dI (i64.wrap (((Je p.acts).length:Int)-1))]=_;rw[w2]) rfl ?_;refine Jt4 (inB c.act 0 ((p.acts.length:Int)-1)) rfl (fun d=>?_) (fun d=>JtU (by show [dB false]=_;simp[Jq,d]));refine Jua (Jj0 c.args hc) rfl rfl rfl (JtU ?_);show [dB (Q8 c.args)]=_;simp[Jq,a,b,d]
theorem JiX (p:Pln) (k:Int) (h1:1≤p.n) (h2:p.n≤4):Ev L f_k5c (p.cells++[dI k]) [dB (inB k 0 (p.n-1))]:=by
 refine Juq (vs:=[.i p.n,.l (Je p.acts),.l (dL p.gives),.l (dL p.start),.i k]) L_k5c rfl ?_;have w1:i64.wrap (p.n-1)=p.n-1:=w64 (by omega) (by omega);exact Jua (X7 k 0 (p.n-1)) rfl (by show [dI k,dI 0,dI (i64.wrap (p.n-1))]=_;rw[w1]) rfl (JtU rfl)
theorem V8 (p:Pln) (k:Int) (hp:JO p):Ev L f_k4o (p.cells++[dI k]) [dB (inB k 0 ((p.gives.length:Int)-1))]:=by
 refine Juq (vs:=[.i p.n,.l (Je p.acts),.l (dL p.gives),.l (dL p.start),.i k]) L_k4o rfl ?_;have w1:i64.wrap (((dL p.gives).length:Int)-1)=(p.gives.length:Int)-1:=by rw[dL1];exact W9 hp.2.1
 exact Jua (X7 k 0 ((p.gives.length:Int)-1)) rfl (by show [dI k,dI 0,dI (i64.wrap (((dL p.gives).length:Int)-1))]=_;rw[w1]) rfl (JtU rfl)
theorem JmR (p:Pln) (c:Cal) (hp:JO p) (h1:1≤p.n) (h2:p.n≤4) (hc:UB c):Ev L f_k5e (p.cells++c.cells) [dB (Jq p c)]:=by
 refine Juq (vs:=[.i p.n,.l (Je p.acts),.l (dL p.gives),.l (dL p.start),.i c.client,.i c.seq,.i c.act,.l (dL c.args)]) L_k5e rfl ?_;have w2:i64.wrap (((Je p.acts).length:Int)-1)=(p.acts.length:Int)-1:=by rw[JM];exact W9 hp.1.1
 refine Jua (JiX p c.client h1 h2) rfl rfl rfl ?_;refine Jt4 (inB c.client 0 (p.n-1)) rfl (fun a=>?_) (fun a=>JtU (by show [dB false]=_;simp[Jq,a]));refine Jua (X7 c.act 0 ((p.acts.length:Int)-1)) rfl (by show [dI c.act,dI 0,dI (i64.wrap (((Je p.acts).length:Int)-1))]=_;rw[w2]) rfl ?_;refine Jt4 (inB c.act 0 ((p.acts.length:Int)-1)) rfl (fun d=>?_) (fun d=>JtU (by show [dB false]=_;simp[Jq,d]));refine Jua (X7 c.seq 1 300) rfl rfl rfl ?_;refine Jt4 (inB c.seq 1 300) rfl (fun b=>?_) (fun b=>JtU (by show [dB false]=_;simp[Jq,b]));refine Jua (JnL c.args hc) rfl rfl rfl (JtU ?_);show [dB (Q8 c.args)]=_;simp[Jq,a,b,d]
theorem Zf (n:Nat) {m:Nat} (h:m=n):decide ((m:Int)=0)=decide (n=0):=by subst h;simp
def Xi (c:Cal):Bool:=decide (c.client=0)&&(decide (c.seq=0)&&(decide (c.act=0)&&decide (c.args.length=0)))
theorem JoW (c:Cal):Ev L f_k5b c.cells [dB (Xi c)]:=by
 refine Juq (vs:=[.i c.client,.i c.seq,.i c.act,.l (dL c.args)]) L_k5b rfl ?_;refine Jue (c.client=0) rfl (fun a=>?_) (fun a=>JtU (by show [dB false]=_;simp[Xi,a]));refine Jue (c.seq=0) rfl (fun b=>?_) (fun b=>JtU (by show [dB false]=_;simp[Xi,b]));refine Jue (c.act=0) rfl (fun d=>JtU ?_) (fun d=>JtU (by show [dB false]=_;simp[Xi,d]));show [dB (decide (((dL c.args).length:Int)=0))]=_;rw[Zf c.args.length (dL1 _)];simp[Xi,a,b,d]
def Xj (d:Don):Bool:=if d.seq=0 then decide (d.code=0)&&decide (d.tells.length=0) else inB d.seq 1 300&&JK d.code d.tells
def JZ (n:Int) (l:List Don):Bool:=decide ((l.length:Int)=n)&&l.all Xj
def Xr (n:Int) (l:List Int):Bool:=decide ((l.length:Int)=n)&&l.all fun x=>inB x 0 300
theorem Qk (l:List Don):(dDs l).length=l.length:=by simp[dDs]
theorem JfM (p:Pln) (l:List Int) (hl:l.length≤2000000):Ev L f_k1n (p.cells++[.s (dL l)]) [dB (Xr p.n l)]:=by
 refine Juq (vs:=[.i p.n,.l (Je p.acts),.l (dL p.gives),.l (dL p.start),.l (dL l)]) L_k1n rfl ?_;refine JtQ (decide ((l.length:Int)=p.n)) (by show (!decide (((dL l).length:Int)=p.n))=_;rw[dL1]) (fun h=>JtU (by show [dB false]=_;simp only[Xr,h,Bool.false_and])) (fun h=>?_);refine Jt7 l.length (fun i=>[.i i]) (fun i=>((l.take i).all fun x=>inB x 0 300)=true) rfl rfl rfl fun i hi hq=>?_;simp only[sC,sN];refine Jub i (dL1 l) rfl (fun h'=>?_) (fun h'=>Juj (JtU ?_))
 ·obtain⟨x,hx,_⟩:=sA1 h';refine JtX i (mA1 (f:=dI) hx) rfl rfl rfl rfl ?_;refine Jua (JQ x 0 300) rfl rfl rfl ?_;refine JtQ (inB x 0 300) rfl (fun b=>Juj (JtU ?_)) (fun b=>Juk (vs:=[.i ((i+1:Nat):Int)]) (by rw[←wS h' (by omega)];rfl) ⟨h',rfl,by show ((l.take (i+1)).all fun x=>inB x 0 300)=true;rw[tS1 hx,List.all_append,hq];simp[b]⟩);show [dB false]=_;have:(l.all fun x=>inB x 0 300)=false:=by rw[←List.take_append_drop i l,List.all_append,XD hx];simp[b]
  simp[Xr,this]
 ·show [dB true]=_;rw[tA1 h'] at hq;simp[Xr,h,hq]
theorem Jb9 {d:Don} (hs:inB d.seq 0 300=true):Xj d=if decide (d.seq=0)=decide (d.code=0) then(if d.seq=0 then decide (d.tells.length=0) else JK d.code d.tells) else false:=by
 unfold Xj
 by_cases h:d.seq=0
 ·rw[if_pos h,if_pos h]
  by_cases h2:d.code=0 <;> simp[h,h2]
 ·rw[if_neg h,if_neg h];have hin:inB d.seq 1 300=true:=by unfold inB at hs ⊢;simp only[Jus,decide_eq_true_eq] at hs ⊢;omega
  by_cases h2:d.code=0
  ·have:JK d.code d.tells=false:=by unfold JK inB;simp[h2]
   simp[h,h2,this,JK,inB]
  ·simp[h,h2,hin]
theorem JbC (p:Pln) (l:List Don) (hl:Wb Yr l):Ev L f_k1j (p.cells++[.s (dDs l)]) [dB (JZ p.n l)]:=by
 refine Juq (vs:=[.i p.n,.l (Je p.acts),.l (dL p.gives),.l (dL p.start),.l (dDs l)]) L_k1j rfl ?_;have hl0:=hl.1;refine JtQ (decide ((l.length:Int)=p.n)) (by show (!decide (((dDs l).length:Int)=p.n))=_;rw[Qk]) (fun h=>JtU (by show [dB false]=_;simp only[JZ,h,Bool.false_and])) (fun h=>?_);refine Jt7 l.length (fun i=>[.i i]) (fun i=>((l.take i).all Xj)=true) rfl rfl rfl fun i hi hq=>?_;simp only[sC,sN];refine Jub i (Qk l) rfl (fun h'=>?_) (fun h'=>Juj (JtU ?_))
 ·obtain⟨x,hx,hm⟩:=sA1 h';have hg:(dDs l)[i]? = some x.g:=mA1 (f:=Don.g) hx;have bad:Xj x=false→[dB false]=[dB (JZ p.n l)]:=fun hb=>by
   have:l.all Xj=false:=by rw[←List.take_append_drop i l,List.all_append,XD hx];simp[hb]
   simp[JZ,this]
  have good:Xj x=true→((l.take (i+1)).all Xj)=true:=fun hb=>by rw[tS1 hx,List.all_append,hq];simp[hb]
  have nx:[V.i (i64.wrap ((i:Int)+1))]=[V.i ((i+1:Nat):Int)]:=by rw[wS h' (by omega)]
  refine JtX (vs:=[.i x.seq,.i x.code,.l (dL x.tells)]) i hg rfl rfl rfl rfl ?_;refine Jua (JQ x.seq 0 300) rfl rfl rfl ?_;simp only[sC,sN];refine JtQ (inB x.seq 0 300) rfl (fun b=>Juj (JtU (bad ?_))) (fun b=>?_)
  ·unfold Xj;rw[if_neg (by intro e;rw[e] at b;simp[inB] at b)];have:inB x.seq 1 300=false:=by
    unfold inB at b ⊢;simp only[Bool.and_eq_false_iff,decide_eq_false_iff_not] at b ⊢;omega
   simp[this]
  have hc:=Jb9 b;refine JtX (vs:=[.i x.seq,.i x.code,.l (dL x.tells)]) i hg rfl rfl rfl rfl ?_;refine JtX (vs:=[.i x.seq,.i x.code,.l (dL x.tells)]) i hg rfl rfl rfl rfl ?_;simp only[sC,sN];refine JtQ (decide (x.seq=0) == decide (x.code=0)) rfl (fun e=>Juj (JtU (bad ?_))) (fun e=>?_)
  ·rw[hc,if_neg (by simpa using e)]
  rw[if_pos (by simpa using e)] at hc;refine JtX (vs:=[.i x.seq,.i x.code,.l (dL x.tells)]) i hg rfl rfl rfl rfl ?_;simp only[sC,sN];refine Jue (x.seq=0) rfl (fun h0=>?_) (fun h0=>?_)
  ·rw[if_pos h0] at hc;refine JtX (vs:=[.i x.seq,.i x.code,.l (dL x.tells)]) i hg rfl rfl rfl rfl ?_;simp only[sC,sN];refine Jue (0<((dL x.tells).length:Int)) rfl (fun ht=>Juj (JtU (bad ?_))) (fun ht=>?_)
   ·rw[dL1] at ht;rw[hc];exact decide_eq_false (by omega)
   refine JtX (vs:=[.i x.seq,.i x.code,.l (dL x.tells)]) i hg rfl rfl rfl rfl ?_;simp only[sC,sN];refine JtO (by show decide ((0:Int)<x.seq)=false;rw[h0];rfl) ?_;exact Juk nx ⟨h',rfl,good (by rw[dL1] at ht;rw[hc];exact decide_eq_true (by omega))⟩
  ·rw[if_neg h0] at hc;have hpos:0<x.seq:=by unfold inB at b;simp only[Jus,decide_eq_true_eq] at b;omega
   refine JtX (vs:=[.i x.seq,.i x.code,.l (dL x.tells)]) i hg rfl rfl rfl rfl ?_;simp only[sC,sN];refine Juf (by show decide ((0:Int)<x.seq)=true;simpa using hpos) ?_;refine JtX (vs:=[.i x.seq,.i x.code,.l (dL x.tells)]) i hg rfl rfl rfl rfl ?_;refine Jua (JbB x.code x.tells (hl.2 x hm)) rfl rfl rfl ?_;exact JtQ (JK x.code x.tells) rfl (fun e=>Juj (JtU (bad (by rw[hc,e])))) (fun e=>Juk nx ⟨h',rfl,good (by rw[hc,e])⟩)
 ·show [dB true]=_;rw[tA1 h'] at hq;simp[JZ,h,hq]
theorem Jh6 (x:Int):Ev L f_k5f [dI x] [dB (!inB x 0 300)] :=
 Juq (vs:=[.i x]) L_k5f rfl (Jua (X7 x 0 300) rfl rfl rfl (JtU rfl))
theorem JlJ (p:Pln) (l:List Int) (hl:l.length≤2000000):Ev L f_k5g (p.cells++[.s (dL l)]) [dB (Xr p.n l)]:=by
 refine Juq (vs:=[.i p.n,.l (Je p.acts),.l (dL p.gives),.l (dL p.start),.l (dL l)]) L_k5g rfl ?_;refine Jue ((l.length:Int)=p.n) (by show decide (((dL l).length:Int)=p.n)=_;rw[dL1]) (fun h=>?_) (fun h=>JtU (by show [dB false]=_;simp[Xr,h]));refine Jua (V6 (fun x=>!inB x 0 300) l (fn:=f_k5f) (caps:=[]) hl rfl rfl fun x _=>Jh6 x) rfl rfl rfl (JtU ?_);show [dB (!(l.any fun x=>!inB x 0 300))]=_;rw[Uq];simp[Xr,h]
theorem JoX (d:Don) (hd:Yr d):Ev L f_k56 d.cells [dB (Xj d)]:=by
 refine Juq (vs:=[.i d.seq,.i d.code,.l (dL d.tells)]) L_k56 rfl ?_;refine Jue (d.seq=0) rfl (fun h=>?_) (fun h=>?_)
 ·refine Jua (ds:=[dB (decide (d.code=0)&&decide (d.tells.length=0))]) (Juq (vs:=[.i d.code,.l (dL d.tells)]) L_k51 rfl ?_) rfl rfl rfl (JtU (by rw[Xj,if_pos h];rfl));refine Jue (d.code=0) rfl (fun a=>JtU ?_) (fun a=>JtU (by show [dB false]=_;simp[a]));show [dB (decide (((dL d.tells).length:Int)=0))]=_;rw[Zf d.tells.length (dL1 _)];simp[a]
 ·refine Jua (X7 d.seq 1 300) rfl rfl rfl ?_;refine Jt4 (inB d.seq 1 300) rfl (fun a=>?_) (fun a=>JtU (by show [dB false]=_;simp[Xj,h,a]));refine Jua (JlZ d.code d.tells hd) rfl rfl rfl (JtU ?_);show [dB (JK d.code d.tells)]=_;simp[Xj,h,a]
theorem JiO (d:Don) (hd:Yr d):Ev L f_k57 d.cells [dB (!Xj d)] :=
 Juq (vs:=[.i d.seq,.i d.code,.l (dL d.tells)]) L_k57 rfl (Jua (JoX d hd) rfl rfl rfl (JtU rfl))
theorem JmZ (q:Don→Bool) (l:List Don) {fn:FuncId} {caps:List D} (hlen:l.length≤2000000) (hcap:XK (.f fn caps) = .f fn caps) (har:arT L fn=some ([some 3]++caps.map fun _=>none))
  (hc :∀x∈l,Ev L fn (x.cells++caps.map D.norm) [dB (q x)]):Ev L f_k50 [.s (dDs l),.f fn caps] [dB (l.any q)] :=
 Zo (g := f_k4z) L_k50 rfl hcap
   (Z6 (sh:= .g [.i .i64,.i .i64,.s]) (as:=[(.vi .i64 (.v 3)),(.vi .i64 (.v 4)),(.s (.v 5))]) (ar:=[some 3]) (k:=6) Don.g q Don.cells (fun x=>[.i x.seq,.i x.code,.l (dL x.tells)]) l
     L_k4z rfl hlen hcap (fun _ _=>rfl) (fun _ _=>rfl) (fun _ _ _ _=>rfl) har hc)
theorem Jfw (p:Pln) (l:List Don) (hl:Wb Yr l):Ev L f_k58 (p.cells++[.s (dDs l)]) [dB (JZ p.n l)]:=by
 refine Juq (vs:=[.i p.n,.l (Je p.acts),.l (dL p.gives),.l (dL p.start),.l (dDs l)]) L_k58 rfl ?_;refine Jue ((l.length:Int)=p.n) (by show decide (((dDs l).length:Int)=p.n)=_;rw[Qk]) (fun h=>?_) (fun h=>JtU (by show [dB false]=_;simp[JZ,h]));refine Jua (JmZ (fun d=>!Xj d) l (fn:=f_k57) (caps:=[]) hl.1 rfl rfl fun x hx=>by simpa using JiO x (hl.2 x hx)) rfl rfl rfl (JtU ?_);show [dB (!(l.any fun d=>!Xj d))]=_;rw[Uq];simp[JZ,h]
/- The program's MsgOk answers as the reference's: over residual programs. -/
def em (n:Nat):Bool:=decide (n=0)
def XM (x:Msg) (c v s d:Bool):Bool:=(c||Xi x.call)&&((v||em x.vals.length)&&((s||em x.seqs.length)&&(d||em x.done.length)))
theorem VM (x:Msg) (c v s d:Bool):Ev L f_k1m (x.cells++[dB c,dB v,dB s,dB d]) [dB (XM x c v s d)]:=by
 refine Juq (vs:=[.i x.kind,.i x.to,.i x.frm,.i x.round,.i x.call.client,.i x.call.seq,.i x.call.act,.l (dL x.call.args),.l (dL x.vals),.l (dL x.seqs),.l (dDs x.done),.b c,.b v,.b s,.b d]) L_k1m rfl ?_;have ea:decide (((dL x.call.args).length:Int)=0)=em x.call.args.length:=Zf _ (dL1 _);have ev:decide (((dL x.vals).length:Int)=0)=em x.vals.length:=Zf _ (dL1 _);have es:decide (((dL x.seqs).length:Int)=0)=em x.seqs.length:=Zf _ (dL1 _);have ed:decide (((dDs x.done).length:Int)=0)=em x.done.length:=Zf _ (Qk _);have hn:Xi x.call=(decide (x.call.client=0)&&(decide (x.call.seq=0)&&(decide (x.call.act=0)&&em x.call.args.length))):=rfl;have fin :∀b,b=XM x c v s d→[dB b]=[dB (XM x c v s d)]:=fun b h=>by rw[h]
 have ed2:([dB (decide (((dDs x.done).length:Int)=0))]:List D)=[dB (em x.done.length)]:=by rw[ed]
 unfold XM at fin ⊢;rw[hn] at fin ⊢;generalize em x.call.args.length=ba at *;generalize em x.vals.length=bv at *;generalize em x.seqs.length=bs at *;generalize em x.done.length=bd at *;clear hn;generalize hb1:decide (x.call.client=0)=b1 at *;generalize hb2:decide (x.call.seq=0)=b2 at *;generalize hb3:decide (x.call.act=0)=b3 at *
 repeat' (first
  | exact JtU (fin true (by simp only[*,Bool.and_true,Bool.or_true,Bool.true_or,Bool.and_self,Bool.or_self]))
  | exact JtU (fin false (by simp only[*,Bool.and_false,Bool.false_and,Bool.or_self,Bool.or_false,Bool.false_or,JuM,Bool.and_true,Bool.true_or,Bool.or_true,Bool.and_self]))
  | exact JtU (ed2.trans (fin _ (by simp only[*,Bool.or_self,Bool.or_false,Bool.false_or,JuM,Bool.and_true,Bool.true_or,Bool.or_true,Bool.and_self])))
  | refine Jt4 c rfl (fun h=>?_) (fun h=>?_)
  | refine Jt4 v rfl (fun h=>?_) (fun h=>?_)
  | refine Jt4 s rfl (fun h=>?_) (fun h=>?_)
  | refine Jt4 d rfl (fun h=>?_) (fun h=>?_)
  | refine Jt4 ba ea (fun h=>?_) (fun h=>?_)
  | refine Jt4 bv ev (fun h=>?_) (fun h=>?_)
  | refine Jt4 bs es (fun h=>?_) (fun h=>?_)
  | refine Jt4 b1 hb1 (fun h=>?_) (fun h=>?_)
  | refine Jt4 b2 hb2 (fun h=>?_) (fun h=>?_)
  | refine Jt4 b3 hb3 (fun h=>?_) (fun h=>?_))
def QS (p:Pln) (k:Int):Bool:=inB k 0 ((p.gives.length:Int)-1)
def Jv (p:Pln) (x:Msg):Bool:=inB x.round 0 200&&(
 if x.kind=1 then decide (x.to = -1)&&(decide (x.frm=0)&&(decide (x.round=0)&&(Jq p x.call&&XM x true false false false)))
 else if x.kind=2 then QS p x.to&&(decide (x.frm=0)&&XM x false false false false)
 else if x.kind=3 then decide (x.to = -1)&&(QS p x.frm&&(JH 3 20000 x.vals&&(Xr p.n x.seqs&&XM x false true true false)))
 else if x.kind=4 then QS p x.to&&(decide (x.frm=0)&&(JU x.vals&&(JZ p.n x.done&&XM x false true false true)))
 else false)
theorem Jaw (p:Pln) (k:Int) (hp:JO p):Ev L f_k7 [dI k,dI 0,dI (i64.wrap (((dL p.gives).length:Int)-1))] [dB (QS p k)]:=by
 rw[dL1,W9 hp.2.1];exact JQ k 0 _
theorem Jlm (p:Pln) (x:Msg) (hp:JO p) (h1:1≤p.n) (h2:p.n≤4) (hx:Qp x):Ev L f_k1o (p.cells++x.cells) [dB (Jv p x)]:=by
 refine Juq (vs:=[.i p.n,.l (Je p.acts),.l (dL p.gives),.l (dL p.start),.i x.kind,.i x.to,.i x.frm,.i x.round,.i x.call.client,.i x.call.seq,.i x.call.act,.l (dL x.call.args),.l (dL x.vals),.l (dL x.seqs),.l (dDs x.done)]) L_k1o rfl ?_;refine Jua (JQ x.round 0 200) rfl rfl rfl ?_;refine JtQ (inB x.round 0 200) rfl (fun a=>JtU (by show [dB false]=_;simp[Jv,a])) (fun a=>?_);refine Jue (x.kind=1) rfl (fun k1=>?_) (fun k1=>?_)
 ·have e:Jv p x=(decide (x.to = -1)&&(decide (x.frm=0)&&(decide (x.round=0)&&(Jq p x.call&&XM x true false false false)))):=by unfold Jv;rw[if_pos k1,a,JuM]
  rw[e];refine Jt4 (decide (x.to = -1)) rfl (fun b=>?_) (fun b=>JtU (by show [dB false]=_;simp[b]));refine Jt4 (decide (x.frm=0)) rfl (fun c=>?_) (fun b=>JtU (by show [dB false]=_;simp[b]));refine Jt4 (decide (x.round=0)) rfl (fun d=>?_) (fun b=>JtU (by show [dB false]=_;simp[b]));refine Jua (ZF p x.call hp h1 h2 hx.1) rfl rfl rfl ?_;refine Jt4 (Jq p x.call) rfl (fun f=>?_) (fun b=>JtU (by show [dB false]=_;simp[b]));refine Jua (VM x true false false false) rfl rfl rfl (JtU ?_);rw[b,c,d,f];rfl
 refine Jue (x.kind=2) rfl (fun k2=>?_) (fun k2=>?_)
 ·have e:Jv p x=(QS p x.to&&(decide (x.frm=0)&&XM x false false false false)):=by unfold Jv;rw[if_neg k1,if_pos k2,a,JuM]
  rw[e];refine Jua (Jaw p x.to hp) rfl rfl rfl ?_;refine Jt4 (QS p x.to) rfl (fun b=>?_) (fun b=>JtU (by show [dB false]=_;simp[b]));refine Jt4 (decide (x.frm=0)) rfl (fun c=>?_) (fun b=>JtU (by show [dB false]=_;simp[b]));refine Jua (VM x false false false false) rfl rfl rfl (JtU ?_);rw[b,c];rfl
 refine Jue (x.kind=3) rfl (fun k3=>?_) (fun k3=>?_)
 ·have e:Jv p x=(decide (x.to = -1)&&(QS p x.frm&&(JH 3 20000 x.vals&&(Xr p.n x.seqs&&XM x false true true false)))):=by unfold Jv;rw[if_neg k1,if_neg k2,if_pos k3,a,JuM]
  rw[e];refine Jt4 (decide (x.to = -1)) rfl (fun b=>?_) (fun b=>JtU (by show [dB false]=_;simp[b]));refine Jua (Jaw p x.frm hp) rfl rfl rfl ?_;refine Jt4 (QS p x.frm) rfl (fun c=>?_) (fun b=>JtU (by show [dB false]=_;simp[b]));refine Jua (Xl x.vals 3 20000 hx.2.1 (by omega) (by omega)) rfl rfl rfl ?_;refine Jt4 (JH 3 20000 x.vals) rfl (fun d=>?_) (fun b=>JtU (by show [dB false]=_;simp[b]));refine Jua (JfM p x.seqs hx.2.2.1) rfl rfl rfl ?_;refine Jt4 (Xr p.n x.seqs) rfl (fun f=>?_) (fun b=>JtU (by show [dB false]=_;simp[b]));refine Jua (VM x false true true false) rfl rfl rfl (JtU ?_);rw[b,c,d,f];rfl
 refine Jue (x.kind=4) rfl (fun k4=>?_) (fun k4=>JtU (by show [dB false]=_;simp[Jv,k1,k2,k3,k4]));have e:Jv p x=(QS p x.to&&(decide (x.frm=0)&&(JU x.vals&&(JZ p.n x.done&&XM x false true false true)))):=by unfold Jv;rw[if_neg k1,if_neg k2,if_neg k3,if_pos k4,a,JuM]
 rw[e];refine Jua (Jaw p x.to hp) rfl rfl rfl ?_;refine Jt4 (QS p x.to) rfl (fun b=>?_) (fun b=>JtU (by show [dB false]=_;simp[b]));refine Jt4 (decide (x.frm=0)) rfl (fun c=>?_) (fun b=>JtU (by show [dB false]=_;simp[b]));refine Jua (Y4 x.vals hx.2.1) rfl rfl rfl ?_;refine Jt4 (JU x.vals) rfl (fun d=>?_) (fun b=>JtU (by show [dB false]=_;simp[b]));refine Jua (JbC p x.done hx.2.2.2) rfl rfl rfl ?_;refine Jt4 (JZ p.n x.done) rfl (fun f=>?_) (fun b=>JtU (by show [dB false]=_;simp[b]));refine Jua (VM x false true false true) rfl rfl rfl (JtU ?_);rw[b,c,d,f];rfl
theorem Jnw (p:Pln) (x:Msg) (hp:JO p) (h1:1≤p.n) (h2:p.n≤4) (hx:Qp x):Ev L f_k5h (p.cells++x.cells) [dB (Jv p x)]:=by
 refine Juq (vs:=[.i p.n,.l (Je p.acts),.l (dL p.gives),.l (dL p.start),.i x.kind,.i x.to,.i x.frm,.i x.round,.i x.call.client,.i x.call.seq,.i x.call.act,.l (dL x.call.args),.l (dL x.vals),.l (dL x.seqs),.l (dDs x.done)]) L_k5h rfl ?_;have ev:decide (((dL x.vals).length:Int)=0)=em x.vals.length:=Zf _ (dL1 _);have es:decide (((dL x.seqs).length:Int)=0)=em x.seqs.length:=Zf _ (dL1 _);have ed:decide (((dDs x.done).length:Int)=0)=em x.done.length:=Zf _ (Qk _);refine Jua (JoW x.call) rfl rfl rfl ?_;refine Jua (X7 x.round 0 200) rfl rfl rfl ?_;have z0:x.round=0→inB x.round 0 200=true:=fun h=>by rw[h];rfl
 refine Jue (x.kind=1) rfl (fun k1=>?_) (fun k1=>?_)
 ·have e:Jv p x=(inB x.round 0 200&&(decide (x.to = -1)&&(decide (x.frm=0)&&(decide (x.round=0)&&(Jq p x.call&&(em x.vals.length&&(em x.seqs.length&&em x.done.length))))))):=by
   unfold Jv;rw[if_pos k1];simp only[XM,Bool.true_or,Bool.false_or,JuM]
  rw[e];refine Jua (JmR p x.call hp h1 h2 hx.1) rfl rfl rfl ?_;refine Jt4 (decide (x.to = -1)) rfl (fun b=>?_) (fun b=>JtU (by show [dB false]=_;simp[b]));refine Jt4 (decide (x.frm=0)) rfl (fun c=>?_) (fun b=>JtU (by show [dB false]=_;simp[b]));refine Jt4 (Jq p x.call) rfl (fun f=>?_) (fun b=>JtU (by show [dB false]=_;simp[b]));refine Jue (x.round=0) rfl (fun d=>?_) (fun b=>JtU (by show [dB false]=_;simp[b]));refine Jt4 (em x.vals.length) ev (fun g=>?_) (fun b=>JtU (by show [dB false]=_;simp[b]));refine Jt4 (em x.seqs.length) es (fun h=>JtU ?_) (fun b=>JtU (by show [dB false]=_;simp[b]));show [dB (decide (((dDs x.done).length:Int)=0))]=_;rw[ed,z0 d,b,c,f,g,h,decide_eq_true d];rfl
 refine Jue (x.kind=2) rfl (fun k2=>?_) (fun k2=>?_)
 ·have e:Jv p x=(inB x.round 0 200&&(QS p x.to&&(decide (x.frm=0)&&(Xi x.call&&(em x.vals.length&&(em x.seqs.length&&em x.done.length)))))):=by
   unfold Jv;rw[if_neg k1,if_pos k2];simp only[XM,Bool.true_or,Bool.false_or,JuM]
  rw[e];refine Jua (V8 p x.to hp) rfl rfl rfl ?_;refine Jt4 (QS p x.to) rfl (fun b=>?_) (fun b=>JtU (by show [dB false]=_;simp[b]));refine Jt4 (decide (x.frm=0)) rfl (fun c=>?_) (fun b=>JtU (by show [dB false]=_;simp[b]));refine Jt4 (Xi x.call) rfl (fun d=>?_) (fun b=>JtU (by show [dB false]=_;simp[b]));refine Jt4 (inB x.round 0 200) rfl (fun a=>?_) (fun b=>JtU (by show [dB false]=_;simp[b]));refine Jt4 (em x.vals.length) ev (fun g=>?_) (fun b=>JtU (by show [dB false]=_;simp[b]));refine Jt4 (em x.seqs.length) es (fun h=>JtU ?_) (fun b=>JtU (by show [dB false]=_;simp[b]));show [dB (decide (((dDs x.done).length:Int)=0))]=_;rw[ed,a,b,c,d,g,h];rfl
 refine Jue (x.kind=3) rfl (fun k3=>?_) (fun k3=>?_)
 ·have e:Jv p x=(inB x.round 0 200&&(decide (x.to = -1)&&(QS p x.frm&&(Qy x.vals&&(Xr p.n x.seqs&&(Xi x.call&&em x.done.length)))))):=by
   unfold Jv;rw[if_neg k1,if_neg k2,if_pos k3];simp only[XM,Bool.true_or,Bool.false_or,JuM];rfl
  rw[e];refine Jua (V8 p x.frm hp) rfl rfl rfl ?_;refine Jua (JdL x.vals hx.2.1) rfl rfl rfl ?_;refine Jua (JlJ p x.seqs hx.2.2.1) rfl rfl rfl ?_;refine Jt4 (decide (x.to = -1)) rfl (fun b=>?_) (fun b=>JtU (by show [dB false]=_;simp[b]));refine Jt4 (QS p x.frm) rfl (fun c=>?_) (fun b=>JtU (by show [dB false]=_;simp[b]));refine Jt4 (Xi x.call) rfl (fun d=>?_) (fun b=>JtU (by show [dB false]=_;simp[b]));refine Jt4 (inB x.round 0 200) rfl (fun a=>?_) (fun b=>JtU (by show [dB false]=_;simp[b]));refine Jt4 (Qy x.vals) rfl (fun g=>?_) (fun b=>JtU (by show [dB false]=_;simp[b]));refine Jt4 (Xr p.n x.seqs) rfl (fun h=>JtU ?_) (fun b=>JtU (by show [dB false]=_;simp[b]));show [dB (decide (((dDs x.done).length:Int)=0))]=_;rw[ed,a,b,c,d,g,h];rfl
 refine Jue (x.kind=4) rfl (fun k4=>?_) (fun k4=>JtU (by show [dB false]=_;simp[Jv,k1,k2,k3,k4]));have e:Jv p x=(inB x.round 0 200&&(QS p x.to&&(decide (x.frm=0)&&(JU x.vals&&(JZ p.n x.done&&(Xi x.call&&em x.seqs.length)))))):=by
  unfold Jv;rw[if_neg k1,if_neg k2,if_neg k3,if_pos k4];simp only[XM,Bool.true_or,Bool.false_or,JuM,Bool.and_true]
 rw[e];refine Jua (V8 p x.to hp) rfl rfl rfl ?_;refine Jua (Jd3 x.vals hx.2.1) rfl rfl rfl ?_;refine Jua (Jfw p x.done hx.2.2.2) rfl rfl rfl ?_;refine Jt4 (QS p x.to) rfl (fun b=>?_) (fun b=>JtU (by show [dB false]=_;simp[b]));refine Jt4 (decide (x.frm=0)) rfl (fun c=>?_) (fun b=>JtU (by show [dB false]=_;simp[b]));refine Jt4 (Xi x.call) rfl (fun d=>?_) (fun b=>JtU (by show [dB false]=_;simp[b]));refine Jt4 (inB x.round 0 200) rfl (fun a=>?_) (fun b=>JtU (by show [dB false]=_;simp[b]));refine Jt4 (JU x.vals) rfl (fun g=>?_) (fun b=>JtU (by show [dB false]=_;simp[b]));refine Jt4 (em x.seqs.length) es (fun h=>JtU ?_) (fun b=>JtU (by show [dB false]=_;simp[b]));show [dB (JZ p.n x.done)]=_;rw[a,b,c,d,g,h];simp
def YL (p:Pln) (x:Msg):Bool:=JC p&&Jv p x
theorem Jfc (p:Pln) (x:Msg) (hp:JO p) (hx:Qp x):Ev L f_k5q (p.cells++x.cells) [dB (YL p x)]:=by
 refine Juq (vs:=[.i p.n,.l (Je p.acts),.l (dL p.gives),.l (dL p.start),.i x.kind,.i x.to,.i x.frm,.i x.round,.i x.call.client,.i x.call.seq,.i x.call.act,.l (dL x.call.args),.l (dL x.vals),.l (dL x.seqs),.l (dDs x.done)]) L_k5q rfl ?_;refine Jua (ZL p hp) rfl rfl rfl ?_;refine Jt4 (JC p) rfl (fun a=>?_) (fun a=>JtU (by show [dB false]=_;simp[YL,a]));obtain⟨n1,n2,_⟩:=J1 a;exact Jua (Jlm p x hp n1 n2 hx) rfl rfl rfl (JtU (by show [dB (Jv p x)]=_;simp[YL,a]))
theorem Jmq (p:Pln) (x:Msg) (hp:JO p) (hx:Qp x):Ev L f_k5i (p.cells++x.cells) [dB (YL p x)]:=by
 refine Juq (vs:=[.i p.n,.l (Je p.acts),.l (dL p.gives),.l (dL p.start),.i x.kind,.i x.to,.i x.frm,.i x.round,.i x.call.client,.i x.call.seq,.i x.call.act,.l (dL x.call.args),.l (dL x.vals),.l (dL x.seqs),.l (dDs x.done)]) L_k5i rfl ?_;refine Jua (Jf7 p hp) rfl rfl rfl ?_;refine Jt4 (JC p) rfl (fun a=>?_) (fun a=>JtU (by show [dB false]=_;simp[YL,a]));obtain⟨n1,n2,_⟩:=J1 a;exact Jua (Jnw p x hp n1 n2 hx) rfl rfl rfl (JtU (by show [dB (Jv p x)]=_;simp[YL,a]))
/- The program's SitOk and SitFree answer as the reference's: over residual programs. -/
theorem XE {p:Pln} (h:JC p=true):Qv p.acts=true:=by
 simp only[JC,Jus] at h;exact h.2.1
def Xw (p:Pln) (b:List Int) (k:Int) (a:List Int):Bool:=keeps b p.gives (Jb p.acts) k a&&Qd (Jj p.acts) a
def J4 (p:Pln) (s:Sit) (k:Int):Bool:=inB s.round 0 200&&(JU s.base&&(Xw p s.base k s.added&&JZ p.n s.done))
def XP (p:Pln) (s:Sit) (k:Int):Bool:=JC p&&(QS p k&&J4 p s k)
theorem Jca (p:Pln) (s:Sit):Ev L f_k1e (p.cells++s.cells) [.s (dL s.base),.s (dL p.gives)] :=
 Juq (vs:=[.i p.n,.l (Je p.acts),.l (dL p.gives),.l (dL p.start),.b s.up,.b s.frozen,.i s.round,.l (dL s.base),.l (dL s.added),.l (dDs s.done)]) L_k1e rfl (JtU rfl)
theorem JkR (p:Pln) (s:Sit) (k:Int) (hp:JO p) (hs:Qq s) (hc:Qv p.acts=true) :
  Ev L f_k1k (p.cells++[.s (dLL (Jb p.acts)),.s (dBl (Jj p.acts))]++s.cells++[dI k]) [dB (J4 p s k)]:=by
 refine Juq (vs:=[.i p.n,.l (Je p.acts),.l (dL p.gives),.l (dL p.start),.l (dLL (Jb p.acts)),.l (dBl (Jj p.acts)),.b s.up,.b s.frozen,.i s.round,.l (dL s.base),.l (dL s.added),.l (dDs s.done),.i k]) L_k1k rfl ?_;have hps:fitLL (Jb p.acts):=(Q9 p.acts).fitLL (by omega);refine Jua (JQ s.round 0 200) rfl rfl rfl ?_;refine Jt4 (inB s.round 0 200) rfl (fun a=>?_) (fun b=>JtU (by show [dB false]=_;simp[J4,b]));refine Jua (Y4 s.base hs.1) rfl rfl rfl ?_;refine Jt4 (JU s.base) rfl (fun d=>?_) (fun b=>JtU (by show [dB false]=_;simp[J4,b]));refine Jua (Jca p s) rfl rfl rfl ?_;refine Jua (Zu s.base p.gives (Jb p.acts) k s.added hs.1 hp.2.1 hps hs.2.1) rfl rfl rfl ?_;simp only[sC,sN];refine Jt4 (keeps s.base p.gives (Jb p.acts) k s.added) rfl (fun e=>?_) (fun b=>JtU (by show [dB false]=_;simp[J4,Xw,b]));refine Jua (WG (Jj p.acts) s.added (Ve hc) (VL e)) rfl rfl rfl ?_;simp only[sC,sN];refine Jt4 (Qd (Jj p.acts) s.added) rfl (fun f=>?_) (fun b=>JtU (by show [dB false]=_;simp[J4,Xw,b]));refine Jua (JbC p s.done ⟨hs.2.2.1,hs.2.2.2⟩) rfl rfl rfl (JtU ?_);show [dB (JZ p.n s.done)]=_;simp[J4,Xw,a,d,e,f]
theorem Jfb (p:Pln) (s:Sit) (k:Int) (hp:JO p) (hs:Qq s):Ev L f_k5p (p.cells++s.cells++[dI k]) [dB (XP p s k)]:=by
 refine Juq (vs:=[.i p.n,.l (Je p.acts),.l (dL p.gives),.l (dL p.start),.b s.up,.b s.frozen,.i s.round,.l (dL s.base),.l (dL s.added),.l (dDs s.done),.i k]) L_k5p rfl ?_;refine Jua (ZL p hp) rfl rfl rfl ?_;refine JtQ (JC p) rfl (fun b=>JtU (by show [dB false]=_;simp[XP,b])) (fun a=>?_);refine Jua (Jaw p k hp) rfl rfl rfl ?_;refine JtQ (QS p k) rfl (fun b=>JtU (by show [dB false]=_;simp[XP,b])) (fun d=>?_);have hc:=XE a;have e1:(US p.acts).1=Jb p.acts:=by simp[Jb,hc]
 have e2:(US p.acts).2=Jj p.acts:=by simp[Jj,hc]
 have eB:=Je8 p.acts hp.1 (X0 hc).2.1;rw[e1,e2] at eB;refine Jua eB rfl rfl rfl ?_;simp only[sC,sN];refine Jua (JkR p s k hp hs hc) rfl rfl rfl (JtU ?_);show [dB (J4 p s k)]=_;simp[XP,a,d]
theorem Jl0 (p:Pln) (s:Sit) (k:Int) (hp:JO p) (hs:Qq s) (hc:Qv p.acts=true) :
  Ev L f_k59 (p.cells++[.s (Je p.acts),.s (dLL (Jb p.acts)),.s (dBl (Jj p.acts))]++s.cells++[dI k]) [dB (QS p k&&J4 p s k)]:=by
 refine Juq (vs:=[.i p.n,.l (Je p.acts),.l (dL p.gives),.l (dL p.start),.l (Je p.acts),.l (dLL (Jb p.acts)),.l (dBl (Jj p.acts)),.b s.up,.b s.frozen,.i s.round,.l (dL s.base),.l (dL s.added),.l (dDs s.done),.i k]) L_k59 rfl ?_;have hps:fitLL (Jb p.acts):=(Q9 p.acts).fitLL (by omega);refine Jua (V8 p k hp) rfl rfl rfl ?_;refine Jt4 (QS p k) rfl (fun g=>?_) (fun b=>JtU (by show [dB false]=_;simp[J4,b]));refine Jua (X7 s.round 0 200) rfl rfl rfl ?_;refine Jt4 (inB s.round 0 200) rfl (fun a=>?_) (fun b=>JtU (by show [dB false]=_;simp[J4,b]));refine Jua (Jd3 s.base hs.1) rfl rfl rfl ?_;refine Jt4 (JU s.base) rfl (fun d=>?_) (fun b=>JtU (by show [dB false]=_;simp[J4,b]));refine Jua (Jdk p s.base) rfl rfl rfl ?_;refine Jua (JmU p.acts (Jb p.acts) (Jj p.acts) s.base p.gives k s.added (Ve hc) hs.1 hp.2.1 hps hs.2.1) rfl rfl rfl ?_;simp only[sC,sN];refine Jt4 (Xw p s.base k s.added) rfl (fun e=>?_) (fun b=>JtU (by show [dB false]=_;simp[J4,b]));refine Jua (Jfw p s.done ⟨hs.2.2.1,hs.2.2.2⟩) rfl rfl rfl (JtU ?_);show [dB (JZ p.n s.done)]=_;simp[J4,g,a,d,e]
theorem Jfl (p:Pln) (s:Sit) (k:Int) (hp:JO p) (hs:Qq s):Ev L f_k5a (p.cells++s.cells++[dI k]) [dB (XP p s k)]:=by
 refine Juq (vs:=[.i p.n,.l (Je p.acts),.l (dL p.gives),.l (dL p.start),.b s.up,.b s.frozen,.i s.round,.l (dL s.base),.l (dL s.added),.l (dDs s.done),.i k]) L_k5a rfl ?_;refine Jua (Jf7 p hp) rfl rfl rfl ?_;refine Jt4 (JC p) rfl (fun a=>?_) (fun b=>JtU (by show [dB false]=_;simp[XP,b]));have hc:=XE a;refine Jua (Jkm p.acts hp.1) rfl rfl rfl ?_;simp only[sC,sN];refine Jua (Jl0 p s k hp hs hc) rfl rfl rfl (JtU ?_);show [dB (QS p k&&J4 p s k)]=_;simp[XP,a]
/- The program's ClkOk and ClkReady answer as the reference's: over residual programs. -/
def emp (g:Got):Bool:=decide (g.added.length=0)&&decide (g.seqs.length=0)
def Uf (p:Pln) (b:List Int) (l:List Got) (j:Nat):Bool :=
 if(l.getD j X2).has then Xw p b j (l.getD j X2).added&&Xr p.n (l.getD j X2).seqs else emp (l.getD j X2)
def Wf (p:Pln) (l:List Cal) (j:Nat):Bool:=Jq p (l.getD j ⟨0,0,0,[]⟩)&&(decide (j=0)||decide ((l.getD (j-1) ⟨0,0,0,[]⟩).client<(l.getD j ⟨0,0,0,[]⟩).client))
def XZ (l:List Got):Nat:=(l.filter fun g=>g.has).length
def Q3 (n:Nat) (f:Nat→Bool):Bool:=(List.range n).all f
theorem Uz (n:Nat) (f:Nat→Bool):Q3 (n+1) f=(Q3 n f&&f n):=by simp[Q3,List.range_succ]
theorem Y6 {n:Nat} {f:Nat→Bool}:Q3 n f=true↔∀j,j<n→f j=true:=by simp[Q3]
theorem W7 {n i:Nat} {f:Nat→Bool} (h:i<n) (hf:f i=false):Q3 n f=false:=by
 cases e:Q3 n f with
 | false=>rfl
 | true=>rw[Y6.1 e i h] at hf;cases hf
def Zt (p:Pln) (c:Clk):Bool:=inB c.round 0 200&&(JU c.base&&(JZ p.n c.done&&((decide (c.got.length=p.gives.length)&&Q3 c.got.length (Uf p c.base c.got)) &&
 (Q3 c.wants.length (Wf p c.wants)&&(c.up||(decide (c.wants.length=0)&&decide (XZ c.got=0)))))))
def Jd8 (p:Pln) (c:Clk):Bool:=JC p&&Zt p c
theorem Uw (l:List Got):(dGs l).length=l.length:=by simp[dGs]
theorem Yk (l:List Cal):(dCs l).length=l.length:=by simp[dCs]
theorem QJ {α:Type} {l:List α} {i:Nat} {x d:α} (h:l[i]? = some x):l.getD i d=x:=by simp[Juv,h]
theorem Jny (p:Pln) (c:Clk) (hp:JO p) (hk:KM c) (hc:Qv p.acts=true) :
  Ev L f_k1p (p.cells++[.s (dLL (Jb p.acts)),.s (dBl (Jj p.acts))]++c.cells) [dB (decide (c.got.length=p.gives.length)&&Q3 c.got.length (Uf p c.base c.got))]:=by
 refine Juq (vs:=[.i p.n,.l (Je p.acts),.l (dL p.gives),.l (dL p.start),.l (dLL (Jb p.acts)),.l (dBl (Jj p.acts)),.b c.up,.i c.round,.l (dL c.base),.l (dDs c.done),.l (dCs c.wants),.l (dGs c.got)]) L_k1p rfl ?_;have hps:fitLL (Jb p.acts):=(Q9 p.acts).fitLL (by omega);have hgl:=hk.g;refine JtQ (decide (c.got.length=p.gives.length)) ?_ (fun b=>JtU (by show [dB false]=_;simp only[b,Bool.false_and])) (fun a=>?_)
 ·show (!decide (((dGs c.got).length:Int)=((dL p.gives).length:Int)))=_;rw[Uw,dL1];simp[Int.ofNat_inj]
 rw[a,JuM];refine Jt7 c.got.length (fun i=>[.i i]) (fun i=>Q3 i (Uf p c.base c.got)=true) rfl rfl rfl fun i hi hq=>?_;simp only[sC,sN];refine Jub i (Uw c.got) rfl (fun h'=>?_) (fun h'=>Juj (JtU ?_))
 ·obtain⟨x,hx,hm⟩:=sA1 h';have hxf:=hk.gt x hm;have hD:=QJ (d:=X2) hx;have hgs:Uf p c.base c.got i=if x.has then Xw p c.base i x.added&&Xr p.n x.seqs else emp x:=by unfold Uf;rw[hD]
  have bad:Uf p c.base c.got i=false→[dB false]=[dB (Q3 c.got.length (Uf p c.base c.got))]:=fun h=>by rw[W7 h' h]
  have good:Uf p c.base c.got i=true→Q3 (i+1) (Uf p c.base c.got)=true:=fun h=>by rw[Uz,hq,h];rfl
  have nx:[V.i (i64.wrap ((i:Int)+1))]=[V.i ((i+1:Nat):Int)]:=by rw[wS h' (by omega)]
  refine JtX (vs:=[.b x.has,.l (dL x.added),.l (dL x.seqs)]) i (mA1 (f:=Got.g) hx) rfl rfl rfl rfl ?_;simp only[sC,sN];refine JtQ x.has rfl (fun hn=>?_) (fun hh=>?_)
  ·rw[hn] at hgs;have hw:i64.wrap (((dL x.added).length:Int)+((dL x.seqs).length:Int))=(x.added.length:Int)+x.seqs.length:=by rw[dL1,dL1];exact w64 (by omega) (by omega)
   refine Jue ((0:Int)<(x.added.length:Int)+x.seqs.length) (by show decide ((0:Int)<i64.wrap (((dL x.added).length:Int)+((dL x.seqs).length:Int)))=_;rw[hw]) (fun h0=>Juj (JtU (bad ?_))) (fun h0=>?_)
   ·rw[hgs];simp only[JuI,if_false,emp,Bool.and_eq_false_iff,decide_eq_false_iff_not];omega
   refine JtO (by show x.has=false;exact hn) (Juk nx ⟨h',rfl,good ?_⟩);rw[hgs];simp only[JuI,if_false,emp,Jus,decide_eq_true_eq];omega
  ·rw[hh] at hgs;simp only[if_true] at hgs;refine Juf (by show x.has=true;exact hh) ?_;refine Jua (Zu c.base p.gives (Jb p.acts) i x.added hk.b hp.2.1 hps hxf.1) rfl rfl rfl ?_;simp only[sC,sN];refine JtQ (keeps c.base p.gives (Jb p.acts) i x.added) rfl (fun e=>Juj (JtU (bad (by rw[hgs,Xw,e];rfl)))) (fun e=>?_);refine Jua (WG (Jj p.acts) x.added (Ve hc) (VL e)) rfl rfl rfl ?_;simp only[sC,sN];refine JtQ (Qd (Jj p.acts) x.added) rfl (fun f=>Juj (JtU (bad (by rw[hgs,Xw,e,f];rfl)))) (fun f=>?_);refine Jua (JfM p x.seqs hxf.2) rfl rfl rfl ?_;simp only[sC,sN];exact JtQ (Xr p.n x.seqs) rfl (fun g=>Juj (JtU (bad (by rw[hgs,g,Bool.and_false])))) (fun g=>Juk nx ⟨h',rfl,good (by rw[hgs,Xw,e,f,g];rfl)⟩)
 ·show [dB true]=_;rw[show i=c.got.length by omega] at hq;rw[hq]
theorem JmN {l:List Got} {i:Nat} {x:Got} (h:l[i]? = some x):XZ (l.take (i+1))=XZ (l.take i)+(if x.has then 1 else 0):=by
 unfold XZ;rw[tS1 h,List.filter_append,Juy];cases hx:x.has <;> simp[hx]
theorem Jk4 (l:List Got):XZ l≤l.length:=List.length_filter_le _ _
theorem JcV (c:Clk) (hk:c.got.length≤2000000):Ev L f_k1q c.cells [dI (XZ c.got)]:=by
 refine Juq (vs:=[.b c.up,.i c.round,.l (dL c.base),.l (dDs c.done),.l (dCs c.wants),.l (dGs c.got)]) L_k1q rfl ?_;refine Jt7 c.got.length (fun i=>[.i (XZ (c.got.take i)),.i i]) (fun _=>True) rfl rfl trivial fun i hi _=>?_;simp only[sC,sN];refine Jub i (Uw c.got) rfl (fun h'=>?_) (fun h'=>Juj (JtU ?_))
 ·obtain⟨x,hx,hm⟩:=sA1 h';have hs:=JmN hx;have hle:=Jk4 (c.got.take i);rw[JuH] at hle;refine JtX (vs:=[.b x.has,.l (dL x.added),.l (dL x.seqs)]) i (mA1 (f:=Got.g) hx) rfl rfl rfl rfl ?_;simp only[sC,sN];refine Jt4 x.has rfl (fun hh=>?_) (fun hh=>?_)
  ·refine Juk (vs:=[.i ((XZ (c.got.take (i+1)):Nat):Int),.i ((i+1:Nat):Int)]) ?_ ⟨h',rfl,trivial⟩;show [V.i (i64.wrap ((XZ (c.got.take i):Int)+1)),V.i (i64.wrap ((i:Int)+1))]=_;rw[wS h' (by omega),w64 (by omega) (by omega),hs,hh];rfl
  ·refine Juk (vs:=[.i ((XZ (c.got.take (i+1)):Nat):Int),.i ((i+1:Nat):Int)]) ?_ ⟨h',rfl,trivial⟩;show [V.i (XZ (c.got.take i):Int),V.i (i64.wrap ((i:Int)+1))]=_;rw[wS h' (by omega),hs,hh];rfl
 ·show [dI (XZ (c.got.take i))]=_;rw[tA1 h']
theorem Jdq {p:Pln} {l:List Cal} {i:Nat} {x:Cal} (h:l[i]? = some x):Wf p l i=(Jq p x&&(decide (i=0)||decide ((l.getD (i-1) ⟨0,0,0,[]⟩).client<x.client))):=by
 unfold Wf;rw[QJ h]
theorem Jpx (p:Pln) (c:Clk) (hp:JO p) (hk:KM c) (h1:1≤p.n) (h2:p.n≤4) (hc:Qv p.acts=true) :
  Ev L f_k1r (p.cells++[.s (dLL (Jb p.acts)),.s (dBl (Jj p.acts))]++c.cells) [dB (Zt p c)]:=by
 refine Juq (vs:=[.i p.n,.l (Je p.acts),.l (dL p.gives),.l (dL p.start),.l (dLL (Jb p.acts)),.l (dBl (Jj p.acts)),.b c.up,.i c.round,.l (dL c.base),.l (dDs c.done),.l (dCs c.wants),.l (dGs c.got)]) L_k1r rfl ?_;have hwl:=hk.c;refine Jua (JQ c.round 0 200) rfl rfl rfl ?_;refine JtQ (inB c.round 0 200) rfl (fun b=>JtU (by show [dB false]=_;simp only[Zt,b,Bool.false_and,Bool.and_false])) (fun a1=>?_);refine Jua (Y4 c.base hk.b) rfl rfl rfl ?_;refine JtQ (JU c.base) rfl (fun b=>JtU (by show [dB false]=_;simp only[Zt,b,Bool.false_and,Bool.and_false])) (fun a2=>?_);refine Jua (JbC p c.done ⟨hk.d,hk.dt⟩) rfl rfl rfl ?_;refine JtQ (JZ p.n c.done) rfl (fun b=>JtU (by show [dB false]=_;simp only[Zt,b,Bool.false_and,Bool.and_false])) (fun a3=>?_);refine Jua (Jny p c hp hk hc) rfl rfl rfl ?_;refine JtQ (decide (c.got.length=p.gives.length)&&Q3 c.got.length (Uf p c.base c.got)) rfl (fun b=>JtU (by show [dB false]=_;simp only[Zt,b,Bool.false_and,Bool.and_false])) (fun a4=>?_);have e:Zt p c=(Q3 c.wants.length (Wf p c.wants)&&(c.up||(decide (c.wants.length=0)&&decide (XZ c.got=0)))):=by
  unfold Zt;rw[a1,a2,a3,a4];simp only[JuM]
 rw[e];simp only[sC,sN];refine Jt7 c.wants.length (fun i=>[.i i]) (fun i=>Q3 i (Wf p c.wants)=true) rfl rfl rfl fun i hi hq=>?_;simp only[sC,sN];refine Jub i (Yk c.wants) rfl (fun h'=>?_) (fun h'=>Juj ?_)
 ·obtain⟨x,hx,hm⟩:=sA1 h';have hwi:=Jdq (p:=p) hx;have bad:Wf p c.wants i=false→[dB false]=[dB (Q3 c.wants.length (Wf p c.wants)&&(c.up||(decide (c.wants.length=0)&&decide (XZ c.got=0))))]:=fun h=>by rw[W7 h' h];rfl
  have good:Wf p c.wants i=true→Q3 (i+1) (Wf p c.wants)=true:=fun h=>by rw[Uz,hq,h];rfl
  have nx:[V.i (i64.wrap ((i:Int)+1))]=[V.i ((i+1:Nat):Int)]:=by rw[wS h' (by omega)]
  refine JtX (vs:=[.i x.client,.i x.seq,.i x.act,.l (dL x.args)]) i (mA1 (f:=Cal.g) hx) rfl rfl rfl rfl ?_;simp only[sC,sN];refine Jua (ZF p x hp h1 h2 (hk.ct x hm)) rfl rfl rfl ?_;simp only[sC,sN];refine JtQ (Jq p x) rfl (fun b=>Juj (JtU (bad (by rw[hwi,b];rfl)))) (fun b=>?_);rw[b,JuM] at hwi;refine Jue ((0:Int)<(i:Int)) rfl (fun h0=>?_) (fun h0=>Juk nx ⟨h',rfl,good (by rw[hwi,decide_eq_true (show i=0 by omega)];rfl)⟩);obtain⟨y,hy,_⟩:=sA1 (show i-1<c.wants.length by omega);rw[QJ hy,decide_eq_false (show ¬i=0 by omega),Bool.false_or] at hwi;refine JtX (vs:=[.i y.client,.i y.seq,.i y.act,.l (dL y.args)]) (i-1) (mA1 (f:=Cal.g) hy) rfl rfl ?_ rfl ?_
  ·show i64.wrap ((i:Int)-1)=((i-1:Nat):Int);rw[w64 (by omega) (by omega)];omega
  refine JtX (vs:=[.i x.client,.i x.seq,.i x.act,.l (dL x.args)]) i (mA1 (f:=Cal.g) hx) rfl rfl rfl rfl ?_;simp only[sC,sN];exact Jue (x.client≤y.client) rfl (fun g=>Juj (JtU (bad (by rw[hwi];exact decide_eq_false (by omega))))) (fun g=>Juk nx ⟨h',rfl,good (by rw[hwi];exact decide_eq_true (by omega))⟩)
 ·rw[show i=c.wants.length by omega] at hq;rw[hq,JuM];refine Jt4 c.up rfl (fun u=>JtU (by show [dB true]=_;rw[u];rfl)) (fun u=>?_);rw[show (c.up||(decide (c.wants.length=0)&&decide (XZ c.got=0)))=(decide (c.wants.length=0)&&decide (XZ c.got=0)) by rw[u,Bool.false_or]];refine Jt4 (decide (c.wants.length=0)) (by show decide (((dCs c.wants).length:Int)=0)=_;exact Zf _ (Yk _)) (fun w=>?_) (fun w=>JtU (by show [dB false]=_;rw[w];rfl));refine Jua (JcV c hk.g) rfl rfl rfl (JtU ?_);show [dB (decide ((XZ c.got:Int)=0))]=_;rw[w,Zf _ rfl];rfl
def JhW (p:Pln) (c:Clk):Bool:=Jd8 p c&&decide (XZ c.got=p.gives.length)
theorem Joj (l:List Got):(l.all fun g=>g.has)=decide (XZ l=l.length):=by
 rw[Bool.eq_iff_iff,decide_eq_true_eq];unfold XZ;rw[List.length_filter_eq_length_iff];simp
/- The program's SitFall answers as the reference's: over residual programs. -/
theorem Qe (c:Int) (l:List Int) (hl:l.length≤2000000):Ev L f_k1t [dI c,.s (dL l)] [dI c,.s (dL l)]:=by
 refine Juq (vs:=[.i c,.l (dL l)]) L_k1t rfl ?_;refine JtV (dL l) 2000000 (by rw[dL1];omega) (by omega) rfl ?_;refine Jt0 (JR l) ?_;exact JtV (dL l) 2000000 (by rw[dL1];omega) (by omega) rfl (JtU rfl)
theorem Yf (l:List Don) (hl:Wb Yr l):Ev L f_k1u [.s (dDs l)] [.s (dDs l)]:=by
 refine Juq (vs:=[.l (dDs l)]) L_k1u rfl ?_;have hl0:=hl.1;refine Jt7 l.length (fun i=>[.l (dDs (l.take i)),.i i]) (fun _=>True) rfl rfl trivial fun i hi _=>?_;simp only[sC,sN];refine Jub i (Qk l) rfl (fun h=>?_) (fun h=>Juj (JtU ?_))
 ·obtain⟨x,hx,hm⟩:=sA1 h;have hg:(dDs l)[i]? = some x.g:=mA1 (f:=Don.g) hx;refine JtX (vs:=[.i x.seq,.i x.code,.l (dL x.tells)]) i hg rfl rfl rfl rfl ?_;refine JtX (vs:=[.i x.seq,.i x.code,.l (dL x.tells)]) i hg rfl rfl rfl rfl ?_;refine Jua (vs:=[.i x.code,.l (dL x.tells)]) (Qe x.code x.tells (hl.2 x hm)) rfl rfl rfl ?_;simp only[sC,sN];refine JtN (dDs (l.take i)) 2000000 (by rw[Qk,JuH];omega) (by omega) rfl ?_;refine Juk (vs:=[.l (dDs (l.take (i+1))),.i ((i+1:Nat):Int)]) ?_ ⟨h,rfl,trivial⟩;show [V.l (dDs (l.take i)++[x.g]),V.i (i64.wrap ((i:Int)+1))]=_;rw[wS h (by omega),tS1 hx];simp only[dDs,List.map_append,JuA,List.map_nil]
 ·show [D.s (dDs (l.take i))]=_;rw[tA1 h]
theorem V5 (s:Sit) (hs:Qq s):Ev L f_k1x s.cells s.cells:=by
 refine Juq (vs:=[.b s.up,.b s.frozen,.i s.round,.l (dL s.base),.l (dL s.added),.l (dDs s.done)]) L_k1x rfl ?_;have h1:=hs.1;have h2:=hs.2.1;refine JtV (dL s.base) 2000000 (by rw[dL1];omega) (by omega) rfl ?_;refine Jt0 (JR s.base) ?_;refine JtV (dL s.base) 2000000 (by rw[dL1];omega) (by omega) rfl ?_;refine JtV (dL s.added) 2000000 (by rw[dL1];omega) (by omega) rfl ?_;refine Jt0 (JR s.added) ?_;refine JtV (dL s.added) 2000000 (by rw[dL1];omega) (by omega) rfl ?_;exact Jua (vs:=[.l (dDs s.done)]) (Yf s.done ⟨hs.2.2.1,hs.2.2.2⟩) rfl rfl rfl (JtU rfl)
theorem Jax (c:Int) (l:List Int) (hl:l.length≤2000000):Ev L f_k5j [dI c,.s (dL l)] [dI c,.s (dL l)] :=
 Juq (vs:=[.i c,.l (dL l)]) L_k5j rfl (Jua (vs:=[.l (dL l)]) (Yx l hl) rfl rfl rfl (JtU rfl))
theorem Joe (l:List Don) (hl:Wb Yr l):Ev L f_k5k [.s (dDs l)] [.s (dDs l)]:=by
 refine Juq (vs:=[.l (dDs l)]) L_k5k rfl ?_;have hl0:=hl.1;refine Jt7 l.length (fun i=>[.l (dDs (l.take i)),.i i]) (fun _=>True) rfl rfl trivial fun i hi _=>?_;simp only[sC,sN];refine Jub i (Qk l) rfl (fun h=>?_) (fun h=>Juj (JtU ?_))
 ·obtain⟨x,hx,hm⟩:=sA1 h;have hg:(dDs l)[i]? = some x.g:=mA1 (f:=Don.g) hx;refine JtX (vs:=[.i x.seq,.i x.code,.l (dL x.tells)]) i hg rfl rfl rfl rfl ?_;refine Jua (vs:=[.i x.code,.l (dL x.tells)]) (Jax x.code x.tells (hl.2 x hm)) rfl rfl rfl ?_;simp only[sC,sN];refine JtT (KW dI (fun _=>rfl) x.tells) ?_;refine JtN (dDs (l.take i)) 2000000 (by rw[Qk,JuH];omega) (by omega) rfl ?_;refine Juk (vs:=[.l (dDs (l.take (i+1))),.i ((i+1:Nat):Int)]) ?_ ⟨h,rfl,trivial⟩;show [V.l (dDs (l.take i)++[x.g]),V.i (i64.wrap ((i:Int)+1))]=_;rw[wS h (by omega),tS1 hx];simp only[dDs,List.map_append,JuA,List.map_nil]
 ·show [D.s (dDs (l.take i))]=_;rw[tA1 h]
theorem JgY (s:Sit) (hs:Qq s):Ev L f_k5l s.cells s.cells:=by
 refine Juq (vs:=[.b s.up,.b s.frozen,.i s.round,.l (dL s.base),.l (dL s.added),.l (dDs s.done)]) L_k5l rfl ?_;refine Jua (vs:=[.l (dL s.base)]) (Yx s.base hs.1) rfl rfl rfl ?_;refine Jua (vs:=[.l (dL s.added)]) (Yx s.added hs.2.1) rfl rfl rfl ?_;exact Jua (vs:=[.l (dDs s.done)]) (Joe s.done ⟨hs.2.2.1,hs.2.2.2⟩) rfl rfl rfl (JtU rfl)
end Go.Proofs.YtofcmnglieaoeaaGreatDoor

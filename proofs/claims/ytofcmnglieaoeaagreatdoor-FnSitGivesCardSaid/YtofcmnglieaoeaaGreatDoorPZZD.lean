import Derived.Test.YtofcmnglieaoeaaGreatDoorPZW
import Derived.Test.YtofcmnglieaoeaaGreatDoorPZZA
set_option linter.unusedVariables false
set_option linter.unusedSimpArgs false
/- The program's SitHear answers as the reference's: over residual programs. -/
namespace Go.Proofs.YtofcmnglieaoeaaGreatDoor
open Go Go.Tm
open Go.IntKind (i64)
def YG (g:Nat) (k:Int) (i:Nat) (x y:Don):Don:=if Int.tmod (i:Int) (g:Int)=k∧x.seq<y.seq then y else x
def Xk (g:Nat) (k:Int) (sd md:List Don) (n:Nat):List Don:=sd.mapIdx fun j x=>if j<n then YG g k j x (md.getD j Wc) else x
theorem ZK (g:Nat) (k:Int) (sd md:List Don) (n:Nat):(Xk g k sd md n).length=sd.length:=by simp[Xk]
theorem Jlc (g:Nat) (k:Int) (sd md:List Don):Xk g k sd md 0=sd:=by
 apply List.ext_getElem?;intro j;simp only[Xk,List.getElem?_mapIdx];cases sd[j]? <;> simp
theorem JcR {g:Nat} {k:Int} {sd md:List Don} {i:Nat} {x:Don} (h:sd[i]? = some x):(Xk g k sd md i)[i]? = some x:=by
 simp[Xk,List.getElem?_mapIdx,h]
theorem Ja8 {g:Nat} {k:Int} {sd md:List Don} {i:Nat} {x y:Don} (h:sd[i]? = some x) (hy:md[i]? = some y):(Xk g k sd md i).set i (YG g k i x y)=Xk g k sd md (i+1):=by
 apply List.ext_getElem?;intro j;have hl:i<sd.length:=(Juj.1 h).1
 by_cases hj:i=j
 ·subst hj;rw[List.getElem?_set_self (by rw[ZK];exact hl)];have e:md.getD i Wc=y:=QM hy;simp only[Xk,List.getElem?_mapIdx,h,Juk,e,show i<i+1 by omega,if_true]
 ·rw[List.getElem?_set_ne hj];simp only[Xk,List.getElem?_mapIdx];cases sd[j]? with
  | none=>rfl
  | some z =>
   simp only[Juk]
   by_cases h1:j<i
   ·rw[if_pos h1,if_pos (show j<i+1 by omega)]
   ·rw[if_neg h1,if_neg (show ¬j<i+1 by omega)]
theorem Jkt {g:Nat} {k:Int} {sd md:List Don} {i:Nat} {x y:Don} (h:sd[i]? = some x) (hy:md[i]? = some y) (hp : ¬(Int.tmod (i:Int) (g:Int)=k∧x.seq<y.seq)):Xk g k sd md i=Xk g k sd md (i+1):=by
 rw[←Ja8 h hy];have e:YG g k i x y=x:=by unfold YG;rw[if_neg hp]
 rw[e];apply List.ext_getElem?;intro j;have hl:i<sd.length:=(Juj.1 h).1
 by_cases hj:i=j
 ·subst hj;rw[List.getElem?_set_self (by rw[ZK];exact hl)];exact JcR h
 ·rw[List.getElem?_set_ne hj]
theorem JeW {g:Nat} {k:Int} {sd md:List Don} {n:Nat} (hl:md.length=sd.length) {d:Don} (h:d∈Xk g k sd md n):d∈sd∨d∈md:=by
 obtain⟨j,hj⟩:=List.getElem?_of_mem h;simp only[Xk,List.getElem?_mapIdx] at hj;cases hx:sd[j]? with
 | none=>rw[hx] at hj;simp at hj
 | some x =>
  have hjl:j<md.length:=by rw[hl];exact(Juj.1 hx).1
  have hyy:md[j]? = some md[j]:=Jut hjl;rw[hx] at hj;simp only[Juk,Juh,QM hyy] at hj;have mx:x∈sd:=Jup hx;have my:md[j]∈md:=List.getElem_mem hjl;split at hj
  ·unfold YG at hj;split at hj
   ·subst hj;exact .inr my
   ·subst hj;exact .inl mx
  ·subst hj;exact .inl mx
def QV (l:List Don):List Int:=l.map fun d=>d.seq
def JJ (s:Sit) (k:Int):Msg:=⟨3,-1,k,s.round,⟨0,0,0,[]⟩,s.added,QV s.done,[]⟩
def Xv (p:Pln) (s:Sit) (k:Int) (m:Msg):Sit :=
 if s.up=true∧m.to=k then
  if m.kind=2∧m.round=s.round then ⟨s.up,true,s.round,s.base,s.added,s.done⟩
  else if m.kind=4∧s.round<m.round then ⟨s.up,false,m.round,m.vals,[0,0,0],Xk p.gives.length k s.done m.done s.done.length⟩
  else s
 else s
def Xw (s:Sit) (k:Int) (m:Msg):List Msg:=if s.up=true∧m.to=k∧m.kind=2∧m.round=s.round then [JJ s k] else []
theorem Jpx (l:List Don) (hl:l.length≤2000000):Ev L f_k5m [.s (dDs l)] [.s (dL (QV l))]:=by
 refine Jud (vs:=[.l (dDs l)]) L_k5m rfl ?_;refine Jt5 l.length (fun i=>[.l (dL (QV (l.take i))),.i i]) (fun _=>True) rfl rfl trivial fun i hi _=>?_;simp only[sC,sN];refine JtN i (Qv l) rfl (fun h=>?_) (fun h=>JtX (Jt9 ?_))
 ·obtain⟨x,hx,hm⟩:=sA1 h;refine Jt3 (vs:=[.i x.seq,.i x.code,.l (dL x.tells)]) i (mA1 (f:=Don.g) hx) rfl rfl rfl rfl ?_;simp only[sC,sN];refine Juc (dL (QV (l.take i))) 2000000 (by rw[dL1];simp only[QV,Jur,Jux];omega) (by omega) rfl ?_;refine JtH (vs:=[.l (dL (QV (l.take (i+1)))),.i ((i+1:Nat):Int)]) ?_ ⟨h,rfl,trivial⟩;show [V.l (dL (QV (l.take i))++[dI x.seq]),V.i (i64.wrap ((i:Int)+1))]=_;rw[wS h (by omega),tS1 hx];simp only[dL,QV,List.map_append,Juq,List.map_nil]
 ·show [D.s (dL (QV (l.take i)))]=_;rw[tA1 h]
theorem Ww (s:Sit) (k:Int) (hs:Qa s):Ev L f_k2g (s.cells++[dI k]) (JJ s k).cells:=by
 refine Jud (vs:=[.b s.up,.b s.frozen,.i s.round,.l (dL s.base),.l (dL s.added),.l (dDs s.done),.i k]) L_k2g rfl ?_;have h2:=hs.2.1;have h3:=hs.2.2.1;refine JtM (dL s.added) 2000000 (by rw[dL1];omega) (by omega) rfl ?_;refine JtS (JR s.added) ?_;refine JtM (dL s.added) 2000000 (by rw[dL1];omega) (by omega) rfl ?_;refine Jt5 s.done.length (fun i=>[.l (dL (QV (s.done.take i))),.i i]) (fun _=>True) rfl rfl trivial fun i hi _=>?_;simp only[sC,sN];refine JtN i (Qv s.done) rfl (fun h=>?_) (fun h=>JtX (Jt9 ?_))
 ·obtain⟨x,hx,hm⟩:=sA1 h;refine Jt3 (vs:=[.i x.seq,.i x.code,.l (dL x.tells)]) i (mA1 (f:=Don.g) hx) rfl rfl rfl rfl ?_;simp only[sC,sN];refine Juc (dL (QV (s.done.take i))) 2000000 (by rw[dL1];simp only[QV,Jur,Jux];omega) (by omega) rfl ?_;refine JtH (vs:=[.l (dL (QV (s.done.take (i+1)))),.i ((i+1:Nat):Int)]) ?_ ⟨h,rfl,trivial⟩;show [V.l (dL (QV (s.done.take i))++[dI x.seq]),V.i (i64.wrap ((i:Int)+1))]=_;rw[wS h (by omega),tS1 hx];simp only[dL,QV,List.map_append,Juq,List.map_nil]
 ·rw[tA1 h];rfl
theorem V1 {p:Pln} {s:Sit} {k:Int} {m:Msg} (h : ¬(s.up=true∧m.to=k)∨(¬(m.kind=2∧m.round=s.round)∧¬(m.kind=4∧s.round<m.round))):Xv p s k m=s∧Xw s k m=[]:=by
 unfold Xv Xw;rcases h with h | ⟨h1,h2⟩
 ·rw[if_neg h,if_neg (fun q=>h ⟨q.1,q.2.1⟩)];exact⟨rfl,rfl⟩
 ·have h3 : ¬(s.up=true∧m.to=k∧m.kind=2∧m.round=s.round):=fun q=>h1 q.2.2;rw[if_neg h1,if_neg h2,if_neg h3];simp
theorem Jgy {p:Pln} {s:Sit} {k:Int} {m:Msg} (h1:s.up=true) (h2:m.to=k) (h3:m.kind=2) (h4:m.round=s.round):Xv p s k m=⟨s.up,true,s.round,s.base,s.added,s.done⟩∧Xw s k m=[JJ s k]:=by
 unfold Xv Xw;rw[if_pos ⟨h1,h2⟩,if_pos ⟨h3,h4⟩,if_pos ⟨h1,h2,h3,h4⟩];exact⟨rfl,rfl⟩
theorem JoL {p:Pln} {s:Sit} {k:Int} {m:Msg} (h1:s.up=true) (h2:m.to=k) (h3:m.kind=4) (h4:s.round<m.round):Xv p s k m=⟨s.up,false,m.round,m.vals,[0,0,0],Xk p.gives.length k s.done m.done s.done.length⟩∧Xw s k m=[]:=by
 unfold Xv Xw;rw[if_pos ⟨h1,h2⟩,if_neg (fun q=>by omega),if_pos ⟨h3,h4⟩,if_neg (fun q=>by omega)];exact⟨rfl,rfl⟩
theorem JaR {α:Type} {l:List α} {i:Nat} {x:α} (h:l[i]? = some x):l.set i x=l:=by
 apply List.ext_getElem?;intro j;have hl:i<l.length:=(Juj.1 h).1
 by_cases hj:i=j
 ·subst hj;rw[List.getElem?_set_self hl,h]
 ·rw[List.getElem?_set_ne hj]
theorem Je3 (p:Pln) (s:Sit) (k:Int) (m:Msg) (hs:Qa s) (hm:Qd m) (hg:0<p.gives.length) (hdone:m.kind=4→m.done.length=s.done.length) :
  Ev L f_k2h (p.cells++s.cells++[dI k]++m.cells) ((Xv p s k m).cells++[.s (dMs (Xw s k m))]):=by
 refine Jud (vs:=[.i p.n,.l (Je p.acts),.l (dL p.gives),.l (dL p.start),.b s.up,.b s.frozen,.i s.round,.l (dL s.base),.l (dL s.added),.l (dDs s.done),.i k,.i m.kind,.i m.to,.i m.frm,.i m.round,.i m.call.client,.i m.call.seq,.i m.call.act,.l (dL m.call.args),.l (dL m.vals),.l (dL m.seqs),.l (dDs m.done)]) L_k2h rfl ?_;refine JtL (vs:=[.b s.up,.b s.frozen,.i s.round,.l (dL s.base),.l (dL s.added),.l (dDs s.done)]) (V9 s hs) rfl rfl rfl ?_;simp only[sC,sN];refine JtI s.up rfl (fun a=>Jt9 (by obtain⟨e1,e2⟩:=V1 (p:=p) (s:=s) (k:=k) (m:=m) (by exact .inl (fun q=>by rw[a] at q;cases q.1));rw[e1,e2];rfl)) (fun a=>?_);refine JtI (decide (m.to=k)) rfl (fun b=>Jt9 (by obtain⟨e1,e2⟩:=V1 (p:=p) (s:=s) (k:=k) (m:=m) (by exact .inl (fun q=>by simp[q.2] at b));rw[e1,e2];rfl)) (fun b=>?_);have b:m.to=k:=by simpa using b
 have hno :∀q:(¬(m.kind=2∧m.round=s.round)∧¬(m.kind=4∧s.round<m.round)),Xv p s k m=s∧Xw s k m=[]:=fun q=>V1 (.inr q);refine Jt2 (m.kind=2) rfl (fun d=>?_) (fun d=>?_)
 ·refine Jt2 (m.round=s.round) rfl (fun e=>?_) (fun e=>?_)
  ·obtain⟨e1,e2⟩:=Jgy (p:=p) (s:=s) (k:=k) (m:=m) a b d e;rw[e1,e2];have hv:=Ww ⟨s.up,true,s.round,s.base,s.added,s.done⟩ k hs;refine JtL (vs:=[.i 3,.i (-1),.i k,.i s.round,.i 0,.i 0,.i 0,.l (dL []),.l (dL s.added),.l (dL (QV s.done)),.l (dDs [])]) hv rfl rfl rfl (Jt9 ?_);rfl
  ·refine Jt2 (m.kind=4) rfl (fun f=>absurd f (by omega)) (fun f=>Jt9 ?_);obtain⟨e1,e2⟩:=hno ⟨fun q=>e q.2,fun q=>f q.1⟩;rw[e1,e2];rfl
 ·refine Jt2 (m.kind=4) rfl (fun f=>?_) (fun f=>Jt9 ?_)
  ·refine Jt2 (s.round<m.round) rfl (fun e=>?_) (fun e=>Jt9 ?_)
   ·obtain⟨e1,e2⟩:=JoL (p:=p) (s:=s) (k:=k) (m:=m) a b f e;rw[e1,e2];have hd:=hdone f;have hsl:=hs.2.2.1;have hvl:(dL m.vals).length≤2000000:=by rw[dL1];exact hm.2.1
    refine JtM (dL m.vals) 2000000 hvl (by omega) rfl ?_;refine JtS (JR m.vals) ?_;refine JtM (dL m.vals) 2000000 hvl (by omega) rfl ?_;refine Jt5 s.done.length (fun i=>[.l (dDs (Xk p.gives.length k s.done m.done i)),.i i]) (fun _=>True) rfl (by rw[Jlc];rfl) trivial fun i hi _=>?_;simp only[sC,sN];refine JtN i (show (dDs (Xk p.gives.length k s.done m.done i)).length=s.done.length by rw[Qv,ZK]) rfl (fun h=>?_) (fun h=>JtX (Jt9 ?_))
    ·obtain⟨x,hx,hxm⟩:=sA1 h;obtain⟨y,hy,hym⟩:=sA1 (l:=m.done) (i:=i) (by omega);have hyg:(dDs m.done)[i]? = some y.g:=mA1 (f:=Don.g) hy;have hxg:(dDs (Xk p.gives.length k s.done m.done i))[i]? = some x.g:=mA1 (f:=Don.g) (JcR hx);have hlt:i<(dDs (Xk p.gives.length k s.done m.done i)).length:=by rw[Qv,ZK];exact h
     have hset:=Ja8 (g:=p.gives.length) (k:=k) hx hy;have hsame:=Jkt (g:=p.gives.length) (k:=k) hx hy;have hsd:(dDs (Xk p.gives.length k s.done m.done i)).set i (YG p.gives.length k i x y).g=dDs (Xk p.gives.length k s.done m.done (i+1)):=by rw[←hset];simp only[dDs,List.map_set]
     refine Jt3 (vs:=[.i y.seq,.i y.code,.l (dL y.tells)]) i hyg rfl rfl rfl rfl ?_;simp only[sC,sN];generalize dDs (Xk p.gives.length k s.done m.done i)=es at *;refine JtO (vs:=[.i x.seq,.i x.code,.l (dL x.tells)]) (ds:=es) i hxg rfl rfl rfl rfl rfl rfl ?_;simp only[sC,sN];have hw:i64.wrap ((i:Int)+1)=((i+1:Nat):Int):=wS h (by omega);refine Jt2 (x.seq<y.seq) rfl (fun u=>?_) (fun u=>?_)
     ·refine Jt0 (by show (!decide (((dL p.gives).length:Int)=0))=true;rw[dL1,Bool.not_eq_true',decide_eq_false_iff_not];omega) ?_;refine Jt2 (Int.tmod (i:Int) (p.gives.length:Int)=k) (by show decide (Int.tmod (i:Int) ((dL p.gives).length:Int)=k)=_;rw[dL1]) (fun v=>?_) (fun v=>?_)
      ·refine Jt3 (vs:=[.i y.seq,.i y.code,.l (dL y.tells)]) i hyg rfl rfl rfl rfl ?_;simp only[sC,sN];refine Jt3 (vs:=[.i y.seq,.i y.code,.l (dL y.tells)]) i hyg rfl rfl rfl rfl ?_;simp only[sC,sN];refine JtL (vs:=[.i y.code,.l (dL y.tells)]) (Qf y.code y.tells (hm.2.2.2.2 y hym)) rfl rfl rfl ?_;simp only[sC,sN];refine JtO (vs:=[.i x.seq,.i x.code,.l (dL x.tells)]) (ds:=es) i hxg rfl rfl rfl rfl rfl rfl ?_;refine JtH ?_ ⟨h,rfl,trivial⟩;have e5:YG p.gives.length k i x y=y:=by unfold YG;rw[if_pos ⟨v,u⟩]
       rw[e5] at hsd;show [V.l (es.set i y.g),V.i (i64.wrap ((i:Int)+1))]=_;rw[hsd,hw]
      ·refine JtH ?_ ⟨h,rfl,trivial⟩;show [V.l es,V.i (i64.wrap ((i:Int)+1))]=_;have e5:YG p.gives.length k i x y=x:=by unfold YG;rw[if_neg (fun q=>v q.1)]
       rw[e5,JaR hxg] at hsd;rw[hsd,hw]
     ·refine JtH ?_ ⟨h,rfl,trivial⟩;show [V.l es,V.i (i64.wrap ((i:Int)+1))]=_;have e5:YG p.gives.length k i x y=x:=by unfold YG;rw[if_neg (fun q=>u q.2)]
      rw[e5,JaR hxg] at hsd;rw[hsd,hw]
    ·rw[show i=s.done.length by omega];rfl
   ·obtain⟨e1,e2⟩:=hno ⟨fun q=>d q.1,fun q=>e q.2⟩;rw[e1,e2];rfl
  ·obtain⟨e1,e2⟩:=hno ⟨fun q=>d q.1,fun q=>f q.1⟩;rw[e1,e2];rfl
theorem Jqb (p:Pln) (s:Sit) (k:Int) (m:Msg) (hs:Qa s) (hm:Qd m) (hg:0<p.gives.length) (hdone:m.kind=4→m.done.length=s.done.length) :
  Ev L f_k5n (s.cells++p.cells++[dI k]++m.cells) [.s (dMs (Xw s k m)),dB (Xv p s k m).up,dB (Xv p s k m).frozen,dI (Xv p s k m).round,.s (dDs (Xv p s k m).done),.s (dL (Xv p s k m).base),.s (dL (Xv p s k m).added)]:=by
 refine Jud (vs:=[.b s.up,.b s.frozen,.i s.round,.l (dL s.base),.l (dL s.added),.l (dDs s.done),.i p.n,.l (Je p.acts),.l (dL p.gives),.l (dL p.start),.i k,.i m.kind,.i m.to,.i m.frm,.i m.round,.i m.call.client,.i m.call.seq,.i m.call.act,.l (dL m.call.args),.l (dL m.vals),.l (dL m.seqs),.l (dDs m.done)]) L_k5n rfl ?_;refine JtI s.up rfl (fun a=>Jt9 (by obtain⟨e1,e2⟩:=V1 (p:=p) (s:=s) (k:=k) (m:=m) (by exact .inl (fun q=>by rw[a] at q;cases q.1));rw[e1,e2];rfl)) (fun a=>?_);refine JtI (decide (m.to=k)) rfl (fun b=>Jt9 (by obtain⟨e1,e2⟩:=V1 (p:=p) (s:=s) (k:=k) (m:=m) (by exact .inl (fun q=>by simp[q.2] at b));rw[e1,e2];rfl)) (fun b=>?_);have b:m.to=k:=by simpa using b
 have hno :∀q:(¬(m.kind=2∧m.round=s.round)∧¬(m.kind=4∧s.round<m.round)),Xv p s k m=s∧Xw s k m=[]:=fun q=>V1 (.inr q);refine Jt2 (m.kind=2) rfl (fun d=>?_) (fun d=>?_)
 ·refine Jt2 (m.round=s.round) rfl (fun e=>?_) (fun e=>?_)
  ·obtain⟨e1,e2⟩:=Jgy (p:=p) (s:=s) (k:=k) (m:=m) a b d e;rw[e1,e2];refine JtL (vs:=[.l (dL s.added)]) (YC s.added hs.2.1) rfl rfl rfl ?_;simp only[sC,sN];refine Jt6 (Ub dI (fun _=>rfl) s.added) ?_;refine JtL (vs:=[.l (dL (QV s.done))]) (Jpx s.done hs.2.2.1) rfl rfl rfl ?_;simp only[sC,sN];refine Jt6 (Ub dI (fun _=>rfl) (QV s.done)) (Jt9 ?_);rfl
  ·refine Jt2 (m.kind=4) rfl (fun f=>absurd f (by omega)) (fun f=>Jt9 ?_);obtain⟨e1,e2⟩:=hno ⟨fun q=>e q.2,fun q=>f q.1⟩;rw[e1,e2];rfl
 ·refine Jt2 (m.kind=4) rfl (fun f=>?_) (fun f=>Jt9 ?_)
  ·refine Jt2 (s.round<m.round) rfl (fun e=>?_) (fun e=>Jt9 ?_)
   ·obtain⟨e1,e2⟩:=JoL (p:=p) (s:=s) (k:=k) (m:=m) a b f e;rw[e1,e2];have hd:=hdone f;have hsl:=hs.2.2.1;refine JtL (vs:=[.l (dL m.vals)]) (YC m.vals hm.2.1) rfl rfl rfl ?_;simp only[sC,sN];refine Jt5 s.done.length (fun i=>[.l (dDs (Xk p.gives.length k s.done m.done i)),.i i]) (fun _=>True) rfl (by rw[Jlc];rfl) trivial fun i hi _=>?_;simp only[sC,sN];refine JtN i (show (dDs m.done).length=s.done.length by rw[Qv];exact hd) rfl (fun h=>?_) (fun h=>JtX (Jt9 ?_))
    ·obtain⟨x,hx,hxm⟩:=sA1 h;obtain⟨y,hy,hym⟩:=sA1 (l:=m.done) (i:=i) (by omega);have hyg:(dDs m.done)[i]? = some y.g:=mA1 (f:=Don.g) hy;have hxg:(dDs (Xk p.gives.length k s.done m.done i))[i]? = some x.g:=mA1 (f:=Don.g) (JcR hx);have hset:=Ja8 (g:=p.gives.length) (k:=k) hx hy;have hsd:(dDs (Xk p.gives.length k s.done m.done i)).set i (YG p.gives.length k i x y).g=dDs (Xk p.gives.length k s.done m.done (i+1)):=by rw[←hset];simp only[dDs,List.map_set]
     refine Jt3 (vs:=[.i y.seq,.i y.code,.l (dL y.tells)]) i hyg rfl rfl rfl rfl ?_;simp only[sC,sN];generalize dDs (Xk p.gives.length k s.done m.done i)=es at *;have hlt:i<es.length:=(Juj.1 hxg).1;have hw:i64.wrap ((i:Int)+1)=((i+1:Nat):Int):=wS h (by omega);refine Jt0 (by show (!decide (((dL p.gives).length:Int)=0))=true;rw[dL1,Bool.not_eq_true',decide_eq_false_iff_not];omega) ?_;refine Jt2 (Int.tmod (i:Int) (p.gives.length:Int)=k) (by show decide (Int.tmod (i:Int) ((dL p.gives).length:Int)=k)=_;rw[dL1]) (fun v=>?_) (fun v=>?_)
     ·refine JtO (vs:=[.i x.seq,.i x.code,.l (dL x.tells)]) (ds:=es) i hxg rfl rfl rfl rfl rfl rfl ?_;simp only[sC,sN];refine Jt2 (x.seq<y.seq) rfl (fun u=>?_) (fun u=>?_)
      ·refine JtL (vs:=[.i y.code,.l (dL y.tells)]) (Jag y.code y.tells (hm.2.2.2.2 y hym)) rfl rfl rfl ?_;simp only[sC,sN];refine JtC i rfl (JtD (ds:=es) i rfl hlt ?_);refine Jt6 (Ub dI (fun _=>rfl) y.tells) ?_;refine Jt3 (vs:=[.i x.seq,.i x.code,.l (dL x.tells)]) (ds:=es) i hxg rfl rfl rfl rfl ?_;refine JtH ?_ ⟨h,rfl,trivial⟩;have e5:YG p.gives.length k i x y=y:=by unfold YG;rw[if_pos ⟨v,u⟩]
       rw[e5] at hsd;show [V.l (es.set i y.g),V.i (i64.wrap ((i:Int)+1))]=_;rw[hsd,hw]
      ·refine JtH ?_ ⟨h,rfl,trivial⟩;show [V.l es,V.i (i64.wrap ((i:Int)+1))]=_;have e5:YG p.gives.length k i x y=x:=by unfold YG;rw[if_neg (fun q=>u q.2)]
       rw[e5,JaR hxg] at hsd;rw[hsd,hw]
     ·refine JtH ?_ ⟨h,rfl,trivial⟩;show [V.l es,V.i (i64.wrap ((i:Int)+1))]=_;have e5:YG p.gives.length k i x y=x:=by unfold YG;rw[if_neg (fun q=>v q.1)]
      rw[e5,JaR hxg] at hsd;rw[hsd,hw]
    ·rw[show i=s.done.length by omega];rfl
   ·obtain⟨e1,e2⟩:=hno ⟨fun q=>d q.1,fun q=>e q.2⟩;rw[e1,e2];rfl
  ·obtain⟨e1,e2⟩:=hno ⟨fun q=>d q.1,fun q=>f q.1⟩;rw[e1,e2];rfl
def Ql (p:Pln) (s:Sit) (k:Int) (m:Msg):Sit×List Msg:=if(Xp p s k&&Yu p m)=true then(Xv p s k m,Xw s k m) else(⟨false,false,0,[],[],[]⟩,[])
theorem Jbg {p:Pln} {s:Sit} {k:Int} {m:Msg} (h1:Xp p s k=true) (h2:Yu p m=true):0<p.gives.length∧(m.kind=4→m.done.length=s.done.length):=by
 simp only[Xp,J2,QS,Jui,Jp,JX,decide_eq_true_eq] at h1;simp only[Yu,Jw,Jui] at h2;obtain⟨_,⟨h3,h4⟩,_,_,_,h5,_⟩:=h1;refine⟨by omega,fun h6=>?_⟩;have h7:=h2.2.2;rw[if_neg (by omega),if_neg (by omega),if_neg (by omega),if_pos h6] at h7;simp only[Jui,JX,decide_eq_true_eq] at h7;have h8:=h7.2.2.2.1.1;omega
theorem JiK (p:Pln) (s:Sit) (k:Int) (m:Msg) (hp:JN p) (hs:Qa s) (hm:Qd m):Ev L f_k5r (p.cells++s.cells++[dI k]++m.cells) ((Ql p s k m).1.cells++[.s (dMs (Ql p s k m).2)]):=by
 refine Jud (vs:=[.i p.n,.l (Je p.acts),.l (dL p.gives),.l (dL p.start),.b s.up,.b s.frozen,.i s.round,.l (dL s.base),.l (dL s.added),.l (dDs s.done),.i k,.i m.kind,.i m.to,.i m.frm,.i m.round,.i m.call.client,.i m.call.seq,.i m.call.act,.l (dL m.call.args),.l (dL m.vals),.l (dL m.seqs),.l (dDs m.done)]) L_k5r rfl ?_;refine JtL (JfH p s k hp hs) rfl rfl rfl ?_;simp only[sC,sN];refine JtI (Xp p s k) rfl (fun h=>Jt9 ?_) (fun h1=>?_)
 ·unfold Ql;rw[if_neg (by simp[h])];rfl
 refine JtL (JfW p m hp hm) rfl rfl rfl ?_;simp only[sC,sN];refine JtI (Yu p m) rfl (fun h=>Jt9 ?_) (fun h2=>?_)
 ·unfold Ql;rw[if_neg (by simp[h])];rfl
 obtain⟨hg,hd⟩:=Jbg h1 h2;have e:Ql p s k m=(Xv p s k m,Xw s k m):=by unfold Ql;rw[if_pos (by rw[h1,h2];rfl)]
 rw[e];have hv:=Je3 p s k m hs hm hg hd;generalize Xv p s k m=r at *;generalize Xw s k m=ms at *;exact JtL (vs:=[.b r.up,.b r.frozen,.i r.round,.l (dL r.base),.l (dL r.added),.l (dDs r.done),.l (dMs ms)]) hv rfl rfl rfl (Jt9 rfl)
theorem JbX (p:Pln) (s:Sit) (k:Int) (m:Msg) (hp:JN p) (hs:Qa s) (hm:Qd m):Ev L f_k5o (p.cells++s.cells++[dI k]++m.cells) ((Ql p s k m).1.cells++[.s (dMs (Ql p s k m).2)]):=by
 refine Jud (vs:=[.i p.n,.l (Je p.acts),.l (dL p.gives),.l (dL p.start),.b s.up,.b s.frozen,.i s.round,.l (dL s.base),.l (dL s.added),.l (dDs s.done),.i k,.i m.kind,.i m.to,.i m.frm,.i m.round,.i m.call.client,.i m.call.seq,.i m.call.act,.l (dL m.call.args),.l (dL m.vals),.l (dL m.seqs),.l (dDs m.done)]) L_k5o rfl ?_;refine JtL (JfP p s k hp hs) rfl rfl rfl ?_;simp only[sC,sN];refine JtI (Xp p s k) rfl (fun h=>Jt9 ?_) (fun h1=>?_)
 ·unfold Ql;rw[if_neg (by simp[h])];rfl
 refine JtL (JfR p m hp hm) rfl rfl rfl ?_;simp only[sC,sN];refine JtI (Yu p m) rfl (fun h=>Jt9 ?_) (fun h2=>?_)
 ·unfold Ql;rw[if_neg (by simp[h])];rfl
 obtain⟨hg,hd⟩:=Jbg h1 h2;have e:Ql p s k m=(Xv p s k m,Xw s k m):=by unfold Ql;rw[if_pos (by rw[h1,h2];rfl)]
 rw[e];refine JtL (vs:=[.b s.up,.b s.frozen,.i s.round,.l (dL s.base),.l (dL s.added),.l (dDs s.done)]) (Ja0 s hs) rfl rfl rfl ?_;simp only[sC,sN];have hv:=Jqb p s k m hs hm hg hd;generalize Xv p s k m=r at *;generalize Xw s k m=ms at *;exact JtL (vs:=[.l (dMs ms),.b r.up,.b r.frozen,.i r.round,.l (dDs r.done),.l (dL r.base),.l (dL r.added)]) hv rfl rfl rfl (Jt9 rfl)
theorem Ji6 (p:Pln) {s:Sit} (k:Int) {m:Msg} (hs:Qa s) (hm:Qd m):Qa (Ql p s k m).1∧(∀d∈(Ql p s k m).2,Qd d)∧(Ql p s k m).2.length≤1:=by
 unfold Ql;split
 ·rename_i h;rw[Jui] at h;obtain⟨hg,hd⟩:=Jbg h.1 h.2;refine⟨?_,?_,?_⟩
  ·show Qa (Xv p s k m);unfold Xv;split
   ·split
    ·exact hs
    ·split
     ·rename_i h4;refine⟨hm.2.1,by show ([0,0,0]:List Int).length≤_;simp,by rw[ZK];exact hs.2.2.1,fun d hdm=>?_⟩;rcases JeW (hd h4.1) hdm with q | q
      ·exact hs.2.2.2 d q
      ·exact hm.2.2.2.2 d q
     ·exact hs
   ·exact hs
  ·show ∀d∈Xw s k m,Qd d;unfold Xw;split
   ·intro d hdm;simp only[JuA] at hdm;subst hdm;exact⟨by simp[JJ],hs.2.1,by simp only[JJ,QV,Jur];exact hs.2.2.1,by simp[JJ],fun d hd=>by simp[JJ] at hd⟩
   ·intro d hdm;simp at hdm
  ·show (Xw s k m).length≤1;unfold Xw;split <;> simp
 ·exact⟨⟨by simp,by simp,by simp,fun d hd=>by simp at hd⟩,fun d hd=>by simp at hd,by simp⟩
/- The program's ClkTick answers as the reference's: over residual programs. -/
def Jjn (c:Clk) (i:Nat):Msg:=⟨4,i,0,c.round,⟨0,0,0,[]⟩,c.base,[],c.done⟩
def Jpr (c:Clk) (i:Nat):Msg:=⟨2,i,0,c.round,⟨0,0,0,[]⟩,[],[],[]⟩
def Xx (c:Clk) (n:Nat):List Msg:=(List.range n).map (Jjn c)
def YW (c:Clk) (n:Nat):List Msg:=(List.range n).map (Jpr c)
theorem JhY (c:Clk) (n:Nat):Xx c (n+1)=Xx c n++[Jjn c n]:=by simp[Xx,List.range_succ]
theorem Jkm (c:Clk) (n:Nat):YW c (n+1)=YW c n++[Jpr c n]:=by simp[YW,List.range_succ]
theorem Z5 (c:Clk) (n:Nat):(Xx c n).length=n:=by simp[Xx]
theorem Jff (c:Clk) (n:Nat):(YW c n).length=n:=by simp[YW]
def busy (c:Clk):Bool:=decide (0<c.wants.length)||decide (0<XW c.got)
def JbL (c:Clk):List Msg:=if c.up then(if busy c then Xx c c.got.length++YW c c.got.length else Xx c c.got.length) else []
theorem JcJ (a b:List Msg):dMs (a++b)=dMs a++dMs b:=by simp[dMs]
theorem Qy (a:List Msg):(dMs a).length=a.length:=by simp[dMs]
theorem JnS (c:Clk) (i:Nat):dMs [Jjn c i]=[.g [dI 4,dI i,dI 0,dI c.round,dI 0,dI 0,dI 0,.s [],.s (dL c.base),.s [],.s (dDs c.done)]]:=rfl
theorem JpY (c:Clk) (i:Nat):dMs [Jpr c i]=[.g [dI 2,dI i,dI 0,dI c.round,dI 0,dI 0,dI 0,.s [],.s [],.s [],.s []]]:=rfl
theorem Jmz (c:Clk) (i:Nat) (hc:KH c):Ev L f_k2m (c.cells++[dI i]) (Jjn c i).cells:=by
 refine Jud (vs:=[.b c.up,.i c.round,.l (dL c.base),.l (dDs c.done),.l (dCs c.wants),.l (dGs c.got),.i i]) L_k2m rfl ?_;have h1:=hc.b;refine JtM (dL c.base) 2000000 (by rw[dL1];omega) (by omega) rfl ?_;refine JtS (JR c.base) ?_;refine JtM (dL c.base) 2000000 (by rw[dL1];omega) (by omega) rfl ?_;exact JtL (vs:=[.l (dDs c.done)]) (Yh c.done ⟨hc.d,hc.dt⟩) rfl rfl rfl (Jt9 rfl)
theorem Jfe (p:Pln) (c:Clk) (hp:JN p) (hc:KH c):Ev L f_k2n (p.cells++c.cells) [.s (dMs (Xx c p.gives.length))]:=by
 refine Jud (vs:=[.i p.n,.l (Je p.acts),.l (dL p.gives),.l (dL p.start),.b c.up,.i c.round,.l (dL c.base),.l (dDs c.done),.l (dCs c.wants),.l (dGs c.got)]) L_k2n rfl ?_;have hg:=hp.2.1;refine Jt5 p.gives.length (fun i=>[.l (dMs (Xx c i)),.i i]) (fun _=>True) rfl rfl trivial fun i hi _=>?_;simp only[sC,sN];refine JtN i (dL1 p.gives) rfl (fun h=>?_) (fun h=>JtX (Jt9 ?_))
 ·refine JtL (vs:=[.i 4,.i i,.i 0,.i c.round,.i 0,.i 0,.i 0,.l [],.l (dL c.base),.l [],.l (dDs c.done)]) (Jmz c i hc) rfl rfl rfl ?_;simp only[sC,sN];refine Juc (dMs (Xx c i)) 2000000 (by rw[Qy,Z5];omega) (by omega) rfl ?_;refine JtH (vs:=[.l (dMs (Xx c (i+1))),.i ((i+1:Nat):Int)]) ?_ ⟨h,rfl,trivial⟩;show [V.l (dMs (Xx c i)++[.g [dI 4,dI i,dI 0,dI c.round,dI 0,dI 0,dI 0,.s [],.s (dL c.base),.s [],.s (dDs c.done)]]),V.i (i64.wrap ((i:Int)+1))]=_;rw[wS h (by omega),JhY,JcJ,JnS]
 ·rw[show i=p.gives.length by omega];rfl
theorem JmX (p:Pln) (c:Clk) (hp:JN p) (hc:KH c) (hl:c.got.length=p.gives.length):Ev L f_k2q (p.cells++c.cells) [.s (dMs (JbL c))]:=by
 refine Jud (vs:=[.i p.n,.l (Je p.acts),.l (dL p.gives),.l (dL p.start),.b c.up,.i c.round,.l (dL c.base),.l (dDs c.done),.l (dCs c.wants),.l (dGs c.got)]) L_k2q rfl ?_;have hg:=hp.2.1;have hcc:=hc.c;refine JtI c.up rfl (fun a=>Jt9 (by unfold JbL;rw[if_neg (by simp[a])];rfl)) (fun a=>?_);have ht:=Jfe p c hp hc;have hpl:=Z5 c p.gives.length;have hh:=JeC c hc.g;have et:JbL c=if busy c then Xx c p.gives.length++YW c p.gives.length else Xx c p.gives.length:=by unfold JbL;rw[if_pos a,hl]
 rw[et];clear et;generalize Xx c p.gives.length=ps at *;refine JtL (vs:=[.l (dMs ps)]) ht rfl rfl rfl ?_;simp only[sC,sN];refine Jt5 p.gives.length (fun i=>[.l (dMs (ps++YW c i)),.i i]) (fun i=>i=0∨busy c=true) rfl (by rw[show YW c 0=[] from rfl,List.append_nil];rfl) (.inl rfl) fun i hi hq=>?_;simp only[sC,sN];have hs:dMs (ps++YW c i)++[.g [dI 2,dI i,dI 0,dI c.round,dI 0,dI 0,dI 0,.s [],.s [],.s [],.s []]]=dMs (ps++YW c (i+1)):=by rw[Jkm,←List.append_assoc,JcJ (ps++YW c i),JpY]
 have hlen:(dMs (ps++YW c i)).length≤4000000:=by rw[Qy,Juo,Jff];omega
 have hend : ¬i<p.gives.length∨busy c=false→[D.s (dMs (ps++YW c i))]=[D.s (dMs (if busy c then ps++YW c p.gives.length else ps))]:=fun q=>by
  by_cases hb:busy c=true
  ·rw[if_pos hb];rcases q with q | q
   ·rw[show i=p.gives.length by omega]
   ·rw[q] at hb;cases hb
  ·rw[if_neg hb];rcases hq with e | e
   ·rw[e,show YW c 0=[] from rfl,List.append_nil]
   ·exact absurd e hb
 generalize dMs (ps++YW c i)=ms at *;refine JtN i (dL1 p.gives) rfl (fun h=>?_) (fun h=>JtX (Jt9 (hend (.inl h))));have hw:i64.wrap ((i:Int)+1)=((i+1:Nat):Int):=wS h (by omega);refine Jt2 ((0:Int)<(c.wants.length:Int)) (by show decide ((0:Int)<((dCs c.wants).length:Int))=_;rw[Yj]) (fun b=>?_) (fun b=>?_)
 ·have e:busy c=true:=by unfold busy;rw[decide_eq_true (by omega)];rfl
  refine Juc ms 4000000 hlen (by omega) rfl ?_;refine JtH ?_ ⟨h,rfl,.inr e⟩;show [V.l (ms++[.g [dI 2,dI i,dI 0,dI c.round,dI 0,dI 0,dI 0,.s [],.s [],.s [],.s []]]),V.i (i64.wrap ((i:Int)+1))]=_;rw[hs,hw]
 ·refine JtL hh rfl rfl rfl ?_;simp only[sC,sN];refine Jt2 ((0:Int)<(XW c.got:Int)) rfl (fun d=>?_) (fun d=>JtX (Jt9 (hend (.inr ?_))))
  ·have e:busy c=true:=by unfold busy;rw[decide_eq_true (show 0<XW c.got by omega),Bool.or_true]
   refine Juc ms 4000000 hlen (by omega) rfl ?_;refine JtH ?_ ⟨h,rfl,.inr e⟩;show [V.l (ms++[.g [dI 2,dI i,dI 0,dI c.round,dI 0,dI 0,dI 0,.s [],.s [],.s [],.s []]]),V.i (i64.wrap ((i:Int)+1))]=_;rw[hs,hw]
  ·unfold busy;rw[decide_eq_false (by omega),decide_eq_false (by omega)];rfl
/- What a site tries,by the reference: over residual programs. -/
theorem Ja7 (x:Msg) (hx:Qd x):Ev L f_k1y x.cells x.cells:=by
 refine Jud (vs:=[.i x.kind,.i x.to,.i x.frm,.i x.round,.i x.call.client,.i x.call.seq,.i x.call.act,.l (dL x.call.args),.l (dL x.vals),.l (dL x.seqs),.l (dDs x.done)]) L_k1y rfl ?_;obtain⟨h1,h2,h3,h4⟩:=hx;refine JtL (vs:=[.i x.call.client,.i x.call.seq,.i x.call.act,.l (dL x.call.args)]) (J0 x.call h1) rfl rfl rfl ?_;simp only[sC,sN];refine JtM (dL x.vals) 2000000 (by rw[dL1];omega) (by omega) rfl ?_;refine JtS (JR x.vals) ?_;refine JtM (dL x.vals) 2000000 (by rw[dL1];omega) (by omega) rfl ?_;refine JtM (dL x.seqs) 2000000 (by rw[dL1];omega) (by omega) rfl ?_;refine JtS (JR x.seqs) ?_;refine JtM (dL x.seqs) 2000000 (by rw[dL1];omega) (by omega) rfl ?_;refine JtL (vs:=[.l (dDs x.done)]) (Yh x.done h4) rfl rfl rfl (Jt9 rfl)
structure Jph where
 site:Sit
 code:Int
 tells:List Int
 said:List Msg
def Jb0 (c:Cal):Msg:=⟨1,-1,0,0,c,[],[],[]⟩
def JY (s:Sit) (c:Cal):Don:=s.done.getD c.client.toNat Wc
def K8 (p:Pln) (s:Sit) (k:Int) (c:Cal):JjV:=Ja9 p.acts s.base p.gives k s.added c.act c.args
def JhJ (s:Sit) (c:Cal) (r:JjV):Sit:=⟨s.up,s.frozen,s.round,s.base,r.adds,s.done.set c.client.toNat ⟨c.seq,r.code,r.tells⟩⟩
def WI (p:Pln) (s:Sit) (k:Int) (c:Cal):Jph :=
 if s.up=true∧Int.tmod c.client p.gives.length=k then
  if c.seq=(JY s c).seq then ⟨s,(JY s c).code,(JY s c).tells,[]⟩
  else if c.seq=(JY s c).seq+1 then
   if s.frozen=false∧(K8 p s k c).ok=true then ⟨JhJ s c (K8 p s k c),(K8 p s k c).code,(K8 p s k c).tells,[]⟩
   else ⟨s,0,[],[Jb0 c]⟩
  else ⟨s,0,[],[]⟩
 else ⟨s,0,[],[]⟩
def Jph.ds (r:Jph):List D:=r.site.cells++[dI r.code,.s (dL r.tells),.s (dMs r.said)]
theorem JkE {p:Pln} {s:Sit} {k:Int} {c:Cal} (h : ¬(s.up=true∧Int.tmod c.client p.gives.length=k)∨(c.seq≠(JY s c).seq∧c.seq≠(JY s c).seq+1)):WI p s k c=⟨s,0,[],[]⟩:=by
 unfold WI;rcases h with h | ⟨h1,h2⟩
 ·rw[if_neg h]
 ·rw[if_neg h1,if_neg h2];split <;> rfl
theorem JhZ {p:Pln} {s:Sit} {k:Int} {c:Cal} (h1:s.up=true) (h2:Int.tmod c.client p.gives.length=k) (h3:c.seq=(JY s c).seq):WI p s k c=⟨s,(JY s c).code,(JY s c).tells,[]⟩:=by
 unfold WI;rw[if_pos ⟨h1,h2⟩,if_pos h3]
theorem JlB {p:Pln} {s:Sit} {k:Int} {c:Cal} (h1:s.up=true) (h2:Int.tmod c.client p.gives.length=k) (h3:c.seq=(JY s c).seq+1) (h4:s.frozen=false) (h5:(K8 p s k c).ok=true) :
  WI p s k c=⟨JhJ s c (K8 p s k c),(K8 p s k c).code,(K8 p s k c).tells,[]⟩:=by
 unfold WI;rw[if_pos ⟨h1,h2⟩,if_neg (by omega),if_pos h3,if_pos ⟨h4,h5⟩]
theorem Jh6 {p:Pln} {s:Sit} {k:Int} {c:Cal} (h1:s.up=true) (h2:Int.tmod c.client p.gives.length=k) (h3:c.seq=(JY s c).seq+1) (h4:s.frozen=true∨(K8 p s k c).ok=false):WI p s k c=⟨s,0,[],[Jb0 c]⟩:=by
 unfold WI;rw[if_pos ⟨h1,h2⟩,if_neg (by omega),if_pos h3,if_neg (by rintro⟨a,b⟩;rcases h4 with h | h <;> simp_all)]
theorem JB {n:Int} {l:List Don}:JX n l=true↔(l.length:Int)=n∧∀d∈l,Xi d=true:=by
 unfold JX;rw[Jui,decide_eq_true_eq,Juv]
theorem Jdo {n:Int} {l:List Don} (h:JX n l=true) (i:Nat) {d:Don} (hd:Xi d=true):JX n (l.set i d)=true:=by
 obtain⟨h1,h2⟩:=JB.1 h;refine JB.2 ⟨by rw[List.length_set];exact h1,fun x hx=>?_⟩;rcases JuH hx with q | q
 ·exact h2 x q
 ·rw[q];exact hd
theorem QY {p:Pln} {c:Cal}:Jq p c=true↔(0≤c.client∧c.client≤p.n-1)∧(1≤c.seq∧c.seq≤300)∧(0≤c.act∧c.act≤(p.acts.length:Int)-1)∧Q7 c.args=true:=by
 unfold Jq;simp only[Jui,Jp]
theorem XO {p:Pln} {b:List Int} {k:Int} {a:List Int}:Xz p b k a=true↔keeps b p.gives (Jb p.acts) k a=true∧Qe (Jj p.acts) a=true:=by
 unfold Xz;rw[Jui]
theorem Qg {p:Pln} {s:Sit} {k:Int}:J2 p s k=true↔(0≤s.round∧s.round≤200)∧JU s.base=true∧Xz p s.base k s.added=true∧JX p.n s.done=true:=by
 unfold J2;simp only[Jui,Jp]
theorem Jkv {p:Pln} {c:Cal} (h:Jq p c=true):Jw p (Jb0 c)=true:=by simp[Jw,Jb0,inB,XM,em,h]
theorem W8 {p:Pln} {s:Sit} {k:Int} {c:Cal} (hp:JC p=true) (hs:J2 p s k=true) (hc:Jq p c=true):YY p.acts s.base p.gives k s.added c.act c.args=true:=by
 obtain⟨_,_,h3,_⟩:=Qg.1 hs;obtain⟨_,_,h6,h7⟩:=QY.1 hc;obtain⟨h8,h9⟩:=XO.1 h3;unfold YY;rw[XH hp,h7,h8,h9,show inB c.act 0 ((p.acts.length:Int)-1)=true from Jp.2 h6];rfl
theorem Jpm {f:Frm} {v w:List Int} (hf:Std 10000000 f) (hv:JU v=true) (hw:Q7 w=true) : -999999999999≤atF f v w∧atF f v w≤999999999999:=by
 obtain⟨v1,v2⟩:=QH.1 hv;obtain⟨w1,w2⟩:=X3.1 hw;have h1:=KA hf.lc v2 (by omega) (by omega);have h2:=KA hf.ld w2 (by omega) (by omega);have h3:=hf.k;rw[hf.c] at h1;rw[hf.d] at h2;unfold atF;omega
theorem JmC {ps:List Bool} {a b:List Int} (ha:Qe ps a=true) (hb:Qe ps b=true):Qe ps (Qn a b)=true:=by
 unfold Qe Qn at *
 induction ps generalizing a b with
 | nil=>simp
 | cons q ps ih =>
  cases a with
  | nil=>simp
  | cons x a =>
   cases b with
   | nil=>simp
   | cons y b =>
    simp only[List.zip_cons_cons,List.all_cons,List.zipWith_cons_cons,Jui] at ha hb ⊢;refine⟨?_,ih ha.2 hb.2⟩;have h1:=ha.1;have h2:=hb.1;cases q with
    | false=>rfl
    | true =>
     simp only[JuC,Bool.not_not,decide_eq_true_eq] at h1 h2 ⊢;omega
theorem Jin {p:Pln} {s:Sit} {k:Int} {c:Cal} (hf:YY p.acts s.base p.gives k s.added c.act c.args=true) (h:(K8 p s k c).ok=true) :
  JL (K8 p s k c).code (K8 p s k c).tells=true∧Xz p s.base k (K8 p s k c).adds=true:=by
 obtain⟨hc,hk,hw,hke,hst⟩:=KD.1 hf;have hb:JU s.base=true:=by
  obtain⟨h1,_⟩:=Zx (Xu hke);simp only[Qr,Jui] at h1;exact h1.1.1
 have hka:Xz p s.base k s.added=true:=XO.2 ⟨hke,hst⟩;have key :∀r,r∈Ju (p.acts.getD c.act.toNat [])→∀q,KG s.base p.gives (Jb p.acts) (Jj p.acts) k s.added c.args r=q→q.ok=true→JL q.code q.tells=true∧Xz p s.base k q.adds=true:=by
  intro r hr q hq hqo;have hrf:=Yi r hr;unfold KG at hq;split at hq
  ·subst hq;exact⟨by simp[JL,inB,JG],hka⟩
  ·split at hq
   ·rename_i h1;rw[Jui] at h1;split at hq
    ·subst hq;exact⟨by simp[JL,inB,JG],hka⟩
    ·split at hq
     ·subst hq;cases hqo
     ·split at hq
      ·rename_i h2;subst hq;refine⟨YB.2 ⟨by simp,by simp only[atL,Jur];exact hrf.tl,.inl rfl,fun x hx=>?_⟩,XO.2 ⟨h2,JmC hst h1.1⟩⟩;simp only[atL,List.mem_map] at hx;obtain⟨f,hfm,rfl⟩:=hx;exact Jpm (hrf.t f hfm) hb hw
      ·subst hq;cases hqo
   ·subst hq;cases hqo
 unfold K8 Ja9 at h ⊢;rw[if_pos hf] at h ⊢;split at h
 ·rename_i r hr;exact key r (List.mem_of_find?_eq_some hr) _ rfl h
 ·cases h
theorem JcF {p:Pln} {s:Sit} {k:Int} {c:Cal} (hs:J2 p s k=true) (hc:Jq p c=true):s.done[c.client.toNat]? = some (JY s c)∧Xi (JY s c)=true∧JY s c∈s.done:=by
 obtain⟨h1,h2⟩:=JB.1 (Qg.1 hs).2.2.2;obtain⟨h3,_⟩:=QY.1 hc;obtain⟨x,hx,hm⟩:=sA1 (l:=s.done) (i:=c.client.toNat) (by omega);have e:JY s c=x:=QM hx;rw[e];exact⟨hx,h2 x hm,hm⟩
theorem YE {d:Don}:Xi d=true↔(d.seq=0∧d.code=0∧d.tells.length=0)∨(1≤d.seq∧d.seq≤300∧JL d.code d.tells=true):=by
 unfold Xi;split
 ·rename_i h;simp only[Jui,decide_eq_true_eq];constructor
  ·rintro⟨a,b⟩;exact .inl ⟨h,a,b⟩
  ·rintro (⟨_,a,b⟩ | ⟨a,_⟩)
   ·exact⟨a,b⟩
   ·omega
 ·rename_i h;simp only[Jui,Jp];constructor
  ·rintro⟨⟨a,b⟩,d⟩;exact .inr ⟨a,b,d⟩
  ·rintro (⟨a,_⟩ | ⟨a,b,d⟩)
   ·exact absurd a h
   ·exact⟨⟨a,b⟩,d⟩
structure Jk5 (p:Pln) (s:Sit) (k:Int) (c:Cal) (r:Jph):Prop where
 site:J2 p r.site k=true
 said :∀m∈r.said,Jw p m=true
 one:r.said.length≤1
 res:(r.code=0∧r.tells.length=0)∨JL r.code r.tells=true
 seq:r.code≠0→(JY r.site c).seq=c.seq
 more:(JY s c).seq<(JY r.site c).seq→JL r.code r.tells=true
 len:r.tells.length≤2000000
theorem Jq6 {p:Pln} {s:Sit} {k:Int} {c:Cal} (hp:JC p=true) (hs:J2 p s k=true) (hc:Jq p c=true):Jk5 p s k c (WI p s k c):=by
 obtain⟨hx,hdo,hm⟩:=JcF hs hc;have hf:=W8 hp hs hc;obtain⟨c1,c2,c3,c4⟩:=QY.1 hc;obtain⟨s1,s2,s3,s4⟩:=Qg.1 hs;have six :∀{a:Int} {l:List Int},JL a l=true→l.length≤2000000:=fun h=>by have:=(YB.1 h).2.1;omega
 have no:Jk5 p s k c ⟨s,0,[],[]⟩:=⟨hs,fun m h=>by simp at h,by simp,.inl ⟨rfl,rfl⟩,fun h=>absurd rfl h,fun h=>absurd h (Int.lt_irrefl _),by simp⟩
 by_cases h1:s.up=true∧Int.tmod c.client p.gives.length=k
 ·by_cases h2:c.seq=(JY s c).seq
  ·rw[JhZ h1.1 h1.2 h2];have hr:JL (JY s c).code (JY s c).tells=true:=by
    rcases YE.1 hdo with h | h
    ·omega
    ·exact h.2.2
   exact⟨hs,fun m h=>by simp at h,by simp,.inr hr,fun _=>h2.symm,fun h=>absurd h (Int.lt_irrefl _),six hr⟩
  ·by_cases h3:c.seq=(JY s c).seq+1
   ·by_cases h4:s.frozen=false∧(K8 p s k c).ok=true
    ·rw[JlB h1.1 h1.2 h3 h4.1 h4.2];obtain⟨l1,l2⟩:=Jin hf h4.2;have hl:c.client.toNat<s.done.length:=(Juj.1 hx).1;have e:JY (JhJ s c (K8 p s k c)) c=⟨c.seq,(K8 p s k c).code,(K8 p s k c).tells⟩:=QM (by simp only[JhJ];exact List.getElem?_set_self hl);refine⟨Qg.2 ⟨s1,s2,l2,Jdo s4 _ (YE.2 (.inr ⟨c2.1,c2.2,l1⟩))⟩,fun m h=>by simp at h,by simp,.inr l1,fun _=>by rw[e],fun _=>l1,six l1⟩
    ·rw[Jh6 h1.1 h1.2 h3 (by cases hfz:s.frozen <;> simp_all)];refine⟨hs,fun m h=>?_,by simp,.inl ⟨rfl,rfl⟩,fun h=>absurd rfl h,fun h=>absurd h (Int.lt_irrefl _),by simp⟩;simp only[JuA] at h;subst h;exact Jkv hc
   ·rw[JkE (.inr ⟨h2,h3⟩)];exact no
 ·rw[JkE (.inl h1)];exact no
theorem JpN (p:Pln) {s:Sit} (k:Int) {c:Cal} (hs:Qa s) (hc:Uj c):Qa (WI p s k c).site∧(∀m∈(WI p s k c).said,Qd m)∧(WI p s k c).tells.length≤2000000:=by
 have hl:=JiL p.acts s.base p.gives k s.added c.act c.args hs.2.1;have hd:(JY s c).tells.length≤2000000:=by
  unfold JY;cases h:s.done[c.client.toNat]? with
  | none=>simp[Jul,h,Wc]
  | some x=>rw[QM h];exact hs.2.2.2 x (Jup h)
 have no:Qa s∧(∀m∈([]:List Msg),Qd m)∧([]:List Int).length≤2000000:=⟨hs,fun m h=>by simp at h,by simp⟩;unfold WI;split
 ·split
  ·exact⟨hs,fun m h=>by simp at h,hd⟩
  ·split
   ·split
    ·refine⟨⟨hs.1,hl.2,by simp only[JhJ,List.length_set];exact hs.2.2.1,fun d hm=>?_⟩,fun m h=>by simp at h,hl.1⟩;simp only[JhJ] at hm;rcases JuH hm with q | q
     ·exact hs.2.2.2 d q
     ·rw[q];exact hl.1
    ·refine⟨hs,fun m h=>?_,by simp⟩;simp only[JuA] at h;subst h;exact⟨hc,by simp[Jb0],by simp[Jb0],by simp[Jb0],fun d hd=>by simp[Jb0] at hd⟩
   ·exact no
 ·exact no
theorem Jpd (p:Pln) (s:Sit) (k:Int) (c:Cal) (hp:JN p) (hs:Qa s) (hc:Uj c) (hpo:JC p=true) (hso:J2 p s k=true) (hco:Jq p c=true) :
  Ev L f_k2b (p.cells++[.s (dLL (Jb p.acts)),.s (dBl (Jj p.acts))]++s.cells++[dI k]++c.cells) (WI p s k c).ds:=by
 refine Jud (vs:=[.i p.n,.l (Je p.acts),.l (dL p.gives),.l (dL p.start),.l (dLL (Jb p.acts)),.l (dBl (Jj p.acts)),.b s.up,.b s.frozen,.i s.round,.l (dL s.base),.l (dL s.added),.l (dDs s.done),.i k,.i c.client,.i c.seq,.i c.act,.l (dL c.args)]) L_k2b rfl ?_;obtain⟨hx,hdo,hm⟩:=JcF hso hco;have hfine:=W8 hpo hso hco;obtain⟨c1,c2,c3,c4⟩:=QY.1 hco;have hg:=(Qo hpo).1;have hlt:c.client.toNat<s.done.length:=(Juj.1 hx).1;have hsq : -1≤(JY s c).seq∧(JY s c).seq≤300:=by rcases YE.1 hdo with h | h <;> omega
 have hdl:(JY s c).tells.length≤2000000:=hs.2.2.2 _ hm;refine JtL (vs:=[.b s.up,.b s.frozen,.i s.round,.l (dL s.base),.l (dL s.added),.l (dDs s.done)]) (V9 s hs) rfl rfl rfl ?_;simp only[sC,sN];refine JtF (0≤c.client) rfl c1.1 ?_;refine JtF (c.client<(s.done.length:Int)) (by show decide (c.client<((dDs s.done).length:Int))=_;rw[Qv]) (by omega) ?_;refine JtJ (ds:=dDs s.done) (d:=(JY s c).g) (vs:=[.i (JY s c).seq,.i (JY s c).code,.l (dL (JY s c).tells)]) c.client rfl rfl rfl c1.1 (mA1 (f:=Don.g) hx) rfl ?_;simp only[sC,sN];have no:=fun h=>JkE (p:=p) (s:=s) (k:=k) (c:=c) h;have same:=fun h1 h2 h3=>JhZ (p:=p) (s:=s) (k:=k) (c:=c) h1 h2 h3;have did:=fun h1 h2 h3 h4 h5=>JlB (p:=p) (s:=s) (k:=k) (c:=c) h1 h2 h3 h4 h5;have want:=fun h1 h2 h3 h4=>Jh6 (p:=p) (s:=s) (k:=k) (c:=c) h1 h2 h3 h4;have hloc:=JoF (as:=p.acts) (b:=s.base) (g:=p.gives) (s:=k) (a:=s.added) (k:=c.act) (w:=c.args) hp.1 hp.2.1 hfine;have hll:=JiL p.acts s.base p.gives k s.added c.act c.args hs.2.1;have elo:Ja9 p.acts s.base p.gives k s.added c.act c.args=K8 p s k c:=rfl;rw[elo] at hloc hll;have hset :∀r:JjV,(dDs s.done).set c.client.toNat (.g [dI c.seq,dI r.code,.s (dL r.tells)])=dDs (JhJ s c r).done:=fun r=>by simp only[dDs,JhJ,List.map_set];rfl
 generalize JY s c=x at *;generalize K8 p s k c=r at *;refine JtI s.up rfl (fun a=>Jt9 (by rw[no (.inl (fun q=>by rw[a] at q;cases q.1))];rfl)) (fun a=>?_);refine Jt0 (by show (!decide (((dL p.gives).length:Int)=0))=true;rw[dL1,Bool.not_eq_true',decide_eq_false_iff_not];omega) ?_;refine JtI (decide (Int.tmod c.client p.gives.length=k)) (by show (!decide (Int.tmod c.client ((dL p.gives).length:Int)=k))=_;rw[dL1]) (fun b=>Jt9 (by rw[no (.inl (fun q=>by simp[q.2] at b))];rfl)) (fun b=>?_);have b:Int.tmod c.client p.gives.length=k:=by simpa using b
 refine Jt2 (c.seq<x.seq) rfl (fun e=>Jt9 (by rw[no (.inr ⟨by omega,by omega⟩)];rfl)) (fun e=>?_);refine Jt2 (x.seq+1<c.seq) (by show decide (i64.wrap (x.seq+1)<c.seq)=_;rw[w64 (by omega) (by omega)]) (fun e2=>Jt9 (by rw[no (.inr ⟨by omega,by omega⟩)];rfl)) (fun e2=>?_);refine Jt2 (c.seq=x.seq) rfl (fun e3=>?_) (fun e3=>?_)
 ·rw[same a b e3];refine JtL (vs:=[.i x.code,.l (dL x.tells)]) (Qf x.code x.tells hdl) rfl rfl rfl (Jt9 rfl)
 have e4:c.seq=x.seq+1:=by omega
 refine JtI s.frozen rfl (fun f=>?_) (fun f=>?_)
 ·refine JtL (JbN p s) rfl rfl rfl ?_;simp only[sC,sN];refine JtL (vs:=[.i r.code,.l (dL r.tells),.l (dL r.adds),.b r.ok]) hloc rfl rfl rfl ?_;simp only[sC,sN];refine Jua r.ok rfl (fun o=>?_) (fun o=>?_)
  ·rw[did a b e4 f o];refine JtL (vs:=[.i r.code,.l (dL r.tells)]) (Qf r.code r.tells hll.1) rfl rfl rfl ?_;simp only[sC,sN];refine JtF (0≤c.client) rfl c1.1 ?_;refine JtF (c.client<(s.done.length:Int)) (by show decide (c.client<((dDs s.done).length:Int))=_;rw[Qv]) (by omega) ?_;refine JtJ (ds:=dDs s.done) (d:=x.g) (vs:=[.i x.seq,.i x.code,.l (dL x.tells)]) c.client rfl rfl rfl c1.1 (mA1 (f:=Don.g) hx) rfl (Jt9 ?_);show [dB s.up,dB s.frozen,dI s.round,.s (dL s.base),.s (dL r.adds),.s ((dDs s.done).set c.client.toNat (.g [dI c.seq,dI r.code,.s (dL r.tells)])),dI r.code,.s (dL r.tells),D.s []]=_;rw[hset r];rfl
  ·rw[want a b e4 (.inr o)];refine JtL (vs:=[.i c.client,.i c.seq,.i c.act,.l (dL c.args)]) (J0 c hc) rfl rfl rfl (Jt9 rfl)
 ·rw[want a b e4 (.inl f)];refine JtL (vs:=[.i c.client,.i c.seq,.i c.act,.l (dL c.args)]) (J0 c hc) rfl rfl rfl (Jt9 rfl)
end Go.Proofs.YtofcmnglieaoeaaGreatDoor

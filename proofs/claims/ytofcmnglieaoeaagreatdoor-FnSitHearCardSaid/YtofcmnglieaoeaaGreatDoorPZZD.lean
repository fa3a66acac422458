import Derived.Test.YtofcmnglieaoeaaGreatDoorPZW
import Derived.Test.YtofcmnglieaoeaaGreatDoorPZZA
set_option linter.unusedVariables false
set_option linter.unusedSimpArgs false
/- The program's SitHear answers as the reference's: over residual programs. -/
namespace Go.Proofs.YtofcmnglieaoeaaGreatDoor
open Go Go.Tm
open Go.IntKind (i64)
def Yj (g:Nat) (k:Int) (i:Nat) (x y:Don):Don:=if Int.tmod (i:Int) (g:Int)=k∧x.seq<y.seq then y else x
def Q4 (g:Nat) (k:Int) (sd md:List Don) (n:Nat):List Don:=sd.mapIdx fun j x=>if j<n then Yj g k j x (md.getD j Wa) else x
theorem ZH (g:Nat) (k:Int) (sd md:List Don) (n:Nat):(Q4 g k sd md n).length=sd.length:=by simp[Q4]
theorem Jlp (g:Nat) (k:Int) (sd md:List Don):Q4 g k sd md 0=sd:=by
 apply List.ext_getElem?;intro j;simp only[Q4,List.getElem?_mapIdx];cases sd[j]? <;> simp
theorem Jc7 {g:Nat} {k:Int} {sd md:List Don} {i:Nat} {x:Don} (h:sd[i]? = some x):(Q4 g k sd md i)[i]? = some x:=by
 simp[Q4,List.getElem?_mapIdx,h]
theorem Jbj {g:Nat} {k:Int} {sd md:List Don} {i:Nat} {x y:Don} (h:sd[i]? = some x) (hy:md[i]? = some y):(Q4 g k sd md i).set i (Yj g k i x y)=Q4 g k sd md (i+1):=by
 apply List.ext_getElem?;intro j;have hl:i<sd.length:=(Jut.1 h).1
 by_cases hj:i=j
 ·subst hj;rw[List.getElem?_set_self (by rw[ZH];exact hl)];have e:md.getD i Wa=y:=QJ hy;simp only[Q4,List.getElem?_mapIdx,h,Juu,e,show i<i+1 by omega,if_true]
 ·rw[List.getElem?_set_ne hj];simp only[Q4,List.getElem?_mapIdx];cases sd[j]? with
  | none=>rfl
  | some z =>
   simp only[Juu]
   by_cases h1:j<i
   ·rw[if_pos h1,if_pos (show j<i+1 by omega)]
   ·rw[if_neg h1,if_neg (show ¬j<i+1 by omega)]
theorem JjK {g:Nat} {k:Int} {sd md:List Don} {i:Nat} {x y:Don} (h:sd[i]? = some x) (hy:md[i]? = some y) (hp : ¬(Int.tmod (i:Int) (g:Int)=k∧x.seq<y.seq)):Q4 g k sd md i=Q4 g k sd md (i+1):=by
 rw[←Jbj h hy];have e:Yj g k i x y=x:=by unfold Yj;rw[if_neg hp]
 rw[e];apply List.ext_getElem?;intro j;have hl:i<sd.length:=(Jut.1 h).1
 by_cases hj:i=j
 ·subst hj;rw[List.getElem?_set_self (by rw[ZH];exact hl)];exact Jc7 h
 ·rw[List.getElem?_set_ne hj]
theorem JeU {g:Nat} {k:Int} {sd md:List Don} {n:Nat} (hl:md.length=sd.length) {d:Don} (h:d∈Q4 g k sd md n):d∈sd∨d∈md:=by
 obtain⟨j,hj⟩:=List.getElem?_of_mem h;simp only[Q4,List.getElem?_mapIdx] at hj;cases hx:sd[j]? with
 | none=>rw[hx] at hj;simp at hj
 | some x =>
  have hjl:j<md.length:=by rw[hl];exact(Jut.1 hx).1
  have hyy:md[j]? = some md[j]:=JuD hjl;rw[hx] at hj;simp only[Juu,Jur,QJ hyy] at hj;have mx:x∈sd:=Juz hx;have my:md[j]∈md:=List.getElem_mem hjl;split at hj
  ·unfold Yj at hj;split at hj
   ·subst hj;exact .inr my
   ·subst hj;exact .inl mx
  ·subst hj;exact .inl mx
def Xq (l:List Don):List Int:=l.map fun d=>d.seq
def XH (s:Sit) (k:Int):Msg:=⟨3,-1,k,s.round,⟨0,0,0,[]⟩,s.added,Xq s.done,[]⟩
def J3 (p:Pln) (s:Sit) (k:Int) (m:Msg):Sit :=
 if s.up=true∧m.to=k then
  if m.kind=2∧m.round=s.round then ⟨s.up,true,s.round,s.base,s.added,s.done⟩
  else if m.kind=4∧s.round<m.round then ⟨s.up,false,m.round,m.vals,[0,0,0],Q4 p.gives.length k s.done m.done s.done.length⟩
  else s
 else s
def XJ (s:Sit) (k:Int) (m:Msg):List Msg:=if s.up=true∧m.to=k∧m.kind=2∧m.round=s.round then [XH s k] else []
theorem Jph (l:List Don) (hl:l.length≤2000000):Ev L f_k5m [.s (dDs l)] [.s (dL (Xq l))]:=by
 refine Juq (vs:=[.l (dDs l)]) L_k5m rfl ?_;refine Jt7 l.length (fun i=>[.l (dL (Xq (l.take i))),.i i]) (fun _=>True) rfl rfl trivial fun i hi _=>?_;simp only[sC,sN];refine Jub i (Qk l) rfl (fun h=>?_) (fun h=>Juj (JtU ?_))
 ·obtain⟨x,hx,hm⟩:=sA1 h;refine JtX (vs:=[.i x.seq,.i x.code,.l (dL x.tells)]) i (mA1 (f:=Don.g) hx) rfl rfl rfl rfl ?_;simp only[sC,sN];refine JtN (dL (Xq (l.take i))) 2000000 (by rw[dL1];simp only[Xq,JuB,JuH];omega) (by omega) rfl ?_;refine Juk (vs:=[.l (dL (Xq (l.take (i+1)))),.i ((i+1:Nat):Int)]) ?_ ⟨h,rfl,trivial⟩;show [V.l (dL (Xq (l.take i))++[dI x.seq]),V.i (i64.wrap ((i:Int)+1))]=_;rw[wS h (by omega),tS1 hx];simp only[dL,Xq,List.map_append,JuA,List.map_nil]
 ·show [D.s (dL (Xq (l.take i)))]=_;rw[tA1 h]
theorem WD (s:Sit) (k:Int) (hs:Qq s):Ev L f_k2g (s.cells++[dI k]) (XH s k).cells:=by
 refine Juq (vs:=[.b s.up,.b s.frozen,.i s.round,.l (dL s.base),.l (dL s.added),.l (dDs s.done),.i k]) L_k2g rfl ?_;have h2:=hs.2.1;have h3:=hs.2.2.1;refine JtV (dL s.added) 2000000 (by rw[dL1];omega) (by omega) rfl ?_;refine Jt0 (JR s.added) ?_;refine JtV (dL s.added) 2000000 (by rw[dL1];omega) (by omega) rfl ?_;refine Jt7 s.done.length (fun i=>[.l (dL (Xq (s.done.take i))),.i i]) (fun _=>True) rfl rfl trivial fun i hi _=>?_;simp only[sC,sN];refine Jub i (Qk s.done) rfl (fun h=>?_) (fun h=>Juj (JtU ?_))
 ·obtain⟨x,hx,hm⟩:=sA1 h;refine JtX (vs:=[.i x.seq,.i x.code,.l (dL x.tells)]) i (mA1 (f:=Don.g) hx) rfl rfl rfl rfl ?_;simp only[sC,sN];refine JtN (dL (Xq (s.done.take i))) 2000000 (by rw[dL1];simp only[Xq,JuB,JuH];omega) (by omega) rfl ?_;refine Juk (vs:=[.l (dL (Xq (s.done.take (i+1)))),.i ((i+1:Nat):Int)]) ?_ ⟨h,rfl,trivial⟩;show [V.l (dL (Xq (s.done.take i))++[dI x.seq]),V.i (i64.wrap ((i:Int)+1))]=_;rw[wS h (by omega),tS1 hx];simp only[dL,Xq,List.map_append,JuA,List.map_nil]
 ·rw[tA1 h];rfl
theorem YP {p:Pln} {s:Sit} {k:Int} {m:Msg} (h : ¬(s.up=true∧m.to=k)∨(¬(m.kind=2∧m.round=s.round)∧¬(m.kind=4∧s.round<m.round))):J3 p s k m=s∧XJ s k m=[]:=by
 unfold J3 XJ;rcases h with h | ⟨h1,h2⟩
 ·rw[if_neg h,if_neg (fun q=>h ⟨q.1,q.2.1⟩)];exact⟨rfl,rfl⟩
 ·have h3 : ¬(s.up=true∧m.to=k∧m.kind=2∧m.round=s.round):=fun q=>h1 q.2.2;rw[if_neg h1,if_neg h2,if_neg h3];simp
theorem Jnx {p:Pln} {s:Sit} {k:Int} {m:Msg} (h1:s.up=true) (h2:m.to=k) (h3:m.kind=2) (h4:m.round=s.round):J3 p s k m=⟨s.up,true,s.round,s.base,s.added,s.done⟩∧XJ s k m=[XH s k]:=by
 unfold J3 XJ;rw[if_pos ⟨h1,h2⟩,if_pos ⟨h3,h4⟩,if_pos ⟨h1,h2,h3,h4⟩];exact⟨rfl,rfl⟩
theorem Jpa {p:Pln} {s:Sit} {k:Int} {m:Msg} (h1:s.up=true) (h2:m.to=k) (h3:m.kind=4) (h4:s.round<m.round):J3 p s k m=⟨s.up,false,m.round,m.vals,[0,0,0],Q4 p.gives.length k s.done m.done s.done.length⟩∧XJ s k m=[]:=by
 unfold J3 XJ;rw[if_pos ⟨h1,h2⟩,if_neg (fun q=>by omega),if_pos ⟨h3,h4⟩,if_neg (fun q=>by omega)];exact⟨rfl,rfl⟩
theorem JaG {α:Type} {l:List α} {i:Nat} {x:α} (h:l[i]? = some x):l.set i x=l:=by
 apply List.ext_getElem?;intro j;have hl:i<l.length:=(Jut.1 h).1
 by_cases hj:i=j
 ·subst hj;rw[List.getElem?_set_self hl,h]
 ·rw[List.getElem?_set_ne hj]
theorem Jfq (p:Pln) (s:Sit) (k:Int) (m:Msg) (hs:Qq s) (hm:Qp m) (hg:0<p.gives.length) (hdone:m.kind=4→m.done.length=s.done.length) :
  Ev L f_k2h (p.cells++s.cells++[dI k]++m.cells) ((J3 p s k m).cells++[.s (dMs (XJ s k m))]):=by
 refine Juq (vs:=[.i p.n,.l (Je p.acts),.l (dL p.gives),.l (dL p.start),.b s.up,.b s.frozen,.i s.round,.l (dL s.base),.l (dL s.added),.l (dDs s.done),.i k,.i m.kind,.i m.to,.i m.frm,.i m.round,.i m.call.client,.i m.call.seq,.i m.call.act,.l (dL m.call.args),.l (dL m.vals),.l (dL m.seqs),.l (dDs m.done)]) L_k2h rfl ?_;refine Jua (vs:=[.b s.up,.b s.frozen,.i s.round,.l (dL s.base),.l (dL s.added),.l (dDs s.done)]) (V5 s hs) rfl rfl rfl ?_;simp only[sC,sN];refine JtQ s.up rfl (fun a=>JtU (by obtain⟨e1,e2⟩:=YP (p:=p) (s:=s) (k:=k) (m:=m) (by exact .inl (fun q=>by rw[a] at q;cases q.1));rw[e1,e2];rfl)) (fun a=>?_);refine JtQ (decide (m.to=k)) rfl (fun b=>JtU (by obtain⟨e1,e2⟩:=YP (p:=p) (s:=s) (k:=k) (m:=m) (by exact .inl (fun q=>by simp[q.2] at b));rw[e1,e2];rfl)) (fun b=>?_);have b:m.to=k:=by simpa using b
 have hno :∀q:(¬(m.kind=2∧m.round=s.round)∧¬(m.kind=4∧s.round<m.round)),J3 p s k m=s∧XJ s k m=[]:=fun q=>YP (.inr q);refine Jue (m.kind=2) rfl (fun d=>?_) (fun d=>?_)
 ·refine Jue (m.round=s.round) rfl (fun e=>?_) (fun e=>?_)
  ·obtain⟨e1,e2⟩:=Jnx (p:=p) (s:=s) (k:=k) (m:=m) a b d e;rw[e1,e2];have hv:=WD ⟨s.up,true,s.round,s.base,s.added,s.done⟩ k hs;refine Jua (vs:=[.i 3,.i (-1),.i k,.i s.round,.i 0,.i 0,.i 0,.l (dL []),.l (dL s.added),.l (dL (Xq s.done)),.l (dDs [])]) hv rfl rfl rfl (JtU ?_);rfl
  ·refine Jue (m.kind=4) rfl (fun f=>absurd f (by omega)) (fun f=>JtU ?_);obtain⟨e1,e2⟩:=hno ⟨fun q=>e q.2,fun q=>f q.1⟩;rw[e1,e2];rfl
 ·refine Jue (m.kind=4) rfl (fun f=>?_) (fun f=>JtU ?_)
  ·refine Jue (s.round<m.round) rfl (fun e=>?_) (fun e=>JtU ?_)
   ·obtain⟨e1,e2⟩:=Jpa (p:=p) (s:=s) (k:=k) (m:=m) a b f e;rw[e1,e2];have hd:=hdone f;have hsl:=hs.2.2.1;have hvl:(dL m.vals).length≤2000000:=by rw[dL1];exact hm.2.1
    refine JtV (dL m.vals) 2000000 hvl (by omega) rfl ?_;refine Jt0 (JR m.vals) ?_;refine JtV (dL m.vals) 2000000 hvl (by omega) rfl ?_;refine Jt7 s.done.length (fun i=>[.l (dDs (Q4 p.gives.length k s.done m.done i)),.i i]) (fun _=>True) rfl (by rw[Jlp];rfl) trivial fun i hi _=>?_;simp only[sC,sN];refine Jub i (show (dDs (Q4 p.gives.length k s.done m.done i)).length=s.done.length by rw[Qk,ZH]) rfl (fun h=>?_) (fun h=>Juj (JtU ?_))
    ·obtain⟨x,hx,hxm⟩:=sA1 h;obtain⟨y,hy,hym⟩:=sA1 (l:=m.done) (i:=i) (by omega);have hyg:(dDs m.done)[i]? = some y.g:=mA1 (f:=Don.g) hy;have hxg:(dDs (Q4 p.gives.length k s.done m.done i))[i]? = some x.g:=mA1 (f:=Don.g) (Jc7 hx);have hlt:i<(dDs (Q4 p.gives.length k s.done m.done i)).length:=by rw[Qk,ZH];exact h
     have hset:=Jbj (g:=p.gives.length) (k:=k) hx hy;have hsame:=JjK (g:=p.gives.length) (k:=k) hx hy;have hsd:(dDs (Q4 p.gives.length k s.done m.done i)).set i (Yj p.gives.length k i x y).g=dDs (Q4 p.gives.length k s.done m.done (i+1)):=by rw[←hset];simp only[dDs,List.map_set]
     refine JtX (vs:=[.i y.seq,.i y.code,.l (dL y.tells)]) i hyg rfl rfl rfl rfl ?_;simp only[sC,sN];generalize dDs (Q4 p.gives.length k s.done m.done i)=es at *;refine Jul (vs:=[.i x.seq,.i x.code,.l (dL x.tells)]) (ds:=es) i hxg rfl rfl rfl rfl rfl rfl ?_;simp only[sC,sN];have hw:i64.wrap ((i:Int)+1)=((i+1:Nat):Int):=wS h (by omega);refine Jue (x.seq<y.seq) rfl (fun u=>?_) (fun u=>?_)
     ·refine Jui (by show (!decide (((dL p.gives).length:Int)=0))=true;rw[dL1,Bool.not_eq_true',decide_eq_false_iff_not];omega) ?_;refine Jue (Int.tmod (i:Int) (p.gives.length:Int)=k) (by show decide (Int.tmod (i:Int) ((dL p.gives).length:Int)=k)=_;rw[dL1]) (fun v=>?_) (fun v=>?_)
      ·refine JtX (vs:=[.i y.seq,.i y.code,.l (dL y.tells)]) i hyg rfl rfl rfl rfl ?_;simp only[sC,sN];refine JtX (vs:=[.i y.seq,.i y.code,.l (dL y.tells)]) i hyg rfl rfl rfl rfl ?_;simp only[sC,sN];refine Jua (vs:=[.i y.code,.l (dL y.tells)]) (Qe y.code y.tells (hm.2.2.2.2 y hym)) rfl rfl rfl ?_;simp only[sC,sN];refine Jul (vs:=[.i x.seq,.i x.code,.l (dL x.tells)]) (ds:=es) i hxg rfl rfl rfl rfl rfl rfl ?_;refine Juk ?_ ⟨h,rfl,trivial⟩;have e5:Yj p.gives.length k i x y=y:=by unfold Yj;rw[if_pos ⟨v,u⟩]
       rw[e5] at hsd;show [V.l (es.set i y.g),V.i (i64.wrap ((i:Int)+1))]=_;rw[hsd,hw]
      ·refine Juk ?_ ⟨h,rfl,trivial⟩;show [V.l es,V.i (i64.wrap ((i:Int)+1))]=_;have e5:Yj p.gives.length k i x y=x:=by unfold Yj;rw[if_neg (fun q=>v q.1)]
       rw[e5,JaG hxg] at hsd;rw[hsd,hw]
     ·refine Juk ?_ ⟨h,rfl,trivial⟩;show [V.l es,V.i (i64.wrap ((i:Int)+1))]=_;have e5:Yj p.gives.length k i x y=x:=by unfold Yj;rw[if_neg (fun q=>u q.2)]
      rw[e5,JaG hxg] at hsd;rw[hsd,hw]
    ·rw[show i=s.done.length by omega];rfl
   ·obtain⟨e1,e2⟩:=hno ⟨fun q=>d q.1,fun q=>e q.2⟩;rw[e1,e2];rfl
  ·obtain⟨e1,e2⟩:=hno ⟨fun q=>d q.1,fun q=>f q.1⟩;rw[e1,e2];rfl
theorem Jqc (p:Pln) (s:Sit) (k:Int) (m:Msg) (hs:Qq s) (hm:Qp m) (hg:0<p.gives.length) (hdone:m.kind=4→m.done.length=s.done.length) :
  Ev L f_k5n (s.cells++p.cells++[dI k]++m.cells) [.s (dMs (XJ s k m)),dB (J3 p s k m).up,dB (J3 p s k m).frozen,dI (J3 p s k m).round,.s (dDs (J3 p s k m).done),.s (dL (J3 p s k m).base),.s (dL (J3 p s k m).added)]:=by
 refine Juq (vs:=[.b s.up,.b s.frozen,.i s.round,.l (dL s.base),.l (dL s.added),.l (dDs s.done),.i p.n,.l (Je p.acts),.l (dL p.gives),.l (dL p.start),.i k,.i m.kind,.i m.to,.i m.frm,.i m.round,.i m.call.client,.i m.call.seq,.i m.call.act,.l (dL m.call.args),.l (dL m.vals),.l (dL m.seqs),.l (dDs m.done)]) L_k5n rfl ?_;refine JtQ s.up rfl (fun a=>JtU (by obtain⟨e1,e2⟩:=YP (p:=p) (s:=s) (k:=k) (m:=m) (by exact .inl (fun q=>by rw[a] at q;cases q.1));rw[e1,e2];rfl)) (fun a=>?_);refine JtQ (decide (m.to=k)) rfl (fun b=>JtU (by obtain⟨e1,e2⟩:=YP (p:=p) (s:=s) (k:=k) (m:=m) (by exact .inl (fun q=>by simp[q.2] at b));rw[e1,e2];rfl)) (fun b=>?_);have b:m.to=k:=by simpa using b
 have hno :∀q:(¬(m.kind=2∧m.round=s.round)∧¬(m.kind=4∧s.round<m.round)),J3 p s k m=s∧XJ s k m=[]:=fun q=>YP (.inr q);refine Jue (m.kind=2) rfl (fun d=>?_) (fun d=>?_)
 ·refine Jue (m.round=s.round) rfl (fun e=>?_) (fun e=>?_)
  ·obtain⟨e1,e2⟩:=Jnx (p:=p) (s:=s) (k:=k) (m:=m) a b d e;rw[e1,e2];refine Jua (vs:=[.l (dL s.added)]) (Yx s.added hs.2.1) rfl rfl rfl ?_;simp only[sC,sN];refine JtT (KW dI (fun _=>rfl) s.added) ?_;refine Jua (vs:=[.l (dL (Xq s.done))]) (Jph s.done hs.2.2.1) rfl rfl rfl ?_;simp only[sC,sN];refine JtT (KW dI (fun _=>rfl) (Xq s.done)) (JtU ?_);rfl
  ·refine Jue (m.kind=4) rfl (fun f=>absurd f (by omega)) (fun f=>JtU ?_);obtain⟨e1,e2⟩:=hno ⟨fun q=>e q.2,fun q=>f q.1⟩;rw[e1,e2];rfl
 ·refine Jue (m.kind=4) rfl (fun f=>?_) (fun f=>JtU ?_)
  ·refine Jue (s.round<m.round) rfl (fun e=>?_) (fun e=>JtU ?_)
   ·obtain⟨e1,e2⟩:=Jpa (p:=p) (s:=s) (k:=k) (m:=m) a b f e;rw[e1,e2];have hd:=hdone f;have hsl:=hs.2.2.1;refine Jua (vs:=[.l (dL m.vals)]) (Yx m.vals hm.2.1) rfl rfl rfl ?_;simp only[sC,sN];refine Jt7 s.done.length (fun i=>[.l (dDs (Q4 p.gives.length k s.done m.done i)),.i i]) (fun _=>True) rfl (by rw[Jlp];rfl) trivial fun i hi _=>?_;simp only[sC,sN];refine Jub i (show (dDs m.done).length=s.done.length by rw[Qk];exact hd) rfl (fun h=>?_) (fun h=>Juj (JtU ?_))
    ·obtain⟨x,hx,hxm⟩:=sA1 h;obtain⟨y,hy,hym⟩:=sA1 (l:=m.done) (i:=i) (by omega);have hyg:(dDs m.done)[i]? = some y.g:=mA1 (f:=Don.g) hy;have hxg:(dDs (Q4 p.gives.length k s.done m.done i))[i]? = some x.g:=mA1 (f:=Don.g) (Jc7 hx);have hset:=Jbj (g:=p.gives.length) (k:=k) hx hy;have hsd:(dDs (Q4 p.gives.length k s.done m.done i)).set i (Yj p.gives.length k i x y).g=dDs (Q4 p.gives.length k s.done m.done (i+1)):=by rw[←hset];simp only[dDs,List.map_set]
     refine JtX (vs:=[.i y.seq,.i y.code,.l (dL y.tells)]) i hyg rfl rfl rfl rfl ?_;simp only[sC,sN];generalize dDs (Q4 p.gives.length k s.done m.done i)=es at *;have hlt:i<es.length:=(Jut.1 hxg).1;have hw:i64.wrap ((i:Int)+1)=((i+1:Nat):Int):=wS h (by omega);refine Jui (by show (!decide (((dL p.gives).length:Int)=0))=true;rw[dL1,Bool.not_eq_true',decide_eq_false_iff_not];omega) ?_;refine Jue (Int.tmod (i:Int) (p.gives.length:Int)=k) (by show decide (Int.tmod (i:Int) ((dL p.gives).length:Int)=k)=_;rw[dL1]) (fun v=>?_) (fun v=>?_)
     ·refine Jul (vs:=[.i x.seq,.i x.code,.l (dL x.tells)]) (ds:=es) i hxg rfl rfl rfl rfl rfl rfl ?_;simp only[sC,sN];refine Jue (x.seq<y.seq) rfl (fun u=>?_) (fun u=>?_)
      ·refine Jua (vs:=[.i y.code,.l (dL y.tells)]) (Jax y.code y.tells (hm.2.2.2.2 y hym)) rfl rfl rfl ?_;simp only[sC,sN];refine Jt6 i rfl (JtR (ds:=es) i rfl hlt ?_);refine JtT (KW dI (fun _=>rfl) y.tells) ?_;refine JtX (vs:=[.i x.seq,.i x.code,.l (dL x.tells)]) (ds:=es) i hxg rfl rfl rfl rfl ?_;refine Juk ?_ ⟨h,rfl,trivial⟩;have e5:Yj p.gives.length k i x y=y:=by unfold Yj;rw[if_pos ⟨v,u⟩]
       rw[e5] at hsd;show [V.l (es.set i y.g),V.i (i64.wrap ((i:Int)+1))]=_;rw[hsd,hw]
      ·refine Juk ?_ ⟨h,rfl,trivial⟩;show [V.l es,V.i (i64.wrap ((i:Int)+1))]=_;have e5:Yj p.gives.length k i x y=x:=by unfold Yj;rw[if_neg (fun q=>u q.2)]
       rw[e5,JaG hxg] at hsd;rw[hsd,hw]
     ·refine Juk ?_ ⟨h,rfl,trivial⟩;show [V.l es,V.i (i64.wrap ((i:Int)+1))]=_;have e5:Yj p.gives.length k i x y=x:=by unfold Yj;rw[if_neg (fun q=>v q.1)]
      rw[e5,JaG hxg] at hsd;rw[hsd,hw]
    ·rw[show i=s.done.length by omega];rfl
   ·obtain⟨e1,e2⟩:=hno ⟨fun q=>d q.1,fun q=>e q.2⟩;rw[e1,e2];rfl
  ·obtain⟨e1,e2⟩:=hno ⟨fun q=>d q.1,fun q=>f q.1⟩;rw[e1,e2];rfl
def Qj (p:Pln) (s:Sit) (k:Int) (m:Msg):Sit×List Msg:=if(XP p s k&&YL p m)=true then(J3 p s k m,XJ s k m) else(⟨false,false,0,[],[],[]⟩,[])
theorem V1 {p:Pln} {s:Sit} {k:Int} {m:Msg} (h1:XP p s k=true) (h2:YL p m=true):0<p.gives.length∧(m.kind=4→m.done.length=s.done.length):=by
 simp only[XP,J4,QS,Jus,Jp,JZ,decide_eq_true_eq] at h1;simp only[YL,Jv,Jus] at h2;obtain⟨_,⟨h3,h4⟩,_,_,_,h5,_⟩:=h1;refine⟨by omega,fun h6=>?_⟩;have h7:=h2.2.2;rw[if_neg (by omega),if_neg (by omega),if_neg (by omega),if_pos h6] at h7;simp only[Jus,JZ,decide_eq_true_eq] at h7;have h8:=h7.2.2.2.1.1;omega
theorem JhS (p:Pln) (s:Sit) (k:Int) (m:Msg) (hp:JO p) (hs:Qq s) (hm:Qp m):Ev L f_k5r (p.cells++s.cells++[dI k]++m.cells) ((Qj p s k m).1.cells++[.s (dMs (Qj p s k m).2)]):=by
 refine Juq (vs:=[.i p.n,.l (Je p.acts),.l (dL p.gives),.l (dL p.start),.b s.up,.b s.frozen,.i s.round,.l (dL s.base),.l (dL s.added),.l (dDs s.done),.i k,.i m.kind,.i m.to,.i m.frm,.i m.round,.i m.call.client,.i m.call.seq,.i m.call.act,.l (dL m.call.args),.l (dL m.vals),.l (dL m.seqs),.l (dDs m.done)]) L_k5r rfl ?_;refine Jua (Jfb p s k hp hs) rfl rfl rfl ?_;simp only[sC,sN];refine JtQ (XP p s k) rfl (fun h=>JtU ?_) (fun h1=>?_)
 ·unfold Qj;rw[if_neg (by simp[h])];rfl
 refine Jua (Jfc p m hp hm) rfl rfl rfl ?_;simp only[sC,sN];refine JtQ (YL p m) rfl (fun h=>JtU ?_) (fun h2=>?_)
 ·unfold Qj;rw[if_neg (by simp[h])];rfl
 obtain⟨hg,hd⟩:=V1 h1 h2;have e:Qj p s k m=(J3 p s k m,XJ s k m):=by unfold Qj;rw[if_pos (by rw[h1,h2];rfl)]
 rw[e];have hv:=Jfq p s k m hs hm hg hd;generalize J3 p s k m=r at *;generalize XJ s k m=ms at *;exact Jua (vs:=[.b r.up,.b r.frozen,.i r.round,.l (dL r.base),.l (dL r.added),.l (dDs r.done),.l (dMs ms)]) hv rfl rfl rfl (JtU rfl)
theorem JbK (p:Pln) (s:Sit) (k:Int) (m:Msg) (hp:JO p) (hs:Qq s) (hm:Qp m):Ev L f_k5o (p.cells++s.cells++[dI k]++m.cells) ((Qj p s k m).1.cells++[.s (dMs (Qj p s k m).2)]):=by
 refine Juq (vs:=[.i p.n,.l (Je p.acts),.l (dL p.gives),.l (dL p.start),.b s.up,.b s.frozen,.i s.round,.l (dL s.base),.l (dL s.added),.l (dDs s.done),.i k,.i m.kind,.i m.to,.i m.frm,.i m.round,.i m.call.client,.i m.call.seq,.i m.call.act,.l (dL m.call.args),.l (dL m.vals),.l (dL m.seqs),.l (dDs m.done)]) L_k5o rfl ?_;refine Jua (Jfl p s k hp hs) rfl rfl rfl ?_;simp only[sC,sN];refine JtQ (XP p s k) rfl (fun h=>JtU ?_) (fun h1=>?_)
 ·unfold Qj;rw[if_neg (by simp[h])];rfl
 refine Jua (Jmq p m hp hm) rfl rfl rfl ?_;simp only[sC,sN];refine JtQ (YL p m) rfl (fun h=>JtU ?_) (fun h2=>?_)
 ·unfold Qj;rw[if_neg (by simp[h])];rfl
 obtain⟨hg,hd⟩:=V1 h1 h2;have e:Qj p s k m=(J3 p s k m,XJ s k m):=by unfold Qj;rw[if_pos (by rw[h1,h2];rfl)]
 rw[e];refine Jua (vs:=[.b s.up,.b s.frozen,.i s.round,.l (dL s.base),.l (dL s.added),.l (dDs s.done)]) (JgY s hs) rfl rfl rfl ?_;simp only[sC,sN];have hv:=Jqc p s k m hs hm hg hd;generalize J3 p s k m=r at *;generalize XJ s k m=ms at *;exact Jua (vs:=[.l (dMs ms),.b r.up,.b r.frozen,.i r.round,.l (dDs r.done),.l (dL r.base),.l (dL r.added)]) hv rfl rfl rfl (JtU rfl)
theorem Jci (p:Pln) {s:Sit} (k:Int) {m:Msg} (hs:Qq s) (hm:Qp m):Qq (Qj p s k m).1∧(∀d∈(Qj p s k m).2,Qp d)∧(Qj p s k m).2.length≤1:=by
 unfold Qj;split
 ·rename_i h;rw[Jus] at h;obtain⟨hg,hd⟩:=V1 h.1 h.2;refine⟨?_,?_,?_⟩
  ·show Qq (J3 p s k m);unfold J3;split
   ·split
    ·exact hs
    ·split
     ·rename_i h4;refine⟨hm.2.1,by show ([0,0,0]:List Int).length≤_;simp,by rw[ZH];exact hs.2.2.1,fun d hdm=>?_⟩;rcases JeU (hd h4.1) hdm with q | q
      ·exact hs.2.2.2 d q
      ·exact hm.2.2.2.2 d q
     ·exact hs
   ·exact hs
  ·show ∀d∈XJ s k m,Qp d;unfold XJ;split
   ·intro d hdm;simp only[JuK] at hdm;subst hdm;exact⟨by simp[XH],hs.2.1,by simp only[XH,Xq,JuB];exact hs.2.2.1,by simp[XH],fun d hd=>by simp[XH] at hd⟩
   ·intro d hdm;simp at hdm
  ·show (XJ s k m).length≤1;unfold XJ;split <;> simp
 ·exact⟨⟨by simp,by simp,by simp,fun d hd=>by simp at hd⟩,fun d hd=>by simp at hd,by simp⟩
/- The program's ClkTick answers as the reference's: over residual programs. -/
def Jhv (c:Clk) (i:Nat):Msg:=⟨4,i,0,c.round,⟨0,0,0,[]⟩,c.base,[],c.done⟩
def JpT (c:Clk) (i:Nat):Msg:=⟨2,i,0,c.round,⟨0,0,0,[]⟩,[],[],[]⟩
def Xy (c:Clk) (n:Nat):List Msg:=(List.range n).map (Jhv c)
def YN (c:Clk) (n:Nat):List Msg:=(List.range n).map (JpT c)
theorem JiV (c:Clk) (n:Nat):Xy c (n+1)=Xy c n++[Jhv c n]:=by simp[Xy,List.range_succ]
theorem Jjx (c:Clk) (n:Nat):YN c (n+1)=YN c n++[JpT c n]:=by simp[YN,List.range_succ]
theorem Kf (c:Clk) (n:Nat):(Xy c n).length=n:=by simp[Xy]
theorem Jfe (c:Clk) (n:Nat):(YN c n).length=n:=by simp[YN]
def busy (c:Clk):Bool:=decide (0<c.wants.length)||decide (0<XZ c.got)
def JbW (c:Clk):List Msg:=if c.up then(if busy c then Xy c c.got.length++YN c c.got.length else Xy c c.got.length) else []
theorem Jcz (a b:List Msg):dMs (a++b)=dMs a++dMs b:=by simp[dMs]
theorem JP (a:List Msg):(dMs a).length=a.length:=by simp[dMs]
theorem JnS (c:Clk) (i:Nat):dMs [Jhv c i]=[.g [dI 4,dI i,dI 0,dI c.round,dI 0,dI 0,dI 0,.s [],.s (dL c.base),.s [],.s (dDs c.done)]]:=rfl
theorem JpF (c:Clk) (i:Nat):dMs [JpT c i]=[.g [dI 2,dI i,dI 0,dI c.round,dI 0,dI 0,dI 0,.s [],.s [],.s [],.s []]]:=rfl
theorem JlU (c:Clk) (i:Nat) (hc:KM c):Ev L f_k2m (c.cells++[dI i]) (Jhv c i).cells:=by
 refine Juq (vs:=[.b c.up,.i c.round,.l (dL c.base),.l (dDs c.done),.l (dCs c.wants),.l (dGs c.got),.i i]) L_k2m rfl ?_;have h1:=hc.b;refine JtV (dL c.base) 2000000 (by rw[dL1];omega) (by omega) rfl ?_;refine Jt0 (JR c.base) ?_;refine JtV (dL c.base) 2000000 (by rw[dL1];omega) (by omega) rfl ?_;exact Jua (vs:=[.l (dDs c.done)]) (Yf c.done ⟨hc.d,hc.dt⟩) rfl rfl rfl (JtU rfl)
theorem JeX (p:Pln) (c:Clk) (hp:JO p) (hc:KM c):Ev L f_k2n (p.cells++c.cells) [.s (dMs (Xy c p.gives.length))]:=by
 refine Juq (vs:=[.i p.n,.l (Je p.acts),.l (dL p.gives),.l (dL p.start),.b c.up,.i c.round,.l (dL c.base),.l (dDs c.done),.l (dCs c.wants),.l (dGs c.got)]) L_k2n rfl ?_;have hg:=hp.2.1;refine Jt7 p.gives.length (fun i=>[.l (dMs (Xy c i)),.i i]) (fun _=>True) rfl rfl trivial fun i hi _=>?_;simp only[sC,sN];refine Jub i (dL1 p.gives) rfl (fun h=>?_) (fun h=>Juj (JtU ?_))
 ·refine Jua (vs:=[.i 4,.i i,.i 0,.i c.round,.i 0,.i 0,.i 0,.l [],.l (dL c.base),.l [],.l (dDs c.done)]) (JlU c i hc) rfl rfl rfl ?_;simp only[sC,sN];refine JtN (dMs (Xy c i)) 2000000 (by rw[JP,Kf];omega) (by omega) rfl ?_;refine Juk (vs:=[.l (dMs (Xy c (i+1))),.i ((i+1:Nat):Int)]) ?_ ⟨h,rfl,trivial⟩;show [V.l (dMs (Xy c i)++[.g [dI 4,dI i,dI 0,dI c.round,dI 0,dI 0,dI 0,.s [],.s (dL c.base),.s [],.s (dDs c.done)]]),V.i (i64.wrap ((i:Int)+1))]=_;rw[wS h (by omega),JiV,Jcz,JnS]
 ·rw[show i=p.gives.length by omega];rfl
theorem JlT (p:Pln) (c:Clk) (hp:JO p) (hc:KM c) (hl:c.got.length=p.gives.length):Ev L f_k2q (p.cells++c.cells) [.s (dMs (JbW c))]:=by
 refine Juq (vs:=[.i p.n,.l (Je p.acts),.l (dL p.gives),.l (dL p.start),.b c.up,.i c.round,.l (dL c.base),.l (dDs c.done),.l (dCs c.wants),.l (dGs c.got)]) L_k2q rfl ?_;have hg:=hp.2.1;have hcc:=hc.c;refine JtQ c.up rfl (fun a=>JtU (by unfold JbW;rw[if_neg (by simp[a])];rfl)) (fun a=>?_);have ht:=JeX p c hp hc;have hpl:=Kf c p.gives.length;have hh:=JcV c hc.g;have et:JbW c=if busy c then Xy c p.gives.length++YN c p.gives.length else Xy c p.gives.length:=by unfold JbW;rw[if_pos a,hl]
 rw[et];clear et;generalize Xy c p.gives.length=ps at *;refine Jua (vs:=[.l (dMs ps)]) ht rfl rfl rfl ?_;simp only[sC,sN];refine Jt7 p.gives.length (fun i=>[.l (dMs (ps++YN c i)),.i i]) (fun i=>i=0∨busy c=true) rfl (by rw[show YN c 0=[] from rfl,List.append_nil];rfl) (.inl rfl) fun i hi hq=>?_;simp only[sC,sN];have hs:dMs (ps++YN c i)++[.g [dI 2,dI i,dI 0,dI c.round,dI 0,dI 0,dI 0,.s [],.s [],.s [],.s []]]=dMs (ps++YN c (i+1)):=by rw[Jjx,←List.append_assoc,Jcz (ps++YN c i),JpF]
 have hlen:(dMs (ps++YN c i)).length≤4000000:=by rw[JP,Juy,Jfe];omega
 have hend : ¬i<p.gives.length∨busy c=false→[D.s (dMs (ps++YN c i))]=[D.s (dMs (if busy c then ps++YN c p.gives.length else ps))]:=fun q=>by
  by_cases hb:busy c=true
  ·rw[if_pos hb];rcases q with q | q
   ·rw[show i=p.gives.length by omega]
   ·rw[q] at hb;cases hb
  ·rw[if_neg hb];rcases hq with e | e
   ·rw[e,show YN c 0=[] from rfl,List.append_nil]
   ·exact absurd e hb
 generalize dMs (ps++YN c i)=ms at *;refine Jub i (dL1 p.gives) rfl (fun h=>?_) (fun h=>Juj (JtU (hend (.inl h))));have hw:i64.wrap ((i:Int)+1)=((i+1:Nat):Int):=wS h (by omega);refine Jue ((0:Int)<(c.wants.length:Int)) (by show decide ((0:Int)<((dCs c.wants).length:Int))=_;rw[Yk]) (fun b=>?_) (fun b=>?_)
 ·have e:busy c=true:=by unfold busy;rw[decide_eq_true (by omega)];rfl
  refine JtN ms 4000000 hlen (by omega) rfl ?_;refine Juk ?_ ⟨h,rfl,.inr e⟩;show [V.l (ms++[.g [dI 2,dI i,dI 0,dI c.round,dI 0,dI 0,dI 0,.s [],.s [],.s [],.s []]]),V.i (i64.wrap ((i:Int)+1))]=_;rw[hs,hw]
 ·refine Jua hh rfl rfl rfl ?_;simp only[sC,sN];refine Jue ((0:Int)<(XZ c.got:Int)) rfl (fun d=>?_) (fun d=>Juj (JtU (hend (.inr ?_))))
  ·have e:busy c=true:=by unfold busy;rw[decide_eq_true (show 0<XZ c.got by omega),Bool.or_true]
   refine JtN ms 4000000 hlen (by omega) rfl ?_;refine Juk ?_ ⟨h,rfl,.inr e⟩;show [V.l (ms++[.g [dI 2,dI i,dI 0,dI c.round,dI 0,dI 0,dI 0,.s [],.s [],.s [],.s []]]),V.i (i64.wrap ((i:Int)+1))]=_;rw[hs,hw]
  ·unfold busy;rw[decide_eq_false (by omega),decide_eq_false (by omega)];rfl
/- What a site tries,by the reference: over residual programs. -/
theorem Jbs (x:Msg) (hx:Qp x):Ev L f_k1y x.cells x.cells:=by
 refine Juq (vs:=[.i x.kind,.i x.to,.i x.frm,.i x.round,.i x.call.client,.i x.call.seq,.i x.call.act,.l (dL x.call.args),.l (dL x.vals),.l (dL x.seqs),.l (dDs x.done)]) L_k1y rfl ?_;obtain⟨h1,h2,h3,h4⟩:=hx;refine Jua (vs:=[.i x.call.client,.i x.call.seq,.i x.call.act,.l (dL x.call.args)]) (JX x.call h1) rfl rfl rfl ?_;simp only[sC,sN];refine JtV (dL x.vals) 2000000 (by rw[dL1];omega) (by omega) rfl ?_;refine Jt0 (JR x.vals) ?_;refine JtV (dL x.vals) 2000000 (by rw[dL1];omega) (by omega) rfl ?_;refine JtV (dL x.seqs) 2000000 (by rw[dL1];omega) (by omega) rfl ?_;refine Jt0 (JR x.seqs) ?_;refine JtV (dL x.seqs) 2000000 (by rw[dL1];omega) (by omega) rfl ?_;refine Jua (vs:=[.l (dDs x.done)]) (Yf x.done h4) rfl rfl rfl (JtU rfl)
structure Jpy where
 site:Sit
 code:Int
 tells:List Int
 said:List Msg
def Jcj (c:Cal):Msg:=⟨1,-1,0,0,c,[],[],[]⟩
def JY (s:Sit) (c:Cal):Don:=s.done.getD c.client.toNat Wa
def KZ (p:Pln) (s:Sit) (k:Int) (c:Cal):Jkj:=Ja9 p.acts s.base p.gives k s.added c.act c.args
def JiR (s:Sit) (c:Cal) (r:Jkj):Sit:=⟨s.up,s.frozen,s.round,s.base,r.adds,s.done.set c.client.toNat ⟨c.seq,r.code,r.tells⟩⟩
def Wq (p:Pln) (s:Sit) (k:Int) (c:Cal):Jpy :=
 if s.up=true∧Int.tmod c.client p.gives.length=k then
  if c.seq=(JY s c).seq then ⟨s,(JY s c).code,(JY s c).tells,[]⟩
  else if c.seq=(JY s c).seq+1 then
   if s.frozen=false∧(KZ p s k c).ok=true then ⟨JiR s c (KZ p s k c),(KZ p s k c).code,(KZ p s k c).tells,[]⟩
   else ⟨s,0,[],[Jcj c]⟩
  else ⟨s,0,[],[]⟩
 else ⟨s,0,[],[]⟩
def Jpy.ds (r:Jpy):List D:=r.site.cells++[dI r.code,.s (dL r.tells),.s (dMs r.said)]
theorem JkE {p:Pln} {s:Sit} {k:Int} {c:Cal} (h : ¬(s.up=true∧Int.tmod c.client p.gives.length=k)∨(c.seq≠(JY s c).seq∧c.seq≠(JY s c).seq+1)):Wq p s k c=⟨s,0,[],[]⟩:=by
 unfold Wq;rcases h with h | ⟨h1,h2⟩
 ·rw[if_neg h]
 ·rw[if_neg h1,if_neg h2];split <;> rfl
theorem Jiw {p:Pln} {s:Sit} {k:Int} {c:Cal} (h1:s.up=true) (h2:Int.tmod c.client p.gives.length=k) (h3:c.seq=(JY s c).seq):Wq p s k c=⟨s,(JY s c).code,(JY s c).tells,[]⟩:=by
 unfold Wq;rw[if_pos ⟨h1,h2⟩,if_pos h3]
theorem JlI {p:Pln} {s:Sit} {k:Int} {c:Cal} (h1:s.up=true) (h2:Int.tmod c.client p.gives.length=k) (h3:c.seq=(JY s c).seq+1) (h4:s.frozen=false) (h5:(KZ p s k c).ok=true) :
  Wq p s k c=⟨JiR s c (KZ p s k c),(KZ p s k c).code,(KZ p s k c).tells,[]⟩:=by
 unfold Wq;rw[if_pos ⟨h1,h2⟩,if_neg (by omega),if_pos h3,if_pos ⟨h4,h5⟩]
theorem Jhs {p:Pln} {s:Sit} {k:Int} {c:Cal} (h1:s.up=true) (h2:Int.tmod c.client p.gives.length=k) (h3:c.seq=(JY s c).seq+1) (h4:s.frozen=true∨(KZ p s k c).ok=false):Wq p s k c=⟨s,0,[],[Jcj c]⟩:=by
 unfold Wq;rw[if_pos ⟨h1,h2⟩,if_neg (by omega),if_pos h3,if_neg (by rintro⟨a,b⟩;rcases h4 with h | h <;> simp_all)]
theorem JA {n:Int} {l:List Don}:JZ n l=true↔(l.length:Int)=n∧∀d∈l,Xj d=true:=by
 unfold JZ;rw[Jus,decide_eq_true_eq,JuF]
theorem Jdh {n:Int} {l:List Don} (h:JZ n l=true) (i:Nat) {d:Don} (hd:Xj d=true):JZ n (l.set i d)=true:=by
 obtain⟨h1,h2⟩:=JA.1 h;refine JA.2 ⟨by rw[List.length_set];exact h1,fun x hx=>?_⟩;rcases JuR hx with q | q
 ·exact h2 x q
 ·rw[q];exact hd
theorem QV {p:Pln} {c:Cal}:Jq p c=true↔(0≤c.client∧c.client≤p.n-1)∧(1≤c.seq∧c.seq≤300)∧(0≤c.act∧c.act≤(p.acts.length:Int)-1)∧Q8 c.args=true:=by
 unfold Jq;simp only[Jus,Jp]
theorem XN {p:Pln} {b:List Int} {k:Int} {a:List Int}:Xw p b k a=true↔keeps b p.gives (Jb p.acts) k a=true∧Qd (Jj p.acts) a=true:=by
 unfold Xw;rw[Jus]
theorem Qf {p:Pln} {s:Sit} {k:Int}:J4 p s k=true↔(0≤s.round∧s.round≤200)∧JU s.base=true∧Xw p s.base k s.added=true∧JZ p.n s.done=true:=by
 unfold J4;simp only[Jus,Jp]
theorem JjF {p:Pln} {c:Cal} (h:Jq p c=true):Jv p (Jcj c)=true:=by simp[Jv,Jcj,inB,XM,em,h]
theorem JaP {p:Pln} {s:Sit} {k:Int} {c:Cal} (hp:JC p=true) (hs:J4 p s k=true) (hc:Jq p c=true):YX p.acts s.base p.gives k s.added c.act c.args=true:=by
 obtain⟨_,_,h3,_⟩:=Qf.1 hs;obtain⟨_,_,h6,h7⟩:=QV.1 hc;obtain⟨h8,h9⟩:=XN.1 h3;unfold YX;rw[XE hp,h7,h8,h9,show inB c.act 0 ((p.acts.length:Int)-1)=true from Jp.2 h6];rfl
theorem Jpn {f:Frm} {v w:List Int} (hf:Std 10000000 f) (hv:JU v=true) (hw:Q8 w=true) : -999999999999≤atF f v w∧atF f v w≤999999999999:=by
 obtain⟨v1,v2⟩:=QF.1 hv;obtain⟨w1,w2⟩:=X3.1 hw;have h1:=Kr hf.lc v2 (by omega) (by omega);have h2:=Kr hf.ld w2 (by omega) (by omega);have h3:=hf.k;rw[hf.c] at h1;rw[hf.d] at h2;unfold atF;omega
theorem Jmx {ps:List Bool} {a b:List Int} (ha:Qd ps a=true) (hb:Qd ps b=true):Qd ps (Qm a b)=true:=by
 unfold Qd Qm at *
 induction ps generalizing a b with
 | nil=>simp
 | cons q ps ih =>
  cases a with
  | nil=>simp
  | cons x a =>
   cases b with
   | nil=>simp
   | cons y b =>
    simp only[List.zip_cons_cons,List.all_cons,List.zipWith_cons_cons,Jus] at ha hb ⊢;refine⟨?_,ih ha.2 hb.2⟩;have h1:=ha.1;have h2:=hb.1;cases q with
    | false=>rfl
    | true =>
     simp only[JuM,Bool.not_not,decide_eq_true_eq] at h1 h2 ⊢;omega
theorem JiJ {p:Pln} {s:Sit} {k:Int} {c:Cal} (hf:YX p.acts s.base p.gives k s.added c.act c.args=true) (h:(KZ p s k c).ok=true) :
  JK (KZ p s k c).code (KZ p s k c).tells=true∧Xw p s.base k (KZ p s k c).adds=true:=by
 obtain⟨hc,hk,hw,hke,hst⟩:=Kv.1 hf;have hb:JU s.base=true:=by
  obtain⟨h1,_⟩:=ZE (Xt hke);simp only[Qu,Jus] at h1;exact h1.1.1
 have hka:Xw p s.base k s.added=true:=XN.2 ⟨hke,hst⟩;have key :∀r,r∈Jt (p.acts.getD c.act.toNat [])→∀q,KF s.base p.gives (Jb p.acts) (Jj p.acts) k s.added c.args r=q→q.ok=true→JK q.code q.tells=true∧Xw p s.base k q.adds=true:=by
  intro r hr q hq hqo;have hrf:=Yg r hr;unfold KF at hq;split at hq
  ·subst hq;exact⟨by simp[JK,inB,JH],hka⟩
  ·split at hq
   ·rename_i h1;rw[Jus] at h1;split at hq
    ·subst hq;exact⟨by simp[JK,inB,JH],hka⟩
    ·split at hq
     ·subst hq;cases hqo
     ·split at hq
      ·rename_i h2;subst hq;refine⟨YD.2 ⟨by simp,by simp only[atL,JuB];exact hrf.tl,.inl rfl,fun x hx=>?_⟩,XN.2 ⟨h2,Jmx hst h1.1⟩⟩;simp only[atL,List.mem_map] at hx;obtain⟨f,hfm,rfl⟩:=hx;exact Jpn (hrf.t f hfm) hb hw
      ·subst hq;cases hqo
   ·subst hq;cases hqo
 unfold KZ Ja9 at h ⊢;rw[if_pos hf] at h ⊢;split at h
 ·rename_i r hr;exact key r (List.mem_of_find?_eq_some hr) _ rfl h
 ·cases h
theorem Jcv {p:Pln} {s:Sit} {k:Int} {c:Cal} (hs:J4 p s k=true) (hc:Jq p c=true):s.done[c.client.toNat]? = some (JY s c)∧Xj (JY s c)=true∧JY s c∈s.done:=by
 obtain⟨h1,h2⟩:=JA.1 (Qf.1 hs).2.2.2;obtain⟨h3,_⟩:=QV.1 hc;obtain⟨x,hx,hm⟩:=sA1 (l:=s.done) (i:=c.client.toNat) (by omega);have e:JY s c=x:=QJ hx;rw[e];exact⟨hx,h2 x hm,hm⟩
theorem YA {d:Don}:Xj d=true↔(d.seq=0∧d.code=0∧d.tells.length=0)∨(1≤d.seq∧d.seq≤300∧JK d.code d.tells=true):=by
 unfold Xj;split
 ·rename_i h;simp only[Jus,decide_eq_true_eq];constructor
  ·rintro⟨a,b⟩;exact .inl ⟨h,a,b⟩
  ·rintro (⟨_,a,b⟩ | ⟨a,_⟩)
   ·exact⟨a,b⟩
   ·omega
 ·rename_i h;simp only[Jus,Jp];constructor
  ·rintro⟨⟨a,b⟩,d⟩;exact .inr ⟨a,b,d⟩
  ·rintro (⟨a,_⟩ | ⟨a,b,d⟩)
   ·exact absurd a h
   ·exact⟨⟨a,b⟩,d⟩
structure JkK (p:Pln) (s:Sit) (k:Int) (c:Cal) (r:Jpy):Prop where
 site:J4 p r.site k=true
 said :∀m∈r.said,Jv p m=true
 one:r.said.length≤1
 res:(r.code=0∧r.tells.length=0)∨JK r.code r.tells=true
 seq:r.code≠0→(JY r.site c).seq=c.seq
 more:(JY s c).seq<(JY r.site c).seq→JK r.code r.tells=true
 len:r.tells.length≤2000000
theorem JqY {p:Pln} {s:Sit} {k:Int} {c:Cal} (hp:JC p=true) (hs:J4 p s k=true) (hc:Jq p c=true):JkK p s k c (Wq p s k c):=by
 obtain⟨hx,hdo,hm⟩:=Jcv hs hc;have hf:=JaP hp hs hc;obtain⟨c1,c2,c3,c4⟩:=QV.1 hc;obtain⟨s1,s2,s3,s4⟩:=Qf.1 hs;have six :∀{a:Int} {l:List Int},JK a l=true→l.length≤2000000:=fun h=>by have:=(YD.1 h).2.1;omega
 have no:JkK p s k c ⟨s,0,[],[]⟩:=⟨hs,fun m h=>by simp at h,by simp,.inl ⟨rfl,rfl⟩,fun h=>absurd rfl h,fun h=>absurd h (Int.lt_irrefl _),by simp⟩
 by_cases h1:s.up=true∧Int.tmod c.client p.gives.length=k
 ·by_cases h2:c.seq=(JY s c).seq
  ·rw[Jiw h1.1 h1.2 h2];have hr:JK (JY s c).code (JY s c).tells=true:=by
    rcases YA.1 hdo with h | h
    ·omega
    ·exact h.2.2
   exact⟨hs,fun m h=>by simp at h,by simp,.inr hr,fun _=>h2.symm,fun h=>absurd h (Int.lt_irrefl _),six hr⟩
  ·by_cases h3:c.seq=(JY s c).seq+1
   ·by_cases h4:s.frozen=false∧(KZ p s k c).ok=true
    ·rw[JlI h1.1 h1.2 h3 h4.1 h4.2];obtain⟨l1,l2⟩:=JiJ hf h4.2;have hl:c.client.toNat<s.done.length:=(Jut.1 hx).1;have e:JY (JiR s c (KZ p s k c)) c=⟨c.seq,(KZ p s k c).code,(KZ p s k c).tells⟩:=QJ (by simp only[JiR];exact List.getElem?_set_self hl);refine⟨Qf.2 ⟨s1,s2,l2,Jdh s4 _ (YA.2 (.inr ⟨c2.1,c2.2,l1⟩))⟩,fun m h=>by simp at h,by simp,.inr l1,fun _=>by rw[e],fun _=>l1,six l1⟩
    ·rw[Jhs h1.1 h1.2 h3 (by cases hfz:s.frozen <;> simp_all)];refine⟨hs,fun m h=>?_,by simp,.inl ⟨rfl,rfl⟩,fun h=>absurd rfl h,fun h=>absurd h (Int.lt_irrefl _),by simp⟩;simp only[JuK] at h;subst h;exact JjF hc
   ·rw[JkE (.inr ⟨h2,h3⟩)];exact no
 ·rw[JkE (.inl h1)];exact no
theorem JpP (p:Pln) {s:Sit} (k:Int) {c:Cal} (hs:Qq s) (hc:UB c):Qq (Wq p s k c).site∧(∀m∈(Wq p s k c).said,Qp m)∧(Wq p s k c).tells.length≤2000000:=by
 have hl:=JhJ p.acts s.base p.gives k s.added c.act c.args hs.2.1;have hd:(JY s c).tells.length≤2000000:=by
  unfold JY;cases h:s.done[c.client.toNat]? with
  | none=>simp[Juv,h,Wa]
  | some x=>rw[QJ h];exact hs.2.2.2 x (Juz h)
 have no:Qq s∧(∀m∈([]:List Msg),Qp m)∧([]:List Int).length≤2000000:=⟨hs,fun m h=>by simp at h,by simp⟩;unfold Wq;split
 ·split
  ·exact⟨hs,fun m h=>by simp at h,hd⟩
  ·split
   ·split
    ·refine⟨⟨hs.1,hl.2,by simp only[JiR,List.length_set];exact hs.2.2.1,fun d hm=>?_⟩,fun m h=>by simp at h,hl.1⟩;simp only[JiR] at hm;rcases JuR hm with q | q
     ·exact hs.2.2.2 d q
     ·rw[q];exact hl.1
    ·refine⟨hs,fun m h=>?_,by simp⟩;simp only[JuK] at h;subst h;exact⟨hc,by simp[Jcj],by simp[Jcj],by simp[Jcj],fun d hd=>by simp[Jcj] at hd⟩
   ·exact no
 ·exact no
theorem Jox (p:Pln) (s:Sit) (k:Int) (c:Cal) (hp:JO p) (hs:Qq s) (hc:UB c) (hpo:JC p=true) (hso:J4 p s k=true) (hco:Jq p c=true) :
  Ev L f_k2b (p.cells++[.s (dLL (Jb p.acts)),.s (dBl (Jj p.acts))]++s.cells++[dI k]++c.cells) (Wq p s k c).ds:=by
 refine Juq (vs:=[.i p.n,.l (Je p.acts),.l (dL p.gives),.l (dL p.start),.l (dLL (Jb p.acts)),.l (dBl (Jj p.acts)),.b s.up,.b s.frozen,.i s.round,.l (dL s.base),.l (dL s.added),.l (dDs s.done),.i k,.i c.client,.i c.seq,.i c.act,.l (dL c.args)]) L_k2b rfl ?_;obtain⟨hx,hdo,hm⟩:=Jcv hso hco;have hfine:=JaP hpo hso hco;obtain⟨c1,c2,c3,c4⟩:=QV.1 hco;have hg:=(Qo hpo).1;have hlt:c.client.toNat<s.done.length:=(Jut.1 hx).1;have hsq : -1≤(JY s c).seq∧(JY s c).seq≤300:=by rcases YA.1 hdo with h | h <;> omega
 have hdl:(JY s c).tells.length≤2000000:=hs.2.2.2 _ hm;refine Jua (vs:=[.b s.up,.b s.frozen,.i s.round,.l (dL s.base),.l (dL s.added),.l (dDs s.done)]) (V5 s hs) rfl rfl rfl ?_;simp only[sC,sN];refine JtY (0≤c.client) rfl c1.1 ?_;refine JtY (c.client<(s.done.length:Int)) (by show decide (c.client<((dDs s.done).length:Int))=_;rw[Qk]) (by omega) ?_;refine Jt5 (ds:=dDs s.done) (d:=(JY s c).g) (vs:=[.i (JY s c).seq,.i (JY s c).code,.l (dL (JY s c).tells)]) c.client rfl rfl rfl c1.1 (mA1 (f:=Don.g) hx) rfl ?_;simp only[sC,sN];have no:=fun h=>JkE (p:=p) (s:=s) (k:=k) (c:=c) h;have same:=fun h1 h2 h3=>Jiw (p:=p) (s:=s) (k:=k) (c:=c) h1 h2 h3;have did:=fun h1 h2 h3 h4 h5=>JlI (p:=p) (s:=s) (k:=k) (c:=c) h1 h2 h3 h4 h5;have want:=fun h1 h2 h3 h4=>Jhs (p:=p) (s:=s) (k:=k) (c:=c) h1 h2 h3 h4;have hloc:=Jnp (as:=p.acts) (b:=s.base) (g:=p.gives) (s:=k) (a:=s.added) (k:=c.act) (w:=c.args) hp.1 hp.2.1 hfine;have hll:=JhJ p.acts s.base p.gives k s.added c.act c.args hs.2.1;have elo:Ja9 p.acts s.base p.gives k s.added c.act c.args=KZ p s k c:=rfl;rw[elo] at hloc hll;have hset :∀r:Jkj,(dDs s.done).set c.client.toNat (.g [dI c.seq,dI r.code,.s (dL r.tells)])=dDs (JiR s c r).done:=fun r=>by simp only[dDs,JiR,List.map_set];rfl
 generalize JY s c=x at *;generalize KZ p s k c=r at *;refine JtQ s.up rfl (fun a=>JtU (by rw[no (.inl (fun q=>by rw[a] at q;cases q.1))];rfl)) (fun a=>?_);refine Jui (by show (!decide (((dL p.gives).length:Int)=0))=true;rw[dL1,Bool.not_eq_true',decide_eq_false_iff_not];omega) ?_;refine JtQ (decide (Int.tmod c.client p.gives.length=k)) (by show (!decide (Int.tmod c.client ((dL p.gives).length:Int)=k))=_;rw[dL1]) (fun b=>JtU (by rw[no (.inl (fun q=>by simp[q.2] at b))];rfl)) (fun b=>?_);have b:Int.tmod c.client p.gives.length=k:=by simpa using b
 refine Jue (c.seq<x.seq) rfl (fun e=>JtU (by rw[no (.inr ⟨by omega,by omega⟩)];rfl)) (fun e=>?_);refine Jue (x.seq+1<c.seq) (by show decide (i64.wrap (x.seq+1)<c.seq)=_;rw[w64 (by omega) (by omega)]) (fun e2=>JtU (by rw[no (.inr ⟨by omega,by omega⟩)];rfl)) (fun e2=>?_);refine Jue (c.seq=x.seq) rfl (fun e3=>?_) (fun e3=>?_)
 ·rw[same a b e3];refine Jua (vs:=[.i x.code,.l (dL x.tells)]) (Qe x.code x.tells hdl) rfl rfl rfl (JtU rfl)
 have e4:c.seq=x.seq+1:=by omega
 refine JtQ s.frozen rfl (fun f=>?_) (fun f=>?_)
 ·refine Jua (Jca p s) rfl rfl rfl ?_;simp only[sC,sN];refine Jua (vs:=[.i r.code,.l (dL r.tells),.l (dL r.adds),.b r.ok]) hloc rfl rfl rfl ?_;simp only[sC,sN];refine Jt4 r.ok rfl (fun o=>?_) (fun o=>?_)
  ·rw[did a b e4 f o];refine Jua (vs:=[.i r.code,.l (dL r.tells)]) (Qe r.code r.tells hll.1) rfl rfl rfl ?_;simp only[sC,sN];refine JtY (0≤c.client) rfl c1.1 ?_;refine JtY (c.client<(s.done.length:Int)) (by show decide (c.client<((dDs s.done).length:Int))=_;rw[Qk]) (by omega) ?_;refine Jt5 (ds:=dDs s.done) (d:=x.g) (vs:=[.i x.seq,.i x.code,.l (dL x.tells)]) c.client rfl rfl rfl c1.1 (mA1 (f:=Don.g) hx) rfl (JtU ?_);show [dB s.up,dB s.frozen,dI s.round,.s (dL s.base),.s (dL r.adds),.s ((dDs s.done).set c.client.toNat (.g [dI c.seq,dI r.code,.s (dL r.tells)])),dI r.code,.s (dL r.tells),D.s []]=_;rw[hset r];rfl
  ·rw[want a b e4 (.inr o)];refine Jua (vs:=[.i c.client,.i c.seq,.i c.act,.l (dL c.args)]) (JX c hc) rfl rfl rfl (JtU rfl)
 ·rw[want a b e4 (.inl f)];refine Jua (vs:=[.i c.client,.i c.seq,.i c.act,.l (dL c.args)]) (JX c hc) rfl rfl rfl (JtU rfl)
end Go.Proofs.YtofcmnglieaoeaaGreatDoor

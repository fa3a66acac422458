import Derived.Test.YtngcnclchcahlaaGreatDoorPZZA
import Derived.Test.YtngcnclchcahlaaGreatDoorPZN
import Derived.Test.YtngcnclchcahlaaGreatDoorPZU
set_option linter.unusedVariables false
set_option linter.unusedSimpArgs false
/- The program's SitHear answers as the reference's: over residual programs. -/
namespace Go.Proofs.YtngcnclchcahlaaGreatDoor
open Go Go.Tm
open Go.IntKind (i64)
def UL (g:Nat) (k:Int) (i:Nat) (x y:Don):Don:=if Int.tmod (i:Int) (g:Int)=k∧x.seq<y.seq then y else x
def XU (g:Nat) (k:Int) (sd md:List Don) (n:Nat):List Don:=sd.mapIdx fun j x=>if j<n then UL g k j x (md.getD j Wh) else x
theorem KN (g:Nat) (k:Int) (sd md:List Don) (n:Nat):(XU g k sd md n).length=sd.length:=by simp[XU]
theorem Jps (g:Nat) (k:Int) (sd md:List Don):XU g k sd md 0=sd:=by
 apply List.ext_getElem?;intro j;simp only[XU,List.getElem?_mapIdx];cases sd[j]? <;> simp
theorem Jip {g:Nat} {k:Int} {sd md:List Don} {i:Nat} {x:Don} (h:sd[i]? = some x):(XU g k sd md i)[i]? = some x:=by
 simp[XU,List.getElem?_mapIdx,h]
theorem Jf9 {g:Nat} {k:Int} {sd md:List Don} {i:Nat} {x y:Don} (h:sd[i]? = some x) (hy:md[i]? = some y):(XU g k sd md i).set i (UL g k i x y)=XU g k sd md (i+1):=by
 apply List.ext_getElem?;intro j;have hl:i<sd.length:=(Jua.1 h).1
 by_cases hj:i=j
 ·subst hj;rw[List.getElem?_set_self (by rw[KN];exact hl)];have e:md.getD i Wh=y:=QA hy;simp only[XU,List.getElem?_mapIdx,h,Jub,e,show i<i+1 by omega,if_true]
 ·rw[List.getElem?_set_ne hj];simp only[XU,List.getElem?_mapIdx];cases sd[j]? with
  | none=>rfl
  | some z =>
   simp only[Jub]
   by_cases h1:j<i
   ·rw[if_pos h1,if_pos (show j<i+1 by omega)]
   ·rw[if_neg h1,if_neg (show ¬j<i+1 by omega)]
theorem JjN {g:Nat} {k:Int} {sd md:List Don} {i:Nat} {x y:Don} (h:sd[i]? = some x) (hy:md[i]? = some y) (hp : ¬(Int.tmod (i:Int) (g:Int)=k∧x.seq<y.seq)):XU g k sd md i=XU g k sd md (i+1):=by
 rw[←Jf9 h hy];have e:UL g k i x y=x:=by unfold UL;rw[if_neg hp]
 rw[e];apply List.ext_getElem?;intro j;have hl:i<sd.length:=(Jua.1 h).1
 by_cases hj:i=j
 ·subst hj;rw[List.getElem?_set_self (by rw[KN];exact hl)];exact Jip h
 ·rw[List.getElem?_set_ne hj]
theorem Jme {g:Nat} {k:Int} {sd md:List Don} {n:Nat} (hl:md.length=sd.length) {d:Don} (h:d∈XU g k sd md n):d∈sd∨d∈md:=by
 obtain⟨j,hj⟩:=List.getElem?_of_mem h;simp only[XU,List.getElem?_mapIdx] at hj;cases hx:sd[j]? with
 | none=>rw[hx] at hj;simp at hj
 | some x =>
  have hjl:j<md.length:=by rw[hl];exact(Jua.1 hx).1
  have hyy:md[j]? = some md[j]:=Juk hjl;rw[hx] at hj;simp only[Jub,Jt8,QA hyy] at hj;have mx:x∈sd:=Jug hx;have my:md[j]∈md:=List.getElem_mem hjl;split at hj
  ·unfold UL at hj;split at hj
   ·subst hj;exact .inr my
   ·subst hj;exact .inl mx
  ·subst hj;exact .inl mx
def Wq (l:List Don):List Int:=l.map fun d=>d.seq
def Jf6 (s:Sit) (k:Int):Msg:=⟨3,-1,k,s.round,⟨0,0,0,[]⟩,s.added,Wq s.done,[]⟩
def U5 (p:Pln) (s:Sit) (k:Int) (m:Msg):Sit :=
 if s.up=true∧m.to=k then
  if m.kind=2∧m.round=s.round then ⟨s.up,true,s.round,s.base,s.added,s.done⟩
  else if m.kind=4∧s.round<m.round then ⟨s.up,false,m.round,m.vals,[0,0,0],XU p.gives.length k s.done m.done s.done.length⟩
  else s
 else s
def KZ (s:Sit) (k:Int) (m:Msg):List Msg:=if s.up=true∧m.to=k∧m.kind=2∧m.round=s.round then [Jf6 s k] else []
theorem JkO (s:Sit) (k:Int) (hs:Qu s):Ev L f_k2g (s.cells++[dI k]) (Jf6 s k).cells:=by
 refine Jt7 (vs:=[.b s.up,.b s.frozen,.i s.round,.l (dL s.base),.l (dL s.added),.l (dDs s.done),.i k]) L_k2g rfl ?_;have h2:=hs.2.1;have h3:=hs.2.2.1;refine Jtv (dL s.added) 2000000 (by rw[dL1];omega) (by omega) rfl ?_;refine JtH (JS s.added) ?_;refine Jtv (dL s.added) 2000000 (by rw[dL1];omega) (by omega) rfl ?_;refine Jtt s.done.length (fun i=>[.l (dL (Wq (s.done.take i))),.i i]) (fun _=>True) rfl rfl trivial fun i hi _=>?_;simp only[sC,sN];refine JtT i (QC s.done) rfl (fun h=>?_) (fun h=>JtA (Jt0 ?_))
 ·obtain⟨x,hx,hm⟩:=sA1 h;refine JtY (vs:=[.i x.seq,.i x.code,.l (dL x.tells)]) i (mA1 (f:=Don.g) hx) rfl rfl rfl rfl ?_;simp only[sC,sN];refine JtR (dL (Wq (s.done.take i))) 2000000 (by rw[dL1];simp only[Wq,Jui,Juo];omega) (by omega) rfl ?_;refine JtK (vs:=[.l (dL (Wq (s.done.take (i+1)))),.i ((i+1:Nat):Int)]) ?_ ⟨h,rfl,trivial⟩;show [V.l (dL (Wq (s.done.take i))++[dI x.seq]),V.i (i64.wrap ((i:Int)+1))]=_;rw[wS h (by omega),tS1 hx];simp only[dL,Wq,List.map_append,Juh,List.map_nil]
 ·rw[tA1 h];rfl
theorem JgG {p:Pln} {s:Sit} {k:Int} {m:Msg} (h : ¬(s.up=true∧m.to=k)∨(¬(m.kind=2∧m.round=s.round)∧¬(m.kind=4∧s.round<m.round))):U5 p s k m=s∧KZ s k m=[]:=by
 unfold U5 KZ;rcases h with h | ⟨h1,h2⟩
 ·rw[if_neg h,if_neg (fun q=>h ⟨q.1,q.2.1⟩)];exact⟨rfl,rfl⟩
 ·have h3 : ¬(s.up=true∧m.to=k∧m.kind=2∧m.round=s.round):=fun q=>h1 q.2.2;rw[if_neg h1,if_neg h2,if_neg h3];simp
theorem JqG {p:Pln} {s:Sit} {k:Int} {m:Msg} (h1:s.up=true) (h2:m.to=k) (h3:m.kind=2) (h4:m.round=s.round):U5 p s k m=⟨s.up,true,s.round,s.base,s.added,s.done⟩∧KZ s k m=[Jf6 s k]:=by
 unfold U5 KZ;rw[if_pos ⟨h1,h2⟩,if_pos ⟨h3,h4⟩,if_pos ⟨h1,h2,h3,h4⟩];exact⟨rfl,rfl⟩
theorem Jrf {p:Pln} {s:Sit} {k:Int} {m:Msg} (h1:s.up=true) (h2:m.to=k) (h3:m.kind=4) (h4:s.round<m.round):U5 p s k m=⟨s.up,false,m.round,m.vals,[0,0,0],XU p.gives.length k s.done m.done s.done.length⟩∧KZ s k m=[]:=by
 unfold U5 KZ;rw[if_pos ⟨h1,h2⟩,if_neg (fun q=>by omega),if_pos ⟨h3,h4⟩,if_neg (fun q=>by omega)];exact⟨rfl,rfl⟩
theorem Jhn {α:Type} {l:List α} {i:Nat} {x:α} (h:l[i]? = some x):l.set i x=l:=by
 apply List.ext_getElem?;intro j;have hl:i<l.length:=(Jua.1 h).1
 by_cases hj:i=j
 ·subst hj;rw[List.getElem?_set_self hl,h]
 ·rw[List.getElem?_set_ne hj]
theorem Jm4 (p:Pln) (s:Sit) (k:Int) (m:Msg) (hs:Qu s) (hm:ZP m) (hg:0<p.gives.length) (hdone:m.kind=4→m.done.length=s.done.length) :
  Ev L f_k2h (p.cells++s.cells++[dI k]++m.cells) ((U5 p s k m).cells++[.s (dMs (KZ s k m))]):=by
 refine Jt7 (vs:=[.i p.n,.l (Jd p.acts),.l (dL p.gives),.l (dL p.start),.b s.up,.b s.frozen,.i s.round,.l (dL s.base),.l (dL s.added),.l (dDs s.done),.i k,.i m.kind,.i m.to,.i m.frm,.i m.round,.i m.call.client,.i m.call.seq,.i m.call.act,.l (dL m.call.args),.l (dL m.vals),.l (dL m.seqs),.l (dDs m.done)]) L_k2h rfl ?_;refine JtE (vs:=[.b s.up,.b s.frozen,.i s.round,.l (dL s.base),.l (dL s.added),.l (dDs s.done)]) (VT s hs) rfl rfl rfl ?_;simp only[sC,sN];refine Jt1 s.up rfl (fun a=>Jt0 (by obtain⟨e1,e2⟩:=JgG (p:=p) (s:=s) (k:=k) (m:=m) (by exact .inl (fun q=>by rw[a] at q;cases q.1));rw[e1,e2];rfl)) (fun a=>?_);refine Jt1 (decide (m.to=k)) rfl (fun b=>Jt0 (by obtain⟨e1,e2⟩:=JgG (p:=p) (s:=s) (k:=k) (m:=m) (by exact .inl (fun q=>by simp[q.2] at b));rw[e1,e2];rfl)) (fun b=>?_);have b:m.to=k:=by simpa using b
 have hno :∀q:(¬(m.kind=2∧m.round=s.round)∧¬(m.kind=4∧s.round<m.round)),U5 p s k m=s∧KZ s k m=[]:=fun q=>JgG (.inr q);refine Jty (m.kind=2) rfl (fun d=>?_) (fun d=>?_)
 ·refine Jty (m.round=s.round) rfl (fun e=>?_) (fun e=>?_)
  ·obtain⟨e1,e2⟩:=JqG (p:=p) (s:=s) (k:=k) (m:=m) a b d e;rw[e1,e2];have hv:=JkO ⟨s.up,true,s.round,s.base,s.added,s.done⟩ k hs;refine JtE (vs:=[.i 3,.i (-1),.i k,.i s.round,.i 0,.i 0,.i 0,.l (dL []),.l (dL s.added),.l (dL (Wq s.done)),.l (dDs [])]) hv rfl rfl rfl (Jt0 ?_);rfl
  ·refine Jty (m.kind=4) rfl (fun f=>absurd f (by omega)) (fun f=>Jt0 ?_);obtain⟨e1,e2⟩:=hno ⟨fun q=>e q.2,fun q=>f q.1⟩;rw[e1,e2];rfl
 ·refine Jty (m.kind=4) rfl (fun f=>?_) (fun f=>Jt0 ?_)
  ·refine Jty (s.round<m.round) rfl (fun e=>?_) (fun e=>Jt0 ?_)
   ·obtain⟨e1,e2⟩:=Jrf (p:=p) (s:=s) (k:=k) (m:=m) a b f e;rw[e1,e2];have hd:=hdone f;have hsl:=hs.2.2.1;have hvl:(dL m.vals).length≤2000000:=by rw[dL1];exact hm.2.1
    refine Jtv (dL m.vals) 2000000 hvl (by omega) rfl ?_;refine JtH (JS m.vals) ?_;refine Jtv (dL m.vals) 2000000 hvl (by omega) rfl ?_;refine Jtt s.done.length (fun i=>[.l (dDs (XU p.gives.length k s.done m.done i)),.i i]) (fun _=>True) rfl (by rw[Jps];rfl) trivial fun i hi _=>?_;simp only[sC,sN];refine JtT i (show (dDs (XU p.gives.length k s.done m.done i)).length=s.done.length by rw[QC,KN]) rfl (fun h=>?_) (fun h=>JtA (Jt0 ?_))
    ·obtain⟨x,hx,hxm⟩:=sA1 h;obtain⟨y,hy,hym⟩:=sA1 (l:=m.done) (i:=i) (by omega);have hyg:(dDs m.done)[i]? = some y.g:=mA1 (f:=Don.g) hy;have hxg:(dDs (XU p.gives.length k s.done m.done i))[i]? = some x.g:=mA1 (f:=Don.g) (Jip hx);have hlt:i<(dDs (XU p.gives.length k s.done m.done i)).length:=by rw[QC,KN];exact h
     have hset:=Jf9 (g:=p.gives.length) (k:=k) hx hy;have hsame:=JjN (g:=p.gives.length) (k:=k) hx hy;have hsd:(dDs (XU p.gives.length k s.done m.done i)).set i (UL p.gives.length k i x y).g=dDs (XU p.gives.length k s.done m.done (i+1)):=by rw[←hset];simp only[dDs,List.map_set]
     refine JtY (vs:=[.i y.seq,.i y.code,.l (dL y.tells)]) i hyg rfl rfl rfl rfl ?_;simp only[sC,sN];generalize dDs (XU p.gives.length k s.done m.done i)=es at *;refine Jtu (vs:=[.i x.seq,.i x.code,.l (dL x.tells)]) (ds:=es) i hxg rfl rfl rfl rfl rfl rfl ?_;simp only[sC,sN];have hw:i64.wrap ((i:Int)+1)=((i+1:Nat):Int):=wS h (by omega);refine Jty (x.seq<y.seq) rfl (fun u=>?_) (fun u=>?_)
     ·refine Jt3 (by show (!decide (((dL p.gives).length:Int)=0))=true;rw[dL1,Bool.not_eq_true',decide_eq_false_iff_not];omega) ?_;refine Jty (Int.tmod (i:Int) (p.gives.length:Int)=k) (by show decide (Int.tmod (i:Int) ((dL p.gives).length:Int)=k)=_;rw[dL1]) (fun v=>?_) (fun v=>?_)
      ·refine JtY (vs:=[.i y.seq,.i y.code,.l (dL y.tells)]) i hyg rfl rfl rfl rfl ?_;simp only[sC,sN];refine JtY (vs:=[.i y.seq,.i y.code,.l (dL y.tells)]) i hyg rfl rfl rfl rfl ?_;simp only[sC,sN];refine JtE (vs:=[.i y.code,.l (dL y.tells)]) (Qe y.code y.tells (hm.2.2.2.2 y hym)) rfl rfl rfl ?_;simp only[sC,sN];refine Jtu (vs:=[.i x.seq,.i x.code,.l (dL x.tells)]) (ds:=es) i hxg rfl rfl rfl rfl rfl rfl ?_;refine JtK ?_ ⟨h,rfl,trivial⟩;have e5:UL p.gives.length k i x y=y:=by unfold UL;rw[if_pos ⟨v,u⟩]
       rw[e5] at hsd;show [V.l (es.set i y.g),V.i (i64.wrap ((i:Int)+1))]=_;rw[hsd,hw]
      ·refine JtK ?_ ⟨h,rfl,trivial⟩;show [V.l es,V.i (i64.wrap ((i:Int)+1))]=_;have e5:UL p.gives.length k i x y=x:=by unfold UL;rw[if_neg (fun q=>v q.1)]
       rw[e5,Jhn hxg] at hsd;rw[hsd,hw]
     ·refine JtK ?_ ⟨h,rfl,trivial⟩;show [V.l es,V.i (i64.wrap ((i:Int)+1))]=_;have e5:UL p.gives.length k i x y=x:=by unfold UL;rw[if_neg (fun q=>u q.2)]
      rw[e5,Jhn hxg] at hsd;rw[hsd,hw]
    ·rw[show i=s.done.length by omega];rfl
   ·obtain⟨e1,e2⟩:=hno ⟨fun q=>d q.1,fun q=>e q.2⟩;rw[e1,e2];rfl
  ·obtain⟨e1,e2⟩:=hno ⟨fun q=>d q.1,fun q=>f q.1⟩;rw[e1,e2];rfl
/- The program's ClkTick answers as the reference's: over residual programs. -/
def Jhu (c:Clk) (i:Nat):Msg:=⟨4,i,0,c.round,⟨0,0,0,[]⟩,c.base,[],c.done⟩
def Jp6 (c:Clk) (i:Nat):Msg:=⟨2,i,0,c.round,⟨0,0,0,[]⟩,[],[],[]⟩
def Xr (c:Clk) (n:Nat):List Msg:=(List.range n).map (Jhu c)
def YM (c:Clk) (n:Nat):List Msg:=(List.range n).map (Jp6 c)
theorem Ji6 (c:Clk) (n:Nat):Xr c (n+1)=Xr c n++[Jhu c n]:=by simp[Xr,List.range_succ]
theorem Jj1 (c:Clk) (n:Nat):YM c (n+1)=YM c n++[Jp6 c n]:=by simp[YM,List.range_succ]
theorem Z2 (c:Clk) (n:Nat):(Xr c n).length=n:=by simp[Xr]
theorem Jfi (c:Clk) (n:Nat):(YM c n).length=n:=by simp[YM]
def busy (c:Clk):Bool:=decide (0<c.wants.length)||decide (0<XO c.got)
def JbN (c:Clk):List Msg:=if c.up then(if busy c then Xr c c.got.length++YM c c.got.length else Xr c c.got.length) else []
theorem JcJ (a b:List Msg):dMs (a++b)=dMs a++dMs b:=by simp[dMs]
theorem Q1 (a:List Msg):(dMs a).length=a.length:=by simp[dMs]
theorem Jn1 (c:Clk) (i:Nat):dMs [Jhu c i]=[.g [dI 4,dI i,dI 0,dI c.round,dI 0,dI 0,dI 0,.s [],.s (dL c.base),.s [],.s (dDs c.done)]]:=rfl
theorem JpR (c:Clk) (i:Nat):dMs [Jp6 c i]=[.g [dI 2,dI i,dI 0,dI c.round,dI 0,dI 0,dI 0,.s [],.s [],.s [],.s []]]:=rfl
theorem Jm1 (c:Clk) (i:Nat) (hc:Up c):Ev L f_k2m (c.cells++[dI i]) (Jhu c i).cells:=by
 refine Jt7 (vs:=[.b c.up,.i c.round,.l (dL c.base),.l (dDs c.done),.l (dCs c.wants),.l (dGs c.got),.i i]) L_k2m rfl ?_;have h1:=hc.b;refine Jtv (dL c.base) 2000000 (by rw[dL1];omega) (by omega) rfl ?_;refine JtH (JS c.base) ?_;refine Jtv (dL c.base) 2000000 (by rw[dL1];omega) (by omega) rfl ?_;exact JtE (vs:=[.l (dDs c.done)]) (Ze c.done ⟨hc.d,hc.dt⟩) rfl rfl rfl (Jt0 rfl)
theorem JfG (p:Pln) (c:Clk) (hp:JM p) (hc:Up c):Ev L f_k2n (p.cells++c.cells) [.s (dMs (Xr c p.gives.length))]:=by
 refine Jt7 (vs:=[.i p.n,.l (Jd p.acts),.l (dL p.gives),.l (dL p.start),.b c.up,.i c.round,.l (dL c.base),.l (dDs c.done),.l (dCs c.wants),.l (dGs c.got)]) L_k2n rfl ?_;have hg:=hp.2.1;refine Jtt p.gives.length (fun i=>[.l (dMs (Xr c i)),.i i]) (fun _=>True) rfl rfl trivial fun i hi _=>?_;simp only[sC,sN];refine JtT i (dL1 p.gives) rfl (fun h=>?_) (fun h=>JtA (Jt0 ?_))
 ·refine JtE (vs:=[.i 4,.i i,.i 0,.i c.round,.i 0,.i 0,.i 0,.l [],.l (dL c.base),.l [],.l (dDs c.done)]) (Jm1 c i hc) rfl rfl rfl ?_;simp only[sC,sN];refine JtR (dMs (Xr c i)) 2000000 (by rw[Q1,Z2];omega) (by omega) rfl ?_;refine JtK (vs:=[.l (dMs (Xr c (i+1))),.i ((i+1:Nat):Int)]) ?_ ⟨h,rfl,trivial⟩;show [V.l (dMs (Xr c i)++[.g [dI 4,dI i,dI 0,dI c.round,dI 0,dI 0,dI 0,.s [],.s (dL c.base),.s [],.s (dDs c.done)]]),V.i (i64.wrap ((i:Int)+1))]=_;rw[wS h (by omega),Ji6,JcJ,Jn1]
 ·rw[show i=p.gives.length by omega];rfl
theorem Jnn (p:Pln) (c:Clk) (hp:JM p) (hc:Up c) (hl:c.got.length=p.gives.length):Ev L f_k2q (p.cells++c.cells) [.s (dMs (JbN c))]:=by
 refine Jt7 (vs:=[.i p.n,.l (Jd p.acts),.l (dL p.gives),.l (dL p.start),.b c.up,.i c.round,.l (dL c.base),.l (dDs c.done),.l (dCs c.wants),.l (dGs c.got)]) L_k2q rfl ?_;have hg:=hp.2.1;have hcc:=hc.c;refine Jt1 c.up rfl (fun a=>Jt0 (by unfold JbN;rw[if_neg (by simp[a])];rfl)) (fun a=>?_);have ht:=JfG p c hp hc;have hpl:=Z2 c p.gives.length;have hh:=Jde c hc.g;have et:JbN c=if busy c then Xr c p.gives.length++YM c p.gives.length else Xr c p.gives.length:=by unfold JbN;rw[if_pos a,hl]
 rw[et];clear et;generalize Xr c p.gives.length=ps at *;refine JtE (vs:=[.l (dMs ps)]) ht rfl rfl rfl ?_;simp only[sC,sN];refine Jtt p.gives.length (fun i=>[.l (dMs (ps++YM c i)),.i i]) (fun i=>i=0∨busy c=true) rfl (by rw[show YM c 0=[] from rfl,List.append_nil];rfl) (.inl rfl) fun i hi hq=>?_;simp only[sC,sN];have hs:dMs (ps++YM c i)++[.g [dI 2,dI i,dI 0,dI c.round,dI 0,dI 0,dI 0,.s [],.s [],.s [],.s []]]=dMs (ps++YM c (i+1)):=by rw[Jj1,←List.append_assoc,JcJ (ps++YM c i),JpR]
 have hlen:(dMs (ps++YM c i)).length≤4000000:=by rw[Q1,Juf,Jfi];omega
 have hend : ¬i<p.gives.length∨busy c=false→[D.s (dMs (ps++YM c i))]=[D.s (dMs (if busy c then ps++YM c p.gives.length else ps))]:=fun q=>by
  by_cases hb:busy c=true
  ·rw[if_pos hb];rcases q with q | q
   ·rw[show i=p.gives.length by omega]
   ·rw[q] at hb;cases hb
  ·rw[if_neg hb];rcases hq with e | e
   ·rw[e,show YM c 0=[] from rfl,List.append_nil]
   ·exact absurd e hb
 generalize dMs (ps++YM c i)=ms at *;refine JtT i (dL1 p.gives) rfl (fun h=>?_) (fun h=>JtA (Jt0 (hend (.inl h))));have hw:i64.wrap ((i:Int)+1)=((i+1:Nat):Int):=wS h (by omega);refine Jty ((0:Int)<(c.wants.length:Int)) (by show decide ((0:Int)<((dCs c.wants).length:Int))=_;rw[Yj]) (fun b=>?_) (fun b=>?_)
 ·have e:busy c=true:=by unfold busy;rw[decide_eq_true (by omega)];rfl
  refine JtR ms 4000000 hlen (by omega) rfl ?_;refine JtK ?_ ⟨h,rfl,.inr e⟩;show [V.l (ms++[.g [dI 2,dI i,dI 0,dI c.round,dI 0,dI 0,dI 0,.s [],.s [],.s [],.s []]]),V.i (i64.wrap ((i:Int)+1))]=_;rw[hs,hw]
 ·refine JtE hh rfl rfl rfl ?_;simp only[sC,sN];refine Jty ((0:Int)<(XO c.got:Int)) rfl (fun d=>?_) (fun d=>JtA (Jt0 (hend (.inr ?_))))
  ·have e:busy c=true:=by unfold busy;rw[decide_eq_true (show 0<XO c.got by omega),Bool.or_true]
   refine JtR ms 4000000 hlen (by omega) rfl ?_;refine JtK ?_ ⟨h,rfl,.inr e⟩;show [V.l (ms++[.g [dI 2,dI i,dI 0,dI c.round,dI 0,dI 0,dI 0,.s [],.s [],.s [],.s []]]),V.i (i64.wrap ((i:Int)+1))]=_;rw[hs,hw]
  ·unfold busy;rw[decide_eq_false (by omega),decide_eq_false (by omega)];rfl
/- What a site tries,by the reference: over residual programs. -/
theorem JfY (x:Msg) (hx:ZP x):Ev L f_k1y x.cells x.cells:=by
 refine Jt7 (vs:=[.i x.kind,.i x.to,.i x.frm,.i x.round,.i x.call.client,.i x.call.seq,.i x.call.act,.l (dL x.call.args),.l (dL x.vals),.l (dL x.seqs),.l (dDs x.done)]) L_k1y rfl ?_;obtain⟨h1,h2,h3,h4⟩:=hx;refine JtE (vs:=[.i x.call.client,.i x.call.seq,.i x.call.act,.l (dL x.call.args)]) (JZ x.call h1) rfl rfl rfl ?_;simp only[sC,sN];refine Jtv (dL x.vals) 2000000 (by rw[dL1];omega) (by omega) rfl ?_;refine JtH (JS x.vals) ?_;refine Jtv (dL x.vals) 2000000 (by rw[dL1];omega) (by omega) rfl ?_;refine Jtv (dL x.seqs) 2000000 (by rw[dL1];omega) (by omega) rfl ?_;refine JtH (JS x.seqs) ?_;refine Jtv (dL x.seqs) 2000000 (by rw[dL1];omega) (by omega) rfl ?_;refine JtE (vs:=[.l (dDs x.done)]) (Ze x.done h4) rfl rfl rfl (Jt0 rfl)
structure JnT where
 site:Sit
 code:Int
 tells:List Int
 said:List Msg
def JbM (c:Cal):Msg:=⟨1,-1,0,0,c,[],[],[]⟩
def JG (s:Sit) (c:Cal):Don:=s.done.getD c.client.toNat Wh
def Y8 (p:Pln) (s:Sit) (k:Int) (c:Cal):Ji5:=KH p.acts s.base p.gives k s.added c.act c.args
def JdJ (s:Sit) (c:Cal) (r:Ji5):Sit:=⟨s.up,s.frozen,s.round,s.base,r.adds,s.done.set c.client.toNat ⟨c.seq,r.code,r.tells⟩⟩
def XY (p:Pln) (s:Sit) (k:Int) (c:Cal):JnT :=
 if s.up=true∧Int.tmod c.client p.gives.length=k then
  if c.seq=(JG s c).seq then ⟨s,(JG s c).code,(JG s c).tells,[]⟩
  else if c.seq=(JG s c).seq+1 then
   if s.frozen=false∧(Y8 p s k c).ok=true then ⟨JdJ s c (Y8 p s k c),(Y8 p s k c).code,(Y8 p s k c).tells,[]⟩
   else ⟨s,0,[],[JbM c]⟩
  else ⟨s,0,[],[]⟩
 else ⟨s,0,[],[]⟩
def JnT.ds (r:JnT):List D:=r.site.cells++[dI r.code,.s (dL r.tells),.s (dMs r.said)]
theorem Uq {p:Pln} {s:Sit} {k:Int} {c:Cal} (h : ¬(s.up=true∧Int.tmod c.client p.gives.length=k)∨(c.seq≠(JG s c).seq∧c.seq≠(JG s c).seq+1)):XY p s k c=⟨s,0,[],[]⟩:=by
 unfold XY;rcases h with h | ⟨h1,h2⟩
 ·rw[if_neg h]
 ·rw[if_neg h1,if_neg h2];split <;> rfl
theorem K0 {p:Pln} {s:Sit} {k:Int} {c:Cal} (h1:s.up=true) (h2:Int.tmod c.client p.gives.length=k) (h3:c.seq=(JG s c).seq):XY p s k c=⟨s,(JG s c).code,(JG s c).tells,[]⟩:=by
 unfold XY;rw[if_pos ⟨h1,h2⟩,if_pos h3]
theorem Jaz {p:Pln} {s:Sit} {k:Int} {c:Cal} (h1:s.up=true) (h2:Int.tmod c.client p.gives.length=k) (h3:c.seq=(JG s c).seq+1) (h4:s.frozen=false) (h5:(Y8 p s k c).ok=true) :
  XY p s k c=⟨JdJ s c (Y8 p s k c),(Y8 p s k c).code,(Y8 p s k c).tells,[]⟩:=by
 unfold XY;rw[if_pos ⟨h1,h2⟩,if_neg (by omega),if_pos h3,if_pos ⟨h4,h5⟩]
theorem Vf {p:Pln} {s:Sit} {k:Int} {c:Cal} (h1:s.up=true) (h2:Int.tmod c.client p.gives.length=k) (h3:c.seq=(JG s c).seq+1) (h4:s.frozen=true∨(Y8 p s k c).ok=false):XY p s k c=⟨s,0,[],[JbM c]⟩:=by
 unfold XY;rw[if_pos ⟨h1,h2⟩,if_neg (by omega),if_pos h3,if_neg (by rintro⟨a,b⟩;rcases h4 with h | h <;> simp_all)]
theorem JT {n:Int} {l:List Don}:Qi n l=true↔(l.length:Int)=n∧∀d∈l,Xf d=true:=by
 unfold Qi;rw[Jt9,decide_eq_true_eq,Jum]
theorem Jc4 {n:Int} {l:List Don} (h:Qi n l=true) (i:Nat) {d:Don} (hd:Xf d=true):Qi n (l.set i d)=true:=by
 obtain⟨h1,h2⟩:=JT.1 h;refine JT.2 ⟨by rw[List.length_set];exact h1,fun x hx=>?_⟩;rcases Juy hx with q | q
 ·exact h2 x q
 ·rw[q];exact hd
theorem JQ {p:Pln} {c:Cal}:Jk p c=true↔(0≤c.client∧c.client≤p.n-1)∧(1≤c.seq∧c.seq≤300)∧(0≤c.act∧c.act≤(p.acts.length:Int)-1)∧QR c.args=true:=by
 unfold Jk;simp only[Jt9,Jr]
theorem XS {p:Pln} {b:List Int} {k:Int} {a:List Int}:Xp p b k a=true↔keeps b p.gives (Jb p.acts) k a=true∧J5 (Jh p.acts) a=true:=by
 unfold Xp;rw[Jt9]
theorem QG {p:Pln} {s:Sit} {k:Int}:JW p s k=true↔(0≤s.round∧s.round≤200)∧JY s.base=true∧Xp p s.base k s.added=true∧Qi p.n s.done=true:=by
 unfold JW;simp only[Jt9,Jr]
theorem JjI {p:Pln} {c:Cal} (h:Jk p c=true):JV p (JbM c)=true:=by simp[JV,JbM,inB,Yx,em,h]
theorem Ug {p:Pln} {s:Sit} {k:Int} {c:Cal} (hp:Jt p=true) (hs:JW p s k=true) (hc:Jk p c=true):QY p.acts s.base p.gives k s.added c.act c.args=true:=by
 obtain⟨_,_,h3,_⟩:=QG.1 hs;obtain⟨_,_,h6,h7⟩:=JQ.1 hc;obtain⟨h8,h9⟩:=XS.1 h3;unfold QY;rw[Xl hp,h7,h8,h9,show inB c.act 0 ((p.acts.length:Int)-1)=true from Jr.2 h6];rfl
theorem JpJ {f:Frm} {v w:List Int} (hf:Std 10000000 f) (hv:JY v=true) (hw:QR w=true) : -999999999999≤atF f v w∧atF f v w≤999999999999:=by
 obtain⟨v1,v2⟩:=Qg.1 hv;obtain⟨w1,w2⟩:=XX.1 hw;have h1:=ZI hf.lc v2 (by omega) (by omega);have h2:=ZI hf.ld w2 (by omega) (by omega);have h3:=hf.k;rw[hf.c] at h1;rw[hf.d] at h2;unfold atF;omega
theorem JlZ {ps:List Bool} {a b:List Int} (ha:J5 ps a=true) (hb:J5 ps b=true):J5 ps (J2 a b)=true:=by
 unfold J5 J2 at *
 induction ps generalizing a b with
 | nil=>simp
 | cons q ps ih =>
  cases a with
  | nil=>simp
  | cons x a =>
   cases b with
   | nil=>simp
   | cons y b =>
    simp only[List.zip_cons_cons,List.all_cons,List.zipWith_cons_cons,Jt9] at ha hb ⊢;refine⟨?_,ih ha.2 hb.2⟩;have h1:=ha.1;have h2:=hb.1;cases q with
    | false=>rfl
    | true =>
     simp only[Jut,Bool.not_not,decide_eq_true_eq] at h1 h2 ⊢;omega
theorem JdA {p:Pln} {s:Sit} {k:Int} {c:Cal} (hf:QY p.acts s.base p.gives k s.added c.act c.args=true) (h:(Y8 p s k c).ok=true) :
  JL (Y8 p s k c).code (Y8 p s k c).tells=true∧Xp p s.base k (Y8 p s k c).adds=true:=by
 obtain⟨hc,hk,hw,hke,hst⟩:=Zh.1 hf;have hb:JY s.base=true:=by
  obtain⟨h1,_⟩:=Zc (Xa hke);simp only[Qr,Jt9] at h1;exact h1.1.1
 have hka:Xp p s.base k s.added=true:=XS.2 ⟨hke,hst⟩;have key :∀r,r∈Js (p.acts.getD c.act.toNat [])→∀q,YB s.base p.gives (Jb p.acts) (Jh p.acts) k s.added c.args r=q→q.ok=true→JL q.code q.tells=true∧Xp p s.base k q.adds=true:=by
  intro r hr q hq hqo;have hrf:=XT r hr;unfold YB at hq;split at hq
  ·subst hq;exact⟨by simp[JL,inB,JJ],hka⟩
  ·split at hq
   ·rename_i h1;rw[Jt9] at h1;split at hq
    ·subst hq;exact⟨by simp[JL,inB,JJ],hka⟩
    ·split at hq
     ·subst hq;cases hqo
     ·split at hq
      ·rename_i h2;subst hq;refine⟨XW.2 ⟨by simp,by simp only[atL,Jui];exact hrf.tl,.inl rfl,fun x hx=>?_⟩,XS.2 ⟨h2,JlZ hst h1.1⟩⟩;simp only[atL,List.mem_map] at hx;obtain⟨f,hfm,rfl⟩:=hx;exact JpJ (hrf.t f hfm) hb hw
      ·subst hq;cases hqo
   ·subst hq;cases hqo
 unfold Y8 KH at h ⊢;rw[if_pos hf] at h ⊢;split at h
 ·rename_i r hr;exact key r (List.mem_of_find?_eq_some hr) _ rfl h
 ·cases h
theorem Wc {p:Pln} {s:Sit} {k:Int} {c:Cal} (hs:JW p s k=true) (hc:Jk p c=true):s.done[c.client.toNat]? = some (JG s c)∧Xf (JG s c)=true∧JG s c∈s.done:=by
 obtain⟨h1,h2⟩:=JT.1 (QG.1 hs).2.2.2;obtain⟨h3,_⟩:=JQ.1 hc;obtain⟨x,hx,hm⟩:=sA1 (l:=s.done) (i:=c.client.toNat) (by omega);have e:JG s c=x:=QA hx;rw[e];exact⟨hx,h2 x hm,hm⟩
theorem X0 {d:Don}:Xf d=true↔(d.seq=0∧d.code=0∧d.tells.length=0)∨(1≤d.seq∧d.seq≤300∧JL d.code d.tells=true):=by
 unfold Xf;split
 ·rename_i h;simp only[Jt9,decide_eq_true_eq];constructor
  ·rintro⟨a,b⟩;exact .inl ⟨h,a,b⟩
  ·rintro (⟨_,a,b⟩ | ⟨a,_⟩)
   ·exact⟨a,b⟩
   ·omega
 ·rename_i h;simp only[Jt9,Jr];constructor
  ·rintro⟨⟨a,b⟩,d⟩;exact .inr ⟨a,b,d⟩
  ·rintro (⟨a,_⟩ | ⟨a,b,d⟩)
   ·exact absurd a h
   ·exact⟨⟨a,b⟩,d⟩
structure Jln (p:Pln) (s:Sit) (k:Int) (c:Cal) (r:JnT):Prop where
 site:JW p r.site k=true
 said :∀m∈r.said,JV p m=true
 one:r.said.length≤1
 res:(r.code=0∧r.tells.length=0)∨JL r.code r.tells=true
 seq:r.code≠0→(JG r.site c).seq=c.seq
 more:(JG s c).seq<(JG r.site c).seq→JL r.code r.tells=true
 len:r.tells.length≤2000000
theorem Jkm {p:Pln} {s:Sit} {k:Int} {c:Cal} (hp:Jt p=true) (hs:JW p s k=true) (hc:Jk p c=true):Jln p s k c (XY p s k c):=by
 obtain⟨hx,hdo,hm⟩:=Wc hs hc;have hf:=Ug hp hs hc;obtain⟨c1,c2,c3,c4⟩:=JQ.1 hc;obtain⟨s1,s2,s3,s4⟩:=QG.1 hs;have six :∀{a:Int} {l:List Int},JL a l=true→l.length≤2000000:=fun h=>by have:=(XW.1 h).2.1;omega
 have no:Jln p s k c ⟨s,0,[],[]⟩:=⟨hs,fun m h=>by simp at h,by simp,.inl ⟨rfl,rfl⟩,fun h=>absurd rfl h,fun h=>absurd h (Int.lt_irrefl _),by simp⟩
 by_cases h1:s.up=true∧Int.tmod c.client p.gives.length=k
 ·by_cases h2:c.seq=(JG s c).seq
  ·rw[K0 h1.1 h1.2 h2];have hr:JL (JG s c).code (JG s c).tells=true:=by
    rcases X0.1 hdo with h | h
    ·omega
    ·exact h.2.2
   exact⟨hs,fun m h=>by simp at h,by simp,.inr hr,fun _=>h2.symm,fun h=>absurd h (Int.lt_irrefl _),six hr⟩
  ·by_cases h3:c.seq=(JG s c).seq+1
   ·by_cases h4:s.frozen=false∧(Y8 p s k c).ok=true
    ·rw[Jaz h1.1 h1.2 h3 h4.1 h4.2];obtain⟨l1,l2⟩:=JdA hf h4.2;have hl:c.client.toNat<s.done.length:=(Jua.1 hx).1;have e:JG (JdJ s c (Y8 p s k c)) c=⟨c.seq,(Y8 p s k c).code,(Y8 p s k c).tells⟩:=QA (by simp only[JdJ];exact List.getElem?_set_self hl);refine⟨QG.2 ⟨s1,s2,l2,Jc4 s4 _ (X0.2 (.inr ⟨c2.1,c2.2,l1⟩))⟩,fun m h=>by simp at h,by simp,.inr l1,fun _=>by rw[e],fun _=>l1,six l1⟩
    ·rw[Vf h1.1 h1.2 h3 (by cases hfz:s.frozen <;> simp_all)];refine⟨hs,fun m h=>?_,by simp,.inl ⟨rfl,rfl⟩,fun h=>absurd rfl h,fun h=>absurd h (Int.lt_irrefl _),by simp⟩;simp only[Jur] at h;subst h;exact JjI hc
   ·rw[Uq (.inr ⟨h2,h3⟩)];exact no
 ·rw[Uq (.inl h1)];exact no
theorem Jlj (p:Pln) {s:Sit} (k:Int) {c:Cal} (hs:Qu s) (hc:XJ c):Qu (XY p s k c).site∧(∀m∈(XY p s k c).said,ZP m)∧(XY p s k c).tells.length≤2000000:=by
 have hl:=JcZ p.acts s.base p.gives k s.added c.act c.args hs.2.1;have hd:(JG s c).tells.length≤2000000:=by
  unfold JG;cases h:s.done[c.client.toNat]? with
  | none=>simp[Juc,h,Wh]
  | some x=>rw[QA h];exact hs.2.2.2 x (Jug h)
 have no:Qu s∧(∀m∈([]:List Msg),ZP m)∧([]:List Int).length≤2000000:=⟨hs,fun m h=>by simp at h,by simp⟩;unfold XY;split
 ·split
  ·exact⟨hs,fun m h=>by simp at h,hd⟩
  ·split
   ·split
    ·refine⟨⟨hs.1,hl.2,by simp only[JdJ,List.length_set];exact hs.2.2.1,fun d hm=>?_⟩,fun m h=>by simp at h,hl.1⟩;simp only[JdJ] at hm;rcases Juy hm with q | q
     ·exact hs.2.2.2 d q
     ·rw[q];exact hl.1
    ·refine⟨hs,fun m h=>?_,by simp⟩;simp only[Jur] at h;subst h;exact⟨hc,by simp[JbM],by simp[JbM],by simp[JbM],fun d hd=>by simp[JbM] at hd⟩
   ·exact no
 ·exact no
theorem JhN (p:Pln) (s:Sit) (k:Int) (c:Cal) (hp:JM p) (hs:Qu s) (hc:XJ c) (hpo:Jt p=true) (hso:JW p s k=true) (hco:Jk p c=true) :
  Ev L f_k2b (p.cells++[.s (dLL (Jb p.acts)),.s (dBl (Jh p.acts))]++s.cells++[dI k]++c.cells) (XY p s k c).ds:=by
 refine Jt7 (vs:=[.i p.n,.l (Jd p.acts),.l (dL p.gives),.l (dL p.start),.l (dLL (Jb p.acts)),.l (dBl (Jh p.acts)),.b s.up,.b s.frozen,.i s.round,.l (dL s.base),.l (dL s.added),.l (dDs s.done),.i k,.i c.client,.i c.seq,.i c.act,.l (dL c.args)]) L_k2b rfl ?_;obtain⟨hx,hdo,hm⟩:=Wc hso hco;have hfine:=Ug hpo hso hco;obtain⟨c1,c2,c3,c4⟩:=JQ.1 hco;have hg:=(Qm hpo).1;have hlt:c.client.toNat<s.done.length:=(Jua.1 hx).1;have hsq : -1≤(JG s c).seq∧(JG s c).seq≤300:=by rcases X0.1 hdo with h | h <;> omega
 have hdl:(JG s c).tells.length≤2000000:=hs.2.2.2 _ hm;refine JtE (vs:=[.b s.up,.b s.frozen,.i s.round,.l (dL s.base),.l (dL s.added),.l (dDs s.done)]) (VT s hs) rfl rfl rfl ?_;simp only[sC,sN];refine JtP (0≤c.client) rfl c1.1 ?_;refine JtP (c.client<(s.done.length:Int)) (by show decide (c.client<((dDs s.done).length:Int))=_;rw[QC]) (by omega) ?_;refine JtJ (ds:=dDs s.done) (d:=(JG s c).g) (vs:=[.i (JG s c).seq,.i (JG s c).code,.l (dL (JG s c).tells)]) c.client rfl rfl rfl c1.1 (mA1 (f:=Don.g) hx) rfl ?_;simp only[sC,sN];have no:=fun h=>Uq (p:=p) (s:=s) (k:=k) (c:=c) h;have same:=fun h1 h2 h3=>K0 (p:=p) (s:=s) (k:=k) (c:=c) h1 h2 h3;have did:=fun h1 h2 h3 h4 h5=>Jaz (p:=p) (s:=s) (k:=k) (c:=c) h1 h2 h3 h4 h5;have want:=fun h1 h2 h3 h4=>Vf (p:=p) (s:=s) (k:=k) (c:=c) h1 h2 h3 h4;have hloc:=Joh (as:=p.acts) (b:=s.base) (g:=p.gives) (s:=k) (a:=s.added) (k:=c.act) (w:=c.args) hp.1 hp.2.1 hfine;have hll:=JcZ p.acts s.base p.gives k s.added c.act c.args hs.2.1;have elo:KH p.acts s.base p.gives k s.added c.act c.args=Y8 p s k c:=rfl;rw[elo] at hloc hll;have hset :∀r:Ji5,(dDs s.done).set c.client.toNat (.g [dI c.seq,dI r.code,.s (dL r.tells)])=dDs (JdJ s c r).done:=fun r=>by simp only[dDs,JdJ,List.map_set];rfl
 generalize JG s c=x at *;generalize Y8 p s k c=r at *;refine Jt1 s.up rfl (fun a=>Jt0 (by rw[no (.inl (fun q=>by rw[a] at q;cases q.1))];rfl)) (fun a=>?_);refine Jt3 (by show (!decide (((dL p.gives).length:Int)=0))=true;rw[dL1,Bool.not_eq_true',decide_eq_false_iff_not];omega) ?_;refine Jt1 (decide (Int.tmod c.client p.gives.length=k)) (by show (!decide (Int.tmod c.client ((dL p.gives).length:Int)=k))=_;rw[dL1]) (fun b=>Jt0 (by rw[no (.inl (fun q=>by simp[q.2] at b))];rfl)) (fun b=>?_);have b:Int.tmod c.client p.gives.length=k:=by simpa using b
 refine Jty (c.seq<x.seq) rfl (fun e=>Jt0 (by rw[no (.inr ⟨by omega,by omega⟩)];rfl)) (fun e=>?_);refine Jty (x.seq+1<c.seq) (by show decide (i64.wrap (x.seq+1)<c.seq)=_;rw[w64 (by omega) (by omega)]) (fun e2=>Jt0 (by rw[no (.inr ⟨by omega,by omega⟩)];rfl)) (fun e2=>?_);refine Jty (c.seq=x.seq) rfl (fun e3=>?_) (fun e3=>?_)
 ·rw[same a b e3];refine JtE (vs:=[.i x.code,.l (dL x.tells)]) (Qe x.code x.tells hdl) rfl rfl rfl (Jt0 rfl)
 have e4:c.seq=x.seq+1:=by omega
 refine Jt1 s.frozen rfl (fun f=>?_) (fun f=>?_)
 ·refine JtE (Jca p s) rfl rfl rfl ?_;simp only[sC,sN];refine JtE (vs:=[.i r.code,.l (dL r.tells),.l (dL r.adds),.b r.ok]) hloc rfl rfl rfl ?_;simp only[sC,sN];refine JtG r.ok rfl (fun o=>?_) (fun o=>?_)
  ·rw[did a b e4 f o];refine JtE (vs:=[.i r.code,.l (dL r.tells)]) (Qe r.code r.tells hll.1) rfl rfl rfl ?_;simp only[sC,sN];refine JtP (0≤c.client) rfl c1.1 ?_;refine JtP (c.client<(s.done.length:Int)) (by show decide (c.client<((dDs s.done).length:Int))=_;rw[QC]) (by omega) ?_;refine JtJ (ds:=dDs s.done) (d:=x.g) (vs:=[.i x.seq,.i x.code,.l (dL x.tells)]) c.client rfl rfl rfl c1.1 (mA1 (f:=Don.g) hx) rfl (Jt0 ?_);show [dB s.up,dB s.frozen,dI s.round,.s (dL s.base),.s (dL r.adds),.s ((dDs s.done).set c.client.toNat (.g [dI c.seq,dI r.code,.s (dL r.tells)])),dI r.code,.s (dL r.tells),D.s []]=_;rw[hset r];rfl
  ·rw[want a b e4 (.inr o)];refine JtE (vs:=[.i c.client,.i c.seq,.i c.act,.l (dL c.args)]) (JZ c hc) rfl rfl rfl (Jt0 rfl)
 ·rw[want a b e4 (.inl f)];refine JtE (vs:=[.i c.client,.i c.seq,.i c.act,.l (dL c.args)]) (JZ c hc) rfl rfl rfl (Jt0 rfl)
/- What the clerk hears,by the reference: over residual programs. -/
theorem JpN {l:Jg} (h:l.ok=true):Frm.fit l.f:=by
 by_cases h4:l.kind=4
 ·unfold Jg.ok at h;rw[if_neg (by omega),if_neg (by omega),if_neg (by omega)] at h;simp only[Jt9,decide_eq_true_eq] at h;exact⟨by omega,by omega⟩
 ·have:=X2 h h4;simp only[Frm.small,Jt9,Jo] at this;exact⟨by omega,by omega⟩
theorem Zb {p:Pln} (h:Jt p=true):JM p:=by
 have hc:=Xv (Xl h);have hg:=Qm h;have hs:=(Qb h).2.2.1;refine⟨⟨by omega,fun a ha=>?_⟩,by omega,by omega⟩;obtain⟨h1,h2⟩:=KL (hc.2.2 a ha);exact⟨by omega,fun l hl=>JpN (h2 l hl)⟩
theorem Jld {d:Don} (h:Xf d=true):Yn d:=by
 rcases X0.1 h with h | h
 ·unfold Yn;omega
 ·have:=(XW.1 h.2.2).2.1;unfold Yn;omega
theorem JdP {n:Int} {l:List Don} (h:Qi n l=true) (h4:n≤4):Wj Yn l :=
 ⟨by have:=(JT.1 h).1;omega,fun d hd=>Jld ((JT.1 h).2 d hd)⟩
theorem Jiy {p:Pln} {b:List Int} {k:Int} {a:List Int} (h:Xp p b k a=true):a.length=3:=VN (XS.1 h).1
theorem V7 {p:Pln} {s:Sit} {k:Int} (hp:Jt p=true) (h:JW p s k=true):Qu s:=by
 obtain⟨_,h2,h3,h4⟩:=QG.1 h;have hd:=JdP h4 (Qb hp).2.1;have:=(Qg.1 h2).1;have:=Jiy h3;exact⟨by omega,by omega,hd.1,hd.2⟩
theorem Zw {p:Pln} {c:Cal} (h:Jk p c=true):XJ c:=by
 have:=(XX.1 (JQ.1 h).2.2.2).1;unfold XJ;omega
theorem Ux {n:Int} {l:List Int}:Ym n l=true↔(l.length:Int)=n∧∀x∈l,0≤x∧x≤300:=by
 unfold Ym;simp only[Jt9,decide_eq_true_eq,Jum,Jr]
theorem JfV {c:Cal} (h:Zg c=true):c.args.length=0:=by
 unfold Zg at h;simp only[Jt9,decide_eq_true_eq] at h;exact h.2.2.2
structure JrD (p:Pln) (x:Msg):Prop where
 round:0≤x.round∧x.round≤200
 want:x.kind=1→x.to = -1∧Jk p x.call=true
 frz:x.kind=2→0≤x.to∧x.to<p.gives.length
 give:x.kind=3→x.to = -1∧(0≤x.frm∧x.frm<p.gives.length)∧x.vals.length=3∧Ym p.n x.seqs=true
 pact:x.kind=4→(0≤x.to∧x.to<p.gives.length)∧JY x.vals=true∧Qi p.n x.done=true
 kind:1≤x.kind∧x.kind≤4
 fit:ZP x
theorem Y5 {p:Pln} {k:Int}:XQ p k=true↔0≤k∧k<p.gives.length:=by unfold XQ;rw[Jr];omega
theorem JcN {x:Msg} {a v s d:Bool} (h:Yx x a v s d=true):(a=false→x.call.args.length=0)∧(v=false→x.vals.length=0)∧(s=false→x.seqs.length=0)∧(d=false→x.done.length=0):=by
 unfold Yx em at h;simp only[Jt9,Bool.or_eq_true,decide_eq_true_eq] at h;obtain⟨h1,h2,h3,h4⟩:=h;refine⟨fun e=>?_,fun e=>?_,fun e=>?_,fun e=>?_⟩
 ·subst e;exact JfV (h1.resolve_left (by simp))
 ·subst e;exact h2.resolve_left (by simp)
 ·subst e;exact h3.resolve_left (by simp)
 ·subst e;exact h4.resolve_left (by simp)
theorem Vb {p:Pln} {x:Msg} (hp:Jt p=true) (h:JV p x=true):JrD p x:=by
 have hn:=Qb hp;have no :∀{l:List Don},l.length=0→Wj Yn l:=fun h=>by rw[List.length_eq_zero_iff.1 h];exact⟨by simp,fun d hd=>by simp at hd⟩
 unfold JV at h;rw[Jt9,Jr] at h;obtain⟨hr,h⟩:=h;split at h
 ·rename_i k;simp only[Jt9,decide_eq_true_eq] at h;obtain⟨h1,h2,h3,h4,h5⟩:=h;have hb:=JcN h5;exact⟨hr,fun _=>⟨h1,h4⟩,fun e=>by omega,fun e=>by omega,fun e=>by omega,by omega,⟨Zw h4,by have:=hb.2.1 rfl;omega,by have:=hb.2.2.1 rfl;omega,no (hb.2.2.2 rfl)⟩⟩
 split at h
 ·rename_i k1 k;simp only[Jt9,decide_eq_true_eq] at h;obtain⟨h1,h2,h5⟩:=h;have hb:=JcN h5;exact⟨hr,fun e=>by omega,fun _=>Y5.1 h1,fun e=>by omega,fun e=>by omega,by omega,⟨by have:=hb.1 rfl;omega,by have:=hb.2.1 rfl;omega,by have:=hb.2.2.1 rfl;omega,no (hb.2.2.2 rfl)⟩⟩
 split at h
 ·rename_i k1 k2 k;simp only[Jt9,decide_eq_true_eq] at h;obtain⟨h1,h2,h3,h4,h5⟩:=h;have hb:=JcN h5;have hv:=(Jo.1 h3).1;have hq:=(Ux.1 h4).1;exact⟨hr,fun e=>by omega,fun e=>by omega,fun _=>⟨h1,Y5.1 h2,by omega,h4⟩,fun e=>by omega,by omega,⟨by have:=hb.1 rfl;omega,by omega,by omega,no (hb.2.2.2 rfl)⟩⟩
 split at h
 ·rename_i k1 k2 k3 k;simp only[Jt9,decide_eq_true_eq] at h;obtain⟨h1,h2,h3,h4,h5⟩:=h;have hb:=JcN h5;have hv:=(Qg.1 h3).1;exact⟨hr,fun e=>by omega,fun e=>by omega,fun e=>by omega,fun _=>⟨Y5.1 h1,h3,h4⟩,by omega,⟨by have:=hb.1 rfl;omega,by omega,by have:=hb.2.2.1 rfl;omega,JdP h4 hn.2.1⟩⟩
 ·cases h
def Asc (l:List Cal):Prop:=l.Pairwise fun a b=>a.client<b.client
theorem JfE {p:Pln} {l:List Cal}:Q4 l.length (Wm p l)=true↔(∀x∈l,Jk p x=true)∧Asc l:=by
 rw[Y1];constructor
 ·intro h;have h1 :∀(j:Nat) (x:Cal),l[j]? = some x→Jk p x=true∧(0<j→(l.getD (j-1) ⟨0,0,0,[]⟩).client<x.client):=fun j x hx=>by
   have:=h j (Jua.1 hx).1;rw[JdL hx,Jt9,Bool.or_eq_true,decide_eq_true_eq,decide_eq_true_eq] at this;exact⟨this.1,fun hj=>this.2.resolve_left (by omega)⟩
  refine⟨fun x hx=>?_,?_⟩
  ·obtain⟨j,hj⟩:=List.getElem?_of_mem hx;exact(h1 j x hj).1
  ·have step :∀(d i:Nat) (a b:Cal),l[i]? = some a→l[i+d+1]? = some b→a.client<b.client:=by
    intro d
    induction d with
    | zero =>
     intro i a b ha hb;have:=(h1 _ _ hb).2 (by omega);rw[show i+0+1-1=i by omega,QA ha] at this;exact this
    | succ d ih =>
     intro i a b ha hb;have hl:=(Jua.1 hb).1;obtain⟨y,hy,_⟩:=sA1 (l:=l) (i:=i+d+1) (by omega);have h2:=ih i a y ha hy;have h3:=(h1 _ _ hb).2 (by omega);rw[show i+(d+1)+1-1=i+d+1 by omega,QA hy] at h3;omega
   unfold Asc;rw[List.pairwise_iff_getElem];intro i j hi hj hij;exact step (j-i-1) i _ _ (Juk hi) (by rw[show i+(j-i-1)+1=j by omega];exact Juk hj)
 ·rintro⟨h1,h2⟩ j hj;obtain⟨x,hx,hm⟩:=sA1 hj;rw[JdL hx,h1 x hm,Jut,Bool.or_eq_true,decide_eq_true_eq,decide_eq_true_eq]
  by_cases h0:j=0
  ·exact .inl h0
  ·right;obtain⟨y,hy,_⟩:=sA1 (l:=l) (i:=j-1) (by omega);rw[QA hy];unfold Asc at h2;rw[List.pairwise_iff_getElem] at h2;obtain⟨hi1,rfl⟩:=Jua.1 hx;obtain⟨hi2,rfl⟩:=Jua.1 hy;exact h2 _ _ _ _ (by omega)
theorem Jqh {l:List Cal} (h:Asc l) :∀(a b:Int),(∀x∈l,a≤x.client∧x.client≤b)→(l.length:Int)≤b-a+1∨l=[]:=by
 induction l with
 | nil=>intro a b _;exact .inr rfl
 | cons x l ih =>
  intro a b hb;left;rw[Asc,List.pairwise_cons] at h;have hx:=hb x (List.mem_cons_self ..);rcases ih h.2 (x.client+1) b (fun y hy=>⟨by have:=h.1 y hy;omega,(hb y (List.mem_cons_of_mem _ hy)).2⟩) with q | q
  ·simp only[List.length_cons];omega
  ·subst q;simp only[List.length_cons,List.length_nil];omega
theorem JbD {p:Pln} {l:List Cal} (hp:Jt p=true) (h :∀x∈l,Jk p x=true) (ha:Asc l):l.length≤4:=by
 have hn:=Qb hp;rcases Jqh ha 0 (p.n-1) (fun x hx=>(JQ.1 (h x hx)).1) with q | q
 ·omega
 ·subst q;simp
def Yv (x:Cal):List Cal→List Cal
 | []=>[x]
 | y::l=>if x.client≤y.client then(if y.client=x.client then(if x.seq<y.seq then y::l else x::l) else x::y::l) else y::Yv x l
theorem Jfk {x z:Cal} {l:List Cal} (h:z∈Yv x l):z=x∨z∈l:=by
 induction l with
 | nil=>simp only[Yv,Jur] at h;exact .inl h
 | cons y l ih =>
  unfold Yv at h;split at h
  ·split at h
   ·split at h
    ·exact .inr h
    ·rcases Jus.1 h with q | q
     ·exact .inl q
     ·exact .inr (List.mem_cons_of_mem _ q)
   ·rcases Jus.1 h with q | q
    ·exact .inl q
    ·exact .inr q
  ·rcases Jus.1 h with q | q
   ·exact .inr (by rw[q];exact List.mem_cons_self ..)
   ·rcases ih q with q | q
    ·exact .inl q
    ·exact .inr (List.mem_cons_of_mem _ q)
theorem JmE {x:Cal} {l:List Cal} (h:Asc l):Asc (Yv x l):=by
 induction l with
 | nil=>simp[Yv,Asc]
 | cons y l ih =>
  rw[Asc,List.pairwise_cons] at h;unfold Yv;split
  ·split
   ·split
    ·exact List.pairwise_cons.2 h
    ·rename_i e _;exact List.pairwise_cons.2 ⟨fun z hz=>by have:=h.1 z hz;omega,h.2⟩
   ·rename_i e1 e2;refine List.pairwise_cons.2 ⟨fun z hz=>?_,List.pairwise_cons.2 h⟩;rcases Jus.1 hz with q | q
    ·subst q;omega
    ·have:=h.1 z q;omega
  ·rename_i e;refine List.pairwise_cons.2 ⟨fun z hz=>?_,ih h.2⟩;rcases Jfk hz with q | q
   ·subst q;omega
   ·exact h.1 z q
theorem JoS (l:List Cal) (x:Cal):dCs l++[x.g]=dCs (l++[x]):=by simp[dCs]
theorem JjH {x y:Cal} {l:List Cal} (h:x.client≤y.client):Yv x (y::l)=if y.client=x.client then(if x.seq<y.seq then y::l else x::l) else x::y::l:=by rw[Yv,if_pos h]
theorem Jm6 (l:List Cal) (x:Cal) (hl:Wj XJ l) (hx:XJ x):Ev L f_k2i ([.s (dCs l)]++x.cells) [.s (dCs (Yv x l))]:=by
 refine Jt7 (vs:=[.l (dCs l),.i x.client,.i x.seq,.i x.act,.l (dL x.args)]) L_k2i rfl ?_;have hl0:=hl.1;refine JtW l.length (fun i vs=>∃ (out:List Cal) (b:Bool),vs=[.l (dCs out),.b b,.i i]∧out.length≤i+1∧(if b then out++l.drop i=Yv x l else out=l.take i∧Yv x l=l.take i++Yv x (l.drop i))) rfl ⟨[],false,rfl,by simp,by simp⟩ ?_;rintro i vs hi ⟨out,b,rfl,hol,hq⟩;simp only[sC,sN];have app :∀y:Cal,dCs out++[.g [dI y.client,dI y.seq,dI y.act,.s (dL y.args)]]=dCs (out++[y]):=fun y=>JoS out y;have app2 :∀y z:Cal,dCs out++[.g [dI y.client,dI y.seq,dI y.act,.s (dL y.args)]]++[.g [dI z.client,dI z.seq,dI z.act,.s (dL z.args)]]=dCs (out++[y,z]):=fun y z=>by simp[dCs,Cal.g,Cal.cells]
 refine JtT i (Yj l) rfl (fun h'=>?_) (fun h'=>JtA ?_)
 ·obtain⟨y,hy,hm⟩:=sA1 h';have hyf:=hl.2 y hm;have hdr:l.drop i=y::l.drop (i+1):=Xx hy;have htk:=tS1 hy;have hw:=wS h' (by omega);have ix :∀{r:R} {vs:List V} {n:Nat} {Q:Oc→Prop},n=vs.length→lst (Jn vs) (.v 0)=dCs l→int (Jn vs) (.v 7)=i→WR L r (vs++[.i y.client,.i y.seq,.i y.act,.l (dL y.args)]) Q→WR L (.i (.idx (.v 0) (.v 7) (.g [.i .i64,.i .i64,.i .i64,.s]) n) r) vs Q:=fun hn h0 h7 h =>
   JtY (vs:=[.i y.client,.i y.seq,.i y.act,.l (dL y.args)]) i (mA1 (f:=Cal.g) hy) hn h0 h7 rfl h
  have ca :∀{r:R} {vs:List V} {e:E} {Q:Oc→Prop},lst (Jn vs) (.v 5)=dCs out→WR L r vs Q→WR L (.i (.chk (.cmp .le (.len (.app (.v 5) (.cons e .nil))) (.z 1466015503701))) r) vs Q:=fun h5 h =>
   JtR (dCs out) 2000001 (by rw[Yj];omega) (by omega) h5 h
  have ca2 :∀{r:R} {vs:List V} {e e2:E} {Q:Oc→Prop},lst (Jn vs) (.v 5)=dCs out→WR L r vs Q→WR L (.i (.chk (.cmp .le (.len (.app (.app (.v 5) (.cons e .nil)) (.cons e2 .nil))) (.z 1466015503701))) r) vs Q:=fun {_ vs e _ _} h5 h =>
   JtR (dCs out++[dat (Jn vs) e]) 2000002 (by rw[Juf,Yj];simp;omega) (by omega) (by show lst (Jn vs) (.v 5)++[dat (Jn vs) e]=_;rw[h5]) h
  cases b with
  | true =>
   refine JtN rfl (ix rfl rfl rfl ?_);simp only[sC,sN];refine ca rfl ?_;refine JtK (vs:=[.l (dCs (out++[y])),.b true,.i ((i+1:Nat):Int)]) ?_ ⟨h',out++[y],true,rfl,by simp;omega,?_⟩
   ·rw[←app y,←hw];rfl
   ·simp only[if_true] at hq ⊢;rw[←hq,hdr];simp
  | false =>
   simp only[Jup,if_false] at hq;obtain⟨rfl,hq⟩:=hq;rw[hdr] at hq;refine JtZ rfl (ix rfl rfl rfl ?_);simp only[sC,sN];refine Jty (x.client≤y.client) rfl (fun hle=>?_) (fun hle=>?_)
   ·rw[JjH hle] at hq;have fin2 :∀o2:List Cal,o2++l.drop (i+1)=Yv x l→o2.length≤i+2→∃ (o3:List Cal) (b:Bool),[V.l (dCs o2),.b true,.i ((i+1:Nat):Int)]=[V.l (dCs o3),.b b,.i ((i+1:Nat):Int)]∧o3.length≤i+1+1∧(if b then o3++l.drop (i+1)=Yv x l else o3=l.take (i+1)∧Yv x l=l.take (i+1)++Yv x (l.drop (i+1))) :=
     fun o2 h1 h2=>⟨o2,true,rfl,by omega,by simpa using h1⟩
    refine ix rfl rfl rfl ?_;simp only[sC,sN];refine Jty (y.client=x.client) rfl (fun he=>?_) (fun he=>?_)
    ·rw[if_pos he] at hq;refine ix rfl rfl rfl ?_;simp only[sC,sN];refine Jty (x.seq<y.seq) rfl (fun hs=>?_) (fun hs=>?_)
     ·rw[if_pos hs] at hq;refine ix rfl rfl rfl (ca rfl (ix rfl rfl rfl ?_));simp only[sC,sN];refine JtZ (by show decide (y.client=x.client)=true;exact decide_eq_true he) ?_;refine JtK (vs:=[.l (dCs (l.take i++[y])),.b true,.i ((i+1:Nat):Int)]) ?_ ⟨h',fin2 _ (by rw[hq];simp) (by simp;omega)⟩;rw[←app y,←hw];rfl
     ·rw[if_neg hs] at hq;refine JtE (vs:=[.i x.client,.i x.seq,.i x.act,.l (dL x.args)]) (JZ x hx) rfl rfl rfl ?_;simp only[sC,sN];refine ca rfl (ix rfl rfl rfl ?_);simp only[sC,sN];refine JtZ (by show decide (y.client=x.client)=true;exact decide_eq_true he) ?_;refine JtK (vs:=[.l (dCs (l.take i++[x])),.b true,.i ((i+1:Nat):Int)]) ?_ ⟨h',fin2 _ (by rw[hq];simp) (by simp;omega)⟩;rw[←app x,←hw];rfl
    ·rw[if_neg he] at hq;refine JtE (vs:=[.i x.client,.i x.seq,.i x.act,.l (dL x.args)]) (JZ x hx) rfl rfl rfl ?_;simp only[sC,sN];refine ca rfl (ix rfl rfl rfl ?_);simp only[sC,sN];refine JtN (by show decide (y.client=x.client)=false;exact decide_eq_false he) ?_;refine ix rfl rfl rfl (ca2 rfl ?_);simp only[sC,sN];refine JtK (vs:=[.l (dCs (l.take i++[x,y])),.b true,.i ((i+1:Nat):Int)]) ?_ ⟨h',fin2 _ (by rw[hq];simp) (by simp;omega)⟩;rw[←app2 x y,←hw];rfl
   ·refine ix rfl rfl rfl (ca rfl ?_);simp only[sC,sN];refine JtK (vs:=[.l (dCs (l.take i++[y])),.b false,.i ((i+1:Nat):Int)]) ?_ ⟨h',l.take i++[y],false,rfl,by simp;omega,?_⟩
    ·rw[←app y,←hw];rfl
    ·simp only[Jup,if_false];rw[htk];refine⟨rfl,?_⟩;rw[hq,Yv,if_neg hle];simp
 ·have hd:l.drop i=[]:=List.drop_eq_nil_of_le (by omega);cases b with
  | true =>
   simp only[if_true,hd,List.append_nil] at hq;subst hq;exact JtN rfl (Jt0 rfl)
  | false =>
   simp only[Jup,if_false,hd] at hq;obtain⟨rfl,hq⟩:=hq;refine JtZ rfl (JtE (vs:=[.i x.client,.i x.seq,.i x.act,.l (dL x.args)]) (JZ x hx) rfl rfl rfl ?_);simp only[sC,sN];refine JtR (dCs (l.take i)) 2000001 (by rw[Yj];omega) (by omega) rfl (Jt0 ?_);show [D.s (dCs (l.take i)++[.g [dI x.client,dI x.seq,dI x.act,.s (dL x.args)]])]=_;rw[app x,hq];rfl
end Go.Proofs.YtngcnclchcahlaaGreatDoor

import Derived.Test.YtofcmnglieaoeabGreatDoorPZZ
import Derived.Test.YtofcmnglieaoeabGreatDoorPZR
set_option linter.unusedVariables false
set_option linter.unusedSimpArgs false
/- The program's ClkFall answers as the reference's: over residual programs. -/
namespace Go.Proofs.YtofcmnglieaoeabGreatDoor
open Go Go.Tm
open Go.IntKind (i64)
theorem J0 (x:Cal) (h:x.args.length≤2000000):Ev L f_k1v x.cells x.cells:=by
 refine JuM (vs:=[.i x.client,.i x.seq,.i x.act,.l (dL x.args)]) L_k1v rfl ?_;refine Jue (dL x.args) 2000000 (by rw[dL1];omega) (by omega) rfl ?_;refine Juu (JV x.args) ?_;exact Jue (dL x.args) 2000000 (by rw[dL1];omega) (by omega) rfl (JuC rfl)
theorem ZH (c:Clk) (hc:QV c):Ev L f_k1w c.cells c.cells:=by
 refine JuM (vs:=[.b c.up,.i c.round,.l (dL c.base),.l (dDs c.done),.l (dCs c.wants),.l (dGs c.got)]) L_k1w rfl ?_;have h1:=hc.b;have h2:=hc.c;have h3:=hc.g;refine Jue (dL c.base) 2000000 (by rw[dL1];omega) (by omega) rfl ?_;refine Juu (JV c.base) ?_;refine Jue (dL c.base) 2000000 (by rw[dL1];omega) (by omega) rfl ?_;refine Juc (vs:=[.l (dDs c.done)]) (Zj c.done ⟨hc.d,hc.dt⟩) rfl rfl rfl ?_;simp only[sC,sN];refine Jut c.wants.length (fun i=>[.l (dCs (c.wants.take i)),.i i]) (fun _=>True) rfl rfl trivial fun i hi _=>?_;simp only[sC,sN];refine JuF i (Xr c.wants) rfl (fun h=>?_) (fun h=>JuJ ?_)
 ·obtain⟨x,hx,hm⟩:=sA1 h;refine Jud (vs:=[.i x.client,.i x.seq,.i x.act,.l (dL x.args)]) i (mA1 (f:=Cal.g) hx) rfl rfl rfl rfl ?_;simp only[sC,sN];refine Juc (vs:=[.i x.client,.i x.seq,.i x.act,.l (dL x.args)]) (J0 x (hc.ct x hm)) rfl rfl rfl ?_;simp only[sC,sN];refine Jug (dCs (c.wants.take i)) 2000000 (by rw[Xr,Ju6];omega) (by omega) rfl ?_;refine JuK (vs:=[.l (dCs (c.wants.take (i+1))),.i ((i+1:Nat):Int)]) ?_ ⟨h,rfl,trivial⟩;show [V.l (dCs (c.wants.take i)++[x.g]),V.i (i64.wrap ((i:Int)+1))]=_;rw[wS h (by omega),tS1 hx];simp only[dCs,List.map_append,JuZ,List.map_nil]
 rw[tA1 h];refine Jut c.got.length (fun i=>[.l (dGs (c.got.take i)),.i i]) (fun _=>True) rfl rfl trivial fun j hj _=>?_;simp only[sC,sN];refine JuF j (XC c.got) rfl (fun h=>?_) (fun h=>JuJ (JuC ?_))
 ·obtain⟨x,hx,hm⟩:=sA1 h;have hg:(dGs c.got)[j]? = some x.g:=mA1 (f:=Got.g) hx;have hx1:=hc.gt x hm;have ha:(dL x.added).length≤2000000:=by rw[dL1];exact hx1.1
  have hs:(dL x.seqs).length≤2000000:=by rw[dL1];exact hx1.2
  refine Jud (vs:=[.b x.has,.l (dL x.added),.l (dL x.seqs)]) j hg rfl rfl rfl rfl ?_;simp only[sC,sN];refine Jud (vs:=[.b x.has,.l (dL x.added),.l (dL x.seqs)]) j hg rfl rfl rfl rfl ?_;simp only[sC,sN];refine Jue (dL x.added) 2000000 ha (by omega) rfl ?_;refine Juu (JV x.added) ?_;refine Jue (dL x.added) 2000000 ha (by omega) rfl ?_;refine Jud (vs:=[.b x.has,.l (dL x.added),.l (dL x.seqs)]) j hg rfl rfl rfl rfl ?_;simp only[sC,sN];refine Jue (dL x.seqs) 2000000 hs (by omega) rfl ?_;refine Juu (JV x.seqs) ?_;refine Jue (dL x.seqs) 2000000 hs (by omega) rfl ?_;refine Jug (dGs (c.got.take j)) 2000000 (by rw[XC,Ju6];omega) (by omega) rfl ?_;refine JuK (vs:=[.l (dGs (c.got.take (j+1))),.i ((j+1:Nat):Int)]) ?_ ⟨h,rfl,trivial⟩;show [V.l (dGs (c.got.take j)++[x.g]),V.i (i64.wrap ((j:Int)+1))]=_;rw[wS h (by omega),tS1 hx];simp only[dGs,List.map_append,JuZ,List.map_nil]
 ·rw[tA1 h];rfl
def Kx (c:Clk) (u:Bool):Clk:=if c.up=u then c else ⟨u,c.round,c.base,c.done,[],List.replicate c.got.length Q7⟩
theorem JmA (p:Pln) (c:Clk) (u:Bool) (hp:JR p) (hc:QV c) (hl:c.got.length=p.gives.length):Ev L f_k2s (p.cells++c.cells++[dB u]) (Kx c u).cells:=by
 refine JuM (vs:=[.i p.n,.l (Jc p.acts),.l (dL p.gives),.l (dL p.start),.b c.up,.i c.round,.l (dL c.base),.l (dDs c.done),.l (dCs c.wants),.l (dGs c.got),.b u]) L_k2s rfl ?_;refine Juc (vs:=[.b c.up,.i c.round,.l (dL c.base),.l (dDs c.done),.l (dCs c.wants),.l (dGs c.got)]) (ZH c hc) rfl rfl rfl ?_;simp only[sC,sN];refine JuE (u == c.up) rfl (fun h=>?_) (fun h=>JuC ?_)
 ·refine Juc (Jbi p hp.2.1) rfl rfl rfl (JuC ?_);have h : ¬c.up=u:=fun e=>by rw[e] at h;simp at h
  show _=(Kx c u).cells;unfold Kx;rw[if_neg h,hl];rfl
 ·have h:u=c.up:=by simpa using h
  show _=(Kx c u).cells;unfold Kx;rw[if_pos h.symm,h];rfl
/- The program's SitHear answers as the reference's: over residual programs. -/
def UK (g:Nat) (k:Int) (i:Nat) (x y:Don):Don:=if Int.tmod (i:Int) (g:Int)=k∧x.seq<y.seq then y else x
def XZ (g:Nat) (k:Int) (sd md:List Don) (n:Nat):List Don:=sd.mapIdx fun j x=>if j<n then UK g k j x (md.getD j We) else x
theorem K6 (g:Nat) (k:Int) (sd md:List Don) (n:Nat):(XZ g k sd md n).length=sd.length:=by simp[XZ]
theorem Jpz (g:Nat) (k:Int) (sd md:List Don):XZ g k sd md 0=sd:=by
 apply List.ext_getElem?;intro j;simp only[XZ,List.getElem?_mapIdx];cases sd[j]? <;> simp
theorem Jht {g:Nat} {k:Int} {sd md:List Don} {i:Nat} {x:Don} (h:sd[i]? = some x):(XZ g k sd md i)[i]? = some x:=by
 simp[XZ,List.getElem?_mapIdx,h]
theorem JfN {g:Nat} {k:Int} {sd md:List Don} {i:Nat} {x y:Don} (h:sd[i]? = some x) (hy:md[i]? = some y):(XZ g k sd md i).set i (UK g k i x y)=XZ g k sd md (i+1):=by
 apply List.ext_getElem?;intro j;have hl:i<sd.length:=(JuS.1 h).1
 by_cases hj:i=j
 ·subst hj;rw[List.getElem?_set_self (by rw[K6];exact hl)];have e:md.getD i We=y:=Qi hy;simp only[XZ,List.getElem?_mapIdx,h,JuT,e,show i<i+1 by omega,if_true]
 ·rw[List.getElem?_set_ne hj];simp only[XZ,List.getElem?_mapIdx];cases sd[j]? with
  | none=>rfl
  | some z =>
   simp only[JuT]
   by_cases h1:j<i
   ·rw[if_pos h1,if_pos (show j<i+1 by omega)]
   ·rw[if_neg h1,if_neg (show ¬j<i+1 by omega)]
theorem Jjz {g:Nat} {k:Int} {sd md:List Don} {i:Nat} {x y:Don} (h:sd[i]? = some x) (hy:md[i]? = some y) (hp : ¬(Int.tmod (i:Int) (g:Int)=k∧x.seq<y.seq)):XZ g k sd md i=XZ g k sd md (i+1):=by
 rw[←JfN h hy];have e:UK g k i x y=x:=by unfold UK;rw[if_neg hp]
 rw[e];apply List.ext_getElem?;intro j;have hl:i<sd.length:=(JuS.1 h).1
 by_cases hj:i=j
 ·subst hj;rw[List.getElem?_set_self (by rw[K6];exact hl)];exact Jht h
 ·rw[List.getElem?_set_ne hj]
theorem Jm5 {g:Nat} {k:Int} {sd md:List Don} {n:Nat} (hl:md.length=sd.length) {d:Don} (h:d∈XZ g k sd md n):d∈sd∨d∈md:=by
 obtain⟨j,hj⟩:=List.getElem?_of_mem h;simp only[XZ,List.getElem?_mapIdx] at hj;cases hx:sd[j]? with
 | none=>rw[hx] at hj;simp at hj
 | some x =>
  have hjl:j<md.length:=by rw[hl];exact(JuS.1 hx).1
  have hyy:md[j]? = some md[j]:=Ju2 hjl;rw[hx] at hj;simp only[JuT,JuQ,Qi hyy] at hj;have mx:x∈sd:=JuY hx;have my:md[j]∈md:=List.getElem_mem hjl;split at hj
  ·unfold UK at hj;split at hj
   ·subst hj;exact .inr my
   ·subst hj;exact .inl mx
  ·subst hj;exact .inl mx
def Ka (l:List Don):List Int:=l.map fun d=>d.seq
def Jfz (s:Sit) (k:Int):Msg:=⟨3,-1,k,s.round,⟨0,0,0,[]⟩,s.added,Ka s.done,[]⟩
def U4 (p:Pln) (s:Sit) (k:Int) (m:Msg):Sit :=
 if s.up=true∧m.to=k then
  if m.kind=2∧m.round=s.round then ⟨s.up,true,s.round,s.base,s.added,s.done⟩
  else if m.kind=4∧s.round<m.round then ⟨s.up,false,m.round,m.vals,[0,0,0],XZ p.gives.length k s.done m.done s.done.length⟩
  else s
 else s
def K4 (s:Sit) (k:Int) (m:Msg):List Msg:=if s.up=true∧m.to=k∧m.kind=2∧m.round=s.round then [Jfz s k] else []
theorem JdK (s:Sit) (k:Int) (hs:KF s):Ev L f_k2g (s.cells++[dI k]) (Jfz s k).cells:=by
 refine JuM (vs:=[.b s.up,.b s.frozen,.i s.round,.l (dL s.base),.l (dL s.added),.l (dDs s.done),.i k]) L_k2g rfl ?_;have h2:=hs.2.1;have h3:=hs.2.2.1;refine Jue (dL s.added) 2000000 (by rw[dL1];omega) (by omega) rfl ?_;refine Juu (JV s.added) ?_;refine Jue (dL s.added) 2000000 (by rw[dL1];omega) (by omega) rfl ?_;refine Jut s.done.length (fun i=>[.l (dL (Ka (s.done.take i))),.i i]) (fun _=>True) rfl rfl trivial fun i hi _=>?_;simp only[sC,sN];refine JuF i (Xj s.done) rfl (fun h=>?_) (fun h=>JuJ (JuC ?_))
 ·obtain⟨x,hx,hm⟩:=sA1 h;refine Jud (vs:=[.i x.seq,.i x.code,.l (dL x.tells)]) i (mA1 (f:=Don.g) hx) rfl rfl rfl rfl ?_;simp only[sC,sN];refine Jug (dL (Ka (s.done.take i))) 2000000 (by rw[dL1];simp only[Ka,Ju0,Ju6];omega) (by omega) rfl ?_;refine JuK (vs:=[.l (dL (Ka (s.done.take (i+1)))),.i ((i+1:Nat):Int)]) ?_ ⟨h,rfl,trivial⟩;show [V.l (dL (Ka (s.done.take i))++[dI x.seq]),V.i (i64.wrap ((i:Int)+1))]=_;rw[wS h (by omega),tS1 hx];simp only[dL,Ka,List.map_append,JuZ,List.map_nil]
 ·rw[tA1 h];rfl
theorem JgQ {p:Pln} {s:Sit} {k:Int} {m:Msg} (h : ¬(s.up=true∧m.to=k)∨(¬(m.kind=2∧m.round=s.round)∧¬(m.kind=4∧s.round<m.round))):U4 p s k m=s∧K4 s k m=[]:=by
 unfold U4 K4;rcases h with h | ⟨h1,h2⟩
 ·rw[if_neg h,if_neg (fun q=>h ⟨q.1,q.2.1⟩)];exact⟨rfl,rfl⟩
 ·have h3 : ¬(s.up=true∧m.to=k∧m.kind=2∧m.round=s.round):=fun q=>h1 q.2.2;rw[if_neg h1,if_neg h2,if_neg h3];simp
theorem JqX {p:Pln} {s:Sit} {k:Int} {m:Msg} (h1:s.up=true) (h2:m.to=k) (h3:m.kind=2) (h4:m.round=s.round):U4 p s k m=⟨s.up,true,s.round,s.base,s.added,s.done⟩∧K4 s k m=[Jfz s k]:=by
 unfold U4 K4;rw[if_pos ⟨h1,h2⟩,if_pos ⟨h3,h4⟩,if_pos ⟨h1,h2,h3,h4⟩];exact⟨rfl,rfl⟩
theorem Jq0 {p:Pln} {s:Sit} {k:Int} {m:Msg} (h1:s.up=true) (h2:m.to=k) (h3:m.kind=4) (h4:s.round<m.round):U4 p s k m=⟨s.up,false,m.round,m.vals,[0,0,0],XZ p.gives.length k s.done m.done s.done.length⟩∧K4 s k m=[]:=by
 unfold U4 K4;rw[if_pos ⟨h1,h2⟩,if_neg (fun q=>by omega),if_pos ⟨h3,h4⟩,if_neg (fun q=>by omega)];exact⟨rfl,rfl⟩
theorem Jhg {α:Type} {l:List α} {i:Nat} {x:α} (h:l[i]? = some x):l.set i x=l:=by
 apply List.ext_getElem?;intro j;have hl:i<l.length:=(JuS.1 h).1
 by_cases hj:i=j
 ·subst hj;rw[List.getElem?_set_self hl,h]
 ·rw[List.getElem?_set_ne hj]
theorem JmH (p:Pln) (s:Sit) (k:Int) (m:Msg) (hs:KF s) (hm:Zb m) (hg:0<p.gives.length) (hdone:m.kind=4→m.done.length=s.done.length) :
  Ev L f_k2h (p.cells++s.cells++[dI k]++m.cells) ((U4 p s k m).cells++[.s (dMs (K4 s k m))]):=by
 refine JuM (vs:=[.i p.n,.l (Jc p.acts),.l (dL p.gives),.l (dL p.start),.b s.up,.b s.frozen,.i s.round,.l (dL s.base),.l (dL s.added),.l (dDs s.done),.i k,.i m.kind,.i m.to,.i m.frm,.i m.round,.i m.call.client,.i m.call.seq,.i m.call.act,.l (dL m.call.args),.l (dL m.vals),.l (dL m.seqs),.l (dDs m.done)]) L_k2h rfl ?_;refine Juc (vs:=[.b s.up,.b s.frozen,.i s.round,.l (dL s.base),.l (dL s.added),.l (dDs s.done)]) (Ja1 s hs) rfl rfl rfl ?_;simp only[sC,sN];refine JuE s.up rfl (fun a=>JuC (by obtain⟨e1,e2⟩:=JgQ (p:=p) (s:=s) (k:=k) (m:=m) (by exact .inl (fun q=>by rw[a] at q;cases q.1));rw[e1,e2];rfl)) (fun a=>?_);refine JuE (decide (m.to=k)) rfl (fun b=>JuC (by obtain⟨e1,e2⟩:=JgQ (p:=p) (s:=s) (k:=k) (m:=m) (by exact .inl (fun q=>by simp[q.2] at b));rw[e1,e2];rfl)) (fun b=>?_);have b:m.to=k:=by simpa using b
 have hno :∀q:(¬(m.kind=2∧m.round=s.round)∧¬(m.kind=4∧s.round<m.round)),U4 p s k m=s∧K4 s k m=[]:=fun q=>JgQ (.inr q);refine JuB (m.kind=2) rfl (fun d=>?_) (fun d=>?_)
 ·refine JuB (m.round=s.round) rfl (fun e=>?_) (fun e=>?_)
  ·obtain⟨e1,e2⟩:=JqX (p:=p) (s:=s) (k:=k) (m:=m) a b d e;rw[e1,e2];have hv:=JdK ⟨s.up,true,s.round,s.base,s.added,s.done⟩ k hs;refine Juc (vs:=[.i 3,.i (-1),.i k,.i s.round,.i 0,.i 0,.i 0,.l (dL []),.l (dL s.added),.l (dL (Ka s.done)),.l (dDs [])]) hv rfl rfl rfl (JuC ?_);rfl
  ·refine JuB (m.kind=4) rfl (fun f=>absurd f (by omega)) (fun f=>JuC ?_);obtain⟨e1,e2⟩:=hno ⟨fun q=>e q.2,fun q=>f q.1⟩;rw[e1,e2];rfl
 ·refine JuB (m.kind=4) rfl (fun f=>?_) (fun f=>JuC ?_)
  ·refine JuB (s.round<m.round) rfl (fun e=>?_) (fun e=>JuC ?_)
   ·obtain⟨e1,e2⟩:=Jq0 (p:=p) (s:=s) (k:=k) (m:=m) a b f e;rw[e1,e2];have hd:=hdone f;have hsl:=hs.2.2.1;have hvl:(dL m.vals).length≤2000000:=by rw[dL1];exact hm.2.1
    refine Jue (dL m.vals) 2000000 hvl (by omega) rfl ?_;refine Juu (JV m.vals) ?_;refine Jue (dL m.vals) 2000000 hvl (by omega) rfl ?_;refine Jut s.done.length (fun i=>[.l (dDs (XZ p.gives.length k s.done m.done i)),.i i]) (fun _=>True) rfl (by rw[Jpz];rfl) trivial fun i hi _=>?_;simp only[sC,sN];refine JuF i (show (dDs (XZ p.gives.length k s.done m.done i)).length=s.done.length by rw[Xj,K6]) rfl (fun h=>?_) (fun h=>JuJ (JuC ?_))
    ·obtain⟨x,hx,hxm⟩:=sA1 h;obtain⟨y,hy,hym⟩:=sA1 (l:=m.done) (i:=i) (by omega);have hyg:(dDs m.done)[i]? = some y.g:=mA1 (f:=Don.g) hy;have hxg:(dDs (XZ p.gives.length k s.done m.done i))[i]? = some x.g:=mA1 (f:=Don.g) (Jht hx);have hlt:i<(dDs (XZ p.gives.length k s.done m.done i)).length:=by rw[Xj,K6];exact h
     have hset:=JfN (g:=p.gives.length) (k:=k) hx hy;have hsame:=Jjz (g:=p.gives.length) (k:=k) hx hy;have hsd:(dDs (XZ p.gives.length k s.done m.done i)).set i (UK p.gives.length k i x y).g=dDs (XZ p.gives.length k s.done m.done (i+1)):=by rw[←hset];simp only[dDs,List.map_set]
     refine Jud (vs:=[.i y.seq,.i y.code,.l (dL y.tells)]) i hyg rfl rfl rfl rfl ?_;simp only[sC,sN];generalize dDs (XZ p.gives.length k s.done m.done i)=es at *;refine Juq (vs:=[.i x.seq,.i x.code,.l (dL x.tells)]) (ds:=es) i hxg rfl rfl rfl rfl rfl rfl ?_;simp only[sC,sN];have hw:i64.wrap ((i:Int)+1)=((i+1:Nat):Int):=wS h (by omega);refine JuB (x.seq<y.seq) rfl (fun u=>?_) (fun u=>?_)
     ·refine Jun (by show (!decide (((dL p.gives).length:Int)=0))=true;rw[dL1,Bool.not_eq_true',decide_eq_false_iff_not];omega) ?_;refine JuB (Int.tmod (i:Int) (p.gives.length:Int)=k) (by show decide (Int.tmod (i:Int) ((dL p.gives).length:Int)=k)=_;rw[dL1]) (fun v=>?_) (fun v=>?_)
      ·refine Jud (vs:=[.i y.seq,.i y.code,.l (dL y.tells)]) i hyg rfl rfl rfl rfl ?_;simp only[sC,sN];refine Jud (vs:=[.i y.seq,.i y.code,.l (dL y.tells)]) i hyg rfl rfl rfl rfl ?_;simp only[sC,sN];refine Juc (vs:=[.i y.code,.l (dL y.tells)]) (Qc y.code y.tells (hm.2.2.2.2 y hym)) rfl rfl rfl ?_;simp only[sC,sN];refine Juq (vs:=[.i x.seq,.i x.code,.l (dL x.tells)]) (ds:=es) i hxg rfl rfl rfl rfl rfl rfl ?_;refine JuK ?_ ⟨h,rfl,trivial⟩;have e5:UK p.gives.length k i x y=y:=by unfold UK;rw[if_pos ⟨v,u⟩]
       rw[e5] at hsd;show [V.l (es.set i y.g),V.i (i64.wrap ((i:Int)+1))]=_;rw[hsd,hw]
      ·refine JuK ?_ ⟨h,rfl,trivial⟩;show [V.l es,V.i (i64.wrap ((i:Int)+1))]=_;have e5:UK p.gives.length k i x y=x:=by unfold UK;rw[if_neg (fun q=>v q.1)]
       rw[e5,Jhg hxg] at hsd;rw[hsd,hw]
     ·refine JuK ?_ ⟨h,rfl,trivial⟩;show [V.l es,V.i (i64.wrap ((i:Int)+1))]=_;have e5:UK p.gives.length k i x y=x:=by unfold UK;rw[if_neg (fun q=>u q.2)]
      rw[e5,Jhg hxg] at hsd;rw[hsd,hw]
    ·rw[show i=s.done.length by omega];rfl
   ·obtain⟨e1,e2⟩:=hno ⟨fun q=>d q.1,fun q=>e q.2⟩;rw[e1,e2];rfl
  ·obtain⟨e1,e2⟩:=hno ⟨fun q=>d q.1,fun q=>f q.1⟩;rw[e1,e2];rfl
/- The program's ClkTick answers as the reference's: over residual programs. -/
def JdL (c:Clk) (i:Nat):Msg:=⟨4,i,0,c.round,⟨0,0,0,[]⟩,c.base,[],c.done⟩
def JoG (c:Clk) (i:Nat):Msg:=⟨2,i,0,c.round,⟨0,0,0,[]⟩,[],[],[]⟩
def J6 (c:Clk) (n:Nat):List Msg:=(List.range n).map (JdL c)
def QB (c:Clk) (n:Nat):List Msg:=(List.range n).map (JoG c)
theorem JbL (c:Clk) (n:Nat):J6 c (n+1)=J6 c n++[JdL c n]:=by simp[J6,List.range_succ]
theorem WO (c:Clk) (n:Nat):QB c (n+1)=QB c n++[JoG c n]:=by simp[QB,List.range_succ]
theorem Qh (c:Clk) (n:Nat):(J6 c n).length=n:=by simp[J6]
theorem ZK (c:Clk) (n:Nat):(QB c n).length=n:=by simp[QB]
def busy (c:Clk):Bool:=decide (0<c.wants.length)||decide (0<Xf c.got)
def Yc (c:Clk):List Msg:=if c.up then(if busy c then J6 c c.got.length++QB c c.got.length else J6 c c.got.length) else []
theorem UG (a b:List Msg):dMs (a++b)=dMs a++dMs b:=by simp[dMs]
theorem Qo (a:List Msg):(dMs a).length=a.length:=by simp[dMs]
theorem Jh4 (c:Clk) (i:Nat):dMs [JdL c i]=[.g [dI 4,dI i,dI 0,dI c.round,dI 0,dI 0,dI 0,.s [],.s (dL c.base),.s [],.s (dDs c.done)]]:=rfl
theorem JgC (c:Clk) (i:Nat):dMs [JoG c i]=[.g [dI 2,dI i,dI 0,dI c.round,dI 0,dI 0,dI 0,.s [],.s [],.s [],.s []]]:=rfl
theorem Jn6 (c:Clk) (hc:QV c):Ev L f_k5f c.cells ([.s (dMs (J6 c c.got.length))]++c.cells):=by
 refine JuM (vs:=[.b c.up,.i c.round,.l (dL c.base),.l (dDs c.done),.l (dCs c.wants),.l (dGs c.got)]) L_k5f rfl ?_;have hg:=hc.g;refine Jut c.got.length (fun i=>[.l (dMs (J6 c i)),.i i]) (fun _=>True) rfl rfl trivial fun i hi _=>?_;simp only[sC,sN];refine JuF i (XC c.got) rfl (fun h=>?_) (fun h=>JuJ (JuC ?_))
 ·refine Juc (vs:=[.l (dL c.base)]) (KL c.base hc.b) rfl rfl rfl ?_;refine Juc (vs:=[.l (dDs c.done)]) (JoU c.done ⟨hc.d,hc.dt⟩) rfl rfl rfl ?_;simp only[sC,sN];refine Jus (Jbv dI (fun _=>rfl) c.base) ?_;refine Jug (dMs (J6 c i)) 2000000 (by rw[Qo,Qh];omega) (by omega) rfl ?_;refine JuK (vs:=[.l (dMs (J6 c (i+1))),.i ((i+1:Nat):Int)]) ?_ ⟨h,rfl,trivial⟩;show [V.l (dMs (J6 c i)++[.g [dI 4,dI i,dI 0,dI c.round,dI 0,dI 0,dI 0,.s [],.s (dL c.base),.s [],.s (dDs c.done)]]),V.i (i64.wrap ((i:Int)+1))]=_;rw[wS h (by omega),JbL,UG,Jh4]
 ·rw[show i=c.got.length by omega];rfl
theorem Jme (x:Got):Ev L f_k5i x.cells [dB x.has] :=
 JuM (vs:=[.b x.has,.l (dL x.added),.l (dL x.seqs)]) L_k5i rfl (JuC rfl)
theorem JnP (l:List Got):(l.any fun g=>g.has)=decide (0<Xf l):=by
 rw[Bool.eq_iff_iff,decide_eq_true_eq];unfold Xf;rw[List.length_pos_iff_exists_mem];simp
theorem JpR (c:Clk) (hc:QV c):Ev L f_k5j c.cells ([.s (dMs (Yc c))]++c.cells):=by
 refine JuM (vs:=[.b c.up,.i c.round,.l (dL c.base),.l (dDs c.done),.l (dCs c.wants),.l (dGs c.got)]) L_k5j rfl ?_;have hg:=hc.g;have hcc:=hc.c;refine JuE c.up rfl (fun a=>JuC (by unfold Yc;rw[if_neg (by simp[a])];rfl)) (fun a=>?_);have hp:=Jn6 c hc;have hpl:=Qh c c.got.length;have et:Yc c=if busy c then J6 c c.got.length++QB c c.got.length else J6 c c.got.length:=by unfold Yc;rw[if_pos a]
 rw[et];clear et;generalize J6 c c.got.length=ps at *;refine Juc (vs:=[.l (dMs ps),.b c.up,.i c.round,.l (dL c.base),.l (dDs c.done),.l (dCs c.wants),.l (dGs c.got)]) hp rfl rfl rfl ?_;simp only[sC,sN];refine JuB ((0:Int)<(c.wants.length:Int)) (by show decide ((0:Int)<((dCs c.wants).length:Int))=_;rw[Xr]) (fun b=>?_) (fun b=>?_)
 ·have e:busy c=true:=by unfold busy;rw[decide_eq_true (by omega)];rfl
  rw[if_pos e];refine Jut c.got.length (fun i=>[.l (dMs (ps++QB c i)),.i i]) (fun _=>True) rfl (by rw[show QB c 0=[] from rfl,List.append_nil];rfl) trivial fun i hi _=>?_;simp only[sC,sN];refine JuF i (XC c.got) rfl (fun h=>?_) (fun h=>JuJ (JuC ?_))
  ·refine Jug (dMs (ps++QB c i)) 4000000 (by rw[Qo,JuX,ZK];omega) (by omega) rfl ?_;refine JuK (vs:=[.l (dMs (ps++QB c (i+1))),.i ((i+1:Nat):Int)]) ?_ ⟨h,rfl,trivial⟩;show [V.l (dMs (ps++QB c i)++[.g [dI 2,dI i,dI 0,dI c.round,dI 0,dI 0,dI 0,.s [],.s [],.s [],.s []]]),V.i (i64.wrap ((i:Int)+1))]=_;rw[wS h (by omega),WO,←List.append_assoc,UG (ps++QB c i),JgC]
  ·rw[show i=c.got.length by omega];rfl
 ·refine Juc (JmU (fun g=>g.has) c.got (fn:=f_k5i) (caps:=[]) hg rfl rfl fun x _=>by simpa using Jme x) rfl rfl rfl ?_;simp only[sC,sN];rw[JnP];refine JuB (0<Xf c.got) rfl (fun d=>?_) (fun d=>?_)
  ·have e:busy c=true:=by unfold busy;rw[decide_eq_true d,Bool.or_true]
   rw[if_pos e];refine Jut c.got.length (fun i=>[.l (dMs (ps++QB c i)),.i i]) (fun _=>True) rfl (by rw[show QB c 0=[] from rfl,List.append_nil];rfl) trivial fun i hi _=>?_;simp only[sC,sN];refine JuF i (XC c.got) rfl (fun h=>?_) (fun h=>JuJ (JuC ?_))
   ·refine Jug (dMs (ps++QB c i)) 4000000 (by rw[Qo,JuX,ZK];omega) (by omega) rfl ?_;refine JuK (vs:=[.l (dMs (ps++QB c (i+1))),.i ((i+1:Nat):Int)]) ?_ ⟨h,rfl,trivial⟩;show [V.l (dMs (ps++QB c i)++[.g [dI 2,dI i,dI 0,dI c.round,dI 0,dI 0,dI 0,.s [],.s [],.s [],.s []]]),V.i (i64.wrap ((i:Int)+1))]=_;rw[wS h (by omega),WO,←List.append_assoc,UG (ps++QB c i),JgC]
   ·rw[show i=c.got.length by omega];rfl
  ·have e:busy c=false:=by unfold busy;rw[decide_eq_false d,decide_eq_false (by omega)];rfl
   rw[if_neg (by rw[e];simp)];exact JuC rfl
theorem Jp5 (l:List Msg):Ev L f_k5k [.s (dMs l)] [.s (dMs l)] :=
 JuM (vs:=[.l (dMs l)]) L_k5k rfl (Jun (by show decide (((dMs l).length:Int)=((dMs l).length:Int))=true;simp) (Jun (by show decide (((dMs l).length:Int)=((dMs l).length:Int))=true;simp) (JuC rfl)))
theorem JmQ (c:Clk) (i:Nat) (hc:QV c):Ev L f_k2m (c.cells++[dI i]) (JdL c i).cells:=by
 refine JuM (vs:=[.b c.up,.i c.round,.l (dL c.base),.l (dDs c.done),.l (dCs c.wants),.l (dGs c.got),.i i]) L_k2m rfl ?_;have h1:=hc.b;refine Jue (dL c.base) 2000000 (by rw[dL1];omega) (by omega) rfl ?_;refine Juu (JV c.base) ?_;refine Jue (dL c.base) 2000000 (by rw[dL1];omega) (by omega) rfl ?_;exact Juc (vs:=[.l (dDs c.done)]) (Zj c.done ⟨hc.d,hc.dt⟩) rfl rfl rfl (JuC rfl)
theorem Je5 (p:Pln) (c:Clk) (hp:JR p) (hc:QV c):Ev L f_k2n (p.cells++c.cells) [.s (dMs (J6 c p.gives.length))]:=by
 refine JuM (vs:=[.i p.n,.l (Jc p.acts),.l (dL p.gives),.l (dL p.start),.b c.up,.i c.round,.l (dL c.base),.l (dDs c.done),.l (dCs c.wants),.l (dGs c.got)]) L_k2n rfl ?_;have hg:=hp.2.1;refine Jut p.gives.length (fun i=>[.l (dMs (J6 c i)),.i i]) (fun _=>True) rfl rfl trivial fun i hi _=>?_;simp only[sC,sN];refine JuF i (dL1 p.gives) rfl (fun h=>?_) (fun h=>JuJ (JuC ?_))
 ·refine Juc (vs:=[.i 4,.i i,.i 0,.i c.round,.i 0,.i 0,.i 0,.l [],.l (dL c.base),.l [],.l (dDs c.done)]) (JmQ c i hc) rfl rfl rfl ?_;simp only[sC,sN];refine Jug (dMs (J6 c i)) 2000000 (by rw[Qo,Qh];omega) (by omega) rfl ?_;refine JuK (vs:=[.l (dMs (J6 c (i+1))),.i ((i+1:Nat):Int)]) ?_ ⟨h,rfl,trivial⟩;show [V.l (dMs (J6 c i)++[.g [dI 4,dI i,dI 0,dI c.round,dI 0,dI 0,dI 0,.s [],.s (dL c.base),.s [],.s (dDs c.done)]]),V.i (i64.wrap ((i:Int)+1))]=_;rw[wS h (by omega),JbL,UG,Jh4]
 ·rw[show i=p.gives.length by omega];rfl
theorem Je6 (p:Pln) (c:Clk) (hp:JR p) (hc:QV c) (hl:c.got.length=p.gives.length):Ev L f_k2q (p.cells++c.cells) [.s (dMs (Yc c))]:=by
 refine JuM (vs:=[.i p.n,.l (Jc p.acts),.l (dL p.gives),.l (dL p.start),.b c.up,.i c.round,.l (dL c.base),.l (dDs c.done),.l (dCs c.wants),.l (dGs c.got)]) L_k2q rfl ?_;have hg:=hp.2.1;have hcc:=hc.c;refine JuE c.up rfl (fun a=>JuC (by unfold Yc;rw[if_neg (by simp[a])];rfl)) (fun a=>?_);have ht:=Je5 p c hp hc;have hpl:=Qh c p.gives.length;have hh:=Jev c hc.g;have et:Yc c=if busy c then J6 c p.gives.length++QB c p.gives.length else J6 c p.gives.length:=by unfold Yc;rw[if_pos a,hl]
 rw[et];clear et;generalize J6 c p.gives.length=ps at *;refine Juc (vs:=[.l (dMs ps)]) ht rfl rfl rfl ?_;simp only[sC,sN];refine Jut p.gives.length (fun i=>[.l (dMs (ps++QB c i)),.i i]) (fun i=>i=0∨busy c=true) rfl (by rw[show QB c 0=[] from rfl,List.append_nil];rfl) (.inl rfl) fun i hi hq=>?_;simp only[sC,sN];have hs:dMs (ps++QB c i)++[.g [dI 2,dI i,dI 0,dI c.round,dI 0,dI 0,dI 0,.s [],.s [],.s [],.s []]]=dMs (ps++QB c (i+1)):=by rw[WO,←List.append_assoc,UG (ps++QB c i),JgC]
 have hlen:(dMs (ps++QB c i)).length≤4000000:=by rw[Qo,JuX,ZK];omega
 have hend : ¬i<p.gives.length∨busy c=false→[D.s (dMs (ps++QB c i))]=[D.s (dMs (if busy c then ps++QB c p.gives.length else ps))]:=fun q=>by
  by_cases hb:busy c=true
  ·rw[if_pos hb];rcases q with q | q
   ·rw[show i=p.gives.length by omega]
   ·rw[q] at hb;cases hb
  ·rw[if_neg hb];rcases hq with e | e
   ·rw[e,show QB c 0=[] from rfl,List.append_nil]
   ·exact absurd e hb
 generalize dMs (ps++QB c i)=ms at *;refine JuF i (dL1 p.gives) rfl (fun h=>?_) (fun h=>JuJ (JuC (hend (.inl h))));have hw:i64.wrap ((i:Int)+1)=((i+1:Nat):Int):=wS h (by omega);refine JuB ((0:Int)<(c.wants.length:Int)) (by show decide ((0:Int)<((dCs c.wants).length:Int))=_;rw[Xr]) (fun b=>?_) (fun b=>?_)
 ·have e:busy c=true:=by unfold busy;rw[decide_eq_true (by omega)];rfl
  refine Jug ms 4000000 hlen (by omega) rfl ?_;refine JuK ?_ ⟨h,rfl,.inr e⟩;show [V.l (ms++[.g [dI 2,dI i,dI 0,dI c.round,dI 0,dI 0,dI 0,.s [],.s [],.s [],.s []]]),V.i (i64.wrap ((i:Int)+1))]=_;rw[hs,hw]
 ·refine Juc hh rfl rfl rfl ?_;simp only[sC,sN];refine JuB ((0:Int)<(Xf c.got:Int)) rfl (fun d=>?_) (fun d=>JuJ (JuC (hend (.inr ?_))))
  ·have e:busy c=true:=by unfold busy;rw[decide_eq_true (show 0<Xf c.got by omega),Bool.or_true]
   refine Jug ms 4000000 hlen (by omega) rfl ?_;refine JuK ?_ ⟨h,rfl,.inr e⟩;show [V.l (ms++[.g [dI 2,dI i,dI 0,dI c.round,dI 0,dI 0,dI 0,.s [],.s [],.s [],.s []]]),V.i (i64.wrap ((i:Int)+1))]=_;rw[hs,hw]
  ·unfold busy;rw[decide_eq_false (by omega),decide_eq_false (by omega)];rfl
def Yr (p:Pln) (c:Clk):List Msg:=if QY p c then Yc c else []
theorem Ji9 (p:Pln) (c:Clk) (hp:JR p) (hc:QV c):Ev L f_k5n (p.cells++c.cells) [.s (dMs (Yr p c))]:=by
 refine JuM (vs:=[.i p.n,.l (Jc p.acts),.l (dL p.gives),.l (dL p.start),.b c.up,.i c.round,.l (dL c.base),.l (dDs c.done),.l (dCs c.wants),.l (dGs c.got)]) L_k5n rfl ?_;refine Juc (JeV p c hp hc) rfl rfl rfl ?_;refine JuE (QY p c) rfl (fun h=>JuC ?_) (fun h=>?_)
 ·unfold Yr;rw[if_neg (by simp[h])];rfl
 refine Juc (Je6 p c hp hc (JmZ h)) rfl rfl rfl (JuC ?_);unfold Yr;rw[if_pos h];rfl
theorem Jji (p:Pln) (c:Clk) (hp:JR p) (hc:QV c):Ev L f_k5l (p.cells++c.cells) [.s (dMs (Yr p c))]:=by
 refine JuM (vs:=[.i p.n,.l (Jc p.acts),.l (dL p.gives),.l (dL p.start),.b c.up,.i c.round,.l (dL c.base),.l (dDs c.done),.l (dCs c.wants),.l (dGs c.got)]) L_k5l rfl ?_;refine Juc (Jl4 p c hp hc) rfl rfl rfl ?_;refine JuE (QY p c) rfl (fun h=>JuC ?_) (fun h=>?_)
 ·unfold Yr;rw[if_neg (by simp[h])];rfl
 have et:Yr p c=Yc c:=by unfold Yr;rw[if_pos h]
 rw[et];refine Juc (vs:=[.l (dMs (Yc c)),.b c.up,.i c.round,.l (dL c.base),.l (dDs c.done),.l (dCs c.wants),.l (dGs c.got)]) (JpR c hc) rfl rfl rfl ?_;simp only[sC,sN];exact Juc (vs:=[.l (dMs (Yc c))]) (Jp5 (Yc c)) rfl rfl rfl (JuC rfl)
/- What a site tries,by the reference: over residual programs. -/
theorem Jfv (x:Msg) (hx:Zb x):Ev L f_k1y x.cells x.cells:=by
 refine JuM (vs:=[.i x.kind,.i x.to,.i x.frm,.i x.round,.i x.call.client,.i x.call.seq,.i x.call.act,.l (dL x.call.args),.l (dL x.vals),.l (dL x.seqs),.l (dDs x.done)]) L_k1y rfl ?_;obtain⟨h1,h2,h3,h4⟩:=hx;refine Juc (vs:=[.i x.call.client,.i x.call.seq,.i x.call.act,.l (dL x.call.args)]) (J0 x.call h1) rfl rfl rfl ?_;simp only[sC,sN];refine Jue (dL x.vals) 2000000 (by rw[dL1];omega) (by omega) rfl ?_;refine Juu (JV x.vals) ?_;refine Jue (dL x.vals) 2000000 (by rw[dL1];omega) (by omega) rfl ?_;refine Jue (dL x.seqs) 2000000 (by rw[dL1];omega) (by omega) rfl ?_;refine Juu (JV x.seqs) ?_;refine Jue (dL x.seqs) 2000000 (by rw[dL1];omega) (by omega) rfl ?_;refine Juc (vs:=[.l (dDs x.done)]) (Zj x.done h4) rfl rfl rfl (JuC rfl)
structure JpA where
 site:Sit
 code:Int
 tells:List Int
 said:List Msg
def JbO (c:Cal):Msg:=⟨1,-1,0,0,c,[],[],[]⟩
def JZ (s:Sit) (c:Cal):Don:=s.done.getD c.client.toNat We
def K8 (p:Pln) (s:Sit) (k:Int) (c:Cal):JjA:=Ja4 p.acts s.base p.gives k s.added c.act c.args
def Jil (s:Sit) (c:Cal) (r:JjA):Sit:=⟨s.up,s.frozen,s.round,s.base,r.adds,s.done.set c.client.toNat ⟨c.seq,r.code,r.tells⟩⟩
def Wx (p:Pln) (s:Sit) (k:Int) (c:Cal):JpA :=
 if s.up=true∧Int.tmod c.client p.gives.length=k then
  if c.seq=(JZ s c).seq then ⟨s,(JZ s c).code,(JZ s c).tells,[]⟩
  else if c.seq=(JZ s c).seq+1 then
   if s.frozen=false∧(K8 p s k c).ok=true then ⟨Jil s c (K8 p s k c),(K8 p s k c).code,(K8 p s k c).tells,[]⟩
   else ⟨s,0,[],[JbO c]⟩
  else ⟨s,0,[],[]⟩
 else ⟨s,0,[],[]⟩
def JpA.ds (r:JpA):List D:=r.site.cells++[dI r.code,.s (dL r.tells),.s (dMs r.said)]
theorem Jkg {p:Pln} {s:Sit} {k:Int} {c:Cal} (h : ¬(s.up=true∧Int.tmod c.client p.gives.length=k)∨(c.seq≠(JZ s c).seq∧c.seq≠(JZ s c).seq+1)):Wx p s k c=⟨s,0,[],[]⟩:=by
 unfold Wx;rcases h with h | ⟨h1,h2⟩
 ·rw[if_neg h]
 ·rw[if_neg h1,if_neg h2];split <;> rfl
theorem Ji2 {p:Pln} {s:Sit} {k:Int} {c:Cal} (h1:s.up=true) (h2:Int.tmod c.client p.gives.length=k) (h3:c.seq=(JZ s c).seq):Wx p s k c=⟨s,(JZ s c).code,(JZ s c).tells,[]⟩:=by
 unfold Wx;rw[if_pos ⟨h1,h2⟩,if_pos h3]
theorem Jle {p:Pln} {s:Sit} {k:Int} {c:Cal} (h1:s.up=true) (h2:Int.tmod c.client p.gives.length=k) (h3:c.seq=(JZ s c).seq+1) (h4:s.frozen=false) (h5:(K8 p s k c).ok=true) :
  Wx p s k c=⟨Jil s c (K8 p s k c),(K8 p s k c).code,(K8 p s k c).tells,[]⟩:=by
 unfold Wx;rw[if_pos ⟨h1,h2⟩,if_neg (by omega),if_pos h3,if_pos ⟨h4,h5⟩]
theorem Jhv {p:Pln} {s:Sit} {k:Int} {c:Cal} (h1:s.up=true) (h2:Int.tmod c.client p.gives.length=k) (h3:c.seq=(JZ s c).seq+1) (h4:s.frozen=true∨(K8 p s k c).ok=false):Wx p s k c=⟨s,0,[],[JbO c]⟩:=by
 unfold Wx;rw[if_pos ⟨h1,h2⟩,if_neg (by omega),if_pos h3,if_neg (by rintro⟨a,b⟩;rcases h4 with h | h <;> simp_all)]
theorem JK {n:Int} {l:List Don}:JX n l=true↔(l.length:Int)=n∧∀d∈l,Xo d=true:=by
 unfold JX;rw[JuR,decide_eq_true_eq,Ju4]
theorem JcL {n:Int} {l:List Don} (h:JX n l=true) (i:Nat) {d:Don} (hd:Xo d=true):JX n (l.set i d)=true:=by
 obtain⟨h1,h2⟩:=JK.1 h;refine JK.2 ⟨by rw[List.length_set];exact h1,fun x hx=>?_⟩;rcases Jvg hx with q | q
 ·exact h2 x q
 ·rw[q];exact hd
theorem Qf {p:Pln} {c:Cal}:Jl p c=true↔(0≤c.client∧c.client≤p.n-1)∧(1≤c.seq∧c.seq≤300)∧(0≤c.act∧c.act≤(p.acts.length:Int)-1)∧Xc c.args=true:=by
 unfold Jl;simp only[JuR,Jq]
theorem XY {p:Pln} {b:List Int} {k:Int} {a:List Int}:Q9 p b k a=true↔keeps b p.gives (Jb p.acts) k a=true∧Qj (Jj p.acts) a=true:=by
 unfold Q9;rw[JuR]
theorem Qk {p:Pln} {s:Sit} {k:Int}:Q3 p s k=true↔(0≤s.round∧s.round≤200)∧JS s.base=true∧Q9 p s.base k s.added=true∧JX p.n s.done=true:=by
 unfold Q3;simp only[JuR,Jq]
theorem JjK {p:Pln} {c:Cal} (h:Jl p c=true):JC p (JbO c)=true:=by simp[JC,JbO,inB,XO,em,h]
theorem Jae {p:Pln} {s:Sit} {k:Int} {c:Cal} (hp:JE p=true) (hs:Q3 p s k=true) (hc:Jl p c=true):YN p.acts s.base p.gives k s.added c.act c.args=true:=by
 obtain⟨_,_,h3,_⟩:=Qk.1 hs;obtain⟨_,_,h6,h7⟩:=Qf.1 hc;obtain⟨h8,h9⟩:=XY.1 h3;unfold YN;rw[XI hp,h7,h8,h9,show inB c.act 0 ((p.acts.length:Int)-1)=true from Jq.2 h6];rfl
theorem Jqa {f:Frm} {v w:List Int} (hf:Std 10000000 f) (hv:JS v=true) (hw:Xc w=true) : -999999999999≤atF f v w∧atF f v w≤999999999999:=by
 obtain⟨v1,v2⟩:=QL.1 hv;obtain⟨w1,w2⟩:=Ya.1 hw;have h1:=Ko hf.lc v2 (by omega) (by omega);have h2:=Ko hf.ld w2 (by omega) (by omega);have h3:=hf.k;rw[hf.c] at h1;rw[hf.d] at h2;unfold atF;omega
theorem JmE {ps:List Bool} {a b:List Int} (ha:Qj ps a=true) (hb:Qj ps b=true):Qj ps (Qq a b)=true:=by
 unfold Qj Qq at *
 induction ps generalizing a b with
 | nil=>simp
 | cons q ps ih =>
  cases a with
  | nil=>simp
  | cons x a =>
   cases b with
   | nil=>simp
   | cons y b =>
    simp only[List.zip_cons_cons,List.all_cons,List.zipWith_cons_cons,JuR] at ha hb ⊢;refine⟨?_,ih ha.2 hb.2⟩;have h1:=ha.1;have h2:=hb.1;cases q with
    | false=>rfl
    | true =>
     simp only[Jvb,Bool.not_not,decide_eq_true_eq] at h1 h2 ⊢;omega
theorem Jij {p:Pln} {s:Sit} {k:Int} {c:Cal} (hf:YN p.acts s.base p.gives k s.added c.act c.args=true) (h:(K8 p s k c).ok=true) :
  JM (K8 p s k c).code (K8 p s k c).tells=true∧Q9 p s.base k (K8 p s k c).adds=true:=by
 obtain⟨hc,hk,hw,hke,hst⟩:=KB.1 hf;have hb:JS s.base=true:=by
  obtain⟨h1,_⟩:=ZB (Xy hke);simp only[Qw,JuR] at h1;exact h1.1.1
 have hka:Q9 p s.base k s.added=true:=XY.2 ⟨hke,hst⟩;have key :∀r,r∈Jv (p.acts.getD c.act.toNat [])→∀q,KH s.base p.gives (Jb p.acts) (Jj p.acts) k s.added c.args r=q→q.ok=true→JM q.code q.tells=true∧Q9 p s.base k q.adds=true:=by
  intro r hr q hq hqo;have hrf:=Yl r hr;unfold KH at hq;split at hq
  ·subst hq;exact⟨by simp[JM,inB,JJ],hka⟩
  ·split at hq
   ·rename_i h1;rw[JuR] at h1;split at hq
    ·subst hq;exact⟨by simp[JM,inB,JJ],hka⟩
    ·split at hq
     ·subst hq;cases hqo
     ·split at hq
      ·rename_i h2;subst hq;refine⟨Yz.2 ⟨by simp,by simp only[atL,Ju0];exact hrf.tl,.inl rfl,fun x hx=>?_⟩,XY.2 ⟨h2,JmE hst h1.1⟩⟩;simp only[atL,List.mem_map] at hx;obtain⟨f,hfm,rfl⟩:=hx;exact Jqa (hrf.t f hfm) hb hw
      ·subst hq;cases hqo
   ·subst hq;cases hqo
 unfold K8 Ja4 at h ⊢;rw[if_pos hf] at h ⊢;split at h
 ·rename_i r hr;exact key r (List.mem_of_find?_eq_some hr) _ rfl h
 ·cases h
theorem JcF {p:Pln} {s:Sit} {k:Int} {c:Cal} (hs:Q3 p s k=true) (hc:Jl p c=true):s.done[c.client.toNat]? = some (JZ s c)∧Xo (JZ s c)=true∧JZ s c∈s.done:=by
 obtain⟨h1,h2⟩:=JK.1 (Qk.1 hs).2.2.2;obtain⟨h3,_⟩:=Qf.1 hc;obtain⟨x,hx,hm⟩:=sA1 (l:=s.done) (i:=c.client.toNat) (by omega);have e:JZ s c=x:=Qi hx;rw[e];exact⟨hx,h2 x hm,hm⟩
theorem Yy {d:Don}:Xo d=true↔(d.seq=0∧d.code=0∧d.tells.length=0)∨(1≤d.seq∧d.seq≤300∧JM d.code d.tells=true):=by
 unfold Xo;split
 ·rename_i h;simp only[JuR,decide_eq_true_eq];constructor
  ·rintro⟨a,b⟩;exact .inl ⟨h,a,b⟩
  ·rintro (⟨_,a,b⟩ | ⟨a,_⟩)
   ·exact⟨a,b⟩
   ·omega
 ·rename_i h;simp only[JuR,Jq];constructor
  ·rintro⟨⟨a,b⟩,d⟩;exact .inr ⟨a,b,d⟩
  ·rintro (⟨a,_⟩ | ⟨a,b,d⟩)
   ·exact absurd a h
   ·exact⟨⟨a,b⟩,d⟩
structure JkJ (p:Pln) (s:Sit) (k:Int) (c:Cal) (r:JpA):Prop where
 site:Q3 p r.site k=true
 said :∀m∈r.said,JC p m=true
 one:r.said.length≤1
 res:(r.code=0∧r.tells.length=0)∨JM r.code r.tells=true
 seq:r.code≠0→(JZ r.site c).seq=c.seq
 more:(JZ s c).seq<(JZ r.site c).seq→JM r.code r.tells=true
 len:r.tells.length≤2000000
theorem JqH {p:Pln} {s:Sit} {k:Int} {c:Cal} (hp:JE p=true) (hs:Q3 p s k=true) (hc:Jl p c=true):JkJ p s k c (Wx p s k c):=by
 obtain⟨hx,hdo,hm⟩:=JcF hs hc;have hf:=Jae hp hs hc;obtain⟨c1,c2,c3,c4⟩:=Qf.1 hc;obtain⟨s1,s2,s3,s4⟩:=Qk.1 hs;have six :∀{a:Int} {l:List Int},JM a l=true→l.length≤2000000:=fun h=>by have:=(Yz.1 h).2.1;omega
 have no:JkJ p s k c ⟨s,0,[],[]⟩:=⟨hs,fun m h=>by simp at h,by simp,.inl ⟨rfl,rfl⟩,fun h=>absurd rfl h,fun h=>absurd h (Int.lt_irrefl _),by simp⟩
 by_cases h1:s.up=true∧Int.tmod c.client p.gives.length=k
 ·by_cases h2:c.seq=(JZ s c).seq
  ·rw[Ji2 h1.1 h1.2 h2];have hr:JM (JZ s c).code (JZ s c).tells=true:=by
    rcases Yy.1 hdo with h | h
    ·omega
    ·exact h.2.2
   exact⟨hs,fun m h=>by simp at h,by simp,.inr hr,fun _=>h2.symm,fun h=>absurd h (Int.lt_irrefl _),six hr⟩
  ·by_cases h3:c.seq=(JZ s c).seq+1
   ·by_cases h4:s.frozen=false∧(K8 p s k c).ok=true
    ·rw[Jle h1.1 h1.2 h3 h4.1 h4.2];obtain⟨l1,l2⟩:=Jij hf h4.2;have hl:c.client.toNat<s.done.length:=(JuS.1 hx).1;have e:JZ (Jil s c (K8 p s k c)) c=⟨c.seq,(K8 p s k c).code,(K8 p s k c).tells⟩:=Qi (by simp only[Jil];exact List.getElem?_set_self hl);refine⟨Qk.2 ⟨s1,s2,l2,JcL s4 _ (Yy.2 (.inr ⟨c2.1,c2.2,l1⟩))⟩,fun m h=>by simp at h,by simp,.inr l1,fun _=>by rw[e],fun _=>l1,six l1⟩
    ·rw[Jhv h1.1 h1.2 h3 (by cases hfz:s.frozen <;> simp_all)];refine⟨hs,fun m h=>?_,by simp,.inl ⟨rfl,rfl⟩,fun h=>absurd rfl h,fun h=>absurd h (Int.lt_irrefl _),by simp⟩;simp only[Ju9] at h;subst h;exact JjK hc
   ·rw[Jkg (.inr ⟨h2,h3⟩)];exact no
 ·rw[Jkg (.inl h1)];exact no
theorem JpV (p:Pln) {s:Sit} (k:Int) {c:Cal} (hs:KF s) (hc:YS c):KF (Wx p s k c).site∧(∀m∈(Wx p s k c).said,Zb m)∧(Wx p s k c).tells.length≤2000000:=by
 have hl:=JiE p.acts s.base p.gives k s.added c.act c.args hs.2.1;have hd:(JZ s c).tells.length≤2000000:=by
  unfold JZ;cases h:s.done[c.client.toNat]? with
  | none=>simp[JuU,h,We]
  | some x=>rw[Qi h];exact hs.2.2.2 x (JuY h)
 have no:KF s∧(∀m∈([]:List Msg),Zb m)∧([]:List Int).length≤2000000:=⟨hs,fun m h=>by simp at h,by simp⟩;unfold Wx;split
 ·split
  ·exact⟨hs,fun m h=>by simp at h,hd⟩
  ·split
   ·split
    ·refine⟨⟨hs.1,hl.2,by simp only[Jil,List.length_set];exact hs.2.2.1,fun d hm=>?_⟩,fun m h=>by simp at h,hl.1⟩;simp only[Jil] at hm;rcases Jvg hm with q | q
     ·exact hs.2.2.2 d q
     ·rw[q];exact hl.1
    ·refine⟨hs,fun m h=>?_,by simp⟩;simp only[Ju9] at h;subst h;exact⟨hc,by simp[JbO],by simp[JbO],by simp[JbO],fun d hd=>by simp[JbO] at hd⟩
   ·exact no
 ·exact no
theorem JoW (p:Pln) (s:Sit) (k:Int) (c:Cal) (hp:JR p) (hs:KF s) (hc:YS c) (hpo:JE p=true) (hso:Q3 p s k=true) (hco:Jl p c=true) :
  Ev L f_k2b (p.cells++[.s (dLL (Jb p.acts)),.s (dBl (Jj p.acts))]++s.cells++[dI k]++c.cells) (Wx p s k c).ds:=by
 refine JuM (vs:=[.i p.n,.l (Jc p.acts),.l (dL p.gives),.l (dL p.start),.l (dLL (Jb p.acts)),.l (dBl (Jj p.acts)),.b s.up,.b s.frozen,.i s.round,.l (dL s.base),.l (dL s.added),.l (dDs s.done),.i k,.i c.client,.i c.seq,.i c.act,.l (dL c.args)]) L_k2b rfl ?_;obtain⟨hx,hdo,hm⟩:=JcF hso hco;have hfine:=Jae hpo hso hco;obtain⟨c1,c2,c3,c4⟩:=Qf.1 hco;have hg:=(Qg hpo).1;have hlt:c.client.toNat<s.done.length:=(JuS.1 hx).1;have hsq : -1≤(JZ s c).seq∧(JZ s c).seq≤300:=by rcases Yy.1 hdo with h | h <;> omega
 have hdl:(JZ s c).tells.length≤2000000:=hs.2.2.2 _ hm;refine Juc (vs:=[.b s.up,.b s.frozen,.i s.round,.l (dL s.base),.l (dL s.added),.l (dDs s.done)]) (Ja1 s hs) rfl rfl rfl ?_;simp only[sC,sN];refine Juz (0≤c.client) rfl c1.1 ?_;refine Juz (c.client<(s.done.length:Int)) (by show decide (c.client<((dDs s.done).length:Int))=_;rw[Xj]) (by omega) ?_;refine Jui (ds:=dDs s.done) (d:=(JZ s c).g) (vs:=[.i (JZ s c).seq,.i (JZ s c).code,.l (dL (JZ s c).tells)]) c.client rfl rfl rfl c1.1 (mA1 (f:=Don.g) hx) rfl ?_;simp only[sC,sN];have no:=fun h=>Jkg (p:=p) (s:=s) (k:=k) (c:=c) h;have same:=fun h1 h2 h3=>Ji2 (p:=p) (s:=s) (k:=k) (c:=c) h1 h2 h3;have did:=fun h1 h2 h3 h4 h5=>Jle (p:=p) (s:=s) (k:=k) (c:=c) h1 h2 h3 h4 h5;have want:=fun h1 h2 h3 h4=>Jhv (p:=p) (s:=s) (k:=k) (c:=c) h1 h2 h3 h4;have hloc:=Jpc (as:=p.acts) (b:=s.base) (g:=p.gives) (s:=k) (a:=s.added) (k:=c.act) (w:=c.args) hp.1 hp.2.1 hfine;have hll:=JiE p.acts s.base p.gives k s.added c.act c.args hs.2.1;have elo:Ja4 p.acts s.base p.gives k s.added c.act c.args=K8 p s k c:=rfl;rw[elo] at hloc hll;have hset :∀r:JjA,(dDs s.done).set c.client.toNat (.g [dI c.seq,dI r.code,.s (dL r.tells)])=dDs (Jil s c r).done:=fun r=>by simp only[dDs,Jil,List.map_set];rfl
 generalize JZ s c=x at *;generalize K8 p s k c=r at *;refine JuE s.up rfl (fun a=>JuC (by rw[no (.inl (fun q=>by rw[a] at q;cases q.1))];rfl)) (fun a=>?_);refine Jun (by show (!decide (((dL p.gives).length:Int)=0))=true;rw[dL1,Bool.not_eq_true',decide_eq_false_iff_not];omega) ?_;refine JuE (decide (Int.tmod c.client p.gives.length=k)) (by show (!decide (Int.tmod c.client ((dL p.gives).length:Int)=k))=_;rw[dL1]) (fun b=>JuC (by rw[no (.inl (fun q=>by simp[q.2] at b))];rfl)) (fun b=>?_);have b:Int.tmod c.client p.gives.length=k:=by simpa using b
 refine JuB (c.seq<x.seq) rfl (fun e=>JuC (by rw[no (.inr ⟨by omega,by omega⟩)];rfl)) (fun e=>?_);refine JuB (x.seq+1<c.seq) (by show decide (i64.wrap (x.seq+1)<c.seq)=_;rw[w64 (by omega) (by omega)]) (fun e2=>JuC (by rw[no (.inr ⟨by omega,by omega⟩)];rfl)) (fun e2=>?_);refine JuB (c.seq=x.seq) rfl (fun e3=>?_) (fun e3=>?_)
 ·rw[same a b e3];refine Juc (vs:=[.i x.code,.l (dL x.tells)]) (Qc x.code x.tells hdl) rfl rfl rfl (JuC rfl)
 have e4:c.seq=x.seq+1:=by omega
 refine JuE s.frozen rfl (fun f=>?_) (fun f=>?_)
 ·refine Juc (JbQ p s) rfl rfl rfl ?_;simp only[sC,sN];refine Juc (vs:=[.i r.code,.l (dL r.tells),.l (dL r.adds),.b r.ok]) hloc rfl rfl rfl ?_;simp only[sC,sN];refine Jup r.ok rfl (fun o=>?_) (fun o=>?_)
  ·rw[did a b e4 f o];refine Juc (vs:=[.i r.code,.l (dL r.tells)]) (Qc r.code r.tells hll.1) rfl rfl rfl ?_;simp only[sC,sN];refine Juz (0≤c.client) rfl c1.1 ?_;refine Juz (c.client<(s.done.length:Int)) (by show decide (c.client<((dDs s.done).length:Int))=_;rw[Xj]) (by omega) ?_;refine Jui (ds:=dDs s.done) (d:=x.g) (vs:=[.i x.seq,.i x.code,.l (dL x.tells)]) c.client rfl rfl rfl c1.1 (mA1 (f:=Don.g) hx) rfl (JuC ?_);show [dB s.up,dB s.frozen,dI s.round,.s (dL s.base),.s (dL r.adds),.s ((dDs s.done).set c.client.toNat (.g [dI c.seq,dI r.code,.s (dL r.tells)])),dI r.code,.s (dL r.tells),D.s []]=_;rw[hset r];rfl
  ·rw[want a b e4 (.inr o)];refine Juc (vs:=[.i c.client,.i c.seq,.i c.act,.l (dL c.args)]) (J0 c hc) rfl rfl rfl (JuC rfl)
 ·rw[want a b e4 (.inl f)];refine Juc (vs:=[.i c.client,.i c.seq,.i c.act,.l (dL c.args)]) (J0 c hc) rfl rfl rfl (JuC rfl)
end Go.Proofs.YtofcmnglieaoeabGreatDoor

import Derived.Test.YtofcmnglieaoeabGreatDoorPZW
import Derived.Test.YtofcmnglieaoeabGreatDoorPY
import Derived.Test.YtofcmnglieaoeabGreatDoorTd
import Derived.Test.YtofcmnglieaoeabGreatDoorPZR
set_option linter.unusedVariables false
set_option linter.unusedSimpArgs false
/- In the beginning all are alike: over residual programs. -/
namespace Go.Proofs.YtofcmnglieaoeabGreatDoor
open Go Go.Tm
open Go.IntKind (i64)
theorem JcJ {bs:List Int} {p:Int} (hr:Rdr bs p) (hf:p≤999999900000) :
  ∃ (l:Pln) (q:Int),Ev L f_ke [.s (Ja bs),dI p] (l.cells++[.s (Ja bs),dI q])∧p≤q∧q≤p+2000∧Ut l.acts∧l.gives.length≤3∧l.start.length=3∧JL l=true:=by
 have key : ∃ ds,Ev L f_ke [.s (Ja bs),dI p] ds∧∃ (l:Pln) (q:Int),ds=l.cells++[.s (Ja bs),dI q]∧p≤q∧q≤p+2000∧Ut l.acts∧l.gives.length≤3∧l.start.length=3∧JL l=true:=by
  refine Juy (vs:=[.l (Ja bs),.i p]) L_ke rfl ?_;refine Jd 4 hr (by omega) (by omega) rfl rfl fun u hu0 hu1=>?_;obtain⟨as,q,he,q1,q2,hs,has1⟩:=Jdg (hr.go (q:=p+1) (by omega) (by omega)) (by omega);have ht:Ut as:=⟨by have:=hs.1;omega,fun a ha=>(hs.2 a ha).thin⟩;refine Jur he rfl rfl rfl ?_;refine Jd 3 (hr.go (q:=q) (by omega) (by omega)) (by omega) (by omega) rfl rfl fun w hw0 hw1=>?_;simp only[sC,sN];refine Jt6 (fun m vs=>∃ (gs:List Int) (k o:Int),vs=[.l (dL gs),.i k,.i o,.l (Ja bs)]∧q≤o∧o+k≤q+10∧0≤k∧k≤3∧(m:Int)=k∧(gs.length:Int)+k=1+w∧∀z∈gs,0≤z∧z≤50) rfl (1+w).toNat
   ⟨[],1+w,q+1,?_,by omega,by omega,by omega,by omega,by omega,by simp,fun z hz=>by simp at hz⟩ ?_
  ·show [V.l [],V.i (i64.wrap (1+w)),V.i (q+1),V.l (Ja bs)]=_;rw[w64 (by omega) (by omega)];rfl
  rintro m _ ⟨gs,k,o,rfl,o1,o2,k0,k3,hm,hl,hgs⟩;simp only[sC,sN];refine Jt8 (0<k) rfl (fun h=>?_) (fun h=>Juk ?_)
  ·refine Jd 5 (hr.go (q:=o) (by omega) (by omega)) (by omega) (by omega) rfl rfl fun x hx0 hx1=>?_;simp only[sC,sN];refine Juf (0≤x) rfl hx0 ?_;refine Juf (x<5) rfl hx1 ?_;refine Jug (ds:=dL [0,3,9,20,50]) x rfl rfl rfl hx0 (JY hx0 hx1) rfl ?_;have hy:0≤([0,3,9,20,50]:List Int).getD x.toNat 0∧([0,3,9,20,50]:List Int).getD x.toNat 0≤50:=by rcases (by omega:x=0∨x=1∨x=2∨x=3∨x=4) with q | q | q | q | q <;> subst q <;> decide
   generalize ([0,3,9,20,50]:List Int).getD x.toNat 0=y at *;refine Jus (dL gs) 10 (by rw[dL1];omega) (by omega) rfl ?_;refine Jt4 (vs:=[.l (dL (gs++[y])),.i (k-1),.i (o+1),.l (Ja bs)]) ?_ ⟨m-1,by omega,gs++[y],k-1,o+1,rfl,by omega,by omega,by omega,by omega,by omega,by simp;omega,fun z hz=>by
    rcases JuI.1 hz with q | q
    ·exact hgs z q
    ·simp only[JuV] at q;rw[q];exact hy⟩
   show [V.l (dL gs++[dI y]),V.i (i64.wrap (k-1)),V.i (o+1),V.l (Ja bs)]=_;rw[XI,w64 (by omega) (by omega)]
  refine Jt6 (fun m vs=>∃ (ss:List Int) (r:Int),vs=[.l (dL ss),.i (ss.length:Int),.i r,.l (Ja bs)]∧o≤r∧r≤o+ss.length∧ss.length≤3∧m=3-ss.length∧Lim 1000 ss) rfl 3
   ⟨[],o,rfl,by omega,by simp,by simp,by simp,fun z hz=>by simp at hz⟩ ?_
  rintro m _ ⟨ss,r,rfl,r1,r2,hs3,hm3,hss⟩;simp only[sC,sN];refine Jt8 ((ss.length:Int)<3) rfl (fun h3=>?_) (fun h3=>Juk (Jue ⟨⟨1+u,as,gs,ss⟩,r,?_,by omega,by omega,ht,?_,?_,?_⟩))
  ·refine Jd 6 (hr.go (q:=r) (by omega) (by omega)) (by omega) (by omega) rfl rfl fun x hx0 hx1=>?_;simp only[sC,sN];refine Juf (0≤x) rfl hx0 ?_;refine Juf (x<6) rfl hx1 ?_;refine Jug (ds:=dL [0,5,20,60,200,-8]) x rfl rfl rfl hx0 (JY hx0 hx1) rfl ?_;have hy : -1000≤([0,5,20,60,200,-8]:List Int).getD x.toNat 0∧([0,5,20,60,200,-8]:List Int).getD x.toNat 0≤1000:=by rcases (by omega:x=0∨x=1∨x=2∨x=3∨x=4∨x=5) with q | q | q | q | q | q <;> subst q <;> decide
   generalize ([0,5,20,60,200,-8]:List Int).getD x.toNat 0=y at *;refine Jus (dL ss) 10 (by rw[dL1];omega) (by omega) rfl ?_;refine Jt4 (vs:=[.l (dL (ss++[y])),.i ((ss++[y]).length:Int),.i (r+1),.l (Ja bs)]) ?_ ⟨m-1,by omega,ss++[y],r+1,rfl,by omega,by simp;omega,by simp;omega,by simp;omega,hss.snoc hy⟩;show [V.l (dL ss++[dI y]),V.i (i64.wrap ((ss.length:Int)+1)),V.i (r+1),V.l (Ja bs)]=_;rw[XI,w64 (by omega) (by omega)];simp
  ·show [dI (i64.wrap (1+u)),D.s (Jc as),D.s (dL gs),D.s (dL ss),D.s (Ja bs),dI r]=_;rw[w64 (by omega) (by omega)];rfl
  ·show gs.length≤3;omega
  ·show ss.length=3;omega
  ·have ho :∀a∈as,Qt a=true:=fun a ha=>(hs.2 a ha).2.2;have hl4:=hs.1;unfold JL Qw Qu;simp only[JuD,JuQ,Jq];exact⟨by omega,⟨by omega,ho⟩,Jp.2 ⟨by omega,hss⟩,⟨QI.2 ⟨by omega,hss.mono (by omega)⟩,by omega⟩,hgs⟩
 obtain⟨ds,e1,l,q,rfl,e2⟩:=key;exact⟨l,q,e1,e2⟩
theorem JnG (a b:List Int):dL a++dL b=dL (a++b):=by simp[dL]
theorem JB {bs:List Int} {p n:Int} (hr:Rdr bs p) (hf:p≤999999800000) (n1:1≤n) (n2:n≤2000000) :
  ∃ (l:Pln) (q:Int),Ev L f_k31 [.s (Ja bs),dI p,dI n] (l.cells++[.s (Ja bs),dI q])∧p≤q∧q≤p+5000∧JV l:=by
 have key : ∃ ds,Ev L f_k31 [.s (Ja bs),dI p,dI n] ds∧∃ (l:Pln) (q:Int),ds=l.cells++[.s (Ja bs),dI q]∧p≤q∧q≤p+5000∧JV l:=by
  refine Juy (vs:=[.l (Ja bs),.i p,.i n]) L_k31 rfl ?_;obtain⟨l,q,he,q1,q2,ha,hg,hs,_⟩:=JcJ hr (by omega);have hfit:JV l:=⟨ha.fit,by omega,by omega⟩;refine Jur (vs:=[.i l.n,.l (Jc l.acts),.l (dL l.gives),.l (dL l.start),.l (Ja bs),.i q]) he rfl rfl rfl ?_;simp only[sC,sN];refine Jd n (hr.go (q:=q) (by omega) (by omega)) n1 n2 rfl rfl fun u hu0 hu1=>?_;simp only[sC,sN];refine Jt8 (0<u) rfl (fun _=>Jue ⟨l,q+1,rfl,by omega,by omega,hfit⟩) (fun _=>?_);refine Jd 5 (hr.go (q:=q+1) (by omega) (by omega)) (by omega) (by omega) rfl rfl fun v hv0 hv1=>?_;simp only[sC,sN];refine Jt8 (v=0) rfl (fun _=>?_) (fun _=>?_)
  ·refine Jd 3 (hr.go (q:=q+1+1) (by omega) (by omega)) (by omega) (by omega) rfl rfl fun x hx0 hx1=>?_;simp only[sC,sN];refine Juf (0≤x) rfl hx0 ?_;refine Juf (x<3) rfl hx1 ?_;refine Jug (ds:=dL [0,5,-1]) x rfl rfl rfl hx0 (JY hx0 hx1) rfl ?_;exact Jue ⟨⟨([0,5,-1]:List Int).getD x.toNat 0,l.acts,l.gives,l.start⟩,q+1+1+1,rfl,by omega,by omega,hfit⟩
  refine Jt8 (v=1) rfl (fun _=>?_) (fun _=>?_)
  ·obtain⟨as,o,ea,o1,o2,hth⟩:=JeB (hr.go (q:=q+1+1) (by omega) (by omega)) (by omega) (n:=1) (by omega) (by omega);refine Jur ea rfl rfl rfl ?_;simp only[sC,sN];exact Jue ⟨⟨l.n,as,l.gives,l.start⟩,o,rfl,by omega,by omega,⟨hth.fit,hfit.2⟩⟩
  refine Jt8 (v=2) rfl (fun _=>?_) (fun _=>?_)
  ·refine Jd 4 (hr.go (q:=q+1+1) (by omega) (by omega)) (by omega) (by omega) rfl rfl fun x hx0 hx1=>?_;simp only[sC,sN];refine Juf (0≤x) rfl hx0 ?_;refine Juf (x<4) rfl hx1 ?_;refine Jug (ds:=dL [-1,51,3,3]) x rfl rfl rfl hx0 (JY hx0 hx1) rfl ?_;generalize ([-1,51,3,3]:List Int).getD x.toNat 0=y;refine Juj (dL (l.gives++[y,4,4])) 100 (by rw[dL1];simp;omega) (by omega) (JnG l.gives [y,4,4]) ?_;refine Jue ⟨⟨l.n,l.acts,l.gives++[y,4,4],l.start⟩,q+1+1+1,?_,by omega,by omega,⟨hfit.1,by simp;omega,hfit.2.2⟩⟩;show [dI l.n,D.s (Jc l.acts),D.s (dL l.gives++dL [y,4,4]),D.s (dL l.start),D.s (Ja bs),dI (q+1+1+1)]=_;rw[JnG];rfl
  refine Jt8 (v=3) rfl (fun _=>?_) (fun _=>?_)
  ·refine Jd 3 (hr.go (q:=q+1+1) (by omega) (by omega)) (by omega) (by omega) rfl rfl fun x hx0 hx1=>?_;simp only[sC,sN];refine Juf (0≤x) rfl hx0 ?_;refine Juf (x<3) rfl hx1 ?_;refine Jug (ds:=dL [1001,-1000,1000]) x rfl rfl rfl hx0 (JY hx0 hx1) rfl ?_;generalize ([1001,-1000,1000]:List Int).getD x.toNat 0=y;obtain⟨z,hz,_⟩:=sA1 (show 0<l.start.length by omega);refine Juf ((0:Int)<((dL l.start).length:Int)) rfl (by rw[dL1];omega) ?_;refine Juo 0 (mA1 (f:=dI) hz) rfl rfl rfl rfl ?_;refine Jue ⟨⟨l.n,l.acts,l.gives,l.start.set 0 y⟩,q+1+1+1,?_,by omega,by omega,⟨hfit.1,hfit.2.1,by simp;omega⟩⟩;show [dI l.n,D.s (Jc l.acts),D.s (dL l.gives),D.s ((dL l.start).set (0:Int).toNat (dI y)),D.s (Ja bs),dI (q+1+1+1)]=_;rw[QM];rfl
  ·refine Juf ((2:Int)≤((dL l.start).length:Int)) rfl (by rw[dL1];omega) ?_;refine Jue ⟨⟨l.n,l.acts,l.gives,l.start.take 2⟩,q+1+1,?_,by omega,by omega,⟨hfit.1,hfit.2.1,by simp;omega⟩⟩;show [dI l.n,D.s (Jc l.acts),D.s (dL l.gives),D.s ((dL l.start).take (2:Int).toNat),D.s (Ja bs),dI (q+1+1)]=_;rw[show ((2:Int).toNat)=2 from rfl,VU];rfl
 obtain⟨ds,e1,l,q,rfl,e2⟩:=key;exact⟨l,q,e1,e2⟩
theorem Zi (l:List Int) (hl:l.length≤2000000):Ev L f_k5m [.s (dL l),.s (dL l)] [dB true]:=by
 have h:=JfM l l hl
 rwa [decide_eq_true rfl] at h
theorem JbB (l:List Don) (hl:Wd YX l):Ev L f_k5o [.s (dDs l),.s (dDs l)] [dB true]:=by
 refine JuA (vs:=[.l (dDs l),.l (dDs l)]) L_k5o rfl ?_;have hl0:=hl.1;refine Juq (by show (!decide (((dDs l).length:Int)=((dDs l).length:Int)))=false;simp) ?_;refine Jt3 l.length (fun i=>[.i i]) (fun _=>True) rfl rfl trivial fun i hi _=>?_;simp only[sC,sN];refine JtY i (Xn l) rfl (fun h=>?_) (fun h=>Juk (Jue rfl));obtain⟨x,hx,hm⟩:=sA1 h;have hg:(dDs l)[i]? = some x.g:=mA1 (f:=Don.g) hx;have hco:=Jnb x.code x.code x.tells x.tells (hl.2 x hm);rw[decide_eq_true rfl,decide_eq_true rfl] at hco;refine Juo (vs:=[.i x.seq,.i x.code,.l (dL x.tells)]) i hg rfl rfl rfl rfl ?_;refine Juo (vs:=[.i x.seq,.i x.code,.l (dL x.tells)]) i hg rfl rfl rfl rfl ?_;simp only[sC,sN];refine Juq (by show (!decide (x.seq=x.seq))=false;simp) ?_;refine Juo (vs:=[.i x.seq,.i x.code,.l (dL x.tells)]) i hg rfl rfl rfl rfl ?_;refine Juo (vs:=[.i x.seq,.i x.code,.l (dL x.tells)]) i hg rfl rfl rfl rfl ?_;simp only[sC,sN];refine Jur hco rfl rfl rfl (Juq rfl ?_);exact Jt4 (vs:=[.i ((i+1:Nat):Int)]) (by rw[←wS h (by omega)];rfl) ⟨h,rfl,trivial⟩
theorem Jgq (l:List Cal) (hl:l.length≤2000000) (ht :∀d∈l,d.args.length≤2000000):Ev L f_k5q [.s (dCs l),.s (dCs l)] [dB true]:=by
 refine JuA (vs:=[.l (dCs l),.l (dCs l)]) L_k5q rfl ?_;refine Juq (by show (!decide (((dCs l).length:Int)=((dCs l).length:Int)))=false;simp) ?_;refine Jt3 l.length (fun i=>[.i i]) (fun _=>True) rfl rfl trivial fun i hi _=>?_;simp only[sC,sN];refine JtY i (Xb l) rfl (fun h=>?_) (fun h=>Juk (Jue rfl));obtain⟨x,hx,hm⟩:=sA1 h;have hg:(dCs l)[i]? = some x.g:=mA1 (f:=Cal.g) hx;have hco:Ev L f_k5p (x.cells++x.cells) [dB true]:=by
  refine JuA (vs:=[.i x.client,.i x.seq,.i x.act,.l (dL x.args),.i x.client,.i x.seq,.i x.act,.l (dL x.args)]) L_k5p rfl ?_;refine Jua (by show decide (x.client=x.client)=true;simp) ?_;refine Jua (by show decide (x.seq=x.seq)=true;simp) ?_;refine Jua (by show decide (x.act=x.act)=true;simp) ?_;exact Jur (Zi x.args (ht x hm)) rfl rfl rfl (Jue rfl)
 refine Juo (vs:=[.i x.client,.i x.seq,.i x.act,.l (dL x.args)]) i hg rfl rfl rfl rfl ?_;refine Juo (vs:=[.i x.client,.i x.seq,.i x.act,.l (dL x.args)]) i hg rfl rfl rfl rfl ?_;simp only[sC,sN];refine Jur hco rfl rfl rfl (Juq rfl ?_);exact Jt4 (vs:=[.i ((i+1:Nat):Int)]) (by rw[←wS h (by omega)];rfl) ⟨h,rfl,trivial⟩
theorem Ui (c:Clk) (hk:Qy c):Ev L f_k5r (c.cells++c.cells) [dB true]:=by
 refine JuA (vs:=[.b c.up,.i c.round,.l (dL c.base),.l (dDs c.done),.l (dCs c.wants),.l (dGs c.got),.b c.up,.i c.round,.l (dL c.base),.l (dDs c.done),.l (dCs c.wants),.l (dGs c.got)]) L_k5r rfl ?_;have hgl:=hk.g;refine Juq (by show (!(c.up == c.up))=false;simp) ?_;refine Juq (by show (!decide (c.round=c.round))=false;simp) ?_;refine Jur (Zi c.base hk.b) rfl rfl rfl (Juq rfl ?_);refine Jur (JbB c.done ⟨hk.d,hk.dt⟩) rfl rfl rfl (Juq rfl ?_);refine Jur (Jgq c.wants hk.c hk.ct) rfl rfl rfl (Juq rfl ?_);refine Juq (by show (!decide (((dGs c.got).length:Int)=((dGs c.got).length:Int)))=false;simp) ?_;simp only[sC,sN];refine Jt3 c.got.length (fun i=>[.i i]) (fun _=>True) rfl rfl trivial fun i hi _=>?_;simp only[sC,sN];refine JtY i (Xm c.got) rfl (fun h=>?_) (fun h=>Juk (Jue rfl));obtain⟨x,hx,hm⟩:=sA1 h;have hg:(dGs c.got)[i]? = some x.g:=mA1 (f:=Got.g) hx;have hxf:=hk.gt x hm;refine Juo (vs:=[.b x.has,.l (dL x.added),.l (dL x.seqs)]) i hg rfl rfl rfl rfl ?_;refine Juo (vs:=[.b x.has,.l (dL x.added),.l (dL x.seqs)]) i hg rfl rfl rfl rfl ?_;simp only[sC,sN];refine Juq (by show (!(x.has == x.has))=false;simp) ?_;refine Juo (vs:=[.b x.has,.l (dL x.added),.l (dL x.seqs)]) i hg rfl rfl rfl rfl ?_;refine Juo (vs:=[.b x.has,.l (dL x.added),.l (dL x.seqs)]) i hg rfl rfl rfl rfl ?_;simp only[sC,sN];refine Jur (Zi x.added hxf.1) rfl rfl rfl (Juq rfl ?_);simp only[sC,sN];refine Juo (vs:=[.b x.has,.l (dL x.added),.l (dL x.seqs)]) i hg rfl rfl rfl rfl ?_;refine Juo (vs:=[.b x.has,.l (dL x.added),.l (dL x.seqs)]) i hg rfl rfl rfl rfl ?_
 simp only[sC,sN];refine Jur (Zi x.seqs hxf.2) rfl rfl rfl (Juq rfl ?_);exact Jt4 (vs:=[.i ((i+1:Nat):Int)]) (by rw[←wS h (by omega)];rfl) ⟨h,rfl,trivial⟩
theorem Jd8 {n:Int} (h0:0≤n):J4 n (List.replicate n.toNat Wb)=true:=by
 unfold J4;rw[JuD];refine⟨by simp;omega,?_⟩;rw[JuQ];intro d hd;rw[(List.mem_replicate.1 hd).2];rfl
theorem JlG (as:List (List Jg)):QP (Jb as)=true:=by
 unfold QP;rw[JuQ];intro p hp;have:=(Xc as).each p hp;exact Jp.2 ⟨by omega,this.2⟩
theorem JbG {p:Pln} (h:JL p=true):JR p.start=true:=by
 simp only[JL,JuD,Jp] at h;have:=h.2.2.1;have hl:Lim 1000 p.start:=this.2;exact QI.2 ⟨by omega,hl.mono (by omega)⟩
theorem QC {p:Pln} (h:JL p=true):1≤p.gives.length∧p.gives.length≤3:=by
 have:=(J9 h).2.2.2;simp only[Qw,JuD,Jq] at this;omega
theorem Jm5 {p:Pln} (h:JL p=true):Xu p (XX p)=true∧Jhc p (XX p)=false:=by
 obtain⟨n1,n2,h3,_⟩:=J9 h;have hg:=QC h;have hs:XX p=⟨true,0,p.start,List.replicate p.n.toNat Wb,[],List.replicate p.gives.length Qn⟩:=by unfold XX;rw[if_pos h]
 have hgot :∀j,YT p p.start (List.replicate p.gives.length Qn) j=true:=fun j=>by
  unfold YT;have:(List.replicate p.gives.length Qn).getD j Qn=Qn:=by
   rw[JuG,List.getElem?_replicate];split <;> rfl
  rw[this];rfl
 have hh:Xy (List.replicate p.gives.length Qn)=0:=by
  unfold Xy;rw[List.length_eq_zero_iff,List.filter_eq_nil_iff];intro x hx;rw[(List.mem_replicate.1 hx).2];simp[Qn]
 have hok:Xu p (XX p)=true:=by
  rw[hs];unfold Xu X8;rw[h,JbG h,Jd8 (by omega),X6.2 fun j _=>hgot j];simp[inB,JQ]
 refine⟨hok,?_⟩;unfold Jhc;rw[hok,hs];show (true&&decide (Xy (List.replicate p.gives.length Qn)=p.gives.length))=false;rw[hh,JuX];exact decide_eq_false (by omega)
/- Worlds: sizes,copies,comparisons; which of them are ok: over residual programs. -/
structure UV where
 call:Cal
 code:Int
 tells:List Int
 deriving DecidableEq
abbrev dSt (l:List Sit):List D:=l.map Sit.g
abbrev dCn (l:List Con):List D:=l.map Con.g
abbrev dMs (l:List Msg):List D:=l.map Msg.g
def UV.cells (x:UV):List D:=[dI x.call.client,dI x.call.seq,dI x.call.act,.s (dL x.call.args),dI x.code,.s (dL x.tells)]
def UV.g (x:UV):D:= .g x.cells
abbrev dLg (l:List UV):List D:=l.map UV.g
def Jlf (x:UV):Prop:=x.call.args.length≤2000000∧x.tells.length≤2000000
structure Wrl where
 p:Pln
 sites:List Sit
 c:Clk
 cons:List Con
 net:List Msg
 log:List UV
def Wrl.cells (w:Wrl):List D:=w.p.cells++[.s (dSt w.sites)]++w.c.cells++[.s (dCn w.cons),.s (dMs w.net),.s (dLg w.log)]
structure JjY (w:Wrl):Prop where
 p:JV w.p
 s:Wd KH w.sites
 c:Qy w.c
 n:Wd JjC w.cons
 m:Wd Vx w.net
 l:Wd Jlf w.log
def XM (p:Pln) (k:Int) (x:Con):Bool:=Xj ⟨x.seq,x.code,x.tells⟩&&(if x.busy then Jl p x.call&&(decide (x.call.client=k)&&decide (x.call.seq=x.seq+1)) else Zo x.call)
theorem Jg4 (p:Pln) (x:Con) (k:Int) (hp:JV p) (h1:1≤p.n) (h2:p.n≤4) (hx:JjC x):Ev L f_k1l (p.cells++x.cells++[dI k]) [dB (XM p k x)]:=by
 refine JuA (vs:=[.i p.n,.l (Jc p.acts),.l (dL p.gives),.l (dL p.start),.i x.seq,.b x.busy,.i x.call.client,.i x.call.seq,.i x.call.act,.l (dL x.call.args),.i x.code,.l (dL x.tells),.i k]) L_k1l rfl ?_;have bad:Xj ⟨x.seq,x.code,x.tells⟩=false→[dB false]=[dB (XM p k x)]:=fun h=>by unfold XM;rw[h];rfl
 refine Jur (JP x.seq 0 300) rfl rfl rfl ?_;simp only[sC,sN];refine Jum (inB x.seq 0 300) rfl (fun b=>Jue (bad ?_)) (fun b=>?_)
 ·unfold Xj;rw[if_neg (by intro e;have e:x.seq=0:=e;rw[e] at b;simp[inB] at b)];have:inB x.seq 1 300=false:=by
   unfold inB at b ⊢;simp only[Bool.and_eq_false_iff,decide_eq_false_iff_not] at b ⊢;omega
  show (inB x.seq 1 300&&_)=false;rw[this];rfl
 have hc:Xj ⟨x.seq,x.code,x.tells⟩=if decide (x.seq=0)=decide (x.code=0) then(if x.seq=0 then decide (x.tells.length=0) else JK x.code x.tells) else false:=JbW (d:=⟨x.seq,x.code,x.tells⟩) b;have hsq:0≤x.seq∧x.seq≤300:=by unfold inB at b;simp only[JuD,decide_eq_true_eq] at b;exact b
 refine Jum (decide (x.seq=0) == decide (x.code=0)) rfl (fun e=>Jue (bad (by rw[hc,if_neg (by simpa using e)]))) (fun e=>?_);rw[if_pos (by simpa using e)] at hc;have hv:Xj ⟨x.seq,x.code,x.tells⟩=true→XM p k x=(if x.busy then Jl p x.call&&(decide (x.call.client=k)&&decide (x.call.seq=x.seq+1)) else Zo x.call):=fun h=>by unfold XM;rw[h];rfl
 refine Jt8 (x.seq=0) rfl (fun h0=>?_) (fun h0=>?_)
 ·rw[if_pos h0] at hc;refine Jt8 (0<((dL x.tells).length:Int)) rfl (fun ht=>Jue (bad ?_)) (fun ht=>?_)
  ·rw[dL1] at ht;rw[hc];exact decide_eq_false (by omega)
  have hv:=hv (by rw[dL1] at ht;rw[hc];exact decide_eq_true (by omega));refine Juq (by show decide ((0:Int)<x.seq)=false;rw[h0];rfl) ?_;refine Jum x.busy rfl (fun u=>?_) (fun u=>?_)
  ·have hv2:XM p k x=Zo x.call:=by rw[hv,u];rfl
   rw[hv2];refine Jt8 (x.call.client=0) rfl (fun a=>?_) (fun a=>Jue (by show [dB false]=_;simp[Zo,a]));refine Jt8 (x.call.seq=0) rfl (fun b=>?_) (fun b=>Jue (by show [dB false]=_;simp[Zo,b]));refine Jt8 (x.call.act=0) rfl (fun d=>Jue ?_) (fun d=>Jue (by show [dB false]=_;simp[Zo,d]));show [dB (decide (((dL x.call.args).length:Int)=0))]=_;rw[Ke _ (dL1 _)];simp[Zo,a,b,d]
  ·have hv2:XM p k x=(Jl p x.call&&(decide (x.call.client=k)&&decide (x.call.seq=x.seq+1))):=by rw[hv,u];rfl
   rw[hv2];refine Jur (Qr p x.call hp h1 h2 hx.1) rfl rfl rfl ?_;simp only[sC,sN];refine Jud (Jl p x.call) rfl (fun a=>?_) (fun a=>Jue (by show [dB false]=_;rw[a];rfl));refine Jt8 (x.call.client=k) rfl (fun b=>Jue ?_) (fun b=>Jue (by show [dB false]=_;simp[b]));show [dB (decide (x.call.seq=i64.wrap (x.seq+1)))]=_;rw[w64 (by omega) (by omega),a,decide_eq_true b];rfl
 ·rw[if_neg h0] at hc;refine Jua (by show decide ((0:Int)<x.seq)=true;simp;omega) ?_;refine Jur (Jbx x.code x.tells hx.2) rfl rfl rfl ?_;simp only[sC,sN];refine Jum (JK x.code x.tells) rfl (fun e=>Jue (bad (by rw[hc,e]))) (fun e=>?_);have hv:=hv (by rw[hc,e]);refine Jum x.busy rfl (fun u=>?_) (fun u=>?_)
  ·have hv2:XM p k x=Zo x.call:=by rw[hv,u];rfl
   rw[hv2];refine Jt8 (x.call.client=0) rfl (fun a=>?_) (fun a=>Jue (by show [dB false]=_;simp[Zo,a]));refine Jt8 (x.call.seq=0) rfl (fun b=>?_) (fun b=>Jue (by show [dB false]=_;simp[Zo,b]));refine Jt8 (x.call.act=0) rfl (fun d=>Jue ?_) (fun d=>Jue (by show [dB false]=_;simp[Zo,d]));show [dB (decide (((dL x.call.args).length:Int)=0))]=_;rw[Ke _ (dL1 _)];simp[Zo,a,b,d]
  ·have hv2:XM p k x=(Jl p x.call&&(decide (x.call.client=k)&&decide (x.call.seq=x.seq+1))):=by rw[hv,u];rfl
   rw[hv2];refine Jur (Qr p x.call hp h1 h2 hx.1) rfl rfl rfl ?_;simp only[sC,sN];refine Jud (Jl p x.call) rfl (fun a=>?_) (fun a=>Jue (by show [dB false]=_;rw[a];rfl));refine Jt8 (x.call.client=k) rfl (fun b=>Jue ?_) (fun b=>Jue (by show [dB false]=_;simp[b]));show [dB (decide (x.call.seq=i64.wrap (x.seq+1)))]=_;rw[w64 (by omega) (by omega),a,decide_eq_true b];rfl
def YO (p:Pln) (x:UV):Bool:=Jl p x.call&&JK x.code x.tells
def JcU (p:Pln) (l:List UV):Bool:=decide (l.length≤100)&&l.all (YO p)
theorem Jm3 (p:Pln) (l:List UV) (hp:JV p) (h1:1≤p.n) (h2:p.n≤4) (hl:Wd Jlf l):Ev L f_k1d (p.cells++[.s (dLg l)]) [dB (JcU p l)]:=by
 refine JuA (vs:=[.i p.n,.l (Jc p.acts),.l (dL p.gives),.l (dL p.start),.l (dLg l)]) L_k1d rfl ?_;have hlen:(dLg l).length=l.length:=by simp[dLg]
 have hl0:=hl.1;refine Jt8 ((100:Int)<(l.length:Int)) (by show decide ((100:Int)<((dLg l).length:Int))=_;rw[hlen]) (fun h=>Jue (by show [dB false]=_;unfold JcU;rw[decide_eq_false (by omega)];rfl)) (fun h=>?_);have hv:JcU p l=l.all (YO p):=by unfold JcU;rw[decide_eq_true (by omega),JuX]
 rw[hv];refine Jt3 l.length (fun i=>[.i i]) (fun i=>((l.take i).all (YO p))=true) rfl rfl rfl fun i hi hq=>?_;simp only[sC,sN];refine JtY i hlen rfl (fun h'=>?_) (fun h'=>Juk (Jue ?_))
 ·obtain⟨x,hx,hm⟩:=sA1 h';have hf:=hl.2 x hm;have bad:YO p x=false→[dB false]=[dB (l.all (YO p))]:=fun hb=>by
   have:l.all (YO p)=false:=by rw[←List.take_append_drop i l,List.all_append,XF hx];simp[hb]
   rw[this]
  have good:YO p x=true→((l.take (i+1)).all (YO p))=true:=fun hb=>by rw[tS1 hx,List.all_append,hq];simp[hb]
  refine Juo (vs:=[.i x.call.client,.i x.call.seq,.i x.call.act,.l (dL x.call.args),.i x.code,.l (dL x.tells)]) i (mA1 (f:=UV.g) hx) rfl rfl rfl rfl ?_;simp only[sC,sN];refine Jur (Qr p x.call hp h1 h2 hf.1) rfl rfl rfl ?_;simp only[sC,sN];refine Jum (Jl p x.call) rfl (fun a=>Juk (Jue (bad (by unfold YO;rw[a];rfl)))) (fun a=>?_);refine Juo (vs:=[.i x.call.client,.i x.call.seq,.i x.call.act,.l (dL x.call.args),.i x.code,.l (dL x.tells)]) i (mA1 (f:=UV.g) hx) rfl rfl rfl rfl ?_;simp only[sC,sN];refine Jur (Jbx x.code x.tells hf.2) rfl rfl rfl ?_;simp only[sC,sN];exact Jum (JK x.code x.tells) rfl (fun b=>Juk (Jue (bad (by unfold YO;rw[a,b];rfl)))) (fun b=>Jt4 (vs:=[.i ((i+1:Nat):Int)]) (by rw[←wS h' (by omega)];rfl) ⟨h',rfl,good (by unfold YO;rw[a,b];rfl)⟩)
 ·show [dB true]=_;rw[tA1 h'] at hq;rw[hq]
def JlL:Con:=⟨0,false,⟨0,0,0,[]⟩,0,[]⟩
def JlJ:Sit:=⟨false,false,0,[],[],[]⟩
def Vy (w:Wrl):Bool:=decide (w.sites.length=w.p.gives.length)&&(decide ((w.cons.length:Int)=w.p.n)&&(decide (w.net.length≤30)&&(JcU w.p w.log &&
 (JQ w.sites.length (fun j=>QW w.p (w.sites.getD j JlJ) j)&&(JQ w.cons.length (fun j=>XM w.p j (w.cons.getD j JlL))&&(w.net.all (JX w.p)&&X8 w.p w.c))))))
theorem JoU (w:Wrl) (hf:JjY w) (h1:1≤w.p.n) (h2:w.p.n≤4) (hc:Qu w.p.acts=true):Ev L f_k1s (w.cells++[.s (dLL (Jb w.p.acts)),.s (dBl (Jj w.p.acts))]) [dB (Vy w)]:=by
 refine JuA (vs:=[.i w.p.n,.l (Jc w.p.acts),.l (dL w.p.gives),.l (dL w.p.start),.l (dSt w.sites),.b w.c.up,.i w.c.round,.l (dL w.c.base),.l (dDs w.c.done),.l (dCs w.c.wants),.l (dGs w.c.got),.l (dCn w.cons),.l (dMs w.net),.l (dLg w.log),.l (dLL (Jb w.p.acts)),.l (dBl (Jj w.p.acts))]) L_k1s rfl ?_;obtain⟨fp,fs,fc,fn,fm,fl⟩:=hf;have s0:=fs.1;have n0:=fn.1;have m0:=fm.1;refine Jum (decide (w.sites.length=w.p.gives.length)) (by show (!decide (((dSt w.sites).length:Int)=((dL w.p.gives).length:Int)))=_;rw[dL1,show (dSt w.sites).length=w.sites.length from JuM ..];simp[Int.ofNat_inj]) (fun b=>Jue (by show [dB false]=_;unfold Vy;rw[b];simp)) (fun a1=>?_);refine Jum (decide ((w.cons.length:Int)=w.p.n)) (by show (!decide (((dCn w.cons).length:Int)=w.p.n))=_;rw[show (dCn w.cons).length=w.cons.length from JuM ..]) (fun b=>Jue (by show [dB false]=_;unfold Vy;rw[b];simp)) (fun a2=>?_);refine Jt8 ((30:Int)<(w.net.length:Int)) (by show decide ((30:Int)<((dMs w.net).length:Int))=_;rw[show (dMs w.net).length=w.net.length from JuM ..]) (fun h=>Jue (by show [dB false]=_;unfold Vy;rw[decide_eq_false (show ¬w.net.length≤30 by omega)];simp)) (fun h30=>?_);refine Jur (Jm3 w.p w.log fp h1 h2 fl) rfl rfl rfl ?_;simp only[sC,sN];refine Jum (JcU w.p w.log) rfl (fun b=>Jue (by show [dB false]=_;unfold Vy;rw[b];simp)) (fun a3=>?_);have e:Vy w=(JQ w.sites.length (fun j=>QW w.p (w.sites.getD j JlJ) j)&&(JQ w.cons.length (fun j=>XM w.p j (w.cons.getD j JlL))&&(w.net.all (JX w.p)&&X8 w.p w.c))):=by unfold Vy;rw[a1,a2,a3,decide_eq_true (show w.net.length≤30 by omega)];simp only[JuX]
 rw[e];refine Jt3 w.sites.length (fun i=>[.i i]) (fun i=>JQ i (fun j=>QW w.p (w.sites.getD j JlJ) j)=true) rfl rfl rfl fun i hi hq=>?_;simp only[sC,sN];refine JtY i (JuM (f:=Sit.g) (as:=w.sites)) rfl (fun h'=>?_) (fun h'=>Juk ?_)
 ·obtain⟨x,hx,hm⟩:=sA1 h';have hfi:QW w.p (w.sites.getD i JlJ) i=QW w.p x i:=by rw[Qd hx]
  have bad:QW w.p x i=false→∀B:Bool,[dB false]=[dB (JQ w.sites.length (fun j=>QW w.p (w.sites.getD j JlJ) j)&&B)]:=fun h B=>by rw[ZY h' (hfi.trans h)];rfl
  have good:QW w.p x i=true→JQ (i+1) (fun j=>QW w.p (w.sites.getD j JlJ) j)=true:=fun h=>by rw[Zb,hq,hfi,h];rfl
  refine Juo (vs:=[.b x.up,.b x.frozen,.i x.round,.l (dL x.base),.l (dL x.added),.l (dDs x.done)]) i (mA1 (f:=Sit.g) hx) rfl rfl rfl rfl ?_;simp only[sC,sN];refine Jur (JpS w.p x i fp (fs.2 x hm) hc) rfl rfl rfl ?_;simp only[sC,sN];exact Jum (QW w.p x i) rfl (fun e=>Juk (Jue (bad e _))) (fun e=>Jt4 (vs:=[.i ((i+1:Nat):Int)]) (by rw[←wS h' (by omega)];rfl) ⟨h',rfl,good e⟩)
 rw[show i=w.sites.length by omega] at hq;rw[hq,JuX];clear hq h' hi;refine Jt3 w.cons.length (fun i=>[.i i]) (fun i=>JQ i (fun j=>XM w.p j (w.cons.getD j JlL))=true) rfl rfl rfl fun i hi hq=>?_;simp only[sC,sN];refine JtY i (JuM (f:=Con.g) (as:=w.cons)) rfl (fun h'=>?_) (fun h'=>Juk ?_)
 ·obtain⟨x,hx,hm⟩:=sA1 h';have hfi:XM w.p i (w.cons.getD i JlL)=XM w.p i x:=by rw[Qd hx]
  have bad:XM w.p i x=false→∀B:Bool,[dB false]=[dB (JQ w.cons.length (fun j=>XM w.p j (w.cons.getD j JlL))&&B)]:=fun h B=>by rw[ZY h' (hfi.trans h)];rfl
  have good:XM w.p i x=true→JQ (i+1) (fun j=>XM w.p j (w.cons.getD j JlL))=true:=fun h=>by rw[Zb,hq,hfi,h];rfl
  refine Juo (vs:=[.i x.seq,.b x.busy,.i x.call.client,.i x.call.seq,.i x.call.act,.l (dL x.call.args),.i x.code,.l (dL x.tells)]) i (mA1 (f:=Con.g) hx) rfl rfl rfl rfl ?_;simp only[sC,sN];refine Jur (Jg4 w.p x i fp h1 h2 (fn.2 x hm)) rfl rfl rfl ?_;simp only[sC,sN];exact Jum (XM w.p i x) rfl (fun e=>Juk (Jue (bad e _))) (fun e=>Jt4 (vs:=[.i ((i+1:Nat):Int)]) (by rw[←wS h' (by omega)];rfl) ⟨h',rfl,good e⟩)
 rw[show i=w.cons.length by omega] at hq;rw[hq,JuX];clear hq h' hi;refine Jt3 w.net.length (fun i=>[.i i]) (fun i=>((w.net.take i).all (JX w.p))=true) rfl rfl rfl fun i hi hq=>?_;simp only[sC,sN];refine JtY i (JuM (f:=Msg.g) (as:=w.net)) rfl (fun h'=>?_) (fun h'=>Juk ?_)
 ·obtain⟨x,hx,hm⟩:=sA1 h';have bad:JX w.p x=false→[dB false]=[dB (w.net.all (JX w.p)&&X8 w.p w.c)]:=fun hb=>by
   have:w.net.all (JX w.p)=false:=by rw[←List.take_append_drop i w.net,List.all_append,XF hx];simp[hb]
   rw[this];rfl
  have good:JX w.p x=true→((w.net.take (i+1)).all (JX w.p))=true:=fun hb=>by rw[tS1 hx,List.all_append,hq];simp[hb]
  refine Juo (vs:=[.i x.kind,.i x.to,.i x.frm,.i x.round,.i x.call.client,.i x.call.seq,.i x.call.act,.l (dL x.call.args),.l (dL x.vals),.l (dL x.seqs),.l (dDs x.done)]) i (mA1 (f:=Msg.g) hx) rfl rfl rfl rfl ?_;simp only[sC,sN];refine Jur (JpM w.p x fp h1 h2 (fm.2 x hm)) rfl rfl rfl ?_;simp only[sC,sN];exact Jum (JX w.p x) rfl (fun e=>Juk (Jue (bad e))) (fun e=>Jt4 (vs:=[.i ((i+1:Nat):Int)]) (by rw[←wS h' (by omega)];rfl) ⟨h',rfl,good e⟩)
 rw[tA1 h'] at hq;rw[hq,JuX];exact Jur (Jlx w.p w.c fp fc h1 h2 hc) rfl rfl rfl (Jue rfl)
/- Marks,and what is held,of lists of messages: over residual programs. Printed by wip/tools/pzz.py. -/
def Msg.w (x:Msg):Nat:=7+x.call.args.length+x.vals.length+x.seqs.length+wts Don.w x.done
/- The program's ClkFall answers as the reference's: over residual programs. -/
theorem JZ (x:Cal) (h:x.args.length≤2000000):Ev L f_k1v x.cells x.cells:=by
 refine JuA (vs:=[.i x.client,.i x.seq,.i x.act,.l (dL x.args)]) L_k1v rfl ?_;refine Juj (dL x.args) 2000000 (by rw[dL1];omega) (by omega) rfl ?_;refine Juc (JT x.args) ?_;exact Juj (dL x.args) 2000000 (by rw[dL1];omega) (by omega) rfl (Jue rfl)
theorem Jez (x:Cal) (h:x.args.length≤2000000):Ev L f_k5d x.cells x.cells :=
 JuA (vs:=[.i x.client,.i x.seq,.i x.act,.l (dL x.args)]) L_k5d rfl (Jur (vs:=[.l (dL x.args)]) (Ys x.args h) rfl rfl rfl (Jue rfl))
theorem ZJ (c:Clk) (hc:Qy c):Ev L f_k1w c.cells c.cells:=by
 refine JuA (vs:=[.b c.up,.i c.round,.l (dL c.base),.l (dDs c.done),.l (dCs c.wants),.l (dGs c.got)]) L_k1w rfl ?_;have h1:=hc.b;have h2:=hc.c;have h3:=hc.g;refine Juj (dL c.base) 2000000 (by rw[dL1];omega) (by omega) rfl ?_;refine Juc (JT c.base) ?_;refine Juj (dL c.base) 2000000 (by rw[dL1];omega) (by omega) rfl ?_;refine Jur (vs:=[.l (dDs c.done)]) (Zd c.done ⟨hc.d,hc.dt⟩) rfl rfl rfl ?_;simp only[sC,sN];refine Jt3 c.wants.length (fun i=>[.l (dCs (c.wants.take i)),.i i]) (fun _=>True) rfl rfl trivial fun i hi _=>?_;simp only[sC,sN];refine JtY i (Xb c.wants) rfl (fun h=>?_) (fun h=>Juk ?_)
 ·obtain⟨x,hx,hm⟩:=sA1 h;refine Juo (vs:=[.i x.client,.i x.seq,.i x.act,.l (dL x.args)]) i (mA1 (f:=Cal.g) hx) rfl rfl rfl rfl ?_;simp only[sC,sN];refine Jur (vs:=[.i x.client,.i x.seq,.i x.act,.l (dL x.args)]) (JZ x (hc.ct x hm)) rfl rfl rfl ?_;simp only[sC,sN];refine Jus (dCs (c.wants.take i)) 2000000 (by rw[Xb,JuS];omega) (by omega) rfl ?_;refine Jt4 (vs:=[.l (dCs (c.wants.take (i+1))),.i ((i+1:Nat):Int)]) ?_ ⟨h,rfl,trivial⟩;show [V.l (dCs (c.wants.take i)++[x.g]),V.i (i64.wrap ((i:Int)+1))]=_;rw[wS h (by omega),tS1 hx];simp only[dCs,List.map_append,JuL,List.map_nil]
 rw[tA1 h];refine Jt3 c.got.length (fun i=>[.l (dGs (c.got.take i)),.i i]) (fun _=>True) rfl rfl trivial fun j hj _=>?_;simp only[sC,sN];refine JtY j (Xm c.got) rfl (fun h=>?_) (fun h=>Juk (Jue ?_))
 ·obtain⟨x,hx,hm⟩:=sA1 h;have hg:(dGs c.got)[j]? = some x.g:=mA1 (f:=Got.g) hx;have hx1:=hc.gt x hm;have ha:(dL x.added).length≤2000000:=by rw[dL1];exact hx1.1
  have hs:(dL x.seqs).length≤2000000:=by rw[dL1];exact hx1.2
  refine Juo (vs:=[.b x.has,.l (dL x.added),.l (dL x.seqs)]) j hg rfl rfl rfl rfl ?_;simp only[sC,sN];refine Juo (vs:=[.b x.has,.l (dL x.added),.l (dL x.seqs)]) j hg rfl rfl rfl rfl ?_;simp only[sC,sN];refine Juj (dL x.added) 2000000 ha (by omega) rfl ?_;refine Juc (JT x.added) ?_;refine Juj (dL x.added) 2000000 ha (by omega) rfl ?_;refine Juo (vs:=[.b x.has,.l (dL x.added),.l (dL x.seqs)]) j hg rfl rfl rfl rfl ?_;simp only[sC,sN];refine Juj (dL x.seqs) 2000000 hs (by omega) rfl ?_;refine Juc (JT x.seqs) ?_;refine Juj (dL x.seqs) 2000000 hs (by omega) rfl ?_;refine Jus (dGs (c.got.take j)) 2000000 (by rw[Xm,JuS];omega) (by omega) rfl ?_;refine Jt4 (vs:=[.l (dGs (c.got.take (j+1))),.i ((j+1:Nat):Int)]) ?_ ⟨h,rfl,trivial⟩;show [V.l (dGs (c.got.take j)++[x.g]),V.i (i64.wrap ((j:Int)+1))]=_;rw[wS h (by omega),tS1 hx];simp only[dGs,List.map_append,JuL,List.map_nil]
 ·rw[tA1 h];rfl
theorem JfT (c:Clk) (hc:Qy c):Ev L f_k5g c.cells c.cells:=by
 refine JuA (vs:=[.b c.up,.i c.round,.l (dL c.base),.l (dDs c.done),.l (dCs c.wants),.l (dGs c.got)]) L_k5g rfl ?_;have h2:=hc.c;have h3:=hc.g;refine Jt3 c.wants.length (fun i=>[.l (dCs (c.wants.take i)),.i i]) (fun _=>True) rfl rfl trivial fun i hi _=>?_;simp only[sC,sN];refine JtY i (Xb c.wants) rfl (fun h=>?_) (fun h=>Juk ?_)
 ·obtain⟨x,hx,hm⟩:=sA1 h;refine Juo (vs:=[.i x.client,.i x.seq,.i x.act,.l (dL x.args)]) i (mA1 (f:=Cal.g) hx) rfl rfl rfl rfl ?_;simp only[sC,sN];refine Jur (vs:=[.i x.client,.i x.seq,.i x.act,.l (dL x.args)]) (Jez x (hc.ct x hm)) rfl rfl rfl ?_;simp only[sC,sN];refine Juv (KL dI (fun _=>rfl) x.args) ?_;refine Jus (dCs (c.wants.take i)) 2000000 (by rw[Xb,JuS];omega) (by omega) rfl ?_;refine Jt4 (vs:=[.l (dCs (c.wants.take (i+1))),.i ((i+1:Nat):Int)]) ?_ ⟨h,rfl,trivial⟩;show [V.l (dCs (c.wants.take i)++[x.g]),V.i (i64.wrap ((i:Int)+1))]=_;rw[wS h (by omega),tS1 hx];simp only[dCs,List.map_append,JuL,List.map_nil]
 rw[tA1 h];refine Jt3 c.got.length (fun i=>[.l (dGs (c.got.take i)),.i i]) (fun _=>True) rfl rfl trivial fun j hj _=>?_;simp only[sC,sN];refine JtY j (Xm c.got) rfl (fun h=>?_) (fun h=>Juk ?_)
 ·obtain⟨x,hx,hm⟩:=sA1 h;have hx1:=hc.gt x hm;refine Juo (vs:=[.b x.has,.l (dL x.added),.l (dL x.seqs)]) j (mA1 (f:=Got.g) hx) rfl rfl rfl rfl ?_;simp only[sC,sN];refine Jur (vs:=[.l (dL x.added)]) (Ys x.added hx1.1) rfl rfl rfl ?_;refine Jur (vs:=[.l (dL x.seqs)]) (Ys x.seqs hx1.2) rfl rfl rfl ?_;simp only[sC,sN];refine Juv (KL dI (fun _=>rfl) x.added) ?_;refine Juv (KL dI (fun _=>rfl) x.seqs) ?_;refine Jus (dGs (c.got.take j)) 2000000 (by rw[Xm,JuS];omega) (by omega) rfl ?_;refine Jt4 (vs:=[.l (dGs (c.got.take (j+1))),.i ((j+1:Nat):Int)]) ?_ ⟨h,rfl,trivial⟩;show [V.l (dGs (c.got.take j)++[x.g]),V.i (i64.wrap ((j:Int)+1))]=_;rw[wS h (by omega),tS1 hx];simp only[dGs,List.map_append,JuL,List.map_nil]
 rw[tA1 h];refine Jur (vs:=[.l (dL c.base)]) (Ys c.base hc.b) rfl rfl rfl ?_;exact Jur (vs:=[.l (dDs c.done)]) (Jnr c.done ⟨hc.d,hc.dt⟩) rfl rfl rfl (Jue rfl)
def Qm (c:Clk) (u:Bool):Clk:=if c.up=u then c else ⟨u,c.round,c.base,c.done,[],List.replicate c.got.length Qn⟩
def XA (p:Pln) (c:Clk) (u:Bool):Clk:=if Xu p c then Qm c u else ⟨false,0,[],[],[],[]⟩
theorem Jfs (p:Pln) (c:Clk) (u:Bool) (hp:JV p) (hc:Qy c) (hl:c.got.length=p.gives.length):Ev L f_k2s (p.cells++c.cells++[dB u]) (Qm c u).cells:=by
 refine JuA (vs:=[.i p.n,.l (Jc p.acts),.l (dL p.gives),.l (dL p.start),.b c.up,.i c.round,.l (dL c.base),.l (dDs c.done),.l (dCs c.wants),.l (dGs c.got),.b u]) L_k2s rfl ?_;refine Jur (vs:=[.b c.up,.i c.round,.l (dL c.base),.l (dDs c.done),.l (dCs c.wants),.l (dGs c.got)]) (ZJ c hc) rfl rfl rfl ?_;simp only[sC,sN];refine Jum (u == c.up) rfl (fun h=>?_) (fun h=>Jue ?_)
 ·refine Jur (Jbv p hp.2.1) rfl rfl rfl (Jue ?_);have h : ¬c.up=u:=fun e=>by rw[e] at h;simp at h
  show _=(Qm c u).cells;unfold Qm;rw[if_neg h,hl];rfl
 ·have h:u=c.up:=by simpa using h
  show _=(Qm c u).cells;unfold Qm;rw[if_pos h.symm,h];rfl
theorem JhS (p:Pln) (c:Clk) (u:Bool) (hp:JV p) (hc:Qy c):Ev L f_k5l (p.cells++c.cells++[dB u]) (XA p c u).cells:=by
 refine JuA (vs:=[.i p.n,.l (Jc p.acts),.l (dL p.gives),.l (dL p.start),.b c.up,.i c.round,.l (dL c.base),.l (dDs c.done),.l (dCs c.wants),.l (dGs c.got),.b u]) L_k5l rfl ?_;refine Jur (JeJ p c hp hc) rfl rfl rfl ?_;refine Jum (Xu p c) rfl (fun h=>Jue ?_) (fun h=>?_)
 ·show _=(XA p c u).cells;unfold XA;rw[if_neg (by simp[h])];rfl
 have e:XA p c u=Qm c u:=by unfold XA;rw[if_pos h]
 rw[e];have hv:=Jfs p c u hp hc (Jmi h);generalize Qm c u=r at *;exact Jur (vs:=[.b r.up,.i r.round,.l (dL r.base),.l (dDs r.done),.l (dCs r.wants),.l (dGs r.got)]) hv rfl rfl rfl (Jue rfl)
theorem JlN (c:Clk) (hg:c.got.length≤2000000):Ev L f_k5h c.cells (Clk.cells ⟨c.up,c.round,c.base,c.done,[],List.replicate c.got.length Qn⟩):=by
 refine JuA (vs:=[.b c.up,.i c.round,.l (dL c.base),.l (dDs c.done),.l (dCs c.wants),.l (dGs c.got)]) L_k5h rfl ?_;refine Jt5 (by show decide ((0:Int)≤((dGs c.got).length:Int))=true;simp) ?_;refine Juj (dGs c.got) 2000000 (by rw[Xm];exact hg) (by omega) rfl ?_;refine Jue ?_;show [_,_,_,_,_,D.s (List.replicate ((dGs c.got).length:Int).toNat (Got.g Qn))]=_;unfold Clk.cells dCs dGs;rw[List.map_replicate,JuM,Int.toNat_natCast];rfl
theorem Jpn (c:Clk) (u:Bool) (hc:Qy c):Ev L f_k5i (c.cells++[dB u]) (Qm c u).cells:=by
 refine JuA (vs:=[.b c.up,.i c.round,.l (dL c.base),.l (dDs c.done),.l (dCs c.wants),.l (dGs c.got),.b u]) L_k5i rfl ?_;refine Jum (c.up == u) rfl (fun h=>?_) (fun h=>Jue ?_)
 ·have h : ¬c.up=u:=fun e=>by rw[e] at h;simp at h
  have e:Qm c u=⟨u,c.round,c.base,c.done,[],List.replicate c.got.length Qn⟩:=by unfold Qm;rw[if_neg h]
  rw[e];have hv:=JlN ⟨u,c.round,c.base,c.done,c.wants,c.got⟩ hc.g;generalize List.replicate c.got.length Qn=g0 at *;exact Jur (vs:=[.b u,.i c.round,.l (dL c.base),.l (dDs c.done),.l (dCs []),.l (dGs g0)]) hv rfl rfl rfl (Jue rfl)
 ·have h:c.up=u:=by simpa using h
  show _=(Qm c u).cells;unfold Qm;rw[if_pos h];rfl
theorem Jg7 (p:Pln) (c:Clk) (u:Bool) (hp:JV p) (hc:Qy c):Ev L f_k5j (p.cells++c.cells++[dB u]) (XA p c u).cells:=by
 refine JuA (vs:=[.i p.n,.l (Jc p.acts),.l (dL p.gives),.l (dL p.start),.b c.up,.i c.round,.l (dL c.base),.l (dDs c.done),.l (dCs c.wants),.l (dGs c.got),.b u]) L_k5j rfl ?_;refine Jur (JfP p c hp hc) rfl rfl rfl ?_;refine Jum (Xu p c) rfl (fun h=>Jue ?_) (fun h=>?_)
 ·show _=(XA p c u).cells;unfold XA;rw[if_neg (by simp[h])];rfl
 have e:XA p c u=Qm c u:=by unfold XA;rw[if_pos h]
 rw[e];refine Jur (vs:=[.b c.up,.i c.round,.l (dL c.base),.l (dDs c.done),.l (dCs c.wants),.l (dGs c.got)]) (JfT c hc) rfl rfl rfl ?_;simp only[sC,sN];have hv:=Jpn c u hc;generalize Qm c u=r at *;exact Jur (vs:=[.b r.up,.i r.round,.l (dL r.base),.l (dDs r.done),.l (dCs r.wants),.l (dGs r.got)]) hv rfl rfl rfl (Jue rfl)
theorem Ji2 (p:Pln) {c:Clk} (u:Bool) (hc:Qy c):Qy (XA p c u):=by
 unfold XA Qm;split
 ·split
  ·exact hc
  ·exact⟨hc.b,hc.d,hc.dt,by simp,fun d hd=>by simp at hd,by simp;exact hc.g,fun d hd=>by rw[(List.mem_replicate.1 hd).2];simp[Qn]⟩
 ·exact⟨by simp,by simp,fun d hd=>by simp at hd,by simp,fun d hd=>by simp at hd,by simp,fun d hd=>by simp at hd⟩
/- The program's SitHear answers as the reference's: over residual programs. -/
def UG (g:Nat) (k:Int) (i:Nat) (x y:Don):Don:=if Int.tmod (i:Int) (g:Int)=k∧x.seq<y.seq then y else x
def XY (g:Nat) (k:Int) (sd md:List Don) (n:Nat):List Don:=sd.mapIdx fun j x=>if j<n then UG g k j x (md.getD j Wb) else x
theorem Ua (g:Nat) (k:Int) (sd md:List Don) (n:Nat):(XY g k sd md n).length=sd.length:=by simp[XY]
theorem JpF (g:Nat) (k:Int) (sd md:List Don):XY g k sd md 0=sd:=by
 apply List.ext_getElem?;intro j;simp only[XY,List.getElem?_mapIdx];cases sd[j]? <;> simp
theorem Jid {g:Nat} {k:Int} {sd md:List Don} {i:Nat} {x:Don} (h:sd[i]? = some x):(XY g k sd md i)[i]? = some x:=by
 simp[XY,List.getElem?_mapIdx,h]
theorem Je7 {g:Nat} {k:Int} {sd md:List Don} {i:Nat} {x y:Don} (h:sd[i]? = some x) (hy:md[i]? = some y):(XY g k sd md i).set i (UG g k i x y)=XY g k sd md (i+1):=by
 apply List.ext_getElem?;intro j;have hl:i<sd.length:=(JuE.1 h).1
 by_cases hj:i=j
 ·subst hj;rw[List.getElem?_set_self (by rw[Ua];exact hl)];have e:md.getD i Wb=y:=Qd hy;simp only[XY,List.getElem?_mapIdx,h,JuF,e,show i<i+1 by omega,if_true]
 ·rw[List.getElem?_set_ne hj];simp only[XY,List.getElem?_mapIdx];cases sd[j]? with
  | none=>rfl
  | some z =>
   simp only[JuF]
   by_cases h1:j<i
   ·rw[if_pos h1,if_pos (show j<i+1 by omega)]
   ·rw[if_neg h1,if_neg (show ¬j<i+1 by omega)]
theorem JjJ {g:Nat} {k:Int} {sd md:List Don} {i:Nat} {x y:Don} (h:sd[i]? = some x) (hy:md[i]? = some y) (hp : ¬(Int.tmod (i:Int) (g:Int)=k∧x.seq<y.seq)):XY g k sd md i=XY g k sd md (i+1):=by
 rw[←Je7 h hy];have e:UG g k i x y=x:=by unfold UG;rw[if_neg hp]
 rw[e];apply List.ext_getElem?;intro j;have hl:i<sd.length:=(JuE.1 h).1
 by_cases hj:i=j
 ·subst hj;rw[List.getElem?_set_self (by rw[Ua];exact hl)];exact Jid h
 ·rw[List.getElem?_set_ne hj]
theorem Jl3 {g:Nat} {k:Int} {sd md:List Don} {n:Nat} (hl:md.length=sd.length) {d:Don} (h:d∈XY g k sd md n):d∈sd∨d∈md:=by
 obtain⟨j,hj⟩:=List.getElem?_of_mem h;simp only[XY,List.getElem?_mapIdx] at hj;cases hx:sd[j]? with
 | none=>rw[hx] at hj;simp at hj
 | some x =>
  have hjl:j<md.length:=by rw[hl];exact(JuE.1 hx).1
  have hyy:md[j]? = some md[j]:=JuO hjl;rw[hx] at hj;simp only[JuF,JuC,Qd hyy] at hj;have mx:x∈sd:=JuK hx;have my:md[j]∈md:=List.getElem_mem hjl;split at hj
  ·unfold UG at hj;split at hj
   ·subst hj;exact .inr my
   ·subst hj;exact .inl mx
  ·subst hj;exact .inl mx
def ZV (l:List Don):List Int:=l.map fun d=>d.seq
def Je3 (s:Sit) (k:Int):Msg:=⟨3,-1,k,s.round,⟨0,0,0,[]⟩,s.added,ZV s.done,[]⟩
def U3 (p:Pln) (s:Sit) (k:Int) (m:Msg):Sit :=
 if s.up=true∧m.to=k then
  if m.kind=2∧m.round=s.round then ⟨s.up,true,s.round,s.base,s.added,s.done⟩
  else if m.kind=4∧s.round<m.round then ⟨s.up,false,m.round,m.vals,[0,0,0],XY p.gives.length k s.done m.done s.done.length⟩
  else s
 else s
def KZ (s:Sit) (k:Int) (m:Msg):List Msg:=if s.up=true∧m.to=k∧m.kind=2∧m.round=s.round then [Je3 s k] else []
theorem Jdr (s:Sit) (k:Int) (hs:KH s):Ev L f_k2g (s.cells++[dI k]) (Je3 s k).cells:=by
 refine JuA (vs:=[.b s.up,.b s.frozen,.i s.round,.l (dL s.base),.l (dL s.added),.l (dDs s.done),.i k]) L_k2g rfl ?_;have h2:=hs.2.1;have h3:=hs.2.2.1;refine Juj (dL s.added) 2000000 (by rw[dL1];omega) (by omega) rfl ?_;refine Juc (JT s.added) ?_;refine Juj (dL s.added) 2000000 (by rw[dL1];omega) (by omega) rfl ?_;refine Jt3 s.done.length (fun i=>[.l (dL (ZV (s.done.take i))),.i i]) (fun _=>True) rfl rfl trivial fun i hi _=>?_;simp only[sC,sN];refine JtY i (Xn s.done) rfl (fun h=>?_) (fun h=>Juk (Jue ?_))
 ·obtain⟨x,hx,hm⟩:=sA1 h;refine Juo (vs:=[.i x.seq,.i x.code,.l (dL x.tells)]) i (mA1 (f:=Don.g) hx) rfl rfl rfl rfl ?_;simp only[sC,sN];refine Jus (dL (ZV (s.done.take i))) 2000000 (by rw[dL1];simp only[ZV,JuM,JuS];omega) (by omega) rfl ?_;refine Jt4 (vs:=[.l (dL (ZV (s.done.take (i+1)))),.i ((i+1:Nat):Int)]) ?_ ⟨h,rfl,trivial⟩;show [V.l (dL (ZV (s.done.take i))++[dI x.seq]),V.i (i64.wrap ((i:Int)+1))]=_;rw[wS h (by omega),tS1 hx];simp only[dL,ZV,List.map_append,JuL,List.map_nil]
 ·rw[tA1 h];rfl
theorem Jgb {p:Pln} {s:Sit} {k:Int} {m:Msg} (h : ¬(s.up=true∧m.to=k)∨(¬(m.kind=2∧m.round=s.round)∧¬(m.kind=4∧s.round<m.round))):U3 p s k m=s∧KZ s k m=[]:=by
 unfold U3 KZ;rcases h with h | ⟨h1,h2⟩
 ·rw[if_neg h,if_neg (fun q=>h ⟨q.1,q.2.1⟩)];exact⟨rfl,rfl⟩
 ·have h3 : ¬(s.up=true∧m.to=k∧m.kind=2∧m.round=s.round):=fun q=>h1 q.2.2;rw[if_neg h1,if_neg h2,if_neg h3];simp
theorem Jq4 {p:Pln} {s:Sit} {k:Int} {m:Msg} (h1:s.up=true) (h2:m.to=k) (h3:m.kind=2) (h4:m.round=s.round):U3 p s k m=⟨s.up,true,s.round,s.base,s.added,s.done⟩∧KZ s k m=[Je3 s k]:=by
 unfold U3 KZ;rw[if_pos ⟨h1,h2⟩,if_pos ⟨h3,h4⟩,if_pos ⟨h1,h2,h3,h4⟩];exact⟨rfl,rfl⟩
theorem Jqq {p:Pln} {s:Sit} {k:Int} {m:Msg} (h1:s.up=true) (h2:m.to=k) (h3:m.kind=4) (h4:s.round<m.round):U3 p s k m=⟨s.up,false,m.round,m.vals,[0,0,0],XY p.gives.length k s.done m.done s.done.length⟩∧KZ s k m=[]:=by
 unfold U3 KZ;rw[if_pos ⟨h1,h2⟩,if_neg (fun q=>by omega),if_pos ⟨h3,h4⟩,if_neg (fun q=>by omega)];exact⟨rfl,rfl⟩
theorem Jhz {α:Type} {l:List α} {i:Nat} {x:α} (h:l[i]? = some x):l.set i x=l:=by
 apply List.ext_getElem?;intro j;have hl:i<l.length:=(JuE.1 h).1
 by_cases hj:i=j
 ·subst hj;rw[List.getElem?_set_self hl,h]
 ·rw[List.getElem?_set_ne hj]
theorem Jml (p:Pln) (s:Sit) (k:Int) (m:Msg) (hs:KH s) (hm:Vx m) (hg:0<p.gives.length) (hdone:m.kind=4→m.done.length=s.done.length) :
  Ev L f_k2h (p.cells++s.cells++[dI k]++m.cells) ((U3 p s k m).cells++[.s (dMs (KZ s k m))]):=by
 refine JuA (vs:=[.i p.n,.l (Jc p.acts),.l (dL p.gives),.l (dL p.start),.b s.up,.b s.frozen,.i s.round,.l (dL s.base),.l (dL s.added),.l (dDs s.done),.i k,.i m.kind,.i m.to,.i m.frm,.i m.round,.i m.call.client,.i m.call.seq,.i m.call.act,.l (dL m.call.args),.l (dL m.vals),.l (dL m.seqs),.l (dDs m.done)]) L_k2h rfl ?_;refine Jur (vs:=[.b s.up,.b s.frozen,.i s.round,.l (dL s.base),.l (dL s.added),.l (dDs s.done)]) (Jbt s hs) rfl rfl rfl ?_;simp only[sC,sN];refine Jum s.up rfl (fun a=>Jue (by obtain⟨e1,e2⟩:=Jgb (p:=p) (s:=s) (k:=k) (m:=m) (by exact .inl (fun q=>by rw[a] at q;cases q.1));rw[e1,e2];rfl)) (fun a=>?_);refine Jum (decide (m.to=k)) rfl (fun b=>Jue (by obtain⟨e1,e2⟩:=Jgb (p:=p) (s:=s) (k:=k) (m:=m) (by exact .inl (fun q=>by simp[q.2] at b));rw[e1,e2];rfl)) (fun b=>?_);have b:m.to=k:=by simpa using b
 have hno :∀q:(¬(m.kind=2∧m.round=s.round)∧¬(m.kind=4∧s.round<m.round)),U3 p s k m=s∧KZ s k m=[]:=fun q=>Jgb (.inr q);refine Jt8 (m.kind=2) rfl (fun d=>?_) (fun d=>?_)
 ·refine Jt8 (m.round=s.round) rfl (fun e=>?_) (fun e=>?_)
  ·obtain⟨e1,e2⟩:=Jq4 (p:=p) (s:=s) (k:=k) (m:=m) a b d e;rw[e1,e2];have hv:=Jdr ⟨s.up,true,s.round,s.base,s.added,s.done⟩ k hs;refine Jur (vs:=[.i 3,.i (-1),.i k,.i s.round,.i 0,.i 0,.i 0,.l (dL []),.l (dL s.added),.l (dL (ZV s.done)),.l (dDs [])]) hv rfl rfl rfl (Jue ?_);rfl
  ·refine Jt8 (m.kind=4) rfl (fun f=>absurd f (by omega)) (fun f=>Jue ?_);obtain⟨e1,e2⟩:=hno ⟨fun q=>e q.2,fun q=>f q.1⟩;rw[e1,e2];rfl
 ·refine Jt8 (m.kind=4) rfl (fun f=>?_) (fun f=>Jue ?_)
  ·refine Jt8 (s.round<m.round) rfl (fun e=>?_) (fun e=>Jue ?_)
   ·obtain⟨e1,e2⟩:=Jqq (p:=p) (s:=s) (k:=k) (m:=m) a b f e;rw[e1,e2];have hd:=hdone f;have hsl:=hs.2.2.1;have hvl:(dL m.vals).length≤2000000:=by rw[dL1];exact hm.2.1
    refine Juj (dL m.vals) 2000000 hvl (by omega) rfl ?_;refine Juc (JT m.vals) ?_;refine Juj (dL m.vals) 2000000 hvl (by omega) rfl ?_;refine Jt3 s.done.length (fun i=>[.l (dDs (XY p.gives.length k s.done m.done i)),.i i]) (fun _=>True) rfl (by rw[JpF];rfl) trivial fun i hi _=>?_;simp only[sC,sN];refine JtY i (show (dDs (XY p.gives.length k s.done m.done i)).length=s.done.length by rw[Xn,Ua]) rfl (fun h=>?_) (fun h=>Juk (Jue ?_))
    ·obtain⟨x,hx,hxm⟩:=sA1 h;obtain⟨y,hy,hym⟩:=sA1 (l:=m.done) (i:=i) (by omega);have hyg:(dDs m.done)[i]? = some y.g:=mA1 (f:=Don.g) hy;have hxg:(dDs (XY p.gives.length k s.done m.done i))[i]? = some x.g:=mA1 (f:=Don.g) (Jid hx);have hlt:i<(dDs (XY p.gives.length k s.done m.done i)).length:=by rw[Xn,Ua];exact h
     have hset:=Je7 (g:=p.gives.length) (k:=k) hx hy;have hsame:=JjJ (g:=p.gives.length) (k:=k) hx hy;have hsd:(dDs (XY p.gives.length k s.done m.done i)).set i (UG p.gives.length k i x y).g=dDs (XY p.gives.length k s.done m.done (i+1)):=by rw[←hset];simp only[dDs,List.map_set]
     refine Juo (vs:=[.i y.seq,.i y.code,.l (dL y.tells)]) i hyg rfl rfl rfl rfl ?_;simp only[sC,sN];generalize dDs (XY p.gives.length k s.done m.done i)=es at *;refine Jux (vs:=[.i x.seq,.i x.code,.l (dL x.tells)]) (ds:=es) i hxg rfl rfl rfl rfl rfl rfl ?_;simp only[sC,sN];have hw:i64.wrap ((i:Int)+1)=((i+1:Nat):Int):=wS h (by omega);refine Jt8 (x.seq<y.seq) rfl (fun u=>?_) (fun u=>?_)
     ·refine Jt5 (by show (!decide (((dL p.gives).length:Int)=0))=true;rw[dL1,Bool.not_eq_true',decide_eq_false_iff_not];omega) ?_;refine Jt8 (Int.tmod (i:Int) (p.gives.length:Int)=k) (by show decide (Int.tmod (i:Int) ((dL p.gives).length:Int)=k)=_;rw[dL1]) (fun v=>?_) (fun v=>?_)
      ·refine Juo (vs:=[.i y.seq,.i y.code,.l (dL y.tells)]) i hyg rfl rfl rfl rfl ?_;simp only[sC,sN];refine Juo (vs:=[.i y.seq,.i y.code,.l (dL y.tells)]) i hyg rfl rfl rfl rfl ?_;simp only[sC,sN];refine Jur (vs:=[.i y.code,.l (dL y.tells)]) (Qb y.code y.tells (hm.2.2.2.2 y hym)) rfl rfl rfl ?_;simp only[sC,sN];refine Jux (vs:=[.i x.seq,.i x.code,.l (dL x.tells)]) (ds:=es) i hxg rfl rfl rfl rfl rfl rfl ?_;refine Jt4 ?_ ⟨h,rfl,trivial⟩;have e5:UG p.gives.length k i x y=y:=by unfold UG;rw[if_pos ⟨v,u⟩]
       rw[e5] at hsd;show [V.l (es.set i y.g),V.i (i64.wrap ((i:Int)+1))]=_;rw[hsd,hw]
      ·refine Jt4 ?_ ⟨h,rfl,trivial⟩;show [V.l es,V.i (i64.wrap ((i:Int)+1))]=_;have e5:UG p.gives.length k i x y=x:=by unfold UG;rw[if_neg (fun q=>v q.1)]
       rw[e5,Jhz hxg] at hsd;rw[hsd,hw]
     ·refine Jt4 ?_ ⟨h,rfl,trivial⟩;show [V.l es,V.i (i64.wrap ((i:Int)+1))]=_;have e5:UG p.gives.length k i x y=x:=by unfold UG;rw[if_neg (fun q=>u q.2)]
      rw[e5,Jhz hxg] at hsd;rw[hsd,hw]
    ·rw[show i=s.done.length by omega];rfl
   ·obtain⟨e1,e2⟩:=hno ⟨fun q=>d q.1,fun q=>e q.2⟩;rw[e1,e2];rfl
  ·obtain⟨e1,e2⟩:=hno ⟨fun q=>d q.1,fun q=>f q.1⟩;rw[e1,e2];rfl
end Go.Proofs.YtofcmnglieaoeabGreatDoor

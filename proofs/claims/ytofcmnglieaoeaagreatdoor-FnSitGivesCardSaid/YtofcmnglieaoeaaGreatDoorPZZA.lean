import Derived.Test.YtofcmnglieaoeaaGreatDoorPZW
import Derived.Test.YtofcmnglieaoeaaGreatDoorPY
import Derived.Test.YtofcmnglieaoeaaGreatDoorTd
import Derived.Test.YtofcmnglieaoeaaGreatDoorPZR
set_option linter.unusedVariables false
set_option linter.unusedSimpArgs false
/- In the beginning all are alike: over residual programs. -/
namespace Go.Proofs.YtofcmnglieaoeaaGreatDoor
open Go Go.Tm
open Go.IntKind (i64)
theorem JcT {bs:List Int} {p:Int} (hr:Rdr bs p) (hf:p≤999999900000) :
  ∃ (l:Pln) (q:Int),Ev L f_ke [.s (Ja bs),dI p] (l.cells++[.s (Ja bs),dI q])∧p≤q∧q≤p+2000∧Ux l.acts∧l.gives.length≤3∧l.start.length=3∧JC l=true:=by
 have key : ∃ ds,Ev L f_ke [.s (Ja bs),dI p] ds∧∃ (l:Pln) (q:Int),ds=l.cells++[.s (Ja bs),dI q]∧p≤q∧q≤p+2000∧Ux l.acts∧l.gives.length≤3∧l.start.length=3∧JC l=true:=by
  refine Jue (vs:=[.l (Ja bs),.i p]) L_ke rfl ?_;refine Jd 4 hr (by omega) (by omega) rfl rfl fun u hu0 hu1=>?_;obtain⟨as,q,he,q1,q2,hs,has1⟩:=JcO (hr.go (q:=p+1) (by omega) (by omega)) (by omega);have ht:Ux as:=⟨by have:=hs.1;omega,fun a ha=>(hs.2 a ha).thin⟩;refine JtL he rfl rfl rfl ?_;refine Jd 3 (hr.go (q:=q) (by omega) (by omega)) (by omega) (by omega) rfl rfl fun w hw0 hw1=>?_;simp only[sC,sN];refine JtE (fun m vs=>∃ (gs:List Int) (k o:Int),vs=[.l (dL gs),.i k,.i o,.l (Ja bs)]∧q≤o∧o+k≤q+10∧0≤k∧k≤3∧(m:Int)=k∧(gs.length:Int)+k=1+w∧∀z∈gs,0≤z∧z≤50) rfl (1+w).toNat
   ⟨[],1+w,q+1,?_,by omega,by omega,by omega,by omega,by omega,by simp,fun z hz=>by simp at hz⟩ ?_
  ·show [V.l [],V.i (i64.wrap (1+w)),V.i (q+1),V.l (Ja bs)]=_;rw[w64 (by omega) (by omega)];rfl
  rintro m _ ⟨gs,k,o,rfl,o1,o2,k0,k3,hm,hl,hgs⟩;simp only[sC,sN];refine Jt2 (0<k) rfl (fun h=>?_) (fun h=>JtX ?_)
  ·refine Jd 5 (hr.go (q:=o) (by omega) (by omega)) (by omega) (by omega) rfl rfl fun x hx0 hx1=>?_;simp only[sC,sN];refine JtF (0≤x) rfl hx0 ?_;refine JtF (x<5) rfl hx1 ?_;refine JtJ (ds:=dL [0,3,9,20,50]) x rfl rfl rfl hx0 (JZ hx0 hx1) rfl ?_;have hy:0≤([0,3,9,20,50]:List Int).getD x.toNat 0∧([0,3,9,20,50]:List Int).getD x.toNat 0≤50:=by rcases (by omega:x=0∨x=1∨x=2∨x=3∨x=4) with q | q | q | q | q <;> subst q <;> decide
   generalize ([0,3,9,20,50]:List Int).getD x.toNat 0=y at *;refine Juc (dL gs) 10 (by rw[dL1];omega) (by omega) rfl ?_;refine JtH (vs:=[.l (dL (gs++[y])),.i (k-1),.i (o+1),.l (Ja bs)]) ?_ ⟨m-1,by omega,gs++[y],k-1,o+1,rfl,by omega,by omega,by omega,by omega,by omega,by simp;omega,fun z hz=>by
    rcases Jun.1 hz with q | q
    ·exact hgs z q
    ·simp only[JuA] at q;rw[q];exact hy⟩
   show [V.l (dL gs++[dI y]),V.i (i64.wrap (k-1)),V.i (o+1),V.l (Ja bs)]=_;rw[Xa,w64 (by omega) (by omega)]
  refine JtE (fun m vs=>∃ (ss:List Int) (r:Int),vs=[.l (dL ss),.i (ss.length:Int),.i r,.l (Ja bs)]∧o≤r∧r≤o+ss.length∧ss.length≤3∧m=3-ss.length∧Lim 1000 ss) rfl 3
   ⟨[],o,rfl,by omega,by simp,by simp,by simp,fun z hz=>by simp at hz⟩ ?_
  rintro m _ ⟨ss,r,rfl,r1,r2,hs3,hm3,hss⟩;simp only[sC,sN];refine Jt2 ((ss.length:Int)<3) rfl (fun h3=>?_) (fun h3=>JtX (Jt9 ⟨⟨1+u,as,gs,ss⟩,r,?_,by omega,by omega,ht,?_,?_,?_⟩))
  ·refine Jd 6 (hr.go (q:=r) (by omega) (by omega)) (by omega) (by omega) rfl rfl fun x hx0 hx1=>?_;simp only[sC,sN];refine JtF (0≤x) rfl hx0 ?_;refine JtF (x<6) rfl hx1 ?_;refine JtJ (ds:=dL [0,5,20,60,200,-8]) x rfl rfl rfl hx0 (JZ hx0 hx1) rfl ?_;have hy : -1000≤([0,5,20,60,200,-8]:List Int).getD x.toNat 0∧([0,5,20,60,200,-8]:List Int).getD x.toNat 0≤1000:=by rcases (by omega:x=0∨x=1∨x=2∨x=3∨x=4∨x=5) with q | q | q | q | q | q <;> subst q <;> decide
   generalize ([0,5,20,60,200,-8]:List Int).getD x.toNat 0=y at *;refine Juc (dL ss) 10 (by rw[dL1];omega) (by omega) rfl ?_;refine JtH (vs:=[.l (dL (ss++[y])),.i ((ss++[y]).length:Int),.i (r+1),.l (Ja bs)]) ?_ ⟨m-1,by omega,ss++[y],r+1,rfl,by omega,by simp;omega,by simp;omega,by simp;omega,hss.snoc hy⟩;show [V.l (dL ss++[dI y]),V.i (i64.wrap ((ss.length:Int)+1)),V.i (r+1),V.l (Ja bs)]=_;rw[Xa,w64 (by omega) (by omega)];simp
  ·show [dI (i64.wrap (1+u)),D.s (Je as),D.s (dL gs),D.s (dL ss),D.s (Ja bs),dI r]=_;rw[w64 (by omega) (by omega)];rfl
  ·show gs.length≤3;omega
  ·show ss.length=3;omega
  ·have ho :∀a∈as,Qu a=true:=fun a ha=>(hs.2 a ha).2.2;have hl4:=hs.1;unfold JC Qr Qs;simp only[Jui,Juv,Jp];exact⟨by omega,⟨by omega,ho⟩,Jo.2 ⟨by omega,hss⟩,⟨QH.2 ⟨by omega,hss.mono (by omega)⟩,by omega⟩,hgs⟩
 obtain⟨ds,e1,l,q,rfl,e2⟩:=key;exact⟨l,q,e1,e2⟩
theorem Jnn (a b:List Int):dL a++dL b=dL (a++b):=by simp[dL]
theorem JeG {bs:List Int} {p n:Int} (hr:Rdr bs p) (hf:p≤999999800000) (n1:1≤n) (n2:n≤2000000) :
  ∃ (l:Pln) (q:Int),Ev L f_k30 [.s (Ja bs),dI p,dI n] (l.cells++[.s (Ja bs),dI q])∧p≤q∧q≤p+5000∧JN l:=by
 have key : ∃ ds,Ev L f_k30 [.s (Ja bs),dI p,dI n] ds∧∃ (l:Pln) (q:Int),ds=l.cells++[.s (Ja bs),dI q]∧p≤q∧q≤p+5000∧JN l:=by
  refine Jue (vs:=[.l (Ja bs),.i p,.i n]) L_k30 rfl ?_;obtain⟨l,q,he,q1,q2,ha,hg,hs,_⟩:=JcT hr (by omega);have hfit:JN l:=⟨ha.fit,by omega,by omega⟩;refine JtL (vs:=[.i l.n,.l (Je l.acts),.l (dL l.gives),.l (dL l.start),.l (Ja bs),.i q]) he rfl rfl rfl ?_;simp only[sC,sN];refine Jd n (hr.go (q:=q) (by omega) (by omega)) n1 n2 rfl rfl fun u hu0 hu1=>?_;simp only[sC,sN];refine Jt2 (0<u) rfl (fun _=>Jt9 ⟨l,q+1,rfl,by omega,by omega,hfit⟩) (fun _=>?_);refine Jd 5 (hr.go (q:=q+1) (by omega) (by omega)) (by omega) (by omega) rfl rfl fun v hv0 hv1=>?_;simp only[sC,sN];refine Jt2 (v=0) rfl (fun _=>?_) (fun _=>?_)
  ·refine Jd 3 (hr.go (q:=q+1+1) (by omega) (by omega)) (by omega) (by omega) rfl rfl fun x hx0 hx1=>?_;simp only[sC,sN];refine JtF (0≤x) rfl hx0 ?_;refine JtF (x<3) rfl hx1 ?_;refine JtJ (ds:=dL [0,5,-1]) x rfl rfl rfl hx0 (JZ hx0 hx1) rfl ?_;exact Jt9 ⟨⟨([0,5,-1]:List Int).getD x.toNat 0,l.acts,l.gives,l.start⟩,q+1+1+1,rfl,by omega,by omega,hfit⟩
  refine Jt2 (v=1) rfl (fun _=>?_) (fun _=>?_)
  ·obtain⟨as,o,ea,o1,o2,hth⟩:=JeN (hr.go (q:=q+1+1) (by omega) (by omega)) (by omega) (n:=1) (by omega) (by omega);refine JtL ea rfl rfl rfl ?_;simp only[sC,sN];exact Jt9 ⟨⟨l.n,as,l.gives,l.start⟩,o,rfl,by omega,by omega,⟨hth.fit,hfit.2⟩⟩
  refine Jt2 (v=2) rfl (fun _=>?_) (fun _=>?_)
  ·refine Jd 4 (hr.go (q:=q+1+1) (by omega) (by omega)) (by omega) (by omega) rfl rfl fun x hx0 hx1=>?_;simp only[sC,sN];refine JtF (0≤x) rfl hx0 ?_;refine JtF (x<4) rfl hx1 ?_;refine JtJ (ds:=dL [-1,51,3,3]) x rfl rfl rfl hx0 (JZ hx0 hx1) rfl ?_;generalize ([-1,51,3,3]:List Int).getD x.toNat 0=y;refine JtM (dL (l.gives++[y,4,4])) 100 (by rw[dL1];simp;omega) (by omega) (Jnn l.gives [y,4,4]) ?_;refine Jt9 ⟨⟨l.n,l.acts,l.gives++[y,4,4],l.start⟩,q+1+1+1,?_,by omega,by omega,⟨hfit.1,by simp;omega,hfit.2.2⟩⟩;show [dI l.n,D.s (Je l.acts),D.s (dL l.gives++dL [y,4,4]),D.s (dL l.start),D.s (Ja bs),dI (q+1+1+1)]=_;rw[Jnn];rfl
  refine Jt2 (v=3) rfl (fun _=>?_) (fun _=>?_)
  ·refine Jd 3 (hr.go (q:=q+1+1) (by omega) (by omega)) (by omega) (by omega) rfl rfl fun x hx0 hx1=>?_;simp only[sC,sN];refine JtF (0≤x) rfl hx0 ?_;refine JtF (x<3) rfl hx1 ?_;refine JtJ (ds:=dL [1001,-1000,1000]) x rfl rfl rfl hx0 (JZ hx0 hx1) rfl ?_;generalize ([1001,-1000,1000]:List Int).getD x.toNat 0=y;obtain⟨z,hz,_⟩:=sA1 (show 0<l.start.length by omega);refine JtF ((0:Int)<((dL l.start).length:Int)) rfl (by rw[dL1];omega) ?_;refine Jt3 0 (mA1 (f:=dI) hz) rfl rfl rfl rfl ?_;refine Jt9 ⟨⟨l.n,l.acts,l.gives,l.start.set 0 y⟩,q+1+1+1,?_,by omega,by omega,⟨hfit.1,hfit.2.1,by simp;omega⟩⟩;show [dI l.n,D.s (Je l.acts),D.s (dL l.gives),D.s ((dL l.start).set (0:Int).toNat (dI y)),D.s (Ja bs),dI (q+1+1+1)]=_;rw[QL];rfl
  ·refine JtF ((2:Int)≤((dL l.start).length:Int)) rfl (by rw[dL1];omega) ?_;refine Jt9 ⟨⟨l.n,l.acts,l.gives,l.start.take 2⟩,q+1+1,?_,by omega,by omega,⟨hfit.1,hfit.2.1,by simp;omega⟩⟩;show [dI l.n,D.s (Je l.acts),D.s (dL l.gives),D.s ((dL l.start).take (2:Int).toNat),D.s (Ja bs),dI (q+1+1)]=_;rw[show ((2:Int).toNat)=2 from rfl,VF];rfl
 obtain⟨ds,e1,l,q,rfl,e2⟩:=key;exact⟨l,q,e1,e2⟩
theorem Yz (l:List Int) (hl:l.length≤2000000):Ev L f_k5s [.s (dL l),.s (dL l)] [dB true]:=by
 have h:=JeZ l l hl
 rwa [decide_eq_true rfl] at h
theorem Jci (l:List Don) (hl:Wa Yr l):Ev L f_k5u [.s (dDs l),.s (dDs l)] [dB true]:=by
 refine Jud (vs:=[.l (dDs l),.l (dDs l)]) L_k5u rfl ?_;have hl0:=hl.1;refine JtG (by show (!decide (((dDs l).length:Int)=((dDs l).length:Int)))=false;simp) ?_;refine Jt5 l.length (fun i=>[.i i]) (fun _=>True) rfl rfl trivial fun i hi _=>?_;simp only[sC,sN];refine JtN i (Qv l) rfl (fun h=>?_) (fun h=>JtX (Jt9 rfl));obtain⟨x,hx,hm⟩:=sA1 h;have hg:(dDs l)[i]? = some x.g:=mA1 (f:=Don.g) hx;have hco:=Jol x.code x.code x.tells x.tells (hl.2 x hm);rw[decide_eq_true rfl,decide_eq_true rfl] at hco;refine Jt3 (vs:=[.i x.seq,.i x.code,.l (dL x.tells)]) i hg rfl rfl rfl rfl ?_;refine Jt3 (vs:=[.i x.seq,.i x.code,.l (dL x.tells)]) i hg rfl rfl rfl rfl ?_;simp only[sC,sN];refine JtG (by show (!decide (x.seq=x.seq))=false;simp) ?_;refine Jt3 (vs:=[.i x.seq,.i x.code,.l (dL x.tells)]) i hg rfl rfl rfl rfl ?_;refine Jt3 (vs:=[.i x.seq,.i x.code,.l (dL x.tells)]) i hg rfl rfl rfl rfl ?_;simp only[sC,sN];refine JtL hco rfl rfl rfl (JtG rfl ?_);exact JtH (vs:=[.i ((i+1:Nat):Int)]) (by rw[←wS h (by omega)];rfl) ⟨h,rfl,trivial⟩
theorem Jid (s:Sit) (hs:Qa s):Ev L f_k5v (s.cells++s.cells) [dB true]:=by
 refine Jud (vs:=[.b s.up,.b s.frozen,.i s.round,.l (dL s.base),.l (dL s.added),.l (dDs s.done),.b s.up,.b s.frozen,.i s.round,.l (dL s.base),.l (dL s.added),.l (dDs s.done)]) L_k5v rfl ?_;refine Jt1 (by show (s.up == s.up)=true;simp) ?_;refine Jt1 (by show (s.frozen == s.frozen)=true;simp) ?_;refine Jt1 (by show decide (s.round=s.round)=true;simp) ?_;refine JtL (Yz s.base hs.1) rfl rfl rfl (Jt1 rfl ?_);refine JtL (Yz s.added hs.2.1) rfl rfl rfl (Jt1 rfl ?_);exact JtL (Jci s.done ⟨hs.2.2.1,hs.2.2.2⟩) rfl rfl rfl (Jt9 rfl)
theorem Jev {n:Int} (h0:0≤n):JX n (List.replicate n.toNat Wc)=true:=by
 unfold JX;rw[Jui];refine⟨by simp;omega,?_⟩;rw[Juv];intro d hd;rw[(List.mem_replicate.1 hd).2];rfl
theorem Jme (as:List (List Jg)):QO (Jb as)=true:=by
 unfold QO;rw[Juv];intro p hp;have:=(Xc as).each p hp;exact Jo.2 ⟨by omega,this.2⟩
theorem Jcl {p:Pln} (h:JC p=true):JU p.start=true:=by
 simp only[JC,Jui,Jo] at h;have:=h.2.2.1;have hl:Lim 1000 p.start:=this.2;exact QH.2 ⟨by omega,hl.mono (by omega)⟩
theorem Qo {p:Pln} (h:JC p=true):1≤p.gives.length∧p.gives.length≤3:=by
 have:=(J1 h).2.2.2;simp only[Qr,Jui,Jp] at this;omega
theorem JmY {p:Pln} (h:JC p=true):Jdq p (XS p)=true∧Jho p (XS p)=false:=by
 obtain⟨n1,n2,h3,_⟩:=J1 h;have hg:=Qo h;have hs:XS p=⟨true,0,p.start,List.replicate p.n.toNat Wc,[],List.replicate p.gives.length X0⟩:=by unfold XS;rw[if_pos h]
 have hgot :∀j,K5 p p.start (List.replicate p.gives.length X0) j=true:=fun j=>by
  unfold K5;have:(List.replicate p.gives.length X0).getD j X0=X0:=by
   rw[Jul,List.getElem?_replicate];split <;> rfl
  rw[this];rfl
 have hh:XW (List.replicate p.gives.length X0)=0:=by
  unfold XW;rw[List.length_eq_zero_iff,List.filter_eq_nil_iff];intro x hx;rw[(List.mem_replicate.1 hx).2];simp[X0]
 have hok:Jdq p (XS p)=true:=by
  rw[hs];unfold Jdq Zs;rw[h,Jcl h,Jev (by omega),Zf.2 fun j _=>hgot j];simp[inB,Q4]
 refine⟨hok,?_⟩;unfold Jho;rw[hok,hs];show (true&&decide (XW (List.replicate p.gives.length X0)=p.gives.length))=false;rw[hh,JuC];exact decide_eq_false (by omega)
/- Worlds: sizes,copies,comparisons; which of them are ok: over residual programs. -/
structure Vt where
 call:Cal
 code:Int
 tells:List Int
 deriving DecidableEq
abbrev dSt (l:List Sit):List D:=l.map Sit.g
abbrev dCn (l:List Con):List D:=l.map Con.g
abbrev dMs (l:List Msg):List D:=l.map Msg.g
def Vt.cells (x:Vt):List D:=[dI x.call.client,dI x.call.seq,dI x.call.act,.s (dL x.call.args),dI x.code,.s (dL x.tells)]
def Vt.g (x:Vt):D:= .g x.cells
abbrev dLg (l:List Vt):List D:=l.map Vt.g
def Jlk (x:Vt):Prop:=x.call.args.length≤2000000∧x.tells.length≤2000000
structure Wrl where
 p:Pln
 sites:List Sit
 c:Clk
 cons:List Con
 net:List Msg
 log:List Vt
def Wrl.cells (w:Wrl):List D:=w.p.cells++[.s (dSt w.sites)]++w.c.cells++[.s (dCn w.cons),.s (dMs w.net),.s (dLg w.log)]
structure JkC (w:Wrl):Prop where
 p:JN w.p
 s:Wa Qa w.sites
 c:KH w.c
 n:Wa JjK w.cons
 m:Wa Qd w.net
 l:Wa Jlk w.log
def XL (p:Pln) (k:Int) (x:Con):Bool:=Xi ⟨x.seq,x.code,x.tells⟩&&(if x.busy then Jq p x.call&&(decide (x.call.client=k)&&decide (x.call.seq=x.seq+1)) else Xj x.call)
theorem JgI (p:Pln) (x:Con) (k:Int) (hp:JN p) (h1:1≤p.n) (h2:p.n≤4) (hx:JjK x):Ev L f_k1l (p.cells++x.cells++[dI k]) [dB (XL p k x)]:=by
 refine Jud (vs:=[.i p.n,.l (Je p.acts),.l (dL p.gives),.l (dL p.start),.i x.seq,.b x.busy,.i x.call.client,.i x.call.seq,.i x.call.act,.l (dL x.call.args),.i x.code,.l (dL x.tells),.i k]) L_k1l rfl ?_;have bad:Xi ⟨x.seq,x.code,x.tells⟩=false→[dB false]=[dB (XL p k x)]:=fun h=>by unfold XL;rw[h];rfl
 refine JtL (JQ x.seq 0 300) rfl rfl rfl ?_;simp only[sC,sN];refine JtI (inB x.seq 0 300) rfl (fun b=>Jt9 (bad ?_)) (fun b=>?_)
 ·unfold Xi;rw[if_neg (by intro e;have e:x.seq=0:=e;rw[e] at b;simp[inB] at b)];have:inB x.seq 1 300=false:=by
   unfold inB at b ⊢;simp only[Bool.and_eq_false_iff,decide_eq_false_iff_not] at b ⊢;omega
  show (inB x.seq 1 300&&_)=false;rw[this];rfl
 have hc:Xi ⟨x.seq,x.code,x.tells⟩=if decide (x.seq=0)=decide (x.code=0) then(if x.seq=0 then decide (x.tells.length=0) else JL x.code x.tells) else false:=Jcf (d:=⟨x.seq,x.code,x.tells⟩) b;have hsq:0≤x.seq∧x.seq≤300:=by unfold inB at b;simp only[Jui,decide_eq_true_eq] at b;exact b
 refine JtI (decide (x.seq=0) == decide (x.code=0)) rfl (fun e=>Jt9 (bad (by rw[hc,if_neg (by simpa using e)]))) (fun e=>?_);rw[if_pos (by simpa using e)] at hc;have hv:Xi ⟨x.seq,x.code,x.tells⟩=true→XL p k x=(if x.busy then Jq p x.call&&(decide (x.call.client=k)&&decide (x.call.seq=x.seq+1)) else Xj x.call):=fun h=>by unfold XL;rw[h];rfl
 refine Jt2 (x.seq=0) rfl (fun h0=>?_) (fun h0=>?_)
 ·rw[if_pos h0] at hc;refine Jt2 (0<((dL x.tells).length:Int)) rfl (fun ht=>Jt9 (bad ?_)) (fun ht=>?_)
  ·rw[dL1] at ht;rw[hc];exact decide_eq_false (by omega)
  have hv:=hv (by rw[dL1] at ht;rw[hc];exact decide_eq_true (by omega));refine JtG (by show decide ((0:Int)<x.seq)=false;rw[h0];rfl) ?_;refine JtI x.busy rfl (fun u=>?_) (fun u=>?_)
  ·have hv2:XL p k x=Xj x.call:=by rw[hv,u];rfl
   rw[hv2];refine Jt2 (x.call.client=0) rfl (fun a=>?_) (fun a=>Jt9 (by show [dB false]=_;simp[Xj,a]));refine Jt2 (x.call.seq=0) rfl (fun b=>?_) (fun b=>Jt9 (by show [dB false]=_;simp[Xj,b]));refine Jt2 (x.call.act=0) rfl (fun d=>Jt9 ?_) (fun d=>Jt9 (by show [dB false]=_;simp[Xj,d]));show [dB (decide (((dL x.call.args).length:Int)=0))]=_;rw[Y0 _ (dL1 _)];simp[Xj,a,b,d]
  ·have hv2:XL p k x=(Jq p x.call&&(decide (x.call.client=k)&&decide (x.call.seq=x.seq+1))):=by rw[hv,u];rfl
   rw[hv2];refine JtL (ZG p x.call hp h1 h2 hx.1) rfl rfl rfl ?_;simp only[sC,sN];refine Jua (Jq p x.call) rfl (fun a=>?_) (fun a=>Jt9 (by show [dB false]=_;rw[a];rfl));refine Jt2 (x.call.client=k) rfl (fun b=>Jt9 ?_) (fun b=>Jt9 (by show [dB false]=_;simp[b]));show [dB (decide (x.call.seq=i64.wrap (x.seq+1)))]=_;rw[w64 (by omega) (by omega),a,decide_eq_true b];rfl
 ·rw[if_neg h0] at hc;refine Jt1 (by show decide ((0:Int)<x.seq)=true;simp;omega) ?_;refine JtL (Jbi x.code x.tells hx.2) rfl rfl rfl ?_;simp only[sC,sN];refine JtI (JL x.code x.tells) rfl (fun e=>Jt9 (bad (by rw[hc,e]))) (fun e=>?_);have hv:=hv (by rw[hc,e]);refine JtI x.busy rfl (fun u=>?_) (fun u=>?_)
  ·have hv2:XL p k x=Xj x.call:=by rw[hv,u];rfl
   rw[hv2];refine Jt2 (x.call.client=0) rfl (fun a=>?_) (fun a=>Jt9 (by show [dB false]=_;simp[Xj,a]));refine Jt2 (x.call.seq=0) rfl (fun b=>?_) (fun b=>Jt9 (by show [dB false]=_;simp[Xj,b]));refine Jt2 (x.call.act=0) rfl (fun d=>Jt9 ?_) (fun d=>Jt9 (by show [dB false]=_;simp[Xj,d]));show [dB (decide (((dL x.call.args).length:Int)=0))]=_;rw[Y0 _ (dL1 _)];simp[Xj,a,b,d]
  ·have hv2:XL p k x=(Jq p x.call&&(decide (x.call.client=k)&&decide (x.call.seq=x.seq+1))):=by rw[hv,u];rfl
   rw[hv2];refine JtL (ZG p x.call hp h1 h2 hx.1) rfl rfl rfl ?_;simp only[sC,sN];refine Jua (Jq p x.call) rfl (fun a=>?_) (fun a=>Jt9 (by show [dB false]=_;rw[a];rfl));refine Jt2 (x.call.client=k) rfl (fun b=>Jt9 ?_) (fun b=>Jt9 (by show [dB false]=_;simp[b]));show [dB (decide (x.call.seq=i64.wrap (x.seq+1)))]=_;rw[w64 (by omega) (by omega),a,decide_eq_true b];rfl
def YV (p:Pln) (x:Vt):Bool:=Jq p x.call&&JL x.code x.tells
def Jds (p:Pln) (l:List Vt):Bool:=decide (l.length≤100)&&l.all (YV p)
theorem JmS (p:Pln) (l:List Vt) (hp:JN p) (h1:1≤p.n) (h2:p.n≤4) (hl:Wa Jlk l):Ev L f_k1d (p.cells++[.s (dLg l)]) [dB (Jds p l)]:=by
 refine Jud (vs:=[.i p.n,.l (Je p.acts),.l (dL p.gives),.l (dL p.start),.l (dLg l)]) L_k1d rfl ?_;have hlen:(dLg l).length=l.length:=by simp[dLg]
 have hl0:=hl.1;refine Jt2 ((100:Int)<(l.length:Int)) (by show decide ((100:Int)<((dLg l).length:Int))=_;rw[hlen]) (fun h=>Jt9 (by show [dB false]=_;unfold Jds;rw[decide_eq_false (by omega)];rfl)) (fun h=>?_);have hv:Jds p l=l.all (YV p):=by unfold Jds;rw[decide_eq_true (by omega),JuC]
 rw[hv];refine Jt5 l.length (fun i=>[.i i]) (fun i=>((l.take i).all (YV p))=true) rfl rfl rfl fun i hi hq=>?_;simp only[sC,sN];refine JtN i hlen rfl (fun h'=>?_) (fun h'=>JtX (Jt9 ?_))
 ·obtain⟨x,hx,hm⟩:=sA1 h';have hf:=hl.2 x hm;have bad:YV p x=false→[dB false]=[dB (l.all (YV p))]:=fun hb=>by
   have:l.all (YV p)=false:=by rw[←List.take_append_drop i l,List.all_append,XF hx];simp[hb]
   rw[this]
  have good:YV p x=true→((l.take (i+1)).all (YV p))=true:=fun hb=>by rw[tS1 hx,List.all_append,hq];simp[hb]
  refine Jt3 (vs:=[.i x.call.client,.i x.call.seq,.i x.call.act,.l (dL x.call.args),.i x.code,.l (dL x.tells)]) i (mA1 (f:=Vt.g) hx) rfl rfl rfl rfl ?_;simp only[sC,sN];refine JtL (ZG p x.call hp h1 h2 hf.1) rfl rfl rfl ?_;simp only[sC,sN];refine JtI (Jq p x.call) rfl (fun a=>JtX (Jt9 (bad (by unfold YV;rw[a];rfl)))) (fun a=>?_);refine Jt3 (vs:=[.i x.call.client,.i x.call.seq,.i x.call.act,.l (dL x.call.args),.i x.code,.l (dL x.tells)]) i (mA1 (f:=Vt.g) hx) rfl rfl rfl rfl ?_;simp only[sC,sN];refine JtL (Jbi x.code x.tells hf.2) rfl rfl rfl ?_;simp only[sC,sN];exact JtI (JL x.code x.tells) rfl (fun b=>JtX (Jt9 (bad (by unfold YV;rw[a,b];rfl)))) (fun b=>JtH (vs:=[.i ((i+1:Nat):Int)]) (by rw[←wS h' (by omega)];rfl) ⟨h',rfl,good (by unfold YV;rw[a,b];rfl)⟩)
 ·show [dB true]=_;rw[tA1 h'] at hq;rw[hq]
def Jmd:Con:=⟨0,false,⟨0,0,0,[]⟩,0,[]⟩
def Jmm:Sit:=⟨false,false,0,[],[],[]⟩
def Vj (w:Wrl):Bool:=decide (w.sites.length=w.p.gives.length)&&(decide ((w.cons.length:Int)=w.p.n)&&(decide (w.net.length≤30)&&(Jds w.p w.log &&
 (Q4 w.sites.length (fun j=>J2 w.p (w.sites.getD j Jmm) j)&&(Q4 w.cons.length (fun j=>XL w.p j (w.cons.getD j Jmd))&&(w.net.all (Jw w.p)&&Zs w.p w.c))))))
theorem JnN (w:Wrl) (hf:JkC w) (h1:1≤w.p.n) (h2:w.p.n≤4) (hc:Qs w.p.acts=true):Ev L f_k1s (w.cells++[.s (dLL (Jb w.p.acts)),.s (dBl (Jj w.p.acts))]) [dB (Vj w)]:=by
 refine Jud (vs:=[.i w.p.n,.l (Je w.p.acts),.l (dL w.p.gives),.l (dL w.p.start),.l (dSt w.sites),.b w.c.up,.i w.c.round,.l (dL w.c.base),.l (dDs w.c.done),.l (dCs w.c.wants),.l (dGs w.c.got),.l (dCn w.cons),.l (dMs w.net),.l (dLg w.log),.l (dLL (Jb w.p.acts)),.l (dBl (Jj w.p.acts))]) L_k1s rfl ?_;obtain⟨fp,fs,fc,fn,fm,fl⟩:=hf;have s0:=fs.1;have n0:=fn.1;have m0:=fm.1;refine JtI (decide (w.sites.length=w.p.gives.length)) (by show (!decide (((dSt w.sites).length:Int)=((dL w.p.gives).length:Int)))=_;rw[dL1,show (dSt w.sites).length=w.sites.length from Jur ..];simp[Int.ofNat_inj]) (fun b=>Jt9 (by show [dB false]=_;unfold Vj;rw[b];simp)) (fun a1=>?_);refine JtI (decide ((w.cons.length:Int)=w.p.n)) (by show (!decide (((dCn w.cons).length:Int)=w.p.n))=_;rw[show (dCn w.cons).length=w.cons.length from Jur ..]) (fun b=>Jt9 (by show [dB false]=_;unfold Vj;rw[b];simp)) (fun a2=>?_);refine Jt2 ((30:Int)<(w.net.length:Int)) (by show decide ((30:Int)<((dMs w.net).length:Int))=_;rw[show (dMs w.net).length=w.net.length from Jur ..]) (fun h=>Jt9 (by show [dB false]=_;unfold Vj;rw[decide_eq_false (show ¬w.net.length≤30 by omega)];simp)) (fun h30=>?_);refine JtL (JmS w.p w.log fp h1 h2 fl) rfl rfl rfl ?_;simp only[sC,sN];refine JtI (Jds w.p w.log) rfl (fun b=>Jt9 (by show [dB false]=_;unfold Vj;rw[b];simp)) (fun a3=>?_);have e:Vj w=(Q4 w.sites.length (fun j=>J2 w.p (w.sites.getD j Jmm) j)&&(Q4 w.cons.length (fun j=>XL w.p j (w.cons.getD j Jmd))&&(w.net.all (Jw w.p)&&Zs w.p w.c))):=by unfold Vj;rw[a1,a2,a3,decide_eq_true (show w.net.length≤30 by omega)];simp only[JuC]
 rw[e];refine Jt5 w.sites.length (fun i=>[.i i]) (fun i=>Q4 i (fun j=>J2 w.p (w.sites.getD j Jmm) j)=true) rfl rfl rfl fun i hi hq=>?_;simp only[sC,sN];refine JtN i (Jur (f:=Sit.g) (as:=w.sites)) rfl (fun h'=>?_) (fun h'=>JtX ?_)
 ·obtain⟨x,hx,hm⟩:=sA1 h';have hfi:J2 w.p (w.sites.getD i Jmm) i=J2 w.p x i:=by rw[QM hx]
  have bad:J2 w.p x i=false→∀B:Bool,[dB false]=[dB (Q4 w.sites.length (fun j=>J2 w.p (w.sites.getD j Jmm) j)&&B)]:=fun h B=>by rw[JaN h' (hfi.trans h)];rfl
  have good:J2 w.p x i=true→Q4 (i+1) (fun j=>J2 w.p (w.sites.getD j Jmm) j)=true:=fun h=>by rw[Ur,hq,hfi,h];rfl
  refine Jt3 (vs:=[.b x.up,.b x.frozen,.i x.round,.l (dL x.base),.l (dL x.added),.l (dDs x.done)]) i (mA1 (f:=Sit.g) hx) rfl rfl rfl rfl ?_;simp only[sC,sN];refine JtL (Jk9 w.p x i fp (fs.2 x hm) hc) rfl rfl rfl ?_;simp only[sC,sN];exact JtI (J2 w.p x i) rfl (fun e=>JtX (Jt9 (bad e _))) (fun e=>JtH (vs:=[.i ((i+1:Nat):Int)]) (by rw[←wS h' (by omega)];rfl) ⟨h',rfl,good e⟩)
 rw[show i=w.sites.length by omega] at hq;rw[hq,JuC];clear hq h' hi;refine Jt5 w.cons.length (fun i=>[.i i]) (fun i=>Q4 i (fun j=>XL w.p j (w.cons.getD j Jmd))=true) rfl rfl rfl fun i hi hq=>?_;simp only[sC,sN];refine JtN i (Jur (f:=Con.g) (as:=w.cons)) rfl (fun h'=>?_) (fun h'=>JtX ?_)
 ·obtain⟨x,hx,hm⟩:=sA1 h';have hfi:XL w.p i (w.cons.getD i Jmd)=XL w.p i x:=by rw[QM hx]
  have bad:XL w.p i x=false→∀B:Bool,[dB false]=[dB (Q4 w.cons.length (fun j=>XL w.p j (w.cons.getD j Jmd))&&B)]:=fun h B=>by rw[JaN h' (hfi.trans h)];rfl
  have good:XL w.p i x=true→Q4 (i+1) (fun j=>XL w.p j (w.cons.getD j Jmd))=true:=fun h=>by rw[Ur,hq,hfi,h];rfl
  refine Jt3 (vs:=[.i x.seq,.b x.busy,.i x.call.client,.i x.call.seq,.i x.call.act,.l (dL x.call.args),.i x.code,.l (dL x.tells)]) i (mA1 (f:=Con.g) hx) rfl rfl rfl rfl ?_;simp only[sC,sN];refine JtL (JgI w.p x i fp h1 h2 (fn.2 x hm)) rfl rfl rfl ?_;simp only[sC,sN];exact JtI (XL w.p i x) rfl (fun e=>JtX (Jt9 (bad e _))) (fun e=>JtH (vs:=[.i ((i+1:Nat):Int)]) (by rw[←wS h' (by omega)];rfl) ⟨h',rfl,good e⟩)
 rw[show i=w.cons.length by omega] at hq;rw[hq,JuC];clear hq h' hi;refine Jt5 w.net.length (fun i=>[.i i]) (fun i=>((w.net.take i).all (Jw w.p))=true) rfl rfl rfl fun i hi hq=>?_;simp only[sC,sN];refine JtN i (Jur (f:=Msg.g) (as:=w.net)) rfl (fun h'=>?_) (fun h'=>JtX ?_)
 ·obtain⟨x,hx,hm⟩:=sA1 h';have bad:Jw w.p x=false→[dB false]=[dB (w.net.all (Jw w.p)&&Zs w.p w.c)]:=fun hb=>by
   have:w.net.all (Jw w.p)=false:=by rw[←List.take_append_drop i w.net,List.all_append,XF hx];simp[hb]
   rw[this];rfl
  have good:Jw w.p x=true→((w.net.take (i+1)).all (Jw w.p))=true:=fun hb=>by rw[tS1 hx,List.all_append,hq];simp[hb]
  refine Jt3 (vs:=[.i x.kind,.i x.to,.i x.frm,.i x.round,.i x.call.client,.i x.call.seq,.i x.call.act,.l (dL x.call.args),.l (dL x.vals),.l (dL x.seqs),.l (dDs x.done)]) i (mA1 (f:=Msg.g) hx) rfl rfl rfl rfl ?_;simp only[sC,sN];refine JtL (Jlg w.p x fp h1 h2 (fm.2 x hm)) rfl rfl rfl ?_;simp only[sC,sN];exact JtI (Jw w.p x) rfl (fun e=>JtX (Jt9 (bad e))) (fun e=>JtH (vs:=[.i ((i+1:Nat):Int)]) (by rw[←wS h' (by omega)];rfl) ⟨h',rfl,good e⟩)
 rw[tA1 h'] at hq;rw[hq,JuC];exact JtL (Jps w.p w.c fp fc h1 h2 hc) rfl rfl rfl (Jt9 rfl)
/- Marks,and what is held,of lists of messages: over residual programs. Printed by wip/tools/pzz.py. -/
def Msg.w (x:Msg):Nat:=7+x.call.args.length+x.vals.length+x.seqs.length+wts Don.w x.done
/- The program's ClkFall answers as the reference's: over residual programs. -/
theorem J0 (x:Cal) (h:x.args.length≤2000000):Ev L f_k1v x.cells x.cells:=by
 refine Jud (vs:=[.i x.client,.i x.seq,.i x.act,.l (dL x.args)]) L_k1v rfl ?_;refine JtM (dL x.args) 2000000 (by rw[dL1];omega) (by omega) rfl ?_;refine JtS (JR x.args) ?_;exact JtM (dL x.args) 2000000 (by rw[dL1];omega) (by omega) rfl (Jt9 rfl)
theorem V0 (c:Clk) (hc:KH c):Ev L f_k1w c.cells c.cells:=by
 refine Jud (vs:=[.b c.up,.i c.round,.l (dL c.base),.l (dDs c.done),.l (dCs c.wants),.l (dGs c.got)]) L_k1w rfl ?_;have h1:=hc.b;have h2:=hc.c;have h3:=hc.g;refine JtM (dL c.base) 2000000 (by rw[dL1];omega) (by omega) rfl ?_;refine JtS (JR c.base) ?_;refine JtM (dL c.base) 2000000 (by rw[dL1];omega) (by omega) rfl ?_;refine JtL (vs:=[.l (dDs c.done)]) (Yh c.done ⟨hc.d,hc.dt⟩) rfl rfl rfl ?_;simp only[sC,sN];refine Jt5 c.wants.length (fun i=>[.l (dCs (c.wants.take i)),.i i]) (fun _=>True) rfl rfl trivial fun i hi _=>?_;simp only[sC,sN];refine JtN i (Yj c.wants) rfl (fun h=>?_) (fun h=>JtX ?_)
 ·obtain⟨x,hx,hm⟩:=sA1 h;refine Jt3 (vs:=[.i x.client,.i x.seq,.i x.act,.l (dL x.args)]) i (mA1 (f:=Cal.g) hx) rfl rfl rfl rfl ?_;simp only[sC,sN];refine JtL (vs:=[.i x.client,.i x.seq,.i x.act,.l (dL x.args)]) (J0 x (hc.ct x hm)) rfl rfl rfl ?_;simp only[sC,sN];refine Juc (dCs (c.wants.take i)) 2000000 (by rw[Yj,Jux];omega) (by omega) rfl ?_;refine JtH (vs:=[.l (dCs (c.wants.take (i+1))),.i ((i+1:Nat):Int)]) ?_ ⟨h,rfl,trivial⟩;show [V.l (dCs (c.wants.take i)++[x.g]),V.i (i64.wrap ((i:Int)+1))]=_;rw[wS h (by omega),tS1 hx];simp only[dCs,List.map_append,Juq,List.map_nil]
 rw[tA1 h];refine Jt5 c.got.length (fun i=>[.l (dGs (c.got.take i)),.i i]) (fun _=>True) rfl rfl trivial fun j hj _=>?_;simp only[sC,sN];refine JtN j (Ul c.got) rfl (fun h=>?_) (fun h=>JtX (Jt9 ?_))
 ·obtain⟨x,hx,hm⟩:=sA1 h;have hg:(dGs c.got)[j]? = some x.g:=mA1 (f:=Got.g) hx;have hx1:=hc.gt x hm;have ha:(dL x.added).length≤2000000:=by rw[dL1];exact hx1.1
  have hs:(dL x.seqs).length≤2000000:=by rw[dL1];exact hx1.2
  refine Jt3 (vs:=[.b x.has,.l (dL x.added),.l (dL x.seqs)]) j hg rfl rfl rfl rfl ?_;simp only[sC,sN];refine Jt3 (vs:=[.b x.has,.l (dL x.added),.l (dL x.seqs)]) j hg rfl rfl rfl rfl ?_;simp only[sC,sN];refine JtM (dL x.added) 2000000 ha (by omega) rfl ?_;refine JtS (JR x.added) ?_;refine JtM (dL x.added) 2000000 ha (by omega) rfl ?_;refine Jt3 (vs:=[.b x.has,.l (dL x.added),.l (dL x.seqs)]) j hg rfl rfl rfl rfl ?_;simp only[sC,sN];refine JtM (dL x.seqs) 2000000 hs (by omega) rfl ?_;refine JtS (JR x.seqs) ?_;refine JtM (dL x.seqs) 2000000 hs (by omega) rfl ?_;refine Juc (dGs (c.got.take j)) 2000000 (by rw[Ul,Jux];omega) (by omega) rfl ?_;refine JtH (vs:=[.l (dGs (c.got.take (j+1))),.i ((j+1:Nat):Int)]) ?_ ⟨h,rfl,trivial⟩;show [V.l (dGs (c.got.take j)++[x.g]),V.i (i64.wrap ((j:Int)+1))]=_;rw[wS h (by omega),tS1 hx];simp only[dGs,List.map_append,Juq,List.map_nil]
 ·rw[tA1 h];rfl
def Kr (c:Clk) (u:Bool):Clk:=if c.up=u then c else ⟨u,c.round,c.base,c.done,[],List.replicate c.got.length X0⟩
theorem Jl6 (p:Pln) (c:Clk) (u:Bool) (hp:JN p) (hc:KH c) (hl:c.got.length=p.gives.length):Ev L f_k2s (p.cells++c.cells++[dB u]) (Kr c u).cells:=by
 refine Jud (vs:=[.i p.n,.l (Je p.acts),.l (dL p.gives),.l (dL p.start),.b c.up,.i c.round,.l (dL c.base),.l (dDs c.done),.l (dCs c.wants),.l (dGs c.got),.b u]) L_k2s rfl ?_;refine JtL (vs:=[.b c.up,.i c.round,.l (dL c.base),.l (dDs c.done),.l (dCs c.wants),.l (dGs c.got)]) (V0 c hc) rfl rfl rfl ?_;simp only[sC,sN];refine JtI (u == c.up) rfl (fun h=>?_) (fun h=>Jt9 ?_)
 ·refine JtL (Jba p hp.2.1) rfl rfl rfl (Jt9 ?_);have h : ¬c.up=u:=fun e=>by rw[e] at h;simp at h
  show _=(Kr c u).cells;unfold Kr;rw[if_neg h,hl];rfl
 ·have h:u=c.up:=by simpa using h
  show _=(Kr c u).cells;unfold Kr;rw[if_pos h.symm,h];rfl
end Go.Proofs.YtofcmnglieaoeaaGreatDoor

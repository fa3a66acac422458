import Derived.Test.YtdmjmcegcpdenaaGreatDoorPZW
import Derived.Test.YtdmjmcegcpdenaaGreatDoorPY
import Derived.Test.YtdmjmcegcpdenaaGreatDoorTd
import Derived.Test.YtdmjmcegcpdenaaGreatDoorPZR
set_option linter.unusedVariables false
set_option linter.unusedSimpArgs false
/- In the beginning all are alike: over residual programs. -/
namespace Go.Proofs.YtdmjmcegcpdenaaGreatDoor
open Go Go.Tm
theorem Jdh {bs:List Int} {p:Int} (hr:Rdr bs p) (hf:p≤999999900000) :
  ∃ (l:Pln) (q:Int),Ev L f_ke [.s (Ja bs),dI p] (l.cells++[.s (Ja bs),dI q])∧p≤q∧q≤p+2000∧Ua l.acts∧l.gives.length≤3∧l.start.length=3∧JH l=true:=by
 have key : ∃ ds,Ev L f_ke [.s (Ja bs),dI p] ds∧∃ (l:Pln) (q:Int),ds=l.cells++[.s (Ja bs),dI q]∧p≤q∧q≤p+2000∧Ua l.acts∧l.gives.length≤3∧l.start.length=3∧JH l=true:=by
  refine Jth (vs:=[.l (Ja bs),.i p]) L_ke rfl ?_
  refine Je 4 hr (by omega) (by omega) rfl rfl fun u hu0 hu1=>?_
  obtain⟨as,q,he,q1,q2,hs,has1⟩:=JcX (hr.go (q:=p+1) (by omega) (by omega)) (by omega)
  have ht:Ua as:=⟨by have:=hs.1;omega,fun a ha=>(hs.2 a ha).thin⟩
  refine JsZ he rfl rfl rfl ?_
  refine Je 3 (hr.go (q:=q) (by omega) (by omega)) (by omega) (by omega) rfl rfl fun w hw0 hw1=>?_
  simp only[sC,sN]
  refine Jta (fun m vs=>∃ (gs:List Int) (k o:Int),vs=[.l (dL gs),.i k,.i o,.l (Ja bs)]∧q≤o∧o+k≤q+10∧0≤k∧k≤3∧(m:Int)=k∧(gs.length:Int)+k=1+w∧∀z∈gs,0≤z∧z≤50) rfl (1+w).toNat
   ⟨[],1+w,q+1,?_,by omega,by omega,by omega,by omega,by omega,by simp,fun z hz=>by simp at hz⟩ ?_
  ·show [V.l [],V.i (IntKind.i64.wrap (1+w)),V.i (q+1),V.l (Ja bs)]=_
   rw[w64 (by omega) (by omega)];rfl
  rintro m _ ⟨gs,k,o,rfl,o1,o2,k0,k3,hm,hl,hgs⟩
  simp only[sC,sN]
  refine JsI (0<k) rfl (fun h=>?_) (fun h=>JsS ?_)
  ·refine Je 5 (hr.go (q:=o) (by omega) (by omega)) (by omega) (by omega) rfl rfl fun x hx0 hx1=>?_
   simp only[sC,sN]
   refine Js4 (0≤x) rfl hx0 ?_
   refine Js4 (x<5) rfl hx1 ?_
   refine Jtd (ds:=dL [0,3,9,20,50]) x rfl rfl rfl hx0 (JV hx0 hx1) rfl ?_
   have hy:0≤([0,3,9,20,50]:List Int).getD x.toNat 0∧([0,3,9,20,50]:List Int).getD x.toNat 0≤50:=by rcases (by omega:x=0∨x=1∨x=2∨x=3∨x=4) with q | q | q | q | q <;> subst q <;> decide
   generalize ([0,3,9,20,50]:List Int).getD x.toNat 0=y at *
   refine JsX (dL gs) 10 (by rw[dL1];omega) (by omega) rfl ?_
   refine Js3 (vs:=[.l (dL (gs++[y])),.i (k-1),.i (o+1),.l (Ja bs)]) ?_ ⟨m-1,by omega,gs++[y],k-1,o+1,rfl,by omega,by omega,by omega,by omega,by omega,by simp;omega,fun z hz=>by
    rcases List.mem_append.1 hz with q | q
    ·exact hgs z q
    ·simp only[List.mem_singleton] at q;rw[q];exact hy⟩
   show [V.l (dL gs++[dI y]),V.i (IntKind.i64.wrap (k-1)),V.i (o+1),V.l (Ja bs)]=_
   rw[Xd,w64 (by omega) (by omega)]
  refine Jta (fun m vs=>∃ (ss:List Int) (r:Int),vs=[.l (dL ss),.i (ss.length:Int),.i r,.l (Ja bs)]∧o≤r∧r≤o+ss.length∧ss.length≤3∧m=3-ss.length∧Lim 1000 ss) rfl 3
   ⟨[],o,rfl,by omega,by simp,by simp,by simp,fun z hz=>by simp at hz⟩ ?_
  rintro m _ ⟨ss,r,rfl,r1,r2,hs3,hm3,hss⟩
  simp only[sC,sN]
  refine JsI ((ss.length:Int)<3) rfl (fun h3=>?_) (fun h3=>JsS (JsN ⟨⟨1+u,as,gs,ss⟩,r,?_,by omega,by omega,ht,?_,?_,?_⟩))
  ·refine Je 6 (hr.go (q:=r) (by omega) (by omega)) (by omega) (by omega) rfl rfl fun x hx0 hx1=>?_
   simp only[sC,sN]
   refine Js4 (0≤x) rfl hx0 ?_
   refine Js4 (x<6) rfl hx1 ?_
   refine Jtd (ds:=dL [0,5,20,60,200,-8]) x rfl rfl rfl hx0 (JV hx0 hx1) rfl ?_
   have hy : -1000≤([0,5,20,60,200,-8]:List Int).getD x.toNat 0∧([0,5,20,60,200,-8]:List Int).getD x.toNat 0≤1000:=by rcases (by omega:x=0∨x=1∨x=2∨x=3∨x=4∨x=5) with q | q | q | q | q | q <;> subst q <;> decide
   generalize ([0,5,20,60,200,-8]:List Int).getD x.toNat 0=y at *
   refine JsX (dL ss) 10 (by rw[dL1];omega) (by omega) rfl ?_
   refine Js3 (vs:=[.l (dL (ss++[y])),.i ((ss++[y]).length:Int),.i (r+1),.l (Ja bs)]) ?_ ⟨m-1,by omega,ss++[y],r+1,rfl,by omega,by simp;omega,by simp;omega,by simp;omega,hss.snoc hy⟩
   show [V.l (dL ss++[dI y]),V.i (IntKind.i64.wrap ((ss.length:Int)+1)),V.i (r+1),V.l (Ja bs)]=_
   rw[Xd,w64 (by omega) (by omega)];simp
  ·show [dI (IntKind.i64.wrap (1+u)),D.s (Jd as),D.s (dL gs),D.s (dL ss),D.s (Ja bs),dI r]=_
   rw[w64 (by omega) (by omega)];rfl
  ·show gs.length≤3
   omega
  ·show ss.length=3
   omega
  ·have ho :∀a∈as,Qk a=true:=fun a ha=>(hs.2 a ha).2.2
   have hl4:=hs.1
   unfold JH Qi Qj
   simp only[Bool.and_eq_true,List.all_eq_true,Jp]
   exact⟨by omega,⟨by omega,ho⟩,Jo.2 ⟨by omega,hss⟩,⟨Qz.2 ⟨by omega,hss.mono (by omega)⟩,by omega⟩,hgs⟩
 obtain⟨ds,e1,l,q,rfl,e2⟩:=key
 exact⟨l,q,e1,e2⟩
theorem Jm7 (a b:List Int):dL a++dL b=dL (a++b):=by simp[dL]
theorem Jew {bs:List Int} {p n:Int} (hr:Rdr bs p) (hf:p≤999999800000) (n1:1≤n) (n2:n≤2000000) :
  ∃ (l:Pln) (q:Int),Ev L f_k30 [.s (Ja bs),dI p,dI n] (l.cells++[.s (Ja bs),dI q])∧p≤q∧q≤p+5000∧JT l:=by
 have key : ∃ ds,Ev L f_k30 [.s (Ja bs),dI p,dI n] ds∧∃ (l:Pln) (q:Int),ds=l.cells++[.s (Ja bs),dI q]∧p≤q∧q≤p+5000∧JT l:=by
  refine Jth (vs:=[.l (Ja bs),.i p,.i n]) L_k30 rfl ?_
  obtain⟨l,q,he,q1,q2,ha,hg,hs,_⟩:=Jdh hr (by omega)
  have hfit:JT l:=⟨ha.fit,by omega,by omega⟩
  refine JsZ (vs:=[.i l.n,.l (Jd l.acts),.l (dL l.gives),.l (dL l.start),.l (Ja bs),.i q]) he rfl rfl rfl ?_
  simp only[sC,sN]
  refine Je n (hr.go (q:=q) (by omega) (by omega)) n1 n2 rfl rfl fun u hu0 hu1=>?_
  simp only[sC,sN]
  refine JsI (0<u) rfl (fun _=>JsN ⟨l,q+1,rfl,by omega,by omega,hfit⟩) (fun _=>?_)
  refine Je 5 (hr.go (q:=q+1) (by omega) (by omega)) (by omega) (by omega) rfl rfl fun v hv0 hv1=>?_
  simp only[sC,sN]
  refine JsI (v=0) rfl (fun _=>?_) (fun _=>?_)
  ·refine Je 3 (hr.go (q:=q+1+1) (by omega) (by omega)) (by omega) (by omega) rfl rfl fun x hx0 hx1=>?_
   simp only[sC,sN]
   refine Js4 (0≤x) rfl hx0 ?_
   refine Js4 (x<3) rfl hx1 ?_
   refine Jtd (ds:=dL [0,5,-1]) x rfl rfl rfl hx0 (JV hx0 hx1) rfl ?_
   exact JsN ⟨⟨([0,5,-1]:List Int).getD x.toNat 0,l.acts,l.gives,l.start⟩,q+1+1+1,rfl,by omega,by omega,hfit⟩
  refine JsI (v=1) rfl (fun _=>?_) (fun _=>?_)
  ·obtain⟨as,o,ea,o1,o2,hth⟩:=Jel (hr.go (q:=q+1+1) (by omega) (by omega)) (by omega) (n:=1) (by omega) (by omega)
   refine JsZ ea rfl rfl rfl ?_
   simp only[sC,sN]
   exact JsN ⟨⟨l.n,as,l.gives,l.start⟩,o,rfl,by omega,by omega,⟨hth.fit,hfit.2⟩⟩
  refine JsI (v=2) rfl (fun _=>?_) (fun _=>?_)
  ·refine Je 4 (hr.go (q:=q+1+1) (by omega) (by omega)) (by omega) (by omega) rfl rfl fun x hx0 hx1=>?_
   simp only[sC,sN]
   refine Js4 (0≤x) rfl hx0 ?_
   refine Js4 (x<4) rfl hx1 ?_
   refine Jtd (ds:=dL [-1,51,3,3]) x rfl rfl rfl hx0 (JV hx0 hx1) rfl ?_
   generalize ([-1,51,3,3]:List Int).getD x.toNat 0=y
   refine Js6 (dL (l.gives++[y,4,4])) 100 (by rw[dL1];simp;omega) (by omega) (Jm7 l.gives [y,4,4]) ?_
   refine JsN ⟨⟨l.n,l.acts,l.gives++[y,4,4],l.start⟩,q+1+1+1,?_,by omega,by omega,⟨hfit.1,by simp;omega,hfit.2.2⟩⟩
   show [dI l.n,D.s (Jd l.acts),D.s (dL l.gives++dL [y,4,4]),D.s (dL l.start),D.s (Ja bs),dI (q+1+1+1)]=_
   rw[Jm7];rfl
  refine JsI (v=3) rfl (fun _=>?_) (fun _=>?_)
  ·refine Je 3 (hr.go (q:=q+1+1) (by omega) (by omega)) (by omega) (by omega) rfl rfl fun x hx0 hx1=>?_
   simp only[sC,sN]
   refine Js4 (0≤x) rfl hx0 ?_
   refine Js4 (x<3) rfl hx1 ?_
   refine Jtd (ds:=dL [1001,-1000,1000]) x rfl rfl rfl hx0 (JV hx0 hx1) rfl ?_
   generalize ([1001,-1000,1000]:List Int).getD x.toNat 0=y
   obtain⟨z,hz,_⟩:=sA1 (show 0<l.start.length by omega)
   refine Js4 ((0:Int)<((dL l.start).length:Int)) rfl (by rw[dL1];omega) ?_
   refine Js9 0 (mA1 (f:=dI) hz) rfl rfl rfl rfl ?_
   refine JsN ⟨⟨l.n,l.acts,l.gives,l.start.set 0 y⟩,q+1+1+1,?_,by omega,by omega,⟨hfit.1,hfit.2.1,by simp;omega⟩⟩
   show [dI l.n,D.s (Jd l.acts),D.s (dL l.gives),D.s ((dL l.start).set (0:Int).toNat (dI y)),D.s (Ja bs),dI (q+1+1+1)]=_
   rw[QK];rfl
  ·refine Js4 ((2:Int)≤((dL l.start).length:Int)) rfl (by rw[dL1];omega) ?_
   refine JsN ⟨⟨l.n,l.acts,l.gives,l.start.take 2⟩,q+1+1,?_,by omega,by omega,⟨hfit.1,hfit.2.1,by simp;omega⟩⟩
   show [dI l.n,D.s (Jd l.acts),D.s (dL l.gives),D.s ((dL l.start).take (2:Int).toNat),D.s (Ja bs),dI (q+1+1)]=_
   rw[show ((2:Int).toNat)=2 from rfl,VI];rfl
 obtain⟨ds,e1,l,q,rfl,e2⟩:=key
 exact⟨l,q,e1,e2⟩
theorem Jbx (l:List Int) (hl:l.length≤2000000):Ev L f_k5e [.s (dL l),.s (dL l)] [dB true]:=by
 have h:=Jey l l hl
 rwa [decide_eq_true rfl] at h
theorem Jiw (l:List Don) (hl:Wm Yd l):Ev L f_k5g [.s (dDs l),.s (dDs l)] [dB true]:=by
 refine Jtg (vs:=[.l (dDs l),.l (dDs l)]) L_k5g rfl ?_
 have hl0:=hl.1
 refine JsO (by show (!decide (((dDs l).length:Int)=((dDs l).length:Int)))=false;simp) ?_
 refine Js2 l.length (fun i=>[.i i]) (fun _=>True) rfl rfl trivial fun i hi _=>?_
 simp only[sC,sN]
 refine JsY i (Q2 l) rfl (fun h=>?_) (fun h=>JsS (JsN rfl))
 obtain⟨x,hx,hm⟩:=sA1 h
 have hg:(dDs l)[i]? = some x.g:=mA1 (f:=Don.g) hx
 have hco:=Joc x.code x.code x.tells x.tells (hl.2 x hm)
 rw[decide_eq_true rfl,decide_eq_true rfl] at hco
 refine Js9 (vs:=[.i x.seq,.i x.code,.l (dL x.tells)]) i hg rfl rfl rfl rfl ?_
 refine Js9 (vs:=[.i x.seq,.i x.code,.l (dL x.tells)]) i hg rfl rfl rfl rfl ?_
 simp only[sC,sN]
 refine JsO (by show (!decide (x.seq=x.seq))=false;simp) ?_
 refine Js9 (vs:=[.i x.seq,.i x.code,.l (dL x.tells)]) i hg rfl rfl rfl rfl ?_
 refine Js9 (vs:=[.i x.seq,.i x.code,.l (dL x.tells)]) i hg rfl rfl rfl rfl ?_
 simp only[sC,sN]
 refine JsZ hco rfl rfl rfl (JsO rfl ?_)
 exact Js3 (vs:=[.i ((i+1:Nat):Int)]) (by rw[←wS h (by omega)];rfl) ⟨h,rfl,trivial⟩
theorem UH (s:Sit) (hs:QB s):Ev L f_k5h (s.cells++s.cells) [dB true]:=by
 refine Jtg (vs:=[.b s.up,.b s.frozen,.i s.round,.l (dL s.base),.l (dL s.added),.l (dDs s.done),.b s.up,.b s.frozen,.i s.round,.l (dL s.base),.l (dL s.added),.l (dDs s.done)]) L_k5h rfl ?_
 refine JsP (by show (s.up == s.up)=true;simp) ?_
 refine JsP (by show (s.frozen == s.frozen)=true;simp) ?_
 refine JsP (by show decide (s.round=s.round)=true;simp) ?_
 refine JsZ (Jbx s.base hs.1) rfl rfl rfl (JsP rfl ?_)
 refine JsZ (Jbx s.added hs.2.1) rfl rfl rfl (JsP rfl ?_)
 exact JsZ (Jiw s.done ⟨hs.2.2.1,hs.2.2.2⟩) rfl rfl rfl (JsN rfl)
theorem JdY {n:Int} (h0:0≤n):Qc n (List.replicate n.toNat V0)=true:=by
 unfold Qc
 rw[Bool.and_eq_true]
 refine⟨by simp;omega,?_⟩
 rw[List.all_eq_true]
 intro d hd
 rw[(List.mem_replicate.1 hd).2]
 rfl
theorem JlD (as:List (List Jg)):QH (Jb as)=true:=by
 unfold QH
 rw[List.all_eq_true]
 intro p hp
 have:=(Q6 as).each p hp
 exact Jo.2 ⟨by omega,this.2⟩
theorem Jbz {p:Pln} (h:JH p=true):JW p.start=true:=by
 simp only[JH,Bool.and_eq_true,Jo] at h
 have:=h.2.2.1
 have hl:Lim 1000 p.start:=this.2
 exact Qz.2 ⟨by omega,hl.mono (by omega)⟩
theorem Qo {p:Pln} (h:JH p=true):1≤p.gives.length∧p.gives.length≤3:=by
 have:=(Qm h).2.2.2
 simp only[Qi,Bool.and_eq_true,Jp] at this
 omega
theorem JlJ {p:Pln} (h:JH p=true):JdP p (XM p)=true∧JiF p (XM p)=false:=by
 obtain⟨n1,n2,h3,_⟩:=Qm h
 have hg:=Qo h
 have hs:XM p=⟨true,0,p.start,List.replicate p.n.toNat V0,[],List.replicate p.gives.length XP⟩:=by unfold XM;rw[if_pos h]
 have hgot :∀j,KY p p.start (List.replicate p.gives.length XP) j=true:=fun j=>by
  unfold KY
  have:(List.replicate p.gives.length XP).getD j XP=XP:=by
   rw[List.getD_eq_getElem?_getD,List.getElem?_replicate]
   split <;> rfl
  rw[this];rfl
 have hh:XJ (List.replicate p.gives.length XP)=0:=by
  unfold XJ
  rw[List.length_eq_zero_iff,List.filter_eq_nil_iff]
  intro x hx
  rw[(List.mem_replicate.1 hx).2]
  simp[XP]
 have hok:JdP p (XM p)=true:=by
  rw[hs]
  unfold JdP Zf
  rw[h,Jbz h,JdY (by omega),Y0.2 fun j _=>hgot j]
  simp[inB,QV]
 refine⟨hok,?_⟩
 unfold JiF
 rw[hok,hs]
 show (true&&decide (XJ (List.replicate p.gives.length XP)=p.gives.length))=false
 rw[hh,Bool.true_and]
 exact decide_eq_false (by omega)
/- Worlds: sizes,copies,comparisons; which of them are ok: over residual programs. -/
structure UI where
 call:Cal
 code:Int
 tells:List Int
 deriving DecidableEq
abbrev dSt (l:List Sit):List D:=l.map Sit.g
abbrev dCn (l:List Con):List D:=l.map Con.g
abbrev dMs (l:List Msg):List D:=l.map Msg.g
def UI.cells (x:UI):List D:=[dI x.call.client,dI x.call.seq,dI x.call.act,.s (dL x.call.args),dI x.code,.s (dL x.tells)]
def UI.g (x:UI):D:= .g x.cells
abbrev dLg (l:List UI):List D:=l.map UI.g
def JkC (x:UI):Prop:=x.call.args.length≤2000000∧x.tells.length≤2000000
structure Wrl where
 p:Pln
 sites:List Sit
 c:Clk
 cons:List Con
 net:List Msg
 log:List UI
def Wrl.cells (w:Wrl):List D:=w.p.cells++[.s (dSt w.sites)]++w.c.cells++[.s (dCn w.cons),.s (dMs w.net),.s (dLg w.log)]
structure JjZ (w:Wrl):Prop where
 p:JT w.p
 s:Wm QB w.sites
 c:Um w.c
 n:Wm JjG w.cons
 m:Wm Ux w.net
 l:Wm JkC w.log
def Xx (p:Pln) (k:Int) (x:Con):Bool:=Xa ⟨x.seq,x.code,x.tells⟩&&(if x.busy then Jw p x.call&&(decide (x.call.client=k)&&decide (x.call.seq=x.seq+1)) else Y4 x.call)
theorem Jgb (p:Pln) (x:Con) (k:Int) (hp:JT p) (h1:1≤p.n) (h2:p.n≤4) (hx:JjG x):Ev L f_k1l (p.cells++x.cells++[dI k]) [dB (Xx p k x)]:=by
 refine Jtg (vs:=[.i p.n,.l (Jd p.acts),.l (dL p.gives),.l (dL p.start),.i x.seq,.b x.busy,.i x.call.client,.i x.call.seq,.i x.call.act,.l (dL x.call.args),.i x.code,.l (dL x.tells),.i k]) L_k1l rfl ?_
 have bad:Xa ⟨x.seq,x.code,x.tells⟩=false→[dB false]=[dB (Xx p k x)]:=fun h=>by unfold Xx;rw[h];rfl
 refine JsZ (JL x.seq 0 300) rfl rfl rfl ?_
 simp only[sC,sN]
 refine Jte (inB x.seq 0 300) rfl (fun b=>JsN (bad ?_)) (fun b=>?_)
 ·unfold Xa
  rw[if_neg (by intro e;have e:x.seq=0:=e;rw[e] at b;simp[inB] at b)]
  have:inB x.seq 1 300=false:=by
   unfold inB at b ⊢
   simp only[Bool.and_eq_false_iff,decide_eq_false_iff_not] at b ⊢
   omega
  show (inB x.seq 1 300&&_)=false
  rw[this];rfl
 have hc:Xa ⟨x.seq,x.code,x.tells⟩=if decide (x.seq=0)=decide (x.code=0) then(if x.seq=0 then decide (x.tells.length=0) else JI x.code x.tells) else false:=Jb3 (d:=⟨x.seq,x.code,x.tells⟩) b
 have hsq:0≤x.seq∧x.seq≤300:=by unfold inB at b;simp only[Bool.and_eq_true,decide_eq_true_eq] at b;exact b
 refine Jte (decide (x.seq=0) == decide (x.code=0)) rfl (fun e=>JsN (bad (by rw[hc,if_neg (by simpa using e)]))) (fun e=>?_)
 rw[if_pos (by simpa using e)] at hc
 have hv:Xa ⟨x.seq,x.code,x.tells⟩=true→Xx p k x=(if x.busy then Jw p x.call&&(decide (x.call.client=k)&&decide (x.call.seq=x.seq+1)) else Y4 x.call):=fun h=>by unfold Xx;rw[h];rfl
 refine JsI (x.seq=0) rfl (fun h0=>?_) (fun h0=>?_)
 ·rw[if_pos h0] at hc
  refine JsI (0<((dL x.tells).length:Int)) rfl (fun ht=>JsN (bad ?_)) (fun ht=>?_)
  ·rw[dL1] at ht
   rw[hc];exact decide_eq_false (by omega)
  have hv:=hv (by rw[dL1] at ht;rw[hc];exact decide_eq_true (by omega))
  refine JsO (by show decide ((0:Int)<x.seq)=false;rw[h0];rfl) ?_
  refine Jte x.busy rfl (fun u=>?_) (fun u=>?_)
  ·have hv2:Xx p k x=Y4 x.call:=by rw[hv,u];rfl
   rw[hv2]
   refine JsI (x.call.client=0) rfl (fun a=>?_) (fun a=>JsN (by show [dB false]=_;simp[Y4,a]))
   refine JsI (x.call.seq=0) rfl (fun b=>?_) (fun b=>JsN (by show [dB false]=_;simp[Y4,b]))
   refine JsI (x.call.act=0) rfl (fun d=>JsN ?_) (fun d=>JsN (by show [dB false]=_;simp[Y4,d]))
   show [dB (decide (((dL x.call.args).length:Int)=0))]=_
   rw[Ul _ (dL1 _)]
   simp[Y4,a,b,d]
  ·have hv2:Xx p k x=(Jw p x.call&&(decide (x.call.client=k)&&decide (x.call.seq=x.seq+1))):=by rw[hv,u];rfl
   rw[hv2]
   refine JsZ (Zw p x.call hp h1 h2 hx.1) rfl rfl rfl ?_
   simp only[sC,sN]
   refine JsW (Jw p x.call) rfl (fun a=>?_) (fun a=>JsN (by show [dB false]=_;rw[a];rfl))
   refine JsI (x.call.client=k) rfl (fun b=>JsN ?_) (fun b=>JsN (by show [dB false]=_;simp[b]))
   show [dB (decide (x.call.seq=IntKind.i64.wrap (x.seq+1)))]=_
   rw[w64 (by omega) (by omega),a,decide_eq_true b];rfl
 ·rw[if_neg h0] at hc
  refine JsP (by show decide ((0:Int)<x.seq)=true;simp;omega) ?_
  refine JsZ (Ja8 x.code x.tells hx.2) rfl rfl rfl ?_
  simp only[sC,sN]
  refine Jte (JI x.code x.tells) rfl (fun e=>JsN (bad (by rw[hc,e]))) (fun e=>?_)
  have hv:=hv (by rw[hc,e])
  refine Jte x.busy rfl (fun u=>?_) (fun u=>?_)
  ·have hv2:Xx p k x=Y4 x.call:=by rw[hv,u];rfl
   rw[hv2]
   refine JsI (x.call.client=0) rfl (fun a=>?_) (fun a=>JsN (by show [dB false]=_;simp[Y4,a]))
   refine JsI (x.call.seq=0) rfl (fun b=>?_) (fun b=>JsN (by show [dB false]=_;simp[Y4,b]))
   refine JsI (x.call.act=0) rfl (fun d=>JsN ?_) (fun d=>JsN (by show [dB false]=_;simp[Y4,d]))
   show [dB (decide (((dL x.call.args).length:Int)=0))]=_
   rw[Ul _ (dL1 _)]
   simp[Y4,a,b,d]
  ·have hv2:Xx p k x=(Jw p x.call&&(decide (x.call.client=k)&&decide (x.call.seq=x.seq+1))):=by rw[hv,u];rfl
   rw[hv2]
   refine JsZ (Zw p x.call hp h1 h2 hx.1) rfl rfl rfl ?_
   simp only[sC,sN]
   refine JsW (Jw p x.call) rfl (fun a=>?_) (fun a=>JsN (by show [dB false]=_;rw[a];rfl))
   refine JsI (x.call.client=k) rfl (fun b=>JsN ?_) (fun b=>JsN (by show [dB false]=_;simp[b]))
   show [dB (decide (x.call.seq=IntKind.i64.wrap (x.seq+1)))]=_
   rw[w64 (by omega) (by omega),a,decide_eq_true b];rfl
def YI (p:Pln) (x:UI):Bool:=Jw p x.call&&JI x.code x.tells
def Jdg (p:Pln) (l:List UI):Bool:=decide (l.length≤100)&&l.all (YI p)
theorem JmE (p:Pln) (l:List UI) (hp:JT p) (h1:1≤p.n) (h2:p.n≤4) (hl:Wm JkC l):Ev L f_k1d (p.cells++[.s (dLg l)]) [dB (Jdg p l)]:=by
 refine Jtg (vs:=[.i p.n,.l (Jd p.acts),.l (dL p.gives),.l (dL p.start),.l (dLg l)]) L_k1d rfl ?_
 have hlen:(dLg l).length=l.length:=by simp[dLg]
 have hl0:=hl.1
 refine JsI ((100:Int)<(l.length:Int)) (by show decide ((100:Int)<((dLg l).length:Int))=_;rw[hlen]) (fun h=>JsN (by show [dB false]=_;unfold Jdg;rw[decide_eq_false (by omega)];rfl)) (fun h=>?_)
 have hv:Jdg p l=l.all (YI p):=by unfold Jdg;rw[decide_eq_true (by omega),Bool.true_and]
 rw[hv]
 refine Js2 l.length (fun i=>[.i i]) (fun i=>((l.take i).all (YI p))=true) rfl rfl rfl fun i hi hq=>?_
 simp only[sC,sN]
 refine JsY i hlen rfl (fun h'=>?_) (fun h'=>JsS (JsN ?_))
 ·obtain⟨x,hx,hm⟩:=sA1 h'
  have hf:=hl.2 x hm
  have bad:YI p x=false→[dB false]=[dB (l.all (YI p))]:=fun hb=>by
   have:l.all (YI p)=false:=by rw[←List.take_append_drop i l,List.all_append,Xt hx];simp[hb]
   rw[this]
  have good:YI p x=true→((l.take (i+1)).all (YI p))=true:=fun hb=>by rw[tS1 hx,List.all_append,hq];simp[hb]
  refine Js9 (vs:=[.i x.call.client,.i x.call.seq,.i x.call.act,.l (dL x.call.args),.i x.code,.l (dL x.tells)]) i (mA1 (f:=UI.g) hx) rfl rfl rfl rfl ?_
  simp only[sC,sN]
  refine JsZ (Zw p x.call hp h1 h2 hf.1) rfl rfl rfl ?_
  simp only[sC,sN]
  refine Jte (Jw p x.call) rfl (fun a=>JsS (JsN (bad (by unfold YI;rw[a];rfl)))) (fun a=>?_)
  refine Js9 (vs:=[.i x.call.client,.i x.call.seq,.i x.call.act,.l (dL x.call.args),.i x.code,.l (dL x.tells)]) i (mA1 (f:=UI.g) hx) rfl rfl rfl rfl ?_
  simp only[sC,sN]
  refine JsZ (Ja8 x.code x.tells hf.2) rfl rfl rfl ?_
  simp only[sC,sN]
  exact Jte (JI x.code x.tells) rfl (fun b=>JsS (JsN (bad (by unfold YI;rw[a,b];rfl)))) (fun b=>Js3 (vs:=[.i ((i+1:Nat):Int)]) (by rw[←wS h' (by omega)];rfl) ⟨h',rfl,good (by unfold YI;rw[a,b];rfl)⟩)
 ·show [dB true]=_
  rw[tA1 h'] at hq
  rw[hq]
def Jlw:Con:=⟨0,false,⟨0,0,0,[]⟩,0,[]⟩
def Jmb:Sit:=⟨false,false,0,[],[],[]⟩
def UO (w:Wrl):Bool:=decide (w.sites.length=w.p.gives.length)&&(decide ((w.cons.length:Int)=w.p.n)&&(decide (w.net.length≤30)&&(Jdg w.p w.log &&
 (QV w.sites.length (fun j=>J4 w.p (w.sites.getD j Jmb) j)&&(QV w.cons.length (fun j=>Xx w.p j (w.cons.getD j Jlw))&&(w.net.all (JS w.p)&&Zf w.p w.c))))))
theorem Jng (w:Wrl) (hf:JjZ w) (h1:1≤w.p.n) (h2:w.p.n≤4) (hc:Qj w.p.acts=true):Ev L f_k1s (w.cells++[.s (dLL (Jb w.p.acts)),.s (dBl (Jj w.p.acts))]) [dB (UO w)]:=by
 refine Jtg (vs:=[.i w.p.n,.l (Jd w.p.acts),.l (dL w.p.gives),.l (dL w.p.start),.l (dSt w.sites),.b w.c.up,.i w.c.round,.l (dL w.c.base),.l (dDs w.c.done),.l (dCs w.c.wants),.l (dGs w.c.got),.l (dCn w.cons),.l (dMs w.net),.l (dLg w.log),.l (dLL (Jb w.p.acts)),.l (dBl (Jj w.p.acts))]) L_k1s rfl ?_
 obtain⟨fp,fs,fc,fn,fm,fl⟩:=hf
 have s0:=fs.1
 have n0:=fn.1
 have m0:=fm.1
 refine Jte (decide (w.sites.length=w.p.gives.length)) (by show (!decide (((dSt w.sites).length:Int)=((dL w.p.gives).length:Int)))=_;rw[dL1,show (dSt w.sites).length=w.sites.length from List.length_map ..];simp[Int.ofNat_inj]) (fun b=>JsN (by show [dB false]=_;unfold UO;rw[b];simp)) (fun a1=>?_)
 refine Jte (decide ((w.cons.length:Int)=w.p.n)) (by show (!decide (((dCn w.cons).length:Int)=w.p.n))=_;rw[show (dCn w.cons).length=w.cons.length from List.length_map ..]) (fun b=>JsN (by show [dB false]=_;unfold UO;rw[b];simp)) (fun a2=>?_)
 refine JsI ((30:Int)<(w.net.length:Int)) (by show decide ((30:Int)<((dMs w.net).length:Int))=_;rw[show (dMs w.net).length=w.net.length from List.length_map ..]) (fun h=>JsN (by show [dB false]=_;unfold UO;rw[decide_eq_false (show ¬w.net.length≤30 by omega)];simp)) (fun h30=>?_)
 refine JsZ (JmE w.p w.log fp h1 h2 fl) rfl rfl rfl ?_
 simp only[sC,sN]
 refine Jte (Jdg w.p w.log) rfl (fun b=>JsN (by show [dB false]=_;unfold UO;rw[b];simp)) (fun a3=>?_)
 have e:UO w=(QV w.sites.length (fun j=>J4 w.p (w.sites.getD j Jmb) j)&&(QV w.cons.length (fun j=>Xx w.p j (w.cons.getD j Jlw))&&(w.net.all (JS w.p)&&Zf w.p w.c))):=by unfold UO;rw[a1,a2,a3,decide_eq_true (show w.net.length≤30 by omega)];simp only[Bool.true_and]
 rw[e]
 refine Js2 w.sites.length (fun i=>[.i i]) (fun i=>QV i (fun j=>J4 w.p (w.sites.getD j Jmb) j)=true) rfl rfl rfl fun i hi hq=>?_
 simp only[sC,sN]
 refine JsY i (List.length_map (f:=Sit.g) (as:=w.sites)) rfl (fun h'=>?_) (fun h'=>JsS ?_)
 ·obtain⟨x,hx,hm⟩:=sA1 h'
  have hfi:J4 w.p (w.sites.getD i Jmb) i=J4 w.p x i:=by rw[QG hx]
  have bad:J4 w.p x i=false→∀B:Bool,[dB false]=[dB (QV w.sites.length (fun j=>J4 w.p (w.sites.getD j Jmb) j)&&B)]:=fun h B=>by rw[Jag h' (hfi.trans h)];rfl
  have good:J4 w.p x i=true→QV (i+1) (fun j=>J4 w.p (w.sites.getD j Jmb) j)=true:=fun h=>by rw[Ud,hq,hfi,h];rfl
  refine Js9 (vs:=[.b x.up,.b x.frozen,.i x.round,.l (dL x.base),.l (dL x.added),.l (dDs x.done)]) i (mA1 (f:=Sit.g) hx) rfl rfl rfl rfl ?_
  simp only[sC,sN]
  refine JsZ (JkG w.p x i fp (fs.2 x hm) hc) rfl rfl rfl ?_
  simp only[sC,sN]
  exact Jte (J4 w.p x i) rfl (fun e=>JsS (JsN (bad e _))) (fun e=>Js3 (vs:=[.i ((i+1:Nat):Int)]) (by rw[←wS h' (by omega)];rfl) ⟨h',rfl,good e⟩)
 rw[show i=w.sites.length by omega] at hq
 rw[hq,Bool.true_and]
 clear hq h' hi
 refine Js2 w.cons.length (fun i=>[.i i]) (fun i=>QV i (fun j=>Xx w.p j (w.cons.getD j Jlw))=true) rfl rfl rfl fun i hi hq=>?_
 simp only[sC,sN]
 refine JsY i (List.length_map (f:=Con.g) (as:=w.cons)) rfl (fun h'=>?_) (fun h'=>JsS ?_)
 ·obtain⟨x,hx,hm⟩:=sA1 h'
  have hfi:Xx w.p i (w.cons.getD i Jlw)=Xx w.p i x:=by rw[QG hx]
  have bad:Xx w.p i x=false→∀B:Bool,[dB false]=[dB (QV w.cons.length (fun j=>Xx w.p j (w.cons.getD j Jlw))&&B)]:=fun h B=>by rw[Jag h' (hfi.trans h)];rfl
  have good:Xx w.p i x=true→QV (i+1) (fun j=>Xx w.p j (w.cons.getD j Jlw))=true:=fun h=>by rw[Ud,hq,hfi,h];rfl
  refine Js9 (vs:=[.i x.seq,.b x.busy,.i x.call.client,.i x.call.seq,.i x.call.act,.l (dL x.call.args),.i x.code,.l (dL x.tells)]) i (mA1 (f:=Con.g) hx) rfl rfl rfl rfl ?_
  simp only[sC,sN]
  refine JsZ (Jgb w.p x i fp h1 h2 (fn.2 x hm)) rfl rfl rfl ?_
  simp only[sC,sN]
  exact Jte (Xx w.p i x) rfl (fun e=>JsS (JsN (bad e _))) (fun e=>Js3 (vs:=[.i ((i+1:Nat):Int)]) (by rw[←wS h' (by omega)];rfl) ⟨h',rfl,good e⟩)
 rw[show i=w.cons.length by omega] at hq
 rw[hq,Bool.true_and]
 clear hq h' hi
 refine Js2 w.net.length (fun i=>[.i i]) (fun i=>((w.net.take i).all (JS w.p))=true) rfl rfl rfl fun i hi hq=>?_
 simp only[sC,sN]
 refine JsY i (List.length_map (f:=Msg.g) (as:=w.net)) rfl (fun h'=>?_) (fun h'=>JsS ?_)
 ·obtain⟨x,hx,hm⟩:=sA1 h'
  have bad:JS w.p x=false→[dB false]=[dB (w.net.all (JS w.p)&&Zf w.p w.c)]:=fun hb=>by
   have:w.net.all (JS w.p)=false:=by rw[←List.take_append_drop i w.net,List.all_append,Xt hx];simp[hb]
   rw[this];rfl
  have good:JS w.p x=true→((w.net.take (i+1)).all (JS w.p))=true:=fun hb=>by rw[tS1 hx,List.all_append,hq];simp[hb]
  refine Js9 (vs:=[.i x.kind,.i x.to,.i x.frm,.i x.round,.i x.call.client,.i x.call.seq,.i x.call.act,.l (dL x.call.args),.l (dL x.vals),.l (dL x.seqs),.l (dDs x.done)]) i (mA1 (f:=Msg.g) hx) rfl rfl rfl rfl ?_
  simp only[sC,sN]
  refine JsZ (JpK w.p x fp h1 h2 (fm.2 x hm)) rfl rfl rfl ?_
  simp only[sC,sN]
  exact Jte (JS w.p x) rfl (fun e=>JsS (JsN (bad e))) (fun e=>Js3 (vs:=[.i ((i+1:Nat):Int)]) (by rw[←wS h' (by omega)];rfl) ⟨h',rfl,good e⟩)
 rw[tA1 h'] at hq
 rw[hq,Bool.true_and]
 exact JsZ (Jps w.p w.c fp fc h1 h2 hc) rfl rfl rfl (JsN rfl)
/- Marks,and what is held,of lists of messages: over residual programs. Printed by wip/tools/pzz.py. -/
def Msg.w (x:Msg):Nat:=7+x.call.args.length+x.vals.length+x.seqs.length+wts Don.w x.done
/- The program's ClkFall answers as the reference's: over residual programs. -/
theorem JU (x:Cal) (h:x.args.length≤2000000):Ev L f_k1v x.cells x.cells:=by
 refine Jtg (vs:=[.i x.client,.i x.seq,.i x.act,.l (dL x.args)]) L_k1v rfl ?_
 refine Js6 (dL x.args) 2000000 (by rw[dL1];omega) (by omega) rfl ?_
 refine JsU (JO x.args) ?_
 exact Js6 (dL x.args) 2000000 (by rw[dL1];omega) (by omega) rfl (JsN rfl)
theorem Vy (c:Clk) (hc:Um c):Ev L f_k1w c.cells c.cells:=by
 refine Jtg (vs:=[.b c.up,.i c.round,.l (dL c.base),.l (dDs c.done),.l (dCs c.wants),.l (dGs c.got)]) L_k1w rfl ?_
 have h1:=hc.b
 have h2:=hc.c
 have h3:=hc.g
 refine Js6 (dL c.base) 2000000 (by rw[dL1];omega) (by omega) rfl ?_
 refine JsU (JO c.base) ?_
 refine Js6 (dL c.base) 2000000 (by rw[dL1];omega) (by omega) rfl ?_
 refine JsZ (vs:=[.l (dDs c.done)]) (Y3 c.done ⟨hc.d,hc.dt⟩) rfl rfl rfl ?_
 simp only[sC,sN]
 refine Js2 c.wants.length (fun i=>[.l (dCs (c.wants.take i)),.i i]) (fun _=>True) rfl rfl trivial fun i hi _=>?_
 simp only[sC,sN]
 refine JsY i (X8 c.wants) rfl (fun h=>?_) (fun h=>JsS ?_)
 ·obtain⟨x,hx,hm⟩:=sA1 h
  refine Js9 (vs:=[.i x.client,.i x.seq,.i x.act,.l (dL x.args)]) i (mA1 (f:=Cal.g) hx) rfl rfl rfl rfl ?_
  simp only[sC,sN]
  refine JsZ (vs:=[.i x.client,.i x.seq,.i x.act,.l (dL x.args)]) (JU x (hc.ct x hm)) rfl rfl rfl ?_
  simp only[sC,sN]
  refine JsX (dCs (c.wants.take i)) 2000000 (by rw[X8,List.length_take];omega) (by omega) rfl ?_
  refine Js3 (vs:=[.l (dCs (c.wants.take (i+1))),.i ((i+1:Nat):Int)]) ?_ ⟨h,rfl,trivial⟩
  show [V.l (dCs (c.wants.take i)++[x.g]),V.i (IntKind.i64.wrap ((i:Int)+1))]=_
  rw[wS h (by omega),tS1 hx]
  simp only[dCs,List.map_append,List.map_cons,List.map_nil]
 rw[tA1 h]
 refine Js2 c.got.length (fun i=>[.l (dGs (c.got.take i)),.i i]) (fun _=>True) rfl rfl trivial fun j hj _=>?_
 simp only[sC,sN]
 refine JsY j (Ug c.got) rfl (fun h=>?_) (fun h=>JsS (JsN ?_))
 ·obtain⟨x,hx,hm⟩:=sA1 h
  have hg:(dGs c.got)[j]? = some x.g:=mA1 (f:=Got.g) hx
  have hx1:=hc.gt x hm
  have ha:(dL x.added).length≤2000000:=by rw[dL1];exact hx1.1
  have hs:(dL x.seqs).length≤2000000:=by rw[dL1];exact hx1.2
  refine Js9 (vs:=[.b x.has,.l (dL x.added),.l (dL x.seqs)]) j hg rfl rfl rfl rfl ?_
  simp only[sC,sN]
  refine Js9 (vs:=[.b x.has,.l (dL x.added),.l (dL x.seqs)]) j hg rfl rfl rfl rfl ?_
  simp only[sC,sN]
  refine Js6 (dL x.added) 2000000 ha (by omega) rfl ?_
  refine JsU (JO x.added) ?_
  refine Js6 (dL x.added) 2000000 ha (by omega) rfl ?_
  refine Js9 (vs:=[.b x.has,.l (dL x.added),.l (dL x.seqs)]) j hg rfl rfl rfl rfl ?_
  simp only[sC,sN]
  refine Js6 (dL x.seqs) 2000000 hs (by omega) rfl ?_
  refine JsU (JO x.seqs) ?_
  refine Js6 (dL x.seqs) 2000000 hs (by omega) rfl ?_
  refine JsX (dGs (c.got.take j)) 2000000 (by rw[Ug,List.length_take];omega) (by omega) rfl ?_
  refine Js3 (vs:=[.l (dGs (c.got.take (j+1))),.i ((j+1:Nat):Int)]) ?_ ⟨h,rfl,trivial⟩
  show [V.l (dGs (c.got.take j)++[x.g]),V.i (IntKind.i64.wrap ((j:Int)+1))]=_
  rw[wS h (by omega),tS1 hx]
  simp only[dGs,List.map_append,List.map_cons,List.map_nil]
 ·rw[tA1 h];rfl
def Z7 (c:Clk) (u:Bool):Clk:=if c.up=u then c else ⟨u,c.round,c.base,c.done,[],List.replicate c.got.length XP⟩
theorem JmL (p:Pln) (c:Clk) (u:Bool) (hp:JT p) (hc:Um c) (hl:c.got.length=p.gives.length):Ev L f_k2s (p.cells++c.cells++[dB u]) (Z7 c u).cells:=by
 refine Jtg (vs:=[.i p.n,.l (Jd p.acts),.l (dL p.gives),.l (dL p.start),.b c.up,.i c.round,.l (dL c.base),.l (dDs c.done),.l (dCs c.wants),.l (dGs c.got),.b u]) L_k2s rfl ?_
 refine JsZ (vs:=[.b c.up,.i c.round,.l (dL c.base),.l (dDs c.done),.l (dCs c.wants),.l (dGs c.got)]) (Vy c hc) rfl rfl rfl ?_
 simp only[sC,sN]
 refine Jte (u == c.up) rfl (fun h=>?_) (fun h=>JsN ?_)
 ·refine JsZ (JaP p hp.2.1) rfl rfl rfl (JsN ?_)
  have h : ¬c.up=u:=fun e=>by rw[e] at h;simp at h
  show _=(Z7 c u).cells
  unfold Z7;rw[if_neg h,hl];rfl
 ·have h:u=c.up:=by simpa using h
  show _=(Z7 c u).cells
  unfold Z7;rw[if_pos h.symm,h];rfl
/- The program's SitHear answers as the reference's: over residual programs. -/
def Ut (g:Nat) (k:Int) (i:Nat) (x y:Don):Don:=if Int.tmod (i:Int) (g:Int)=k∧x.seq<y.seq then y else x
def XD (g:Nat) (k:Int) (sd md:List Don) (n:Nat):List Don:=sd.mapIdx fun j x=>if j<n then Ut g k j x (md.getD j V0) else x
theorem KF (g:Nat) (k:Int) (sd md:List Don) (n:Nat):(XD g k sd md n).length=sd.length:=by simp[XD]
theorem JoV (g:Nat) (k:Int) (sd md:List Don):XD g k sd md 0=sd:=by
 apply List.ext_getElem?;intro j;simp only[XD,List.getElem?_mapIdx];cases sd[j]? <;> simp
theorem Jiu {g:Nat} {k:Int} {sd md:List Don} {i:Nat} {x:Don} (h:sd[i]? = some x):(XD g k sd md i)[i]? = some x:=by
 simp[XD,List.getElem?_mapIdx,h]
theorem Jfs {g:Nat} {k:Int} {sd md:List Don} {i:Nat} {x y:Don} (h:sd[i]? = some x) (hy:md[i]? = some y):(XD g k sd md i).set i (Ut g k i x y)=XD g k sd md (i+1):=by
 apply List.ext_getElem?;intro j
 have hl:i<sd.length:=(List.getElem?_eq_some_iff.1 h).1
 by_cases hj:i=j
 ·subst hj
  rw[List.getElem?_set_self (by rw[KF];exact hl)]
  have e:md.getD i V0=y:=QG hy
  simp only[XD,List.getElem?_mapIdx,h,Option.map_some,e,show i<i+1 by omega,if_true]
 ·rw[List.getElem?_set_ne hj]
  simp only[XD,List.getElem?_mapIdx]
  cases sd[j]? with
  | none=>rfl
  | some z =>
   simp only[Option.map_some]
   by_cases h1:j<i
   ·rw[if_pos h1,if_pos (show j<i+1 by omega)]
   ·rw[if_neg h1,if_neg (show ¬j<i+1 by omega)]
theorem Jjm {g:Nat} {k:Int} {sd md:List Don} {i:Nat} {x y:Don} (h:sd[i]? = some x) (hy:md[i]? = some y) (hp : ¬(Int.tmod (i:Int) (g:Int)=k∧x.seq<y.seq)):XD g k sd md i=XD g k sd md (i+1):=by
 rw[←Jfs h hy]
 have e:Ut g k i x y=x:=by unfold Ut;rw[if_neg hp]
 rw[e]
 apply List.ext_getElem?;intro j
 have hl:i<sd.length:=(List.getElem?_eq_some_iff.1 h).1
 by_cases hj:i=j
 ·subst hj
  rw[List.getElem?_set_self (by rw[KF];exact hl)]
  exact Jiu h
 ·rw[List.getElem?_set_ne hj]
theorem JlN {g:Nat} {k:Int} {sd md:List Don} {n:Nat} (hl:md.length=sd.length) {d:Don} (h:d∈XD g k sd md n):d∈sd∨d∈md:=by
 obtain⟨j,hj⟩:=List.getElem?_of_mem h
 simp only[XD,List.getElem?_mapIdx] at hj
 cases hx:sd[j]? with
 | none=>rw[hx] at hj;simp at hj
 | some x =>
  have hjl:j<md.length:=by rw[hl];exact(List.getElem?_eq_some_iff.1 hx).1
  have hyy:md[j]? = some md[j]:=List.getElem?_eq_getElem hjl
  rw[hx] at hj
  simp only[Option.map_some,Option.some.injEq,QG hyy] at hj
  have mx:x∈sd:=List.mem_of_getElem? hx
  have my:md[j]∈md:=List.getElem_mem hjl
  split at hj
  ·unfold Ut at hj
   split at hj
   ·subst hj;exact .inr my
   ·subst hj;exact .inl mx
  ·subst hj;exact .inl mx
def V3 (l:List Don):List Int:=l.map fun d=>d.seq
def JeW (s:Sit) (k:Int):Msg:=⟨3,-1,k,s.round,⟨0,0,0,[]⟩,s.added,V3 s.done,[]⟩
def Vq (p:Pln) (s:Sit) (k:Int) (m:Msg):Sit :=
 if s.up=true∧m.to=k then
  if m.kind=2∧m.round=s.round then ⟨s.up,true,s.round,s.base,s.added,s.done⟩
  else if m.kind=4∧s.round<m.round then ⟨s.up,false,m.round,m.vals,[0,0,0],XD p.gives.length k s.done m.done s.done.length⟩
  else s
 else s
def KJ (s:Sit) (k:Int) (m:Msg):List Msg:=if s.up=true∧m.to=k∧m.kind=2∧m.round=s.round then [JeW s k] else []
theorem JjY (s:Sit) (k:Int) (hs:QB s):Ev L f_k2g (s.cells++[dI k]) (JeW s k).cells:=by
 refine Jtg (vs:=[.b s.up,.b s.frozen,.i s.round,.l (dL s.base),.l (dL s.added),.l (dDs s.done),.i k]) L_k2g rfl ?_
 have h2:=hs.2.1
 have h3:=hs.2.2.1
 refine Js6 (dL s.added) 2000000 (by rw[dL1];omega) (by omega) rfl ?_
 refine JsU (JO s.added) ?_
 refine Js6 (dL s.added) 2000000 (by rw[dL1];omega) (by omega) rfl ?_
 refine Js2 s.done.length (fun i=>[.l (dL (V3 (s.done.take i))),.i i]) (fun _=>True) rfl rfl trivial fun i hi _=>?_
 simp only[sC,sN]
 refine JsY i (Q2 s.done) rfl (fun h=>?_) (fun h=>JsS (JsN ?_))
 ·obtain⟨x,hx,hm⟩:=sA1 h
  refine Js9 (vs:=[.i x.seq,.i x.code,.l (dL x.tells)]) i (mA1 (f:=Don.g) hx) rfl rfl rfl rfl ?_
  simp only[sC,sN]
  refine JsX (dL (V3 (s.done.take i))) 2000000 (by rw[dL1];simp only[V3,List.length_map,List.length_take];omega) (by omega) rfl ?_
  refine Js3 (vs:=[.l (dL (V3 (s.done.take (i+1)))),.i ((i+1:Nat):Int)]) ?_ ⟨h,rfl,trivial⟩
  show [V.l (dL (V3 (s.done.take i))++[dI x.seq]),V.i (IntKind.i64.wrap ((i:Int)+1))]=_
  rw[wS h (by omega),tS1 hx]
  simp only[dL,V3,List.map_append,List.map_cons,List.map_nil]
 ·rw[tA1 h];rfl
theorem JgS {p:Pln} {s:Sit} {k:Int} {m:Msg} (h : ¬(s.up=true∧m.to=k)∨(¬(m.kind=2∧m.round=s.round)∧¬(m.kind=4∧s.round<m.round))):Vq p s k m=s∧KJ s k m=[]:=by
 unfold Vq KJ
 rcases h with h | ⟨h1,h2⟩
 ·rw[if_neg h,if_neg (fun q=>h ⟨q.1,q.2.1⟩)];exact⟨rfl,rfl⟩
 ·have h3 : ¬(s.up=true∧m.to=k∧m.kind=2∧m.round=s.round):=fun q=>h1 q.2.2
  rw[if_neg h1,if_neg h2,if_neg h3];simp
theorem JqM {p:Pln} {s:Sit} {k:Int} {m:Msg} (h1:s.up=true) (h2:m.to=k) (h3:m.kind=2) (h4:m.round=s.round):Vq p s k m=⟨s.up,true,s.round,s.base,s.added,s.done⟩∧KJ s k m=[JeW s k]:=by
 unfold Vq KJ
 rw[if_pos ⟨h1,h2⟩,if_pos ⟨h3,h4⟩,if_pos ⟨h1,h2,h3,h4⟩];exact⟨rfl,rfl⟩
theorem Jp4 {p:Pln} {s:Sit} {k:Int} {m:Msg} (h1:s.up=true) (h2:m.to=k) (h3:m.kind=4) (h4:s.round<m.round):Vq p s k m=⟨s.up,false,m.round,m.vals,[0,0,0],XD p.gives.length k s.done m.done s.done.length⟩∧KJ s k m=[]:=by
 unfold Vq KJ
 rw[if_pos ⟨h1,h2⟩,if_neg (fun q=>by omega),if_pos ⟨h3,h4⟩,if_neg (fun q=>by omega)];exact⟨rfl,rfl⟩
theorem JgY {α:Type} {l:List α} {i:Nat} {x:α} (h:l[i]? = some x):l.set i x=l:=by
 apply List.ext_getElem?;intro j
 have hl:i<l.length:=(List.getElem?_eq_some_iff.1 h).1
 by_cases hj:i=j
 ·subst hj;rw[List.getElem?_set_self hl,h]
 ·rw[List.getElem?_set_ne hj]
theorem JlS (p:Pln) (s:Sit) (k:Int) (m:Msg) (hs:QB s) (hm:Ux m) (hg:0<p.gives.length) (hdone:m.kind=4→m.done.length=s.done.length) :
  Ev L f_k2h (p.cells++s.cells++[dI k]++m.cells) ((Vq p s k m).cells++[.s (dMs (KJ s k m))]):=by
 refine Jtg (vs:=[.i p.n,.l (Jd p.acts),.l (dL p.gives),.l (dL p.start),.b s.up,.b s.frozen,.i s.round,.l (dL s.base),.l (dL s.added),.l (dDs s.done),.i k,.i m.kind,.i m.to,.i m.frm,.i m.round,.i m.call.client,.i m.call.seq,.i m.call.act,.l (dL m.call.args),.l (dL m.vals),.l (dL m.seqs),.l (dDs m.done)]) L_k2h rfl ?_
 refine JsZ (vs:=[.b s.up,.b s.frozen,.i s.round,.l (dL s.base),.l (dL s.added),.l (dDs s.done)]) (KT s hs) rfl rfl rfl ?_
 simp only[sC,sN]
 refine Jte s.up rfl (fun a=>JsN (by obtain⟨e1,e2⟩:=JgS (p:=p) (s:=s) (k:=k) (m:=m) (by exact .inl (fun q=>by rw[a] at q;cases q.1));rw[e1,e2];rfl)) (fun a=>?_)
 refine Jte (decide (m.to=k)) rfl (fun b=>JsN (by obtain⟨e1,e2⟩:=JgS (p:=p) (s:=s) (k:=k) (m:=m) (by exact .inl (fun q=>by simp[q.2] at b));rw[e1,e2];rfl)) (fun b=>?_)
 have b:m.to=k:=by simpa using b
 have hno :∀q:(¬(m.kind=2∧m.round=s.round)∧¬(m.kind=4∧s.round<m.round)),Vq p s k m=s∧KJ s k m=[]:=fun q=>JgS (.inr q)
 refine JsI (m.kind=2) rfl (fun d=>?_) (fun d=>?_)
 ·refine JsI (m.round=s.round) rfl (fun e=>?_) (fun e=>?_)
  ·obtain⟨e1,e2⟩:=JqM (p:=p) (s:=s) (k:=k) (m:=m) a b d e
   rw[e1,e2]
   have hv:=JjY ⟨s.up,true,s.round,s.base,s.added,s.done⟩ k hs
   refine JsZ (vs:=[.i 3,.i (-1),.i k,.i s.round,.i 0,.i 0,.i 0,.l (dL []),.l (dL s.added),.l (dL (V3 s.done)),.l (dDs [])]) hv rfl rfl rfl (JsN ?_)
   rfl
  ·refine JsI (m.kind=4) rfl (fun f=>absurd f (by omega)) (fun f=>JsN ?_)
   obtain⟨e1,e2⟩:=hno ⟨fun q=>e q.2,fun q=>f q.1⟩
   rw[e1,e2];rfl
 ·refine JsI (m.kind=4) rfl (fun f=>?_) (fun f=>JsN ?_)
  ·refine JsI (s.round<m.round) rfl (fun e=>?_) (fun e=>JsN ?_)
   ·obtain⟨e1,e2⟩:=Jp4 (p:=p) (s:=s) (k:=k) (m:=m) a b f e
    rw[e1,e2]
    have hd:=hdone f
    have hsl:=hs.2.2.1
    have hvl:(dL m.vals).length≤2000000:=by rw[dL1];exact hm.2.1
    refine Js6 (dL m.vals) 2000000 hvl (by omega) rfl ?_
    refine JsU (JO m.vals) ?_
    refine Js6 (dL m.vals) 2000000 hvl (by omega) rfl ?_
    refine Js2 s.done.length (fun i=>[.l (dDs (XD p.gives.length k s.done m.done i)),.i i]) (fun _=>True) rfl (by rw[JoV];rfl) trivial fun i hi _=>?_
    simp only[sC,sN]
    refine JsY i (show (dDs (XD p.gives.length k s.done m.done i)).length=s.done.length by rw[Q2,KF]) rfl (fun h=>?_) (fun h=>JsS (JsN ?_))
    ·obtain⟨x,hx,hxm⟩:=sA1 h
     obtain⟨y,hy,hym⟩:=sA1 (l:=m.done) (i:=i) (by omega)
     have hyg:(dDs m.done)[i]? = some y.g:=mA1 (f:=Don.g) hy
     have hxg:(dDs (XD p.gives.length k s.done m.done i))[i]? = some x.g:=mA1 (f:=Don.g) (Jiu hx)
     have hlt:i<(dDs (XD p.gives.length k s.done m.done i)).length:=by rw[Q2,KF];exact h
     have hset:=Jfs (g:=p.gives.length) (k:=k) hx hy
     have hsame:=Jjm (g:=p.gives.length) (k:=k) hx hy
     have hsd:(dDs (XD p.gives.length k s.done m.done i)).set i (Ut p.gives.length k i x y).g=dDs (XD p.gives.length k s.done m.done (i+1)):=by rw[←hset];simp only[dDs,List.map_set]
     refine Js9 (vs:=[.i y.seq,.i y.code,.l (dL y.tells)]) i hyg rfl rfl rfl rfl ?_
     simp only[sC,sN]
     generalize dDs (XD p.gives.length k s.done m.done i)=es at *
     refine JsG (vs:=[.i x.seq,.i x.code,.l (dL x.tells)]) (ds:=es) i hxg rfl rfl rfl rfl rfl rfl ?_
     simp only[sC,sN]
     have hw:IntKind.i64.wrap ((i:Int)+1)=((i+1:Nat):Int):=wS h (by omega)
     refine JsI (x.seq<y.seq) rfl (fun u=>?_) (fun u=>?_)
     ·refine Js8 (by show (!decide (((dL p.gives).length:Int)=0))=true;rw[dL1,Bool.not_eq_true',decide_eq_false_iff_not];omega) ?_
      refine JsI (Int.tmod (i:Int) (p.gives.length:Int)=k) (by show decide (Int.tmod (i:Int) ((dL p.gives).length:Int)=k)=_;rw[dL1]) (fun v=>?_) (fun v=>?_)
      ·refine Js9 (vs:=[.i y.seq,.i y.code,.l (dL y.tells)]) i hyg rfl rfl rfl rfl ?_
       simp only[sC,sN]
       refine Js9 (vs:=[.i y.seq,.i y.code,.l (dL y.tells)]) i hyg rfl rfl rfl rfl ?_
       simp only[sC,sN]
       refine JsZ (vs:=[.i y.code,.l (dL y.tells)]) (J8 y.code y.tells (hm.2.2.2.2 y hym)) rfl rfl rfl ?_
       simp only[sC,sN]
       refine JsG (vs:=[.i x.seq,.i x.code,.l (dL x.tells)]) (ds:=es) i hxg rfl rfl rfl rfl rfl rfl ?_
       refine Js3 ?_ ⟨h,rfl,trivial⟩
       have e5:Ut p.gives.length k i x y=y:=by unfold Ut;rw[if_pos ⟨v,u⟩]
       rw[e5] at hsd
       show [V.l (es.set i y.g),V.i (IntKind.i64.wrap ((i:Int)+1))]=_
       rw[hsd,hw]
      ·refine Js3 ?_ ⟨h,rfl,trivial⟩
       show [V.l es,V.i (IntKind.i64.wrap ((i:Int)+1))]=_
       have e5:Ut p.gives.length k i x y=x:=by unfold Ut;rw[if_neg (fun q=>v q.1)]
       rw[e5,JgY hxg] at hsd
       rw[hsd,hw]
     ·refine Js3 ?_ ⟨h,rfl,trivial⟩
      show [V.l es,V.i (IntKind.i64.wrap ((i:Int)+1))]=_
      have e5:Ut p.gives.length k i x y=x:=by unfold Ut;rw[if_neg (fun q=>u q.2)]
      rw[e5,JgY hxg] at hsd
      rw[hsd,hw]
    ·rw[show i=s.done.length by omega];rfl
   ·obtain⟨e1,e2⟩:=hno ⟨fun q=>d q.1,fun q=>e q.2⟩
    rw[e1,e2];rfl
  ·obtain⟨e1,e2⟩:=hno ⟨fun q=>d q.1,fun q=>f q.1⟩
   rw[e1,e2];rfl
/- The program's ClkTick answers as the reference's: over residual programs. -/
def JhK (c:Clk) (i:Nat):Msg:=⟨4,i,0,c.round,⟨0,0,0,[]⟩,c.base,[],c.done⟩
def Jpy (c:Clk) (i:Nat):Msg:=⟨2,i,0,c.round,⟨0,0,0,[]⟩,[],[],[]⟩
def Xn (c:Clk) (n:Nat):List Msg:=(List.range n).map (JhK c)
def Yx (c:Clk) (n:Nat):List Msg:=(List.range n).map (Jpy c)
theorem Jhv (c:Clk) (n:Nat):Xn c (n+1)=Xn c n++[JhK c n]:=by simp[Xn,List.range_succ]
theorem JjO (c:Clk) (n:Nat):Yx c (n+1)=Yx c n++[Jpy c n]:=by simp[Yx,List.range_succ]
theorem Z1 (c:Clk) (n:Nat):(Xn c n).length=n:=by simp[Xn]
theorem Jfg (c:Clk) (n:Nat):(Yx c n).length=n:=by simp[Yx]
def busy (c:Clk):Bool:=decide (0<c.wants.length)||decide (0<XJ c.got)
def JbA (c:Clk):List Msg:=if c.up then(if busy c then Xn c c.got.length++Yx c c.got.length else Xn c c.got.length) else []
theorem Jcp (a b:List Msg):dMs (a++b)=dMs a++dMs b:=by simp[dMs]
theorem Xb (a:List Msg):(dMs a).length=a.length:=by simp[dMs]
theorem Jod (c:Clk) (i:Nat):dMs [JhK c i]=[.g [dI 4,dI i,dI 0,dI c.round,dI 0,dI 0,dI 0,.s [],.s (dL c.base),.s [],.s (dDs c.done)]]:=rfl
theorem Jo2 (c:Clk) (i:Nat):dMs [Jpy c i]=[.g [dI 2,dI i,dI 0,dI c.round,dI 0,dI 0,dI 0,.s [],.s [],.s [],.s []]]:=rfl
theorem JmF (c:Clk) (i:Nat) (hc:Um c):Ev L f_k2m (c.cells++[dI i]) (JhK c i).cells:=by
 refine Jtg (vs:=[.b c.up,.i c.round,.l (dL c.base),.l (dDs c.done),.l (dCs c.wants),.l (dGs c.got),.i i]) L_k2m rfl ?_
 have h1:=hc.b
 refine Js6 (dL c.base) 2000000 (by rw[dL1];omega) (by omega) rfl ?_
 refine JsU (JO c.base) ?_
 refine Js6 (dL c.base) 2000000 (by rw[dL1];omega) (by omega) rfl ?_
 exact JsZ (vs:=[.l (dDs c.done)]) (Y3 c.done ⟨hc.d,hc.dt⟩) rfl rfl rfl (JsN rfl)
theorem Jfx (p:Pln) (c:Clk) (hp:JT p) (hc:Um c):Ev L f_k2n (p.cells++c.cells) [.s (dMs (Xn c p.gives.length))]:=by
 refine Jtg (vs:=[.i p.n,.l (Jd p.acts),.l (dL p.gives),.l (dL p.start),.b c.up,.i c.round,.l (dL c.base),.l (dDs c.done),.l (dCs c.wants),.l (dGs c.got)]) L_k2n rfl ?_
 have hg:=hp.2.1
 refine Js2 p.gives.length (fun i=>[.l (dMs (Xn c i)),.i i]) (fun _=>True) rfl rfl trivial fun i hi _=>?_
 simp only[sC,sN]
 refine JsY i (dL1 p.gives) rfl (fun h=>?_) (fun h=>JsS (JsN ?_))
 ·refine JsZ (vs:=[.i 4,.i i,.i 0,.i c.round,.i 0,.i 0,.i 0,.l [],.l (dL c.base),.l [],.l (dDs c.done)]) (JmF c i hc) rfl rfl rfl ?_
  simp only[sC,sN]
  refine JsX (dMs (Xn c i)) 2000000 (by rw[Xb,Z1];omega) (by omega) rfl ?_
  refine Js3 (vs:=[.l (dMs (Xn c (i+1))),.i ((i+1:Nat):Int)]) ?_ ⟨h,rfl,trivial⟩
  show [V.l (dMs (Xn c i)++[.g [dI 4,dI i,dI 0,dI c.round,dI 0,dI 0,dI 0,.s [],.s (dL c.base),.s [],.s (dDs c.done)]]),V.i (IntKind.i64.wrap ((i:Int)+1))]=_
  rw[wS h (by omega),Jhv,Jcp,Jod]
 ·rw[show i=p.gives.length by omega];rfl
theorem Jl9 (p:Pln) (c:Clk) (hp:JT p) (hc:Um c) (hl:c.got.length=p.gives.length):Ev L f_k2q (p.cells++c.cells) [.s (dMs (JbA c))]:=by
 refine Jtg (vs:=[.i p.n,.l (Jd p.acts),.l (dL p.gives),.l (dL p.start),.b c.up,.i c.round,.l (dL c.base),.l (dDs c.done),.l (dCs c.wants),.l (dGs c.got)]) L_k2q rfl ?_
 have hg:=hp.2.1
 have hcc:=hc.c
 refine Jte c.up rfl (fun a=>JsN (by unfold JbA;rw[if_neg (by simp[a])];rfl)) (fun a=>?_)
 have ht:=Jfx p c hp hc
 have hpl:=Z1 c p.gives.length
 have hh:=Jee c hc.g
 have et:JbA c=if busy c then Xn c p.gives.length++Yx c p.gives.length else Xn c p.gives.length:=by unfold JbA;rw[if_pos a,hl]
 rw[et]
 clear et
 generalize Xn c p.gives.length=ps at *
 refine JsZ (vs:=[.l (dMs ps)]) ht rfl rfl rfl ?_
 simp only[sC,sN]
 refine Js2 p.gives.length (fun i=>[.l (dMs (ps++Yx c i)),.i i]) (fun i=>i=0∨busy c=true) rfl (by rw[show Yx c 0=[] from rfl,List.append_nil];rfl) (.inl rfl) fun i hi hq=>?_
 simp only[sC,sN]
 have hs:dMs (ps++Yx c i)++[.g [dI 2,dI i,dI 0,dI c.round,dI 0,dI 0,dI 0,.s [],.s [],.s [],.s []]]=dMs (ps++Yx c (i+1)):=by rw[JjO,←List.append_assoc,Jcp (ps++Yx c i),Jo2]
 have hlen:(dMs (ps++Yx c i)).length≤4000000:=by rw[Xb,List.length_append,Jfg];omega
 have hend : ¬i<p.gives.length∨busy c=false→[D.s (dMs (ps++Yx c i))]=[D.s (dMs (if busy c then ps++Yx c p.gives.length else ps))]:=fun q=>by
  by_cases hb:busy c=true
  ·rw[if_pos hb]
   rcases q with q | q
   ·rw[show i=p.gives.length by omega]
   ·rw[q] at hb;cases hb
  ·rw[if_neg hb]
   rcases hq with e | e
   ·rw[e,show Yx c 0=[] from rfl,List.append_nil]
   ·exact absurd e hb
 generalize dMs (ps++Yx c i)=ms at *
 refine JsY i (dL1 p.gives) rfl (fun h=>?_) (fun h=>JsS (JsN (hend (.inl h))))
 have hw:IntKind.i64.wrap ((i:Int)+1)=((i+1:Nat):Int):=wS h (by omega)
 refine JsI ((0:Int)<(c.wants.length:Int)) (by show decide ((0:Int)<((dCs c.wants).length:Int))=_;rw[X8]) (fun b=>?_) (fun b=>?_)
 ·have e:busy c=true:=by unfold busy;rw[decide_eq_true (by omega)];rfl
  refine JsX ms 4000000 hlen (by omega) rfl ?_
  refine Js3 ?_ ⟨h,rfl,.inr e⟩
  show [V.l (ms++[.g [dI 2,dI i,dI 0,dI c.round,dI 0,dI 0,dI 0,.s [],.s [],.s [],.s []]]),V.i (IntKind.i64.wrap ((i:Int)+1))]=_
  rw[hs,hw]
 ·refine JsZ hh rfl rfl rfl ?_
  simp only[sC,sN]
  refine JsI ((0:Int)<(XJ c.got:Int)) rfl (fun d=>?_) (fun d=>JsS (JsN (hend (.inr ?_))))
  ·have e:busy c=true:=by unfold busy;rw[decide_eq_true (show 0<XJ c.got by omega),Bool.or_true]
   refine JsX ms 4000000 hlen (by omega) rfl ?_
   refine Js3 ?_ ⟨h,rfl,.inr e⟩
   show [V.l (ms++[.g [dI 2,dI i,dI 0,dI c.round,dI 0,dI 0,dI 0,.s [],.s [],.s [],.s []]]),V.i (IntKind.i64.wrap ((i:Int)+1))]=_
   rw[hs,hw]
  ·unfold busy;rw[decide_eq_false (by omega),decide_eq_false (by omega)];rfl
end Go.Proofs.YtdmjmcegcpdenaaGreatDoor

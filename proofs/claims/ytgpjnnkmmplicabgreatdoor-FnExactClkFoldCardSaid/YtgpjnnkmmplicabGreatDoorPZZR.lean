import Derived.Test.YtgpjnnkmmplicabGreatDoorPZZE
import Derived.Test.YtgpjnnkmmplicabGreatDoorPZQ
set_option linter.unusedVariables false
set_option linter.unusedSimpArgs false
/- A round's end,by the reference: over residual programs. -/
namespace Go.Proofs.YtgpjnnkmmplicabGreatDoor
open Go Go.Tm
open Go.IntKind (i64)
structure Z0 (p:Pln) (c:Clk):Prop where
 round:0≤c.round∧c.round≤200
 base:J3 c.base=true
 done:QG p.n c.done=true
 len:c.got.length=p.gives.length
 got :∀j,j<c.got.length→ZP p c.base c.got j=true
 wants :∀x∈c.wants,Qf p x=true
 asc:Asc c.wants
 down:c.up=false→c.wants=[]∧QQ c.got=0
theorem Jp2 {p:Pln} {c:Clk} (h:Y1 p c=true):Z0 p c:=by
 unfold Y1 at h;simp only[JrE,decide_eq_true_eq,Bool.or_eq_true] at h;obtain⟨h1,h2,h3,⟨h4,h5⟩,h6,h7⟩:=h;obtain⟨w1,w2⟩:=JeF.1 h6;exact⟨JG.1 h1,h2,h3,h4,Zm.1 h5,w1,w2,fun e=>by
  rcases h7 with q | q
  ·rw[e] at q;cases q
  ·exact⟨List.length_eq_zero_iff.1 q.1,q.2⟩⟩
theorem Z0.ok {p:Pln} {c:Clk} (h:Z0 p c):Y1 p c=true:=by
 unfold Y1;simp only[JrE,decide_eq_true_eq,Bool.or_eq_true];refine⟨JG.2 h.round,h.base,h.done,⟨h.len,Zm.2 h.got⟩,JeF.2 ⟨h.wants,h.asc⟩,?_⟩;cases e:c.up with
 | true=>exact .inl rfl
 | false=>exact .inr ⟨by rw[(h.down e).1];rfl,(h.down e).2⟩
theorem JdS {p:Pln} {b:List Int} {l:List Got} {j:Nat} {g:Got} (h:ZP p b l j=true) (hg:l[j]? = some g):(g.has=true→YE p b j g.added=true∧Xq p.n g.seqs=true)∧(g.has=false→g.added.length=0∧g.seqs.length=0):=by
 unfold ZP at h;rw[Xw hg] at h;cases e:g.has with
 | true=>rw[e] at h;simp only[if_true,JrE] at h;exact⟨fun _=>h,fun q=>Bool.noConfusion q⟩
 | false=>rw[e] at h;simp only[JrU,if_false,emp,JrE,decide_eq_true_eq] at h;exact⟨fun q=>Bool.noConfusion q,fun _=>h⟩
theorem JbW {p:Pln} {c:Clk} (hp:Qt p=true) (h:Z0 p c):QV c:=by
 have hn:=YQ hp;have hg:=Zx hp;have hd:=JmS h.done hn.2.1;have hl:=h.len;refine⟨by have:=(Q3.1 h.base).1;omega,hd.1,fun d hm=>hd.2 d hm,by have:=Zi hp h.wants h.asc;omega,fun d hm=>Jb4 (h.wants d hm),by omega,fun g hm=>?_⟩;obtain⟨j,hj⟩:=List.getElem?_of_mem hm;have hi:=JdS (h.got j (JrF.1 hj).1) hj;cases e:g.has with
 | true =>
  obtain⟨a,b⟩:=hi.1 e;have:=Jno a;have:=(Jcd.1 b).1;omega
 | false=>have:=hi.2 e;omega
def Jh (b:List Int) (l:List Got):List Int:=l.foldl (fun v g=>if g.has then Xi v g.added else v) b
def dRr (l:List (Int×List Int)):List D:=l.map fun x=> .g [dI x.1,.s (dL x.2)]
structure W0 where
 done:List Don
 calls:List Cal
 list:List (Int×List Int)
 vals:List Int
def Z6 (p:Pln) (c:Clk) (w:Cal):Int:=(c.got.getD (Int.tmod w.client p.gives.length).toNat Xf).seqs.getD w.client.toNat 0
def Xd (p:Pln) (r:W0) (w:Cal):Res:=Xo (p.acts.getD w.act.toNat []) r.vals w.args
def Wr (p:Pln) (r:W0) (w:Cal):W0:=⟨r.done.set w.client.toNat ⟨w.seq,(Xd p r w).code,(Xd p r w).tells⟩,r.calls++[w],r.list++[((Xd p r w).code,(Xd p r w).tells)],(Xd p r w).is⟩
def KF (p:Pln) (c:Clk) (r:W0) (w:Cal):W0:=if w.seq=Z6 p c w+1 then Wr p r w else r
def Jl (p:Pln) (c:Clk) (l:List Cal):W0:=l.foldl (KF p c) ⟨c.done,[],[],Jh c.base c.got⟩
theorem Ve (p:Pln) (c:Clk) {l:List Cal} {i:Nat} {x:Cal} (h:l[i]? = some x):Jl p c (l.take (i+1))=KF p c (Jl p c (l.take i)) x:=by
 rw[tS1 h];simp[Jl]
def Qb (p:Pln) (c:Clk):Bool:=decide (QQ c.got=p.gives.length)&&(decide (c.round≠200)&&J3 (Jh c.base c.got))
structure JbG where
 c:Clk
 calls:List Cal
 list:List (Int×List Int)
def X8 (p:Pln) (c:Clk):JbG :=
 if Qb p c then ⟨⟨c.up,c.round+1,(Jl p c c.wants).vals,(Jl p c c.wants).done,[],List.replicate p.gives.length Xf⟩,(Jl p c c.wants).calls,(Jl p c c.wants).list⟩ else ⟨c,[],[]⟩
def JbG.ds (r:JbG):List D:=r.c.cells++[.s (dCs r.calls),.s (dRr r.list)]
theorem Jgr {p:Pln} {c:Clk} (h:Qb p c=false):X8 p c=⟨c,[],[]⟩:=by unfold X8;rw[h];rfl
theorem Jdq {p:Pln} {c:Clk} (h:Qb p c=true):X8 p c=⟨⟨c.up,c.round+1,(Jl p c c.wants).vals,(Jl p c c.wants).done,[],List.replicate p.gives.length Xf⟩,(Jl p c c.wants).calls,(Jl p c c.wants).list⟩:=by unfold X8;rw[if_pos h]
structure WW (p:Pln) (i:Nat) (r:W0):Prop where
 done:QG p.n r.done=true
 vals:J3 r.vals=true
 calls :∀x∈r.calls,Qf p x=true
 list :∀x∈r.list,J5 x.1 x.2=true
 cl:r.calls.length≤i
 ll:r.list.length=r.calls.length
theorem run_ok {p:Pln} {r:W0} {w:Cal} (hp:Qt p=true) (hv:J3 r.vals=true) (hw:Qf p w=true):J3 (Xd p r w).is=true∧J5 (Xd p r w).code (Xd p r w).tells=true∧(Xd p r w).code≠0:=by
 obtain⟨_,_,h3,h4⟩:=XU.1 hw;obtain⟨hm,_⟩:=W4 (as:=p.acts) h3.1 (by omega);have hf:=JiA ((KM (VJ hp)).2.2 _ hm) hv h4;unfold Xd;generalize Xo (p.acts.getD w.act.toNat []) r.vals w.args=R at *;rcases hf with ⟨a,b,c,d⟩ | ⟨a,b,c⟩
 ·exact⟨b,YF.2 ⟨by omega,c,.inl a,d⟩,by omega⟩
 ·exact⟨by rw[a];exact hv,YF.2 ⟨by omega,by rw[b];simp,.inr b,by rw[b];intro x hx;simp at hx⟩,by omega⟩
theorem WW.step {p:Pln} {c:Clk} {i:Nat} {r:W0} {w:Cal} (hp:Qt p=true) (h:WW p i r) (hw:Qf p w=true):WW p (i+1) (KF p c r w):=by
 unfold KF;split
 ·obtain⟨r1,r2,r3⟩:=run_ok hp h.vals hw;have hs:=(XU.1 hw).2.1;refine⟨JjF h.done _ (JeQ.2 (.inr ⟨hs.1,hs.2,r2⟩)),r1,fun x hx=>?_,fun x hx=>?_,by simp only[Wr,JrK,List.length_singleton];have:=h.cl;omega,by simp only[Wr,JrK,List.length_singleton];have:=h.ll;omega⟩
  ·rcases JrJ.1 hx with q | q
   ·exact h.calls x q
   ·simp only[JrW] at q;subst q;exact hw
  ·rcases JrJ.1 hx with q | q
   ·exact h.list x q
   ·simp only[JrW] at q;subst q;exact r2
 ·exact⟨h.done,h.vals,h.calls,h.list,by have:=h.cl;omega,h.ll⟩
theorem UA {p:Pln} {c:Clk} (hp:Qt p=true) (hc:Z0 p c) (hv:J3 (Jh c.base c.got)=true) :∀i,i≤c.wants.length→WW p i (Jl p c (c.wants.take i)):=by
 intro i
 induction i with
 | zero=>intro _;exact⟨hc.done,hv,fun x hx=>by simp[Jl] at hx,fun x hx=>by simp[Jl] at hx,by simp[Jl],by simp[Jl]⟩
 | succ i ih =>
  intro hi;obtain⟨x,hx,hm⟩:=sA1 (l:=c.wants) (i:=i) (by omega);rw[Ve p c hx];exact(ih (by omega)).step hp (hc.wants x hm)
theorem Joy (p:Pln) (b:List Int) (n j:Nat):ZP p b (List.replicate n Xf) j=true:=by
 unfold ZP;have:(List.replicate n Xf).getD j Xf=Xf:=by
  rw[JrH,List.getElem?_replicate];split <;> rfl
 rw[this];rfl
theorem JnT (n:Nat):QQ (List.replicate n Xf)=0:=by
 unfold QQ;rw[List.length_eq_zero_iff,List.filter_eq_nil_iff];intro x hx;rw[(List.mem_replicate.1 hx).2];simp[Xf]
structure Jp8 (p:Pln) (c:Clk) (r:JbG):Prop where
 c:Z0 p r.c
 calls :∀x∈r.calls,Qf p x=true
 list :∀x∈r.list,J5 x.1 x.2=true
 len:r.list.length=r.calls.length
 four:r.calls.length≤4
theorem Jpg {p:Pln} {c:Clk} (hp:Qt p=true) (hc:Z0 p c):Jp8 p c (X8 p c):=by
 cases h:Qb p c with
 | false=>rw[Jgr h];exact⟨hc,fun x hx=>by simp at hx,fun x hx=>by simp at hx,rfl,by simp⟩
 | true =>
  rw[Jdq h];unfold Qb at h;simp only[JrE,decide_eq_true_eq] at h;obtain⟨h1,h2,h3⟩:=h;have hf:=UA hp hc h3 c.wants.length (Nat.le_refl _);rw[List.take_length] at hf;have hw:=Zi hp hc.wants hc.asc;have hr:=hc.round;exact⟨⟨by show 0≤c.round+1∧c.round+1≤200;omega,hf.vals,hf.done,by simp,fun j _=>Joy ..,fun x hx=>by simp at hx,List.Pairwise.nil,fun _=>⟨rfl,JnT _⟩⟩,hf.calls,hf.list,hf.ll,by have:=hf.cl;show (Jl p c c.wants).calls.length≤4;omega⟩
theorem U3 {b:List Int} {l:List Got} {i:Nat} {x:Got} (h:l[i]? = some x):Jh b (l.take (i+1))=if x.has then Xi (Jh b (l.take i)) x.added else Jh b (l.take i):=by
 rw[tS1 h];simp[Jh]
theorem Jnf {p:Pln} {c:Clk} {x:Cal} (hp:Qt p=true) (hc:Z0 p c) (hall:QQ c.got=p.gives.length) (hx:Qf p x=true) :
  ∃ g:Got,(0≤Int.tmod x.client p.gives.length)∧c.got[(Int.tmod x.client p.gives.length).toNat]? = some g∧g.seqs[x.client.toNat]? = some (Z6 p c x)∧(0≤Z6 p c x∧Z6 p c x≤300):=by
 have hg:=Zx hp;obtain⟨h1,_⟩:=XU.1 hx;have t0:0≤Int.tmod x.client p.gives.length:=Int.tmod_nonneg _ h1.1;have t1:Int.tmod x.client p.gives.length<p.gives.length:=Int.tmod_lt_of_pos _ (by omega);obtain⟨g,hgg,hm⟩:=sA1 (l:=c.got) (i:=(Int.tmod x.client p.gives.length).toNat) (by have:=hc.len;omega);have hhas:g.has=true:=by
  have:=JcR c.got;rw[hall,←hc.len,decide_eq_true rfl,JrR] at this;exact this g hm
 obtain⟨_,hsq⟩:=(JdS (hc.got _ (JrF.1 hgg).1) hgg).1 hhas;obtain⟨q1,q2⟩:=Jcd.1 hsq;obtain⟨v,hv,hvm⟩:=sA1 (l:=g.seqs) (i:=x.client.toNat) (by omega);have e:Z6 p c x=v:=by unfold Z6;rw[Xw hgg,Xw hv]
 rw[e];exact⟨g,t0,hgg,hv,q2 v hvm⟩
theorem Jlq (p:Pln) (c:Clk) (hp:Qt p=true) (hc:Z0 p c):Ev L f_k24 (p.cells++c.cells) (X8 p c).ds:=by
 refine JrA (vs:=[.i p.n,.l (Jf p.acts),.l (dL p.gives),.l (dL p.start),.b c.up,.i c.round,.l (dL c.base),.l (dDs c.done),.l (dCs c.wants),.l (dGs c.got)]) L_k24 rfl ?_;have hpf:=JgB hp;have hcf:=JbW hp hc;have hg:=Zx hp;have hn:=YQ hp;have hb:=Q3.1 hc.base;have hw4:=Zi hp hc.wants hc.asc;refine Jrw (vs:=[.b c.up,.i c.round,.l (dL c.base),.l (dDs c.done),.l (dCs c.wants),.l (dGs c.got)]) (Jlc c hcf) rfl rfl rfl ?_;simp only[sC,sN];refine Jre (dL c.base) 2000000 (by rw[dL1];omega) (by omega) rfl ?_;refine Jro (Yl c.base) ?_;refine Jre (dL c.base) 2000000 (by rw[dL1];omega) (by omega) rfl ?_;refine Jq0 c.got.length (fun i=>[.l (dL (Jh c.base (c.got.take i))),.i i]) (fun i=>(Jh c.base (c.got.take i)).length=3∧Lim (10000+20000*(i:Int)) (Jh c.base (c.got.take i))) rfl rfl ⟨by simp[Jh];omega,by simpa[Jh] using hb.2⟩ fun i hi hq=>?_;simp only[sC,sN];refine Jru i (XD c.got) rfl (fun h'=>?_) (fun h'=>Jrg ?_)
 ·obtain⟨x,hx,hm⟩:=sA1 h';have hs:=U3 (b:=c.base) hx;have hin:=JdS (hc.got i h') hx;refine Jrd (vs:=[.b x.has,.l (dL x.added),.l (dL x.seqs)]) i (mA1 (f:=Got.g) hx) rfl rfl rfl rfl ?_;simp only[sC,sN];refine Jq5 x.has rfl (fun hh=>?_) (fun hh=>?_)
  ·have hk:=K0.1 (hin.1 hh).1;have ha:=(VO (Xm hk.1)).2.2.2.2.2.1;refine Jrd (vs:=[.b x.has,.l (dL x.added),.l (dL x.seqs)]) i (mA1 (f:=Got.g) hx) rfl rfl rfl rfl ?_;simp only[sC,sN];have hl3:=hc.len;refine Jrw (vs:=[.l (dL (Xi (Jh c.base (c.got.take i)) x.added))]) (Jod hq.1 ha.1 (hq.2.mono (by omega)) (ha.2.mono (by omega))) rfl rfl rfl ?_;rw[hh] at hs;simp only[if_true] at hs;refine Jrq (vs:=[.l (dL (Jh c.base (c.got.take (i+1)))),.i ((i+1:Nat):Int)]) ?_ ⟨h',rfl,?_⟩
   ·rw[hs,←wS h' (by omega)];rfl
   ·show (Jh c.base (c.got.take (i+1))).length=3∧Lim (10000+20000*((i+1:Nat):Int)) (Jh c.base (c.got.take (i+1)));rw[hs];refine⟨by rw[Kw (by omega)];exact hq.1,?_⟩;have:=WJ hq.2 ha.2;rw[show (10000+20000*(i:Int))+20000=10000+20000*((i+1:Nat):Int) by omega] at this;exact this
  ·rw[hh] at hs;simp only[JrU,if_false] at hs;have hl3:=hc.len;refine Jrq (vs:=[.l (dL (Jh c.base (c.got.take (i+1)))),.i ((i+1:Nat):Int)]) ?_ ⟨h',rfl,?_⟩
   ·rw[hs,←wS h' (by omega)];rfl
   ·show (Jh c.base (c.got.take (i+1))).length=3∧Lim (10000+20000*((i+1:Nat):Int)) (Jh c.base (c.got.take (i+1)));rw[hs];exact⟨hq.1,hq.2.mono (by omega)⟩
 rw[tA1 h'] at hq ⊢;have hq3:=hq.1;clear hq h' hi;have hhn:=JjR c.got;have hl:=hc.len;refine Jrw (Jig c hcf.g) rfl rfl rfl ?_;simp only[sC,sN];have bad :∀q,Qb p c=false→q=c.cells++[D.s [],D.s []]→q=(X8 p c).ds:=fun q h e=>by rw[Jgr h,e];rfl
 refine Jrx ((QQ c.got:Int)<(p.gives.length:Int)) (by show decide ((QQ c.got:Int)<((dL p.gives).length:Int))=_;rw[dL1]) (fun h=>JqZ (bad _ (by unfold Qb;rw[decide_eq_false (show ¬QQ c.got=p.gives.length by omega)];rfl) rfl)) (fun h=>?_);have hall:QQ c.got=p.gives.length:=by omega
 refine Jrx (c.round=200) rfl (fun h=>JqZ (bad _ (by unfold Qb;rw[h];simp) rfl)) (fun h2=>?_);refine Jrw (Kv (Jh c.base c.got) (by rw[hq3];omega)) rfl rfl rfl ?_;simp only[sC,sN];refine Jrm (J3 (Jh c.base c.got)) rfl (fun h=>JqZ (bad _ (by unfold Qb;rw[h];simp) rfl)) (fun h3=>?_);have hgo:Qb p c=true:=by unfold Qb;rw[hall,h3,decide_eq_true rfl,decide_eq_true h2];rfl
 rw[Jdq hgo];refine Jq0 c.wants.length (fun i=>[.l (dDs (Jl p c (c.wants.take i)).done),.l (dCs (Jl p c (c.wants.take i)).calls),.l (dRr (Jl p c (c.wants.take i)).list),.l (dL (Jl p c (c.wants.take i)).vals),.i i]) (fun _=>True) rfl rfl trivial fun i hi _=>?_;simp only[sC,sN];have hf:=UA hp hc h3 i hi;refine Jru i (Yq c.wants) rfl (fun h'=>?_) (fun h'=>Jrg ?_)
 ·obtain⟨x,hx,hm⟩:=sA1 h';have hs:=Ve p c hx;have hxo:=hc.wants x hm;obtain⟨g,t0,hgg,hsq,hsr⟩:=Jnf hp hc hall hxo;obtain⟨c1,c2,c3,c4⟩:=XU.1 hxo;refine Jrd (vs:=[.i x.client,.i x.seq,.i x.act,.l (dL x.args)]) i (mA1 (f:=Cal.g) hx) rfl rfl rfl rfl ?_;simp only[sC,sN];refine Jrs (by show (!decide (((dL p.gives).length:Int)=0))=true;rw[dL1,Bool.not_eq_true',decide_eq_false_iff_not];omega) ?_;refine Jq9 (ds:=dGs c.got) (d:=g.g) (vs:=[.b g.has,.l (dL g.added),.l (dL g.seqs)]) (Int.tmod x.client p.gives.length) rfl rfl (by show Int.tmod x.client ((dL p.gives).length:Int)=_;rw[dL1]) t0 (mA1 (f:=Got.g) hgg) rfl ?_;simp only[sC,sN];refine Jq9 (ds:=dL g.seqs) (d:=dI (Z6 p c x)) (vs:=[.i (Z6 p c x)]) x.client rfl rfl rfl c1.1 (mA1 (f:=dI) hsq) rfl ?_;simp only[sC,sN];have hstep:KF p c (Jl p c (c.wants.take i)) x=if x.seq=Z6 p c x+1 then Wr p (Jl p c (c.wants.take i)) x else Jl p c (c.wants.take i):=rfl;rw[hstep] at hs;generalize Jl p c (c.wants.take i)=r at *;generalize Z6 p c x=sq at *;have hw:i64.wrap ((i:Int)+1)=((i+1:Nat):Int):=wS h' (by omega);refine Jrx (x.seq=sq+1) (by show decide (x.seq=i64.wrap (sq+1))=_;rw[w64 (by omega) (by omega)]) (fun he=>?_) (fun he=>?_)
  ·rw[if_pos he] at hs;obtain⟨hma,hka⟩:=W4 (as:=p.acts) c3.1 (by omega);obtain⟨r1,r2,r3⟩:=run_ok hp hf.vals hxo;have hrun:=Jjh (p.acts.getD x.act.toNat []) r.vals x.args (hpf.1.2 _ hma) (by have:=(Q3.1 hf.vals).1;omega) (by have:=(X9.1 c4).1;omega);have ero:Xo (p.acts.getD x.act.toNat []) r.vals x.args=Xd p r x:=rfl;rw[ero] at hrun;have hdl:Wr p r x=⟨r.done.set x.client.toNat ⟨x.seq,(Xd p r x).code,(Xd p r x).tells⟩,r.calls++[x],r.list++[((Xd p r x).code,(Xd p r x).tells)],(Xd p r x).is⟩:=rfl;rw[hdl] at hs;generalize Xd p r x=R at *;have htl:R.tells.length≤2000000:=by have:=(YF.1 r2).2.1;omega
   refine Jq9 (ds:=Jf p.acts) (d:= .s (Ji (p.acts.getD x.act.toNat []))) (vs:=[.l (Ji (p.acts.getD x.act.toNat []))]) x.act rfl rfl rfl c3.1 (mA1 (f:=fun a=>D.s (Ji a)) hka) rfl ?_;simp only[sC,sN];refine Jrw (vs:=[.i R.code,.l (dL R.tells),.l (dL R.is)]) hrun rfl rfl rfl ?_;simp only[sC,sN];refine Jrw (vs:=[.i R.code,.l (dL R.tells)]) (Uj R.code R.tells htl) rfl rfl rfl ?_;simp only[sC,sN];obtain⟨d1,d2⟩:=XT.1 hf.done;obtain⟨y,hy,hym⟩:=sA1 (l:=r.done) (i:=x.client.toNat) (by omega);refine Jq7 (0≤x.client) rfl c1.1 ?_;refine Jq7 (x.client<(r.done.length:Int)) (by show decide (x.client<((dDs r.done).length:Int))=_;rw[Zf]) (by omega) ?_;refine Jq9 (ds:=dDs r.done) (d:=y.g) (vs:=[.i y.seq,.i y.code,.l (dL y.tells)]) x.client rfl rfl rfl c1.1 (mA1 (f:=Don.g) hy) rfl ?_;simp only[sC,sN];refine Jrw (vs:=[.i x.client,.i x.seq,.i x.act,.l (dL x.args)]) (V8 x (Jb4 hxo)) rfl rfl rfl ?_;simp only[sC,sN];have hcl:=hf.cl;have hll:=hf.ll;refine Jrk (dCs r.calls) 2000000 (by rw[Yq];omega) (by omega) rfl ?_;refine Jrw (vs:=[.i R.code,.l (dL R.tells)]) (Uj R.code R.tells htl) rfl rfl rfl ?_;simp only[sC,sN];refine Jrk (dRr r.list) 2000000 (by rw[show (dRr r.list).length=r.list.length from JrN ..];omega) (by omega) rfl ?_;refine Jrq (vs:=[.l (dDs (Jl p c (c.wants.take (i+1))).done),.l (dCs (Jl p c (c.wants.take (i+1))).calls),.l (dRr (Jl p c (c.wants.take (i+1))).list),.l (dL (Jl p c (c.wants.take (i+1))).vals),.i ((i+1:Nat):Int)]) ?_ ⟨h',rfl,trivial⟩;rw[hs];show [V.l ((dDs r.done).set x.client.toNat (.g [dI x.seq,dI R.code,.s (dL R.tells)])),V.l (dCs r.calls++[.g [dI x.client,dI x.seq,dI x.act,.s (dL x.args)]]),V.l (dRr r.list++[.g [dI R.code,.s (dL R.tells)]]),V.l (dL R.is),V.i (i64.wrap ((i:Int)+1))]=_
   rw[hw];simp only[dDs,dCs,dRr,List.map_set,List.map_append,JrM,List.map_nil];rfl
  ·rw[if_neg he] at hs;refine Jrq (vs:=[.l (dDs (Jl p c (c.wants.take (i+1))).done),.l (dCs (Jl p c (c.wants.take (i+1))).calls),.l (dRr (Jl p c (c.wants.take (i+1))).list),.l (dL (Jl p c (c.wants.take (i+1))).vals),.i ((i+1:Nat):Int)]) ?_ ⟨h',rfl,trivial⟩;rw[hs];show [V.l (dDs r.done),V.l (dCs r.calls),V.l (dRr r.list),V.l (dL r.vals),V.i (i64.wrap ((i:Int)+1))]=_;rw[hw]
 ·rw[tA1 h'] at hf ⊢;have hr:=hc.round;refine Jrw (Jlo p hpf.2.1) rfl rfl rfl (JqZ ?_);generalize Jl p c c.wants=r at *;show [dB c.up,dI (i64.wrap (c.round+1)),.s (dL r.vals),.s (dDs r.done),.s [],.s (dGs (List.replicate p.gives.length Xf)),.s (dCs r.calls),D.s (dRr r.list)]=_;rw[w64 (by omega) (by omega)];rfl
/- The program's ClkFold answers as the reference's: over residual programs. -/
abbrev Rsl:=Int×List Int
def Rsl.g (x:Rsl):D:= .g [dI x.1,.s (dL x.2)]
def Rsl.cells (x:Rsl):List D:=[dI x.1,.s (dL x.2)]
def Rsl.w (x:Rsl):Nat:=1+x.2.length
def Rsl.mk' (q:Int) (x:Rsl):Rsl:=(q,cnt (q+1) x.2.length)
theorem JbI (a b:Rsl) (hl:a.2.length≤2000000):Ev L f_k4u (Rsl.cells a++Rsl.cells b) [dB (decide (a=b))]:=by
 have:=US a.1 b.1 a.2 b.2 hl;have e:decide (a=b)=(decide (a.1=b.1)&&decide (a.2=b.2)):=by
  obtain⟨a1,a2⟩:=a;obtain⟨b1,b2⟩:=b;simp only[JrV]
  by_cases h1:a1=b1 <;> by_cases h2:a2=b2 <;> simp[h1,h2]
 rw[e];exact this
theorem JbJ (a b:List Rsl) (hl:a.length≤2000000) (ht :∀d∈a,d.2.length≤2000000):Ev L f_k52 [.s (a.map Rsl.g),.s (b.map Rsl.g)] [dB (decide (a=b))] :=
 KC (g:=f_k4u) (sh:= .g [.i .i64,.s]) (as:=[(.vi .i64 (.v 3)),(.s (.v 4)),(.vi .i64 (.v 5)),(.s (.v 6))]) (k1:=5) (k2:=7)
  Rsl.g (fun x=>[.i x.1,.l (dL x.2)]) Rsl.cells a b
  L_k52 rfl (fun _=>rfl) (fun _=>rfl) (fun _=>rfl) (fun _ _ _ _ _=>rfl) (fun x hx y=>JbI x y (ht x hx)) hl
theorem Jaq (l:List Rsl) (k:Int) (hl:l.length≤2000000) (ht :∀d∈l,d.2.length≤2000000) (h0:0≤k) (h1:k+wts Rsl.w l≤1000000000000) :
  Ev L f_k5g [.s (l.map Rsl.g),dI k] [dI (k+wts Rsl.w l),.s ((JY Rsl.w Rsl.mk' k l).map Rsl.g)] :=
 Z2 Rsl.g Rsl.w Rsl.mk' l k L_k5g rfl h0 h1 hl fun v0 v1 es i x q hx hxi hi hq0 hq1=>by
  have hil:i<es.length:=(JrF.1 hxi).1;have hx1:=ht x hx;have hw:Rsl.w x=1+x.2.length:=rfl;have e1:i64.wrap (q+1)=q+1:=w64 (by omega) (by omega);refine Jrc (vs:=[.i x.1,.l (dL x.2)]) (ds:=es) i hxi rfl rfl rfl rfl rfl rfl ?_;simp only[sC,sN];generalize hes1:es.set i (.g [dI q,.s (dL x.2)])=es1;have hl1:es1.length=es.length:=by rw[←hes1];simp
  have hes1':es1=(es.set i (.g [dI q,.s (dL x.2)])):=by rw[hes1]
  refine Jrc (vs:=[.i q,.l (dL x.2)]) (ds:=es1) (d:= .g [dI q,.s (dL x.2)]) i (by rw[←hes1];exact YC _ (by omega)) rfl (by rw[hl1];rfl) rfl (by rw[hes1'];rfl) rfl rfl ?_;simp only[sC,sN];refine Jrw (vs:=[.i (q+1+x.2.length),.l (dL (cnt (q+1) x.2.length))]) (Qg x.2 (q+1) hx1 (by omega) (by omega)) rfl ?_ rfl ?_
  ·show [D.s (dL x.2),dI (i64.wrap (q+1))]=_;simp only[e1]
  simp only[sC,sN];refine Jrs (by show decide (((dL (cnt (q+1) x.2.length)).length:Int)=((dL x.2).length:Int))=true;rw[dL1,dL1,YR];simp) ?_;refine Jrq ?_ rfl;show [V.l ((es.set i (.g [dI q,.s (dL x.2)])).set i (.g [dI q,.s (dL (cnt (q+1) x.2.length))])),V.i (q+1+x.2.length),V.i (i64.wrap ((i:Int)+1))]=_;rw[wS' (by omega)];simp only[e1,List.set_set];rw[show q+1+x.2.length=q+(Rsl.w x:Nat) by rw[hw];push_cast;omega];rfl
theorem Jas (l:List Rsl) (k:Int) (hl:l.length≤2000000) (ht :∀d∈l,d.2.length≤2000000) (h0:0≤k) (h1:k+wts Rsl.w l≤1000000000000) :
  Ev L f_k5m [.s ((JY Rsl.w Rsl.mk' k l).map Rsl.g),dI k] [dI (k+wts Rsl.w l)] :=
 ZZ Rsl.g Rsl.w Rsl.mk' l k L_k5m rfl h0 h1 hl fun v1 es i x q hx hxi hi hq0 hq1=>by
  have hx1:=ht x hx;have hw:Rsl.w x=1+x.2.length:=rfl;have e1:i64.wrap (q+1)=q+1:=w64 (by omega) (by omega);refine Jrd (vs:=[.i q,.l (dL (cnt (q+1) x.2.length))]) i hxi rfl rfl rfl rfl ?_;refine Jra (by show (!decide (q=q))=false;simp) ?_;refine Jrd (vs:=[.i q,.l (dL (cnt (q+1) x.2.length))]) i hxi rfl rfl rfl rfl ?_;simp only[sC,sN];refine Jrw (vs:=[.i (q+1+x.2.length)]) (X6 (q+1) x.2.length hx1 (by omega) (by omega)) rfl ?_ rfl ?_
  ·show [D.s (dL (cnt (q+1) x.2.length)),dI (i64.wrap (q+1))]=_;simp only[e1]
  simp only[sC,sN];refine Jra (by show decide (q+1+x.2.length<0)=false;rw[decide_eq_false];omega) ?_;refine Jrq ?_ rfl;show [V.i (q+1+x.2.length),V.i (i64.wrap ((i:Int)+1))]=_;rw[wS' (by omega)];rw[show q+1+x.2.length=q+(Rsl.w x:Nat) by rw[hw];push_cast;omega]
theorem JaB {p:Pln} {c:Clk}:ZF p c=true↔Qt p=true∧Z0 p c:=by
 unfold ZF;rw[JrE];exact and_congr_right fun _=>⟨Jp2,Z0.ok⟩
theorem JeW (c:Clk) (hk:c.got.length≤2000000):Ev L f_k4l c.cells [dB (decide (QQ c.got=c.got.length))]:=by
 refine JrA (vs:=[.b c.up,.i c.round,.l (dL c.base),.l (dDs c.done),.l (dCs c.wants),.l (dGs c.got)]) L_k4l rfl ?_;refine Jrw (Jk5 (fun g=>!g.has) c.got (fn:=f_k4j) (caps:=[]) hk rfl rfl fun x _=>by simpa using Ji8 x) rfl rfl rfl (JqZ ?_);show [dB (!(c.got.any fun g=>!g.has))]=_;rw[Z5,JcR]
theorem WQ (a:List Int) (ha:a.length≤2000000):Ev L f_k4g [.s (dL a),.s []] [.s (dL a)]:=by
 refine JrA (vs:=[.l (dL a),.l []]) L_k4g rfl ?_;refine Jrw (vs:=[.l (dL a)]) (J0 a ha) rfl rfl rfl ?_;simp only[sC,sN];refine Jrr (fun _ vs=>vs=[.l (dL a),.i 0]) rfl 0 rfl ?_;rintro m _ rfl;simp only[sC,sN];exact Jra rfl (Jrg (JqZ rfl))
theorem JmF (p:Pln) (c:Clk) (hp:Qt p=true) (hc:Z0 p c) (hgo:Qb p c=false) :
  Ev L f_k4r (c.cells++p.cells) [.s (dCs []),.s (dRr [])]:=by
 refine JrA (vs:=[.b c.up,.i c.round,.l (dL c.base),.l (dDs c.done),.l (dCs c.wants),.l (dGs c.got),.i p.n,.l (Jf p.acts),.l (dL p.gives),.l (dL p.start)]) L_k4r rfl ?_;have hpf:=JgB hp;have hcf:=JbW hp hc;have hg:=Zx hp;have hn:=YQ hp;have hb:=Q3.1 hc.base;have hw4:=Zi hp hc.wants hc.asc;have hl:=hc.len;refine Jrw (vs:=[.l (dL c.base)]) (J0 c.base hcf.b) rfl rfl rfl ?_;simp only[sC,sN];refine Jq0 c.got.length (fun i=>[.l (dL (Jh c.base (c.got.take i))),.i i]) (fun i=>(Jh c.base (c.got.take i)).length=3∧Lim (10000+20000*(i:Int)) (Jh c.base (c.got.take i))) rfl rfl ⟨by simp[Jh];omega,by simpa[Jh] using hb.2⟩ fun i hi hq=>?_;simp only[sC,sN];refine Jru i (XD c.got) rfl (fun h'=>?_) (fun h'=>Jrg ?_)
 ·obtain⟨x,hx,hm⟩:=sA1 h';have hs:=U3 (b:=c.base) hx;have hin:=JdS (hc.got i h') hx;refine Jrd (vs:=[.b x.has,.l (dL x.added),.l (dL x.seqs)]) i (mA1 (f:=Got.g) hx) rfl rfl rfl rfl ?_;simp only[sC,sN];cases hh:x.has with
  | true =>
   have hk:=K0.1 (hin.1 hh).1;have ha:=(VO (Xm hk.1)).2.2.2.2.2.1;rw[hh] at hs;simp only[if_true] at hs;refine Jrw (vs:=[.l (dL (Xi (Jh c.base (c.got.take i)) x.added))]) (Jkm (M:=10000000) (hq.2.mono (by omega)) (ha.2.mono (by omega)) (by omega) (by omega) (by omega)) rfl rfl rfl ?_;refine Jrq (vs:=[.l (dL (Jh c.base (c.got.take (i+1)))),.i ((i+1:Nat):Int)]) ?_ ⟨h',rfl,?_⟩
   ·rw[hs,←wS h' (by omega)];rfl
   ·show (Jh c.base (c.got.take (i+1))).length=3∧Lim (10000+20000*((i+1:Nat):Int)) (Jh c.base (c.got.take (i+1)));rw[hs];refine⟨by rw[Kw (by omega)];exact hq.1,?_⟩;have:=WJ hq.2 ha.2;rw[show (10000+20000*(i:Int))+20000=10000+20000*((i+1:Nat):Int) by omega] at this;exact this
  | false =>
   have hz:x.added=[]:=List.length_eq_zero_iff.1 (hin.2 hh).1;rw[hh] at hs;simp only[JrU,if_false] at hs;have hpn:=WQ (Jh c.base (c.got.take i)) (by rw[hq.1];omega);refine Jrw (vs:=[.l (dL (Jh c.base (c.got.take i)))]) (by rw[hz];exact hpn) rfl rfl rfl ?_;refine Jrq (vs:=[.l (dL (Jh c.base (c.got.take (i+1)))),.i ((i+1:Nat):Int)]) ?_ ⟨h',rfl,?_⟩
   ·rw[hs,←wS h' (by omega)];rfl
   ·show (Jh c.base (c.got.take (i+1))).length=3∧Lim (10000+20000*((i+1:Nat):Int)) (Jh c.base (c.got.take (i+1)));rw[hs];exact⟨hq.1,hq.2.mono (by omega)⟩
 rw[tA1 h'] at hq ⊢;have hq3:=hq.1;clear hq h' hi;refine Jrw (vs:=[.b (decide (QQ c.got=c.got.length))]) (JeW c hcf.g) rfl rfl rfl ?_;simp only[sC,sN];refine Jrm (decide (QQ c.got=c.got.length)) rfl (fun h=>JqZ rfl) (fun h=>?_);have hall:QQ c.got=p.gives.length:=by rw[←hl];simpa using h
 refine Jrx (c.round=200) rfl (fun h=>JqZ rfl) (fun h2=>?_);refine Jrw (KJ (Jh c.base c.got) (by rw[hq3];omega)) rfl rfl rfl ?_;simp only[sC,sN];refine Jrm (J3 (Jh c.base c.got)) rfl (fun h=>JqZ rfl) (fun h3=>?_);have hyes:Qb p c=true:=by unfold Qb;rw[hall,h3,decide_eq_true rfl,decide_eq_true h2];rfl
 rw[hgo] at hyes;cases hyes
theorem Jn2 (p:Pln) (c:Clk) (hp:Qt p=true) (hc:Z0 p c) (hgo:Qb p c=true) :
  Ev L f_k4p (c.cells++p.cells) [.s (dCs (X8 p c).calls),.s (dRr (X8 p c).list),dB (X8 p c).c.up,dI (X8 p c).c.round,.s (dDs (X8 p c).c.done),.s (dL (X8 p c).c.base),.s (dCs (X8 p c).c.wants),.s (dGs (X8 p c).c.got)]:=by
 refine JrA (vs:=[.b c.up,.i c.round,.l (dL c.base),.l (dDs c.done),.l (dCs c.wants),.l (dGs c.got),.i p.n,.l (Jf p.acts),.l (dL p.gives),.l (dL p.start)]) L_k4p rfl ?_;have hpf:=JgB hp;have hcf:=JbW hp hc;have hg:=Zx hp;have hn:=YQ hp;have hb:=Q3.1 hc.base;have hw4:=Zi hp hc.wants hc.asc;have hl:=hc.len;refine Jrw (vs:=[.l (dL c.base)]) (J0 c.base hcf.b) rfl rfl rfl ?_;simp only[sC,sN];refine Jq0 c.got.length (fun i=>[.l (dL (Jh c.base (c.got.take i))),.i i]) (fun i=>(Jh c.base (c.got.take i)).length=3∧Lim (10000+20000*(i:Int)) (Jh c.base (c.got.take i))) rfl rfl ⟨by simp[Jh];omega,by simpa[Jh] using hb.2⟩ fun i hi hq=>?_;simp only[sC,sN];refine Jru i (XD c.got) rfl (fun h'=>?_) (fun h'=>Jrg ?_)
 ·obtain⟨x,hx,hm⟩:=sA1 h';have hs:=U3 (b:=c.base) hx;have hin:=JdS (hc.got i h') hx;refine Jrd (vs:=[.b x.has,.l (dL x.added),.l (dL x.seqs)]) i (mA1 (f:=Got.g) hx) rfl rfl rfl rfl ?_;simp only[sC,sN];cases hh:x.has with
  | true =>
   have hk:=K0.1 (hin.1 hh).1;have ha:=(VO (Xm hk.1)).2.2.2.2.2.1;rw[hh] at hs;simp only[if_true] at hs;refine Jrw (vs:=[.l (dL (Xi (Jh c.base (c.got.take i)) x.added))]) (Jkm (M:=10000000) (hq.2.mono (by omega)) (ha.2.mono (by omega)) (by omega) (by omega) (by omega)) rfl rfl rfl ?_;refine Jrq (vs:=[.l (dL (Jh c.base (c.got.take (i+1)))),.i ((i+1:Nat):Int)]) ?_ ⟨h',rfl,?_⟩
   ·rw[hs,←wS h' (by omega)];rfl
   ·show (Jh c.base (c.got.take (i+1))).length=3∧Lim (10000+20000*((i+1:Nat):Int)) (Jh c.base (c.got.take (i+1)));rw[hs];refine⟨by rw[Kw (by omega)];exact hq.1,?_⟩;have:=WJ hq.2 ha.2;rw[show (10000+20000*(i:Int))+20000=10000+20000*((i+1:Nat):Int) by omega] at this;exact this
  | false =>
   have hz:x.added=[]:=List.length_eq_zero_iff.1 (hin.2 hh).1;rw[hh] at hs;simp only[JrU,if_false] at hs;have hpn:=WQ (Jh c.base (c.got.take i)) (by rw[hq.1];omega);refine Jrw (vs:=[.l (dL (Jh c.base (c.got.take i)))]) (by rw[hz];exact hpn) rfl rfl rfl ?_;refine Jrq (vs:=[.l (dL (Jh c.base (c.got.take (i+1)))),.i ((i+1:Nat):Int)]) ?_ ⟨h',rfl,?_⟩
   ·rw[hs,←wS h' (by omega)];rfl
   ·show (Jh c.base (c.got.take (i+1))).length=3∧Lim (10000+20000*((i+1:Nat):Int)) (Jh c.base (c.got.take (i+1)));rw[hs];exact⟨hq.1,hq.2.mono (by omega)⟩
 rw[tA1 h'] at hq ⊢;have hq3:=hq.1;clear hq h' hi;refine Jrw (vs:=[.b (decide (QQ c.got=c.got.length))]) (JeW c hcf.g) rfl rfl rfl ?_;simp only[sC,sN];refine Jrm (decide (QQ c.got=c.got.length)) rfl (fun h=>absurd (show Qb p c=false from by unfold Qb;rw[←hl,h];rfl) (by rw[hgo];simp)) (fun h=>?_);have hall:QQ c.got=p.gives.length:=by rw[←hl];simpa using h
 refine Jrx (c.round=200) rfl (fun h=>absurd (show Qb p c=false from by unfold Qb;rw[h];simp) (by rw[hgo];simp)) (fun h2=>?_);refine Jrw (KJ (Jh c.base c.got) (by rw[hq3];omega)) rfl rfl rfl ?_;simp only[sC,sN];refine Jrm (J3 (Jh c.base c.got)) rfl (fun h=>absurd (show Qb p c=false from by unfold Qb;rw[h];simp) (by rw[hgo];simp)) (fun h3=>?_);have hyes:Qb p c=true:=by unfold Qb;rw[hall,h3,decide_eq_true rfl,decide_eq_true h2];rfl
 rw[Jdq hgo];refine Jq0 c.wants.length (fun i=>[.l (dRr (Jl p c (c.wants.take i)).list),.l (dCs (Jl p c (c.wants.take i)).calls),.l (dDs (Jl p c (c.wants.take i)).done),.l (dL (Jl p c (c.wants.take i)).vals),.i i]) (fun _=>True) rfl rfl trivial fun i hi _=>?_;simp only[sC,sN];have hf:=UA hp hc h3 i hi;refine Jru i (Yq c.wants) rfl (fun h'=>?_) (fun h'=>Jrg ?_)
 ·obtain⟨x,hx,hm⟩:=sA1 h';have hs:=Ve p c hx;have hxo:=hc.wants x hm;obtain⟨g,t0,hgg,hsq,hsr⟩:=Jnf hp hc hall hxo;obtain⟨c1,c2,c3,c4⟩:=XU.1 hxo;refine Jrd (vs:=[.i x.client,.i x.seq,.i x.act,.l (dL x.args)]) i (mA1 (f:=Cal.g) hx) rfl rfl rfl rfl ?_;simp only[sC,sN];refine Jrs (by show (!decide (((dL p.gives).length:Int)=0))=true;rw[dL1,Bool.not_eq_true',decide_eq_false_iff_not];omega) ?_;refine Jq9 (ds:=dGs c.got) (d:=g.g) (vs:=[.b g.has,.l (dL g.added),.l (dL g.seqs)]) (Int.tmod x.client p.gives.length) rfl rfl (by show Int.tmod x.client ((dL p.gives).length:Int)=_;rw[dL1]) t0 (mA1 (f:=Got.g) hgg) rfl ?_;simp only[sC,sN];refine Jq9 (ds:=dL g.seqs) (d:=dI (Z6 p c x)) (vs:=[.i (Z6 p c x)]) x.client rfl rfl rfl c1.1 (mA1 (f:=dI) hsq) rfl ?_;simp only[sC,sN];have hstep:KF p c (Jl p c (c.wants.take i)) x=if x.seq=Z6 p c x+1 then Wr p (Jl p c (c.wants.take i)) x else Jl p c (c.wants.take i):=rfl;rw[hstep] at hs;generalize Jl p c (c.wants.take i)=r at *;generalize Z6 p c x=sq at *;have hw:i64.wrap ((i:Int)+1)=((i+1:Nat):Int):=wS h' (by omega);refine Jrm (decide (x.seq=sq+1)) (by show (!decide (x.seq=i64.wrap (sq+1)))=_;rw[w64 (by omega) (by omega)]) (fun he=>?_) (fun he=>?_)
  ·rw[if_neg (by simpa using he)] at hs;refine Jrq (vs:=[.l (dRr (Jl p c (c.wants.take (i+1))).list),.l (dCs (Jl p c (c.wants.take (i+1))).calls),.l (dDs (Jl p c (c.wants.take (i+1))).done),.l (dL (Jl p c (c.wants.take (i+1))).vals),.i ((i+1:Nat):Int)]) ?_ ⟨h',rfl,trivial⟩;rw[hs];show [V.l (dRr r.list),V.l (dCs r.calls),V.l (dDs r.done),V.l (dL r.vals),V.i (i64.wrap ((i:Int)+1))]=_;rw[hw]
  ·rw[if_pos (by simpa using he)] at hs;obtain⟨hma,hka⟩:=W4 (as:=p.acts) c3.1 (by omega);obtain⟨r1,r2,r3⟩:=run_ok hp hf.vals hxo;have hrun:=Jln (p.acts.getD x.act.toNat []) r.vals x.args (hpf.1.2 _ hma) (by have:=(Q3.1 hf.vals).1;omega) (by have:=(X9.1 c4).1;omega);have ero:Xo (p.acts.getD x.act.toNat []) r.vals x.args=Xd p r x:=rfl;rw[ero] at hrun;have hdl:Wr p r x=⟨r.done.set x.client.toNat ⟨x.seq,(Xd p r x).code,(Xd p r x).tells⟩,r.calls++[x],r.list++[((Xd p r x).code,(Xd p r x).tells)],(Xd p r x).is⟩:=rfl;rw[hdl] at hs;generalize Xd p r x=R at *;have htl:R.tells.length≤2000000:=by have:=(YF.1 r2).2.1;omega
   refine Jq9 (ds:=Jf p.acts) (d:= .s (Ji (p.acts.getD x.act.toNat []))) (vs:=[.l (Ji (p.acts.getD x.act.toNat []))]) x.act rfl rfl rfl c3.1 (mA1 (f:=fun a=>D.s (Ji a)) hka) rfl ?_;simp only[sC,sN];refine Jrw (vs:=[.i R.code,.l (dL R.tells),.l (dL R.is)]) hrun rfl rfl rfl ?_;simp only[sC,sN];refine Jrw (vs:=[.i R.code,.l (dL R.tells)]) (WS R.code R.tells htl) rfl rfl rfl ?_;simp only[sC,sN];refine Jri (Q6 dI (fun _=>rfl) R.tells) ?_;obtain⟨d1,d2⟩:=XT.1 hf.done;obtain⟨y,hy,hym⟩:=sA1 (l:=r.done) (i:=x.client.toNat) (by omega);refine Jq7 (0≤x.client) rfl c1.1 ?_;refine Jq7 (x.client<(r.done.length:Int)) (by show decide (x.client<((dDs r.done).length:Int))=_;rw[Zf]) (by omega) ?_;refine Jq9 (ds:=dDs r.done) (d:=y.g) (vs:=[.i y.seq,.i y.code,.l (dL y.tells)]) x.client rfl rfl rfl c1.1 (mA1 (f:=Don.g) hy) rfl ?_;simp only[sC,sN];refine Jrw (vs:=[.i x.client,.i x.seq,.i x.act,.l (dL x.args)]) (VW x (Jb4 hxo)) rfl rfl rfl ?_;simp only[sC,sN];have hcl:=hf.cl;have hll:=hf.ll;refine Jri (Q6 dI (fun _=>rfl) x.args) ?_;refine Jrk (dCs r.calls) 2000000 (by rw[Yq];omega) (by omega) rfl ?_;refine Jri (Q6 dI (fun _=>rfl) R.tells) ?_;refine Jrk (dRr r.list) 2000000 (by rw[show (dRr r.list).length=r.list.length from JrN ..];omega) (by omega) rfl ?_;refine Jrq (vs:=[.l (dRr (Jl p c (c.wants.take (i+1))).list),.l (dCs (Jl p c (c.wants.take (i+1))).calls),.l (dDs (Jl p c (c.wants.take (i+1))).done),.l (dL (Jl p c (c.wants.take (i+1))).vals),.i ((i+1:Nat):Int)]) ?_ ⟨h',rfl,trivial⟩;rw[hs];show [V.l (dRr r.list++[.g [dI R.code,.s (dL R.tells)]]),V.l (dCs r.calls++[.g [dI x.client,dI x.seq,dI x.act,.s (dL x.args)]]),V.l ((dDs r.done).set x.client.toNat (.g [dI x.seq,dI R.code,.s (dL R.tells)])),V.l (dL R.is),V.i (i64.wrap ((i:Int)+1))]=_
   rw[hw];simp only[dDs,dCs,dRr,List.map_set,List.map_append,JrM,List.map_nil];rfl
 ·rw[tA1 h'] at hf ⊢;have hr:=hc.round;generalize Jl p c c.wants=r at *;have hfo:=Jma ⟨c.up,c.round+1,r.vals,r.done,c.wants,c.got⟩ hcf.g;have e:=hl;refine Jrw (vs:=[.b c.up,.i (c.round+1),.l (dL r.vals),.l (dDs r.done),.l [],.l (dGs (List.replicate c.got.length Xf))]) hfo rfl (by show [dB c.up,dI (i64.wrap (c.round+1)),D.s (dL r.vals),.s (dDs r.done),.s (dCs c.wants),.s (dGs c.got)]=_;rw[w64 (by omega) (by omega)];rfl) rfl (JqZ ?_);rw[←e];rfl
theorem Jmy (p:Pln) (c:Clk) (hp:Qt p=true) (hc:Z0 p c):Jpw [dI c.round,.s (dL c.base),.s (dGs c.got)]=some [dB (!Qb p c)]:=by
 have hall:((dGs c.got).all JfT)=decide (QQ c.got=p.gives.length):=by
  rw[←hc.len,←JcR];simp only[dGs,List.all_map]
  congr 1
 have hb:(dL c.base).map Jd4=c.base:=by simp[dL,List.map_map,Function.comp_def,Jd4,dI]
 have hsum :∀(l:List Got) (b:List Int),JeY b (dGs l)=Jh b l:=by
  intro l
  induction l with
  | nil=>intro b;rfl
  | cons g l ih =>
   intro b;show JeY (if g.has then List.zipWith (· + ·) b ((dL g.added).map Jd4) else b) (dGs l)=Jh (if g.has then Xi b g.added else b) l;rw[show (dL g.added).map Jd4=g.added by simp[dL,List.map_map,Function.comp_def,Jd4,dI]];exact ih _
 show some [D.v (.bool (!((dGs c.got).all JfT&&(decide (c.round≠200)&&(decide ((JeY ((dL c.base).map Jd4) (dGs c.got)).length=3)&&(JeY ((dL c.base).map Jd4) (dGs c.got)).all fun x=>decide (-10000≤x)&&decide (x≤10000))))))]=_;rw[hall,hb,hsum];have hv:(decide ((Jh c.base c.got).length=3)&&(Jh c.base c.got).all fun x=>decide (-10000≤x)&&decide (x≤10000))=J3 (Jh c.base c.got):=by
  unfold J3 JE;have e1:decide ((Jh c.base c.got).length=3)=decide (((Jh c.base c.got).length:Int)=3):=decide_eq_decide.2 (by omega);rw[e1]
  congr 1
 rw[hv];rfl
def Xu (p:Pln) (c:Clk):JbG:=if ZF p c then X8 p c else ⟨⟨false,0,[],[],[],[]⟩,[],[]⟩
theorem Job (p:Pln) (c:Clk) (hp:Xt p) (hc:QV c):Ev L f_k25 (p.cells++c.cells) (Xu p c).ds:=by
 refine JrA (vs:=[.i p.n,.l (Jf p.acts),.l (dL p.gives),.l (dL p.start),.b c.up,.i c.round,.l (dL c.base),.l (dDs c.done),.l (dCs c.wants),.l (dGs c.got)]) L_k25 rfl ?_;refine Jrw (Jmc p c hp hc) rfl rfl rfl ?_;simp only[sC,sN];refine Jrm (ZF p c) rfl (fun h=>JqZ ?_) (fun h1=>?_)
 ·unfold Xu;rw[h];rfl
 obtain⟨hpo,hci⟩:=JaB.1 h1;have hv:=Jlq p c hpo hci;rw[show Xu p c=X8 p c by unfold Xu;rw[h1];rfl];generalize X8 p c=r at *;exact Jrw (vs:=[.b r.c.up,.i r.c.round,.l (dL r.c.base),.l (dDs r.c.done),.l (dCs r.c.wants),.l (dGs r.c.got),.l (dCs r.calls),.l (dRr r.list)]) hv rfl rfl rfl (JqZ rfl)
theorem Jip (p:Pln) (c:Clk) (hp:Xt p) (hc:QV c):Ev L f_k4s (p.cells++c.cells) (Xu p c).ds:=by
 refine JrA (vs:=[.i p.n,.l (Jf p.acts),.l (dL p.gives),.l (dL p.start),.b c.up,.i c.round,.l (dL c.base),.l (dDs c.done),.l (dCs c.wants),.l (dGs c.got)]) L_k4s rfl ?_;refine Jrw (Jlf p c hp hc) rfl rfl rfl ?_;simp only[sC,sN];refine Jrm (ZF p c) rfl (fun h=>JqZ ?_) (fun h1=>?_)
 ·unfold Xu;rw[h];rfl
 obtain⟨hpo,hci⟩:=JaB.1 h1;rw[show Xu p c=X8 p c by unfold Xu;rw[h1];rfl];have hgh:Ev L f_k4q [dI c.round,.s (dL c.base),.s (dGs c.got)] [dB (!Qb p c)]:=JrC L_k4q (Jmy p c hpo hci);have hB:=fun h=>JmF p c hpo hci h;have hO:=fun h=>Jn2 p c hpo hci h;have hno:=fun h=>Jgr (p:=p) (c:=c) h;generalize X8 p c=r at *;generalize Qb p c=go at *;refine Jrw (vs:=[.b c.up,.i c.round,.l (dL c.base),.l (dDs c.done),.l (dCs c.wants),.l (dGs c.got)]) (JfM c hc) rfl rfl rfl ?_;simp only[sC,sN];refine Jrw (vs:=[.b (!go)]) hgh rfl rfl rfl ?_;simp only[sC,sN];refine Jrm go rfl (fun q=>?_) (fun q=>?_)
 ·have hv:=hB q;rw[hno q];refine Jrw (vs:=[.l (dCs []),.l (dRr [])]) hv rfl rfl rfl ?_;simp only[sC,sN];exact Jri rfl (Jri rfl (JqZ rfl))
 ·have hv:=hO q;exact Jrw (vs:=[.l (dCs r.calls),.l (dRr r.list),.b r.c.up,.i r.c.round,.l (dDs r.c.done),.l (dL r.c.base),.l (dCs r.c.wants),.l (dGs r.c.got)]) hv rfl rfl rfl (JqZ rfl)
theorem Jc5 {α:Type} (w:α→Nat) (N:Nat) (l:List α) (h :∀x∈l,w x≤N):wts w l≤N*l.length:=by
 unfold wts
 induction l with
 | nil=>simp
 | cons x l ih =>
  have h1:=ih fun y hy=>h y (List.mem_cons_of_mem _ hy);have h2:=h x (List.mem_cons_self ..);simp only[JrM,List.sum_cons,List.length_cons,Nat.mul_succ];omega
structure Jcn (r:JbG):Prop where
 c:QV r.c
 ca :∀d∈r.calls,d.args.length≤2000000
 cl:r.calls.length≤4
 ra :∀d∈r.list,d.2.length≤2000000
 rl:r.list.length≤4
 w1:JD r.c≤100000000
 w2:wts Cal.w r.calls≤10000000
 w3:wts Rsl.w r.list≤10000000
theorem Jcn.of {r:JbG} (c:QV r.c) (ca :∀d∈r.calls,d.args.length≤2000000) (cl:r.calls.length≤4) (ra :∀d∈r.list,d.2.length≤2000000) (rl:r.list.length≤4)
  (d4:r.c.done.length≤4) (w4:r.c.wants.length≤4) (g4:r.c.got.length≤4):Jcn r:=by
 have a1:=Jc5 Don.w 2000002 r.c.done (fun x hx=>by show 2+x.tells.length≤_;have:=c.dt x hx;omega);have a2:=Jc5 Cal.w 2000003 r.c.wants (fun x hx=>by show 3+x.args.length≤_;have:=c.ct x hx;omega);have a3:=Jc5 Got.w 4000001 r.c.got (fun x hx=>by show 1+x.added.length+x.seqs.length≤_;have:=c.gt x hx;omega);have a4:=Jc5 Cal.w 2000003 r.calls (fun x hx=>by show 3+x.args.length≤_;have:=ca x hx;omega);have a5:=Jc5 Rsl.w 2000001 r.list (fun x hx=>by show 1+x.2.length≤_;have:=ra x hx;omega);have b0:=c.b;exact⟨c,ca,cl,ra,rl,by unfold JD;omega,by omega,by omega⟩
theorem Jhd (p:Pln) (c:Clk):Jcn (Xu p c):=by
 unfold Xu;split
 ·rename_i h;obtain⟨hpo,hci⟩:=JaB.1 h;have ho:=Jpg hpo hci;have hf:=JbW hpo ho.c;have hn:=YQ hpo;have hg:=Zx hpo;have hd:=(XT.1 ho.c.done).1;have hl:=ho.c.len;have hw:=Zi hpo ho.c.wants ho.c.asc;have h4:=ho.four;have hll:=ho.len;refine Jcn.of hf (fun d hd=>Jb4 (ho.calls d hd)) ho.four (fun d hd=>by have:=(YF.1 (ho.list d hd)).2.1;omega) (by omega) (by omega) hw (by omega)
 ·exact Jcn.of ⟨by simp,by simp,fun d hd=>by simp at hd,by simp,fun d hd=>by simp at hd,by simp,fun d hd=>by simp at hd⟩ (fun d hd=>by simp at hd) (by simp) (fun d hd=>by simp at hd) (by simp) (by simp) (by simp) (by simp)
theorem Jau (p:Pln) (c:Clk) (hb:JjG p) (hbc:Jjp c):Ev L f_k5n (p.cells++c.cells) [dB true]:=by
 refine JrA (vs:=[.i p.n,.l (Jf p.acts),.l (dL p.gives),.l (dL p.start),.b c.up,.i c.round,.l (dL c.base),.l (dDs c.done),.l (dCs c.wants),.l (dGs c.got)]) L_k5n rfl ?_;refine Jrw (Jgo p 1048576 hb (by omega) (by omega)) rfl rfl rfl ?_;have hr:=JH (left:=1048576) (n:=ZV p) (by omega) (by omega);refine Jrx (dec 1048576 (ZV p)<0) rfl (fun _=>JqZ rfl) (fun h=>?_);have hsz:ZV p≤1048576:=by have:=JnZ h;omega
 have hf:Xt p:=Jlj hsz;have hto:=Jfk p hf;refine Jrw (Jea c (dec 1048576 (ZV p)) hbc (by omega) (by omega)) rfl rfl rfl ?_;simp only[sC,sN];have hrs:=JH (left:=(dec 1048576 (ZV p))) (n:=Y6 c) (by omega) (by omega);refine Jrx (dec (dec 1048576 (ZV p)) (Y6 c)<0) rfl (fun _=>JqZ rfl) (fun hss=>?_);have hsz2:Y6 c≤1048576:=by have:=JnZ hss;omega
 have hfc:QV c:=Jls hsz2;have htoc:=Jd7 c hfc;have hwp:=Jnb p;have hws:=Jnm c;have hwr:=Jhd p c;have hs:=Job p c hf hfc;have hi:=Jip p c hf hfc;obtain⟨es,hmk⟩:=JcU p hf (by omega);have hms:=Jeb c hfc (1+Uk p) (by omega) (by omega);generalize hmc:JnS (1+Uk p) c=mc at *;generalize hq:Xu p c=q at *;obtain⟨r,cs,rs⟩:=q;obtain⟨hw0,hw1,hw2,hw3,hw4,hw5,hw6,hw7⟩:=hwr;simp only[JbG.ds] at hw0 hw1 hw2 hw3 hw4 hw5 hw6 hw7 hs hi;have heq:=VZ r hw0;have heqc:=V5 cs cs (by omega) hw1;have heqr:Ev L f_k52 [.s (dRr rs),.s (dRr rs)] [dB (decide (rs=rs))]:=JbJ rs rs (by omega) hw3;rw[decide_eq_true rfl] at heqc heqr;have heqs:=VZ c hfc;have hmr:=JbU r hw0 (by omega);have hhr:=JbL r hw0 (by omega);have hml:=Y4 cs (1+JD r) (by omega) hw1 (by omega) (by omega);have hhc:=Uq cs (1+JD r) (by omega) hw1 (by omega) (by omega);have hmt:Ev L f_k5g [.s (dRr rs),dI (1+JD r+wts Cal.w cs)] [dI (1+JD r+wts Cal.w cs+wts Rsl.w rs),.s (dRr (JY Rsl.w Rsl.mk' (1+JD r+wts Cal.w cs) rs))]:=Jaq rs (1+JD r+wts Cal.w cs) (by omega) hw3 (by omega) (by omega);have hhl:Ev L f_k5m [.s (dRr (JY Rsl.w Rsl.mk' (1+JD r+wts Cal.w cs) rs)),dI (1+JD r+wts Cal.w cs)] [dI (1+JD r+wts Cal.w cs+wts Rsl.w rs)]:=Jas rs (1+JD r+wts Cal.w cs) (by omega) hw3 (by omega) (by omega);have hl1:(JY Cal.w Cal.mk' (1+JD r) cs).length=cs.length:=Yb ..;have hl2:(JY Rsl.w Rsl.mk' (1+JD r+wts Cal.w cs) rs).length=rs.length:=Yb ..;generalize JY Cal.w Cal.mk' (1+JD r) cs=cs2 at *;generalize JY Rsl.w Rsl.mk' (1+JD r+wts Cal.w cs) rs=rs2 at *;generalize hmk2:ZS r=m at *
 have ht1:m.base.length=r.base.length:=by rw[←hmk2];simp[ZS,YR]
 have ht2:m.done.length=r.done.length:=by rw[←hmk2];simp[ZS,Yb]
 have ht3:m.wants.length=r.wants.length:=by rw[←hmk2];simp[ZS,Yb]
 have ht4:m.got.length=r.got.length:=by rw[←hmk2];simp[ZS,Yb]
 have hcell:m.cells=[dB r.up,dI r.round,.s (dL m.base),.s (dDs m.done),.s (dCs m.wants),.s (dGs m.got)]:=by rw[←hmk2];rfl
 rw[hcell] at hhr;refine Jrw (vs:=[.i p.n,.l (Jf p.acts),.l (dL p.gives),.l (dL p.start)]) hto rfl rfl rfl ?_;simp only[sC,sN];refine Jrw (vs:=[.b c.up,.i c.round,.l (dL c.base),.l (dDs c.done),.l (dCs c.wants),.l (dGs c.got)]) htoc rfl rfl rfl ?_;simp only[sC,sN];refine Jrw (vs:=[.b r.up,.i r.round,.l (dL r.base),.l (dDs r.done),.l (dCs r.wants),.l (dGs r.got),.l (dCs cs),.l (dRr rs)]) hs rfl rfl rfl ?_;simp only[sC,sN];refine Jrw (vs:=[.i p.n,.l (Jf p.acts),.l (dL p.gives),.l (dL p.start)]) hto rfl rfl rfl ?_;simp only[sC,sN];refine Jrw (vs:=[.b c.up,.i c.round,.l (dL c.base),.l (dDs c.done),.l (dCs c.wants),.l (dGs c.got)]) htoc rfl rfl rfl ?_;simp only[sC,sN];refine Jrw (vs:=[.b r.up,.i r.round,.l (dL r.base),.l (dDs r.done),.l (dCs r.wants),.l (dGs r.got),.l (dCs cs),.l (dRr rs)]) hi rfl rfl rfl ?_;simp only[sC,sN];refine Jri (Q6 dI (fun _=>rfl) r.base) ?_;refine Jrw heq rfl rfl rfl (Jra rfl ?_);simp only[sC,sN];refine Jrw heqc rfl rfl rfl (Jra rfl ?_);simp only[sC,sN];refine Jrw heqr rfl rfl rfl (Jra rfl ?_);simp only[sC,sN];refine Jrw (vs:=[.i p.n,.l (Jf p.acts),.l (dL p.gives),.l (dL p.start)]) hto rfl rfl rfl ?_;simp only[sC,sN];refine Jrw (JfH p hf) rfl rfl rfl (Jra rfl ?_);simp only[sC,sN];refine Jrw (vs:=[.b c.up,.i c.round,.l (dL c.base),.l (dDs c.done),.l (dCs c.wants),.l (dGs c.got)]) htoc rfl rfl rfl ?_;simp only[sC,sN];refine Jrw heqs rfl rfl rfl (Jra rfl ?_);simp only[sC,sN];refine Jrw (vs:=[.i (1+Uk p),.l es,.l (dL (cnt (1+Yd p.acts) p.gives.length)),.l (dL (cnt (1+Yd p.acts+p.gives.length) p.start.length))]) hmk rfl rfl rfl ?_
 simp only[sC,sN];refine Jrw (vs:=[.i (1+Uk p+JD c),.l (dL mc.base),.l (dDs mc.done),.l (dCs mc.wants),.l (dGs mc.got)]) hms rfl rfl rfl ?_;simp only[sC,sN];refine Jra (by show decide ((1:Int)+Uk p+JD c<0)=false;rw[decide_eq_false];omega) ?_;refine Jrw heq rfl rfl rfl (Jra rfl ?_);simp only[sC,sN];refine Jrw heqc rfl rfl rfl (Jra rfl ?_);simp only[sC,sN];refine Jrw heqr rfl rfl rfl (Jra rfl ?_);simp only[sC,sN];refine Jrw (vs:=[.i (1+JD r),.l (dL m.base),.l (dDs m.done),.l (dCs m.wants),.l (dGs m.got)]) hmr rfl rfl rfl ?_;simp only[sC,sN];refine Jrw (vs:=[.i (1+JD r+wts Cal.w cs),.l (dCs cs2)]) hml rfl rfl rfl ?_;simp only[sC,sN];refine Jrw (vs:=[.i (1+JD r+wts Cal.w cs+wts Rsl.w rs),.l (dRr rs2)]) hmt rfl rfl rfl ?_;simp only[sC,sN];have c1:decide (((dL r.base).length:Int)=((dL m.base).length:Int))=true:=by rw[dL1,dL1,ht1];simp
 have c2:decide (((dDs r.done).length:Int)=((dDs m.done).length:Int))=true:=by simp[dDs,ht2]
 have c3:decide (((dCs r.wants).length:Int)=((dCs m.wants).length:Int))=true:=by simp[dCs,ht3]
 have c4:decide (((dGs r.got).length:Int)=((dGs m.got).length:Int))=true:=by simp[dGs,ht4]
 have c5:decide (((dCs cs).length:Int)=((dCs cs2).length:Int))=true:=by simp[dCs,hl1]
 have c6:decide (((dRr rs).length:Int)=((dRr rs2).length:Int))=true:=by simp[dRr,hl2]
 have hneg:decide ((1:Int)+(JD r:Int)<0)=false:=by rw[decide_eq_false];omega
 have hneg1:decide ((1:Int)+(JD r:Int)+(wts Cal.w cs:Int)<0)=false:=by rw[decide_eq_false];omega
 have hneg2:decide ((1:Int)+(JD r:Int)+(wts Cal.w cs:Int)+(wts Rsl.w rs:Int)<0)=false:=by rw[decide_eq_false];omega
 have hsame:(!decide ((1:Int)+(JD r:Int)+(wts Cal.w cs:Int)+(wts Rsl.w rs:Int)=(1:Int)+(JD r:Int)+(wts Cal.w cs:Int)+(wts Rsl.w rs:Int)))=false:=by simp
 refine Jrs c1 (Jrs c2 (Jrs c3 (Jrs c4 ?_)));refine Jrw (vs:=[.i (1+JD r)]) hhr rfl rfl rfl ?_;simp only[sC,sN];refine Jra hneg (Jrs c5 ?_);refine Jrw (vs:=[.i (1+JD r+wts Cal.w cs)]) hhc rfl rfl rfl ?_;simp only[sC,sN];refine Jra hneg1 (Jrs c6 ?_);refine Jrw (vs:=[.i (1+JD r+wts Cal.w cs+wts Rsl.w rs)]) hhl rfl rfl rfl ?_;simp only[sC,sN];refine Jra hneg2 (Jra hsame ?_);refine Jrw (vs:=[.i p.n,.l (Jf p.acts),.l (dL p.gives),.l (dL p.start)]) hto rfl rfl rfl ?_;simp only[sC,sN];refine Jrw (vs:=[.b c.up,.i c.round,.l (dL c.base),.l (dDs c.done),.l (dCs c.wants),.l (dGs c.got)]) htoc rfl rfl rfl ?_;simp only[sC,sN];refine Jrw (vs:=[.b r.up,.i r.round,.l (dL r.base),.l (dDs r.done),.l (dCs r.wants),.l (dGs r.got),.l (dCs cs),.l (dRr rs)]) hi rfl rfl rfl ?_;simp only[sC,sN];refine Jri (Q6 dI (fun _=>rfl) r.base) ?_;refine Jrw heq rfl rfl rfl (Jra rfl ?_);simp only[sC,sN];refine Jrw heqc rfl rfl rfl (Jra rfl ?_);simp only[sC,sN];refine Jrw heqr rfl rfl rfl (Jra rfl ?_);simp only[sC,sN];refine Jrs c1 (Jrs c2 (Jrs c3 (Jrs c4 ?_)));refine Jrw (vs:=[.i (1+JD r)]) hhr rfl rfl rfl ?_;simp only[sC,sN];refine Jra hneg (Jrs c5 ?_);refine Jrw (vs:=[.i (1+JD r+wts Cal.w cs)]) hhc rfl rfl rfl ?_;simp only[sC,sN];refine Jra hneg1 (Jrs c6 ?_);refine Jrw (vs:=[.i (1+JD r+wts Cal.w cs+wts Rsl.w rs)]) hhl rfl rfl rfl ?_;simp only[sC,sN];refine Jra hneg2 (Jra hsame ?_);exact JqZ rfl
theorem Ws (dss:List (List D)) (h:JoE [tyPlan,tyClk] dss) : ∃ ls,Jj [.g [.i .i64,.s,.s,.s],.g [.b,.i .i64,.s,.s,.s,.s]] (JgX [tyPlan,tyClk] dss)=some ls∧Ev L f_k5n ls [dB true]:=by
 obtain⟨ds,_,rfl,h1,es,_,rfl,h2,rfl⟩:=h;obtain⟨p,rfl,hp⟩:=JoM h1;obtain⟨c,rfl,hc⟩:=JpN h2;exact⟨_,rfl,Jau p c hp hc⟩
end Go.Proofs.YtgpjnnkmmplicabGreatDoor

import Derived.Test.YtofcmnglieaoeabGreatDoorPZZE
import Derived.Test.YtofcmnglieaoeabGreatDoorPZZB
set_option linter.unusedVariables false
set_option linter.unusedSimpArgs false
/- A round's end,by the reference: over residual programs. -/
namespace Go.Proofs.YtofcmnglieaoeabGreatDoor
open Go Go.Tm
open Go.IntKind (i64)
structure XW (p:Pln) (c:Clk):Prop where
 round:0≤c.round∧c.round≤200
 base:JR c.base=true
 done:J4 p.n c.done=true
 len:c.got.length=p.gives.length
 got :∀j,j<c.got.length→YT p c.base c.got j=true
 wants :∀x∈c.wants,Jl p x=true
 asc:Asc c.wants
 down:c.up=false→c.wants=[]∧Xy c.got=0
theorem Joz {p:Pln} {c:Clk} (h:X8 p c=true):XW p c:=by
 unfold X8 at h;simp only[JuD,decide_eq_true_eq,Bool.or_eq_true] at h;obtain⟨h1,h2,h3,⟨h4,h5⟩,h6,h7⟩:=h;obtain⟨w1,w2⟩:=Jfo.1 h6;exact⟨Jq.1 h1,h2,h3,h4,X6.1 h5,w1,w2,fun e=>by
  rcases h7 with q | q
  ·rw[e] at q;cases q
  ·exact⟨List.length_eq_zero_iff.1 q.1,q.2⟩⟩
theorem XW.ok {p:Pln} {c:Clk} (h:XW p c):X8 p c=true:=by
 unfold X8;simp only[JuD,decide_eq_true_eq,Bool.or_eq_true];refine⟨Jq.2 h.round,h.base,h.done,⟨h.len,X6.2 h.got⟩,Jfo.2 ⟨h.wants,h.asc⟩,?_⟩;cases e:c.up with
 | true=>exact .inl rfl
 | false=>exact .inr ⟨by rw[(h.down e).1];rfl,(h.down e).2⟩
theorem Jjt {p:Pln} {b:List Int} {l:List Got} {j:Nat} {g:Got} (h:YT p b l j=true) (hg:l[j]? = some g):(g.has=true→Q4 p b j g.added=true∧Q5 p.n g.seqs=true)∧(g.has=false→g.added.length=0∧g.seqs.length=0):=by
 unfold YT at h;rw[Qd hg] at h;cases e:g.has with
 | true=>rw[e] at h;simp only[if_true,JuD] at h;exact⟨fun _=>h,fun q=>Bool.noConfusion q⟩
 | false=>rw[e] at h;simp only[JuT,if_false,emp,JuD,decide_eq_true_eq] at h;exact⟨fun q=>Bool.noConfusion q,fun _=>h⟩
theorem Uy {p:Pln} {c:Clk} (hp:JL p=true) (h:XW p c):Qy c:=by
 have hn:=J9 hp;have hg:=QC hp;have hd:=Jc1 h.done hn.2.1;have hl:=h.len;refine⟨by have:=(QI.1 h.base).1;omega,hd.1,fun d hm=>hd.2 d hm,by have:=VK hp h.wants h.asc;omega,fun d hm=>Zw (h.wants d hm),by omega,fun g hm=>?_⟩;obtain⟨j,hj⟩:=List.getElem?_of_mem hm;have hi:=Jjt (h.got j (JuE.1 hj).1) hj;cases e:g.has with
 | true =>
  obtain⟨a,b⟩:=hi.1 e;have:=Jii a;have:=(UA.1 b).1;omega
 | false=>have:=hi.2 e;omega
def Xg (b:List Int) (l:List Got):List Int:=l.foldl (fun v g=>if g.has then Qp v g.added else v) b
def dRr (l:List (Int×List Int)):List D:=l.map fun x=> .g [dI x.1,.s (dL x.2)]
structure Jaw where
 done:List Don
 calls:List Cal
 list:List (Int×List Int)
 vals:List Int
def Wh (p:Pln) (c:Clk) (w:Cal):Int:=(c.got.getD (Int.tmod w.client p.gives.length).toNat Qn).seqs.getD w.client.toNat 0
def Zl (p:Pln) (r:Jaw) (w:Cal):Res:=Ka (p.acts.getD w.act.toNat []) r.vals w.args
def JdS (p:Pln) (r:Jaw) (w:Cal):Jaw:=⟨r.done.set w.client.toNat ⟨w.seq,(Zl p r w).code,(Zl p r w).tells⟩,r.calls++[w],r.list++[((Zl p r w).code,(Zl p r w).tells)],(Zl p r w).is⟩
def UY (p:Pln) (c:Clk) (r:Jaw) (w:Cal):Jaw:=if w.seq=Wh p c w+1 then JdS p r w else r
def JU (p:Pln) (c:Clk) (l:List Cal):Jaw:=l.foldl (UY p c) ⟨c.done,[],[],Xg c.base c.got⟩
theorem Jb5 (p:Pln) (c:Clk) {l:List Cal} {i:Nat} {x:Cal} (h:l[i]? = some x):JU p c (l.take (i+1))=UY p c (JU p c (l.take i)) x:=by
 rw[tS1 h];simp[JU]
def Kh (p:Pln) (c:Clk):Bool:=decide (Xy c.got=p.gives.length)&&(decide (c.round≠200)&&JR (Xg c.base c.got))
structure Jk9 where
 c:Clk
 calls:List Cal
 list:List (Int×List Int)
def Jb0 (p:Pln) (c:Clk):Jk9 :=
 if Kh p c then ⟨⟨c.up,c.round+1,(JU p c c.wants).vals,(JU p c c.wants).done,[],List.replicate p.gives.length Qn⟩,(JU p c c.wants).calls,(JU p c c.wants).list⟩ else ⟨c,[],[]⟩
def Jk9.ds (r:Jk9):List D:=r.c.cells++[.s (dCs r.calls),.s (dRr r.list)]
theorem JkX {p:Pln} {c:Clk} (h:Kh p c=false):Jb0 p c=⟨c,[],[]⟩:=by unfold Jb0;rw[h];rfl
theorem Jja {p:Pln} {c:Clk} (h:Kh p c=true):Jb0 p c=⟨⟨c.up,c.round+1,(JU p c c.wants).vals,(JU p c c.wants).done,[],List.replicate p.gives.length Qn⟩,(JU p c c.wants).calls,(JU p c c.wants).list⟩:=by unfold Jb0;rw[if_pos h]
structure Jax (p:Pln) (i:Nat) (r:Jaw):Prop where
 done:J4 p.n r.done=true
 vals:JR r.vals=true
 calls :∀x∈r.calls,Jl p x=true
 list :∀x∈r.list,JK x.1 x.2=true
 cl:r.calls.length≤i
 ll:r.list.length=r.calls.length
theorem run_ok {p:Pln} {r:Jaw} {w:Cal} (hp:JL p=true) (hv:JR r.vals=true) (hw:Jl p w=true):JR (Zl p r w).is=true∧JK (Zl p r w).code (Zl p r w).tells=true∧(Zl p r w).code≠0:=by
 obtain⟨_,_,h3,h4⟩:=Qf.1 hw;obtain⟨hm,_⟩:=JaQ (as:=p.acts) h3.1 (by omega);have hf:=Jha ((X5 (XH hp)).2.2 _ hm) hv h4;unfold Zl;generalize Ka (p.acts.getD w.act.toNat []) r.vals w.args=R at *;rcases hf with ⟨a,b,c,d⟩ | ⟨a,b,c⟩
 ·exact⟨b,Yz.2 ⟨by omega,c,.inl a,d⟩,by omega⟩
 ·exact⟨by rw[a];exact hv,Yz.2 ⟨by omega,by rw[b];simp,.inr b,by rw[b];intro x hx;simp at hx⟩,by omega⟩
theorem Jax.step {p:Pln} {c:Clk} {i:Nat} {r:Jaw} {w:Cal} (hp:JL p=true) (h:Jax p i r) (hw:Jl p w=true):Jax p (i+1) (UY p c r w):=by
 unfold UY;split
 ·obtain⟨r1,r2,r3⟩:=run_ok hp h.vals hw;have hs:=(Qf.1 hw).2.1;refine⟨Jdn h.done _ (Yt.2 (.inr ⟨hs.1,hs.2,r2⟩)),r1,fun x hx=>?_,fun x hx=>?_,by simp only[JdS,JuJ,List.length_singleton];have:=h.cl;omega,by simp only[JdS,JuJ,List.length_singleton];have:=h.ll;omega⟩
  ·rcases JuI.1 hx with q | q
   ·exact h.calls x q
   ·simp only[JuV] at q;subst q;exact hw
  ·rcases JuI.1 hx with q | q
   ·exact h.list x q
   ·simp only[JuV] at q;subst q;exact r2
 ·exact⟨h.done,h.vals,h.calls,h.list,by have:=h.cl;omega,h.ll⟩
theorem Jbz {p:Pln} {c:Clk} (hp:JL p=true) (hc:XW p c) (hv:JR (Xg c.base c.got)=true) :∀i,i≤c.wants.length→Jax p i (JU p c (c.wants.take i)):=by
 intro i
 induction i with
 | zero=>intro _;exact⟨hc.done,hv,fun x hx=>by simp[JU] at hx,fun x hx=>by simp[JU] at hx,by simp[JU],by simp[JU]⟩
 | succ i ih =>
  intro hi;obtain⟨x,hx,hm⟩:=sA1 (l:=c.wants) (i:=i) (by omega);rw[Jb5 p c hx];exact(ih (by omega)).step hp (hc.wants x hm)
theorem JhI (p:Pln) (b:List Int) (n j:Nat):YT p b (List.replicate n Qn) j=true:=by
 unfold YT;have:(List.replicate n Qn).getD j Qn=Qn:=by
  rw[JuG,List.getElem?_replicate];split <;> rfl
 rw[this];rfl
theorem JhO (n:Nat):Xy (List.replicate n Qn)=0:=by
 unfold Xy;rw[List.length_eq_zero_iff,List.filter_eq_nil_iff];intro x hx;rw[(List.mem_replicate.1 hx).2];simp[Qn]
structure JqH (p:Pln) (c:Clk) (r:Jk9):Prop where
 c:XW p r.c
 calls :∀x∈r.calls,Jl p x=true
 list :∀x∈r.list,JK x.1 x.2=true
 len:r.list.length=r.calls.length
 four:r.calls.length≤4
theorem JpI {p:Pln} {c:Clk} (hp:JL p=true) (hc:XW p c):JqH p c (Jb0 p c):=by
 cases h:Kh p c with
 | false=>rw[JkX h];exact⟨hc,fun x hx=>by simp at hx,fun x hx=>by simp at hx,rfl,by simp⟩
 | true =>
  rw[Jja h];unfold Kh at h;simp only[JuD,decide_eq_true_eq] at h;obtain⟨h1,h2,h3⟩:=h;have hf:=Jbz hp hc h3 c.wants.length (Nat.le_refl _);rw[List.take_length] at hf;have hw:=VK hp hc.wants hc.asc;have hr:=hc.round;exact⟨⟨by show 0≤c.round+1∧c.round+1≤200;omega,hf.vals,hf.done,by simp,fun j _=>JhI ..,fun x hx=>by simp at hx,List.Pairwise.nil,fun _=>⟨rfl,JhO _⟩⟩,hf.calls,hf.list,hf.ll,by have:=hf.cl;show (JU p c c.wants).calls.length≤4;omega⟩
theorem Jh8 {b:List Int} {l:List Got} {i:Nat} {x:Got} (h:l[i]? = some x):Xg b (l.take (i+1))=if x.has then Qp (Xg b (l.take i)) x.added else Xg b (l.take i):=by
 rw[tS1 h];simp[Xg]
theorem Jqt {p:Pln} {c:Clk} {x:Cal} (hp:JL p=true) (hc:XW p c) (hall:Xy c.got=p.gives.length) (hx:Jl p x=true) :
  ∃ g:Got,(0≤Int.tmod x.client p.gives.length)∧c.got[(Int.tmod x.client p.gives.length).toNat]? = some g∧g.seqs[x.client.toNat]? = some (Wh p c x)∧(0≤Wh p c x∧Wh p c x≤300):=by
 have hg:=QC hp;obtain⟨h1,_⟩:=Qf.1 hx;have t0:0≤Int.tmod x.client p.gives.length:=Int.tmod_nonneg _ h1.1;have t1:Int.tmod x.client p.gives.length<p.gives.length:=Int.tmod_lt_of_pos _ (by omega);obtain⟨g,hgg,hm⟩:=sA1 (l:=c.got) (i:=(Int.tmod x.client p.gives.length).toNat) (by have:=hc.len;omega);have hhas:g.has=true:=by
  have:=JnE c.got;rw[hall,←hc.len,decide_eq_true rfl,JuQ] at this;exact this g hm
 obtain⟨_,hsq⟩:=(Jjt (hc.got _ (JuE.1 hgg).1) hgg).1 hhas;obtain⟨q1,q2⟩:=UA.1 hsq;obtain⟨v,hv,hvm⟩:=sA1 (l:=g.seqs) (i:=x.client.toNat) (by omega);have e:Wh p c x=v:=by unfold Wh;rw[Qd hgg,Qd hv]
 rw[e];exact⟨g,t0,hgg,hv,q2 v hvm⟩
theorem Jmg (p:Pln) (c:Clk) (hp:JL p=true) (hc:XW p c):Ev L f_k2l (p.cells++c.cells) (Jb0 p c).ds:=by
 refine JuA (vs:=[.i p.n,.l (Jc p.acts),.l (dL p.gives),.l (dL p.start),.b c.up,.i c.round,.l (dL c.base),.l (dDs c.done),.l (dCs c.wants),.l (dGs c.got)]) L_k2l rfl ?_;have hpf:=Zf hp;have hcf:=Uy hp hc;have hg:=QC hp;have hn:=J9 hp;have hb:=QI.1 hc.base;have hw4:=VK hp hc.wants hc.asc;refine Jur (vs:=[.b c.up,.i c.round,.l (dL c.base),.l (dDs c.done),.l (dCs c.wants),.l (dGs c.got)]) (ZJ c hcf) rfl rfl rfl ?_;simp only[sC,sN];refine Juj (dL c.base) 2000000 (by rw[dL1];omega) (by omega) rfl ?_;refine Juc (JT c.base) ?_;refine Juj (dL c.base) 2000000 (by rw[dL1];omega) (by omega) rfl ?_;refine Jt3 c.got.length (fun i=>[.l (dL (Xg c.base (c.got.take i))),.i i]) (fun i=>(Xg c.base (c.got.take i)).length=3∧Lim (10000+20000*(i:Int)) (Xg c.base (c.got.take i))) rfl rfl ⟨by simp[Xg];omega,by simpa[Xg] using hb.2⟩ fun i hi hq=>?_;simp only[sC,sN];refine JtY i (Xm c.got) rfl (fun h'=>?_) (fun h'=>Juk ?_)
 ·obtain⟨x,hx,hm⟩:=sA1 h';have hs:=Jh8 (b:=c.base) hx;have hin:=Jjt (hc.got i h') hx;refine Juo (vs:=[.b x.has,.l (dL x.added),.l (dL x.seqs)]) i (mA1 (f:=Got.g) hx) rfl rfl rfl rfl ?_;simp only[sC,sN];refine Jud x.has rfl (fun hh=>?_) (fun hh=>?_)
  ·have hk:=XO.1 (hin.1 hh).1;have ha:=(ZC (Xv hk.1)).2.2.2.2.2.1;refine Juo (vs:=[.b x.has,.l (dL x.added),.l (dL x.seqs)]) i (mA1 (f:=Got.g) hx) rfl rfl rfl rfl ?_;simp only[sC,sN];have hl3:=hc.len;refine Jur (vs:=[.l (dL (Qp (Xg c.base (c.got.take i)) x.added))]) (Jde hq.1 ha.1 (hq.2.mono (by omega)) (ha.2.mono (by omega))) rfl rfl rfl ?_;rw[hh] at hs;simp only[if_true] at hs;refine Jt4 (vs:=[.l (dL (Xg c.base (c.got.take (i+1)))),.i ((i+1:Nat):Int)]) ?_ ⟨h',rfl,?_⟩
   ·rw[hs,←wS h' (by omega)];rfl
   ·show (Xg c.base (c.got.take (i+1))).length=3∧Lim (10000+20000*((i+1:Nat):Int)) (Xg c.base (c.got.take (i+1)));rw[hs];refine⟨by rw[ZU (by omega)];exact hq.1,?_⟩;have:=Jir hq.2 ha.2;rw[show (10000+20000*(i:Int))+20000=10000+20000*((i+1:Nat):Int) by omega] at this;exact this
  ·rw[hh] at hs;simp only[JuT,if_false] at hs;have hl3:=hc.len;refine Jt4 (vs:=[.l (dL (Xg c.base (c.got.take (i+1)))),.i ((i+1:Nat):Int)]) ?_ ⟨h',rfl,?_⟩
   ·rw[hs,←wS h' (by omega)];rfl
   ·show (Xg c.base (c.got.take (i+1))).length=3∧Lim (10000+20000*((i+1:Nat):Int)) (Xg c.base (c.got.take (i+1)));rw[hs];exact⟨hq.1,hq.2.mono (by omega)⟩
 rw[tA1 h'] at hq ⊢;have hq3:=hq.1;clear hq h' hi;have hhn:=Jlu c.got;have hl:=hc.len;refine Jur (Jec c hcf.g) rfl rfl rfl ?_;simp only[sC,sN];have bad :∀q,Kh p c=false→q=c.cells++[D.s [],D.s []]→q=(Jb0 p c).ds:=fun q h e=>by rw[JkX h,e];rfl
 refine Jt8 ((Xy c.got:Int)<(p.gives.length:Int)) (by show decide ((Xy c.got:Int)<((dL p.gives).length:Int))=_;rw[dL1]) (fun h=>Jue (bad _ (by unfold Kh;rw[decide_eq_false (show ¬Xy c.got=p.gives.length by omega)];rfl) rfl)) (fun h=>?_);have hall:Xy c.got=p.gives.length:=by omega
 refine Jt8 (c.round=200) rfl (fun h=>Jue (bad _ (by unfold Kh;rw[h];simp) rfl)) (fun h2=>?_);refine Jur (Zc (Xg c.base c.got) (by rw[hq3];omega)) rfl rfl rfl ?_;simp only[sC,sN];refine Jum (JR (Xg c.base c.got)) rfl (fun h=>Jue (bad _ (by unfold Kh;rw[h];simp) rfl)) (fun h3=>?_);have hgo:Kh p c=true:=by unfold Kh;rw[hall,h3,decide_eq_true rfl,decide_eq_true h2];rfl
 rw[Jja hgo];refine Jt3 c.wants.length (fun i=>[.l (dDs (JU p c (c.wants.take i)).done),.l (dCs (JU p c (c.wants.take i)).calls),.l (dRr (JU p c (c.wants.take i)).list),.l (dL (JU p c (c.wants.take i)).vals),.i i]) (fun _=>True) rfl rfl trivial fun i hi _=>?_;simp only[sC,sN];have hf:=Jbz hp hc h3 i hi;refine JtY i (Xb c.wants) rfl (fun h'=>?_) (fun h'=>Juk ?_)
 ·obtain⟨x,hx,hm⟩:=sA1 h';have hs:=Jb5 p c hx;have hxo:=hc.wants x hm;obtain⟨g,t0,hgg,hsq,hsr⟩:=Jqt hp hc hall hxo;obtain⟨c1,c2,c3,c4⟩:=Qf.1 hxo;refine Juo (vs:=[.i x.client,.i x.seq,.i x.act,.l (dL x.args)]) i (mA1 (f:=Cal.g) hx) rfl rfl rfl rfl ?_;simp only[sC,sN];refine Jt5 (by show (!decide (((dL p.gives).length:Int)=0))=true;rw[dL1,Bool.not_eq_true',decide_eq_false_iff_not];omega) ?_;refine Jug (ds:=dGs c.got) (d:=g.g) (vs:=[.b g.has,.l (dL g.added),.l (dL g.seqs)]) (Int.tmod x.client p.gives.length) rfl rfl (by show Int.tmod x.client ((dL p.gives).length:Int)=_;rw[dL1]) t0 (mA1 (f:=Got.g) hgg) rfl ?_;simp only[sC,sN];refine Jug (ds:=dL g.seqs) (d:=dI (Wh p c x)) (vs:=[.i (Wh p c x)]) x.client rfl rfl rfl c1.1 (mA1 (f:=dI) hsq) rfl ?_;simp only[sC,sN];have hstep:UY p c (JU p c (c.wants.take i)) x=if x.seq=Wh p c x+1 then JdS p (JU p c (c.wants.take i)) x else JU p c (c.wants.take i):=rfl;rw[hstep] at hs;generalize JU p c (c.wants.take i)=r at *;generalize Wh p c x=sq at *;have hw:i64.wrap ((i:Int)+1)=((i+1:Nat):Int):=wS h' (by omega);refine Jt8 (x.seq=sq+1) (by show decide (x.seq=i64.wrap (sq+1))=_;rw[w64 (by omega) (by omega)]) (fun he=>?_) (fun he=>?_)
  ·rw[if_pos he] at hs;obtain⟨hma,hka⟩:=JaQ (as:=p.acts) c3.1 (by omega);obtain⟨r1,r2,r3⟩:=run_ok hp hf.vals hxo;have hrun:=Jj1 (p.acts.getD x.act.toNat []) r.vals x.args (hpf.1.2 _ hma) (by have:=(QI.1 hf.vals).1;omega) (by have:=(X1.1 c4).1;omega);have ero:Ka (p.acts.getD x.act.toNat []) r.vals x.args=Zl p r x:=rfl;rw[ero] at hrun;have hdl:JdS p r x=⟨r.done.set x.client.toNat ⟨x.seq,(Zl p r x).code,(Zl p r x).tells⟩,r.calls++[x],r.list++[((Zl p r x).code,(Zl p r x).tells)],(Zl p r x).is⟩:=rfl;rw[hdl] at hs;generalize Zl p r x=R at *;have htl:R.tells.length≤2000000:=by have:=(Yz.1 r2).2.1;omega
   refine Jug (ds:=Jc p.acts) (d:= .s (Jk (p.acts.getD x.act.toNat []))) (vs:=[.l (Jk (p.acts.getD x.act.toNat []))]) x.act rfl rfl rfl c3.1 (mA1 (f:=fun a=>D.s (Jk a)) hka) rfl ?_;simp only[sC,sN];refine Jur (vs:=[.i R.code,.l (dL R.tells),.l (dL R.is)]) hrun rfl rfl rfl ?_;simp only[sC,sN];refine Jur (vs:=[.i R.code,.l (dL R.tells)]) (Qb R.code R.tells htl) rfl rfl rfl ?_;simp only[sC,sN];obtain⟨d1,d2⟩:=JI.1 hf.done;obtain⟨y,hy,hym⟩:=sA1 (l:=r.done) (i:=x.client.toNat) (by omega);refine Juf (0≤x.client) rfl c1.1 ?_;refine Juf (x.client<(r.done.length:Int)) (by show decide (x.client<((dDs r.done).length:Int))=_;rw[Xn]) (by omega) ?_;refine Jug (ds:=dDs r.done) (d:=y.g) (vs:=[.i y.seq,.i y.code,.l (dL y.tells)]) x.client rfl rfl rfl c1.1 (mA1 (f:=Don.g) hy) rfl ?_;simp only[sC,sN];refine Jur (vs:=[.i x.client,.i x.seq,.i x.act,.l (dL x.args)]) (JZ x (Zw hxo)) rfl rfl rfl ?_;simp only[sC,sN];have hcl:=hf.cl;have hll:=hf.ll;refine Jus (dCs r.calls) 2000000 (by rw[Xb];omega) (by omega) rfl ?_;refine Jur (vs:=[.i R.code,.l (dL R.tells)]) (Qb R.code R.tells htl) rfl rfl rfl ?_;simp only[sC,sN];refine Jus (dRr r.list) 2000000 (by rw[show (dRr r.list).length=r.list.length from JuM ..];omega) (by omega) rfl ?_;refine Jt4 (vs:=[.l (dDs (JU p c (c.wants.take (i+1))).done),.l (dCs (JU p c (c.wants.take (i+1))).calls),.l (dRr (JU p c (c.wants.take (i+1))).list),.l (dL (JU p c (c.wants.take (i+1))).vals),.i ((i+1:Nat):Int)]) ?_ ⟨h',rfl,trivial⟩;rw[hs];show [V.l ((dDs r.done).set x.client.toNat (.g [dI x.seq,dI R.code,.s (dL R.tells)])),V.l (dCs r.calls++[.g [dI x.client,dI x.seq,dI x.act,.s (dL x.args)]]),V.l (dRr r.list++[.g [dI R.code,.s (dL R.tells)]]),V.l (dL R.is),V.i (i64.wrap ((i:Int)+1))]=_
   rw[hw];simp only[dDs,dCs,dRr,List.map_set,List.map_append,JuL,List.map_nil];rfl
  ·rw[if_neg he] at hs;refine Jt4 (vs:=[.l (dDs (JU p c (c.wants.take (i+1))).done),.l (dCs (JU p c (c.wants.take (i+1))).calls),.l (dRr (JU p c (c.wants.take (i+1))).list),.l (dL (JU p c (c.wants.take (i+1))).vals),.i ((i+1:Nat):Int)]) ?_ ⟨h',rfl,trivial⟩;rw[hs];show [V.l (dDs r.done),V.l (dCs r.calls),V.l (dRr r.list),V.l (dL r.vals),V.i (i64.wrap ((i:Int)+1))]=_;rw[hw]
 ·rw[tA1 h'] at hf ⊢;have hr:=hc.round;refine Jur (Jbv p hpf.2.1) rfl rfl rfl (Jue ?_);generalize JU p c c.wants=r at *;show [dB c.up,dI (i64.wrap (c.round+1)),.s (dL r.vals),.s (dDs r.done),.s [],.s (dGs (List.replicate p.gives.length Qn)),.s (dCs r.calls),D.s (dRr r.list)]=_;rw[w64 (by omega) (by omega)];rfl
/- What is heard,where all is ok,by the reference: over residual programs. -/
theorem JbS {p:Pln} {b:List Int} {k:Int} (h:JL p=true) (hb:JR b=true) (hk:0≤k∧k<p.gives.length):Q4 p b k [0,0,0]=true:=by
 have ht:Qw b p.gives=true:=by
  have:=(J9 h).2.2.2;unfold Qw at this ⊢;simp only[JuD] at this ⊢;exact⟨⟨hb,this.1.2⟩,this.2⟩
 refine XO.2 ⟨Jij (JlG p.acts) ht hk,?_⟩;unfold Qc;rw[JuQ];rintro⟨x,q⟩ hq;have hx:x∈[(0:Int),0,0]:=(List.of_mem_zip hq).1;have:x=0:=by simpa using hx
 subst this;simp
theorem JcD {x:Msg} {a v s d:Bool} (h1:a=true∨x.call=⟨0,0,0,[]⟩) (h2:v=true∨x.vals=[]) (h3:s=true∨x.seqs=[]) (h4:d=true∨x.done=[]):Yw x a v s d=true:=by
 unfold Yw em;simp only[JuD,Bool.or_eq_true,decide_eq_true_eq];exact⟨h1.imp_right fun e=>by rw[e];rfl,h2.imp_right fun e=>by rw[e];rfl,h3.imp_right fun e=>by rw[e];rfl,h4.imp_right fun e=>by rw[e];rfl⟩
theorem Jl4 {p:Pln} {x:Msg} (hr:0≤x.round∧x.round≤200) (h:x.kind=2) (ht:0≤x.to∧x.to<p.gives.length) (hf:x.frm=0) (hb:Yw x false false false false=true):JX p x=true:=by
 unfold JX;rw[Jq.2 hr,if_neg (by omega),if_pos h,Y8.2 ht,hf,hb];rfl
theorem Jjp {p:Pln} {x:Msg} (hr:0≤x.round∧x.round≤200) (h:x.kind=3) (ht:x.to = -1) (hf:0≤x.frm∧x.frm<p.gives.length) (hv:JF 3 20000 x.vals=true) (hs:Q5 p.n x.seqs=true) (hb:Yw x false true true false=true):JX p x=true:=by
 unfold JX;rw[Jq.2 hr,if_neg (by omega),if_neg (by omega),if_pos h,Y8.2 hf,ht,hv,hs,hb];rfl
theorem Jkb {p:Pln} {x:Msg} (hr:0≤x.round∧x.round≤200) (h:x.kind=4) (ht:0≤x.to∧x.to<p.gives.length) (hf:x.frm=0) (hv:JR x.vals=true) (hd:J4 p.n x.done=true) (hb:Yw x false true false true=true):JX p x=true:=by
 unfold JX;rw[Jq.2 hr,if_neg (by omega),if_neg (by omega),if_neg (by omega),if_pos h,Y8.2 ht,hf,hv,hd,hb];rfl
theorem JpR {p:Pln} {s:Sit} {k:Int} (hs:QW p s k=true) (hk:0≤k∧k<p.gives.length):JX p (Je3 s k)=true:=by
 obtain⟨h1,h2,h3,h4⟩:=Qh.1 hs;have ha:=(ZC (Xv (XO.1 h3).1)).2.2.2.1;obtain⟨d1,d2⟩:=JI.1 h4;refine Jjp h1 rfl rfl hk ha (UA.2 ⟨by simp only[Je3,ZV,JuM];exact d1,fun x hx=>?_⟩) (JcD (.inr rfl) (.inl rfl) (.inl rfl) (.inr rfl));simp only[Je3,ZV,List.mem_map] at hx;obtain⟨d,hd,rfl⟩:=hx;rcases Yt.1 (d2 d hd) with q | q <;> omega
theorem JpW {p:Pln} {s:Sit} {k:Int} {m:Msg} (hp:JL p=true) (hs:QW p s k=true) (hk:0≤k∧k<p.gives.length) (hm:JX p m=true) :
  QW p (U3 p s k m) k=true∧(∀x∈KZ s k m,JX p x=true)∧(KZ s k m).length≤1:=by
 have hi:=UJ hp hm;obtain⟨s1,s2,s3,s4⟩:=Qh.1 hs;refine⟨?_,?_,?_⟩
 ·unfold U3;split
  ·split
   ·exact Qh.2 ⟨s1,s2,s3,s4⟩
   ·split
    ·rename_i h4;obtain⟨p1,p2,p3⟩:=hi.pact h4.1;refine Qh.2 ⟨hi.round,p2,JbS hp p2 hk,JI.2 ⟨by rw[Ua];exact(JI.1 s4).1,fun d hd=>?_⟩⟩;rcases Jl3 (by have:=(JI.1 s4).1;have:=(JI.1 p3).1;omega) hd with q | q
     ·exact(JI.1 s4).2 d q
     ·exact(JI.1 p3).2 d q
    ·exact hs
  ·exact hs
 ·unfold KZ;split
  ·intro x hx;simp only[JuV] at hx;subst hx;exact JpR hs hk
  ·intro x hx;simp at hx
 ·unfold KZ;split <;> simp
theorem Jo9 {p:Pln} {c:Clk} (hc:XW p c) {i:Nat} (hi:i<p.gives.length):JX p (Jhi c i)=true :=
 Jkb hc.round rfl (by show (0:Int)≤(i:Int)∧(i:Int)<(p.gives.length:Int);omega) rfl hc.base hc.done (JcD (.inr rfl) (.inl rfl) (.inr rfl) (.inl rfl))
theorem JqA {p:Pln} {c:Clk} (hc:XW p c) {i:Nat} (hi:i<p.gives.length):JX p (JpA c i)=true :=
 Jl4 hc.round rfl (by show (0:Int)≤(i:Int)∧(i:Int)<(p.gives.length:Int);omega) rfl (JcD (.inr rfl) (.inr rfl) (.inr rfl) (.inr rfl))
theorem JdI {p:Pln} {c:Clk} (hc:XW p c) {n:Nat} (hn:n≤p.gives.length) :∀x∈Xw c n,JX p x=true:=by
 intro x hx;simp only[Xw,List.mem_map,List.mem_range] at hx;obtain⟨i,hi,rfl⟩:=hx;exact Jo9 hc (by omega)
theorem Jpi {p:Pln} {c:Clk} (hc:XW p c):(∀x∈JbN c,JX p x=true)∧(JbN c).length≤2*p.gives.length:=by
 have hl:=hc.len;have hf :∀x∈YB c c.got.length,JX p x=true:=fun x hx=>by
  simp only[YB,List.mem_map,List.mem_range] at hx;obtain⟨i,hi,rfl⟩:=hx;exact JqA hc (by omega)
 unfold JbN;split
 ·split
  ·refine⟨fun x hx=>?_,by rw[JuJ,Z6,Jfu];omega⟩;rcases JuI.1 hx with q | q
   ·exact JdI hc (by omega) x q
   ·exact hf x q
  ·exact⟨JdI hc (by omega),by rw[Z6];omega⟩
 ·exact⟨fun x hx=>by simp at hx,by simp⟩
theorem JkZ {p:Pln} {c:Clk} (hc:XW p c) (u:Bool):XW p (Qm c u):=by
 unfold Qm;split
 ·exact hc
 ·exact⟨hc.round,hc.base,hc.done,by show (List.replicate c.got.length Qn).length=_;rw[List.length_replicate];exact hc.len,fun j _=>JhI ..,fun x hx=>by simp at hx,List.Pairwise.nil,fun _=>⟨rfl,JhO _⟩⟩
structure JjT (p:Pln) (c:Clk) (ms:List Msg) (cs:List Cal) (ls:List (Int×List Int)):Prop where
 c:XW p c
 hm :∀x∈ms,JX p x=true
 hc :∀x∈cs,Jl p x=true
 hl :∀x∈ls,JK x.1 x.2=true
 len:ls.length=cs.length
 four:cs.length≤4
 three:ms.length≤3
theorem JlY (p:Pln) (c:Clk) (m:Msg) (hp:JL p=true) (hc:XW p c) (hm:JX p m=true) :
  ∃ c' ms cs ls,Ev L f_k2o (p.cells++[.s (dLL (Jb p.acts)),.s (dBl (Jj p.acts))]++c.cells++m.cells) (c'.cells++[.s (dMs ms),.s (dCs cs),.s (dRr ls)])∧JjT p c' ms cs ls:=by
 have key : ∃ ds,Ev L f_k2o (p.cells++[.s (dLL (Jb p.acts)),.s (dBl (Jj p.acts))]++c.cells++m.cells) ds∧∃ c' ms cs ls,ds=c'.cells++[.s (dMs ms),.s (dCs cs),.s (dRr ls)]∧JjT p c' ms cs ls:=by
  refine Juy (vs:=[.i p.n,.l (Jc p.acts),.l (dL p.gives),.l (dL p.start),.l (dLL (Jb p.acts)),.l (dBl (Jj p.acts)),.b c.up,.i c.round,.l (dL c.base),.l (dDs c.done),.l (dCs c.wants),.l (dGs c.got),.i m.kind,.i m.to,.i m.frm,.i m.round,.i m.call.client,.i m.call.seq,.i m.call.act,.l (dL m.call.args),.l (dL m.vals),.l (dL m.seqs),.l (dDs m.done)]) L_k2o rfl ?_;have hpf:=Zf hp;have hcf:=Uy hp hc;have hi:=UJ hp hm;have hfm:=hi.fit;have hca:=XH hp;have hl:=hc.len;have hps:fitLL (Jb p.acts):=(Xc p.acts).fitLL (by omega);have same : ∃ c' ms cs ls,c.cells++[D.s [],D.s [],D.s []]=c'.cells++[.s (dMs ms),.s (dCs cs),.s (dRr ls)]∧JjT p c' ms cs ls :=
   ⟨c,[],[],[],rfl,hc,fun x h=>by simp at h,fun x h=>by simp at h,fun x h=>by simp at h,rfl,by simp,by simp⟩
  refine Jur (vs:=[.b c.up,.i c.round,.l (dL c.base),.l (dDs c.done),.l (dCs c.wants),.l (dGs c.got)]) (ZJ c hcf) rfl rfl rfl ?_;simp only[sC,sN];refine Jum c.up rfl (fun _=>Jue same) (fun a=>?_);refine Jum (decide (m.to = -1)) rfl (fun _=>Jue same) (fun b=>?_);have b:m.to = -1:=by simpa using b
  refine Jt8 (m.kind=1) rfl (fun d=>?_) (fun d=>?_)
  ·have hw:=(hi.want d).2;refine Jur (vs:=[.l (dCs (Q3 m.call c.wants))]) (VN c.wants m.call ⟨hcf.c,hcf.ct⟩ hfm.1) rfl rfl rfl (Jue ?_);refine⟨⟨c.up,c.round,c.base,c.done,Q3 m.call c.wants,c.got⟩,[],[],[],rfl,⟨hc.round,hc.base,hc.done,hc.len,hc.got,fun x hx=>?_,JmK hc.asc,fun e=>by rw[a] at e;cases e⟩,fun x h=>by simp at h,fun x h=>by simp at h,fun x h=>by simp at h,rfl,by simp,by simp⟩;rcases Jbm hx with q | q
   ·rw[q];exact hw
   ·exact hc.wants x q
  have hk3:m.kind=3:=by
   have:=hi.kind;have h2:=hi.frz;have h4:=hi.pact;rcases (by omega:m.kind=2∨m.kind=3∨m.kind=4) with q | q | q
   ·have:=h2 q;omega
   ·exact q
   ·have:=(h4 q).1;omega
  obtain⟨_,g2,g3,g4⟩:=hi.give hk3;refine Jum (decide (m.round=c.round)) rfl (fun _=>Jue same) (fun e=>?_);refine Jur (Zz c.base p.gives (Jb p.acts) m.frm m.vals hcf.b hpf.2.1 hps (by omega)) rfl rfl rfl ?_;simp only[sC,sN];refine Jum (keeps c.base p.gives (Jb p.acts) m.frm m.vals) rfl (fun _=>Jue same) (fun k1=>?_);refine Jur (WO (Jj p.acts) m.vals (Vd hca) g3) rfl rfl rfl ?_;simp only[sC,sN];refine Jum (Qc (Jj p.acts) m.vals) rfl (fun _=>Jue same) (fun k2=>?_);refine Juj (dL m.vals) 2000000 (by rw[dL1];omega) (by omega) rfl ?_;refine Juc (JT m.vals) ?_;refine Juj (dL m.vals) 2000000 (by rw[dL1];omega) (by omega) rfl ?_;have hq:=hfm.2.2.1;refine Juj (dL m.seqs) 2000000 (by rw[dL1];omega) (by omega) rfl ?_;refine Juc (JT m.seqs) ?_;refine Juj (dL m.seqs) 2000000 (by rw[dL1];omega) (by omega) rfl ?_;obtain⟨y,hy,hym⟩:=sA1 (l:=c.got) (i:=m.frm.toNat) (by omega);refine Juf (0≤m.frm) rfl g2.1 ?_;refine Juf (m.frm<(c.got.length:Int)) (by show decide (m.frm<((dGs c.got).length:Int))=_;rw[Xm]) (by omega) ?_;refine Jug (ds:=dGs c.got) (d:=y.g) (vs:=[.b y.has,.l (dL y.added),.l (dL y.seqs)]) m.frm rfl rfl rfl g2.1 (mA1 (f:=Got.g) hy) rfl ?_;simp only[sC,sN];have hc2:XW p ⟨c.up,c.round,c.base,c.done,c.wants,c.got.set m.frm.toNat ⟨true,m.vals,m.seqs⟩⟩:=by
   refine⟨hc.round,hc.base,hc.done,by show (c.got.set m.frm.toNat _).length=_;rw[List.length_set];exact hl,fun j hj=>?_,hc.wants,hc.asc,fun q=>by rw[a] at q;cases q⟩;have hj:j<c.got.length:=by have:j<(c.got.set m.frm.toNat ⟨true,m.vals,m.seqs⟩).length:=hj;rwa [List.length_set] at this
   show YT p c.base (c.got.set m.frm.toNat ⟨true,m.vals,m.seqs⟩) j=true
   by_cases hij:m.frm.toNat=j
   ·have hgj:(c.got.set m.frm.toNat ⟨true,m.vals,m.seqs⟩)[j]? = some ⟨true,m.vals,m.seqs⟩:=by rw[hij,List.getElem?_set_self hj]
    unfold YT;rw[Qd hgj];simp only[if_true,JuD];exact⟨XO.2 ⟨by rw[show ((j:Nat):Int)=m.frm by omega];exact k1,k2⟩,g4⟩
   ·have:=hc.got j hj;unfold YT at this ⊢;rw[JuG,List.getElem?_set_ne hij,←JuG];exact this
  have hfo:=JpI hp hc2;have hev:=Jmg p _ hp hc2;have hset:(dGs c.got).set m.frm.toNat (.g [dB true,.s (dL m.vals),.s (dL m.seqs)])=dGs (c.got.set m.frm.toNat ⟨true,m.vals,m.seqs⟩):=by simp only[dGs,List.map_set];rfl
  have harg:p.cells++(Clk.mk c.up c.round c.base c.done c.wants (c.got.set m.frm.toNat ⟨true,m.vals,m.seqs⟩)).cells=[dI p.n,.s (Jc p.acts),.s (dL p.gives),.s (dL p.start),dB c.up,dI c.round,.s (dL c.base),.s (dDs c.done),.s (dCs c.wants),D.s ((dGs c.got).set m.frm.toNat (.g [dB true,.s (dL m.vals),.s (dL m.seqs)]))]:=by rw[hset];rfl
  rw[harg] at hev;generalize Jb0 p ⟨c.up,c.round,c.base,c.done,c.wants,c.got.set m.frm.toNat ⟨true,m.vals,m.seqs⟩⟩=r at *;refine Jur (vs:=[.b r.c.up,.i r.c.round,.l (dL r.c.base),.l (dDs r.c.done),.l (dCs r.c.wants),.l (dGs r.c.got),.l (dCs r.calls),.l (dRr r.list)]) hev rfl rfl rfl ?_;simp only[sC,sN];refine Jud (decide (r.c.round=c.round)) rfl (fun _=>Jue ?_) (fun _=>?_)
  ·exact⟨r.c,[],r.calls,r.list,rfl,hfo.c,fun x h=>by simp at h,hfo.calls,hfo.list,hfo.len,hfo.four,by simp⟩
  ·refine Jur (vs:=[.l (dMs (Xw r.c p.gives.length))]) (Je4 p r.c hpf (Uy hp hfo.c)) rfl rfl rfl (Jue ?_);have hg:=QC hp;exact⟨r.c,Xw r.c p.gives.length,r.calls,r.list,rfl,hfo.c,JdI hfo.c (Nat.le_refl _),hfo.calls,hfo.list,hfo.len,hfo.four,by rw[Z6];omega⟩
 obtain⟨ds,e,c',ms,cs,ls,rfl,h⟩:=key;exact⟨c',ms,cs,ls,e,h⟩
/- Worlds' steps,where all is ok,by the reference: over residual programs. -/
def Wrl.out (w:Wrl):List D:=[dI w.p.n,.s (Jc w.p.acts),.s (dL w.p.gives),.s (dL w.p.start),dB w.c.up,dI w.c.round,.s (dL w.c.base),.s (dDs w.c.done),.s (dCs w.c.wants),.s (dGs w.c.got),.s (dSt w.sites),.s (dCn w.cons),.s (dMs w.net),.s (dLg w.log)]
def Wrl.out2 (w:Wrl):List D:=[dI w.p.n,.s (Jc w.p.acts),.s (dL w.p.gives),.s (dL w.p.start),dB w.c.up,dI w.c.round,.s (dL w.c.base),.s (dDs w.c.done),.s (dCs w.c.wants),.s (dGs w.c.got),.s (dMs w.net),.s (dSt w.sites),.s (dCn w.cons),.s (dLg w.log)]
structure OkW (w:Wrl):Prop where
 pln:JL w.p=true
 sl:w.sites.length=w.p.gives.length
 nl:(w.cons.length:Int)=w.p.n
 ml:w.net.length≤30
 ll:w.log.length≤100
 log :∀x∈w.log,YO w.p x=true
 sites :∀(k:Nat) (s:Sit),w.sites[k]? = some s→QW w.p s k=true
 cons :∀(k:Nat) (c:Con),w.cons[k]? = some c→XM w.p k c=true
 net :∀m∈w.net,JX w.p m=true
 clk:XW w.p w.c
theorem KW {p:Pln} {k:Int} {x:Con}:XM p k x=true↔Xj ⟨x.seq,x.code,x.tells⟩=true∧(x.busy=true→Jl p x.call=true∧x.call.client=k∧x.call.seq=x.seq+1)∧(x.busy=false→Zo x.call=true):=by
 unfold XM;rw[JuD];cases x.busy with
 | true=>simp only[if_true,JuD,decide_eq_true_eq];simp
 | false=>simp only[JuT,if_false];simp
theorem JcO {p:Pln} {x:UV}:YO p x=true↔Jl p x.call=true∧JK x.code x.tells=true:=by unfold YO;rw[JuD]
theorem JkI {c:Int} {t:List Int} (h:JK c t=true):t.length≤2000000:=by have:=(Yz.1 h).2.1;omega
theorem Jpq {p:Pln} {k:Int} {x:Con} (h:XM p k x=true):JjC x:=by
 obtain⟨h1,h2,h3⟩:=KW.1 h;refine⟨?_,JkK h1⟩;cases e:x.busy with
 | true=>exact Zw (h2 e).1
 | false=>have:=JeF (h3 e);omega
theorem OkW.fit {w:Wrl} (h:OkW w):JjY w:=by
 have hg:=QC h.pln;have hn:=J9 h.pln;have h1:=h.sl;have h2:=h.nl;have h3:=h.ml;have h4:=h.ll;refine⟨Zf h.pln,⟨by omega,fun s hs=>?_⟩,Uy h.pln h.clk,⟨by omega,fun s hs=>?_⟩,⟨by omega,fun m hm=>(UJ h.pln (h.net m hm)).fit⟩,⟨by omega,fun x hx=>?_⟩⟩
 ·obtain⟨k,hk⟩:=List.getElem?_of_mem hs;exact V5 h.pln (h.sites k s hk)
 ·obtain⟨k,hk⟩:=List.getElem?_of_mem hs;exact Jpq (h.cons k s hk)
 ·obtain⟨a,b⟩:=JcO.1 (h.log x hx);exact⟨Zw a,JkI b⟩
theorem OkW.ok {w:Wrl} (h:OkW w):Vy w=true:=by
 unfold Vy JcU;simp only[JuD,decide_eq_true_eq,JuQ];refine⟨h.sl,h.nl,h.ml,⟨h.ll,h.log⟩,X6.2 fun j hj=>?_,X6.2 fun j hj=>?_,h.net,h.clk.ok⟩
 ·obtain⟨x,hx,_⟩:=sA1 hj;rw[Qd hx];exact h.sites j x hx
 ·obtain⟨x,hx,_⟩:=sA1 hj;rw[Qd hx];exact h.cons j x hx
theorem OkW.setSite {w:Wrl} (h:OkW w) {k:Nat} {s:Sit} (hs:QW w.p s k=true):OkW ⟨w.p,w.sites.set k s,w.c,w.cons,w.net,w.log⟩ :=
 ⟨h.pln,by simp only[List.length_set];exact h.sl,h.nl,h.ml,h.ll,h.log,fun j x hx=>by
  by_cases e:k=j
  ·subst e;have hl:k<w.sites.length:=by have:=(JuE.1 hx).1;rwa [List.length_set] at this
   rw[List.getElem?_set_self hl] at hx;cases hx;exact hs
  ·rw[List.getElem?_set_ne e] at hx;exact h.sites j x hx,h.cons,h.net,h.clk⟩
theorem OkW.setCon {w:Wrl} (h:OkW w) {k:Nat} {s:Con} (hs:XM w.p k s=true):OkW ⟨w.p,w.sites,w.c,w.cons.set k s,w.net,w.log⟩ :=
 ⟨h.pln,h.sl,by simp only[List.length_set];exact h.nl,h.ml,h.ll,h.log,h.sites,fun j x hx=>by
  by_cases e:k=j
  ·subst e;have hl:k<w.cons.length:=by have:=(JuE.1 hx).1;rwa [List.length_set] at this
   rw[List.getElem?_set_self hl] at hx;cases hx;exact hs
  ·rw[List.getElem?_set_ne e] at hx;exact h.cons j x hx,h.net,h.clk⟩
theorem OkW.setNet {w:Wrl} (h:OkW w) {l:List Msg} (hl:l.length≤30) (hm :∀m∈l,JX w.p m=true):OkW ⟨w.p,w.sites,w.c,w.cons,l,w.log⟩ :=
 ⟨h.pln,h.sl,h.nl,hl,h.ll,h.log,h.sites,h.cons,hm,h.clk⟩
theorem OkW.setClk {w:Wrl} (h:OkW w) {c:Clk} (hc:XW w.p c):OkW ⟨w.p,w.sites,c,w.cons,w.net,w.log⟩ :=
 ⟨h.pln,h.sl,h.nl,h.ml,h.ll,h.log,h.sites,h.cons,h.net,hc⟩
def Kl (w:Wrl) (l:List Msg):Wrl:=⟨w.p,w.sites,w.c,w.cons,w.net++l.take (30-w.net.length),w.log⟩
theorem Jah {w:Wrl} (h:OkW w) {l:List Msg} (hl :∀m∈l,JX w.p m=true):OkW (Kl w l) :=
 h.setNet (by have:=h.ml;rw[JuJ,JuS];omega) fun m hm=>by
  rcases JuI.1 hm with q | q
  ·exact h.net m q
  ·exact hl m (Ju1 q)
theorem Kf (w:Wrl) (l:List Msg) (h:w.net.length≤30) (hl:Wd Vx l):Ev L f_k2c (w.cells++[.s (dMs l)]) (Kl w l).out:=by
 refine JuA (vs:=[.i w.p.n,.l (Jc w.p.acts),.l (dL w.p.gives),.l (dL w.p.start),.l (dSt w.sites),.b w.c.up,.i w.c.round,.l (dL w.c.base),.l (dDs w.c.done),.l (dCs w.c.wants),.l (dGs w.c.got),.l (dCn w.cons),.l (dMs w.net),.l (dLg w.log),.l (dMs l)]) L_k2c rfl ?_;refine Jt3 l.length (fun i=>[.l (dMs (w.net++l.take i)),.i i]) (fun i=>w.net.length+i≤30) rfl (by rw[List.take_zero,List.append_nil];rfl) (by omega) fun i hi hq=>?_;simp only[sC,sN];have fin:w.net++l.take i=w.net++l.take (30-w.net.length)→[dI w.p.n,.s (Jc w.p.acts),.s (dL w.p.gives),.s (dL w.p.start),dB w.c.up,dI w.c.round,.s (dL w.c.base),.s (dDs w.c.done),.s (dCs w.c.wants),.s (dGs w.c.got),.s (dSt w.sites),.s (dCn w.cons),.s (dMs (w.net++l.take i)),.s (dLg w.log)]=(Kl w l).out:=fun e=>by rw[e];rfl
 have hlen:(dMs (w.net++l.take i)).length=w.net.length+i:=by rw[Xl,JuJ,JuS];omega
 refine JtY i (Xl l) rfl (fun h'=>?_) (fun h'=>Juk (Jue (fin (by rw[tA1 h',JuH (by omega)]))));refine Jt8 ((w.net.length+i:Nat)<(30:Int)) (by show decide (((dMs (w.net++l.take i)).length:Int)<30)=_;rw[hlen]) (fun h30=>?_) (fun h30=>Juk (Jue (fin (by rw[show 30-w.net.length=i by omega]))));obtain⟨x,hx,hm⟩:=sA1 h';refine Juo (vs:=[.i x.kind,.i x.to,.i x.frm,.i x.round,.i x.call.client,.i x.call.seq,.i x.call.act,.l (dL x.call.args),.l (dL x.vals),.l (dL x.seqs),.l (dDs x.done)]) i (mA1 (f:=Msg.g) hx) rfl rfl rfl rfl ?_;simp only[sC,sN];refine Jur (vs:=[.i x.kind,.i x.to,.i x.frm,.i x.round,.i x.call.client,.i x.call.seq,.i x.call.act,.l (dL x.call.args),.l (dL x.vals),.l (dL x.seqs),.l (dDs x.done)]) (JeP x (hl.2 x hm)) rfl rfl rfl ?_;simp only[sC,sN];refine Jus (dMs (w.net++l.take i)) 100 (by rw[hlen];omega) (by omega) rfl ?_;refine Jt4 (vs:=[.l (dMs (w.net++l.take (i+1))),.i ((i+1:Nat):Int)]) ?_ ⟨h',rfl,by omega⟩;rw[←wS h' (by have:=hl.1;omega),tS1 hx,←List.append_assoc,Jct (w.net++l.take i) [x]];rfl
def Zr (w:Wrl) (c:Cal) (r:Int) (t:List Int):Wrl:=if w.log.length<100 then ⟨w.p,w.sites,w.c,w.cons,w.net,w.log++[⟨c,r,t⟩]⟩ else w
theorem JiP {w:Wrl} (h:OkW w) {c:Cal} {r:Int} {t:List Int} (hc:Jl w.p c=true) (hr:JK r t=true):OkW (Zr w c r t)∧(Zr w c r t).p=w.p:=by
 unfold Zr;split
 ·refine⟨⟨h.pln,h.sl,h.nl,h.ml,by simp;omega,fun x hx=>?_,h.sites,h.cons,h.net,h.clk⟩,rfl⟩;rcases JuI.1 hx with q | q
  ·exact h.log x q
  ·simp only[JuV] at q;subst q;exact JcO.2 ⟨hc,hr⟩
 ·exact⟨h,rfl⟩
theorem Jam (l:List UV):(dLg l).length=l.length:=JuM ..
theorem JbX (w:Wrl) (c:Cal) (r:Int) (t:List Int) (hc:YL c) (ht:t.length≤2000000):Ev L f_k2d (w.cells++c.cells++[dI r,.s (dL t)]) (Zr w c r t).out:=by
 refine JuA (vs:=[.i w.p.n,.l (Jc w.p.acts),.l (dL w.p.gives),.l (dL w.p.start),.l (dSt w.sites),.b w.c.up,.i w.c.round,.l (dL w.c.base),.l (dDs w.c.done),.l (dCs w.c.wants),.l (dGs w.c.got),.l (dCn w.cons),.l (dMs w.net),.l (dLg w.log),.i c.client,.i c.seq,.i c.act,.l (dL c.args),.i r,.l (dL t)]) L_k2d rfl ?_;refine Jt8 ((w.log.length:Int)<100) (by show decide (((dLg w.log).length:Int)<100)=_;rw[Jam]) (fun h=>?_) (fun h=>Jue ?_)
 ·refine Jur (vs:=[.i c.client,.i c.seq,.i c.act,.l (dL c.args)]) (JZ c hc) rfl rfl rfl ?_;simp only[sC,sN];refine Jur (vs:=[.i r,.l (dL t)]) (Qb r t ht) rfl rfl rfl ?_;simp only[sC,sN];refine Jus (dLg w.log) 100 (by rw[Jam];omega) (by omega) rfl (Jue ?_);show _=(Zr w c r t).out;unfold Zr;rw[if_pos (by omega)];show [dI w.p.n,.s (Jc w.p.acts),.s (dL w.p.gives),.s (dL w.p.start),dB w.c.up,dI w.c.round,.s (dL w.c.base),.s (dDs w.c.done),.s (dCs w.c.wants),.s (dGs w.c.got),.s (dSt w.sites),.s (dCn w.cons),.s (dMs w.net),.s (dLg w.log++[.g [dI c.client,dI c.seq,dI c.act,.s (dL c.args),dI r,.s (dL t)]])]=[dI w.p.n,.s (Jc w.p.acts),.s (dL w.p.gives),.s (dL w.p.start),dB w.c.up,dI w.c.round,.s (dL w.c.base),.s (dDs w.c.done),.s (dCs w.c.wants),.s (dGs w.c.got),.s (dSt w.sites),.s (dCn w.cons),.s (dMs w.net),.s (dLg (w.log++[⟨c,r,t⟩]))];simp only[dLg,List.map_append,JuL,List.map_nil];rfl
 ·show _=(Zr w c r t).out;unfold Zr;rw[if_neg (by omega)];rfl
theorem JeS (w:Wrl) (k:Int) (h:w.net.length≤30) :
  ∃ l,Ev L f_k2f (w.cells++[dI k]) [dI w.p.n,.s (Jc w.p.acts),.s (dL w.p.gives),.s (dL w.p.start),dB w.c.up,dI w.c.round,.s (dL w.c.base),.s (dDs w.c.done),.s (dCs w.c.wants),.s (dGs w.c.got),.s (dMs l),.s (dSt w.sites),.s (dCn w.cons),.s (dMs w.net),.s (dLg w.log)]∧l.length≤30∧∀m∈l,m∈w.net:=by
 have key : ∃ ds,Ev L f_k2f (w.cells++[dI k]) ds∧∃ l,ds=[dI w.p.n,.s (Jc w.p.acts),.s (dL w.p.gives),.s (dL w.p.start),dB w.c.up,dI w.c.round,.s (dL w.c.base),.s (dDs w.c.done),.s (dCs w.c.wants),.s (dGs w.c.got),.s (dMs l),.s (dSt w.sites),.s (dCn w.cons),.s (dMs w.net),.s (dLg w.log)]∧l.length≤30∧∀m∈l,m∈w.net:=by
  refine Juy (vs:=[.i w.p.n,.l (Jc w.p.acts),.l (dL w.p.gives),.l (dL w.p.start),.l (dSt w.sites),.b w.c.up,.i w.c.round,.l (dL w.c.base),.l (dDs w.c.done),.l (dCs w.c.wants),.l (dGs w.c.got),.l (dCn w.cons),.l (dMs w.net),.l (dLg w.log),.i k]) L_k2f rfl ?_;refine Jui w.net.length (fun i vs=>∃ l:List Msg,vs=[.l (dMs l),.i i]∧l.length≤i∧∀m∈l,m∈w.net) rfl ⟨[],rfl,by simp,fun m hm=>by simp at hm⟩ ?_;rintro i vs hi ⟨l,rfl,hl,hm⟩;simp only[sC,sN];refine JtY i (Xl w.net) rfl (fun h'=>?_) (fun h'=>Juk (Jue ⟨l,rfl,by omega,hm⟩));obtain⟨x,hx,hxm⟩:=sA1 h';have hw:=wS h' (by omega);refine Jum (decide ((i:Int)=k)) rfl (fun _=>?_) (fun _=>?_)
  ·refine Jux (vs:=[.i x.kind,.i x.to,.i x.frm,.i x.round,.i x.call.client,.i x.call.seq,.i x.call.act,.l (dL x.call.args),.l (dL x.vals),.l (dL x.seqs),.l (dDs x.done)]) (ds:=dMs w.net) i (mA1 (f:=Msg.g) hx) rfl rfl rfl rfl rfl rfl ?_;simp only[sC,sN];refine Jus (dMs l) 100 (by rw[Xl];omega) (by omega) rfl ?_;refine Jt4 (vs:=[.l (dMs (l++[x])),.i ((i+1:Nat):Int)]) ?_ ⟨h',l++[x],rfl,by simp;omega,fun m hmm=>?_⟩
   ·rw[←hw,Jct l [x]];rfl
   ·rcases JuI.1 hmm with q | q
    ·exact hm m q
    ·simp only[JuV] at q;rw[q];exact hxm
  ·refine Jt4 (vs:=[.l (dMs l),.i ((i+1:Nat):Int)]) ?_ ⟨h',l,rfl,by omega,hm⟩;rw[←hw];rfl
 obtain⟨ds,e,l,rfl,h⟩:=key;exact⟨l,e,h⟩
theorem Jki (w:Wrl) (h:w.cons.length≤4) : ∃ n:Int,Ev L f_k20 w.cells [dI n]∧0≤n∧n≤4:=by
 have key : ∃ ds,Ev L f_k20 w.cells ds∧∃ n:Int,ds=[dI n]∧0≤n∧n≤4:=by
  refine Juy (vs:=[.i w.p.n,.l (Jc w.p.acts),.l (dL w.p.gives),.l (dL w.p.start),.l (dSt w.sites),.b w.c.up,.i w.c.round,.l (dL w.c.base),.l (dDs w.c.done),.l (dCs w.c.wants),.l (dGs w.c.got),.l (dCn w.cons),.l (dMs w.net),.l (dLg w.log)]) L_k20 rfl ?_;refine Jui w.cons.length (fun i vs=>∃ n:Int,vs=[.i n,.i i]∧0≤n∧n≤i) rfl ⟨0,rfl,by omega,by omega⟩ ?_;rintro i vs hi ⟨n,rfl,n0,n1⟩;simp only[sC,sN];refine JtY i (JuM (f:=Con.g) (as:=w.cons)) rfl (fun h'=>?_) (fun h'=>Juk (Jue ⟨n,rfl,n0,by omega⟩));obtain⟨x,hx,_⟩:=sA1 h';have hw:=wS h' (by omega);refine Juo (vs:=[.i x.seq,.b x.busy,.i x.call.client,.i x.call.seq,.i x.call.act,.l (dL x.call.args),.i x.code,.l (dL x.tells)]) i (mA1 (f:=Con.g) hx) rfl rfl rfl rfl ?_;simp only[sC,sN];refine Jud x.busy rfl (fun _=>?_) (fun _=>?_)
  ·refine Jt4 (vs:=[.i (n+1),.i ((i+1:Nat):Int)]) ?_ ⟨h',n+1,rfl,by omega,by omega⟩;rw[←hw,←w64 (n:=n+1) (by omega) (by omega)];rfl
  ·refine Jt4 (vs:=[.i n,.i ((i+1:Nat):Int)]) ?_ ⟨h',n,rfl,n0,by omega⟩;rw[←hw];rfl
 obtain⟨ds,e,n,rfl,h⟩:=key;exact⟨n,e,h⟩
theorem Qx (l:List Con):(dCn l).length=l.length:=JuM ..
theorem J8 (l:List Sit):(dSt l).length=l.length:=JuM ..
theorem Jeg {k:Int} {n:Nat}:inB k 0 ((n:Int)-1)=true↔0≤k∧k<n:=by rw[Jq];omega
theorem Jkv (w:Wrl) (k a:Int) (as:List Int) (h:OkW w) (has:as.length≤2000000) :
  ∃ w':Wrl,Ev L f_k21 (w.cells++[dI k,dI a,.s (dL as)]) w'.out∧OkW w'∧w'.p=w.p:=by
 have key : ∃ ds,Ev L f_k21 (w.cells++[dI k,dI a,.s (dL as)]) ds∧∃ w':Wrl,ds=w'.out∧OkW w'∧w'.p=w.p:=by
  refine Juy (vs:=[.i w.p.n,.l (Jc w.p.acts),.l (dL w.p.gives),.l (dL w.p.start),.l (dSt w.sites),.b w.c.up,.i w.c.round,.l (dL w.c.base),.l (dDs w.c.done),.l (dCs w.c.wants),.l (dGs w.c.got),.l (dCn w.cons),.l (dMs w.net),.l (dLg w.log),.i k,.i a,.l (dL as)]) L_k21 rfl ?_;have hn:=J9 h.pln;have hnl:=h.nl;have hll:=h.ll;have same : ∃ w':Wrl,w.out=w'.out∧OkW w'∧w'.p=w.p:=⟨w,rfl,h,rfl⟩;refine Jur (JP k 0 ((w.cons.length:Int)-1)) rfl (by show [dI k,dI 0,dI (i64.wrap (((dCn w.cons).length:Int)-1))]=_;rw[Qx,w64 (by omega) (by omega)]) rfl ?_;simp only[sC,sN];refine Jum (inB k 0 ((w.cons.length:Int)-1)) rfl (fun _=>Jue same) (fun hk=>?_);have hk:=Jeg.1 hk;obtain⟨x,hx,hxm⟩:=sA1 (l:=w.cons) (i:=k.toNat) (by omega);have hco:=KW.1 (h.cons _ x hx);have hcl:k<(dCn w.cons).length:=by rw[Qx];exact hk.2
  have xs :∀{s:Int},-1≤x.seq∧x.seq≤300:=by intro _;rcases Yt.1 hco.1 with q | q <;> simp only at q <;> omega
  refine Juf (0≤k) rfl hk.1 (Juf (k<((dCn w.cons).length:Int)) rfl hcl ?_);refine Jug (ds:=dCn w.cons) (d:=x.g) (vs:=[.i x.seq,.b x.busy,.i x.call.client,.i x.call.seq,.i x.call.act,.l (dL x.call.args),.i x.code,.l (dL x.tells)]) k rfl rfl rfl hk.1 (mA1 (f:=Con.g) hx) rfl ?_;simp only[sC,sN];refine Jud x.busy rfl (fun _=>Jue same) (fun hb=>?_);obtain⟨n,hbusy,n0,n1⟩:=Jki w (by omega);refine Jur (vs:=[.i n]) hbusy rfl rfl rfl ?_;simp only[sC,sN];refine Jt8 ((100:Int)≤(w.log.length:Int)+n) (by show decide ((100:Int)≤i64.wrap (((dLg w.log).length:Int)+n))=_;rw[Jam,w64 (by omega) (by omega)]) (fun _=>Jue same) (fun hroom=>?_);refine Juf (0≤k) rfl hk.1 (Juf (k<((dCn w.cons).length:Int)) rfl hcl ?_);refine Jug (ds:=dCn w.cons) (d:=x.g) (vs:=[.i x.seq,.b x.busy,.i x.call.client,.i x.call.seq,.i x.call.act,.l (dL x.call.args),.i x.code,.l (dL x.tells)]) k rfl rfl rfl hk.1 (mA1 (f:=Con.g) hx) rfl ?_;simp only[sC,sN];refine Juj (dL as) 2000000 (by rw[dL1];omega) (by omega) rfl ?_;refine Juc (JT as) ?_;refine Juj (dL as) 2000000 (by rw[dL1];omega) (by omega) rfl ?_;have hw1:i64.wrap (x.seq+1)=x.seq+1:=w64 (by have:=xs (s:=0);omega) (by have:=xs (s:=0);omega);refine Jur (Qr w.p ⟨k,x.seq+1,a,as⟩ (Zf h.pln) hn.1 hn.2.1 has) rfl (by show [dI w.p.n,.s (Jc w.p.acts),.s (dL w.p.gives),.s (dL w.p.start),dI k,dI (i64.wrap (x.seq+1)),dI a,.s (dL as)]=_;rw[hw1];rfl) rfl ?_;simp only[sC,sN];refine Jud (Jl w.p ⟨k,x.seq+1,a,as⟩) rfl (fun hcall=>?_) (fun _=>Jue same);refine Juf (0≤k) rfl hk.1 (Juf (k<((dCn w.cons).length:Int)) rfl hcl ?_)
  refine Jug (ds:=dCn w.cons) (d:=x.g) (vs:=[.i x.seq,.b x.busy,.i x.call.client,.i x.call.seq,.i x.call.act,.l (dL x.call.args),.i x.code,.l (dL x.tells)]) k rfl rfl rfl hk.1 (mA1 (f:=Con.g) hx) rfl ?_;simp only[sC,sN];have e1:(dCn w.cons).set k.toNat (.g [dI x.seq,dB true,dI x.call.client,dI x.call.seq,dI x.call.act,.s (dL x.call.args),dI x.code,.s (dL x.tells)])=dCn (w.cons.set k.toNat ⟨x.seq,true,x.call,x.code,x.tells⟩):=by simp only[dCn,List.map_set];rfl
  have hx2:(dCn (w.cons.set k.toNat ⟨x.seq,true,x.call,x.code,x.tells⟩))[k.toNat]? = some (Con.g ⟨x.seq,true,x.call,x.code,x.tells⟩):=mA1 (f:=Con.g) (List.getElem?_set_self (by omega));refine Juf (0≤k) rfl hk.1 (Juf (k<((dCn w.cons).length:Int)) rfl hcl ?_);refine Jug (ds:=dCn (w.cons.set k.toNat ⟨x.seq,true,x.call,x.code,x.tells⟩)) (d:=Con.g ⟨x.seq,true,x.call,x.code,x.tells⟩) (vs:=[.i x.seq,.b true,.i x.call.client,.i x.call.seq,.i x.call.act,.l (dL x.call.args),.i x.code,.l (dL x.tells)]) k rfl e1 rfl hk.1 hx2 rfl (Jue ?_);refine⟨⟨w.p,w.sites,w.c,w.cons.set k.toNat ⟨x.seq,true,⟨k,x.seq+1,a,as⟩,x.code,x.tells⟩,w.net,w.log⟩,?_,h.setCon (k:=k.toNat) (KW.2 ⟨hco.1,fun _=>⟨hcall,by show k=((k.toNat:Nat):Int);omega,rfl⟩,fun q=>by cases q⟩),rfl⟩;show [dI w.p.n,.s (Jc w.p.acts),.s (dL w.p.gives),.s (dL w.p.start),dB w.c.up,dI w.c.round,.s (dL w.c.base),.s (dDs w.c.done),.s (dCs w.c.wants),.s (dGs w.c.got),.s (dSt w.sites),.s (((dCn w.cons).set k.toNat (.g [dI x.seq,dB true,dI x.call.client,dI x.call.seq,dI x.call.act,.s (dL x.call.args),dI x.code,.s (dL x.tells)])).set k.toNat (.g [dI x.seq,dB true,dI k,dI (i64.wrap (x.seq+1)),dI a,.s (dL as),dI x.code,.s (dL x.tells)])),.s (dMs w.net),.s (dLg w.log)]=[dI w.p.n,.s (Jc w.p.acts),.s (dL w.p.gives),.s (dL w.p.start),dB w.c.up,dI w.c.round,.s (dL w.c.base),.s (dDs w.c.done),.s (dCs w.c.wants),.s (dGs w.c.got),.s (dSt w.sites),.s (dCn (w.cons.set k.toNat ⟨x.seq,true,⟨k,x.seq+1,a,as⟩,x.code,x.tells⟩)),.s (dMs w.net),.s (dLg w.log)];rw[List.set_set,hw1]
  simp only[dCn,List.map_set];rfl
 obtain⟨ds,e,w',rfl,h⟩:=key;exact⟨w',e,h⟩
theorem Jc2 (w:Wrl) (k:Int) (u:Bool) (h:OkW w) : ∃ w':Wrl,Ev L f_k2r (w.cells++[dI k,dB u]) w'.out∧OkW w'∧w'.p=w.p:=by
 have key : ∃ ds,Ev L f_k2r (w.cells++[dI k,dB u]) ds∧∃ w':Wrl,ds=w'.out∧OkW w'∧w'.p=w.p:=by
  refine Juy (vs:=[.i w.p.n,.l (Jc w.p.acts),.l (dL w.p.gives),.l (dL w.p.start),.l (dSt w.sites),.b w.c.up,.i w.c.round,.l (dL w.c.base),.l (dDs w.c.done),.l (dCs w.c.wants),.l (dGs w.c.got),.l (dCn w.cons),.l (dMs w.net),.l (dLg w.log),.i k,.b u]) L_k2r rfl ?_;have hg:=QC h.pln;have hsl:=h.sl;refine Jur (JP k 0 ((w.sites.length:Int)-1)) rfl (by show [dI k,dI 0,dI (i64.wrap (((dSt w.sites).length:Int)-1))]=_;rw[J8,w64 (by omega) (by omega)]) rfl ?_;simp only[sC,sN];refine Jud (inB k 0 ((w.sites.length:Int)-1)) rfl (fun hk=>?_) (fun _=>Jue ⟨w,rfl,h,rfl⟩);have hk:=Jeg.1 hk;obtain⟨x,hx,hxm⟩:=sA1 (l:=w.sites) (i:=k.toNat) (by omega);have hso:=Qh.1 (h.sites _ x hx);refine Juf (0≤k) rfl hk.1 (Juf (k<((dSt w.sites).length:Int)) rfl (by rw[J8];exact hk.2) ?_);refine Jug (ds:=dSt w.sites) (d:=x.g) (vs:=[.b x.up,.b x.frozen,.i x.round,.l (dL x.base),.l (dL x.added),.l (dDs x.done)]) k rfl rfl rfl hk.1 (mA1 (f:=Sit.g) hx) rfl (Jue ?_);refine⟨⟨w.p,w.sites.set k.toNat ⟨u,x.frozen,x.round,x.base,x.added,x.done⟩,w.c,w.cons,w.net,w.log⟩,?_,h.setSite (k:=k.toNat) (Qh.2 hso),rfl⟩;show [dI w.p.n,.s (Jc w.p.acts),.s (dL w.p.gives),.s (dL w.p.start),dB w.c.up,dI w.c.round,.s (dL w.c.base),.s (dDs w.c.done),.s (dCs w.c.wants),.s (dGs w.c.got),.s ((dSt w.sites).set k.toNat (.g [dB u,dB x.frozen,dI x.round,.s (dL x.base),.s (dL x.added),.s (dDs x.done)])),.s (dCn w.cons),.s (dMs w.net),.s (dLg w.log)]=[dI w.p.n,.s (Jc w.p.acts),.s (dL w.p.gives),.s (dL w.p.start),dB w.c.up,dI w.c.round,.s (dL w.c.base),.s (dDs w.c.done),.s (dCs w.c.wants),.s (dGs w.c.got),.s (dSt (w.sites.set k.toNat ⟨u,x.frozen,x.round,x.base,x.added,x.done⟩)),.s (dCn w.cons),.s (dMs w.net),.s (dLg w.log)]
  simp only[dSt,List.map_set];rfl
 obtain⟨ds,e,w',rfl,h⟩:=key;exact⟨w',e,h⟩
end Go.Proofs.YtofcmnglieaoeabGreatDoor

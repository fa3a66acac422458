import Derived.Test.YtngcnclchcahlaaGreatDoorPZZE
import Derived.Test.YtngcnclchcahlaaGreatDoorPZZA
set_option linter.unusedVariables false
set_option linter.unusedSimpArgs false
/- A round's end,by the reference: over residual programs. -/
namespace Go.Proofs.YtngcnclchcahlaaGreatDoor
open Go Go.Tm
open Go.IntKind (i64)
structure Ye (p:Pln) (c:Clk):Prop where
 round:0≤c.round∧c.round≤200
 base:JY c.base=true
 done:Qi p.n c.done=true
 len:c.got.length=p.gives.length
 got :∀j,j<c.got.length→K5 p c.base c.got j=true
 wants :∀x∈c.wants,Jk p x=true
 asc:Asc c.wants
 down:c.up=false→c.wants=[]∧XO c.got=0
theorem Jrl {p:Pln} {c:Clk} (h:Zv p c=true):Ye p c:=by
 unfold Zv at h;simp only[Jt9,decide_eq_true_eq,Bool.or_eq_true] at h;obtain⟨h1,h2,h3,⟨h4,h5⟩,h6,h7⟩:=h;obtain⟨w1,w2⟩:=JfE.1 h6;exact⟨Jr.1 h1,h2,h3,h4,Y1.1 h5,w1,w2,fun e=>by
  rcases h7 with q | q
  ·rw[e] at q;cases q
  ·exact⟨List.length_eq_zero_iff.1 q.1,q.2⟩⟩
theorem Ye.ok {p:Pln} {c:Clk} (h:Ye p c):Zv p c=true:=by
 unfold Zv;simp only[Jt9,decide_eq_true_eq,Bool.or_eq_true];refine⟨Jr.2 h.round,h.base,h.done,⟨h.len,Y1.2 h.got⟩,JfE.2 ⟨h.wants,h.asc⟩,?_⟩;cases e:c.up with
 | true=>exact .inl rfl
 | false=>exact .inr ⟨by rw[(h.down e).1];rfl,(h.down e).2⟩
theorem Jkg {p:Pln} {b:List Int} {l:List Got} {j:Nat} {g:Got} (h:K5 p b l j=true) (hg:l[j]? = some g):(g.has=true→Xp p b j g.added=true∧Ym p.n g.seqs=true)∧(g.has=false→g.added.length=0∧g.seqs.length=0):=by
 unfold K5 at h;rw[QA hg] at h;cases e:g.has with
 | true=>rw[e] at h;simp only[if_true,Jt9] at h;exact⟨fun _=>h,fun q=>Bool.noConfusion q⟩
 | false=>rw[e] at h;simp only[Jup,if_false,emp,Jt9,decide_eq_true_eq] at h;exact⟨fun q=>Bool.noConfusion q,fun _=>h⟩
theorem V8 {p:Pln} {c:Clk} (hp:Jt p=true) (h:Ye p c):Up c:=by
 have hn:=Qb hp;have hg:=Qm hp;have hd:=JdP h.done hn.2.1;have hl:=h.len;refine⟨by have:=(Qg.1 h.base).1;omega,hd.1,fun d hm=>hd.2 d hm,by have:=JbD hp h.wants h.asc;omega,fun d hm=>Zw (h.wants d hm),by omega,fun g hm=>?_⟩;obtain⟨j,hj⟩:=List.getElem?_of_mem hm;have hi:=Jkg (h.got j (Jua.1 hj).1) hj;cases e:g.has with
 | true =>
  obtain⟨a,b⟩:=hi.1 e;have:=Jiy a;have:=(Ux.1 b).1;omega
 | false=>have:=hi.2 e;omega
def Xd (b:List Int) (l:List Got):List Int:=l.foldl (fun v g=>if g.has then J2 v g.added else v) b
def dRr (l:List (Int×List Int)):List D:=l.map fun x=> .g [dI x.1,.s (dL x.2)]
structure JaU where
 done:List Don
 calls:List Cal
 list:List (Int×List Int)
 vals:List Int
def Ws (p:Pln) (c:Clk) (w:Cal):Int:=(c.got.getD (Int.tmod w.client p.gives.length).toNat X5).seqs.getD w.client.toNat 0
def Zo (p:Pln) (r:JaU) (w:Cal):Res:=Kg (p.acts.getD w.act.toNat []) r.vals w.args
def Jda (p:Pln) (r:JaU) (w:Cal):JaU:=⟨r.done.set w.client.toNat ⟨w.seq,(Zo p r w).code,(Zo p r w).tells⟩,r.calls++[w],r.list++[((Zo p r w).code,(Zo p r w).tells)],(Zo p r w).is⟩
def UV (p:Pln) (c:Clk) (r:JaU) (w:Cal):JaU:=if w.seq=Ws p c w+1 then Jda p r w else r
def JR (p:Pln) (c:Clk) (l:List Cal):JaU:=l.foldl (UV p c) ⟨c.done,[],[],Xd c.base c.got⟩
theorem JbY (p:Pln) (c:Clk) {l:List Cal} {i:Nat} {x:Cal} (h:l[i]? = some x):JR p c (l.take (i+1))=UV p c (JR p c (l.take i)) x:=by
 rw[tS1 h];simp[JR]
def Kb (p:Pln) (c:Clk):Bool:=decide (XO c.got=p.gives.length)&&(decide (c.round≠200)&&JY (Xd c.base c.got))
structure JlI where
 c:Clk
 calls:List Cal
 list:List (Int×List Int)
def Jce (p:Pln) (c:Clk):JlI :=
 if Kb p c then ⟨⟨c.up,c.round+1,(JR p c c.wants).vals,(JR p c c.wants).done,[],List.replicate p.gives.length X5⟩,(JR p c c.wants).calls,(JR p c c.wants).list⟩ else ⟨c,[],[]⟩
def JlI.ds (r:JlI):List D:=r.c.cells++[.s (dCs r.calls),.s (dRr r.list)]
theorem Jlm {p:Pln} {c:Clk} (h:Kb p c=false):Jce p c=⟨c,[],[]⟩:=by unfold Jce;rw[h];rfl
theorem Jis {p:Pln} {c:Clk} (h:Kb p c=true):Jce p c=⟨⟨c.up,c.round+1,(JR p c c.wants).vals,(JR p c c.wants).done,[],List.replicate p.gives.length X5⟩,(JR p c c.wants).calls,(JR p c c.wants).list⟩:=by unfold Jce;rw[if_pos h]
structure JaZ (p:Pln) (i:Nat) (r:JaU):Prop where
 done:Qi p.n r.done=true
 vals:JY r.vals=true
 calls :∀x∈r.calls,Jk p x=true
 list :∀x∈r.list,JL x.1 x.2=true
 cl:r.calls.length≤i
 ll:r.list.length=r.calls.length
theorem run_ok {p:Pln} {r:JaU} {w:Cal} (hp:Jt p=true) (hv:JY r.vals=true) (hw:Jk p w=true):JY (Zo p r w).is=true∧JL (Zo p r w).code (Zo p r w).tells=true∧(Zo p r w).code≠0:=by
 obtain⟨_,_,h3,h4⟩:=JQ.1 hw;obtain⟨hm,_⟩:=UT (as:=p.acts) h3.1 (by omega);have hf:=Jh3 ((Xv (Xl hp)).2.2 _ hm) hv h4;unfold Zo;generalize Kg (p.acts.getD w.act.toNat []) r.vals w.args=R at *;rcases hf with ⟨a,b,c,d⟩ | ⟨a,b,c⟩
 ·exact⟨b,XW.2 ⟨by omega,c,.inl a,d⟩,by omega⟩
 ·exact⟨by rw[a];exact hv,XW.2 ⟨by omega,by rw[b];simp,.inr b,by rw[b];intro x hx;simp at hx⟩,by omega⟩
theorem JaZ.step {p:Pln} {c:Clk} {i:Nat} {r:JaU} {w:Cal} (hp:Jt p=true) (h:JaZ p i r) (hw:Jk p w=true):JaZ p (i+1) (UV p c r w):=by
 unfold UV;split
 ·obtain⟨r1,r2,r3⟩:=run_ok hp h.vals hw;have hs:=(JQ.1 hw).2.1;refine⟨Jc4 h.done _ (X0.2 (.inr ⟨hs.1,hs.2,r2⟩)),r1,fun x hx=>?_,fun x hx=>?_,by simp only[Jda,Juf,List.length_singleton];have:=h.cl;omega,by simp only[Jda,Juf,List.length_singleton];have:=h.ll;omega⟩
  ·rcases Jue.1 hx with q | q
   ·exact h.calls x q
   ·simp only[Jur] at q;subst q;exact hw
  ·rcases Jue.1 hx with q | q
   ·exact h.list x q
   ·simp only[Jur] at q;subst q;exact r2
 ·exact⟨h.done,h.vals,h.calls,h.list,by have:=h.cl;omega,h.ll⟩
theorem JbQ {p:Pln} {c:Clk} (hp:Jt p=true) (hc:Ye p c) (hv:JY (Xd c.base c.got)=true) :∀i,i≤c.wants.length→JaZ p i (JR p c (c.wants.take i)):=by
 intro i
 induction i with
 | zero=>intro _;exact⟨hc.done,hv,fun x hx=>by simp[JR] at hx,fun x hx=>by simp[JR] at hx,by simp[JR],by simp[JR]⟩
 | succ i ih =>
  intro hi;obtain⟨x,hx,hm⟩:=sA1 (l:=c.wants) (i:=i) (by omega);rw[JbY p c hx];exact(ih (by omega)).step hp (hc.wants x hm)
theorem JhV (p:Pln) (b:List Int) (n j:Nat):K5 p b (List.replicate n X5) j=true:=by
 unfold K5;have:(List.replicate n X5).getD j X5=X5:=by
  rw[Juc,List.getElem?_replicate];split <;> rfl
 rw[this];rfl
theorem Ji7 (n:Nat):XO (List.replicate n X5)=0:=by
 unfold XO;rw[List.length_eq_zero_iff,List.filter_eq_nil_iff];intro x hx;rw[(List.mem_replicate.1 hx).2];simp[X5]
structure Jrh (p:Pln) (c:Clk) (r:JlI):Prop where
 c:Ye p r.c
 calls :∀x∈r.calls,Jk p x=true
 list :∀x∈r.list,JL x.1 x.2=true
 len:r.list.length=r.calls.length
 four:r.calls.length≤4
theorem Jpu {p:Pln} {c:Clk} (hp:Jt p=true) (hc:Ye p c):Jrh p c (Jce p c):=by
 cases h:Kb p c with
 | false=>rw[Jlm h];exact⟨hc,fun x hx=>by simp at hx,fun x hx=>by simp at hx,rfl,by simp⟩
 | true =>
  rw[Jis h];unfold Kb at h;simp only[Jt9,decide_eq_true_eq] at h;obtain⟨h1,h2,h3⟩:=h;have hf:=JbQ hp hc h3 c.wants.length (Nat.le_refl _);rw[List.take_length] at hf;have hw:=JbD hp hc.wants hc.asc;have hr:=hc.round;exact⟨⟨by show 0≤c.round+1∧c.round+1≤200;omega,hf.vals,hf.done,by simp,fun j _=>JhV ..,fun x hx=>by simp at hx,List.Pairwise.nil,fun _=>⟨rfl,Ji7 _⟩⟩,hf.calls,hf.list,hf.ll,by have:=hf.cl;show (JR p c c.wants).calls.length≤4;omega⟩
theorem Jh4 {b:List Int} {l:List Got} {i:Nat} {x:Got} (h:l[i]? = some x):Xd b (l.take (i+1))=if x.has then J2 (Xd b (l.take i)) x.added else Xd b (l.take i):=by
 rw[tS1 h];simp[Xd]
theorem Jq6 {p:Pln} {c:Clk} {x:Cal} (hp:Jt p=true) (hc:Ye p c) (hall:XO c.got=p.gives.length) (hx:Jk p x=true) :
  ∃ g:Got,(0≤Int.tmod x.client p.gives.length)∧c.got[(Int.tmod x.client p.gives.length).toNat]? = some g∧g.seqs[x.client.toNat]? = some (Ws p c x)∧(0≤Ws p c x∧Ws p c x≤300):=by
 have hg:=Qm hp;obtain⟨h1,_⟩:=JQ.1 hx;have t0:0≤Int.tmod x.client p.gives.length:=Int.tmod_nonneg _ h1.1;have t1:Int.tmod x.client p.gives.length<p.gives.length:=Int.tmod_lt_of_pos _ (by omega);obtain⟨g,hgg,hm⟩:=sA1 (l:=c.got) (i:=(Int.tmod x.client p.gives.length).toNat) (by have:=hc.len;omega);have hhas:g.has=true:=by
  have:=JnR c.got;rw[hall,←hc.len,decide_eq_true rfl,Jum] at this;exact this g hm
 obtain⟨_,hsq⟩:=(Jkg (hc.got _ (Jua.1 hgg).1) hgg).1 hhas;obtain⟨q1,q2⟩:=Ux.1 hsq;obtain⟨v,hv,hvm⟩:=sA1 (l:=g.seqs) (i:=x.client.toNat) (by omega);have e:Ws p c x=v:=by unfold Ws;rw[QA hgg,QA hv]
 rw[e];exact⟨g,t0,hgg,hv,q2 v hvm⟩
theorem Jmd (p:Pln) (c:Clk) (hp:Jt p=true) (hc:Ye p c):Ev L f_k2l (p.cells++c.cells) (Jce p c).ds:=by
 refine Jt7 (vs:=[.i p.n,.l (Jd p.acts),.l (dL p.gives),.l (dL p.start),.b c.up,.i c.round,.l (dL c.base),.l (dDs c.done),.l (dCs c.wants),.l (dGs c.got)]) L_k2l rfl ?_;have hpf:=Zb hp;have hcf:=V8 hp hc;have hg:=Qm hp;have hn:=Qb hp;have hb:=Qg.1 hc.base;have hw4:=JbD hp hc.wants hc.asc;refine JtE (vs:=[.b c.up,.i c.round,.l (dL c.base),.l (dDs c.done),.l (dCs c.wants),.l (dGs c.got)]) (VZ c hcf) rfl rfl rfl ?_;simp only[sC,sN];refine Jtv (dL c.base) 2000000 (by rw[dL1];omega) (by omega) rfl ?_;refine JtH (JS c.base) ?_;refine Jtv (dL c.base) 2000000 (by rw[dL1];omega) (by omega) rfl ?_;refine Jtt c.got.length (fun i=>[.l (dL (Xd c.base (c.got.take i))),.i i]) (fun i=>(Xd c.base (c.got.take i)).length=3∧Lim (10000+20000*(i:Int)) (Xd c.base (c.got.take i))) rfl rfl ⟨by simp[Xd];omega,by simpa[Xd] using hb.2⟩ fun i hi hq=>?_;simp only[sC,sN];refine JtT i (Ur c.got) rfl (fun h'=>?_) (fun h'=>JtA ?_)
 ·obtain⟨x,hx,hm⟩:=sA1 h';have hs:=Jh4 (b:=c.base) hx;have hin:=Jkg (hc.got i h') hx;refine JtY (vs:=[.b x.has,.l (dL x.added),.l (dL x.seqs)]) i (mA1 (f:=Got.g) hx) rfl rfl rfl rfl ?_;simp only[sC,sN];refine JtG x.has rfl (fun hh=>?_) (fun hh=>?_)
  ·have hk:=XS.1 (hin.1 hh).1;have ha:=(Zc (Xa hk.1)).2.2.2.2.2.1;refine JtY (vs:=[.b x.has,.l (dL x.added),.l (dL x.seqs)]) i (mA1 (f:=Got.g) hx) rfl rfl rfl rfl ?_;simp only[sC,sN];have hl3:=hc.len;refine JtE (vs:=[.l (dL (J2 (Xd c.base (c.got.take i)) x.added))]) (Jeb hq.1 ha.1 (hq.2.mono (by omega)) (ha.2.mono (by omega))) rfl rfl rfl ?_;rw[hh] at hs;simp only[if_true] at hs;refine JtK (vs:=[.l (dL (Xd c.base (c.got.take (i+1)))),.i ((i+1:Nat):Int)]) ?_ ⟨h',rfl,?_⟩
   ·rw[hs,←wS h' (by omega)];rfl
   ·show (Xd c.base (c.got.take (i+1))).length=3∧Lim (10000+20000*((i+1:Nat):Int)) (Xd c.base (c.got.take (i+1)));rw[hs];refine⟨by rw[Zn (by omega)];exact hq.1,?_⟩;have:=Jia hq.2 ha.2;rw[show (10000+20000*(i:Int))+20000=10000+20000*((i+1:Nat):Int) by omega] at this;exact this
  ·rw[hh] at hs;simp only[Jup,if_false] at hs;have hl3:=hc.len;refine JtK (vs:=[.l (dL (Xd c.base (c.got.take (i+1)))),.i ((i+1:Nat):Int)]) ?_ ⟨h',rfl,?_⟩
   ·rw[hs,←wS h' (by omega)];rfl
   ·show (Xd c.base (c.got.take (i+1))).length=3∧Lim (10000+20000*((i+1:Nat):Int)) (Xd c.base (c.got.take (i+1)));rw[hs];exact⟨hq.1,hq.2.mono (by omega)⟩
 rw[tA1 h'] at hq ⊢;have hq3:=hq.1;clear hq h' hi;have hhn:=Jlf c.got;have hl:=hc.len;refine JtE (Jde c hcf.g) rfl rfl rfl ?_;simp only[sC,sN];have bad :∀q,Kb p c=false→q=c.cells++[D.s [],D.s []]→q=(Jce p c).ds:=fun q h e=>by rw[Jlm h,e];rfl
 refine Jty ((XO c.got:Int)<(p.gives.length:Int)) (by show decide ((XO c.got:Int)<((dL p.gives).length:Int))=_;rw[dL1]) (fun h=>Jt0 (bad _ (by unfold Kb;rw[decide_eq_false (show ¬XO c.got=p.gives.length by omega)];rfl) rfl)) (fun h=>?_);have hall:XO c.got=p.gives.length:=by omega
 refine Jty (c.round=200) rfl (fun h=>Jt0 (bad _ (by unfold Kb;rw[h];simp) rfl)) (fun h2=>?_);refine JtE (YV (Xd c.base c.got) (by rw[hq3];omega)) rfl rfl rfl ?_;simp only[sC,sN];refine Jt1 (JY (Xd c.base c.got)) rfl (fun h=>Jt0 (bad _ (by unfold Kb;rw[h];simp) rfl)) (fun h3=>?_);have hgo:Kb p c=true:=by unfold Kb;rw[hall,h3,decide_eq_true rfl,decide_eq_true h2];rfl
 rw[Jis hgo];refine Jtt c.wants.length (fun i=>[.l (dDs (JR p c (c.wants.take i)).done),.l (dCs (JR p c (c.wants.take i)).calls),.l (dRr (JR p c (c.wants.take i)).list),.l (dL (JR p c (c.wants.take i)).vals),.i i]) (fun _=>True) rfl rfl trivial fun i hi _=>?_;simp only[sC,sN];have hf:=JbQ hp hc h3 i hi;refine JtT i (Yj c.wants) rfl (fun h'=>?_) (fun h'=>JtA ?_)
 ·obtain⟨x,hx,hm⟩:=sA1 h';have hs:=JbY p c hx;have hxo:=hc.wants x hm;obtain⟨g,t0,hgg,hsq,hsr⟩:=Jq6 hp hc hall hxo;obtain⟨c1,c2,c3,c4⟩:=JQ.1 hxo;refine JtY (vs:=[.i x.client,.i x.seq,.i x.act,.l (dL x.args)]) i (mA1 (f:=Cal.g) hx) rfl rfl rfl rfl ?_;simp only[sC,sN];refine Jt3 (by show (!decide (((dL p.gives).length:Int)=0))=true;rw[dL1,Bool.not_eq_true',decide_eq_false_iff_not];omega) ?_;refine JtJ (ds:=dGs c.got) (d:=g.g) (vs:=[.b g.has,.l (dL g.added),.l (dL g.seqs)]) (Int.tmod x.client p.gives.length) rfl rfl (by show Int.tmod x.client ((dL p.gives).length:Int)=_;rw[dL1]) t0 (mA1 (f:=Got.g) hgg) rfl ?_;simp only[sC,sN];refine JtJ (ds:=dL g.seqs) (d:=dI (Ws p c x)) (vs:=[.i (Ws p c x)]) x.client rfl rfl rfl c1.1 (mA1 (f:=dI) hsq) rfl ?_;simp only[sC,sN];have hstep:UV p c (JR p c (c.wants.take i)) x=if x.seq=Ws p c x+1 then Jda p (JR p c (c.wants.take i)) x else JR p c (c.wants.take i):=rfl;rw[hstep] at hs;generalize JR p c (c.wants.take i)=r at *;generalize Ws p c x=sq at *;have hw:i64.wrap ((i:Int)+1)=((i+1:Nat):Int):=wS h' (by omega);refine Jty (x.seq=sq+1) (by show decide (x.seq=i64.wrap (sq+1))=_;rw[w64 (by omega) (by omega)]) (fun he=>?_) (fun he=>?_)
  ·rw[if_pos he] at hs;obtain⟨hma,hka⟩:=UT (as:=p.acts) c3.1 (by omega);obtain⟨r1,r2,r3⟩:=run_ok hp hf.vals hxo;have hrun:=Jj2 (p.acts.getD x.act.toNat []) r.vals x.args (hpf.1.2 _ hma) (by have:=(Qg.1 hf.vals).1;omega) (by have:=(XX.1 c4).1;omega);have ero:Kg (p.acts.getD x.act.toNat []) r.vals x.args=Zo p r x:=rfl;rw[ero] at hrun;have hdl:Jda p r x=⟨r.done.set x.client.toNat ⟨x.seq,(Zo p r x).code,(Zo p r x).tells⟩,r.calls++[x],r.list++[((Zo p r x).code,(Zo p r x).tells)],(Zo p r x).is⟩:=rfl;rw[hdl] at hs;generalize Zo p r x=R at *;have htl:R.tells.length≤2000000:=by have:=(XW.1 r2).2.1;omega
   refine JtJ (ds:=Jd p.acts) (d:= .s (Jl (p.acts.getD x.act.toNat []))) (vs:=[.l (Jl (p.acts.getD x.act.toNat []))]) x.act rfl rfl rfl c3.1 (mA1 (f:=fun a=>D.s (Jl a)) hka) rfl ?_;simp only[sC,sN];refine JtE (vs:=[.i R.code,.l (dL R.tells),.l (dL R.is)]) hrun rfl rfl rfl ?_;simp only[sC,sN];refine JtE (vs:=[.i R.code,.l (dL R.tells)]) (Qe R.code R.tells htl) rfl rfl rfl ?_;simp only[sC,sN];obtain⟨d1,d2⟩:=JT.1 hf.done;obtain⟨y,hy,hym⟩:=sA1 (l:=r.done) (i:=x.client.toNat) (by omega);refine JtP (0≤x.client) rfl c1.1 ?_;refine JtP (x.client<(r.done.length:Int)) (by show decide (x.client<((dDs r.done).length:Int))=_;rw[QC]) (by omega) ?_;refine JtJ (ds:=dDs r.done) (d:=y.g) (vs:=[.i y.seq,.i y.code,.l (dL y.tells)]) x.client rfl rfl rfl c1.1 (mA1 (f:=Don.g) hy) rfl ?_;simp only[sC,sN];refine JtE (vs:=[.i x.client,.i x.seq,.i x.act,.l (dL x.args)]) (JZ x (Zw hxo)) rfl rfl rfl ?_;simp only[sC,sN];have hcl:=hf.cl;have hll:=hf.ll;refine JtR (dCs r.calls) 2000000 (by rw[Yj];omega) (by omega) rfl ?_;refine JtE (vs:=[.i R.code,.l (dL R.tells)]) (Qe R.code R.tells htl) rfl rfl rfl ?_;simp only[sC,sN];refine JtR (dRr r.list) 2000000 (by rw[show (dRr r.list).length=r.list.length from Jui ..];omega) (by omega) rfl ?_;refine JtK (vs:=[.l (dDs (JR p c (c.wants.take (i+1))).done),.l (dCs (JR p c (c.wants.take (i+1))).calls),.l (dRr (JR p c (c.wants.take (i+1))).list),.l (dL (JR p c (c.wants.take (i+1))).vals),.i ((i+1:Nat):Int)]) ?_ ⟨h',rfl,trivial⟩;rw[hs];show [V.l ((dDs r.done).set x.client.toNat (.g [dI x.seq,dI R.code,.s (dL R.tells)])),V.l (dCs r.calls++[.g [dI x.client,dI x.seq,dI x.act,.s (dL x.args)]]),V.l (dRr r.list++[.g [dI R.code,.s (dL R.tells)]]),V.l (dL R.is),V.i (i64.wrap ((i:Int)+1))]=_
   rw[hw];simp only[dDs,dCs,dRr,List.map_set,List.map_append,Juh,List.map_nil];rfl
  ·rw[if_neg he] at hs;refine JtK (vs:=[.l (dDs (JR p c (c.wants.take (i+1))).done),.l (dCs (JR p c (c.wants.take (i+1))).calls),.l (dRr (JR p c (c.wants.take (i+1))).list),.l (dL (JR p c (c.wants.take (i+1))).vals),.i ((i+1:Nat):Int)]) ?_ ⟨h',rfl,trivial⟩;rw[hs];show [V.l (dDs r.done),V.l (dCs r.calls),V.l (dRr r.list),V.l (dL r.vals),V.i (i64.wrap ((i:Int)+1))]=_;rw[hw]
 ·rw[tA1 h'] at hf ⊢;have hr:=hc.round;refine JtE (Jby p hpf.2.1) rfl rfl rfl (Jt0 ?_);generalize JR p c c.wants=r at *;show [dB c.up,dI (i64.wrap (c.round+1)),.s (dL r.vals),.s (dDs r.done),.s [],.s (dGs (List.replicate p.gives.length X5)),.s (dCs r.calls),D.s (dRr r.list)]=_;rw[w64 (by omega) (by omega)];rfl
/- What is heard,where all is ok,by the reference: over residual programs. -/
theorem Jcb {p:Pln} {b:List Int} {k:Int} (h:Jt p=true) (hb:JY b=true) (hk:0≤k∧k<p.gives.length):Xp p b k [0,0,0]=true:=by
 have ht:Qr b p.gives=true:=by
  have:=(Qb h).2.2.2;unfold Qr at this ⊢;simp only[Jt9] at this ⊢;exact⟨⟨hb,this.1.2⟩,this.2⟩
 refine XS.2 ⟨JhK (JmH p.acts) ht hk,?_⟩;unfold J5;rw[Jum];rintro⟨x,q⟩ hq;have hx:x∈[(0:Int),0,0]:=(List.of_mem_zip hq).1;have:x=0:=by simpa using hx
 subst this;simp
theorem JdZ {x:Msg} {a v s d:Bool} (h1:a=true∨x.call=⟨0,0,0,[]⟩) (h2:v=true∨x.vals=[]) (h3:s=true∨x.seqs=[]) (h4:d=true∨x.done=[]):Yx x a v s d=true:=by
 unfold Yx em;simp only[Jt9,Bool.or_eq_true,decide_eq_true_eq];exact⟨h1.imp_right fun e=>by rw[e];rfl,h2.imp_right fun e=>by rw[e];rfl,h3.imp_right fun e=>by rw[e];rfl,h4.imp_right fun e=>by rw[e];rfl⟩
theorem Jm8 {p:Pln} {x:Msg} (hr:0≤x.round∧x.round≤200) (h:x.kind=2) (ht:0≤x.to∧x.to<p.gives.length) (hf:x.frm=0) (hb:Yx x false false false false=true):JV p x=true:=by
 unfold JV;rw[Jr.2 hr,if_neg (by omega),if_pos h,Y5.2 ht,hf,hb];rfl
theorem Jkx {p:Pln} {x:Msg} (hr:0≤x.round∧x.round≤200) (h:x.kind=3) (ht:x.to = -1) (hf:0≤x.frm∧x.frm<p.gives.length) (hv:JJ 3 20000 x.vals=true) (hs:Ym p.n x.seqs=true) (hb:Yx x false true true false=true):JV p x=true:=by
 unfold JV;rw[Jr.2 hr,if_neg (by omega),if_neg (by omega),if_pos h,Y5.2 hf,ht,hv,hs,hb];rfl
theorem JjC {p:Pln} {x:Msg} (hr:0≤x.round∧x.round≤200) (h:x.kind=4) (ht:0≤x.to∧x.to<p.gives.length) (hf:x.frm=0) (hv:JY x.vals=true) (hd:Qi p.n x.done=true) (hb:Yx x false true false true=true):JV p x=true:=by
 unfold JV;rw[Jr.2 hr,if_neg (by omega),if_neg (by omega),if_neg (by omega),if_pos h,Y5.2 ht,hf,hv,hd,hb];rfl
theorem JpY {p:Pln} {s:Sit} {k:Int} (hs:JW p s k=true) (hk:0≤k∧k<p.gives.length):JV p (Jf6 s k)=true:=by
 obtain⟨h1,h2,h3,h4⟩:=QG.1 hs;have ha:=(Zc (Xa (XS.1 h3).1)).2.2.2.1;obtain⟨d1,d2⟩:=JT.1 h4;refine Jkx h1 rfl rfl hk ha (Ux.2 ⟨by simp only[Jf6,Wq,Jui];exact d1,fun x hx=>?_⟩) (JdZ (.inr rfl) (.inl rfl) (.inl rfl) (.inr rfl));simp only[Jf6,Wq,List.mem_map] at hx;obtain⟨d,hd,rfl⟩:=hx;rcases X0.1 (d2 d hd) with q | q <;> omega
theorem Jpz {p:Pln} {s:Sit} {k:Int} {m:Msg} (hp:Jt p=true) (hs:JW p s k=true) (hk:0≤k∧k<p.gives.length) (hm:JV p m=true) :
  JW p (U5 p s k m) k=true∧(∀x∈KZ s k m,JV p x=true)∧(KZ s k m).length≤1:=by
 have hi:=Vb hp hm;obtain⟨s1,s2,s3,s4⟩:=QG.1 hs;refine⟨?_,?_,?_⟩
 ·unfold U5;split
  ·split
   ·exact QG.2 ⟨s1,s2,s3,s4⟩
   ·split
    ·rename_i h4;obtain⟨p1,p2,p3⟩:=hi.pact h4.1;refine QG.2 ⟨hi.round,p2,Jcb hp p2 hk,JT.2 ⟨by rw[KN];exact(JT.1 s4).1,fun d hd=>?_⟩⟩;rcases Jme (by have:=(JT.1 s4).1;have:=(JT.1 p3).1;omega) hd with q | q
     ·exact(JT.1 s4).2 d q
     ·exact(JT.1 p3).2 d q
    ·exact hs
  ·exact hs
 ·unfold KZ;split
  ·intro x hx;simp only[Jur] at hx;subst hx;exact JpY hs hk
  ·intro x hx;simp at hx
 ·unfold KZ;split <;> simp
theorem Jp4 {p:Pln} {c:Clk} (hc:Ye p c) {i:Nat} (hi:i<p.gives.length):JV p (Jhu c i)=true :=
 JjC hc.round rfl (by show (0:Int)≤(i:Int)∧(i:Int)<(p.gives.length:Int);omega) rfl hc.base hc.done (JdZ (.inr rfl) (.inl rfl) (.inr rfl) (.inl rfl))
theorem JqU {p:Pln} {c:Clk} (hc:Ye p c) {i:Nat} (hi:i<p.gives.length):JV p (Jp6 c i)=true :=
 Jm8 hc.round rfl (by show (0:Int)≤(i:Int)∧(i:Int)<(p.gives.length:Int);omega) rfl (JdZ (.inr rfl) (.inr rfl) (.inr rfl) (.inr rfl))
theorem JcR {p:Pln} {c:Clk} (hc:Ye p c) {n:Nat} (hn:n≤p.gives.length) :∀x∈Xr c n,JV p x=true:=by
 intro x hx;simp only[Xr,List.mem_map,List.mem_range] at hx;obtain⟨i,hi,rfl⟩:=hx;exact Jp4 hc (by omega)
theorem Jqc {p:Pln} {c:Clk} (hc:Ye p c):(∀x∈JbN c,JV p x=true)∧(JbN c).length≤2*p.gives.length:=by
 have hl:=hc.len;have hf :∀x∈YM c c.got.length,JV p x=true:=fun x hx=>by
  simp only[YM,List.mem_map,List.mem_range] at hx;obtain⟨i,hi,rfl⟩:=hx;exact JqU hc (by omega)
 unfold JbN;split
 ·split
  ·refine⟨fun x hx=>?_,by rw[Juf,Z2,Jfi];omega⟩;rcases Jue.1 hx with q | q
   ·exact JcR hc (by omega) x q
   ·exact hf x q
  ·exact⟨JcR hc (by omega),by rw[Z2];omega⟩
 ·exact⟨fun x hx=>by simp at hx,by simp⟩
theorem Jp5 {p:Pln} {c:Clk} (hc:Ye p c) (u:Bool):Ye p (Ky c u):=by
 unfold Ky;split
 ·exact hc
 ·exact⟨hc.round,hc.base,hc.done,by show (List.replicate c.got.length X5).length=_;rw[List.length_replicate];exact hc.len,fun j _=>JhV ..,fun x hx=>by simp at hx,List.Pairwise.nil,fun _=>⟨rfl,Ji7 _⟩⟩
structure Jki (p:Pln) (c:Clk) (ms:List Msg) (cs:List Cal) (ls:List (Int×List Int)):Prop where
 c:Ye p c
 hm :∀x∈ms,JV p x=true
 hc :∀x∈cs,Jk p x=true
 hl :∀x∈ls,JL x.1 x.2=true
 len:ls.length=cs.length
 four:cs.length≤4
 three:ms.length≤3
theorem Jnm (p:Pln) (c:Clk) (m:Msg) (hp:Jt p=true) (hc:Ye p c) (hm:JV p m=true) :
  ∃ c' ms cs ls,Ev L f_k2o (p.cells++[.s (dLL (Jb p.acts)),.s (dBl (Jh p.acts))]++c.cells++m.cells) (c'.cells++[.s (dMs ms),.s (dCs cs),.s (dRr ls)])∧Jki p c' ms cs ls:=by
 have key : ∃ ds,Ev L f_k2o (p.cells++[.s (dLL (Jb p.acts)),.s (dBl (Jh p.acts))]++c.cells++m.cells) ds∧∃ c' ms cs ls,ds=c'.cells++[.s (dMs ms),.s (dCs cs),.s (dRr ls)]∧Jki p c' ms cs ls:=by
  refine Jt4 (vs:=[.i p.n,.l (Jd p.acts),.l (dL p.gives),.l (dL p.start),.l (dLL (Jb p.acts)),.l (dBl (Jh p.acts)),.b c.up,.i c.round,.l (dL c.base),.l (dDs c.done),.l (dCs c.wants),.l (dGs c.got),.i m.kind,.i m.to,.i m.frm,.i m.round,.i m.call.client,.i m.call.seq,.i m.call.act,.l (dL m.call.args),.l (dL m.vals),.l (dL m.seqs),.l (dDs m.done)]) L_k2o rfl ?_;have hpf:=Zb hp;have hcf:=V8 hp hc;have hi:=Vb hp hm;have hfm:=hi.fit;have hca:=Xl hp;have hl:=hc.len;have hps:fitLL (Jb p.acts):=(QM p.acts).fitLL (by omega);have same : ∃ c' ms cs ls,c.cells++[D.s [],D.s [],D.s []]=c'.cells++[.s (dMs ms),.s (dCs cs),.s (dRr ls)]∧Jki p c' ms cs ls :=
   ⟨c,[],[],[],rfl,hc,fun x h=>by simp at h,fun x h=>by simp at h,fun x h=>by simp at h,rfl,by simp,by simp⟩
  refine JtE (vs:=[.b c.up,.i c.round,.l (dL c.base),.l (dDs c.done),.l (dCs c.wants),.l (dGs c.got)]) (VZ c hcf) rfl rfl rfl ?_;simp only[sC,sN];refine Jt1 c.up rfl (fun _=>Jt0 same) (fun a=>?_);refine Jt1 (decide (m.to = -1)) rfl (fun _=>Jt0 same) (fun b=>?_);have b:m.to = -1:=by simpa using b
  refine Jty (m.kind=1) rfl (fun d=>?_) (fun d=>?_)
  ·have hw:=(hi.want d).2;refine JtE (vs:=[.l (dCs (Yv m.call c.wants))]) (Jm6 c.wants m.call ⟨hcf.c,hcf.ct⟩ hfm.1) rfl rfl rfl (Jt0 ?_);refine⟨⟨c.up,c.round,c.base,c.done,Yv m.call c.wants,c.got⟩,[],[],[],rfl,⟨hc.round,hc.base,hc.done,hc.len,hc.got,fun x hx=>?_,JmE hc.asc,fun e=>by rw[a] at e;cases e⟩,fun x h=>by simp at h,fun x h=>by simp at h,fun x h=>by simp at h,rfl,by simp,by simp⟩;rcases Jfk hx with q | q
   ·rw[q];exact hw
   ·exact hc.wants x q
  have hk3:m.kind=3:=by
   have:=hi.kind;have h2:=hi.frz;have h4:=hi.pact;rcases (by omega:m.kind=2∨m.kind=3∨m.kind=4) with q | q | q
   ·have:=h2 q;omega
   ·exact q
   ·have:=(h4 q).1;omega
  obtain⟨_,g2,g3,g4⟩:=hi.give hk3;refine Jt1 (decide (m.round=c.round)) rfl (fun _=>Jt0 same) (fun e=>?_);refine JtE (ZF c.base p.gives (Jb p.acts) m.frm m.vals hcf.b hpf.2.1 hps (by omega)) rfl rfl rfl ?_;simp only[sC,sN];refine Jt1 (keeps c.base p.gives (Jb p.acts) m.frm m.vals) rfl (fun _=>Jt0 same) (fun k1=>?_);refine JtE (WL (Jh p.acts) m.vals (KX hca) g3) rfl rfl rfl ?_;simp only[sC,sN];refine Jt1 (J5 (Jh p.acts) m.vals) rfl (fun _=>Jt0 same) (fun k2=>?_);refine Jtv (dL m.vals) 2000000 (by rw[dL1];omega) (by omega) rfl ?_;refine JtH (JS m.vals) ?_;refine Jtv (dL m.vals) 2000000 (by rw[dL1];omega) (by omega) rfl ?_;have hq:=hfm.2.2.1;refine Jtv (dL m.seqs) 2000000 (by rw[dL1];omega) (by omega) rfl ?_;refine JtH (JS m.seqs) ?_;refine Jtv (dL m.seqs) 2000000 (by rw[dL1];omega) (by omega) rfl ?_;obtain⟨y,hy,hym⟩:=sA1 (l:=c.got) (i:=m.frm.toNat) (by omega);refine JtP (0≤m.frm) rfl g2.1 ?_;refine JtP (m.frm<(c.got.length:Int)) (by show decide (m.frm<((dGs c.got).length:Int))=_;rw[Ur]) (by omega) ?_;refine JtJ (ds:=dGs c.got) (d:=y.g) (vs:=[.b y.has,.l (dL y.added),.l (dL y.seqs)]) m.frm rfl rfl rfl g2.1 (mA1 (f:=Got.g) hy) rfl ?_;simp only[sC,sN];have hc2:Ye p ⟨c.up,c.round,c.base,c.done,c.wants,c.got.set m.frm.toNat ⟨true,m.vals,m.seqs⟩⟩:=by
   refine⟨hc.round,hc.base,hc.done,by show (c.got.set m.frm.toNat _).length=_;rw[List.length_set];exact hl,fun j hj=>?_,hc.wants,hc.asc,fun q=>by rw[a] at q;cases q⟩;have hj:j<c.got.length:=by have:j<(c.got.set m.frm.toNat ⟨true,m.vals,m.seqs⟩).length:=hj;rwa [List.length_set] at this
   show K5 p c.base (c.got.set m.frm.toNat ⟨true,m.vals,m.seqs⟩) j=true
   by_cases hij:m.frm.toNat=j
   ·have hgj:(c.got.set m.frm.toNat ⟨true,m.vals,m.seqs⟩)[j]? = some ⟨true,m.vals,m.seqs⟩:=by rw[hij,List.getElem?_set_self hj]
    unfold K5;rw[QA hgj];simp only[if_true,Jt9];exact⟨XS.2 ⟨by rw[show ((j:Nat):Int)=m.frm by omega];exact k1,k2⟩,g4⟩
   ·have:=hc.got j hj;unfold K5 at this ⊢;rw[Juc,List.getElem?_set_ne hij,←Juc];exact this
  have hfo:=Jpu hp hc2;have hev:=Jmd p _ hp hc2;have hset:(dGs c.got).set m.frm.toNat (.g [dB true,.s (dL m.vals),.s (dL m.seqs)])=dGs (c.got.set m.frm.toNat ⟨true,m.vals,m.seqs⟩):=by simp only[dGs,List.map_set];rfl
  have harg:p.cells++(Clk.mk c.up c.round c.base c.done c.wants (c.got.set m.frm.toNat ⟨true,m.vals,m.seqs⟩)).cells=[dI p.n,.s (Jd p.acts),.s (dL p.gives),.s (dL p.start),dB c.up,dI c.round,.s (dL c.base),.s (dDs c.done),.s (dCs c.wants),D.s ((dGs c.got).set m.frm.toNat (.g [dB true,.s (dL m.vals),.s (dL m.seqs)]))]:=by rw[hset];rfl
  rw[harg] at hev;generalize Jce p ⟨c.up,c.round,c.base,c.done,c.wants,c.got.set m.frm.toNat ⟨true,m.vals,m.seqs⟩⟩=r at *;refine JtE (vs:=[.b r.c.up,.i r.c.round,.l (dL r.c.base),.l (dDs r.c.done),.l (dCs r.c.wants),.l (dGs r.c.got),.l (dCs r.calls),.l (dRr r.list)]) hev rfl rfl rfl ?_;simp only[sC,sN];refine JtG (decide (r.c.round=c.round)) rfl (fun _=>Jt0 ?_) (fun _=>?_)
  ·exact⟨r.c,[],r.calls,r.list,rfl,hfo.c,fun x h=>by simp at h,hfo.calls,hfo.list,hfo.len,hfo.four,by simp⟩
  ·refine JtE (vs:=[.l (dMs (Xr r.c p.gives.length))]) (JfG p r.c hpf (V8 hp hfo.c)) rfl rfl rfl (Jt0 ?_);have hg:=Qm hp;exact⟨r.c,Xr r.c p.gives.length,r.calls,r.list,rfl,hfo.c,JcR hfo.c (Nat.le_refl _),hfo.calls,hfo.list,hfo.len,hfo.four,by rw[Z2];omega⟩
 obtain⟨ds,e,c',ms,cs,ls,rfl,h⟩:=key;exact⟨c',ms,cs,ls,e,h⟩
/- Worlds' steps,where all is ok,by the reference: over residual programs. -/
def Wrl.out (w:Wrl):List D:=[dI w.p.n,.s (Jd w.p.acts),.s (dL w.p.gives),.s (dL w.p.start),dB w.c.up,dI w.c.round,.s (dL w.c.base),.s (dDs w.c.done),.s (dCs w.c.wants),.s (dGs w.c.got),.s (dSt w.sites),.s (dCn w.cons),.s (dMs w.net),.s (dLg w.log)]
def Wrl.out2 (w:Wrl):List D:=[dI w.p.n,.s (Jd w.p.acts),.s (dL w.p.gives),.s (dL w.p.start),dB w.c.up,dI w.c.round,.s (dL w.c.base),.s (dDs w.c.done),.s (dCs w.c.wants),.s (dGs w.c.got),.s (dMs w.net),.s (dSt w.sites),.s (dCn w.cons),.s (dLg w.log)]
structure OkW (w:Wrl):Prop where
 pln:Jt w.p=true
 sl:w.sites.length=w.p.gives.length
 nl:(w.cons.length:Int)=w.p.n
 ml:w.net.length≤30
 ll:w.log.length≤100
 log :∀x∈w.log,YH w.p x=true
 sites :∀(k:Nat) (s:Sit),w.sites[k]? = some s→JW w.p s k=true
 cons :∀(k:Nat) (c:Con),w.cons[k]? = some c→XE w.p k c=true
 net :∀m∈w.net,JV w.p m=true
 clk:Ye w.p w.c
theorem K8 {p:Pln} {k:Int} {x:Con}:XE p k x=true↔Xf ⟨x.seq,x.code,x.tells⟩=true∧(x.busy=true→Jk p x.call=true∧x.call.client=k∧x.call.seq=x.seq+1)∧(x.busy=false→Zg x.call=true):=by
 unfold XE;rw[Jt9];cases x.busy with
 | true=>simp only[if_true,Jt9,decide_eq_true_eq];simp
 | false=>simp only[Jup,if_false];simp
theorem JcU {p:Pln} {x:Vj}:YH p x=true↔Jk p x.call=true∧JL x.code x.tells=true:=by unfold YH;rw[Jt9]
theorem Jla {c:Int} {t:List Int} (h:JL c t=true):t.length≤2000000:=by have:=(XW.1 h).2.1;omega
theorem JpD {p:Pln} {k:Int} {x:Con} (h:XE p k x=true):JjK x:=by
 obtain⟨h1,h2,h3⟩:=K8.1 h;refine⟨?_,Jld h1⟩;cases e:x.busy with
 | true=>exact Zw (h2 e).1
 | false=>have:=JfV (h3 e);omega
theorem OkW.fit {w:Wrl} (h:OkW w):JjJ w:=by
 have hg:=Qm h.pln;have hn:=Qb h.pln;have h1:=h.sl;have h2:=h.nl;have h3:=h.ml;have h4:=h.ll;refine⟨Zb h.pln,⟨by omega,fun s hs=>?_⟩,V8 h.pln h.clk,⟨by omega,fun s hs=>?_⟩,⟨by omega,fun m hm=>(Vb h.pln (h.net m hm)).fit⟩,⟨by omega,fun x hx=>?_⟩⟩
 ·obtain⟨k,hk⟩:=List.getElem?_of_mem hs;exact V7 h.pln (h.sites k s hk)
 ·obtain⟨k,hk⟩:=List.getElem?_of_mem hs;exact JpD (h.cons k s hk)
 ·obtain⟨a,b⟩:=JcU.1 (h.log x hx);exact⟨Zw a,Jla b⟩
theorem OkW.ok {w:Wrl} (h:OkW w):Vl w=true:=by
 unfold Vl Jeq;simp only[Jt9,decide_eq_true_eq,Jum];refine⟨h.sl,h.nl,h.ml,⟨h.ll,h.log⟩,Y1.2 fun j hj=>?_,Y1.2 fun j hj=>?_,h.net,h.clk.ok⟩
 ·obtain⟨x,hx,_⟩:=sA1 hj;rw[QA hx];exact h.sites j x hx
 ·obtain⟨x,hx,_⟩:=sA1 hj;rw[QA hx];exact h.cons j x hx
theorem OkW.setSite {w:Wrl} (h:OkW w) {k:Nat} {s:Sit} (hs:JW w.p s k=true):OkW ⟨w.p,w.sites.set k s,w.c,w.cons,w.net,w.log⟩ :=
 ⟨h.pln,by simp only[List.length_set];exact h.sl,h.nl,h.ml,h.ll,h.log,fun j x hx=>by
  by_cases e:k=j
  ·subst e;have hl:k<w.sites.length:=by have:=(Jua.1 hx).1;rwa [List.length_set] at this
   rw[List.getElem?_set_self hl] at hx;cases hx;exact hs
  ·rw[List.getElem?_set_ne e] at hx;exact h.sites j x hx,h.cons,h.net,h.clk⟩
theorem OkW.setCon {w:Wrl} (h:OkW w) {k:Nat} {s:Con} (hs:XE w.p k s=true):OkW ⟨w.p,w.sites,w.c,w.cons.set k s,w.net,w.log⟩ :=
 ⟨h.pln,h.sl,by simp only[List.length_set];exact h.nl,h.ml,h.ll,h.log,h.sites,fun j x hx=>by
  by_cases e:k=j
  ·subst e;have hl:k<w.cons.length:=by have:=(Jua.1 hx).1;rwa [List.length_set] at this
   rw[List.getElem?_set_self hl] at hx;cases hx;exact hs
  ·rw[List.getElem?_set_ne e] at hx;exact h.cons j x hx,h.net,h.clk⟩
theorem OkW.setNet {w:Wrl} (h:OkW w) {l:List Msg} (hl:l.length≤30) (hm :∀m∈l,JV w.p m=true):OkW ⟨w.p,w.sites,w.c,w.cons,l,w.log⟩ :=
 ⟨h.pln,h.sl,h.nl,hl,h.ll,h.log,h.sites,h.cons,hm,h.clk⟩
theorem OkW.setClk {w:Wrl} (h:OkW w) {c:Clk} (hc:Ye w.p c):OkW ⟨w.p,w.sites,c,w.cons,w.net,w.log⟩ :=
 ⟨h.pln,h.sl,h.nl,h.ml,h.ll,h.log,h.sites,h.cons,h.net,hc⟩
def Kp (w:Wrl) (l:List Msg):Wrl:=⟨w.p,w.sites,w.c,w.cons,w.net++l.take (30-w.net.length),w.log⟩
theorem Jas {w:Wrl} (h:OkW w) {l:List Msg} (hl :∀m∈l,JV w.p m=true):OkW (Kp w l) :=
 h.setNet (by have:=h.ml;rw[Juf,Juo];omega) fun m hm=>by
  rcases Jue.1 hm with q | q
  ·exact h.net m q
  ·exact hl m (Jux q)
theorem Ka (w:Wrl) (l:List Msg) (h:w.net.length≤30) (hl:Wj ZP l):Ev L f_k2c (w.cells++[.s (dMs l)]) (Kp w l).out:=by
 refine Jt7 (vs:=[.i w.p.n,.l (Jd w.p.acts),.l (dL w.p.gives),.l (dL w.p.start),.l (dSt w.sites),.b w.c.up,.i w.c.round,.l (dL w.c.base),.l (dDs w.c.done),.l (dCs w.c.wants),.l (dGs w.c.got),.l (dCn w.cons),.l (dMs w.net),.l (dLg w.log),.l (dMs l)]) L_k2c rfl ?_;refine Jtt l.length (fun i=>[.l (dMs (w.net++l.take i)),.i i]) (fun i=>w.net.length+i≤30) rfl (by rw[List.take_zero,List.append_nil];rfl) (by omega) fun i hi hq=>?_;simp only[sC,sN];have fin:w.net++l.take i=w.net++l.take (30-w.net.length)→[dI w.p.n,.s (Jd w.p.acts),.s (dL w.p.gives),.s (dL w.p.start),dB w.c.up,dI w.c.round,.s (dL w.c.base),.s (dDs w.c.done),.s (dCs w.c.wants),.s (dGs w.c.got),.s (dSt w.sites),.s (dCn w.cons),.s (dMs (w.net++l.take i)),.s (dLg w.log)]=(Kp w l).out:=fun e=>by rw[e];rfl
 have hlen:(dMs (w.net++l.take i)).length=w.net.length+i:=by rw[Q1,Juf,Juo];omega
 refine JtT i (Q1 l) rfl (fun h'=>?_) (fun h'=>JtA (Jt0 (fin (by rw[tA1 h',Jud (by omega)]))));refine Jty ((w.net.length+i:Nat)<(30:Int)) (by show decide (((dMs (w.net++l.take i)).length:Int)<30)=_;rw[hlen]) (fun h30=>?_) (fun h30=>JtA (Jt0 (fin (by rw[show 30-w.net.length=i by omega]))));obtain⟨x,hx,hm⟩:=sA1 h';refine JtY (vs:=[.i x.kind,.i x.to,.i x.frm,.i x.round,.i x.call.client,.i x.call.seq,.i x.call.act,.l (dL x.call.args),.l (dL x.vals),.l (dL x.seqs),.l (dDs x.done)]) i (mA1 (f:=Msg.g) hx) rfl rfl rfl rfl ?_;simp only[sC,sN];refine JtE (vs:=[.i x.kind,.i x.to,.i x.frm,.i x.round,.i x.call.client,.i x.call.seq,.i x.call.act,.l (dL x.call.args),.l (dL x.vals),.l (dL x.seqs),.l (dDs x.done)]) (JfY x (hl.2 x hm)) rfl rfl rfl ?_;simp only[sC,sN];refine JtR (dMs (w.net++l.take i)) 100 (by rw[hlen];omega) (by omega) rfl ?_;refine JtK (vs:=[.l (dMs (w.net++l.take (i+1))),.i ((i+1:Nat):Int)]) ?_ ⟨h',rfl,by omega⟩;rw[←wS h' (by have:=hl.1;omega),tS1 hx,←List.append_assoc,JcJ (w.net++l.take i) [x]];rfl
def Zs (w:Wrl) (c:Cal) (r:Int) (t:List Int):Wrl:=if w.log.length<100 then ⟨w.p,w.sites,w.c,w.cons,w.net,w.log++[⟨c,r,t⟩]⟩ else w
theorem Jh6 {w:Wrl} (h:OkW w) {c:Cal} {r:Int} {t:List Int} (hc:Jk w.p c=true) (hr:JL r t=true):OkW (Zs w c r t)∧(Zs w c r t).p=w.p:=by
 unfold Zs;split
 ·refine⟨⟨h.pln,h.sl,h.nl,h.ml,by simp;omega,fun x hx=>?_,h.sites,h.cons,h.net,h.clk⟩,rfl⟩;rcases Jue.1 hx with q | q
  ·exact h.log x q
  ·simp only[Jur] at q;subst q;exact JcU.2 ⟨hc,hr⟩
 ·exact⟨h,rfl⟩
theorem Jah (l:List Vj):(dLg l).length=l.length:=Jui ..
theorem Jcc (w:Wrl) (c:Cal) (r:Int) (t:List Int) (hc:XJ c) (ht:t.length≤2000000):Ev L f_k2d (w.cells++c.cells++[dI r,.s (dL t)]) (Zs w c r t).out:=by
 refine Jt7 (vs:=[.i w.p.n,.l (Jd w.p.acts),.l (dL w.p.gives),.l (dL w.p.start),.l (dSt w.sites),.b w.c.up,.i w.c.round,.l (dL w.c.base),.l (dDs w.c.done),.l (dCs w.c.wants),.l (dGs w.c.got),.l (dCn w.cons),.l (dMs w.net),.l (dLg w.log),.i c.client,.i c.seq,.i c.act,.l (dL c.args),.i r,.l (dL t)]) L_k2d rfl ?_;refine Jty ((w.log.length:Int)<100) (by show decide (((dLg w.log).length:Int)<100)=_;rw[Jah]) (fun h=>?_) (fun h=>Jt0 ?_)
 ·refine JtE (vs:=[.i c.client,.i c.seq,.i c.act,.l (dL c.args)]) (JZ c hc) rfl rfl rfl ?_;simp only[sC,sN];refine JtE (vs:=[.i r,.l (dL t)]) (Qe r t ht) rfl rfl rfl ?_;simp only[sC,sN];refine JtR (dLg w.log) 100 (by rw[Jah];omega) (by omega) rfl (Jt0 ?_);show _=(Zs w c r t).out;unfold Zs;rw[if_pos (by omega)];show [dI w.p.n,.s (Jd w.p.acts),.s (dL w.p.gives),.s (dL w.p.start),dB w.c.up,dI w.c.round,.s (dL w.c.base),.s (dDs w.c.done),.s (dCs w.c.wants),.s (dGs w.c.got),.s (dSt w.sites),.s (dCn w.cons),.s (dMs w.net),.s (dLg w.log++[.g [dI c.client,dI c.seq,dI c.act,.s (dL c.args),dI r,.s (dL t)]])]=[dI w.p.n,.s (Jd w.p.acts),.s (dL w.p.gives),.s (dL w.p.start),dB w.c.up,dI w.c.round,.s (dL w.c.base),.s (dDs w.c.done),.s (dCs w.c.wants),.s (dGs w.c.got),.s (dSt w.sites),.s (dCn w.cons),.s (dMs w.net),.s (dLg (w.log++[⟨c,r,t⟩]))];simp only[dLg,List.map_append,Juh,List.map_nil];rfl
 ·show _=(Zs w c r t).out;unfold Zs;rw[if_neg (by omega)];rfl
theorem JeX (w:Wrl) (k:Int) (h:w.net.length≤30) :
  ∃ l,Ev L f_k2f (w.cells++[dI k]) [dI w.p.n,.s (Jd w.p.acts),.s (dL w.p.gives),.s (dL w.p.start),dB w.c.up,dI w.c.round,.s (dL w.c.base),.s (dDs w.c.done),.s (dCs w.c.wants),.s (dGs w.c.got),.s (dMs l),.s (dSt w.sites),.s (dCn w.cons),.s (dMs w.net),.s (dLg w.log)]∧l.length≤30∧∀m∈l,m∈w.net:=by
 have key : ∃ ds,Ev L f_k2f (w.cells++[dI k]) ds∧∃ l,ds=[dI w.p.n,.s (Jd w.p.acts),.s (dL w.p.gives),.s (dL w.p.start),dB w.c.up,dI w.c.round,.s (dL w.c.base),.s (dDs w.c.done),.s (dCs w.c.wants),.s (dGs w.c.got),.s (dMs l),.s (dSt w.sites),.s (dCn w.cons),.s (dMs w.net),.s (dLg w.log)]∧l.length≤30∧∀m∈l,m∈w.net:=by
  refine Jt4 (vs:=[.i w.p.n,.l (Jd w.p.acts),.l (dL w.p.gives),.l (dL w.p.start),.l (dSt w.sites),.b w.c.up,.i w.c.round,.l (dL w.c.base),.l (dDs w.c.done),.l (dCs w.c.wants),.l (dGs w.c.got),.l (dCn w.cons),.l (dMs w.net),.l (dLg w.log),.i k]) L_k2f rfl ?_;refine JtW w.net.length (fun i vs=>∃ l:List Msg,vs=[.l (dMs l),.i i]∧l.length≤i∧∀m∈l,m∈w.net) rfl ⟨[],rfl,by simp,fun m hm=>by simp at hm⟩ ?_;rintro i vs hi ⟨l,rfl,hl,hm⟩;simp only[sC,sN];refine JtT i (Q1 w.net) rfl (fun h'=>?_) (fun h'=>JtA (Jt0 ⟨l,rfl,by omega,hm⟩));obtain⟨x,hx,hxm⟩:=sA1 h';have hw:=wS h' (by omega);refine Jt1 (decide ((i:Int)=k)) rfl (fun _=>?_) (fun _=>?_)
  ·refine Jtu (vs:=[.i x.kind,.i x.to,.i x.frm,.i x.round,.i x.call.client,.i x.call.seq,.i x.call.act,.l (dL x.call.args),.l (dL x.vals),.l (dL x.seqs),.l (dDs x.done)]) (ds:=dMs w.net) i (mA1 (f:=Msg.g) hx) rfl rfl rfl rfl rfl rfl ?_;simp only[sC,sN];refine JtR (dMs l) 100 (by rw[Q1];omega) (by omega) rfl ?_;refine JtK (vs:=[.l (dMs (l++[x])),.i ((i+1:Nat):Int)]) ?_ ⟨h',l++[x],rfl,by simp;omega,fun m hmm=>?_⟩
   ·rw[←hw,JcJ l [x]];rfl
   ·rcases Jue.1 hmm with q | q
    ·exact hm m q
    ·simp only[Jur] at q;rw[q];exact hxm
  ·refine JtK (vs:=[.l (dMs l),.i ((i+1:Nat):Int)]) ?_ ⟨h',l,rfl,by omega,hm⟩;rw[←hw];rfl
 obtain⟨ds,e,l,rfl,h⟩:=key;exact⟨l,e,h⟩
theorem Jj4 (w:Wrl) (h:w.cons.length≤4) : ∃ n:Int,Ev L f_k20 w.cells [dI n]∧0≤n∧n≤4:=by
 have key : ∃ ds,Ev L f_k20 w.cells ds∧∃ n:Int,ds=[dI n]∧0≤n∧n≤4:=by
  refine Jt4 (vs:=[.i w.p.n,.l (Jd w.p.acts),.l (dL w.p.gives),.l (dL w.p.start),.l (dSt w.sites),.b w.c.up,.i w.c.round,.l (dL w.c.base),.l (dDs w.c.done),.l (dCs w.c.wants),.l (dGs w.c.got),.l (dCn w.cons),.l (dMs w.net),.l (dLg w.log)]) L_k20 rfl ?_;refine JtW w.cons.length (fun i vs=>∃ n:Int,vs=[.i n,.i i]∧0≤n∧n≤i) rfl ⟨0,rfl,by omega,by omega⟩ ?_;rintro i vs hi ⟨n,rfl,n0,n1⟩;simp only[sC,sN];refine JtT i (Jui (f:=Con.g) (as:=w.cons)) rfl (fun h'=>?_) (fun h'=>JtA (Jt0 ⟨n,rfl,n0,by omega⟩));obtain⟨x,hx,_⟩:=sA1 h';have hw:=wS h' (by omega);refine JtY (vs:=[.i x.seq,.b x.busy,.i x.call.client,.i x.call.seq,.i x.call.act,.l (dL x.call.args),.i x.code,.l (dL x.tells)]) i (mA1 (f:=Con.g) hx) rfl rfl rfl rfl ?_;simp only[sC,sN];refine JtG x.busy rfl (fun _=>?_) (fun _=>?_)
  ·refine JtK (vs:=[.i (n+1),.i ((i+1:Nat):Int)]) ?_ ⟨h',n+1,rfl,by omega,by omega⟩;rw[←hw,←w64 (n:=n+1) (by omega) (by omega)];rfl
  ·refine JtK (vs:=[.i n,.i ((i+1:Nat):Int)]) ?_ ⟨h',n,rfl,n0,by omega⟩;rw[←hw];rfl
 obtain⟨ds,e,n,rfl,h⟩:=key;exact⟨n,e,h⟩
theorem Qs (l:List Con):(dCn l).length=l.length:=Jui ..
theorem QB (l:List Sit):(dSt l).length=l.length:=Jui ..
theorem Jev {k:Int} {n:Nat}:inB k 0 ((n:Int)-1)=true↔0≤k∧k<n:=by rw[Jr];omega
theorem Jkb (w:Wrl) (k a:Int) (as:List Int) (h:OkW w) (has:as.length≤2000000) :
  ∃ w':Wrl,Ev L f_k21 (w.cells++[dI k,dI a,.s (dL as)]) w'.out∧OkW w'∧w'.p=w.p:=by
 have key : ∃ ds,Ev L f_k21 (w.cells++[dI k,dI a,.s (dL as)]) ds∧∃ w':Wrl,ds=w'.out∧OkW w'∧w'.p=w.p:=by
  refine Jt4 (vs:=[.i w.p.n,.l (Jd w.p.acts),.l (dL w.p.gives),.l (dL w.p.start),.l (dSt w.sites),.b w.c.up,.i w.c.round,.l (dL w.c.base),.l (dDs w.c.done),.l (dCs w.c.wants),.l (dGs w.c.got),.l (dCn w.cons),.l (dMs w.net),.l (dLg w.log),.i k,.i a,.l (dL as)]) L_k21 rfl ?_;have hn:=Qb h.pln;have hnl:=h.nl;have hll:=h.ll;have same : ∃ w':Wrl,w.out=w'.out∧OkW w'∧w'.p=w.p:=⟨w,rfl,h,rfl⟩;refine JtE (JP k 0 ((w.cons.length:Int)-1)) rfl (by show [dI k,dI 0,dI (i64.wrap (((dCn w.cons).length:Int)-1))]=_;rw[Qs,w64 (by omega) (by omega)]) rfl ?_;simp only[sC,sN];refine Jt1 (inB k 0 ((w.cons.length:Int)-1)) rfl (fun _=>Jt0 same) (fun hk=>?_);have hk:=Jev.1 hk;obtain⟨x,hx,hxm⟩:=sA1 (l:=w.cons) (i:=k.toNat) (by omega);have hco:=K8.1 (h.cons _ x hx);have hcl:k<(dCn w.cons).length:=by rw[Qs];exact hk.2
  have xs :∀{s:Int},-1≤x.seq∧x.seq≤300:=by intro _;rcases X0.1 hco.1 with q | q <;> simp only at q <;> omega
  refine JtP (0≤k) rfl hk.1 (JtP (k<((dCn w.cons).length:Int)) rfl hcl ?_);refine JtJ (ds:=dCn w.cons) (d:=x.g) (vs:=[.i x.seq,.b x.busy,.i x.call.client,.i x.call.seq,.i x.call.act,.l (dL x.call.args),.i x.code,.l (dL x.tells)]) k rfl rfl rfl hk.1 (mA1 (f:=Con.g) hx) rfl ?_;simp only[sC,sN];refine JtG x.busy rfl (fun _=>Jt0 same) (fun hb=>?_);obtain⟨n,hbusy,n0,n1⟩:=Jj4 w (by omega);refine JtE (vs:=[.i n]) hbusy rfl rfl rfl ?_;simp only[sC,sN];refine Jty ((100:Int)≤(w.log.length:Int)+n) (by show decide ((100:Int)≤i64.wrap (((dLg w.log).length:Int)+n))=_;rw[Jah,w64 (by omega) (by omega)]) (fun _=>Jt0 same) (fun hroom=>?_);refine JtP (0≤k) rfl hk.1 (JtP (k<((dCn w.cons).length:Int)) rfl hcl ?_);refine JtJ (ds:=dCn w.cons) (d:=x.g) (vs:=[.i x.seq,.b x.busy,.i x.call.client,.i x.call.seq,.i x.call.act,.l (dL x.call.args),.i x.code,.l (dL x.tells)]) k rfl rfl rfl hk.1 (mA1 (f:=Con.g) hx) rfl ?_;simp only[sC,sN];refine Jtv (dL as) 2000000 (by rw[dL1];omega) (by omega) rfl ?_;refine JtH (JS as) ?_;refine Jtv (dL as) 2000000 (by rw[dL1];omega) (by omega) rfl ?_;have hw1:i64.wrap (x.seq+1)=x.seq+1:=w64 (by have:=xs (s:=0);omega) (by have:=xs (s:=0);omega);refine JtE (Y3 w.p ⟨k,x.seq+1,a,as⟩ (Zb h.pln) hn.1 hn.2.1 has) rfl (by show [dI w.p.n,.s (Jd w.p.acts),.s (dL w.p.gives),.s (dL w.p.start),dI k,dI (i64.wrap (x.seq+1)),dI a,.s (dL as)]=_;rw[hw1];rfl) rfl ?_;simp only[sC,sN];refine JtG (Jk w.p ⟨k,x.seq+1,a,as⟩) rfl (fun hcall=>?_) (fun _=>Jt0 same);refine JtP (0≤k) rfl hk.1 (JtP (k<((dCn w.cons).length:Int)) rfl hcl ?_)
  refine JtJ (ds:=dCn w.cons) (d:=x.g) (vs:=[.i x.seq,.b x.busy,.i x.call.client,.i x.call.seq,.i x.call.act,.l (dL x.call.args),.i x.code,.l (dL x.tells)]) k rfl rfl rfl hk.1 (mA1 (f:=Con.g) hx) rfl ?_;simp only[sC,sN];have e1:(dCn w.cons).set k.toNat (.g [dI x.seq,dB true,dI x.call.client,dI x.call.seq,dI x.call.act,.s (dL x.call.args),dI x.code,.s (dL x.tells)])=dCn (w.cons.set k.toNat ⟨x.seq,true,x.call,x.code,x.tells⟩):=by simp only[dCn,List.map_set];rfl
  have hx2:(dCn (w.cons.set k.toNat ⟨x.seq,true,x.call,x.code,x.tells⟩))[k.toNat]? = some (Con.g ⟨x.seq,true,x.call,x.code,x.tells⟩):=mA1 (f:=Con.g) (List.getElem?_set_self (by omega));refine JtP (0≤k) rfl hk.1 (JtP (k<((dCn w.cons).length:Int)) rfl hcl ?_);refine JtJ (ds:=dCn (w.cons.set k.toNat ⟨x.seq,true,x.call,x.code,x.tells⟩)) (d:=Con.g ⟨x.seq,true,x.call,x.code,x.tells⟩) (vs:=[.i x.seq,.b true,.i x.call.client,.i x.call.seq,.i x.call.act,.l (dL x.call.args),.i x.code,.l (dL x.tells)]) k rfl e1 rfl hk.1 hx2 rfl (Jt0 ?_);refine⟨⟨w.p,w.sites,w.c,w.cons.set k.toNat ⟨x.seq,true,⟨k,x.seq+1,a,as⟩,x.code,x.tells⟩,w.net,w.log⟩,?_,h.setCon (k:=k.toNat) (K8.2 ⟨hco.1,fun _=>⟨hcall,by show k=((k.toNat:Nat):Int);omega,rfl⟩,fun q=>by cases q⟩),rfl⟩;show [dI w.p.n,.s (Jd w.p.acts),.s (dL w.p.gives),.s (dL w.p.start),dB w.c.up,dI w.c.round,.s (dL w.c.base),.s (dDs w.c.done),.s (dCs w.c.wants),.s (dGs w.c.got),.s (dSt w.sites),.s (((dCn w.cons).set k.toNat (.g [dI x.seq,dB true,dI x.call.client,dI x.call.seq,dI x.call.act,.s (dL x.call.args),dI x.code,.s (dL x.tells)])).set k.toNat (.g [dI x.seq,dB true,dI k,dI (i64.wrap (x.seq+1)),dI a,.s (dL as),dI x.code,.s (dL x.tells)])),.s (dMs w.net),.s (dLg w.log)]=[dI w.p.n,.s (Jd w.p.acts),.s (dL w.p.gives),.s (dL w.p.start),dB w.c.up,dI w.c.round,.s (dL w.c.base),.s (dDs w.c.done),.s (dCs w.c.wants),.s (dGs w.c.got),.s (dSt w.sites),.s (dCn (w.cons.set k.toNat ⟨x.seq,true,⟨k,x.seq+1,a,as⟩,x.code,x.tells⟩)),.s (dMs w.net),.s (dLg w.log)];rw[List.set_set,hw1]
  simp only[dCn,List.map_set];rfl
 obtain⟨ds,e,w',rfl,h⟩:=key;exact⟨w',e,h⟩
theorem JdK (w:Wrl) (k:Int) (u:Bool) (h:OkW w) : ∃ w':Wrl,Ev L f_k2r (w.cells++[dI k,dB u]) w'.out∧OkW w'∧w'.p=w.p:=by
 have key : ∃ ds,Ev L f_k2r (w.cells++[dI k,dB u]) ds∧∃ w':Wrl,ds=w'.out∧OkW w'∧w'.p=w.p:=by
  refine Jt4 (vs:=[.i w.p.n,.l (Jd w.p.acts),.l (dL w.p.gives),.l (dL w.p.start),.l (dSt w.sites),.b w.c.up,.i w.c.round,.l (dL w.c.base),.l (dDs w.c.done),.l (dCs w.c.wants),.l (dGs w.c.got),.l (dCn w.cons),.l (dMs w.net),.l (dLg w.log),.i k,.b u]) L_k2r rfl ?_;have hg:=Qm h.pln;have hsl:=h.sl;refine JtE (JP k 0 ((w.sites.length:Int)-1)) rfl (by show [dI k,dI 0,dI (i64.wrap (((dSt w.sites).length:Int)-1))]=_;rw[QB,w64 (by omega) (by omega)]) rfl ?_;simp only[sC,sN];refine JtG (inB k 0 ((w.sites.length:Int)-1)) rfl (fun hk=>?_) (fun _=>Jt0 ⟨w,rfl,h,rfl⟩);have hk:=Jev.1 hk;obtain⟨x,hx,hxm⟩:=sA1 (l:=w.sites) (i:=k.toNat) (by omega);have hso:=QG.1 (h.sites _ x hx);refine JtP (0≤k) rfl hk.1 (JtP (k<((dSt w.sites).length:Int)) rfl (by rw[QB];exact hk.2) ?_);refine JtJ (ds:=dSt w.sites) (d:=x.g) (vs:=[.b x.up,.b x.frozen,.i x.round,.l (dL x.base),.l (dL x.added),.l (dDs x.done)]) k rfl rfl rfl hk.1 (mA1 (f:=Sit.g) hx) rfl (Jt0 ?_);refine⟨⟨w.p,w.sites.set k.toNat ⟨u,x.frozen,x.round,x.base,x.added,x.done⟩,w.c,w.cons,w.net,w.log⟩,?_,h.setSite (k:=k.toNat) (QG.2 hso),rfl⟩;show [dI w.p.n,.s (Jd w.p.acts),.s (dL w.p.gives),.s (dL w.p.start),dB w.c.up,dI w.c.round,.s (dL w.c.base),.s (dDs w.c.done),.s (dCs w.c.wants),.s (dGs w.c.got),.s ((dSt w.sites).set k.toNat (.g [dB u,dB x.frozen,dI x.round,.s (dL x.base),.s (dL x.added),.s (dDs x.done)])),.s (dCn w.cons),.s (dMs w.net),.s (dLg w.log)]=[dI w.p.n,.s (Jd w.p.acts),.s (dL w.p.gives),.s (dL w.p.start),dB w.c.up,dI w.c.round,.s (dL w.c.base),.s (dDs w.c.done),.s (dCs w.c.wants),.s (dGs w.c.got),.s (dSt (w.sites.set k.toNat ⟨u,x.frozen,x.round,x.base,x.added,x.done⟩)),.s (dCn w.cons),.s (dMs w.net),.s (dLg w.log)]
  simp only[dSt,List.map_set];rfl
 obtain⟨ds,e,w',rfl,h⟩:=key;exact⟨w',e,h⟩
end Go.Proofs.YtngcnclchcahlaaGreatDoor

import Derived.Test.YtngcnclchcahlabGreatDoorPZZF
import Derived.Test.YtngcnclchcahlabGreatDoorPZZC
set_option linter.unusedVariables false
set_option linter.unusedSimpArgs false
/- What is heard,where all is ok,by the reference: over residual programs. -/
namespace Go.Proofs.YtngcnclchcahlabGreatDoor
open Go Go.Tm
open Go.IntKind (i64)
theorem JbX {p:Pln} {b:List Int} {k:Int} (h:JJ p=true) (hb:JQ b=true) (hk:0≤k∧k<p.gives.length):Xa p b k [0,0,0]=true:=by
 have ht:Qw b p.gives=true:=by
  have:=(JZ h).2.2.2;unfold Qw at this ⊢;simp only[Ju0] at this ⊢;exact⟨⟨hb,this.1.2⟩,this.2⟩
 refine XG.2 ⟨JhW (Jnj p.acts) ht hk,?_⟩;unfold Qi;rw[Jvd];rintro⟨x,q⟩ hq;have hx:x∈[(0:Int),0,0]:=(List.of_mem_zip hq).1;have:x=0:=by simpa using hx
 subst this;simp
theorem JdT {x:Msg} {a v s d:Bool} (h1:a=true∨x.call=⟨0,0,0,[]⟩) (h2:v=true∨x.vals=[]) (h3:s=true∨x.seqs=[]) (h4:d=true∨x.done=[]):YH x a v s d=true:=by
 unfold YH em;simp only[Ju0,Bool.or_eq_true,decide_eq_true_eq];exact⟨h1.imp_right fun e=>by rw[e];rfl,h2.imp_right fun e=>by rw[e];rfl,h3.imp_right fun e=>by rw[e];rfl,h4.imp_right fun e=>by rw[e];rfl⟩
theorem Jni {p:Pln} {x:Msg} (hr:0≤x.round∧x.round≤200) (h:x.kind=2) (ht:0≤x.to∧x.to<p.gives.length) (hf:x.frm=0) (hb:YH x false false false false=true):J0 p x=true:=by
 unfold J0;rw[Jr.2 hr,if_neg (by omega),if_pos h,Y8.2 ht,hf,hb];rfl
theorem JjO {p:Pln} {x:Msg} (hr:0≤x.round∧x.round≤200) (h:x.kind=3) (ht:x.to = -1) (hf:0≤x.frm∧x.frm<p.gives.length) (hv:JK 3 20000 x.vals=true) (hs:Xb p.n x.seqs=true) (hb:YH x false true true false=true):J0 p x=true:=by
 unfold J0;rw[Jr.2 hr,if_neg (by omega),if_neg (by omega),if_pos h,Y8.2 hf,ht,hv,hs,hb];rfl
theorem JjW {p:Pln} {x:Msg} (hr:0≤x.round∧x.round≤200) (h:x.kind=4) (ht:0≤x.to∧x.to<p.gives.length) (hf:x.frm=0) (hv:JQ x.vals=true) (hd:J7 p.n x.done=true) (hb:YH x false true false true=true):J0 p x=true:=by
 unfold J0;rw[Jr.2 hr,if_neg (by omega),if_neg (by omega),if_neg (by omega),if_pos h,Y8.2 ht,hf,hv,hd,hb];rfl
theorem JpP {p:Pln} {s:Sit} {k:Int} (hs:QZ p s k=true) (hk:0≤k∧k<p.gives.length):J0 p (Je9 s k)=true:=by
 obtain⟨h1,h2,h3,h4⟩:=Ql.1 hs;have ha:=(Zr (Xd (XG.1 h3).1)).2.2.2.1;obtain⟨d1,d2⟩:=Jy.1 h4;refine JjO h1 rfl rfl hk ha (Uu.2 ⟨by simp only[Je9,Ka,Ju9];exact d1,fun x hx=>?_⟩) (JdT (.inr rfl) (.inl rfl) (.inl rfl) (.inr rfl));simp only[Je9,Ka,List.mem_map] at hx;obtain⟨d,hd,rfl⟩:=hx;rcases YC.1 (d2 d hd) with q | q <;> omega
theorem Jqa {p:Pln} {s:Sit} {k:Int} {m:Msg} (hp:JJ p=true) (hs:QZ p s k=true) (hk:0≤k∧k<p.gives.length) (hm:J0 p m=true) :
  QZ p (UX p s k m) k=true∧(∀x∈KT s k m,J0 p x=true)∧(KT s k m).length≤1:=by
 have hi:=Vg hp hm;obtain⟨s1,s2,s3,s4⟩:=Ql.1 hs;refine⟨?_,?_,?_⟩
 ·unfold UX;split
  ·split
   ·exact Ql.2 ⟨s1,s2,s3,s4⟩
   ·split
    ·rename_i h4;obtain⟨p1,p2,p3⟩:=hi.pact h4.1;refine Ql.2 ⟨hi.round,p2,JbX hp p2 hk,Jy.2 ⟨by rw[K9];exact(Jy.1 s4).1,fun d hd=>?_⟩⟩;rcases JlT (by have:=(Jy.1 s4).1;have:=(Jy.1 p3).1;omega) hd with q | q
     ·exact(Jy.1 s4).2 d q
     ·exact(Jy.1 p3).2 d q
    ·exact hs
  ·exact hs
 ·unfold KT;split
  ·intro x hx;simp only[Jvi] at hx;subst hx;exact JpP hs hk
  ·intro x hx;simp at hx
 ·unfold KT;split <;> simp
theorem Jps {p:Pln} {c:Clk} (hc:XC p c) {i:Nat} (hi:i<p.gives.length):J0 p (Jia c i)=true :=
 JjW hc.round rfl (by show (0:Int)≤(i:Int)∧(i:Int)<(p.gives.length:Int);omega) rfl hc.base hc.done (JdT (.inr rfl) (.inl rfl) (.inr rfl) (.inl rfl))
theorem JqS {p:Pln} {c:Clk} (hc:XC p c) {i:Nat} (hi:i<p.gives.length):J0 p (JpW c i)=true :=
 Jni hc.round rfl (by show (0:Int)≤(i:Int)∧(i:Int)<(p.gives.length:Int);omega) rfl (JdT (.inr rfl) (.inr rfl) (.inr rfl) (.inr rfl))
theorem JdQ {p:Pln} {c:Clk} (hc:XC p c) {n:Nat} (hn:n≤p.gives.length) :∀x∈XE c n,J0 p x=true:=by
 intro x hx;simp only[XE,List.mem_map,List.mem_range] at hx;obtain⟨i,hi,rfl⟩:=hx;exact Jps hc (by omega)
theorem Jqk {p:Pln} {c:Clk} (hc:XC p c):(∀x∈Jcm c,J0 p x=true)∧(Jcm c).length≤2*p.gives.length:=by
 have hl:=hc.len;have hf :∀x∈YQ c c.got.length,J0 p x=true:=fun x hx=>by
  simp only[YQ,List.mem_map,List.mem_range] at hx;obtain⟨i,hi,rfl⟩:=hx;exact JqS hc (by omega)
 unfold Jcm;split
 ·split
  ·refine⟨fun x hx=>?_,by rw[Ju6,ZX,JfQ];omega⟩;rcases Ju5.1 hx with q | q
   ·exact JdQ hc (by omega) x q
   ·exact hf x q
  ·exact⟨JdQ hc (by omega),by rw[ZX];omega⟩
 ·exact⟨fun x hx=>by simp at hx,by simp⟩
theorem Jpp {p:Pln} {c:Clk} (hc:XC p c) (u:Bool):XC p (KI c u):=by
 unfold KI;split
 ·exact hc
 ·exact⟨hc.round,hc.base,hc.done,by show (List.replicate c.got.length QQ).length=_;rw[List.length_replicate];exact hc.len,fun j _=>Jhq ..,fun x hx=>by simp at hx,List.Pairwise.nil,fun _=>⟨rfl,Jji _⟩⟩
structure JkJ (p:Pln) (c:Clk) (ms:List Msg) (cs:List Cal) (ls:List (Int×List Int)):Prop where
 c:XC p c
 hm :∀x∈ms,J0 p x=true
 hc :∀x∈cs,Jm p x=true
 hl :∀x∈ls,JO x.1 x.2=true
 len:ls.length=cs.length
 four:cs.length≤4
 three:ms.length≤3
theorem Jm8 (p:Pln) (c:Clk) (m:Msg) (hp:JJ p=true) (hc:XC p c) (hm:J0 p m=true) :
  ∃ c' ms cs ls,Ev L f_k2o (p.cells++[.s (dLL (Jb p.acts)),.s (dBl (Jj p.acts))]++c.cells++m.cells) (c'.cells++[.s (dMs ms),.s (dCs cs),.s (dRr ls)])∧JkJ p c' ms cs ls:=by
 have key : ∃ ds,Ev L f_k2o (p.cells++[.s (dLL (Jb p.acts)),.s (dBl (Jj p.acts))]++c.cells++m.cells) ds∧∃ c' ms cs ls,ds=c'.cells++[.s (dMs ms),.s (dCs cs),.s (dRr ls)]∧JkJ p c' ms cs ls:=by
  refine JuY (vs:=[.i p.n,.l (Jd p.acts),.l (dL p.gives),.l (dL p.start),.l (dLL (Jb p.acts)),.l (dBl (Jj p.acts)),.b c.up,.i c.round,.l (dL c.base),.l (dDs c.done),.l (dCs c.wants),.l (dGs c.got),.i m.kind,.i m.to,.i m.frm,.i m.round,.i m.call.client,.i m.call.seq,.i m.call.act,.l (dL m.call.args),.l (dL m.vals),.l (dL m.seqs),.l (dDs m.done)]) L_k2o rfl ?_;have hpf:=Yv hp;have hcf:=ZI hp hc;have hi:=Vg hp hm;have hfm:=hi.fit;have hca:=XN hp;have hl:=hc.len;have hps:fitLL (Jb p.acts):=(Xi p.acts).fitLL (by omega);have same : ∃ c' ms cs ls,c.cells++[D.s [],D.s [],D.s []]=c'.cells++[.s (dMs ms),.s (dCs cs),.s (dRr ls)]∧JkJ p c' ms cs ls :=
   ⟨c,[],[],[],rfl,hc,fun x h=>by simp at h,fun x h=>by simp at h,fun x h=>by simp at h,rfl,by simp,by simp⟩
  refine Jup (vs:=[.b c.up,.i c.round,.l (dL c.base),.l (dDs c.done),.l (dCs c.wants),.l (dGs c.got)]) (ZV c hcf) rfl rfl rfl ?_;simp only[sC,sN];refine JuL c.up rfl (fun _=>Jun same) (fun a=>?_);refine JuL (decide (m.to = -1)) rfl (fun _=>Jun same) (fun b=>?_);have b:m.to = -1:=by simpa using b
  refine JuB (m.kind=1) rfl (fun d=>?_) (fun d=>?_)
  ·have hw:=(hi.want d).2;refine Jup (vs:=[.l (dCs (Q9 m.call c.wants))]) (VV c.wants m.call ⟨hcf.c,hcf.ct⟩ hfm.1) rfl rfl rfl (Jun ?_);refine⟨⟨c.up,c.round,c.base,c.done,Q9 m.call c.wants,c.got⟩,[],[],[],rfl,⟨hc.round,hc.base,hc.done,hc.len,hc.got,fun x hx=>?_,JmE hc.asc,fun e=>by rw[a] at e;cases e⟩,fun x h=>by simp at h,fun x h=>by simp at h,fun x h=>by simp at h,rfl,by simp,by simp⟩;rcases Jbu hx with q | q
   ·rw[q];exact hw
   ·exact hc.wants x q
  have hk3:m.kind=3:=by
   have:=hi.kind;have h2:=hi.frz;have h4:=hi.pact;rcases (by omega:m.kind=2∨m.kind=3∨m.kind=4) with q | q | q
   ·have:=h2 q;omega
   ·exact q
   ·have:=(h4 q).1;omega
  obtain⟨_,g2,g3,g4⟩:=hi.give hk3;refine JuL (decide (m.round=c.round)) rfl (fun _=>Jun same) (fun e=>?_);refine Jup (ZQ c.base p.gives (Jb p.acts) m.frm m.vals hcf.b hpf.2.1 hps (by omega)) rfl rfl rfl ?_;simp only[sC,sN];refine JuL (keeps c.base p.gives (Jb p.acts) m.frm m.vals) rfl (fun _=>Jun same) (fun k1=>?_);refine Jup (WY (Jj p.acts) m.vals (VK hca) g3) rfl rfl rfl ?_;simp only[sC,sN];refine JuL (Qi (Jj p.acts) m.vals) rfl (fun _=>Jun same) (fun k2=>?_);refine Juv (dL m.vals) 2000000 (by rw[dL1];omega) (by omega) rfl ?_;refine JuT (JW m.vals) ?_;refine Juv (dL m.vals) 2000000 (by rw[dL1];omega) (by omega) rfl ?_;have hq:=hfm.2.2.1;refine Juv (dL m.seqs) 2000000 (by rw[dL1];omega) (by omega) rfl ?_;refine JuT (JW m.seqs) ?_;refine Juv (dL m.seqs) 2000000 (by rw[dL1];omega) (by omega) rfl ?_;obtain⟨y,hy,hym⟩:=sA1 (l:=c.got) (i:=m.frm.toNat) (by omega);refine JuE (0≤m.frm) rfl g2.1 ?_;refine JuE (m.frm<(c.got.length:Int)) (by show decide (m.frm<((dGs c.got).length:Int))=_;rw[Xc]) (by omega) ?_;refine Juz (ds:=dGs c.got) (d:=y.g) (vs:=[.b y.has,.l (dL y.added),.l (dL y.seqs)]) m.frm rfl rfl rfl g2.1 (mA1 (f:=Got.g) hy) rfl ?_;simp only[sC,sN];have hc2:XC p ⟨c.up,c.round,c.base,c.done,c.wants,c.got.set m.frm.toNat ⟨true,m.vals,m.seqs⟩⟩:=by
   refine⟨hc.round,hc.base,hc.done,by show (c.got.set m.frm.toNat _).length=_;rw[List.length_set];exact hl,fun j hj=>?_,hc.wants,hc.asc,fun q=>by rw[a] at q;cases q⟩;have hj:j<c.got.length:=by have:j<(c.got.set m.frm.toNat ⟨true,m.vals,m.seqs⟩).length:=hj;rwa [List.length_set] at this
   show Y3 p c.base (c.got.set m.frm.toNat ⟨true,m.vals,m.seqs⟩) j=true
   by_cases hij:m.frm.toNat=j
   ·have hgj:(c.got.set m.frm.toNat ⟨true,m.vals,m.seqs⟩)[j]? = some ⟨true,m.vals,m.seqs⟩:=by rw[hij,List.getElem?_set_self hj]
    unfold Y3;rw[Qj hgj];simp only[if_true,Ju0];exact⟨XG.2 ⟨by rw[show ((j:Nat):Int)=m.frm by omega];exact k1,k2⟩,g4⟩
   ·have:=hc.got j hj;unfold Y3 at this ⊢;rw[Ju3,List.getElem?_set_ne hij,←Ju3];exact this
  have hfo:=Jk5 hp hc2;have hev:=JeZ p _ hp hc2;have hset:(dGs c.got).set m.frm.toNat (.g [dB true,.s (dL m.vals),.s (dL m.seqs)])=dGs (c.got.set m.frm.toNat ⟨true,m.vals,m.seqs⟩):=by simp only[dGs,List.map_set];rfl
  have harg:p.cells++(Clk.mk c.up c.round c.base c.done c.wants (c.got.set m.frm.toNat ⟨true,m.vals,m.seqs⟩)).cells=[dI p.n,.s (Jd p.acts),.s (dL p.gives),.s (dL p.start),dB c.up,dI c.round,.s (dL c.base),.s (dDs c.done),.s (dCs c.wants),D.s ((dGs c.got).set m.frm.toNat (.g [dB true,.s (dL m.vals),.s (dL m.seqs)]))]:=by rw[hset];rfl
  rw[harg] at hev;generalize Yo p ⟨c.up,c.round,c.base,c.done,c.wants,c.got.set m.frm.toNat ⟨true,m.vals,m.seqs⟩⟩=r at *;refine Jup (vs:=[.b r.c.up,.i r.c.round,.l (dL r.c.base),.l (dDs r.c.done),.l (dCs r.c.wants),.l (dGs r.c.got),.l (dCs r.calls),.l (dRr r.list)]) hev rfl rfl rfl ?_;simp only[sC,sN];refine JuU (decide (r.c.round=c.round)) rfl (fun _=>Jun ?_) (fun _=>?_)
  ·exact⟨r.c,[],r.calls,r.list,rfl,hfo.c,fun x h=>by simp at h,hfo.calls,hfo.list,hfo.len,hfo.four,by simp⟩
  ·refine Jup (vs:=[.l (dMs (XE r.c p.gives.length))]) (JfY p r.c hpf (ZI hp hfo.c)) rfl rfl rfl (Jun ?_);have hg:=Qa hp;exact⟨r.c,XE r.c p.gives.length,r.calls,r.list,rfl,hfo.c,JdQ hfo.c (Nat.le_refl _),hfo.calls,hfo.list,hfo.len,hfo.four,by rw[ZX];omega⟩
 obtain⟨ds,e,c',ms,cs,ls,rfl,h⟩:=key;exact⟨c',ms,cs,ls,e,h⟩
/- Worlds' steps,where all is ok,by the reference: over residual programs. -/
def Wrl.out (w:Wrl):List D:=[dI w.p.n,.s (Jd w.p.acts),.s (dL w.p.gives),.s (dL w.p.start),dB w.c.up,dI w.c.round,.s (dL w.c.base),.s (dDs w.c.done),.s (dCs w.c.wants),.s (dGs w.c.got),.s (dSt w.sites),.s (dCn w.cons),.s (dMs w.net),.s (dLg w.log)]
def Wrl.out2 (w:Wrl):List D:=[dI w.p.n,.s (Jd w.p.acts),.s (dL w.p.gives),.s (dL w.p.start),dB w.c.up,dI w.c.round,.s (dL w.c.base),.s (dDs w.c.done),.s (dCs w.c.wants),.s (dGs w.c.got),.s (dMs w.net),.s (dSt w.sites),.s (dCn w.cons),.s (dLg w.log)]
structure OkW (w:Wrl):Prop where
 pln:JJ w.p=true
 sl:w.sites.length=w.p.gives.length
 nl:(w.cons.length:Int)=w.p.n
 ml:w.net.length≤30
 ll:w.log.length≤100
 log :∀x∈w.log,YV w.p x=true
 sites :∀(k:Nat) (s:Sit),w.sites[k]? = some s→QZ w.p s k=true
 cons :∀(k:Nat) (c:Con),w.cons[k]? = some c→XT w.p k c=true
 net :∀m∈w.net,J0 w.p m=true
 clk:XC w.p w.c
theorem Um {p:Pln} {k:Int} {x:Con}:XT p k x=true↔Xq ⟨x.seq,x.code,x.tells⟩=true∧(x.busy=true→Jm p x.call=true∧x.call.client=k∧x.call.seq=x.seq+1)∧(x.busy=false→Zs x.call=true):=by
 unfold XT;rw[Ju0];cases x.busy with
 | true=>simp only[if_true,Ju0,decide_eq_true_eq];simp
 | false=>simp only[Jvg,if_false];simp
theorem Jda {p:Pln} {x:VL}:YV p x=true↔Jm p x.call=true∧JO x.code x.tells=true:=by unfold YV;rw[Ju0]
theorem Jlv {c:Int} {t:List Int} (h:JO c t=true):t.length≤2000000:=by have:=(XP.1 h).2.1;omega
theorem JpY {p:Pln} {k:Int} {x:Con} (h:XT p k x=true):JjJ x:=by
 obtain⟨h1,h2,h3⟩:=Um.1 h;refine⟨?_,JkR h1⟩;cases e:x.busy with
 | true=>exact Yt (h2 e).1
 | false=>have:=JeW (h3 e);omega
theorem OkW.fit {w:Wrl} (h:OkW w):Jj7 w:=by
 have hg:=Qa h.pln;have hn:=JZ h.pln;have h1:=h.sl;have h2:=h.nl;have h3:=h.ml;have h4:=h.ll;refine⟨Yv h.pln,⟨by omega,fun s hs=>?_⟩,ZI h.pln h.clk,⟨by omega,fun s hs=>?_⟩,⟨by omega,fun m hm=>(Vg h.pln (h.net m hm)).fit⟩,⟨by omega,fun x hx=>?_⟩⟩
 ·obtain⟨k,hk⟩:=List.getElem?_of_mem hs;exact V2 h.pln (h.sites k s hk)
 ·obtain⟨k,hk⟩:=List.getElem?_of_mem hs;exact JpY (h.cons k s hk)
 ·obtain⟨a,b⟩:=Jda.1 (h.log x hx);exact⟨Yt a,Jlv b⟩
theorem OkW.ok {w:Wrl} (h:OkW w):U5 w=true:=by
 unfold U5 Jdp;simp only[Ju0,decide_eq_true_eq,Jvd];refine⟨h.sl,h.nl,h.ml,⟨h.ll,h.log⟩,Yd.2 fun j hj=>?_,Yd.2 fun j hj=>?_,h.net,h.clk.ok⟩
 ·obtain⟨x,hx,_⟩:=sA1 hj;rw[Qj hx];exact h.sites j x hx
 ·obtain⟨x,hx,_⟩:=sA1 hj;rw[Qj hx];exact h.cons j x hx
theorem OkW.setSite {w:Wrl} (h:OkW w) {k:Nat} {s:Sit} (hs:QZ w.p s k=true):OkW ⟨w.p,w.sites.set k s,w.c,w.cons,w.net,w.log⟩ :=
 ⟨h.pln,by simp only[List.length_set];exact h.sl,h.nl,h.ml,h.ll,h.log,fun j x hx=>by
  by_cases e:k=j
  ·subst e;have hl:k<w.sites.length:=by have:=(Ju1.1 hx).1;rwa [List.length_set] at this
   rw[List.getElem?_set_self hl] at hx;cases hx;exact hs
  ·rw[List.getElem?_set_ne e] at hx;exact h.sites j x hx,h.cons,h.net,h.clk⟩
theorem OkW.setCon {w:Wrl} (h:OkW w) {k:Nat} {s:Con} (hs:XT w.p k s=true):OkW ⟨w.p,w.sites,w.c,w.cons.set k s,w.net,w.log⟩ :=
 ⟨h.pln,h.sl,by simp only[List.length_set];exact h.nl,h.ml,h.ll,h.log,h.sites,fun j x hx=>by
  by_cases e:k=j
  ·subst e;have hl:k<w.cons.length:=by have:=(Ju1.1 hx).1;rwa [List.length_set] at this
   rw[List.getElem?_set_self hl] at hx;cases hx;exact hs
  ·rw[List.getElem?_set_ne e] at hx;exact h.cons j x hx,h.net,h.clk⟩
theorem OkW.setNet {w:Wrl} (h:OkW w) {l:List Msg} (hl:l.length≤30) (hm :∀m∈l,J0 w.p m=true):OkW ⟨w.p,w.sites,w.c,w.cons,l,w.log⟩ :=
 ⟨h.pln,h.sl,h.nl,hl,h.ll,h.log,h.sites,h.cons,hm,h.clk⟩
theorem OkW.setClk {w:Wrl} (h:OkW w) {c:Clk} (hc:XC w.p c):OkW ⟨w.p,w.sites,c,w.cons,w.net,w.log⟩ :=
 ⟨h.pln,h.sl,h.nl,h.ml,h.ll,h.log,h.sites,h.cons,h.net,hc⟩
def KD (w:Wrl) (l:List Msg):Wrl:=⟨w.p,w.sites,w.c,w.cons,w.net++l.take (30-w.net.length),w.log⟩
theorem JaO {w:Wrl} (h:OkW w) {l:List Msg} (hl :∀m∈l,J0 w.p m=true):OkW (KD w l) :=
 h.setNet (by have:=h.ml;rw[Ju6,Jvf];omega) fun m hm=>by
  rcases Ju5.1 hm with q | q
  ·exact h.net m q
  ·exact hl m (Jvo q)
theorem Z8 (w:Wrl) (l:List Msg) (h:w.net.length≤30) (hl:Wq Vn l):Ev L f_k2c (w.cells++[.s (dMs l)]) (KD w l).out:=by
 refine JuV (vs:=[.i w.p.n,.l (Jd w.p.acts),.l (dL w.p.gives),.l (dL w.p.start),.l (dSt w.sites),.b w.c.up,.i w.c.round,.l (dL w.c.base),.l (dDs w.c.done),.l (dCs w.c.wants),.l (dGs w.c.got),.l (dCn w.cons),.l (dMs w.net),.l (dLg w.log),.l (dMs l)]) L_k2c rfl ?_;refine Juu l.length (fun i=>[.l (dMs (w.net++l.take i)),.i i]) (fun i=>w.net.length+i≤30) rfl (by rw[List.take_zero,List.append_nil];rfl) (by omega) fun i hi hq=>?_;simp only[sC,sN];have fin:w.net++l.take i=w.net++l.take (30-w.net.length)→[dI w.p.n,.s (Jd w.p.acts),.s (dL w.p.gives),.s (dL w.p.start),dB w.c.up,dI w.c.round,.s (dL w.c.base),.s (dDs w.c.done),.s (dCs w.c.wants),.s (dGs w.c.got),.s (dSt w.sites),.s (dCn w.cons),.s (dMs (w.net++l.take i)),.s (dLg w.log)]=(KD w l).out:=fun e=>by rw[e];rfl
 have hlen:(dMs (w.net++l.take i)).length=w.net.length+i:=by rw[Xr,Ju6,Jvf];omega
 refine JuG i (Xr l) rfl (fun h'=>?_) (fun h'=>Juk (Jun (fin (by rw[tA1 h',Ju4 (by omega)]))));refine JuB ((w.net.length+i:Nat)<(30:Int)) (by show decide (((dMs (w.net++l.take i)).length:Int)<30)=_;rw[hlen]) (fun h30=>?_) (fun h30=>Juk (Jun (fin (by rw[show 30-w.net.length=i by omega]))));obtain⟨x,hx,hm⟩:=sA1 h';refine JuF (vs:=[.i x.kind,.i x.to,.i x.frm,.i x.round,.i x.call.client,.i x.call.seq,.i x.call.act,.l (dL x.call.args),.l (dL x.vals),.l (dL x.seqs),.l (dDs x.done)]) i (mA1 (f:=Msg.g) hx) rfl rfl rfl rfl ?_;simp only[sC,sN];refine Jup (vs:=[.i x.kind,.i x.to,.i x.frm,.i x.round,.i x.call.client,.i x.call.seq,.i x.call.act,.l (dL x.call.args),.l (dL x.vals),.l (dL x.seqs),.l (dDs x.done)]) (Jf7 x (hl.2 x hm)) rfl rfl rfl ?_;simp only[sC,sN];refine JuR (dMs (w.net++l.take i)) 100 (by rw[hlen];omega) (by omega) rfl ?_;refine JuC (vs:=[.l (dMs (w.net++l.take (i+1))),.i ((i+1:Nat):Int)]) ?_ ⟨h',rfl,by omega⟩;rw[←wS h' (by have:=hl.1;omega),tS1 hx,←List.append_assoc,JcH (w.net++l.take i) [x]];rfl
def ZD (w:Wrl) (c:Cal) (r:Int) (t:List Int):Wrl:=if w.log.length<100 then ⟨w.p,w.sites,w.c,w.cons,w.net,w.log++[⟨c,r,t⟩]⟩ else w
theorem JiI {w:Wrl} (h:OkW w) {c:Cal} {r:Int} {t:List Int} (hc:Jm w.p c=true) (hr:JO r t=true):OkW (ZD w c r t)∧(ZD w c r t).p=w.p:=by
 unfold ZD;split
 ·refine⟨⟨h.pln,h.sl,h.nl,h.ml,by simp;omega,fun x hx=>?_,h.sites,h.cons,h.net,h.clk⟩,rfl⟩;rcases Ju5.1 hx with q | q
  ·exact h.log x q
  ·simp only[Jvi] at q;subst q;exact Jda.2 ⟨hc,hr⟩
 ·exact⟨h,rfl⟩
theorem Jay (l:List VL):(dLg l).length=l.length:=Ju9 ..
theorem Jb9 (w:Wrl) (c:Cal) (r:Int) (t:List Int) (hc:YW c) (ht:t.length≤2000000):Ev L f_k2d (w.cells++c.cells++[dI r,.s (dL t)]) (ZD w c r t).out:=by
 refine JuV (vs:=[.i w.p.n,.l (Jd w.p.acts),.l (dL w.p.gives),.l (dL w.p.start),.l (dSt w.sites),.b w.c.up,.i w.c.round,.l (dL w.c.base),.l (dDs w.c.done),.l (dCs w.c.wants),.l (dGs w.c.got),.l (dCn w.cons),.l (dMs w.net),.l (dLg w.log),.i c.client,.i c.seq,.i c.act,.l (dL c.args),.i r,.l (dL t)]) L_k2d rfl ?_;refine JuB ((w.log.length:Int)<100) (by show decide (((dLg w.log).length:Int)<100)=_;rw[Jay]) (fun h=>?_) (fun h=>Jun ?_)
 ·refine Jup (vs:=[.i c.client,.i c.seq,.i c.act,.l (dL c.args)]) (J2 c hc) rfl rfl rfl ?_;simp only[sC,sN];refine Jup (vs:=[.i r,.l (dL t)]) (Qk r t ht) rfl rfl rfl ?_;simp only[sC,sN];refine JuR (dLg w.log) 100 (by rw[Jay];omega) (by omega) rfl (Jun ?_);show _=(ZD w c r t).out;unfold ZD;rw[if_pos (by omega)];show [dI w.p.n,.s (Jd w.p.acts),.s (dL w.p.gives),.s (dL w.p.start),dB w.c.up,dI w.c.round,.s (dL w.c.base),.s (dDs w.c.done),.s (dCs w.c.wants),.s (dGs w.c.got),.s (dSt w.sites),.s (dCn w.cons),.s (dMs w.net),.s (dLg w.log++[.g [dI c.client,dI c.seq,dI c.act,.s (dL c.args),dI r,.s (dL t)]])]=[dI w.p.n,.s (Jd w.p.acts),.s (dL w.p.gives),.s (dL w.p.start),dB w.c.up,dI w.c.round,.s (dL w.c.base),.s (dDs w.c.done),.s (dCs w.c.wants),.s (dGs w.c.got),.s (dSt w.sites),.s (dCn w.cons),.s (dMs w.net),.s (dLg (w.log++[⟨c,r,t⟩]))];simp only[dLg,List.map_append,Ju8,List.map_nil];rfl
 ·show _=(ZD w c r t).out;unfold ZD;rw[if_neg (by omega)];rfl
theorem Je1 (w:Wrl) (k:Int) (h:w.net.length≤30) :
  ∃ l,Ev L f_k2f (w.cells++[dI k]) [dI w.p.n,.s (Jd w.p.acts),.s (dL w.p.gives),.s (dL w.p.start),dB w.c.up,dI w.c.round,.s (dL w.c.base),.s (dDs w.c.done),.s (dCs w.c.wants),.s (dGs w.c.got),.s (dMs l),.s (dSt w.sites),.s (dCn w.cons),.s (dMs w.net),.s (dLg w.log)]∧l.length≤30∧∀m∈l,m∈w.net:=by
 have key : ∃ ds,Ev L f_k2f (w.cells++[dI k]) ds∧∃ l,ds=[dI w.p.n,.s (Jd w.p.acts),.s (dL w.p.gives),.s (dL w.p.start),dB w.c.up,dI w.c.round,.s (dL w.c.base),.s (dDs w.c.done),.s (dCs w.c.wants),.s (dGs w.c.got),.s (dMs l),.s (dSt w.sites),.s (dCn w.cons),.s (dMs w.net),.s (dLg w.log)]∧l.length≤30∧∀m∈l,m∈w.net:=by
  refine JuY (vs:=[.i w.p.n,.l (Jd w.p.acts),.l (dL w.p.gives),.l (dL w.p.start),.l (dSt w.sites),.b w.c.up,.i w.c.round,.l (dL w.c.base),.l (dDs w.c.done),.l (dCs w.c.wants),.l (dGs w.c.got),.l (dCn w.cons),.l (dMs w.net),.l (dLg w.log),.i k]) L_k2f rfl ?_;refine Jul w.net.length (fun i vs=>∃ l:List Msg,vs=[.l (dMs l),.i i]∧l.length≤i∧∀m∈l,m∈w.net) rfl ⟨[],rfl,by simp,fun m hm=>by simp at hm⟩ ?_;rintro i vs hi ⟨l,rfl,hl,hm⟩;simp only[sC,sN];refine JuG i (Xr w.net) rfl (fun h'=>?_) (fun h'=>Juk (Jun ⟨l,rfl,by omega,hm⟩));obtain⟨x,hx,hxm⟩:=sA1 h';have hw:=wS h' (by omega);refine JuL (decide ((i:Int)=k)) rfl (fun _=>?_) (fun _=>?_)
  ·refine JuP (vs:=[.i x.kind,.i x.to,.i x.frm,.i x.round,.i x.call.client,.i x.call.seq,.i x.call.act,.l (dL x.call.args),.l (dL x.vals),.l (dL x.seqs),.l (dDs x.done)]) (ds:=dMs w.net) i (mA1 (f:=Msg.g) hx) rfl rfl rfl rfl rfl rfl ?_;simp only[sC,sN];refine JuR (dMs l) 100 (by rw[Xr];omega) (by omega) rfl ?_;refine JuC (vs:=[.l (dMs (l++[x])),.i ((i+1:Nat):Int)]) ?_ ⟨h',l++[x],rfl,by simp;omega,fun m hmm=>?_⟩
   ·rw[←hw,JcH l [x]];rfl
   ·rcases Ju5.1 hmm with q | q
    ·exact hm m q
    ·simp only[Jvi] at q;rw[q];exact hxm
  ·refine JuC (vs:=[.l (dMs l),.i ((i+1:Nat):Int)]) ?_ ⟨h',l,rfl,by omega,hm⟩;rw[←hw];rfl
 obtain⟨ds,e,l,rfl,h⟩:=key;exact⟨l,e,h⟩
theorem JjG (w:Wrl) (h:w.cons.length≤4) : ∃ n:Int,Ev L f_k20 w.cells [dI n]∧0≤n∧n≤4:=by
 have key : ∃ ds,Ev L f_k20 w.cells ds∧∃ n:Int,ds=[dI n]∧0≤n∧n≤4:=by
  refine JuY (vs:=[.i w.p.n,.l (Jd w.p.acts),.l (dL w.p.gives),.l (dL w.p.start),.l (dSt w.sites),.b w.c.up,.i w.c.round,.l (dL w.c.base),.l (dDs w.c.done),.l (dCs w.c.wants),.l (dGs w.c.got),.l (dCn w.cons),.l (dMs w.net),.l (dLg w.log)]) L_k20 rfl ?_;refine Jul w.cons.length (fun i vs=>∃ n:Int,vs=[.i n,.i i]∧0≤n∧n≤i) rfl ⟨0,rfl,by omega,by omega⟩ ?_;rintro i vs hi ⟨n,rfl,n0,n1⟩;simp only[sC,sN];refine JuG i (Ju9 (f:=Con.g) (as:=w.cons)) rfl (fun h'=>?_) (fun h'=>Juk (Jun ⟨n,rfl,n0,by omega⟩));obtain⟨x,hx,_⟩:=sA1 h';have hw:=wS h' (by omega);refine JuF (vs:=[.i x.seq,.b x.busy,.i x.call.client,.i x.call.seq,.i x.call.act,.l (dL x.call.args),.i x.code,.l (dL x.tells)]) i (mA1 (f:=Con.g) hx) rfl rfl rfl rfl ?_;simp only[sC,sN];refine JuU x.busy rfl (fun _=>?_) (fun _=>?_)
  ·refine JuC (vs:=[.i (n+1),.i ((i+1:Nat):Int)]) ?_ ⟨h',n+1,rfl,by omega,by omega⟩;rw[←hw,←w64 (n:=n+1) (by omega) (by omega)];rfl
  ·refine JuC (vs:=[.i n,.i ((i+1:Nat):Int)]) ?_ ⟨h',n,rfl,n0,by omega⟩;rw[←hw];rfl
 obtain⟨ds,e,n,rfl,h⟩:=key;exact⟨n,e,h⟩
theorem QA (l:List Con):(dCn l).length=l.length:=Ju9 ..
theorem Qe (l:List Sit):(dSt l).length=l.length:=Ju9 ..
theorem Jd1 {k:Int} {n:Nat}:inB k 0 ((n:Int)-1)=true↔0≤k∧k<n:=by rw[Jr];omega
theorem Jkv (w:Wrl) (k a:Int) (as:List Int) (h:OkW w) (has:as.length≤2000000) :
  ∃ w':Wrl,Ev L f_k21 (w.cells++[dI k,dI a,.s (dL as)]) w'.out∧OkW w'∧w'.p=w.p:=by
 have key : ∃ ds,Ev L f_k21 (w.cells++[dI k,dI a,.s (dL as)]) ds∧∃ w':Wrl,ds=w'.out∧OkW w'∧w'.p=w.p:=by
  refine JuY (vs:=[.i w.p.n,.l (Jd w.p.acts),.l (dL w.p.gives),.l (dL w.p.start),.l (dSt w.sites),.b w.c.up,.i w.c.round,.l (dL w.c.base),.l (dDs w.c.done),.l (dCs w.c.wants),.l (dGs w.c.got),.l (dCn w.cons),.l (dMs w.net),.l (dLg w.log),.i k,.i a,.l (dL as)]) L_k21 rfl ?_;have hn:=JZ h.pln;have hnl:=h.nl;have hll:=h.ll;have same : ∃ w':Wrl,w.out=w'.out∧OkW w'∧w'.p=w.p:=⟨w,rfl,h,rfl⟩;refine Jup (JT k 0 ((w.cons.length:Int)-1)) rfl (by show [dI k,dI 0,dI (i64.wrap (((dCn w.cons).length:Int)-1))]=_;rw[QA,w64 (by omega) (by omega)]) rfl ?_;simp only[sC,sN];refine JuL (inB k 0 ((w.cons.length:Int)-1)) rfl (fun _=>Jun same) (fun hk=>?_);have hk:=Jd1.1 hk;obtain⟨x,hx,hxm⟩:=sA1 (l:=w.cons) (i:=k.toNat) (by omega);have hco:=Um.1 (h.cons _ x hx);have hcl:k<(dCn w.cons).length:=by rw[QA];exact hk.2
  have xs :∀{s:Int},-1≤x.seq∧x.seq≤300:=by intro _;rcases YC.1 hco.1 with q | q <;> simp only at q <;> omega
  refine JuE (0≤k) rfl hk.1 (JuE (k<((dCn w.cons).length:Int)) rfl hcl ?_);refine Juz (ds:=dCn w.cons) (d:=x.g) (vs:=[.i x.seq,.b x.busy,.i x.call.client,.i x.call.seq,.i x.call.act,.l (dL x.call.args),.i x.code,.l (dL x.tells)]) k rfl rfl rfl hk.1 (mA1 (f:=Con.g) hx) rfl ?_;simp only[sC,sN];refine JuU x.busy rfl (fun _=>Jun same) (fun hb=>?_);obtain⟨n,hbusy,n0,n1⟩:=JjG w (by omega);refine Jup (vs:=[.i n]) hbusy rfl rfl rfl ?_;simp only[sC,sN];refine JuB ((100:Int)≤(w.log.length:Int)+n) (by show decide ((100:Int)≤i64.wrap (((dLg w.log).length:Int)+n))=_;rw[Jay,w64 (by omega) (by omega)]) (fun _=>Jun same) (fun hroom=>?_);refine JuE (0≤k) rfl hk.1 (JuE (k<((dCn w.cons).length:Int)) rfl hcl ?_);refine Juz (ds:=dCn w.cons) (d:=x.g) (vs:=[.i x.seq,.b x.busy,.i x.call.client,.i x.call.seq,.i x.call.act,.l (dL x.call.args),.i x.code,.l (dL x.tells)]) k rfl rfl rfl hk.1 (mA1 (f:=Con.g) hx) rfl ?_;simp only[sC,sN];refine Juv (dL as) 2000000 (by rw[dL1];omega) (by omega) rfl ?_;refine JuT (JW as) ?_;refine Juv (dL as) 2000000 (by rw[dL1];omega) (by omega) rfl ?_;have hw1:i64.wrap (x.seq+1)=x.seq+1:=w64 (by have:=xs (s:=0);omega) (by have:=xs (s:=0);omega);refine Jup (Qu w.p ⟨k,x.seq+1,a,as⟩ (Yv h.pln) hn.1 hn.2.1 has) rfl (by show [dI w.p.n,.s (Jd w.p.acts),.s (dL w.p.gives),.s (dL w.p.start),dI k,dI (i64.wrap (x.seq+1)),dI a,.s (dL as)]=_;rw[hw1];rfl) rfl ?_;simp only[sC,sN];refine JuU (Jm w.p ⟨k,x.seq+1,a,as⟩) rfl (fun hcall=>?_) (fun _=>Jun same);refine JuE (0≤k) rfl hk.1 (JuE (k<((dCn w.cons).length:Int)) rfl hcl ?_)
  refine Juz (ds:=dCn w.cons) (d:=x.g) (vs:=[.i x.seq,.b x.busy,.i x.call.client,.i x.call.seq,.i x.call.act,.l (dL x.call.args),.i x.code,.l (dL x.tells)]) k rfl rfl rfl hk.1 (mA1 (f:=Con.g) hx) rfl ?_;simp only[sC,sN];have e1:(dCn w.cons).set k.toNat (.g [dI x.seq,dB true,dI x.call.client,dI x.call.seq,dI x.call.act,.s (dL x.call.args),dI x.code,.s (dL x.tells)])=dCn (w.cons.set k.toNat ⟨x.seq,true,x.call,x.code,x.tells⟩):=by simp only[dCn,List.map_set];rfl
  have hx2:(dCn (w.cons.set k.toNat ⟨x.seq,true,x.call,x.code,x.tells⟩))[k.toNat]? = some (Con.g ⟨x.seq,true,x.call,x.code,x.tells⟩):=mA1 (f:=Con.g) (List.getElem?_set_self (by omega));refine JuE (0≤k) rfl hk.1 (JuE (k<((dCn w.cons).length:Int)) rfl hcl ?_);refine Juz (ds:=dCn (w.cons.set k.toNat ⟨x.seq,true,x.call,x.code,x.tells⟩)) (d:=Con.g ⟨x.seq,true,x.call,x.code,x.tells⟩) (vs:=[.i x.seq,.b true,.i x.call.client,.i x.call.seq,.i x.call.act,.l (dL x.call.args),.i x.code,.l (dL x.tells)]) k rfl e1 rfl hk.1 hx2 rfl (Jun ?_);refine⟨⟨w.p,w.sites,w.c,w.cons.set k.toNat ⟨x.seq,true,⟨k,x.seq+1,a,as⟩,x.code,x.tells⟩,w.net,w.log⟩,?_,h.setCon (k:=k.toNat) (Um.2 ⟨hco.1,fun _=>⟨hcall,by show k=((k.toNat:Nat):Int);omega,rfl⟩,fun q=>by cases q⟩),rfl⟩;show [dI w.p.n,.s (Jd w.p.acts),.s (dL w.p.gives),.s (dL w.p.start),dB w.c.up,dI w.c.round,.s (dL w.c.base),.s (dDs w.c.done),.s (dCs w.c.wants),.s (dGs w.c.got),.s (dSt w.sites),.s (((dCn w.cons).set k.toNat (.g [dI x.seq,dB true,dI x.call.client,dI x.call.seq,dI x.call.act,.s (dL x.call.args),dI x.code,.s (dL x.tells)])).set k.toNat (.g [dI x.seq,dB true,dI k,dI (i64.wrap (x.seq+1)),dI a,.s (dL as),dI x.code,.s (dL x.tells)])),.s (dMs w.net),.s (dLg w.log)]=[dI w.p.n,.s (Jd w.p.acts),.s (dL w.p.gives),.s (dL w.p.start),dB w.c.up,dI w.c.round,.s (dL w.c.base),.s (dDs w.c.done),.s (dCs w.c.wants),.s (dGs w.c.got),.s (dSt w.sites),.s (dCn (w.cons.set k.toNat ⟨x.seq,true,⟨k,x.seq+1,a,as⟩,x.code,x.tells⟩)),.s (dMs w.net),.s (dLg w.log)];rw[List.set_set,hw1]
  simp only[dCn,List.map_set];rfl
 obtain⟨ds,e,w',rfl,h⟩:=key;exact⟨w',e,h⟩
theorem Jdz (w:Wrl) (k:Int) (u:Bool) (h:OkW w) : ∃ w':Wrl,Ev L f_k2r (w.cells++[dI k,dB u]) w'.out∧OkW w'∧w'.p=w.p:=by
 have key : ∃ ds,Ev L f_k2r (w.cells++[dI k,dB u]) ds∧∃ w':Wrl,ds=w'.out∧OkW w'∧w'.p=w.p:=by
  refine JuY (vs:=[.i w.p.n,.l (Jd w.p.acts),.l (dL w.p.gives),.l (dL w.p.start),.l (dSt w.sites),.b w.c.up,.i w.c.round,.l (dL w.c.base),.l (dDs w.c.done),.l (dCs w.c.wants),.l (dGs w.c.got),.l (dCn w.cons),.l (dMs w.net),.l (dLg w.log),.i k,.b u]) L_k2r rfl ?_;have hg:=Qa h.pln;have hsl:=h.sl;refine Jup (JT k 0 ((w.sites.length:Int)-1)) rfl (by show [dI k,dI 0,dI (i64.wrap (((dSt w.sites).length:Int)-1))]=_;rw[Qe,w64 (by omega) (by omega)]) rfl ?_;simp only[sC,sN];refine JuU (inB k 0 ((w.sites.length:Int)-1)) rfl (fun hk=>?_) (fun _=>Jun ⟨w,rfl,h,rfl⟩);have hk:=Jd1.1 hk;obtain⟨x,hx,hxm⟩:=sA1 (l:=w.sites) (i:=k.toNat) (by omega);have hso:=Ql.1 (h.sites _ x hx);refine JuE (0≤k) rfl hk.1 (JuE (k<((dSt w.sites).length:Int)) rfl (by rw[Qe];exact hk.2) ?_);refine Juz (ds:=dSt w.sites) (d:=x.g) (vs:=[.b x.up,.b x.frozen,.i x.round,.l (dL x.base),.l (dL x.added),.l (dDs x.done)]) k rfl rfl rfl hk.1 (mA1 (f:=Sit.g) hx) rfl (Jun ?_);refine⟨⟨w.p,w.sites.set k.toNat ⟨u,x.frozen,x.round,x.base,x.added,x.done⟩,w.c,w.cons,w.net,w.log⟩,?_,h.setSite (k:=k.toNat) (Ql.2 hso),rfl⟩;show [dI w.p.n,.s (Jd w.p.acts),.s (dL w.p.gives),.s (dL w.p.start),dB w.c.up,dI w.c.round,.s (dL w.c.base),.s (dDs w.c.done),.s (dCs w.c.wants),.s (dGs w.c.got),.s ((dSt w.sites).set k.toNat (.g [dB u,dB x.frozen,dI x.round,.s (dL x.base),.s (dL x.added),.s (dDs x.done)])),.s (dCn w.cons),.s (dMs w.net),.s (dLg w.log)]=[dI w.p.n,.s (Jd w.p.acts),.s (dL w.p.gives),.s (dL w.p.start),dB w.c.up,dI w.c.round,.s (dL w.c.base),.s (dDs w.c.done),.s (dCs w.c.wants),.s (dGs w.c.got),.s (dSt (w.sites.set k.toNat ⟨u,x.frozen,x.round,x.base,x.added,x.done⟩)),.s (dCn w.cons),.s (dMs w.net),.s (dLg w.log)]
  simp only[dSt,List.map_set];rfl
 obtain⟨ds,e,w',rfl,h⟩:=key;exact⟨w',e,h⟩
end Go.Proofs.YtngcnclchcahlabGreatDoor

import Derived.Test.YtdmjmcegcpdenaaGreatDoorPZZF
import Derived.Test.YtdmjmcegcpdenaaGreatDoorPZZC
set_option linter.unusedVariables false
set_option linter.unusedSimpArgs false
/- What is heard,where all is ok,by the reference: over residual programs. -/
namespace Go.Proofs.YtdmjmcegcpdenaaGreatDoor
open Go Go.Tm
theorem Jb4 {p:Pln} {b:List Int} {k:Int} (h:JH p=true) (hb:JW b=true) (hk:0≤k∧k<p.gives.length):Xl p b k [0,0,0]=true:=by
 have ht:Qi b p.gives=true:=by
  have:=(Qm h).2.2.2
  unfold Qi at this ⊢
  simp only[Bool.and_eq_true] at this ⊢
  exact⟨⟨hb,this.1.2⟩,this.2⟩
 refine XN.2 ⟨Jiy (JlD p.acts) ht hk,?_⟩
 unfold J5
 rw[List.all_eq_true]
 rintro⟨x,q⟩ hq
 have hx:x∈[(0:Int),0,0]:=(List.of_mem_zip hq).1
 have:x=0:=by simpa using hx
 subst this;simp
theorem Jdb {x:Msg} {a v s d:Bool} (h1:a=true∨x.call=⟨0,0,0,[]⟩) (h2:v=true∨x.vals=[]) (h3:s=true∨x.seqs=[]) (h4:d=true∨x.done=[]):Yk x a v s d=true:=by
 unfold Yk em
 simp only[Bool.and_eq_true,Bool.or_eq_true,decide_eq_true_eq]
 exact⟨h1.imp_right fun e=>by rw[e];rfl,h2.imp_right fun e=>by rw[e];rfl,h3.imp_right fun e=>by rw[e];rfl,h4.imp_right fun e=>by rw[e];rfl⟩
theorem JlE {p:Pln} {x:Msg} (hr:0≤x.round∧x.round≤200) (h:x.kind=2) (ht:0≤x.to∧x.to<p.gives.length) (hf:x.frm=0) (hb:Yk x false false false false=true):JS p x=true:=by
 unfold JS
 rw[Jp.2 hr,if_neg (by omega),if_pos h,YR.2 ht,hf,hb];rfl
theorem Jka {p:Pln} {x:Msg} (hr:0≤x.round∧x.round≤200) (h:x.kind=3) (ht:x.to = -1) (hf:0≤x.frm∧x.frm<p.gives.length) (hv:JD 3 20000 x.vals=true) (hs:Yf p.n x.seqs=true) (hb:Yk x false true true false=true):JS p x=true:=by
 unfold JS
 rw[Jp.2 hr,if_neg (by omega),if_neg (by omega),if_pos h,YR.2 hf,ht,hv,hs,hb];rfl
theorem Jkk {p:Pln} {x:Msg} (hr:0≤x.round∧x.round≤200) (h:x.kind=4) (ht:0≤x.to∧x.to<p.gives.length) (hf:x.frm=0) (hv:JW x.vals=true) (hd:Qc p.n x.done=true) (hb:Yk x false true false true=true):JS p x=true:=by
 unfold JS
 rw[Jp.2 hr,if_neg (by omega),if_neg (by omega),if_neg (by omega),if_pos h,YR.2 ht,hf,hv,hd,hb];rfl
theorem Jpl {p:Pln} {s:Sit} {k:Int} (hs:J4 p s k=true) (hk:0≤k∧k<p.gives.length):JS p (JeW s k)=true:=by
 obtain⟨h1,h2,h3,h4⟩:=Qw.1 hs
 have ha:=(Zi (Xk (XN.1 h3).1)).2.2.2.1
 obtain⟨d1,d2⟩:=JQ.1 h4
 refine Jka h1 rfl rfl hk ha (K9.2 ⟨by simp only[JeW,V3,List.length_map];exact d1,fun x hx=>?_⟩) (Jdb (.inr rfl) (.inl rfl) (.inl rfl) (.inr rfl))
 simp only[JeW,V3,List.mem_map] at hx
 obtain⟨d,hd,rfl⟩:=hx
 rcases Ym.1 (d2 d hd) with q | q <;> omega
theorem Jo6 {p:Pln} {s:Sit} {k:Int} {m:Msg} (hp:JH p=true) (hs:J4 p s k=true) (hk:0≤k∧k<p.gives.length) (hm:JS p m=true) :
  J4 p (Vq p s k m) k=true∧(∀x∈KJ s k m,JS p x=true)∧(KJ s k m).length≤1:=by
 have hi:=Vr hp hm
 obtain⟨s1,s2,s3,s4⟩:=Qw.1 hs
 refine⟨?_,?_,?_⟩
 ·unfold Vq
  split
  ·split
   ·exact Qw.2 ⟨s1,s2,s3,s4⟩
   ·split
    ·rename_i h4
     obtain⟨p1,p2,p3⟩:=hi.pact h4.1
     refine Qw.2 ⟨hi.round,p2,Jb4 hp p2 hk,JQ.2 ⟨by rw[KF];exact(JQ.1 s4).1,fun d hd=>?_⟩⟩
     rcases JlN (by have:=(JQ.1 s4).1;have:=(JQ.1 p3).1;omega) hd with q | q
     ·exact(JQ.1 s4).2 d q
     ·exact(JQ.1 p3).2 d q
    ·exact hs
  ·exact hs
 ·unfold KJ
  split
  ·intro x hx
   simp only[List.mem_singleton] at hx
   subst hx
   exact Jpl hs hk
  ·intro x hx;simp at hx
 ·unfold KJ;split <;> simp
theorem JpI {p:Pln} {c:Clk} (hc:X6 p c) {i:Nat} (hi:i<p.gives.length):JS p (JhK c i)=true :=
 Jkk hc.round rfl (by show (0:Int)≤(i:Int)∧(i:Int)<(p.gives.length:Int);omega) rfl hc.base hc.done (Jdb (.inr rfl) (.inl rfl) (.inr rfl) (.inl rfl))
theorem Jqq {p:Pln} {c:Clk} (hc:X6 p c) {i:Nat} (hi:i<p.gives.length):JS p (Jpy c i)=true :=
 JlE hc.round rfl (by show (0:Int)≤(i:Int)∧(i:Int)<(p.gives.length:Int);omega) rfl (Jdb (.inr rfl) (.inr rfl) (.inr rfl) (.inr rfl))
theorem JdK {p:Pln} {c:Clk} (hc:X6 p c) {n:Nat} (hn:n≤p.gives.length) :∀x∈Xn c n,JS p x=true:=by
 intro x hx
 simp only[Xn,List.mem_map,List.mem_range] at hx
 obtain⟨i,hi,rfl⟩:=hx
 exact JpI hc (by omega)
theorem JoT {p:Pln} {c:Clk} (hc:X6 p c):(∀x∈JbA c,JS p x=true)∧(JbA c).length≤2*p.gives.length:=by
 have hl:=hc.len
 have hf :∀x∈Yx c c.got.length,JS p x=true:=fun x hx=>by
  simp only[Yx,List.mem_map,List.mem_range] at hx
  obtain⟨i,hi,rfl⟩:=hx
  exact Jqq hc (by omega)
 unfold JbA
 split
 ·split
  ·refine⟨fun x hx=>?_,by rw[List.length_append,Z1,Jfg];omega⟩
   rcases List.mem_append.1 hx with q | q
   ·exact JdK hc (by omega) x q
   ·exact hf x q
  ·exact⟨JdK hc (by omega),by rw[Z1];omega⟩
 ·exact⟨fun x hx=>by simp at hx,by simp⟩
theorem Jpa {p:Pln} {c:Clk} (hc:X6 p c) (u:Bool):X6 p (Z7 c u):=by
 unfold Z7
 split
 ·exact hc
 ·exact⟨hc.round,hc.base,hc.done,by show (List.replicate c.got.length XP).length=_;rw[List.length_replicate];exact hc.len,fun j _=>Jh8 ..,fun x hx=>by simp at hx,List.Pairwise.nil,fun _=>⟨rfl,Jhj _⟩⟩
structure Jjw (p:Pln) (c:Clk) (ms:List Msg) (cs:List Cal) (ls:List (Int×List Int)):Prop where
 c:X6 p c
 hm :∀x∈ms,JS p x=true
 hc :∀x∈cs,Jw p x=true
 hl :∀x∈ls,JI x.1 x.2=true
 len:ls.length=cs.length
 four:cs.length≤4
 three:ms.length≤3
theorem Jlz (p:Pln) (c:Clk) (m:Msg) (hp:JH p=true) (hc:X6 p c) (hm:JS p m=true) :
  ∃ c' ms cs ls,Ev L f_k2o (p.cells++[.s (dLL (Jb p.acts)),.s (dBl (Jj p.acts))]++c.cells++m.cells) (c'.cells++[.s (dMs ms),.s (dCs cs),.s (dRr ls)])∧Jjw p c' ms cs ls:=by
 have key : ∃ ds,Ev L f_k2o (p.cells++[.s (dLL (Jb p.acts)),.s (dBl (Jj p.acts))]++c.cells++m.cells) ds∧∃ c' ms cs ls,ds=c'.cells++[.s (dMs ms),.s (dCs cs),.s (dRr ls)]∧Jjw p c' ms cs ls:=by
  refine Jth (vs:=[.i p.n,.l (Jd p.acts),.l (dL p.gives),.l (dL p.start),.l (dLL (Jb p.acts)),.l (dBl (Jj p.acts)),.b c.up,.i c.round,.l (dL c.base),.l (dDs c.done),.l (dCs c.wants),.l (dGs c.got),.i m.kind,.i m.to,.i m.frm,.i m.round,.i m.call.client,.i m.call.seq,.i m.call.act,.l (dL m.call.args),.l (dL m.vals),.l (dL m.seqs),.l (dDs m.done)]) L_k2o rfl ?_
  have hpf:=Zm hp
  have hcf:=VH hp hc
  have hi:=Vr hp hm
  have hfm:=hi.fit
  have hca:=Xr hp
  have hl:=hc.len
  have hps:fitLL (Jb p.acts):=(Q6 p.acts).fitLL (by omega)
  have same : ∃ c' ms cs ls,c.cells++[D.s [],D.s [],D.s []]=c'.cells++[.s (dMs ms),.s (dCs cs),.s (dRr ls)]∧Jjw p c' ms cs ls :=
   ⟨c,[],[],[],rfl,hc,fun x h=>by simp at h,fun x h=>by simp at h,fun x h=>by simp at h,rfl,by simp,by simp⟩
  refine JsZ (vs:=[.b c.up,.i c.round,.l (dL c.base),.l (dDs c.done),.l (dCs c.wants),.l (dGs c.got)]) (Vy c hcf) rfl rfl rfl ?_
  simp only[sC,sN]
  refine Jte c.up rfl (fun _=>JsN same) (fun a=>?_)
  refine Jte (decide (m.to = -1)) rfl (fun _=>JsN same) (fun b=>?_)
  have b:m.to = -1:=by simpa using b
  refine JsI (m.kind=1) rfl (fun d=>?_) (fun d=>?_)
  ·have hw:=(hi.want d).2
   refine JsZ (vs:=[.l (dCs (Yi m.call c.wants))]) (JlQ c.wants m.call ⟨hcf.c,hcf.ct⟩ hfm.1) rfl rfl rfl (JsN ?_)
   refine⟨⟨c.up,c.round,c.base,c.done,Yi m.call c.wants,c.got⟩,[],[],[],rfl,⟨hc.round,hc.base,hc.done,hc.len,hc.got,fun x hx=>?_,Jlq hc.asc,fun e=>by rw[a] at e;cases e⟩,fun x h=>by simp at h,fun x h=>by simp at h,fun x h=>by simp at h,rfl,by simp,by simp⟩
   rcases Jfr hx with q | q
   ·rw[q];exact hw
   ·exact hc.wants x q
  have hk3:m.kind=3:=by
   have:=hi.kind
   have h2:=hi.frz
   have h4:=hi.pact
   rcases (by omega:m.kind=2∨m.kind=3∨m.kind=4) with q | q | q
   ·have:=h2 q;omega
   ·exact q
   ·have:=(h4 q).1;omega
  obtain⟨_,g2,g3,g4⟩:=hi.give hk3
  refine Jte (decide (m.round=c.round)) rfl (fun _=>JsN same) (fun e=>?_)
  refine JsZ (Zr c.base p.gives (Jb p.acts) m.frm m.vals hcf.b hpf.2.1 hps (by omega)) rfl rfl rfl ?_
  simp only[sC,sN]
  refine Jte (keeps c.base p.gives (Jb p.acts) m.frm m.vals) rfl (fun _=>JsN same) (fun k1=>?_)
  refine JsZ (WN (Jj p.acts) m.vals (UF hca) g3) rfl rfl rfl ?_
  simp only[sC,sN]
  refine Jte (J5 (Jj p.acts) m.vals) rfl (fun _=>JsN same) (fun k2=>?_)
  refine Js6 (dL m.vals) 2000000 (by rw[dL1];omega) (by omega) rfl ?_
  refine JsU (JO m.vals) ?_
  refine Js6 (dL m.vals) 2000000 (by rw[dL1];omega) (by omega) rfl ?_
  have hq:=hfm.2.2.1
  refine Js6 (dL m.seqs) 2000000 (by rw[dL1];omega) (by omega) rfl ?_
  refine JsU (JO m.seqs) ?_
  refine Js6 (dL m.seqs) 2000000 (by rw[dL1];omega) (by omega) rfl ?_
  obtain⟨y,hy,hym⟩:=sA1 (l:=c.got) (i:=m.frm.toNat) (by omega)
  refine Js4 (0≤m.frm) rfl g2.1 ?_
  refine Js4 (m.frm<(c.got.length:Int)) (by show decide (m.frm<((dGs c.got).length:Int))=_;rw[Ug]) (by omega) ?_
  refine Jtd (ds:=dGs c.got) (d:=y.g) (vs:=[.b y.has,.l (dL y.added),.l (dL y.seqs)]) m.frm rfl rfl rfl g2.1 (mA1 (f:=Got.g) hy) rfl ?_
  simp only[sC,sN]
  have hc2:X6 p ⟨c.up,c.round,c.base,c.done,c.wants,c.got.set m.frm.toNat ⟨true,m.vals,m.seqs⟩⟩:=by
   refine⟨hc.round,hc.base,hc.done,by show (c.got.set m.frm.toNat _).length=_;rw[List.length_set];exact hl,fun j hj=>?_,hc.wants,hc.asc,fun q=>by rw[a] at q;cases q⟩
   have hj:j<c.got.length:=by have:j<(c.got.set m.frm.toNat ⟨true,m.vals,m.seqs⟩).length:=hj;rwa [List.length_set] at this
   show KY p c.base (c.got.set m.frm.toNat ⟨true,m.vals,m.seqs⟩) j=true
   by_cases hij:m.frm.toNat=j
   ·have hgj:(c.got.set m.frm.toNat ⟨true,m.vals,m.seqs⟩)[j]? = some ⟨true,m.vals,m.seqs⟩:=by rw[hij,List.getElem?_set_self hj]
    unfold KY
    rw[QG hgj]
    simp only[if_true,Bool.and_eq_true]
    exact⟨XN.2 ⟨by rw[show ((j:Nat):Int)=m.frm by omega];exact k1,k2⟩,g4⟩
   ·have:=hc.got j hj
    unfold KY at this ⊢
    rw[List.getD_eq_getElem?_getD,List.getElem?_set_ne hij,←List.getD_eq_getElem?_getD]
    exact this
  have hfo:=Jo1 hp hc2
  have hev:=Jlr p _ hp hc2
  have hset:(dGs c.got).set m.frm.toNat (.g [dB true,.s (dL m.vals),.s (dL m.seqs)])=dGs (c.got.set m.frm.toNat ⟨true,m.vals,m.seqs⟩):=by simp only[dGs,List.map_set];rfl
  have harg:p.cells++(Clk.mk c.up c.round c.base c.done c.wants (c.got.set m.frm.toNat ⟨true,m.vals,m.seqs⟩)).cells=[dI p.n,.s (Jd p.acts),.s (dL p.gives),.s (dL p.start),dB c.up,dI c.round,.s (dL c.base),.s (dDs c.done),.s (dCs c.wants),D.s ((dGs c.got).set m.frm.toNat (.g [dB true,.s (dL m.vals),.s (dL m.seqs)]))]:=by rw[hset];rfl
  rw[harg] at hev
  generalize JbG p ⟨c.up,c.round,c.base,c.done,c.wants,c.got.set m.frm.toNat ⟨true,m.vals,m.seqs⟩⟩=r at *
  refine JsZ (vs:=[.b r.c.up,.i r.c.round,.l (dL r.c.base),.l (dDs r.c.done),.l (dCs r.c.wants),.l (dGs r.c.got),.l (dCs r.calls),.l (dRr r.list)]) hev rfl rfl rfl ?_
  simp only[sC,sN]
  refine JsW (decide (r.c.round=c.round)) rfl (fun _=>JsN ?_) (fun _=>?_)
  ·exact⟨r.c,[],r.calls,r.list,rfl,hfo.c,fun x h=>by simp at h,hfo.calls,hfo.list,hfo.len,hfo.four,by simp⟩
  ·refine JsZ (vs:=[.l (dMs (Xn r.c p.gives.length))]) (Jfx p r.c hpf (VH hp hfo.c)) rfl rfl rfl (JsN ?_)
   have hg:=Qo hp
   exact⟨r.c,Xn r.c p.gives.length,r.calls,r.list,rfl,hfo.c,JdK hfo.c (Nat.le_refl _),hfo.calls,hfo.list,hfo.len,hfo.four,by rw[Z1];omega⟩
 obtain⟨ds,e,c',ms,cs,ls,rfl,h⟩:=key
 exact⟨c',ms,cs,ls,e,h⟩
/- Worlds' steps,where all is ok,by the reference: over residual programs. -/
def Wrl.out (w:Wrl):List D:=[dI w.p.n,.s (Jd w.p.acts),.s (dL w.p.gives),.s (dL w.p.start),dB w.c.up,dI w.c.round,.s (dL w.c.base),.s (dDs w.c.done),.s (dCs w.c.wants),.s (dGs w.c.got),.s (dSt w.sites),.s (dCn w.cons),.s (dMs w.net),.s (dLg w.log)]
def Wrl.out2 (w:Wrl):List D:=[dI w.p.n,.s (Jd w.p.acts),.s (dL w.p.gives),.s (dL w.p.start),dB w.c.up,dI w.c.round,.s (dL w.c.base),.s (dDs w.c.done),.s (dCs w.c.wants),.s (dGs w.c.got),.s (dMs w.net),.s (dSt w.sites),.s (dCn w.cons),.s (dLg w.log)]
structure OkW (w:Wrl):Prop where
 pln:JH w.p=true
 sl:w.sites.length=w.p.gives.length
 nl:(w.cons.length:Int)=w.p.n
 ml:w.net.length≤30
 ll:w.log.length≤100
 log :∀x∈w.log,YI w.p x=true
 sites :∀(k:Nat) (s:Sit),w.sites[k]? = some s→J4 w.p s k=true
 cons :∀(k:Nat) (c:Con),w.cons[k]? = some c→Xx w.p k c=true
 net :∀m∈w.net,JS w.p m=true
 clk:X6 w.p w.c
theorem Ky {p:Pln} {k:Int} {x:Con}:Xx p k x=true↔Xa ⟨x.seq,x.code,x.tells⟩=true∧(x.busy=true→Jw p x.call=true∧x.call.client=k∧x.call.seq=x.seq+1)∧(x.busy=false→Y4 x.call=true):=by
 unfold Xx
 rw[Bool.and_eq_true]
 cases x.busy with
 | true=>simp only[if_true,Bool.and_eq_true,decide_eq_true_eq];simp
 | false=>simp only[Bool.false_eq_true,if_false];simp
theorem Jdn {p:Pln} {x:UI}:YI p x=true↔Jw p x.call=true∧JI x.code x.tells=true:=by unfold YI;rw[Bool.and_eq_true]
theorem Jkq {c:Int} {t:List Int} (h:JI c t=true):t.length≤2000000:=by have:=(Yo.1 h).2.1;omega
theorem Jpb {p:Pln} {k:Int} {x:Con} (h:Xx p k x=true):JjG x:=by
 obtain⟨h1,h2,h3⟩:=Ky.1 h
 refine⟨?_,JkW h1⟩
 cases e:x.busy with
 | true=>exact Zj (h2 e).1
 | false=>have:=JfF (h3 e);omega
theorem OkW.fit {w:Wrl} (h:OkW w):JjZ w:=by
 have hg:=Qo h.pln
 have hn:=Qm h.pln
 have h1:=h.sl
 have h2:=h.nl
 have h3:=h.ml
 have h4:=h.ll
 refine⟨Zm h.pln,⟨by omega,fun s hs=>?_⟩,VH h.pln h.clk,⟨by omega,fun s hs=>?_⟩,⟨by omega,fun m hm=>(Vr h.pln (h.net m hm)).fit⟩,⟨by omega,fun x hx=>?_⟩⟩
 ·obtain⟨k,hk⟩:=List.getElem?_of_mem hs;exact Vw h.pln (h.sites k s hk)
 ·obtain⟨k,hk⟩:=List.getElem?_of_mem hs;exact Jpb (h.cons k s hk)
 ·obtain⟨a,b⟩:=Jdn.1 (h.log x hx);exact⟨Zj a,Jkq b⟩
theorem OkW.ok {w:Wrl} (h:OkW w):UO w=true:=by
 unfold UO Jdg
 simp only[Bool.and_eq_true,decide_eq_true_eq,List.all_eq_true]
 refine⟨h.sl,h.nl,h.ml,⟨h.ll,h.log⟩,Y0.2 fun j hj=>?_,Y0.2 fun j hj=>?_,h.net,h.clk.ok⟩
 ·obtain⟨x,hx,_⟩:=sA1 hj;rw[QG hx];exact h.sites j x hx
 ·obtain⟨x,hx,_⟩:=sA1 hj;rw[QG hx];exact h.cons j x hx
theorem OkW.setSite {w:Wrl} (h:OkW w) {k:Nat} {s:Sit} (hs:J4 w.p s k=true):OkW ⟨w.p,w.sites.set k s,w.c,w.cons,w.net,w.log⟩ :=
 ⟨h.pln,by simp only[List.length_set];exact h.sl,h.nl,h.ml,h.ll,h.log,fun j x hx=>by
  by_cases e:k=j
  ·subst e
   have hl:k<w.sites.length:=by have:=(List.getElem?_eq_some_iff.1 hx).1;rwa [List.length_set] at this
   rw[List.getElem?_set_self hl] at hx;cases hx;exact hs
  ·rw[List.getElem?_set_ne e] at hx;exact h.sites j x hx,h.cons,h.net,h.clk⟩
theorem OkW.setCon {w:Wrl} (h:OkW w) {k:Nat} {s:Con} (hs:Xx w.p k s=true):OkW ⟨w.p,w.sites,w.c,w.cons.set k s,w.net,w.log⟩ :=
 ⟨h.pln,h.sl,by simp only[List.length_set];exact h.nl,h.ml,h.ll,h.log,h.sites,fun j x hx=>by
  by_cases e:k=j
  ·subst e
   have hl:k<w.cons.length:=by have:=(List.getElem?_eq_some_iff.1 hx).1;rwa [List.length_set] at this
   rw[List.getElem?_set_self hl] at hx;cases hx;exact hs
  ·rw[List.getElem?_set_ne e] at hx;exact h.cons j x hx,h.net,h.clk⟩
theorem OkW.setNet {w:Wrl} (h:OkW w) {l:List Msg} (hl:l.length≤30) (hm :∀m∈l,JS w.p m=true):OkW ⟨w.p,w.sites,w.c,w.cons,l,w.log⟩ :=
 ⟨h.pln,h.sl,h.nl,hl,h.ll,h.log,h.sites,h.cons,hm,h.clk⟩
theorem OkW.setClk {w:Wrl} (h:OkW w) {c:Clk} (hc:X6 w.p c):OkW ⟨w.p,w.sites,c,w.cons,w.net,w.log⟩ :=
 ⟨h.pln,h.sl,h.nl,h.ml,h.ll,h.log,h.sites,h.cons,h.net,hc⟩
def Z8 (w:Wrl) (l:List Msg):Wrl:=⟨w.p,w.sites,w.c,w.cons,w.net++l.take (30-w.net.length),w.log⟩
theorem W8 {w:Wrl} (h:OkW w) {l:List Msg} (hl :∀m∈l,JS w.p m=true):OkW (Z8 w l) :=
 h.setNet (by have:=h.ml;rw[List.length_append,List.length_take];omega) fun m hm=>by
  rcases List.mem_append.1 hm with q | q
  ·exact h.net m q
  ·exact hl m (List.mem_of_mem_take q)
theorem ZV (w:Wrl) (l:List Msg) (h:w.net.length≤30) (hl:Wm Ux l):Ev L f_k2c (w.cells++[.s (dMs l)]) (Z8 w l).out:=by
 refine Jtg (vs:=[.i w.p.n,.l (Jd w.p.acts),.l (dL w.p.gives),.l (dL w.p.start),.l (dSt w.sites),.b w.c.up,.i w.c.round,.l (dL w.c.base),.l (dDs w.c.done),.l (dCs w.c.wants),.l (dGs w.c.got),.l (dCn w.cons),.l (dMs w.net),.l (dLg w.log),.l (dMs l)]) L_k2c rfl ?_
 refine Js2 l.length (fun i=>[.l (dMs (w.net++l.take i)),.i i]) (fun i=>w.net.length+i≤30) rfl (by rw[List.take_zero,List.append_nil];rfl) (by omega) fun i hi hq=>?_
 simp only[sC,sN]
 have fin:w.net++l.take i=w.net++l.take (30-w.net.length)→[dI w.p.n,.s (Jd w.p.acts),.s (dL w.p.gives),.s (dL w.p.start),dB w.c.up,dI w.c.round,.s (dL w.c.base),.s (dDs w.c.done),.s (dCs w.c.wants),.s (dGs w.c.got),.s (dSt w.sites),.s (dCn w.cons),.s (dMs (w.net++l.take i)),.s (dLg w.log)]=(Z8 w l).out:=fun e=>by rw[e];rfl
 have hlen:(dMs (w.net++l.take i)).length=w.net.length+i:=by rw[Xb,List.length_append,List.length_take];omega
 refine JsY i (Xb l) rfl (fun h'=>?_) (fun h'=>JsS (JsN (fin (by rw[tA1 h',List.take_of_length_le (by omega)]))))
 refine JsI ((w.net.length+i:Nat)<(30:Int)) (by show decide (((dMs (w.net++l.take i)).length:Int)<30)=_;rw[hlen]) (fun h30=>?_) (fun h30=>JsS (JsN (fin (by rw[show 30-w.net.length=i by omega]))))
 obtain⟨x,hx,hm⟩:=sA1 h'
 refine Js9 (vs:=[.i x.kind,.i x.to,.i x.frm,.i x.round,.i x.call.client,.i x.call.seq,.i x.call.act,.l (dL x.call.args),.l (dL x.vals),.l (dL x.seqs),.l (dDs x.done)]) i (mA1 (f:=Msg.g) hx) rfl rfl rfl rfl ?_
 simp only[sC,sN]
 refine JsZ (vs:=[.i x.kind,.i x.to,.i x.frm,.i x.round,.i x.call.client,.i x.call.seq,.i x.call.act,.l (dL x.call.args),.l (dL x.vals),.l (dL x.seqs),.l (dDs x.done)]) (JeY x (hl.2 x hm)) rfl rfl rfl ?_
 simp only[sC,sN]
 refine JsX (dMs (w.net++l.take i)) 100 (by rw[hlen];omega) (by omega) rfl ?_
 refine Js3 (vs:=[.l (dMs (w.net++l.take (i+1))),.i ((i+1:Nat):Int)]) ?_ ⟨h',rfl,by omega⟩
 rw[←wS h' (by have:=hl.1;omega),tS1 hx,←List.append_assoc,Jcp (w.net++l.take i) [x]];rfl
def Zd (w:Wrl) (c:Cal) (r:Int) (t:List Int):Wrl:=if w.log.length<100 then ⟨w.p,w.sites,w.c,w.cons,w.net,w.log++[⟨c,r,t⟩]⟩ else w
theorem Jg0 {w:Wrl} (h:OkW w) {c:Cal} {r:Int} {t:List Int} (hc:Jw w.p c=true) (hr:JI r t=true):OkW (Zd w c r t)∧(Zd w c r t).p=w.p:=by
 unfold Zd
 split
 ·refine⟨⟨h.pln,h.sl,h.nl,h.ml,by simp;omega,fun x hx=>?_,h.sites,h.cons,h.net,h.clk⟩,rfl⟩
  rcases List.mem_append.1 hx with q | q
  ·exact h.log x q
  ·simp only[List.mem_singleton] at q;subst q;exact Jdn.2 ⟨hc,hr⟩
 ·exact⟨h,rfl⟩
theorem Jat (l:List UI):(dLg l).length=l.length:=List.length_map ..
theorem JbS (w:Wrl) (c:Cal) (r:Int) (t:List Int) (hc:UX c) (ht:t.length≤2000000):Ev L f_k2d (w.cells++c.cells++[dI r,.s (dL t)]) (Zd w c r t).out:=by
 refine Jtg (vs:=[.i w.p.n,.l (Jd w.p.acts),.l (dL w.p.gives),.l (dL w.p.start),.l (dSt w.sites),.b w.c.up,.i w.c.round,.l (dL w.c.base),.l (dDs w.c.done),.l (dCs w.c.wants),.l (dGs w.c.got),.l (dCn w.cons),.l (dMs w.net),.l (dLg w.log),.i c.client,.i c.seq,.i c.act,.l (dL c.args),.i r,.l (dL t)]) L_k2d rfl ?_
 refine JsI ((w.log.length:Int)<100) (by show decide (((dLg w.log).length:Int)<100)=_;rw[Jat]) (fun h=>?_) (fun h=>JsN ?_)
 ·refine JsZ (vs:=[.i c.client,.i c.seq,.i c.act,.l (dL c.args)]) (JU c hc) rfl rfl rfl ?_
  simp only[sC,sN]
  refine JsZ (vs:=[.i r,.l (dL t)]) (J8 r t ht) rfl rfl rfl ?_
  simp only[sC,sN]
  refine JsX (dLg w.log) 100 (by rw[Jat];omega) (by omega) rfl (JsN ?_)
  show _=(Zd w c r t).out
  unfold Zd;rw[if_pos (by omega)]
  show [dI w.p.n,.s (Jd w.p.acts),.s (dL w.p.gives),.s (dL w.p.start),dB w.c.up,dI w.c.round,.s (dL w.c.base),.s (dDs w.c.done),.s (dCs w.c.wants),.s (dGs w.c.got),.s (dSt w.sites),.s (dCn w.cons),.s (dMs w.net),.s (dLg w.log++[.g [dI c.client,dI c.seq,dI c.act,.s (dL c.args),dI r,.s (dL t)]])]=[dI w.p.n,.s (Jd w.p.acts),.s (dL w.p.gives),.s (dL w.p.start),dB w.c.up,dI w.c.round,.s (dL w.c.base),.s (dDs w.c.done),.s (dCs w.c.wants),.s (dGs w.c.got),.s (dSt w.sites),.s (dCn w.cons),.s (dMs w.net),.s (dLg (w.log++[⟨c,r,t⟩]))]
  simp only[dLg,List.map_append,List.map_cons,List.map_nil];rfl
 ·show _=(Zd w c r t).out
  unfold Zd;rw[if_neg (by omega)];rfl
theorem Jfp (w:Wrl) (k:Int) (h:w.net.length≤30) :
  ∃ l,Ev L f_k2f (w.cells++[dI k]) [dI w.p.n,.s (Jd w.p.acts),.s (dL w.p.gives),.s (dL w.p.start),dB w.c.up,dI w.c.round,.s (dL w.c.base),.s (dDs w.c.done),.s (dCs w.c.wants),.s (dGs w.c.got),.s (dMs l),.s (dSt w.sites),.s (dCn w.cons),.s (dMs w.net),.s (dLg w.log)]∧l.length≤30∧∀m∈l,m∈w.net:=by
 have key : ∃ ds,Ev L f_k2f (w.cells++[dI k]) ds∧∃ l,ds=[dI w.p.n,.s (Jd w.p.acts),.s (dL w.p.gives),.s (dL w.p.start),dB w.c.up,dI w.c.round,.s (dL w.c.base),.s (dDs w.c.done),.s (dCs w.c.wants),.s (dGs w.c.got),.s (dMs l),.s (dSt w.sites),.s (dCn w.cons),.s (dMs w.net),.s (dLg w.log)]∧l.length≤30∧∀m∈l,m∈w.net:=by
  refine Jth (vs:=[.i w.p.n,.l (Jd w.p.acts),.l (dL w.p.gives),.l (dL w.p.start),.l (dSt w.sites),.b w.c.up,.i w.c.round,.l (dL w.c.base),.l (dDs w.c.done),.l (dCs w.c.wants),.l (dGs w.c.got),.l (dCn w.cons),.l (dMs w.net),.l (dLg w.log),.i k]) L_k2f rfl ?_
  refine JsR w.net.length (fun i vs=>∃ l:List Msg,vs=[.l (dMs l),.i i]∧l.length≤i∧∀m∈l,m∈w.net) rfl ⟨[],rfl,by simp,fun m hm=>by simp at hm⟩ ?_
  rintro i vs hi ⟨l,rfl,hl,hm⟩
  simp only[sC,sN]
  refine JsY i (Xb w.net) rfl (fun h'=>?_) (fun h'=>JsS (JsN ⟨l,rfl,by omega,hm⟩))
  obtain⟨x,hx,hxm⟩:=sA1 h'
  have hw:=wS h' (by omega)
  refine Jte (decide ((i:Int)=k)) rfl (fun _=>?_) (fun _=>?_)
  ·refine JsG (vs:=[.i x.kind,.i x.to,.i x.frm,.i x.round,.i x.call.client,.i x.call.seq,.i x.call.act,.l (dL x.call.args),.l (dL x.vals),.l (dL x.seqs),.l (dDs x.done)]) (ds:=dMs w.net) i (mA1 (f:=Msg.g) hx) rfl rfl rfl rfl rfl rfl ?_
   simp only[sC,sN]
   refine JsX (dMs l) 100 (by rw[Xb];omega) (by omega) rfl ?_
   refine Js3 (vs:=[.l (dMs (l++[x])),.i ((i+1:Nat):Int)]) ?_ ⟨h',l++[x],rfl,by simp;omega,fun m hmm=>?_⟩
   ·rw[←hw,Jcp l [x]];rfl
   ·rcases List.mem_append.1 hmm with q | q
    ·exact hm m q
    ·simp only[List.mem_singleton] at q;rw[q];exact hxm
  ·refine Js3 (vs:=[.l (dMs l),.i ((i+1:Nat):Int)]) ?_ ⟨h',l,rfl,by omega,hm⟩
   rw[←hw];rfl
 obtain⟨ds,e,l,rfl,h⟩:=key
 exact⟨l,e,h⟩
theorem Jjd (w:Wrl) (h:w.cons.length≤4) : ∃ n:Int,Ev L f_k20 w.cells [dI n]∧0≤n∧n≤4:=by
 have key : ∃ ds,Ev L f_k20 w.cells ds∧∃ n:Int,ds=[dI n]∧0≤n∧n≤4:=by
  refine Jth (vs:=[.i w.p.n,.l (Jd w.p.acts),.l (dL w.p.gives),.l (dL w.p.start),.l (dSt w.sites),.b w.c.up,.i w.c.round,.l (dL w.c.base),.l (dDs w.c.done),.l (dCs w.c.wants),.l (dGs w.c.got),.l (dCn w.cons),.l (dMs w.net),.l (dLg w.log)]) L_k20 rfl ?_
  refine JsR w.cons.length (fun i vs=>∃ n:Int,vs=[.i n,.i i]∧0≤n∧n≤i) rfl ⟨0,rfl,by omega,by omega⟩ ?_
  rintro i vs hi ⟨n,rfl,n0,n1⟩
  simp only[sC,sN]
  refine JsY i (List.length_map (f:=Con.g) (as:=w.cons)) rfl (fun h'=>?_) (fun h'=>JsS (JsN ⟨n,rfl,n0,by omega⟩))
  obtain⟨x,hx,_⟩:=sA1 h'
  have hw:=wS h' (by omega)
  refine Js9 (vs:=[.i x.seq,.b x.busy,.i x.call.client,.i x.call.seq,.i x.call.act,.l (dL x.call.args),.i x.code,.l (dL x.tells)]) i (mA1 (f:=Con.g) hx) rfl rfl rfl rfl ?_
  simp only[sC,sN]
  refine JsW x.busy rfl (fun _=>?_) (fun _=>?_)
  ·refine Js3 (vs:=[.i (n+1),.i ((i+1:Nat):Int)]) ?_ ⟨h',n+1,rfl,by omega,by omega⟩
   rw[←hw,←w64 (n:=n+1) (by omega) (by omega)];rfl
  ·refine Js3 (vs:=[.i n,.i ((i+1:Nat):Int)]) ?_ ⟨h',n,rfl,n0,by omega⟩
   rw[←hw];rfl
 obtain⟨ds,e,n,rfl,h⟩:=key
 exact⟨n,e,h⟩
theorem Qn (l:List Con):(dCn l).length=l.length:=List.length_map ..
theorem Qx (l:List Sit):(dSt l).length=l.length:=List.length_map ..
theorem Jec {k:Int} {n:Nat}:inB k 0 ((n:Int)-1)=true↔0≤k∧k<n:=by rw[Jp];omega
theorem JjT (w:Wrl) (k a:Int) (as:List Int) (h:OkW w) (has:as.length≤2000000) :
  ∃ w':Wrl,Ev L f_k21 (w.cells++[dI k,dI a,.s (dL as)]) w'.out∧OkW w'∧w'.p=w.p:=by
 have key : ∃ ds,Ev L f_k21 (w.cells++[dI k,dI a,.s (dL as)]) ds∧∃ w':Wrl,ds=w'.out∧OkW w'∧w'.p=w.p:=by
  refine Jth (vs:=[.i w.p.n,.l (Jd w.p.acts),.l (dL w.p.gives),.l (dL w.p.start),.l (dSt w.sites),.b w.c.up,.i w.c.round,.l (dL w.c.base),.l (dDs w.c.done),.l (dCs w.c.wants),.l (dGs w.c.got),.l (dCn w.cons),.l (dMs w.net),.l (dLg w.log),.i k,.i a,.l (dL as)]) L_k21 rfl ?_
  have hn:=Qm h.pln
  have hnl:=h.nl
  have hll:=h.ll
  have same : ∃ w':Wrl,w.out=w'.out∧OkW w'∧w'.p=w.p:=⟨w,rfl,h,rfl⟩
  refine JsZ (JL k 0 ((w.cons.length:Int)-1)) rfl (by show [dI k,dI 0,dI (IntKind.i64.wrap (((dCn w.cons).length:Int)-1))]=_;rw[Qn,w64 (by omega) (by omega)]) rfl ?_
  simp only[sC,sN]
  refine Jte (inB k 0 ((w.cons.length:Int)-1)) rfl (fun _=>JsN same) (fun hk=>?_)
  have hk:=Jec.1 hk
  obtain⟨x,hx,hxm⟩:=sA1 (l:=w.cons) (i:=k.toNat) (by omega)
  have hco:=Ky.1 (h.cons _ x hx)
  have hcl:k<(dCn w.cons).length:=by rw[Qn];exact hk.2
  have xs :∀{s:Int},-1≤x.seq∧x.seq≤300:=by intro _;rcases Ym.1 hco.1 with q | q <;> simp only at q <;> omega
  refine Js4 (0≤k) rfl hk.1 (Js4 (k<((dCn w.cons).length:Int)) rfl hcl ?_)
  refine Jtd (ds:=dCn w.cons) (d:=x.g) (vs:=[.i x.seq,.b x.busy,.i x.call.client,.i x.call.seq,.i x.call.act,.l (dL x.call.args),.i x.code,.l (dL x.tells)]) k rfl rfl rfl hk.1 (mA1 (f:=Con.g) hx) rfl ?_
  simp only[sC,sN]
  refine JsW x.busy rfl (fun _=>JsN same) (fun hb=>?_)
  obtain⟨n,hbusy,n0,n1⟩:=Jjd w (by omega)
  refine JsZ (vs:=[.i n]) hbusy rfl rfl rfl ?_
  simp only[sC,sN]
  refine JsI ((100:Int)≤(w.log.length:Int)+n) (by show decide ((100:Int)≤IntKind.i64.wrap (((dLg w.log).length:Int)+n))=_;rw[Jat,w64 (by omega) (by omega)]) (fun _=>JsN same) (fun hroom=>?_)
  refine Js4 (0≤k) rfl hk.1 (Js4 (k<((dCn w.cons).length:Int)) rfl hcl ?_)
  refine Jtd (ds:=dCn w.cons) (d:=x.g) (vs:=[.i x.seq,.b x.busy,.i x.call.client,.i x.call.seq,.i x.call.act,.l (dL x.call.args),.i x.code,.l (dL x.tells)]) k rfl rfl rfl hk.1 (mA1 (f:=Con.g) hx) rfl ?_
  simp only[sC,sN]
  refine Js6 (dL as) 2000000 (by rw[dL1];omega) (by omega) rfl ?_
  refine JsU (JO as) ?_
  refine Js6 (dL as) 2000000 (by rw[dL1];omega) (by omega) rfl ?_
  have hw1:IntKind.i64.wrap (x.seq+1)=x.seq+1:=w64 (by have:=xs (s:=0);omega) (by have:=xs (s:=0);omega)
  refine JsZ (Zw w.p ⟨k,x.seq+1,a,as⟩ (Zm h.pln) hn.1 hn.2.1 has) rfl (by show [dI w.p.n,.s (Jd w.p.acts),.s (dL w.p.gives),.s (dL w.p.start),dI k,dI (IntKind.i64.wrap (x.seq+1)),dI a,.s (dL as)]=_;rw[hw1];rfl) rfl ?_
  simp only[sC,sN]
  refine JsW (Jw w.p ⟨k,x.seq+1,a,as⟩) rfl (fun hcall=>?_) (fun _=>JsN same)
  refine Js4 (0≤k) rfl hk.1 (Js4 (k<((dCn w.cons).length:Int)) rfl hcl ?_)
  refine Jtd (ds:=dCn w.cons) (d:=x.g) (vs:=[.i x.seq,.b x.busy,.i x.call.client,.i x.call.seq,.i x.call.act,.l (dL x.call.args),.i x.code,.l (dL x.tells)]) k rfl rfl rfl hk.1 (mA1 (f:=Con.g) hx) rfl ?_
  simp only[sC,sN]
  have e1:(dCn w.cons).set k.toNat (.g [dI x.seq,dB true,dI x.call.client,dI x.call.seq,dI x.call.act,.s (dL x.call.args),dI x.code,.s (dL x.tells)])=dCn (w.cons.set k.toNat ⟨x.seq,true,x.call,x.code,x.tells⟩):=by simp only[dCn,List.map_set];rfl
  have hx2:(dCn (w.cons.set k.toNat ⟨x.seq,true,x.call,x.code,x.tells⟩))[k.toNat]? = some (Con.g ⟨x.seq,true,x.call,x.code,x.tells⟩):=mA1 (f:=Con.g) (List.getElem?_set_self (by omega))
  refine Js4 (0≤k) rfl hk.1 (Js4 (k<((dCn w.cons).length:Int)) rfl hcl ?_)
  refine Jtd (ds:=dCn (w.cons.set k.toNat ⟨x.seq,true,x.call,x.code,x.tells⟩)) (d:=Con.g ⟨x.seq,true,x.call,x.code,x.tells⟩) (vs:=[.i x.seq,.b true,.i x.call.client,.i x.call.seq,.i x.call.act,.l (dL x.call.args),.i x.code,.l (dL x.tells)]) k rfl e1 rfl hk.1 hx2 rfl (JsN ?_)
  refine⟨⟨w.p,w.sites,w.c,w.cons.set k.toNat ⟨x.seq,true,⟨k,x.seq+1,a,as⟩,x.code,x.tells⟩,w.net,w.log⟩,?_,h.setCon (k:=k.toNat) (Ky.2 ⟨hco.1,fun _=>⟨hcall,by show k=((k.toNat:Nat):Int);omega,rfl⟩,fun q=>by cases q⟩),rfl⟩
  show [dI w.p.n,.s (Jd w.p.acts),.s (dL w.p.gives),.s (dL w.p.start),dB w.c.up,dI w.c.round,.s (dL w.c.base),.s (dDs w.c.done),.s (dCs w.c.wants),.s (dGs w.c.got),.s (dSt w.sites),.s (((dCn w.cons).set k.toNat (.g [dI x.seq,dB true,dI x.call.client,dI x.call.seq,dI x.call.act,.s (dL x.call.args),dI x.code,.s (dL x.tells)])).set k.toNat (.g [dI x.seq,dB true,dI k,dI (IntKind.i64.wrap (x.seq+1)),dI a,.s (dL as),dI x.code,.s (dL x.tells)])),.s (dMs w.net),.s (dLg w.log)]=[dI w.p.n,.s (Jd w.p.acts),.s (dL w.p.gives),.s (dL w.p.start),dB w.c.up,dI w.c.round,.s (dL w.c.base),.s (dDs w.c.done),.s (dCs w.c.wants),.s (dGs w.c.got),.s (dSt w.sites),.s (dCn (w.cons.set k.toNat ⟨x.seq,true,⟨k,x.seq+1,a,as⟩,x.code,x.tells⟩)),.s (dMs w.net),.s (dLg w.log)]
  rw[List.set_set,hw1]
  simp only[dCn,List.map_set];rfl
 obtain⟨ds,e,w',rfl,h⟩:=key
 exact⟨w',e,h⟩
theorem Jdi (w:Wrl) (k:Int) (u:Bool) (h:OkW w) : ∃ w':Wrl,Ev L f_k2r (w.cells++[dI k,dB u]) w'.out∧OkW w'∧w'.p=w.p:=by
 have key : ∃ ds,Ev L f_k2r (w.cells++[dI k,dB u]) ds∧∃ w':Wrl,ds=w'.out∧OkW w'∧w'.p=w.p:=by
  refine Jth (vs:=[.i w.p.n,.l (Jd w.p.acts),.l (dL w.p.gives),.l (dL w.p.start),.l (dSt w.sites),.b w.c.up,.i w.c.round,.l (dL w.c.base),.l (dDs w.c.done),.l (dCs w.c.wants),.l (dGs w.c.got),.l (dCn w.cons),.l (dMs w.net),.l (dLg w.log),.i k,.b u]) L_k2r rfl ?_
  have hg:=Qo h.pln
  have hsl:=h.sl
  refine JsZ (JL k 0 ((w.sites.length:Int)-1)) rfl (by show [dI k,dI 0,dI (IntKind.i64.wrap (((dSt w.sites).length:Int)-1))]=_;rw[Qx,w64 (by omega) (by omega)]) rfl ?_
  simp only[sC,sN]
  refine JsW (inB k 0 ((w.sites.length:Int)-1)) rfl (fun hk=>?_) (fun _=>JsN ⟨w,rfl,h,rfl⟩)
  have hk:=Jec.1 hk
  obtain⟨x,hx,hxm⟩:=sA1 (l:=w.sites) (i:=k.toNat) (by omega)
  have hso:=Qw.1 (h.sites _ x hx)
  refine Js4 (0≤k) rfl hk.1 (Js4 (k<((dSt w.sites).length:Int)) rfl (by rw[Qx];exact hk.2) ?_)
  refine Jtd (ds:=dSt w.sites) (d:=x.g) (vs:=[.b x.up,.b x.frozen,.i x.round,.l (dL x.base),.l (dL x.added),.l (dDs x.done)]) k rfl rfl rfl hk.1 (mA1 (f:=Sit.g) hx) rfl (JsN ?_)
  refine⟨⟨w.p,w.sites.set k.toNat ⟨u,x.frozen,x.round,x.base,x.added,x.done⟩,w.c,w.cons,w.net,w.log⟩,?_,h.setSite (k:=k.toNat) (Qw.2 hso),rfl⟩
  show [dI w.p.n,.s (Jd w.p.acts),.s (dL w.p.gives),.s (dL w.p.start),dB w.c.up,dI w.c.round,.s (dL w.c.base),.s (dDs w.c.done),.s (dCs w.c.wants),.s (dGs w.c.got),.s ((dSt w.sites).set k.toNat (.g [dB u,dB x.frozen,dI x.round,.s (dL x.base),.s (dL x.added),.s (dDs x.done)])),.s (dCn w.cons),.s (dMs w.net),.s (dLg w.log)]=[dI w.p.n,.s (Jd w.p.acts),.s (dL w.p.gives),.s (dL w.p.start),dB w.c.up,dI w.c.round,.s (dL w.c.base),.s (dDs w.c.done),.s (dCs w.c.wants),.s (dGs w.c.got),.s (dSt (w.sites.set k.toNat ⟨u,x.frozen,x.round,x.base,x.added,x.done⟩)),.s (dCn w.cons),.s (dMs w.net),.s (dLg w.log)]
  simp only[dSt,List.map_set];rfl
 obtain⟨ds,e,w',rfl,h⟩:=key
 exact⟨w',e,h⟩
end Go.Proofs.YtdmjmcegcpdenaaGreatDoor

import Derived.Test.YtngcnclchcahlaaGreatDoorPZZM
set_option linter.unusedVariables false
set_option linter.unusedSimpArgs false
/- What a site tries: over residual programs. -/
namespace Go.Proofs.YtngcnclchcahlaaGreatDoor
open Go Go.Tm
open Go.IntKind (i64)
theorem JkG {bs:List Int} {o0:Int} (w:Wrl) (s:Sit) (k:Int) (hr:Rdr bs o0) (hf:o0≤999999970000) (hok:OkW w) (k0:0≤k) :
  ∃ (c:Cal) (q:Int),Ev L f_k37 ([.s (Ja bs),dI o0]++w.cells++s.cells++[dI k]) (c.cells++[.s (Ja bs),dI q])∧c.args.length≤3:=by
 have hpf:=Zb hok.pln;obtain⟨c,o,ec,o1,o2,hl⟩:=Jjr (n:=24) w.p hr (by omega) hpf (by omega) (by omega);have key : ∃ ds,Ev L f_k37 ([.s (Ja bs),dI o0]++w.cells++s.cells++[dI k]) ds∧∃ (c:Cal) (q:Int),ds=c.cells++[.s (Ja bs),dI q]∧c.args.length≤3:=by
  refine Jt4 (vs:=[.l (Ja bs),.i o0,.i w.p.n,.l (Jd w.p.acts),.l (dL w.p.gives),.l (dL w.p.start),.l (dSt w.sites),.b w.c.up,.i w.c.round,.l (dL w.c.base),.l (dDs w.c.done),.l (dCs w.c.wants),.l (dGs w.c.got),.l (dCn w.cons),.l (dMs w.net),.l (dLg w.log),.b s.up,.b s.frozen,.i s.round,.l (dL s.base),.l (dL s.added),.l (dDs s.done),.i k]) L_k37 rfl ?_;refine JtE (vs:=[.i c.client,.i c.seq,.i c.act,.l (dL c.args),.l (Ja bs),.i o]) ec rfl rfl rfl ?_;simp only[sC,sN];refine Je 6 (hr.go (q:=o) (by omega) (by omega)) (by omega) (by omega) rfl rfl fun u _ _=>?_;simp only[sC,sN];refine JtX (fun _=>?_) (fun _=>Jt0 ⟨c,o+1,rfl,hl⟩);refine JtX (fun _=>?_) (fun _=>Jt0 ⟨c,o+1,rfl,hl⟩);refine Jty (k<w.p.n) rfl (fun h1=>?_) (fun _=>Jt0 ⟨c,o+1,rfl,hl⟩);refine Jty (((dDs s.done).length:Int)=w.p.n) rfl (fun h2=>?_) (fun _=>Jt0 ⟨c,o+1,rfl,hl⟩);rw[QC] at h2;obtain⟨y,hy,_⟩:=sA1 (l:=s.done) (i:=k.toNat) (by omega);refine JtJ (ds:=dDs s.done) (d:=y.g) (vs:=[.i y.seq,.i y.code,.l (dL y.tells)]) k rfl rfl rfl k0 (mA1 (f:=Don.g) hy) rfl ?_;simp only[sC,sN];refine Je 6 (hr.go (q:=o+1) (by omega) (by omega)) (by omega) (by omega) rfl rfl fun v v0 v1=>?_;simp only[sC,sN];refine JX [1,1,1,1,0,2] v v0 v1 rfl rfl rfl rfl rfl fun x=>?_;simp only[sC,sN];exact JtX (fun _=>Jt0 ⟨⟨k,1,c.act,c.args⟩,o+1+1,rfl,hl⟩) (fun _=>Jt0 ⟨⟨k,i64.wrap (y.seq+x),c.act,c.args⟩,o+1+1,rfl,hl⟩)
 obtain⟨ds,e,c,q,rfl,h⟩:=key;exact⟨c,q,e,h⟩
theorem JeG (ns:List Int) (hb :∀x∈ns,0≤x∧x<256) :
  ∃ (l:Pln) (s:Sit) (k:Int) (c:Cal),Ev L f_k38 [.s (Ja ns)] (l.cells++s.cells++[dI k]++c.cells)∧JM l∧Qu s∧XJ c:=by
 obtain⟨bs,ho,hr⟩:=JpU ns hb;obtain⟨l,s,k,w,q,e,hl,hs,hok,q1,q2,k0⟩:=Jkv (n:=20) hr (by omega) (by omega) (by omega);obtain⟨c,o,ec,hc⟩:=JkG w s k (hr.go (q:=q) (by omega) (by omega)) (by omega) hok k0;refine⟨l,s,k,c,?_,hl,hs,by unfold XJ;omega⟩;refine Jt7 (vs:=[.l (Ja ns)]) L_k38 rfl (JtE ho rfl rfl rfl ?_);refine JtE (vs:=[.i l.n,.l (Jd l.acts),.l (dL l.gives),.l (dL l.start),.b s.up,.b s.frozen,.i s.round,.l (dL s.base),.l (dL s.added),.l (dDs s.done),.i k,.i w.p.n,.l (Jd w.p.acts),.l (dL w.p.gives),.l (dL w.p.start),.l (dSt w.sites),.b w.c.up,.i w.c.round,.l (dL w.c.base),.l (dDs w.c.done),.l (dCs w.c.wants),.l (dGs w.c.got),.l (dCn w.cons),.l (dMs w.net),.l (dLg w.log),.l (Ja bs),.i q]) e rfl rfl rfl ?_;simp only[sC,sN];exact JtE (vs:=[.i c.client,.i c.seq,.i c.act,.l (dL c.args),.l (Ja bs),.i o]) ec rfl rfl rfl (Jt0 rfl)
theorem JmX (p:Pln) (s:Sit) (k:Int) (c:Cal) (hp:JM p) (hs:Qu s) (hc:XJ c) :
  Ev L f_k5q (s.cells++p.cells++[dI k]++c.cells) ((Y8 p s k c).ds++s.cells):=by
 refine Jt7 (vs:=[.b s.up,.b s.frozen,.i s.round,.l (dL s.base),.l (dL s.added),.l (dDs s.done),.i p.n,.l (Jd p.acts),.l (dL p.gives),.l (dL p.start),.i k,.i c.client,.i c.seq,.i c.act,.l (dL c.args)]) L_k5q rfl ?_;refine JtE (vs:=[.l (dL s.base),.l (dL p.gives)]) (WM p s.base) rfl rfl rfl ?_;simp only[sC,sN];have h:=Jkj p.acts s.base p.gives k s.added c.act c.args hp.1 hs.1 hp.2.1 hs.2.1 hc;rw[show KH p.acts s.base p.gives k s.added c.act c.args=Y8 p s k c from rfl] at h;generalize Y8 p s k c=r at *;exact JtE (vs:=[.i r.code,.l (dL r.tells),.l (dL r.adds),.b r.ok]) h rfl rfl rfl (Jt0 rfl)
theorem Jqa (p:Pln) (s:Sit) (k:Int) (c:Cal) (hp:JM p) (hs:Qu s) (hc:XJ c) (hpo:Jt p=true) (hso:JW p s k=true) (hco:Jk p c=true) :
  Ev L f_k5s (s.cells++p.cells++[dI k]++c.cells) ([dI (XY p s k c).code,.s (dL (XY p s k c).tells),.s (dMs (XY p s k c).said)]++(XY p s k c).site.cells):=by
 refine Jt7 (vs:=[.b s.up,.b s.frozen,.i s.round,.l (dL s.base),.l (dL s.added),.l (dDs s.done),.i p.n,.l (Jd p.acts),.l (dL p.gives),.l (dL p.start),.i k,.i c.client,.i c.seq,.i c.act,.l (dL c.args)]) L_k5s rfl ?_;obtain⟨hx,hdo,hm⟩:=Wc hso hco;obtain⟨c1,c2,c3,c4⟩:=JQ.1 hco;have hg:=(Qm hpo).1;have hlt:c.client.toNat<s.done.length:=(Jua.1 hx).1;have hsq : -1≤(JG s c).seq∧(JG s c).seq≤300:=by rcases X0.1 hdo with h | h <;> omega
 have hdl:(JG s c).tells.length≤2000000:=hs.2.2.2 _ hm;have no:=fun h=>Uq (p:=p) (s:=s) (k:=k) (c:=c) h;have same:=fun h1 h2 h3=>K0 (p:=p) (s:=s) (k:=k) (c:=c) h1 h2 h3;have did:=fun h1 h2 h3 h4 h5=>Jaz (p:=p) (s:=s) (k:=k) (c:=c) h1 h2 h3 h4 h5;have want:=fun h1 h2 h3 h4=>Vf (p:=p) (s:=s) (k:=k) (c:=c) h1 h2 h3 h4;have hal:=JmX p s k c hp hs hc;have hll:=JcZ p.acts s.base p.gives k s.added c.act c.args hs.2.1;rw[show KH p.acts s.base p.gives k s.added c.act c.args=Y8 p s k c from rfl] at hll;have hset :∀r:Ji5,(dDs s.done).set c.client.toNat (.g [dI c.seq,dI r.code,.s (dL r.tells)])=dDs (JdJ s c r).done:=fun r=>by simp only[dDs,JdJ,List.map_set];rfl
 generalize JG s c=x at *;generalize Y8 p s k c=r at *;refine JtP (0≤c.client) rfl c1.1 ?_;refine JtP (c.client<(s.done.length:Int)) (by show decide (c.client<((dDs s.done).length:Int))=_;rw[QC]) (by omega) ?_;refine JtJ (ds:=dDs s.done) (d:=x.g) (vs:=[.i x.seq,.i x.code,.l (dL x.tells)]) c.client rfl rfl rfl c1.1 (mA1 (f:=Don.g) hx) rfl ?_;simp only[sC,sN];refine Jt1 s.up rfl (fun a=>Jt0 (by rw[no (.inl (fun q=>by rw[a] at q;cases q.1))];rfl)) (fun a=>?_);refine Jt3 (by show (!decide (((dL p.gives).length:Int)=0))=true;rw[dL1,Bool.not_eq_true',decide_eq_false_iff_not];omega) ?_;refine Jt1 (decide (Int.tmod c.client p.gives.length=k)) (by show (!decide (Int.tmod c.client ((dL p.gives).length:Int)=k))=_;rw[dL1]) (fun b=>Jt0 (by rw[no (.inl (fun q=>by simp[q.2] at b))];rfl)) (fun b=>?_);have b:Int.tmod c.client p.gives.length=k:=by simpa using b
 refine Jty (c.seq=x.seq) rfl (fun e3=>?_) (fun e3=>?_)
 ·rw[same a b e3];exact JtE (vs:=[.i x.code,.l (dL x.tells)]) (Un x.code x.tells hdl) rfl rfl rfl (Jt0 rfl)
 refine Jt1 (decide (c.seq=x.seq+1)) (by show (!decide (c.seq=i64.wrap (x.seq+1)))=_;rw[w64 (by omega) (by omega)]) (fun e=>Jt0 (by rw[no (.inr ⟨e3,by simpa using e⟩)];rfl)) (fun e=>?_);have e4:c.seq=x.seq+1:=by simpa using e
 refine Jt1 s.frozen rfl (fun f=>?_) (fun f=>?_)
 ·refine JtE (vs:=[.i r.code,.l (dL r.tells),.l (dL r.adds),.b r.ok,.b s.up,.b s.frozen,.i s.round,.l (dL s.base),.l (dL s.added),.l (dDs s.done)]) hal rfl rfl rfl ?_;simp only[sC,sN];refine JtG r.ok rfl (fun o=>?_) (fun o=>?_)
  ·rw[did a b e4 f o];refine JtE (vs:=[.i r.code,.l (dL r.tells)]) (Un r.code r.tells hll.1) rfl rfl rfl ?_;simp only[sC,sN];refine JtP (0≤c.client) rfl c1.1 ?_;refine JtP (c.client<(s.done.length:Int)) (by show decide (c.client<((dDs s.done).length:Int))=_;rw[QC]) (by omega) ?_;refine JtJ (ds:=dDs s.done) (d:=x.g) (vs:=[.i x.seq,.i x.code,.l (dL x.tells)]) c.client rfl rfl rfl c1.1 (mA1 (f:=Don.g) hx) rfl (Jt0 ?_);show [dI r.code,.s (dL r.tells),D.s [],dB s.up,dB s.frozen,dI s.round,.s (dL s.base),.s (dL r.adds),.s ((dDs s.done).set c.client.toNat (.g [dI c.seq,dI r.code,.s (dL r.tells)]))]=_;rw[hset r];rfl
  ·rw[want a b e4 (.inr o)];exact JtE (vs:=[.i c.client,.i c.seq,.i c.act,.l (dL c.args)]) (Wl c hc) rfl rfl rfl (Jt0 rfl)
 ·rw[want a b e4 (.inl f)];exact JtE (vs:=[.i c.client,.i c.seq,.i c.act,.l (dL c.args)]) (Wl c hc) rfl rfl rfl (Jt0 rfl)
def ZA (p:Pln) (s:Sit) (k:Int) (c:Cal):JnT:=if Xz p s k&&(Jt p&&Jk p c) then XY p s k c else ⟨⟨false,false,0,[],[],[]⟩,0,[],[]⟩
theorem V1 {p:Pln} {s:Sit} {k:Int} (h:Xz p s k=true):Jt p=true∧JW p s k=true:=by
 unfold Xz at h;simp only[Jt9] at h;exact⟨h.1,h.2.2⟩
theorem Jkh (p:Pln) (s:Sit) (k:Int) (c:Cal) (hp:JM p) (hs:Qu s) (hc:XJ c):Ev L f_k5w (p.cells++s.cells++[dI k]++c.cells) (ZA p s k c).ds:=by
 refine Jt7 (vs:=[.i p.n,.l (Jd p.acts),.l (dL p.gives),.l (dL p.start),.b s.up,.b s.frozen,.i s.round,.l (dL s.base),.l (dL s.added),.l (dDs s.done),.i k,.i c.client,.i c.seq,.i c.act,.l (dL c.args)]) L_k5w rfl ?_;refine JtE (JeZ p s k hp hs) rfl rfl rfl ?_;simp only[sC,sN];refine Jt1 (Xz p s k) rfl (fun h=>Jt0 ?_) (fun h1=>?_)
 ·unfold ZA;rw[if_neg (by simp[h])];rfl
 obtain⟨hpo,hso⟩:=V1 h1;refine JtE (JdC p c hp hc) rfl rfl rfl ?_;simp only[sC,sN];refine Jt1 (Jt p&&Jk p c) rfl (fun h=>Jt0 ?_) (fun h2=>?_)
 ·unfold ZA;rw[if_neg (by simp[h])];rfl
 have hco:Jk p c=true:=by rw[Jt9] at h2;exact h2.2
 have e:ZA p s k c=XY p s k c:=by unfold ZA;rw[if_pos (by rw[h1,h2];rfl)]
 rw[e];have hc0:=Xl hpo;have e1:(Ud p.acts).1=Jb p.acts:=by simp[Jb,hc0]
 have e2:(Ud p.acts).2=Jh p.acts:=by simp[Jh,hc0]
 have eB:=Jbq p.acts hp.1 (Xv hc0).2.1;rw[e1,e2] at eB;refine JtE (vs:=[.l (dLL (Jb p.acts)),.l (dBl (Jh p.acts))]) eB rfl rfl rfl ?_;simp only[sC,sN];have hv:=JhN p s k c hp hs hc hpo hso hco;generalize XY p s k c=r at *;exact JtE (vs:=[.b r.site.up,.b r.site.frozen,.i r.site.round,.l (dL r.site.base),.l (dL r.site.added),.l (dDs r.site.done),.i r.code,.l (dL r.tells),.l (dMs r.said)]) hv rfl rfl rfl (Jt0 rfl)
theorem WG (p:Pln) (s:Sit) (k:Int) (c:Cal) (hp:JM p) (hs:Qu s) (hc:XJ c):Ev L f_k5t (p.cells++s.cells++[dI k]++c.cells) (ZA p s k c).ds:=by
 refine Jt7 (vs:=[.i p.n,.l (Jd p.acts),.l (dL p.gives),.l (dL p.start),.b s.up,.b s.frozen,.i s.round,.l (dL s.base),.l (dL s.added),.l (dDs s.done),.i k,.i c.client,.i c.seq,.i c.act,.l (dL c.args)]) L_k5t rfl ?_;refine JtE (JeY p s k hp hs) rfl rfl rfl ?_;simp only[sC,sN];refine Jt1 (Xz p s k) rfl (fun h=>Jt0 ?_) (fun h1=>?_)
 ·unfold ZA;rw[if_neg (by simp[h])];rfl
 obtain⟨hpo,hso⟩:=V1 h1;refine JtE (Jkp p c hp hc) rfl rfl rfl ?_;simp only[sC,sN];refine Jt1 (Jt p&&Jk p c) rfl (fun h=>Jt0 ?_) (fun h2=>?_)
 ·unfold ZA;rw[if_neg (by simp[h])];rfl
 have hco:Jk p c=true:=by rw[Jt9] at h2;exact h2.2
 have e:ZA p s k c=XY p s k c:=by unfold ZA;rw[if_pos (by rw[h1,h2];rfl)]
 rw[e];refine JtE (vs:=[.b s.up,.b s.frozen,.i s.round,.l (dL s.base),.l (dL s.added),.l (dDs s.done)]) (JgK s hs) rfl rfl rfl ?_;simp only[sC,sN];have hv:=Jqa p s k c hp hs hc hpo hso hco;generalize XY p s k c=r at *;exact JtE (vs:=[.i r.code,.l (dL r.tells),.l (dMs r.said),.b r.site.up,.b r.site.frozen,.i r.site.round,.l (dL r.site.base),.l (dL r.site.added),.l (dDs r.site.done)]) hv rfl rfl rfl (Jt0 rfl)
theorem Jpi {p:Pln} {s:Sit} {k:Int} {c:Cal} (hs:JW p s k=true) (hc:Jk p c=true) (h:(XY p s k c).code≠0) :
  s.up=true∧(XY p s k c).site.up=true∧Int.tmod c.client p.gives.length=k∧(XY p s k c).said=[]∧JG (XY p s k c).site c=⟨c.seq,(XY p s k c).code,(XY p s k c).tells⟩:=by
 obtain⟨hx,_,_⟩:=Wc hs hc;have hl:c.client.toNat<s.done.length:=(Jua.1 hx).1
 by_cases h1:s.up=true∧Int.tmod c.client p.gives.length=k
 ·by_cases h2:c.seq=(JG s c).seq
  ·rw[K0 h1.1 h1.2 h2] at h ⊢;exact⟨h1.1,h1.1,h1.2,rfl,by rw[h2]⟩
  ·by_cases h3:c.seq=(JG s c).seq+1
   ·by_cases h4:s.frozen=false∧(Y8 p s k c).ok=true
    ·rw[Jaz h1.1 h1.2 h3 h4.1 h4.2] at h ⊢;exact⟨h1.1,h1.1,h1.2,rfl,QA (by simp only[JdJ];exact List.getElem?_set_self hl)⟩
    ·rw[Vf h1.1 h1.2 h3 (by cases hfz:s.frozen <;> simp_all)] at h;exact absurd rfl h
   ·rw[Uq (.inr ⟨h2,h3⟩)] at h;exact absurd rfl h
 ·rw[Uq (.inl h1)] at h;exact absurd rfl h
theorem JnE {p:Pln} {s:Sit} {k:Int} {c:Cal} (hp:Jt p=true) (hs:JW p s k=true) (hc:Jk p c=true) (h:(XY p s k c).code=0):(XY p s k c).site=s:=by
 have hf:=Ug hp hs hc
 by_cases h1:s.up=true∧Int.tmod c.client p.gives.length=k
 ·by_cases h2:c.seq=(JG s c).seq
  ·rw[K0 h1.1 h1.2 h2]
  ·by_cases h3:c.seq=(JG s c).seq+1
   ·by_cases h4:s.frozen=false∧(Y8 p s k c).ok=true
    ·rw[Jaz h1.1 h1.2 h3 h4.1 h4.2] at h;have:=(XW.1 (JdA hf h4.2).1).1;simp only at h;omega
    ·rw[Vf h1.1 h1.2 h3 (by cases hfz:s.frozen <;> simp_all)]
   ·rw[Uq (.inr ⟨h2,h3⟩)]
 ·rw[Uq (.inl h1)]
theorem Jjx (c:Int) (t:List Int) (h:t.length≤2000000):Ev L f_k5y [dI c,.s (dL t),dI c,.s (dL t)] [dB true]:=by
 have e:=Jhv c c t t h
 rwa [show (decide (c=c)&&decide (t=t))=true by simp] at e
theorem Jge (ns:List Int) (hb :∀x∈ns,0≤x∧x<256):Ev L f_k65 [.s (Ja ns)] [dB true]:=by
 refine Jt7 (vs:=[.l (Ja ns)]) L_k65 rfl ?_;refine Jty (1048576<((Ja ns).length:Int)) rfl (fun _=>Jt0 rfl) (fun _=>?_);obtain⟨p,s,k,c,hd,hp,hs,hc⟩:=JeG ns hb;have h1:=WG p s k c hp hs hc;have h2:=Jkh p s k c hp hs hc;refine JtE (vs:=[.i p.n,.l (Jd p.acts),.l (dL p.gives),.l (dL p.start),.b s.up,.b s.frozen,.i s.round,.l (dL s.base),.l (dL s.added),.l (dDs s.done),.i k,.i c.client,.i c.seq,.i c.act,.l (dL c.args)]) hd rfl rfl rfl ?_;simp only[sC,sN];have zero:(Xz p s k&&(Jt p&&Jk p c))=false→ZA p s k c=⟨⟨false,false,0,[],[],[]⟩,0,[],[]⟩:=fun h=>by unfold ZA;rw[if_neg (by simp[h])]
 have yes:(Xz p s k&&(Jt p&&Jk p c))=true→ZA p s k c=XY p s k c:=fun h=>by unfold ZA;rw[if_pos h]
 have hft:=Jlj p k hs hc;have hfit:Qu (ZA p s k c).site∧(∀m∈(ZA p s k c).said,ZP m)∧(ZA p s k c).tells.length≤2000000∧(ZA p s k c).said.length≤1:=by
  cases h:Xz p s k&&(Jt p&&Jk p c) with
  | true =>
   rw[yes h];rw[Jt9,Jt9] at h;obtain⟨hpo,hso⟩:=V1 h.1;exact⟨hft.1,hft.2.1,hft.2.2,(Jkm hpo hso h.2.2).one⟩
  | false=>rw[zero h];exact⟨⟨by simp,by simp,by simp,fun d hd=>by simp at hd⟩,fun m hm=>by simp at hm,by simp,by simp⟩
 generalize hq:ZA p s k c=R at *;obtain⟨f1,f2,f3,f4⟩:=hfit;have hcs:=Jin R.site f1;have hcr:=Jjx R.code R.tells f3;refine JtE (vs:=[.b R.site.up,.b R.site.frozen,.i R.site.round,.l (dL R.site.base),.l (dL R.site.added),.l (dDs R.site.done),.i R.code,.l (dL R.tells),.l (dMs R.said)]) h1 rfl rfl rfl ?_;simp only[sC,sN];refine JtE (vs:=[.b R.site.up,.b R.site.frozen,.i R.site.round,.l (dL R.site.base),.l (dL R.site.added),.l (dDs R.site.done),.i R.code,.l (dL R.tells),.l (dMs R.said)]) h2 rfl rfl rfl ?_;simp only[sC,sN];refine JtE hcs rfl rfl rfl (JtN rfl ?_);simp only[sC,sN];refine JtE hcr rfl rfl rfl (JtN rfl ?_);simp only[sC,sN];refine JtE (Jka R.said ⟨by omega,f2⟩) rfl rfl rfl (JtN rfl ?_);simp only[sC,sN];refine JtE (JeZ p s k hp hs) rfl rfl rfl ?_;simp only[sC,sN];refine Jt1 (Xz p s k) rfl (fun h=>?_) (fun h=>?_)
 ·have e:=zero (by rw[h];rfl);subst e;exact JtE hcs rfl rfl rfl (JtZ rfl (JtZ rfl (JtE Jdq rfl rfl rfl (Jt0 rfl))))
 refine JtE (JdC p c hp hc) rfl rfl rfl ?_;simp only[sC,sN];refine Jt1 (Jt p&&Jk p c) rfl (fun h3=>?_) (fun h3=>?_)
 ·have e:=zero (by rw[h3];simp);subst e;exact JtE hcs rfl rfl rfl (JtZ rfl (JtZ rfl (JtE Jdq rfl rfl rfl (Jt0 rfl))))
 obtain⟨hpo,hso⟩:=V1 h;have hco:Jk p c=true:=by rw[Jt9] at h3;exact h3.2
 have eR:R=XY p s k c:=yes (by rw[h,h3];rfl);have hto:=Jkm hpo hso hco;rw[←eR] at hto;refine Jty (R.code=0) rfl (fun z=>?_) (fun z=>?_)
 ·have es:R.site=s:=by rw[eR] at z ⊢;exact JnE hpo hso hco z
  rw[es] at hcs;refine JtE (by rw[es];exact hcs) rfl rfl rfl (JtZ rfl (Jt0 ?_));show [dB (decide (((dMs R.said).length:Int)≤1))]=[dB true];rw[Q1,decide_eq_true (by omega)]
 obtain⟨u1,u2,u3,u4,u5⟩:s.up=true∧R.site.up=true∧Int.tmod c.client p.gives.length=k∧R.said=[]∧JG R.site c=⟨c.seq,R.code,R.tells⟩:=by rw[eR] at z ⊢;exact Jpi hso hco z
 have hk:Xz p R.site k=true:=by
  unfold Xz at h ⊢;simp only[Jt9] at h ⊢;exact⟨h.1,h.2.1,hto.site⟩
 have e2:ZA p R.site k c=⟨R.site,R.code,R.tells,[]⟩:=by
  unfold ZA;rw[if_pos (by rw[hk,h3];rfl),K0 u2 u3 (by rw[u5]),u5]
 have a2:=WG p R.site k c hp f1 hc;rw[e2] at a2;have hw:i64.wrap (c.seq+2)=c.seq+2:=w64 (by have:=(JQ.1 hco).2.1;omega) (by have:=(JQ.1 hco).2.1;omega);have a3:=WG p R.site k ⟨c.client,c.seq+2,c.act,c.args⟩ hp f1 hc;refine JtE (vs:=[.b R.site.up,.b R.site.frozen,.i R.site.round,.l (dL R.site.base),.l (dL R.site.added),.l (dDs R.site.done),.i R.code,.l (dL R.tells),.l []]) a2 rfl rfl rfl ?_;simp only[sC,sN];generalize hq3:ZA p R.site k ⟨c.client,c.seq+2,c.act,c.args⟩=R3 at *;refine JtE (vs:=[.b R3.site.up,.b R3.site.frozen,.i R3.site.round,.l (dL R3.site.base),.l (dL R3.site.added),.l (dDs R3.site.done),.i R3.code,.l (dL R3.tells),.l (dMs R3.said)]) a3 rfl (by
  show [dI p.n,.s (Jd p.acts),.s (dL p.gives),.s (dL p.start),dB R.site.up,dB R.site.frozen,dI R.site.round,.s (dL R.site.base),.s (dL R.site.added),.s (dDs R.site.done),dI k,dI c.client,dI (i64.wrap (c.seq+2)),dI c.act,D.s (dL c.args)]=_;rw[hw];rfl) rfl ?_
 simp only[sC,sN];refine JtE hcs rfl rfl rfl (JtZ rfl ?_);simp only[sC,sN];refine JtE hcr rfl rfl rfl (JtZ rfl ?_);simp only[sC,sN];refine JtZ rfl (JtZ (by show decide (((dMs R.said).length:Int)=0)=true;rw[u4];rfl) ?_);have hio:=JeY p R.site k hp f1;rw[hk] at hio;refine JtE hio rfl rfl rfl (JtZ rfl ?_);simp only[sC,sN]
 by_cases hle:c.seq+2≤300
 ·have hco2:Jk p ⟨c.client,c.seq+2,c.act,c.args⟩=true:=by
   obtain⟨b1,b2,b3,b4⟩:=JQ.1 hco;exact JQ.2 ⟨b1,⟨by show 1≤c.seq+2;omega,hle⟩,b3,b4⟩
  have e3:R3=⟨R.site,0,[],[]⟩:=by
   rw[←hq3];unfold ZA;rw[if_pos (by rw[hk,hpo,hco2];rfl)];refine Uq (.inr ⟨?_,?_⟩)
   ·show c.seq+2≠(JG R.site c).seq;rw[u5];show c.seq+2≠c.seq;omega
   ·show c.seq+2≠(JG R.site c).seq+1;rw[u5];show c.seq+2≠c.seq+1;omega
  subst e3;exact JtE hcs rfl rfl rfl (JtZ rfl (JtZ rfl (JtZ rfl (Jt0 rfl))))
 ·have hco2:Jk p ⟨c.client,c.seq+2,c.act,c.args⟩=false:=by
   cases q:Jk p ⟨c.client,c.seq+2,c.act,c.args⟩ with
   | false=>rfl
   | true=>exact absurd (JQ.1 q).2.1.2 (by show ¬c.seq+2≤300;exact hle)
  have e3:R3=⟨⟨false,false,0,[],[],[]⟩,0,[],[]⟩:=by rw[←hq3];unfold ZA;rw[if_neg (by simp[hco2])]
  subst e3;have hno:Ev L f_k60 ((Sit.cells ⟨false,false,0,[],[],[]⟩)++R.site.cells) [dB false]:=by
   refine Jt7 (vs:=[.b false,.b false,.i 0,.l [],.l [],.l [],.b R.site.up,.b R.site.frozen,.i R.site.round,.l (dL R.site.base),.l (dL R.site.added),.l (dDs R.site.done)]) L_k60 rfl ?_;exact JtN (by show (false == R.site.up)=false;rw[u2];rfl) (Jt0 rfl)
  refine JtE hno rfl rfl rfl (JtN rfl (Jt0 ?_));show [dB (decide (300<i64.wrap (c.seq+2)))]=[dB true];rw[hw,decide_eq_true (by omega)]
end Go.Proofs.YtngcnclchcahlaaGreatDoor

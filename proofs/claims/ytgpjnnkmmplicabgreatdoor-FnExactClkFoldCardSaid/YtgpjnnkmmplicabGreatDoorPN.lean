import Derived.Test.YtgpjnnkmmplicabGreatDoorPI
set_option linter.unusedVariables false
set_option linter.unusedSimpArgs false
/- What the reference's catalogue of parts and pins comes to. -/
namespace Go.Proofs.YtgpjnnkmmplicabGreatDoor
open Go Go.Tm
open Go.IntKind (i64)
structure JZ (n:Nat) (s:List (List Int)):Prop where
 len:s.length≤n
 each :∀q∈s,q.length=3∧Lim 10000000 q
theorem JZ.add {n:Nat} {s:List (List Int)} (h:JZ n s) {f:Frm} (hf:Std 10000000 f):JZ (n+1) (Jk s f) :=
 ⟨by have:=Jg1 s f;have:=h.len;omega,Jiq h.each ⟨by rw[Jan];exact hf.c,Jn0 hf.lc⟩⟩
theorem JZ.mono {n m:Nat} {s:List (List Int)} (h:JZ n s) (hm:n≤m):JZ m s:=⟨by have:=h.len;omega,h.each⟩
theorem JZ.adds {n:Nat} {s:List (List Int)} (h:JZ n s) {fs:List Frm} (hf :∀f∈fs,Std 10000000 f):JZ (n+fs.length) (fs.foldl Jk s):=by
 induction fs generalizing n s with
 | nil=>exact h
 | cons f fs ih=>exact(ih (h.add (hf f (by simp))) fun g hg=>hf g (by simp[hg])).mono (by simp;omega)
theorem JZ.rows {n:Nat} {s:List (List Int)×List Bool} (h:JZ n s.1) (h3:s.2.length=3) {rs:List Row} (hr :∀r∈rs,Kf r):JZ (n+6*rs.length) (rs.foldl Qo s).1∧(rs.foldl Qo s).2.length=3:=by
 induction rs generalizing n s with
 | nil=>exact⟨h,h3⟩
 | cons r rs ih =>
  have hr1:=hr r (by simp);have a:=(h.adds hr1.g).mono (show n+r.guards.length≤n+6 by have:=hr1.gl;omega);have b:(Qo s r).2.length=3:=ZA (ZA h3 fun f hf=>(hr1.a f hf).c) fun f hf=>(hr1.t f hf).c;have:=ih (s:=Qo s r) (n:=n+6) a b fun x hx=>hr x (by simp[hx]);exact⟨this.1.mono (by simp;omega),this.2⟩
theorem Jdn (as:List (List Jc)):JZ (3+384*as.length) (Wk as).1∧(Wk as).2.length=3:=by
 have key :∀(n:Nat) (s:List (List Int)×List Bool),JZ n s.1→s.2.length=3→JZ (n+384*as.length) (as.foldl XS s).1∧(as.foldl XS s).2.length=3:=by
  induction as with
  | nil=>intro n s h h3;exact⟨h,h3⟩
  | cons a as ih =>
   intro n s h h3;have:=h.rows h3 (rs:=Jz a) ZI;have hl:=Uz a;have:=ih (n+384) (XS s a) (this.1.mono (by omega)) this.2;exact⟨this.1.mono (by simp;omega),this.2⟩
 refine key 3 _ ⟨by simp[Yu],?_⟩ rfl;intro q hq;simp[Yu] at hq;rcases hq with rfl | rfl | rfl <;> exact⟨rfl,by intro x hx;simp at hx;omega⟩
theorem rdR {rs:List Row} {i:Nat} {r:Row} (h:rs[i]? = some r):(JV rs)[i]? = some r.g:=mA1 (f:=Row.g) h
set_option maxHeartbeats 8000000 in
theorem JlO (as:List (List Jc)) (hf:Xb as) (h4:as.length≤4):Ev L f_k1f [.s (Jf as)] [.s (dLL (Wk as).1),.s (dBl (Wk as).2)]:=by
 refine JrA (vs:=[.l (Jf as)]) L_k1f rfl ?_;refine Jq0 3 (fun v=>[.l (dLL (Yu.take v)),.i v]) (fun _=>True) rfl rfl trivial fun v hv _=>?_;refine Jrh v 3 rfl (fun hv3=>?_) (fun hv3=>?_)
 ·refine Jrw (KK v (by omega) (by omega)) rfl rfl rfl ?_;have hp:Yu[v]? = some (JA (v:Int).toNat).c:=by
   rw[Int.toNat_natCast]
   match v,hv3 with
   | 0,_ | 1,_ | 2,_=>rfl
   | n+3,h=>omega
  refine Jrk (dLL (Yu.take v)) 3 (by rw[K7];simp;omega) (by omega) rfl ?_;refine Jrq (vs:=[.l (dLL (Yu.take (v+1))),.i ((v+1:Nat):Int)]) ?_ ⟨hv3,rfl,trivial⟩;show [V.l (dLL (Yu.take v)++[.s (dL (JA (v:Int).toNat).c)]),V.i (i64.wrap ((v:Int)+1))]=_;rw[wS hv3 (by omega),WN,tS1 hp]
 have hv3:v=3:=by omega
 subst hv3;refine Jrg ?_;refine Jrf as.length (fun i vs=>∃ b:List (List Int)×List Bool,vs=[.l (dLL b.1),.l (dBl b.2),.i i]∧b=Wk (as.take i)) rfl ⟨(Yu,[false,false,false]),rfl,rfl⟩ ?_;rintro i _ hi ⟨⟨b1,b2⟩,rfl,hb⟩;simp only[sC,sN];refine Jru i (QO as) rfl (fun h=>?_) (fun h=>?_)
 ·obtain⟨a,ha,hm⟩:=sA1 h;have hB:Wk (as.take (i+1))=XS (b1,b2) a:=by rw[hb];exact QR ha
  obtain⟨f1,f2⟩:=Jdn (as.take i);rw[←hb] at f1 f2;have f1:=f1.mono (show 3+384*(as.take i).length≤1600 by simp;omega);have hrl:=Uz a;refine Jrd i (mA1 (f:=fun a=> .s (Ji a)) ha) rfl rfl rfl rfl ?_;refine Jrw (Jk2 a (hf.2 a hm)) rfl rfl rfl ?_;have hrf :∀r∈Jz a,Kf r:=ZI;have hAB:XS (b1,b2) a=(Jz a).foldl Qo (b1,b2):=rfl;generalize Jz a=rs at *;refine Jrf rs.length (fun k vs=>∃ c:List (List Int)×List Bool,vs=[.l (dLL c.1),.l (dBl c.2),.i k]∧c=(rs.take k).foldl Qo (b1,b2)) rfl ⟨(b1,b2),rfl,rfl⟩ ?_;rintro k _ hk ⟨⟨c1,c2⟩,rfl,hc⟩;simp only[sC,sN];refine Jru k (X3 rs) rfl (fun h'=>?_) (fun h'=>?_)
  ·obtain⟨r,hr,hmr⟩:=sA1 h';have hfit:=hrf r hmr;have hC:(rs.take (k+1)).foldl Qo (b1,b2)=Qo (c1,c2) r:=by rw[hc];exact QR hr
   obtain⟨g1,g2⟩:=f1.rows f2 (rs:=rs.take k) fun x hx=>hrf x (Jr2 hx);rw[←hc] at g1 g2;have g1:=g1.mono (show 1600+6*(rs.take k).length≤2000 by simp;omega);have hRd:=rdR hr;refine Jrc k hRd rfl rfl rfl rfl rfl rfl ?_;refine Jrw (Jdg c2 r.adds g2 (fun f hf=>(hfit.a f hf).c) (by have:=hfit.al;omega)) rfl rfl rfl ?_;refine Jrc k hRd rfl rfl rfl rfl rfl rfl ?_;have e3:(Qp c2 r.adds).length=3:=ZA g2 fun f hf=>(hfit.a f hf).c;refine Jrw (Jdg (Qp c2 r.adds) r.tells e3 (fun f hf=>(hfit.t f hf).c) (by have:=hfit.tl;omega)) rfl rfl rfl ?_;have hR:Qo (c1,c2) r=(r.guards.foldl Jk c1,Qp (Qp c2 r.adds) r.tells):=rfl;generalize Qp (Qp c2 r.adds) r.tells=d2 at *;generalize Qp c2 r.adds=d1 at *;have hgl:=hfit.gl;refine Jrf r.guards.length (fun g vs=>∃ e:List (List Int),vs=[.l (dLL e),.i g]∧e=(r.guards.take g).foldl Jk c1) rfl ⟨c1,rfl,rfl⟩ ?_;rintro g _ hg ⟨e,rfl,he⟩;simp only[sC,sN];refine Jrc k hRd rfl rfl rfl rfl rfl rfl ?_;refine Jru g (JS r.guards) rfl (fun hg'=>?_) (fun hg'=>?_)
   ·obtain⟨f,hfg,hmf⟩:=sA1 hg';have hsf:=hfit.g f hmf;have hE:(r.guards.take (g+1)).foldl Jk c1=Jk e f:=by rw[he];exact QR hfg
    have e1:=(g1.adds (fs:=r.guards.take g) fun x hx=>hfit.g x (Jr2 hx)).mono (show 2000+(r.guards.take g).length≤2010 by simp;omega);rw[←he] at e1;have nx :∀(x:List (List Int)),x=Jk e f→[V.l (dLL x),V.i (i64.wrap ((g:Int)+1))]=[.l (dLL (Jk e f)),.i ((g+1:Nat):Int)]:=by
     intro x hx;rw[hx,wS hg' (by omega)]
    refine Jrc k hRd rfl rfl rfl rfl rfl rfl ?_;refine Jrd g (mA1 (f:=Frm.g) hfg) rfl rfl rfl rfl ?_;refine Jrw (JiP f (hsf.lc.mono (by omega)) (by rw[hsf.c];omega)) rfl rfl rfl ?_;have el:=e1.len;have hp3:(Jn f.c).length=3:=by rw[Jan];exact hsf.c
    have hAP:Jk e f=if Up e (Jn f.c)<0∧Jn f.c≠[0,0,0] then e++[Jn f.c] else e:=rfl;generalize Jn f.c=pt at *;refine Jrw (JkU e pt (by omega) (fun q hq=>by rw[(e1.each q hq).1];omega)) rfl rfl rfl ?_;generalize Up e pt=ha at *;refine Jrx (ha<0) rfl (fun h0=>?_) (fun h0=>?_)
    ·refine Jrw Zo rfl rfl rfl ?_;refine Jrw (JeC pt [0,0,0] (by omega)) rfl rfl rfl ?_;refine Jrm (decide (pt=[0,0,0])) rfl (fun hz=>?_) (fun hz=>?_)
     ·refine Jrk (dLL e) 3000 (by rw[K7];omega) (by omega) rfl ?_;refine Jrq (vs:=[.l (dLL (Jk e f)),.i ((g+1:Nat):Int)]) ?_ ⟨hg',Jk e f,rfl,hE.symm⟩;show [V.l (dLL e++[.s (dL pt)]),V.i (i64.wrap ((g:Int)+1))]=_;rw[WN];refine nx _ ?_;rw[hAP,if_pos ⟨h0,by simpa using hz⟩]
     ·refine Jrq (nx e ?_) ⟨hg',Jk e f,rfl,hE.symm⟩;rw[hAP,if_neg];intro ⟨_,h⟩;exact h (by simpa using hz)
    ·refine Jrq (nx e ?_) ⟨hg',Jk e f,rfl,hE.symm⟩;rw[hAP,if_neg];intro ⟨h,_⟩;exact h0 h
   ·refine Jrg ?_;rw[tA1 hg'] at he;refine Jrq (vs:=[.l (dLL e),.l (dBl d2),.i ((k+1:Nat):Int)]) ?_ ⟨h',(e,d2),rfl,by rw[hC,hR,he]⟩;show [V.l (dLL e),V.l (dBl d2),V.i (i64.wrap ((k:Int)+1))]=_;rw[wS h' (by omega)]
  ·refine Jrg ?_;rw[tA1 h'] at hc;refine Jrq (vs:=[.l (dLL c1),.l (dBl c2),.i ((i+1:Nat):Int)]) ?_ ⟨h,(c1,c2),rfl,by rw[hB,hAB,hc]⟩;show [V.l (dLL c1),V.l (dBl c2),V.i (i64.wrap ((i:Int)+1))]=_;rw[wS h (by omega)]
 ·refine Jrg (JqZ ?_);show [D.s (dLL b1),.s (dBl b2)]=_;rw[tA1 h] at hb;rw[←hb]
theorem KM {as:List (List Jc)} (h:QK as=true):1≤as.length∧as.length≤4∧∀a∈as,Qh a=true:=by
 simp only[QK,JrE,JG,JrR] at h;exact⟨by omega,by omega,h.2⟩
theorem Jar (as:List (List Jc)):JZ 1600 (Jg as):=by
 unfold Jg;split
 ·rename_i h;exact(Jdn as).1.mono (by have:=(KM h).2.1;omega)
 ·exact⟨by simp,by simp⟩
/- What the reference's treaties come to. -/
theorem Kv (l:List Int) (hl:l.length≤2000000):Ev L f_ky [.s (dL l)] [dB (J3 l)] :=
 JrA (vs:=[.l (dL l)]) L_ky rfl (Jrw (XL l 3 10000 hl (by omega) (by omega)) rfl rfl rfl (JqZ rfl))
theorem Jff (b g:List Int) (hb:b.length≤2000000) (hg:g.length≤2000000):Ev L f_kz [.s (dL b),.s (dL g)] [dB (QL b g)]:=by
 refine JrA (vs:=[.l (dL b),.l (dL g)]) L_kz rfl ?_;refine Jrw (Kv b hb) rfl rfl rfl ?_;refine Jrm (J3 b) rfl (fun h=>JqZ ?_) (fun h=>?_)
 ·show [dB false]=_;simp[QL,h]
 refine Jrw (Qn g.length 1 3) rfl ?_ rfl ?_
 ·show [dI ((dL g).length:Int),dI 1,dI 3]=_;rw[dL1]
 refine Jrm (inB g.length 1 3) rfl (fun h2=>JqZ ?_) (fun h2=>?_)
 ·show [dB false]=_;simp[QL,h2]
 refine Jq0 g.length (fun i=>[.i i]) (fun i=>(g.take i).all (fun x=>inB x 0 50)=true) rfl rfl (by simp) fun i hi hp=>?_;refine Jru i (dL1 g) rfl (fun h'=>?_) (fun h'=>?_)
 ·obtain⟨x,hx,hm⟩:=sA1 h';refine Jrd i (mA1 (f:=dI) hx) rfl rfl rfl rfl ?_;refine Jrw (Qn x 0 50) rfl rfl rfl ?_;refine Jrm (inB x 0 50) rfl (fun hb=>Jrg (JqZ ?_)) (fun hb=>?_)
  ·show [dB false]=_;simp only[QL,Za (p:=fun x=>inB x 0 50) hx hb,Bool.and_false]
  ·refine Jrq (vs:=[.i ((i+1:Nat):Int)]) ?_ ⟨h',rfl,Q2 (p:=fun x=>inB x 0 50) hx hp hb⟩;show [V.i (i64.wrap ((i:Int)+1))]=_;rw[wS h' (by omega)]
 ·refine Jrg (JqZ ?_);rw[tA1 h'] at hp;show [dB true]=_;simp only[QL,h,h2,hp];rfl
def fitLL (ps:List (List Int)):Prop:=ps.length≤2000000∧∀p∈ps,p.length≤2000000
theorem JiV (ps:List (List Int)) (hp:fitLL ps):Ev L f_k1k [.s (dLL ps)] [dB (Xc ps)]:=by
 have hl:=hp.1;refine JrA (vs:=[.l (dLL ps)]) L_k1k rfl ?_;refine Jq0 ps.length (fun i=>[.i i]) (fun i=>(ps.take i).all (fun p=>JE 3 10000000 p)=true) rfl rfl (by simp) fun i hi hq=>?_;refine Jru i (K7 ps) rfl (fun h'=>?_) (fun h'=>?_)
 ·obtain⟨x,hx,hm⟩:=sA1 h';refine Jrd i (mA1 (f:=fun x=> .s (dL x)) hx) rfl rfl rfl rfl ?_;refine Jrw (XL x 3 10000000 (hp.2 x hm) (by omega) (by omega)) rfl rfl rfl ?_;refine Jrm (JE 3 10000000 x) rfl (fun hb=>Jrg (JqZ ?_)) (fun hb=>?_)
  ·show [dB false]=_;simp only[Xc,Za (p:=fun p=>JE 3 10000000 p) hx hb]
  ·refine Jrq (vs:=[.i ((i+1:Nat):Int)]) ?_ ⟨h',rfl,Q2 (p:=fun p=>JE 3 10000000 p) hx hq hb⟩;show [V.i (i64.wrap ((i:Int)+1))]=_;rw[wS h' (by omega)]
 ·refine Jrg (JqZ ?_);rw[tA1 h'] at hq;show [dB true]=_;simp only[Xc,hq]
theorem WP {a b:List Int} {i:Nat} {x y:Int} (hx:a[i]? = some x) (hy:b[i]? = some y):dot (a.take (i+1)) (b.take (i+1))=dot (a.take i) (b.take i)+x*y:=by
 have h1:=(JrF.1 hx).1;have h2:=(JrF.1 hy).1;rw[tS1 hx,tS1 hy,Jop x y (by simp;omega)]
theorem Jg3 {a b:List Int} {i:Nat} {x y:Int} (hx:a[i]? = some x) (hy:b[i]? = some y) (ha:Lim 100000000 a) (hb:Lim 1000000 b) (hi:i<1000) :
  i64.wrap (dot (a.take i) (b.take i)+i64.wrap (x*y))=dot (a.take (i+1)) (b.take (i+1)):=by
 have h1:=Ud (ha.take i) (hb.take i) (by omega) (by omega);have h2:((a.take i).length:Int)≤1000:=by simp;omega
 have h3:=ZU (ha x (JrL hx)) (hb y (JrL hy));rw[WP hx hy,w64 (n:=x*y) (by omega) (by omega),w64 (by omega) (by omega)]
theorem JiI (p a:List Int) (hp:JE 3 10000000 p=true) (ha:JE 3 20000 a=true):Ev L f_k1l [.s (dL p),.s (dL a)] [dI (dot p a)]:=by
 obtain⟨p1,p2⟩:=JB.1 hp;obtain⟨a1,a2⟩:=JB.1 ha;have p2:Lim 100000000 p:=Lim.mono (m:=10000000) p2 (by omega);have a2:Lim 1000000 a:=Lim.mono (m:=20000) a2 (by omega);refine JrA (vs:=[.l (dL p),.l (dL a)]) L_k1l rfl ?_;refine Jq0 3 (fun i=>[.i (dot (p.take i) (a.take i)),.i i]) (fun _=>True) rfl rfl trivial fun i hi _=>?_;refine Jrh i 3 rfl (fun h=>?_) (fun h=>?_)
 ·obtain⟨x,hx,_⟩:=sA1 (show i<p.length by omega);obtain⟨y,hy,_⟩:=sA1 (show i<a.length by omega);refine Jrd i (mA1 (f:=dI) hx) rfl rfl rfl rfl ?_;refine Jrd i (mA1 (f:=dI) hy) rfl rfl rfl rfl ?_;refine Jrq (vs:=[.i (dot (p.take (i+1)) (a.take (i+1))),.i ((i+1:Nat):Int)]) ?_ ⟨h,rfl,trivial⟩;show [V.i (i64.wrap (dot (p.take i) (a.take i)+i64.wrap (x*y))),V.i (i64.wrap ((i:Int)+1))]=_;rw[wS h (by omega),Jg3 hx hy p2 a2 (by omega)]
 ·refine Jrg (JqZ ?_);show [dI (dot (p.take i) (a.take i))]=_;rw[JrI (by omega),JrI (by omega)]
theorem Vv {l:List Int} {i:Nat} (h:i<l.length):l[i]? = some (l.getD i 0):=by simp[JrH,h]
theorem JfZ (b g:List Int) (ps:List (List Int)) (s:Int) (a:List Int) (hb:b.length≤2000000) (hg:g.length≤2000000) (hp:fitLL ps) (ha:a.length≤2000000) :
  Ev L f_k1m [.s (dL b),.s (dL g),.s (dLL ps),dI s,.s (dL a)] [dB (keeps b g ps s a)]:=by
 have hpl:=hp.1;refine JrA (vs:=[.l (dL b),.l (dL g),.l (dLL ps),.i s,.l (dL a)]) L_k1m rfl ?_;refine Jrw (Jff b g hb hg) rfl rfl rfl ?_;refine Jrm (QL b g) rfl (fun h=>JqZ ?_) (fun h=>?_)
 ·show [dB false]=_;simp[keeps,h]
 refine Jrw (JiV ps hp) rfl rfl rfl ?_;refine Jrm (Xc ps) rfl (fun h2=>JqZ ?_) (fun h2=>?_)
 ·show [dB false]=_;simp[keeps,h2]
 refine Jrw (Qn s 0 (g.length-1)) rfl ?_ rfl ?_
 ·show [dI s,dI 0,dI (i64.wrap (((dL g).length:Int)-1))]=_;rw[dL1,w64 (by omega) (by omega)]
 refine Jrm (inB s 0 (g.length-1)) rfl (fun h3=>JqZ ?_) (fun h3=>?_)
 ·show [dB false]=_;simp[keeps,h3]
 refine Jrw (XL a 3 20000 ha (by omega) (by omega)) rfl rfl rfl ?_;refine Jrm (JE 3 20000 a) rfl (fun h4=>JqZ ?_) (fun h4=>?_)
 ·show [dB false]=_;simp[keeps,Xx,h4]
 have hs:=JG.1 h3;have hsg:s.toNat<g.length:=by omega
 have hgs:=Vv hsg;have hgm:=KU (p:=fun x=>0≤x∧x≤50) (l:=g) (by
  intro x hx;simp only[QL,JrE,JrR] at h;exact JG.1 (h.2 x hx)) hsg
 have hdS:(dL g)[s.toNat]? = some (dI (g.getD s.toNat 0)):=mA1 (f:=dI) hgs;simp only[keeps,Xx,h,h2,h3,h4,JrY];generalize g.getD s.toNat 0=G at *;refine Jq0 ps.length (fun i=>[.i i]) (fun i=>(ps.take i).all (Km G a)=true) rfl rfl (by simp) fun i hi hq=>?_;refine Jru i (K7 ps) rfl (fun h'=>?_) (fun h'=>?_)
 ·obtain⟨x,hx,hm⟩:=sA1 h';have hxo:JE 3 10000000 x=true:=JrR.1 h2 x hm;refine Jrd i (mA1 (f:=fun x=> .s (dL x)) hx) rfl rfl rfl rfl ?_;refine Jrw (JiI x a hxo h4) rfl rfl rfl ?_;refine Jq9 (ds:=dL g) s rfl rfl rfl hs.1 hdS rfl ?_;refine Jq9 (ds:=dL g) s rfl rfl rfl hs.1 hdS rfl ?_;refine Jrw (Qn (dot x a) (0-G) G) rfl ?_ rfl ?_
  ·show [dI (dot x a),dI (i64.wrap (0-G)),dI G]=_;rw[w64 (by omega) (by omega)]
  refine Jrm (inB (dot x a) (0-G) G) rfl (fun hb=>Jrg (JqZ ?_)) (fun hb=>?_)
  ·show [dB false]=_;rw[Za (p:=Km G a) hx hb]
  ·refine Jrq (vs:=[.i ((i+1:Nat):Int)]) ?_ ⟨h',rfl,Q2 (p:=Km G a) hx hq hb⟩;show [V.i (i64.wrap ((i:Int)+1))]=_;rw[wS h' (by omega)]
 ·refine Jrg (JqZ ?_);rw[tA1 h'] at hq;show [dB true]=_;rw[hq]
/- What the program's treaties come to. -/
theorem X2 (n a b:Int):Ev L f_k26 [dI n,dI a,dI b] [dB (inB n a b)]:=by
 refine JrA (vs:=[.i n,.i a,.i b]) L_k26 rfl ?_;refine Jrx (a≤n) rfl (fun h=>JqZ ?_) (fun h=>JqZ ?_)
 ·show [dB (decide (n≤b))]=_;simp[inB,h]
 ·show [dB false]=_;simp[inB,h]
theorem Jfj (p:Int→Bool) (l:List Int) {fn:FuncId} {caps:List D} (hlen:l.length≤2000000) (hcap:QY (.f fn caps) = .f fn caps) (har:arT L fn=some ([none]++caps.map fun _=>none))
  (hc :∀x∈l,Ev L fn ([dI x]++caps.map D.norm) [dB (p x)]):Ev L f_k2a [.s (dL l),.f fn caps] [dI (Zy p l)] :=
 YM (sh:= .one (.i .i64)) (as:=[(.vi .i64 (.v 3))]) (ar:=[none]) (k:=4) dI p (fun x=>[dI x]) (fun x=>[.i x]) l L_k2a rfl hlen hcap (fun _ _=>rfl) (fun _ _=>rfl) (fun _ _ _ _=>rfl) har hc
theorem Vx (p:Int→Bool) (l:List Int) {fn:FuncId} {caps:List D} (hlen:l.length≤2000000) (hcap:QY (.f fn caps) = .f fn caps) (har:arT L fn=some ([none]++caps.map fun _=>none))
  (hc :∀x∈l,Ev L fn ([dI x]++caps.map D.norm) [dB (p x)]):Ev L f_k2b [.s (dL l),.f fn caps] [dB (l.any p)] :=
 X5 (g:=f_k2a) L_k2b rfl hcap (Jfj p l hlen hcap har hc)
theorem JcZ (p:List Int→Bool) (l:List (List Int)) {fn:FuncId} {caps:List D} (hlen:l.length≤2000000) (hcap:QY (.f fn caps) = .f fn caps) (har:arT L fn=some ([none]++caps.map fun _=>none))
  (hc :∀x∈l,Ev L fn ([.s (dL x)]++caps.map D.norm) [dB (p x)]):Ev L f_k3a [.s (dLL l),.f fn caps] [dI (Zy p l)] :=
 YM (sh:= .one .s) (as:=[(.s (.v 3))]) (ar:=[none]) (k:=4) (fun x=> .s (dL x)) p (fun x=>[.s (dL x)]) (fun x=>[.l (dL x)]) l L_k3a rfl hlen hcap (fun _ _=>rfl) (fun _ _=>rfl) (fun _ _ _ _=>rfl) har hc
theorem JdR (p:List Int→Bool) (l:List (List Int)) {fn:FuncId} {caps:List D} (hlen:l.length≤2000000) (hcap:QY (.f fn caps) = .f fn caps) (har:arT L fn=some ([none]++caps.map fun _=>none))
  (hc :∀x∈l,Ev L fn ([.s (dL x)]++caps.map D.norm) [dB (p x)]):Ev L f_k3x [.s (dLL l),.f fn caps] [dB (l.any p)] :=
 X5 (g:=f_k3a) L_k3x rfl hcap (JcZ p l hlen hcap har hc)
theorem Z5 {α:Type} (p:α→Bool) (l:List α):(!(l.any fun x=>!p x))=l.all p:=by
 induction l with
 | nil=>rfl
 | cons x l ih=>simp[ih]
theorem JgP (x m:Int) (h0:0≤m) (hm:m≤10000000000000):Ev L f_k29 [dI x,.q [dI m]] [dB (!inB x (0-m) m)]:=by
 refine JrA (vs:=[.i x,.d (.q [dI m])]) L_k29 rfl ?_;refine Jq6 (vs:=[.i m]) rfl rfl ?_;refine Jq6 (vs:=[.i m]) rfl rfl ?_;refine Jrw (X2 x (0-m) m) rfl ?_ rfl (JqZ rfl);show [dI x,dI (i64.wrap (0-m)),dI m]=_;rw[w64 (by omega) (by omega)]
theorem Q4 (l:List Int) (n m:Int) (hl:l.length≤2000000) (h0:0≤m) (hm:m≤10000000000000):Ev L f_k2c [.s (dL l),dI n,dI m] [dB (JE n m l)]:=by
 refine JrA (vs:=[.l (dL l),.i n,.i m]) L_k2c rfl ?_;refine Jrx ((l.length:Int)=n) ?_ (fun h=>?_) (fun h=>JqZ ?_)
 ·show decide (((dL l).length:Int)=n)=_;rw[dL1]
 ·refine Jrw (Vx (fun x=>!inB x (0-m) m) l (fn:=f_k29) (caps:=[.q [dI m]]) hl rfl rfl fun x _=>JgP x m h0 hm) rfl rfl rfl (JqZ ?_);show [dB (!(l.any fun x=>!inB x (0-m) m))]=_;rw[Z5];simp[JE,h]
 ·show [dB false]=_;simp[JE,h]
theorem KJ (l:List Int) (hl:l.length≤2000000):Ev L f_k2m [.s (dL l)] [dB (J3 l)] :=
 JrA (vs:=[.l (dL l)]) L_k2m rfl (Jrw (Q4 l 3 10000 hl (by omega) (by omega)) rfl rfl rfl (JqZ rfl))
theorem JiR (x:Int):Ev L f_k2l [dI x] [dB (!inB x 0 50)] :=
 JrA (vs:=[.i x]) L_k2l rfl (Jrw (X2 x 0 50) rfl rfl rfl (JqZ rfl))
theorem JgV (b g:List Int) (hb:b.length≤2000000) (hg:g.length≤2000000):Ev L f_k2n [.s (dL b),.s (dL g)] [dB (QL b g)]:=by
 refine JrA (vs:=[.l (dL b),.l (dL g)]) L_k2n rfl ?_;refine Jrw (KJ b hb) rfl rfl rfl ?_;refine Jq5 (J3 b) rfl (fun h=>?_) (fun h=>JqZ ?_)
 ·refine Jrw (X2 g.length 1 3) rfl ?_ rfl ?_
  ·show [dI ((dL g).length:Int),dI 1,dI 3]=_;rw[dL1]
  refine Jq5 (inB g.length 1 3) rfl (fun h2=>?_) (fun h2=>JqZ ?_)
  ·refine Jrw (Vx (fun x=>!inB x 0 50) g (fn:=f_k2l) (caps:=[]) hg rfl rfl fun x _=>JiR x) rfl rfl rfl (JqZ ?_);show [dB (!(g.any fun x=>!inB x 0 50))]=_;rw[Z5];simp[QL,h,h2]
  ·show [dB false]=_;simp[QL,h2]
 ·show [dB false]=_;simp[QL,h]
theorem Jft (p:List Int) (hp:p.length≤2000000):Ev L f_k3y [.s (dL p)] [dB (!JE 3 10000000 p)] :=
 JrA (vs:=[.l (dL p)]) L_k3y rfl (Jrw (Q4 p 3 10000000 hp (by omega) (by omega)) rfl rfl rfl (JqZ rfl))
theorem JiU (ps:List (List Int)) (hp:fitLL ps):Ev L f_k3z [.s (dLL ps)] [dB (Xc ps)]:=by
 refine JrA (vs:=[.l (dLL ps)]) L_k3z rfl ?_;refine Jrw (JdR (fun p=>!JE 3 10000000 p) ps (fn:=f_k3y) (caps:=[]) hp.1 rfl rfl fun p h=>Jft p (hp.2 p h)) rfl rfl rfl (JqZ ?_);show [dB (!(ps.any fun p=>!JE 3 10000000 p))]=_;rw[Z5];rfl
theorem JjL (a:List Int) (ha:a.length≤2000000):Ev L f_k40 [.s (dL a)] [dB (Xx a)] :=
 JrA (vs:=[.l (dL a)]) L_k40 rfl (Jrw (Q4 a 3 20000 ha (by omega) (by omega)) rfl rfl rfl (JqZ rfl))
def Zd (b g:List Int) (ps:List (List Int)) (s:Int) (a:List Int):Bool:=QL b g&&Xc ps&&inB s 0 (g.length-1)&&Xx a
theorem JbR (b g:List Int) (ps:List (List Int)) (s:Int) (a:List Int) (hb:b.length≤2000000) (hg:g.length≤2000000) (hp:fitLL ps) (ha:a.length≤2000000) :
  Ev L f_k41 [.s (dL b),.s (dL g),.s (dLL ps),dI s,.s (dL a)] [dB (Zd b g ps s a)]:=by
 refine JrA (vs:=[.l (dL b),.l (dL g),.l (dLL ps),.i s,.l (dL a)]) L_k41 rfl ?_;refine Jrw (JgV b g hb hg) rfl rfl rfl ?_;refine Jq5 (QL b g) rfl (fun h=>?_) (fun h=>JqZ ?_)
 ·refine Jrw (JiU ps hp) rfl rfl rfl ?_;refine Jq5 (Xc ps) rfl (fun h2=>?_) (fun h2=>JqZ ?_)
  ·refine Jrw (X2 s 0 (g.length-1)) rfl ?_ rfl ?_
   ·show [dI s,dI 0,dI (i64.wrap (((dL g).length:Int)-1))]=_;rw[dL1,w64 (by omega) (by omega)]
   refine Jq5 (inB s 0 (g.length-1)) rfl (fun h3=>?_) (fun h3=>JqZ ?_)
   ·refine Jrw (JjL a ha) rfl rfl rfl (JqZ ?_);show [dB (Xx a)]=_;simp[Zd,h,h2,h3]
   ·show [dB false]=_;simp[Zd,h3]
  ·show [dB false]=_;simp[Zd,h2]
 ·show [dB false]=_;simp[Zd,h]
theorem Jp6 (p a:List Int) (hp:Lim 100000000 p) (ha:Lim 1000000 a) (hl:p.length=a.length) (h9:p.length≤999):Ev L f_k42 [.s (dL p),.s (dL a)] [dI (dot p a)]:=by
 refine JrA (vs:=[.l (dL p),.l (dL a)]) L_k42 rfl ?_;refine Jq0 p.length (fun i=>[.i (dot (p.take i) (a.take i)),.i i]) (fun _=>True) rfl rfl trivial fun i hi _=>?_;refine Jru i (dL1 p) rfl (fun h=>?_) (fun h=>?_)
 ·obtain⟨x,hx,_⟩:=sA1 (show i<p.length by omega);obtain⟨y,hy,_⟩:=sA1 (show i<a.length by omega);refine Jrd i (mA1 (f:=dI) hx) rfl rfl rfl rfl ?_;refine Jrd i (mA1 (f:=dI) hy) rfl rfl rfl rfl ?_;refine Jrq (vs:=[.i (dot (p.take (i+1)) (a.take (i+1))),.i ((i+1:Nat):Int)]) ?_ ⟨h,rfl,trivial⟩;show [V.i (i64.wrap (dot (p.take i) (a.take i)+i64.wrap (x*y))),V.i (i64.wrap ((i:Int)+1))]=_;rw[wS h (by omega),Jg3 hx hy hp ha (by omega)]
 ·refine Jrg (JqZ ?_);show [dI (dot (p.take i) (a.take i))]=_;rw[tA1 h,tA1 (by omega)]
theorem Jd6 (p a:List Int) (G:Int) (hp:JE 3 10000000 p=true) (ha:Xx a=true) (h0:0≤G) (h5:G≤50):Ev L f_k43 [.s (dL p),.q [.s (dL a)],.q [dI G]] [dB (!Km G a p)]:=by
 obtain⟨p1,p2⟩:=JB.1 hp;obtain⟨a1,a2⟩:=JB.1 ha;refine JrA (vs:=[.l (dL p),.d (.q [.s (dL a)]),.d (.q [dI G])]) L_k43 rfl ?_;refine Jq6 (vs:=[.l (dL a)]) rfl rfl ?_;refine Jrw (Jp6 p a (Lim.mono (m:=10000000) p2 (by omega)) (Lim.mono (m:=20000) a2 (by omega)) (by omega) (by omega)) rfl rfl rfl ?_;refine Jq6 (vs:=[.i G]) rfl rfl ?_;refine Jq6 (vs:=[.i G]) rfl rfl ?_;refine Jrw (X2 (dot p a) (0-G) G) rfl ?_ rfl (JqZ rfl);show [dI (dot p a),dI (i64.wrap (0-G)),dI G]=_;rw[w64 (by omega) (by omega)]
theorem Jg6 {b g:List Int} {ps:List (List Int)} {s:Int} {a:List Int} (h:Zd b g ps s a=true) :
  QL b g=true∧Xc ps=true∧0≤s∧s<g.length∧Xx a=true∧g[s.toNat]? = some (g.getD s.toNat 0)∧0≤g.getD s.toNat 0∧g.getD s.toNat 0≤50:=by
 simp only[Zd,JrE,JG] at h;obtain⟨⟨⟨h1,h2⟩,h3⟩,h4⟩:=h;have hsg:s.toNat<g.length:=by omega
 have hgm:=KU (p:=fun x=>0≤x∧x≤50) (l:=g) (by
  intro x hx;simp only[QL,JrE,JrR] at h1;exact JG.1 (h1.2 x hx)) hsg
 exact⟨h1,h2,h3.1,by omega,h4,Vv hsg,hgm⟩
theorem Jjf (b g:List Int) (ps:List (List Int)) (s:Int) (a:List Int):keeps b g ps s a=(Zd b g ps s a&&ps.all (Km (g.getD s.toNat 0) a)):=rfl
theorem JhF (b g:List Int) (ps:List (List Int)) (s:Int) (a:List Int) (hb:b.length≤2000000) (hg:g.length≤2000000) (hp:fitLL ps) (ha:a.length≤2000000) :
  Ev L f_k44 [.s (dL b),.s (dL g),.s (dLL ps),dI s,.s (dL a)] [dB (keeps b g ps s a)]:=by
 refine JrA (vs:=[.l (dL b),.l (dL g),.l (dLL ps),.i s,.l (dL a)]) L_k44 rfl ?_;refine Jrw (JbR b g ps s a hb hg hp ha) rfl rfl rfl ?_;rw[Jjf];refine Jrm (Zd b g ps s a) rfl (fun h=>JqZ ?_) (fun h=>?_)
 ·show [dB false]=_;rw[h];rfl
 obtain⟨h1,h2,s0,s1,h4,hd,g0,g5⟩:=Jg6 h;generalize g.getD s.toNat 0=G at *;refine Jq9 (ds:=dL g) s rfl rfl rfl s0 (mA1 (f:=dI) hd) rfl ?_;refine Jrw (JdR (fun p=>!Km G a p) ps (fn:=f_k43) (caps:=[.q [.s (dL a)],.q [dI G]]) hp.1 rfl rfl fun p hm=>Jd6 p a G (JrR.1 h2 p hm) h4 g0 g5) rfl rfl rfl (JqZ ?_);show [dB (!(ps.any fun p=>!Km G a p))]=_;rw[Z5,h];rfl
/- All sites keep to a treaty just if each does: over residual programs. -/
theorem JZ.fitLL {n:Nat} {ps:List (List Int)} (h:JZ n ps) (hn:n≤2000000):fitLL ps:=⟨by have:=h.len;omega,fun p hp=>by rw[(h.each p hp).1];omega⟩
/- What the program's forms and acts come to. -/
theorem Yl (l:List Int):XZ 1 (dL l)=true:=by cases l <;> rfl
theorem JoT (l:List Frm):XZ 3 (dF l)=true:=by cases l <;> rfl
theorem J0 (l:List Int) (hl:l.length≤2000000):Ev L f_k2r [.s (dL l)] [.s (dL l)] :=
 Jow L_k2r rfl (Yl l) (by rw[dL1];exact hl) (by omega)
theorem Jch (a b:List Int) (hl:a.length≤2000000):Ev L f_k2e [.s (dL a),.s (dL b)] [dB (decide (a=b))] :=
 JfC dI .i a b L_k2e rfl (fun _=>rfl) (fun _ _ _ _ _=>rfl) hl
theorem JlU (f:Frm) (hf:Frm.fit f):Ev L f_k2s f.cells f.cells:=by
 refine JrA (vs:=[.l (dL f.c),.l (dL f.d),.i f.k]) L_k2s rfl ?_;refine Jrw (J0 f.c hf.1) rfl rfl rfl ?_;exact Jrw (J0 f.d hf.2) rfl rfl rfl (JqZ rfl)
theorem Yp :∀l:List Int,Jy (dL l)=true
 | []=>rfl
 | x::l=>Yp l
theorem Yh (l:List Frm) (hl:l.length≤2000000) (hf :∀f∈l,Frm.fit f):Ev L f_k2t [.s (dF l)] [.s (dF l)]:=by
 refine JrA (vs:=[.l (dF l)]) L_k2t rfl ?_;refine Jq0 l.length (fun i=>[.l (dF (l.take i)),.i i]) (fun _=>True) rfl rfl trivial fun i hi _=>?_;refine Jru i (JS l) rfl (fun h=>?_) (fun h=>?_)
 ·obtain⟨x,hx,hm⟩:=sA1 h;refine Jrd i (mA1 (f:=Frm.g) hx) rfl rfl rfl rfl ?_;refine Jrw (JlU x (hf x hm)) rfl rfl rfl ?_;refine Jri (Yp x.c) (Jri (Yp x.d) ?_);refine Jrk (dF (l.take i)) 2000000 (by rw[JS];simp;omega) (by omega) rfl ?_;refine Jrq (vs:=[.l (dF (l.take (i+1))),.i ((i+1:Nat):Int)]) ?_ ⟨h,rfl,trivial⟩;show [V.l (dF (l.take i)++[x.g]),V.i (i64.wrap ((i:Int)+1))]=_;rw[wS h (by omega),QM,tS1 hx]
 ·refine Jrg (JqZ ?_);show [D.s (dF (l.take i))]=_;rw[tA1 h]
theorem JgT (l:List Int) (hl:l.length≤2000000):Ev L f_k3v [.s (dL l)] [dB (XN l)] :=
 JrA (vs:=[.l (dL l)]) L_k3v rfl (Jrw (Q4 l 2 9 hl (by omega) (by omega)) rfl rfl rfl (JqZ rfl))
theorem Zj (f:Frm) (hf:Frm.fit f):Ev L f_k2u f.cells [dB f.ok]:=by
 refine JrA (vs:=[.l (dL f.c),.l (dL f.d),.i f.k]) L_k2u rfl ?_;refine Jrw (Q4 f.c 3 10000000 hf.1 (by omega) (by omega)) rfl rfl rfl ?_;refine Jq5 (JE 3 10000000 f.c) rfl (fun h=>?_) (fun h=>JqZ ?_)
 ·refine Jrw (Q4 f.d 2 10000000 hf.2 (by omega) (by omega)) rfl rfl rfl ?_;refine Jq5 (JE 2 10000000 f.d) rfl (fun h2=>?_) (fun h2=>JqZ ?_)
  ·refine Jrw (X2 f.k (-10000000) 10000000) rfl rfl rfl (JqZ ?_);show [dB (inB f.k (-10000000) 10000000)]=_;simp[Frm.ok,h,h2]
  ·show [dB false]=_;simp[Frm.ok,h2]
 ·show [dB false]=_;simp[Frm.ok,h]
theorem JaY (f:Frm) (hf:Frm.fit f):Ev L f_k2d f.cells [dB f.small]:=by
 refine JrA (vs:=[.l (dL f.c),.l (dL f.d),.i f.k]) L_k2d rfl ?_;refine Jrw (Q4 f.c 3 2 hf.1 (by omega) (by omega)) rfl rfl rfl ?_;refine Jq5 (JE 3 2 f.c) rfl (fun h=>?_) (fun h=>JqZ ?_)
 ·refine Jrw (Q4 f.d 2 2 hf.2 (by omega) (by omega)) rfl rfl rfl ?_;refine Jq5 (JE 2 2 f.d) rfl (fun h2=>?_) (fun h2=>JqZ ?_)
  ·refine Jrw (X2 f.k (-20) 20) rfl rfl rfl (JqZ ?_);show [dB (inB f.k (-20) 20)]=_;simp[Frm.small,h,h2]
  ·show [dB false]=_;simp[Frm.small,h2]
 ·show [dB false]=_;simp[Frm.small,h]
theorem Jni (f g:Frm) (hf:Frm.fit f):Ev L f_k2f (f.cells++g.cells) [dB (decide (f=g))]:=by
 refine JrA (vs:=[.l (dL f.c),.l (dL f.d),.i f.k,.l (dL g.c),.l (dL g.d),.i g.k]) L_k2f rfl ?_;have e:decide (f=g)=(decide (f.k=g.k)&&decide (f.c=g.c)&&decide (f.d=g.d)):=by
  obtain⟨a,b,c⟩:=f;obtain⟨a',b',c'⟩:=g;simp only[Frm.mk.injEq]
  by_cases h1:a=a' <;> by_cases h2:b=b' <;> by_cases h3:c=c' <;> simp[h1,h2,h3]
 rw[e];refine Jrx (f.k=g.k) rfl (fun h=>?_) (fun h=>JqZ ?_)
 ·refine Jrw (Jch f.c g.c hf.1) rfl rfl rfl ?_;refine Jq5 (decide (f.c=g.c)) rfl (fun h2=>?_) (fun h2=>JqZ ?_)
  ·refine Jrw (Jch f.d g.d hf.2) rfl rfl rfl (JqZ ?_);show [dB (decide (f.d=g.d))]=_;simp only[h,h2];simp
  ·show [dB false]=_;simp only[h2];simp
 ·show [dB false]=_;simp only[h];simp
theorem Jm2 (l:Jc) (hf:Frm.fit l.f):Ev L f_k2g l.cells [dB l.ok]:=by
 refine JrA (vs:=[.i l.kind,.i l.pot,.i l.skip,.l (dL l.f.c),.l (dL l.f.d),.i l.f.k]) L_k2g rfl ?_;refine Jrx (l.kind=1) rfl (fun h1=>?_) (fun h1=>?_)
 ·refine Jrw (X2 l.skip 1 6) rfl rfl rfl ?_;refine Jq5 (inB l.skip 1 6) rfl (fun h3=>?_) (fun h3=>JqZ ?_)
  ·refine Jrx (l.pot=0) rfl (fun h2=>?_) (fun h2=>JqZ ?_)
   ·refine Jrw (JaY l.f hf) rfl rfl rfl (JqZ ?_);show [dB l.f.small]=_;simp[Jc.ok,h1,h2,h3]
   ·show [dB false]=_;simp[Jc.ok,h1,h2]
  ·show [dB false]=_;simp[Jc.ok,h1,h3]
 refine Jrx (l.kind=2) rfl (fun h2=>?_) (fun h2=>?_)
 ·refine Jrw (X2 l.pot 0 2) rfl rfl rfl ?_;refine Jq5 (inB l.pot 0 2) rfl (fun h3=>?_) (fun h3=>JqZ ?_)
  ·refine Jrx (l.skip=0) rfl (fun h4=>?_) (fun h4=>JqZ ?_)
   ·refine Jrw (JaY l.f hf) rfl rfl rfl (JqZ ?_);show [dB l.f.small]=_;simp[Jc.ok,h2,h3,h4]
   ·show [dB false]=_;simp[Jc.ok,h2,h4]
  ·show [dB false]=_;simp[Jc.ok,h2,h3]
 refine Jrx (l.kind=3) rfl (fun h3=>?_) (fun h3=>?_)
 ·refine Jrx (l.pot=0) rfl (fun h4=>?_) (fun h4=>JqZ ?_)
  ·refine Jrx (l.skip=0) rfl (fun h5=>?_) (fun h5=>JqZ ?_)
   ·refine Jrw (JaY l.f hf) rfl rfl rfl (JqZ ?_);show [dB l.f.small]=_;simp[Jc.ok,h3,h4,h5]
   ·show [dB false]=_;simp[Jc.ok,h3,h5]
  ·show [dB false]=_;simp[Jc.ok,h3,h4]
 refine Jrx (l.kind=4) rfl (fun h4=>?_) (fun h4=>JqZ ?_)
 ·refine Jrx (l.pot=0) rfl (fun h5=>?_) (fun h5=>JqZ ?_)
  ·refine Jrx (l.skip=0) rfl (fun h6=>?_) (fun h6=>JqZ ?_)
   ·refine Jrw (Jni l.f Frm.none hf) rfl rfl rfl (JqZ ?_);show [dB (decide (l.f=Frm.none))]=_;have e:decide (l.f=Frm.none)=(decide (((l.f.c.length:Int)+l.f.d.length)=0)&&decide (l.f.k=0)):=by
     obtain⟨a,b,c⟩:=l.f;have e1:(Frm.mk a b c=Frm.none)↔((((a.length:Int)+b.length)=0)∧c=0):=by
      simp only[Frm.none,Frm.mk.injEq];constructor
      ·rintro⟨rfl,rfl,rfl⟩;exact⟨rfl,rfl⟩
      ·rintro⟨h,rfl⟩;exact⟨List.length_eq_zero_iff.1 (by omega),List.length_eq_zero_iff.1 (by omega),rfl⟩
     by_cases h:Frm.mk a b c=Frm.none
     ·have:=e1.1 h;rw[decide_eq_true h,decide_eq_true this.1,decide_eq_true this.2];rfl
     ·rw[decide_eq_false h]
      symm
      rw[Bool.and_eq_false_iff]
      by_cases h1:((a.length:Int)+b.length)=0
      ·right;simp only[decide_eq_false_iff_not];intro h2;exact h (e1.2 ⟨h1,h2⟩)
      ·left;simpa using h1
    rw[e];simp only[Jc.ok,h4,h5,h6];simp
   ·show [dB false]=_;simp[Jc.ok,h4,h6]
  ·show [dB false]=_;simp[Jc.ok,h4,h5]
 ·show [dB false]=_;simp[Jc.ok,h1,h2,h3,h4]
theorem Jjb {a:List Jc} {i:Nat} {x:Jc} (hx:a[i]? = some x):XQ (a.take (i+1))=XQ (a.take i)+if x.kind=1 then 1 else 0:=by
 rw[tS1 hx];simp[XQ,List.countP_append,List.countP_cons]
theorem Ja1 (a:List Jc) (ha:Ym a):Ev L f_k2h [.s (Ji a)] [dB (Qh a)]:=by
 have hlen:=ha.1;refine JrA (vs:=[.l (Ji a)]) L_k2h rfl ?_;refine Jq0 a.length (fun i=>[.i (XQ (a.take i)),.i i]) (fun i=>(a.take i).all Jc.ok=true) rfl rfl (by simp) fun i hi hal=>?_;have htl:XQ (a.take i)≤a.length:=Nat.le_trans List.countP_le_length (by simp;omega);refine Jru i (JU a) rfl (fun h=>?_) (fun h=>?_)
 ·obtain⟨x,hx,hm⟩:=sA1 h;refine Jrd i (mA1 (f:=Jc.g) hx) rfl rfl rfl rfl ?_;refine Jrw (Jm2 x (ha.2 x hm)) rfl rfl rfl ?_;refine Jrm x.ok rfl (fun hb=>Jrg (JqZ ?_)) (fun hb=>?_)
  ·show [dB false]=_;simp[Qh,Za hx hb]
  ·have ht:=Jjb hx;refine Jrx (x.kind=1) rfl (fun h1=>?_) (fun h1=>?_)
   ·refine Jrq (vs:=[.i (XQ (a.take (i+1))),.i ((i+1:Nat):Int)]) ?_ ⟨h,rfl,Q2 hx hal hb⟩;show [V.i (i64.wrap ((XQ (a.take i):Int)+1)),V.i (i64.wrap ((i:Int)+1))]=_;rw[wS h (by omega),w64 (by omega) (by omega),ht,if_pos h1];rfl
   ·refine Jrq (vs:=[.i (XQ (a.take (i+1))),.i ((i+1:Nat):Int)]) ?_ ⟨h,rfl,Q2 hx hal hb⟩;show [V.i (XQ (a.take i):Int),V.i (i64.wrap ((i:Int)+1))]=_;rw[wS h (by omega),ht,if_neg h1];rfl
 ·rw[tA1 h] at hal htl ⊢;refine Jrg ?_;refine Jrx (((Ji a).length:Int)≤6) rfl (fun h6=>JqZ ?_) (fun h6=>JqZ ?_)
  ·rw[JU] at h6;show [dB (decide ((XQ a:Int)≤3))]=_;simp only[Qh,hal,h6];simp
  ·rw[JU] at h6;show [dB false]=_;simp only[Qh,h6];simp
theorem WH:Ev L f_k2p [] Frm.zero.cells:=JrA (vs:=[]) L_k2p rfl (JqZ rfl)
theorem Jf4 (v:Int) (h0:0≤v) (h2:v≤2):Ev L f_k2q [dI v] (JA v.toNat).cells:=by
 refine JrA (vs:=[.i v]) L_k2q rfl ?_;refine Jrw (X2 v 0 2) rfl rfl rfl ?_;refine Jra (by show (!(inB v 0 2))=false;simp[inB,h0,h2]) ?_;refine Jrw WH rfl rfl rfl ?_;refine Jq7 (0≤v) rfl h0 ?_;refine Jq7 (v<((dL [0,0,0]).length:Int)) rfl (by simp[dL];omega) ?_;refine Jq9 (ds:=dL [0,0,0]) v rfl rfl rfl h0 (Ke h0 (by simp;omega)) rfl ?_;refine JqZ ?_;show [D.s ((dL [0,0,0]).set v.toNat (dI 1)),.s (dL [0,0]),dI 0]=_;rw[Kk];rfl
def JbT (a b:List Int) (n:Int):List Int:=JJ a b n++a.drop b.length
theorem JfQ {a b:List Int} {n:Int} (h:b.length=a.length):JbT a b n=JJ a b n:=by simp[JbT,h]
theorem JmY (a:List Int) (n:Int):JbT a [] n=a:=by simp[JbT,JJ]
theorem Ja4 {a b:List Int} {n:Int} {i:Nat} {x y:Int} (hl:b.length≤a.length) (hx:a[i]? = some x) (hy:b[i]? = some y) :
  (JJ a (b.take i) n++a.drop i)[i]? = some x∧(JJ a (b.take i) n++a.drop i).set i (x+n*y)=JJ a (b.take (i+1)) n++a.drop (i+1):=by
 have hi:=(JrF.1 hy).1;have h1:(JJ a (b.take i) n).length=i:=by rw[UD];simp;omega
 have hz :∀(l:List Int),l.length=i→JJ a l n=JJ (a.take i) l n:=by
  intro l hl;unfold JJ
  conv=>lhs;rw[←List.take_append_drop i a]
  rw[show l=l++[] by simp];rw[List.zipWith_append (by simp;omega)];simp
 refine⟨by rw[Jr6 (by omega),h1,Nat.sub_self,List.getElem?_drop,Nat.add_zero];exact hx,?_⟩;rw[List.set_append_right _ _ (by omega),h1,Nat.sub_self,Ya hx,List.set_cons_zero,tS1 hy];have h2:JJ a (b.take i++[y]) n=JJ a (b.take i) n++[x+n*y]:=by
  unfold JJ
  conv=>lhs;rw[←List.take_append_drop i a]
  rw[List.zipWith_append (by simp;omega),Ya hx]
  congr 1
  ·have:=hz (b.take i) (by simp;omega);unfold JJ at this;exact this.symm
  ·simp
 rw[h2,List.append_assoc];rfl
theorem JmO {a b:Frm} {n M:Int} (hac:Lim M a.c) (had:Lim M a.d) (hak : -M≤a.k∧a.k≤M) (hbc:Lim M b.c) (hbd:Lim M b.d) (hbk : -M≤b.k∧b.k≤M) (hl:b.c.length≤a.c.length) (hl2:b.d.length≤a.d.length) (h9:a.c.length≤1000) (h92:a.d.length≤1000)
  (hM:M≤1000000000) (hn : -1000000000≤n∧n≤1000000000) :
  Ev L f_k2y (a.cells++b.cells++[dI n]) [dI (a.k+n*b.k),.s (dL (JbT a.c b.c n)),.s (dL (JbT a.d b.d n))]:=by
 refine JrA (vs:=[.l (dL a.c),.l (dL a.d),.i a.k,.l (dL b.c),.l (dL b.d),.i b.k,.i n]) L_k2y rfl ?_;refine Jq0 b.c.length (fun i=>[.l (dL (JJ a.c (b.c.take i) n++a.c.drop i)),.i i]) (fun _=>True) rfl (by simp[JJ,den,Js,V.int]) trivial fun i hi _=>?_;simp only[sC,sN];refine Jru i (dL1 b.c) rfl (fun h=>?_) (fun h=>?_)
 ·obtain⟨x,hx,hmx⟩:=sA1 (show i<a.c.length by omega);obtain⟨y,hy,hmy⟩:=sA1 h;obtain⟨s1,s2⟩:=Ja4 (n:=n) hl hx hy;refine Jrd i (mA1 (f:=dI) hy) rfl rfl rfl rfl ?_;refine Jrc i (mA1 (f:=dI) s1) rfl rfl rfl rfl rfl rfl ?_;refine Jrc i (mA1 (f:=dI) s1) rfl rfl rfl rfl rfl rfl ?_;refine Jrq (vs:=[.l (dL (JJ a.c (b.c.take (i+1)) n++a.c.drop (i+1))),.i ((i+1:Nat):Int)]) ?_ ⟨h,rfl,trivial⟩;show [V.l ((dL (JJ a.c (b.c.take i) n++a.c.drop i)).set (i:Int).toNat (dI (i64.wrap (x+i64.wrap (n*y))))),V.i (i64.wrap ((i:Int)+1))]=_;rw[wS h (by omega),Vu (hac x hmx) (hbc y hmy) hn hM (by omega),Kk,Int.toNat_natCast,s2]
 refine Jrg ?_;have hc:JJ a.c (b.c.take i) n++a.c.drop i=JbT a.c b.c n:=by rw[tA1 h,show i=b.c.length by omega];rfl
 rw[hc];refine Jq0 b.d.length (fun i=>[.l (dL (JJ a.d (b.d.take i) n++a.d.drop i)),.i i]) (fun _=>True) rfl (by simp[JJ,den,Js,V.int]) trivial fun i hi _=>?_;simp only[sC,sN];refine Jru i (dL1 b.d) rfl (fun h=>?_) (fun h=>?_)
 ·obtain⟨x,hx,hmx⟩:=sA1 (show i<a.d.length by omega);obtain⟨y,hy,hmy⟩:=sA1 h;obtain⟨s1,s2⟩:=Ja4 (n:=n) hl2 hx hy;refine Jrd i (mA1 (f:=dI) hy) rfl rfl rfl rfl ?_;refine Jrc i (mA1 (f:=dI) s1) rfl rfl rfl rfl rfl rfl ?_;refine Jrc i (mA1 (f:=dI) s1) rfl rfl rfl rfl rfl rfl ?_;refine Jrq (vs:=[.l (dL (JJ a.d (b.d.take (i+1)) n++a.d.drop (i+1))),.i ((i+1:Nat):Int)]) ?_ ⟨h,rfl,trivial⟩;show [V.l ((dL (JJ a.d (b.d.take i) n++a.d.drop i)).set (i:Int).toNat (dI (i64.wrap (x+i64.wrap (n*y))))),V.i (i64.wrap ((i:Int)+1))]=_;rw[wS h (by omega),Vu (had x hmx) (hbd y hmy) hn hM (by omega),Kk,Int.toNat_natCast,s2]
 refine Jrg (JqZ ?_);have hd:JJ a.d (b.d.take i) n++a.d.drop i=JbT a.d b.d n:=by rw[tA1 h,show i=b.d.length by omega];rfl
 show [dI (i64.wrap (a.k+i64.wrap (n*b.k))),.s (dL (JbT a.c b.c n)),.s (dL (JJ a.d (b.d.take i) n++a.d.drop i))]=_;rw[hd,Vu hak hbk hn hM (by omega)]
theorem Jb6 {a b:Frm} {n M:Int} (ha:Std M a) (hb:Std M b) (hM:M≤1000000000) (hn : -1000000000≤n∧n≤1000000000) :
  Ev L f_k2y (a.cells++b.cells++[dI n]) [dI (JI a b n).k,.s (dL (JI a b n).c),.s (dL (JI a b n).d)]:=by
 have:=JmO (n:=n) ha.lc ha.ld ha.k hb.lc hb.ld hb.k (by rw[ha.c,hb.c];omega) (by rw[ha.d,hb.d];omega) (by rw[ha.c];omega) (by rw[ha.d];omega) hM hn;rw[JfQ (by rw[ha.c,hb.c]),JfQ (by rw[ha.d,hb.d])] at this;exact this
theorem Wj {f:Frm} {M:Int} (hf:Std M f) (hM:M≤10000000):Ev L f_k2z f.cells f.cells:=by
 refine JrA (vs:=[.l (dL f.c),.l (dL f.d),.i f.k]) L_k2z rfl ?_;have e:=Zj f hf.fit;rw[hf.okF hM] at e;exact Jrw e rfl rfl rfl (Jra rfl (JqZ rfl))
theorem Jep {f:Frm} {M n:Int} (hf:Std M f) (hM:M≤10000000) (hn : -1≤n∧n≤1) (h0:0≤M):Ev L f_k31 (f.cells++[dI n]) (JI Frm.zero f n).cells:=by
 refine JrA (vs:=[.l (dL f.c),.l (dL f.d),.i f.k,.i n]) L_k31 rfl ?_;have e:=Zj f hf.fit;rw[hf.okF hM] at e;refine Jrw e rfl rfl rfl (Jra rfl ?_);refine Jrw (X2 n (-10000000) 10000000) rfl rfl rfl ?_;refine Jra (by show (!(inB n (-10000000) 10000000))=false;simp[inB];omega) ?_;refine Jrw WH rfl rfl rfl ?_;refine Jrw (Jb6 (Xg.mono h0) hf (by omega) (n:=n) (by omega)) rfl rfl rfl ?_;have hs:=Qs Xg hf (n:=n) (N:=1) (by omega);exact Jrw (Wj (hs.mono (by omega)) hM) rfl rfl rfl (JqZ rfl)
theorem Jdt {f g:Frm} {M N:Int} (hf:Std M f) (hg:Std N g) (n:Int):JI f (JI Frm.zero g n) 1=JI f g n:=by
 obtain⟨c,d,k⟩:=f;obtain⟨c',d',k'⟩:=g;obtain⟨a1,a2,a3,rfl⟩:=JaV hf.c;obtain⟨b1,b2,rfl⟩:=JgS hf.d;obtain⟨a1',a2',a3',rfl⟩:=JaV hg.c;obtain⟨b1',b2',rfl⟩:=JgS hg.d;simp[JI,JJ,Frm.zero]
theorem Jkb {f g:Frm} {M:Int} (hf:Std M f) (hg:Std M g) (h0:0≤M) (hM:2*M≤10000000):Ev L f_k32 (f.cells++g.cells) (JI f g 1).cells:=by
 refine JrA (vs:=[.l (dL f.c),.l (dL f.d),.i f.k,.l (dL g.c),.l (dL g.d),.i g.k]) L_k32 rfl ?_;have e:=Zj f hf.fit;rw[hf.okF (by omega)] at e;have e2:=Zj g hg.fit;rw[hg.okF (by omega)] at e2;refine Jrw e rfl rfl rfl (Jra rfl ?_);refine Jrw e2 rfl rfl rfl (Jra rfl ?_);refine Jrw WH rfl rfl rfl ?_;have e3:=Jb6 (Xg.mono h0) hf (by omega) (n:=1) (by omega);rw[Jfi hf] at e3;refine Jrw e3 rfl rfl rfl ?_;simp only[sC,sN];refine Jrw (Jb6 hf hg (by omega) (n:=1) (by omega)) rfl rfl rfl ?_;have hs:=Qs hf hg (n:=1) (N:=1) (by omega);exact Jrw (Wj hs (by omega)) rfl rfl rfl (JqZ rfl)
end Go.Proofs.YtgpjnnkmmplicabGreatDoor

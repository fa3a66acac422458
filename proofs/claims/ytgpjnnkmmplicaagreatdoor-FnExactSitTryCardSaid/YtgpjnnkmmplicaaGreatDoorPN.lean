import Derived.Test.YtgpjnnkmmplicaaGreatDoorPI
set_option linter.unusedVariables false
set_option linter.unusedSimpArgs false
/- What the reference's catalogue of parts and pins comes to. -/
namespace Go.Proofs.YtgpjnnkmmplicaaGreatDoor
open Go Go.Tm
open Go.IntKind (i64)
structure J3 (n:Nat) (s:List (List Int)):Prop where
 len:s.length≤n
 each :∀q∈s,q.length=3∧Lim 10000000 q
theorem J3.add {n:Nat} {s:List (List Int)} (h:J3 n s) {f:Frm} (hf:Std 10000000 f):J3 (n+1) (Jk s f) :=
 ⟨by have:=JgT s f;have:=h.len;omega,JgS h.each ⟨by rw[Uq];exact hf.c,Jl5 hf.lc⟩⟩
theorem J3.mono {n m:Nat} {s:List (List Int)} (h:J3 n s) (hm:n≤m):J3 m s:=⟨by have:=h.len;omega,h.each⟩
theorem J3.adds {n:Nat} {s:List (List Int)} (h:J3 n s) {fs:List Frm} (hf :∀f∈fs,Std 10000000 f):J3 (n+fs.length) (fs.foldl Jk s):=by
 induction fs generalizing n s with
 | nil=>exact h
 | cons f fs ih=>exact(ih (h.add (hf f (by simp))) fun g hg=>hf g (by simp[hg])).mono (by simp;omega)
theorem J3.rows {n:Nat} {s:List (List Int)×List Bool} (h:J3 n s.1) (h3:s.2.length=3) {rs:List Row} (hr :∀r∈rs,Xz r):J3 (n+6*rs.length) (rs.foldl Ql s).1∧(rs.foldl Ql s).2.length=3:=by
 induction rs generalizing n s with
 | nil=>exact⟨h,h3⟩
 | cons r rs ih =>
  have hr1:=hr r (by simp);have a:=(h.adds hr1.g).mono (show n+r.guards.length≤n+6 by have:=hr1.gl;omega);have b:(Ql s r).2.length=3:=Ze (Ze h3 fun f hf=>(hr1.a f hf).c) fun f hf=>(hr1.t f hf).c;have:=ih (s:=Ql s r) (n:=n+6) a b fun x hx=>hr x (by simp[hx]);exact⟨this.1.mono (by simp;omega),this.2⟩
theorem Jcx (as:List (List Jd)):J3 (3+384*as.length) (UN as).1∧(UN as).2.length=3:=by
 have key :∀(n:Nat) (s:List (List Int)×List Bool),J3 n s.1→s.2.length=3→J3 (n+384*as.length) (as.foldl XL s).1∧(as.foldl XL s).2.length=3:=by
  induction as with
  | nil=>intro n s h h3;exact⟨h,h3⟩
  | cons a as ih =>
   intro n s h h3;have:=h.rows h3 (rs:=Jw a) X8;have hl:=Zo a;have:=ih (n+384) (XL s a) (this.1.mono (by omega)) this.2;exact⟨this.1.mono (by simp;omega),this.2⟩
 refine key 3 _ ⟨by simp[X7],?_⟩ rfl;intro q hq;simp[X7] at hq;rcases hq with rfl | rfl | rfl <;> exact⟨rfl,by intro x hx;simp at hx;omega⟩
theorem rdR {rs:List Row} {i:Nat} {r:Row} (h:rs[i]? = some r):(JY rs)[i]? = some r.g:=mA1 (f:=Row.g) h
set_option maxHeartbeats 8000000 in
theorem JeE (as:List (List Jd)) (hf:QP as) (h4:as.length≤4):Ev L f_k19 [.s (Jf as)] [.s (dLL (UN as).1),.s (dBl (UN as).2)]:=by
 refine Jq7 (vs:=[.l (Jf as)]) L_k19 rfl ?_;refine JqH 3 (fun v=>[.l (dLL (X7.take v)),.i v]) (fun _=>True) rfl rfl trivial fun v hv _=>?_;refine JqW v 3 rfl (fun hv3=>?_) (fun hv3=>?_)
 ·refine JqC (Y9 v (by omega) (by omega)) rfl rfl rfl ?_;have hp:X7[v]? = some (Ju (v:Int).toNat).c:=by
   rw[Int.toNat_natCast]
   match v,hv3 with
   | 0,_ | 1,_ | 2,_=>rfl
   | n+3,h=>omega
  refine JqR (dLL (X7.take v)) 3 (by rw[Kz];simp;omega) (by omega) rfl ?_;refine JqI (vs:=[.l (dLL (X7.take (v+1))),.i ((v+1:Nat):Int)]) ?_ ⟨hv3,rfl,trivial⟩;show [V.l (dLL (X7.take v)++[.s (dL (Ju (v:Int).toNat).c)]),V.i (i64.wrap ((v:Int)+1))]=_;rw[wS hv3 (by omega),Wl,tS1 hp]
 have hv3:v=3:=by omega
 subst hv3;refine JqG ?_;refine JqS as.length (fun i vs=>∃ b:List (List Int)×List Bool,vs=[.l (dLL b.1),.l (dBl b.2),.i i]∧b=UN (as.take i)) rfl ⟨(X7,[false,false,false]),rfl,rfl⟩ ?_;rintro i _ hi ⟨⟨b1,b2⟩,rfl,hb⟩;simp only[sC,sN];refine Jqv i (QC as) rfl (fun h=>?_) (fun h=>?_)
 ·obtain⟨a,ha,hm⟩:=sA1 h;have hB:UN (as.take (i+1))=XL (b1,b2) a:=by rw[hb];exact QY ha
  obtain⟨f1,f2⟩:=Jcx (as.take i);rw[←hb] at f1 f2;have f1:=f1.mono (show 3+384*(as.take i).length≤1600 by simp;omega);have hrl:=Zo a;refine JqJ i (mA1 (f:=fun a=> .s (Jn a)) ha) rfl rfl rfl rfl ?_;refine JqC (JeQ a (hf.2 a hm)) rfl rfl rfl ?_;have hrf :∀r∈Jw a,Xz r:=X8;have hAB:XL (b1,b2) a=(Jw a).foldl Ql (b1,b2):=rfl;generalize Jw a=rs at *;refine JqS rs.length (fun k vs=>∃ c:List (List Int)×List Bool,vs=[.l (dLL c.1),.l (dBl c.2),.i k]∧c=(rs.take k).foldl Ql (b1,b2)) rfl ⟨(b1,b2),rfl,rfl⟩ ?_;rintro k _ hk ⟨⟨c1,c2⟩,rfl,hc⟩;simp only[sC,sN];refine Jqv k (Xv rs) rfl (fun h'=>?_) (fun h'=>?_)
  ·obtain⟨r,hr,hmr⟩:=sA1 h';have hfit:=hrf r hmr;have hC:(rs.take (k+1)).foldl Ql (b1,b2)=Ql (c1,c2) r:=by rw[hc];exact QY hr
   obtain⟨g1,g2⟩:=f1.rows f2 (rs:=rs.take k) fun x hx=>hrf x (Jrx hx);rw[←hc] at g1 g2;have g1:=g1.mono (show 1600+6*(rs.take k).length≤2000 by simp;omega);have hRd:=rdR hr;refine JqB k hRd rfl rfl rfl rfl rfl rfl ?_;refine JqC (Jcc c2 r.adds g2 (fun f hf=>(hfit.a f hf).c) (by have:=hfit.al;omega)) rfl rfl rfl ?_;refine JqB k hRd rfl rfl rfl rfl rfl rfl ?_;have e3:(Qn c2 r.adds).length=3:=Ze g2 fun f hf=>(hfit.a f hf).c;refine JqC (Jcc (Qn c2 r.adds) r.tells e3 (fun f hf=>(hfit.t f hf).c) (by have:=hfit.tl;omega)) rfl rfl rfl ?_;have hR:Ql (c1,c2) r=(r.guards.foldl Jk c1,Qn (Qn c2 r.adds) r.tells):=rfl;generalize Qn (Qn c2 r.adds) r.tells=d2 at *;generalize Qn c2 r.adds=d1 at *;have hgl:=hfit.gl;refine JqS r.guards.length (fun g vs=>∃ e:List (List Int),vs=[.l (dLL e),.i g]∧e=(r.guards.take g).foldl Jk c1) rfl ⟨c1,rfl,rfl⟩ ?_;rintro g _ hg ⟨e,rfl,he⟩;simp only[sC,sN];refine JqB k hRd rfl rfl rfl rfl rfl rfl ?_;refine Jqv g (JL r.guards) rfl (fun hg'=>?_) (fun hg'=>?_)
   ·obtain⟨f,hfg,hmf⟩:=sA1 hg';have hsf:=hfit.g f hmf;have hE:(r.guards.take (g+1)).foldl Jk c1=Jk e f:=by rw[he];exact QY hfg
    have e1:=(g1.adds (fs:=r.guards.take g) fun x hx=>hfit.g x (Jrx hx)).mono (show 2000+(r.guards.take g).length≤2010 by simp;omega);rw[←he] at e1;have nx :∀(x:List (List Int)),x=Jk e f→[V.l (dLL x),V.i (i64.wrap ((g:Int)+1))]=[.l (dLL (Jk e f)),.i ((g+1:Nat):Int)]:=by
     intro x hx;rw[hx,wS hg' (by omega)]
    refine JqB k hRd rfl rfl rfl rfl rfl rfl ?_;refine JqJ g (mA1 (f:=Frm.g) hfg) rfl rfl rfl rfl ?_;refine JqC (Jb6 f (hsf.lc.mono (by omega)) (by rw[hsf.c];omega)) rfl rfl rfl ?_;have el:=e1.len;have hp3:(Ji f.c).length=3:=by rw[Uq];exact hsf.c
    have hAP:Jk e f=if ZF e (Ji f.c)<0∧Ji f.c≠[0,0,0] then e++[Ji f.c] else e:=rfl;generalize Ji f.c=pt at *;refine JqC (Jes e pt (by omega) (fun q hq=>by rw[(e1.each q hq).1];omega)) rfl rfl rfl ?_;generalize ZF e pt=ha at *;refine JqL (ha<0) rfl (fun h0=>?_) (fun h0=>?_)
    ·refine JqC Yr rfl rfl rfl ?_;refine JqC (W7 pt [0,0,0] (by omega)) rfl rfl rfl ?_;refine JqA (decide (pt=[0,0,0])) rfl (fun hz=>?_) (fun hz=>?_)
     ·refine JqR (dLL e) 3000 (by rw[Kz];omega) (by omega) rfl ?_;refine JqI (vs:=[.l (dLL (Jk e f)),.i ((g+1:Nat):Int)]) ?_ ⟨hg',Jk e f,rfl,hE.symm⟩;show [V.l (dLL e++[.s (dL pt)]),V.i (i64.wrap ((g:Int)+1))]=_;rw[Wl];refine nx _ ?_;rw[hAP,if_pos ⟨h0,by simpa using hz⟩]
     ·refine JqI (nx e ?_) ⟨hg',Jk e f,rfl,hE.symm⟩;rw[hAP,if_neg];intro ⟨_,h⟩;exact h (by simpa using hz)
    ·refine JqI (nx e ?_) ⟨hg',Jk e f,rfl,hE.symm⟩;rw[hAP,if_neg];intro ⟨h,_⟩;exact h0 h
   ·refine JqG ?_;rw[tA1 hg'] at he;refine JqI (vs:=[.l (dLL e),.l (dBl d2),.i ((k+1:Nat):Int)]) ?_ ⟨h',(e,d2),rfl,by rw[hC,hR,he]⟩;show [V.l (dLL e),V.l (dBl d2),V.i (i64.wrap ((k:Int)+1))]=_;rw[wS h' (by omega)]
  ·refine JqG ?_;rw[tA1 h'] at hc;refine JqI (vs:=[.l (dLL c1),.l (dBl c2),.i ((i+1:Nat):Int)]) ?_ ⟨h,(c1,c2),rfl,by rw[hB,hAB,hc]⟩;show [V.l (dLL c1),V.l (dBl c2),V.i (i64.wrap ((i:Int)+1))]=_;rw[wS h (by omega)]
 ·refine JqG (JqK ?_);show [D.s (dLL b1),.s (dBl b2)]=_;rw[tA1 h] at hb;rw[←hb]
theorem U1 {as:List (List Jd)} (h:QA as=true):1≤as.length∧as.length≤4∧∀a∈as,QI a=true:=by
 simp only[QA,Jq9,JH,Jrm] at h;exact⟨by omega,by omega,h.2⟩
theorem Xq (as:List (List Jd)):J3 1600 (Jb as):=by
 unfold Jb;split
 ·rename_i h;exact(Jcx as).1.mono (by have:=(U1 h).2.1;omega)
 ·exact⟨by simp,by simp⟩
/- What the reference's treaties come to. -/
theorem Jd3 (l:List Int) (hl:l.length≤2000000):Ev L f_ks [.s (dL l)] [dB (Xb l)] :=
 Jq7 (vs:=[.l (dL l)]) L_ks rfl (JqC (Q4 l 3 10000 hl (by omega) (by omega)) rfl rfl rfl (JqK rfl))
theorem JaM (b g:List Int) (hb:b.length≤2000000) (hg:g.length≤2000000):Ev L f_kt [.s (dL b),.s (dL g)] [dB (Qu b g)]:=by
 refine Jq7 (vs:=[.l (dL b),.l (dL g)]) L_kt rfl ?_;refine JqC (Jd3 b hb) rfl rfl rfl ?_;refine JqA (Xb b) rfl (fun h=>JqK ?_) (fun h=>?_)
 ·show [dB false]=_;simp[Qu,h]
 refine JqC (Qg g.length 1 3) rfl ?_ rfl ?_
 ·show [dI ((dL g).length:Int),dI 1,dI 3]=_;rw[dL1]
 refine JqA (inB g.length 1 3) rfl (fun h2=>JqK ?_) (fun h2=>?_)
 ·show [dB false]=_;simp[Qu,h2]
 refine JqH g.length (fun i=>[.i i]) (fun i=>(g.take i).all (fun x=>inB x 0 50)=true) rfl rfl (by simp) fun i hi hp=>?_;refine Jqv i (dL1 g) rfl (fun h'=>?_) (fun h'=>?_)
 ·obtain⟨x,hx,hm⟩:=sA1 h';refine JqJ i (mA1 (f:=dI) hx) rfl rfl rfl rfl ?_;refine JqC (Qg x 0 50) rfl rfl rfl ?_;refine JqA (inB x 0 50) rfl (fun hb=>JqG (JqK ?_)) (fun hb=>?_)
  ·show [dB false]=_;simp only[Qu,XK (p:=fun x=>inB x 0 50) hx hb,Bool.and_false]
  ·refine JqI (vs:=[.i ((i+1:Nat):Int)]) ?_ ⟨h',rfl,Qr (p:=fun x=>inB x 0 50) hx hp hb⟩;show [V.i (i64.wrap ((i:Int)+1))]=_;rw[wS h' (by omega)]
 ·refine JqG (JqK ?_);rw[tA1 h'] at hp;show [dB true]=_;simp only[Qu,h,h2,hp];rfl
def fitLL (ps:List (List Int)):Prop:=ps.length≤2000000∧∀p∈ps,p.length≤2000000
theorem Jdh (ps:List (List Int)) (hp:fitLL ps):Ev L f_k1b [.s (dLL ps)] [dB (QV ps)]:=by
 have hl:=hp.1;refine Jq7 (vs:=[.l (dLL ps)]) L_k1b rfl ?_;refine JqH ps.length (fun i=>[.i i]) (fun i=>(ps.take i).all (fun p=>JE 3 10000000 p)=true) rfl rfl (by simp) fun i hi hq=>?_;refine Jqv i (Kz ps) rfl (fun h'=>?_) (fun h'=>?_)
 ·obtain⟨x,hx,hm⟩:=sA1 h';refine JqJ i (mA1 (f:=fun x=> .s (dL x)) hx) rfl rfl rfl rfl ?_;refine JqC (Q4 x 3 10000000 (hp.2 x hm) (by omega) (by omega)) rfl rfl rfl ?_;refine JqA (JE 3 10000000 x) rfl (fun hb=>JqG (JqK ?_)) (fun hb=>?_)
  ·show [dB false]=_;simp only[QV,XK (p:=fun p=>JE 3 10000000 p) hx hb]
  ·refine JqI (vs:=[.i ((i+1:Nat):Int)]) ?_ ⟨h',rfl,Qr (p:=fun p=>JE 3 10000000 p) hx hq hb⟩;show [V.i (i64.wrap ((i:Int)+1))]=_;rw[wS h' (by omega)]
 ·refine JqG (JqK ?_);rw[tA1 h'] at hq;show [dB true]=_;simp only[QV,hq]
theorem Wd {a b:List Int} {i:Nat} {x y:Int} (hx:a[i]? = some x) (hy:b[i]? = some y):dot (a.take (i+1)) (b.take (i+1))=dot (a.take i) (b.take i)+x*y:=by
 have h1:=(Jra.1 hx).1;have h2:=(Jra.1 hy).1;rw[tS1 hx,tS1 hy,JnE x y (by simp;omega)]
theorem JhT {a b:List Int} {i:Nat} {x y:Int} (hx:a[i]? = some x) (hy:b[i]? = some y) (ha:Lim 100000000 a) (hb:Lim 1000000 b) (hi:i<1000) :
  i64.wrap (dot (a.take i) (b.take i)+i64.wrap (x*y))=dot (a.take (i+1)) (b.take (i+1)):=by
 have h1:=KO (ha.take i) (hb.take i) (by omega) (by omega);have h2:((a.take i).length:Int)≤1000:=by simp;omega
 have h3:=ZM (ha x (Jrg hx)) (hb y (Jrg hy));rw[Wd hx hy,w64 (n:=x*y) (by omega) (by omega),w64 (by omega) (by omega)]
theorem JiP (p a:List Int) (hp:JE 3 10000000 p=true) (ha:JE 3 20000 a=true):Ev L f_k1c [.s (dL p),.s (dL a)] [dI (dot p a)]:=by
 obtain⟨p1,p2⟩:=Jy.1 hp;obtain⟨a1,a2⟩:=Jy.1 ha;have p2:Lim 100000000 p:=Lim.mono (m:=10000000) p2 (by omega);have a2:Lim 1000000 a:=Lim.mono (m:=20000) a2 (by omega);refine Jq7 (vs:=[.l (dL p),.l (dL a)]) L_k1c rfl ?_;refine JqH 3 (fun i=>[.i (dot (p.take i) (a.take i)),.i i]) (fun _=>True) rfl rfl trivial fun i hi _=>?_;refine JqW i 3 rfl (fun h=>?_) (fun h=>?_)
 ·obtain⟨x,hx,_⟩:=sA1 (show i<p.length by omega);obtain⟨y,hy,_⟩:=sA1 (show i<a.length by omega);refine JqJ i (mA1 (f:=dI) hx) rfl rfl rfl rfl ?_;refine JqJ i (mA1 (f:=dI) hy) rfl rfl rfl rfl ?_;refine JqI (vs:=[.i (dot (p.take (i+1)) (a.take (i+1))),.i ((i+1:Nat):Int)]) ?_ ⟨h,rfl,trivial⟩;show [V.i (i64.wrap (dot (p.take i) (a.take i)+i64.wrap (x*y))),V.i (i64.wrap ((i:Int)+1))]=_;rw[wS h (by omega),JhT hx hy p2 a2 (by omega)]
 ·refine JqG (JqK ?_);show [dI (dot (p.take i) (a.take i))]=_;rw[Jrd (by omega),Jrd (by omega)]
theorem Je9 {l:List Int} {i:Nat} (h:i<l.length):l[i]? = some (l.getD i 0):=by simp[Jrc,h]
theorem V7 (b g:List Int) (ps:List (List Int)) (s:Int) (a:List Int) (hb:b.length≤2000000) (hg:g.length≤2000000) (hp:fitLL ps) (ha:a.length≤2000000) :
  Ev L f_k1d [.s (dL b),.s (dL g),.s (dLL ps),dI s,.s (dL a)] [dB (keeps b g ps s a)]:=by
 have hpl:=hp.1;refine Jq7 (vs:=[.l (dL b),.l (dL g),.l (dLL ps),.i s,.l (dL a)]) L_k1d rfl ?_;refine JqC (JaM b g hb hg) rfl rfl rfl ?_;refine JqA (Qu b g) rfl (fun h=>JqK ?_) (fun h=>?_)
 ·show [dB false]=_;simp[keeps,h]
 refine JqC (Jdh ps hp) rfl rfl rfl ?_;refine JqA (QV ps) rfl (fun h2=>JqK ?_) (fun h2=>?_)
 ·show [dB false]=_;simp[keeps,h2]
 refine JqC (Qg s 0 (g.length-1)) rfl ?_ rfl ?_
 ·show [dI s,dI 0,dI (i64.wrap (((dL g).length:Int)-1))]=_;rw[dL1,w64 (by omega) (by omega)]
 refine JqA (inB s 0 (g.length-1)) rfl (fun h3=>JqK ?_) (fun h3=>?_)
 ·show [dB false]=_;simp[keeps,h3]
 refine JqC (Q4 a 3 20000 ha (by omega) (by omega)) rfl rfl rfl ?_;refine JqA (JE 3 20000 a) rfl (fun h4=>JqK ?_) (fun h4=>?_)
 ·show [dB false]=_;simp[keeps,Qh,h4]
 have hs:=JH.1 h3;have hsg:s.toNat<g.length:=by omega
 have hgs:=Je9 hsg;have hgm:=KB (p:=fun x=>0≤x∧x≤50) (l:=g) (by
  intro x hx;simp only[Qu,Jq9,Jrm] at h;exact JH.1 (h.2 x hx)) hsg
 have hdS:(dL g)[s.toNat]? = some (dI (g.getD s.toNat 0)):=mA1 (f:=dI) hgs;simp only[keeps,Qh,h,h2,h3,h4,Jrt];generalize g.getD s.toNat 0=G at *;refine JqH ps.length (fun i=>[.i i]) (fun i=>(ps.take i).all (ZX G a)=true) rfl rfl (by simp) fun i hi hq=>?_;refine Jqv i (Kz ps) rfl (fun h'=>?_) (fun h'=>?_)
 ·obtain⟨x,hx,hm⟩:=sA1 h';have hxo:JE 3 10000000 x=true:=Jrm.1 h2 x hm;refine JqJ i (mA1 (f:=fun x=> .s (dL x)) hx) rfl rfl rfl rfl ?_;refine JqC (JiP x a hxo h4) rfl rfl rfl ?_;refine JqO (ds:=dL g) s rfl rfl rfl hs.1 hdS rfl ?_;refine JqO (ds:=dL g) s rfl rfl rfl hs.1 hdS rfl ?_;refine JqC (Qg (dot x a) (0-G) G) rfl ?_ rfl ?_
  ·show [dI (dot x a),dI (i64.wrap (0-G)),dI G]=_;rw[w64 (by omega) (by omega)]
  refine JqA (inB (dot x a) (0-G) G) rfl (fun hb=>JqG (JqK ?_)) (fun hb=>?_)
  ·show [dB false]=_;rw[XK (p:=ZX G a) hx hb]
  ·refine JqI (vs:=[.i ((i+1:Nat):Int)]) ?_ ⟨h',rfl,Qr (p:=ZX G a) hx hq hb⟩;show [V.i (i64.wrap ((i:Int)+1))]=_;rw[wS h' (by omega)]
 ·refine JqG (JqK ?_);rw[tA1 h'] at hq;show [dB true]=_;rw[hq]
/- What the program's treaties come to. -/
theorem XE (n a b:Int):Ev L f_k23 [dI n,dI a,dI b] [dB (inB n a b)]:=by
 refine Jq7 (vs:=[.i n,.i a,.i b]) L_k23 rfl ?_;refine JqL (a≤n) rfl (fun h=>JqK ?_) (fun h=>JqK ?_)
 ·show [dB (decide (n≤b))]=_;simp[inB,h]
 ·show [dB false]=_;simp[inB,h]
theorem JeR (p:Int→Bool) (l:List Int) {fn:FuncId} {caps:List D} (hlen:l.length≤2000000) (hcap:QZ (.f fn caps) = .f fn caps) (har:arT L fn=some ([none]++caps.map fun _=>none))
  (hc :∀x∈l,Ev L fn ([dI x]++caps.map D.norm) [dB (p x)]):Ev L f_k27 [.s (dL l),.f fn caps] [dI (YY p l)] :=
 Yl (sh:= .one (.i .i64)) (as:=[(.vi .i64 (.v 3))]) (ar:=[none]) (k:=4) dI p (fun x=>[dI x]) (fun x=>[.i x]) l L_k27 rfl hlen hcap (fun _ _=>rfl) (fun _ _=>rfl) (fun _ _ _ _=>rfl) har hc
theorem Jah (p:Int→Bool) (l:List Int) {fn:FuncId} {caps:List D} (hlen:l.length≤2000000) (hcap:QZ (.f fn caps) = .f fn caps) (har:arT L fn=some ([none]++caps.map fun _=>none))
  (hc :∀x∈l,Ev L fn ([dI x]++caps.map D.norm) [dB (p x)]):Ev L f_k28 [.s (dL l),.f fn caps] [dB (l.any p)] :=
 YJ (g:=f_k27) L_k28 rfl hcap (JeR p l hlen hcap har hc)
theorem JcE (p:List Int→Bool) (l:List (List Int)) {fn:FuncId} {caps:List D} (hlen:l.length≤2000000) (hcap:QZ (.f fn caps) = .f fn caps) (har:arT L fn=some ([none]++caps.map fun _=>none))
  (hc :∀x∈l,Ev L fn ([.s (dL x)]++caps.map D.norm) [dB (p x)]):Ev L f_k37 [.s (dLL l),.f fn caps] [dI (YY p l)] :=
 Yl (sh:= .one .s) (as:=[(.s (.v 3))]) (ar:=[none]) (k:=4) (fun x=> .s (dL x)) p (fun x=>[.s (dL x)]) (fun x=>[.l (dL x)]) l L_k37 rfl hlen hcap (fun _ _=>rfl) (fun _ _=>rfl) (fun _ _ _ _=>rfl) har hc
theorem Jdp (p:List Int→Bool) (l:List (List Int)) {fn:FuncId} {caps:List D} (hlen:l.length≤2000000) (hcap:QZ (.f fn caps) = .f fn caps) (har:arT L fn=some ([none]++caps.map fun _=>none))
  (hc :∀x∈l,Ev L fn ([.s (dL x)]++caps.map D.norm) [dB (p x)]):Ev L f_k3i [.s (dLL l),.f fn caps] [dB (l.any p)] :=
 YJ (g:=f_k37) L_k3i rfl hcap (JcE p l hlen hcap har hc)
theorem Kq {α:Type} (p:α→Bool) (l:List α):(!(l.any fun x=>!p x))=l.all p:=by
 induction l with
 | nil=>rfl
 | cons x l ih=>simp[ih]
theorem Jhc (x m:Int) (h0:0≤m) (hm:m≤10000000000000):Ev L f_k26 [dI x,.q [dI m]] [dB (!inB x (0-m) m)]:=by
 refine Jq7 (vs:=[.i x,.d (.q [dI m])]) L_k26 rfl ?_;refine Jq2 (vs:=[.i m]) rfl rfl ?_;refine Jq2 (vs:=[.i m]) rfl rfl ?_;refine JqC (XE x (0-m) m) rfl ?_ rfl (JqK rfl);show [dI x,dI (i64.wrap (0-m)),dI m]=_;rw[w64 (by omega) (by omega)]
theorem Q8 (l:List Int) (n m:Int) (hl:l.length≤2000000) (h0:0≤m) (hm:m≤10000000000000):Ev L f_k29 [.s (dL l),dI n,dI m] [dB (JE n m l)]:=by
 refine Jq7 (vs:=[.l (dL l),.i n,.i m]) L_k29 rfl ?_;refine JqL ((l.length:Int)=n) ?_ (fun h=>?_) (fun h=>JqK ?_)
 ·show decide (((dL l).length:Int)=n)=_;rw[dL1]
 ·refine JqC (Jah (fun x=>!inB x (0-m) m) l (fn:=f_k26) (caps:=[.q [dI m]]) hl rfl rfl fun x _=>Jhc x m h0 hm) rfl rfl rfl (JqK ?_);show [dB (!(l.any fun x=>!inB x (0-m) m))]=_;rw[Kq];simp[JE,h]
 ·show [dB false]=_;simp[JE,h]
theorem Jgl (l:List Int) (hl:l.length≤2000000):Ev L f_k2j [.s (dL l)] [dB (Xb l)] :=
 Jq7 (vs:=[.l (dL l)]) L_k2j rfl (JqC (Q8 l 3 10000 hl (by omega) (by omega)) rfl rfl rfl (JqK rfl))
theorem Jir (x:Int):Ev L f_k2i [dI x] [dB (!inB x 0 50)] :=
 Jq7 (vs:=[.i x]) L_k2i rfl (JqC (XE x 0 50) rfl rfl rfl (JqK rfl))
theorem JgN (b g:List Int) (hb:b.length≤2000000) (hg:g.length≤2000000):Ev L f_k2k [.s (dL b),.s (dL g)] [dB (Qu b g)]:=by
 refine Jq7 (vs:=[.l (dL b),.l (dL g)]) L_k2k rfl ?_;refine JqC (Jgl b hb) rfl rfl rfl ?_;refine JqZ (Xb b) rfl (fun h=>?_) (fun h=>JqK ?_)
 ·refine JqC (XE g.length 1 3) rfl ?_ rfl ?_
  ·show [dI ((dL g).length:Int),dI 1,dI 3]=_;rw[dL1]
  refine JqZ (inB g.length 1 3) rfl (fun h2=>?_) (fun h2=>JqK ?_)
  ·refine JqC (Jah (fun x=>!inB x 0 50) g (fn:=f_k2i) (caps:=[]) hg rfl rfl fun x _=>Jir x) rfl rfl rfl (JqK ?_);show [dB (!(g.any fun x=>!inB x 0 50))]=_;rw[Kq];simp[Qu,h,h2]
  ·show [dB false]=_;simp[Qu,h2]
 ·show [dB false]=_;simp[Qu,h]
theorem Jf8 (p:List Int) (hp:p.length≤2000000):Ev L f_k3j [.s (dL p)] [dB (!JE 3 10000000 p)] :=
 Jq7 (vs:=[.l (dL p)]) L_k3j rfl (JqC (Q8 p 3 10000000 hp (by omega) (by omega)) rfl rfl rfl (JqK rfl))
theorem JiG (ps:List (List Int)) (hp:fitLL ps):Ev L f_k3k [.s (dLL ps)] [dB (QV ps)]:=by
 refine Jq7 (vs:=[.l (dLL ps)]) L_k3k rfl ?_;refine JqC (Jdp (fun p=>!JE 3 10000000 p) ps (fn:=f_k3j) (caps:=[]) hp.1 rfl rfl fun p h=>Jf8 p (hp.2 p h)) rfl rfl rfl (JqK ?_);show [dB (!(ps.any fun p=>!JE 3 10000000 p))]=_;rw[Kq];rfl
theorem JcJ (a:List Int) (ha:a.length≤2000000):Ev L f_k3l [.s (dL a)] [dB (Qh a)] :=
 Jq7 (vs:=[.l (dL a)]) L_k3l rfl (JqC (Q8 a 3 20000 ha (by omega) (by omega)) rfl rfl rfl (JqK rfl))
def JU (b g:List Int) (ps:List (List Int)) (s:Int) (a:List Int):Bool:=Qu b g&&QV ps&&inB s 0 (g.length-1)&&Qh a
theorem KR (b g:List Int) (ps:List (List Int)) (s:Int) (a:List Int) (hb:b.length≤2000000) (hg:g.length≤2000000) (hp:fitLL ps) (ha:a.length≤2000000) :
  Ev L f_k3m [.s (dL b),.s (dL g),.s (dLL ps),dI s,.s (dL a)] [dB (JU b g ps s a)]:=by
 refine Jq7 (vs:=[.l (dL b),.l (dL g),.l (dLL ps),.i s,.l (dL a)]) L_k3m rfl ?_;refine JqC (JgN b g hb hg) rfl rfl rfl ?_;refine JqZ (Qu b g) rfl (fun h=>?_) (fun h=>JqK ?_)
 ·refine JqC (JiG ps hp) rfl rfl rfl ?_;refine JqZ (QV ps) rfl (fun h2=>?_) (fun h2=>JqK ?_)
  ·refine JqC (XE s 0 (g.length-1)) rfl ?_ rfl ?_
   ·show [dI s,dI 0,dI (i64.wrap (((dL g).length:Int)-1))]=_;rw[dL1,w64 (by omega) (by omega)]
   refine JqZ (inB s 0 (g.length-1)) rfl (fun h3=>?_) (fun h3=>JqK ?_)
   ·refine JqC (JcJ a ha) rfl rfl rfl (JqK ?_);show [dB (Qh a)]=_;simp[JU,h,h2,h3]
   ·show [dB false]=_;simp[JU,h3]
  ·show [dB false]=_;simp[JU,h2]
 ·show [dB false]=_;simp[JU,h]
theorem Jps (p a:List Int) (hp:Lim 100000000 p) (ha:Lim 1000000 a) (hl:p.length=a.length) (h9:p.length≤999):Ev L f_k3n [.s (dL p),.s (dL a)] [dI (dot p a)]:=by
 refine Jq7 (vs:=[.l (dL p),.l (dL a)]) L_k3n rfl ?_;refine JqH p.length (fun i=>[.i (dot (p.take i) (a.take i)),.i i]) (fun _=>True) rfl rfl trivial fun i hi _=>?_;refine Jqv i (dL1 p) rfl (fun h=>?_) (fun h=>?_)
 ·obtain⟨x,hx,_⟩:=sA1 (show i<p.length by omega);obtain⟨y,hy,_⟩:=sA1 (show i<a.length by omega);refine JqJ i (mA1 (f:=dI) hx) rfl rfl rfl rfl ?_;refine JqJ i (mA1 (f:=dI) hy) rfl rfl rfl rfl ?_;refine JqI (vs:=[.i (dot (p.take (i+1)) (a.take (i+1))),.i ((i+1:Nat):Int)]) ?_ ⟨h,rfl,trivial⟩;show [V.i (i64.wrap (dot (p.take i) (a.take i)+i64.wrap (x*y))),V.i (i64.wrap ((i:Int)+1))]=_;rw[wS h (by omega),JhT hx hy hp ha (by omega)]
 ·refine JqG (JqK ?_);show [dI (dot (p.take i) (a.take i))]=_;rw[tA1 h,tA1 (by omega)]
theorem JdL (p a:List Int) (G:Int) (hp:JE 3 10000000 p=true) (ha:Qh a=true) (h0:0≤G) (h5:G≤50):Ev L f_k3o [.s (dL p),.q [.s (dL a)],.q [dI G]] [dB (!ZX G a p)]:=by
 obtain⟨p1,p2⟩:=Jy.1 hp;obtain⟨a1,a2⟩:=Jy.1 ha;refine Jq7 (vs:=[.l (dL p),.d (.q [.s (dL a)]),.d (.q [dI G])]) L_k3o rfl ?_;refine Jq2 (vs:=[.l (dL a)]) rfl rfl ?_;refine JqC (Jps p a (Lim.mono (m:=10000000) p2 (by omega)) (Lim.mono (m:=20000) a2 (by omega)) (by omega) (by omega)) rfl rfl rfl ?_;refine Jq2 (vs:=[.i G]) rfl rfl ?_;refine Jq2 (vs:=[.i G]) rfl rfl ?_;refine JqC (XE (dot p a) (0-G) G) rfl ?_ rfl (JqK rfl);show [dI (dot p a),dI (i64.wrap (0-G)),dI G]=_;rw[w64 (by omega) (by omega)]
theorem JhS {b g:List Int} {ps:List (List Int)} {s:Int} {a:List Int} (h:JU b g ps s a=true) :
  Qu b g=true∧QV ps=true∧0≤s∧s<g.length∧Qh a=true∧g[s.toNat]? = some (g.getD s.toNat 0)∧0≤g.getD s.toNat 0∧g.getD s.toNat 0≤50:=by
 simp only[JU,Jq9,JH] at h;obtain⟨⟨⟨h1,h2⟩,h3⟩,h4⟩:=h;have hsg:s.toNat<g.length:=by omega
 have hgm:=KB (p:=fun x=>0≤x∧x≤50) (l:=g) (by
  intro x hx;simp only[Qu,Jq9,Jrm] at h1;exact JH.1 (h1.2 x hx)) hsg
 exact⟨h1,h2,h3.1,by omega,h4,Je9 hsg,hgm⟩
theorem Jjc (b g:List Int) (ps:List (List Int)) (s:Int) (a:List Int):keeps b g ps s a=(JU b g ps s a&&ps.all (ZX (g.getD s.toNat 0) a)):=rfl
theorem JaY (b g:List Int) (ps:List (List Int)) (s:Int) (a:List Int) (hb:b.length≤2000000) (hg:g.length≤2000000) (hp:fitLL ps) (ha:a.length≤2000000) :
  Ev L f_k3p [.s (dL b),.s (dL g),.s (dLL ps),dI s,.s (dL a)] [dB (keeps b g ps s a)]:=by
 refine Jq7 (vs:=[.l (dL b),.l (dL g),.l (dLL ps),.i s,.l (dL a)]) L_k3p rfl ?_;refine JqC (KR b g ps s a hb hg hp ha) rfl rfl rfl ?_;rw[Jjc];refine JqA (JU b g ps s a) rfl (fun h=>JqK ?_) (fun h=>?_)
 ·show [dB false]=_;rw[h];rfl
 obtain⟨h1,h2,s0,s1,h4,hd,g0,g5⟩:=JhS h;generalize g.getD s.toNat 0=G at *;refine JqO (ds:=dL g) s rfl rfl rfl s0 (mA1 (f:=dI) hd) rfl ?_;refine JqC (Jdp (fun p=>!ZX G a p) ps (fn:=f_k3o) (caps:=[.q [.s (dL a)],.q [dI G]]) hp.1 rfl rfl fun p hm=>JdL p a G (Jrm.1 h2 p hm) h4 g0 g5) rfl rfl rfl (JqK ?_);show [dB (!(ps.any fun p=>!ZX G a p))]=_;rw[Kq,h];rfl
/- All sites keep to a treaty just if each does: over residual programs. -/
theorem J3.fitLL {n:Nat} {ps:List (List Int)} (h:J3 n ps) (hn:n≤2000000):fitLL ps:=⟨by have:=h.len;omega,fun p hp=>by rw[(h.each p hp).1];omega⟩
/- What the program's forms and acts come to. -/
theorem Vd (l:List Int):XP 1 (dL l)=true:=by cases l <;> rfl
theorem JoG (l:List Frm):XP 3 (dF l)=true:=by cases l <;> rfl
theorem Xu (l:List Int) (hl:l.length≤2000000):Ev L f_k2o [.s (dL l)] [.s (dL l)] :=
 Jns L_k2o rfl (Vd l) (by rw[dL1];exact hl) (by omega)
theorem Jb8 (a b:List Int) (hl:a.length≤2000000):Ev L f_k2b [.s (dL a),.s (dL b)] [dB (decide (a=b))] :=
 JfR dI .i a b L_k2b rfl (fun _=>rfl) (fun _ _ _ _ _=>rfl) hl
theorem JkX (f:Frm) (hf:Frm.fit f):Ev L f_k2p f.cells f.cells:=by
 refine Jq7 (vs:=[.l (dL f.c),.l (dL f.d),.i f.k]) L_k2p rfl ?_;refine JqC (Xu f.c hf.1) rfl rfl rfl ?_;exact JqC (Xu f.d hf.2) rfl rfl rfl (JqK rfl)
theorem X3 :∀l:List Int,JA (dL l)=true
 | []=>rfl
 | x::l=>X3 l
theorem X6 (l:List Frm) (hl:l.length≤2000000) (hf :∀f∈l,Frm.fit f):Ev L f_k2q [.s (dF l)] [.s (dF l)]:=by
 refine Jq7 (vs:=[.l (dF l)]) L_k2q rfl ?_;refine JqH l.length (fun i=>[.l (dF (l.take i)),.i i]) (fun _=>True) rfl rfl trivial fun i hi _=>?_;refine Jqv i (JL l) rfl (fun h=>?_) (fun h=>?_)
 ·obtain⟨x,hx,hm⟩:=sA1 h;refine JqJ i (mA1 (f:=Frm.g) hx) rfl rfl rfl rfl ?_;refine JqC (JkX x (hf x hm)) rfl rfl rfl ?_;refine Jq3 (X3 x.c) (Jq3 (X3 x.d) ?_);refine JqR (dF (l.take i)) 2000000 (by rw[JL];simp;omega) (by omega) rfl ?_;refine JqI (vs:=[.l (dF (l.take (i+1))),.i ((i+1:Nat):Int)]) ?_ ⟨h,rfl,trivial⟩;show [V.l (dF (l.take i)++[x.g]),V.i (i64.wrap ((i:Int)+1))]=_;rw[wS h (by omega),QO,tS1 hx]
 ·refine JqG (JqK ?_);show [D.s (dF (l.take i))]=_;rw[tA1 h]
theorem Jct (l:List Int) (hl:l.length≤2000000):Ev L f_k45 [.s (dL l)] [dB (QL l)] :=
 Jq7 (vs:=[.l (dL l)]) L_k45 rfl (JqC (Q8 l 2 9 hl (by omega) (by omega)) rfl rfl rfl (JqK rfl))
theorem Yp (f:Frm) (hf:Frm.fit f):Ev L f_k2r f.cells [dB f.ok]:=by
 refine Jq7 (vs:=[.l (dL f.c),.l (dL f.d),.i f.k]) L_k2r rfl ?_;refine JqC (Q8 f.c 3 10000000 hf.1 (by omega) (by omega)) rfl rfl rfl ?_;refine JqZ (JE 3 10000000 f.c) rfl (fun h=>?_) (fun h=>JqK ?_)
 ·refine JqC (Q8 f.d 2 10000000 hf.2 (by omega) (by omega)) rfl rfl rfl ?_;refine JqZ (JE 2 10000000 f.d) rfl (fun h2=>?_) (fun h2=>JqK ?_)
  ·refine JqC (XE f.k (-10000000) 10000000) rfl rfl rfl (JqK ?_);show [dB (inB f.k (-10000000) 10000000)]=_;simp[Frm.ok,h,h2]
  ·show [dB false]=_;simp[Frm.ok,h2]
 ·show [dB false]=_;simp[Frm.ok,h]
theorem JaB (f:Frm) (hf:Frm.fit f):Ev L f_k2a f.cells [dB f.small]:=by
 refine Jq7 (vs:=[.l (dL f.c),.l (dL f.d),.i f.k]) L_k2a rfl ?_;refine JqC (Q8 f.c 3 2 hf.1 (by omega) (by omega)) rfl rfl rfl ?_;refine JqZ (JE 3 2 f.c) rfl (fun h=>?_) (fun h=>JqK ?_)
 ·refine JqC (Q8 f.d 2 2 hf.2 (by omega) (by omega)) rfl rfl rfl ?_;refine JqZ (JE 2 2 f.d) rfl (fun h2=>?_) (fun h2=>JqK ?_)
  ·refine JqC (XE f.k (-20) 20) rfl rfl rfl (JqK ?_);show [dB (inB f.k (-20) 20)]=_;simp[Frm.small,h,h2]
  ·show [dB false]=_;simp[Frm.small,h2]
 ·show [dB false]=_;simp[Frm.small,h]
theorem JmV (f g:Frm) (hf:Frm.fit f):Ev L f_k2c (f.cells++g.cells) [dB (decide (f=g))]:=by
 refine Jq7 (vs:=[.l (dL f.c),.l (dL f.d),.i f.k,.l (dL g.c),.l (dL g.d),.i g.k]) L_k2c rfl ?_;have e:decide (f=g)=(decide (f.k=g.k)&&decide (f.c=g.c)&&decide (f.d=g.d)):=by
  obtain⟨a,b,c⟩:=f;obtain⟨a',b',c'⟩:=g;simp only[Frm.mk.injEq]
  by_cases h1:a=a' <;> by_cases h2:b=b' <;> by_cases h3:c=c' <;> simp[h1,h2,h3]
 rw[e];refine JqL (f.k=g.k) rfl (fun h=>?_) (fun h=>JqK ?_)
 ·refine JqC (Jb8 f.c g.c hf.1) rfl rfl rfl ?_;refine JqZ (decide (f.c=g.c)) rfl (fun h2=>?_) (fun h2=>JqK ?_)
  ·refine JqC (Jb8 f.d g.d hf.2) rfl rfl rfl (JqK ?_);show [dB (decide (f.d=g.d))]=_;simp only[h,h2];simp
  ·show [dB false]=_;simp only[h2];simp
 ·show [dB false]=_;simp only[h];simp
theorem Jm4 (l:Jd) (hf:Frm.fit l.f):Ev L f_k2d l.cells [dB l.ok]:=by
 refine Jq7 (vs:=[.i l.kind,.i l.pot,.i l.skip,.l (dL l.f.c),.l (dL l.f.d),.i l.f.k]) L_k2d rfl ?_;refine JqL (l.kind=1) rfl (fun h1=>?_) (fun h1=>?_)
 ·refine JqC (XE l.skip 1 6) rfl rfl rfl ?_;refine JqZ (inB l.skip 1 6) rfl (fun h3=>?_) (fun h3=>JqK ?_)
  ·refine JqL (l.pot=0) rfl (fun h2=>?_) (fun h2=>JqK ?_)
   ·refine JqC (JaB l.f hf) rfl rfl rfl (JqK ?_);show [dB l.f.small]=_;simp[Jd.ok,h1,h2,h3]
   ·show [dB false]=_;simp[Jd.ok,h1,h2]
  ·show [dB false]=_;simp[Jd.ok,h1,h3]
 refine JqL (l.kind=2) rfl (fun h2=>?_) (fun h2=>?_)
 ·refine JqC (XE l.pot 0 2) rfl rfl rfl ?_;refine JqZ (inB l.pot 0 2) rfl (fun h3=>?_) (fun h3=>JqK ?_)
  ·refine JqL (l.skip=0) rfl (fun h4=>?_) (fun h4=>JqK ?_)
   ·refine JqC (JaB l.f hf) rfl rfl rfl (JqK ?_);show [dB l.f.small]=_;simp[Jd.ok,h2,h3,h4]
   ·show [dB false]=_;simp[Jd.ok,h2,h4]
  ·show [dB false]=_;simp[Jd.ok,h2,h3]
 refine JqL (l.kind=3) rfl (fun h3=>?_) (fun h3=>?_)
 ·refine JqL (l.pot=0) rfl (fun h4=>?_) (fun h4=>JqK ?_)
  ·refine JqL (l.skip=0) rfl (fun h5=>?_) (fun h5=>JqK ?_)
   ·refine JqC (JaB l.f hf) rfl rfl rfl (JqK ?_);show [dB l.f.small]=_;simp[Jd.ok,h3,h4,h5]
   ·show [dB false]=_;simp[Jd.ok,h3,h5]
  ·show [dB false]=_;simp[Jd.ok,h3,h4]
 refine JqL (l.kind=4) rfl (fun h4=>?_) (fun h4=>JqK ?_)
 ·refine JqL (l.pot=0) rfl (fun h5=>?_) (fun h5=>JqK ?_)
  ·refine JqL (l.skip=0) rfl (fun h6=>?_) (fun h6=>JqK ?_)
   ·refine JqC (JmV l.f Frm.none hf) rfl rfl rfl (JqK ?_);show [dB (decide (l.f=Frm.none))]=_;have e:decide (l.f=Frm.none)=(decide (((l.f.c.length:Int)+l.f.d.length)=0)&&decide (l.f.k=0)):=by
     obtain⟨a,b,c⟩:=l.f;have e1:(Frm.mk a b c=Frm.none)↔((((a.length:Int)+b.length)=0)∧c=0):=by
      simp only[Frm.none,Frm.mk.injEq];constructor
      ·rintro⟨rfl,rfl,rfl⟩;exact⟨rfl,rfl⟩
      ·rintro⟨h,rfl⟩;exact⟨List.length_eq_zero_iff.1 (by omega),List.length_eq_zero_iff.1 (by omega),rfl⟩
     by_cases h:Frm.mk a b c=Frm.none
     ·have:=e1.1 h;rw[decide_eq_true h,decide_eq_true this.1,decide_eq_true this.2];rfl
     ·rw[decide_eq_false h]
      symm
      rw[Bool.and_eq_false_iff]
      by_cases h1:((a.length:Int)+b.length)=0
      ·right;simp only[decide_eq_false_iff_not];intro h2;exact h (e1.2 ⟨h1,h2⟩)
      ·left;simpa using h1
    rw[e];simp only[Jd.ok,h4,h5,h6];simp
   ·show [dB false]=_;simp[Jd.ok,h4,h6]
  ·show [dB false]=_;simp[Jd.ok,h4,h5]
 ·show [dB false]=_;simp[Jd.ok,h1,h2,h3,h4]
theorem Jie {a:List Jd} {i:Nat} {x:Jd} (hx:a[i]? = some x):XF (a.take (i+1))=XF (a.take i)+if x.kind=1 then 1 else 0:=by
 rw[tS1 hx];simp[XF,List.countP_append,List.countP_cons]
theorem JeO (a:List Jd) (ha:YS a):Ev L f_k2e [.s (Jn a)] [dB (QI a)]:=by
 have hlen:=ha.1;refine Jq7 (vs:=[.l (Jn a)]) L_k2e rfl ?_;refine JqH a.length (fun i=>[.i (XF (a.take i)),.i i]) (fun i=>(a.take i).all Jd.ok=true) rfl rfl (by simp) fun i hi hal=>?_;have htl:XF (a.take i)≤a.length:=Nat.le_trans List.countP_le_length (by simp;omega);refine Jqv i (Qt a) rfl (fun h=>?_) (fun h=>?_)
 ·obtain⟨x,hx,hm⟩:=sA1 h;refine JqJ i (mA1 (f:=Jd.g) hx) rfl rfl rfl rfl ?_;refine JqC (Jm4 x (ha.2 x hm)) rfl rfl rfl ?_;refine JqA x.ok rfl (fun hb=>JqG (JqK ?_)) (fun hb=>?_)
  ·show [dB false]=_;simp[QI,XK hx hb]
  ·have ht:=Jie hx;refine JqL (x.kind=1) rfl (fun h1=>?_) (fun h1=>?_)
   ·refine JqI (vs:=[.i (XF (a.take (i+1))),.i ((i+1:Nat):Int)]) ?_ ⟨h,rfl,Qr hx hal hb⟩;show [V.i (i64.wrap ((XF (a.take i):Int)+1)),V.i (i64.wrap ((i:Int)+1))]=_;rw[wS h (by omega),w64 (by omega) (by omega),ht,if_pos h1];rfl
   ·refine JqI (vs:=[.i (XF (a.take (i+1))),.i ((i+1:Nat):Int)]) ?_ ⟨h,rfl,Qr hx hal hb⟩;show [V.i (XF (a.take i):Int),V.i (i64.wrap ((i:Int)+1))]=_;rw[wS h (by omega),ht,if_neg h1];rfl
 ·rw[tA1 h] at hal htl ⊢;refine JqG ?_;refine JqL (((Jn a).length:Int)≤6) rfl (fun h6=>JqK ?_) (fun h6=>JqK ?_)
  ·rw[Qt] at h6;show [dB (decide ((XF a:Int)≤3))]=_;simp only[QI,hal,h6];simp
  ·rw[Qt] at h6;show [dB false]=_;simp only[QI,h6];simp
theorem Wf:Ev L f_k2m [] Frm.zero.cells:=Jq7 (vs:=[]) L_k2m rfl (JqK rfl)
theorem Jbw (v:Int) (h0:0≤v) (h2:v≤2):Ev L f_k2n [dI v] (Ju v.toNat).cells:=by
 refine Jq7 (vs:=[.i v]) L_k2n rfl ?_;refine JqC (XE v 0 2) rfl rfl rfl ?_;refine JqM (by show (!(inB v 0 2))=false;simp[inB,h0,h2]) ?_;refine JqC Wf rfl rfl rfl ?_;refine JqF (0≤v) rfl h0 ?_;refine JqF (v<((dL [0,0,0]).length:Int)) rfl (by simp[dL];omega) ?_;refine JqO (ds:=dL [0,0,0]) v rfl rfl rfl h0 (ZW h0 (by simp;omega)) rfl ?_;refine JqK ?_;show [D.s ((dL [0,0,0]).set v.toNat (dI 1)),.s (dL [0,0]),dI 0]=_;rw[Uk];rfl
def Jbr (a b:List Int) (n:Int):List Int:=JM a b n++a.drop b.length
theorem Jf0 {a b:List Int} {n:Int} (h:b.length=a.length):Jbr a b n=JM a b n:=by simp[Jbr,h]
theorem Jnj (a:List Int) (n:Int):Jbr a [] n=a:=by simp[Jbr,JM]
theorem Jag {a b:List Int} {n:Int} {i:Nat} {x y:Int} (hl:b.length≤a.length) (hx:a[i]? = some x) (hy:b[i]? = some y) :
  (JM a (b.take i) n++a.drop i)[i]? = some x∧(JM a (b.take i) n++a.drop i).set i (x+n*y)=JM a (b.take (i+1)) n++a.drop (i+1):=by
 have hi:=(Jra.1 hy).1;have h1:(JM a (b.take i) n).length=i:=by rw[UI];simp;omega
 have hz :∀(l:List Int),l.length=i→JM a l n=JM (a.take i) l n:=by
  intro l hl;unfold JM
  conv=>lhs;rw[←List.take_append_drop i a]
  rw[show l=l++[] by simp];rw[List.zipWith_append (by simp;omega)];simp
 refine⟨by rw[JrB (by omega),h1,Nat.sub_self,List.getElem?_drop,Nat.add_zero];exact hx,?_⟩;rw[List.set_append_right _ _ (by omega),h1,Nat.sub_self,ZY hx,List.set_cons_zero,tS1 hy];have h2:JM a (b.take i++[y]) n=JM a (b.take i) n++[x+n*y]:=by
  unfold JM
  conv=>lhs;rw[←List.take_append_drop i a]
  rw[List.zipWith_append (by simp;omega),ZY hx]
  congr 1
  ·have:=hz (b.take i) (by simp;omega);unfold JM at this;exact this.symm
  ·simp
 rw[h2,List.append_assoc];rfl
theorem JmZ {a b:Frm} {n M:Int} (hac:Lim M a.c) (had:Lim M a.d) (hak : -M≤a.k∧a.k≤M) (hbc:Lim M b.c) (hbd:Lim M b.d) (hbk : -M≤b.k∧b.k≤M) (hl:b.c.length≤a.c.length) (hl2:b.d.length≤a.d.length) (h9:a.c.length≤1000) (h92:a.d.length≤1000)
  (hM:M≤1000000000) (hn : -1000000000≤n∧n≤1000000000) :
  Ev L f_k2v (a.cells++b.cells++[dI n]) [dI (a.k+n*b.k),.s (dL (Jbr a.c b.c n)),.s (dL (Jbr a.d b.d n))]:=by
 refine Jq7 (vs:=[.l (dL a.c),.l (dL a.d),.i a.k,.l (dL b.c),.l (dL b.d),.i b.k,.i n]) L_k2v rfl ?_;refine JqH b.c.length (fun i=>[.l (dL (JM a.c (b.c.take i) n++a.c.drop i)),.i i]) (fun _=>True) rfl (by simp[JM,den,Jp,V.int]) trivial fun i hi _=>?_;simp only[sC,sN];refine Jqv i (dL1 b.c) rfl (fun h=>?_) (fun h=>?_)
 ·obtain⟨x,hx,hmx⟩:=sA1 (show i<a.c.length by omega);obtain⟨y,hy,hmy⟩:=sA1 h;obtain⟨s1,s2⟩:=Jag (n:=n) hl hx hy;refine JqJ i (mA1 (f:=dI) hy) rfl rfl rfl rfl ?_;refine JqB i (mA1 (f:=dI) s1) rfl rfl rfl rfl rfl rfl ?_;refine JqB i (mA1 (f:=dI) s1) rfl rfl rfl rfl rfl rfl ?_;refine JqI (vs:=[.l (dL (JM a.c (b.c.take (i+1)) n++a.c.drop (i+1))),.i ((i+1:Nat):Int)]) ?_ ⟨h,rfl,trivial⟩;show [V.l ((dL (JM a.c (b.c.take i) n++a.c.drop i)).set (i:Int).toNat (dI (i64.wrap (x+i64.wrap (n*y))))),V.i (i64.wrap ((i:Int)+1))]=_;rw[wS h (by omega),Vi (hac x hmx) (hbc y hmy) hn hM (by omega),Uk,Int.toNat_natCast,s2]
 refine JqG ?_;have hc:JM a.c (b.c.take i) n++a.c.drop i=Jbr a.c b.c n:=by rw[tA1 h,show i=b.c.length by omega];rfl
 rw[hc];refine JqH b.d.length (fun i=>[.l (dL (JM a.d (b.d.take i) n++a.d.drop i)),.i i]) (fun _=>True) rfl (by simp[JM,den,Jp,V.int]) trivial fun i hi _=>?_;simp only[sC,sN];refine Jqv i (dL1 b.d) rfl (fun h=>?_) (fun h=>?_)
 ·obtain⟨x,hx,hmx⟩:=sA1 (show i<a.d.length by omega);obtain⟨y,hy,hmy⟩:=sA1 h;obtain⟨s1,s2⟩:=Jag (n:=n) hl2 hx hy;refine JqJ i (mA1 (f:=dI) hy) rfl rfl rfl rfl ?_;refine JqB i (mA1 (f:=dI) s1) rfl rfl rfl rfl rfl rfl ?_;refine JqB i (mA1 (f:=dI) s1) rfl rfl rfl rfl rfl rfl ?_;refine JqI (vs:=[.l (dL (JM a.d (b.d.take (i+1)) n++a.d.drop (i+1))),.i ((i+1:Nat):Int)]) ?_ ⟨h,rfl,trivial⟩;show [V.l ((dL (JM a.d (b.d.take i) n++a.d.drop i)).set (i:Int).toNat (dI (i64.wrap (x+i64.wrap (n*y))))),V.i (i64.wrap ((i:Int)+1))]=_;rw[wS h (by omega),Vi (had x hmx) (hbd y hmy) hn hM (by omega),Uk,Int.toNat_natCast,s2]
 refine JqG (JqK ?_);have hd:JM a.d (b.d.take i) n++a.d.drop i=Jbr a.d b.d n:=by rw[tA1 h,show i=b.d.length by omega];rfl
 show [dI (i64.wrap (a.k+i64.wrap (n*b.k))),.s (dL (Jbr a.c b.c n)),.s (dL (JM a.d (b.d.take i) n++a.d.drop i))]=_;rw[hd,Vi hak hbk hn hM (by omega)]
theorem JbE {a b:Frm} {n M:Int} (ha:Std M a) (hb:Std M b) (hM:M≤1000000000) (hn : -1000000000≤n∧n≤1000000000) :
  Ev L f_k2v (a.cells++b.cells++[dI n]) [dI (JJ a b n).k,.s (dL (JJ a b n).c),.s (dL (JJ a b n).d)]:=by
 have:=JmZ (n:=n) ha.lc ha.ld ha.k hb.lc hb.ld hb.k (by rw[ha.c,hb.c];omega) (by rw[ha.d,hb.d];omega) (by rw[ha.c];omega) (by rw[ha.d];omega) hM hn;rw[Jf0 (by rw[ha.c,hb.c]),Jf0 (by rw[ha.d,hb.d])] at this;exact this
theorem V0 {f:Frm} {M:Int} (hf:Std M f) (hM:M≤10000000):Ev L f_k2w f.cells f.cells:=by
 refine Jq7 (vs:=[.l (dL f.c),.l (dL f.d),.i f.k]) L_k2w rfl ?_;have e:=Yp f hf.fit;rw[hf.okF hM] at e;exact JqC e rfl rfl rfl (JqM rfl (JqK rfl))
theorem JeD {f:Frm} {M n:Int} (hf:Std M f) (hM:M≤10000000) (hn : -1≤n∧n≤1) (h0:0≤M):Ev L f_k2y (f.cells++[dI n]) (JJ Frm.zero f n).cells:=by
 refine Jq7 (vs:=[.l (dL f.c),.l (dL f.d),.i f.k,.i n]) L_k2y rfl ?_;have e:=Yp f hf.fit;rw[hf.okF hM] at e;refine JqC e rfl rfl rfl (JqM rfl ?_);refine JqC (XE n (-10000000) 10000000) rfl rfl rfl ?_;refine JqM (by show (!(inB n (-10000000) 10000000))=false;simp[inB];omega) ?_;refine JqC Wf rfl rfl rfl ?_;refine JqC (JbE (Xg.mono h0) hf (by omega) (n:=n) (by omega)) rfl rfl rfl ?_;have hs:=Qv Xg hf (n:=n) (N:=1) (by omega);exact JqC (V0 (hs.mono (by omega)) hM) rfl rfl rfl (JqK rfl)
theorem JbO {f g:Frm} {M N:Int} (hf:Std M f) (hg:Std N g) (n:Int):JJ f (JJ Frm.zero g n) 1=JJ f g n:=by
 obtain⟨c,d,k⟩:=f;obtain⟨c',d',k'⟩:=g;obtain⟨a1,a2,a3,rfl⟩:=Jai hf.c;obtain⟨b1,b2,rfl⟩:=Jh5 hf.d;obtain⟨a1',a2',a3',rfl⟩:=Jai hg.c;obtain⟨b1',b2',rfl⟩:=Jh5 hg.d;simp[JJ,JM,Frm.zero]
theorem JjY {f g:Frm} {M:Int} (hf:Std M f) (hg:Std M g) (h0:0≤M) (hM:2*M≤10000000):Ev L f_k2z (f.cells++g.cells) (JJ f g 1).cells:=by
 refine Jq7 (vs:=[.l (dL f.c),.l (dL f.d),.i f.k,.l (dL g.c),.l (dL g.d),.i g.k]) L_k2z rfl ?_;have e:=Yp f hf.fit;rw[hf.okF (by omega)] at e;have e2:=Yp g hg.fit;rw[hg.okF (by omega)] at e2;refine JqC e rfl rfl rfl (JqM rfl ?_);refine JqC e2 rfl rfl rfl (JqM rfl ?_);refine JqC Wf rfl rfl rfl ?_;have e3:=JbE (Xg.mono h0) hf (by omega) (n:=1) (by omega);rw[Jd8 hf] at e3;refine JqC e3 rfl rfl rfl ?_;simp only[sC,sN];refine JqC (JbE hf hg (by omega) (n:=1) (by omega)) rfl rfl rfl ?_;have hs:=Qv hf hg (n:=1) (N:=1) (by omega);exact JqC (V0 hs (by omega)) rfl rfl rfl (JqK rfl)
end Go.Proofs.YtgpjnnkmmplicaaGreatDoor

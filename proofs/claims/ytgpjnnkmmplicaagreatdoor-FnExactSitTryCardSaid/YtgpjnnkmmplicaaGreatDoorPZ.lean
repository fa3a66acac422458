import Derived.Test.YtgpjnnkmmplicaaGreatDoorPT
import Derived.Test.YtgpjnnkmmplicaaGreatDoorPN
import Derived.Test.YtgpjnnkmmplicaaGreatDoorTd
import Derived.Test.YtgpjnnkmmplicaaGreatDoorTe
set_option linter.unusedVariables false
set_option linter.unusedSimpArgs false
/- What one site knows is so for all; who is alone knows all: over residual programs. -/
namespace Go.Proofs.YtgpjnnkmmplicaaGreatDoor
open Go Go.Tm
open Go.IntKind (i64)
theorem Ji2 (b g:List Int) (s:Int) (hg :∀x∈g,0≤x∧x≤50) (hl:g.length≤2000000):Ev L f_k4d [.s (dL b),.s (dL g),dI s] [dI (Jm g s)]:=by
 refine Jq7 (vs:=[.l (dL b),.l (dL g),.i s]) L_k4d rfl ?_;refine JqH g.length (fun i=>[.i (Jm (g.take i) s),.i i]) (fun _=>True) rfl rfl trivial fun i hi _=>?_;simp only[sC,sN];refine Jqv i (dL1 g) rfl (fun h=>?_) (fun h=>?_)
 ·obtain⟨x,hx,hm⟩:=sA1 h;have hst:=Xe (s:=s) hx;have hle:=U6 (s:=s) hg i hi;have hxb:=hg x hm;refine JqJ i (mA1 (f:=dI) hx) rfl rfl rfl rfl ?_;refine JqA (decide ((i:Int)=s)) rfl (fun hs=>?_) (fun hs=>?_)
  ·refine JqI (vs:=[.i (Jm (g.take (i+1)) s),.i ((i+1:Nat):Int)]) ?_ ⟨h,rfl,trivial⟩;show [V.i (i64.wrap (Jm (g.take i) s+x)),V.i (i64.wrap ((i:Int)+1))]=_;rw[wS h (by omega),hst,if_neg (by simpa using hs),w64 (by omega) (by omega)]
  ·refine JqI (vs:=[.i (Jm (g.take (i+1)) s),.i ((i+1:Nat):Int)]) ?_ ⟨h,rfl,trivial⟩;show [V.i (Jm (g.take i) s),V.i (i64.wrap ((i:Int)+1))]=_;rw[wS h (by omega),hst,if_pos (by simpa using hs),Int.add_zero]
 ·refine JqG (JqK ?_);rw[tA1 h];rfl
theorem Jjn (b g:List Int) (s:Int) (hg :∀x∈g,0≤x∧x≤50) (hl:g.length≤2000000):Ev L f_k1t [.s (dL b),.s (dL g),dI s] [dI (Jm g s)]:=by
 refine Jq7 (vs:=[.l (dL b),.l (dL g),.i s]) L_k1t rfl ?_;refine JqH g.length (fun i=>[.i (Jm (g.take i) s),.i i]) (fun _=>True) rfl rfl trivial fun i hi _=>?_;simp only[sC,sN];refine Jqv i (dL1 g) rfl (fun h=>?_) (fun h=>?_)
 ·obtain⟨x,hx,hm⟩:=sA1 h;have hst:=Xe (s:=s) hx;have hle:=U6 (s:=s) hg i hi;have hxb:=hg x hm;refine JqA (decide ((i:Int)=s)) rfl (fun hs=>?_) (fun hs=>?_)
  ·refine JqJ i (mA1 (f:=dI) hx) rfl rfl rfl rfl ?_;refine JqI (vs:=[.i (Jm (g.take (i+1)) s),.i ((i+1:Nat):Int)]) ?_ ⟨h,rfl,trivial⟩;show [V.i (i64.wrap (Jm (g.take i) s+x)),V.i (i64.wrap ((i:Int)+1))]=_;rw[wS h (by omega),hst,if_neg (by simpa using hs),w64 (by omega) (by omega)]
  ·refine JqI (vs:=[.i (Jm (g.take (i+1)) s),.i ((i+1:Nat):Int)]) ?_ ⟨h,rfl,trivial⟩;show [V.i (Jm (g.take i) s),V.i (i64.wrap ((i:Int)+1))]=_;rw[wS h (by omega),hst,if_pos (by simpa using hs),Int.add_zero]
 ·refine JqG (JqK ?_);rw[tA1 h];rfl
def B3 (r:Int×Int×Bool):List D:=[dI r.1,dI r.2.1,dB r.2.2]
theorem Jl4 {a b:List Int} {A B:Int} (ha:Lim A a) (hb:Lim B b):Lim (A+B) (J7 a b):=by
 have:=Jdl (n:=1) (N:=1) ha hb (by omega);have e:JM a b 1=J7 a b:=by
  unfold JM J7
  congr 1
  funext x y;omega
 rw[e] at this;exact this.mono (by omega)
theorem YO.here {f:Frm} {b a w:List Int} (hf:f.ok=true) (hb:Xb b=true) (ha:Qh a=true) (hw:QL w=true):YO f (J7 b a) w:=by
 have hs:=Jik hf;obtain⟨b1,b2⟩:=Yq.1 hb;obtain⟨a1,a2⟩:=Jy.1 ha;obtain⟨w1,w2⟩:=Km.1 hw;refine⟨hs.c,hs.d,by rw[Z2 (by omega)];exact b1,w1,10000000,30000,by omega,by omega,by omega,hs.lc,hs.ld,(Jl4 b2 (B:=20000) a2).mono (by omega),w2.mono (by omega),by have:=hs.k;omega⟩
theorem JiW {f:Frm} {v w:List Int} (h:YO f v w):Ev L f_k1s (f.cells++[.s (dL v),.s (dL w)]) [dI (atF f v w)]:=by
 obtain⟨A,B,hA,hB,hAB,h1,h2,h3,h4,h5⟩:=h.a;have h0:0≤A*B:=Int.mul_nonneg hA hB;have c3:=h.c;have d2:=h.d;have v3:=h.v3;have w2:=h.w2;have lim :∀(c x:List Int) (i:Nat),Lim A c→Lim B x→i≤3→-3000000000000000≤dot (c.take i) (x.take i)∧dot (c.take i) (x.take i)≤3000000000000000:=by
  intro c x i hc hx hi;have:=KO (hc.take i) (hx.take i) hA hB;have hl:((c.take i).length:Int)≤3:=by simp;omega
  have:=Int.mul_le_mul_of_nonneg_left hl h0;omega
 refine Jq7 (vs:=[.l (dL f.c),.l (dL f.d),.i f.k,.l (dL v),.l (dL w)]) L_k1s rfl ?_;refine JqH 3 (fun i=>[.i (f.k+dot (f.c.take i) (v.take i)),.i i]) (fun _=>True) rfl (by simp[dot,den,Jp,V.int]) trivial fun i hi _=>?_;simp only[sC,sN];refine JqW i 3 rfl (fun hi3=>?_) (fun hi3=>?_)
 ·obtain⟨x,hx,hmx⟩:=sA1 (show i<f.c.length by omega);obtain⟨y,hy,hmy⟩:=sA1 (show i<v.length by omega);have hp:=ZM (h1 x hmx) (h3 y hmy);have hl:=lim f.c v i h1 h3 hi;refine JqJ i (mA1 (f:=dI) hx) rfl rfl rfl rfl ?_;refine JqJ i (mA1 (f:=dI) hy) rfl rfl rfl rfl ?_;refine JqI (vs:=[.i (f.k+dot (f.c.take (i+1)) (v.take (i+1))),.i ((i+1:Nat):Int)]) ?_ ⟨hi3,rfl,trivial⟩;show [V.i (i64.wrap (f.k+dot (f.c.take i) (v.take i)+i64.wrap (x*y))),V.i (i64.wrap ((i:Int)+1))]=_;rw[wS hi3 (by omega),w64 (n:=x*y) (by omega) (by omega),w64 (by omega) (by omega),Wd hx hy,Int.add_assoc]
 have hi3:i=3:=by omega
 subst hi3;rw[Jrd (by omega),Jrd (by omega)];refine JqG ?_;have hcv:=lim f.c v 3 h1 h3 (by omega);rw[Jrd (by omega),Jrd (by omega)] at hcv;refine JqH 2 (fun i=>[.i (f.k+dot f.c v+dot (f.d.take i) (w.take i)),.i i]) (fun _=>True) rfl (by simp[dot,den,Jp,V.int]) trivial fun i hi _=>?_;simp only[sC,sN];refine JqW i 2 rfl (fun hi2=>?_) (fun hi2=>?_)
 ·obtain⟨x,hx,hmx⟩:=sA1 (show i<f.d.length by omega);obtain⟨y,hy,hmy⟩:=sA1 (show i<w.length by omega);have hp:=ZM (h2 x hmx) (h4 y hmy);have hl:=lim f.d w i h2 h4 (by omega);refine JqJ i (mA1 (f:=dI) hx) rfl rfl rfl rfl ?_;refine JqJ i (mA1 (f:=dI) hy) rfl rfl rfl rfl ?_;refine JqI (vs:=[.i (f.k+dot f.c v+dot (f.d.take (i+1)) (w.take (i+1))),.i ((i+1:Nat):Int)]) ?_ ⟨hi2,rfl,trivial⟩;show [V.i (i64.wrap (f.k+dot f.c v+dot (f.d.take i) (w.take i)+i64.wrap (x*y))),V.i (i64.wrap ((i:Int)+1))]=_;rw[wS hi2 (by omega),w64 (n:=x*y) (by omega) (by omega),w64 (by omega) (by omega),Wd hx hy,Int.add_assoc (f.k+dot f.c v)]
 ·refine JqG (JqK ?_);show [dI (f.k+dot f.c v+dot (f.d.take i) (w.take i))]=_;rw[Jrd (by omega),Jrd (by omega),show f.k+dot f.c v+dot f.d w=atF f v w by unfold atF;omega]
theorem Jog {a b:List Int} (ha:a.length=3) (hb:b.length=3) (la:Lim 1000000000 a) (lb:Lim 1000000000 b):Ev L f_k1r [.s (dL a),.s (dL b)] [.s (dL (J7 a b))]:=by
 refine Jq7 (vs:=[.l (dL a),.l (dL b)]) L_k1r rfl ?_;refine JqH 3 (fun i=>[.l (dL ((J7 a b).take i)),.i i]) (fun _=>True) rfl rfl trivial fun i hi _=>?_;simp only[sC,sN];refine JqW i 3 rfl (fun h=>?_) (fun h=>?_)
 ·obtain⟨x,hx,hmx⟩:=sA1 (show i<a.length by omega);obtain⟨y,hy,hmy⟩:=sA1 (show i<b.length by omega);have hxl:=la x hmx;have hyl:=lb y hmy;have hs:(J7 a b)[i]? = some (x+y):=by unfold J7;rw[List.getElem?_zipWith,hx,hy]
  refine JqJ i (mA1 (f:=dI) hx) rfl rfl rfl rfl ?_;refine JqJ i (mA1 (f:=dI) hy) rfl rfl rfl rfl ?_;refine JqR (dL ((J7 a b).take i)) 10 (by rw[dL1];simp;omega) (by omega) rfl ?_;refine JqI (vs:=[.l (dL ((J7 a b).take (i+1))),.i ((i+1:Nat):Int)]) ?_ ⟨h,rfl,trivial⟩;show [V.l (dL ((J7 a b).take i)++[dI (i64.wrap (x+y))]),V.i (i64.wrap ((i:Int)+1))]=_;rw[wS h (by omega),w64 (by omega) (by omega),UT,tS1 hs]
 ·refine JqG (JqK ?_);show [D.s (dL ((J7 a b).take i))]=_;rw[Jrd (by rw[Z2 (by omega)];omega)]
theorem Jdt {b g:List Int} {ps:List (List Int)} {s:Int} {a:List Int} (h:JU b g ps s a=true):Xb b=true∧(∀x∈g,0≤x∧x≤50)∧Qh a=true:=by
 simp only[JU,Qu,Jq9,Jrm,JH] at h;exact⟨h.1.1.1.1.1,h.1.1.1.2,h.2⟩
theorem Jde (b g:List Int) (ps:List (List Int)) (s:Int) (a:List Int) (f:Frm) (w:List Int) (hb:b.length≤2000000) (hg:g.length≤2000000) (hp:fitLL ps) (ha:a.length≤2000000) (hf:Frm.fit f) (hw:w.length≤2000000) :
  Ev L f_k4e ([.s (dL b),.s (dL g),.s (dLL ps),dI s,.s (dL a)]++f.cells++[.s (dL w)]) (B3 (JB b g ps s a f w)):=by
 refine Jq7 (vs:=[.l (dL b),.l (dL g),.l (dLL ps),.i s,.l (dL a),.l (dL f.c),.l (dL f.d),.i f.k,.l (dL w)]) L_k4e rfl ?_;have none:(JU b g ps s a&&f.ok&&QL w)=false→JB b g ps s a f w=(0,0,false):=fun h=>by
  unfold JB;unfold JU at h;rw[h];rfl
 refine JqC (KR b g ps s a hb hg hp ha) rfl rfl rfl ?_;refine JqA (JU b g ps s a) rfl (fun h=>JqK ?_) (fun h=>?_)
 ·rw[none (by simp[h])];rfl
 refine JqC (Yp f hf) rfl rfl rfl ?_;refine JqA f.ok rfl (fun h2=>JqK ?_) (fun h2=>?_)
 ·rw[none (by simp[h2])];rfl
 refine JqC (Jct w hw) rfl rfl rfl ?_;refine JqA (QL w) rfl (fun h3=>JqK ?_) (fun h3=>?_)
 ·rw[none (by simp[h3])];rfl
 simp only[sC,sN];obtain⟨v1,v2,v3⟩:=Jdt h;obtain⟨b1,b2⟩:=Yq.1 v1;obtain⟨a1,a2⟩:=Jy.1 v3;have hat:=YO.here h2 v1 v3 h3;have hlim:=Jiz hat;have hstd:=Jik h2;have hM:JB b g ps s a f w=if f.c=[0,0,0] then(atF f (J7 b a) w,atF f (J7 b a) w,true) else if Ji f.c∈ps then(atF f (J7 b a) w-Jm g s,atF f (J7 b a) w+Jm g s,true) else(0,0,false):=by
  unfold JB;unfold JU at h;rw[h,h2,h3];rfl
 rw[hM];refine JqC (JjN (M:=20000) (b2.mono (by omega)) a2 (by omega) (by omega) (by omega)) rfl rfl rfl ?_;refine JqC (Jna hat) rfl rfl rfl ?_;refine JqC (Ji2 b g s v2 hg) rfl rfl rfl ?_;have hol:=U6 (s:=s) v2 g.length (Nat.le_refl _);rw[Jrd (Nat.le_refl _)] at hol;refine JqC (Jht f.c hstd.c) rfl rfl rfl ?_;simp only[sC,sN];generalize atF f (J7 b a) w=n at *;generalize Jm g s=o at *;refine JqZ (decide (f.c=[0,0,0])) rfl (fun hz=>JqK ?_) (fun hz=>?_)
 ·rw[if_pos (by simpa using hz)];rfl
 rw[if_neg (by simpa using hz)];refine JqC (Jgx f (hstd.lc.mono (by omega)) (by rw[hstd.c];omega)) rfl rfl rfl ?_;refine JqC (JjU ps (Ji f.c) hp.1 hp.2) rfl rfl rfl ?_;simp only[sC,sN];refine JqL (0≤ZF ps (Ji f.c)) rfl (fun hh=>JqK ?_) (fun hh=>JqK ?_)
 ·rw[if_pos ((Y6 _ _).1 hh)];show [dI (i64.wrap (n-o)),dI (i64.wrap (n+o)),dB true]=_;rw[w64 (n:=n-o) (by omega) (by omega),w64 (n:=n+o) (by omega) (by omega)];rfl
 ·rw[if_neg (fun hm=>hh ((Y6 _ _).2 hm))];rfl
theorem JcZ (b g:List Int) (ps:List (List Int)) (s:Int) (a:List Int) (f:Frm) (w:List Int) (hb:b.length≤2000000) (hg:g.length≤2000000) (hp:fitLL ps) (ha:a.length≤2000000) (hf:Frm.fit f) (hw:w.length≤2000000) :
  Ev L f_k1u ([.s (dL b),.s (dL g),.s (dLL ps),dI s,.s (dL a)]++f.cells++[.s (dL w)]) (B3 (JB b g ps s a f w)):=by
 refine Jq7 (vs:=[.l (dL b),.l (dL g),.l (dLL ps),.i s,.l (dL a),.l (dL f.c),.l (dL f.d),.i f.k,.l (dL w)]) L_k1u rfl ?_;have none:(JU b g ps s a&&f.ok&&QL w)=false→JB b g ps s a f w=(0,0,false):=fun h=>by
  unfold JB;unfold JU at h;rw[h];rfl
 refine JqC (JaM b g hb hg) rfl rfl rfl ?_;refine JqA (Qu b g) rfl (fun h=>JqK ?_) (fun h=>?_)
 ·rw[none (by simp[JU,h])];rfl
 refine JqC (Jdh ps hp) rfl rfl rfl ?_;refine JqA (QV ps) rfl (fun h'=>JqK ?_) (fun h'=>?_)
 ·rw[none (by simp[JU,h'])];rfl
 refine JqC (Qg s 0 (g.length-1)) rfl ?_ rfl ?_
 ·show [dI s,dI 0,dI (i64.wrap (((dL g).length:Int)-1))]=_;rw[dL1,w64 (by omega) (by omega)]
 refine JqA (inB s 0 (g.length-1)) rfl (fun h''=>JqK ?_) (fun h''=>?_)
 ·rw[none (by simp[JU,h''])];rfl
 refine JqC (Q4 a 3 20000 ha (by omega) (by omega)) rfl rfl rfl ?_;refine JqA (JE 3 20000 a) rfl (fun h3=>JqK ?_) (fun h3=>?_)
 ·rw[none (by simp[JU,Qh,h3])];rfl
 have hfine:JU b g ps s a=true:=by simp only[JU,Qh,h,h',h'',h3];rfl
 refine JqC (Jia f hf) rfl rfl rfl ?_;refine JqA f.ok rfl (fun h2=>JqK ?_) (fun h2=>?_)
 ·rw[none (by simp[h2])];rfl
 refine JqC (Jmm w hw) rfl rfl rfl ?_;refine JqA (QL w) rfl (fun h3=>JqK ?_) (fun h4=>?_)
 ·rw[none (by simp[h3])];rfl
 simp only[sC,sN];obtain⟨v1,v2,v3⟩:=Jdt hfine;obtain⟨b1,b2⟩:=Yq.1 v1;obtain⟨a1,a2⟩:=Jy.1 v3;have hat:=YO.here h2 v1 v3 h4;have hlim:=Jiz hat;have hstd:=Jik h2;have hM:JB b g ps s a f w=if f.c=[0,0,0] then(atF f (J7 b a) w,atF f (J7 b a) w,true) else if Ji f.c∈ps then(atF f (J7 b a) w-Jm g s,atF f (J7 b a) w+Jm g s,true) else(0,0,false):=by
  unfold JB;unfold JU at hfine;rw[hfine,h2,h4];rfl
 rw[hM];refine JqC (Jog b1 (by omega) (b2.mono (by omega)) (Lim.mono (m:=20000) a2 (by omega))) rfl rfl rfl ?_;refine JqC (JiW hat) rfl rfl rfl ?_;refine JqC (Jb6 f (hstd.lc.mono (by omega)) (by rw[hstd.c];omega)) rfl rfl rfl ?_;refine JqC Yr rfl rfl rfl ?_;refine JqC (W7 (Ji f.c) [0,0,0] (by rw[Uq,hstd.c];omega)) rfl rfl rfl ?_;have hol:=U6 (s:=s) v2 g.length (Nat.le_refl _);rw[Jrd (Nat.le_refl _)] at hol;have hO:=Jjn b g s v2 hg;simp only[sC,sN];generalize atF f (J7 b a) w=n at *;generalize Jm g s=o at *;have hpz:=Jkw hstd.c;refine JqZ (decide (Ji f.c=[0,0,0])) rfl (fun hz=>JqK ?_) (fun hz=>?_)
 ·rw[if_pos (hpz.1 (by simpa using hz))];rfl
 rw[if_neg (fun e=>by simp[hpz.2 e] at hz)];refine JqC (Jes ps (Ji f.c) hp.1 hp.2) rfl rfl rfl ?_;simp only[sC,sN];refine JqL (ZF ps (Ji f.c)<0) rfl (fun hh=>JqK ?_) (fun hh=>?_)
 ·rw[if_neg ((JeB _ _).1 hh)];rfl
 ·rw[if_pos ((Y6 _ _).1 (by omega))];refine JqC hO rfl rfl rfl ?_;refine JqC hO rfl rfl rfl (JqK ?_);show [dI (i64.wrap (n-o)),dI (i64.wrap (n+o)),dB true]=_;rw[w64 (n:=n-o) (by omega) (by omega),w64 (n:=n+o) (by omega) (by omega)];rfl
/- What a site does alone: over residual programs. -/
theorem JqX {l:List V} {Q:Oc→Prop} {r:R} {c:Nat} {N:Int} (x:List Int) (hx:x.length≤1000) (hN:1000≤N) (he:lst (Jp l) (.v c)=dL x) (h:WR L r l Q) :
  WR L (.i (.chk (.cmp .le (.len (.v c)) (.z N))) (.i (.head 1 (.v c)) (.i (.chk (.cmp .le (.len (.app .nil (.v c))) (.z N))) r))) l Q :=
 JqQ (dL x) 1000 (by rw[dL1];omega) hN he (Jqx (by rw[he];exact Vd x) (JqQ (dL x) 1000 (by rw[dL1];omega) hN he h))
theorem VJ {pins:List Bool} {a:List Int} {i:Nat} {x:Int} {b:Bool} (hx:a[i]? = some x) (hb:pins[i]? = some b):(a.zip pins)[i]? = some (x,b):=by
 rw[List.getElem?_zip_eq_some];exact⟨hx,hb⟩
theorem Jbc (as:List (List Jd)) (ps:List (List Int)) (pins:List Bool) (a:List Int) (hp:pins.length=3) (ha:a.length=3):Ev L f_k3q [.s (Jf as),.s (dLL ps),.s (dBl pins),.s (dL a)] [dB (JZ pins a)]:=by
 refine Jq7 (vs:=[.l (Jf as),.l (dLL ps),.l (dBl pins),.l (dL a)]) L_k3q rfl ?_;refine JqH a.length (fun i=>[.i i]) (fun i=>((a.zip pins).take i).all (fun q=>!(q.2 && !decide (q.1=0)))=true) rfl rfl rfl fun i hi hq=>?_;simp only[sC,sN];refine Jqv i (dL1 a) rfl (fun h=>?_) (fun h=>?_)
 ·obtain⟨x,hx,_⟩:=sA1 h;obtain⟨b,hb,_⟩:=sA1 (show i<pins.length by omega);have hz:=VJ hx hb;refine JqJ i (mA1 (f:=dI) hx) rfl rfl rfl rfl ?_;refine JqA (decide (x=0)) rfl (fun h0=>?_) (fun h0=>?_)
  ·refine JqJ i (mA1 (f:=dB) hb) rfl rfl rfl rfl ?_;refine JqZ b rfl (fun hb1=>JqG (JqK ?_)) (fun hb1=>?_)
   ·show [dB false]=_;unfold JZ;rw[XK hz (by simp only[h0,hb1];rfl)]
   ·refine JqI (vs:=[.i ((i+1:Nat):Int)]) ?_ ⟨h,rfl,Qr hz hq (by simp only[hb1];rfl)⟩;show [V.i (i64.wrap ((i:Int)+1))]=_;rw[wS h (by omega)]
  ·refine JqI (vs:=[.i ((i+1:Nat):Int)]) ?_ ⟨h,rfl,Qr hz hq (by simp only[h0];simp)⟩;show [V.i (i64.wrap ((i:Int)+1))]=_;rw[wS h (by omega)]
 ·refine JqG (JqK ?_);rw[Jrd (by simp;omega)] at hq;unfold JZ;rw[hq];rfl
theorem Jji (pins:List Bool) (a:List Int) (hp:pins.length=3) (ha:a.length=3):Ev L f_k1e [.s (dBl pins),.s (dL a)] [dB (JZ pins a)]:=by
 refine Jq7 (vs:=[.l (dBl pins),.l (dL a)]) L_k1e rfl ?_;refine JqH 3 (fun i=>[.i i]) (fun i=>((a.zip pins).take i).all (fun q=>!(q.2 && !decide (q.1=0)))=true) rfl rfl rfl fun i hi hq=>?_;simp only[sC,sN];refine JqW i 3 rfl (fun h=>?_) (fun h=>?_)
 ·obtain⟨x,hx,_⟩:=sA1 (show i<a.length by omega);obtain⟨b,hb,_⟩:=sA1 (show i<pins.length by omega);have hz:=VJ hx hb;refine JqJ i (mA1 (f:=dB) hb) rfl rfl rfl rfl ?_;refine JqZ b rfl (fun hb1=>?_) (fun hb1=>?_)
  ·refine JqJ i (mA1 (f:=dI) hx) rfl rfl rfl rfl ?_;refine JqA (decide (x=0)) rfl (fun h0=>JqG (JqK ?_)) (fun h0=>?_)
   ·show [dB false]=_;unfold JZ;rw[XK hz (by simp only[h0,hb1];rfl)]
   ·refine JqI (vs:=[.i ((i+1:Nat):Int)]) ?_ ⟨h,rfl,Qr hz hq (by simp only[h0];simp)⟩;show [V.i (i64.wrap ((i:Int)+1))]=_;rw[wS h (by omega)]
  ·refine JqI (vs:=[.i ((i+1:Nat):Int)]) ?_ ⟨h,rfl,Qr hz hq (by simp only[hb1];rfl)⟩;show [V.i (i64.wrap ((i:Int)+1))]=_;rw[wS h (by omega)]
 ·refine JqG (JqK ?_);rw[Jrd (by simp;omega)] at hq;unfold JZ;rw[hq];rfl
theorem JcK (as:List (List Jd)) (hf:QP as):Ev L f_k3g [.s (Jf as)] [.s (Jf as),.s (dLL (Jb as)),.s (dBl (Jh as))]:=by
 refine Jq7 (vs:=[.l (Jf as)]) L_k3g rfl ?_;refine JqC (JlQ as hf) rfl rfl rfl ?_;refine JqC (JnK as hf) rfl rfl rfl (JqK rfl)
theorem JeP {b g:List Int} {ps:List (List Int)} {s:Int} {a:List Int} (h:keeps b g ps s a=true):a.length=3:=(Ve (YL h)).2.2.2.2.2.1.1
theorem JeU (as:List (List Jd)) (ps:List (List Int)) (pins:List Bool) (b g:List Int) (s:Int) (a:List Int) (hpi:pins.length=3) (hb:b.length≤2000000) (hg:g.length≤2000000) (hp:fitLL ps) (ha:a.length≤2000000) :
  Ev L f_k3r [.s (Jf as),.s (dLL ps),.s (dBl pins),.s (dL b),.s (dL g),dI s,.s (dL a)] [dB (keeps b g ps s a&&JZ pins a)]:=by
 refine Jq7 (vs:=[.l (Jf as),.l (dLL ps),.l (dBl pins),.l (dL b),.l (dL g),.i s,.l (dL a)]) L_k3r rfl ?_;refine JqC (JaY b g ps s a hb hg hp ha) rfl rfl rfl ?_;refine JqZ (keeps b g ps s a) rfl (fun h=>?_) (fun h=>JqK ?_)
 ·refine JqC (Jbc as ps pins a hpi (JeP h)) rfl rfl rfl (JqK ?_);rw[h];rfl
 ·rw[h];rfl
def Jec (as:List (List Jd)) (ps:List (List Int)) (pins:List Bool) (b g:List Int) (s:Int) (a w:List Int):List D:=[.q [.s (dL b),.s (dL g)],.q [.s (Jf as),.s (dLL ps),.s (dBl pins)],.q [dI s],.q [.s (dL a)],.q [.s (dL w)]]
def JcF (b g:List Int) (ps:List (List Int)) (s:Int) (a w:List Int) (f:Frm):Bool:=(JB b g ps s a f w).2.2&&decide (0≤(JB b g ps s a f w).1)
structure JnU (b g:List Int) (ps:List (List Int)) (a w:List Int):Prop where
 b:b.length≤2000000
 g:g.length≤2000000
 p:fitLL ps
 a:a.length≤2000000
 w:w.length≤2000000
theorem Jhe (as:List (List Jd)) (ps:List (List Int)) (pins:List Bool) (b g:List Int) (s:Int) (a w:List Int) (h:JnU b g ps a w) (f:Frm) (hf:Frm.fit f) :
  Ev L f_k4f (f.cells++(Jec as ps pins b g s a w).map D.norm) [dB (!(JcF b g ps s a w f))]:=by
 refine Jq7 (vs:=[.l (dL f.c),.l (dL f.d),.i f.k,.d (.q [.s (dL b),.s (dL g)]),.d (.q [.s (Jf as),.s (dLL ps),.s (dBl pins)]),.d (.q [dI s]),.d (.q [.s (dL a)]),.d (.q [.s (dL w)])]) L_k4f rfl ?_;refine Jq2 (vs:=[.l (dL b),.l (dL g)]) rfl rfl ?_;refine Jq2 (vs:=[.l (Jf as),.l (dLL ps),.l (dBl pins)]) rfl rfl ?_;refine Jq2 (vs:=[.i s]) rfl rfl ?_;refine Jq2 (vs:=[.l (dL a)]) rfl rfl ?_;refine Jq2 (vs:=[.l (dL w)]) rfl rfl ?_;simp only[sC,sN];refine JqC (Jde b g ps s a f w h.b h.g h.p h.a hf h.w) rfl rfl rfl ?_;unfold JcF;generalize JB b g ps s a f w=B;refine JqA B.2.2 rfl (fun h=>JqK ?_) (fun h=>JqK ?_)
 ·rw[h];rfl
 ·show [dB (decide (B.1<0))]=_;rw[h]
  by_cases hn:B.1<0
  ·simp[hn,show ¬0≤B.1 by omega]
  ·simp[hn,show 0≤B.1 by omega]
theorem JhM (as:List (List Jd)) (ps:List (List Int)) (pins:List Bool) (b g:List Int) (s:Int) (a w:List Int) (h:JnU b g ps a w) (r:Row) (hr:Xz r) :
  Ev L f_k4g (r.cells++[D.q [.f f_k4f (Jec as ps pins b g s a w)]].map D.norm) [dB (KU b g ps s a w r)]:=by
 refine Jq7 (vs:=[.l (dF r.guards),.l (dF r.adds),.l (dF r.tells),.b r.stop,.d (.q [.f f_k4f (Jec as ps pins b g s a w)])]) L_k4g rfl ?_;refine Jq2 (vs:=[.d (.f f_k4f (Jec as ps pins b g s a w))]) rfl rfl ?_;simp only[sC,sN];have hgl:=hr.gl;refine JqC (Jar (fun f=>!(JcF b g ps s a w f)) r.guards (fn:=f_k4f) (caps:=Jec as ps pins b g s a w) (by omega) rfl rfl fun f hf=>Jhe as ps pins b g s a w h f (hr.g f hf).fit) rfl rfl rfl (JqK ?_);show [dB (!(r.guards.any fun f=>!(JcF b g ps s a w f)))]=_;rw[Kq];rfl
theorem Jlp (p:Row→Bool) (l:List Row) {fn:FuncId} {caps:List D} (hlen:l.length≤2000000) (hcap:QZ (.f fn caps) = .f fn caps) (har:arT L fn=some ([some 4]++caps.map fun _=>none))
  (hc :∀x∈l,Ev L fn (x.cells++caps.map D.norm) [dB (p x)]):Ev L f_k4h [.s (JY l),.f fn caps] [dI (YY p l)] :=
 Yl (sh:= .g [.s,.s,.s,.b]) (as:=[(.s (.v 3)),(.s (.v 4)),(.s (.v 5)),(.vb (.v 6))]) (ar:=[some 4]) (k:=7) Row.g p Row.cells (fun x=>[.l (dF x.guards),.l (dF x.adds),.l (dF x.tells),.b x.stop]) l
  L_k4h rfl hlen hcap (fun _ _=>rfl) (fun _ _=>rfl) (fun _ _ _ _=>rfl) har hc
theorem JlD (b g:List Int) (ps:List (List Int)) (s:Int) (a w:List Int) (h:JnU b g ps a w) (r:Row) (hr:Xz r) :
  Ev L f_k1v ([.s (dL b),.s (dL g),.s (dLL ps),dI s,.s (dL a)]++r.cells++[.s (dL w)]) [dB (KU b g ps s a w r)]:=by
 refine Jq7 (vs:=[.l (dL b),.l (dL g),.l (dLL ps),.i s,.l (dL a),.l (dF r.guards),.l (dF r.adds),.l (dF r.tells),.b r.stop,.l (dL w)]) L_k1v rfl ?_;have hgl:=hr.gl;refine JqH r.guards.length (fun i=>[.i i]) (fun i=>(r.guards.take i).all (JcF b g ps s a w)=true) rfl rfl rfl fun i hi hq=>?_;simp only[sC,sN];have hS:KU b g ps s a w r=r.guards.all (JcF b g ps s a w):=rfl;rw[hS];refine Jqv i (JL r.guards) rfl (fun h'=>?_) (fun h'=>?_)
 ·obtain⟨f,hf,hm⟩:=sA1 h';refine JqJ i (mA1 (f:=Frm.g) hf) rfl rfl rfl rfl ?_;refine JqC (JcZ b g ps s a f w h.b h.g h.p h.a (hr.g f hm).fit h.w) rfl rfl rfl ?_;simp only[sC,sN];have hF:JcF b g ps s a w f=((JB b g ps s a f w).2.2&&decide (0≤(JB b g ps s a f w).1)):=rfl;generalize JB b g ps s a f w=B at *;refine JqA B.2.2 rfl (fun h1=>JqG (JqK ?_)) (fun h1=>?_)
  ·rw[XK hf (by rw[hF,h1];rfl)];rfl
  refine JqL (B.1<0) rfl (fun h2=>JqG (JqK ?_)) (fun h2=>?_)
  ·rw[XK hf (by rw[hF,h1];simp;omega)];rfl
  refine JqI (vs:=[.i ((i+1:Nat):Int)]) ?_ ⟨h',rfl,Qr hf hq (by rw[hF,h1];simp;omega)⟩;show [V.i (i64.wrap ((i:Int)+1))]=_;rw[wS h' (by omega)]
 ·refine JqG (JqK ?_);rw[tA1 h'] at hq;rw[hq];rfl
/- What a site does alone: the tries themselves,over residual programs. -/
theorem WH {b w:List Int} (hb:Xb b=true) (hw:QL w=true) {fs:List Frm} (hf :∀f∈fs,Std 10000000 f) :∀f∈fs,YO f b w:=fun f hm=>YO.std (hf f hm) hb hw
theorem JbB (fs:List Frm) (v w:List Int):(atL fs v w).length=fs.length:=by simp[atL]
theorem JbS {i:Nat} (h:i<3):[0,1,2][i]? = some i:=by
 match i,h with
 | 0,_ | 1,_ | 2,_=>rfl
theorem Wk {as:List (List Jd)} (h:QA as=true):(Jh as).length=3:=by rw[Jce h,JmW]
theorem Jge {as:List (List Jd)} {b g:List Int} {s:Int} {a:List Int} {k:Int} {w:List Int} (h:QR as b g s a k w=false):KW as b g s a k w=⟨0,[],[],false⟩:=by
 unfold KW;rw[h];rfl
def Ja4 (O U:Nat→Bool) (b g:List Int) (ps:List (List Int)) (s:Int) (a w:List Int):Prop :=
 ∀i,O i=([0,1,2].take i).any (ovM b g ps s a w)∧U i=([0,1,2].take i).any (unM b g ps s a w)
theorem Ja4.step {O U:Nat→Bool} {b g:List Int} {ps:List (List Int)} {s:Int} {a w:List Int} (h:Ja4 O U b g ps s a w) {i:Nat} (hi:i<3) :
  O (i+1)=(O i||(decide (10000<(JB b g ps s a (Ju i) w).1)||decide ((JB b g ps s a (Ju i) w).2.1 < -10000))) ∧
  U (i+1)=(U i||(decide ((JB b g ps s a (Ju i) w).1 < -10000)||decide (10000<(JB b g ps s a (Ju i) w).2.1))):=by
 rw[(h (i+1)).1,(h (i+1)).2,(h i).1,(h i).2,JgU (JbS hi),JgU (JbS hi)];exact⟨rfl,rfl⟩
theorem Ja4.zero {O U:Nat→Bool} {b g:List Int} {ps:List (List Int)} {s:Int} {a w:List Int} (h:Ja4 O U b g ps s a w):O 0=false∧U 0=false:=⟨(h 0).1,(h 0).2⟩
theorem Ja4.three {O U:Nat→Bool} {b g:List Int} {ps:List (List Int)} {s:Int} {a w:List Int} (h:Ja4 O U b g ps s a w):O 3=[0,1,2].any (ovM b g ps s a w)∧U 3=[0,1,2].any (unM b g ps s a w):=⟨(h 3).1,(h 3).2⟩
set_option maxHeartbeats 2000000 in
theorem JiR (as:List (List Jd)) (b g:List Int) (s:Int) (a:List Int) (k:Int) (w:List Int) (hf:QP as) (hb:b.length≤2000000) (hg:g.length≤2000000) (ha:a.length≤2000000) (hw:w.length≤2000000) :
  Ev L f_k4j [.s (Jf as),.s (dL b),.s (dL g),dI s,.s (dL a),dI k,.s (dL w)] (KW as b g s a k w).ds:=by
 have hfl:=hf.1;refine Jq7 (vs:=[.l (Jf as),.l (dL b),.l (dL g),.i s,.l (dL a),.i k,.l (dL w)]) L_k4j rfl ?_;refine JqC (Vc as hf) rfl rfl rfl ?_;refine JqA (QA as) rfl (fun h=>JqK ?_) (fun h1=>?_)
 ·rw[Jge (by simp[QR,h])];rfl
 refine JqC (Jct w hw) rfl rfl rfl ?_;refine JqA (QL w) rfl (fun h=>JqK ?_) (fun h3=>?_)
 ·rw[Jge (by simp[QR,h])];rfl
 refine JqC (XE k 0 (as.length-1)) rfl ?_ rfl ?_
 ·show [dI k,dI 0,dI (i64.wrap (((Jf as).length:Int)-1))]=_;rw[QC,w64 (by omega) (by omega)]
 refine JqA (inB k 0 (as.length-1)) rfl (fun h=>JqK ?_) (fun h2=>?_)
 ·rw[Jge (by simp[QR,h])];rfl
 simp only[sC,sN];have hpi:=Wk h1;have hps:fitLL (Jb as):=(Xq as).fitLL (by omega);refine JqC (JcK as hf) rfl rfl rfl ?_;refine JqC (JeU as (Jb as) (Jh as) b g s a hpi hb hg hps ha) rfl rfl rfl ?_;simp only[sC,sN];refine JqA (keeps b g (Jb as) s a&&JZ (Jh as) a) rfl (fun h=>JqK ?_) (fun h4=>?_)
 ·rw[Jge (by simp only[QR,h];simp)];rfl
 have hfine:QR as b g s a k w=true:=by simp only[QR,h1,h2,h3,h4];rfl
 obtain⟨_,hk,_,hke,_⟩:=UQ.1 hfine;obtain⟨hm,hkx⟩:=Jhd (as:=as) hk.1 hk.2;obtain⟨_,_,_,_,hb3,ha3,hgr⟩:=Ve (YL hke);have hvb:Xb b=true:=Yq.2 hb3;have hM:KW as b g s a k w=(match (Jw (as.getD k.toNat [])).find? (KU b g (Jb as) s a w) with | some r=>Yt b g (Jb as) (Jh as) s a w r | none=>⟨0,[],a,false⟩):=by unfold KW;rw[if_pos hfine];cases (Jw (as.getD k.toNat [])).find? (KU b g (Jb as) s a w) <;> rfl
 rw[hM];clear hM;refine JqC (Xu a ha) rfl rfl rfl ?_;refine JqO (ds:=Jf as) k rfl rfl rfl hk.1 (mA1 (f:=fun a=> .s (Jn a)) hkx) rfl ?_;refine JqC (VR (as.getD k.toNat []) (hf.2 _ hm)) rfl rfl rfl ?_;have hrf :∀r∈Jw (as.getD k.toNat []),Xz r:=X8;have hrl:=Zo (as.getD k.toNat []);generalize Jw (as.getD k.toNat [])=rs at *;generalize as.getD k.toNat []=act at *;have fitb:JnU b g (Jb as) a w:=⟨hb,hg,hps,ha,hw⟩;simp only[sC,sN];refine JqC (Jlp (KU b g (Jb as) s a w) rs (fn:=f_k4g) (caps:=[D.q [.f f_k4f (Jec as (Jb as) (Jh as) b g s a w)]]) (by omega) rfl rfl fun r hr=>JhM as (Jb as) (Jh as) b g s a w fitb r (hrf r hr)) rfl rfl rfl ?_;simp only[sC,sN];rcases UK (KU b g (Jb as) s a w) rs with ⟨hpl,hnone⟩ | ⟨i,r,hpl,hri,hsr,hti⟩
 ·rw[hpl];refine Jqt rfl (JqK ?_);rw[JeT hnone];rfl
 rw[hpl,Jkn hri hsr hti];refine JqL ((i:Int)<0) rfl (fun h=>by omega) (fun _=>?_);have hfr:=hrf r (Jrg hri);refine JqB i (rdR hri) rfl rfl rfl rfl rfl rfl ?_;simp only[sC,sN];have hR:Yt b g (Jb as) (Jh as) s a w r=Yt b g (Jb as) (Jh as) s a w r:=rfl;unfold Yt at hR ⊢;clear hR;refine JqZ r.stop rfl (fun hst=>JqK ?_) (fun hst=>?_)
 ·rw[if_pos hst];rfl
 rw[if_neg (by rw[hst];simp)];refine JqB i (rdR hri) rfl rfl rfl rfl rfl rfl ?_;have hal:=hfr.ns hst;have hab:=WH hvb h3 hfr.a;have hla:=JjJ hab;have hll:=JbB r.adds b w;refine JqC (Jl8 (by omega) hab) rfl rfl rfl ?_;simp only[sC,sN];generalize atL r.adds b w=x at *;refine JqC (JjN (M:=6000000000000000) (Lim.mono (m:=20000) ha3.2 (by omega)) hla (by omega) (by omega) (by omega)) rfl rfl rfl ?_;refine JqC (Jbc as (Jb as) (Jh as) x hpi (by omega)) rfl rfl rfl ?_;simp only[sC,sN];refine JqA (JZ (Jh as) x) rfl (fun h=>JqK ?_) (fun h5=>?_)
 ·rw[if_neg (by rw[h];simp)];rfl
 have hnl:(J7 a x).length≤2000000:=by rw[Z2 (by omega)];omega
 show WR L _ [_,_,_,_,_,_,_,_,_,_,_,_,_,_,_,_,_,_,_,_,_,_,_,_,_,_,_,V.l (dL (J7 a x)),_] _;generalize J7 a x=now at *;refine JqC (JcJ now hnl) rfl rfl rfl ?_;refine JqA (Qh now) rfl (fun h=>JqK ?_) (fun h6=>?_)
 ·rw[if_neg (by rw[h];simp)];rfl
 rw[if_pos (by rw[h5,h6];rfl)];simp only[sC,sN];obtain⟨O,U,hr⟩ : ∃ O U,Ja4 O U b g (Jb as) s now w:=⟨_,_,fun _=>⟨rfl,rfl⟩⟩;rw[←hr.three.1,←hr.three.2];refine JqH 3 (fun i=>[.b (O i),.b (U i),.i i]) (fun _=>True) rfl (by rw[hr.zero.1,hr.zero.2];rfl) trivial fun j hj _=>?_;simp only[sC,sN];refine JqW j 3 rfl (fun hj3=>?_) (fun hj3=>?_)
 ·obtain⟨sO,sU⟩:=hr.step hj3;have eP:=Jbw (j:Int) (by omega) (by omega);have eB:=Jde b g (Jb as) s now (Ju j) w hb hg hps hnl Qw.fit hw;rw[Int.toNat_natCast] at eP;refine JqC eP rfl rfl rfl ?_;refine JqC eB rfl rfl rfl ?_;simp only[sC,sN];generalize JB b g (Jb as) s now (Ju j) w=B at *;have nx :∀(x y:Bool) {vs:List V},vs=[V.b x,V.b y,V.i (i64.wrap ((j:Int)+1))]→O (j+1)=x→U (j+1)=y→vs=[V.b (O (j+1)),V.b (U (j+1)),V.i ((j+1:Nat):Int)]:=by
   rintro x y _ rfl rfl rfl;rw[wS hj3 (by omega)]
  refine JqZ (O j) rfl (fun hO=>?_) (fun hO=>?_)
  ·refine JqZ (U j) rfl (fun hU=>?_) (fun hU=>?_)
   ·exact JqI (nx true true rfl (by rw[sO,hO];rfl) (by rw[sU,hU];rfl)) ⟨hj3,rfl,trivial⟩
   ·refine JqL (B.1 < -10000) rfl (fun hl=>?_) (fun hl=>?_)
    ·exact JqI (nx true true rfl (by rw[sO,hO];rfl) (by rw[sU,hU,decide_eq_true hl];rfl)) ⟨hj3,rfl,trivial⟩
    ·exact JqI (nx true (decide (10000<B.2.1)) rfl (by rw[sO,hO];rfl) (by rw[sU,hU,decide_eq_false hl];rfl)) ⟨hj3,rfl,trivial⟩
  ·refine JqL (10000<B.1) rfl (fun hh=>?_) (fun hh=>?_)
   ·refine JqZ (U j) rfl (fun hU=>?_) (fun hU=>?_)
    ·exact JqI (nx true true rfl (by rw[sO,hO,decide_eq_true hh];rfl) (by rw[sU,hU];rfl)) ⟨hj3,rfl,trivial⟩
    ·refine JqL (B.1 < -10000) rfl (fun hl=>?_) (fun hl=>?_)
     ·exact JqI (nx true true rfl (by rw[sO,hO,decide_eq_true hh];rfl) (by rw[sU,hU,decide_eq_true hl];rfl)) ⟨hj3,rfl,trivial⟩
     ·exact JqI (nx true (decide (10000<B.2.1)) rfl (by rw[sO,hO,decide_eq_true hh];rfl) (by rw[sU,hU,decide_eq_false hl];rfl)) ⟨hj3,rfl,trivial⟩
   ·refine JqZ (U j) rfl (fun hU=>?_) (fun hU=>?_)
    ·exact JqI (nx (decide (B.2.1 < -10000)) true rfl (by rw[sO,hO,decide_eq_false hh];rfl) (by rw[sU,hU];rfl)) ⟨hj3,rfl,trivial⟩
    ·refine JqL (B.1 < -10000) rfl (fun hl=>?_) (fun hl=>?_)
     ·exact JqI (nx (decide (B.2.1 < -10000)) true rfl (by rw[sO,hO,decide_eq_false hh];rfl) (by rw[sU,hU,decide_eq_true hl];rfl)) ⟨hj3,rfl,trivial⟩
     ·exact JqI (nx (decide (B.2.1 < -10000)) (decide (10000<B.2.1)) rfl (by rw[sO,hO,decide_eq_false hh];rfl) (by rw[sU,hU,decide_eq_false hl];rfl)) ⟨hj3,rfl,trivial⟩
 have hj:j=3:=by omega
 subst hj;refine JqG ?_;refine JqZ (O 3) rfl (fun hO=>JqK ?_) (fun hO=>?_)
 ·rw[if_pos hO];rfl
 rw[if_neg (by rw[hO];simp)];refine JqZ (U 3) rfl (fun hU=>JqK ?_) (fun hU=>?_)
 ·rw[if_pos hU];rfl
 rw[if_neg (by rw[hU];simp)];refine JqC (JaY b g (Jb as) s now hb hg hps hnl) rfl rfl rfl ?_;refine JqA (keeps b g (Jb as) s now) rfl (fun h=>JqK ?_) (fun h7=>?_)
 ·rw[if_neg (by rw[h];simp)];rfl
 rw[if_pos h7];refine JqB i (rdR hri) rfl rfl rfl rfl rfl rfl ?_;have htl:=hfr.tl;refine JqC (Jl8 (by omega) (WH hvb h3 hfr.t)) rfl rfl rfl (JqK rfl)
/- What a site does alone: the specification's tries,over residual programs. -/
theorem JgL {a b:List Int} (ha:a.length=3) (hb:b.length=3) (la:Lim 4000000000000000000 a) (lb:Lim 4000000000000000000 b):Ev L f_k1r [.s (dL a),.s (dL b)] [.s (dL (J7 a b))]:=by
 refine Jq7 (vs:=[.l (dL a),.l (dL b)]) L_k1r rfl ?_;refine JqH 3 (fun i=>[.l (dL ((J7 a b).take i)),.i i]) (fun _=>True) rfl rfl trivial fun i hi _=>?_;simp only[sC,sN];refine JqW i 3 rfl (fun h=>?_) (fun h=>?_)
 ·obtain⟨x,hx,hmx⟩:=sA1 (show i<a.length by omega);obtain⟨y,hy,hmy⟩:=sA1 (show i<b.length by omega);have hxl:=la x hmx;have hyl:=lb y hmy;have hs:(J7 a b)[i]? = some (x+y):=by unfold J7;rw[List.getElem?_zipWith,hx,hy]
  refine JqJ i (mA1 (f:=dI) hx) rfl rfl rfl rfl ?_;refine JqJ i (mA1 (f:=dI) hy) rfl rfl rfl rfl ?_;refine JqR (dL ((J7 a b).take i)) 10 (by rw[dL1];simp;omega) (by omega) rfl ?_;refine JqI (vs:=[.l (dL ((J7 a b).take (i+1))),.i ((i+1:Nat):Int)]) ?_ ⟨h,rfl,trivial⟩;show [V.l (dL ((J7 a b).take i)++[dI (i64.wrap (x+y))]),V.i (i64.wrap ((i:Int)+1))]=_;rw[wS h (by omega),w64 (by omega) (by omega),UT,tS1 hs]
 ·refine JqG (JqK ?_);show [D.s (dL ((J7 a b).take i))]=_;rw[Jrd (by rw[Z2 (by omega)];omega)]
theorem Jlk (b g:List Int) (pins:List Bool) (r:Row) (w:List Int) (hp:pins.length=3) (hr:Xz r) (hs:r.stop=false) (hb:Xb b=true) (hw:QL w=true) :
  Ev L f_k1w ([.s (dL b),.s (dL g),.s (dBl pins)]++r.cells++[.s (dL w)]) [.s (dL (if JZ pins (atL r.adds b w) then atL r.adds b w else [0,0,0])),dB (JZ pins (atL r.adds b w))]:=by
 refine Jq7 (vs:=[.l (dL b),.l (dL g),.l (dBl pins),.l (dF r.guards),.l (dF r.adds),.l (dF r.tells),.b r.stop,.l (dL w)]) L_k1w rfl ?_;have hal:=hr.ns hs;have hab:=WH hb hw hr.a;have hll:=JbB r.adds b w;refine JqH 3 (fun i=>[.l (dL ((atL r.adds b w).take i)),.i i]) (fun i=>(((atL r.adds b w).zip pins).take i).all (fun q=>!(q.2 && !decide (q.1=0)))=true) rfl rfl rfl fun i hi hq=>?_;simp only[sC,sN];refine JqW i 3 rfl (fun h=>?_) (fun h=>?_)
 ·obtain⟨f,hf,hm⟩:=sA1 (show i<r.adds.length by omega);obtain⟨p,hpi,_⟩:=sA1 (show i<pins.length by omega);have hx:(atL r.adds b w)[i]? = some (atF f b w):=by simp[atL,hf]
  have hz:=VJ hx hpi;have hat:=JiW (hab f hm);generalize atF f b w=x at *;generalize atL r.adds b w=xs at *;refine JqJ i (mA1 (f:=Frm.g) hf) rfl rfl rfl rfl ?_;refine JqC hat rfl rfl rfl ?_;refine JqJ i (mA1 (f:=dB) hpi) rfl rfl rfl rfl ?_;simp only[sC,sN];have hnx:[V.l (dL (xs.take i)++[dI x]),V.i (i64.wrap ((i:Int)+1))]=[V.l (dL (xs.take (i+1))),V.i ((i+1:Nat):Int)]:=by
   rw[wS h (by omega),UT,tS1 hx]
  refine JqZ p rfl (fun hp1=>?_) (fun hp1=>?_)
  ·refine JqA (decide (x=0)) rfl (fun h0=>JqG (JqK ?_)) (fun h0=>?_)
   ·have hst:JZ pins xs=false:=by unfold JZ;rw[XK hz (by simp only[h0,hp1];rfl)]
    rw[hst];rfl
   ·refine JqR (dL (xs.take i)) 10 (by rw[dL1];simp;omega) (by omega) rfl ?_;exact JqI hnx ⟨h,rfl,Qr hz hq (by simp only[h0];simp)⟩
  ·refine JqR (dL (xs.take i)) 10 (by rw[dL1];simp;omega) (by omega) rfl ?_;exact JqI hnx ⟨h,rfl,Qr hz hq (by simp only[hp1];rfl)⟩
 ·refine JqG (JqK ?_);rw[Jrd (by simp;omega)] at hq;have hst:JZ pins (atL r.adds b w)=true:=by unfold JZ;rw[hq]
  rw[hst];show [D.s (dL ((atL r.adds b w).take i)),dB true]=_;rw[Jrd (by omega)];rfl
theorem Jng:QL [0,0]=true:=by decide
theorem Ji5 {as:List (List Jd)} {b g:List Int} {s:Int} {a w:List Int} (h:QA as=true) (hf:YZ b g (Jb as) s a=true) (hw:QL w=true) (hb:b.length≤2000000) (hg:g.length≤2000000) (ha:a.length≤2000000) :
  Ev L f_k1x [.s (dL b),.s (dL g),.s (dLL (Jb as)),dI s,.s (dL a)] [dI (if [0,1,2].any (ovM b g (Jb as) s a w) then 2 else if [0,1,2].any (unM b g (Jb as) s a w) then 0 else 1)]:=by
 refine Jq7 (vs:=[.l (dL b),.l (dL g),.l (dLL (Jb as)),.i s,.l (dL a)]) L_k1x rfl ?_;have hps:fitLL (Jb as):=(Xq as).fitLL (by omega);obtain⟨O,U,hr⟩ : ∃ O U,Ja4 O U b g (Jb as) s a w:=⟨_,_,fun _=>⟨rfl,rfl⟩⟩;have hno :∀(i:Nat) (x:Nat),[0,1,2][i]? = some x→ovM b g (Jb as) s a w x=true→[0,1,2].any (ovM b g (Jb as) s a w)=true:=fun i x hx h=>List.any_eq_true.2 ⟨x,Jrg hx,h⟩;refine JqH 3 (fun i=>[.i (if U i then 0 else 1),.i i]) (fun i=>O i=false) rfl (by rw[hr.zero.2];rfl) hr.zero.1 fun j hj hO=>?_;simp only[sC,sN];refine JqW j 3 rfl (fun hj3=>?_) (fun hj3=>?_)
 ·obtain⟨sO,sU⟩:=hr.step hj3;have hov:=hno j j (JbS hj3);have hovd:ovM b g (Jb as) s a w j=(decide (10000<(JB b g (Jb as) s a (Ju j) w).1)||decide ((JB b g (Jb as) s a (Ju j) w).2.1 < -10000)):=rfl;rw[hovd] at hov;have eP:=Y9 (j:Int) (by omega) (by omega);have eB:=JcZ b g (Jb as) s a (Ju j) [0,0] hb hg hps ha Qw.fit (by decide);rw[JcT h hf Jng hj3] at eB;rw[JcT h hf hw hj3] at sO sU hov;rw[Int.toNat_natCast] at eP;refine JqC eP rfl rfl rfl ?_;refine JqC eB rfl rfl rfl ?_;simp only[sC,sN];generalize (J7 b a).getD j 0-Jm g s=lo at *;generalize (J7 b a).getD j 0+Jm g s=hi at *;generalize [0,1,2].any (ovM b g (Jb as) s a w)=OO at *;generalize [0,1,2].any (unM b g (Jb as) s a w)=UU at *;simp only at sO sU hov;have nx :∀(x:Int) {vs:List V},vs=[V.i x,V.i (i64.wrap ((j:Int)+1))]→(if U (j+1) then 0 else 1)=x→vs=[V.i (if U (j+1) then 0 else 1),V.i ((j+1:Nat):Int)]:=by
   rintro x _ rfl rfl;rw[wS hj3 (by omega)]
  refine Jqt rfl ?_;refine JqL (10000<lo) rfl (fun hl=>JqG (JqK ?_)) (fun hl=>?_)
  ·rw[hov (by rw[decide_eq_true hl];rfl)];rfl
  refine JqL (hi < -10000) rfl (fun hh=>JqG (JqK ?_)) (fun hh=>?_)
  ·rw[hov (by rw[decide_eq_true hh,Bool.or_true])];rfl
  have hO':O (j+1)=false:=by rw[sO,hO,decide_eq_false hl,decide_eq_false hh];rfl
  refine JqM rfl ?_;refine JqL (lo < -10000) rfl (fun h1=>?_) (fun h1=>?_)
  ·exact JqI (nx 0 rfl (by rw[sU,decide_eq_true h1];simp)) ⟨hj3,rfl,hO'⟩
  refine JqL (10000<hi) rfl (fun h2=>?_) (fun h2=>?_)
  ·exact JqI (nx 0 rfl (by rw[sU,decide_eq_true h2];simp)) ⟨hj3,rfl,hO'⟩
  exact JqI (nx (if U j then 0 else 1) rfl (by rw[sU,decide_eq_false h1,decide_eq_false h2];simp)) ⟨hj3,rfl,hO'⟩
 ·have hj:j=3:=by omega
  subst hj;refine JqG (JqK ?_);rw[hr.three.1] at hO;show [dI (if U 3 then 0 else 1)]=_;rw[hO,hr.three.2];rfl
theorem JnF {as:List (List Jd)} {b g:List Int} {s:Int} {a w:List Int} {r:Row} (h:QA as=true) (hf:YZ b g (Jb as) s a=true) (hw:QL w=true) (hg:g.length≤2000000) (hfr:Xz r) :
  Ev L f_k1y ([.s (dL b),.s (dL g),.s (dLL (Jb as)),.s (dBl (Jh as)),dI s,.s (dL a)]++r.cells++[.s (dL w)]) (Yt b g (Jb as) (Jh as) s a w r).ds:=by
 refine Jq7 (vs:=[.l (dL b),.l (dL g),.l (dLL (Jb as)),.l (dBl (Jh as)),.i s,.l (dL a),.l (dF r.guards),.l (dF r.adds),.l (dF r.tells),.b r.stop,.l (dL w)]) L_k1y rfl ?_;have hps:fitLL (Jb as):=(Xq as).fitLL (by omega);have hpi:=Wk h;obtain⟨_,_,_,_,hb3,ha3,hgr⟩:=Ve hf;have hvb:Xb b=true:=Yq.2 hb3;unfold Yt;refine JqZ r.stop rfl (fun hst=>?_) (fun hst=>?_)
 ·rw[if_pos hst];exact JqX a (by omega) (by omega) rfl (JqK rfl)
 rw[if_neg (by rw[hst];simp)];have hal:=hfr.ns hst;have hla:=JjJ (WH hvb hw hfr.a);have hll:=JbB r.adds b w;refine JqC (Jlk b g (Jh as) r w hpi hfr hst hvb hw) rfl rfl rfl ?_;simp only[sC,sN];generalize atL r.adds b w=x at *
 by_cases h5:JZ (Jh as) x=true
 case neg =>
  rw[if_neg h5,if_neg (show ¬(JZ (Jh as) x&&Qh (J7 a x))=true by simp[h5])];refine JqC (JgL (b:=[0,0,0]) ha3.1 rfl (Lim.mono (m:=20000) ha3.2 (by omega)) (by intro y hy;simp at hy;omega)) rfl rfl rfl ?_;refine Jqt (by show (!(JZ (Jh as) x))=true;simp[h5]) ?_;exact JqX a (by omega) (by omega) rfl (JqK rfl)
 rw[if_pos h5,h5];refine JqC (JgL ha3.1 (by omega) (Lim.mono (m:=20000) ha3.2 (by omega)) (hla.mono (by omega))) rfl rfl rfl ?_;simp only[sC,sN];refine JqM rfl ?_;have hnl:(J7 a x).length≤2000000:=by rw[Z2 (by omega)];omega
 generalize J7 a x=now at *;refine JqC (Q4 now 3 20000 hnl (by omega) (by omega)) rfl rfl rfl ?_;refine JqA (Qh now) rfl (fun h6=>?_) (fun h6=>?_)
 ·rw[if_neg (by rw[h6];simp)];exact JqX a (by omega) (by omega) rfl (JqK rfl)
 rw[if_pos (by rw[h6];rfl)];simp only[sC,sN];refine JqC (Ji5 h (JnO hf h6) hw (by omega) hg hnl) rfl rfl rfl ?_;simp only[sC,sN];generalize [0,1,2].any (ovM b g (Jb as) s now w)=OO at *;generalize [0,1,2].any (unM b g (Jb as) s now w)=UU at *;cases OO with
 | true =>
  simp only[if_true];refine Jqt rfl ?_;exact JqX a (by omega) (by omega) rfl (JqK rfl)
 | false =>
  cases UU with
  | true =>
   simp only[Jrp,if_false,if_true];refine JqM rfl (Jqt rfl ?_);exact JqX a (by omega) (by omega) rfl (JqK rfl)
  | false =>
   simp only[Jrp,if_false];refine JqM rfl (JqM rfl ?_);refine JqC (V7 b g (Jb as) s now (by omega) hg hps hnl) rfl rfl rfl ?_;refine JqA (keeps b g (Jb as) s now) rfl (fun h7=>?_) (fun h7=>?_)
   ·rw[if_neg (by rw[h7];simp)];exact JqX a (by omega) (by omega) rfl (JqK rfl)
   rw[if_pos h7];simp only[sC,sN];have htl:=hfr.tl;refine JqH r.tells.length (fun i=>[.l (dL (atL (r.tells.take i) b w)),.i i]) (fun _=>True) rfl rfl trivial fun i hi _=>?_;simp only[sC,sN];refine Jqv i (JL r.tells) rfl (fun h'=>?_) (fun h'=>?_)
   ·obtain⟨f,hf',hm⟩:=sA1 h';refine JqJ i (mA1 (f:=Frm.g) hf') rfl rfl rfl rfl ?_;refine JqC (JiW (WH hvb hw hfr.t f hm)) rfl rfl rfl ?_;refine JqR (dL (atL (r.tells.take i) b w)) 10 (by rw[dL1,JbB];simp;omega) (by omega) rfl ?_;refine JqI (vs:=[.l (dL (atL (r.tells.take (i+1)) b w)),.i ((i+1:Nat):Int)]) ?_ ⟨h',rfl,trivial⟩;show [V.l (dL (atL (r.tells.take i) b w)++[dI (atF f b w)]),V.i (i64.wrap ((i:Int)+1))]=_;rw[wS h' (by omega),UT,tS1 hf'];simp[atL]
   ·refine JqG (JqK ?_);show [dI 1,D.s (dL (atL (r.tells.take i) b w)),.s (dL now),dB true]=_;rw[tA1 h'];rfl
theorem Jmf {as:List (List Jd)} {b g:List Int} {s:Int} {a:List Int} {k:Int} {w:List Int} (hf:QP as) (hg:g.length≤2000000) (hfine:QR as b g s a k w=true) :
  Ev L f_k1z [.s (Jf as),.s (dLL (Jb as)),.s (dBl (Jh as)),.s (dL b),.s (dL g),dI s,.s (dL a),dI k,.s (dL w)] (KW as b g s a k w).ds:=by
 refine Jq7 (vs:=[.l (Jf as),.l (dLL (Jb as)),.l (dBl (Jh as)),.l (dL b),.l (dL g),.i s,.l (dL a),.i k,.l (dL w)]) L_k1z rfl ?_;obtain⟨h1,hk,h3,hke,_⟩:=UQ.1 hfine;obtain⟨hm,hkx⟩:=Jhd (as:=as) hk.1 hk.2;have hfi:=YL hke;obtain⟨_,_,_,_,hb3,ha3,hgr⟩:=Ve hfi;have hM:KW as b g s a k w=(match (Jw (as.getD k.toNat [])).find? (KU b g (Jb as) s a w) with | some r=>Yt b g (Jb as) (Jh as) s a w r | none=>⟨0,[],a,false⟩):=by unfold KW;rw[if_pos hfine];cases (Jw (as.getD k.toNat [])).find? (KU b g (Jb as) s a w) <;> rfl
 rw[hM];clear hM;have hps:fitLL (Jb as):=(Xq as).fitLL (by omega);have hw2:=(Km.1 h3).1;have fitb:JnU b g (Jb as) a w:=⟨by omega,hg,hps,by omega,by omega⟩;refine JqO (ds:=Jf as) k rfl rfl rfl hk.1 (mA1 (f:=fun a=> .s (Jn a)) hkx) rfl ?_;refine JqC (JeQ (as.getD k.toNat []) (hf.2 _ hm)) rfl rfl rfl ?_;have hrf :∀r∈Jw (as.getD k.toNat []),Xz r:=X8;have hrl:=Zo (as.getD k.toNat []);generalize Jw (as.getD k.toNat [])=rs at *;generalize as.getD k.toNat []=act at *;simp only[sC,sN];refine JqH rs.length (fun i=>[.i i]) (fun i=>(rs.take i).any (KU b g (Jb as) s a w)=false) rfl rfl rfl fun i hi hq=>?_;simp only[sC,sN];refine Jqv i (Xv rs) rfl (fun h'=>?_) (fun h'=>?_)
 ·obtain⟨r,hr,hmr⟩:=sA1 h';refine JqB i (rdR hr) rfl rfl rfl rfl rfl rfl ?_;refine JqC (JlD b g (Jb as) s a w fitb r (hrf r hmr)) rfl rfl rfl ?_;simp only[sC,sN];refine JqZ (KU b g (Jb as) s a w r) rfl (fun hs=>?_) (fun hs=>?_)
  ·refine JqB i (rdR hr) rfl rfl rfl rfl rfl rfl ?_;refine JqC (JnF h1 hfi h3 hg (hrf r hmr)) rfl rfl rfl ?_;rw[Jkn hr hs hq];exact JqG (JqK rfl)
  ·refine JqI (vs:=[.i ((i+1:Nat):Int)]) ?_ ⟨h',rfl,Jcn hr hq hs⟩;show [V.i (i64.wrap ((i:Int)+1))]=_;rw[wS h' (by omega)]
 ·refine JqG ?_;rw[tA1 h'] at hq;rw[JeT hq];exact JqX a (by omega) (by omega) rfl (JqK rfl)
end Go.Proofs.YtgpjnnkmmplicaaGreatDoor

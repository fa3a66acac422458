import Derived.Test.YtgpjnnkmmplicabGreatDoorPS
import Derived.Test.YtgpjnnkmmplicabGreatDoorPN
import Derived.Test.YtgpjnnkmmplicabGreatDoorTd
import Derived.Test.YtgpjnnkmmplicabGreatDoorTe
set_option linter.unusedVariables false
set_option linter.unusedSimpArgs false
/- There is one way,and it is the act; what an act does not read turns no answer; with an act more there is more: over residual programs. -/
namespace Go.Proofs.YtgpjnnkmmplicabGreatDoor
open Go Go.Tm
open Go.IntKind (i64)
theorem Joa {a b:List Int} (h:b.length=a.length):JbT a b 1=List.zipWith (· + ·) a b:=by
 rw[JfQ h];unfold JJ
 congr 1
 funext x y
 omega
theorem Jkm {a b:List Int} {M:Int} (ha:Lim M a) (hb:Lim M b) (hM:M≤4000000000000000000) (hl:b.length=a.length) (h9:a.length≤1000):Ev L f_k4g [.s (dL a),.s (dL b)] [.s (dL (List.zipWith (· + ·) a b))]:=by
 refine JrA (vs:=[.l (dL a),.l (dL b)]) L_k4g rfl ?_;refine Jrw (J0 a (by omega)) rfl rfl rfl ?_;refine Jq0 b.length (fun i=>[.l (dL (JJ a (b.take i) 1++a.drop i)),.i i]) (fun _=>True) rfl (by simp[JJ,den,Js,V.int]) trivial fun i hi _=>?_;simp only[sC,sN];refine Jru i (dL1 b) rfl (fun h=>?_) (fun h=>?_)
 ·obtain⟨x,hx,hmx⟩:=sA1 (show i<a.length by omega);obtain⟨y,hy,hmy⟩:=sA1 h;obtain⟨s1,s2⟩:=Ja4 (n:=1) (by omega) hx hy;have hxl:=ha x hmx;have hyl:=hb y hmy;refine Jrd i (mA1 (f:=dI) hy) rfl rfl rfl rfl ?_;refine Jrc i (mA1 (f:=dI) s1) rfl rfl rfl rfl rfl rfl ?_;refine Jrc i (mA1 (f:=dI) s1) rfl rfl rfl rfl rfl rfl ?_;refine Jrq (vs:=[.l (dL (JJ a (b.take (i+1)) 1++a.drop (i+1))),.i ((i+1:Nat):Int)]) ?_ ⟨h,rfl,trivial⟩;show [V.l ((dL (JJ a (b.take i) 1++a.drop i)).set (i:Int).toNat (dI (i64.wrap (x+y)))),V.i (i64.wrap ((i:Int)+1))]=_;rw[wS h (by omega),w64 (by omega) (by omega),Kk,Int.toNat_natCast,show x+y=x+1*y by omega,s2]
 ·refine Jrg (JqZ ?_);show [D.s (dL (JJ a (b.take i) 1++a.drop i))]=_;rw[tA1 h,show i=b.length by omega,←Joa hl];rfl
theorem JnK (l:List Int) (hl:l.length≤2000000):Ev L f_k1q [.s (dL l)] [dB (XN l)] :=
 JrA (vs:=[.l (dL l)]) L_k1q rfl (Jrw (XL l 2 9 hl (by omega) (by omega)) rfl rfl rfl (JqZ rfl))
/- What one site knows is so for all; who is alone knows all: over residual programs. -/
theorem WJ {a b:List Int} {A B:Int} (ha:Lim A a) (hb:Lim B b):Lim (A+B) (Xi a b):=by
 have:=JcQ (n:=1) (N:=1) ha hb (by omega);have e:JJ a b 1=Xi a b:=by
  unfold JJ Xi
  congr 1
  funext x y;omega
 rw[e] at this;exact this.mono (by omega)
theorem VT.here {f:Frm} {b a w:List Int} (hf:f.ok=true) (hb:J3 b=true) (ha:Xx a=true) (hw:XN w=true):VT f (Xi b a) w:=by
 have hs:=Jp5 hf;obtain⟨b1,b2⟩:=Q3.1 hb;obtain⟨a1,a2⟩:=JB.1 ha;obtain⟨w1,w2⟩:=X9.1 hw;refine⟨hs.c,hs.d,by rw[Kw (by omega)];exact b1,w1,10000000,30000,by omega,by omega,by omega,hs.lc,hs.ld,(WJ b2 (B:=20000) a2).mono (by omega),w2.mono (by omega),by have:=hs.k;omega⟩
theorem JpP {f:Frm} {v w:List Int} (h:VT f v w):Ev L f_k20 (f.cells++[.s (dL v),.s (dL w)]) [dI (atF f v w)]:=by
 obtain⟨A,B,hA,hB,hAB,h1,h2,h3,h4,h5⟩:=h.a;have h0:0≤A*B:=Int.mul_nonneg hA hB;have c3:=h.c;have d2:=h.d;have v3:=h.v3;have w2:=h.w2;have lim :∀(c x:List Int) (i:Nat),Lim A c→Lim B x→i≤3→-3000000000000000≤dot (c.take i) (x.take i)∧dot (c.take i) (x.take i)≤3000000000000000:=by
  intro c x i hc hx hi;have:=Ud (hc.take i) (hx.take i) hA hB;have hl:((c.take i).length:Int)≤3:=by simp;omega
  have:=Int.mul_le_mul_of_nonneg_left hl h0;omega
 refine JrA (vs:=[.l (dL f.c),.l (dL f.d),.i f.k,.l (dL v),.l (dL w)]) L_k20 rfl ?_;refine Jq0 3 (fun i=>[.i (f.k+dot (f.c.take i) (v.take i)),.i i]) (fun _=>True) rfl (by simp[dot,den,Js,V.int]) trivial fun i hi _=>?_;simp only[sC,sN];refine Jrh i 3 rfl (fun hi3=>?_) (fun hi3=>?_)
 ·obtain⟨x,hx,hmx⟩:=sA1 (show i<f.c.length by omega);obtain⟨y,hy,hmy⟩:=sA1 (show i<v.length by omega);have hp:=ZU (h1 x hmx) (h3 y hmy);have hl:=lim f.c v i h1 h3 hi;refine Jrd i (mA1 (f:=dI) hx) rfl rfl rfl rfl ?_;refine Jrd i (mA1 (f:=dI) hy) rfl rfl rfl rfl ?_;refine Jrq (vs:=[.i (f.k+dot (f.c.take (i+1)) (v.take (i+1))),.i ((i+1:Nat):Int)]) ?_ ⟨hi3,rfl,trivial⟩;show [V.i (i64.wrap (f.k+dot (f.c.take i) (v.take i)+i64.wrap (x*y))),V.i (i64.wrap ((i:Int)+1))]=_;rw[wS hi3 (by omega),w64 (n:=x*y) (by omega) (by omega),w64 (by omega) (by omega),WP hx hy,Int.add_assoc]
 have hi3:i=3:=by omega
 subst hi3;rw[JrI (by omega),JrI (by omega)];refine Jrg ?_;have hcv:=lim f.c v 3 h1 h3 (by omega);rw[JrI (by omega),JrI (by omega)] at hcv;refine Jq0 2 (fun i=>[.i (f.k+dot f.c v+dot (f.d.take i) (w.take i)),.i i]) (fun _=>True) rfl (by simp[dot,den,Js,V.int]) trivial fun i hi _=>?_;simp only[sC,sN];refine Jrh i 2 rfl (fun hi2=>?_) (fun hi2=>?_)
 ·obtain⟨x,hx,hmx⟩:=sA1 (show i<f.d.length by omega);obtain⟨y,hy,hmy⟩:=sA1 (show i<w.length by omega);have hp:=ZU (h2 x hmx) (h4 y hmy);have hl:=lim f.d w i h2 h4 (by omega);refine Jrd i (mA1 (f:=dI) hx) rfl rfl rfl rfl ?_;refine Jrd i (mA1 (f:=dI) hy) rfl rfl rfl rfl ?_;refine Jrq (vs:=[.i (f.k+dot f.c v+dot (f.d.take (i+1)) (w.take (i+1))),.i ((i+1:Nat):Int)]) ?_ ⟨hi2,rfl,trivial⟩;show [V.i (i64.wrap (f.k+dot f.c v+dot (f.d.take i) (w.take i)+i64.wrap (x*y))),V.i (i64.wrap ((i:Int)+1))]=_;rw[wS hi2 (by omega),w64 (n:=x*y) (by omega) (by omega),w64 (by omega) (by omega),WP hx hy,Int.add_assoc (f.k+dot f.c v)]
 ·refine Jrg (JqZ ?_);show [dI (f.k+dot f.c v+dot (f.d.take i) (w.take i))]=_;rw[JrI (by omega),JrI (by omega),show f.k+dot f.c v+dot f.d w=atF f v w by unfold atF;omega]
/- What a site does alone: over residual programs. -/
theorem Jq1 {l:List V} {Q:Oc→Prop} {r:R} {c:Nat} {N:Int} (x:List Int) (hx:x.length≤1000) (hN:1000≤N) (he:lst (Js l) (.v c)=dL x) (h:WR L r l Q) :
  WR L (.i (.chk (.cmp .le (.len (.v c)) (.z N))) (.i (.head 1 (.v c)) (.i (.chk (.cmp .le (.len (.app .nil (.v c))) (.z N))) r))) l Q :=
 Jre (dL x) 1000 (by rw[dL1];omega) hN he (Jro (by rw[he];exact Yl x) (Jre (dL x) 1000 (by rw[dL1];omega) hN he h))
theorem Jcw {pins:List Bool} {a:List Int} {i:Nat} {x:Int} {b:Bool} (hx:a[i]? = some x) (hb:pins[i]? = some b):(a.zip pins)[i]? = some (x,b):=by
 rw[List.getElem?_zip_eq_some];exact⟨hx,hb⟩
theorem Jh4 (as:List (List Jc)) (ps:List (List Int)) (pins:List Bool) (a:List Int) (hp:pins.length=3) (ha:a.length=3):Ev L f_k45 [.s (Jf as),.s (dLL ps),.s (dBl pins),.s (dL a)] [dB (YB pins a)]:=by
 refine JrA (vs:=[.l (Jf as),.l (dLL ps),.l (dBl pins),.l (dL a)]) L_k45 rfl ?_;refine Jq0 a.length (fun i=>[.i i]) (fun i=>((a.zip pins).take i).all (fun q=>!(q.2 && !decide (q.1=0)))=true) rfl rfl rfl fun i hi hq=>?_;simp only[sC,sN];refine Jru i (dL1 a) rfl (fun h=>?_) (fun h=>?_)
 ·obtain⟨x,hx,_⟩:=sA1 h;obtain⟨b,hb,_⟩:=sA1 (show i<pins.length by omega);have hz:=Jcw hx hb;refine Jrd i (mA1 (f:=dI) hx) rfl rfl rfl rfl ?_;refine Jrm (decide (x=0)) rfl (fun h0=>?_) (fun h0=>?_)
  ·refine Jrd i (mA1 (f:=dB) hb) rfl rfl rfl rfl ?_;refine Jq5 b rfl (fun hb1=>Jrg (JqZ ?_)) (fun hb1=>?_)
   ·show [dB false]=_;unfold YB;rw[Za hz (by simp only[h0,hb1];rfl)]
   ·refine Jrq (vs:=[.i ((i+1:Nat):Int)]) ?_ ⟨h,rfl,Q2 hz hq (by simp only[hb1];rfl)⟩;show [V.i (i64.wrap ((i:Int)+1))]=_;rw[wS h (by omega)]
  ·refine Jrq (vs:=[.i ((i+1:Nat):Int)]) ?_ ⟨h,rfl,Q2 hz hq (by simp only[h0];simp)⟩;show [V.i (i64.wrap ((i:Int)+1))]=_;rw[wS h (by omega)]
 ·refine Jrg (JqZ ?_);rw[JrI (by simp;omega)] at hq;unfold YB;rw[hq];rfl
theorem Ji7 (pins:List Bool) (a:List Int) (hp:pins.length=3) (ha:a.length=3):Ev L f_k1n [.s (dBl pins),.s (dL a)] [dB (YB pins a)]:=by
 refine JrA (vs:=[.l (dBl pins),.l (dL a)]) L_k1n rfl ?_;refine Jq0 3 (fun i=>[.i i]) (fun i=>((a.zip pins).take i).all (fun q=>!(q.2 && !decide (q.1=0)))=true) rfl rfl rfl fun i hi hq=>?_;simp only[sC,sN];refine Jrh i 3 rfl (fun h=>?_) (fun h=>?_)
 ·obtain⟨x,hx,_⟩:=sA1 (show i<a.length by omega);obtain⟨b,hb,_⟩:=sA1 (show i<pins.length by omega);have hz:=Jcw hx hb;refine Jrd i (mA1 (f:=dB) hb) rfl rfl rfl rfl ?_;refine Jq5 b rfl (fun hb1=>?_) (fun hb1=>?_)
  ·refine Jrd i (mA1 (f:=dI) hx) rfl rfl rfl rfl ?_;refine Jrm (decide (x=0)) rfl (fun h0=>Jrg (JqZ ?_)) (fun h0=>?_)
   ·show [dB false]=_;unfold YB;rw[Za hz (by simp only[h0,hb1];rfl)]
   ·refine Jrq (vs:=[.i ((i+1:Nat):Int)]) ?_ ⟨h,rfl,Q2 hz hq (by simp only[h0];simp)⟩;show [V.i (i64.wrap ((i:Int)+1))]=_;rw[wS h (by omega)]
  ·refine Jrq (vs:=[.i ((i+1:Nat):Int)]) ?_ ⟨h,rfl,Q2 hz hq (by simp only[hb1];rfl)⟩;show [V.i (i64.wrap ((i:Int)+1))]=_;rw[wS h (by omega)]
 ·refine Jrg (JqZ ?_);rw[JrI (by simp;omega)] at hq;unfold YB;rw[hq];rfl
theorem JiL (as:List (List Jc)) (hf:Xb as):Ev L f_k3j [.s (Jf as)] [.s (Jf as),.s (dLL (Jg as)),.s (dBl (JT as))]:=by
 refine JrA (vs:=[.l (Jf as)]) L_k3j rfl ?_;refine Jrw (JlJ as hf) rfl rfl rfl ?_;refine Jrw (JnQ as hf) rfl rfl rfl (JqZ rfl)
theorem Jba {b g:List Int} {ps:List (List Int)} {s:Int} {a:List Int} (h:keeps b g ps s a=true):a.length=3:=(VO (Xm h)).2.2.2.2.2.1.1
theorem Jlw (as:List (List Jc)) (ps:List (List Int)) (pins:List Bool) (b g:List Int) (s:Int) (a:List Int) (hpi:pins.length=3) (hb:b.length≤2000000) (hg:g.length≤2000000) (hp:fitLL ps) (ha:a.length≤2000000) :
  Ev L f_k46 [.s (Jf as),.s (dLL ps),.s (dBl pins),.s (dL b),.s (dL g),dI s,.s (dL a)] [dB (keeps b g ps s a&&YB pins a)]:=by
 refine JrA (vs:=[.l (Jf as),.l (dLL ps),.l (dBl pins),.l (dL b),.l (dL g),.i s,.l (dL a)]) L_k46 rfl ?_;refine Jrw (JhF b g ps s a hb hg hp ha) rfl rfl rfl ?_;refine Jq5 (keeps b g ps s a) rfl (fun h=>?_) (fun h=>JqZ ?_)
 ·refine Jrw (Jh4 as ps pins a hpi (Jba h)) rfl rfl rfl (JqZ ?_);rw[h];rfl
 ·rw[h];rfl
/- What a site does alone: the tries themselves,over residual programs. -/
theorem JhQ {i:Nat} (h:i<3):[0,1,2][i]? = some i:=by
 match i,h with
 | 0,_ | 1,_ | 2,_=>rfl
theorem Jh8 {as:List (List Jc)} (h:QK as=true):(JT as).length=3:=by rw[Jdi h,Jm0]
def Jkw (O U:Nat→Bool) (b g:List Int) (ps:List (List Int)) (s:Int) (a w:List Int):Prop :=
 ∀i,O i=([0,1,2].take i).any (ovM b g ps s a w)∧U i=([0,1,2].take i).any (unM b g ps s a w)
theorem Jkw.step {O U:Nat→Bool} {b g:List Int} {ps:List (List Int)} {s:Int} {a w:List Int} (h:Jkw O U b g ps s a w) {i:Nat} (hi:i<3) :
  O (i+1)=(O i||(decide (10000<(Xa b g ps s a (JA i) w).1)||decide ((Xa b g ps s a (JA i) w).2.1 < -10000))) ∧
  U (i+1)=(U i||(decide ((Xa b g ps s a (JA i) w).1 < -10000)||decide (10000<(Xa b g ps s a (JA i) w).2.1))):=by
 rw[(h (i+1)).1,(h (i+1)).2,(h i).1,(h i).2,Jiw (JhQ hi),Jiw (JhQ hi)];exact⟨rfl,rfl⟩
theorem Jkw.zero {O U:Nat→Bool} {b g:List Int} {ps:List (List Int)} {s:Int} {a w:List Int} (h:Jkw O U b g ps s a w):O 0=false∧U 0=false:=⟨(h 0).1,(h 0).2⟩
/- What a site does alone: the specification's tries,over residual programs. -/
theorem Jod {a b:List Int} (ha:a.length=3) (hb:b.length=3) (la:Lim 4000000000000000000 a) (lb:Lim 4000000000000000000 b):Ev L f_k1z [.s (dL a),.s (dL b)] [.s (dL (Xi a b))]:=by
 refine JrA (vs:=[.l (dL a),.l (dL b)]) L_k1z rfl ?_;refine Jq0 3 (fun i=>[.l (dL ((Xi a b).take i)),.i i]) (fun _=>True) rfl rfl trivial fun i hi _=>?_;simp only[sC,sN];refine Jrh i 3 rfl (fun h=>?_) (fun h=>?_)
 ·obtain⟨x,hx,hmx⟩:=sA1 (show i<a.length by omega);obtain⟨y,hy,hmy⟩:=sA1 (show i<b.length by omega);have hxl:=la x hmx;have hyl:=lb y hmy;have hs:(Xi a b)[i]? = some (x+y):=by unfold Xi;rw[List.getElem?_zipWith,hx,hy]
  refine Jrd i (mA1 (f:=dI) hx) rfl rfl rfl rfl ?_;refine Jrd i (mA1 (f:=dI) hy) rfl rfl rfl rfl ?_;refine Jrk (dL ((Xi a b).take i)) 10 (by rw[dL1];simp;omega) (by omega) rfl ?_;refine Jrq (vs:=[.l (dL ((Xi a b).take (i+1))),.i ((i+1:Nat):Int)]) ?_ ⟨h,rfl,trivial⟩;show [V.l (dL ((Xi a b).take i)++[dI (i64.wrap (x+y))]),V.i (i64.wrap ((i:Int)+1))]=_;rw[wS h (by omega),w64 (by omega) (by omega),Jb9,tS1 hs]
 ·refine Jrg (JqZ ?_);show [D.s (dL ((Xi a b).take i))]=_;rw[JrI (by rw[Kw (by omega)];omega)]
/- What a site does alone: draws; who gives more can do more: over residual programs. -/
end Go.Proofs.YtgpjnnkmmplicabGreatDoor
/- What one site does alone is what would come of it over all: over residual programs. The sum here hands its list back. -/
namespace Go.Proofs.YtgpjnnkmmplicabGreatDoor
open Go Go.Tm
open Go.IntKind (i64)
/- Copies,comparisons,marks and sizes of acts: over residual programs. -/
theorem XC (l:List Int) (hl:l.length≤2000000):Ev L f_ke [.s (dL l)] [.s (dL l)]:=by
 refine JrA (vs:=[.l (dL l)]) L_ke rfl ?_;have hlen:=dL1 l;refine Jrs (by show decide ((0:Int)≤((dL l).length:Int))=true;simp) ?_;refine Jre (dL l) 2000000 (by omega) (by omega) rfl ?_;refine Jq0 (dL l).length (fun i=>[.l ((dL l).take i++List.replicate ((dL l).length-i) (dI 0)),.i i]) (fun _=>True) rfl ?_ trivial fun i hi _=>?_
 ·show [V.l (List.replicate ((dL l).length:Int).toNat (dI 0)),V.i 0]=_;simp
 simp only[sC,sN];refine Jru i (ds:=dL l) rfl rfl (fun h=>?_) (fun h=>Jrg (JqZ ?_))
 ·obtain⟨x,hx,_⟩:=sA1 (show i<l.length by omega);refine Jrd i (mA1 (f:=dI) hx) rfl rfl rfl rfl ?_;refine Jrc (ds:=(dL l).take i++List.replicate ((dL l).length-i) (dI 0)) i (Vr h) rfl rfl rfl rfl rfl rfl ?_;refine Jrq (vs:=[.l ((dL l).take (i+1)++List.replicate ((dL l).length-(i+1)) (dI 0)),.i ((i+1:Nat):Int)]) ?_ ⟨h,rfl,trivial⟩;show [V.l (((dL l).take i++List.replicate ((dL l).length-i) (dI 0)).set (i:Int).toNat (dI x)),V.i (i64.wrap ((i:Int)+1))]=_;rw[wS h (by omega),Int.toNat_natCast,KA (es:=dL l) (mA1 (f:=dI) hx)]
 ·show [D.s ((dL l).take i++List.replicate ((dL l).length-i) (dI 0))]=_;rw[Kr h]
theorem JgM (f:Frm) (hf:Frm.fit f):Ev L f_kf f.cells f.cells:=by
 refine JrA (vs:=[.l (dL f.c),.l (dL f.d),.i f.k]) L_kf rfl ?_;refine Jrw (XC f.c hf.1) rfl rfl rfl ?_;refine Jrw (XC f.d hf.2) rfl rfl rfl ?_;exact JqZ rfl
theorem Jfo (l:Jc) (hf:Frm.fit l.f):Ev L f_kg l.cells l.cells:=by
 refine JrA (vs:=[.i l.kind,.i l.pot,.i l.skip,.l (dL l.f.c),.l (dL l.f.d),.i l.f.k]) L_kg rfl ?_;refine Jrw (JgM l.f hf) rfl rfl rfl ?_;exact JqZ rfl
theorem Jd3 (a:List Jc) (ha:Ym a):Ev L f_kh [.s (Ji a)] [.s (Ji a)]:=by
 refine JrA (vs:=[.l (Ji a)]) L_kh rfl ?_;have hlen:=JU a;have hl:=ha.1;refine Jrs (by show decide ((0:Int)≤((Ji a).length:Int))=true;simp) ?_;refine Jre (Ji a) 2000000 (by omega) (by omega) rfl ?_;refine Jq0 (Ji a).length (fun i=>[.l ((Ji a).take i++List.replicate ((Ji a).length-i) (Jc.g ⟨0,0,0,Frm.none⟩)),.i i]) (fun _=>True) rfl ?_ trivial fun i hi _=>?_
 ·show [V.l (List.replicate ((Ji a).length:Int).toNat (Jc.g ⟨0,0,0,Frm.none⟩)),V.i 0]=_;simp
 simp only[sC,sN];refine Jru i (ds:=Ji a) rfl rfl (fun h=>?_) (fun h=>Jrg (JqZ ?_))
 ·obtain⟨x,hx,hm⟩:=sA1 (show i<a.length by omega);refine Jrd (vs:=[.i x.kind,.i x.pot,.i x.skip,.l (dL x.f.c),.l (dL x.f.d),.i x.f.k]) i (mA1 (f:=Jc.g) hx) rfl rfl rfl rfl ?_;simp only[sC,sN];refine Jrw (vs:=[.i x.kind,.i x.pot,.i x.skip,.l (dL x.f.c),.l (dL x.f.d),.i x.f.k]) (Jfo x (ha.2 x hm)) rfl rfl rfl ?_;simp only[sC,sN];refine Jrc (vs:=[.i 0,.i 0,.i 0,.l [],.l [],.i 0]) (ds:=(Ji a).take i++List.replicate ((Ji a).length-i) (Jc.g ⟨0,0,0,Frm.none⟩)) i (Vr h) rfl rfl rfl rfl rfl rfl ?_;refine Jrq (vs:=[.l ((Ji a).take (i+1)++List.replicate ((Ji a).length-(i+1)) (Jc.g ⟨0,0,0,Frm.none⟩)),.i ((i+1:Nat):Int)]) ?_ ⟨h,rfl,trivial⟩;show [V.l (((Ji a).take i++List.replicate ((Ji a).length-i) (Jc.g ⟨0,0,0,Frm.none⟩)).set (i:Int).toNat (Jc.g x)),V.i (i64.wrap ((i:Int)+1))]=_;rw[wS h (by omega),Int.toNat_natCast,KA (es:=Ji a) (mA1 (f:=Jc.g) hx)]
 ·show [D.s ((Ji a).take i++List.replicate ((Ji a).length-i) (Jc.g ⟨0,0,0,Frm.none⟩))]=_;rw[Kr h]
theorem Jcz (as:List (List Jc)) (ha:Xb as):Ev L f_ki [.s (Jf as)] [.s (Jf as)]:=by
 refine JrA (vs:=[.l (Jf as)]) L_ki rfl ?_;have hlen:=QO as;have hl:=ha.1;refine Jrs (by show decide ((0:Int)≤((Jf as).length:Int))=true;simp) ?_;refine Jre (Jf as) 2000000 (by omega) (by omega) rfl ?_;refine Jq0 (Jf as).length (fun i=>[.l ((Jf as).take i++List.replicate ((Jf as).length-i) (D.s [])),.i i]) (fun _=>True) rfl ?_ trivial fun i hi _=>?_
 ·show [V.l (List.replicate ((Jf as).length:Int).toNat (D.s [])),V.i 0]=_;simp
 simp only[sC,sN];refine Jru i (ds:=Jf as) rfl rfl (fun h=>?_) (fun h=>Jrg (JqZ ?_))
 ·obtain⟨x,hx,hm⟩:=sA1 (show i<as.length by omega);refine Jrd i (mA1 (f:=fun a=>D.s (Ji a)) hx) rfl rfl rfl rfl ?_;refine Jrw (Jd3 x (ha.2 x hm)) rfl rfl rfl ?_;simp only[sC,sN];refine Jrc (ds:=(Jf as).take i++List.replicate ((Jf as).length-i) (D.s [])) i (Vr h) rfl rfl rfl rfl rfl rfl ?_;refine Jrq (vs:=[.l ((Jf as).take (i+1)++List.replicate ((Jf as).length-(i+1)) (D.s [])),.i ((i+1:Nat):Int)]) ?_ ⟨h,rfl,trivial⟩;show [V.l (((Jf as).take i++List.replicate ((Jf as).length-i) (D.s [])).set (i:Int).toNat (.s (Ji x))),V.i (i64.wrap ((i:Int)+1))]=_;rw[wS h (by omega),Int.toNat_natCast,KA (es:=Jf as) (mA1 (f:=fun a=>D.s (Ji a)) hx)]
 ·show [D.s ((Jf as).take i++List.replicate ((Jf as).length-i) (D.s []))]=_;rw[Kr h]
theorem Xv (a b:List Int) (hl:a.length≤2000000):Ev L f_k4t [.s (dL a),.s (dL b)] [dB (decide (a=b))] :=
 JfC dI .i a b L_k4t rfl (fun _=>rfl) (fun _ _ _ _ _=>rfl) hl
theorem Jgp (f g:Frm) (hf:Frm.fit f):Ev L f_k53 (f.cells++g.cells) [dB (decide (f=g))]:=by
 refine JrA (vs:=[.l (dL f.c),.l (dL f.d),.i f.k,.l (dL g.c),.l (dL g.d),.i g.k]) L_k53 rfl ?_;have e:decide (f=g)=(decide (f.c=g.c)&&(decide (f.d=g.d)&&decide (f.k=g.k))):=by
  obtain⟨a,b,c⟩:=f;obtain⟨a',b',c'⟩:=g;simp only[Frm.mk.injEq]
  by_cases h1:a=a' <;> by_cases h2:b=b' <;> by_cases h3:c=c' <;> simp[h1,h2,h3]
 rw[e];refine Jrw (Xv f.c g.c hf.1) rfl rfl rfl ?_;refine Jrm (decide (f.c=g.c)) rfl (fun h=>JqZ ?_) (fun h=>?_)
 ·show [dB false]=_;rw[h];rfl
 refine Jrw (Xv f.d g.d hf.2) rfl rfl rfl ?_;refine Jrm (decide (f.d=g.d)) rfl (fun h2=>JqZ ?_) (fun h2=>?_)
 ·show [dB false]=_;rw[h,h2];rfl
 refine Jrm (decide (f.k=g.k)) rfl (fun h3=>JqZ ?_) (fun h3=>JqZ ?_)
 ·show [dB false]=_;rw[h,h2,h3];rfl
 ·show [dB true]=_;rw[h,h2,h3];rfl
theorem JgF (a b:Jc) (hf:Frm.fit a.f):Ev L f_k54 (a.cells++b.cells) [dB (decide (a=b))]:=by
 refine JrA (vs:=[.i a.kind,.i a.pot,.i a.skip,.l (dL a.f.c),.l (dL a.f.d),.i a.f.k,.i b.kind,.i b.pot,.i b.skip,.l (dL b.f.c),.l (dL b.f.d),.i b.f.k]) L_k54 rfl ?_;have e:decide (a=b)=(decide (a.kind=b.kind)&&(decide (a.pot=b.pot)&&(decide (a.skip=b.skip)&&decide (a.f=b.f)))):=by
  obtain⟨a1,a2,a3,a4⟩:=a;obtain⟨b1,b2,b3,b4⟩:=b;simp only[Jc.mk.injEq]
  by_cases h1:a1=b1 <;> by_cases h2:a2=b2 <;> by_cases h3:a3=b3 <;> by_cases h4:a4=b4 <;> simp[h1,h2,h3,h4]
 rw[e];refine Jrm (decide (a.kind=b.kind)) rfl (fun h=>JqZ ?_) (fun h=>?_)
 ·show [dB false]=_;rw[h];rfl
 refine Jrm (decide (a.pot=b.pot)) rfl (fun h2=>JqZ ?_) (fun h2=>?_)
 ·show [dB false]=_;rw[h,h2];rfl
 refine Jrm (decide (a.skip=b.skip)) rfl (fun h3=>JqZ ?_) (fun h3=>?_)
 ·show [dB false]=_;rw[h,h2,h3];rfl
 refine Jrw (Jgp a.f b.f hf) rfl rfl rfl ?_;refine Jrm (decide (a.f=b.f)) rfl (fun h4=>JqZ ?_) (fun h4=>JqZ ?_)
 ·show [dB false]=_;rw[h,h2,h3,h4];rfl
 ·show [dB true]=_;rw[h,h2,h3,h4];rfl
theorem JdV (a b:List Jc) (ha:Ym a):Ev L f_k55 [.s (Ji a),.s (Ji b)] [dB (decide (a=b))] :=
 KC (g:=f_k54) (sh:= .g [.i .i64,.i .i64,.i .i64,.s,.s,.i .i64])
  (as:=[(.vi .i64 (.v 3)),(.vi .i64 (.v 4)),(.vi .i64 (.v 5)),(.s (.v 6)),(.s (.v 7)),(.vi .i64 (.v 8)),(.vi .i64 (.v 9)),(.vi .i64 (.v 10)),(.vi .i64 (.v 11)),(.s (.v 12)),(.s (.v 13)),(.vi .i64 (.v 14))]) (k1:=9) (k2:=15)
  Jc.g (fun x=>[.i x.kind,.i x.pot,.i x.skip,.l (dL x.f.c),.l (dL x.f.d),.i x.f.k]) Jc.cells a b
  L_k55 rfl (fun _=>rfl) (fun _=>rfl) (fun _=>rfl) (fun _ _ _ _ _=>rfl) (fun x hx y=>JgF x y (ha.2 x hx)) ha.1
theorem JcK (a b:List (List Jc)) (ha:Xb a):Ev L f_k56 [.s (Jf a),.s (Jf b)] [dB (decide (a=b))] :=
 KC (g:=f_k55) (sh:= .one .s) (as:=[(.s (.v 3)),(.s (.v 4))]) (k1:=4) (k2:=5) (fun x=> .s (Ji x)) (fun x=>[.l (Ji x)]) (fun x=>[.s (Ji x)]) a b
  L_k56 rfl (fun _=>rfl) (fun _=>rfl) (fun _=>rfl) (fun _ _ _ _ _=>rfl) (fun x hx y=>JdV x y (ha.2 x hx)) ha.1
/- Marks,and what is held; sizes of acts: over residual programs. -/
theorem Qg (l:List Int) (k:Int) (hl:l.length≤2000000) (h0:0≤k) (h1:k≤1000000000000000):Ev L f_k58 [.s (dL l),dI k] [dI (k+l.length),.s (dL (cnt k l.length))]:=by
 refine JrA (vs:=[.l (dL l),.i k]) L_k58 rfl ?_;have hc:(cnt k l.length).length=l.length:=YR _ _;have hc':(dL (cnt k l.length)).length=(dL l).length:=by rw[dL1,dL1,hc]
 have hlen:=dL1 l;refine Jq0 l.length (fun i=>[.l ((dL (cnt k l.length)).take i++(dL l).drop i),.i (k+i),.i i]) (fun _=>True) rfl ?_ trivial fun i hi _=>?_
 ·show [V.l (dL l),V.i k,V.i 0]=_;simp
 simp only[sC,sN];refine Jru i (ds:=(dL (cnt k l.length)).take i++(dL l).drop i) ((JhX hc').trans hlen) rfl (fun h=>?_) (fun h=>Jrg (JqZ ?_))
 ·obtain⟨x,hx,_⟩:=sA1 h;refine Jrc (ds:=(dL (cnt k l.length)).take i++(dL l).drop i) i (JjU hc' (mA1 (f:=dI) hx)) rfl rfl rfl rfl rfl rfl ?_;refine Jrq (vs:=[.l ((dL (cnt k l.length)).take (i+1)++(dL l).drop (i+1)),.i (k+((i+1:Nat):Int)),.i ((i+1:Nat):Int)]) ?_ ⟨h,rfl,trivial⟩;show [V.l (((dL (cnt k l.length)).take i++(dL l).drop i).set (i:Int).toNat (dI (k+i))),V.i (i64.wrap (k+i+1)),V.i (i64.wrap ((i:Int)+1))]=_;rw[wS h (by omega),Int.toNat_natCast,Jhu hc' (mA1 (f:=dI) (JjY k h)),w64 (by omega) (by omega)];rw[show k+(i:Int)+1=k+((i+1:Nat):Int) by push_cast;omega]
 ·show [dI (k+i),D.s ((dL (cnt k l.length)).take i++(dL l).drop i)]=_;rw[JhU hc' (by omega),show i=l.length by omega]
theorem X6 (k:Int) (n:Nat) (hl:n≤2000000) (h0:0≤k) (h1:k≤1000000000000000):Ev L f_k5h [.s (dL (cnt k n)),dI k] [dI (k+n)]:=by
 refine JrA (vs:=[.l (dL (cnt k n)),.i k]) L_k5h rfl ?_;have hlen:(dL (cnt k n)).length=n:=by rw[dL1,YR]
 refine Jq0 n (fun i=>[.i (k+i),.i i]) (fun _=>True) rfl ?_ trivial fun i hi _=>?_
 ·show [V.i k,V.i 0]=_;simp
 simp only[sC,sN];refine Jru i hlen rfl (fun h=>?_) (fun h=>Jrg (JqZ ?_))
 ·refine Jrd i (mA1 (f:=dI) (JjY k h)) rfl rfl rfl rfl ?_;refine Jra ?_ ?_
  ·show (!(decide ((k+(i:Int))=(k+(i:Int)))))=false;simp
  refine Jrq (vs:=[.i (k+((i+1:Nat):Int)),.i ((i+1:Nat):Int)]) ?_ ⟨h,rfl,trivial⟩;show [V.i (i64.wrap (k+i+1)),V.i (i64.wrap ((i:Int)+1))]=_;rw[wS h (by omega),w64 (by omega) (by omega)];rw[show k+(i:Int)+1=k+((i+1:Nat):Int) by push_cast;omega]
 ·show [dI (k+i)]=_;rw[show i=n by omega]
def wtL (l:Jc):Nat:=4+l.f.c.length+l.f.d.length
def wtA (a:List Jc):Nat:=(a.map wtL).sum
def Yd (as:List (List Jc)):Nat:=(as.map wtA).sum
theorem JnN {a:List Jc} {i:Nat} {x:Jc} (h:a[i]? = some x):wtA (a.take (i+1))=wtA (a.take i)+wtL x:=by unfold wtA;rw[Q5 h];simp
theorem JkQ {a:List (List Jc)} {i:Nat} {x:List Jc} (h:a[i]? = some x):Yd (a.take (i+1))=Yd (a.take i)+wtA x:=by unfold Yd;rw[Q5 h];simp
theorem Jbp {α:Type} (f:α→Nat) (l:List α) (i:Nat):((l.take i).map f).sum≤(l.map f).sum:=by
 conv=>rhs;rw[←List.take_append_drop i l,List.map_append,List.sum_append]
 omega
theorem Jh6 (a:List Jc) (i:Nat):wtA (a.take i)≤wtA a:=Jbp _ _ _
theorem Jfb (a:List (List Jc)) (i:Nat):Yd (a.take i)≤Yd a:=Jbp _ _ _
theorem JjZ {α:Type} {es:List α} {fs:List α} {i:Nat} (h:es.drop i=fs.drop i) {x:α} (hx:fs[i]? = some x):es[i]? = some x:=by
 have:(es.drop i)[0]? = (fs.drop i)[0]?:=by rw[h]
 simpa[hx] using this
theorem JiE {α:Type} {es:List α} {fs:List α} {i:Nat} (h:es.drop i=fs.drop i) (x:α):(es.set i x).drop (i+1)=fs.drop (i+1):=by
 rw[List.drop_set_of_lt (by omega)];rw[show es.drop (i+1)=(es.drop i).drop 1 by rw[List.drop_drop],show fs.drop (i+1)=(fs.drop i).drop 1 by rw[List.drop_drop],h]
theorem JbK (a:List Jc) (ha:Ym a) (k:Int) (h0:0≤k) (h1:k+wtA a≤1000000000000) : ∃ ds,Ev L f_k59 [.s (Ji a),dI k] ds∧∃ es,ds=[dI (k+wtA a),.s es]∧es.length=a.length:=by
 refine Jrz (vs:=[.l (Ji a),.i k]) L_k59 rfl ?_;have hlen:=JU a;have hl:=ha.1;refine Jrf a.length (fun i vs=>∃ es,vs=[.l es,.i (k+wtA (a.take i)),.i i]∧es.length=a.length∧es.drop i=(Ji a).drop i) rfl ?_ ?_
 ·exact⟨Ji a,by show [V.l (Ji a),V.i k,V.i 0]=_;simp[wtA],hlen,rfl⟩
 rintro i _ hi ⟨es,rfl,he,hd⟩;simp only[sC,sN];have hw:=Jh6 a i;refine Jru i (ds:=es) he rfl (fun h=>?_) (fun h=>Jrg (JqZ ?_))
 ·obtain⟨x,hx,hm⟩:=sA1 h;have hx0:=JjZ hd (mA1 (f:=Jc.g) hx);have hxf:=ha.2 x hm;have hw2:=JnN hx;have hw3:=Jh6 a (i+1);have hwl:wtL x=4+x.f.c.length+x.f.d.length:=rfl;generalize hk:k+(wtA (a.take i):Int)=q at *;have hq0:0≤q:=by omega
  have hq1:q+wtL x≤1000000000000:=by omega
  have e1:i64.wrap (q+1)=q+1:=w64 (by omega) (by omega);have e2:i64.wrap (q+1+1)=q+1+1:=w64 (by omega) (by omega);have e3:i64.wrap (q+1+1+1)=q+1+1+1:=w64 (by omega) (by omega);have hil:i<es.length:=by omega
  refine Jrc (vs:=[.i x.kind,.i x.pot,.i x.skip,.l (dL x.f.c),.l (dL x.f.d),.i x.f.k]) (ds:=es) i hx0 rfl rfl rfl rfl rfl rfl ?_;simp only[sC,sN];generalize hes1:es.set i (.g [dI q,dI x.pot,dI x.skip,.s (dL x.f.c),.s (dL x.f.d),dI x.f.k])=es1;have hl1:es1.length=es.length:=by rw[←hes1];simp
  refine Jrc (vs:=[.i q,.i x.pot,.i x.skip,.l (dL x.f.c),.l (dL x.f.d),.i x.f.k]) (ds:=es1) (d:= .g [dI q,dI x.pot,dI x.skip,.s (dL x.f.c),.s (dL x.f.d),dI x.f.k]) i (by rw[←hes1];exact YC _ hil) rfl (by rw[hl1];rfl) rfl (by rw[←hes1];rfl) rfl rfl ?_;simp only[sC,sN];generalize hes2:es1.set i (.g [dI q,dI (q+1),dI x.skip,.s (dL x.f.c),.s (dL x.f.d),dI x.f.k])=es2;have hl2:es2.length=es.length:=by rw[←hes2];simp[hl1]
  refine Jrc (vs:=[.i q,.i (q+1),.i x.skip,.l (dL x.f.c),.l (dL x.f.d),.i x.f.k]) (ds:=es2) (d:= .g [dI q,dI (q+1),dI x.skip,.s (dL x.f.c),.s (dL x.f.d),dI x.f.k]) i (by rw[←hes2];exact YC _ (by omega)) rfl (by rw[hl2];rfl) rfl
   (by rw[←hes2,←hes1,←e1];rfl) rfl rfl ?_
  simp only[sC,sN];generalize hes3:es2.set i (.g [dI q,dI (q+1),dI (q+1+1),.s (dL x.f.c),.s (dL x.f.d),dI x.f.k])=es3;have hl3:es3.length=es.length:=by rw[←hes3];simp[hl2]
  have hes3':es3=((es.set i (.g [dI q,dI x.pot,dI x.skip,.s (dL x.f.c),.s (dL x.f.d),dI x.f.k])).set i (.g [dI q,dI (i64.wrap (q+1)),dI x.skip,.s (dL x.f.c),.s (dL x.f.d),dI x.f.k])).set i
   (.g [dI q,dI (q+1),dI (i64.wrap (i64.wrap (q+1)+1)),.s (dL x.f.c),.s (dL x.f.d),dI x.f.k]):=by rw[e1,e2,hes1,hes2,hes3]
  refine Jrc (vs:=[.i q,.i (q+1),.i (q+1+1),.l (dL x.f.c),.l (dL x.f.d),.i x.f.k]) (ds:=es3) (d:= .g [dI q,dI (q+1),dI (q+1+1),.s (dL x.f.c),.s (dL x.f.d),dI x.f.k]) i (by rw[←hes3];exact YC _ (by omega)) rfl (by rw[hl3];rfl) rfl
   (by rw[hes3'];rfl) rfl rfl ?_
  simp only[sC,sN];refine Jrw (vs:=[.i (q+1+1+1+x.f.c.length),.l (dL (cnt (q+1+1+1) x.f.c.length))]) (Qg x.f.c (q+1+1+1) hxf.1 (by omega) (by omega)) rfl ?_ rfl ?_
  ·show [D.s (dL x.f.c),dI (i64.wrap (i64.wrap (i64.wrap (q+1)+1)+1))]=_;rw[e1,e2,e3]
  simp only[sC,sN];refine Jrs ?_ ?_
  ·show decide (((dL (cnt (q+1+1+1) x.f.c.length)).length:Int)=((dL x.f.c).length:Int))=true;rw[dL1,dL1,YR];simp
  generalize hes4:es3.set i (.g [dI q,dI (q+1),dI (q+1+1),.s (dL (cnt (q+1+1+1) x.f.c.length)),.s (dL x.f.d),dI x.f.k])=es4;have hl4:es4.length=es.length:=by rw[←hes4];simp[hl3]
  refine Jrc (vs:=[.i q,.i (q+1),.i (q+1+1),.l (dL (cnt (q+1+1+1) x.f.c.length)),.l (dL x.f.d),.i x.f.k]) (ds:=es4) (d:= .g [dI q,dI (q+1),dI (q+1+1),.s (dL (cnt (q+1+1+1) x.f.c.length)),.s (dL x.f.d),dI x.f.k]) i (by rw[←hes4];exact YC _ (by omega)) rfl (by rw[hl4];rfl) rfl
   (by rw[←hes4,hes3'];rfl) rfl rfl ?_
  simp only[sC,sN];refine Jrw (vs:=[.i (q+1+1+1+x.f.c.length+x.f.d.length),.l (dL (cnt (q+1+1+1+x.f.c.length) x.f.d.length))]) (Qg x.f.d (q+1+1+1+x.f.c.length) hxf.2 (by omega) (by omega)) rfl rfl rfl ?_;simp only[sC,sN];refine Jrs ?_ ?_
  ·show decide (((dL (cnt (q+1+1+1+x.f.c.length) x.f.d.length)).length:Int)=((dL x.f.d).length:Int))=true;rw[dL1,dL1,YR];simp
  generalize hes5:es4.set i (.g [dI q,dI (q+1),dI (q+1+1),.s (dL (cnt (q+1+1+1) x.f.c.length)),.s (dL (cnt (q+1+1+1+x.f.c.length) x.f.d.length)),dI x.f.k])=es5;have hl5:es5.length=es.length:=by rw[←hes5];simp[hl4]
  refine Jrc (vs:=[.i q,.i (q+1),.i (q+1+1),.l (dL (cnt (q+1+1+1) x.f.c.length)),.l (dL (cnt (q+1+1+1+x.f.c.length) x.f.d.length)),.i x.f.k]) (ds:=es5)
   (d:= .g [dI q,dI (q+1),dI (q+1+1),.s (dL (cnt (q+1+1+1) x.f.c.length)),.s (dL (cnt (q+1+1+1+x.f.c.length) x.f.d.length)),dI x.f.k]) i (by rw[←hes5];exact YC _ (by omega)) rfl (by rw[hl5];rfl) rfl
   (by rw[←hes5,←hes4,hes3'];rfl) rfl rfl ?_
  simp only[sC,sN];have e6:i64.wrap (q+1+1+1+x.f.c.length+x.f.d.length+1)=q+wtL x:=by rw[w64 (by omega) (by omega)];omega
  generalize hes6:es5.set i (.g [dI q,dI (q+1),dI (q+1+1),.s (dL (cnt (q+1+1+1) x.f.c.length)),.s (dL (cnt (q+1+1+1+x.f.c.length) x.f.d.length)),dI (q+1+1+1+x.f.c.length+x.f.d.length)])=es6;refine Jrq (vs:=[.l es6,.i (q+wtL x),.i ((i+1:Nat):Int)]) ?_ ⟨h,es6,?_,?_,?_⟩
  ·rw[←hes6,←hes5,←hes4,hes3',←wS h (by omega),←e6];rfl
  ·rw[hw2,←hk];simp only[List.cons.injEq,V.i.injEq,and_true,true_and];push_cast;omega
  ·rw[←hes6,List.length_set,hl5,he]
  ·rw[←hes6,←hes5,←hes4,hes3'];simp only[List.set_set];exact JiE hd _
 ·refine⟨es,?_,he⟩;show [dI (k+wtA (a.take i)),D.s es]=_;rw[tA1 h]
theorem Jbf (as:List (List Jc)) (ha:Xb as) (k:Int) (h0:0≤k) (h1:k+Yd as≤1000000000000) : ∃ ds,Ev L f_k5a [.s (Jf as),dI k] ds∧∃ es,ds=[dI (k+Yd as),.s es]∧es.length=as.length:=by
 refine Jrz (vs:=[.l (Jf as),.i k]) L_k5a rfl ?_;have hlen:=QO as;have hl:=ha.1;refine Jrf as.length (fun i vs=>∃ es,vs=[.l es,.i (k+Yd (as.take i)),.i i]∧es.length=as.length∧es.drop i=(Jf as).drop i) rfl ?_ ?_
 ·exact⟨Jf as,by show [V.l (Jf as),V.i k,V.i 0]=_;simp[Yd],hlen,rfl⟩
 rintro i _ hi ⟨es,rfl,he,hd⟩;simp only[sC,sN];have hw:=Jfb as i;refine Jru i (ds:=es) he rfl (fun h=>?_) (fun h=>Jrg (JqZ ?_))
 ·obtain⟨x,hx,hm⟩:=sA1 h;have hx0:=JjZ hd (mA1 (f:=fun a=>D.s (Ji a)) hx);have hxf:=ha.2 x hm;have hw2:=JkQ hx;have hw3:=Jfb as (i+1);refine Jrc (vs:=[.l (Ji x)]) (ds:=es) i hx0 rfl rfl rfl rfl rfl rfl ?_;simp only[sC,sN];obtain⟨ds,hev,es',rfl,hle⟩:=JbK x hxf (k+Yd (as.take i)) (by omega) (by omega);refine Jrw (vs:=[.i (k+Yd (as.take i)+wtA x),.l es']) hev rfl rfl rfl ?_;simp only[sC,sN];refine Jrs ?_ ?_
  ·show decide ((es'.length:Int)=((Ji x).length:Int))=true;rw[JU,hle];simp
  refine Jrq (vs:=[.l (es.set i (.s es')),.i (k+Yd (as.take i)+wtA x),.i ((i+1:Nat):Int)]) ?_ ⟨h,es.set i (.s es'),?_,?_,?_⟩
  ·rw[←wS h (by omega)];rfl
  ·rw[hw2];simp only[List.cons.injEq,V.i.injEq,and_true,true_and];push_cast;omega
  ·rw[List.length_set,he]
  ·exact JiE hd _
 ·refine⟨es,?_,he⟩;show [dI (k+Yd (as.take i)),D.s es]=_;rw[tA1 h]
/- The program's CatWrites,CatReads and CatPins answer as the reference's: over residual programs. -/
def JkY (f:Frm):Prop:=f.c.length≤9223372036854775807∧f.d.length≤9223372036854775807
def Joz (a:List Jc):Prop:=a.length≤9223372036854775807∧∀l∈a,JkY l.f
def Jon (as:List (List Jc)):Prop:=as.length≤9223372036854775807∧∀a∈as,Joz a
def szF (f:Frm):Nat:=f.c.length+f.d.length
def szA (a:List Jc):Nat:=a.length+(a.map fun l=>szF l.f).sum
def Ut (as:List (List Jc)):Nat:=as.length+(as.map szA).sum
theorem JH {left:Int} {n:Nat} (h0:0≤left) (h1:left≤1048576) : -1≤dec left n∧dec left n≤1048576:=by
 unfold dec;split <;> omega
theorem JnZ {left:Int} {n:Nat} (h : ¬dec left n<0):(n:Int)≤left:=by
 unfold dec at h;split at h
 ·assumption
 ·omega
theorem XA (l:List Int) (left:Int) (hl:l.length≤9223372036854775807) (h0:0≤left) (h1:left≤1048576):Ev L f_k0 [.s (dL l),dI left] [dI (dec left l.length)]:=by
 refine JrA (vs:=[.l (dL l),.i left]) L_k0 rfl ?_;have hlen:=dL1 l;have hw:i64.wrap (left-((dL l).length:Int))=left-l.length:=by rw[hlen];exact w64 (by omega) (by omega)
 refine Jrx (left-(l.length:Int)<0) ?_ (fun h=>JqZ ?_) (fun h=>JqZ ?_)
 ·show decide (i64.wrap (left-((dL l).length:Int))<0)=_;rw[hw]
 ·show [dI (-1)]=_;unfold dec;rw[if_neg (by omega)]
 ·show [dI (i64.wrap (left-((dL l).length:Int)))]=_;unfold dec;rw[hw,if_pos (by omega)]
theorem JfI (f:Frm) (left:Int) (hf:JkY f) (h0:0≤left) (h1:left≤1048576):Ev L f_k1 (f.cells++[dI left]) [dI (dec left (szF f))]:=by
 refine JrA (vs:=[.l (dL f.c),.l (dL f.d),.i f.k,.i left]) L_k1 rfl ?_;refine Jrw (XA f.c left hf.1 h0 h1) rfl rfl rfl ?_;have hr:=JH (n:=f.c.length) h0 h1;refine Jrx (dec left f.c.length<0) rfl (fun h=>JqZ ?_) (fun h=>?_)
 ·show [dI (-1)]=_;rw[szF,Y2 h h0]
 refine Jrw (XA f.d (dec left f.c.length) hf.2 (by omega) (by omega)) rfl rfl rfl ?_;refine Jrx (dec (dec left f.c.length) f.d.length<0) rfl (fun h2=>JqZ ?_) (fun h2=>JqZ ?_)
 ·show [dI (-1)]=_;rw[Xz h] at h2;have:=(JH (n:=f.c.length+f.d.length) h0 h1).1;rw[szF,show dec left (f.c.length+f.d.length) = -1 by omega]
 ·show [dI (dec (dec left f.c.length) f.d.length)]=_;rw[Xz h];rfl
theorem Jga (l:Jc) (left:Int) (hf:JkY l.f) (h0:0≤left) (h1:left≤1048576):Ev L f_k2 (l.cells++[dI left]) [dI (dec left (szF l.f))]:=by
 refine JrA (vs:=[.i l.kind,.i l.pot,.i l.skip,.l (dL l.f.c),.l (dL l.f.d),.i l.f.k,.i left]) L_k2 rfl ?_;refine Jrw (JfI l.f left hf h0 h1) rfl rfl rfl ?_;have hr:=JH (n:=szF l.f) h0 h1;refine Jrx (dec left (szF l.f)<0) rfl (fun h=>JqZ ?_) (fun h=>JqZ rfl);show [dI (-1)]=_;rw[show dec left (szF l.f) = -1 by omega]
theorem Jom {a:List Jc} {i:Nat} {x:Jc} (h:a[i]? = some x):((a.take (i+1)).map fun l=>szF l.f).sum=((a.take i).map fun l=>szF l.f).sum+szF x.f:=by rw[Q5 h];simp
theorem JkS {a:List (List Jc)} {i:Nat} {x:List Jc} (h:a[i]? = some x):((a.take (i+1)).map szA).sum=((a.take i).map szA).sum+szA x:=by rw[Q5 h];simp
theorem Jeg (a:List Jc) (left:Int) (ha:Joz a) (h0:0≤left) (h1:left≤1048576):Ev L f_k3 [.s (Ji a),dI left] [dI (dec left (szA a))]:=by
 refine JrA (vs:=[.l (Ji a),.i left]) L_k3 rfl ?_;have hlen:=JU a;have hl:=ha.1;have hw:i64.wrap (left-((Ji a).length:Int))=left-a.length:=by rw[hlen];exact w64 (by omega) (by omega)
 refine Jrx (left-(a.length:Int)<0) ?_ (fun h=>JqZ ?_) (fun h=>?_)
 ·show decide (i64.wrap (left-((Ji a).length:Int))<0)=_;rw[hw]
 ·show [dI (-1)]=_;unfold dec szA;rw[if_neg (by omega)]
 have hal:a.length≤1048576:=by omega
 refine Jq0 a.length (fun i=>[.i (dec left (a.length+((a.take i).map fun l=>szF l.f).sum)),.i i]) (fun i=>¬dec left (a.length+((a.take i).map fun l=>szF l.f).sum)<0) rfl ?_ ?_ fun i hi hp=>?_
 ·show [V.i (i64.wrap (left-((Ji a).length:Int))),V.i 0]=_;rw[hw];simp only[List.take_zero,List.map_nil,List.sum_nil,Nat.add_zero];unfold dec;rw[if_pos (by omega)];rfl
 ·simp only[List.take_zero,List.map_nil,List.sum_nil,Nat.add_zero];unfold dec;rw[if_pos (by omega)];omega
 simp only[sC,sN];have hr:=JH (n:=a.length+((a.take i).map fun l=>szF l.f).sum) h0 h1;refine Jru i hlen rfl (fun h'=>?_) (fun h'=>Jrg (JqZ ?_))
 ·obtain⟨x,hx,hm⟩:=sA1 h';refine Jrd (vs:=[.i x.kind,.i x.pot,.i x.skip,.l (dL x.f.c),.l (dL x.f.d),.i x.f.k]) i (mA1 (f:=Jc.g) hx) rfl rfl rfl rfl ?_;simp only[sC,sN];refine Jrw (Jga x (dec left (a.length+((a.take i).map fun l=>szF l.f).sum)) (ha.2 x hm) (by omega) (by omega)) rfl rfl rfl ?_;simp only[sC,sN];have e:=Xz (m:=szF x.f) hp;rw[Nat.add_assoc,←Jom hx] at e;rw[e];refine Jrx (dec left (a.length+((a.take (i+1)).map fun l=>szF l.f).sum)<0) rfl (fun h2=>Jrg (JqZ ?_)) (fun h2=>?_)
  ·show [dI (-1)]=_;have:szA a=a.length+((a.take (i+1)).map fun l=>szF l.f).sum+((a.drop (i+1)).map fun l=>szF l.f).sum:=by
    unfold szA
    conv=>lhs;rw[←List.take_append_drop (i+1) a,List.map_append,List.sum_append,List.take_append_drop]
    omega
   rw[this,Y2 h2 h0]
  ·refine Jrq (vs:=[.i (dec left (a.length+((a.take (i+1)).map fun l=>szF l.f).sum)),.i ((i+1:Nat):Int)]) ?_ ⟨h',rfl,h2⟩;rw[←wS h' (by omega)];rfl
 ·show [dI (dec left (a.length+((a.take i).map fun l=>szF l.f).sum))]=_;rw[tA1 h'];rfl
theorem JcO (a:List (List Jc)) (left:Int) (ha:Jon a) (h0:0≤left) (h1:left≤1048576):Ev L f_k4 [.s (Jf a),dI left] [dI (dec left (Ut a))]:=by
 refine JrA (vs:=[.l (Jf a),.i left]) L_k4 rfl ?_;have hlen:=QO a;have hl:=ha.1;have hw:i64.wrap (left-((Jf a).length:Int))=left-a.length:=by rw[hlen];exact w64 (by omega) (by omega)
 refine Jrx (left-(a.length:Int)<0) ?_ (fun h=>JqZ ?_) (fun h=>?_)
 ·show decide (i64.wrap (left-((Jf a).length:Int))<0)=_;rw[hw]
 ·show [dI (-1)]=_;unfold dec Ut;rw[if_neg (by omega)]
 have hal:a.length≤1048576:=by omega
 refine Jq0 a.length (fun i=>[.i (dec left (a.length+((a.take i).map szA).sum)),.i i]) (fun i=>¬dec left (a.length+((a.take i).map szA).sum)<0) rfl ?_ ?_ fun i hi hp=>?_
 ·show [V.i (i64.wrap (left-((Jf a).length:Int))),V.i 0]=_;rw[hw];simp only[List.take_zero,List.map_nil,List.sum_nil,Nat.add_zero];unfold dec;rw[if_pos (by omega)];rfl
 ·simp only[List.take_zero,List.map_nil,List.sum_nil,Nat.add_zero];unfold dec;rw[if_pos (by omega)];omega
 simp only[sC,sN];have hr:=JH (n:=a.length+((a.take i).map szA).sum) h0 h1;refine Jru i hlen rfl (fun h'=>?_) (fun h'=>Jrg (JqZ ?_))
 ·obtain⟨x,hx,hm⟩:=sA1 h';refine Jrd (vs:=[.l (Ji x)]) i (mA1 (f:=fun a=>D.s (Ji a)) hx) rfl rfl rfl rfl ?_;simp only[sC,sN];refine Jrw (Jeg x (dec left (a.length+((a.take i).map szA).sum)) (ha.2 x hm) (by omega) (by omega)) rfl rfl rfl ?_;simp only[sC,sN];have e:=Xz (m:=szA x) hp;rw[Nat.add_assoc,←JkS hx] at e;rw[e];refine Jrx (dec left (a.length+((a.take (i+1)).map szA).sum)<0) rfl (fun h2=>Jrg (JqZ ?_)) (fun h2=>?_)
  ·show [dI (-1)]=_;have:Ut a=a.length+((a.take (i+1)).map szA).sum+((a.drop (i+1)).map szA).sum:=by
    unfold Ut
    conv=>lhs;rw[←List.take_append_drop (i+1) a,List.map_append,List.sum_append,List.take_append_drop]
    omega
   rw[this,Y2 h2 h0]
  ·refine Jrq (vs:=[.i (dec left (a.length+((a.take (i+1)).map szA).sum)),.i ((i+1:Nat):Int)]) ?_ ⟨h',rfl,h2⟩;rw[←wS h' (by omega)];rfl
 ·show [dI (dec left (a.length+((a.take i).map szA).sum))]=_;rw[tA1 h'];rfl
theorem Jdr {α:Type} (f:α→Nat) {l:List α} {x:α} (h:x∈l):f x≤(l.map f).sum:=by
 induction l with
 | nil=>simp at h
 | cons y l ih =>
  simp only[JrM,List.sum_cons];rcases JrX.1 h with rfl | h
  ·omega
  ·have:=ih h;omega
theorem Jlz {a:List Jc} (h:szA a≤1048576):Ym a:=by
 unfold szA at h;refine⟨by omega,fun l hl=>?_⟩;have:szF l.f≤(a.map fun l=>szF l.f).sum:=Jdr (fun l:Jc=>szF l.f) hl;have e:szF l.f=l.f.c.length+l.f.d.length:=rfl;exact⟨by omega,by omega⟩
theorem Jjc {as:List (List Jc)} (h:Ut as≤1048576):Xb as:=by
 unfold Ut at h;refine⟨by omega,fun a ha=>Jlz ?_⟩;have:=Jdr szA ha;omega
theorem JnU :∀a:List Jc,wtA a≤4*szA a
 | []=>by simp[wtA]
 | l::a=>by
  have:=JnU a;simp only[wtA,szA,wtL,szF,JrM,List.sum_cons,List.length_cons] at *;omega
theorem JkG :∀as:List (List Jc),Yd as≤4*Ut as
 | []=>by simp[Yd]
 | a::as=>by
  have:=JkG as;have:=JnU a;simp only[Yd,Ut,JrM,List.sum_cons,List.length_cons] at *;omega
abbrev Kg:Ty:= .sl (.i .i64)
abbrev Jpp:Ty:= .st [Kg,Kg,.i .i64]
abbrev Jgz:Ty:= .st [.i .i64,.i .i64,.i .i64,Jpp]
theorem Y9 {ds:List D} (h:Us Kg ds) : ∃ l,ds=[.s (dL l)]∧l.length≤9223372036854775807:=by
 obtain⟨es,rfl,hl,he⟩:=h;obtain⟨l,rfl,_⟩:=Wu (f:=dI) (p:=fun _=>True) fun x hx=>by
  obtain⟨cs,⟨n,rfl⟩,rfl⟩:=he x hx;exact⟨n,trivial,rfl⟩
 exact⟨l,rfl,by rw[JrN] at hl;unfold maxLen at hl;omega⟩
theorem JpH {ds:List D} (h:Us Jpp ds) : ∃ f:Frm,ds=f.cells∧JkY f:=by
 obtain⟨_,_,rfl,h1,_,_,rfl,h2,_,_,rfl,⟨k,rfl⟩,rfl⟩:=h;obtain⟨c,rfl,hc⟩:=Y9 h1;obtain⟨d,rfl,hd⟩:=Y9 h2;exact⟨⟨c,d,k⟩,rfl,hc,hd⟩
theorem Jo6 {ds:List D} (h:Us Jgz ds) : ∃ l:Jc,ds=l.cells∧JkY l.f:=by
 obtain⟨_,_,rfl,⟨a,rfl⟩,_,_,rfl,⟨b,rfl⟩,_,_,rfl,⟨c,rfl⟩,_,_,rfl,h4,rfl⟩:=h;obtain⟨f,rfl,hf⟩:=JpH h4;exact⟨⟨a,b,c,f⟩,rfl,hf⟩
theorem Jqc {ds:List D} (h:Us (.sl Jgz) ds) : ∃ a,ds=[.s (Ji a)]∧Joz a:=by
 obtain⟨es,rfl,hl,he⟩:=h;obtain⟨l,rfl,hp⟩:=Wu (f:=Jc.g) (p:=fun l=>JkY l.f) fun x hx=>by
  obtain⟨cs,h1,rfl⟩:=he x hx;obtain⟨l,rfl,hf⟩:=Jo6 h1;exact⟨l,hf,rfl⟩
 exact⟨l,rfl,by rw[JrN] at hl;unfold maxLen at hl;omega,hp⟩
theorem JoP {ds:List D} (h:Us (.sl (.sl Jgz)) ds) : ∃ a,ds=[.s (Jf a)]∧Jon a:=by
 obtain⟨es,rfl,hl,he⟩:=h;obtain⟨l,rfl,hp⟩:=Wu (f:=fun a=>D.s (Ji a)) (p:=Joz) fun x hx=>by
  obtain⟨cs,h1,rfl⟩:=he x hx;obtain⟨a,rfl,ha⟩:=Jqc h1;exact⟨a,ha,rfl⟩
 exact⟨l,rfl,by rw[JrN] at hl;unfold maxLen at hl;omega,hp⟩
end Go.Proofs.YtgpjnnkmmplicabGreatDoor

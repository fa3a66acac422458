import Derived.Test.YtngcnclchcahlabGreatDoorPV
import Derived.Test.YtngcnclchcahlabGreatDoorTd
import Derived.Test.YtngcnclchcahlabGreatDoorPM
import Derived.Test.YtngcnclchcahlabGreatDoorPP
import Derived.Laws.Strings
import Derived.Lib.ItoaLen
set_option linter.unusedVariables false
set_option linter.unusedSimpArgs false
/- What a site does alone: over residual programs. -/
namespace Go.Proofs.YtngcnclchcahlabGreatDoor
open Go Go.Tm
open Go.IntKind (i64)
theorem Juw {l:List V} {Q:Oc→Prop} {r:R} {c:Nat} {N:Int} (x:List Int) (hx:x.length≤1000) (hN:1000≤N) (he:lst (Jo l) (.v c)=dL x) (h:WR L r l Q) :
  WR L (.i (.chk (.cmp .le (.len (.v c)) (.z N))) (.i (.head 1 (.v c)) (.i (.chk (.cmp .le (.len (.app .nil (.v c))) (.z N))) r))) l Q :=
 Juv (dL x) 1000 (by rw[dL1];omega) hN he (JuT (by rw[he];exact JW x) (Juv (dL x) 1000 (by rw[dL1];omega) hN he h))
theorem WW {pins:List Bool} {a:List Int} {i:Nat} {x:Int} {b:Bool} (hx:a[i]? = some x) (hb:pins[i]? = some b):(a.zip pins)[i]? = some (x,b):=by
 rw[List.getElem?_zip_eq_some];exact⟨hx,hb⟩
theorem Jid (as:List (List Jg)) (ps:List (List Int)) (pins:List Bool) (a:List Int) (hp:pins.length=3) (ha:a.length=3):Ev L f_k56 [.s (Jd as),.s (dLL ps),.s (dBl pins),.s (dL a)] [dB (Qi pins a)]:=by
 refine JuV (vs:=[.l (Jd as),.l (dLL ps),.l (dBl pins),.l (dL a)]) L_k56 rfl ?_;refine Juu a.length (fun i=>[.i i]) (fun i=>((a.zip pins).take i).all (fun q=>!(q.2 && !decide (q.1=0)))=true) rfl rfl rfl fun i hi hq=>?_;simp only[sC,sN];refine JuG i (dL1 a) rfl (fun h=>?_) (fun h=>?_)
 ·obtain⟨x,hx,_⟩:=sA1 h;obtain⟨b,hb,_⟩:=sA1 (show i<pins.length by omega);have hz:=WW hx hb;refine JuF i (mA1 (f:=dI) hx) rfl rfl rfl rfl ?_;refine JuL (decide (x=0)) rfl (fun h0=>?_) (fun h0=>?_)
  ·refine JuF i (mA1 (f:=dB) hb) rfl rfl rfl rfl ?_;refine JuU b rfl (fun hb1=>Juk (Jun ?_)) (fun hb1=>?_)
   ·show [dB false]=_;unfold Qi;rw[Yw hz (by simp only[h0,hb1];rfl)]
   ·refine JuC (vs:=[.i ((i+1:Nat):Int)]) ?_ ⟨h,rfl,Q4 hz hq (by simp only[hb1];rfl)⟩;show [V.i (i64.wrap ((i:Int)+1))]=_;rw[wS h (by omega)]
  ·refine JuC (vs:=[.i ((i+1:Nat):Int)]) ?_ ⟨h,rfl,Q4 hz hq (by simp only[h0];simp)⟩;show [V.i (i64.wrap ((i:Int)+1))]=_;rw[wS h (by omega)]
 ·refine Juk (Jun ?_);rw[Ju4 (by simp;omega)] at hq;unfold Qi;rw[hq];rfl
theorem WY (pins:List Bool) (a:List Int) (hp:pins.length=3) (ha:a.length=3):Ev L f_k1i [.s (dBl pins),.s (dL a)] [dB (Qi pins a)]:=by
 refine JuV (vs:=[.l (dBl pins),.l (dL a)]) L_k1i rfl ?_;refine Juu 3 (fun i=>[.i i]) (fun i=>((a.zip pins).take i).all (fun q=>!(q.2 && !decide (q.1=0)))=true) rfl rfl rfl fun i hi hq=>?_;simp only[sC,sN];refine JuD i 3 rfl (fun h=>?_) (fun h=>?_)
 ·obtain⟨x,hx,_⟩:=sA1 (show i<a.length by omega);obtain⟨b,hb,_⟩:=sA1 (show i<pins.length by omega);have hz:=WW hx hb;refine JuF i (mA1 (f:=dB) hb) rfl rfl rfl rfl ?_;refine JuU b rfl (fun hb1=>?_) (fun hb1=>?_)
  ·refine JuF i (mA1 (f:=dI) hx) rfl rfl rfl rfl ?_;refine JuL (decide (x=0)) rfl (fun h0=>Juk (Jun ?_)) (fun h0=>?_)
   ·show [dB false]=_;unfold Qi;rw[Yw hz (by simp only[h0,hb1];rfl)]
   ·refine JuC (vs:=[.i ((i+1:Nat):Int)]) ?_ ⟨h,rfl,Q4 hz hq (by simp only[h0];simp)⟩;show [V.i (i64.wrap ((i:Int)+1))]=_;rw[wS h (by omega)]
  ·refine JuC (vs:=[.i ((i+1:Nat):Int)]) ?_ ⟨h,rfl,Q4 hz hq (by simp only[hb1];rfl)⟩;show [V.i (i64.wrap ((i:Int)+1))]=_;rw[wS h (by omega)]
 ·refine Juk (Jun ?_);rw[Ju4 (by simp;omega)] at hq;unfold Qi;rw[hq];rfl
theorem Jj8 (as:List (List Jg)) (hf:Yr as):Ev L f_k4k [.s (Jd as)] [.s (Jd as),.s (dLL (Jb as)),.s (dBl (Jj as))]:=by
 refine JuV (vs:=[.l (Jd as)]) L_k4k rfl ?_;refine Jup (JmC as hf) rfl rfl rfl ?_;refine Jup (Jo0 as hf) rfl rfl rfl (Jun rfl)
theorem Wi {b g:List Int} {ps:List (List Int)} {s:Int} {a:List Int} (h:keeps b g ps s a=true):a.length=3:=(Zr (Xd h)).2.2.2.2.2.1.1
theorem JmM (as:List (List Jg)) (ps:List (List Int)) (pins:List Bool) (b g:List Int) (s:Int) (a:List Int) (hpi:pins.length=3) (hb:b.length≤2000000) (hg:g.length≤2000000) (hp:fitLL ps) (ha:a.length≤2000000) :
  Ev L f_k57 [.s (Jd as),.s (dLL ps),.s (dBl pins),.s (dL b),.s (dL g),dI s,.s (dL a)] [dB (keeps b g ps s a&&Qi pins a)]:=by
 refine JuV (vs:=[.l (Jd as),.l (dLL ps),.l (dBl pins),.l (dL b),.l (dL g),.i s,.l (dL a)]) L_k57 rfl ?_;refine Jup (JhF b g ps s a hb hg hp ha) rfl rfl rfl ?_;refine JuU (keeps b g ps s a) rfl (fun h=>?_) (fun h=>Jun ?_)
 ·refine Jup (Jid as ps pins a hpi (Wi h)) rfl rfl rfl (Jun ?_);rw[h];rfl
 ·rw[h];rfl
def JoM (b g:List Int) (ps:List (List Int)) (s:Int) (a w:List Int) (f:Frm):Bool:=(JV b g ps s a f w).2.2&&decide (0≤(JV b g ps s a f w).1)
structure FitB (b g:List Int) (ps:List (List Int)) (a w:List Int):Prop where
 b:b.length≤2000000
 g:g.length≤2000000
 p:fitLL ps
 a:a.length≤2000000
 w:w.length≤2000000
theorem JlY (b g:List Int) (ps:List (List Int)) (s:Int) (a w:List Int) (h:FitB b g ps a w) (r:Row) (hr:YZ r) :
  Ev L f_k26 ([.s (dL b),.s (dL g),.s (dLL ps),dI s,.s (dL a)]++r.cells++[.s (dL w)]) [dB (Ug b g ps s a w r)]:=by
 refine JuV (vs:=[.l (dL b),.l (dL g),.l (dLL ps),.i s,.l (dL a),.l (dF r.guards),.l (dF r.adds),.l (dF r.tells),.b r.stop,.l (dL w)]) L_k26 rfl ?_;have hgl:=hr.gl;refine Juu r.guards.length (fun i=>[.i i]) (fun i=>(r.guards.take i).all (JoM b g ps s a w)=true) rfl rfl rfl fun i hi hq=>?_;simp only[sC,sN];have hS:Ug b g ps s a w r=r.guards.all (JoM b g ps s a w):=rfl;rw[hS];refine JuG i (J8 r.guards) rfl (fun h'=>?_) (fun h'=>?_)
 ·obtain⟨f,hf,hm⟩:=sA1 h';refine JuF i (mA1 (f:=Frm.g) hf) rfl rfl rfl rfl ?_;refine Jup (JdF b g ps s a f w h.b h.g h.p h.a (hr.g f hm).fit h.w) rfl rfl rfl ?_;simp only[sC,sN];have hF:JoM b g ps s a w f=((JV b g ps s a f w).2.2&&decide (0≤(JV b g ps s a f w).1)):=rfl;generalize JV b g ps s a f w=B at *;refine JuL B.2.2 rfl (fun h1=>Juk (Jun ?_)) (fun h1=>?_)
  ·rw[Yw hf (by rw[hF,h1];rfl)];rfl
  refine JuB (B.1<0) rfl (fun h2=>Juk (Jun ?_)) (fun h2=>?_)
  ·rw[Yw hf (by rw[hF,h1];simp;omega)];rfl
  refine JuC (vs:=[.i ((i+1:Nat):Int)]) ?_ ⟨h',rfl,Q4 hf hq (by rw[hF,h1];simp;omega)⟩;show [V.i (i64.wrap ((i:Int)+1))]=_;rw[wS h' (by omega)]
 ·refine Juk (Jun ?_);rw[tA1 h'] at hq;rw[hq];rfl
/- What a site does alone: the tries themselves,over residual programs. -/
theorem Jhh {b w:List Int} (hb:JQ b=true) (hw:Q1 w=true) {fs:List Frm} (hf :∀f∈fs,Std 10000000 f) :∀f∈fs,Zy f b w:=fun f hm=>Zy.std (hf f hm) hb hw
theorem Jgk (fs:List Frm) (v w:List Int):(atL fs v w).length=fs.length:=by simp[atL]
theorem JdX {i:Nat} (h:i<3):[0,1,2][i]? = some i:=by
 match i,h with
 | 0,_ | 1,_ | 2,_=>rfl
theorem VK {as:List (List Jg)} (h:Qx as=true):(Jj as).length=3:=by rw[Jdi h,Jn2]
def JdV (O U:Nat→Bool) (b g:List Int) (ps:List (List Int)) (s:Int) (a w:List Int):Prop :=
 ∀i,O i=([0,1,2].take i).any (ovM b g ps s a w)∧U i=([0,1,2].take i).any (unM b g ps s a w)
theorem JdV.step {O U:Nat→Bool} {b g:List Int} {ps:List (List Int)} {s:Int} {a w:List Int} (h:JdV O U b g ps s a w) {i:Nat} (hi:i<3) :
  O (i+1)=(O i||(decide (10000<(JV b g ps s a (JC i) w).1)||decide ((JV b g ps s a (JC i) w).2.1 < -10000))) ∧
  U (i+1)=(U i||(decide ((JV b g ps s a (JC i) w).1 < -10000)||decide (10000<(JV b g ps s a (JC i) w).2.1))):=by
 rw[(h (i+1)).1,(h (i+1)).2,(h i).1,(h i).2,Jjl (JdX hi),Jjl (JdX hi)];exact⟨rfl,rfl⟩
theorem JdV.zero {O U:Nat→Bool} {b g:List Int} {ps:List (List Int)} {s:Int} {a w:List Int} (h:JdV O U b g ps s a w):O 0=false∧U 0=false:=⟨(h 0).1,(h 0).2⟩
theorem JdV.three {O U:Nat→Bool} {b g:List Int} {ps:List (List Int)} {s:Int} {a w:List Int} (h:JdV O U b g ps s a w):O 3=[0,1,2].any (ovM b g ps s a w)∧U 3=[0,1,2].any (unM b g ps s a w):=⟨(h 3).1,(h 3).2⟩
/- What a site does alone: the specification's tries,over residual programs. -/
theorem JeB {a b:List Int} (ha:a.length=3) (hb:b.length=3) (la:Lim 4000000000000000000 a) (lb:Lim 4000000000000000000 b):Ev L f_k22 [.s (dL a),.s (dL b)] [.s (dL (Qp a b))]:=by
 refine JuV (vs:=[.l (dL a),.l (dL b)]) L_k22 rfl ?_;refine Juu 3 (fun i=>[.l (dL ((Qp a b).take i)),.i i]) (fun _=>True) rfl rfl trivial fun i hi _=>?_;simp only[sC,sN];refine JuD i 3 rfl (fun h=>?_) (fun h=>?_)
 ·obtain⟨x,hx,hmx⟩:=sA1 (show i<a.length by omega);obtain⟨y,hy,hmy⟩:=sA1 (show i<b.length by omega);have hxl:=la x hmx;have hyl:=lb y hmy;have hs:(Qp a b)[i]? = some (x+y):=by unfold Qp;rw[List.getElem?_zipWith,hx,hy]
  refine JuF i (mA1 (f:=dI) hx) rfl rfl rfl rfl ?_;refine JuF i (mA1 (f:=dI) hy) rfl rfl rfl rfl ?_;refine JuR (dL ((Qp a b).take i)) 10 (by rw[dL1];simp;omega) (by omega) rfl ?_;refine JuC (vs:=[.l (dL ((Qp a b).take (i+1))),.i ((i+1:Nat):Int)]) ?_ ⟨h,rfl,trivial⟩;show [V.l (dL ((Qp a b).take i)++[dI (i64.wrap (x+y))]),V.i (i64.wrap ((i:Int)+1))]=_;rw[wS h (by omega),w64 (by omega) (by omega),XI,tS1 hs]
 ·refine Juk (Jun ?_);show [D.s (dL ((Qp a b).take i))]=_;rw[Ju4 (by rw[ZA (by omega)];omega)]
theorem JmY (b g:List Int) (pins:List Bool) (r:Row) (w:List Int) (hp:pins.length=3) (hr:YZ r) (hs:r.stop=false) (hb:JQ b=true) (hw:Q1 w=true) :
  Ev L f_k27 ([.s (dL b),.s (dL g),.s (dBl pins)]++r.cells++[.s (dL w)]) [.s (dL (if Qi pins (atL r.adds b w) then atL r.adds b w else [0,0,0])),dB (Qi pins (atL r.adds b w))]:=by
 refine JuV (vs:=[.l (dL b),.l (dL g),.l (dBl pins),.l (dF r.guards),.l (dF r.adds),.l (dF r.tells),.b r.stop,.l (dL w)]) L_k27 rfl ?_;have hal:=hr.ns hs;have hab:=Jhh hb hw hr.a;have hll:=Jgk r.adds b w;refine Juu 3 (fun i=>[.l (dL ((atL r.adds b w).take i)),.i i]) (fun i=>(((atL r.adds b w).zip pins).take i).all (fun q=>!(q.2 && !decide (q.1=0)))=true) rfl rfl rfl fun i hi hq=>?_;simp only[sC,sN];refine JuD i 3 rfl (fun h=>?_) (fun h=>?_)
 ·obtain⟨f,hf,hm⟩:=sA1 (show i<r.adds.length by omega);obtain⟨p,hpi,_⟩:=sA1 (show i<pins.length by omega);have hx:(atL r.adds b w)[i]? = some (atF f b w):=by simp[atL,hf]
  have hz:=WW hx hpi;have hat:=JgH (hab f hm);generalize atF f b w=x at *;generalize atL r.adds b w=xs at *;refine JuF i (mA1 (f:=Frm.g) hf) rfl rfl rfl rfl ?_;refine Jup hat rfl rfl rfl ?_;refine JuF i (mA1 (f:=dB) hpi) rfl rfl rfl rfl ?_;simp only[sC,sN];have hnx:[V.l (dL (xs.take i)++[dI x]),V.i (i64.wrap ((i:Int)+1))]=[V.l (dL (xs.take (i+1))),V.i ((i+1:Nat):Int)]:=by
   rw[wS h (by omega),XI,tS1 hx]
  refine JuU p rfl (fun hp1=>?_) (fun hp1=>?_)
  ·refine JuL (decide (x=0)) rfl (fun h0=>Juk (Jun ?_)) (fun h0=>?_)
   ·have hst:Qi pins xs=false:=by unfold Qi;rw[Yw hz (by simp only[h0,hp1];rfl)]
    rw[hst];rfl
   ·refine JuR (dL (xs.take i)) 10 (by rw[dL1];simp;omega) (by omega) rfl ?_;exact JuC hnx ⟨h,rfl,Q4 hz hq (by simp only[h0];simp)⟩
  ·refine JuR (dL (xs.take i)) 10 (by rw[dL1];simp;omega) (by omega) rfl ?_;exact JuC hnx ⟨h,rfl,Q4 hz hq (by simp only[hp1];rfl)⟩
 ·refine Juk (Jun ?_);rw[Ju4 (by simp;omega)] at hq;have hst:Qi pins (atL r.adds b w)=true:=by unfold Qi;rw[hq]
  rw[hst];show [D.s (dL ((atL r.adds b w).take i)),dB true]=_;rw[Ju4 (by omega)];rfl
theorem Jon:Q1 [0,0]=true:=by decide
theorem JkB {as:List (List Jg)} {b g:List Int} {s:Int} {a w:List Int} (h:Qx as=true) (hf:Y4 b g (Jb as) s a=true) (hw:Q1 w=true) (hb:b.length≤2000000) (hg:g.length≤2000000) (ha:a.length≤2000000) :
  Ev L f_k28 [.s (dL b),.s (dL g),.s (dLL (Jb as)),dI s,.s (dL a)] [dI (if [0,1,2].any (ovM b g (Jb as) s a w) then 2 else if [0,1,2].any (unM b g (Jb as) s a w) then 0 else 1)]:=by
 refine JuV (vs:=[.l (dL b),.l (dL g),.l (dLL (Jb as)),.i s,.l (dL a)]) L_k28 rfl ?_;have hps:fitLL (Jb as):=(Xi as).fitLL (by omega);obtain⟨O,U,hr⟩ : ∃ O U,JdV O U b g (Jb as) s a w:=⟨_,_,fun _=>⟨rfl,rfl⟩⟩;have hno :∀(i:Nat) (x:Nat),[0,1,2][i]? = some x→ovM b g (Jb as) s a w x=true→[0,1,2].any (ovM b g (Jb as) s a w)=true:=fun i x hx h=>List.any_eq_true.2 ⟨x,Ju7 hx,h⟩;refine Juu 3 (fun i=>[.i (if U i then 0 else 1),.i i]) (fun i=>O i=false) rfl (by rw[hr.zero.2];rfl) hr.zero.1 fun j hj hO=>?_;simp only[sC,sN];refine JuD j 3 rfl (fun hj3=>?_) (fun hj3=>?_)
 ·obtain⟨sO,sU⟩:=hr.step hj3;have hov:=hno j j (JdX hj3);have hovd:ovM b g (Jb as) s a w j=(decide (10000<(JV b g (Jb as) s a (JC j) w).1)||decide ((JV b g (Jb as) s a (JC j) w).2.1 < -10000)):=rfl;rw[hovd] at hov;have eP:=ZS (j:Int) (by omega) (by omega);have eB:=JdF b g (Jb as) s a (JC j) [0,0] hb hg hps ha Xk.fit (by decide);rw[Jdd h hf Jon hj3] at eB;rw[Jdd h hf hw hj3] at sO sU hov;rw[Int.toNat_natCast] at eP;refine Jup eP rfl rfl rfl ?_;refine Jup eB rfl rfl rfl ?_;simp only[sC,sN];generalize (Qp b a).getD j 0-JN g s=lo at *;generalize (Qp b a).getD j 0+JN g s=hi at *;generalize [0,1,2].any (ovM b g (Jb as) s a w)=OO at *;generalize [0,1,2].any (unM b g (Jb as) s a w)=UU at *;simp only at sO sU hov;have nx :∀(x:Int) {vs:List V},vs=[V.i x,V.i (i64.wrap ((j:Int)+1))]→(if U (j+1) then 0 else 1)=x→vs=[V.i (if U (j+1) then 0 else 1),V.i ((j+1:Nat):Int)]:=by
   rintro x _ rfl rfl;rw[wS hj3 (by omega)]
  refine JuK rfl ?_;refine JuB (10000<lo) rfl (fun hl=>Juk (Jun ?_)) (fun hl=>?_)
  ·rw[hov (by rw[decide_eq_true hl];rfl)];rfl
  refine JuB (hi < -10000) rfl (fun hh=>Juk (Jun ?_)) (fun hh=>?_)
  ·rw[hov (by rw[decide_eq_true hh,Bool.or_true])];rfl
  have hO':O (j+1)=false:=by rw[sO,hO,decide_eq_false hl,decide_eq_false hh];rfl
  refine JuN rfl ?_;refine JuB (lo < -10000) rfl (fun h1=>?_) (fun h1=>?_)
  ·exact JuC (nx 0 rfl (by rw[sU,decide_eq_true h1];simp)) ⟨hj3,rfl,hO'⟩
  refine JuB (10000<hi) rfl (fun h2=>?_) (fun h2=>?_)
  ·exact JuC (nx 0 rfl (by rw[sU,decide_eq_true h2];simp)) ⟨hj3,rfl,hO'⟩
  exact JuC (nx (if U j then 0 else 1) rfl (by rw[sU,decide_eq_false h1,decide_eq_false h2];simp)) ⟨hj3,rfl,hO'⟩
 ·have hj:j=3:=by omega
  subst hj;refine Juk (Jun ?_);rw[hr.three.1] at hO;show [dI (if U 3 then 0 else 1)]=_;rw[hO,hr.three.2];rfl
theorem Jo6 {as:List (List Jg)} {b g:List Int} {s:Int} {a w:List Int} {r:Row} (h:Qx as=true) (hf:Y4 b g (Jb as) s a=true) (hw:Q1 w=true) (hg:g.length≤2000000) (hfr:YZ r) :
  Ev L f_k29 ([.s (dL b),.s (dL g),.s (dLL (Jb as)),.s (dBl (Jj as)),dI s,.s (dL a)]++r.cells++[.s (dL w)]) (KM b g (Jb as) (Jj as) s a w r).ds:=by
 refine JuV (vs:=[.l (dL b),.l (dL g),.l (dLL (Jb as)),.l (dBl (Jj as)),.i s,.l (dL a),.l (dF r.guards),.l (dF r.adds),.l (dF r.tells),.b r.stop,.l (dL w)]) L_k29 rfl ?_;have hps:fitLL (Jb as):=(Xi as).fitLL (by omega);have hpi:=VK h;obtain⟨_,_,_,_,hb3,ha3,hgr⟩:=Zr hf;have hvb:JQ b=true:=Qd.2 hb3;unfold KM;refine JuU r.stop rfl (fun hst=>?_) (fun hst=>?_)
 ·rw[if_pos hst];exact Juw a (by omega) (by omega) rfl (Jun rfl)
 rw[if_neg (by rw[hst];simp)];have hal:=hfr.ns hst;have hla:=Jp7 (Jhh hvb hw hfr.a);have hll:=Jgk r.adds b w;refine Jup (JmY b g (Jj as) r w hpi hfr hst hvb hw) rfl rfl rfl ?_;simp only[sC,sN];generalize atL r.adds b w=x at *
 by_cases h5:Qi (Jj as) x=true
 case neg =>
  rw[if_neg h5,if_neg (show ¬(Qi (Jj as) x&&QT (Qp a x))=true by simp[h5])];refine Jup (JeB (b:=[0,0,0]) ha3.1 rfl (Lim.mono (m:=20000) ha3.2 (by omega)) (by intro y hy;simp at hy;omega)) rfl rfl rfl ?_;refine JuK (by show (!(Qi (Jj as) x))=true;simp[h5]) ?_;exact Juw a (by omega) (by omega) rfl (Jun rfl)
 rw[if_pos h5,h5];refine Jup (JeB ha3.1 (by omega) (Lim.mono (m:=20000) ha3.2 (by omega)) (hla.mono (by omega))) rfl rfl rfl ?_;simp only[sC,sN];refine JuN rfl ?_;have hnl:(Qp a x).length≤2000000:=by rw[ZA (by omega)];omega
 generalize Qp a x=now at *;refine Jup (Xx now 3 20000 hnl (by omega) (by omega)) rfl rfl rfl ?_;refine JuL (QT now) rfl (fun h6=>?_) (fun h6=>?_)
 ·rw[if_neg (by rw[h6];simp)];exact Juw a (by omega) (by omega) rfl (Jun rfl)
 rw[if_pos (by rw[h6];rfl)];simp only[sC,sN];refine Jup (JkB h (Jo8 hf h6) hw (by omega) hg hnl) rfl rfl rfl ?_;simp only[sC,sN];generalize [0,1,2].any (ovM b g (Jb as) s now w)=OO at *;generalize [0,1,2].any (unM b g (Jb as) s now w)=UU at *;cases OO with
 | true =>
  simp only[if_true];refine JuK rfl ?_;exact Juw a (by omega) (by omega) rfl (Jun rfl)
 | false =>
  cases UU with
  | true =>
   simp only[Jvg,if_false,if_true];refine JuN rfl (JuK rfl ?_);exact Juw a (by omega) (by omega) rfl (Jun rfl)
  | false =>
   simp only[Jvg,if_false];refine JuN rfl (JuN rfl ?_);refine Jup (ZQ b g (Jb as) s now (by omega) hg hps hnl) rfl rfl rfl ?_;refine JuL (keeps b g (Jb as) s now) rfl (fun h7=>?_) (fun h7=>?_)
   ·rw[if_neg (by rw[h7];simp)];exact Juw a (by omega) (by omega) rfl (Jun rfl)
   rw[if_pos h7];simp only[sC,sN];have htl:=hfr.tl;refine Juu r.tells.length (fun i=>[.l (dL (atL (r.tells.take i) b w)),.i i]) (fun _=>True) rfl rfl trivial fun i hi _=>?_;simp only[sC,sN];refine JuG i (J8 r.tells) rfl (fun h'=>?_) (fun h'=>?_)
   ·obtain⟨f,hf',hm⟩:=sA1 h';refine JuF i (mA1 (f:=Frm.g) hf') rfl rfl rfl rfl ?_;refine Jup (JgH (Jhh hvb hw hfr.t f hm)) rfl rfl rfl ?_;refine JuR (dL (atL (r.tells.take i) b w)) 10 (by rw[dL1,Jgk];simp;omega) (by omega) rfl ?_;refine JuC (vs:=[.l (dL (atL (r.tells.take (i+1)) b w)),.i ((i+1:Nat):Int)]) ?_ ⟨h',rfl,trivial⟩;show [V.l (dL (atL (r.tells.take i) b w)++[dI (atF f b w)]),V.i (i64.wrap ((i:Int)+1))]=_;rw[wS h' (by omega),XI,tS1 hf'];simp[atL]
   ·refine Juk (Jun ?_);show [dI 1,D.s (dL (atL (r.tells.take i) b w)),.s (dL now),dB true]=_;rw[tA1 h'];rfl
theorem Jo5 {as:List (List Jg)} {b g:List Int} {s:Int} {a:List Int} {k:Int} {w:List Int} (hf:Yr as) (hg:g.length≤2000000) (hfine:Y0 as b g s a k w=true) :
  Ev L f_k2a [.s (Jd as),.s (dLL (Jb as)),.s (dBl (Jj as)),.s (dL b),.s (dL g),dI s,.s (dL a),dI k,.s (dL w)] (JbO as b g s a k w).ds:=by
 refine JuV (vs:=[.l (Jd as),.l (dLL (Jb as)),.l (dBl (Jj as)),.l (dL b),.l (dL g),.i s,.l (dL a),.i k,.l (dL w)]) L_k2a rfl ?_;obtain⟨h1,hk,h3,hke,_⟩:=KH.1 hfine;obtain⟨hm,hkx⟩:=VE (as:=as) hk.1 hk.2;have hfi:=Xd hke;obtain⟨_,_,_,_,hb3,ha3,hgr⟩:=Zr hfi;have hM:JbO as b g s a k w=(match (Jv (as.getD k.toNat [])).find? (Ug b g (Jb as) s a w) with | some r=>KM b g (Jb as) (Jj as) s a w r | none=>⟨0,[],a,false⟩):=by unfold JbO;rw[if_pos hfine];cases (Jv (as.getD k.toNat [])).find? (Ug b g (Jb as) s a w) <;> rfl
 rw[hM];clear hM;have hps:fitLL (Jb as):=(Xi as).fitLL (by omega);have hw2:=(Xv.1 h3).1;have fitb:FitB b g (Jb as) a w:=⟨by omega,hg,hps,by omega,by omega⟩;refine Juz (ds:=Jd as) k rfl rfl rfl hk.1 (mA1 (f:=fun a=> .s (Jl a)) hkx) rfl ?_;refine Jup (Jf3 (as.getD k.toNat []) (hf.2 _ hm)) rfl rfl rfl ?_;have hrf :∀r∈Jv (as.getD k.toNat []),YZ r:=Yp;have hrl:=Uh (as.getD k.toNat []);generalize Jv (as.getD k.toNat [])=rs at *;generalize as.getD k.toNat []=act at *;simp only[sC,sN];refine Juu rs.length (fun i=>[.i i]) (fun i=>(rs.take i).any (Ug b g (Jb as) s a w)=false) rfl rfl rfl fun i hi hq=>?_;simp only[sC,sN];refine JuG i (Yc rs) rfl (fun h'=>?_) (fun h'=>?_)
 ·obtain⟨r,hr,hmr⟩:=sA1 h';refine JuP i (rdR hr) rfl rfl rfl rfl rfl rfl ?_;refine Jup (JlY b g (Jb as) s a w fitb r (hrf r hmr)) rfl rfl rfl ?_;simp only[sC,sN];refine JuU (Ug b g (Jb as) s a w r) rfl (fun hs=>?_) (fun hs=>?_)
  ·refine JuP i (rdR hr) rfl rfl rfl rfl rfl rfl ?_;refine Jup (Jo6 h1 hfi h3 hg (hrf r hmr)) rfl rfl rfl ?_;rw[JpI hr hs hq];exact Juk (Jun rfl)
  ·refine JuC (vs:=[.i ((i+1:Nat):Int)]) ?_ ⟨h',rfl,Jel hr hq hs⟩;show [V.i (i64.wrap ((i:Int)+1))]=_;rw[wS h' (by omega)]
 ·refine Juk ?_;rw[tA1 h'] at hq;rw[Jmp hq];exact Juw a (by omega) (by omega) rfl (Jun rfl)
/- What a site does alone: draws; who gives more can do more: over residual programs. -/
end Go.Proofs.YtngcnclchcahlabGreatDoor
/- What one site does alone is what would come of it over all: over residual programs. The sum here hands its list back. -/
namespace Go.Proofs.YtngcnclchcahlabGreatDoor
open Go Go.Tm
open Go.IntKind (i64)
theorem JhW {b g:List Int} {ps:List (List Int)} {s:Int} (hp:QW ps=true) (ht:Qw b g=true) (hs:0≤s∧s<g.length):keeps b g ps s [0,0,0]=true:=by
 have ht':=ht;simp only[Qw,Ju0,Jr,Jvd] at ht';unfold keeps;have g0:=ht'.2;obtain⟨x,hx,hm⟩:=sA1 (show s.toNat<g.length by omega);have e:g.getD s.toNat 0=x:=by simp[Ju3,hx]
 have:=g0 x hm;rw[ht,hp,e];simp only[Jvk,Ju0,Jr,Jvd];refine⟨⟨by omega,by decide⟩,fun p hpp=>?_⟩;have h3:p.length=3:=by
  simp only[QW,Jvd,Jq] at hp;have:=(hp p hpp).1;omega
 obtain⟨u,v,w,rfl⟩:=Jae h3;unfold Z1;rw[Jr];simp only[dot,Int.mul_zero,Int.add_zero];omega
/- Copies,comparisons,marks and sizes of acts: over residual programs. -/
end Go.Proofs.YtngcnclchcahlabGreatDoor
/- Marks,and what is held; sizes of acts: over residual programs. -/
namespace Go.Proofs.YtngcnclchcahlabGreatDoor
open Go Go.Tm
open Go.IntKind (i64)
/- The program's CatWrites,CatReads and CatPins answer as the reference's: over residual programs. -/
end Go.Proofs.YtngcnclchcahlabGreatDoor
/- The program's SitNew and ClkNew answer as the reference's: over residual programs. -/
namespace Go.Proofs.YtngcnclchcahlabGreatDoor
open Go Go.Tm
open Go.IntKind (i64)
structure Pln where
 n:Int
 acts:List (List Jg)
 gives:List Int
 start:List Int
 deriving DecidableEq
def Pln.cells (p:Pln):List D:=[dI p.n,.s (Jd p.acts),.s (dL p.gives),.s (dL p.start)]
def JY (p:Pln):Prop:=Yr p.acts∧p.gives.length≤2000000∧p.start.length≤2000000
def JJ (p:Pln):Bool:=inB p.n 1 4&&(Qx p.acts&&(JK 3 1000 p.start&&Qw p.start p.gives))
theorem Uk (p:Pln) (hp:JY p):Ev L f_ki p.cells [dB (JJ p)]:=by
 refine JuV (vs:=[.i p.n,.l (Jd p.acts),.l (dL p.gives),.l (dL p.start)]) L_ki rfl ?_;refine Jup (JT p.n 1 4) rfl rfl rfl ?_;refine JuU (inB p.n 1 4) rfl (fun h1=>?_) (fun h1=>Jun (by show [dB false]=_;simp[JJ,h1]));refine Jup (Jok p.acts hp.1) rfl rfl rfl ?_;refine JuU (Qx p.acts) rfl (fun h2=>?_) (fun h2=>Jun (by show [dB false]=_;simp[JJ,h2]));refine Jup (Xx p.start 3 1000 hp.2.2 (by omega) (by omega)) rfl rfl rfl ?_;refine JuU (JK 3 1000 p.start) rfl (fun h3=>?_) (fun h3=>Jun (by show [dB false]=_;simp[JJ,h3]));refine Jup (Jbc p.start p.gives hp.2.2 hp.2.1) rfl rfl rfl (Jun ?_);show [dB (Qw p.start p.gives)]=_;simp[JJ,h1,h2,h3]
theorem Jd2 (p:Pln) (b:List Int):Ev L f_k3l (p.cells++[.s (dL b)]) [.s (dL b),.s (dL p.gives)] :=
 JuV (vs:=[.i p.n,.l (Jd p.acts),.l (dL p.gives),.l (dL p.start),.l (dL b)]) L_k3l rfl (Jun rfl)
theorem JfG (p:Pln) (hp:JY p):Ev L f_k3p p.cells [dB (JJ p)]:=by
 refine JuV (vs:=[.i p.n,.l (Jd p.acts),.l (dL p.gives),.l (dL p.start)]) L_k3p rfl ?_;refine Jup (YL p.n 1 4) rfl rfl rfl ?_;refine JuU (inB p.n 1 4) rfl (fun h1=>?_) (fun h1=>Jun (by show [dB false]=_;simp[JJ,h1]));refine Jup (Jbr p.acts hp.1) rfl rfl rfl ?_;refine JuU (Qx p.acts) rfl (fun h2=>?_) (fun h2=>Jun (by show [dB false]=_;simp[JJ,h2]));refine Jup (XQ p.start 3 1000 hp.2.2 (by omega) (by omega)) rfl rfl rfl ?_;refine JuU (JK 3 1000 p.start) rfl (fun h3=>?_) (fun h3=>Jun (by show [dB false]=_;simp[JJ,h3]));refine Jup (Jd2 p p.start) rfl rfl rfl ?_;refine Jup (Ji1 p.start p.gives hp.2.2 hp.2.1) rfl rfl rfl (Jun ?_);show [dB (Qw p.start p.gives)]=_;simp[JJ,h1,h2,h3]
structure Sit where
 up:Bool
 frozen:Bool
 round:Int
 base:List Int
 added:List Int
 done:List Don
 deriving DecidableEq
def Sit.cells (s:Sit):List D:=[dB s.up,dB s.frozen,dI s.round,.s (dL s.base),.s (dL s.added),.s (dDs s.done)]
def KN (s:Sit):Prop:=s.base.length≤2000000∧s.added.length≤2000000∧s.done.length≤2000000∧∀d∈s.done,d.tells.length≤2000000
def Wr:Don:=⟨0,0,[]⟩
def Z4 (p:Pln):Sit:=if JJ p then ⟨true,false,0,p.start,[0,0,0],List.replicate p.n.toNat Wr⟩ else ⟨false,false,0,[],[],[]⟩
theorem JZ {p:Pln} (h:JJ p=true):1≤p.n∧p.n≤4∧p.start.length=3∧Qw p.start p.gives=true:=by
 simp only[JJ,Ju0,Jr,Jq] at h;obtain⟨⟨h1,h2⟩,_,⟨h3,_⟩,h4⟩:=h;exact⟨h1,h2,by omega,h4⟩
theorem Ji7 (p:Pln) (h0:0≤p.n) (h1:p.n≤4):Ev L f_kl p.cells [.s (dDs (List.replicate p.n.toNat Wr))]:=by
 refine JuV (vs:=[.i p.n,.l (Jd p.acts),.l (dL p.gives),.l (dL p.start)]) L_kl rfl ?_;refine Juu p.n.toNat (fun i=>[.l (dDs (List.replicate i Wr)),.i i]) (fun _=>True) rfl rfl trivial fun i hi _=>?_;simp only[sC,sN];have hl:(dDs (List.replicate i Wr)).length=i:=by simp[dDs]
 refine JuD i p.n.toNat (by show decide ((i:Int)<p.n)=_;rw[show ((p.n.toNat:Nat):Int)=p.n by omega]) (fun h=>?_) (fun h=>Juk (Jun ?_))
 ·refine JuR (dDs (List.replicate i Wr)) 4 (by omega) (by omega) rfl ?_;refine JuC (vs:=[.l (dDs (List.replicate (i+1) Wr)),.i ((i+1:Nat):Int)]) ?_ ⟨h,rfl,trivial⟩;show [V.l (dDs (List.replicate i Wr)++[Don.g Wr]),V.i (i64.wrap ((i:Int)+1))]=_;rw[wS h (by omega),List.replicate_succ'];simp[dDs]
 ·show [D.s (dDs (List.replicate i Wr))]=_;rw[show i=p.n.toNat by omega]
theorem Jj3 (p:Pln) (hp:JY p):Ev L f_ko p.cells (Z4 p).cells:=by
 refine JuV (vs:=[.i p.n,.l (Jd p.acts),.l (dL p.gives),.l (dL p.start)]) L_ko rfl ?_;refine Jup (Uk p hp) rfl rfl rfl ?_;refine JuL (JJ p) rfl (fun h=>Jun ?_) (fun h=>?_)
 ·show _=(Z4 p).cells;unfold Z4;rw[if_neg (by simp[h])];rfl
 obtain⟨h1,h2,h3,_⟩:=JZ h;refine Juv (dL p.start) 2000000 (by rw[dL1];exact hp.2.2) (by omega) rfl ?_;refine JuT (JW p.start) ?_;refine Juv (dL p.start) 2000000 (by rw[dL1];exact hp.2.2) (by omega) rfl ?_;refine Jup (Ji7 p (by omega) h2) rfl rfl rfl (Jun ?_);show _=(Z4 p).cells;unfold Z4;rw[if_pos h];rfl
/- The program's ClkNew answers as the reference's: over residual programs. -/
structure Clk where
 up:Bool
 round:Int
 base:List Int
 done:List Don
 wants:List Cal
 got:List Got
 deriving DecidableEq
def Clk.cells (s:Clk):List D:=[dB s.up,dI s.round,.s (dL s.base),.s (dDs s.done),.s (dCs s.wants),.s (dGs s.got)]
structure QP (s:Clk):Prop where
 b:s.base.length≤2000000
 d:s.done.length≤2000000
 dt :∀d∈s.done,d.tells.length≤2000000
 c:s.wants.length≤2000000
 ct :∀d∈s.wants,d.args.length≤2000000
 g:s.got.length≤2000000
 gt :∀d∈s.got,d.added.length≤2000000∧d.seqs.length≤2000000
def QQ:Got:=⟨false,[],[]⟩
def X5 (p:Pln):Clk:=if JJ p then ⟨true,0,p.start,List.replicate p.n.toNat Wr,[],List.replicate p.gives.length QQ⟩ else ⟨false,0,[],[],[],[]⟩
theorem Jbe (p:Pln) (hg:p.gives.length≤2000000):Ev L f_km p.cells [.s (dGs (List.replicate p.gives.length QQ))]:=by
 refine JuV (vs:=[.i p.n,.l (Jd p.acts),.l (dL p.gives),.l (dL p.start)]) L_km rfl ?_;refine Juu p.gives.length (fun i=>[.l (dGs (List.replicate i QQ)),.i i]) (fun _=>True) rfl rfl trivial fun i hi _=>?_;simp only[sC,sN];have hl:(dGs (List.replicate i QQ)).length=i:=by simp[dGs]
 refine JuG i (dL1 p.gives) rfl (fun h=>?_) (fun h=>Juk (Jun ?_))
 ·refine JuR (dGs (List.replicate i QQ)) 2000000 (by omega) (by omega) rfl ?_;refine JuC (vs:=[.l (dGs (List.replicate (i+1) QQ)),.i ((i+1:Nat):Int)]) ?_ ⟨h,rfl,trivial⟩;show [V.l (dGs (List.replicate i QQ)++[Got.g QQ]),V.i (i64.wrap ((i:Int)+1))]=_;rw[wS h (by omega),List.replicate_succ'];simp[dGs]
 ·show [D.s (dGs (List.replicate i QQ))]=_;rw[show i=p.gives.length by omega]
theorem JjF (p:Pln) (hp:JY p):Ev L f_kn p.cells (X5 p).cells:=by
 refine JuV (vs:=[.i p.n,.l (Jd p.acts),.l (dL p.gives),.l (dL p.start)]) L_kn rfl ?_;refine Jup (Uk p hp) rfl rfl rfl ?_;refine JuL (JJ p) rfl (fun h=>Jun ?_) (fun h=>?_)
 ·show _=(X5 p).cells;unfold X5;rw[if_neg (by simp[h])];rfl
 obtain⟨h1,h2,h3,_⟩:=JZ h;refine Juv (dL p.start) 2000000 (by rw[dL1];exact hp.2.2) (by omega) rfl ?_;refine JuT (JW p.start) ?_;refine Juv (dL p.start) 2000000 (by rw[dL1];exact hp.2.2) (by omega) rfl ?_;refine Jup (Ji7 p (by omega) h2) rfl rfl rfl ?_;refine Jup (Jbe p hp.2.1) rfl rfl rfl (Jun ?_);show _=(X5 p).cells;unfold X5;rw[if_pos h];rfl
/- The program's LocTry answers as the reference's: over residual programs. -/
theorem JiK (as:List (List Jg)) (b g:List Int) (s:Int) (a:List Int) (k:Int) (w:List Int) (ha:a.length≤2000000):(JbO as b g s a k w).tells.length≤2000000∧(JbO as b g s a k w).adds.length≤2000000:=by
 have key :∀r,r∈Jv (as.getD k.toNat [])→(KM b g (Jb as) (Jj as) s a w r).tells.length≤2000000∧(KM b g (Jb as) (Jj as) s a w r).adds.length≤2000000:=by
  intro r hr;have hf:=Yp r hr;have hs:(Qp a (atL r.adds b w)).length≤a.length:=by unfold Qp;rw[List.length_zipWith];omega
  have ht:(atL r.tells b w).length=r.tells.length:=by simp[atL]
  have htl:=hf.tl;unfold KM
  repeat' split
  all_goals first
   | exact⟨by simp,ha⟩
   | exact⟨by simp only[ht];omega,by simp only;omega⟩
 unfold JbO;split
 ·split
  ·rename_i r hr;exact key r (List.mem_of_find?_eq_some hr)
  ·exact⟨by simp,ha⟩
 ·exact⟨by simp,by simp⟩
/- Marks,and what is held,of plans,sites and clients: over residual programs. Printed by wip/tools/pzl.py. -/
def Sit.w (s:Sit):Nat:=3+s.base.length+s.added.length+wts Don.w s.done
def Sit.g (s:Sit):D:= .g s.cells
structure Con where
 seq:Int
 busy:Bool
 call:Cal
 code:Int
 tells:List Int
 deriving DecidableEq
def Con.cells (s:Con):List D:=[dI s.seq,dB s.busy,dI s.call.client,dI s.call.seq,dI s.call.act,.s (dL s.call.args),dI s.code,.s (dL s.tells)]
def Con.g (s:Con):D:= .g s.cells
def JjJ (s:Con):Prop:=s.call.args.length≤2000000∧s.tells.length≤2000000
def Con.w (s:Con):Nat:=6+s.call.args.length+s.tells.length
/- The program's WldNew answers as the reference's: over residual programs. -/
end Go.Proofs.YtngcnclchcahlabGreatDoor
/- The program's WldNew answers as the reference's: the functions,and the law: over residual programs. -/
namespace Go.Proofs.YtngcnclchcahlabGreatDoor
open Go Go.Tm
open Go.IntKind (i64)
theorem JrP (l:List Jg) (x:Jg):Jl l++[x.g]=Jl (l++[x]):=by simp[Jl]
theorem JqQ (l:List (List Jg)) (x:List Jg):Jd l++[.s (Jl x)]=Jd (l++[x]):=by simp[Jd]
theorem JgO (as:List (List Jg)) (hf:Yr as):Ev L f_kj [.s (Jd as)] [.s (Jd as)]:=by
 refine JuV (vs:=[.l (Jd as)]) L_kj rfl ?_;have hl:=hf.1;refine Juu as.length (fun i=>[.l (Jd (as.take i)),.i i]) (fun _=>True) rfl rfl trivial fun i hi _=>?_;simp only[sC,sN];refine JuG i (JR as) rfl (fun h=>?_) (fun h=>Juk (Jun ?_))
 ·obtain⟨a,ha,hm⟩:=sA1 h;obtain⟨hal,hax⟩:=hf.2 a hm;refine Juu a.length (fun j=>[.l (Jl (a.take j)),.i j]) (fun _=>True) rfl rfl trivial fun j hj _=>?_;simp only[sC,sN];refine JuF (vs:=[.l (Jl a)]) i (mA1 (f:=fun a=>D.s (Jl a)) ha) rfl rfl rfl rfl ?_;simp only[sC,sN];refine JuG j (JG a) rfl (fun h'=>?_) (fun h'=>?_)
  ·obtain⟨x,hx,hmx⟩:=sA1 h';have hxf:=hax x hmx;refine JuF (vs:=[.l (Jl a)]) i (mA1 (f:=fun a=>D.s (Jl a)) ha) rfl rfl rfl rfl ?_;simp only[sC,sN];refine JuF (vs:=[.i x.kind,.i x.pot,.i x.skip,.l (dL x.f.c),.l (dL x.f.d),.i x.f.k]) j (mA1 (f:=Jg.g) hx) rfl rfl rfl rfl ?_;simp only[sC,sN];refine Juv (dL x.f.c) 2000000 (by rw[dL1];exact hxf.1) (by omega) rfl ?_;refine JuT (JW x.f.c) ?_;refine Juv (dL x.f.c) 2000000 (by rw[dL1];exact hxf.1) (by omega) rfl ?_;refine Juv (dL x.f.d) 2000000 (by rw[dL1];exact hxf.2) (by omega) rfl ?_;refine JuT (JW x.f.d) ?_;refine Juv (dL x.f.d) 2000000 (by rw[dL1];exact hxf.2) (by omega) rfl ?_;refine JuR (Jl (a.take j)) 2000000 (by rw[JG];simp;omega) (by omega) rfl ?_;refine JuC (vs:=[.l (Jl (a.take (j+1))),.i ((j+1:Nat):Int)]) ?_ ⟨h',rfl,trivial⟩;show [V.l (Jl (a.take j)++[x.g]),V.i (i64.wrap ((j:Int)+1))]=_;rw[wS h' (by omega),JrP,tS1 hx]
  ·refine Juk ?_;rw[tA1 h'];refine JuR (Jd (as.take i)) 2000000 (by rw[JR];simp;omega) (by omega) rfl ?_;refine JuC (vs:=[.l (Jd (as.take (i+1))),.i ((i+1:Nat):Int)]) ?_ ⟨h,rfl,trivial⟩;show [V.l (Jd (as.take i)++[.s (Jl a)]),V.i (i64.wrap ((i:Int)+1))]=_;rw[wS h (by omega),JqQ,tS1 ha]
 ·show [D.s (Jd (as.take i))]=_;rw[tA1 h]
theorem Jh0 (p:Pln) (hp:JY p):Ev L f_kk p.cells p.cells:=by
 refine JuV (vs:=[.i p.n,.l (Jd p.acts),.l (dL p.gives),.l (dL p.start)]) L_kk rfl ?_;refine Jup (JgO p.acts hp.1) rfl rfl rfl ?_;refine Juv (dL p.gives) 2000000 (by rw[dL1];exact hp.2.1) (by omega) rfl ?_;refine JuT (JW p.gives) ?_;refine Juv (dL p.gives) 2000000 (by rw[dL1];exact hp.2.1) (by omega) rfl ?_;refine Juv (dL p.start) 2000000 (by rw[dL1];exact hp.2.2) (by omega) rfl ?_;refine JuT (JW p.start) ?_;refine Juv (dL p.start) 2000000 (by rw[dL1];exact hp.2.2) (by omega) rfl ?_;exact Jun rfl
structure Wld where
 p:Pln
 sites:List Sit
 c:Clk
 cons:List Con
def Wld.cells (w:Wld):List D:=[dI w.p.n,.s (Jd w.p.acts),.s (dL w.p.gives),.s (dL w.p.start),.s (w.sites.map Sit.g),dB w.c.up,dI w.c.round,.s (dL w.c.base),.s (dDs w.c.done),.s (dCs w.c.wants),.s (dGs w.c.got),.s (w.cons.map Con.g),.s [],.s []]
def Jgt:Con:=⟨0,false,⟨0,0,0,[]⟩,0,[]⟩
def W7 (p:Pln):Wld:=if JJ p then ⟨p,List.replicate p.gives.length (Z4 p),X5 p,List.replicate p.n.toNat Jgt⟩ else ⟨⟨0,[],[],[]⟩,[],X5 p,[]⟩
theorem Jkn (p:Pln) (hp:JY p):Ev L f_kp p.cells (W7 p).cells:=by
 refine JuV (vs:=[.i p.n,.l (Jd p.acts),.l (dL p.gives),.l (dL p.start)]) L_kp rfl ?_;refine Jup (Uk p hp) rfl rfl rfl ?_;refine JuL (JJ p) rfl (fun h=>Jun ?_) (fun h=>?_)
 ·show _=(W7 p).cells;unfold W7 X5;rw[if_neg (by simp[h]),if_neg (by simp[h])];rfl
 obtain⟨h1,h2,h3,_⟩:=JZ h;have hW:W7 p=⟨p,List.replicate p.gives.length (Z4 p),X5 p,List.replicate p.n.toNat Jgt⟩:=by unfold W7;rw[if_pos h]
 rw[hW];have hsn:=Jj3 p hp;have hcn:=JjF p hp;have hg:=hp.2.1;generalize Z4 p=s at *;generalize X5 p=c at *;refine Jup (vs:=[.i p.n,.l (Jd p.acts),.l (dL p.gives),.l (dL p.start)]) (Jh0 p hp) rfl rfl rfl ?_;simp only[sC,sN];refine Jup (vs:=[.b c.up,.i c.round,.l (dL c.base),.l (dDs c.done),.l (dCs c.wants),.l (dGs c.got)]) hcn rfl rfl rfl ?_;simp only[sC,sN];refine Juu p.gives.length (fun i=>[.l ((List.replicate i s).map Sit.g),.i i]) (fun _=>True) rfl rfl trivial fun i hi _=>?_;simp only[sC,sN];refine JuG i (dL1 p.gives) rfl (fun h=>?_) (fun h'=>Juk ?_)
 ·refine Jup (vs:=[.b s.up,.b s.frozen,.i s.round,.l (dL s.base),.l (dL s.added),.l (dDs s.done)]) hsn rfl rfl rfl ?_;simp only[sC,sN];refine JuR ((List.replicate i s).map Sit.g) 2000000 (by simp;omega) (by omega) rfl ?_;refine JuC (vs:=[.l ((List.replicate (i+1) s).map Sit.g),.i ((i+1:Nat):Int)]) ?_ ⟨h,rfl,trivial⟩;show [V.l ((List.replicate i s).map Sit.g++[Sit.g s]),V.i (i64.wrap ((i:Int)+1))]=_;rw[wS h (by omega),List.replicate_succ'];simp
 have hil:i=p.gives.length:=by omega
 subst hil;refine Juu p.n.toNat (fun i=>[.l ((List.replicate i Jgt).map Con.g),.i i]) (fun _=>True) rfl rfl trivial fun j hj _=>?_;simp only[sC,sN];refine JuD j p.n.toNat (by show decide ((j:Int)<p.n)=_;rw[show ((p.n.toNat:Nat):Int)=p.n by omega]) (fun h=>?_) (fun h'=>Juk (Jun ?_))
 ·refine JuR ((List.replicate j Jgt).map Con.g) 4 (by simp;omega) (by omega) rfl ?_;refine JuC (vs:=[.l ((List.replicate (j+1) Jgt).map Con.g),.i ((j+1:Nat):Int)]) ?_ ⟨h,rfl,trivial⟩;show [V.l ((List.replicate j Jgt).map Con.g++[Con.g Jgt]),V.i (i64.wrap ((j:Int)+1))]=_;rw[wS h (by omega),List.replicate_succ'];simp
 ·have hjl:j=p.n.toNat:=by omega
  subst hjl;rfl
/- Results as texts: which of them are ok. -/
def JO (c:Int) (t:List Int):Bool:=inB c 1 3&&(decide (t.length≤6)&&((decide (c=1)||t.isEmpty)&&JK t.length 999999999999 t))
theorem XP {c:Int} {t:List Int}:JO c t=true↔(1≤c∧c≤3)∧t.length≤6∧(c=1∨t=[])∧Lim 999999999999 t:=by
 unfold JO inB;simp only[Ju0,Bool.or_eq_true,decide_eq_true_eq,List.isEmpty_iff,Jq];exact⟨fun h=>⟨h.1,h.2.1,h.2.2.1,h.2.2.2.2⟩,fun h=>⟨h.1,h.2.1,h.2.2.1,trivial,h.2.2.2⟩⟩
def Qv:List (List UInt8):=[[],[100,111,110,101],[115,116,111,112,112,101,100],[111,118,101,114]]
def K1 (c:Int) (t:List Int):List UInt8:=if JO c t then Qv.getD c.toNat []++Qy t else []
theorem JqP (a b:List UInt8):(⟨a.toArray⟩:ByteArray)++⟨b.toArray⟩=⟨(a++b).toArray⟩:=by
 apply ByteArray.ext;simp
theorem JcB {a b:List UInt8} (h:a.length+b.length≤1000000):Ki .cat [Q7 a,Q7 b]=some (Q7 (a++b)):=by
 show (if(⟨a.toArray⟩:ByteArray).size+(⟨b.toArray⟩:ByteArray).size≤2 ^ 62 then some (D.v (.string ((⟨a.toArray⟩:ByteArray)++⟨b.toArray⟩))) else none)=_;rw[if_pos,JqP]
 ·rfl
 show a.toArray.size+b.toArray.size≤2 ^ 62;simp only[List.size_toArray];omega
theorem Jly (a b:List UInt8):Ki .seq [Q7 a,Q7 b]=some (dB (a == b)):=by
 show some (D.v (.bool ((⟨a.toArray⟩:ByteArray).toList == (⟨b.toArray⟩:ByteArray).toList)))=_;rw[ByteArray.toList_mk,ByteArray.toList_mk]
theorem JdY (t:List Int) (hl:Lim 999999999999 t):(Qy t).length≤22*t.length:=by
 induction t with
 | nil=>simp[Qy]
 | cons n l ih =>
  have h1:=hl n (by simp);have h2:=Lib.itoa_length_le n (by omega) (by omega);have h3:=ih fun m hm=>hl m (by simp[hm]);simp only[Qy,List.flatMap_cons,Ju6,List.length_cons] at h3 ⊢;omega
theorem JgD {c:Int} (h:inB c 1 3=true):Qv[c.toNat]? = some (Qv.getD c.toNat [])∧Qv.getD c.toNat []≠[]∧(Qv.getD c.toNat []).length≤7:=by
 unfold inB at h;simp only[Ju0,decide_eq_true_eq] at h;rcases (show c=1∨c=2∨c=3 by omega) with rfl | rfl | rfl <;> exact⟨rfl,by decide,by decide⟩
theorem JdI (c:Int) (t:List Int):(K1 c t == []) = !JO c t:=by
 unfold K1;split
 ·rename_i h;have hin:inB c 1 3=true:=by unfold JO at h;simp only[Ju0] at h;exact h.1
  have:=(JgD hin).2.1;rw[h];have h2:Qv.getD c.toNat []++Qy t≠[]:=fun e=>this (List.append_eq_nil_iff.1 e).1;generalize Qv.getD c.toNat []++Qy t=l at h2;cases l with
  | nil=>exact absurd rfl h2
  | cons x l=>rfl
 ·rename_i h;simp[h]
theorem JfL (t:List Int) (h6:t.length≤6) (hl:Lim 999999999999 t):Ev L f_k4p [.s (dL t)] [Q7 (Qy t)]:=by
 refine JuX L_k4p ?_;show (if(dL t).length≤4096 then((dL t).mapM Jcw).map fun l=>[Q7 (Qy l)] else none)=_;have e:(dL t).mapM Jcw=some t:=Jcp fun n hn=>by have:=hl n hn;omega
 rw[if_pos (by rw[dL1];omega),e];rfl
theorem Jaw:Ev L f_k4o [] [.s (Qv.map Q7)] :=
 JuV (vs:=[]) L_k4o rfl (Jun rfl)
theorem JhN (c:Int) (t:List Int) (ht:t.length≤2000000):Ev L f_k4q [dI c,.s (dL t)] [Q7 (K1 c t)]:=by
 refine JuV (vs:=[.i c,.l (dL t)]) L_k4q rfl ?_;have no:JO c t=false→([Q7 []]:List D)=[Q7 (K1 c t)]:=fun h=>by simp[K1,h]
 refine Jup (YL c 1 3) rfl rfl rfl ?_;refine JuL (inB c 1 3) rfl (fun h=>Jun (no (by simp[JO,h]))) (fun h1=>?_);refine JuB (6<((dL t).length:Int)) rfl (fun h=>Jun (no ?_)) (fun h2=>?_)
 ·rw[dL1] at h;simp only[JO,show ¬t.length≤6 by omega,decide_false,Bool.false_and,Bool.and_false]
 rw[dL1] at h2;obtain⟨w1,_,w3⟩:=JgD h1;have hidx:(Qv.map Q7)[c.toNat]? = some (Q7 (Qv.getD c.toNat [])):=by rw[Jvl,w1];rfl
 have hc0:0≤c:=by unfold inB at h1;simp only[Ju0,decide_eq_true_eq] at h1;omega
 have hc4:c<((Qv.map Q7).length:Int):=by unfold inB at h1;simp only[Ju0,decide_eq_true_eq] at h1;show c<4;omega
 have hwn:=XQ t t.length 999999999999 ht (by omega) (by omega);refine JuL (decide (c=1)) rfl (fun h3=>?_) (fun h3=>?_)
 ·refine JuB (0<((dL t).length:Int)) rfl (fun h=>Jun (no ?_)) (fun h4=>?_)
  ·rw[dL1] at h;have:t.isEmpty=false:=by cases t with
    | nil=>simp at h
    | cons x t=>rfl
   simp only[JO,h3,this,Bool.or_false,Bool.false_and,Bool.and_false]
  ·rw[dL1] at h4;have h4:t=[]:=List.length_eq_zero_iff.1 (by omega);refine Jup hwn rfl (by show [D.s (dL t),dI ((dL t).length:Int),dI 999999999999]=_;rw[dL1]) rfl ?_;refine JuL (JK t.length 999999999999 t) rfl (fun h=>Jun (no (by simp only[JO,h,Bool.and_false]))) (fun h5=>?_);have hl:=(Jq.1 h5).2;have hj:=JdY t hl;have hok:JO c t=true:=by simp only[JO,h1,h5,h4,List.length_nil,List.isEmpty_nil,Bool.or_true,Jvk];simp[JK]
   have e:Q7 (K1 c t)=Q7 (Qv.getD c.toNat []++Qy t):=by simp only[K1,hok,if_true]
   rw[e];refine Jup Jaw rfl rfl rfl ?_;refine JuE (0≤c) rfl hc0 (JuE (c<((Qv.map Q7).length:Int)) rfl hc4 ?_);refine Juz (ds:=Qv.map Q7) c rfl rfl rfl hc0 hidx rfl ?_;refine Jup (JfL t (by omega) hl) rfl rfl rfl ?_;refine Jut rfl (JcB (by omega)) rfl (Jun rfl)
 ·refine Jup hwn rfl (by show [D.s (dL t),dI ((dL t).length:Int),dI 999999999999]=_;rw[dL1]) rfl ?_;refine JuL (JK t.length 999999999999 t) rfl (fun h=>Jun (no (by simp only[JO,h,Bool.and_false]))) (fun h5=>?_);have hl:=(Jq.1 h5).2;have hj:=JdY t hl;have hok:JO c t=true:=by simp only[JO,h1,h5,h3,Bool.true_or,Jvk,Bool.and_true];simp;omega
  have e:Q7 (K1 c t)=Q7 (Qv.getD c.toNat []++Qy t):=by simp only[K1,hok,if_true]
  rw[e];refine Jup Jaw rfl rfl rfl ?_;refine JuE (0≤c) rfl hc0 (JuE (c<((Qv.map Q7).length:Int)) rfl hc4 ?_);refine Juz (ds:=Qv.map Q7) c rfl rfl rfl hc0 hidx rfl ?_;refine Jup (JfL t (by omega) hl) rfl rfl rfl ?_;refine Jut rfl (JcB (by omega)) rfl (Jun rfl)
theorem Jl1 (c:Int) (t:List Int) (ht:t.length≤2000000):Ev L f_k4r [dI c,.s (dL t)] [dB (JO c t)]:=by
 refine JuV (vs:=[.i c,.l (dL t)]) L_k4r rfl ?_;refine Jup (JhN c t ht) rfl rfl rfl ?_;refine Jut rfl (Jly (K1 c t) []) rfl (Jun ?_);show [dB (!(K1 c t == []))]=_;rw[JdI,Bool.not_not]
end Go.Proofs.YtngcnclchcahlabGreatDoor

import Derived.Test.YtngcnclchcahlaaGreatDoorPV
import Derived.Test.YtngcnclchcahlaaGreatDoorTd
import Derived.Test.YtngcnclchcahlaaGreatDoorPM
import Derived.Test.YtngcnclchcahlaaGreatDoorPP
set_option linter.unusedVariables false
set_option linter.unusedSimpArgs false
/- What a site does alone: over residual programs. -/
namespace Go.Proofs.YtngcnclchcahlaaGreatDoor
open Go Go.Tm
open Go.IntKind (i64)
theorem Jtx {l:List V} {Q:Oc→Prop} {r:R} {c:Nat} {N:Int} (x:List Int) (hx:x.length≤1000) (hN:1000≤N) (he:lst (Jn l) (.v c)=dL x) (h:WR L r l Q) :
  WR L (.i (.chk (.cmp .le (.len (.v c)) (.z N))) (.i (.head 1 (.v c)) (.i (.chk (.cmp .le (.len (.app .nil (.v c))) (.z N))) r))) l Q :=
 Jtv (dL x) 1000 (by rw[dL1];omega) hN he (JtH (by rw[he];exact JS x) (Jtv (dL x) 1000 (by rw[dL1];omega) hN he h))
theorem W3 {pins:List Bool} {a:List Int} {i:Nat} {x:Int} {b:Bool} (hx:a[i]? = some x) (hb:pins[i]? = some b):(a.zip pins)[i]? = some (x,b):=by
 rw[List.getElem?_zip_eq_some];exact⟨hx,hb⟩
theorem Jcm (as:List (List Jg)) (ps:List (List Int)) (pins:List Bool) (a:List Int) (hp:pins.length=3) (ha:a.length=3):Ev L f_k4w [.s (Jd as),.s (dLL ps),.s (dBl pins),.s (dL a)] [dB (J5 pins a)]:=by
 refine Jt7 (vs:=[.l (Jd as),.l (dLL ps),.l (dBl pins),.l (dL a)]) L_k4w rfl ?_;refine Jtt a.length (fun i=>[.i i]) (fun i=>((a.zip pins).take i).all (fun q=>!(q.2 && !decide (q.1=0)))=true) rfl rfl rfl fun i hi hq=>?_;simp only[sC,sN];refine JtT i (dL1 a) rfl (fun h=>?_) (fun h=>?_)
 ·obtain⟨x,hx,_⟩:=sA1 h;obtain⟨b,hb,_⟩:=sA1 (show i<pins.length by omega);have hz:=W3 hx hb;refine JtY i (mA1 (f:=dI) hx) rfl rfl rfl rfl ?_;refine Jt1 (decide (x=0)) rfl (fun h0=>?_) (fun h0=>?_)
  ·refine JtY i (mA1 (f:=dB) hb) rfl rfl rfl rfl ?_;refine JtG b rfl (fun hb1=>JtA (Jt0 ?_)) (fun hb1=>?_)
   ·show [dB false]=_;unfold J5;rw[Yi hz (by simp only[h0,hb1];rfl)]
   ·refine JtK (vs:=[.i ((i+1:Nat):Int)]) ?_ ⟨h,rfl,QV hz hq (by simp only[hb1];rfl)⟩;show [V.i (i64.wrap ((i:Int)+1))]=_;rw[wS h (by omega)]
  ·refine JtK (vs:=[.i ((i+1:Nat):Int)]) ?_ ⟨h,rfl,QV hz hq (by simp only[h0];simp)⟩;show [V.i (i64.wrap ((i:Int)+1))]=_;rw[wS h (by omega)]
 ·refine JtA (Jt0 ?_);rw[Jud (by simp;omega)] at hq;unfold J5;rw[hq];rfl
theorem WL (pins:List Bool) (a:List Int) (hp:pins.length=3) (ha:a.length=3):Ev L f_k1i [.s (dBl pins),.s (dL a)] [dB (J5 pins a)]:=by
 refine Jt7 (vs:=[.l (dBl pins),.l (dL a)]) L_k1i rfl ?_;refine Jtt 3 (fun i=>[.i i]) (fun i=>((a.zip pins).take i).all (fun q=>!(q.2 && !decide (q.1=0)))=true) rfl rfl rfl fun i hi hq=>?_;simp only[sC,sN];refine JtQ i 3 rfl (fun h=>?_) (fun h=>?_)
 ·obtain⟨x,hx,_⟩:=sA1 (show i<a.length by omega);obtain⟨b,hb,_⟩:=sA1 (show i<pins.length by omega);have hz:=W3 hx hb;refine JtY i (mA1 (f:=dB) hb) rfl rfl rfl rfl ?_;refine JtG b rfl (fun hb1=>?_) (fun hb1=>?_)
  ·refine JtY i (mA1 (f:=dI) hx) rfl rfl rfl rfl ?_;refine Jt1 (decide (x=0)) rfl (fun h0=>JtA (Jt0 ?_)) (fun h0=>?_)
   ·show [dB false]=_;unfold J5;rw[Yi hz (by simp only[h0,hb1];rfl)]
   ·refine JtK (vs:=[.i ((i+1:Nat):Int)]) ?_ ⟨h,rfl,QV hz hq (by simp only[h0];simp)⟩;show [V.i (i64.wrap ((i:Int)+1))]=_;rw[wS h (by omega)]
  ·refine JtK (vs:=[.i ((i+1:Nat):Int)]) ?_ ⟨h,rfl,QV hz hq (by simp only[hb1];rfl)⟩;show [V.i (i64.wrap ((i:Int)+1))]=_;rw[wS h (by omega)]
 ·refine JtA (Jt0 ?_);rw[Jud (by simp;omega)] at hq;unfold J5;rw[hq];rfl
theorem JdF (as:List (List Jg)) (hf:X3 as):Ev L f_k4m [.s (Jd as)] [.s (Jd as),.s (dLL (Jb as)),.s (dBl (Jh as))]:=by
 refine Jt7 (vs:=[.l (Jd as)]) L_k4m rfl ?_;refine JtE (JmY as hf) rfl rfl rfl ?_;refine JtE (Jpk as hf) rfl rfl rfl (Jt0 rfl)
theorem VN {b g:List Int} {ps:List (List Int)} {s:Int} {a:List Int} (h:keeps b g ps s a=true):a.length=3:=(Zc (Xa h)).2.2.2.2.2.1.1
theorem Jfu (as:List (List Jg)) (ps:List (List Int)) (pins:List Bool) (b g:List Int) (s:Int) (a:List Int) (hpi:pins.length=3) (hb:b.length≤2000000) (hg:g.length≤2000000) (hp:fitLL ps) (ha:a.length≤2000000) :
  Ev L f_k4x [.s (Jd as),.s (dLL ps),.s (dBl pins),.s (dL b),.s (dL g),dI s,.s (dL a)] [dB (keeps b g ps s a&&J5 pins a)]:=by
 refine Jt7 (vs:=[.l (Jd as),.l (dLL ps),.l (dBl pins),.l (dL b),.l (dL g),.i s,.l (dL a)]) L_k4x rfl ?_;refine JtE (JbS b g ps s a hb hg hp ha) rfl rfl rfl ?_;refine JtG (keeps b g ps s a) rfl (fun h=>?_) (fun h=>Jt0 ?_)
 ·refine JtE (Jcm as ps pins a hpi (VN h)) rfl rfl rfl (Jt0 ?_);rw[h];rfl
 ·rw[h];rfl
def JfJ (as:List (List Jg)) (ps:List (List Int)) (pins:List Bool) (b g:List Int) (s:Int) (a w:List Int):List D:=[.q [.s (dL b),.s (dL g)],.q [.s (Jd as),.s (dLL ps),.s (dBl pins)],.q [dI s],.q [.s (dL a)],.q [.s (dL w)]]
def Jd9 (b g:List Int) (ps:List (List Int)) (s:Int) (a w:List Int) (f:Frm):Bool:=(JC b g ps s a f w).2.2&&decide (0≤(JC b g ps s a f w).1)
structure Jpf (b g:List Int) (ps:List (List Int)) (a w:List Int):Prop where
 b:b.length≤2000000
 g:g.length≤2000000
 p:fitLL ps
 a:a.length≤2000000
 w:w.length≤2000000
theorem Jjh (as:List (List Jg)) (ps:List (List Int)) (pins:List Bool) (b g:List Int) (s:Int) (a w:List Int) (h:Jpf b g ps a w) (f:Frm) (hf:Frm.fit f) :
  Ev L f_k5l (f.cells++(JfJ as ps pins b g s a w).map D.norm) [dB (!(Jd9 b g ps s a w f))]:=by
 refine Jt7 (vs:=[.l (dL f.c),.l (dL f.d),.i f.k,.d (.q [.s (dL b),.s (dL g)]),.d (.q [.s (Jd as),.s (dLL ps),.s (dBl pins)]),.d (.q [dI s]),.d (.q [.s (dL a)]),.d (.q [.s (dL w)])]) L_k5l rfl ?_;refine JtI (vs:=[.l (dL b),.l (dL g)]) rfl rfl ?_;refine JtI (vs:=[.l (Jd as),.l (dLL ps),.l (dBl pins)]) rfl rfl ?_;refine JtI (vs:=[.i s]) rfl rfl ?_;refine JtI (vs:=[.l (dL a)]) rfl rfl ?_;refine JtI (vs:=[.l (dL w)]) rfl rfl ?_;simp only[sC,sN];refine JtE (Jez b g ps s a f w h.b h.g h.p h.a hf h.w) rfl rfl rfl ?_;unfold Jd9;generalize JC b g ps s a f w=B;refine Jt1 B.2.2 rfl (fun h=>Jt0 ?_) (fun h=>Jt0 ?_)
 ·rw[h];rfl
 ·show [dB (decide (B.1<0))]=_;rw[h]
  by_cases hn:B.1<0
  ·simp[hn,show ¬0≤B.1 by omega]
  ·simp[hn,show 0≤B.1 by omega]
theorem Jid (as:List (List Jg)) (ps:List (List Int)) (pins:List Bool) (b g:List Int) (s:Int) (a w:List Int) (h:Jpf b g ps a w) (r:Row) (hr:Yc r) :
  Ev L f_k5m (r.cells++[D.q [.f f_k5l (JfJ as ps pins b g s a w)]].map D.norm) [dB (YR b g ps s a w r)]:=by
 refine Jt7 (vs:=[.l (dF r.guards),.l (dF r.adds),.l (dF r.tells),.b r.stop,.d (.q [.f f_k5l (JfJ as ps pins b g s a w)])]) L_k5m rfl ?_;refine JtI (vs:=[.d (.f f_k5l (JfJ as ps pins b g s a w))]) rfl rfl ?_;simp only[sC,sN];have hgl:=hr.gl;refine JtE (JbE (fun f=>!(Jd9 b g ps s a w f)) r.guards (fn:=f_k5l) (caps:=JfJ as ps pins b g s a w) (by omega) rfl rfl fun f hf=>Jjh as ps pins b g s a w h f (hr.g f hf).fit) rfl rfl rfl (Jt0 ?_);show [dB (!(r.guards.any fun f=>!(Jd9 b g ps s a w f)))]=_;rw[Ue];rfl
theorem Jm7 (p:Row→Bool) (l:List Row) {fn:FuncId} {caps:List D} (hlen:l.length≤2000000) (hcap:Xu (.f fn caps) = .f fn caps) (har:arT L fn=some ([some 4]++caps.map fun _=>none))
  (hc :∀x∈l,Ev L fn (x.cells++caps.map D.norm) [dB (p x)]):Ev L f_k5n [.s (Qc l),.f fn caps] [dI (Zu p l)] :=
 YY (sh:= .g [.s,.s,.s,.b]) (as:=[(.s (.v 3)),(.s (.v 4)),(.s (.v 5)),(.vb (.v 6))]) (ar:=[some 4]) (k:=7) Row.g p Row.cells (fun x=>[.l (dF x.guards),.l (dF x.adds),.l (dF x.tells),.b x.stop]) l
  L_k5n rfl hlen hcap (fun _ _=>rfl) (fun _ _=>rfl) (fun _ _ _ _=>rfl) har hc
theorem Jl2 (b g:List Int) (ps:List (List Int)) (s:Int) (a w:List Int) (h:Jpf b g ps a w) (r:Row) (hr:Yc r) :
  Ev L f_k26 ([.s (dL b),.s (dL g),.s (dLL ps),dI s,.s (dL a)]++r.cells++[.s (dL w)]) [dB (YR b g ps s a w r)]:=by
 refine Jt7 (vs:=[.l (dL b),.l (dL g),.l (dLL ps),.i s,.l (dL a),.l (dF r.guards),.l (dF r.adds),.l (dF r.tells),.b r.stop,.l (dL w)]) L_k26 rfl ?_;have hgl:=hr.gl;refine Jtt r.guards.length (fun i=>[.i i]) (fun i=>(r.guards.take i).all (Jd9 b g ps s a w)=true) rfl rfl rfl fun i hi hq=>?_;simp only[sC,sN];have hS:YR b g ps s a w r=r.guards.all (Jd9 b g ps s a w):=rfl;rw[hS];refine JtT i (J0 r.guards) rfl (fun h'=>?_) (fun h'=>?_)
 ·obtain⟨f,hf,hm⟩:=sA1 h';refine JtY i (mA1 (f:=Frm.g) hf) rfl rfl rfl rfl ?_;refine JtE (Jd2 b g ps s a f w h.b h.g h.p h.a (hr.g f hm).fit h.w) rfl rfl rfl ?_;simp only[sC,sN];have hF:Jd9 b g ps s a w f=((JC b g ps s a f w).2.2&&decide (0≤(JC b g ps s a f w).1)):=rfl;generalize JC b g ps s a f w=B at *;refine Jt1 B.2.2 rfl (fun h1=>JtA (Jt0 ?_)) (fun h1=>?_)
  ·rw[Yi hf (by rw[hF,h1];rfl)];rfl
  refine Jty (B.1<0) rfl (fun h2=>JtA (Jt0 ?_)) (fun h2=>?_)
  ·rw[Yi hf (by rw[hF,h1];simp;omega)];rfl
  refine JtK (vs:=[.i ((i+1:Nat):Int)]) ?_ ⟨h',rfl,QV hf hq (by rw[hF,h1];simp;omega)⟩;show [V.i (i64.wrap ((i:Int)+1))]=_;rw[wS h' (by omega)]
 ·refine JtA (Jt0 ?_);rw[tA1 h'] at hq;rw[hq];rfl
/- What a site does alone: the tries themselves,over residual programs. -/
theorem JaV {b w:List Int} (hb:JY b=true) (hw:QR w=true) {fs:List Frm} (hf :∀f∈fs,Std 10000000 f) :∀f∈fs,YQ f b w:=fun f hm=>YQ.std (hf f hm) hb hw
theorem JcC (fs:List Frm) (v w:List Int):(atL fs v w).length=fs.length:=by simp[atL]
theorem Jdl {i:Nat} (h:i<3):[0,1,2][i]? = some i:=by
 match i,h with
 | 0,_ | 1,_ | 2,_=>rfl
theorem KX {as:List (List Jg)} (h:Qk as=true):(Jh as).length=3:=by rw[Jdg h,Jpg]
theorem Jg2 {as:List (List Jg)} {b g:List Int} {s:Int} {a:List Int} {k:Int} {w:List Int} (h:QY as b g s a k w=false):KH as b g s a k w=⟨0,[],[],false⟩:=by
 unfold KH;rw[h];rfl
def Jcf (O U:Nat→Bool) (b g:List Int) (ps:List (List Int)) (s:Int) (a w:List Int):Prop :=
 ∀i,O i=([0,1,2].take i).any (ovM b g ps s a w)∧U i=([0,1,2].take i).any (unM b g ps s a w)
theorem Jcf.step {O U:Nat→Bool} {b g:List Int} {ps:List (List Int)} {s:Int} {a w:List Int} (h:Jcf O U b g ps s a w) {i:Nat} (hi:i<3) :
  O (i+1)=(O i||(decide (10000<(JC b g ps s a (JA i) w).1)||decide ((JC b g ps s a (JA i) w).2.1 < -10000))) ∧
  U (i+1)=(U i||(decide ((JC b g ps s a (JA i) w).1 < -10000)||decide (10000<(JC b g ps s a (JA i) w).2.1))):=by
 rw[(h (i+1)).1,(h (i+1)).2,(h i).1,(h i).2,Jh0 (Jdl hi),Jh0 (Jdl hi)];exact⟨rfl,rfl⟩
theorem Jcf.zero {O U:Nat→Bool} {b g:List Int} {ps:List (List Int)} {s:Int} {a w:List Int} (h:Jcf O U b g ps s a w):O 0=false∧U 0=false:=⟨(h 0).1,(h 0).2⟩
theorem Jcf.three {O U:Nat→Bool} {b g:List Int} {ps:List (List Int)} {s:Int} {a w:List Int} (h:Jcf O U b g ps s a w):O 3=[0,1,2].any (ovM b g ps s a w)∧U 3=[0,1,2].any (unM b g ps s a w):=⟨(h 3).1,(h 3).2⟩
set_option maxHeartbeats 2000000 in
theorem Jkj (as:List (List Jg)) (b g:List Int) (s:Int) (a:List Int) (k:Int) (w:List Int) (hf:X3 as) (hb:b.length≤2000000) (hg:g.length≤2000000) (ha:a.length≤2000000) (hw:w.length≤2000000) :
  Ev L f_k5p [.s (Jd as),.s (dL b),.s (dL g),dI s,.s (dL a),dI k,.s (dL w)] (KH as b g s a k w).ds:=by
 have hfl:=hf.1;refine Jt7 (vs:=[.l (Jd as),.l (dL b),.l (dL g),.i s,.l (dL a),.i k,.l (dL w)]) L_k5p rfl ?_;refine JtE (Wb as hf) rfl rfl rfl ?_;refine Jt1 (Qk as) rfl (fun h=>Jt0 ?_) (fun h1=>?_)
 ·rw[Jg2 (by simp[QY,h])];rfl
 refine JtE (Jdk w hw) rfl rfl rfl ?_;refine Jt1 (QR w) rfl (fun h=>Jt0 ?_) (fun h3=>?_)
 ·rw[Jg2 (by simp[QY,h])];rfl
 refine JtE (Yf k 0 (as.length-1)) rfl ?_ rfl ?_
 ·show [dI k,dI 0,dI (i64.wrap (((Jd as).length:Int)-1))]=_;rw[JK,w64 (by omega) (by omega)]
 refine Jt1 (inB k 0 (as.length-1)) rfl (fun h=>Jt0 ?_) (fun h2=>?_)
 ·rw[Jg2 (by simp[QY,h])];rfl
 simp only[sC,sN];have hpi:=KX h1;have hps:fitLL (Jb as):=(QM as).fitLL (by omega);refine JtE (JdF as hf) rfl rfl rfl ?_;refine JtE (Jfu as (Jb as) (Jh as) b g s a hpi hb hg hps ha) rfl rfl rfl ?_;simp only[sC,sN];refine Jt1 (keeps b g (Jb as) s a&&J5 (Jh as) a) rfl (fun h=>Jt0 ?_) (fun h4=>?_)
 ·rw[Jg2 (by simp only[QY,h];simp)];rfl
 have hfine:QY as b g s a k w=true:=by simp only[QY,h1,h2,h3,h4];rfl
 obtain⟨_,hk,_,hke,_⟩:=Zh.1 hfine;obtain⟨hm,hkx⟩:=UT (as:=as) hk.1 hk.2;obtain⟨_,_,_,_,hb3,ha3,hgr⟩:=Zc (Xa hke);have hvb:JY b=true:=Qg.2 hb3;have hM:KH as b g s a k w=(match (Js (as.getD k.toNat [])).find? (YR b g (Jb as) s a w) with | some r=>YB b g (Jb as) (Jh as) s a w r | none=>⟨0,[],a,false⟩):=by unfold KH;rw[if_pos hfine];cases (Js (as.getD k.toNat [])).find? (YR b g (Jb as) s a w) <;> rfl
 rw[hM];clear hM;refine JtE (X6 a ha) rfl rfl rfl ?_;refine JtJ (ds:=Jd as) k rfl rfl rfl hk.1 (mA1 (f:=fun a=> .s (Jl a)) hkx) rfl ?_;refine JtE (WB (as.getD k.toNat []) (hf.2 _ hm)) rfl rfl rfl ?_;have hrf :∀r∈Js (as.getD k.toNat []),Yc r:=XT;have hrl:=ZS (as.getD k.toNat []);generalize Js (as.getD k.toNat [])=rs at *;generalize as.getD k.toNat []=act at *;have fitb:Jpf b g (Jb as) a w:=⟨hb,hg,hps,ha,hw⟩;simp only[sC,sN];refine JtE (Jm7 (YR b g (Jb as) s a w) rs (fn:=f_k5m) (caps:=[D.q [.f f_k5l (JfJ as (Jb as) (Jh as) b g s a w)]]) (by omega) rfl rfl fun r hr=>Jid as (Jb as) (Jh as) b g s a w fitb r (hrf r hr)) rfl rfl rfl ?_;simp only[sC,sN];rcases Vm (YR b g (Jb as) s a w) rs with ⟨hpl,hnone⟩ | ⟨i,r,hpl,hri,hsr,hti⟩
 ·rw[hpl];refine JtZ rfl (Jt0 ?_);rw[Jfj hnone];rfl
 rw[hpl,JlT hri hsr hti];refine Jty ((i:Int)<0) rfl (fun h=>by omega) (fun _=>?_);have hfr:=hrf r (Jug hri);refine Jtu i (rdR hri) rfl rfl rfl rfl rfl rfl ?_;simp only[sC,sN];have hR:YB b g (Jb as) (Jh as) s a w r=YB b g (Jb as) (Jh as) s a w r:=rfl;unfold YB at hR ⊢;clear hR;refine JtG r.stop rfl (fun hst=>Jt0 ?_) (fun hst=>?_)
 ·rw[if_pos hst];rfl
 rw[if_neg (by rw[hst];simp)];refine Jtu i (rdR hri) rfl rfl rfl rfl rfl rfl ?_;have hal:=hfr.ns hst;have hab:=JaV hvb h3 hfr.a;have hla:=Jly hab;have hll:=JcC r.adds b w;refine JtE (JoL (by omega) hab) rfl rfl rfl ?_;simp only[sC,sN];generalize atL r.adds b w=x at *;refine JtE (Jlo (M:=6000000000000000) (Lim.mono (m:=20000) ha3.2 (by omega)) hla (by omega) (by omega) (by omega)) rfl rfl rfl ?_;refine JtE (Jcm as (Jb as) (Jh as) x hpi (by omega)) rfl rfl rfl ?_;simp only[sC,sN];refine Jt1 (J5 (Jh as) x) rfl (fun h=>Jt0 ?_) (fun h5=>?_)
 ·rw[if_neg (by rw[h];simp)];rfl
 have hnl:(J2 a x).length≤2000000:=by rw[Zn (by omega)];omega
 show WR L _ [_,_,_,_,_,_,_,_,_,_,_,_,_,_,_,_,_,_,_,_,_,_,_,_,_,_,_,V.l (dL (J2 a x)),_] _;generalize J2 a x=now at *;refine JtE (Jdu now hnl) rfl rfl rfl ?_;refine Jt1 (QE now) rfl (fun h=>Jt0 ?_) (fun h6=>?_)
 ·rw[if_neg (by rw[h];simp)];rfl
 rw[if_pos (by rw[h5,h6];rfl)];simp only[sC,sN];obtain⟨O,U,hr⟩ : ∃ O U,Jcf O U b g (Jb as) s now w:=⟨_,_,fun _=>⟨rfl,rfl⟩⟩;rw[←hr.three.1,←hr.three.2];refine Jtt 3 (fun i=>[.b (O i),.b (U i),.i i]) (fun _=>True) rfl (by rw[hr.zero.1,hr.zero.2];rfl) trivial fun j hj _=>?_;simp only[sC,sN];refine JtQ j 3 rfl (fun hj3=>?_) (fun hj3=>?_)
 ·obtain⟨sO,sU⟩:=hr.step hj3;have eP:=JcG (j:Int) (by omega) (by omega);have eB:=Jez b g (Jb as) s now (JA j) w hb hg hps hnl QS.fit hw;rw[Int.toNat_natCast] at eP;refine JtE eP rfl rfl rfl ?_;refine JtE eB rfl rfl rfl ?_;simp only[sC,sN];generalize JC b g (Jb as) s now (JA j) w=B at *;have nx :∀(x y:Bool) {vs:List V},vs=[V.b x,V.b y,V.i (i64.wrap ((j:Int)+1))]→O (j+1)=x→U (j+1)=y→vs=[V.b (O (j+1)),V.b (U (j+1)),V.i ((j+1:Nat):Int)]:=by
   rintro x y _ rfl rfl rfl;rw[wS hj3 (by omega)]
  refine JtG (O j) rfl (fun hO=>?_) (fun hO=>?_)
  ·refine JtG (U j) rfl (fun hU=>?_) (fun hU=>?_)
   ·exact JtK (nx true true rfl (by rw[sO,hO];rfl) (by rw[sU,hU];rfl)) ⟨hj3,rfl,trivial⟩
   ·refine Jty (B.1 < -10000) rfl (fun hl=>?_) (fun hl=>?_)
    ·exact JtK (nx true true rfl (by rw[sO,hO];rfl) (by rw[sU,hU,decide_eq_true hl];rfl)) ⟨hj3,rfl,trivial⟩
    ·exact JtK (nx true (decide (10000<B.2.1)) rfl (by rw[sO,hO];rfl) (by rw[sU,hU,decide_eq_false hl];rfl)) ⟨hj3,rfl,trivial⟩
  ·refine Jty (10000<B.1) rfl (fun hh=>?_) (fun hh=>?_)
   ·refine JtG (U j) rfl (fun hU=>?_) (fun hU=>?_)
    ·exact JtK (nx true true rfl (by rw[sO,hO,decide_eq_true hh];rfl) (by rw[sU,hU];rfl)) ⟨hj3,rfl,trivial⟩
    ·refine Jty (B.1 < -10000) rfl (fun hl=>?_) (fun hl=>?_)
     ·exact JtK (nx true true rfl (by rw[sO,hO,decide_eq_true hh];rfl) (by rw[sU,hU,decide_eq_true hl];rfl)) ⟨hj3,rfl,trivial⟩
     ·exact JtK (nx true (decide (10000<B.2.1)) rfl (by rw[sO,hO,decide_eq_true hh];rfl) (by rw[sU,hU,decide_eq_false hl];rfl)) ⟨hj3,rfl,trivial⟩
   ·refine JtG (U j) rfl (fun hU=>?_) (fun hU=>?_)
    ·exact JtK (nx (decide (B.2.1 < -10000)) true rfl (by rw[sO,hO,decide_eq_false hh];rfl) (by rw[sU,hU];rfl)) ⟨hj3,rfl,trivial⟩
    ·refine Jty (B.1 < -10000) rfl (fun hl=>?_) (fun hl=>?_)
     ·exact JtK (nx (decide (B.2.1 < -10000)) true rfl (by rw[sO,hO,decide_eq_false hh];rfl) (by rw[sU,hU,decide_eq_true hl];rfl)) ⟨hj3,rfl,trivial⟩
     ·exact JtK (nx (decide (B.2.1 < -10000)) (decide (10000<B.2.1)) rfl (by rw[sO,hO,decide_eq_false hh];rfl) (by rw[sU,hU,decide_eq_false hl];rfl)) ⟨hj3,rfl,trivial⟩
 have hj:j=3:=by omega
 subst hj;refine JtA ?_;refine JtG (O 3) rfl (fun hO=>Jt0 ?_) (fun hO=>?_)
 ·rw[if_pos hO];rfl
 rw[if_neg (by rw[hO];simp)];refine JtG (U 3) rfl (fun hU=>Jt0 ?_) (fun hU=>?_)
 ·rw[if_pos hU];rfl
 rw[if_neg (by rw[hU];simp)];refine JtE (JbS b g (Jb as) s now hb hg hps hnl) rfl rfl rfl ?_;refine Jt1 (keeps b g (Jb as) s now) rfl (fun h=>Jt0 ?_) (fun h7=>?_)
 ·rw[if_neg (by rw[h];simp)];rfl
 rw[if_pos h7];refine Jtu i (rdR hri) rfl rfl rfl rfl rfl rfl ?_;have htl:=hfr.tl;refine JtE (JoL (by omega) (JaV hvb h3 hfr.t)) rfl rfl rfl (Jt0 rfl)
/- What a site does alone: the specification's tries,over residual programs. -/
theorem Jeb {a b:List Int} (ha:a.length=3) (hb:b.length=3) (la:Lim 4000000000000000000 a) (lb:Lim 4000000000000000000 b):Ev L f_k22 [.s (dL a),.s (dL b)] [.s (dL (J2 a b))]:=by
 refine Jt7 (vs:=[.l (dL a),.l (dL b)]) L_k22 rfl ?_;refine Jtt 3 (fun i=>[.l (dL ((J2 a b).take i)),.i i]) (fun _=>True) rfl rfl trivial fun i hi _=>?_;simp only[sC,sN];refine JtQ i 3 rfl (fun h=>?_) (fun h=>?_)
 ·obtain⟨x,hx,hmx⟩:=sA1 (show i<a.length by omega);obtain⟨y,hy,hmy⟩:=sA1 (show i<b.length by omega);have hxl:=la x hmx;have hyl:=lb y hmy;have hs:(J2 a b)[i]? = some (x+y):=by unfold J2;rw[List.getElem?_zipWith,hx,hy]
  refine JtY i (mA1 (f:=dI) hx) rfl rfl rfl rfl ?_;refine JtY i (mA1 (f:=dI) hy) rfl rfl rfl rfl ?_;refine JtR (dL ((J2 a b).take i)) 10 (by rw[dL1];simp;omega) (by omega) rfl ?_;refine JtK (vs:=[.l (dL ((J2 a b).take (i+1))),.i ((i+1:Nat):Int)]) ?_ ⟨h,rfl,trivial⟩;show [V.l (dL ((J2 a b).take i)++[dI (i64.wrap (x+y))]),V.i (i64.wrap ((i:Int)+1))]=_;rw[wS h (by omega),w64 (by omega) (by omega),Q8,tS1 hs]
 ·refine JtA (Jt0 ?_);show [D.s (dL ((J2 a b).take i))]=_;rw[Jud (by rw[Zn (by omega)];omega)]
theorem Jnk (b g:List Int) (pins:List Bool) (r:Row) (w:List Int) (hp:pins.length=3) (hr:Yc r) (hs:r.stop=false) (hb:JY b=true) (hw:QR w=true) :
  Ev L f_k27 ([.s (dL b),.s (dL g),.s (dBl pins)]++r.cells++[.s (dL w)]) [.s (dL (if J5 pins (atL r.adds b w) then atL r.adds b w else [0,0,0])),dB (J5 pins (atL r.adds b w))]:=by
 refine Jt7 (vs:=[.l (dL b),.l (dL g),.l (dBl pins),.l (dF r.guards),.l (dF r.adds),.l (dF r.tells),.b r.stop,.l (dL w)]) L_k27 rfl ?_;have hal:=hr.ns hs;have hab:=JaV hb hw hr.a;have hll:=JcC r.adds b w;refine Jtt 3 (fun i=>[.l (dL ((atL r.adds b w).take i)),.i i]) (fun i=>(((atL r.adds b w).zip pins).take i).all (fun q=>!(q.2 && !decide (q.1=0)))=true) rfl rfl rfl fun i hi hq=>?_;simp only[sC,sN];refine JtQ i 3 rfl (fun h=>?_) (fun h=>?_)
 ·obtain⟨f,hf,hm⟩:=sA1 (show i<r.adds.length by omega);obtain⟨p,hpi,_⟩:=sA1 (show i<pins.length by omega);have hx:(atL r.adds b w)[i]? = some (atF f b w):=by simp[atL,hf]
  have hz:=W3 hx hpi;have hat:=JgZ (hab f hm);generalize atF f b w=x at *;generalize atL r.adds b w=xs at *;refine JtY i (mA1 (f:=Frm.g) hf) rfl rfl rfl rfl ?_;refine JtE hat rfl rfl rfl ?_;refine JtY i (mA1 (f:=dB) hpi) rfl rfl rfl rfl ?_;simp only[sC,sN];have hnx:[V.l (dL (xs.take i)++[dI x]),V.i (i64.wrap ((i:Int)+1))]=[V.l (dL (xs.take (i+1))),V.i ((i+1:Nat):Int)]:=by
   rw[wS h (by omega),Q8,tS1 hx]
  refine JtG p rfl (fun hp1=>?_) (fun hp1=>?_)
  ·refine Jt1 (decide (x=0)) rfl (fun h0=>JtA (Jt0 ?_)) (fun h0=>?_)
   ·have hst:J5 pins xs=false:=by unfold J5;rw[Yi hz (by simp only[h0,hp1];rfl)]
    rw[hst];rfl
   ·refine JtR (dL (xs.take i)) 10 (by rw[dL1];simp;omega) (by omega) rfl ?_;exact JtK hnx ⟨h,rfl,QV hz hq (by simp only[h0];simp)⟩
  ·refine JtR (dL (xs.take i)) 10 (by rw[dL1];simp;omega) (by omega) rfl ?_;exact JtK hnx ⟨h,rfl,QV hz hq (by simp only[hp1];rfl)⟩
 ·refine JtA (Jt0 ?_);rw[Jud (by simp;omega)] at hq;have hst:J5 pins (atL r.adds b w)=true:=by unfold J5;rw[hq]
  rw[hst];show [D.s (dL ((atL r.adds b w).take i)),dB true]=_;rw[Jud (by omega)];rfl
theorem JoE:QR [0,0]=true:=by decide
theorem JjX {as:List (List Jg)} {b g:List Int} {s:Int} {a w:List Int} (h:Qk as=true) (hf:YP b g (Jb as) s a=true) (hw:QR w=true) (hb:b.length≤2000000) (hg:g.length≤2000000) (ha:a.length≤2000000) :
  Ev L f_k28 [.s (dL b),.s (dL g),.s (dLL (Jb as)),dI s,.s (dL a)] [dI (if [0,1,2].any (ovM b g (Jb as) s a w) then 2 else if [0,1,2].any (unM b g (Jb as) s a w) then 0 else 1)]:=by
 refine Jt7 (vs:=[.l (dL b),.l (dL g),.l (dLL (Jb as)),.i s,.l (dL a)]) L_k28 rfl ?_;have hps:fitLL (Jb as):=(QM as).fitLL (by omega);obtain⟨O,U,hr⟩ : ∃ O U,Jcf O U b g (Jb as) s a w:=⟨_,_,fun _=>⟨rfl,rfl⟩⟩;have hno :∀(i:Nat) (x:Nat),[0,1,2][i]? = some x→ovM b g (Jb as) s a w x=true→[0,1,2].any (ovM b g (Jb as) s a w)=true:=fun i x hx h=>List.any_eq_true.2 ⟨x,Jug hx,h⟩;refine Jtt 3 (fun i=>[.i (if U i then 0 else 1),.i i]) (fun i=>O i=false) rfl (by rw[hr.zero.2];rfl) hr.zero.1 fun j hj hO=>?_;simp only[sC,sN];refine JtQ j 3 rfl (fun hj3=>?_) (fun hj3=>?_)
 ·obtain⟨sO,sU⟩:=hr.step hj3;have hov:=hno j j (Jdl hj3);have hovd:ovM b g (Jb as) s a w j=(decide (10000<(JC b g (Jb as) s a (JA j) w).1)||decide ((JC b g (Jb as) s a (JA j) w).2.1 < -10000)):=rfl;rw[hovd] at hov;have eP:=ZL (j:Int) (by omega) (by omega);have eB:=Jd2 b g (Jb as) s a (JA j) [0,0] hb hg hps ha QS.fit (by decide);rw[Jdp h hf JoE hj3] at eB;rw[Jdp h hf hw hj3] at sO sU hov;rw[Int.toNat_natCast] at eP;refine JtE eP rfl rfl rfl ?_;refine JtE eB rfl rfl rfl ?_;simp only[sC,sN];generalize (J2 b a).getD j 0-Jq g s=lo at *;generalize (J2 b a).getD j 0+Jq g s=hi at *;generalize [0,1,2].any (ovM b g (Jb as) s a w)=OO at *;generalize [0,1,2].any (unM b g (Jb as) s a w)=UU at *;simp only at sO sU hov;have nx :∀(x:Int) {vs:List V},vs=[V.i x,V.i (i64.wrap ((j:Int)+1))]→(if U (j+1) then 0 else 1)=x→vs=[V.i (if U (j+1) then 0 else 1),V.i ((j+1:Nat):Int)]:=by
   rintro x _ rfl rfl;rw[wS hj3 (by omega)]
  refine JtZ rfl ?_;refine Jty (10000<lo) rfl (fun hl=>JtA (Jt0 ?_)) (fun hl=>?_)
  ·rw[hov (by rw[decide_eq_true hl];rfl)];rfl
  refine Jty (hi < -10000) rfl (fun hh=>JtA (Jt0 ?_)) (fun hh=>?_)
  ·rw[hov (by rw[decide_eq_true hh,Bool.or_true])];rfl
  have hO':O (j+1)=false:=by rw[sO,hO,decide_eq_false hl,decide_eq_false hh];rfl
  refine JtN rfl ?_;refine Jty (lo < -10000) rfl (fun h1=>?_) (fun h1=>?_)
  ·exact JtK (nx 0 rfl (by rw[sU,decide_eq_true h1];simp)) ⟨hj3,rfl,hO'⟩
  refine Jty (10000<hi) rfl (fun h2=>?_) (fun h2=>?_)
  ·exact JtK (nx 0 rfl (by rw[sU,decide_eq_true h2];simp)) ⟨hj3,rfl,hO'⟩
  exact JtK (nx (if U j then 0 else 1) rfl (by rw[sU,decide_eq_false h1,decide_eq_false h2];simp)) ⟨hj3,rfl,hO'⟩
 ·have hj:j=3:=by omega
  subst hj;refine JtA (Jt0 ?_);rw[hr.three.1] at hO;show [dI (if U 3 then 0 else 1)]=_;rw[hO,hr.three.2];rfl
theorem JoC {as:List (List Jg)} {b g:List Int} {s:Int} {a w:List Int} {r:Row} (h:Qk as=true) (hf:YP b g (Jb as) s a=true) (hw:QR w=true) (hg:g.length≤2000000) (hfr:Yc r) :
  Ev L f_k29 ([.s (dL b),.s (dL g),.s (dLL (Jb as)),.s (dBl (Jh as)),dI s,.s (dL a)]++r.cells++[.s (dL w)]) (YB b g (Jb as) (Jh as) s a w r).ds:=by
 refine Jt7 (vs:=[.l (dL b),.l (dL g),.l (dLL (Jb as)),.l (dBl (Jh as)),.i s,.l (dL a),.l (dF r.guards),.l (dF r.adds),.l (dF r.tells),.b r.stop,.l (dL w)]) L_k29 rfl ?_;have hps:fitLL (Jb as):=(QM as).fitLL (by omega);have hpi:=KX h;obtain⟨_,_,_,_,hb3,ha3,hgr⟩:=Zc hf;have hvb:JY b=true:=Qg.2 hb3;unfold YB;refine JtG r.stop rfl (fun hst=>?_) (fun hst=>?_)
 ·rw[if_pos hst];exact Jtx a (by omega) (by omega) rfl (Jt0 rfl)
 rw[if_neg (by rw[hst];simp)];have hal:=hfr.ns hst;have hla:=Jly (JaV hvb hw hfr.a);have hll:=JcC r.adds b w;refine JtE (Jnk b g (Jh as) r w hpi hfr hst hvb hw) rfl rfl rfl ?_;simp only[sC,sN];generalize atL r.adds b w=x at *
 by_cases h5:J5 (Jh as) x=true
 case neg =>
  rw[if_neg h5,if_neg (show ¬(J5 (Jh as) x&&QE (J2 a x))=true by simp[h5])];refine JtE (Jeb (b:=[0,0,0]) ha3.1 rfl (Lim.mono (m:=20000) ha3.2 (by omega)) (by intro y hy;simp at hy;omega)) rfl rfl rfl ?_;refine JtZ (by show (!(J5 (Jh as) x))=true;simp[h5]) ?_;exact Jtx a (by omega) (by omega) rfl (Jt0 rfl)
 rw[if_pos h5,h5];refine JtE (Jeb ha3.1 (by omega) (Lim.mono (m:=20000) ha3.2 (by omega)) (hla.mono (by omega))) rfl rfl rfl ?_;simp only[sC,sN];refine JtN rfl ?_;have hnl:(J2 a x).length≤2000000:=by rw[Zn (by omega)];omega
 generalize J2 a x=now at *;refine JtE (Xj now 3 20000 hnl (by omega) (by omega)) rfl rfl rfl ?_;refine Jt1 (QE now) rfl (fun h6=>?_) (fun h6=>?_)
 ·rw[if_neg (by rw[h6];simp)];exact Jtx a (by omega) (by omega) rfl (Jt0 rfl)
 rw[if_pos (by rw[h6];rfl)];simp only[sC,sN];refine JtE (JjX h (Jon hf h6) hw (by omega) hg hnl) rfl rfl rfl ?_;simp only[sC,sN];generalize [0,1,2].any (ovM b g (Jb as) s now w)=OO at *;generalize [0,1,2].any (unM b g (Jb as) s now w)=UU at *;cases OO with
 | true =>
  simp only[if_true];refine JtZ rfl ?_;exact Jtx a (by omega) (by omega) rfl (Jt0 rfl)
 | false =>
  cases UU with
  | true =>
   simp only[Jup,if_false,if_true];refine JtN rfl (JtZ rfl ?_);exact Jtx a (by omega) (by omega) rfl (Jt0 rfl)
  | false =>
   simp only[Jup,if_false];refine JtN rfl (JtN rfl ?_);refine JtE (ZF b g (Jb as) s now (by omega) hg hps hnl) rfl rfl rfl ?_;refine Jt1 (keeps b g (Jb as) s now) rfl (fun h7=>?_) (fun h7=>?_)
   ·rw[if_neg (by rw[h7];simp)];exact Jtx a (by omega) (by omega) rfl (Jt0 rfl)
   rw[if_pos h7];simp only[sC,sN];have htl:=hfr.tl;refine Jtt r.tells.length (fun i=>[.l (dL (atL (r.tells.take i) b w)),.i i]) (fun _=>True) rfl rfl trivial fun i hi _=>?_;simp only[sC,sN];refine JtT i (J0 r.tells) rfl (fun h'=>?_) (fun h'=>?_)
   ·obtain⟨f,hf',hm⟩:=sA1 h';refine JtY i (mA1 (f:=Frm.g) hf') rfl rfl rfl rfl ?_;refine JtE (JgZ (JaV hvb hw hfr.t f hm)) rfl rfl rfl ?_;refine JtR (dL (atL (r.tells.take i) b w)) 10 (by rw[dL1,JcC];simp;omega) (by omega) rfl ?_;refine JtK (vs:=[.l (dL (atL (r.tells.take (i+1)) b w)),.i ((i+1:Nat):Int)]) ?_ ⟨h',rfl,trivial⟩;show [V.l (dL (atL (r.tells.take i) b w)++[dI (atF f b w)]),V.i (i64.wrap ((i:Int)+1))]=_;rw[wS h' (by omega),Q8,tS1 hf'];simp[atL]
   ·refine JtA (Jt0 ?_);show [dI 1,D.s (dL (atL (r.tells.take i) b w)),.s (dL now),dB true]=_;rw[tA1 h'];rfl
theorem Joh {as:List (List Jg)} {b g:List Int} {s:Int} {a:List Int} {k:Int} {w:List Int} (hf:X3 as) (hg:g.length≤2000000) (hfine:QY as b g s a k w=true) :
  Ev L f_k2a [.s (Jd as),.s (dLL (Jb as)),.s (dBl (Jh as)),.s (dL b),.s (dL g),dI s,.s (dL a),dI k,.s (dL w)] (KH as b g s a k w).ds:=by
 refine Jt7 (vs:=[.l (Jd as),.l (dLL (Jb as)),.l (dBl (Jh as)),.l (dL b),.l (dL g),.i s,.l (dL a),.i k,.l (dL w)]) L_k2a rfl ?_;obtain⟨h1,hk,h3,hke,_⟩:=Zh.1 hfine;obtain⟨hm,hkx⟩:=UT (as:=as) hk.1 hk.2;have hfi:=Xa hke;obtain⟨_,_,_,_,hb3,ha3,hgr⟩:=Zc hfi;have hM:KH as b g s a k w=(match (Js (as.getD k.toNat [])).find? (YR b g (Jb as) s a w) with | some r=>YB b g (Jb as) (Jh as) s a w r | none=>⟨0,[],a,false⟩):=by unfold KH;rw[if_pos hfine];cases (Js (as.getD k.toNat [])).find? (YR b g (Jb as) s a w) <;> rfl
 rw[hM];clear hM;have hps:fitLL (Jb as):=(QM as).fitLL (by omega);have hw2:=(XX.1 h3).1;have fitb:Jpf b g (Jb as) a w:=⟨by omega,hg,hps,by omega,by omega⟩;refine JtJ (ds:=Jd as) k rfl rfl rfl hk.1 (mA1 (f:=fun a=> .s (Jl a)) hkx) rfl ?_;refine JtE (JfH (as.getD k.toNat []) (hf.2 _ hm)) rfl rfl rfl ?_;have hrf :∀r∈Js (as.getD k.toNat []),Yc r:=XT;have hrl:=ZS (as.getD k.toNat []);generalize Js (as.getD k.toNat [])=rs at *;generalize as.getD k.toNat []=act at *;simp only[sC,sN];refine Jtt rs.length (fun i=>[.i i]) (fun i=>(rs.take i).any (YR b g (Jb as) s a w)=false) rfl rfl rfl fun i hi hq=>?_;simp only[sC,sN];refine JtT i (X4 rs) rfl (fun h'=>?_) (fun h'=>?_)
 ·obtain⟨r,hr,hmr⟩:=sA1 h';refine Jtu i (rdR hr) rfl rfl rfl rfl rfl rfl ?_;refine JtE (Jl2 b g (Jb as) s a w fitb r (hrf r hmr)) rfl rfl rfl ?_;simp only[sC,sN];refine JtG (YR b g (Jb as) s a w r) rfl (fun hs=>?_) (fun hs=>?_)
  ·refine Jtu i (rdR hr) rfl rfl rfl rfl rfl rfl ?_;refine JtE (JoC h1 hfi h3 hg (hrf r hmr)) rfl rfl rfl ?_;rw[JlT hr hs hq];exact JtA (Jt0 rfl)
  ·refine JtK (vs:=[.i ((i+1:Nat):Int)]) ?_ ⟨h',rfl,Jea hr hq hs⟩;show [V.i (i64.wrap ((i:Int)+1))]=_;rw[wS h' (by omega)]
 ·refine JtA ?_;rw[tA1 h'] at hq;rw[Jfj hq];exact Jtx a (by omega) (by omega) rfl (Jt0 rfl)
/- What a site does alone: draws; who gives more can do more: over residual programs. -/
end Go.Proofs.YtngcnclchcahlaaGreatDoor
/- What one site does alone is what would come of it over all: over residual programs. The sum here hands its list back. -/
namespace Go.Proofs.YtngcnclchcahlaaGreatDoor
open Go Go.Tm
open Go.IntKind (i64)
theorem JhK {b g:List Int} {ps:List (List Int)} {s:Int} (hp:QL ps=true) (ht:Qr b g=true) (hs:0≤s∧s<g.length):keeps b g ps s [0,0,0]=true:=by
 have ht':=ht;simp only[Qr,Jt9,Jr,Jum] at ht';unfold keeps;have g0:=ht'.2;obtain⟨x,hx,hm⟩:=sA1 (show s.toNat<g.length by omega);have e:g.getD s.toNat 0=x:=by simp[Juc,hx]
 have:=g0 x hm;rw[ht,hp,e];simp only[Jut,Jt9,Jr,Jum];refine⟨⟨by omega,by decide⟩,fun p hpp=>?_⟩;have h3:p.length=3:=by
  simp only[QL,Jum,Jo] at hp;have:=(hp p hpp).1;omega
 obtain⟨u,v,w,rfl⟩:=Jav h3;unfold ZW;rw[Jr];simp only[dot,Int.mul_zero,Int.add_zero];omega
/- Copies,comparisons,marks and sizes of acts: over residual programs. -/
end Go.Proofs.YtngcnclchcahlaaGreatDoor
/- Marks,and what is held; sizes of acts: over residual programs. -/
namespace Go.Proofs.YtngcnclchcahlaaGreatDoor
open Go Go.Tm
open Go.IntKind (i64)
/- The program's CatWrites,CatReads and CatPins answer as the reference's: over residual programs. -/
end Go.Proofs.YtngcnclchcahlaaGreatDoor
/- The program's SitNew and ClkNew answer as the reference's: over residual programs. -/
namespace Go.Proofs.YtngcnclchcahlaaGreatDoor
open Go Go.Tm
open Go.IntKind (i64)
structure Pln where
 n:Int
 acts:List (List Jg)
 gives:List Int
 start:List Int
 deriving DecidableEq
def Pln.cells (p:Pln):List D:=[dI p.n,.s (Jd p.acts),.s (dL p.gives),.s (dL p.start)]
def JM (p:Pln):Prop:=X3 p.acts∧p.gives.length≤2000000∧p.start.length≤2000000
def Jt (p:Pln):Bool:=inB p.n 1 4&&(Qk p.acts&&(JJ 3 1000 p.start&&Qr p.start p.gives))
theorem ZJ (p:Pln) (hp:JM p):Ev L f_ki p.cells [dB (Jt p)]:=by
 refine Jt7 (vs:=[.i p.n,.l (Jd p.acts),.l (dL p.gives),.l (dL p.start)]) L_ki rfl ?_;refine JtE (JP p.n 1 4) rfl rfl rfl ?_;refine JtG (inB p.n 1 4) rfl (fun h1=>?_) (fun h1=>Jt0 (by show [dB false]=_;simp[Jt,h1]));refine JtE (Joa p.acts hp.1) rfl rfl rfl ?_;refine JtG (Qk p.acts) rfl (fun h2=>?_) (fun h2=>Jt0 (by show [dB false]=_;simp[Jt,h2]));refine JtE (Xj p.start 3 1000 hp.2.2 (by omega) (by omega)) rfl rfl rfl ?_;refine JtG (JJ 3 1000 p.start) rfl (fun h3=>?_) (fun h3=>Jt0 (by show [dB false]=_;simp[Jt,h3]));refine JtE (JbA p.start p.gives hp.2.2 hp.2.1) rfl rfl rfl (Jt0 ?_);show [dB (Qr p.start p.gives)]=_;simp[Jt,h1,h2,h3]
theorem WM (p:Pln) (b:List Int):Ev L f_k3n (p.cells++[.s (dL b)]) [.s (dL b),.s (dL p.gives)] :=
 Jt7 (vs:=[.i p.n,.l (Jd p.acts),.l (dL p.gives),.l (dL p.start),.l (dL b)]) L_k3n rfl (Jt0 rfl)
theorem Jfo (p:Pln) (hp:JM p):Ev L f_k3r p.cells [dB (Jt p)]:=by
 refine Jt7 (vs:=[.i p.n,.l (Jd p.acts),.l (dL p.gives),.l (dL p.start)]) L_k3r rfl ?_;refine JtE (Yf p.n 1 4) rfl rfl rfl ?_;refine JtG (inB p.n 1 4) rfl (fun h1=>?_) (fun h1=>Jt0 (by show [dB false]=_;simp[Jt,h1]));refine JtE (Wb p.acts hp.1) rfl rfl rfl ?_;refine JtG (Qk p.acts) rfl (fun h2=>?_) (fun h2=>Jt0 (by show [dB false]=_;simp[Jt,h2]));refine JtE (Xw p.start 3 1000 hp.2.2 (by omega) (by omega)) rfl rfl rfl ?_;refine JtG (JJ 3 1000 p.start) rfl (fun h3=>?_) (fun h3=>Jt0 (by show [dB false]=_;simp[Jt,h3]));refine JtE (WM p p.start) rfl rfl rfl ?_;refine JtE (JiZ p.start p.gives hp.2.2 hp.2.1) rfl rfl rfl (Jt0 ?_);show [dB (Qr p.start p.gives)]=_;simp[Jt,h1,h2,h3]
structure Sit where
 up:Bool
 frozen:Bool
 round:Int
 base:List Int
 added:List Int
 done:List Don
 deriving DecidableEq
def Sit.cells (s:Sit):List D:=[dB s.up,dB s.frozen,dI s.round,.s (dL s.base),.s (dL s.added),.s (dDs s.done)]
def Qu (s:Sit):Prop:=s.base.length≤2000000∧s.added.length≤2000000∧s.done.length≤2000000∧∀d∈s.done,d.tells.length≤2000000
def Wh:Don:=⟨0,0,[]⟩
def Z3 (p:Pln):Sit:=if Jt p then ⟨true,false,0,p.start,[0,0,0],List.replicate p.n.toNat Wh⟩ else ⟨false,false,0,[],[],[]⟩
theorem Qb {p:Pln} (h:Jt p=true):1≤p.n∧p.n≤4∧p.start.length=3∧Qr p.start p.gives=true:=by
 simp only[Jt,Jt9,Jr,Jo] at h;obtain⟨⟨h1,h2⟩,_,⟨h3,_⟩,h4⟩:=h;exact⟨h1,h2,by omega,h4⟩
theorem Jio (p:Pln) (h0:0≤p.n) (h1:p.n≤4):Ev L f_kl p.cells [.s (dDs (List.replicate p.n.toNat Wh))]:=by
 refine Jt7 (vs:=[.i p.n,.l (Jd p.acts),.l (dL p.gives),.l (dL p.start)]) L_kl rfl ?_;refine Jtt p.n.toNat (fun i=>[.l (dDs (List.replicate i Wh)),.i i]) (fun _=>True) rfl rfl trivial fun i hi _=>?_;simp only[sC,sN];have hl:(dDs (List.replicate i Wh)).length=i:=by simp[dDs]
 refine JtQ i p.n.toNat (by show decide ((i:Int)<p.n)=_;rw[show ((p.n.toNat:Nat):Int)=p.n by omega]) (fun h=>?_) (fun h=>JtA (Jt0 ?_))
 ·refine JtR (dDs (List.replicate i Wh)) 4 (by omega) (by omega) rfl ?_;refine JtK (vs:=[.l (dDs (List.replicate (i+1) Wh)),.i ((i+1:Nat):Int)]) ?_ ⟨h,rfl,trivial⟩;show [V.l (dDs (List.replicate i Wh)++[Don.g Wh]),V.i (i64.wrap ((i:Int)+1))]=_;rw[wS h (by omega),List.replicate_succ'];simp[dDs]
 ·show [D.s (dDs (List.replicate i Wh))]=_;rw[show i=p.n.toNat by omega]
theorem JjS (p:Pln) (hp:JM p):Ev L f_ko p.cells (Z3 p).cells:=by
 refine Jt7 (vs:=[.i p.n,.l (Jd p.acts),.l (dL p.gives),.l (dL p.start)]) L_ko rfl ?_;refine JtE (ZJ p hp) rfl rfl rfl ?_;refine Jt1 (Jt p) rfl (fun h=>Jt0 ?_) (fun h=>?_)
 ·show _=(Z3 p).cells;unfold Z3;rw[if_neg (by simp[h])];rfl
 obtain⟨h1,h2,h3,_⟩:=Qb h;refine Jtv (dL p.start) 2000000 (by rw[dL1];exact hp.2.2) (by omega) rfl ?_;refine JtH (JS p.start) ?_;refine Jtv (dL p.start) 2000000 (by rw[dL1];exact hp.2.2) (by omega) rfl ?_;refine JtE (Jio p (by omega) h2) rfl rfl rfl (Jt0 ?_);show _=(Z3 p).cells;unfold Z3;rw[if_pos h];rfl
/- The program's ClkNew answers as the reference's: over residual programs. -/
structure Clk where
 up:Bool
 round:Int
 base:List Int
 done:List Don
 wants:List Cal
 got:List Got
 deriving DecidableEq
def Clk.cells (s:Clk):List D:=[dB s.up,dI s.round,.s (dL s.base),.s (dDs s.done),.s (dCs s.wants),.s (dGs s.got)]
structure Up (s:Clk):Prop where
 b:s.base.length≤2000000
 d:s.done.length≤2000000
 dt :∀d∈s.done,d.tells.length≤2000000
 c:s.wants.length≤2000000
 ct :∀d∈s.wants,d.args.length≤2000000
 g:s.got.length≤2000000
 gt :∀d∈s.got,d.added.length≤2000000∧d.seqs.length≤2000000
def X5:Got:=⟨false,[],[]⟩
def XF (p:Pln):Clk:=if Jt p then ⟨true,0,p.start,List.replicate p.n.toNat Wh,[],List.replicate p.gives.length X5⟩ else ⟨false,0,[],[],[],[]⟩
theorem Jby (p:Pln) (hg:p.gives.length≤2000000):Ev L f_km p.cells [.s (dGs (List.replicate p.gives.length X5))]:=by
 refine Jt7 (vs:=[.i p.n,.l (Jd p.acts),.l (dL p.gives),.l (dL p.start)]) L_km rfl ?_;refine Jtt p.gives.length (fun i=>[.l (dGs (List.replicate i X5)),.i i]) (fun _=>True) rfl rfl trivial fun i hi _=>?_;simp only[sC,sN];have hl:(dGs (List.replicate i X5)).length=i:=by simp[dGs]
 refine JtT i (dL1 p.gives) rfl (fun h=>?_) (fun h=>JtA (Jt0 ?_))
 ·refine JtR (dGs (List.replicate i X5)) 2000000 (by omega) (by omega) rfl ?_;refine JtK (vs:=[.l (dGs (List.replicate (i+1) X5)),.i ((i+1:Nat):Int)]) ?_ ⟨h,rfl,trivial⟩;show [V.l (dGs (List.replicate i X5)++[Got.g X5]),V.i (i64.wrap ((i:Int)+1))]=_;rw[wS h (by omega),List.replicate_succ'];simp[dGs]
 ·show [D.s (dGs (List.replicate i X5))]=_;rw[show i=p.gives.length by omega]
theorem Jjo (p:Pln) (hp:JM p):Ev L f_kn p.cells (XF p).cells:=by
 refine Jt7 (vs:=[.i p.n,.l (Jd p.acts),.l (dL p.gives),.l (dL p.start)]) L_kn rfl ?_;refine JtE (ZJ p hp) rfl rfl rfl ?_;refine Jt1 (Jt p) rfl (fun h=>Jt0 ?_) (fun h=>?_)
 ·show _=(XF p).cells;unfold XF;rw[if_neg (by simp[h])];rfl
 obtain⟨h1,h2,h3,_⟩:=Qb h;refine Jtv (dL p.start) 2000000 (by rw[dL1];exact hp.2.2) (by omega) rfl ?_;refine JtH (JS p.start) ?_;refine Jtv (dL p.start) 2000000 (by rw[dL1];exact hp.2.2) (by omega) rfl ?_;refine JtE (Jio p (by omega) h2) rfl rfl rfl ?_;refine JtE (Jby p hp.2.1) rfl rfl rfl (Jt0 ?_);show _=(XF p).cells;unfold XF;rw[if_pos h];rfl
/- The program's LocTry answers as the reference's: over residual programs. -/
theorem JcZ (as:List (List Jg)) (b g:List Int) (s:Int) (a:List Int) (k:Int) (w:List Int) (ha:a.length≤2000000):(KH as b g s a k w).tells.length≤2000000∧(KH as b g s a k w).adds.length≤2000000:=by
 have key :∀r,r∈Js (as.getD k.toNat [])→(YB b g (Jb as) (Jh as) s a w r).tells.length≤2000000∧(YB b g (Jb as) (Jh as) s a w r).adds.length≤2000000:=by
  intro r hr;have hf:=XT r hr;have hs:(J2 a (atL r.adds b w)).length≤a.length:=by unfold J2;rw[List.length_zipWith];omega
  have ht:(atL r.tells b w).length=r.tells.length:=by simp[atL]
  have htl:=hf.tl;unfold YB
  repeat' split
  all_goals first
   | exact⟨by simp,ha⟩
   | exact⟨by simp only[ht];omega,by simp only;omega⟩
 unfold KH;split
 ·split
  ·rename_i r hr;exact key r (List.mem_of_find?_eq_some hr)
  ·exact⟨by simp,ha⟩
 ·exact⟨by simp,by simp⟩
/- Marks,and what is held,of plans,sites and clients: over residual programs. Printed by wip/tools/pzl.py. -/
def Sit.w (s:Sit):Nat:=3+s.base.length+s.added.length+wts Don.w s.done
def Sit.g (s:Sit):D:= .g s.cells
structure Con where
 seq:Int
 busy:Bool
 call:Cal
 code:Int
 tells:List Int
 deriving DecidableEq
def Con.cells (s:Con):List D:=[dI s.seq,dB s.busy,dI s.call.client,dI s.call.seq,dI s.call.act,.s (dL s.call.args),dI s.code,.s (dL s.tells)]
def Con.g (s:Con):D:= .g s.cells
def JjK (s:Con):Prop:=s.call.args.length≤2000000∧s.tells.length≤2000000
def Con.w (s:Con):Nat:=6+s.call.args.length+s.tells.length
/- The program's WldNew answers as the reference's: over residual programs. -/
end Go.Proofs.YtngcnclchcahlaaGreatDoor
/- The program's WldNew answers as the reference's: the functions,and the law: over residual programs. -/
namespace Go.Proofs.YtngcnclchcahlaaGreatDoor
open Go Go.Tm
open Go.IntKind (i64)
theorem Jro (l:List Jg) (x:Jg):Jl l++[x.g]=Jl (l++[x]):=by simp[Jl]
theorem JqS (l:List (List Jg)) (x:List Jg):Jd l++[.s (Jl x)]=Jd (l++[x]):=by simp[Jd]
theorem JgX (as:List (List Jg)) (hf:X3 as):Ev L f_kj [.s (Jd as)] [.s (Jd as)]:=by
 refine Jt7 (vs:=[.l (Jd as)]) L_kj rfl ?_;have hl:=hf.1;refine Jtt as.length (fun i=>[.l (Jd (as.take i)),.i i]) (fun _=>True) rfl rfl trivial fun i hi _=>?_;simp only[sC,sN];refine JtT i (JK as) rfl (fun h=>?_) (fun h=>JtA (Jt0 ?_))
 ·obtain⟨a,ha,hm⟩:=sA1 h;obtain⟨hal,hax⟩:=hf.2 a hm;refine Jtt a.length (fun j=>[.l (Jl (a.take j)),.i j]) (fun _=>True) rfl rfl trivial fun j hj _=>?_;simp only[sC,sN];refine JtY (vs:=[.l (Jl a)]) i (mA1 (f:=fun a=>D.s (Jl a)) ha) rfl rfl rfl rfl ?_;simp only[sC,sN];refine JtT j (JN a) rfl (fun h'=>?_) (fun h'=>?_)
  ·obtain⟨x,hx,hmx⟩:=sA1 h';have hxf:=hax x hmx;refine JtY (vs:=[.l (Jl a)]) i (mA1 (f:=fun a=>D.s (Jl a)) ha) rfl rfl rfl rfl ?_;simp only[sC,sN];refine JtY (vs:=[.i x.kind,.i x.pot,.i x.skip,.l (dL x.f.c),.l (dL x.f.d),.i x.f.k]) j (mA1 (f:=Jg.g) hx) rfl rfl rfl rfl ?_;simp only[sC,sN];refine Jtv (dL x.f.c) 2000000 (by rw[dL1];exact hxf.1) (by omega) rfl ?_;refine JtH (JS x.f.c) ?_;refine Jtv (dL x.f.c) 2000000 (by rw[dL1];exact hxf.1) (by omega) rfl ?_;refine Jtv (dL x.f.d) 2000000 (by rw[dL1];exact hxf.2) (by omega) rfl ?_;refine JtH (JS x.f.d) ?_;refine Jtv (dL x.f.d) 2000000 (by rw[dL1];exact hxf.2) (by omega) rfl ?_;refine JtR (Jl (a.take j)) 2000000 (by rw[JN];simp;omega) (by omega) rfl ?_;refine JtK (vs:=[.l (Jl (a.take (j+1))),.i ((j+1:Nat):Int)]) ?_ ⟨h',rfl,trivial⟩;show [V.l (Jl (a.take j)++[x.g]),V.i (i64.wrap ((j:Int)+1))]=_;rw[wS h' (by omega),Jro,tS1 hx]
  ·refine JtA ?_;rw[tA1 h'];refine JtR (Jd (as.take i)) 2000000 (by rw[JK];simp;omega) (by omega) rfl ?_;refine JtK (vs:=[.l (Jd (as.take (i+1))),.i ((i+1:Nat):Int)]) ?_ ⟨h,rfl,trivial⟩;show [V.l (Jd (as.take i)++[.s (Jl a)]),V.i (i64.wrap ((i:Int)+1))]=_;rw[wS h (by omega),JqS,tS1 ha]
 ·show [D.s (Jd (as.take i))]=_;rw[tA1 h]
theorem Ji2 (p:Pln) (hp:JM p):Ev L f_kk p.cells p.cells:=by
 refine Jt7 (vs:=[.i p.n,.l (Jd p.acts),.l (dL p.gives),.l (dL p.start)]) L_kk rfl ?_;refine JtE (JgX p.acts hp.1) rfl rfl rfl ?_;refine Jtv (dL p.gives) 2000000 (by rw[dL1];exact hp.2.1) (by omega) rfl ?_;refine JtH (JS p.gives) ?_;refine Jtv (dL p.gives) 2000000 (by rw[dL1];exact hp.2.1) (by omega) rfl ?_;refine Jtv (dL p.start) 2000000 (by rw[dL1];exact hp.2.2) (by omega) rfl ?_;refine JtH (JS p.start) ?_;refine Jtv (dL p.start) 2000000 (by rw[dL1];exact hp.2.2) (by omega) rfl ?_;exact Jt0 rfl
structure Wld where
 p:Pln
 sites:List Sit
 c:Clk
 cons:List Con
def Wld.cells (w:Wld):List D:=[dI w.p.n,.s (Jd w.p.acts),.s (dL w.p.gives),.s (dL w.p.start),.s (w.sites.map Sit.g),dB w.c.up,dI w.c.round,.s (dL w.c.base),.s (dDs w.c.done),.s (dCs w.c.wants),.s (dGs w.c.got),.s (w.cons.map Con.g),.s [],.s []]
def Jgp:Con:=⟨0,false,⟨0,0,0,[]⟩,0,[]⟩
def W6 (p:Pln):Wld:=if Jt p then ⟨p,List.replicate p.gives.length (Z3 p),XF p,List.replicate p.n.toNat Jgp⟩ else ⟨⟨0,[],[],[]⟩,[],XF p,[]⟩
theorem JjV (p:Pln) (hp:JM p):Ev L f_kp p.cells (W6 p).cells:=by
 refine Jt7 (vs:=[.i p.n,.l (Jd p.acts),.l (dL p.gives),.l (dL p.start)]) L_kp rfl ?_;refine JtE (ZJ p hp) rfl rfl rfl ?_;refine Jt1 (Jt p) rfl (fun h=>Jt0 ?_) (fun h=>?_)
 ·show _=(W6 p).cells;unfold W6 XF;rw[if_neg (by simp[h]),if_neg (by simp[h])];rfl
 obtain⟨h1,h2,h3,_⟩:=Qb h;have hW:W6 p=⟨p,List.replicate p.gives.length (Z3 p),XF p,List.replicate p.n.toNat Jgp⟩:=by unfold W6;rw[if_pos h]
 rw[hW];have hsn:=JjS p hp;have hcn:=Jjo p hp;have hg:=hp.2.1;generalize Z3 p=s at *;generalize XF p=c at *;refine JtE (vs:=[.i p.n,.l (Jd p.acts),.l (dL p.gives),.l (dL p.start)]) (Ji2 p hp) rfl rfl rfl ?_;simp only[sC,sN];refine JtE (vs:=[.b c.up,.i c.round,.l (dL c.base),.l (dDs c.done),.l (dCs c.wants),.l (dGs c.got)]) hcn rfl rfl rfl ?_;simp only[sC,sN];refine Jtt p.gives.length (fun i=>[.l ((List.replicate i s).map Sit.g),.i i]) (fun _=>True) rfl rfl trivial fun i hi _=>?_;simp only[sC,sN];refine JtT i (dL1 p.gives) rfl (fun h=>?_) (fun h'=>JtA ?_)
 ·refine JtE (vs:=[.b s.up,.b s.frozen,.i s.round,.l (dL s.base),.l (dL s.added),.l (dDs s.done)]) hsn rfl rfl rfl ?_;simp only[sC,sN];refine JtR ((List.replicate i s).map Sit.g) 2000000 (by simp;omega) (by omega) rfl ?_;refine JtK (vs:=[.l ((List.replicate (i+1) s).map Sit.g),.i ((i+1:Nat):Int)]) ?_ ⟨h,rfl,trivial⟩;show [V.l ((List.replicate i s).map Sit.g++[Sit.g s]),V.i (i64.wrap ((i:Int)+1))]=_;rw[wS h (by omega),List.replicate_succ'];simp
 have hil:i=p.gives.length:=by omega
 subst hil;refine Jtt p.n.toNat (fun i=>[.l ((List.replicate i Jgp).map Con.g),.i i]) (fun _=>True) rfl rfl trivial fun j hj _=>?_;simp only[sC,sN];refine JtQ j p.n.toNat (by show decide ((j:Int)<p.n)=_;rw[show ((p.n.toNat:Nat):Int)=p.n by omega]) (fun h=>?_) (fun h'=>JtA (Jt0 ?_))
 ·refine JtR ((List.replicate j Jgp).map Con.g) 4 (by simp;omega) (by omega) rfl ?_;refine JtK (vs:=[.l ((List.replicate (j+1) Jgp).map Con.g),.i ((j+1:Nat):Int)]) ?_ ⟨h,rfl,trivial⟩;show [V.l ((List.replicate j Jgp).map Con.g++[Con.g Jgp]),V.i (i64.wrap ((j:Int)+1))]=_;rw[wS h (by omega),List.replicate_succ'];simp
 ·have hjl:j=p.n.toNat:=by omega
  subst hjl;rfl
end Go.Proofs.YtngcnclchcahlaaGreatDoor

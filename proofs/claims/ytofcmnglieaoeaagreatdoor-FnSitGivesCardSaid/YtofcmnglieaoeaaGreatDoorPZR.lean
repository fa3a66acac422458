import Derived.Test.YtofcmnglieaoeaaGreatDoorPY
import Derived.Test.YtofcmnglieaoeaaGreatDoorTd
import Derived.Test.YtofcmnglieaoeaaGreatDoorPM
import Derived.Test.YtofcmnglieaoeaaGreatDoorPP
import Derived.Laws.Strings
import Derived.Lib.ItoaLen
set_option linter.unusedVariables false
set_option linter.unusedSimpArgs false
/- What a site does alone: the specification's tries,over residual programs. -/
namespace Go.Proofs.YtofcmnglieaoeaaGreatDoor
open Go Go.Tm
open Go.IntKind (i64)
theorem Jde {a b:List Int} (ha:a.length=3) (hb:b.length=3) (la:Lim 4000000000000000000 a) (lb:Lim 4000000000000000000 b):Ev L f_k22 [.s (dL a),.s (dL b)] [.s (dL (Qn a b))]:=by
 refine Jud (vs:=[.l (dL a),.l (dL b)]) L_k22 rfl ?_;refine Jt5 3 (fun i=>[.l (dL ((Qn a b).take i)),.i i]) (fun _=>True) rfl rfl trivial fun i hi _=>?_;simp only[sC,sN];refine JtZ i 3 rfl (fun h=>?_) (fun h=>?_)
 ·obtain⟨x,hx,hmx⟩:=sA1 (show i<a.length by omega);obtain⟨y,hy,hmy⟩:=sA1 (show i<b.length by omega);have hxl:=la x hmx;have hyl:=lb y hmy;have hs:(Qn a b)[i]? = some (x+y):=by unfold Qn;rw[List.getElem?_zipWith,hx,hy]
  refine Jt3 i (mA1 (f:=dI) hx) rfl rfl rfl rfl ?_;refine Jt3 i (mA1 (f:=dI) hy) rfl rfl rfl rfl ?_;refine Juc (dL ((Qn a b).take i)) 10 (by rw[dL1];simp;omega) (by omega) rfl ?_;refine JtH (vs:=[.l (dL ((Qn a b).take (i+1))),.i ((i+1:Nat):Int)]) ?_ ⟨h,rfl,trivial⟩;show [V.l (dL ((Qn a b).take i)++[dI (i64.wrap (x+y))]),V.i (i64.wrap ((i:Int)+1))]=_;rw[wS h (by omega),w64 (by omega) (by omega),Xa,tS1 hs]
 ·refine JtX (Jt9 ?_);show [D.s (dL ((Qn a b).take i))]=_;rw[Jum (by rw[ZU (by omega)];omega)]
theorem Jm9 (b g:List Int) (pins:List Bool) (r:Row) (w:List Int) (hp:pins.length=3) (hr:YO r) (hs:r.stop=false) (hb:JU b=true) (hw:Q7 w=true) :
  Ev L f_k27 ([.s (dL b),.s (dL g),.s (dBl pins)]++r.cells++[.s (dL w)]) [.s (dL (if Qe pins (atL r.adds b w) then atL r.adds b w else [0,0,0])),dB (Qe pins (atL r.adds b w))]:=by
 refine Jud (vs:=[.l (dL b),.l (dL g),.l (dBl pins),.l (dF r.guards),.l (dF r.adds),.l (dF r.tells),.b r.stop,.l (dL w)]) L_k27 rfl ?_;have hal:=hr.ns hs;have hab:=Jha hb hw hr.a;have hll:=Jg3 r.adds b w;refine Jt5 3 (fun i=>[.l (dL ((atL r.adds b w).take i)),.i i]) (fun i=>(((atL r.adds b w).zip pins).take i).all (fun q=>!(q.2 && !decide (q.1=0)))=true) rfl rfl rfl fun i hi hq=>?_;simp only[sC,sN];refine JtZ i 3 rfl (fun h=>?_) (fun h=>?_)
 ·obtain⟨f,hf,hm⟩:=sA1 (show i<r.adds.length by omega);obtain⟨p,hpi,_⟩:=sA1 (show i<pins.length by omega);have hx:(atL r.adds b w)[i]? = some (atF f b w):=by simp[atL,hf]
  have hz:=Wr hx hpi;have hat:=Jgs (hab f hm);generalize atF f b w=x at *;generalize atL r.adds b w=xs at *;refine Jt3 i (mA1 (f:=Frm.g) hf) rfl rfl rfl rfl ?_;refine JtL hat rfl rfl rfl ?_;refine Jt3 i (mA1 (f:=dB) hpi) rfl rfl rfl rfl ?_;simp only[sC,sN];have hnx:[V.l (dL (xs.take i)++[dI x]),V.i (i64.wrap ((i:Int)+1))]=[V.l (dL (xs.take (i+1))),V.i ((i+1:Nat):Int)]:=by
   rw[wS h (by omega),Xa,tS1 hx]
  refine Jua p rfl (fun hp1=>?_) (fun hp1=>?_)
  ·refine JtI (decide (x=0)) rfl (fun h0=>JtX (Jt9 ?_)) (fun h0=>?_)
   ·have hst:Qe pins xs=false:=by unfold Qe;rw[Yl hz (by simp only[h0,hp1];rfl)]
    rw[hst];rfl
   ·refine Juc (dL (xs.take i)) 10 (by rw[dL1];simp;omega) (by omega) rfl ?_;exact JtH hnx ⟨h,rfl,QW hz hq (by simp only[h0];simp)⟩
  ·refine Juc (dL (xs.take i)) 10 (by rw[dL1];simp;omega) (by omega) rfl ?_;exact JtH hnx ⟨h,rfl,QW hz hq (by simp only[hp1];rfl)⟩
 ·refine JtX (Jt9 ?_);rw[Jum (by simp;omega)] at hq;have hst:Qe pins (atL r.adds b w)=true:=by unfold Qe;rw[hq]
  rw[hst];show [D.s (dL ((atL r.adds b w).take i)),dB true]=_;rw[Jum (by omega)];rfl
theorem Jng:Q7 [0,0]=true:=by decide
theorem JjU {as:List (List Jg)} {b g:List Int} {s:Int} {a w:List Int} (h:Qs as=true) (hf:YZ b g (Jb as) s a=true) (hw:Q7 w=true) (hb:b.length≤2000000) (hg:g.length≤2000000) (ha:a.length≤2000000) :
  Ev L f_k28 [.s (dL b),.s (dL g),.s (dLL (Jb as)),dI s,.s (dL a)] [dI (if [0,1,2].any (ovM b g (Jb as) s a w) then 2 else if [0,1,2].any (unM b g (Jb as) s a w) then 0 else 1)]:=by
 refine Jud (vs:=[.l (dL b),.l (dL g),.l (dLL (Jb as)),.i s,.l (dL a)]) L_k28 rfl ?_;have hps:fitLL (Jb as):=(Xc as).fitLL (by omega);obtain⟨O,U,hr⟩ : ∃ O U,Jdc O U b g (Jb as) s a w:=⟨_,_,fun _=>⟨rfl,rfl⟩⟩;have hno :∀(i:Nat) (x:Nat),[0,1,2][i]? = some x→ovM b g (Jb as) s a w x=true→[0,1,2].any (ovM b g (Jb as) s a w)=true:=fun i x hx h=>List.any_eq_true.2 ⟨x,Jup hx,h⟩;refine Jt5 3 (fun i=>[.i (if U i then 0 else 1),.i i]) (fun i=>O i=false) rfl (by rw[hr.zero.2];rfl) hr.zero.1 fun j hj hO=>?_;simp only[sC,sN];refine JtZ j 3 rfl (fun hj3=>?_) (fun hj3=>?_)
 ·obtain⟨sO,sU⟩:=hr.step hj3;have hov:=hno j j (JeA hj3);have hovd:ovM b g (Jb as) s a w j=(decide (10000<(JT b g (Jb as) s a (JA j) w).1)||decide ((JT b g (Jb as) s a (JA j) w).2.1 < -10000)):=rfl;rw[hovd] at hov;have eP:=ZI (j:Int) (by omega) (by omega);have eB:=Jeu b g (Jb as) s a (JA j) [0,0] hb hg hps ha Xe.fit (by decide);rw[JeB h hf Jng hj3] at eB;rw[JeB h hf hw hj3] at sO sU hov;rw[Int.toNat_natCast] at eP;refine JtL eP rfl rfl rfl ?_;refine JtL eB rfl rfl rfl ?_;simp only[sC,sN];generalize (Qn b a).getD j 0-JK g s=lo at *;generalize (Qn b a).getD j 0+JK g s=hi at *;generalize [0,1,2].any (ovM b g (Jb as) s a w)=OO at *;generalize [0,1,2].any (unM b g (Jb as) s a w)=UU at *;simp only at sO sU hov;have nx :∀(x:Int) {vs:List V},vs=[V.i x,V.i (i64.wrap ((j:Int)+1))]→(if U (j+1) then 0 else 1)=x→vs=[V.i (if U (j+1) then 0 else 1),V.i ((j+1:Nat):Int)]:=by
   rintro x _ rfl rfl;rw[wS hj3 (by omega)]
  refine Jt1 rfl ?_;refine Jt2 (10000<lo) rfl (fun hl=>JtX (Jt9 ?_)) (fun hl=>?_)
  ·rw[hov (by rw[decide_eq_true hl];rfl)];rfl
  refine Jt2 (hi < -10000) rfl (fun hh=>JtX (Jt9 ?_)) (fun hh=>?_)
  ·rw[hov (by rw[decide_eq_true hh,Bool.or_true])];rfl
  have hO':O (j+1)=false:=by rw[sO,hO,decide_eq_false hl,decide_eq_false hh];rfl
  refine JtG rfl ?_;refine Jt2 (lo < -10000) rfl (fun h1=>?_) (fun h1=>?_)
  ·exact JtH (nx 0 rfl (by rw[sU,decide_eq_true h1];simp)) ⟨hj3,rfl,hO'⟩
  refine Jt2 (10000<hi) rfl (fun h2=>?_) (fun h2=>?_)
  ·exact JtH (nx 0 rfl (by rw[sU,decide_eq_true h2];simp)) ⟨hj3,rfl,hO'⟩
  exact JtH (nx (if U j then 0 else 1) rfl (by rw[sU,decide_eq_false h1,decide_eq_false h2];simp)) ⟨hj3,rfl,hO'⟩
 ·have hj:j=3:=by omega
  subst hj;refine JtX (Jt9 ?_);rw[hr.three.1] at hO;show [dI (if U 3 then 0 else 1)]=_;rw[hO,hr.three.2];rfl
theorem JnD {as:List (List Jg)} {b g:List Int} {s:Int} {a w:List Int} {r:Row} (h:Qs as=true) (hf:YZ b g (Jb as) s a=true) (hw:Q7 w=true) (hg:g.length≤2000000) (hfr:YO r) :
  Ev L f_k29 ([.s (dL b),.s (dL g),.s (dLL (Jb as)),.s (dBl (Jj as)),dI s,.s (dL a)]++r.cells++[.s (dL w)]) (KG b g (Jb as) (Jj as) s a w r).ds:=by
 refine Jud (vs:=[.l (dL b),.l (dL g),.l (dLL (Jb as)),.l (dBl (Jj as)),.i s,.l (dL a),.l (dF r.guards),.l (dF r.adds),.l (dF r.tells),.b r.stop,.l (dL w)]) L_k29 rfl ?_;have hps:fitLL (Jb as):=(Xc as).fitLL (by omega);have hpi:=UX h;obtain⟨_,_,_,_,hb3,ha3,hgr⟩:=Zx hf;have hvb:JU b=true:=QH.2 hb3;unfold KG;refine Jua r.stop rfl (fun hst=>?_) (fun hst=>?_)
 ·rw[if_pos hst];exact JtT a (by omega) (by omega) rfl (Jt9 rfl)
 rw[if_neg (by rw[hst];simp)];have hal:=hfr.ns hst;have hla:=Jpy (Jha hvb hw hfr.a);have hll:=Jg3 r.adds b w;refine JtL (Jm9 b g (Jj as) r w hpi hfr hst hvb hw) rfl rfl rfl ?_;simp only[sC,sN];generalize atL r.adds b w=x at *
 by_cases h5:Qe (Jj as) x=true
 case neg =>
  rw[if_neg h5,if_neg (show ¬(Qe (Jj as) x&&Qw (Qn a x))=true by simp[h5])];refine JtL (Jde (b:=[0,0,0]) ha3.1 rfl (Lim.mono (m:=20000) ha3.2 (by omega)) (by intro y hy;simp at hy;omega)) rfl rfl rfl ?_;refine Jt1 (by show (!(Qe (Jj as) x))=true;simp[h5]) ?_;exact JtT a (by omega) (by omega) rfl (Jt9 rfl)
 rw[if_pos h5,h5];refine JtL (Jde ha3.1 (by omega) (Lim.mono (m:=20000) ha3.2 (by omega)) (hla.mono (by omega))) rfl rfl rfl ?_;simp only[sC,sN];refine JtG rfl ?_;have hnl:(Qn a x).length≤2000000:=by rw[ZU (by omega)];omega
 generalize Qn a x=now at *;refine JtL (Xr now 3 20000 hnl (by omega) (by omega)) rfl rfl rfl ?_;refine JtI (Qw now) rfl (fun h6=>?_) (fun h6=>?_)
 ·rw[if_neg (by rw[h6];simp)];exact JtT a (by omega) (by omega) rfl (Jt9 rfl)
 rw[if_pos (by rw[h6];rfl)];simp only[sC,sN];refine JtL (JjU h (JnB hf h6) hw (by omega) hg hnl) rfl rfl rfl ?_;simp only[sC,sN];generalize [0,1,2].any (ovM b g (Jb as) s now w)=OO at *;generalize [0,1,2].any (unM b g (Jb as) s now w)=UU at *;cases OO with
 | true =>
  simp only[if_true];refine Jt1 rfl ?_;exact JtT a (by omega) (by omega) rfl (Jt9 rfl)
 | false =>
  cases UU with
  | true =>
   simp only[Juy,if_false,if_true];refine JtG rfl (Jt1 rfl ?_);exact JtT a (by omega) (by omega) rfl (Jt9 rfl)
  | false =>
   simp only[Juy,if_false];refine JtG rfl (JtG rfl ?_);refine JtL (Zw b g (Jb as) s now (by omega) hg hps hnl) rfl rfl rfl ?_;refine JtI (keeps b g (Jb as) s now) rfl (fun h7=>?_) (fun h7=>?_)
   ·rw[if_neg (by rw[h7];simp)];exact JtT a (by omega) (by omega) rfl (Jt9 rfl)
   rw[if_pos h7];simp only[sC,sN];have htl:=hfr.tl;refine Jt5 r.tells.length (fun i=>[.l (dL (atL (r.tells.take i) b w)),.i i]) (fun _=>True) rfl rfl trivial fun i hi _=>?_;simp only[sC,sN];refine JtN i (J4 r.tells) rfl (fun h'=>?_) (fun h'=>?_)
   ·obtain⟨f,hf',hm⟩:=sA1 h';refine Jt3 i (mA1 (f:=Frm.g) hf') rfl rfl rfl rfl ?_;refine JtL (Jgs (Jha hvb hw hfr.t f hm)) rfl rfl rfl ?_;refine Juc (dL (atL (r.tells.take i) b w)) 10 (by rw[dL1,Jg3];simp;omega) (by omega) rfl ?_;refine JtH (vs:=[.l (dL (atL (r.tells.take (i+1)) b w)),.i ((i+1:Nat):Int)]) ?_ ⟨h',rfl,trivial⟩;show [V.l (dL (atL (r.tells.take i) b w)++[dI (atF f b w)]),V.i (i64.wrap ((i:Int)+1))]=_;rw[wS h' (by omega),Xa,tS1 hf'];simp[atL]
   ·refine JtX (Jt9 ?_);show [dI 1,D.s (dL (atL (r.tells.take i) b w)),.s (dL now),dB true]=_;rw[tA1 h'];rfl
theorem JoF {as:List (List Jg)} {b g:List Int} {s:Int} {a:List Int} {k:Int} {w:List Int} (hf:Ym as) (hg:g.length≤2000000) (hfine:YY as b g s a k w=true) :
  Ev L f_k2a [.s (Je as),.s (dLL (Jb as)),.s (dBl (Jj as)),.s (dL b),.s (dL g),dI s,.s (dL a),dI k,.s (dL w)] (Ja9 as b g s a k w).ds:=by
 refine Jud (vs:=[.l (Je as),.l (dLL (Jb as)),.l (dBl (Jj as)),.l (dL b),.l (dL g),.i s,.l (dL a),.i k,.l (dL w)]) L_k2a rfl ?_;obtain⟨h1,hk,h3,hke,_⟩:=KD.1 hfine;obtain⟨hm,hkx⟩:=Jav (as:=as) hk.1 hk.2;have hfi:=Xu hke;obtain⟨_,_,_,_,hb3,ha3,hgr⟩:=Zx hfi;have hM:Ja9 as b g s a k w=(match (Ju (as.getD k.toNat [])).find? (KT b g (Jb as) s a w) with | some r=>KG b g (Jb as) (Jj as) s a w r | none=>⟨0,[],a,false⟩):=by unfold Ja9;rw[if_pos hfine];cases (Ju (as.getD k.toNat [])).find? (KT b g (Jb as) s a w) <;> rfl
 rw[hM];clear hM;have hps:fitLL (Jb as):=(Xc as).fitLL (by omega);have hw2:=(X3.1 h3).1;have fitb:FitB b g (Jb as) a w:=⟨by omega,hg,hps,by omega,by omega⟩;refine JtJ (ds:=Je as) k rfl rfl rfl hk.1 (mA1 (f:=fun a=> .s (Jk a)) hkx) rfl ?_;refine JtL (Je5 (as.getD k.toNat []) (hf.2 _ hm)) rfl rfl rfl ?_;have hrf :∀r∈Ju (as.getD k.toNat []),YO r:=Yi;have hrl:=Ua (as.getD k.toNat []);generalize Ju (as.getD k.toNat [])=rs at *;generalize as.getD k.toNat []=act at *;simp only[sC,sN];refine Jt5 rs.length (fun i=>[.i i]) (fun i=>(rs.take i).any (KT b g (Jb as) s a w)=false) rfl rfl rfl fun i hi hq=>?_;simp only[sC,sN];refine JtN i (X6 rs) rfl (fun h'=>?_) (fun h'=>?_)
 ·obtain⟨r,hr,hmr⟩:=sA1 h';refine JtO i (rdR hr) rfl rfl rfl rfl rfl rfl ?_;refine JtL (Jl5 b g (Jb as) s a w fitb r (hrf r hmr)) rfl rfl rfl ?_;simp only[sC,sN];refine Jua (KT b g (Jb as) s a w r) rfl (fun hs=>?_) (fun hs=>?_)
  ·refine JtO i (rdR hr) rfl rfl rfl rfl rfl rfl ?_;refine JtL (JnD h1 hfi h3 hg (hrf r hmr)) rfl rfl rfl ?_;rw[Jpw hr hs hq];exact JtX (Jt9 rfl)
  ·refine JtH (vs:=[.i ((i+1:Nat):Int)]) ?_ ⟨h',rfl,Jdz hr hq hs⟩;show [V.i (i64.wrap ((i:Int)+1))]=_;rw[wS h' (by omega)]
 ·refine JtX ?_;rw[tA1 h'] at hq;rw[Jm0 hq];exact JtT a (by omega) (by omega) rfl (Jt9 rfl)
/- What a site does alone: draws; who gives more can do more: over residual programs. -/
end Go.Proofs.YtofcmnglieaoeaaGreatDoor
/- What one site does alone is what would come of it over all: over residual programs. The sum here hands its list back. -/
namespace Go.Proofs.YtofcmnglieaoeaaGreatDoor
open Go Go.Tm
open Go.IntKind (i64)
theorem JhO {b g:List Int} {ps:List (List Int)} {s:Int} (hp:QO ps=true) (ht:Qr b g=true) (hs:0≤s∧s<g.length):keeps b g ps s [0,0,0]=true:=by
 have ht':=ht;simp only[Qr,Jui,Jp,Juv] at ht';unfold keeps;have g0:=ht'.2;obtain⟨x,hx,hm⟩:=sA1 (show s.toNat<g.length by omega);have e:g.getD s.toNat 0=x:=by simp[Jul,hx]
 have:=g0 x hm;rw[ht,hp,e];simp only[JuC,Jui,Jp,Juv];refine⟨⟨by omega,by decide⟩,fun p hpp=>?_⟩;have h3:p.length=3:=by
  simp only[QO,Juv,Jo] at hp;have:=(hp p hpp).1;omega
 obtain⟨u,v,w,rfl⟩:=Jab h3;unfold ZV;rw[Jp];simp only[dot,Int.mul_zero,Int.add_zero];omega
/- Copies,comparisons,marks and sizes of acts: over residual programs. -/
end Go.Proofs.YtofcmnglieaoeaaGreatDoor
/- Marks,and what is held; sizes of acts: over residual programs. -/
namespace Go.Proofs.YtofcmnglieaoeaaGreatDoor
open Go Go.Tm
open Go.IntKind (i64)
/- The program's CatWrites,CatReads and CatPins answer as the reference's: over residual programs. -/
end Go.Proofs.YtofcmnglieaoeaaGreatDoor
/- The program's SitNew and ClkNew answer as the reference's: over residual programs. -/
namespace Go.Proofs.YtofcmnglieaoeaaGreatDoor
open Go Go.Tm
open Go.IntKind (i64)
structure Pln where
 n:Int
 acts:List (List Jg)
 gives:List Int
 start:List Int
 deriving DecidableEq
def Pln.cells (p:Pln):List D:=[dI p.n,.s (Je p.acts),.s (dL p.gives),.s (dL p.start)]
def JN (p:Pln):Prop:=Ym p.acts∧p.gives.length≤2000000∧p.start.length≤2000000
def JC (p:Pln):Bool:=inB p.n 1 4&&(Qs p.acts&&(JG 3 1000 p.start&&Qr p.start p.gives))
theorem ZL (p:Pln) (hp:JN p):Ev L f_ki p.cells [dB (JC p)]:=by
 refine Jud (vs:=[.i p.n,.l (Je p.acts),.l (dL p.gives),.l (dL p.start)]) L_ki rfl ?_;refine JtL (JQ p.n 1 4) rfl rfl rfl ?_;refine Jua (inB p.n 1 4) rfl (fun h1=>?_) (fun h1=>Jt9 (by show [dB false]=_;simp[JC,h1]));refine JtL (Jot p.acts hp.1) rfl rfl rfl ?_;refine Jua (Qs p.acts) rfl (fun h2=>?_) (fun h2=>Jt9 (by show [dB false]=_;simp[JC,h2]));refine JtL (Xr p.start 3 1000 hp.2.2 (by omega) (by omega)) rfl rfl rfl ?_;refine Jua (JG 3 1000 p.start) rfl (fun h3=>?_) (fun h3=>Jt9 (by show [dB false]=_;simp[JC,h3]));refine JtL (Jbm p.start p.gives hp.2.2 hp.2.1) rfl rfl rfl (Jt9 ?_);show [dB (Qr p.start p.gives)]=_;simp[JC,h1,h2,h3]
theorem Jet (p:Pln) (b:List Int):Ev L f_k3o (p.cells++[.s (dL b)]) [.s (dL b),.s (dL p.gives)] :=
 Jud (vs:=[.i p.n,.l (Je p.acts),.l (dL p.gives),.l (dL p.start),.l (dL b)]) L_k3o rfl (Jt9 rfl)
theorem JfK (p:Pln) (hp:JN p):Ev L f_k3s p.cells [dB (JC p)]:=by
 refine Jud (vs:=[.i p.n,.l (Je p.acts),.l (dL p.gives),.l (dL p.start)]) L_k3s rfl ?_;refine JtL (X8 p.n 1 4) rfl rfl rfl ?_;refine Jua (inB p.n 1 4) rfl (fun h1=>?_) (fun h1=>Jt9 (by show [dB false]=_;simp[JC,h1]));refine JtL (JbC p.acts hp.1) rfl rfl rfl ?_;refine Jua (Qs p.acts) rfl (fun h2=>?_) (fun h2=>Jt9 (by show [dB false]=_;simp[JC,h2]));refine JtL (XG p.start 3 1000 hp.2.2 (by omega) (by omega)) rfl rfl rfl ?_;refine Jua (JG 3 1000 p.start) rfl (fun h3=>?_) (fun h3=>Jt9 (by show [dB false]=_;simp[JC,h3]));refine JtL (Jet p p.start) rfl rfl rfl ?_;refine JtL (JiM p.start p.gives hp.2.2 hp.2.1) rfl rfl rfl (Jt9 ?_);show [dB (Qr p.start p.gives)]=_;simp[JC,h1,h2,h3]
structure Sit where
 up:Bool
 frozen:Bool
 round:Int
 base:List Int
 added:List Int
 done:List Don
 deriving DecidableEq
def Sit.cells (s:Sit):List D:=[dB s.up,dB s.frozen,dI s.round,.s (dL s.base),.s (dL s.added),.s (dDs s.done)]
def Qa (s:Sit):Prop:=s.base.length≤2000000∧s.added.length≤2000000∧s.done.length≤2000000∧∀d∈s.done,d.tells.length≤2000000
def Wc:Don:=⟨0,0,[]⟩
def Kj (p:Pln):Sit:=if JC p then ⟨true,false,0,p.start,[0,0,0],List.replicate p.n.toNat Wc⟩ else ⟨false,false,0,[],[],[]⟩
theorem J1 {p:Pln} (h:JC p=true):1≤p.n∧p.n≤4∧p.start.length=3∧Qr p.start p.gives=true:=by
 simp only[JC,Jui,Jp,Jo] at h;obtain⟨⟨h1,h2⟩,_,⟨h3,_⟩,h4⟩:=h;exact⟨h1,h2,by omega,h4⟩
theorem JiR (p:Pln) (h0:0≤p.n) (h1:p.n≤4):Ev L f_kl p.cells [.s (dDs (List.replicate p.n.toNat Wc))]:=by
 refine Jud (vs:=[.i p.n,.l (Je p.acts),.l (dL p.gives),.l (dL p.start)]) L_kl rfl ?_;refine Jt5 p.n.toNat (fun i=>[.l (dDs (List.replicate i Wc)),.i i]) (fun _=>True) rfl rfl trivial fun i hi _=>?_;simp only[sC,sN];have hl:(dDs (List.replicate i Wc)).length=i:=by simp[dDs]
 refine JtZ i p.n.toNat (by show decide ((i:Int)<p.n)=_;rw[show ((p.n.toNat:Nat):Int)=p.n by omega]) (fun h=>?_) (fun h=>JtX (Jt9 ?_))
 ·refine Juc (dDs (List.replicate i Wc)) 4 (by omega) (by omega) rfl ?_;refine JtH (vs:=[.l (dDs (List.replicate (i+1) Wc)),.i ((i+1:Nat):Int)]) ?_ ⟨h,rfl,trivial⟩;show [V.l (dDs (List.replicate i Wc)++[Don.g Wc]),V.i (i64.wrap ((i:Int)+1))]=_;rw[wS h (by omega),List.replicate_succ'];simp[dDs]
 ·show [D.s (dDs (List.replicate i Wc))]=_;rw[show i=p.n.toNat by omega]
theorem Jkr (p:Pln) (hp:JN p):Ev L f_ko p.cells (Kj p).cells:=by
 refine Jud (vs:=[.i p.n,.l (Je p.acts),.l (dL p.gives),.l (dL p.start)]) L_ko rfl ?_;refine JtL (ZL p hp) rfl rfl rfl ?_;refine JtI (JC p) rfl (fun h=>Jt9 ?_) (fun h=>?_)
 ·show _=(Kj p).cells;unfold Kj;rw[if_neg (by simp[h])];rfl
 obtain⟨h1,h2,h3,_⟩:=J1 h;refine JtM (dL p.start) 2000000 (by rw[dL1];exact hp.2.2) (by omega) rfl ?_;refine JtS (JR p.start) ?_;refine JtM (dL p.start) 2000000 (by rw[dL1];exact hp.2.2) (by omega) rfl ?_;refine JtL (JiR p (by omega) h2) rfl rfl rfl (Jt9 ?_);show _=(Kj p).cells;unfold Kj;rw[if_pos h];rfl
/- The program's ClkNew answers as the reference's: over residual programs. -/
structure Clk where
 up:Bool
 round:Int
 base:List Int
 done:List Don
 wants:List Cal
 got:List Got
 deriving DecidableEq
def Clk.cells (s:Clk):List D:=[dB s.up,dI s.round,.s (dL s.base),.s (dDs s.done),.s (dCs s.wants),.s (dGs s.got)]
structure KH (s:Clk):Prop where
 b:s.base.length≤2000000
 d:s.done.length≤2000000
 dt :∀d∈s.done,d.tells.length≤2000000
 c:s.wants.length≤2000000
 ct :∀d∈s.wants,d.args.length≤2000000
 g:s.got.length≤2000000
 gt :∀d∈s.got,d.added.length≤2000000∧d.seqs.length≤2000000
def X0:Got:=⟨false,[],[]⟩
def XS (p:Pln):Clk:=if JC p then ⟨true,0,p.start,List.replicate p.n.toNat Wc,[],List.replicate p.gives.length X0⟩ else ⟨false,0,[],[],[],[]⟩
theorem Jba (p:Pln) (hg:p.gives.length≤2000000):Ev L f_km p.cells [.s (dGs (List.replicate p.gives.length X0))]:=by
 refine Jud (vs:=[.i p.n,.l (Je p.acts),.l (dL p.gives),.l (dL p.start)]) L_km rfl ?_;refine Jt5 p.gives.length (fun i=>[.l (dGs (List.replicate i X0)),.i i]) (fun _=>True) rfl rfl trivial fun i hi _=>?_;simp only[sC,sN];have hl:(dGs (List.replicate i X0)).length=i:=by simp[dGs]
 refine JtN i (dL1 p.gives) rfl (fun h=>?_) (fun h=>JtX (Jt9 ?_))
 ·refine Juc (dGs (List.replicate i X0)) 2000000 (by omega) (by omega) rfl ?_;refine JtH (vs:=[.l (dGs (List.replicate (i+1) X0)),.i ((i+1:Nat):Int)]) ?_ ⟨h,rfl,trivial⟩;show [V.l (dGs (List.replicate i X0)++[Got.g X0]),V.i (i64.wrap ((i:Int)+1))]=_;rw[wS h (by omega),List.replicate_succ'];simp[dGs]
 ·show [D.s (dGs (List.replicate i X0))]=_;rw[show i=p.gives.length by omega]
theorem JkB (p:Pln) (hp:JN p):Ev L f_kn p.cells (XS p).cells:=by
 refine Jud (vs:=[.i p.n,.l (Je p.acts),.l (dL p.gives),.l (dL p.start)]) L_kn rfl ?_;refine JtL (ZL p hp) rfl rfl rfl ?_;refine JtI (JC p) rfl (fun h=>Jt9 ?_) (fun h=>?_)
 ·show _=(XS p).cells;unfold XS;rw[if_neg (by simp[h])];rfl
 obtain⟨h1,h2,h3,_⟩:=J1 h;refine JtM (dL p.start) 2000000 (by rw[dL1];exact hp.2.2) (by omega) rfl ?_;refine JtS (JR p.start) ?_;refine JtM (dL p.start) 2000000 (by rw[dL1];exact hp.2.2) (by omega) rfl ?_;refine JtL (JiR p (by omega) h2) rfl rfl rfl ?_;refine JtL (Jba p hp.2.1) rfl rfl rfl (Jt9 ?_);show _=(XS p).cells;unfold XS;rw[if_pos h];rfl
/- The program's LocTry answers as the reference's: over residual programs. -/
theorem JiL (as:List (List Jg)) (b g:List Int) (s:Int) (a:List Int) (k:Int) (w:List Int) (ha:a.length≤2000000):(Ja9 as b g s a k w).tells.length≤2000000∧(Ja9 as b g s a k w).adds.length≤2000000:=by
 have key :∀r,r∈Ju (as.getD k.toNat [])→(KG b g (Jb as) (Jj as) s a w r).tells.length≤2000000∧(KG b g (Jb as) (Jj as) s a w r).adds.length≤2000000:=by
  intro r hr;have hf:=Yi r hr;have hs:(Qn a (atL r.adds b w)).length≤a.length:=by unfold Qn;rw[List.length_zipWith];omega
  have ht:(atL r.tells b w).length=r.tells.length:=by simp[atL]
  have htl:=hf.tl;unfold KG
  repeat' split
  all_goals first
   | exact⟨by simp,ha⟩
   | exact⟨by simp only[ht];omega,by simp only;omega⟩
 unfold Ja9;split
 ·split
  ·rename_i r hr;exact key r (List.mem_of_find?_eq_some hr)
  ·exact⟨by simp,ha⟩
 ·exact⟨by simp,by simp⟩
/- Marks,and what is held,of plans,sites and clients: over residual programs. Printed by wip/tools/pzl.py. -/
def Sit.w (s:Sit):Nat:=3+s.base.length+s.added.length+wts Don.w s.done
def Sit.g (s:Sit):D:= .g s.cells
structure Con where
 seq:Int
 busy:Bool
 call:Cal
 code:Int
 tells:List Int
 deriving DecidableEq
def Con.cells (s:Con):List D:=[dI s.seq,dB s.busy,dI s.call.client,dI s.call.seq,dI s.call.act,.s (dL s.call.args),dI s.code,.s (dL s.tells)]
def Con.g (s:Con):D:= .g s.cells
def JjK (s:Con):Prop:=s.call.args.length≤2000000∧s.tells.length≤2000000
def Con.w (s:Con):Nat:=6+s.call.args.length+s.tells.length
/- The program's WldNew answers as the reference's: over residual programs. -/
end Go.Proofs.YtofcmnglieaoeaaGreatDoor
/- The program's WldNew answers as the reference's: the functions,and the law: over residual programs. -/
namespace Go.Proofs.YtofcmnglieaoeaaGreatDoor
open Go Go.Tm
open Go.IntKind (i64)
theorem Jr4 (l:List Jg) (x:Jg):Jk l++[x.g]=Jk (l++[x]):=by simp[Jk]
theorem JqP (l:List (List Jg)) (x:List Jg):Je l++[.s (Jk x)]=Je (l++[x]):=by simp[Je]
theorem Jgr (as:List (List Jg)) (hf:Ym as):Ev L f_kj [.s (Je as)] [.s (Je as)]:=by
 refine Jud (vs:=[.l (Je as)]) L_kj rfl ?_;have hl:=hf.1;refine Jt5 as.length (fun i=>[.l (Je (as.take i)),.i i]) (fun _=>True) rfl rfl trivial fun i hi _=>?_;simp only[sC,sN];refine JtN i (JO as) rfl (fun h=>?_) (fun h=>JtX (Jt9 ?_))
 ·obtain⟨a,ha,hm⟩:=sA1 h;obtain⟨hal,hax⟩:=hf.2 a hm;refine Jt5 a.length (fun j=>[.l (Jk (a.take j)),.i j]) (fun _=>True) rfl rfl trivial fun j hj _=>?_;simp only[sC,sN];refine Jt3 (vs:=[.l (Jk a)]) i (mA1 (f:=fun a=>D.s (Jk a)) ha) rfl rfl rfl rfl ?_;simp only[sC,sN];refine JtN j (JM a) rfl (fun h'=>?_) (fun h'=>?_)
  ·obtain⟨x,hx,hmx⟩:=sA1 h';have hxf:=hax x hmx;refine Jt3 (vs:=[.l (Jk a)]) i (mA1 (f:=fun a=>D.s (Jk a)) ha) rfl rfl rfl rfl ?_;simp only[sC,sN];refine Jt3 (vs:=[.i x.kind,.i x.pot,.i x.skip,.l (dL x.f.c),.l (dL x.f.d),.i x.f.k]) j (mA1 (f:=Jg.g) hx) rfl rfl rfl rfl ?_;simp only[sC,sN];refine JtM (dL x.f.c) 2000000 (by rw[dL1];exact hxf.1) (by omega) rfl ?_;refine JtS (JR x.f.c) ?_;refine JtM (dL x.f.c) 2000000 (by rw[dL1];exact hxf.1) (by omega) rfl ?_;refine JtM (dL x.f.d) 2000000 (by rw[dL1];exact hxf.2) (by omega) rfl ?_;refine JtS (JR x.f.d) ?_;refine JtM (dL x.f.d) 2000000 (by rw[dL1];exact hxf.2) (by omega) rfl ?_;refine Juc (Jk (a.take j)) 2000000 (by rw[JM];simp;omega) (by omega) rfl ?_;refine JtH (vs:=[.l (Jk (a.take (j+1))),.i ((j+1:Nat):Int)]) ?_ ⟨h',rfl,trivial⟩;show [V.l (Jk (a.take j)++[x.g]),V.i (i64.wrap ((j:Int)+1))]=_;rw[wS h' (by omega),Jr4,tS1 hx]
  ·refine JtX ?_;rw[tA1 h'];refine Juc (Je (as.take i)) 2000000 (by rw[JO];simp;omega) (by omega) rfl ?_;refine JtH (vs:=[.l (Je (as.take (i+1))),.i ((i+1:Nat):Int)]) ?_ ⟨h,rfl,trivial⟩;show [V.l (Je (as.take i)++[.s (Jk a)]),V.i (i64.wrap ((i:Int)+1))]=_;rw[wS h (by omega),JqP,tS1 ha]
 ·show [D.s (Je (as.take i))]=_;rw[tA1 h]
theorem Jie (p:Pln) (hp:JN p):Ev L f_kk p.cells p.cells:=by
 refine Jud (vs:=[.i p.n,.l (Je p.acts),.l (dL p.gives),.l (dL p.start)]) L_kk rfl ?_;refine JtL (Jgr p.acts hp.1) rfl rfl rfl ?_;refine JtM (dL p.gives) 2000000 (by rw[dL1];exact hp.2.1) (by omega) rfl ?_;refine JtS (JR p.gives) ?_;refine JtM (dL p.gives) 2000000 (by rw[dL1];exact hp.2.1) (by omega) rfl ?_;refine JtM (dL p.start) 2000000 (by rw[dL1];exact hp.2.2) (by omega) rfl ?_;refine JtS (JR p.start) ?_;refine JtM (dL p.start) 2000000 (by rw[dL1];exact hp.2.2) (by omega) rfl ?_;exact Jt9 rfl
structure Wld where
 p:Pln
 sites:List Sit
 c:Clk
 cons:List Con
def Wld.cells (w:Wld):List D:=[dI w.p.n,.s (Je w.p.acts),.s (dL w.p.gives),.s (dL w.p.start),.s (w.sites.map Sit.g),dB w.c.up,dI w.c.round,.s (dL w.c.base),.s (dDs w.c.done),.s (dCs w.c.wants),.s (dGs w.c.got),.s (w.cons.map Con.g),.s [],.s []]
def Jgc:Con:=⟨0,false,⟨0,0,0,[]⟩,0,[]⟩
def WD (p:Pln):Wld:=if JC p then ⟨p,List.replicate p.gives.length (Kj p),XS p,List.replicate p.n.toNat Jgc⟩ else ⟨⟨0,[],[],[]⟩,[],XS p,[]⟩
theorem Jkk (p:Pln) (hp:JN p):Ev L f_kp p.cells (WD p).cells:=by
 refine Jud (vs:=[.i p.n,.l (Je p.acts),.l (dL p.gives),.l (dL p.start)]) L_kp rfl ?_;refine JtL (ZL p hp) rfl rfl rfl ?_;refine JtI (JC p) rfl (fun h=>Jt9 ?_) (fun h=>?_)
 ·show _=(WD p).cells;unfold WD XS;rw[if_neg (by simp[h]),if_neg (by simp[h])];rfl
 obtain⟨h1,h2,h3,_⟩:=J1 h;have hW:WD p=⟨p,List.replicate p.gives.length (Kj p),XS p,List.replicate p.n.toNat Jgc⟩:=by unfold WD;rw[if_pos h]
 rw[hW];have hsn:=Jkr p hp;have hcn:=JkB p hp;have hg:=hp.2.1;generalize Kj p=s at *;generalize XS p=c at *;refine JtL (vs:=[.i p.n,.l (Je p.acts),.l (dL p.gives),.l (dL p.start)]) (Jie p hp) rfl rfl rfl ?_;simp only[sC,sN];refine JtL (vs:=[.b c.up,.i c.round,.l (dL c.base),.l (dDs c.done),.l (dCs c.wants),.l (dGs c.got)]) hcn rfl rfl rfl ?_;simp only[sC,sN];refine Jt5 p.gives.length (fun i=>[.l ((List.replicate i s).map Sit.g),.i i]) (fun _=>True) rfl rfl trivial fun i hi _=>?_;simp only[sC,sN];refine JtN i (dL1 p.gives) rfl (fun h=>?_) (fun h'=>JtX ?_)
 ·refine JtL (vs:=[.b s.up,.b s.frozen,.i s.round,.l (dL s.base),.l (dL s.added),.l (dDs s.done)]) hsn rfl rfl rfl ?_;simp only[sC,sN];refine Juc ((List.replicate i s).map Sit.g) 2000000 (by simp;omega) (by omega) rfl ?_;refine JtH (vs:=[.l ((List.replicate (i+1) s).map Sit.g),.i ((i+1:Nat):Int)]) ?_ ⟨h,rfl,trivial⟩;show [V.l ((List.replicate i s).map Sit.g++[Sit.g s]),V.i (i64.wrap ((i:Int)+1))]=_;rw[wS h (by omega),List.replicate_succ'];simp
 have hil:i=p.gives.length:=by omega
 subst hil;refine Jt5 p.n.toNat (fun i=>[.l ((List.replicate i Jgc).map Con.g),.i i]) (fun _=>True) rfl rfl trivial fun j hj _=>?_;simp only[sC,sN];refine JtZ j p.n.toNat (by show decide ((j:Int)<p.n)=_;rw[show ((p.n.toNat:Nat):Int)=p.n by omega]) (fun h=>?_) (fun h'=>JtX (Jt9 ?_))
 ·refine Juc ((List.replicate j Jgc).map Con.g) 4 (by simp;omega) (by omega) rfl ?_;refine JtH (vs:=[.l ((List.replicate (j+1) Jgc).map Con.g),.i ((j+1:Nat):Int)]) ?_ ⟨h,rfl,trivial⟩;show [V.l ((List.replicate j Jgc).map Con.g++[Con.g Jgc]),V.i (i64.wrap ((j:Int)+1))]=_;rw[wS h (by omega),List.replicate_succ'];simp
 ·have hjl:j=p.n.toNat:=by omega
  subst hjl;rfl
/- Results as texts: which of them are ok. -/
def JL (c:Int) (t:List Int):Bool:=inB c 1 3&&(decide (t.length≤6)&&((decide (c=1)||t.isEmpty)&&JG t.length 999999999999 t))
theorem YB {c:Int} {t:List Int}:JL c t=true↔(1≤c∧c≤3)∧t.length≤6∧(c=1∨t=[])∧Lim 999999999999 t:=by
 unfold JL inB;simp only[Jui,Bool.or_eq_true,decide_eq_true_eq,List.isEmpty_iff,Jo];exact⟨fun h=>⟨h.1,h.2.1,h.2.2.1,h.2.2.2.2⟩,fun h=>⟨h.1,h.2.1,h.2.2.1,trivial,h.2.2.2⟩⟩
def Qq:List (List UInt8):=[[],[100,111,110,101],[115,116,111,112,112,101,100],[111,118,101,114]]
def KS (c:Int) (t:List Int):List UInt8:=if JL c t then Qq.getD c.toNat []++Qt t else []
theorem Jrb (a b:List UInt8):(⟨a.toArray⟩:ByteArray)++⟨b.toArray⟩=⟨(a++b).toArray⟩:=by
 apply ByteArray.ext;simp
theorem JcL {a b:List UInt8} (h:a.length+b.length≤1000000):ZS .cat [Q2 a,Q2 b]=some (Q2 (a++b)):=by
 show (if(⟨a.toArray⟩:ByteArray).size+(⟨b.toArray⟩:ByteArray).size≤2 ^ 62 then some (D.v (.string ((⟨a.toArray⟩:ByteArray)++⟨b.toArray⟩))) else none)=_;rw[if_pos,Jrb]
 ·rfl
 show a.toArray.size+b.toArray.size≤2 ^ 62;simp only[List.size_toArray];omega
theorem JkN (a b:List UInt8):ZS .seq [Q2 a,Q2 b]=some (dB (a == b)):=by
 show some (D.v (.bool ((⟨a.toArray⟩:ByteArray).toList == (⟨b.toArray⟩:ByteArray).toList)))=_;rw[ByteArray.toList_mk,ByteArray.toList_mk]
theorem Jc9 (t:List Int) (hl:Lim 999999999999 t):(Qt t).length≤22*t.length:=by
 induction t with
 | nil=>simp[Qt]
 | cons n l ih =>
  have h1:=hl n (by simp);have h2:=Lib.itoa_length_le n (by omega) (by omega);have h3:=ih fun m hm=>hl m (by simp[hm]);simp only[Qt,List.flatMap_cons,Juo,List.length_cons] at h3 ⊢;omega
theorem JgC {c:Int} (h:inB c 1 3=true):Qq[c.toNat]? = some (Qq.getD c.toNat [])∧Qq.getD c.toNat []≠[]∧(Qq.getD c.toNat []).length≤7:=by
 unfold inB at h;simp only[Jui,decide_eq_true_eq] at h;rcases (show c=1∨c=2∨c=3 by omega) with rfl | rfl | rfl <;> exact⟨rfl,by decide,by decide⟩
theorem Jc8 (c:Int) (t:List Int):(KS c t == []) = !JL c t:=by
 unfold KS;split
 ·rename_i h;have hin:inB c 1 3=true:=by unfold JL at h;simp only[Jui] at h;exact h.1
  have:=(JgC hin).2.1;rw[h];have h2:Qq.getD c.toNat []++Qt t≠[]:=fun e=>this (List.append_eq_nil_iff.1 e).1;generalize Qq.getD c.toNat []++Qt t=l at h2;cases l with
  | nil=>exact absurd rfl h2
  | cons x l=>rfl
 ·rename_i h;simp[h]
theorem Jf9 (t:List Int) (h6:t.length≤6) (hl:Lim 999999999999 t):Ev L f_k53 [.s (dL t)] [Q2 (Qt t)]:=by
 refine Juf L_k53 ?_;show (if(dL t).length≤4096 then((dL t).mapM Jcq).map fun l=>[Q2 (Qt l)] else none)=_;have e:(dL t).mapM Jcq=some t:=Jcb fun n hn=>by have:=hl n hn;omega
 rw[if_pos (by rw[dL1];omega),e];rfl
theorem Jai:Ev L f_k52 [] [.s (Qq.map Q2)] :=
 Jud (vs:=[]) L_k52 rfl (Jt9 rfl)
theorem Jjj (c:Int) (t:List Int) (ht:t.length≤2000000):Ev L f_k54 [dI c,.s (dL t)] [Q2 (KS c t)]:=by
 refine Jud (vs:=[.i c,.l (dL t)]) L_k54 rfl ?_;have no:JL c t=false→([Q2 []]:List D)=[Q2 (KS c t)]:=fun h=>by simp[KS,h]
 refine JtL (X8 c 1 3) rfl rfl rfl ?_;refine JtI (inB c 1 3) rfl (fun h=>Jt9 (no (by simp[JL,h]))) (fun h1=>?_);refine Jt2 (6<((dL t).length:Int)) rfl (fun h=>Jt9 (no ?_)) (fun h2=>?_)
 ·rw[dL1] at h;simp only[JL,show ¬t.length≤6 by omega,decide_false,Bool.false_and,Bool.and_false]
 rw[dL1] at h2;obtain⟨w1,_,w3⟩:=JgC h1;have hidx:(Qq.map Q2)[c.toNat]? = some (Q2 (Qq.getD c.toNat [])):=by rw[JuD,w1];rfl
 have hc0:0≤c:=by unfold inB at h1;simp only[Jui,decide_eq_true_eq] at h1;omega
 have hc4:c<((Qq.map Q2).length:Int):=by unfold inB at h1;simp only[Jui,decide_eq_true_eq] at h1;show c<4;omega
 have hwn:=XG t t.length 999999999999 ht (by omega) (by omega);refine JtI (decide (c=1)) rfl (fun h3=>?_) (fun h3=>?_)
 ·refine Jt2 (0<((dL t).length:Int)) rfl (fun h=>Jt9 (no ?_)) (fun h4=>?_)
  ·rw[dL1] at h;have:t.isEmpty=false:=by cases t with
    | nil=>simp at h
    | cons x t=>rfl
   simp only[JL,h3,this,Bool.or_false,Bool.false_and,Bool.and_false]
  ·rw[dL1] at h4;have h4:t=[]:=List.length_eq_zero_iff.1 (by omega);refine JtL hwn rfl (by show [D.s (dL t),dI ((dL t).length:Int),dI 999999999999]=_;rw[dL1]) rfl ?_;refine JtI (JG t.length 999999999999 t) rfl (fun h=>Jt9 (no (by simp only[JL,h,Bool.and_false]))) (fun h5=>?_);have hl:=(Jo.1 h5).2;have hj:=Jc9 t hl;have hok:JL c t=true:=by simp only[JL,h1,h5,h4,List.length_nil,List.isEmpty_nil,Bool.or_true,JuC];simp[JG]
   have e:Q2 (KS c t)=Q2 (Qq.getD c.toNat []++Qt t):=by simp only[KS,hok,if_true]
   rw[e];refine JtL Jai rfl rfl rfl ?_;refine JtF (0≤c) rfl hc0 (JtF (c<((Qq.map Q2).length:Int)) rfl hc4 ?_);refine JtJ (ds:=Qq.map Q2) c rfl rfl rfl hc0 hidx rfl ?_;refine JtL (Jf9 t (by omega) hl) rfl rfl rfl ?_;refine Jt4 rfl (JcL (by omega)) rfl (Jt9 rfl)
 ·refine JtL hwn rfl (by show [D.s (dL t),dI ((dL t).length:Int),dI 999999999999]=_;rw[dL1]) rfl ?_;refine JtI (JG t.length 999999999999 t) rfl (fun h=>Jt9 (no (by simp only[JL,h,Bool.and_false]))) (fun h5=>?_);have hl:=(Jo.1 h5).2;have hj:=Jc9 t hl;have hok:JL c t=true:=by simp only[JL,h1,h5,h3,Bool.true_or,JuC,Bool.and_true];simp;omega
  have e:Q2 (KS c t)=Q2 (Qq.getD c.toNat []++Qt t):=by simp only[KS,hok,if_true]
  rw[e];refine JtL Jai rfl rfl rfl ?_;refine JtF (0≤c) rfl hc0 (JtF (c<((Qq.map Q2).length:Int)) rfl hc4 ?_);refine JtJ (ds:=Qq.map Q2) c rfl rfl rfl hc0 hidx rfl ?_;refine JtL (Jf9 t (by omega) hl) rfl rfl rfl ?_;refine Jt4 rfl (JcL (by omega)) rfl (Jt9 rfl)
theorem Jm8 (c:Int) (t:List Int) (ht:t.length≤2000000):Ev L f_k55 [dI c,.s (dL t)] [dB (JL c t)]:=by
 refine Jud (vs:=[.i c,.l (dL t)]) L_k55 rfl ?_;refine JtL (Jjj c t ht) rfl rfl rfl ?_;refine Jt4 rfl (JkN (KS c t) []) rfl (Jt9 ?_);show [dB (!(KS c t == []))]=_;rw[Jc8,Bool.not_not]
/- What does not come to its end turns nothing: over residual programs. -/
theorem JoH (v x t:List Int) (hv:v.length≤2000000) (hx:x.length≤2000000):Ev L f_k2j [.s (dL v),.s (dL x),.s (dL t)] (Res.ds (Jik v x t)):=by
 refine Jud (vs:=[.l (dL v),.l (dL x),.l (dL t)]) L_k2j rfl ?_;refine JtL (Y2 x hx) rfl rfl rfl ?_;unfold Jik;refine JtI (JU x) rfl (fun h=>?_) (fun h=>Jt9 ?_)
 ·rw[h,if_neg (by simp)];refine JtM (dL v) 2000000 (by rw[dL1];omega) (by omega) rfl ?_;refine JtS (JR v) ?_;refine JtM (dL v) 2000000 (by rw[dL1];omega) (by omega) rfl (Jt9 rfl)
 ·rw[h];rfl
theorem Jj8 (a:List Jg) (v w:List Int) (ha:KL a) (hv:v.length≤2000000) (hw:w.length≤2000000):Ev L f_k2k [.s (Jk a),.s (dL v),.s (dL w)] (Res.ds (ZP a v w)):=by
 refine Jud (vs:=[.l (Jk a),.l (dL v),.l (dL w)]) L_k2k rfl ?_;have none:(Qu a&&(JU v&&Q7 w))=false→ZP a v w=⟨0,[],[]⟩:=fun h=>by simp[ZP,h]
 refine JtL (Jaq a ha) rfl rfl rfl ?_;refine JtI (Qu a) rfl (fun h=>Jt9 ?_) (fun h=>?_)
 ·rw[none (by simp[h])];rfl
 refine JtL (Y2 v hv) rfl rfl rfl ?_;refine JtI (JU v) rfl (fun h2=>Jt9 ?_) (fun h2=>?_)
 ·rw[none (by simp[h2])];rfl
 refine JtL (Jkg w hw) rfl rfl rfl ?_;refine JtI (Q7 w) rfl (fun h3=>Jt9 ?_) (fun h3=>?_)
 ·rw[none (by simp[h3])];rfl
 have hrun:ZP a v w=run v w a v []:=by simp[ZP,h,h2,h3]
 rw[hrun];obtain⟨v1,v2⟩:=QH.1 h2;obtain⟨w1,w2⟩:=X3.1 h3;obtain⟨a1,a2⟩:=K6 h;refine JtM (dL v) 2000000 (by rw[dL1];omega) (by omega) rfl ?_;refine JtS (JR v) ?_;refine JtM (dL v) 2000000 (by rw[dL1];omega) (by omega) rfl ?_;simp only[sC,sN];refine JtE (fun m vs=>∃ (i:Int) (x t:List Int) (j:Nat),vs=[.l (dL t),.l (dL x),.i i]∧0≤i∧i≤20∧m=a.length-i.toNat∧(j:Int)≤i∧j≤6∧x.length=3∧Lim (XB j) x∧t.length≤j∧run v w (a.drop i.toNat) x t=run v w a v []) rfl a.length
  ⟨0,v,[],0,rfl,by omega,by omega,by simp,by omega,by omega,v1,v2,by simp,by simp⟩ ?_
 rintro m _ ⟨i,x,t,j,rfl,i0,i20,hm,hji,hj6,hx,hl,ht,hr⟩;rw[←hr];clear hr;simp only[sC,sN];have hX0:=JgQ j;have hXl:=Jqm hj6;refine Jt2 (i<((Jk a).length:Int)) rfl (fun hi=>?_) (fun hi=>?_)
 ·rw[JM] at hi;obtain⟨l,hla,hd⟩:=U7 i0 hi;have hok:=a2 l (Jup hla);have hdr:=XF hla;have hs1:(i+1).toNat=i.toNat+1:=by omega
  refine JtJ (ds:=Jk a) i rfl rfl rfl i0 hd rfl ?_;simp only[sC,sN];have hlx:Lim 2000000000 x:=hl.mono hXl;have hrn : ¬l.kind=4→run v w (a.drop i.toNat) x t=if l.kind=1 then(if atF l.f x w<0 then run v w (a.drop (i+l.skip+1).toNat) x t else run v w (a.drop (i+1).toNat) x t)
    else if l.kind=2 then run v w (a.drop (i+1).toNat) (x.set l.pot.toNat (x.getD l.pot.toNat 0+atF l.f x w)) t else run v w (a.drop (i+1).toNat) x (t++[atF l.f x w]):=fun h4=>by
   rw[hdr,run,if_neg h4,hs1]
   by_cases h1:l.kind=1
   ·have hsk:=Jcz hok h1;rw[if_pos h1,if_pos h1,List.drop_drop,show i.toNat+1+l.skip.toNat=(i+l.skip+1).toNat by omega]
   ·rw[if_neg h1,if_neg h1]
  have hat:=fun h4 : ¬l.kind=4=>Jgs (Z1.small (X5 hok h4) hx hlx h3);have hb:=fun h4 : ¬l.kind=4=>Jis (X5 hok h4) hl w2 hX0;refine Jt2 (l.kind=1) rfl (fun h1=>?_) (fun h1=>?_)
  ·have h4 : ¬l.kind=4:=by omega
   have hat:=hat h4;rw[hrn h4,if_pos h1];have hsk:=Jcz hok h1;refine JtL hat rfl rfl rfl ?_;simp only[sC,sN];generalize atF l.f x w=n at *;refine Jt2 (n<0) rfl (fun hn=>?_) (fun hn=>?_)
   ·rw[if_pos hn];refine JtH (vs:=[.l (dL t),.l (dL x),.i (i+l.skip+1)]) ?_ ⟨a.length-(i+l.skip+1).toNat,by omega,i+l.skip+1,x,t,j,rfl,by omega,by omega,rfl,by omega,by omega,hx,hl,ht,rfl⟩;show [V.l (dL t),V.l (dL x),V.i (i64.wrap (i64.wrap (i+l.skip)+1))]=_;rw[w64 (n:=i+l.skip) (by omega) (by omega),w64 (by omega) (by omega)]
   ·rw[if_neg hn];refine JtH (vs:=[.l (dL t),.l (dL x),.i (i+1)]) ?_ ⟨a.length-(i+1).toNat,by omega,i+1,x,t,j,rfl,by omega,by omega,rfl,by omega,by omega,hx,hl,ht,rfl⟩;show [V.l (dL t),V.l (dL x),V.i (i64.wrap (i+1))]=_;rw[w64 (by omega) (by omega)]
  refine Jt2 (l.kind=2) rfl (fun h2'=>?_) (fun h2'=>?_)
  ·have h4 : ¬l.kind=4:=by omega
   have hat:=hat h4;have hb:=hb h4;rw[hrn h4,if_neg h1,if_pos h2'];have hj5:j<6:=by omega
   have hpt:=Jgq hok h2';have hxp:=JaG (l:=x) (i:=l.pot.toNat) (by omega);have hdx:(dL x)[l.pot.toNat]? = some (dI (x.getD l.pot.toNat 0)):=mA1 (f:=dI) hxp;have hlp:=hl _ (Jup hxp);generalize atF l.f x w=n at *;generalize x.getD l.pot.toNat 0=y at *;refine JtF (0≤l.pot) rfl hpt.1 ?_;refine JtF (l.pot<((dL x).length:Int)) rfl (by rw[dL1];omega) ?_;refine JtJ (ds:=dL x) l.pot rfl rfl rfl hpt.1 hdx rfl ?_;simp only[sC,sN];refine JtL hat rfl rfl rfl ?_;simp only[sC,sN];refine JtF (0≤l.pot) rfl hpt.1 ?_;refine JtF (l.pot<((dL x).length:Int)) rfl (by rw[dL1];omega) ?_;refine JtJ (ds:=dL x) l.pot rfl rfl rfl hpt.1 hdx rfl ?_;simp only[sC,sN];have hstep:XB (j+1)=7*XB j+60:=rfl;refine JtH (vs:=[.l (dL t),.l (dL (x.set l.pot.toNat (y+n))),.i (i+1)]) ?_ ⟨a.length-(i+1).toNat,by omega,i+1,x.set l.pot.toNat (y+n),t,j+1,rfl,by omega,by omega,rfl,by omega,by omega,by simp[hx],(hl.mono (JcA (by omega))).set (by omega) _,by omega,rfl⟩;show [V.l (dL t),V.l ((dL x).set l.pot.toNat (dI (i64.wrap (y+n)))),V.i (i64.wrap (i+1))]=_;rw[w64 (n:=i+1) (by omega) (by omega),w64 (by omega) (by omega),QL]
  refine Jt2 (l.kind=3) rfl (fun h3'=>?_) (fun h3'=>?_)
  ·have h4 : ¬l.kind=4:=by omega
   have hat:=hat h4;have hj5:j<6:=by omega
   rw[hrn h4,if_neg h1,if_neg h2'];refine JtL hat rfl rfl rfl ?_;simp only[sC,sN];generalize atF l.f x w=n at *;refine Juc (dL t) 10 (by rw[dL1];omega) (by omega) rfl ?_;refine JtH (vs:=[.l (dL (t++[n])),.l (dL x),.i (i+1)]) ?_ ⟨a.length-(i+1).toNat,by omega,i+1,x,t++[n],j+1,rfl,by omega,by omega,rfl,by omega,by omega,hx,hl.mono (JcA (by omega)),by simp;omega,rfl⟩;show [V.l (dL t++[dI n]),V.l (dL x),V.i (i64.wrap (i+1))]=_;rw[w64 (by omega) (by omega),Xa]
  ·have h4:l.kind=4:=by
    by_cases h4:l.kind=4
    ·exact h4
    ·exact absurd (Jp8 hok h1 h2' h4) h3'
   rw[hdr,run,if_pos h4];refine JtM (dL v) 2000000 (by rw[dL1];omega) (by omega) rfl ?_;refine JtS (JR v) ?_;refine JtM (dL v) 2000000 (by rw[dL1];omega) (by omega) rfl (JtX (Jt9 rfl))
 ·rw[JM] at hi;rw[List.drop_eq_nil_of_le (by omega),run];refine JtX ?_;exact JtL (JoH v x t hv (by omega)) rfl rfl rfl (Jt9 rfl)
def JlF (v:List Int) (r:Res):Prop:=(r.code=1∧JU r.is=true∧r.tells.length≤6∧Lim 999999999999 r.tells)∨(r.is=v∧r.tells=[]∧(r.code=2∨r.code=3))
theorem UZ {v w:List Int} (hw:Lim 9 w) :∀(n:Nat) (a:List Jg) (x t:List Int) (j:Nat),a.length≤n→(∀l∈a,l.ok=true)→j+a.length≤6→x.length=3→Lim (XB j) x→t.length≤j→Lim 999999999999 t→JlF v (run v w a x t)
 | n,[],x,t,j,_,_,hj,hx,hl,ht,hlt=>by
  rw[run];unfold Jik;split
  ·rename_i h;exact .inl ⟨rfl,h,by simp at hj;show t.length≤6;omega,hlt⟩
  ·exact .inr ⟨rfl,rfl,.inr rfl⟩
 | 0,l::a,x,t,j,h,_,_,_,_,_,_=>by simp at h
 | n+1,l::a,x,t,j,h,hok,hj,hx,hl,ht,hlt=>by
  have hok1:=hok l (by simp);have hok2 :∀l∈a,l.ok=true:=fun m hm=>hok m (by simp[hm]);simp only[List.length_cons] at h hj;rw[run];split
  ·exact .inr ⟨rfl,rfl,.inl rfl⟩
  ·rename_i h4;have hX0:=JgQ j;have hXl:=Jqm (n:=j) (by omega);have hb:=Jis (X5 hok1 h4) hl hw hX0;split
   ·split
    ·exact UZ hw n _ x t j (by simp;omega) (fun m hm=>hok2 m (List.mem_of_mem_drop hm)) (by simp;omega) hx hl ht hlt
    ·exact UZ hw n a x t j (by omega) hok2 (by omega) hx hl ht hlt
   ·split
    ·rename_i h2;have hpt:=Jgq hok1 h2;have hxp:=JaG (l:=x) (i:=l.pot.toNat) (by omega);have hlp:=hl _ (Jup hxp);have hstep:XB (j+1)=7*XB j+60:=rfl;exact UZ hw n a _ t (j+1) (by omega) hok2 (by omega) (by simp[hx]) ((hl.mono (JcA (by omega))).set (by omega) _) (by omega) hlt
    ·refine UZ hw n a x _ (j+1) (by omega) hok2 (by omega) hx (hl.mono (JcA (by omega))) (by simp;omega) ?_;intro y hy;rcases Jun.1 hy with h | h
     ·exact hlt y h
     ·simp only[JuA] at h;subst h;omega
theorem Ji5 {a:List Jg} {v w:List Int} (h1:Qu a=true) (h2:JU v=true) (h3:Q7 w=true):JlF v (ZP a v w):=by
 obtain⟨v1,v2⟩:=QH.1 h2;obtain⟨w1,w2⟩:=X3.1 h3;obtain⟨a1,a2⟩:=K6 h1;have hrun:ZP a v w=run v w a v []:=by simp[ZP,h1,h2,h3]
 rw[hrun];exact UZ w2 a.length a v [] 0 (by omega) a2 (by omega) v1 v2 (by simp) (fun x hx=>by simp at hx)
/- Sizes and copies of calls,of what was done,of sites,clerks and messages: over residual programs. -/
def Wa {α:Type} (f:α→Prop) (l:List α):Prop:=l.length≤2000000∧∀x∈l,f x
def Uj (x:Cal):Prop:=x.args.length≤2000000
def Yr (x:Don):Prop:=x.tells.length≤2000000
structure Msg where
 kind:Int
 to:Int
 frm:Int
 round:Int
 call:Cal
 vals:List Int
 seqs:List Int
 done:List Don
 deriving DecidableEq
def Msg.cells (x:Msg):List D:=[dI x.kind,dI x.to,dI x.frm,dI x.round,dI x.call.client,dI x.call.seq,dI x.call.act,.s (dL x.call.args),.s (dL x.vals),.s (dL x.seqs),.s (dDs x.done)]
def Msg.g (x:Msg):D:= .g x.cells
def Qd (x:Msg):Prop:=x.call.args.length≤2000000∧x.vals.length≤2000000∧x.seqs.length≤2000000∧Wa Yr x.done
end Go.Proofs.YtofcmnglieaoeaaGreatDoor

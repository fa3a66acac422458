import Derived.Test.YtofcmnglieaoeabGreatDoorPY
import Derived.Test.YtofcmnglieaoeabGreatDoorTd
import Derived.Test.YtofcmnglieaoeabGreatDoorPM
import Derived.Test.YtofcmnglieaoeabGreatDoorPP
import Derived.Laws.Strings
import Derived.Lib.ItoaLen
set_option linter.unusedVariables false
set_option linter.unusedSimpArgs false
/- What a site does alone: the specification's tries,over residual programs. -/
namespace Go.Proofs.YtofcmnglieaoeabGreatDoor
open Go Go.Tm
open Go.IntKind (i64)
theorem Jde {a b:List Int} (ha:a.length=3) (hb:b.length=3) (la:Lim 4000000000000000000 a) (lb:Lim 4000000000000000000 b):Ev L f_k22 [.s (dL a),.s (dL b)] [.s (dL (Qp a b))]:=by
 refine JuA (vs:=[.l (dL a),.l (dL b)]) L_k22 rfl ?_;refine Jt3 3 (fun i=>[.l (dL ((Qp a b).take i)),.i i]) (fun _=>True) rfl rfl trivial fun i hi _=>?_;simp only[sC,sN];refine JtX i 3 rfl (fun h=>?_) (fun h=>?_)
 ·obtain⟨x,hx,hmx⟩:=sA1 (show i<a.length by omega);obtain⟨y,hy,hmy⟩:=sA1 (show i<b.length by omega);have hxl:=la x hmx;have hyl:=lb y hmy;have hs:(Qp a b)[i]? = some (x+y):=by unfold Qp;rw[List.getElem?_zipWith,hx,hy]
  refine Juo i (mA1 (f:=dI) hx) rfl rfl rfl rfl ?_;refine Juo i (mA1 (f:=dI) hy) rfl rfl rfl rfl ?_;refine Jus (dL ((Qp a b).take i)) 10 (by rw[dL1];simp;omega) (by omega) rfl ?_;refine Jt4 (vs:=[.l (dL ((Qp a b).take (i+1))),.i ((i+1:Nat):Int)]) ?_ ⟨h,rfl,trivial⟩;show [V.l (dL ((Qp a b).take i)++[dI (i64.wrap (x+y))]),V.i (i64.wrap ((i:Int)+1))]=_;rw[wS h (by omega),w64 (by omega) (by omega),XI,tS1 hs]
 ·refine Juk (Jue ?_);show [D.s (dL ((Qp a b).take i))]=_;rw[JuH (by rw[ZU (by omega)];omega)]
theorem JmM (b g:List Int) (pins:List Bool) (r:Row) (w:List Int) (hp:pins.length=3) (hr:YD r) (hs:r.stop=false) (hb:JR b=true) (hw:Q6 w=true) :
  Ev L f_k27 ([.s (dL b),.s (dL g),.s (dBl pins)]++r.cells++[.s (dL w)]) [.s (dL (if Qc pins (atL r.adds b w) then atL r.adds b w else [0,0,0])),dB (Qc pins (atL r.adds b w))]:=by
 refine JuA (vs:=[.l (dL b),.l (dL g),.l (dBl pins),.l (dF r.guards),.l (dF r.adds),.l (dF r.tells),.b r.stop,.l (dL w)]) L_k27 rfl ?_;have hal:=hr.ns hs;have hab:=Jgn hb hw hr.a;have hll:=JgF r.adds b w;refine Jt3 3 (fun i=>[.l (dL ((atL r.adds b w).take i)),.i i]) (fun i=>(((atL r.adds b w).zip pins).take i).all (fun q=>!(q.2 && !decide (q.1=0)))=true) rfl rfl rfl fun i hi hq=>?_;simp only[sC,sN];refine JtX i 3 rfl (fun h=>?_) (fun h=>?_)
 ·obtain⟨f,hf,hm⟩:=sA1 (show i<r.adds.length by omega);obtain⟨p,hpi,_⟩:=sA1 (show i<pins.length by omega);have hx:(atL r.adds b w)[i]? = some (atF f b w):=by simp[atL,hf]
  have hz:=WA hx hpi;have hat:=Jg0 (hab f hm);generalize atF f b w=x at *;generalize atL r.adds b w=xs at *;refine Juo i (mA1 (f:=Frm.g) hf) rfl rfl rfl rfl ?_;refine Jur hat rfl rfl rfl ?_;refine Juo i (mA1 (f:=dB) hpi) rfl rfl rfl rfl ?_;simp only[sC,sN];have hnx:[V.l (dL (xs.take i)++[dI x]),V.i (i64.wrap ((i:Int)+1))]=[V.l (dL (xs.take (i+1))),V.i ((i+1:Nat):Int)]:=by
   rw[wS h (by omega),XI,tS1 hx]
  refine Jud p rfl (fun hp1=>?_) (fun hp1=>?_)
  ·refine Jum (decide (x=0)) rfl (fun h0=>Juk (Jue ?_)) (fun h0=>?_)
   ·have hst:Qc pins xs=false:=by unfold Qc;rw[Yl hz (by simp only[h0,hp1];rfl)]
    rw[hst];rfl
   ·refine Jus (dL (xs.take i)) 10 (by rw[dL1];simp;omega) (by omega) rfl ?_;exact Jt4 hnx ⟨h,rfl,QY hz hq (by simp only[h0];simp)⟩
  ·refine Jus (dL (xs.take i)) 10 (by rw[dL1];simp;omega) (by omega) rfl ?_;exact Jt4 hnx ⟨h,rfl,QY hz hq (by simp only[hp1];rfl)⟩
 ·refine Juk (Jue ?_);rw[JuH (by simp;omega)] at hq;have hst:Qc pins (atL r.adds b w)=true:=by unfold Qc;rw[hq]
  rw[hst];show [D.s (dL ((atL r.adds b w).take i)),dB true]=_;rw[JuH (by omega)];rfl
theorem JoM:Q6 [0,0]=true:=by decide
theorem Jkh {as:List (List Jg)} {b g:List Int} {s:Int} {a w:List Int} (h:Qu as=true) (hf:YU b g (Jb as) s a=true) (hw:Q6 w=true) (hb:b.length≤2000000) (hg:g.length≤2000000) (ha:a.length≤2000000) :
  Ev L f_k28 [.s (dL b),.s (dL g),.s (dLL (Jb as)),dI s,.s (dL a)] [dI (if [0,1,2].any (ovM b g (Jb as) s a w) then 2 else if [0,1,2].any (unM b g (Jb as) s a w) then 0 else 1)]:=by
 refine JuA (vs:=[.l (dL b),.l (dL g),.l (dLL (Jb as)),.i s,.l (dL a)]) L_k28 rfl ?_;have hps:fitLL (Jb as):=(Xc as).fitLL (by omega);obtain⟨O,U,hr⟩ : ∃ O U,Jc3 O U b g (Jb as) s a w:=⟨_,_,fun _=>⟨rfl,rfl⟩⟩;have hno :∀(i:Nat) (x:Nat),[0,1,2][i]? = some x→ovM b g (Jb as) s a w x=true→[0,1,2].any (ovM b g (Jb as) s a w)=true:=fun i x hx h=>List.any_eq_true.2 ⟨x,JuK hx,h⟩;refine Jt3 3 (fun i=>[.i (if U i then 0 else 1),.i i]) (fun i=>O i=false) rfl (by rw[hr.zero.2];rfl) hr.zero.1 fun j hj hO=>?_;simp only[sC,sN];refine JtX j 3 rfl (fun hj3=>?_) (fun hj3=>?_)
 ·obtain⟨sO,sU⟩:=hr.step hj3;have hov:=hno j j (Jen hj3);have hovd:ovM b g (Jb as) s a w j=(decide (10000<(JS b g (Jb as) s a (JA j) w).1)||decide ((JS b g (Jb as) s a (JA j) w).2.1 < -10000)):=rfl;rw[hovd] at hov;have eP:=ZH (j:Int) (by omega) (by omega);have eB:=Jdk b g (Jb as) s a (JA j) [0,0] hb hg hps ha Xd.fit (by decide);rw[Jdv h hf JoM hj3] at eB;rw[Jdv h hf hw hj3] at sO sU hov;rw[Int.toNat_natCast] at eP;refine Jur eP rfl rfl rfl ?_;refine Jur eB rfl rfl rfl ?_;simp only[sC,sN];generalize (Qp b a).getD j 0-JJ g s=lo at *;generalize (Qp b a).getD j 0+JJ g s=hi at *;generalize [0,1,2].any (ovM b g (Jb as) s a w)=OO at *;generalize [0,1,2].any (unM b g (Jb as) s a w)=UU at *;simp only at sO sU hov;have nx :∀(x:Int) {vs:List V},vs=[V.i x,V.i (i64.wrap ((j:Int)+1))]→(if U (j+1) then 0 else 1)=x→vs=[V.i (if U (j+1) then 0 else 1),V.i ((j+1:Nat):Int)]:=by
   rintro x _ rfl rfl;rw[wS hj3 (by omega)]
  refine Jua rfl ?_;refine Jt8 (10000<lo) rfl (fun hl=>Juk (Jue ?_)) (fun hl=>?_)
  ·rw[hov (by rw[decide_eq_true hl];rfl)];rfl
  refine Jt8 (hi < -10000) rfl (fun hh=>Juk (Jue ?_)) (fun hh=>?_)
  ·rw[hov (by rw[decide_eq_true hh,Bool.or_true])];rfl
  have hO':O (j+1)=false:=by rw[sO,hO,decide_eq_false hl,decide_eq_false hh];rfl
  refine Juq rfl ?_;refine Jt8 (lo < -10000) rfl (fun h1=>?_) (fun h1=>?_)
  ·exact Jt4 (nx 0 rfl (by rw[sU,decide_eq_true h1];simp)) ⟨hj3,rfl,hO'⟩
  refine Jt8 (10000<hi) rfl (fun h2=>?_) (fun h2=>?_)
  ·exact Jt4 (nx 0 rfl (by rw[sU,decide_eq_true h2];simp)) ⟨hj3,rfl,hO'⟩
  exact Jt4 (nx (if U j then 0 else 1) rfl (by rw[sU,decide_eq_false h1,decide_eq_false h2];simp)) ⟨hj3,rfl,hO'⟩
 ·have hj:j=3:=by omega
  subst hj;refine Juk (Jue ?_);rw[hr.three.1] at hO;show [dI (if U 3 then 0 else 1)]=_;rw[hO,hr.three.2];rfl
theorem Jop {as:List (List Jg)} {b g:List Int} {s:Int} {a w:List Int} {r:Row} (h:Qu as=true) (hf:YU b g (Jb as) s a=true) (hw:Q6 w=true) (hg:g.length≤2000000) (hfr:YD r) :
  Ev L f_k29 ([.s (dL b),.s (dL g),.s (dLL (Jb as)),.s (dBl (Jj as)),dI s,.s (dL a)]++r.cells++[.s (dL w)]) (KB b g (Jb as) (Jj as) s a w r).ds:=by
 refine JuA (vs:=[.l (dL b),.l (dL g),.l (dLL (Jb as)),.l (dBl (Jj as)),.i s,.l (dL a),.l (dF r.guards),.l (dF r.adds),.l (dF r.tells),.b r.stop,.l (dL w)]) L_k29 rfl ?_;have hps:fitLL (Jb as):=(Xc as).fitLL (by omega);have hpi:=Vd h;obtain⟨_,_,_,_,hb3,ha3,hgr⟩:=ZC hf;have hvb:JR b=true:=QI.2 hb3;unfold KB;refine Jud r.stop rfl (fun hst=>?_) (fun hst=>?_)
 ·rw[if_pos hst];exact Jt0 a (by omega) (by omega) rfl (Jue rfl)
 rw[if_neg (by rw[hst];simp)];have hal:=hfr.ns hst;have hla:=Jpk (Jgn hvb hw hfr.a);have hll:=JgF r.adds b w;refine Jur (JmM b g (Jj as) r w hpi hfr hst hvb hw) rfl rfl rfl ?_;simp only[sC,sN];generalize atL r.adds b w=x at *
 by_cases h5:Qc (Jj as) x=true
 case neg =>
  rw[if_neg h5,if_neg (show ¬(Qc (Jj as) x&&QO (Qp a x))=true by simp[h5])];refine Jur (Jde (b:=[0,0,0]) ha3.1 rfl (Lim.mono (m:=20000) ha3.2 (by omega)) (by intro y hy;simp at hy;omega)) rfl rfl rfl ?_;refine Jua (by show (!(Qc (Jj as) x))=true;simp[h5]) ?_;exact Jt0 a (by omega) (by omega) rfl (Jue rfl)
 rw[if_pos h5,h5];refine Jur (Jde ha3.1 (by omega) (Lim.mono (m:=20000) ha3.2 (by omega)) (hla.mono (by omega))) rfl rfl rfl ?_;simp only[sC,sN];refine Juq rfl ?_;have hnl:(Qp a x).length≤2000000:=by rw[ZU (by omega)];omega
 generalize Qp a x=now at *;refine Jur (Xr now 3 20000 hnl (by omega) (by omega)) rfl rfl rfl ?_;refine Jum (QO now) rfl (fun h6=>?_) (fun h6=>?_)
 ·rw[if_neg (by rw[h6];simp)];exact Jt0 a (by omega) (by omega) rfl (Jue rfl)
 rw[if_pos (by rw[h6];rfl)];simp only[sC,sN];refine Jur (Jkh h (JoZ hf h6) hw (by omega) hg hnl) rfl rfl rfl ?_;simp only[sC,sN];generalize [0,1,2].any (ovM b g (Jb as) s now w)=OO at *;generalize [0,1,2].any (unM b g (Jb as) s now w)=UU at *;cases OO with
 | true =>
  simp only[if_true];refine Jua rfl ?_;exact Jt0 a (by omega) (by omega) rfl (Jue rfl)
 | false =>
  cases UU with
  | true =>
   simp only[JuT,if_false,if_true];refine Juq rfl (Jua rfl ?_);exact Jt0 a (by omega) (by omega) rfl (Jue rfl)
  | false =>
   simp only[JuT,if_false];refine Juq rfl (Juq rfl ?_);refine Jur (Zz b g (Jb as) s now (by omega) hg hps hnl) rfl rfl rfl ?_;refine Jum (keeps b g (Jb as) s now) rfl (fun h7=>?_) (fun h7=>?_)
   ·rw[if_neg (by rw[h7];simp)];exact Jt0 a (by omega) (by omega) rfl (Jue rfl)
   rw[if_pos h7];simp only[sC,sN];have htl:=hfr.tl;refine Jt3 r.tells.length (fun i=>[.l (dL (atL (r.tells.take i) b w)),.i i]) (fun _=>True) rfl rfl trivial fun i hi _=>?_;simp only[sC,sN];refine JtY i (J3 r.tells) rfl (fun h'=>?_) (fun h'=>?_)
   ·obtain⟨f,hf',hm⟩:=sA1 h';refine Juo i (mA1 (f:=Frm.g) hf') rfl rfl rfl rfl ?_;refine Jur (Jg0 (Jgn hvb hw hfr.t f hm)) rfl rfl rfl ?_;refine Jus (dL (atL (r.tells.take i) b w)) 10 (by rw[dL1,JgF];simp;omega) (by omega) rfl ?_;refine Jt4 (vs:=[.l (dL (atL (r.tells.take (i+1)) b w)),.i ((i+1:Nat):Int)]) ?_ ⟨h',rfl,trivial⟩;show [V.l (dL (atL (r.tells.take i) b w)++[dI (atF f b w)]),V.i (i64.wrap ((i:Int)+1))]=_;rw[wS h' (by omega),XI,tS1 hf'];simp[atL]
   ·refine Juk (Jue ?_);show [dI 1,D.s (dL (atL (r.tells.take i) b w)),.s (dL now),dB true]=_;rw[tA1 h'];rfl
theorem Jn6 {as:List (List Jg)} {b g:List Int} {s:Int} {a:List Int} {k:Int} {w:List Int} (hf:Yj as) (hg:g.length≤2000000) (hfine:YR as b g s a k w=true) :
  Ev L f_k2a [.s (Jc as),.s (dLL (Jb as)),.s (dBl (Jj as)),.s (dL b),.s (dL g),dI s,.s (dL a),dI k,.s (dL w)] (JaY as b g s a k w).ds:=by
 refine JuA (vs:=[.l (Jc as),.l (dLL (Jb as)),.l (dBl (Jj as)),.l (dL b),.l (dL g),.i s,.l (dL a),.i k,.l (dL w)]) L_k2a rfl ?_;obtain⟨h1,hk,h3,hke,_⟩:=Ky.1 hfine;obtain⟨hm,hkx⟩:=JaQ (as:=as) hk.1 hk.2;have hfi:=Xv hke;obtain⟨_,_,_,_,hb3,ha3,hgr⟩:=ZC hfi;have hM:JaY as b g s a k w=(match (Jv (as.getD k.toNat [])).find? (K9 b g (Jb as) s a w) with | some r=>KB b g (Jb as) (Jj as) s a w r | none=>⟨0,[],a,false⟩):=by unfold JaY;rw[if_pos hfine];cases (Jv (as.getD k.toNat [])).find? (K9 b g (Jb as) s a w) <;> rfl
 rw[hM];clear hM;have hps:fitLL (Jb as):=(Xc as).fitLL (by omega);have hw2:=(X1.1 h3).1;have fitb:FitB b g (Jb as) a w:=⟨by omega,hg,hps,by omega,by omega⟩;refine Jug (ds:=Jc as) k rfl rfl rfl hk.1 (mA1 (f:=fun a=> .s (Jk a)) hkx) rfl ?_;refine Jur (JfL (as.getD k.toNat []) (hf.2 _ hm)) rfl rfl rfl ?_;have hrf :∀r∈Jv (as.getD k.toNat []),YD r:=Yf;have hrl:=Uf (as.getD k.toNat []);generalize Jv (as.getD k.toNat [])=rs at *;generalize as.getD k.toNat []=act at *;simp only[sC,sN];refine Jt3 rs.length (fun i=>[.i i]) (fun i=>(rs.take i).any (K9 b g (Jb as) s a w)=false) rfl rfl rfl fun i hi hq=>?_;simp only[sC,sN];refine JtY i (X7 rs) rfl (fun h'=>?_) (fun h'=>?_)
 ·obtain⟨r,hr,hmr⟩:=sA1 h';refine Jux i (rdR hr) rfl rfl rfl rfl rfl rfl ?_;refine Jur (JlX b g (Jb as) s a w fitb r (hrf r hmr)) rfl rfl rfl ?_;simp only[sC,sN];refine Jud (K9 b g (Jb as) s a w r) rfl (fun hs=>?_) (fun hs=>?_)
  ·refine Jux i (rdR hr) rfl rfl rfl rfl rfl rfl ?_;refine Jur (Jop h1 hfi h3 hg (hrf r hmr)) rfl rfl rfl ?_;rw[JpG hr hs hq];exact Juk (Jue rfl)
  ·refine Jt4 (vs:=[.i ((i+1:Nat):Int)]) ?_ ⟨h',rfl,Jd1 hr hq hs⟩;show [V.i (i64.wrap ((i:Int)+1))]=_;rw[wS h' (by omega)]
 ·refine Juk ?_;rw[tA1 h'] at hq;rw[Jm0 hq];exact Jt0 a (by omega) (by omega) rfl (Jue rfl)
/- What a site does alone: draws; who gives more can do more: over residual programs. -/
end Go.Proofs.YtofcmnglieaoeabGreatDoor
/- What one site does alone is what would come of it over all: over residual programs. The sum here hands its list back. -/
namespace Go.Proofs.YtofcmnglieaoeabGreatDoor
open Go Go.Tm
open Go.IntKind (i64)
theorem Jij {b g:List Int} {ps:List (List Int)} {s:Int} (hp:QP ps=true) (ht:Qw b g=true) (hs:0≤s∧s<g.length):keeps b g ps s [0,0,0]=true:=by
 have ht':=ht;simp only[Qw,JuD,Jq,JuQ] at ht';unfold keeps;have g0:=ht'.2;obtain⟨x,hx,hm⟩:=sA1 (show s.toNat<g.length by omega);have e:g.getD s.toNat 0=x:=by simp[JuG,hx]
 have:=g0 x hm;rw[ht,hp,e];simp only[JuX,JuD,Jq,JuQ];refine⟨⟨by omega,by decide⟩,fun p hpp=>?_⟩;have h3:p.length=3:=by
  simp only[QP,JuQ,Jp] at hp;have:=(hp p hpp).1;omega
 obtain⟨u,v,w,rfl⟩:=Jaa h3;unfold Z3;rw[Jq];simp only[dot,Int.mul_zero,Int.add_zero];omega
/- Copies,comparisons,marks and sizes of acts: over residual programs. -/
end Go.Proofs.YtofcmnglieaoeabGreatDoor
/- Marks,and what is held; sizes of acts: over residual programs. -/
namespace Go.Proofs.YtofcmnglieaoeabGreatDoor
open Go Go.Tm
open Go.IntKind (i64)
/- The program's CatWrites,CatReads and CatPins answer as the reference's: over residual programs. -/
end Go.Proofs.YtofcmnglieaoeabGreatDoor
/- The program's SitNew and ClkNew answer as the reference's: over residual programs. -/
namespace Go.Proofs.YtofcmnglieaoeabGreatDoor
open Go Go.Tm
open Go.IntKind (i64)
structure Pln where
 n:Int
 acts:List (List Jg)
 gives:List Int
 start:List Int
 deriving DecidableEq
def Pln.cells (p:Pln):List D:=[dI p.n,.s (Jc p.acts),.s (dL p.gives),.s (dL p.start)]
def JV (p:Pln):Prop:=Yj p.acts∧p.gives.length≤2000000∧p.start.length≤2000000
def JL (p:Pln):Bool:=inB p.n 1 4&&(Qu p.acts&&(JF 3 1000 p.start&&Qw p.start p.gives))
theorem K7 (p:Pln) (hp:JV p):Ev L f_ki p.cells [dB (JL p)]:=by
 refine JuA (vs:=[.i p.n,.l (Jc p.acts),.l (dL p.gives),.l (dL p.start)]) L_ki rfl ?_;refine Jur (JP p.n 1 4) rfl rfl rfl ?_;refine Jud (inB p.n 1 4) rfl (fun h1=>?_) (fun h1=>Jue (by show [dB false]=_;simp[JL,h1]));refine Jur (JoJ p.acts hp.1) rfl rfl rfl ?_;refine Jud (Qu p.acts) rfl (fun h2=>?_) (fun h2=>Jue (by show [dB false]=_;simp[JL,h2]));refine Jur (Xr p.start 3 1000 hp.2.2 (by omega) (by omega)) rfl rfl rfl ?_;refine Jud (JF 3 1000 p.start) rfl (fun h3=>?_) (fun h3=>Jue (by show [dB false]=_;simp[JL,h3]));refine Jur (Jbf p.start p.gives hp.2.2 hp.2.1) rfl rfl rfl (Jue ?_);show [dB (Qw p.start p.gives)]=_;simp[JL,h1,h2,h3]
theorem Jdt (p:Pln) (b:List Int):Ev L f_k3l (p.cells++[.s (dL b)]) [.s (dL b),.s (dL p.gives)] :=
 JuA (vs:=[.i p.n,.l (Jc p.acts),.l (dL p.gives),.l (dL p.start),.l (dL b)]) L_k3l rfl (Jue rfl)
theorem JmO (p:Pln) (hp:JV p):Ev L f_k3p p.cells [dB (JL p)]:=by
 refine JuA (vs:=[.i p.n,.l (Jc p.acts),.l (dL p.gives),.l (dL p.start)]) L_k3p rfl ?_;refine Jur (Yy p.n 1 4) rfl rfl rfl ?_;refine Jud (inB p.n 1 4) rfl (fun h1=>?_) (fun h1=>Jue (by show [dB false]=_;simp[JL,h1]));refine Jur (Jbi p.acts hp.1) rfl rfl rfl ?_;refine Jud (Qu p.acts) rfl (fun h2=>?_) (fun h2=>Jue (by show [dB false]=_;simp[JL,h2]));refine Jur (XE p.start 3 1000 hp.2.2 (by omega) (by omega)) rfl rfl rfl ?_;refine Jud (JF 3 1000 p.start) rfl (fun h3=>?_) (fun h3=>Jue (by show [dB false]=_;simp[JL,h3]));refine Jur (Jdt p p.start) rfl rfl rfl ?_;refine Jur (Jhj p.start p.gives hp.2.2 hp.2.1) rfl rfl rfl (Jue ?_);show [dB (Qw p.start p.gives)]=_;simp[JL,h1,h2,h3]
structure Sit where
 up:Bool
 frozen:Bool
 round:Int
 base:List Int
 added:List Int
 done:List Don
 deriving DecidableEq
def Sit.cells (s:Sit):List D:=[dB s.up,dB s.frozen,dI s.round,.s (dL s.base),.s (dL s.added),.s (dDs s.done)]
def KH (s:Sit):Prop:=s.base.length≤2000000∧s.added.length≤2000000∧s.done.length≤2000000∧∀d∈s.done,d.tells.length≤2000000
def Wb:Don:=⟨0,0,[]⟩
def ZW (p:Pln):Sit:=if JL p then ⟨true,false,0,p.start,[0,0,0],List.replicate p.n.toNat Wb⟩ else ⟨false,false,0,[],[],[]⟩
theorem J9 {p:Pln} (h:JL p=true):1≤p.n∧p.n≤4∧p.start.length=3∧Qw p.start p.gives=true:=by
 simp only[JL,JuD,Jq,Jp] at h;obtain⟨⟨h1,h2⟩,_,⟨h3,_⟩,h4⟩:=h;exact⟨h1,h2,by omega,h4⟩
theorem JhW (p:Pln) (h0:0≤p.n) (h1:p.n≤4):Ev L f_kl p.cells [.s (dDs (List.replicate p.n.toNat Wb))]:=by
 refine JuA (vs:=[.i p.n,.l (Jc p.acts),.l (dL p.gives),.l (dL p.start)]) L_kl rfl ?_;refine Jt3 p.n.toNat (fun i=>[.l (dDs (List.replicate i Wb)),.i i]) (fun _=>True) rfl rfl trivial fun i hi _=>?_;simp only[sC,sN];have hl:(dDs (List.replicate i Wb)).length=i:=by simp[dDs]
 refine JtX i p.n.toNat (by show decide ((i:Int)<p.n)=_;rw[show ((p.n.toNat:Nat):Int)=p.n by omega]) (fun h=>?_) (fun h=>Juk (Jue ?_))
 ·refine Jus (dDs (List.replicate i Wb)) 4 (by omega) (by omega) rfl ?_;refine Jt4 (vs:=[.l (dDs (List.replicate (i+1) Wb)),.i ((i+1:Nat):Int)]) ?_ ⟨h,rfl,trivial⟩;show [V.l (dDs (List.replicate i Wb)++[Don.g Wb]),V.i (i64.wrap ((i:Int)+1))]=_;rw[wS h (by omega),List.replicate_succ'];simp[dDs]
 ·show [D.s (dDs (List.replicate i Wb))]=_;rw[show i=p.n.toNat by omega]
theorem Jke (p:Pln) (hp:JV p):Ev L f_ko p.cells (ZW p).cells:=by
 refine JuA (vs:=[.i p.n,.l (Jc p.acts),.l (dL p.gives),.l (dL p.start)]) L_ko rfl ?_;refine Jur (K7 p hp) rfl rfl rfl ?_;refine Jum (JL p) rfl (fun h=>Jue ?_) (fun h=>?_)
 ·show _=(ZW p).cells;unfold ZW;rw[if_neg (by simp[h])];rfl
 obtain⟨h1,h2,h3,_⟩:=J9 h;refine Juj (dL p.start) 2000000 (by rw[dL1];exact hp.2.2) (by omega) rfl ?_;refine Juc (JT p.start) ?_;refine Juj (dL p.start) 2000000 (by rw[dL1];exact hp.2.2) (by omega) rfl ?_;refine Jur (JhW p (by omega) h2) rfl rfl rfl (Jue ?_);show _=(ZW p).cells;unfold ZW;rw[if_pos h];rfl
/- The program's ClkNew answers as the reference's: over residual programs. -/
structure Clk where
 up:Bool
 round:Int
 base:List Int
 done:List Don
 wants:List Cal
 got:List Got
 deriving DecidableEq
def Clk.cells (s:Clk):List D:=[dB s.up,dI s.round,.s (dL s.base),.s (dDs s.done),.s (dCs s.wants),.s (dGs s.got)]
structure Qy (s:Clk):Prop where
 b:s.base.length≤2000000
 d:s.done.length≤2000000
 dt :∀d∈s.done,d.tells.length≤2000000
 c:s.wants.length≤2000000
 ct :∀d∈s.wants,d.args.length≤2000000
 g:s.got.length≤2000000
 gt :∀d∈s.got,d.added.length≤2000000∧d.seqs.length≤2000000
def Qn:Got:=⟨false,[],[]⟩
def XX (p:Pln):Clk:=if JL p then ⟨true,0,p.start,List.replicate p.n.toNat Wb,[],List.replicate p.gives.length Qn⟩ else ⟨false,0,[],[],[],[]⟩
theorem Jbv (p:Pln) (hg:p.gives.length≤2000000):Ev L f_km p.cells [.s (dGs (List.replicate p.gives.length Qn))]:=by
 refine JuA (vs:=[.i p.n,.l (Jc p.acts),.l (dL p.gives),.l (dL p.start)]) L_km rfl ?_;refine Jt3 p.gives.length (fun i=>[.l (dGs (List.replicate i Qn)),.i i]) (fun _=>True) rfl rfl trivial fun i hi _=>?_;simp only[sC,sN];have hl:(dGs (List.replicate i Qn)).length=i:=by simp[dGs]
 refine JtY i (dL1 p.gives) rfl (fun h=>?_) (fun h=>Juk (Jue ?_))
 ·refine Jus (dGs (List.replicate i Qn)) 2000000 (by omega) (by omega) rfl ?_;refine Jt4 (vs:=[.l (dGs (List.replicate (i+1) Qn)),.i ((i+1:Nat):Int)]) ?_ ⟨h,rfl,trivial⟩;show [V.l (dGs (List.replicate i Qn)++[Got.g Qn]),V.i (i64.wrap ((i:Int)+1))]=_;rw[wS h (by omega),List.replicate_succ'];simp[dGs]
 ·show [D.s (dGs (List.replicate i Qn))]=_;rw[show i=p.gives.length by omega]
theorem Jkf (p:Pln) (hp:JV p):Ev L f_kn p.cells (XX p).cells:=by
 refine JuA (vs:=[.i p.n,.l (Jc p.acts),.l (dL p.gives),.l (dL p.start)]) L_kn rfl ?_;refine Jur (K7 p hp) rfl rfl rfl ?_;refine Jum (JL p) rfl (fun h=>Jue ?_) (fun h=>?_)
 ·show _=(XX p).cells;unfold XX;rw[if_neg (by simp[h])];rfl
 obtain⟨h1,h2,h3,_⟩:=J9 h;refine Juj (dL p.start) 2000000 (by rw[dL1];exact hp.2.2) (by omega) rfl ?_;refine Juc (JT p.start) ?_;refine Juj (dL p.start) 2000000 (by rw[dL1];exact hp.2.2) (by omega) rfl ?_;refine Jur (JhW p (by omega) h2) rfl rfl rfl ?_;refine Jur (Jbv p hp.2.1) rfl rfl rfl (Jue ?_);show _=(XX p).cells;unfold XX;rw[if_pos h];rfl
/- The program's LocTry answers as the reference's: over residual programs. -/
theorem Jhm (as:List (List Jg)) (b g:List Int) (s:Int) (a:List Int) (k:Int) (w:List Int) (ha:a.length≤2000000):(JaY as b g s a k w).tells.length≤2000000∧(JaY as b g s a k w).adds.length≤2000000:=by
 have key :∀r,r∈Jv (as.getD k.toNat [])→(KB b g (Jb as) (Jj as) s a w r).tells.length≤2000000∧(KB b g (Jb as) (Jj as) s a w r).adds.length≤2000000:=by
  intro r hr;have hf:=Yf r hr;have hs:(Qp a (atL r.adds b w)).length≤a.length:=by unfold Qp;rw[List.length_zipWith];omega
  have ht:(atL r.tells b w).length=r.tells.length:=by simp[atL]
  have htl:=hf.tl;unfold KB
  repeat' split
  all_goals first
   | exact⟨by simp,ha⟩
   | exact⟨by simp only[ht];omega,by simp only;omega⟩
 unfold JaY;split
 ·split
  ·rename_i r hr;exact key r (List.mem_of_find?_eq_some hr)
  ·exact⟨by simp,ha⟩
 ·exact⟨by simp,by simp⟩
/- Marks,and what is held,of plans,sites and clients: over residual programs. Printed by wip/tools/pzl.py. -/
def Sit.w (s:Sit):Nat:=3+s.base.length+s.added.length+wts Don.w s.done
def Sit.g (s:Sit):D:= .g s.cells
structure Con where
 seq:Int
 busy:Bool
 call:Cal
 code:Int
 tells:List Int
 deriving DecidableEq
def Con.cells (s:Con):List D:=[dI s.seq,dB s.busy,dI s.call.client,dI s.call.seq,dI s.call.act,.s (dL s.call.args),dI s.code,.s (dL s.tells)]
def Con.g (s:Con):D:= .g s.cells
def JjC (s:Con):Prop:=s.call.args.length≤2000000∧s.tells.length≤2000000
def Con.w (s:Con):Nat:=6+s.call.args.length+s.tells.length
/- The program's WldNew answers as the reference's: over residual programs. -/
end Go.Proofs.YtofcmnglieaoeabGreatDoor
/- The program's WldNew answers as the reference's: the functions,and the law: over residual programs. -/
namespace Go.Proofs.YtofcmnglieaoeabGreatDoor
open Go Go.Tm
open Go.IntKind (i64)
theorem Jrg (l:List Jg) (x:Jg):Jk l++[x.g]=Jk (l++[x]):=by simp[Jk]
theorem JqC (l:List (List Jg)) (x:List Jg):Jc l++[.s (Jk x)]=Jc (l++[x]):=by simp[Jc]
theorem Jgc (as:List (List Jg)) (hf:Yj as):Ev L f_kj [.s (Jc as)] [.s (Jc as)]:=by
 refine JuA (vs:=[.l (Jc as)]) L_kj rfl ?_;have hl:=hf.1;refine Jt3 as.length (fun i=>[.l (Jc (as.take i)),.i i]) (fun _=>True) rfl rfl trivial fun i hi _=>?_;simp only[sC,sN];refine JtY i (JN as) rfl (fun h=>?_) (fun h=>Juk (Jue ?_))
 ·obtain⟨a,ha,hm⟩:=sA1 h;obtain⟨hal,hax⟩:=hf.2 a hm;refine Jt3 a.length (fun j=>[.l (Jk (a.take j)),.i j]) (fun _=>True) rfl rfl trivial fun j hj _=>?_;simp only[sC,sN];refine Juo (vs:=[.l (Jk a)]) i (mA1 (f:=fun a=>D.s (Jk a)) ha) rfl rfl rfl rfl ?_;simp only[sC,sN];refine JtY j (JM a) rfl (fun h'=>?_) (fun h'=>?_)
  ·obtain⟨x,hx,hmx⟩:=sA1 h';have hxf:=hax x hmx;refine Juo (vs:=[.l (Jk a)]) i (mA1 (f:=fun a=>D.s (Jk a)) ha) rfl rfl rfl rfl ?_;simp only[sC,sN];refine Juo (vs:=[.i x.kind,.i x.pot,.i x.skip,.l (dL x.f.c),.l (dL x.f.d),.i x.f.k]) j (mA1 (f:=Jg.g) hx) rfl rfl rfl rfl ?_;simp only[sC,sN];refine Juj (dL x.f.c) 2000000 (by rw[dL1];exact hxf.1) (by omega) rfl ?_;refine Juc (JT x.f.c) ?_;refine Juj (dL x.f.c) 2000000 (by rw[dL1];exact hxf.1) (by omega) rfl ?_;refine Juj (dL x.f.d) 2000000 (by rw[dL1];exact hxf.2) (by omega) rfl ?_;refine Juc (JT x.f.d) ?_;refine Juj (dL x.f.d) 2000000 (by rw[dL1];exact hxf.2) (by omega) rfl ?_;refine Jus (Jk (a.take j)) 2000000 (by rw[JM];simp;omega) (by omega) rfl ?_;refine Jt4 (vs:=[.l (Jk (a.take (j+1))),.i ((j+1:Nat):Int)]) ?_ ⟨h',rfl,trivial⟩;show [V.l (Jk (a.take j)++[x.g]),V.i (i64.wrap ((j:Int)+1))]=_;rw[wS h' (by omega),Jrg,tS1 hx]
  ·refine Juk ?_;rw[tA1 h'];refine Jus (Jc (as.take i)) 2000000 (by rw[JN];simp;omega) (by omega) rfl ?_;refine Jt4 (vs:=[.l (Jc (as.take (i+1))),.i ((i+1:Nat):Int)]) ?_ ⟨h,rfl,trivial⟩;show [V.l (Jc (as.take i)++[.s (Jk a)]),V.i (i64.wrap ((i:Int)+1))]=_;rw[wS h (by omega),JqC,tS1 ha]
 ·show [D.s (Jc (as.take i))]=_;rw[tA1 h]
theorem Ji5 (p:Pln) (hp:JV p):Ev L f_kk p.cells p.cells:=by
 refine JuA (vs:=[.i p.n,.l (Jc p.acts),.l (dL p.gives),.l (dL p.start)]) L_kk rfl ?_;refine Jur (Jgc p.acts hp.1) rfl rfl rfl ?_;refine Juj (dL p.gives) 2000000 (by rw[dL1];exact hp.2.1) (by omega) rfl ?_;refine Juc (JT p.gives) ?_;refine Juj (dL p.gives) 2000000 (by rw[dL1];exact hp.2.1) (by omega) rfl ?_;refine Juj (dL p.start) 2000000 (by rw[dL1];exact hp.2.2) (by omega) rfl ?_;refine Juc (JT p.start) ?_;refine Juj (dL p.start) 2000000 (by rw[dL1];exact hp.2.2) (by omega) rfl ?_;exact Jue rfl
structure Wld where
 p:Pln
 sites:List Sit
 c:Clk
 cons:List Con
def Wld.cells (w:Wld):List D:=[dI w.p.n,.s (Jc w.p.acts),.s (dL w.p.gives),.s (dL w.p.start),.s (w.sites.map Sit.g),dB w.c.up,dI w.c.round,.s (dL w.c.base),.s (dDs w.c.done),.s (dCs w.c.wants),.s (dGs w.c.got),.s (w.cons.map Con.g),.s [],.s []]
def JgV:Con:=⟨0,false,⟨0,0,0,[]⟩,0,[]⟩
def Wy (p:Pln):Wld:=if JL p then ⟨p,List.replicate p.gives.length (ZW p),XX p,List.replicate p.n.toNat JgV⟩ else ⟨⟨0,[],[],[]⟩,[],XX p,[]⟩
theorem Jks (p:Pln) (hp:JV p):Ev L f_kp p.cells (Wy p).cells:=by
 refine JuA (vs:=[.i p.n,.l (Jc p.acts),.l (dL p.gives),.l (dL p.start)]) L_kp rfl ?_;refine Jur (K7 p hp) rfl rfl rfl ?_;refine Jum (JL p) rfl (fun h=>Jue ?_) (fun h=>?_)
 ·show _=(Wy p).cells;unfold Wy XX;rw[if_neg (by simp[h]),if_neg (by simp[h])];rfl
 obtain⟨h1,h2,h3,_⟩:=J9 h;have hW:Wy p=⟨p,List.replicate p.gives.length (ZW p),XX p,List.replicate p.n.toNat JgV⟩:=by unfold Wy;rw[if_pos h]
 rw[hW];have hsn:=Jke p hp;have hcn:=Jkf p hp;have hg:=hp.2.1;generalize ZW p=s at *;generalize XX p=c at *;refine Jur (vs:=[.i p.n,.l (Jc p.acts),.l (dL p.gives),.l (dL p.start)]) (Ji5 p hp) rfl rfl rfl ?_;simp only[sC,sN];refine Jur (vs:=[.b c.up,.i c.round,.l (dL c.base),.l (dDs c.done),.l (dCs c.wants),.l (dGs c.got)]) hcn rfl rfl rfl ?_;simp only[sC,sN];refine Jt3 p.gives.length (fun i=>[.l ((List.replicate i s).map Sit.g),.i i]) (fun _=>True) rfl rfl trivial fun i hi _=>?_;simp only[sC,sN];refine JtY i (dL1 p.gives) rfl (fun h=>?_) (fun h'=>Juk ?_)
 ·refine Jur (vs:=[.b s.up,.b s.frozen,.i s.round,.l (dL s.base),.l (dL s.added),.l (dDs s.done)]) hsn rfl rfl rfl ?_;simp only[sC,sN];refine Jus ((List.replicate i s).map Sit.g) 2000000 (by simp;omega) (by omega) rfl ?_;refine Jt4 (vs:=[.l ((List.replicate (i+1) s).map Sit.g),.i ((i+1:Nat):Int)]) ?_ ⟨h,rfl,trivial⟩;show [V.l ((List.replicate i s).map Sit.g++[Sit.g s]),V.i (i64.wrap ((i:Int)+1))]=_;rw[wS h (by omega),List.replicate_succ'];simp
 have hil:i=p.gives.length:=by omega
 subst hil;refine Jt3 p.n.toNat (fun i=>[.l ((List.replicate i JgV).map Con.g),.i i]) (fun _=>True) rfl rfl trivial fun j hj _=>?_;simp only[sC,sN];refine JtX j p.n.toNat (by show decide ((j:Int)<p.n)=_;rw[show ((p.n.toNat:Nat):Int)=p.n by omega]) (fun h=>?_) (fun h'=>Juk (Jue ?_))
 ·refine Jus ((List.replicate j JgV).map Con.g) 4 (by simp;omega) (by omega) rfl ?_;refine Jt4 (vs:=[.l ((List.replicate (j+1) JgV).map Con.g),.i ((j+1:Nat):Int)]) ?_ ⟨h,rfl,trivial⟩;show [V.l ((List.replicate j JgV).map Con.g++[Con.g JgV]),V.i (i64.wrap ((j:Int)+1))]=_;rw[wS h (by omega),List.replicate_succ'];simp
 ·have hjl:j=p.n.toNat:=by omega
  subst hjl;rfl
/- Results as texts: which of them are ok. -/
def JK (c:Int) (t:List Int):Bool:=inB c 1 3&&(decide (t.length≤6)&&((decide (c=1)||t.isEmpty)&&JF t.length 999999999999 t))
theorem Yz {c:Int} {t:List Int}:JK c t=true↔(1≤c∧c≤3)∧t.length≤6∧(c=1∨t=[])∧Lim 999999999999 t:=by
 unfold JK inB;simp only[JuD,Bool.or_eq_true,decide_eq_true_eq,List.isEmpty_iff,Jp];exact⟨fun h=>⟨h.1,h.2.1,h.2.2.1,h.2.2.2.2⟩,fun h=>⟨h.1,h.2.1,h.2.2.1,trivial,h.2.2.2⟩⟩
def Qq:List (List UInt8):=[[],[100,111,110,101],[115,116,111,112,112,101,100],[111,118,101,114]]
def K1 (c:Int) (t:List Int):List UInt8:=if JK c t then Qq.getD c.toNat []++Qv t else []
theorem JqJ (a b:List UInt8):(⟨a.toArray⟩:ByteArray)++⟨b.toArray⟩=⟨(a++b).toArray⟩:=by
 apply ByteArray.ext;simp
theorem Jck {a b:List UInt8} (h:a.length+b.length≤1000000):Kc .cat [Q2 a,Q2 b]=some (Q2 (a++b)):=by
 show (if(⟨a.toArray⟩:ByteArray).size+(⟨b.toArray⟩:ByteArray).size≤2 ^ 62 then some (D.v (.string ((⟨a.toArray⟩:ByteArray)++⟨b.toArray⟩))) else none)=_;rw[if_pos,JqJ]
 ·rfl
 show a.toArray.size+b.toArray.size≤2 ^ 62;simp only[List.size_toArray];omega
theorem JkR (a b:List UInt8):Kc .seq [Q2 a,Q2 b]=some (dB (a == b)):=by
 show some (D.v (.bool ((⟨a.toArray⟩:ByteArray).toList == (⟨b.toArray⟩:ByteArray).toList)))=_;rw[ByteArray.toList_mk,ByteArray.toList_mk]
theorem Jdz (t:List Int) (hl:Lim 999999999999 t):(Qv t).length≤22*t.length:=by
 induction t with
 | nil=>simp[Qv]
 | cons n l ih =>
  have h1:=hl n (by simp);have h2:=Lib.itoa_length_le n (by omega) (by omega);have h3:=ih fun m hm=>hl m (by simp[hm]);simp only[Qv,List.flatMap_cons,JuJ,List.length_cons] at h3 ⊢;omega
theorem Jge {c:Int} (h:inB c 1 3=true):Qq[c.toNat]? = some (Qq.getD c.toNat [])∧Qq.getD c.toNat []≠[]∧(Qq.getD c.toNat []).length≤7:=by
 unfold inB at h;simp only[JuD,decide_eq_true_eq] at h;rcases (show c=1∨c=2∨c=3 by omega) with rfl | rfl | rfl <;> exact⟨rfl,by decide,by decide⟩
theorem Jem (c:Int) (t:List Int):(K1 c t == []) = !JK c t:=by
 unfold K1;split
 ·rename_i h;have hin:inB c 1 3=true:=by unfold JK at h;simp only[JuD] at h;exact h.1
  have:=(Jge hin).2.1;rw[h];have h2:Qq.getD c.toNat []++Qv t≠[]:=fun e=>this (List.append_eq_nil_iff.1 e).1;generalize Qq.getD c.toNat []++Qv t=l at h2;cases l with
  | nil=>exact absurd rfl h2
  | cons x l=>rfl
 ·rename_i h;simp[h]
theorem JfC (t:List Int) (h6:t.length≤6) (hl:Lim 999999999999 t):Ev L f_k4p [.s (dL t)] [Q2 (Qv t)]:=by
 refine Juz L_k4p ?_;show (if(dL t).length≤4096 then((dL t).mapM Jch).map fun l=>[Q2 (Qv l)] else none)=_;have e:(dL t).mapM Jch=some t:=Jb7 fun n hn=>by have:=hl n hn;omega
 rw[if_pos (by rw[dL1];omega),e];rfl
theorem W3:Ev L f_k4o [] [.s (Qq.map Q2)] :=
 JuA (vs:=[]) L_k4o rfl (Jue rfl)
theorem Jib (c:Int) (t:List Int) (ht:t.length≤2000000):Ev L f_k4q [dI c,.s (dL t)] [Q2 (K1 c t)]:=by
 refine JuA (vs:=[.i c,.l (dL t)]) L_k4q rfl ?_;have no:JK c t=false→([Q2 []]:List D)=[Q2 (K1 c t)]:=fun h=>by simp[K1,h]
 refine Jur (Yy c 1 3) rfl rfl rfl ?_;refine Jum (inB c 1 3) rfl (fun h=>Jue (no (by simp[JK,h]))) (fun h1=>?_);refine Jt8 (6<((dL t).length:Int)) rfl (fun h=>Jue (no ?_)) (fun h2=>?_)
 ·rw[dL1] at h;simp only[JK,show ¬t.length≤6 by omega,decide_false,Bool.false_and,Bool.and_false]
 rw[dL1] at h2;obtain⟨w1,_,w3⟩:=Jge h1;have hidx:(Qq.map Q2)[c.toNat]? = some (Q2 (Qq.getD c.toNat [])):=by rw[JuY,w1];rfl
 have hc0:0≤c:=by unfold inB at h1;simp only[JuD,decide_eq_true_eq] at h1;omega
 have hc4:c<((Qq.map Q2).length:Int):=by unfold inB at h1;simp only[JuD,decide_eq_true_eq] at h1;show c<4;omega
 have hwn:=XE t t.length 999999999999 ht (by omega) (by omega);refine Jum (decide (c=1)) rfl (fun h3=>?_) (fun h3=>?_)
 ·refine Jt8 (0<((dL t).length:Int)) rfl (fun h=>Jue (no ?_)) (fun h4=>?_)
  ·rw[dL1] at h;have:t.isEmpty=false:=by cases t with
    | nil=>simp at h
    | cons x t=>rfl
   simp only[JK,h3,this,Bool.or_false,Bool.false_and,Bool.and_false]
  ·rw[dL1] at h4;have h4:t=[]:=List.length_eq_zero_iff.1 (by omega);refine Jur hwn rfl (by show [D.s (dL t),dI ((dL t).length:Int),dI 999999999999]=_;rw[dL1]) rfl ?_;refine Jum (JF t.length 999999999999 t) rfl (fun h=>Jue (no (by simp only[JK,h,Bool.and_false]))) (fun h5=>?_);have hl:=(Jp.1 h5).2;have hj:=Jdz t hl;have hok:JK c t=true:=by simp only[JK,h1,h5,h4,List.length_nil,List.isEmpty_nil,Bool.or_true,JuX];simp[JF]
   have e:Q2 (K1 c t)=Q2 (Qq.getD c.toNat []++Qv t):=by simp only[K1,hok,if_true]
   rw[e];refine Jur W3 rfl rfl rfl ?_;refine Juf (0≤c) rfl hc0 (Juf (c<((Qq.map Q2).length:Int)) rfl hc4 ?_);refine Jug (ds:=Qq.map Q2) c rfl rfl rfl hc0 hidx rfl ?_;refine Jur (JfC t (by omega) hl) rfl rfl rfl ?_;refine Jul rfl (Jck (by omega)) rfl (Jue rfl)
 ·refine Jur hwn rfl (by show [D.s (dL t),dI ((dL t).length:Int),dI 999999999999]=_;rw[dL1]) rfl ?_;refine Jum (JF t.length 999999999999 t) rfl (fun h=>Jue (no (by simp only[JK,h,Bool.and_false]))) (fun h5=>?_);have hl:=(Jp.1 h5).2;have hj:=Jdz t hl;have hok:JK c t=true:=by simp only[JK,h1,h5,h3,Bool.true_or,JuX,Bool.and_true];simp;omega
  have e:Q2 (K1 c t)=Q2 (Qq.getD c.toNat []++Qv t):=by simp only[K1,hok,if_true]
  rw[e];refine Jur W3 rfl rfl rfl ?_;refine Juf (0≤c) rfl hc0 (Juf (c<((Qq.map Q2).length:Int)) rfl hc4 ?_);refine Jug (ds:=Qq.map Q2) c rfl rfl rfl hc0 hidx rfl ?_;refine Jur (JfC t (by omega) hl) rfl rfl rfl ?_;refine Jul rfl (Jck (by omega)) rfl (Jue rfl)
theorem JmD (c:Int) (t:List Int) (ht:t.length≤2000000):Ev L f_k4r [dI c,.s (dL t)] [dB (JK c t)]:=by
 refine JuA (vs:=[.i c,.l (dL t)]) L_k4r rfl ?_;refine Jur (Jib c t ht) rfl rfl rfl ?_;refine Jul rfl (JkR (K1 c t) []) rfl (Jue ?_);show [dB (!(K1 c t == []))]=_;rw[Jem,Bool.not_not]
/- What does not come to its end turns nothing: over residual programs. -/
theorem JnB (v x t:List Int) (hv:v.length≤2000000) (hx:x.length≤2000000):Ev L f_k2j [.s (dL v),.s (dL x),.s (dL t)] (Res.ds (JhZ v x t)):=by
 refine JuA (vs:=[.l (dL v),.l (dL x),.l (dL t)]) L_k2j rfl ?_;refine Jur (Zc x hx) rfl rfl rfl ?_;unfold JhZ;refine Jum (JR x) rfl (fun h=>?_) (fun h=>Jue ?_)
 ·rw[h,if_neg (by simp)];refine Juj (dL v) 2000000 (by rw[dL1];omega) (by omega) rfl ?_;refine Juc (JT v) ?_;refine Juj (dL v) 2000000 (by rw[dL1];omega) (by omega) rfl (Jue rfl)
 ·rw[h];rfl
theorem Jj1 (a:List Jg) (v w:List Int) (ha:KF a) (hv:v.length≤2000000) (hw:w.length≤2000000):Ev L f_k2k [.s (Jk a),.s (dL v),.s (dL w)] (Res.ds (Ka a v w)):=by
 refine JuA (vs:=[.l (Jk a),.l (dL v),.l (dL w)]) L_k2k rfl ?_;have none:(Qt a&&(JR v&&Q6 w))=false→Ka a v w=⟨0,[],[]⟩:=fun h=>by simp[Ka,h]
 refine Jur (Jaz a ha) rfl rfl rfl ?_;refine Jum (Qt a) rfl (fun h=>Jue ?_) (fun h=>?_)
 ·rw[none (by simp[h])];rfl
 refine Jur (Zc v hv) rfl rfl rfl ?_;refine Jum (JR v) rfl (fun h2=>Jue ?_) (fun h2=>?_)
 ·rw[none (by simp[h2])];rfl
 refine Jur (Jjr w hw) rfl rfl rfl ?_;refine Jum (Q6 w) rfl (fun h3=>Jue ?_) (fun h3=>?_)
 ·rw[none (by simp[h3])];rfl
 have hrun:Ka a v w=run v w a v []:=by simp[Ka,h,h2,h3]
 rw[hrun];obtain⟨v1,v2⟩:=QI.1 h2;obtain⟨w1,w2⟩:=X1.1 h3;obtain⟨a1,a2⟩:=K2 h;refine Juj (dL v) 2000000 (by rw[dL1];omega) (by omega) rfl ?_;refine Juc (JT v) ?_;refine Juj (dL v) 2000000 (by rw[dL1];omega) (by omega) rfl ?_;simp only[sC,sN];refine Jt6 (fun m vs=>∃ (i:Int) (x t:List Int) (j:Nat),vs=[.l (dL t),.l (dL x),.i i]∧0≤i∧i≤20∧m=a.length-i.toNat∧(j:Int)≤i∧j≤6∧x.length=3∧Lim (XB j) x∧t.length≤j∧run v w (a.drop i.toNat) x t=run v w a v []) rfl a.length
  ⟨0,v,[],0,rfl,by omega,by omega,by simp,by omega,by omega,v1,v2,by simp,by simp⟩ ?_
 rintro m _ ⟨i,x,t,j,rfl,i0,i20,hm,hji,hj6,hx,hl,ht,hr⟩;rw[←hr];clear hr;simp only[sC,sN];have hX0:=JgD j;have hXl:=Jp1 hj6;refine Jt8 (i<((Jk a).length:Int)) rfl (fun hi=>?_) (fun hi=>?_)
 ·rw[JM] at hi;obtain⟨l,hla,hd⟩:=Vg i0 hi;have hok:=a2 l (JuK hla);have hdr:=XF hla;have hs1:(i+1).toNat=i.toNat+1:=by omega
  refine Jug (ds:=Jk a) i rfl rfl rfl i0 hd rfl ?_;simp only[sC,sN];have hlx:Lim 2000000000 x:=hl.mono hXl;have hrn : ¬l.kind=4→run v w (a.drop i.toNat) x t=if l.kind=1 then(if atF l.f x w<0 then run v w (a.drop (i+l.skip+1).toNat) x t else run v w (a.drop (i+1).toNat) x t)
    else if l.kind=2 then run v w (a.drop (i+1).toNat) (x.set l.pot.toNat (x.getD l.pot.toNat 0+atF l.f x w)) t else run v w (a.drop (i+1).toNat) x (t++[atF l.f x w]):=fun h4=>by
   rw[hdr,run,if_neg h4,hs1]
   by_cases h1:l.kind=1
   ·have hsk:=Jcs hok h1;rw[if_pos h1,if_pos h1,List.drop_drop,show i.toNat+1+l.skip.toNat=(i+l.skip+1).toNat by omega]
   ·rw[if_neg h1,if_neg h1]
  have hat:=fun h4 : ¬l.kind=4=>Jg0 (ZL.small (X4 hok h4) hx hlx h3);have hb:=fun h4 : ¬l.kind=4=>Jip (X4 hok h4) hl w2 hX0;refine Jt8 (l.kind=1) rfl (fun h1=>?_) (fun h1=>?_)
  ·have h4 : ¬l.kind=4:=by omega
   have hat:=hat h4;rw[hrn h4,if_pos h1];have hsk:=Jcs hok h1;refine Jur hat rfl rfl rfl ?_;simp only[sC,sN];generalize atF l.f x w=n at *;refine Jt8 (n<0) rfl (fun hn=>?_) (fun hn=>?_)
   ·rw[if_pos hn];refine Jt4 (vs:=[.l (dL t),.l (dL x),.i (i+l.skip+1)]) ?_ ⟨a.length-(i+l.skip+1).toNat,by omega,i+l.skip+1,x,t,j,rfl,by omega,by omega,rfl,by omega,by omega,hx,hl,ht,rfl⟩;show [V.l (dL t),V.l (dL x),V.i (i64.wrap (i64.wrap (i+l.skip)+1))]=_;rw[w64 (n:=i+l.skip) (by omega) (by omega),w64 (by omega) (by omega)]
   ·rw[if_neg hn];refine Jt4 (vs:=[.l (dL t),.l (dL x),.i (i+1)]) ?_ ⟨a.length-(i+1).toNat,by omega,i+1,x,t,j,rfl,by omega,by omega,rfl,by omega,by omega,hx,hl,ht,rfl⟩;show [V.l (dL t),V.l (dL x),V.i (i64.wrap (i+1))]=_;rw[w64 (by omega) (by omega)]
  refine Jt8 (l.kind=2) rfl (fun h2'=>?_) (fun h2'=>?_)
  ·have h4 : ¬l.kind=4:=by omega
   have hat:=hat h4;have hb:=hb h4;rw[hrn h4,if_neg h1,if_pos h2'];have hj5:j<6:=by omega
   have hpt:=Jgo hok h2';have hxp:=JaT (l:=x) (i:=l.pot.toNat) (by omega);have hdx:(dL x)[l.pot.toNat]? = some (dI (x.getD l.pot.toNat 0)):=mA1 (f:=dI) hxp;have hlp:=hl _ (JuK hxp);generalize atF l.f x w=n at *;generalize x.getD l.pot.toNat 0=y at *;refine Juf (0≤l.pot) rfl hpt.1 ?_;refine Juf (l.pot<((dL x).length:Int)) rfl (by rw[dL1];omega) ?_;refine Jug (ds:=dL x) l.pot rfl rfl rfl hpt.1 hdx rfl ?_;simp only[sC,sN];refine Jur hat rfl rfl rfl ?_;simp only[sC,sN];refine Juf (0≤l.pot) rfl hpt.1 ?_;refine Juf (l.pot<((dL x).length:Int)) rfl (by rw[dL1];omega) ?_;refine Jug (ds:=dL x) l.pot rfl rfl rfl hpt.1 hdx rfl ?_;simp only[sC,sN];have hstep:XB (j+1)=7*XB j+60:=rfl;refine Jt4 (vs:=[.l (dL t),.l (dL (x.set l.pot.toNat (y+n))),.i (i+1)]) ?_ ⟨a.length-(i+1).toNat,by omega,i+1,x.set l.pot.toNat (y+n),t,j+1,rfl,by omega,by omega,rfl,by omega,by omega,by simp[hx],(hl.mono (Jcj (by omega))).set (by omega) _,by omega,rfl⟩;show [V.l (dL t),V.l ((dL x).set l.pot.toNat (dI (i64.wrap (y+n)))),V.i (i64.wrap (i+1))]=_;rw[w64 (n:=i+1) (by omega) (by omega),w64 (by omega) (by omega),QM]
  refine Jt8 (l.kind=3) rfl (fun h3'=>?_) (fun h3'=>?_)
  ·have h4 : ¬l.kind=4:=by omega
   have hat:=hat h4;have hj5:j<6:=by omega
   rw[hrn h4,if_neg h1,if_neg h2'];refine Jur hat rfl rfl rfl ?_;simp only[sC,sN];generalize atF l.f x w=n at *;refine Jus (dL t) 10 (by rw[dL1];omega) (by omega) rfl ?_;refine Jt4 (vs:=[.l (dL (t++[n])),.l (dL x),.i (i+1)]) ?_ ⟨a.length-(i+1).toNat,by omega,i+1,x,t++[n],j+1,rfl,by omega,by omega,rfl,by omega,by omega,hx,hl.mono (Jcj (by omega)),by simp;omega,rfl⟩;show [V.l (dL t++[dI n]),V.l (dL x),V.i (i64.wrap (i+1))]=_;rw[w64 (by omega) (by omega),XI]
  ·have h4:l.kind=4:=by
    by_cases h4:l.kind=4
    ·exact h4
    ·exact absurd (Jpv hok h1 h2' h4) h3'
   rw[hdr,run,if_pos h4];refine Juj (dL v) 2000000 (by rw[dL1];omega) (by omega) rfl ?_;refine Juc (JT v) ?_;refine Juj (dL v) 2000000 (by rw[dL1];omega) (by omega) rfl (Juk (Jue rfl))
 ·rw[JM] at hi;rw[List.drop_eq_nil_of_le (by omega),run];refine Juk ?_;exact Jur (JnB v x t hv (by omega)) rfl rfl rfl (Jue rfl)
def Jll (v:List Int) (r:Res):Prop:=(r.code=1∧JR r.is=true∧r.tells.length≤6∧Lim 999999999999 r.tells)∨(r.is=v∧r.tells=[]∧(r.code=2∨r.code=3))
theorem UO {v w:List Int} (hw:Lim 9 w) :∀(n:Nat) (a:List Jg) (x t:List Int) (j:Nat),a.length≤n→(∀l∈a,l.ok=true)→j+a.length≤6→x.length=3→Lim (XB j) x→t.length≤j→Lim 999999999999 t→Jll v (run v w a x t)
 | n,[],x,t,j,_,_,hj,hx,hl,ht,hlt=>by
  rw[run];unfold JhZ;split
  ·rename_i h;exact .inl ⟨rfl,h,by simp at hj;show t.length≤6;omega,hlt⟩
  ·exact .inr ⟨rfl,rfl,.inr rfl⟩
 | 0,l::a,x,t,j,h,_,_,_,_,_,_=>by simp at h
 | n+1,l::a,x,t,j,h,hok,hj,hx,hl,ht,hlt=>by
  have hok1:=hok l (by simp);have hok2 :∀l∈a,l.ok=true:=fun m hm=>hok m (by simp[hm]);simp only[List.length_cons] at h hj;rw[run];split
  ·exact .inr ⟨rfl,rfl,.inl rfl⟩
  ·rename_i h4;have hX0:=JgD j;have hXl:=Jp1 (n:=j) (by omega);have hb:=Jip (X4 hok1 h4) hl hw hX0;split
   ·split
    ·exact UO hw n _ x t j (by simp;omega) (fun m hm=>hok2 m (List.mem_of_mem_drop hm)) (by simp;omega) hx hl ht hlt
    ·exact UO hw n a x t j (by omega) hok2 (by omega) hx hl ht hlt
   ·split
    ·rename_i h2;have hpt:=Jgo hok1 h2;have hxp:=JaT (l:=x) (i:=l.pot.toNat) (by omega);have hlp:=hl _ (JuK hxp);have hstep:XB (j+1)=7*XB j+60:=rfl;exact UO hw n a _ t (j+1) (by omega) hok2 (by omega) (by simp[hx]) ((hl.mono (Jcj (by omega))).set (by omega) _) (by omega) hlt
    ·refine UO hw n a x _ (j+1) (by omega) hok2 (by omega) hx (hl.mono (Jcj (by omega))) (by simp;omega) ?_;intro y hy;rcases JuI.1 hy with h | h
     ·exact hlt y h
     ·simp only[JuV] at h;subst h;omega
theorem Jha {a:List Jg} {v w:List Int} (h1:Qt a=true) (h2:JR v=true) (h3:Q6 w=true):Jll v (Ka a v w):=by
 obtain⟨v1,v2⟩:=QI.1 h2;obtain⟨w1,w2⟩:=X1.1 h3;obtain⟨a1,a2⟩:=K2 h1;have hrun:Ka a v w=run v w a v []:=by simp[Ka,h1,h2,h3]
 rw[hrun];exact UO w2 a.length a v [] 0 (by omega) a2 (by omega) v1 v2 (by simp) (fun x hx=>by simp at hx)
/- Sizes and copies of calls,of what was done,of sites,clerks and messages: over residual programs. -/
def Wd {α:Type} (f:α→Prop) (l:List α):Prop:=l.length≤2000000∧∀x∈l,f x
def YL (x:Cal):Prop:=x.args.length≤2000000
def YX (x:Don):Prop:=x.tells.length≤2000000
structure Msg where
 kind:Int
 to:Int
 frm:Int
 round:Int
 call:Cal
 vals:List Int
 seqs:List Int
 done:List Don
 deriving DecidableEq
def Msg.cells (x:Msg):List D:=[dI x.kind,dI x.to,dI x.frm,dI x.round,dI x.call.client,dI x.call.seq,dI x.call.act,.s (dL x.call.args),.s (dL x.vals),.s (dL x.seqs),.s (dDs x.done)]
def Msg.g (x:Msg):D:= .g x.cells
def Vx (x:Msg):Prop:=x.call.args.length≤2000000∧x.vals.length≤2000000∧x.seqs.length≤2000000∧Wd YX x.done
end Go.Proofs.YtofcmnglieaoeabGreatDoor

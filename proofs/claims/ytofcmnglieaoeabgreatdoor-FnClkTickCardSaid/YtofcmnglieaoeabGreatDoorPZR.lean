import Derived.Test.YtofcmnglieaoeabGreatDoorPY
import Derived.Test.YtofcmnglieaoeabGreatDoorTd
import Derived.Test.YtofcmnglieaoeabGreatDoorPM
import Derived.Test.YtofcmnglieaoeabGreatDoorPP
import Derived.Laws.Strings
import Derived.Lib.ItoaLen
set_option linter.unusedVariables false
set_option linter.unusedSimpArgs false
/- What a site does alone: the specification's tries,over residual programs. -/
namespace Go.Proofs.YtofcmnglieaoeabGreatDoor
open Go Go.Tm
open Go.IntKind (i64)
theorem Jdl {a b:List Int} (ha:a.length=3) (hb:b.length=3) (la:Lim 4000000000000000000 a) (lb:Lim 4000000000000000000 b):Ev L f_k22 [.s (dL a),.s (dL b)] [.s (dL (Qq a b))]:=by
 refine JuM (vs:=[.l (dL a),.l (dL b)]) L_k22 rfl ?_;refine Jut 3 (fun i=>[.l (dL ((Qq a b).take i)),.i i]) (fun _=>True) rfl rfl trivial fun i hi _=>?_;simp only[sC,sN];refine Juf i 3 rfl (fun h=>?_) (fun h=>?_)
 ·obtain⟨x,hx,hmx⟩:=sA1 (show i<a.length by omega);obtain⟨y,hy,hmy⟩:=sA1 (show i<b.length by omega);have hxl:=la x hmx;have hyl:=lb y hmy;have hs:(Qq a b)[i]? = some (x+y):=by unfold Qq;rw[List.getElem?_zipWith,hx,hy]
  refine Jud i (mA1 (f:=dI) hx) rfl rfl rfl rfl ?_;refine Jud i (mA1 (f:=dI) hy) rfl rfl rfl rfl ?_;refine Jug (dL ((Qq a b).take i)) 10 (by rw[dL1];simp;omega) (by omega) rfl ?_;refine JuK (vs:=[.l (dL ((Qq a b).take (i+1))),.i ((i+1:Nat):Int)]) ?_ ⟨h,rfl,trivial⟩;show [V.l (dL ((Qq a b).take i)++[dI (i64.wrap (x+y))]),V.i (i64.wrap ((i:Int)+1))]=_;rw[wS h (by omega),w64 (by omega) (by omega),XP,tS1 hs]
 ·refine JuJ (JuC ?_);show [D.s (dL ((Qq a b).take i))]=_;rw[JuV (by rw[Kc (by omega)];omega)]
theorem Jl1 (b g:List Int) (pins:List Bool) (r:Row) (w:List Int) (hp:pins.length=3) (hr:YW r) (hs:r.stop=false) (hb:JS b=true) (hw:Xc w=true) :
  Ev L f_k27 ([.s (dL b),.s (dL g),.s (dBl pins)]++r.cells++[.s (dL w)]) [.s (dL (if Qj pins (atL r.adds b w) then atL r.adds b w else [0,0,0])),dB (Qj pins (atL r.adds b w))]:=by
 refine JuM (vs:=[.l (dL b),.l (dL g),.l (dBl pins),.l (dF r.guards),.l (dF r.adds),.l (dF r.tells),.b r.stop,.l (dL w)]) L_k27 rfl ?_;have hal:=hr.ns hs;have hab:=Jf7 hb hw hr.a;have hll:=Jg6 r.adds b w;refine Jut 3 (fun i=>[.l (dL ((atL r.adds b w).take i)),.i i]) (fun i=>(((atL r.adds b w).zip pins).take i).all (fun q=>!(q.2 && !decide (q.1=0)))=true) rfl rfl rfl fun i hi hq=>?_;simp only[sC,sN];refine Juf i 3 rfl (fun h=>?_) (fun h=>?_)
 ·obtain⟨f,hf,hm⟩:=sA1 (show i<r.adds.length by omega);obtain⟨p,hpi,_⟩:=sA1 (show i<pins.length by omega);have hx:(atL r.adds b w)[i]? = some (atF f b w):=by simp[atL,hf]
  have hz:=WE hx hpi;have hat:=JgR (hab f hm);generalize atF f b w=x at *;generalize atL r.adds b w=xs at *;refine Jud i (mA1 (f:=Frm.g) hf) rfl rfl rfl rfl ?_;refine Juc hat rfl rfl rfl ?_;refine Jud i (mA1 (f:=dB) hpi) rfl rfl rfl rfl ?_;simp only[sC,sN];have hnx:[V.l (dL (xs.take i)++[dI x]),V.i (i64.wrap ((i:Int)+1))]=[V.l (dL (xs.take (i+1))),V.i ((i+1:Nat):Int)]:=by
   rw[wS h (by omega),XP,tS1 hx]
  refine Jup p rfl (fun hp1=>?_) (fun hp1=>?_)
  ·refine JuE (decide (x=0)) rfl (fun h0=>JuJ (JuC ?_)) (fun h0=>?_)
   ·have hst:Qj pins xs=false:=by unfold Qj;rw[Yo hz (by simp only[h0,hp1];rfl)]
    rw[hst];rfl
   ·refine Jug (dL (xs.take i)) 10 (by rw[dL1];simp;omega) (by omega) rfl ?_;exact JuK hnx ⟨h,rfl,Q1 hz hq (by simp only[h0];simp)⟩
  ·refine Jug (dL (xs.take i)) 10 (by rw[dL1];simp;omega) (by omega) rfl ?_;exact JuK hnx ⟨h,rfl,Q1 hz hq (by simp only[hp1];rfl)⟩
 ·refine JuJ (JuC ?_);rw[JuV (by simp;omega)] at hq;have hst:Qj pins (atL r.adds b w)=true:=by unfold Qj;rw[hq]
  rw[hst];show [D.s (dL ((atL r.adds b w).take i)),dB true]=_;rw[JuV (by omega)];rfl
theorem Jog:Xc [0,0]=true:=by decide
theorem JkD {as:List (List Jg)} {b g:List Int} {s:Int} {a w:List Int} (h:Qv as=true) (hf:YY b g (Jb as) s a=true) (hw:Xc w=true) (hb:b.length≤2000000) (hg:g.length≤2000000) (ha:a.length≤2000000) :
  Ev L f_k28 [.s (dL b),.s (dL g),.s (dLL (Jb as)),dI s,.s (dL a)] [dI (if [0,1,2].any (ovM b g (Jb as) s a w) then 2 else if [0,1,2].any (unM b g (Jb as) s a w) then 0 else 1)]:=by
 refine JuM (vs:=[.l (dL b),.l (dL g),.l (dLL (Jb as)),.i s,.l (dL a)]) L_k28 rfl ?_;have hps:fitLL (Jb as):=(Xh as).fitLL (by omega);obtain⟨O,U,hr⟩ : ∃ O U,Jel O U b g (Jb as) s a w:=⟨_,_,fun _=>⟨rfl,rfl⟩⟩;have hno :∀(i:Nat) (x:Nat),[0,1,2][i]? = some x→ovM b g (Jb as) s a w x=true→[0,1,2].any (ovM b g (Jb as) s a w)=true:=fun i x hx h=>List.any_eq_true.2 ⟨x,JuY hx,h⟩;refine Jut 3 (fun i=>[.i (if U i then 0 else 1),.i i]) (fun i=>O i=false) rfl (by rw[hr.zero.2];rfl) hr.zero.1 fun j hj hO=>?_;simp only[sC,sN];refine Juf j 3 rfl (fun hj3=>?_) (fun hj3=>?_)
 ·obtain⟨sO,sU⟩:=hr.step hj3;have hov:=hno j j (Jdf hj3);have hovd:ovM b g (Jb as) s a w j=(decide (10000<(JU b g (Jb as) s a (JB j) w).1)||decide ((JU b g (Jb as) s a (JB j) w).2.1 < -10000)):=rfl;rw[hovd] at hov;have eP:=ZL (j:Int) (by omega) (by omega);have eB:=Jdh b g (Jb as) s a (JB j) [0,0] hb hg hps ha Xg.fit (by decide);rw[Jeg h hf Jog hj3] at eB;rw[Jeg h hf hw hj3] at sO sU hov;rw[Int.toNat_natCast] at eP;refine Juc eP rfl rfl rfl ?_;refine Juc eB rfl rfl rfl ?_;simp only[sC,sN];generalize (Qq b a).getD j 0-JL g s=lo at *;generalize (Qq b a).getD j 0+JL g s=hi at *;generalize [0,1,2].any (ovM b g (Jb as) s a w)=OO at *;generalize [0,1,2].any (unM b g (Jb as) s a w)=UU at *;simp only at sO sU hov;have nx :∀(x:Int) {vs:List V},vs=[V.i x,V.i (i64.wrap ((j:Int)+1))]→(if U (j+1) then 0 else 1)=x→vs=[V.i (if U (j+1) then 0 else 1),V.i ((j+1:Nat):Int)]:=by
   rintro x _ rfl rfl;rw[wS hj3 (by omega)]
  refine Jur rfl ?_;refine JuB (10000<lo) rfl (fun hl=>JuJ (JuC ?_)) (fun hl=>?_)
  ·rw[hov (by rw[decide_eq_true hl];rfl)];rfl
  refine JuB (hi < -10000) rfl (fun hh=>JuJ (JuC ?_)) (fun hh=>?_)
  ·rw[hov (by rw[decide_eq_true hh,Bool.or_true])];rfl
  have hO':O (j+1)=false:=by rw[sO,hO,decide_eq_false hl,decide_eq_false hh];rfl
  refine Jul rfl ?_;refine JuB (lo < -10000) rfl (fun h1=>?_) (fun h1=>?_)
  ·exact JuK (nx 0 rfl (by rw[sU,decide_eq_true h1];simp)) ⟨hj3,rfl,hO'⟩
  refine JuB (10000<hi) rfl (fun h2=>?_) (fun h2=>?_)
  ·exact JuK (nx 0 rfl (by rw[sU,decide_eq_true h2];simp)) ⟨hj3,rfl,hO'⟩
  exact JuK (nx (if U j then 0 else 1) rfl (by rw[sU,decide_eq_false h1,decide_eq_false h2];simp)) ⟨hj3,rfl,hO'⟩
 ·have hj:j=3:=by omega
  subst hj;refine JuJ (JuC ?_);rw[hr.three.1] at hO;show [dI (if U 3 then 0 else 1)]=_;rw[hO,hr.three.2];rfl
theorem Jnl {as:List (List Jg)} {b g:List Int} {s:Int} {a w:List Int} {r:Row} (h:Qv as=true) (hf:YY b g (Jb as) s a=true) (hw:Xc w=true) (hg:g.length≤2000000) (hfr:YW r) :
  Ev L f_k29 ([.s (dL b),.s (dL g),.s (dLL (Jb as)),.s (dBl (Jj as)),dI s,.s (dL a)]++r.cells++[.s (dL w)]) (KH b g (Jb as) (Jj as) s a w r).ds:=by
 refine JuM (vs:=[.l (dL b),.l (dL g),.l (dLL (Jb as)),.l (dBl (Jj as)),.i s,.l (dL a),.l (dF r.guards),.l (dF r.adds),.l (dF r.tells),.b r.stop,.l (dL w)]) L_k29 rfl ?_;have hps:fitLL (Jb as):=(Xh as).fitLL (by omega);have hpi:=VF h;obtain⟨_,_,_,_,hb3,ha3,hgr⟩:=ZB hf;have hvb:JS b=true:=QL.2 hb3;unfold KH;refine Jup r.stop rfl (fun hst=>?_) (fun hst=>?_)
 ·rw[if_pos hst];exact JuG a (by omega) (by omega) rfl (JuC rfl)
 rw[if_neg (by rw[hst];simp)];have hal:=hfr.ns hst;have hla:=Jp3 (Jf7 hvb hw hfr.a);have hll:=Jg6 r.adds b w;refine Juc (Jl1 b g (Jj as) r w hpi hfr hst hvb hw) rfl rfl rfl ?_;simp only[sC,sN];generalize atL r.adds b w=x at *
 by_cases h5:Qj (Jj as) x=true
 case neg =>
  rw[if_neg h5,if_neg (show ¬(Qj (Jj as) x&&Qz (Qq a x))=true by simp[h5])];refine Juc (Jdl (b:=[0,0,0]) ha3.1 rfl (Lim.mono (m:=20000) ha3.2 (by omega)) (by intro y hy;simp at hy;omega)) rfl rfl rfl ?_;refine Jur (by show (!(Qj (Jj as) x))=true;simp[h5]) ?_;exact JuG a (by omega) (by omega) rfl (JuC rfl)
 rw[if_pos h5,h5];refine Juc (Jdl ha3.1 (by omega) (Lim.mono (m:=20000) ha3.2 (by omega)) (hla.mono (by omega))) rfl rfl rfl ?_;simp only[sC,sN];refine Jul rfl ?_;have hnl:(Qq a x).length≤2000000:=by rw[Kc (by omega)];omega
 generalize Qq a x=now at *;refine Juc (Xv now 3 20000 hnl (by omega) (by omega)) rfl rfl rfl ?_;refine JuE (Qz now) rfl (fun h6=>?_) (fun h6=>?_)
 ·rw[if_neg (by rw[h6];simp)];exact JuG a (by omega) (by omega) rfl (JuC rfl)
 rw[if_pos (by rw[h6];rfl)];simp only[sC,sN];refine Juc (JkD h (Jn7 hf h6) hw (by omega) hg hnl) rfl rfl rfl ?_;simp only[sC,sN];generalize [0,1,2].any (ovM b g (Jb as) s now w)=OO at *;generalize [0,1,2].any (unM b g (Jb as) s now w)=UU at *;cases OO with
 | true =>
  simp only[if_true];refine Jur rfl ?_;exact JuG a (by omega) (by omega) rfl (JuC rfl)
 | false =>
  cases UU with
  | true =>
   simp only[Ju7,if_false,if_true];refine Jul rfl (Jur rfl ?_);exact JuG a (by omega) (by omega) rfl (JuC rfl)
  | false =>
   simp only[Ju7,if_false];refine Jul rfl (Jul rfl ?_);refine Juc (ZD b g (Jb as) s now (by omega) hg hps hnl) rfl rfl rfl ?_;refine JuE (keeps b g (Jb as) s now) rfl (fun h7=>?_) (fun h7=>?_)
   ·rw[if_neg (by rw[h7];simp)];exact JuG a (by omega) (by omega) rfl (JuC rfl)
   rw[if_pos h7];simp only[sC,sN];have htl:=hfr.tl;refine Jut r.tells.length (fun i=>[.l (dL (atL (r.tells.take i) b w)),.i i]) (fun _=>True) rfl rfl trivial fun i hi _=>?_;simp only[sC,sN];refine JuF i (J5 r.tells) rfl (fun h'=>?_) (fun h'=>?_)
   ·obtain⟨f,hf',hm⟩:=sA1 h';refine Jud i (mA1 (f:=Frm.g) hf') rfl rfl rfl rfl ?_;refine Juc (JgR (Jf7 hvb hw hfr.t f hm)) rfl rfl rfl ?_;refine Jug (dL (atL (r.tells.take i) b w)) 10 (by rw[dL1,Jg6];simp;omega) (by omega) rfl ?_;refine JuK (vs:=[.l (dL (atL (r.tells.take (i+1)) b w)),.i ((i+1:Nat):Int)]) ?_ ⟨h',rfl,trivial⟩;show [V.l (dL (atL (r.tells.take i) b w)++[dI (atF f b w)]),V.i (i64.wrap ((i:Int)+1))]=_;rw[wS h' (by omega),XP,tS1 hf'];simp[atL]
   ·refine JuJ (JuC ?_);show [dI 1,D.s (dL (atL (r.tells.take i) b w)),.s (dL now),dB true]=_;rw[tA1 h'];rfl
theorem Jpc {as:List (List Jg)} {b g:List Int} {s:Int} {a:List Int} {k:Int} {w:List Int} (hf:Yq as) (hg:g.length≤2000000) (hfine:YN as b g s a k w=true) :
  Ev L f_k2a [.s (Jc as),.s (dLL (Jb as)),.s (dBl (Jj as)),.s (dL b),.s (dL g),dI s,.s (dL a),dI k,.s (dL w)] (Ja4 as b g s a k w).ds:=by
 refine JuM (vs:=[.l (Jc as),.l (dLL (Jb as)),.l (dBl (Jj as)),.l (dL b),.l (dL g),.i s,.l (dL a),.i k,.l (dL w)]) L_k2a rfl ?_;obtain⟨h1,hk,h3,hke,_⟩:=KB.1 hfine;obtain⟨hm,hkx⟩:=Jaq (as:=as) hk.1 hk.2;have hfi:=Xy hke;obtain⟨_,_,_,_,hb3,ha3,hgr⟩:=ZB hfi;have hM:Ja4 as b g s a k w=(match (Jv (as.getD k.toNat [])).find? (Uh b g (Jb as) s a w) with | some r=>KH b g (Jb as) (Jj as) s a w r | none=>⟨0,[],a,false⟩):=by unfold Ja4;rw[if_pos hfine];cases (Jv (as.getD k.toNat [])).find? (Uh b g (Jb as) s a w) <;> rfl
 rw[hM];clear hM;have hps:fitLL (Jb as):=(Xh as).fitLL (by omega);have hw2:=(Ya.1 h3).1;have fitb:FitB b g (Jb as) a w:=⟨by omega,hg,hps,by omega,by omega⟩;refine Jui (ds:=Jc as) k rfl rfl rfl hk.1 (mA1 (f:=fun a=> .s (Jk a)) hkx) rfl ?_;refine Juc (Je0 (as.getD k.toNat []) (hf.2 _ hm)) rfl rfl rfl ?_;have hrf :∀r∈Jv (as.getD k.toNat []),YW r:=Yl;have hrl:=Ub (as.getD k.toNat []);generalize Jv (as.getD k.toNat [])=rs at *;generalize as.getD k.toNat []=act at *;simp only[sC,sN];refine Jut rs.length (fun i=>[.i i]) (fun i=>(rs.take i).any (Uh b g (Jb as) s a w)=false) rfl rfl rfl fun i hi hq=>?_;simp only[sC,sN];refine JuF i (X4 rs) rfl (fun h'=>?_) (fun h'=>?_)
 ·obtain⟨r,hr,hmr⟩:=sA1 h';refine Juq i (rdR hr) rfl rfl rfl rfl rfl rfl ?_;refine Juc (JlI b g (Jb as) s a w fitb r (hrf r hmr)) rfl rfl rfl ?_;simp only[sC,sN];refine Jup (Uh b g (Jb as) s a w r) rfl (fun hs=>?_) (fun hs=>?_)
  ·refine Juq i (rdR hr) rfl rfl rfl rfl rfl rfl ?_;refine Juc (Jnl h1 hfi h3 hg (hrf r hmr)) rfl rfl rfl ?_;rw[JpX hr hs hq];exact JuJ (JuC rfl)
  ·refine JuK (vs:=[.i ((i+1:Nat):Int)]) ?_ ⟨h',rfl,Jeu hr hq hs⟩;show [V.i (i64.wrap ((i:Int)+1))]=_;rw[wS h' (by omega)]
 ·refine JuJ ?_;rw[tA1 h'] at hq;rw[JmV hq];exact JuG a (by omega) (by omega) rfl (JuC rfl)
/- What a site does alone: draws; who gives more can do more: over residual programs. -/
end Go.Proofs.YtofcmnglieaoeabGreatDoor
/- What one site does alone is what would come of it over all: over residual programs. The sum here hands its list back. -/
namespace Go.Proofs.YtofcmnglieaoeabGreatDoor
open Go Go.Tm
open Go.IntKind (i64)
theorem JiJ {b g:List Int} {ps:List (List Int)} {s:Int} (hp:QS ps=true) (ht:Qw b g=true) (hs:0≤s∧s<g.length):keeps b g ps s [0,0,0]=true:=by
 have ht':=ht;simp only[Qw,JuR,Jq,Ju4] at ht';unfold keeps;have g0:=ht'.2;obtain⟨x,hx,hm⟩:=sA1 (show s.toNat<g.length by omega);have e:g.getD s.toNat 0=x:=by simp[JuU,hx]
 have:=g0 x hm;rw[ht,hp,e];simp only[Jvb,JuR,Jq,Ju4];refine⟨⟨by omega,by decide⟩,fun p hpp=>?_⟩;have h3:p.length=3:=by
  simp only[QS,Ju4,Jp] at hp;have:=(hp p hpp).1;omega
 obtain⟨u,v,w,rfl⟩:=JaA h3;unfold Kj;rw[Jq];simp only[dot,Int.mul_zero,Int.add_zero];omega
/- Copies,comparisons,marks and sizes of acts: over residual programs. -/
end Go.Proofs.YtofcmnglieaoeabGreatDoor
/- Marks,and what is held; sizes of acts: over residual programs. -/
namespace Go.Proofs.YtofcmnglieaoeabGreatDoor
open Go Go.Tm
open Go.IntKind (i64)
/- The program's CatWrites,CatReads and CatPins answer as the reference's: over residual programs. -/
end Go.Proofs.YtofcmnglieaoeabGreatDoor
/- The program's SitNew and ClkNew answer as the reference's: over residual programs. -/
namespace Go.Proofs.YtofcmnglieaoeabGreatDoor
open Go Go.Tm
open Go.IntKind (i64)
structure Pln where
 n:Int
 acts:List (List Jg)
 gives:List Int
 start:List Int
 deriving DecidableEq
def Pln.cells (p:Pln):List D:=[dI p.n,.s (Jc p.acts),.s (dL p.gives),.s (dL p.start)]
def JR (p:Pln):Prop:=Yq p.acts∧p.gives.length≤2000000∧p.start.length≤2000000
def JE (p:Pln):Bool:=inB p.n 1 4&&(Qv p.acts&&(JJ 3 1000 p.start&&Qw p.start p.gives))
theorem KR (p:Pln) (hp:JR p):Ev L f_ki p.cells [dB (JE p)]:=by
 refine JuM (vs:=[.i p.n,.l (Jc p.acts),.l (dL p.gives),.l (dL p.start)]) L_ki rfl ?_;refine Juc (JQ p.n 1 4) rfl rfl rfl ?_;refine Jup (inB p.n 1 4) rfl (fun h1=>?_) (fun h1=>JuC (by show [dB false]=_;simp[JE,h1]));refine Juc (Jnt p.acts hp.1) rfl rfl rfl ?_;refine Jup (Qv p.acts) rfl (fun h2=>?_) (fun h2=>JuC (by show [dB false]=_;simp[JE,h2]));refine Juc (Xv p.start 3 1000 hp.2.2 (by omega) (by omega)) rfl rfl rfl ?_;refine Jup (JJ 3 1000 p.start) rfl (fun h3=>?_) (fun h3=>JuC (by show [dB false]=_;simp[JE,h3]));refine Juc (Jbu p.start p.gives hp.2.2 hp.2.1) rfl rfl rfl (JuC ?_);show [dB (Qw p.start p.gives)]=_;simp[JE,h1,h2,h3]
theorem JdB (p:Pln) (b:List Int):Ev L f_k3l (p.cells++[.s (dL b)]) [.s (dL b),.s (dL p.gives)] :=
 JuM (vs:=[.i p.n,.l (Jc p.acts),.l (dL p.gives),.l (dL p.start),.l (dL b)]) L_k3l rfl (JuC rfl)
theorem JfT (p:Pln) (hp:JR p):Ev L f_k3p p.cells [dB (JE p)]:=by
 refine JuM (vs:=[.i p.n,.l (Jc p.acts),.l (dL p.gives),.l (dL p.start)]) L_k3p rfl ?_;refine Juc (Ye p.n 1 4) rfl rfl rfl ?_;refine Jup (inB p.n 1 4) rfl (fun h1=>?_) (fun h1=>JuC (by show [dB false]=_;simp[JE,h1]));refine Juc (Jbc p.acts hp.1) rfl rfl rfl ?_;refine Jup (Qv p.acts) rfl (fun h2=>?_) (fun h2=>JuC (by show [dB false]=_;simp[JE,h2]));refine Juc (XG p.start 3 1000 hp.2.2 (by omega) (by omega)) rfl rfl rfl ?_;refine Jup (JJ 3 1000 p.start) rfl (fun h3=>?_) (fun h3=>JuC (by show [dB false]=_;simp[JE,h3]));refine Juc (JdB p p.start) rfl rfl rfl ?_;refine Juc (Jh7 p.start p.gives hp.2.2 hp.2.1) rfl rfl rfl (JuC ?_);show [dB (Qw p.start p.gives)]=_;simp[JE,h1,h2,h3]
structure Sit where
 up:Bool
 frozen:Bool
 round:Int
 base:List Int
 added:List Int
 done:List Don
 deriving DecidableEq
def Sit.cells (s:Sit):List D:=[dB s.up,dB s.frozen,dI s.round,.s (dL s.base),.s (dL s.added),.s (dDs s.done)]
def KF (s:Sit):Prop:=s.base.length≤2000000∧s.added.length≤2000000∧s.done.length≤2000000∧∀d∈s.done,d.tells.length≤2000000
def We:Don:=⟨0,0,[]⟩
def Z9 (p:Pln):Sit:=if JE p then ⟨true,false,0,p.start,[0,0,0],List.replicate p.n.toNat We⟩ else ⟨false,false,0,[],[],[]⟩
theorem J2 {p:Pln} (h:JE p=true):1≤p.n∧p.n≤4∧p.start.length=3∧Qw p.start p.gives=true:=by
 simp only[JE,JuR,Jq,Jp] at h;obtain⟨⟨h1,h2⟩,_,⟨h3,_⟩,h4⟩:=h;exact⟨h1,h2,by omega,h4⟩
theorem Jhs (p:Pln) (h0:0≤p.n) (h1:p.n≤4):Ev L f_kl p.cells [.s (dDs (List.replicate p.n.toNat We))]:=by
 refine JuM (vs:=[.i p.n,.l (Jc p.acts),.l (dL p.gives),.l (dL p.start)]) L_kl rfl ?_;refine Jut p.n.toNat (fun i=>[.l (dDs (List.replicate i We)),.i i]) (fun _=>True) rfl rfl trivial fun i hi _=>?_;simp only[sC,sN];have hl:(dDs (List.replicate i We)).length=i:=by simp[dDs]
 refine Juf i p.n.toNat (by show decide ((i:Int)<p.n)=_;rw[show ((p.n.toNat:Nat):Int)=p.n by omega]) (fun h=>?_) (fun h=>JuJ (JuC ?_))
 ·refine Jug (dDs (List.replicate i We)) 4 (by omega) (by omega) rfl ?_;refine JuK (vs:=[.l (dDs (List.replicate (i+1) We)),.i ((i+1:Nat):Int)]) ?_ ⟨h,rfl,trivial⟩;show [V.l (dDs (List.replicate i We)++[Don.g We]),V.i (i64.wrap ((i:Int)+1))]=_;rw[wS h (by omega),List.replicate_succ'];simp[dDs]
 ·show [D.s (dDs (List.replicate i We))]=_;rw[show i=p.n.toNat by omega]
theorem Jkb (p:Pln) (hp:JR p):Ev L f_ko p.cells (Z9 p).cells:=by
 refine JuM (vs:=[.i p.n,.l (Jc p.acts),.l (dL p.gives),.l (dL p.start)]) L_ko rfl ?_;refine Juc (KR p hp) rfl rfl rfl ?_;refine JuE (JE p) rfl (fun h=>JuC ?_) (fun h=>?_)
 ·show _=(Z9 p).cells;unfold Z9;rw[if_neg (by simp[h])];rfl
 obtain⟨h1,h2,h3,_⟩:=J2 h;refine Jue (dL p.start) 2000000 (by rw[dL1];exact hp.2.2) (by omega) rfl ?_;refine Juu (JV p.start) ?_;refine Jue (dL p.start) 2000000 (by rw[dL1];exact hp.2.2) (by omega) rfl ?_;refine Juc (Jhs p (by omega) h2) rfl rfl rfl (JuC ?_);show _=(Z9 p).cells;unfold Z9;rw[if_pos h];rfl
/- The program's ClkNew answers as the reference's: over residual programs. -/
structure Clk where
 up:Bool
 round:Int
 base:List Int
 done:List Don
 wants:List Cal
 got:List Got
 deriving DecidableEq
def Clk.cells (s:Clk):List D:=[dB s.up,dI s.round,.s (dL s.base),.s (dDs s.done),.s (dCs s.wants),.s (dGs s.got)]
structure QV (s:Clk):Prop where
 b:s.base.length≤2000000
 d:s.done.length≤2000000
 dt :∀d∈s.done,d.tells.length≤2000000
 c:s.wants.length≤2000000
 ct :∀d∈s.wants,d.args.length≤2000000
 g:s.got.length≤2000000
 gt :∀d∈s.got,d.added.length≤2000000∧d.seqs.length≤2000000
def Q7:Got:=⟨false,[],[]⟩
def X2 (p:Pln):Clk:=if JE p then ⟨true,0,p.start,List.replicate p.n.toNat We,[],List.replicate p.gives.length Q7⟩ else ⟨false,0,[],[],[],[]⟩
theorem Jbi (p:Pln) (hg:p.gives.length≤2000000):Ev L f_km p.cells [.s (dGs (List.replicate p.gives.length Q7))]:=by
 refine JuM (vs:=[.i p.n,.l (Jc p.acts),.l (dL p.gives),.l (dL p.start)]) L_km rfl ?_;refine Jut p.gives.length (fun i=>[.l (dGs (List.replicate i Q7)),.i i]) (fun _=>True) rfl rfl trivial fun i hi _=>?_;simp only[sC,sN];have hl:(dGs (List.replicate i Q7)).length=i:=by simp[dGs]
 refine JuF i (dL1 p.gives) rfl (fun h=>?_) (fun h=>JuJ (JuC ?_))
 ·refine Jug (dGs (List.replicate i Q7)) 2000000 (by omega) (by omega) rfl ?_;refine JuK (vs:=[.l (dGs (List.replicate (i+1) Q7)),.i ((i+1:Nat):Int)]) ?_ ⟨h,rfl,trivial⟩;show [V.l (dGs (List.replicate i Q7)++[Got.g Q7]),V.i (i64.wrap ((i:Int)+1))]=_;rw[wS h (by omega),List.replicate_succ'];simp[dGs]
 ·show [D.s (dGs (List.replicate i Q7))]=_;rw[show i=p.gives.length by omega]
theorem Jks (p:Pln) (hp:JR p):Ev L f_kn p.cells (X2 p).cells:=by
 refine JuM (vs:=[.i p.n,.l (Jc p.acts),.l (dL p.gives),.l (dL p.start)]) L_kn rfl ?_;refine Juc (KR p hp) rfl rfl rfl ?_;refine JuE (JE p) rfl (fun h=>JuC ?_) (fun h=>?_)
 ·show _=(X2 p).cells;unfold X2;rw[if_neg (by simp[h])];rfl
 obtain⟨h1,h2,h3,_⟩:=J2 h;refine Jue (dL p.start) 2000000 (by rw[dL1];exact hp.2.2) (by omega) rfl ?_;refine Juu (JV p.start) ?_;refine Jue (dL p.start) 2000000 (by rw[dL1];exact hp.2.2) (by omega) rfl ?_;refine Juc (Jhs p (by omega) h2) rfl rfl rfl ?_;refine Juc (Jbi p hp.2.1) rfl rfl rfl (JuC ?_);show _=(X2 p).cells;unfold X2;rw[if_pos h];rfl
/- The program's LocTry answers as the reference's: over residual programs. -/
theorem JiE (as:List (List Jg)) (b g:List Int) (s:Int) (a:List Int) (k:Int) (w:List Int) (ha:a.length≤2000000):(Ja4 as b g s a k w).tells.length≤2000000∧(Ja4 as b g s a k w).adds.length≤2000000:=by
 have key :∀r,r∈Jv (as.getD k.toNat [])→(KH b g (Jb as) (Jj as) s a w r).tells.length≤2000000∧(KH b g (Jb as) (Jj as) s a w r).adds.length≤2000000:=by
  intro r hr;have hf:=Yl r hr;have hs:(Qq a (atL r.adds b w)).length≤a.length:=by unfold Qq;rw[List.length_zipWith];omega
  have ht:(atL r.tells b w).length=r.tells.length:=by simp[atL]
  have htl:=hf.tl;unfold KH
  repeat' split
  all_goals first
   | exact⟨by simp,ha⟩
   | exact⟨by simp only[ht];omega,by simp only;omega⟩
 unfold Ja4;split
 ·split
  ·rename_i r hr;exact key r (List.mem_of_find?_eq_some hr)
  ·exact⟨by simp,ha⟩
 ·exact⟨by simp,by simp⟩
/- Marks,and what is held,of plans,sites and clients: over residual programs. Printed by wip/tools/pzl.py. -/
def Sit.w (s:Sit):Nat:=3+s.base.length+s.added.length+wts Don.w s.done
def Sit.g (s:Sit):D:= .g s.cells
structure Con where
 seq:Int
 busy:Bool
 call:Cal
 code:Int
 tells:List Int
 deriving DecidableEq
def Con.cells (s:Con):List D:=[dI s.seq,dB s.busy,dI s.call.client,dI s.call.seq,dI s.call.act,.s (dL s.call.args),dI s.code,.s (dL s.tells)]
def Con.g (s:Con):D:= .g s.cells
def Jjx (s:Con):Prop:=s.call.args.length≤2000000∧s.tells.length≤2000000
def Con.w (s:Con):Nat:=6+s.call.args.length+s.tells.length
/- The program's WldNew answers as the reference's: over residual programs. -/
end Go.Proofs.YtofcmnglieaoeabGreatDoor
/- The program's WldNew answers as the reference's: the functions,and the law: over residual programs. -/
namespace Go.Proofs.YtofcmnglieaoeabGreatDoor
open Go Go.Tm
open Go.IntKind (i64)
theorem JrF (l:List Jg) (x:Jg):Jk l++[x.g]=Jk (l++[x]):=by simp[Jk]
theorem Jqn (l:List (List Jg)) (x:List Jg):Jc l++[.s (Jk x)]=Jc (l++[x]):=by simp[Jc]
theorem JgM (as:List (List Jg)) (hf:Yq as):Ev L f_kj [.s (Jc as)] [.s (Jc as)]:=by
 refine JuM (vs:=[.l (Jc as)]) L_kj rfl ?_;have hl:=hf.1;refine Jut as.length (fun i=>[.l (Jc (as.take i)),.i i]) (fun _=>True) rfl rfl trivial fun i hi _=>?_;simp only[sC,sN];refine JuF i (JO as) rfl (fun h=>?_) (fun h=>JuJ (JuC ?_))
 ·obtain⟨a,ha,hm⟩:=sA1 h;obtain⟨hal,hax⟩:=hf.2 a hm;refine Jut a.length (fun j=>[.l (Jk (a.take j)),.i j]) (fun _=>True) rfl rfl trivial fun j hj _=>?_;simp only[sC,sN];refine Jud (vs:=[.l (Jk a)]) i (mA1 (f:=fun a=>D.s (Jk a)) ha) rfl rfl rfl rfl ?_;simp only[sC,sN];refine JuF j (JN a) rfl (fun h'=>?_) (fun h'=>?_)
  ·obtain⟨x,hx,hmx⟩:=sA1 h';have hxf:=hax x hmx;refine Jud (vs:=[.l (Jk a)]) i (mA1 (f:=fun a=>D.s (Jk a)) ha) rfl rfl rfl rfl ?_;simp only[sC,sN];refine Jud (vs:=[.i x.kind,.i x.pot,.i x.skip,.l (dL x.f.c),.l (dL x.f.d),.i x.f.k]) j (mA1 (f:=Jg.g) hx) rfl rfl rfl rfl ?_;simp only[sC,sN];refine Jue (dL x.f.c) 2000000 (by rw[dL1];exact hxf.1) (by omega) rfl ?_;refine Juu (JV x.f.c) ?_;refine Jue (dL x.f.c) 2000000 (by rw[dL1];exact hxf.1) (by omega) rfl ?_;refine Jue (dL x.f.d) 2000000 (by rw[dL1];exact hxf.2) (by omega) rfl ?_;refine Juu (JV x.f.d) ?_;refine Jue (dL x.f.d) 2000000 (by rw[dL1];exact hxf.2) (by omega) rfl ?_;refine Jug (Jk (a.take j)) 2000000 (by rw[JN];simp;omega) (by omega) rfl ?_;refine JuK (vs:=[.l (Jk (a.take (j+1))),.i ((j+1:Nat):Int)]) ?_ ⟨h',rfl,trivial⟩;show [V.l (Jk (a.take j)++[x.g]),V.i (i64.wrap ((j:Int)+1))]=_;rw[wS h' (by omega),JrF,tS1 hx]
  ·refine JuJ ?_;rw[tA1 h'];refine Jug (Jc (as.take i)) 2000000 (by rw[JO];simp;omega) (by omega) rfl ?_;refine JuK (vs:=[.l (Jc (as.take (i+1))),.i ((i+1:Nat):Int)]) ?_ ⟨h,rfl,trivial⟩;show [V.l (Jc (as.take i)++[.s (Jk a)]),V.i (i64.wrap ((i:Int)+1))]=_;rw[wS h (by omega),Jqn,tS1 ha]
 ·show [D.s (Jc (as.take i))]=_;rw[tA1 h]
theorem JhQ (p:Pln) (hp:JR p):Ev L f_kk p.cells p.cells:=by
 refine JuM (vs:=[.i p.n,.l (Jc p.acts),.l (dL p.gives),.l (dL p.start)]) L_kk rfl ?_;refine Juc (JgM p.acts hp.1) rfl rfl rfl ?_;refine Jue (dL p.gives) 2000000 (by rw[dL1];exact hp.2.1) (by omega) rfl ?_;refine Juu (JV p.gives) ?_;refine Jue (dL p.gives) 2000000 (by rw[dL1];exact hp.2.1) (by omega) rfl ?_;refine Jue (dL p.start) 2000000 (by rw[dL1];exact hp.2.2) (by omega) rfl ?_;refine Juu (JV p.start) ?_;refine Jue (dL p.start) 2000000 (by rw[dL1];exact hp.2.2) (by omega) rfl ?_;exact JuC rfl
structure Wld where
 p:Pln
 sites:List Sit
 c:Clk
 cons:List Con
def Wld.cells (w:Wld):List D:=[dI w.p.n,.s (Jc w.p.acts),.s (dL w.p.gives),.s (dL w.p.start),.s (w.sites.map Sit.g),dB w.c.up,dI w.c.round,.s (dL w.c.base),.s (dDs w.c.done),.s (dCs w.c.wants),.s (dGs w.c.got),.s (w.cons.map Con.g),.s [],.s []]
def Jgz:Con:=⟨0,false,⟨0,0,0,[]⟩,0,[]⟩
def WT (p:Pln):Wld:=if JE p then ⟨p,List.replicate p.gives.length (Z9 p),X2 p,List.replicate p.n.toNat Jgz⟩ else ⟨⟨0,[],[],[]⟩,[],X2 p,[]⟩
theorem Jkr (p:Pln) (hp:JR p):Ev L f_kp p.cells (WT p).cells:=by
 refine JuM (vs:=[.i p.n,.l (Jc p.acts),.l (dL p.gives),.l (dL p.start)]) L_kp rfl ?_;refine Juc (KR p hp) rfl rfl rfl ?_;refine JuE (JE p) rfl (fun h=>JuC ?_) (fun h=>?_)
 ·show _=(WT p).cells;unfold WT X2;rw[if_neg (by simp[h]),if_neg (by simp[h])];rfl
 obtain⟨h1,h2,h3,_⟩:=J2 h;have hW:WT p=⟨p,List.replicate p.gives.length (Z9 p),X2 p,List.replicate p.n.toNat Jgz⟩:=by unfold WT;rw[if_pos h]
 rw[hW];have hsn:=Jkb p hp;have hcn:=Jks p hp;have hg:=hp.2.1;generalize Z9 p=s at *;generalize X2 p=c at *;refine Juc (vs:=[.i p.n,.l (Jc p.acts),.l (dL p.gives),.l (dL p.start)]) (JhQ p hp) rfl rfl rfl ?_;simp only[sC,sN];refine Juc (vs:=[.b c.up,.i c.round,.l (dL c.base),.l (dDs c.done),.l (dCs c.wants),.l (dGs c.got)]) hcn rfl rfl rfl ?_;simp only[sC,sN];refine Jut p.gives.length (fun i=>[.l ((List.replicate i s).map Sit.g),.i i]) (fun _=>True) rfl rfl trivial fun i hi _=>?_;simp only[sC,sN];refine JuF i (dL1 p.gives) rfl (fun h=>?_) (fun h'=>JuJ ?_)
 ·refine Juc (vs:=[.b s.up,.b s.frozen,.i s.round,.l (dL s.base),.l (dL s.added),.l (dDs s.done)]) hsn rfl rfl rfl ?_;simp only[sC,sN];refine Jug ((List.replicate i s).map Sit.g) 2000000 (by simp;omega) (by omega) rfl ?_;refine JuK (vs:=[.l ((List.replicate (i+1) s).map Sit.g),.i ((i+1:Nat):Int)]) ?_ ⟨h,rfl,trivial⟩;show [V.l ((List.replicate i s).map Sit.g++[Sit.g s]),V.i (i64.wrap ((i:Int)+1))]=_;rw[wS h (by omega),List.replicate_succ'];simp
 have hil:i=p.gives.length:=by omega
 subst hil;refine Jut p.n.toNat (fun i=>[.l ((List.replicate i Jgz).map Con.g),.i i]) (fun _=>True) rfl rfl trivial fun j hj _=>?_;simp only[sC,sN];refine Juf j p.n.toNat (by show decide ((j:Int)<p.n)=_;rw[show ((p.n.toNat:Nat):Int)=p.n by omega]) (fun h=>?_) (fun h'=>JuJ (JuC ?_))
 ·refine Jug ((List.replicate j Jgz).map Con.g) 4 (by simp;omega) (by omega) rfl ?_;refine JuK (vs:=[.l ((List.replicate (j+1) Jgz).map Con.g),.i ((j+1:Nat):Int)]) ?_ ⟨h,rfl,trivial⟩;show [V.l ((List.replicate j Jgz).map Con.g++[Con.g Jgz]),V.i (i64.wrap ((j:Int)+1))]=_;rw[wS h (by omega),List.replicate_succ'];simp
 ·have hjl:j=p.n.toNat:=by omega
  subst hjl;rfl
/- Results as texts: which of them are ok. -/
def JM (c:Int) (t:List Int):Bool:=inB c 1 3&&(decide (t.length≤6)&&((decide (c=1)||t.isEmpty)&&JJ t.length 999999999999 t))
theorem Yz {c:Int} {t:List Int}:JM c t=true↔(1≤c∧c≤3)∧t.length≤6∧(c=1∨t=[])∧Lim 999999999999 t:=by
 unfold JM inB;simp only[JuR,Bool.or_eq_true,decide_eq_true_eq,List.isEmpty_iff,Jp];exact⟨fun h=>⟨h.1,h.2.1,h.2.2.1,h.2.2.2.2⟩,fun h=>⟨h.1,h.2.1,h.2.2.1,trivial,h.2.2.2⟩⟩
def Qt:List (List UInt8):=[[],[100,111,110,101],[115,116,111,112,112,101,100],[111,118,101,114]]
def K9 (c:Int) (t:List Int):List UInt8:=if JM c t then Qt.getD c.toNat []++Qx t else []
theorem Jqv (a b:List UInt8):(⟨a.toArray⟩:ByteArray)++⟨b.toArray⟩=⟨(a++b).toArray⟩:=by
 apply ByteArray.ext;simp
theorem Jcx {a b:List UInt8} (h:a.length+b.length≤1000000):Z2 .cat [Q6 a,Q6 b]=some (Q6 (a++b)):=by
 show (if(⟨a.toArray⟩:ByteArray).size+(⟨b.toArray⟩:ByteArray).size≤2 ^ 62 then some (D.v (.string ((⟨a.toArray⟩:ByteArray)++⟨b.toArray⟩))) else none)=_;rw[if_pos,Jqv]
 ·rfl
 show a.toArray.size+b.toArray.size≤2 ^ 62;simp only[List.size_toArray];omega
theorem JkK (a b:List UInt8):Z2 .seq [Q6 a,Q6 b]=some (dB (a == b)):=by
 show some (D.v (.bool ((⟨a.toArray⟩:ByteArray).toList == (⟨b.toArray⟩:ByteArray).toList)))=_;rw[ByteArray.toList_mk,ByteArray.toList_mk]
theorem Jem (t:List Int) (hl:Lim 999999999999 t):(Qx t).length≤22*t.length:=by
 induction t with
 | nil=>simp[Qx]
 | cons n l ih =>
  have h1:=hl n (by simp);have h2:=Lib.itoa_length_le n (by omega) (by omega);have h3:=ih fun m hm=>hl m (by simp[hm]);simp only[Qx,List.flatMap_cons,JuX,List.length_cons] at h3 ⊢;omega
theorem Jgm {c:Int} (h:inB c 1 3=true):Qt[c.toNat]? = some (Qt.getD c.toNat [])∧Qt.getD c.toNat []≠[]∧(Qt.getD c.toNat []).length≤7:=by
 unfold inB at h;simp only[JuR,decide_eq_true_eq] at h;rcases (show c=1∨c=2∨c=3 by omega) with rfl | rfl | rfl <;> exact⟨rfl,by decide,by decide⟩
theorem JdN (c:Int) (t:List Int):(K9 c t == []) = !JM c t:=by
 unfold K9;split
 ·rename_i h;have hin:inB c 1 3=true:=by unfold JM at h;simp only[JuR] at h;exact h.1
  have:=(Jgm hin).2.1;rw[h];have h2:Qt.getD c.toNat []++Qx t≠[]:=fun e=>this (List.append_eq_nil_iff.1 e).1;generalize Qt.getD c.toNat []++Qx t=l at h2;cases l with
  | nil=>exact absurd rfl h2
  | cons x l=>rfl
 ·rename_i h;simp[h]
theorem Jfu (t:List Int) (h6:t.length≤6) (hl:Lim 999999999999 t):Ev L f_k4p [.s (dL t)] [Q6 (Qx t)]:=by
 refine JuP L_k4p ?_;show (if(dL t).length≤4096 then((dL t).mapM Jcj).map fun l=>[Q6 (Qx l)] else none)=_;have e:(dL t).mapM Jcj=some t:=Jcd fun n hn=>by have:=hl n hn;omega
 rw[if_pos (by rw[dL1];omega),e];rfl
theorem Jaf:Ev L f_k4o [] [.s (Qt.map Q6)] :=
 JuM (vs:=[]) L_k4o rfl (JuC rfl)
theorem Jh0 (c:Int) (t:List Int) (ht:t.length≤2000000):Ev L f_k4q [dI c,.s (dL t)] [Q6 (K9 c t)]:=by
 refine JuM (vs:=[.i c,.l (dL t)]) L_k4q rfl ?_;have no:JM c t=false→([Q6 []]:List D)=[Q6 (K9 c t)]:=fun h=>by simp[K9,h]
 refine Juc (Ye c 1 3) rfl rfl rfl ?_;refine JuE (inB c 1 3) rfl (fun h=>JuC (no (by simp[JM,h]))) (fun h1=>?_);refine JuB (6<((dL t).length:Int)) rfl (fun h=>JuC (no ?_)) (fun h2=>?_)
 ·rw[dL1] at h;simp only[JM,show ¬t.length≤6 by omega,decide_false,Bool.false_and,Bool.and_false]
 rw[dL1] at h2;obtain⟨w1,_,w3⟩:=Jgm h1;have hidx:(Qt.map Q6)[c.toNat]? = some (Q6 (Qt.getD c.toNat [])):=by rw[Jvc,w1];rfl
 have hc0:0≤c:=by unfold inB at h1;simp only[JuR,decide_eq_true_eq] at h1;omega
 have hc4:c<((Qt.map Q6).length:Int):=by unfold inB at h1;simp only[JuR,decide_eq_true_eq] at h1;show c<4;omega
 have hwn:=XG t t.length 999999999999 ht (by omega) (by omega);refine JuE (decide (c=1)) rfl (fun h3=>?_) (fun h3=>?_)
 ·refine JuB (0<((dL t).length:Int)) rfl (fun h=>JuC (no ?_)) (fun h4=>?_)
  ·rw[dL1] at h;have:t.isEmpty=false:=by cases t with
    | nil=>simp at h
    | cons x t=>rfl
   simp only[JM,h3,this,Bool.or_false,Bool.false_and,Bool.and_false]
  ·rw[dL1] at h4;have h4:t=[]:=List.length_eq_zero_iff.1 (by omega);refine Juc hwn rfl (by show [D.s (dL t),dI ((dL t).length:Int),dI 999999999999]=_;rw[dL1]) rfl ?_;refine JuE (JJ t.length 999999999999 t) rfl (fun h=>JuC (no (by simp only[JM,h,Bool.and_false]))) (fun h5=>?_);have hl:=(Jp.1 h5).2;have hj:=Jem t hl;have hok:JM c t=true:=by simp only[JM,h1,h5,h4,List.length_nil,List.isEmpty_nil,Bool.or_true,Jvb];simp[JJ]
   have e:Q6 (K9 c t)=Q6 (Qt.getD c.toNat []++Qx t):=by simp only[K9,hok,if_true]
   rw[e];refine Juc Jaf rfl rfl rfl ?_;refine Juz (0≤c) rfl hc0 (Juz (c<((Qt.map Q6).length:Int)) rfl hc4 ?_);refine Jui (ds:=Qt.map Q6) c rfl rfl rfl hc0 hidx rfl ?_;refine Juc (Jfu t (by omega) hl) rfl rfl rfl ?_;refine JuI rfl (Jcx (by omega)) rfl (JuC rfl)
 ·refine Juc hwn rfl (by show [D.s (dL t),dI ((dL t).length:Int),dI 999999999999]=_;rw[dL1]) rfl ?_;refine JuE (JJ t.length 999999999999 t) rfl (fun h=>JuC (no (by simp only[JM,h,Bool.and_false]))) (fun h5=>?_);have hl:=(Jp.1 h5).2;have hj:=Jem t hl;have hok:JM c t=true:=by simp only[JM,h1,h5,h3,Bool.true_or,Jvb,Bool.and_true];simp;omega
  have e:Q6 (K9 c t)=Q6 (Qt.getD c.toNat []++Qx t):=by simp only[K9,hok,if_true]
  rw[e];refine Juc Jaf rfl rfl rfl ?_;refine Juz (0≤c) rfl hc0 (Juz (c<((Qt.map Q6).length:Int)) rfl hc4 ?_);refine Jui (ds:=Qt.map Q6) c rfl rfl rfl hc0 hidx rfl ?_;refine Juc (Jfu t (by omega) hl) rfl rfl rfl ?_;refine JuI rfl (Jcx (by omega)) rfl (JuC rfl)
theorem JmL (c:Int) (t:List Int) (ht:t.length≤2000000):Ev L f_k4r [dI c,.s (dL t)] [dB (JM c t)]:=by
 refine JuM (vs:=[.i c,.l (dL t)]) L_k4r rfl ?_;refine Juc (Jh0 c t ht) rfl rfl rfl ?_;refine JuI rfl (JkK (K9 c t) []) rfl (JuC ?_);show [dB (!(K9 c t == []))]=_;rw[JdN,Bool.not_not]
/- What does not come to its end turns nothing: over residual programs. -/
theorem Jnn (v x t:List Int) (hv:v.length≤2000000) (hx:x.length≤2000000):Ev L f_k2j [.s (dL v),.s (dL x),.s (dL t)] (Res.ds (Jib v x t)):=by
 refine JuM (vs:=[.l (dL v),.l (dL x),.l (dL t)]) L_k2j rfl ?_;refine Juc (Y6 x hx) rfl rfl rfl ?_;unfold Jib;refine JuE (JS x) rfl (fun h=>?_) (fun h=>JuC ?_)
 ·rw[h,if_neg (by simp)];refine Jue (dL v) 2000000 (by rw[dL1];omega) (by omega) rfl ?_;refine Juu (JV v) ?_;refine Jue (dL v) 2000000 (by rw[dL1];omega) (by omega) rfl (JuC rfl)
 ·rw[h];rfl
theorem Jjt (a:List Jg) (v w:List Int) (ha:KG a) (hv:v.length≤2000000) (hw:w.length≤2000000):Ev L f_k2k [.s (Jk a),.s (dL v),.s (dL w)] (Res.ds (ZY a v w)):=by
 refine JuM (vs:=[.l (Jk a),.l (dL v),.l (dL w)]) L_k2k rfl ?_;have none:(Qy a&&(JS v&&Xc w))=false→ZY a v w=⟨0,[],[]⟩:=fun h=>by simp[ZY,h]
 refine Juc (JaR a ha) rfl rfl rfl ?_;refine JuE (Qy a) rfl (fun h=>JuC ?_) (fun h=>?_)
 ·rw[none (by simp[h])];rfl
 refine Juc (Y6 v hv) rfl rfl rfl ?_;refine JuE (JS v) rfl (fun h2=>JuC ?_) (fun h2=>?_)
 ·rw[none (by simp[h2])];rfl
 refine Juc (JjL w hw) rfl rfl rfl ?_;refine JuE (Xc w) rfl (fun h3=>JuC ?_) (fun h3=>?_)
 ·rw[none (by simp[h3])];rfl
 have hrun:ZY a v w=run v w a v []:=by simp[ZY,h,h2,h3]
 rw[hrun];obtain⟨v1,v2⟩:=QL.1 h2;obtain⟨w1,w2⟩:=Ya.1 h3;obtain⟨a1,a2⟩:=KM h;refine Jue (dL v) 2000000 (by rw[dL1];omega) (by omega) rfl ?_;refine Juu (JV v) ?_;refine Jue (dL v) 2000000 (by rw[dL1];omega) (by omega) rfl ?_;simp only[sC,sN];refine Juh (fun m vs=>∃ (i:Int) (x t:List Int) (j:Nat),vs=[.l (dL t),.l (dL x),.i i]∧0≤i∧i≤20∧m=a.length-i.toNat∧(j:Int)≤i∧j≤6∧x.length=3∧Lim (XB j) x∧t.length≤j∧run v w (a.drop i.toNat) x t=run v w a v []) rfl a.length
  ⟨0,v,[],0,rfl,by omega,by omega,by simp,by omega,by omega,v1,v2,by simp,by simp⟩ ?_
 rintro m _ ⟨i,x,t,j,rfl,i0,i20,hm,hji,hj6,hx,hl,ht,hr⟩;rw[←hr];clear hr;simp only[sC,sN];have hX0:=JgZ j;have hXl:=Jqc hj6;refine JuB (i<((Jk a).length:Int)) rfl (fun hi=>?_) (fun hi=>?_)
 ·rw[JN] at hi;obtain⟨l,hla,hd⟩:=Vv i0 hi;have hok:=a2 l (JuY hla);have hdr:=XH hla;have hs1:(i+1).toNat=i.toNat+1:=by omega
  refine Jui (ds:=Jk a) i rfl rfl rfl i0 hd rfl ?_;simp only[sC,sN];have hlx:Lim 2000000000 x:=hl.mono hXl;have hrn : ¬l.kind=4→run v w (a.drop i.toNat) x t=if l.kind=1 then(if atF l.f x w<0 then run v w (a.drop (i+l.skip+1).toNat) x t else run v w (a.drop (i+1).toNat) x t)
    else if l.kind=2 then run v w (a.drop (i+1).toNat) (x.set l.pot.toNat (x.getD l.pot.toNat 0+atF l.f x w)) t else run v w (a.drop (i+1).toNat) x (t++[atF l.f x w]):=fun h4=>by
   rw[hdr,run,if_neg h4,hs1]
   by_cases h1:l.kind=1
   ·have hsk:=JcE hok h1;rw[if_pos h1,if_pos h1,List.drop_drop,show i.toNat+1+l.skip.toNat=(i+l.skip+1).toNat by omega]
   ·rw[if_neg h1,if_neg h1]
  have hat:=fun h4 : ¬l.kind=4=>JgR (ZT.small (X5 hok h4) hx hlx h3);have hb:=fun h4 : ¬l.kind=4=>JhM (X5 hok h4) hl w2 hX0;refine JuB (l.kind=1) rfl (fun h1=>?_) (fun h1=>?_)
  ·have h4 : ¬l.kind=4:=by omega
   have hat:=hat h4;rw[hrn h4,if_pos h1];have hsk:=JcE hok h1;refine Juc hat rfl rfl rfl ?_;simp only[sC,sN];generalize atF l.f x w=n at *;refine JuB (n<0) rfl (fun hn=>?_) (fun hn=>?_)
   ·rw[if_pos hn];refine JuK (vs:=[.l (dL t),.l (dL x),.i (i+l.skip+1)]) ?_ ⟨a.length-(i+l.skip+1).toNat,by omega,i+l.skip+1,x,t,j,rfl,by omega,by omega,rfl,by omega,by omega,hx,hl,ht,rfl⟩;show [V.l (dL t),V.l (dL x),V.i (i64.wrap (i64.wrap (i+l.skip)+1))]=_;rw[w64 (n:=i+l.skip) (by omega) (by omega),w64 (by omega) (by omega)]
   ·rw[if_neg hn];refine JuK (vs:=[.l (dL t),.l (dL x),.i (i+1)]) ?_ ⟨a.length-(i+1).toNat,by omega,i+1,x,t,j,rfl,by omega,by omega,rfl,by omega,by omega,hx,hl,ht,rfl⟩;show [V.l (dL t),V.l (dL x),V.i (i64.wrap (i+1))]=_;rw[w64 (by omega) (by omega)]
  refine JuB (l.kind=2) rfl (fun h2'=>?_) (fun h2'=>?_)
  ·have h4 : ¬l.kind=4:=by omega
   have hat:=hat h4;have hb:=hb h4;rw[hrn h4,if_neg h1,if_pos h2'];have hj5:j<6:=by omega
   have hpt:=JgU hok h2';have hxp:=JaD (l:=x) (i:=l.pot.toNat) (by omega);have hdx:(dL x)[l.pot.toNat]? = some (dI (x.getD l.pot.toNat 0)):=mA1 (f:=dI) hxp;have hlp:=hl _ (JuY hxp);generalize atF l.f x w=n at *;generalize x.getD l.pot.toNat 0=y at *;refine Juz (0≤l.pot) rfl hpt.1 ?_;refine Juz (l.pot<((dL x).length:Int)) rfl (by rw[dL1];omega) ?_;refine Jui (ds:=dL x) l.pot rfl rfl rfl hpt.1 hdx rfl ?_;simp only[sC,sN];refine Juc hat rfl rfl rfl ?_;simp only[sC,sN];refine Juz (0≤l.pot) rfl hpt.1 ?_;refine Juz (l.pot<((dL x).length:Int)) rfl (by rw[dL1];omega) ?_;refine Jui (ds:=dL x) l.pot rfl rfl rfl hpt.1 hdx rfl ?_;simp only[sC,sN];have hstep:XB (j+1)=7*XB j+60:=rfl;refine JuK (vs:=[.l (dL t),.l (dL (x.set l.pot.toNat (y+n))),.i (i+1)]) ?_ ⟨a.length-(i+1).toNat,by omega,i+1,x.set l.pot.toNat (y+n),t,j+1,rfl,by omega,by omega,rfl,by omega,by omega,by simp[hx],(hl.mono (JcB (by omega))).set (by omega) _,by omega,rfl⟩;show [V.l (dL t),V.l ((dL x).set l.pot.toNat (dI (i64.wrap (y+n)))),V.i (i64.wrap (i+1))]=_;rw[w64 (n:=i+1) (by omega) (by omega),w64 (by omega) (by omega),QR]
  refine JuB (l.kind=3) rfl (fun h3'=>?_) (fun h3'=>?_)
  ·have h4 : ¬l.kind=4:=by omega
   have hat:=hat h4;have hj5:j<6:=by omega
   rw[hrn h4,if_neg h1,if_neg h2'];refine Juc hat rfl rfl rfl ?_;simp only[sC,sN];generalize atF l.f x w=n at *;refine Jug (dL t) 10 (by rw[dL1];omega) (by omega) rfl ?_;refine JuK (vs:=[.l (dL (t++[n])),.l (dL x),.i (i+1)]) ?_ ⟨a.length-(i+1).toNat,by omega,i+1,x,t++[n],j+1,rfl,by omega,by omega,rfl,by omega,by omega,hx,hl.mono (JcB (by omega)),by simp;omega,rfl⟩;show [V.l (dL t++[dI n]),V.l (dL x),V.i (i64.wrap (i+1))]=_;rw[w64 (by omega) (by omega),XP]
  ·have h4:l.kind=4:=by
    by_cases h4:l.kind=4
    ·exact h4
    ·exact absurd (JpL hok h1 h2' h4) h3'
   rw[hdr,run,if_pos h4];refine Jue (dL v) 2000000 (by rw[dL1];omega) (by omega) rfl ?_;refine Juu (JV v) ?_;refine Jue (dL v) 2000000 (by rw[dL1];omega) (by omega) rfl (JuJ (JuC rfl))
 ·rw[JN] at hi;rw[List.drop_eq_nil_of_le (by omega),run];refine JuJ ?_;exact Juc (Jnn v x t hv (by omega)) rfl rfl rfl (JuC rfl)
def JkX (v:List Int) (r:Res):Prop:=(r.code=1∧JS r.is=true∧r.tells.length≤6∧Lim 999999999999 r.tells)∨(r.is=v∧r.tells=[]∧(r.code=2∨r.code=3))
theorem Vw {v w:List Int} (hw:Lim 9 w) :∀(n:Nat) (a:List Jg) (x t:List Int) (j:Nat),a.length≤n→(∀l∈a,l.ok=true)→j+a.length≤6→x.length=3→Lim (XB j) x→t.length≤j→Lim 999999999999 t→JkX v (run v w a x t)
 | n,[],x,t,j,_,_,hj,hx,hl,ht,hlt=>by
  rw[run];unfold Jib;split
  ·rename_i h;exact .inl ⟨rfl,h,by simp at hj;show t.length≤6;omega,hlt⟩
  ·exact .inr ⟨rfl,rfl,.inr rfl⟩
 | 0,l::a,x,t,j,h,_,_,_,_,_,_=>by simp at h
 | n+1,l::a,x,t,j,h,hok,hj,hx,hl,ht,hlt=>by
  have hok1:=hok l (by simp);have hok2 :∀l∈a,l.ok=true:=fun m hm=>hok m (by simp[hm]);simp only[List.length_cons] at h hj;rw[run];split
  ·exact .inr ⟨rfl,rfl,.inl rfl⟩
  ·rename_i h4;have hX0:=JgZ j;have hXl:=Jqc (n:=j) (by omega);have hb:=JhM (X5 hok1 h4) hl hw hX0;split
   ·split
    ·exact Vw hw n _ x t j (by simp;omega) (fun m hm=>hok2 m (List.mem_of_mem_drop hm)) (by simp;omega) hx hl ht hlt
    ·exact Vw hw n a x t j (by omega) hok2 (by omega) hx hl ht hlt
   ·split
    ·rename_i h2;have hpt:=JgU hok1 h2;have hxp:=JaD (l:=x) (i:=l.pot.toNat) (by omega);have hlp:=hl _ (JuY hxp);have hstep:XB (j+1)=7*XB j+60:=rfl;exact Vw hw n a _ t (j+1) (by omega) hok2 (by omega) (by simp[hx]) ((hl.mono (JcB (by omega))).set (by omega) _) (by omega) hlt
    ·refine Vw hw n a x _ (j+1) (by omega) hok2 (by omega) hx (hl.mono (JcB (by omega))) (by simp;omega) ?_;intro y hy;rcases JuW.1 hy with h | h
     ·exact hlt y h
     ·simp only[Ju9] at h;subst h;omega
theorem JiW {a:List Jg} {v w:List Int} (h1:Qy a=true) (h2:JS v=true) (h3:Xc w=true):JkX v (ZY a v w):=by
 obtain⟨v1,v2⟩:=QL.1 h2;obtain⟨w1,w2⟩:=Ya.1 h3;obtain⟨a1,a2⟩:=KM h1;have hrun:ZY a v w=run v w a v []:=by simp[ZY,h1,h2,h3]
 rw[hrun];exact Vw w2 a.length a v [] 0 (by omega) a2 (by omega) v1 v2 (by simp) (fun x hx=>by simp at hx)
/- Sizes and copies of calls,of what was done,of sites,clerks and messages: over residual programs. -/
def UN {α:Type} (f:α→Prop) (l:List α):Prop:=l.length≤2000000∧∀x∈l,f x
def YS (x:Cal):Prop:=x.args.length≤2000000
def YZ (x:Don):Prop:=x.tells.length≤2000000
structure Msg where
 kind:Int
 to:Int
 frm:Int
 round:Int
 call:Cal
 vals:List Int
 seqs:List Int
 done:List Don
 deriving DecidableEq
def Msg.cells (x:Msg):List D:=[dI x.kind,dI x.to,dI x.frm,dI x.round,dI x.call.client,dI x.call.seq,dI x.call.act,.s (dL x.call.args),.s (dL x.vals),.s (dL x.seqs),.s (dDs x.done)]
def Msg.g (x:Msg):D:= .g x.cells
def Zb (x:Msg):Prop:=x.call.args.length≤2000000∧x.vals.length≤2000000∧x.seqs.length≤2000000∧UN YZ x.done
end Go.Proofs.YtofcmnglieaoeabGreatDoor

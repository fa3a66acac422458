import Derived.Test.YtdmjmcegcpdenaaGreatDoorPY
import Derived.Test.YtdmjmcegcpdenaaGreatDoorTd
import Derived.Test.YtdmjmcegcpdenaaGreatDoorPM
import Derived.Test.YtdmjmcegcpdenaaGreatDoorPP
import Derived.Laws.Strings
import Derived.Lib.ItoaLen
set_option linter.unusedVariables false
set_option linter.unusedSimpArgs false
/- What a site does alone: the specification's tries,over residual programs. -/
namespace Go.Proofs.YtdmjmcegcpdenaaGreatDoor
open Go Go.Tm
theorem Jdj {a b:List Int} (ha:a.length=3) (hb:b.length=3) (la:Lim 4000000000000000000 a) (lb:Lim 4000000000000000000 b):Ev L f_k22 [.s (dL a),.s (dL b)] [.s (dL (Qf a b))]:=by
 refine Jtg (vs:=[.l (dL a),.l (dL b)]) L_k22 rfl ?_
 refine Js2 3 (fun i=>[.l (dL ((Qf a b).take i)),.i i]) (fun _=>True) rfl rfl trivial fun i hi _=>?_
 simp only[sC,sN]
 refine JsF i 3 rfl (fun h=>?_) (fun h=>?_)
 ·obtain⟨x,hx,hmx⟩:=sA1 (show i<a.length by omega)
  obtain⟨y,hy,hmy⟩:=sA1 (show i<b.length by omega)
  have hxl:=la x hmx
  have hyl:=lb y hmy
  have hs:(Qf a b)[i]? = some (x+y):=by unfold Qf;rw[List.getElem?_zipWith,hx,hy]
  refine Js9 i (mA1 (f:=dI) hx) rfl rfl rfl rfl ?_
  refine Js9 i (mA1 (f:=dI) hy) rfl rfl rfl rfl ?_
  refine JsX (dL ((Qf a b).take i)) 10 (by rw[dL1];simp;omega) (by omega) rfl ?_
  refine Js3 (vs:=[.l (dL ((Qf a b).take (i+1))),.i ((i+1:Nat):Int)]) ?_ ⟨h,rfl,trivial⟩
  show [V.l (dL ((Qf a b).take i)++[dI (IntKind.i64.wrap (x+y))]),V.i (IntKind.i64.wrap ((i:Int)+1))]=_
  rw[wS h (by omega),w64 (by omega) (by omega),Xd,tS1 hs]
 ·refine JsS (JsN ?_)
  show [D.s (dL ((Qf a b).take i))]=_
  rw[List.take_of_length_le (by rw[ZF (by omega)];omega)]
theorem JmC (b g:List Int) (pins:List Bool) (r:Row) (w:List Int) (hp:pins.length=3) (hr:YC r) (hs:r.stop=false) (hb:JW b=true) (hw:Xj w=true) :
  Ev L f_k27 ([.s (dL b),.s (dL g),.s (dBl pins)]++r.cells++[.s (dL w)]) [.s (dL (if J5 pins (atL r.adds b w) then atL r.adds b w else [0,0,0])),dB (J5 pins (atL r.adds b w))]:=by
 refine Jtg (vs:=[.l (dL b),.l (dL g),.l (dBl pins),.l (dF r.guards),.l (dF r.adds),.l (dF r.tells),.b r.stop,.l (dL w)]) L_k27 rfl ?_
 have hal:=hr.ns hs
 have hab:=JfT hb hw hr.a
 have hll:=Jgi r.adds b w
 refine Js2 3 (fun i=>[.l (dL ((atL r.adds b w).take i)),.i i]) (fun i=>(((atL r.adds b w).zip pins).take i).all (fun q=>!(q.2 && !decide (q.1=0)))=true) rfl rfl rfl fun i hi hq=>?_
 simp only[sC,sN]
 refine JsF i 3 rfl (fun h=>?_) (fun h=>?_)
 ·obtain⟨f,hf,hm⟩:=sA1 (show i<r.adds.length by omega)
  obtain⟨p,hpi,_⟩:=sA1 (show i<pins.length by omega)
  have hx:(atL r.adds b w)[i]? = some (atF f b w):=by simp[atL,hf]
  have hz:=Ws hx hpi
  have hat:=JgU (hab f hm)
  generalize atF f b w=x at *
  generalize atL r.adds b w=xs at *
  refine Js9 i (mA1 (f:=Frm.g) hf) rfl rfl rfl rfl ?_
  refine JsZ hat rfl rfl rfl ?_
  refine Js9 i (mA1 (f:=dB) hpi) rfl rfl rfl rfl ?_
  simp only[sC,sN]
  have hnx:[V.l (dL (xs.take i)++[dI x]),V.i (IntKind.i64.wrap ((i:Int)+1))]=[V.l (dL (xs.take (i+1))),V.i ((i+1:Nat):Int)]:=by
   rw[wS h (by omega),Xd,tS1 hx]
  refine JsW p rfl (fun hp1=>?_) (fun hp1=>?_)
  ·refine Jte (decide (x=0)) rfl (fun h0=>JsS (JsN ?_)) (fun h0=>?_)
   ·have hst:J5 pins xs=false:=by unfold J5;rw[X7 hz (by simp only[h0,hp1];rfl)]
    rw[hst];rfl
   ·refine JsX (dL (xs.take i)) 10 (by rw[dL1];simp;omega) (by omega) rfl ?_
    exact Js3 hnx ⟨h,rfl,QM hz hq (by simp only[h0];simp)⟩
  ·refine JsX (dL (xs.take i)) 10 (by rw[dL1];simp;omega) (by omega) rfl ?_
   exact Js3 hnx ⟨h,rfl,QM hz hq (by simp only[hp1];rfl)⟩
 ·refine JsS (JsN ?_)
  rw[List.take_of_length_le (by simp;omega)] at hq
  have hst:J5 pins (atL r.adds b w)=true:=by unfold J5;rw[hq]
  rw[hst]
  show [D.s (dL ((atL r.adds b w).take i)),dB true]=_
  rw[List.take_of_length_le (by omega)];rfl
theorem Jnj:Xj [0,0]=true:=by decide
theorem Jjo {as:List (List Jg)} {b g:List Int} {s:Int} {a w:List Int} (h:Qj as=true) (hf:YJ b g (Jb as) s a=true) (hw:Xj w=true) (hb:b.length≤2000000) (hg:g.length≤2000000) (ha:a.length≤2000000) :
  Ev L f_k28 [.s (dL b),.s (dL g),.s (dLL (Jb as)),dI s,.s (dL a)] [dI (if [0,1,2].any (ovM b g (Jb as) s a w) then 2 else if [0,1,2].any (unM b g (Jb as) s a w) then 0 else 1)]:=by
 refine Jtg (vs:=[.l (dL b),.l (dL g),.l (dLL (Jb as)),.i s,.l (dL a)]) L_k28 rfl ?_
 have hps:fitLL (Jb as):=(Q6 as).fitLL (by omega)
 obtain⟨O,U,hr⟩ : ∃ O U,Jdz O U b g (Jb as) s a w:=⟨_,_,fun _=>⟨rfl,rfl⟩⟩
 have hno :∀(i:Nat) (x:Nat),[0,1,2][i]? = some x→ovM b g (Jb as) s a w x=true→[0,1,2].any (ovM b g (Jb as) s a w)=true:=fun i x hx h=>List.any_eq_true.2 ⟨x,List.mem_of_getElem? hx,h⟩
 refine Js2 3 (fun i=>[.i (if U i then 0 else 1),.i i]) (fun i=>O i=false) rfl (by rw[hr.zero.2];rfl) hr.zero.1 fun j hj hO=>?_
 simp only[sC,sN]
 refine JsF j 3 rfl (fun hj3=>?_) (fun hj3=>?_)
 ·obtain⟨sO,sU⟩:=hr.step hj3
  have hov:=hno j j (Jcx hj3)
  have hovd:ovM b g (Jb as) s a w j=(decide (10000<(JN b g (Jb as) s a (Jz j) w).1)||decide ((JN b g (Jb as) s a (Jz j) w).2.1 < -10000)):=rfl
  rw[hovd] at hov
  have eP:=Zv (j:Int) (by omega) (by omega)
  have eB:=JcI b g (Jb as) s a (Jz j) [0,0] hb hg hps ha QZ.fit (by decide)
  rw[Jdy h hf Jnj hj3] at eB
  rw[Jdy h hf hw hj3] at sO sU hov
  rw[Int.toNat_natCast] at eP
  refine JsZ eP rfl rfl rfl ?_
  refine JsZ eB rfl rfl rfl ?_
  simp only[sC,sN]
  generalize (Qf b a).getD j 0-JG g s=lo at *
  generalize (Qf b a).getD j 0+JG g s=hi at *
  generalize [0,1,2].any (ovM b g (Jb as) s a w)=OO at *
  generalize [0,1,2].any (unM b g (Jb as) s a w)=UU at *
  simp only at sO sU hov
  have nx :∀(x:Int) {vs:List V},vs=[V.i x,V.i (IntKind.i64.wrap ((j:Int)+1))]→(if U (j+1) then 0 else 1)=x→vs=[V.i (if U (j+1) then 0 else 1),V.i ((j+1:Nat):Int)]:=by
   rintro x _ rfl rfl
   rw[wS hj3 (by omega)]
  refine JsP rfl ?_
  refine JsI (10000<lo) rfl (fun hl=>JsS (JsN ?_)) (fun hl=>?_)
  ·rw[hov (by rw[decide_eq_true hl];rfl)];rfl
  refine JsI (hi < -10000) rfl (fun hh=>JsS (JsN ?_)) (fun hh=>?_)
  ·rw[hov (by rw[decide_eq_true hh,Bool.or_true])];rfl
  have hO':O (j+1)=false:=by rw[sO,hO,decide_eq_false hl,decide_eq_false hh];rfl
  refine JsO rfl ?_
  refine JsI (lo < -10000) rfl (fun h1=>?_) (fun h1=>?_)
  ·exact Js3 (nx 0 rfl (by rw[sU,decide_eq_true h1];simp)) ⟨hj3,rfl,hO'⟩
  refine JsI (10000<hi) rfl (fun h2=>?_) (fun h2=>?_)
  ·exact Js3 (nx 0 rfl (by rw[sU,decide_eq_true h2];simp)) ⟨hj3,rfl,hO'⟩
  exact Js3 (nx (if U j then 0 else 1) rfl (by rw[sU,decide_eq_false h1,decide_eq_false h2];simp)) ⟨hj3,rfl,hO'⟩
 ·have hj:j=3:=by omega
  subst hj
  refine JsS (JsN ?_)
  rw[hr.three.1] at hO
  show [dI (if U 3 then 0 else 1)]=_
  rw[hO,hr.three.2];rfl
theorem Jos {as:List (List Jg)} {b g:List Int} {s:Int} {a w:List Int} {r:Row} (h:Qj as=true) (hf:YJ b g (Jb as) s a=true) (hw:Xj w=true) (hg:g.length≤2000000) (hfr:YC r) :
  Ev L f_k29 ([.s (dL b),.s (dL g),.s (dLL (Jb as)),.s (dBl (Jj as)),dI s,.s (dL a)]++r.cells++[.s (dL w)]) (Kt b g (Jb as) (Jj as) s a w r).ds:=by
 refine Jtg (vs:=[.l (dL b),.l (dL g),.l (dLL (Jb as)),.l (dBl (Jj as)),.i s,.l (dL a),.l (dF r.guards),.l (dF r.adds),.l (dF r.tells),.b r.stop,.l (dL w)]) L_k29 rfl ?_
 have hps:fitLL (Jb as):=(Q6 as).fitLL (by omega)
 have hpi:=UF h
 obtain⟨_,_,_,_,hb3,ha3,hgr⟩:=Zi hf
 have hvb:JW b=true:=Qz.2 hb3
 unfold Kt
 refine JsW r.stop rfl (fun hst=>?_) (fun hst=>?_)
 ·rw[if_pos hst]
  exact Jtf a (by omega) (by omega) rfl (JsN rfl)
 rw[if_neg (by rw[hst];simp)]
 have hal:=hfr.ns hst
 have hla:=JpA (JfT hvb hw hfr.a)
 have hll:=Jgi r.adds b w
 refine JsZ (JmC b g (Jj as) r w hpi hfr hst hvb hw) rfl rfl rfl ?_
 simp only[sC,sN]
 generalize atL r.adds b w=x at *
 by_cases h5:J5 (Jj as) x=true
 case neg =>
  rw[if_neg h5,if_neg (show ¬(J5 (Jj as) x&&QI (Qf a x))=true by simp[h5])]
  refine JsZ (Jdj (b:=[0,0,0]) ha3.1 rfl (Lim.mono (m:=20000) ha3.2 (by omega)) (by intro y hy;simp at hy;omega)) rfl rfl rfl ?_
  refine JsP (by show (!(J5 (Jj as) x))=true;simp[h5]) ?_
  exact Jtf a (by omega) (by omega) rfl (JsN rfl)
 rw[if_pos h5,h5]
 refine JsZ (Jdj ha3.1 (by omega) (Lim.mono (m:=20000) ha3.2 (by omega)) (hla.mono (by omega))) rfl rfl rfl ?_
 simp only[sC,sN]
 refine JsO rfl ?_
 have hnl:(Qf a x).length≤2000000:=by rw[ZF (by omega)];omega
 generalize Qf a x=now at *
 refine JsZ (Xh now 3 20000 hnl (by omega) (by omega)) rfl rfl rfl ?_
 refine Jte (QI now) rfl (fun h6=>?_) (fun h6=>?_)
 ·rw[if_neg (by rw[h6];simp)]
  exact Jtf a (by omega) (by omega) rfl (JsN rfl)
 rw[if_pos (by rw[h6];rfl)]
 simp only[sC,sN]
 refine JsZ (Jjo h (JnM hf h6) hw (by omega) hg hnl) rfl rfl rfl ?_
 simp only[sC,sN]
 generalize [0,1,2].any (ovM b g (Jb as) s now w)=OO at *
 generalize [0,1,2].any (unM b g (Jb as) s now w)=UU at *
 cases OO with
 | true =>
  simp only[if_true]
  refine JsP rfl ?_
  exact Jtf a (by omega) (by omega) rfl (JsN rfl)
 | false =>
  cases UU with
  | true =>
   simp only[Bool.false_eq_true,if_false,if_true]
   refine JsO rfl (JsP rfl ?_)
   exact Jtf a (by omega) (by omega) rfl (JsN rfl)
  | false =>
   simp only[Bool.false_eq_true,if_false]
   refine JsO rfl (JsO rfl ?_)
   refine JsZ (Zr b g (Jb as) s now (by omega) hg hps hnl) rfl rfl rfl ?_
   refine Jte (keeps b g (Jb as) s now) rfl (fun h7=>?_) (fun h7=>?_)
   ·rw[if_neg (by rw[h7];simp)]
    exact Jtf a (by omega) (by omega) rfl (JsN rfl)
   rw[if_pos h7]
   simp only[sC,sN]
   have htl:=hfr.tl
   refine Js2 r.tells.length (fun i=>[.l (dL (atL (r.tells.take i) b w)),.i i]) (fun _=>True) rfl rfl trivial fun i hi _=>?_
   simp only[sC,sN]
   refine JsY i (JZ r.tells) rfl (fun h'=>?_) (fun h'=>?_)
   ·obtain⟨f,hf',hm⟩:=sA1 h'
    refine Js9 i (mA1 (f:=Frm.g) hf') rfl rfl rfl rfl ?_
    refine JsZ (JgU (JfT hvb hw hfr.t f hm)) rfl rfl rfl ?_
    refine JsX (dL (atL (r.tells.take i) b w)) 10 (by rw[dL1,Jgi];simp;omega) (by omega) rfl ?_
    refine Js3 (vs:=[.l (dL (atL (r.tells.take (i+1)) b w)),.i ((i+1:Nat):Int)]) ?_ ⟨h',rfl,trivial⟩
    show [V.l (dL (atL (r.tells.take i) b w)++[dI (atF f b w)]),V.i (IntKind.i64.wrap ((i:Int)+1))]=_
    rw[wS h' (by omega),Xd,tS1 hf']
    simp[atL]
   ·refine JsS (JsN ?_)
    show [dI 1,D.s (dL (atL (r.tells.take i) b w)),.s (dL now),dB true]=_
    rw[tA1 h'];rfl
theorem JoB {as:List (List Jg)} {b g:List Int} {s:Int} {a:List Int} {k:Int} {w:List Int} (hf:X9 as) (hg:g.length≤2000000) (hfine:Ys as b g s a k w=true) :
  Ev L f_k2a [.s (Jd as),.s (dLL (Jb as)),.s (dBl (Jj as)),.s (dL b),.s (dL g),dI s,.s (dL a),dI k,.s (dL w)] (JaW as b g s a k w).ds:=by
 refine Jtg (vs:=[.l (Jd as),.l (dLL (Jb as)),.l (dBl (Jj as)),.l (dL b),.l (dL g),.i s,.l (dL a),.i k,.l (dL w)]) L_k2a rfl ?_
 obtain⟨h1,hk,h3,hke,_⟩:=Kl.1 hfine
 obtain⟨hm,hkx⟩:=Jad (as:=as) hk.1 hk.2
 have hfi:=Xk hke
 obtain⟨_,_,_,_,hb3,ha3,hgr⟩:=Zi hfi
 have hM:JaW as b g s a k w=(match (Js (as.getD k.toNat [])).find? (KI b g (Jb as) s a w) with | some r=>Kt b g (Jb as) (Jj as) s a w r | none=>⟨0,[],a,false⟩):=by unfold JaW;rw[if_pos hfine];cases (Js (as.getD k.toNat [])).find? (KI b g (Jb as) s a w) <;> rfl
 rw[hM]
 clear hM
 have hps:fitLL (Jb as):=(Q6 as).fitLL (by omega)
 have hw2:=(XV.1 h3).1
 have fitb:FitB b g (Jb as) a w:=⟨by omega,hg,hps,by omega,by omega⟩
 refine Jtd (ds:=Jd as) k rfl rfl rfl hk.1 (mA1 (f:=fun a=> .s (Jk a)) hkx) rfl ?_
 refine JsZ (Jfn (as.getD k.toNat []) (hf.2 _ hm)) rfl rfl rfl ?_
 have hrf :∀r∈Js (as.getD k.toNat []),YC r:=X5
 have hrl:=Ku (as.getD k.toNat [])
 generalize Js (as.getD k.toNat [])=rs at *
 generalize as.getD k.toNat []=act at *
 simp only[sC,sN]
 refine Js2 rs.length (fun i=>[.i i]) (fun i=>(rs.take i).any (KI b g (Jb as) s a w)=false) rfl rfl rfl fun i hi hq=>?_
 simp only[sC,sN]
 refine JsY i (XR rs) rfl (fun h'=>?_) (fun h'=>?_)
 ·obtain⟨r,hr,hmr⟩:=sA1 h'
  refine JsG i (rdR hr) rfl rfl rfl rfl rfl rfl ?_
  refine JsZ (JlU b g (Jb as) s a w fitb r (hrf r hmr)) rfl rfl rfl ?_
  simp only[sC,sN]
  refine JsW (KI b g (Jb as) s a w r) rfl (fun hs=>?_) (fun hs=>?_)
  ·refine JsG i (rdR hr) rfl rfl rfl rfl rfl rfl ?_
   refine JsZ (Jos h1 hfi h3 hg (hrf r hmr)) rfl rfl rfl ?_
   rw[Jo3 hr hs hq]
   exact JsS (JsN rfl)
  ·refine Js3 (vs:=[.i ((i+1:Nat):Int)]) ?_ ⟨h',rfl,Jdo hr hq hs⟩
   show [V.i (IntKind.i64.wrap ((i:Int)+1))]=_
   rw[wS h' (by omega)]
 ·refine JsS ?_
  rw[tA1 h'] at hq
  rw[Jlm hq]
  exact Jtf a (by omega) (by omega) rfl (JsN rfl)
/- What a site does alone: draws; who gives more can do more: over residual programs. -/
end Go.Proofs.YtdmjmcegcpdenaaGreatDoor
/- What one site does alone is what would come of it over all: over residual programs. The sum here hands its list back. -/
namespace Go.Proofs.YtdmjmcegcpdenaaGreatDoor
open Go Go.Tm
theorem Jiy {b g:List Int} {ps:List (List Int)} {s:Int} (hp:QH ps=true) (ht:Qi b g=true) (hs:0≤s∧s<g.length):keeps b g ps s [0,0,0]=true:=by
 have ht':=ht
 simp only[Qi,Bool.and_eq_true,Jp,List.all_eq_true] at ht'
 unfold keeps
 have g0:=ht'.2
 obtain⟨x,hx,hm⟩:=sA1 (show s.toNat<g.length by omega)
 have e:g.getD s.toNat 0=x:=by simp[List.getD_eq_getElem?_getD,hx]
 have:=g0 x hm
 rw[ht,hp,e]
 simp only[Bool.true_and,Bool.and_eq_true,Jp,List.all_eq_true]
 refine⟨⟨by omega,by decide⟩,fun p hpp=>?_⟩
 have h3:p.length=3:=by
  simp only[QH,List.all_eq_true,Jo] at hp
  have:=(hp p hpp).1;omega
 obtain⟨u,v,w,rfl⟩:=Jar h3
 unfold Z0
 rw[Jp]
 simp only[dot,Int.mul_zero,Int.add_zero]
 omega
/- Copies,comparisons,marks and sizes of acts: over residual programs. -/
end Go.Proofs.YtdmjmcegcpdenaaGreatDoor
/- Marks,and what is held; sizes of acts: over residual programs. -/
namespace Go.Proofs.YtdmjmcegcpdenaaGreatDoor
open Go Go.Tm
/- The program's CatWrites,CatReads and CatPins answer as the reference's: over residual programs. -/
end Go.Proofs.YtdmjmcegcpdenaaGreatDoor
/- The program's SitNew and ClkNew answer as the reference's: over residual programs. -/
namespace Go.Proofs.YtdmjmcegcpdenaaGreatDoor
open Go Go.Tm
structure Pln where
 n:Int
 acts:List (List Jg)
 gives:List Int
 start:List Int
 deriving DecidableEq
def Pln.cells (p:Pln):List D:=[dI p.n,.s (Jd p.acts),.s (dL p.gives),.s (dL p.start)]
def JT (p:Pln):Prop:=X9 p.acts∧p.gives.length≤2000000∧p.start.length≤2000000
def JH (p:Pln):Bool:=inB p.n 1 4&&(Qj p.acts&&(JD 3 1000 p.start&&Qi p.start p.gives))
theorem KV (p:Pln) (hp:JT p):Ev L f_ki p.cells [dB (JH p)]:=by
 refine Jtg (vs:=[.i p.n,.l (Jd p.acts),.l (dL p.gives),.l (dL p.start)]) L_ki rfl ?_
 refine JsZ (JL p.n 1 4) rfl rfl rfl ?_
 refine JsW (inB p.n 1 4) rfl (fun h1=>?_) (fun h1=>JsN (by show [dB false]=_;simp[JH,h1]))
 refine JsZ (JnU p.acts hp.1) rfl rfl rfl ?_
 refine JsW (Qj p.acts) rfl (fun h2=>?_) (fun h2=>JsN (by show [dB false]=_;simp[JH,h2]))
 refine JsZ (Xh p.start 3 1000 hp.2.2 (by omega) (by omega)) rfl rfl rfl ?_
 refine JsW (JD 3 1000 p.start) rfl (fun h3=>?_) (fun h3=>JsN (by show [dB false]=_;simp[JH,h3]))
 refine JsZ (Ja9 p.start p.gives hp.2.2 hp.2.1) rfl rfl rfl (JsN ?_)
 show [dB (Qi p.start p.gives)]=_
 simp[JH,h1,h2,h3]
theorem Jeg (p:Pln) (b:List Int):Ev L f_k3l (p.cells++[.s (dL b)]) [.s (dL b),.s (dL p.gives)] :=
 Jtg (vs:=[.i p.n,.l (Jd p.acts),.l (dL p.gives),.l (dL p.start),.l (dL b)]) L_k3l rfl (JsN rfl)
theorem JlK (p:Pln) (hp:JT p):Ev L f_k3p p.cells [dB (JH p)]:=by
 refine Jtg (vs:=[.i p.n,.l (Jd p.acts),.l (dL p.gives),.l (dL p.start)]) L_k3p rfl ?_
 refine JsZ (Y7 p.n 1 4) rfl rfl rfl ?_
 refine JsW (inB p.n 1 4) rfl (fun h1=>?_) (fun h1=>JsN (by show [dB false]=_;simp[JH,h1]))
 refine JsZ (Ja6 p.acts hp.1) rfl rfl rfl ?_
 refine JsW (Qj p.acts) rfl (fun h2=>?_) (fun h2=>JsN (by show [dB false]=_;simp[JH,h2]))
 refine JsZ (XS p.start 3 1000 hp.2.2 (by omega) (by omega)) rfl rfl rfl ?_
 refine JsW (JD 3 1000 p.start) rfl (fun h3=>?_) (fun h3=>JsN (by show [dB false]=_;simp[JH,h3]))
 refine JsZ (Jeg p p.start) rfl rfl rfl ?_
 refine JsZ (Jic p.start p.gives hp.2.2 hp.2.1) rfl rfl rfl (JsN ?_)
 show [dB (Qi p.start p.gives)]=_
 simp[JH,h1,h2,h3]
structure Sit where
 up:Bool
 frozen:Bool
 round:Int
 base:List Int
 added:List Int
 done:List Don
 deriving DecidableEq
def Sit.cells (s:Sit):List D:=[dB s.up,dB s.frozen,dI s.round,.s (dL s.base),.s (dL s.added),.s (dDs s.done)]
def QB (s:Sit):Prop:=s.base.length≤2000000∧s.added.length≤2000000∧s.done.length≤2000000∧∀d∈s.done,d.tells.length≤2000000
def V0:Don:=⟨0,0,[]⟩
def ZR (p:Pln):Sit:=if JH p then ⟨true,false,0,p.start,[0,0,0],List.replicate p.n.toNat V0⟩ else ⟨false,false,0,[],[],[]⟩
theorem Qm {p:Pln} (h:JH p=true):1≤p.n∧p.n≤4∧p.start.length=3∧Qi p.start p.gives=true:=by
 simp only[JH,Bool.and_eq_true,Jp,Jo] at h
 obtain⟨⟨h1,h2⟩,_,⟨h3,_⟩,h4⟩:=h
 exact⟨h1,h2,by omega,h4⟩
theorem Jis (p:Pln) (h0:0≤p.n) (h1:p.n≤4):Ev L f_kl p.cells [.s (dDs (List.replicate p.n.toNat V0))]:=by
 refine Jtg (vs:=[.i p.n,.l (Jd p.acts),.l (dL p.gives),.l (dL p.start)]) L_kl rfl ?_
 refine Js2 p.n.toNat (fun i=>[.l (dDs (List.replicate i V0)),.i i]) (fun _=>True) rfl rfl trivial fun i hi _=>?_
 simp only[sC,sN]
 have hl:(dDs (List.replicate i V0)).length=i:=by simp[dDs]
 refine JsF i p.n.toNat (by show decide ((i:Int)<p.n)=_;rw[show ((p.n.toNat:Nat):Int)=p.n by omega]) (fun h=>?_) (fun h=>JsS (JsN ?_))
 ·refine JsX (dDs (List.replicate i V0)) 4 (by omega) (by omega) rfl ?_
  refine Js3 (vs:=[.l (dDs (List.replicate (i+1) V0)),.i ((i+1:Nat):Int)]) ?_ ⟨h,rfl,trivial⟩
  show [V.l (dDs (List.replicate i V0)++[Don.g V0]),V.i (IntKind.i64.wrap ((i:Int)+1))]=_
  rw[wS h (by omega),List.replicate_succ']
  simp[dDs]
 ·show [D.s (dDs (List.replicate i V0))]=_
  rw[show i=p.n.toNat by omega]
theorem Ji1 (p:Pln) (hp:JT p):Ev L f_ko p.cells (ZR p).cells:=by
 refine Jtg (vs:=[.i p.n,.l (Jd p.acts),.l (dL p.gives),.l (dL p.start)]) L_ko rfl ?_
 refine JsZ (KV p hp) rfl rfl rfl ?_
 refine Jte (JH p) rfl (fun h=>JsN ?_) (fun h=>?_)
 ·show _=(ZR p).cells
  unfold ZR;rw[if_neg (by simp[h])];rfl
 obtain⟨h1,h2,h3,_⟩:=Qm h
 refine Js6 (dL p.start) 2000000 (by rw[dL1];exact hp.2.2) (by omega) rfl ?_
 refine JsU (JO p.start) ?_
 refine Js6 (dL p.start) 2000000 (by rw[dL1];exact hp.2.2) (by omega) rfl ?_
 refine JsZ (Jis p (by omega) h2) rfl rfl rfl (JsN ?_)
 show _=(ZR p).cells
 unfold ZR;rw[if_pos h];rfl
/- The program's ClkNew answers as the reference's: over residual programs. -/
structure Clk where
 up:Bool
 round:Int
 base:List Int
 done:List Don
 wants:List Cal
 got:List Got
 deriving DecidableEq
def Clk.cells (s:Clk):List D:=[dB s.up,dI s.round,.s (dL s.base),.s (dDs s.done),.s (dCs s.wants),.s (dGs s.got)]
structure Um (s:Clk):Prop where
 b:s.base.length≤2000000
 d:s.done.length≤2000000
 dt :∀d∈s.done,d.tells.length≤2000000
 c:s.wants.length≤2000000
 ct :∀d∈s.wants,d.args.length≤2000000
 g:s.got.length≤2000000
 gt :∀d∈s.got,d.added.length≤2000000∧d.seqs.length≤2000000
def XP:Got:=⟨false,[],[]⟩
def XM (p:Pln):Clk:=if JH p then ⟨true,0,p.start,List.replicate p.n.toNat V0,[],List.replicate p.gives.length XP⟩ else ⟨false,0,[],[],[],[]⟩
theorem JaP (p:Pln) (hg:p.gives.length≤2000000):Ev L f_km p.cells [.s (dGs (List.replicate p.gives.length XP))]:=by
 refine Jtg (vs:=[.i p.n,.l (Jd p.acts),.l (dL p.gives),.l (dL p.start)]) L_km rfl ?_
 refine Js2 p.gives.length (fun i=>[.l (dGs (List.replicate i XP)),.i i]) (fun _=>True) rfl rfl trivial fun i hi _=>?_
 simp only[sC,sN]
 have hl:(dGs (List.replicate i XP)).length=i:=by simp[dGs]
 refine JsY i (dL1 p.gives) rfl (fun h=>?_) (fun h=>JsS (JsN ?_))
 ·refine JsX (dGs (List.replicate i XP)) 2000000 (by omega) (by omega) rfl ?_
  refine Js3 (vs:=[.l (dGs (List.replicate (i+1) XP)),.i ((i+1:Nat):Int)]) ?_ ⟨h,rfl,trivial⟩
  show [V.l (dGs (List.replicate i XP)++[Got.g XP]),V.i (IntKind.i64.wrap ((i:Int)+1))]=_
  rw[wS h (by omega),List.replicate_succ']
  simp[dGs]
 ·show [D.s (dGs (List.replicate i XP))]=_
  rw[show i=p.gives.length by omega]
theorem JjQ (p:Pln) (hp:JT p):Ev L f_kn p.cells (XM p).cells:=by
 refine Jtg (vs:=[.i p.n,.l (Jd p.acts),.l (dL p.gives),.l (dL p.start)]) L_kn rfl ?_
 refine JsZ (KV p hp) rfl rfl rfl ?_
 refine Jte (JH p) rfl (fun h=>JsN ?_) (fun h=>?_)
 ·show _=(XM p).cells
  unfold XM;rw[if_neg (by simp[h])];rfl
 obtain⟨h1,h2,h3,_⟩:=Qm h
 refine Js6 (dL p.start) 2000000 (by rw[dL1];exact hp.2.2) (by omega) rfl ?_
 refine JsU (JO p.start) ?_
 refine Js6 (dL p.start) 2000000 (by rw[dL1];exact hp.2.2) (by omega) rfl ?_
 refine JsZ (Jis p (by omega) h2) rfl rfl rfl ?_
 refine JsZ (JaP p hp.2.1) rfl rfl rfl (JsN ?_)
 show _=(XM p).cells
 unfold XM;rw[if_pos h];rfl
/- The program's LocTry answers as the reference's: over residual programs. -/
theorem JhM (as:List (List Jg)) (b g:List Int) (s:Int) (a:List Int) (k:Int) (w:List Int) (ha:a.length≤2000000):(JaW as b g s a k w).tells.length≤2000000∧(JaW as b g s a k w).adds.length≤2000000:=by
 have key :∀r,r∈Js (as.getD k.toNat [])→(Kt b g (Jb as) (Jj as) s a w r).tells.length≤2000000∧(Kt b g (Jb as) (Jj as) s a w r).adds.length≤2000000:=by
  intro r hr
  have hf:=X5 r hr
  have hs:(Qf a (atL r.adds b w)).length≤a.length:=by unfold Qf;rw[List.length_zipWith];omega
  have ht:(atL r.tells b w).length=r.tells.length:=by simp[atL]
  have htl:=hf.tl
  unfold Kt
  repeat' split
  all_goals first
   | exact⟨by simp,ha⟩
   | exact⟨by simp only[ht];omega,by simp only;omega⟩
 unfold JaW
 split
 ·split
  ·rename_i r hr
   exact key r (List.mem_of_find?_eq_some hr)
  ·exact⟨by simp,ha⟩
 ·exact⟨by simp,by simp⟩
/- Marks,and what is held,of plans,sites and clients: over residual programs. Printed by wip/tools/pzl.py. -/
def Sit.w (s:Sit):Nat:=3+s.base.length+s.added.length+wts Don.w s.done
def Sit.g (s:Sit):D:= .g s.cells
structure Con where
 seq:Int
 busy:Bool
 call:Cal
 code:Int
 tells:List Int
 deriving DecidableEq
def Con.cells (s:Con):List D:=[dI s.seq,dB s.busy,dI s.call.client,dI s.call.seq,dI s.call.act,.s (dL s.call.args),dI s.code,.s (dL s.tells)]
def Con.g (s:Con):D:= .g s.cells
def JjG (s:Con):Prop:=s.call.args.length≤2000000∧s.tells.length≤2000000
def Con.w (s:Con):Nat:=6+s.call.args.length+s.tells.length
/- The program's WldNew answers as the reference's: over residual programs. -/
end Go.Proofs.YtdmjmcegcpdenaaGreatDoor
/- The program's WldNew answers as the reference's: the functions,and the law: over residual programs. -/
namespace Go.Proofs.YtdmjmcegcpdenaaGreatDoor
open Go Go.Tm
theorem JqZ (l:List Jg) (x:Jg):Jk l++[x.g]=Jk (l++[x]):=by simp[Jk]
theorem Jqz (l:List (List Jg)) (x:List Jg):Jd l++[.s (Jk x)]=Jd (l++[x]):=by simp[Jd]
theorem JfS (as:List (List Jg)) (hf:X9 as):Ev L f_kj [.s (Jd as)] [.s (Jd as)]:=by
 refine Jtg (vs:=[.l (Jd as)]) L_kj rfl ?_
 have hl:=hf.1
 refine Js2 as.length (fun i=>[.l (Jd (as.take i)),.i i]) (fun _=>True) rfl rfl trivial fun i hi _=>?_
 simp only[sC,sN]
 refine JsY i (JM as) rfl (fun h=>?_) (fun h=>JsS (JsN ?_))
 ·obtain⟨a,ha,hm⟩:=sA1 h
  obtain⟨hal,hax⟩:=hf.2 a hm
  refine Js2 a.length (fun j=>[.l (Jk (a.take j)),.i j]) (fun _=>True) rfl rfl trivial fun j hj _=>?_
  simp only[sC,sN]
  refine Js9 (vs:=[.l (Jk a)]) i (mA1 (f:=fun a=>D.s (Jk a)) ha) rfl rfl rfl rfl ?_
  simp only[sC,sN]
  refine JsY j (JJ a) rfl (fun h'=>?_) (fun h'=>?_)
  ·obtain⟨x,hx,hmx⟩:=sA1 h'
   have hxf:=hax x hmx
   refine Js9 (vs:=[.l (Jk a)]) i (mA1 (f:=fun a=>D.s (Jk a)) ha) rfl rfl rfl rfl ?_
   simp only[sC,sN]
   refine Js9 (vs:=[.i x.kind,.i x.pot,.i x.skip,.l (dL x.f.c),.l (dL x.f.d),.i x.f.k]) j (mA1 (f:=Jg.g) hx) rfl rfl rfl rfl ?_
   simp only[sC,sN]
   refine Js6 (dL x.f.c) 2000000 (by rw[dL1];exact hxf.1) (by omega) rfl ?_
   refine JsU (JO x.f.c) ?_
   refine Js6 (dL x.f.c) 2000000 (by rw[dL1];exact hxf.1) (by omega) rfl ?_
   refine Js6 (dL x.f.d) 2000000 (by rw[dL1];exact hxf.2) (by omega) rfl ?_
   refine JsU (JO x.f.d) ?_
   refine Js6 (dL x.f.d) 2000000 (by rw[dL1];exact hxf.2) (by omega) rfl ?_
   refine JsX (Jk (a.take j)) 2000000 (by rw[JJ];simp;omega) (by omega) rfl ?_
   refine Js3 (vs:=[.l (Jk (a.take (j+1))),.i ((j+1:Nat):Int)]) ?_ ⟨h',rfl,trivial⟩
   show [V.l (Jk (a.take j)++[x.g]),V.i (IntKind.i64.wrap ((j:Int)+1))]=_
   rw[wS h' (by omega),JqZ,tS1 hx]
  ·refine JsS ?_
   rw[tA1 h']
   refine JsX (Jd (as.take i)) 2000000 (by rw[JM];simp;omega) (by omega) rfl ?_
   refine Js3 (vs:=[.l (Jd (as.take (i+1))),.i ((i+1:Nat):Int)]) ?_ ⟨h,rfl,trivial⟩
   show [V.l (Jd (as.take i)++[.s (Jk a)]),V.i (IntKind.i64.wrap ((i:Int)+1))]=_
   rw[wS h (by omega),Jqz,tS1 ha]
 ·show [D.s (Jd (as.take i))]=_
  rw[tA1 h]
theorem JiS (p:Pln) (hp:JT p):Ev L f_kk p.cells p.cells:=by
 refine Jtg (vs:=[.i p.n,.l (Jd p.acts),.l (dL p.gives),.l (dL p.start)]) L_kk rfl ?_
 refine JsZ (JfS p.acts hp.1) rfl rfl rfl ?_
 refine Js6 (dL p.gives) 2000000 (by rw[dL1];exact hp.2.1) (by omega) rfl ?_
 refine JsU (JO p.gives) ?_
 refine Js6 (dL p.gives) 2000000 (by rw[dL1];exact hp.2.1) (by omega) rfl ?_
 refine Js6 (dL p.start) 2000000 (by rw[dL1];exact hp.2.2) (by omega) rfl ?_
 refine JsU (JO p.start) ?_
 refine Js6 (dL p.start) 2000000 (by rw[dL1];exact hp.2.2) (by omega) rfl ?_
 exact JsN rfl
structure Wld where
 p:Pln
 sites:List Sit
 c:Clk
 cons:List Con
def Wld.cells (w:Wld):List D:=[dI w.p.n,.s (Jd w.p.acts),.s (dL w.p.gives),.s (dL w.p.start),.s (w.sites.map Sit.g),dB w.c.up,dI w.c.round,.s (dL w.c.base),.s (dDs w.c.done),.s (dCs w.c.wants),.s (dGs w.c.got),.s (w.cons.map Con.g),.s [],.s []]
def Jf9:Con:=⟨0,false,⟨0,0,0,[]⟩,0,[]⟩
def Wf (p:Pln):Wld:=if JH p then ⟨p,List.replicate p.gives.length (ZR p),XM p,List.replicate p.n.toNat Jf9⟩ else ⟨⟨0,[],[],[]⟩,[],XM p,[]⟩
theorem JjH (p:Pln) (hp:JT p):Ev L f_kp p.cells (Wf p).cells:=by
 refine Jtg (vs:=[.i p.n,.l (Jd p.acts),.l (dL p.gives),.l (dL p.start)]) L_kp rfl ?_
 refine JsZ (KV p hp) rfl rfl rfl ?_
 refine Jte (JH p) rfl (fun h=>JsN ?_) (fun h=>?_)
 ·show _=(Wf p).cells
  unfold Wf XM;rw[if_neg (by simp[h]),if_neg (by simp[h])];rfl
 obtain⟨h1,h2,h3,_⟩:=Qm h
 have hW:Wf p=⟨p,List.replicate p.gives.length (ZR p),XM p,List.replicate p.n.toNat Jf9⟩:=by unfold Wf;rw[if_pos h]
 rw[hW]
 have hsn:=Ji1 p hp
 have hcn:=JjQ p hp
 have hg:=hp.2.1
 generalize ZR p=s at *
 generalize XM p=c at *
 refine JsZ (vs:=[.i p.n,.l (Jd p.acts),.l (dL p.gives),.l (dL p.start)]) (JiS p hp) rfl rfl rfl ?_
 simp only[sC,sN]
 refine JsZ (vs:=[.b c.up,.i c.round,.l (dL c.base),.l (dDs c.done),.l (dCs c.wants),.l (dGs c.got)]) hcn rfl rfl rfl ?_
 simp only[sC,sN]
 refine Js2 p.gives.length (fun i=>[.l ((List.replicate i s).map Sit.g),.i i]) (fun _=>True) rfl rfl trivial fun i hi _=>?_
 simp only[sC,sN]
 refine JsY i (dL1 p.gives) rfl (fun h=>?_) (fun h'=>JsS ?_)
 ·refine JsZ (vs:=[.b s.up,.b s.frozen,.i s.round,.l (dL s.base),.l (dL s.added),.l (dDs s.done)]) hsn rfl rfl rfl ?_
  simp only[sC,sN]
  refine JsX ((List.replicate i s).map Sit.g) 2000000 (by simp;omega) (by omega) rfl ?_
  refine Js3 (vs:=[.l ((List.replicate (i+1) s).map Sit.g),.i ((i+1:Nat):Int)]) ?_ ⟨h,rfl,trivial⟩
  show [V.l ((List.replicate i s).map Sit.g++[Sit.g s]),V.i (IntKind.i64.wrap ((i:Int)+1))]=_
  rw[wS h (by omega),List.replicate_succ']
  simp
 have hil:i=p.gives.length:=by omega
 subst hil
 refine Js2 p.n.toNat (fun i=>[.l ((List.replicate i Jf9).map Con.g),.i i]) (fun _=>True) rfl rfl trivial fun j hj _=>?_
 simp only[sC,sN]
 refine JsF j p.n.toNat (by show decide ((j:Int)<p.n)=_;rw[show ((p.n.toNat:Nat):Int)=p.n by omega]) (fun h=>?_) (fun h'=>JsS (JsN ?_))
 ·refine JsX ((List.replicate j Jf9).map Con.g) 4 (by simp;omega) (by omega) rfl ?_
  refine Js3 (vs:=[.l ((List.replicate (j+1) Jf9).map Con.g),.i ((j+1:Nat):Int)]) ?_ ⟨h,rfl,trivial⟩
  show [V.l ((List.replicate j Jf9).map Con.g++[Con.g Jf9]),V.i (IntKind.i64.wrap ((j:Int)+1))]=_
  rw[wS h (by omega),List.replicate_succ']
  simp
 ·have hjl:j=p.n.toNat:=by omega
  subst hjl
  rfl
/- Results as texts: which of them are ok. -/
def JI (c:Int) (t:List Int):Bool:=inB c 1 3&&(decide (t.length≤6)&&((decide (c=1)||t.isEmpty)&&JD t.length 999999999999 t))
theorem Yo {c:Int} {t:List Int}:JI c t=true↔(1≤c∧c≤3)∧t.length≤6∧(c=1∨t=[])∧Lim 999999999999 t:=by
 unfold JI inB
 simp only[Bool.and_eq_true,Bool.or_eq_true,decide_eq_true_eq,List.isEmpty_iff,Jo]
 exact⟨fun h=>⟨h.1,h.2.1,h.2.2.1,h.2.2.2.2⟩,fun h=>⟨h.1,h.2.1,h.2.2.1,trivial,h.2.2.2⟩⟩
def Qg:List (List UInt8):=[[],[100,111,110,101],[115,116,111,112,112,101,100],[111,118,101,114]]
def KM (c:Int) (t:List Int):List UInt8:=if JI c t then Qg.getD c.toNat []++Ql t else []
theorem Jqm (a b:List UInt8):(⟨a.toArray⟩:ByteArray)++⟨b.toArray⟩=⟨(a++b).toArray⟩:=by
 apply ByteArray.ext
 simp
theorem Jci {a b:List UInt8} (h:a.length+b.length≤1000000):ZE .cat [QU a,QU b]=some (QU (a++b)):=by
 show (if(⟨a.toArray⟩:ByteArray).size+(⟨b.toArray⟩:ByteArray).size≤2 ^ 62 then some (D.v (.string ((⟨a.toArray⟩:ByteArray)++⟨b.toArray⟩))) else none)=_
 rw[if_pos,Jqm]
 ·rfl
 show a.toArray.size+b.toArray.size≤2 ^ 62
 simp only[List.size_toArray]
 omega
theorem Jlf (a b:List UInt8):ZE .seq [QU a,QU b]=some (dB (a == b)):=by
 show some (D.v (.bool ((⟨a.toArray⟩:ByteArray).toList == (⟨b.toArray⟩:ByteArray).toList)))=_
 rw[ByteArray.toList_mk,ByteArray.toList_mk]
theorem Jdk (t:List Int) (hl:Lim 999999999999 t):(Ql t).length≤22*t.length:=by
 induction t with
 | nil=>simp[Ql]
 | cons n l ih =>
  have h1:=hl n (by simp)
  have h2:=Lib.itoa_length_le n (by omega) (by omega)
  have h3:=ih fun m hm=>hl m (by simp[hm])
  simp only[Ql,List.flatMap_cons,List.length_append,List.length_cons] at h3 ⊢
  omega
theorem JgE {c:Int} (h:inB c 1 3=true):Qg[c.toNat]? = some (Qg.getD c.toNat [])∧Qg.getD c.toNat []≠[]∧(Qg.getD c.toNat []).length≤7:=by
 unfold inB at h
 simp only[Bool.and_eq_true,decide_eq_true_eq] at h
 rcases (show c=1∨c=2∨c=3 by omega) with rfl | rfl | rfl <;> exact⟨rfl,by decide,by decide⟩
theorem JcA (c:Int) (t:List Int):(KM c t == []) = !JI c t:=by
 unfold KM
 split
 ·rename_i h
  have hin:inB c 1 3=true:=by unfold JI at h;simp only[Bool.and_eq_true] at h;exact h.1
  have:=(JgE hin).2.1
  rw[h]
  have h2:Qg.getD c.toNat []++Ql t≠[]:=fun e=>this (List.append_eq_nil_iff.1 e).1
  generalize Qg.getD c.toNat []++Ql t=l at h2
  cases l with
  | nil=>exact absurd rfl h2
  | cons x l=>rfl
 ·rename_i h
  simp[h]
theorem Je3 (t:List Int) (h6:t.length≤6) (hl:Lim 999999999999 t):Ev L f_k50 [.s (dL t)] [QU (Ql t)]:=by
 refine Jti L_k50 ?_
 show (if(dL t).length≤4096 then((dL t).mapM Jb8).map fun l=>[QU (Ql l)] else none)=_
 have e:(dL t).mapM Jb8=some t:=JbK fun n hn=>by have:=hl n hn;omega
 rw[if_pos (by rw[dL1];omega),e]
 rfl
theorem Jaz:Ev L f_k4z [] [.s (Qg.map QU)] :=
 Jtg (vs:=[]) L_k4z rfl (JsN rfl)
theorem JiL (c:Int) (t:List Int) (ht:t.length≤2000000):Ev L f_k51 [dI c,.s (dL t)] [QU (KM c t)]:=by
 refine Jtg (vs:=[.i c,.l (dL t)]) L_k51 rfl ?_
 have no:JI c t=false→([QU []]:List D)=[QU (KM c t)]:=fun h=>by simp[KM,h]
 refine JsZ (Y7 c 1 3) rfl rfl rfl ?_
 refine Jte (inB c 1 3) rfl (fun h=>JsN (no (by simp[JI,h]))) (fun h1=>?_)
 refine JsI (6<((dL t).length:Int)) rfl (fun h=>JsN (no ?_)) (fun h2=>?_)
 ·rw[dL1] at h
  simp only[JI,show ¬t.length≤6 by omega,decide_false,Bool.false_and,Bool.and_false]
 rw[dL1] at h2
 obtain⟨w1,_,w3⟩:=JgE h1
 have hidx:(Qg.map QU)[c.toNat]? = some (QU (Qg.getD c.toNat [])):=by rw[List.getElem?_map,w1];rfl
 have hc0:0≤c:=by unfold inB at h1;simp only[Bool.and_eq_true,decide_eq_true_eq] at h1;omega
 have hc4:c<((Qg.map QU).length:Int):=by unfold inB at h1;simp only[Bool.and_eq_true,decide_eq_true_eq] at h1;show c<4;omega
 have hwn:=XS t t.length 999999999999 ht (by omega) (by omega)
 refine Jte (decide (c=1)) rfl (fun h3=>?_) (fun h3=>?_)
 ·refine JsI (0<((dL t).length:Int)) rfl (fun h=>JsN (no ?_)) (fun h4=>?_)
  ·rw[dL1] at h
   have:t.isEmpty=false:=by cases t with
    | nil=>simp at h
    | cons x t=>rfl
   simp only[JI,h3,this,Bool.or_false,Bool.false_and,Bool.and_false]
  ·rw[dL1] at h4
   have h4:t=[]:=List.length_eq_zero_iff.1 (by omega)
   refine JsZ hwn rfl (by show [D.s (dL t),dI ((dL t).length:Int),dI 999999999999]=_;rw[dL1]) rfl ?_
   refine Jte (JD t.length 999999999999 t) rfl (fun h=>JsN (no (by simp only[JI,h,Bool.and_false]))) (fun h5=>?_)
   have hl:=(Jo.1 h5).2
   have hj:=Jdk t hl
   have hok:JI c t=true:=by simp only[JI,h1,h5,h4,List.length_nil,List.isEmpty_nil,Bool.or_true,Bool.true_and];simp[JD]
   have e:QU (KM c t)=QU (Qg.getD c.toNat []++Ql t):=by simp only[KM,hok,if_true]
   rw[e]
   refine JsZ Jaz rfl rfl rfl ?_
   refine Js4 (0≤c) rfl hc0 (Js4 (c<((Qg.map QU).length:Int)) rfl hc4 ?_)
   refine Jtd (ds:=Qg.map QU) c rfl rfl rfl hc0 hidx rfl ?_
   refine JsZ (Je3 t (by omega) hl) rfl rfl rfl ?_
   refine JsJ rfl (Jci (by omega)) rfl (JsN rfl)
 ·refine JsZ hwn rfl (by show [D.s (dL t),dI ((dL t).length:Int),dI 999999999999]=_;rw[dL1]) rfl ?_
  refine Jte (JD t.length 999999999999 t) rfl (fun h=>JsN (no (by simp only[JI,h,Bool.and_false]))) (fun h5=>?_)
  have hl:=(Jo.1 h5).2
  have hj:=Jdk t hl
  have hok:JI c t=true:=by simp only[JI,h1,h5,h3,Bool.true_or,Bool.true_and,Bool.and_true];simp;omega
  have e:QU (KM c t)=QU (Qg.getD c.toNat []++Ql t):=by simp only[KM,hok,if_true]
  rw[e]
  refine JsZ Jaz rfl rfl rfl ?_
  refine Js4 (0≤c) rfl hc0 (Js4 (c<((Qg.map QU).length:Int)) rfl hc4 ?_)
  refine Jtd (ds:=Qg.map QU) c rfl rfl rfl hc0 hidx rfl ?_
  refine JsZ (Je3 t (by omega) hl) rfl rfl rfl ?_
  refine JsJ rfl (Jci (by omega)) rfl (JsN rfl)
theorem JmR (c:Int) (t:List Int) (ht:t.length≤2000000):Ev L f_k52 [dI c,.s (dL t)] [dB (JI c t)]:=by
 refine Jtg (vs:=[.i c,.l (dL t)]) L_k52 rfl ?_
 refine JsZ (JiL c t ht) rfl rfl rfl ?_
 refine JsJ rfl (Jlf (KM c t) []) rfl (JsN ?_)
 show [dB (!(KM c t == []))]=_
 rw[JcA,Bool.not_not]
/- What does not come to its end turns nothing: over residual programs. -/
theorem JmX (v x t:List Int) (hv:v.length≤2000000) (hx:x.length≤2000000):Ev L f_k2j [.s (dL v),.s (dL x),.s (dL t)] (Res.ds (JhA v x t)):=by
 refine Jtg (vs:=[.l (dL v),.l (dL x),.l (dL t)]) L_k2j rfl ?_
 refine JsZ (YV x hx) rfl rfl rfl ?_
 unfold JhA
 refine Jte (JW x) rfl (fun h=>?_) (fun h=>JsN ?_)
 ·rw[h,if_neg (by simp)]
  refine Js6 (dL v) 2000000 (by rw[dL1];omega) (by omega) rfl ?_
  refine JsU (JO v) ?_
  refine Js6 (dL v) 2000000 (by rw[dL1];omega) (by omega) rfl (JsN rfl)
 ·rw[h];rfl
theorem Jjj (a:List Jg) (v w:List Int) (ha:Kp a) (hv:v.length≤2000000) (hw:w.length≤2000000):Ev L f_k2k [.s (Jk a),.s (dL v),.s (dL w)] (Res.ds (ZK a v w)):=by
 refine Jtg (vs:=[.l (Jk a),.l (dL v),.l (dL w)]) L_k2k rfl ?_
 have none:(Qk a&&(JW v&&Xj w))=false→ZK a v w=⟨0,[],[]⟩:=fun h=>by simp[ZK,h]
 refine JsZ (WT a ha) rfl rfl rfl ?_
 refine Jte (Qk a) rfl (fun h=>JsN ?_) (fun h=>?_)
 ·rw[none (by simp[h])];rfl
 refine JsZ (YV v hv) rfl rfl rfl ?_
 refine Jte (JW v) rfl (fun h2=>JsN ?_) (fun h2=>?_)
 ·rw[none (by simp[h2])];rfl
 refine JsZ (Jjk w hw) rfl rfl rfl ?_
 refine Jte (Xj w) rfl (fun h3=>JsN ?_) (fun h3=>?_)
 ·rw[none (by simp[h3])];rfl
 have hrun:ZK a v w=run v w a v []:=by simp[ZK,h,h2,h3]
 rw[hrun]
 obtain⟨v1,v2⟩:=Qz.1 h2
 obtain⟨w1,w2⟩:=XV.1 h3
 obtain⟨a1,a2⟩:=Kz h
 refine Js6 (dL v) 2000000 (by rw[dL1];omega) (by omega) rfl ?_
 refine JsU (JO v) ?_
 refine Js6 (dL v) 2000000 (by rw[dL1];omega) (by omega) rfl ?_
 simp only[sC,sN]
 refine Jta (fun m vs=>∃ (i:Int) (x t:List Int) (j:Nat),vs=[.l (dL t),.l (dL x),.i i]∧0≤i∧i≤20∧m=a.length-i.toNat∧(j:Int)≤i∧j≤6∧x.length=3∧Lim (XB j) x∧t.length≤j∧run v w (a.drop i.toNat) x t=run v w a v []) rfl a.length
  ⟨0,v,[],0,rfl,by omega,by omega,by simp,by omega,by omega,v1,v2,by simp,by simp⟩ ?_
 rintro m _ ⟨i,x,t,j,rfl,i0,i20,hm,hji,hj6,hx,hl,ht,hr⟩
 rw[←hr]
 clear hr
 simp only[sC,sN]
 have hX0:=JfW j
 have hXl:=JpT hj6
 refine JsI (i<((Jk a).length:Int)) rfl (fun hi=>?_) (fun hi=>?_)
 ·rw[JJ] at hi
  obtain⟨l,hla,hd⟩:=UZ i0 hi
  have hok:=a2 l (List.mem_of_getElem? hla)
  have hdr:=Xt hla
  have hs1:(i+1).toNat=i.toNat+1:=by omega
  refine Jtd (ds:=Jk a) i rfl rfl rfl i0 hd rfl ?_
  simp only[sC,sN]
  have hlx:Lim 2000000000 x:=hl.mono hXl
  have hrn : ¬l.kind=4→run v w (a.drop i.toNat) x t=if l.kind=1 then(if atF l.f x w<0 then run v w (a.drop (i+l.skip+1).toNat) x t else run v w (a.drop (i+1).toNat) x t)
    else if l.kind=2 then run v w (a.drop (i+1).toNat) (x.set l.pot.toNat (x.getD l.pot.toNat 0+atF l.f x w)) t else run v w (a.drop (i+1).toNat) x (t++[atF l.f x w]):=fun h4=>by
   rw[hdr,run,if_neg h4,hs1]
   by_cases h1:l.kind=1
   ·have hsk:=Jcu hok h1
    rw[if_pos h1,if_pos h1,List.drop_drop,show i.toNat+1+l.skip.toNat=(i+l.skip+1).toNat by omega]
   ·rw[if_neg h1,if_neg h1]
  have hat:=fun h4 : ¬l.kind=4=>JgU (ZI.small (XO hok h4) hx hlx h3)
  have hb:=fun h4 : ¬l.kind=4=>Jh9 (XO hok h4) hl w2 hX0
  refine JsI (l.kind=1) rfl (fun h1=>?_) (fun h1=>?_)
  ·have h4 : ¬l.kind=4:=by omega
   have hat:=hat h4
   rw[hrn h4,if_pos h1]
   have hsk:=Jcu hok h1
   refine JsZ hat rfl rfl rfl ?_
   simp only[sC,sN]
   generalize atF l.f x w=n at *
   refine JsI (n<0) rfl (fun hn=>?_) (fun hn=>?_)
   ·rw[if_pos hn]
    refine Js3 (vs:=[.l (dL t),.l (dL x),.i (i+l.skip+1)]) ?_ ⟨a.length-(i+l.skip+1).toNat,by omega,i+l.skip+1,x,t,j,rfl,by omega,by omega,rfl,by omega,by omega,hx,hl,ht,rfl⟩
    show [V.l (dL t),V.l (dL x),V.i (IntKind.i64.wrap (IntKind.i64.wrap (i+l.skip)+1))]=_
    rw[w64 (n:=i+l.skip) (by omega) (by omega),w64 (by omega) (by omega)]
   ·rw[if_neg hn]
    refine Js3 (vs:=[.l (dL t),.l (dL x),.i (i+1)]) ?_ ⟨a.length-(i+1).toNat,by omega,i+1,x,t,j,rfl,by omega,by omega,rfl,by omega,by omega,hx,hl,ht,rfl⟩
    show [V.l (dL t),V.l (dL x),V.i (IntKind.i64.wrap (i+1))]=_
    rw[w64 (by omega) (by omega)]
  refine JsI (l.kind=2) rfl (fun h2'=>?_) (fun h2'=>?_)
  ·have h4 : ¬l.kind=4:=by omega
   have hat:=hat h4
   have hb:=hb h4
   rw[hrn h4,if_neg h1,if_pos h2']
   have hj5:j<6:=by omega
   have hpt:=Jgp hok h2'
   have hxp:=JaH (l:=x) (i:=l.pot.toNat) (by omega)
   have hdx:(dL x)[l.pot.toNat]? = some (dI (x.getD l.pot.toNat 0)):=mA1 (f:=dI) hxp
   have hlp:=hl _ (List.mem_of_getElem? hxp)
   generalize atF l.f x w=n at *
   generalize x.getD l.pot.toNat 0=y at *
   refine Js4 (0≤l.pot) rfl hpt.1 ?_
   refine Js4 (l.pot<((dL x).length:Int)) rfl (by rw[dL1];omega) ?_
   refine Jtd (ds:=dL x) l.pot rfl rfl rfl hpt.1 hdx rfl ?_
   simp only[sC,sN]
   refine JsZ hat rfl rfl rfl ?_
   simp only[sC,sN]
   refine Js4 (0≤l.pot) rfl hpt.1 ?_
   refine Js4 (l.pot<((dL x).length:Int)) rfl (by rw[dL1];omega) ?_
   refine Jtd (ds:=dL x) l.pot rfl rfl rfl hpt.1 hdx rfl ?_
   simp only[sC,sN]
   have hstep:XB (j+1)=7*XB j+60:=rfl
   refine Js3 (vs:=[.l (dL t),.l (dL (x.set l.pot.toNat (y+n))),.i (i+1)]) ?_ ⟨a.length-(i+1).toNat,by omega,i+1,x.set l.pot.toNat (y+n),t,j+1,rfl,by omega,by omega,rfl,by omega,by omega,by simp[hx],(hl.mono (Jco (by omega))).set (by omega) _,by omega,rfl⟩
   show [V.l (dL t),V.l ((dL x).set l.pot.toNat (dI (IntKind.i64.wrap (y+n)))),V.i (IntKind.i64.wrap (i+1))]=_
   rw[w64 (n:=i+1) (by omega) (by omega),w64 (by omega) (by omega),QK]
  refine JsI (l.kind=3) rfl (fun h3'=>?_) (fun h3'=>?_)
  ·have h4 : ¬l.kind=4:=by omega
   have hat:=hat h4
   have hj5:j<6:=by omega
   rw[hrn h4,if_neg h1,if_neg h2']
   refine JsZ hat rfl rfl rfl ?_
   simp only[sC,sN]
   generalize atF l.f x w=n at *
   refine JsX (dL t) 10 (by rw[dL1];omega) (by omega) rfl ?_
   refine Js3 (vs:=[.l (dL (t++[n])),.l (dL x),.i (i+1)]) ?_ ⟨a.length-(i+1).toNat,by omega,i+1,x,t++[n],j+1,rfl,by omega,by omega,rfl,by omega,by omega,hx,hl.mono (Jco (by omega)),by simp;omega,rfl⟩
   show [V.l (dL t++[dI n]),V.l (dL x),V.i (IntKind.i64.wrap (i+1))]=_
   rw[w64 (by omega) (by omega),Xd]
  ·have h4:l.kind=4:=by
    by_cases h4:l.kind=4
    ·exact h4
    ·exact absurd (JpD hok h1 h2' h4) h3'
   rw[hdr,run,if_pos h4]
   refine Js6 (dL v) 2000000 (by rw[dL1];omega) (by omega) rfl ?_
   refine JsU (JO v) ?_
   refine Js6 (dL v) 2000000 (by rw[dL1];omega) (by omega) rfl (JsS (JsN rfl))
 ·rw[JJ] at hi
  rw[List.drop_eq_nil_of_le (by omega),run]
  refine JsS ?_
  exact JsZ (JmX v x t hv (by omega)) rfl rfl rfl (JsN rfl)
def JkP (v:List Int) (r:Res):Prop:=(r.code=1∧JW r.is=true∧r.tells.length≤6∧Lim 999999999999 r.tells)∨(r.is=v∧r.tells=[]∧(r.code=2∨r.code=3))
theorem UW {v w:List Int} (hw:Lim 9 w) :∀(n:Nat) (a:List Jg) (x t:List Int) (j:Nat),a.length≤n→(∀l∈a,l.ok=true)→j+a.length≤6→x.length=3→Lim (XB j) x→t.length≤j→Lim 999999999999 t→JkP v (run v w a x t)
 | n,[],x,t,j,_,_,hj,hx,hl,ht,hlt=>by
  rw[run]
  unfold JhA
  split
  ·rename_i h
   exact .inl ⟨rfl,h,by simp at hj;show t.length≤6;omega,hlt⟩
  ·exact .inr ⟨rfl,rfl,.inr rfl⟩
 | 0,l::a,x,t,j,h,_,_,_,_,_,_=>by simp at h
 | n+1,l::a,x,t,j,h,hok,hj,hx,hl,ht,hlt=>by
  have hok1:=hok l (by simp)
  have hok2 :∀l∈a,l.ok=true:=fun m hm=>hok m (by simp[hm])
  simp only[List.length_cons] at h hj
  rw[run]
  split
  ·exact .inr ⟨rfl,rfl,.inl rfl⟩
  ·rename_i h4
   have hX0:=JfW j
   have hXl:=JpT (n:=j) (by omega)
   have hb:=Jh9 (XO hok1 h4) hl hw hX0
   split
   ·split
    ·exact UW hw n _ x t j (by simp;omega) (fun m hm=>hok2 m (List.mem_of_mem_drop hm)) (by simp;omega) hx hl ht hlt
    ·exact UW hw n a x t j (by omega) hok2 (by omega) hx hl ht hlt
   ·split
    ·rename_i h2
     have hpt:=Jgp hok1 h2
     have hxp:=JaH (l:=x) (i:=l.pot.toNat) (by omega)
     have hlp:=hl _ (List.mem_of_getElem? hxp)
     have hstep:XB (j+1)=7*XB j+60:=rfl
     exact UW hw n a _ t (j+1) (by omega) hok2 (by omega) (by simp[hx]) ((hl.mono (Jco (by omega))).set (by omega) _) (by omega) hlt
    ·refine UW hw n a x _ (j+1) (by omega) hok2 (by omega) hx (hl.mono (Jco (by omega))) (by simp;omega) ?_
     intro y hy
     rcases List.mem_append.1 hy with h | h
     ·exact hlt y h
     ·simp only[List.mem_singleton] at h;subst h;omega
theorem Jhp {a:List Jg} {v w:List Int} (h1:Qk a=true) (h2:JW v=true) (h3:Xj w=true):JkP v (ZK a v w):=by
 obtain⟨v1,v2⟩:=Qz.1 h2
 obtain⟨w1,w2⟩:=XV.1 h3
 obtain⟨a1,a2⟩:=Kz h1
 have hrun:ZK a v w=run v w a v []:=by simp[ZK,h1,h2,h3]
 rw[hrun]
 exact UW w2 a.length a v [] 0 (by omega) a2 (by omega) v1 v2 (by simp) (fun x hx=>by simp at hx)
/- Sizes and copies of calls,of what was done,of sites,clerks and messages: over residual programs. -/
def Wm {α:Type} (f:α→Prop) (l:List α):Prop:=l.length≤2000000∧∀x∈l,f x
def UX (x:Cal):Prop:=x.args.length≤2000000
def Yd (x:Don):Prop:=x.tells.length≤2000000
structure Msg where
 kind:Int
 to:Int
 frm:Int
 round:Int
 call:Cal
 vals:List Int
 seqs:List Int
 done:List Don
 deriving DecidableEq
def Msg.cells (x:Msg):List D:=[dI x.kind,dI x.to,dI x.frm,dI x.round,dI x.call.client,dI x.call.seq,dI x.call.act,.s (dL x.call.args),.s (dL x.vals),.s (dL x.seqs),.s (dDs x.done)]
def Msg.g (x:Msg):D:= .g x.cells
def Ux (x:Msg):Prop:=x.call.args.length≤2000000∧x.vals.length≤2000000∧x.seqs.length≤2000000∧Wm Yd x.done
end Go.Proofs.YtdmjmcegcpdenaaGreatDoor

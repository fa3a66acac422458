import Derived.Test.YtofcmnglieaoeabGreatDoorPG
import Derived.Test.YtofcmnglieaoeabGreatDoorTd
set_option linter.unusedVariables false
set_option linter.unusedSimpArgs false
/- What the reference's ways through an act come to. -/
namespace Go.Proofs.YtofcmnglieaoeabGreatDoor
open Go Go.Tm
open Go.IntKind (i64)
theorem Jiv {l:List Frm} {i:Nat} (h:i<l.length):l.getD i Frm.none∈l∧l[i]? = some (l.getD i Frm.none):=by
 rw[JuU,Ju2 h];exact⟨List.getElem_mem h,rfl⟩
def ZZ (p:List Frm):List Frm:=[JY (p.getD 0 Frm.none) (JB 0) (-1),JY (p.getD 1 Frm.none) (JB 1) (-1),JY (p.getD 2 Frm.none) (JB 2) (-1)]
theorem JoJ {p g t:List Frm} {M:Int} (hp:p.length=3) (sp :∀f∈p,Std M f) (hg:g.length≤2000000) (sg :∀f∈g,Std M f) (ht:t.length≤2000000) (st :∀f∈t,Std M f) (h0:1≤M) (hM:M≤1000000000) :
  Ev L f_k10 [.s (dF p),.s (dF g),.s (dF t)] (Y1 p g t).cells:=by
 refine JuM (vs:=[.l (dF p),.l (dF g),.l (dF t)]) L_k10 rfl ?_;refine Juj (args:=[.s (dF g)]) rfl rfl (YB hg sg (by omega) hM) rfl ?_;refine Juj (args:=[.s (dF t)]) rfl rfl (YB ht st (by omega) hM) rfl ?_;refine Juh (fun m vs=>∃ i:Nat,i≤3∧m=3-i∧vs=[.l (dF ((ZZ p).take i)),.i i]) rfl 3 ⟨0,by omega,rfl,rfl⟩ ?_;rintro m _ ⟨i,hi,hm,rfl⟩;refine JuB ((i:Int)<3) rfl (fun h=>?_) (fun h=>?_)
 ·obtain⟨x,hx,hd⟩:=Ja7 (l:=p) (i:=(i:Int)) (by omega) (by omega);have hsx:=sp x (JuY hx);refine Jui (ds:=dF p) i rfl rfl rfl (by omega) hd rfl ?_;refine Juj (args:=[dI i]) rfl rfl (ZL i (by omega) (by omega)) rfl ?_;rw[Int.toNat_natCast] at hx;refine Juj (args:=x.cells++(JB (i:Int).toNat).cells++[dI (-1)]) rfl rfl (Vi hsx (Xg.mono h0) hM (by omega)) rfl ?_;have hn:(ZZ p)[i]? = some (JY x (JB (i:Int).toNat) (-1)):=by
   have e:p.getD i Frm.none=x:=by rw[JuU,hx];rfl
   subst e;rw[Int.toNat_natCast]
   match i,h with
   | 0,_=>rfl
   | 1,_=>rfl
   | 2,_=>rfl
   | n+3,h=>omega
  refine JuD (dF ((ZZ p).take i)++[(JY x (JB (i:Int).toNat) (-1)).g]) rfl (by rw[Xq,J5];simp;omega) ?_;refine JuK (vs:=[.l (dF ((ZZ p).take (i+1))),.i ((i+1:Nat):Int)]) ?_ ⟨m-1,by omega,i+1,by omega,by omega,rfl⟩;show [V.l (dF ((ZZ p).take i)++[(JY x (JB (i:Int).toNat) (-1)).g]),V.i (i64.wrap ((i:Int)+1))]=_;rw[Xq,tS1 hn,w64 (by omega) (by omega)];rfl
 ·refine JuJ (JuC ?_);have hi3:i=3:=by omega
  subst hi3;rfl
structure QH (act:List Jg):Prop where
 len:act.length≤6
 ok :∀l∈act,l.ok=true
theorem JdZ {act:List Jg} (h:Qy act=true):QH act:=by
 simp only[Qy,JuR,decide_eq_true_eq,Ju4] at h;exact⟨by omega,h.1.1⟩
theorem Jhy {l:Jg} (h:l.ok=true) (h4 : ¬l.kind=4):l.f.small=true:=by
 unfold Jg.ok at h;split at h
 ·simp only[JuR] at h;exact h.2
 split at h
 ·simp only[JuR] at h;exact h.2
 split at h
 ·simp only[JuR] at h;exact h.2
 ·simp[h4] at h
theorem JgU {l:Jg} (h:l.ok=true) (h2:l.kind=2):0≤l.pot∧l.pot≤2:=by
 unfold Jg.ok at h;rw[if_neg (by omega),if_pos h2] at h;simp only[JuR,Jq] at h;exact h.1.1
theorem JcE {l:Jg} (h:l.ok=true) (h1:l.kind=1):1≤l.skip∧l.skip≤6:=by
 unfold Jg.ok at h;rw[if_pos h1] at h;simp only[JuR,Jq] at h;exact h.1.2
theorem XH {α:Type} {l:List α} {i:Nat} {x:α} (h:l[i]? = some x):l.drop i=x::l.drop (i+1):=by
 obtain⟨h1,h2⟩:=JuS.1 h;rw[List.drop_eq_getElem_cons h1,h2]
theorem Ug {α:Type} {l:List α} {x:α} {p:α→Prop} (h :∀y∈l,p y) (hx:p x) :∀y∈l++[x],p y:=by
 intro y hy;rcases JuW.1 hy with hy | hy
 ·exact h y hy
 ·simp at hy;subst hy;exact hx
theorem JlP (a b:List Row):Qn a++Qn b=Qn (a++b):=by simp[Qn]
set_option maxHeartbeats 4000000 in
theorem Jm1 {act:List Jg} (hact:QH act) :∀(n:Nat) (at_:Int) (p g t:List Frm) (j:Nat),0≤at_→at_≤20→act.length-at_.toNat=n→(j:Int)≤at_→j≤6 →
  p.length=3→(∀f∈p,Std (Bd j) f)→g.length≤j→(∀f∈g,Std 10000000 f)→t.length≤j→(∀f∈t,Std 10000000 f) →
  Ev L f_k11 [.s (Jk act),dI at_,.s (dF p),.s (dF g),.s (dF t)] [.s (Qn (walk (act.drop at_.toNat) p g t))]:=by
 intro n
 induction n using Nat.strongRecOn with
 | _ n ih =>
  intro at_ p g t j a0 a20 hn hj hj6 hp sp hg sg ht st;have hal:=hact.len;refine JuM (vs:=[.l (Jk act),.i at_,.l (dF p),.l (dF g),.l (dF t)]) L_k11 rfl ?_;refine Juh (fun m vs=>∃ (i:Int) (p' t':List Frm) (j':Nat),vs=[.l (dF p'),.l (dF t'),.i i]∧at_≤i∧i≤20∧m=act.length-i.toNat∧(j':Int)≤i∧j≤j'∧j'≤6∧p'.length=3∧(∀f∈p',Std (Bd j') f)∧t'.length≤j'∧(∀f∈t',Std 10000000 f) ∧
   walk (act.drop i.toNat) p' g t'=walk (act.drop at_.toNat) p g t) rfl (act.length-at_.toNat) ⟨at_,p,t,j,rfl,by omega,a20,rfl,hj,by omega,hj6,hp,sp,ht,st,rfl⟩ ?_
  rintro m _ ⟨i,p',t',j',rfl,ai,i20,hm,hj',hjj,hj6',hp',sp',ht',st',hw⟩;have hB:=Jhx hj6';have hB0:=Y4 j';refine JuB (i<((Jk act).length:Int)) rfl (fun hi=>?_) (fun hi=>?_)
  ·rw[JN] at hi;obtain⟨l,hl,hd⟩:=Vv (a:=act) (i:=i) (by omega) hi;have hok:=hact.ok l (JuY hl);have hdr:=XH hl;have hs1:(i+1).toNat=i.toNat+1:=by omega
   refine Jui (ds:=Jk act) i rfl rfl rfl (by omega) hd rfl ?_;refine JuB (l.kind=4) rfl (fun h4=>?_) (fun h4=>?_)
   ·refine Juj (args:=[.s (dF g)]) rfl rfl (YB (by omega) sg (by omega) (by omega)) rfl ?_;refine JuJ (JuC ?_);show [D.s [D.g [.s (dF g),.s [],.s [],dB true]]]=_;rw[←hw,hdr,walk,if_pos h4];rfl
   have hsm:=Jhy hok h4;have hin:=VA hsm hp' sp' hB0;have hin7:Std 10000000 (Js l.f p'):=hin.mono (by omega);refine Juj (args:=l.f.cells++[.s (dF p')]) rfl rfl (Jjs hsm hp' sp' hB0 (by omega)) rfl ?_;have hj5:j'<6:=by omega
   refine JuB (l.kind=1) rfl (fun h1=>?_) (fun h1=>?_)
   ·have hsk:=JcE hok h1;have hg':(g++[Js l.f p']).length≤j'+1:=by simp;omega
    have hg2:(g++[QZ (Js l.f p')]).length≤j'+1:=by simp;omega
    have hmin:Std 10000000 (QZ (Js l.f p')):=(WQ hin).mono (by omega);have spB :∀f∈p',Std (Bd (j'+1)) f:=fun f hf=>(sp' f hf).mono (Kn (by omega));have cp:=YB (by omega:p'.length≤2000000) sp' hB0 (by omega);have cg:=YB (by omega:g.length≤2000000) sg (by omega) (by omega);have ct:=YB (by omega:t'.length≤2000000) st' (by omega) (by omega);refine Juj (args:=[.s (dF p')]) rfl rfl cp rfl ?_;refine Juj (args:=[.s (dF g)]) rfl rfl cg rfl ?_;refine JuD (dF g++[(Js l.f p').g]) rfl (by rw[Xq,J5];omega) ?_;refine Juj (args:=[.s (dF t')]) rfl rfl ct rfl ?_;have e1:=ih (act.length-(i+1).toNat) (by omega) (i+1) p' (g++[Js l.f p']) t' (j'+1) (by omega) (by omega) rfl (by omega) (by omega) hp' spB hg' (Ug sg hin7) (by omega) st';refine Juj (args:=[.s (Jk act),dI (i+1),.s (dF p'),.s (dF (g++[Js l.f p'])),.s (dF t')]) rfl ?_ e1 rfl ?_
    ·show [D.s (Jk act),dI (i64.wrap (i+1)),.s (dF p'),.s (dF g++[(Js l.f p').g]),.s (dF t')]=_;rw[Xq,w64 (by omega) (by omega)]
    refine Juj (args:=[.s (dF p')]) rfl rfl cp rfl ?_;refine Juj (args:=[.s (dF g)]) rfl rfl cg rfl ?_;refine Juj (args:=(Js l.f p').cells) rfl rfl (Jkk hin7 (by omega) (by omega)) rfl ?_;refine JuD (dF g++[(QZ (Js l.f p')).g]) rfl (by rw[Xq,J5];omega) ?_;refine Juj (args:=[.s (dF t')]) rfl rfl ct rfl ?_;have e2:=ih (act.length-(i+1+l.skip).toNat) (by omega) (i+1+l.skip) p' (g++[QZ (Js l.f p')]) t' (j'+1) (by omega) (by omega) rfl (by omega) (by omega) hp' spB hg2 (Ug sg hmin) (by omega) st';refine Juj (args:=[.s (Jk act),dI (i+1+l.skip),.s (dF p'),.s (dF (g++[QZ (Js l.f p')])),.s (dF t')]) rfl ?_ e2 rfl ?_
    ·show [D.s (Jk act),dI (i64.wrap (i64.wrap (i+1)+l.skip)),.s (dF p'),.s (dF g++[(QZ (Js l.f p')).g]),.s (dF t')]=_;rw[Xq,w64 (n:=i+1) (by omega) (by omega),w64 (by omega) (by omega)]
    have wl :∀(k:Nat) (a b c:List Frm),(walk (act.drop k) a b c).length≤64:=fun k a b c=>by
     refine Nat.le_trans (JhY _ _ _ _) ?_;exact Nat.le_trans (Nat.pow_le_pow_right (by omega) (show (act.drop k).length≤6 by simp;omega)) (by decide)
    have w1:=wl (i+1).toNat p' (g++[Js l.f p']) t';have w2:=wl (i+1+l.skip).toNat p' (g++[QZ (Js l.f p')]) t';refine JuD (Qn (walk (act.drop (i+1+l.skip).toNat) p' (g++[QZ (Js l.f p')]) t')) rfl (by rw[X4];omega) ?_;refine Juu (JlR _) ?_;refine JuD (Qn (walk (act.drop (i+1).toNat) p' (g++[Js l.f p']) t')++Qn (walk (act.drop (i+1+l.skip).toNat) p' (g++[QZ (Js l.f p')]) t')) rfl (by rw[JuX,X4,X4];omega) ?_;refine JuJ (JuC ?_);show [D.s (Qn (walk (act.drop (i+1).toNat) p' (g++[Js l.f p']) t')++Qn (walk (act.drop (i+1+l.skip).toNat) p' (g++[QZ (Js l.f p')]) t'))]=_;rw[JlP,←hw,hdr,walk,if_neg h4,if_pos h1,List.drop_drop,hs1,show i.toNat+1+l.skip.toNat=(i+1+l.skip).toNat by omega]
   refine JuB (l.kind=2) rfl (fun h2=>?_) (fun h2=>?_)
   ·have hpt:=JgU hok h2;have hlt:l.pot.toNat<p'.length:=by omega
    obtain⟨hm1,hm2⟩:=Jiv hlt;have hdg:(dF p')[l.pot.toNat]? = some (p'.getD l.pot.toNat Frm.none).g:=mA1 (f:=Frm.g) hm2;refine Juj (args:=[.s (dF p')]) rfl rfl (YB (by omega) sp' hB0 (by omega)) rfl ?_;refine Juz (0≤l.pot) rfl hpt.1 ?_;refine Juz (l.pot<((dF p').length:Int)) rfl (by rw[J5];omega) ?_;refine Jui (ds:=dF p') l.pot rfl rfl rfl hpt.1 hdg rfl ?_;refine Juj (args:=(p'.getD l.pot.toNat Frm.none).cells++(Js l.f p').cells++[dI 1]) rfl rfl (Vi ((sp' _ hm1).mono (by omega)) hin7 (by omega) (by omega)) rfl ?_;refine Juz (0≤l.pot) rfl hpt.1 ?_;refine Juz (l.pot<((dF p').length:Int)) rfl (by rw[J5];omega) ?_;refine Jui (ds:=dF p') l.pot rfl rfl rfl hpt.1 hdg rfl ?_;have hsum:Std (Bd (j'+1)) (JY (p'.getD l.pot.toNat Frm.none) (Js l.f p') 1):=(QX (sp' _ hm1) hin (n:=1) (N:=1) (by omega)).mono (by simp only[Bd];omega);refine JuK (vs:=[.l (dF (p'.set l.pot.toNat (JY (p'.getD l.pot.toNat Frm.none) (Js l.f p') 1))),.l (dF t'),.i (i+1)]) ?_
     ⟨act.length-(i+1).toNat,by omega,i+1,p'.set l.pot.toNat (JY (p'.getD l.pot.toNat Frm.none) (Js l.f p') 1),t',j'+1,rfl,by omega,by omega,rfl,by omega,by omega,by omega,by simp[hp'],?_,by omega,st',?_⟩
    ·show [V.l ((dF p').set l.pot.toNat (JY (p'.getD l.pot.toNat Frm.none) (Js l.f p') 1).g),V.l (dF t'),V.i (i64.wrap (i+1))]=_;rw[w64 (by omega) (by omega)];simp[dF,List.map_set]
    ·intro f hf;rcases Jvg hf with hf | hf
     ·exact(sp' f hf).mono (Kn (by omega))
     ·subst hf;exact hsum
    ·rw[←hw,hdr,hs1];conv=>rhs;rw[walk];rw[if_neg h4,if_neg h1,if_pos h2]
   ·refine Juj (args:=[.s (dF t')]) rfl rfl (YB (by omega) st' (by omega) (by omega)) rfl ?_;refine JuD (dF t'++[(Js l.f p').g]) rfl (by rw[Xq,J5,JuX,List.length_singleton];omega) ?_;refine JuK (vs:=[.l (dF p'),.l (dF (t'++[Js l.f p'])),.i (i+1)]) ?_
     ⟨act.length-(i+1).toNat,by omega,i+1,p',t'++[Js l.f p'],j'+1,rfl,by omega,by omega,rfl,by omega,by omega,by omega,hp',fun f hf=>(sp' f hf).mono (Kn (by omega)),by simp;omega,Ug st' hin7,?_⟩
    ·show [V.l (dF p'),V.l (dF t'++[(Js l.f p').g]),V.i (i64.wrap (i+1))]=_;rw[Xq,w64 (by omega) (by omega)]
    ·rw[←hw,hdr,hs1];conv=>rhs;rw[walk];rw[if_neg h4,if_neg h1,if_neg h2]
  ·rw[JN] at hi;refine JuJ ?_;refine Juj (args:=[.s (dF p'),.s (dF g),.s (dF t')]) rfl rfl (JoJ (M:=10000000) hp' (fun f hf=>(sp' f hf).mono (by omega)) (by omega) sg (by omega) st' (by omega) (by omega)) rfl ?_;refine JuC ?_;show [D.s [(Y1 p' g t').g]]=_;rw[←hw,List.drop_eq_nil_of_le (by omega),walk];rfl
theorem Je0 (act:List Jg) (hf:KG act):Ev L f_k12 [.s (Jk act)] [.s (Qn (Jv act))]:=by
 refine JuM (vs:=[.l (Jk act)]) L_k12 rfl ?_;refine Juj (args:=[.s (Jk act)]) rfl rfl (JaR act hf) rfl ?_;refine JuB (Qy act=false) ?_ (fun h=>JuC ?_) (fun h=>?_)
 ·show (!(Qy act))=_;cases Qy act <;> rfl
 ·show [D.s []]=_;simp[Jv,h,Qn]
 have h:Qy act=true:=by simpa using h
 refine Juj (args:=[dI 0]) rfl rfl (ZL 0 (by omega) (by omega)) rfl ?_;refine Juj (args:=[dI 1]) rfl rfl (ZL 1 (by omega) (by omega)) rfl ?_;refine Juj (args:=[dI 2]) rfl rfl (ZL 2 (by omega) (by omega)) rfl ?_;have e:=Jm1 (JdZ h) act.length 0 [JB 0,JB 1,JB 2] [] [] 0 (by omega) (by omega) (by simp) (by omega) (by omega) rfl (by
  intro f hf';simp at hf';rcases hf' with rfl | rfl | rfl <;> exact Xg) (by simp) (by simp) (by simp) (by simp)
 refine Juj (args:=[.s (Jk act),dI 0,.s (dF [JB 0,JB 1,JB 2]),.s (dF []),.s (dF [])]) rfl rfl e rfl ?_;refine JuC ?_;show [D.s (Qn (walk (act.drop (0:Int).toNat) [JB 0,JB 1,JB 2] [] []))]=_;simp[Jv,h]
/- What the reference's parts,pins,and draws of them come to. -/
def Yq (as:List (List Jg)):Prop:=as.length≤2000000∧∀a∈as,KG a
theorem JgV.fit {as:List (List Jg)} (h:JgV as):Yq as:=⟨by have:=h.1;omega,fun a ha=>(h.2 a ha).fit⟩
theorem Jnt (as:List (List Jg)) (hf:Yq as):Ev L f_kf [.s (Jc as)] [dB (Qv as)]:=by
 have hl:=hf.1;refine JuM (vs:=[.l (Jc as)]) L_kf rfl ?_;refine Juc (JQ as.length 1 4) rfl ?_ rfl ?_
 ·show [dI ((Jc as).length:Int),dI 1,dI 4]=_;rw[JO]
 refine JuE (inB as.length 1 4) rfl (fun h=>JuC ?_) (fun h=>?_)
 ·show [dB false]=_;simp[Qv,h]
 refine Jut as.length (fun i=>[.i i]) (fun i=>(as.take i).all Qy=true) rfl rfl (by simp) fun i hi hp=>?_;refine JuF i (JO as) rfl (fun h'=>?_) (fun h'=>?_)
 ·obtain⟨x,hx,hm⟩:=sA1 h';refine Jud i (mA1 (f:=fun a=> .s (Jk a)) hx) rfl rfl rfl rfl ?_;refine Juc (JaR x (hf.2 x hm)) rfl rfl rfl ?_;refine JuE (Qy x) rfl (fun hb=>JuJ (JuC ?_)) (fun hb=>?_)
  ·show [dB false]=_;simp[Qv,Yo hx hb]
  ·refine JuK (vs:=[.i ((i+1:Nat):Int)]) ?_ ⟨h',rfl,Q1 hx hp hb⟩;show [V.i (i64.wrap ((i:Int)+1))]=_;rw[wS h' (by omega)]
 ·refine JuJ (JuC ?_);rw[tA1 h'] at hp;show [dB true]=_;simp only[Qv,h,hp];simp
theorem JcN (f:Frm) (hl:Lim 1000000000 f.c) (hn:f.c.length≤2000000):Ev L f_k14 f.cells [.s (dL (Jm f.c))]:=by
 refine JuM (vs:=[.l (dL f.c),.l (dL f.d),.i f.k]) L_k14 rfl ?_;refine Jut f.c.length (fun i=>[.l (dL (Jm (f.c.take i))),.i (Za (f.c.take i)),.i i]) (fun _=>True) rfl rfl trivial fun i hi _=>?_;refine JuF i (dL1 f.c) rfl (fun h=>?_) (fun h=>?_)
 ·obtain⟨x,hx,hm⟩:=sA1 h;have hd:=mA1 (f:=dI) hx;have hxl:=hl x hm;have hs:=JiV (f.c.take i) x;have hps:=JmP (f.c.take i) x;rw[←tS1 hx] at hs hps;have hlen:(Jm (f.c.take i)).length≤i:=by rw[U1];simp;omega
  have hin:=Jhf (f.c.take i);have fin :∀(s:Int) (l:List V),s=Za (f.c.take (i+1))→[V.l (dL (Jm (f.c.take i))++[dI (i64.wrap (s*x))]),V.i s,V.i (i64.wrap ((i:Int)+1))]=[V.l (dL (Jm (f.c.take (i+1)))),.i (Za (f.c.take (i+1))),.i ((i+1:Nat):Int)]:=by
   intro s _ e;subst e;rw[wS h (by omega),hps,w64,XP]
   ·rcases Jhf (f.c.take (i+1)) with e | e | e <;> rw[e] <;> omega
   ·rcases Jhf (f.c.take (i+1)) with e | e | e <;> rw[e] <;> omega
  generalize hS:Za (f.c.take i)=S at *;refine JuB (S=0) rfl (fun h0=>?_) (fun h0=>?_)
  ·subst h0;simp only[if_true] at hs;refine Jud i hd rfl rfl rfl rfl ?_;refine JuB (0<x) rfl (fun h1=>?_) (fun h1=>?_)
   ·refine Jud i hd rfl rfl rfl rfl ?_;refine Jug (dL (Jm (f.c.take i))) 2000000 (by rw[dL1];omega) (by omega) rfl ?_;rw[if_pos h1] at hs;exact JuK (fin 1 [] hs.symm) ⟨h,rfl,trivial⟩
   ·refine JuB ((0:Int)=0) rfl (fun _=>?_) (fun h=>absurd rfl h);refine Jud i hd rfl rfl rfl rfl ?_;refine JuB (x<0) rfl (fun h2=>?_) (fun h2=>?_)
    ·refine Jud i hd rfl rfl rfl rfl ?_;refine Jug (dL (Jm (f.c.take i))) 2000000 (by rw[dL1];omega) (by omega) rfl ?_;rw[if_neg h1,if_pos h2] at hs;exact JuK (fin (-1) [] hs.symm) ⟨h,rfl,trivial⟩
    ·refine Jud i hd rfl rfl rfl rfl ?_;refine Jug (dL (Jm (f.c.take i))) 2000000 (by rw[dL1];omega) (by omega) rfl ?_;rw[if_neg h1,if_neg h2] at hs;exact JuK (fin 0 [] hs.symm) ⟨h,rfl,trivial⟩
  ·rw[if_neg h0] at hs;refine JuB (S=0) rfl (fun h=>absurd h h0) (fun _=>?_);refine Jud i hd rfl rfl rfl rfl ?_;refine Jug (dL (Jm (f.c.take i))) 2000000 (by rw[dL1];omega) (by omega) rfl ?_;exact JuK (fin S [] hs.symm) ⟨h,rfl,trivial⟩
 ·refine JuJ (JuC ?_);show [D.s (dL (Jm (f.c.take i)))]=_;rw[tA1 h]
def JrB (cmp : E) (sh : Sh) : R :=
  .ite (.not (.cmp .eq (.len (.v 0)) (.len (.v 1))))
   (
    .done [(.vb .ff)])
   (
    .loop 2 [(.z 0)] <|
      .ite (.cmp .lt (.v 2) (.len (.v 0)))
       (
        .i (.idx (.v 0) (.v 2) sh 3) <|
        .i (.idx (.v 1) (.v 2) sh 4) <|
        .ite (.not cmp)
         (
          .esc <|
          .done [(.vb .ff)])
         (
          .next [(.bin .add .i64 (.v 2) (.z 1))]))
       (
        .esc <|
        .done [(.vb .tt)]))
theorem Jgk {α:Type} [DecidableEq α] {f:FuncId} {H:ZN} {s:Sig} {cmp:E} {sh:Sh} (enc:α→D) (vOf:α→V) (a b:List α) (hf:L.lookup f=some ⟨s,.r H (JrB cmp sh)⟩) (hs:U8 s=[.s,.s])
  (hb :∀x,KI sh (enc x)=some [vOf x]) (hc :∀(v0 v1 v2:V) (x y:α),bol (Jn [v0,v1,v2,vOf x,vOf y]) cmp=decide (x=y)) (hl:a.length≤2000000) :
  Ev L f [.s (a.map enc),.s (b.map enc)] [dB (decide (a=b))]:=by
 refine JuM (vs:=[.l (a.map enc),.l (b.map enc)]) hf (by rw[hs];rfl) ?_;refine JuB (¬a.length=b.length) ?_ (fun h=>JuC ?_) (fun h=>?_)
 ·show (!(decide (((a.map enc).length:Int)=((b.map enc).length:Int))))=_;rw[Ju0,Ju0]
  by_cases h:a.length=b.length
  ·simp[h]
  ·simp[h,show ¬(a.length:Int)=b.length by omega]
 ·show [dB false]=_;rw[decide_eq_false];intro e;exact h (by rw[e])
 have h:a.length=b.length:=Classical.not_not.1 h;refine Jut a.length (fun i=>[.i i]) (fun i=>a.take i=b.take i) rfl rfl rfl fun i hi hp=>?_;refine JuF i (Ju0 (f:=enc) (as:=a)) rfl (fun h'=>?_) (fun h'=>?_)
 ·obtain⟨x,hx,_⟩:=sA1 h';obtain⟨y,hy,_⟩:=sA1 (show i<b.length by omega);refine Jud i (mA1 (f:=enc) hx) rfl rfl rfl (hb x) ?_;refine Jud i (mA1 (f:=enc) hy) rfl rfl rfl (hb y) ?_;refine JuE (decide (x=y)) ?_ (fun hxy=>JuJ (JuC ?_)) (fun hxy=>?_)
  ·show (!(bol (Jn [V.l (a.map enc),.l (b.map enc),.i i,vOf x,vOf y]) cmp))=_;rw[hc]
  ·show [dB false]=_;rw[decide_eq_false];intro e;subst e;rw[hx] at hy;simp only[JuQ] at hy;simp[hy] at hxy
  ·have hxy:x=y:=by simpa using hxy
   subst hxy;refine JuK (vs:=[.i ((i+1:Nat):Int)]) ?_ ⟨h',rfl,by show a.take (i+1)=b.take (i+1);rw[tS1 hx,tS1 hy,hp]⟩;show [V.i (i64.wrap ((i:Int)+1))]=_;rw[wS h' (by omega)]
 ·refine JuJ (JuC ?_);rw[tA1 h',tA1 (by omega)] at hp;subst hp;show [dB true]=_;simp
theorem JbE (a b:List Int) (hl:a.length≤2000000):Ev L f_k15 [.s (dL a),.s (dL b)] [dB (decide (a=b))] :=
 Jgk dI .i a b L_k15 rfl (fun _=>rfl) (fun _ _ _ _ _=>rfl) hl
theorem JfE (l:List (List Int)) (p:List Int) (hl:l.length≤2000000) (hq :∀q∈l,q.length≤2000000):Ev L f_k16 [.s (dLL l),.s (dL p)] [dI (KW l p)]:=by
 refine JuM (vs:=[.l (dLL l),.l (dL p)]) L_k16 rfl ?_;refine Jut l.length (fun i=>[.i i]) (fun i=>(l.take i).any (fun q=>decide (q=p))=false) rfl rfl (by simp) fun i hi hn=>?_;refine JuF i (UD l) rfl (fun h=>?_) (fun h=>?_)
 ·obtain⟨x,hx,hm⟩:=sA1 h;refine Jud i (mA1 (f:=fun x=> .s (dL x)) hx) rfl rfl rfl rfl ?_;refine Juc (JbE x p (hq x hm)) rfl rfl rfl ?_;refine Jup (decide (x=p)) rfl (fun hp=>JuJ (JuC ?_)) (fun hp=>?_)
  ·show [dI i]=_;rw[KW,JdE hx hp hn]
  ·refine JuK (vs:=[.i ((i+1:Nat):Int)]) ?_ ⟨h,rfl,Jeu hx hn hp⟩;show [V.i (i64.wrap ((i:Int)+1))]=_;rw[wS h (by omega)]
 ·refine JuJ (JuC ?_);rw[tA1 h] at hn;show [dI (-1)]=_;rw[KW,JdO hn]
theorem Jpp (p:List Bool):Yh 1 (dBl p)=true:=by cases p <;> rfl
theorem Jdi (p:List Bool) (fs:List Frm) (hp:p.length=3) (hc :∀f∈fs,f.c.length=3) (hl:fs.length≤2000000):Ev L f_k13 [.s (dBl p),.s (dF fs)] [.s (dBl (QT p fs))]:=by
 refine JuM (vs:=[.l (dBl p),.l (dF fs)]) L_k13 rfl ?_;refine Jue (dBl p) 3 (by rw[Jgn];omega) (by omega) rfl ?_;refine Juu (Jpp p) ?_;refine Jue (dBl p) 3 (by rw[Jgn];omega) (by omega) rfl ?_;refine Jut fs.length (fun i=>[.l (dBl (QT p (fs.take i))),.i i]) (fun _=>True) rfl rfl trivial fun i hi _=>?_;refine JuF i (J5 fs) rfl (fun h=>?_) (fun h=>?_)
 ·obtain⟨x,hx,hm⟩:=sA1 h;have hx3:=hc x hm;have hP:(QT p (fs.take i)).length=3:=Ke hp fun f hf=>hc f (Jvf hf);have hS:QT p (fs.take (i+1))=Up (QT p (fs.take i)) x.c:=XA hx;generalize QT p (fs.take i)=P at *;have hO:(Up P x.c).length=3:=by rw[JaU];omega
  refine Jut 3 (fun v=>[.l (dBl ((Up P x.c).take v++P.drop v)),.i v]) (fun _=>True) rfl rfl trivial fun v hv _=>?_;refine Juf v 3 rfl (fun hv3=>?_) (fun hv3=>?_)
  ·obtain⟨n,hn,_⟩:=sA1 (show v<x.c.length by omega);obtain⟨b,hb,_⟩:=sA1 (show v<P.length by omega);have ho:(Up P x.c)[v]? = some (b||decide (n≠0)):=by simp[Up,List.getElem?_zipWith,hn,hb]
   refine Jud i (mA1 (f:=Frm.g) hx) rfl rfl rfl rfl ?_;refine Jud v (mA1 (f:=dI) hn) rfl rfl rfl rfl ?_;have hlen:((Up P x.c).take v++P.drop v).length=3:=by simp;omega
   refine JuE (decide (n=0)) rfl (fun h0=>?_) (fun h0=>?_)
   ·obtain⟨b',hb',_⟩:=sA1 (show v<((Up P x.c).take v++P.drop v).length by omega);refine Juq v (mA1 (f:=dB) hb') rfl rfl rfl rfl rfl rfl ?_;have h0:n≠0:=by simpa using h0
    have ho:(Up P x.c)[v]? = some true:=by rw[ho];simp[h0]
    refine JuK (vs:=[.l (dBl ((Up P x.c).take (v+1)++P.drop (v+1))),.i ((v+1:Nat):Int)]) ?_ ⟨hv3,rfl,trivial⟩;show [V.l ((dBl ((Up P x.c).take v++P.drop v)).set (v:Int).toNat (dB true)),V.i (i64.wrap ((v:Int)+1))]=_;rw[wS hv3 (by omega),JkO,Int.toNat_natCast,Jnp (by omega) ho]
   ·have h0:n=0:=by simpa using h0
    refine JuK (vs:=[.l (dBl ((Up P x.c).take (v+1)++P.drop (v+1))),.i ((v+1:Nat):Int)]) ?_ ⟨hv3,rfl,trivial⟩;show [V.l (dBl ((Up P x.c).take v++P.drop v)),V.i (i64.wrap ((v:Int)+1))]=_;rw[wS hv3 (by omega),JmW (s:=b) (by rw[ho];simp[h0]) hb]
  ·have:v=3:=by omega
   subst this;rw[JuV (by omega),List.drop_eq_nil_of_le (by omega),List.append_nil];refine JuJ ?_;refine JuK (vs:=[.l (dBl (QT p (fs.take (i+1)))),.i ((i+1:Nat):Int)]) ?_ ⟨h,rfl,trivial⟩;show [V.l (dBl (Up P x.c)),V.i (i64.wrap ((i:Int)+1))]=_;rw[wS h (by omega),hS]
 ·refine JuJ (JuC ?_);show [D.s (dBl (QT p (fs.take i)))]=_;rw[tA1 h]
/- What the reference's catalogue of parts and pins comes to. -/
structure Qr (n:Nat) (s:List (List Int)):Prop where
 len:s.length≤n
 each :∀q∈s,q.length=3∧Lim 10000000 q
theorem Qr.add {n:Nat} {s:List (List Int)} (h:Qr n s) {f:Frm} (hf:Std 10000000 f):Qr (n+1) (Jo s f) :=
 ⟨by have:=Jhk s f;have:=h.len;omega,Jiw h.each ⟨by rw[U1];exact hf.c,JnI hf.lc⟩⟩
theorem Qr.mono {n m:Nat} {s:List (List Int)} (h:Qr n s) (hm:n≤m):Qr m s:=⟨by have:=h.len;omega,h.each⟩
theorem Qr.adds {n:Nat} {s:List (List Int)} (h:Qr n s) {fs:List Frm} (hf :∀f∈fs,Std 10000000 f):Qr (n+fs.length) (fs.foldl Jo s):=by
 induction fs generalizing n s with
 | nil=>exact h
 | cons f fs ih=>exact(ih (h.add (hf f (by simp))) fun g hg=>hf g (by simp[hg])).mono (by simp;omega)
theorem Qr.rows {n:Nat} {s:List (List Int)×List Bool} (h:Qr n s.1) (h3:s.2.length=3) {rs:List Row} (hr :∀r∈rs,YW r):Qr (n+6*rs.length) (rs.foldl QQ s).1∧(rs.foldl QQ s).2.length=3:=by
 induction rs generalizing n s with
 | nil=>exact⟨h,h3⟩
 | cons r rs ih =>
  have hr1:=hr r (by simp);have a:=(h.adds hr1.g).mono (show n+r.guards.length≤n+6 by have:=hr1.gl;omega);have b:(QQ s r).2.length=3:=Ke (Ke h3 fun f hf=>(hr1.a f hf).c) fun f hf=>(hr1.t f hf).c;have:=ih (s:=QQ s r) (n:=n+6) a b fun x hx=>hr x (by simp[hx]);exact⟨this.1.mono (by simp;omega),this.2⟩
theorem Jd1 (as:List (List Jg)):Qr (3+384*as.length) (UT as).1∧(UT as).2.length=3:=by
 have key :∀(n:Nat) (s:List (List Int)×List Bool),Qr n s.1→s.2.length=3→Qr (n+384*as.length) (as.foldl Yp s).1∧(as.foldl Yp s).2.length=3:=by
  induction as with
  | nil=>intro n s h h3;exact⟨h,h3⟩
  | cons a as ih =>
   intro n s h h3;have:=h.rows h3 (rs:=Jv a) Yl;have hl:=Ub a;have:=ih (n+384) (Yp s a) (this.1.mono (by omega)) this.2;exact⟨this.1.mono (by simp;omega),this.2⟩
 refine key 3 _ ⟨by simp[YH],?_⟩ rfl;intro q hq;simp[YH] at hq;rcases hq with rfl | rfl | rfl <;> exact⟨rfl,by intro x hx;simp at hx;omega⟩
theorem rdR {rs:List Row} {i:Nat} {r:Row} (h:rs[i]? = some r):(Qn rs)[i]? = some r.g:=mA1 (f:=Row.g) h
set_option maxHeartbeats 8000000 in
theorem Jfh (as:List (List Jg)) (hf:Yq as) (h4:as.length≤4):Ev L f_k17 [.s (Jc as)] [.s (dLL (UT as).1),.s (dBl (UT as).2)]:=by
 refine JuM (vs:=[.l (Jc as)]) L_k17 rfl ?_;refine Jut 3 (fun v=>[.l (dLL (YH.take v)),.i v]) (fun _=>True) rfl rfl trivial fun v hv _=>?_;refine Juf v 3 rfl (fun hv3=>?_) (fun hv3=>?_)
 ·refine Juc (ZL v (by omega) (by omega)) rfl rfl rfl ?_;have hp:YH[v]? = some (JB (v:Int).toNat).c:=by
   rw[Int.toNat_natCast]
   match v,hv3 with
   | 0,_ | 1,_ | 2,_=>rfl
   | n+3,h=>omega
  refine Jug (dLL (YH.take v)) 3 (by rw[UD];simp;omega) (by omega) rfl ?_;refine JuK (vs:=[.l (dLL (YH.take (v+1))),.i ((v+1:Nat):Int)]) ?_ ⟨hv3,rfl,trivial⟩;show [V.l (dLL (YH.take v)++[.s (dL (JB (v:Int).toNat).c)]),V.i (i64.wrap ((v:Int)+1))]=_;rw[wS hv3 (by omega),JaJ,tS1 hp]
 have hv3:v=3:=by omega
 subst hv3;refine JuJ ?_;refine Juw as.length (fun i vs=>∃ b:List (List Int)×List Bool,vs=[.l (dLL b.1),.l (dBl b.2),.i i]∧b=UT (as.take i)) rfl ⟨(YH,[false,false,false]),rfl,rfl⟩ ?_;rintro i _ hi ⟨⟨b1,b2⟩,rfl,hb⟩;simp only[sC,sN];refine JuF i (JO as) rfl (fun h=>?_) (fun h=>?_)
 ·obtain⟨a,ha,hm⟩:=sA1 h;have hB:UT (as.take (i+1))=Yp (b1,b2) a:=by rw[hb];exact XA ha
  obtain⟨f1,f2⟩:=Jd1 (as.take i);rw[←hb] at f1 f2;have f1:=f1.mono (show 3+384*(as.take i).length≤1600 by simp;omega);have hrl:=Ub a;refine Jud i (mA1 (f:=fun a=> .s (Jk a)) ha) rfl rfl rfl rfl ?_;refine Juc (Je0 a (hf.2 a hm)) rfl rfl rfl ?_;have hrf :∀r∈Jv a,YW r:=Yl;have hAB:Yp (b1,b2) a=(Jv a).foldl QQ (b1,b2):=rfl;generalize Jv a=rs at *;refine Juw rs.length (fun k vs=>∃ c:List (List Int)×List Bool,vs=[.l (dLL c.1),.l (dBl c.2),.i k]∧c=(rs.take k).foldl QQ (b1,b2)) rfl ⟨(b1,b2),rfl,rfl⟩ ?_;rintro k _ hk ⟨⟨c1,c2⟩,rfl,hc⟩;simp only[sC,sN];refine JuF k (X4 rs) rfl (fun h'=>?_) (fun h'=>?_)
  ·obtain⟨r,hr,hmr⟩:=sA1 h';have hfit:=hrf r hmr;have hC:(rs.take (k+1)).foldl QQ (b1,b2)=QQ (c1,c2) r:=by rw[hc];exact XA hr
   obtain⟨g1,g2⟩:=f1.rows f2 (rs:=rs.take k) fun x hx=>hrf x (Jvf hx);rw[←hc] at g1 g2;have g1:=g1.mono (show 1600+6*(rs.take k).length≤2000 by simp;omega);have hRd:=rdR hr;refine Juq k hRd rfl rfl rfl rfl rfl rfl ?_;refine Juc (Jdi c2 r.adds g2 (fun f hf=>(hfit.a f hf).c) (by have:=hfit.al;omega)) rfl rfl rfl ?_;refine Juq k hRd rfl rfl rfl rfl rfl rfl ?_;have e3:(QT c2 r.adds).length=3:=Ke g2 fun f hf=>(hfit.a f hf).c;refine Juc (Jdi (QT c2 r.adds) r.tells e3 (fun f hf=>(hfit.t f hf).c) (by have:=hfit.tl;omega)) rfl rfl rfl ?_;have hR:QQ (c1,c2) r=(r.guards.foldl Jo c1,QT (QT c2 r.adds) r.tells):=rfl;generalize QT (QT c2 r.adds) r.tells=d2 at *;generalize QT c2 r.adds=d1 at *;have hgl:=hfit.gl;refine Juw r.guards.length (fun g vs=>∃ e:List (List Int),vs=[.l (dLL e),.i g]∧e=(r.guards.take g).foldl Jo c1) rfl ⟨c1,rfl,rfl⟩ ?_;rintro g _ hg ⟨e,rfl,he⟩;simp only[sC,sN];refine Juq k hRd rfl rfl rfl rfl rfl rfl ?_;refine JuF g (J5 r.guards) rfl (fun hg'=>?_) (fun hg'=>?_)
   ·obtain⟨f,hfg,hmf⟩:=sA1 hg';have hsf:=hfit.g f hmf;have hE:(r.guards.take (g+1)).foldl Jo c1=Jo e f:=by rw[he];exact XA hfg
    have e1:=(g1.adds (fs:=r.guards.take g) fun x hx=>hfit.g x (Jvf hx)).mono (show 2000+(r.guards.take g).length≤2010 by simp;omega);rw[←he] at e1;have nx :∀(x:List (List Int)),x=Jo e f→[V.l (dLL x),V.i (i64.wrap ((g:Int)+1))]=[.l (dLL (Jo e f)),.i ((g+1:Nat):Int)]:=by
     intro x hx;rw[hx,wS hg' (by omega)]
    refine Juq k hRd rfl rfl rfl rfl rfl rfl ?_;refine Jud g (mA1 (f:=Frm.g) hfg) rfl rfl rfl rfl ?_;refine Juc (JcN f (hsf.lc.mono (by omega)) (by rw[hsf.c];omega)) rfl rfl rfl ?_;have el:=e1.len;have hp3:(Jm f.c).length=3:=by rw[U1];exact hsf.c
    have hAP:Jo e f=if KW e (Jm f.c)<0∧Jm f.c≠[0,0,0] then e++[Jm f.c] else e:=rfl;generalize Jm f.c=pt at *;refine Juc (JfE e pt (by omega) (fun q hq=>by rw[(e1.each q hq).1];omega)) rfl rfl rfl ?_;generalize KW e pt=ha at *;refine JuB (ha<0) rfl (fun h0=>?_) (fun h0=>?_)
    ·refine Juc XX rfl rfl rfl ?_;refine Juc (JbE pt [0,0,0] (by omega)) rfl rfl rfl ?_;refine JuE (decide (pt=[0,0,0])) rfl (fun hz=>?_) (fun hz=>?_)
     ·refine Jug (dLL e) 3000 (by rw[UD];omega) (by omega) rfl ?_;refine JuK (vs:=[.l (dLL (Jo e f)),.i ((g+1:Nat):Int)]) ?_ ⟨hg',Jo e f,rfl,hE.symm⟩;show [V.l (dLL e++[.s (dL pt)]),V.i (i64.wrap ((g:Int)+1))]=_;rw[JaJ];refine nx _ ?_;rw[hAP,if_pos ⟨h0,by simpa using hz⟩]
     ·refine JuK (nx e ?_) ⟨hg',Jo e f,rfl,hE.symm⟩;rw[hAP,if_neg];intro ⟨_,h⟩;exact h (by simpa using hz)
    ·refine JuK (nx e ?_) ⟨hg',Jo e f,rfl,hE.symm⟩;rw[hAP,if_neg];intro ⟨h,_⟩;exact h0 h
   ·refine JuJ ?_;rw[tA1 hg'] at he;refine JuK (vs:=[.l (dLL e),.l (dBl d2),.i ((k+1:Nat):Int)]) ?_ ⟨h',(e,d2),rfl,by rw[hC,hR,he]⟩;show [V.l (dLL e),V.l (dBl d2),V.i (i64.wrap ((k:Int)+1))]=_;rw[wS h' (by omega)]
  ·refine JuJ ?_;rw[tA1 h'] at hc;refine JuK (vs:=[.l (dLL c1),.l (dBl c2),.i ((i+1:Nat):Int)]) ?_ ⟨h,(c1,c2),rfl,by rw[hB,hAB,hc]⟩;show [V.l (dLL c1),V.l (dBl c2),V.i (i64.wrap ((i:Int)+1))]=_;rw[wS h (by omega)]
 ·refine JuJ (JuC ?_);show [D.s (dLL b1),.s (dBl b2)]=_;rw[tA1 h] at hb;rw[←hb]
theorem X7 {as:List (List Jg)} (h:Qv as=true):1≤as.length∧as.length≤4∧∀a∈as,Qy a=true:=by
 simp only[Qv,JuR,Jq,Ju4] at h;exact⟨by omega,by omega,h.2⟩
theorem Xh (as:List (List Jg)):Qr 1600 (Jb as):=by
 unfold Jb;split
 ·rename_i h;exact(Jd1 as).1.mono (by have:=(X7 h).2.1;omega)
 ·exact⟨by simp,by simp⟩
/- What the reference's treaties come to. -/
theorem Y6 (l:List Int) (hl:l.length≤2000000):Ev L f_kg [.s (dL l)] [dB (JS l)] :=
 JuM (vs:=[.l (dL l)]) L_kg rfl (Juc (Xv l 3 10000 hl (by omega) (by omega)) rfl rfl rfl (JuC rfl))
theorem Jbu (b g:List Int) (hb:b.length≤2000000) (hg:g.length≤2000000):Ev L f_kh [.s (dL b),.s (dL g)] [dB (Qw b g)]:=by
 refine JuM (vs:=[.l (dL b),.l (dL g)]) L_kh rfl ?_;refine Juc (Y6 b hb) rfl rfl rfl ?_;refine JuE (JS b) rfl (fun h=>JuC ?_) (fun h=>?_)
 ·show [dB false]=_;simp[Qw,h]
 refine Juc (JQ g.length 1 3) rfl ?_ rfl ?_
 ·show [dI ((dL g).length:Int),dI 1,dI 3]=_;rw[dL1]
 refine JuE (inB g.length 1 3) rfl (fun h2=>JuC ?_) (fun h2=>?_)
 ·show [dB false]=_;simp[Qw,h2]
 refine Jut g.length (fun i=>[.i i]) (fun i=>(g.take i).all (fun x=>inB x 0 50)=true) rfl rfl (by simp) fun i hi hp=>?_;refine JuF i (dL1 g) rfl (fun h'=>?_) (fun h'=>?_)
 ·obtain⟨x,hx,hm⟩:=sA1 h';refine Jud i (mA1 (f:=dI) hx) rfl rfl rfl rfl ?_;refine Juc (JQ x 0 50) rfl rfl rfl ?_;refine JuE (inB x 0 50) rfl (fun hb=>JuJ (JuC ?_)) (fun hb=>?_)
  ·show [dB false]=_;simp only[Qw,Yo (p:=fun x=>inB x 0 50) hx hb,Bool.and_false]
  ·refine JuK (vs:=[.i ((i+1:Nat):Int)]) ?_ ⟨h',rfl,Q1 (p:=fun x=>inB x 0 50) hx hp hb⟩;show [V.i (i64.wrap ((i:Int)+1))]=_;rw[wS h' (by omega)]
 ·refine JuJ (JuC ?_);rw[tA1 h'] at hp;show [dB true]=_;simp only[Qw,h,h2,hp];rfl
def fitLL (ps:List (List Int)):Prop:=ps.length≤2000000∧∀p∈ps,p.length≤2000000
theorem Jec (ps:List (List Int)) (hp:fitLL ps):Ev L f_k1f [.s (dLL ps)] [dB (QS ps)]:=by
 have hl:=hp.1;refine JuM (vs:=[.l (dLL ps)]) L_k1f rfl ?_;refine Jut ps.length (fun i=>[.i i]) (fun i=>(ps.take i).all (fun p=>JJ 3 10000000 p)=true) rfl rfl (by simp) fun i hi hq=>?_;refine JuF i (UD ps) rfl (fun h'=>?_) (fun h'=>?_)
 ·obtain⟨x,hx,hm⟩:=sA1 h';refine Jud i (mA1 (f:=fun x=> .s (dL x)) hx) rfl rfl rfl rfl ?_;refine Juc (Xv x 3 10000000 (hp.2 x hm) (by omega) (by omega)) rfl rfl rfl ?_;refine JuE (JJ 3 10000000 x) rfl (fun hb=>JuJ (JuC ?_)) (fun hb=>?_)
  ·show [dB false]=_;simp only[QS,Yo (p:=fun p=>JJ 3 10000000 p) hx hb]
  ·refine JuK (vs:=[.i ((i+1:Nat):Int)]) ?_ ⟨h',rfl,Q1 (p:=fun p=>JJ 3 10000000 p) hx hq hb⟩;show [V.i (i64.wrap ((i:Int)+1))]=_;rw[wS h' (by omega)]
 ·refine JuJ (JuC ?_);rw[tA1 h'] at hq;show [dB true]=_;simp only[QS,hq]
theorem JcX {a b:List Int} {i:Nat} {x y:Int} (hx:a[i]? = some x) (hy:b[i]? = some y):dot (a.take (i+1)) (b.take (i+1))=dot (a.take i) (b.take i)+x*y:=by
 have h1:=(JuS.1 hx).1;have h2:=(JuS.1 hy).1;rw[tS1 hx,tS1 hy,Joa x y (by simp;omega)]
theorem JiZ {a b:List Int} {i:Nat} {x y:Int} (hx:a[i]? = some x) (hy:b[i]? = some y) (ha:Lim 100000000 a) (hb:Lim 1000000 b) (hi:i<1000) :
  i64.wrap (dot (a.take i) (b.take i)+i64.wrap (x*y))=dot (a.take (i+1)) (b.take (i+1)):=by
 have h1:=Ko (ha.take i) (hb.take i) (by omega) (by omega);have h2:((a.take i).length:Int)≤1000:=by simp;omega
 have h3:=Us (ha x (JuY hx)) (hb y (JuY hy));rw[JcX hx hy,w64 (n:=x*y) (by omega) (by omega),w64 (by omega) (by omega)]
theorem Jkw (p a:List Int) (hp:JJ 3 10000000 p=true) (ha:JJ 3 20000 a=true):Ev L f_k1g [.s (dL p),.s (dL a)] [dI (dot p a)]:=by
 obtain⟨p1,p2⟩:=Jp.1 hp;obtain⟨a1,a2⟩:=Jp.1 ha;have p2:Lim 100000000 p:=Lim.mono (m:=10000000) p2 (by omega);have a2:Lim 1000000 a:=Lim.mono (m:=20000) a2 (by omega);refine JuM (vs:=[.l (dL p),.l (dL a)]) L_k1g rfl ?_;refine Jut 3 (fun i=>[.i (dot (p.take i) (a.take i)),.i i]) (fun _=>True) rfl rfl trivial fun i hi _=>?_;refine Juf i 3 rfl (fun h=>?_) (fun h=>?_)
 ·obtain⟨x,hx,_⟩:=sA1 (show i<p.length by omega);obtain⟨y,hy,_⟩:=sA1 (show i<a.length by omega);refine Jud i (mA1 (f:=dI) hx) rfl rfl rfl rfl ?_;refine Jud i (mA1 (f:=dI) hy) rfl rfl rfl rfl ?_;refine JuK (vs:=[.i (dot (p.take (i+1)) (a.take (i+1))),.i ((i+1:Nat):Int)]) ?_ ⟨h,rfl,trivial⟩;show [V.i (i64.wrap (dot (p.take i) (a.take i)+i64.wrap (x*y))),V.i (i64.wrap ((i:Int)+1))]=_;rw[wS h (by omega),JiZ hx hy p2 a2 (by omega)]
 ·refine JuJ (JuC ?_);show [dI (dot (p.take i) (a.take i))]=_;rw[JuV (by omega),JuV (by omega)]
theorem JaD {l:List Int} {i:Nat} (h:i<l.length):l[i]? = some (l.getD i 0):=by simp[JuU,h]
theorem ZD (b g:List Int) (ps:List (List Int)) (s:Int) (a:List Int) (hb:b.length≤2000000) (hg:g.length≤2000000) (hp:fitLL ps) (ha:a.length≤2000000) :
  Ev L f_k1h [.s (dL b),.s (dL g),.s (dLL ps),dI s,.s (dL a)] [dB (keeps b g ps s a)]:=by
 have hpl:=hp.1;refine JuM (vs:=[.l (dL b),.l (dL g),.l (dLL ps),.i s,.l (dL a)]) L_k1h rfl ?_;refine Juc (Jbu b g hb hg) rfl rfl rfl ?_;refine JuE (Qw b g) rfl (fun h=>JuC ?_) (fun h=>?_)
 ·show [dB false]=_;simp[keeps,h]
 refine Juc (Jec ps hp) rfl rfl rfl ?_;refine JuE (QS ps) rfl (fun h2=>JuC ?_) (fun h2=>?_)
 ·show [dB false]=_;simp[keeps,h2]
 refine Juc (JQ s 0 (g.length-1)) rfl ?_ rfl ?_
 ·show [dI s,dI 0,dI (i64.wrap (((dL g).length:Int)-1))]=_;rw[dL1,w64 (by omega) (by omega)]
 refine JuE (inB s 0 (g.length-1)) rfl (fun h3=>JuC ?_) (fun h3=>?_)
 ·show [dB false]=_;simp[keeps,h3]
 refine Juc (Xv a 3 20000 ha (by omega) (by omega)) rfl rfl rfl ?_;refine JuE (JJ 3 20000 a) rfl (fun h4=>JuC ?_) (fun h4=>?_)
 ·show [dB false]=_;simp[keeps,Qz,h4]
 have hs:=Jq.1 h3;have hsg:s.toNat<g.length:=by omega
 have hgs:=JaD hsg;have hgm:=XN (p:=fun x=>0≤x∧x≤50) (l:=g) (by
  intro x hx;simp only[Qw,JuR,Ju4] at h;exact Jq.1 (h.2 x hx)) hsg
 have hdS:(dL g)[s.toNat]? = some (dI (g.getD s.toNat 0)):=mA1 (f:=dI) hgs;simp only[keeps,Qz,h,h2,h3,h4,Jvb];generalize g.getD s.toNat 0=G at *;refine Jut ps.length (fun i=>[.i i]) (fun i=>(ps.take i).all (Kj G a)=true) rfl rfl (by simp) fun i hi hq=>?_;refine JuF i (UD ps) rfl (fun h'=>?_) (fun h'=>?_)
 ·obtain⟨x,hx,hm⟩:=sA1 h';have hxo:JJ 3 10000000 x=true:=Ju4.1 h2 x hm;refine Jud i (mA1 (f:=fun x=> .s (dL x)) hx) rfl rfl rfl rfl ?_;refine Juc (Jkw x a hxo h4) rfl rfl rfl ?_;refine Jui (ds:=dL g) s rfl rfl rfl hs.1 hdS rfl ?_;refine Jui (ds:=dL g) s rfl rfl rfl hs.1 hdS rfl ?_;refine Juc (JQ (dot x a) (0-G) G) rfl ?_ rfl ?_
  ·show [dI (dot x a),dI (i64.wrap (0-G)),dI G]=_;rw[w64 (by omega) (by omega)]
  refine JuE (inB (dot x a) (0-G) G) rfl (fun hb=>JuJ (JuC ?_)) (fun hb=>?_)
  ·show [dB false]=_;rw[Yo (p:=Kj G a) hx hb]
  ·refine JuK (vs:=[.i ((i+1:Nat):Int)]) ?_ ⟨h',rfl,Q1 (p:=Kj G a) hx hq hb⟩;show [V.i (i64.wrap ((i:Int)+1))]=_;rw[wS h' (by omega)]
 ·refine JuJ (JuC ?_);rw[tA1 h'] at hq;show [dB true]=_;rw[hq]
/- What the program's treaties come to. -/
theorem Ye (n a b:Int):Ev L f_k37 [dI n,dI a,dI b] [dB (inB n a b)]:=by
 refine JuM (vs:=[.i n,.i a,.i b]) L_k37 rfl ?_;refine JuB (a≤n) rfl (fun h=>JuC ?_) (fun h=>JuC ?_)
 ·show [dB (decide (n≤b))]=_;simp[inB,h]
 ·show [dB false]=_;simp[inB,h]
theorem Jfl (p:Int→Bool) (l:List Int) {fn:FuncId} {caps:List D} (hlen:l.length≤2000000) (hcap:XF (.f fn caps) = .f fn caps) (har:arT L fn=some ([none]++caps.map fun _=>none))
  (hc :∀x∈l,Ev L fn ([dI x]++caps.map D.norm) [dB (p x)]):Ev L f_k3b [.s (dL l),.f fn caps] [dI (Z4 p l)] :=
 Y5 (sh:= .one (.i .i64)) (as:=[(.vi .i64 (.v 3))]) (ar:=[none]) (k:=4) dI p (fun x=>[dI x]) (fun x=>[.i x]) l L_k3b rfl hlen hcap (fun _ _=>rfl) (fun _ _=>rfl) (fun _ _ _ _=>rfl) har hc
theorem VO (p:Int→Bool) (l:List Int) {fn:FuncId} {caps:List D} (hlen:l.length≤2000000) (hcap:XF (.f fn caps) = .f fn caps) (har:arT L fn=some ([none]++caps.map fun _=>none))
  (hc :∀x∈l,Ev L fn ([dI x]++caps.map D.norm) [dB (p x)]):Ev L f_k3c [.s (dL l),.f fn caps] [dB (l.any p)] :=
 YA (g:=f_k3b) L_k3c rfl hcap (Jfl p l hlen hcap har hc)
theorem Jen (p:List Int→Bool) (l:List (List Int)) {fn:FuncId} {caps:List D} (hlen:l.length≤2000000) (hcap:XF (.f fn caps) = .f fn caps) (har:arT L fn=some ([none]++caps.map fun _=>none))
  (hc :∀x∈l,Ev L fn ([.s (dL x)]++caps.map D.norm) [dB (p x)]):Ev L f_k4b [.s (dLL l),.f fn caps] [dI (Z4 p l)] :=
 Y5 (sh:= .one .s) (as:=[(.s (.v 3))]) (ar:=[none]) (k:=4) (fun x=> .s (dL x)) p (fun x=>[.s (dL x)]) (fun x=>[.l (dL x)]) l L_k4b rfl hlen hcap (fun _ _=>rfl) (fun _ _=>rfl) (fun _ _ _ _=>rfl) har hc
theorem JcS (p:List Int→Bool) (l:List (List Int)) {fn:FuncId} {caps:List D} (hlen:l.length≤2000000) (hcap:XF (.f fn caps) = .f fn caps) (har:arT L fn=some ([none]++caps.map fun _=>none))
  (hc :∀x∈l,Ev L fn ([.s (dL x)]++caps.map D.norm) [dB (p x)]):Ev L f_k4y [.s (dLL l),.f fn caps] [dB (l.any p)] :=
 YA (g:=f_k4b) L_k4y rfl hcap (Jen p l hlen hcap har hc)
theorem UF {α:Type} (p:α→Bool) (l:List α):(!(l.any fun x=>!p x))=l.all p:=by
 induction l with
 | nil=>rfl
 | cons x l ih=>simp[ih]
theorem Jih (x m:Int) (h0:0≤m) (hm:m≤10000000000000):Ev L f_k3a [dI x,.q [dI m]] [dB (!inB x (0-m) m)]:=by
 refine JuM (vs:=[.i x,.d (.q [dI m])]) L_k3a rfl ?_;refine Jux (vs:=[.i m]) rfl rfl ?_;refine Jux (vs:=[.i m]) rfl rfl ?_;refine Juc (Ye x (0-m) m) rfl ?_ rfl (JuC rfl);show [dI x,dI (i64.wrap (0-m)),dI m]=_;rw[w64 (by omega) (by omega)]
theorem XG (l:List Int) (n m:Int) (hl:l.length≤2000000) (h0:0≤m) (hm:m≤10000000000000):Ev L f_k3d [.s (dL l),dI n,dI m] [dB (JJ n m l)]:=by
 refine JuM (vs:=[.l (dL l),.i n,.i m]) L_k3d rfl ?_;refine JuB ((l.length:Int)=n) ?_ (fun h=>?_) (fun h=>JuC ?_)
 ·show decide (((dL l).length:Int)=n)=_;rw[dL1]
 ·refine Juc (VO (fun x=>!inB x (0-m) m) l (fn:=f_k3a) (caps:=[.q [dI m]]) hl rfl rfl fun x _=>Jih x m h0 hm) rfl rfl rfl (JuC ?_);show [dB (!(l.any fun x=>!inB x (0-m) m))]=_;rw[UF];simp[JJ,h]
 ·show [dB false]=_;simp[JJ,h]
theorem Jdm (l:List Int) (hl:l.length≤2000000):Ev L f_k3n [.s (dL l)] [dB (JS l)] :=
 JuM (vs:=[.l (dL l)]) L_k3n rfl (Juc (XG l 3 10000 hl (by omega) (by omega)) rfl rfl rfl (JuC rfl))
theorem JjP (x:Int):Ev L f_k3m [dI x] [dB (!inB x 0 50)] :=
 JuM (vs:=[.i x]) L_k3m rfl (Juc (Ye x 0 50) rfl rfl rfl (JuC rfl))
theorem Jh7 (b g:List Int) (hb:b.length≤2000000) (hg:g.length≤2000000):Ev L f_k3o [.s (dL b),.s (dL g)] [dB (Qw b g)]:=by
 refine JuM (vs:=[.l (dL b),.l (dL g)]) L_k3o rfl ?_;refine Juc (Jdm b hb) rfl rfl rfl ?_;refine Jup (JS b) rfl (fun h=>?_) (fun h=>JuC ?_)
 ·refine Juc (Ye g.length 1 3) rfl ?_ rfl ?_
  ·show [dI ((dL g).length:Int),dI 1,dI 3]=_;rw[dL1]
  refine Jup (inB g.length 1 3) rfl (fun h2=>?_) (fun h2=>JuC ?_)
  ·refine Juc (VO (fun x=>!inB x 0 50) g (fn:=f_k3m) (caps:=[]) hg rfl rfl fun x _=>JjP x) rfl rfl rfl (JuC ?_);show [dB (!(g.any fun x=>!inB x 0 50))]=_;rw[UF];simp[Qw,h,h2]
  ·show [dB false]=_;simp[Qw,h2]
 ·show [dB false]=_;simp[Qw,h]
theorem JgH (p:List Int) (hp:p.length≤2000000):Ev L f_k4z [.s (dL p)] [dB (!JJ 3 10000000 p)] :=
 JuM (vs:=[.l (dL p)]) L_k4z rfl (Juc (XG p 3 10000000 hp (by omega) (by omega)) rfl rfl rfl (JuC rfl))
theorem JjF (ps:List (List Int)) (hp:fitLL ps):Ev L f_k50 [.s (dLL ps)] [dB (QS ps)]:=by
 refine JuM (vs:=[.l (dLL ps)]) L_k50 rfl ?_;refine Juc (JcS (fun p=>!JJ 3 10000000 p) ps (fn:=f_k4z) (caps:=[]) hp.1 rfl rfl fun p h=>JgH p (hp.2 p h)) rfl rfl rfl (JuC ?_);show [dB (!(ps.any fun p=>!JJ 3 10000000 p))]=_;rw[UF];rfl
theorem Jdv (a:List Int) (ha:a.length≤2000000):Ev L f_k51 [.s (dL a)] [dB (Qz a)] :=
 JuM (vs:=[.l (dL a)]) L_k51 rfl (Juc (XG a 3 20000 ha (by omega) (by omega)) rfl rfl rfl (JuC rfl))
def QJ (b g:List Int) (ps:List (List Int)) (s:Int) (a:List Int):Bool:=Qw b g&&QS ps&&inB s 0 (g.length-1)&&Qz a
theorem Jcl (b g:List Int) (ps:List (List Int)) (s:Int) (a:List Int) (hb:b.length≤2000000) (hg:g.length≤2000000) (hp:fitLL ps) (ha:a.length≤2000000) :
  Ev L f_k52 [.s (dL b),.s (dL g),.s (dLL ps),dI s,.s (dL a)] [dB (QJ b g ps s a)]:=by
 refine JuM (vs:=[.l (dL b),.l (dL g),.l (dLL ps),.i s,.l (dL a)]) L_k52 rfl ?_;refine Juc (Jh7 b g hb hg) rfl rfl rfl ?_;refine Jup (Qw b g) rfl (fun h=>?_) (fun h=>JuC ?_)
 ·refine Juc (JjF ps hp) rfl rfl rfl ?_;refine Jup (QS ps) rfl (fun h2=>?_) (fun h2=>JuC ?_)
  ·refine Juc (Ye s 0 (g.length-1)) rfl ?_ rfl ?_
   ·show [dI s,dI 0,dI (i64.wrap (((dL g).length:Int)-1))]=_;rw[dL1,w64 (by omega) (by omega)]
   refine Jup (inB s 0 (g.length-1)) rfl (fun h3=>?_) (fun h3=>JuC ?_)
   ·refine Juc (Jdv a ha) rfl rfl rfl (JuC ?_);show [dB (Qz a)]=_;simp[QJ,h,h2,h3]
   ·show [dB false]=_;simp[QJ,h3]
  ·show [dB false]=_;simp[QJ,h2]
 ·show [dB false]=_;simp[QJ,h]
theorem Jqm (p a:List Int) (hp:Lim 100000000 p) (ha:Lim 1000000 a) (hl:p.length=a.length) (h9:p.length≤999):Ev L f_k53 [.s (dL p),.s (dL a)] [dI (dot p a)]:=by
 refine JuM (vs:=[.l (dL p),.l (dL a)]) L_k53 rfl ?_;refine Jut p.length (fun i=>[.i (dot (p.take i) (a.take i)),.i i]) (fun _=>True) rfl rfl trivial fun i hi _=>?_;refine JuF i (dL1 p) rfl (fun h=>?_) (fun h=>?_)
 ·obtain⟨x,hx,_⟩:=sA1 (show i<p.length by omega);obtain⟨y,hy,_⟩:=sA1 (show i<a.length by omega);refine Jud i (mA1 (f:=dI) hx) rfl rfl rfl rfl ?_;refine Jud i (mA1 (f:=dI) hy) rfl rfl rfl rfl ?_;refine JuK (vs:=[.i (dot (p.take (i+1)) (a.take (i+1))),.i ((i+1:Nat):Int)]) ?_ ⟨h,rfl,trivial⟩;show [V.i (i64.wrap (dot (p.take i) (a.take i)+i64.wrap (x*y))),V.i (i64.wrap ((i:Int)+1))]=_;rw[wS h (by omega),JiZ hx hy hp ha (by omega)]
 ·refine JuJ (JuC ?_);show [dI (dot (p.take i) (a.take i))]=_;rw[tA1 h,tA1 (by omega)]
theorem JeB (p a:List Int) (G:Int) (hp:JJ 3 10000000 p=true) (ha:Qz a=true) (h0:0≤G) (h5:G≤50):Ev L f_k54 [.s (dL p),.q [.s (dL a)],.q [dI G]] [dB (!Kj G a p)]:=by
 obtain⟨p1,p2⟩:=Jp.1 hp;obtain⟨a1,a2⟩:=Jp.1 ha;refine JuM (vs:=[.l (dL p),.d (.q [.s (dL a)]),.d (.q [dI G])]) L_k54 rfl ?_;refine Jux (vs:=[.l (dL a)]) rfl rfl ?_;refine Juc (Jqm p a (Lim.mono (m:=10000000) p2 (by omega)) (Lim.mono (m:=20000) a2 (by omega)) (by omega) (by omega)) rfl rfl rfl ?_;refine Jux (vs:=[.i G]) rfl rfl ?_;refine Jux (vs:=[.i G]) rfl rfl ?_;refine Juc (Ye (dot p a) (0-G) G) rfl ?_ rfl (JuC rfl);show [dI (dot p a),dI (i64.wrap (0-G)),dI G]=_;rw[w64 (by omega) (by omega)]
theorem Jho {b g:List Int} {ps:List (List Int)} {s:Int} {a:List Int} (h:QJ b g ps s a=true) :
  Qw b g=true∧QS ps=true∧0≤s∧s<g.length∧Qz a=true∧g[s.toNat]? = some (g.getD s.toNat 0)∧0≤g.getD s.toNat 0∧g.getD s.toNat 0≤50:=by
 simp only[QJ,JuR,Jq] at h;obtain⟨⟨⟨h1,h2⟩,h3⟩,h4⟩:=h;have hsg:s.toNat<g.length:=by omega
 have hgm:=XN (p:=fun x=>0≤x∧x≤50) (l:=g) (by
  intro x hx;simp only[Qw,JuR,Ju4] at h1;exact Jq.1 (h1.2 x hx)) hsg
 exact⟨h1,h2,h3.1,by omega,h4,JaD hsg,hgm⟩
theorem Jj5 (b g:List Int) (ps:List (List Int)) (s:Int) (a:List Int):keeps b g ps s a=(QJ b g ps s a&&ps.all (Kj (g.getD s.toNat 0) a)):=rfl
theorem JiQ (b g:List Int) (ps:List (List Int)) (s:Int) (a:List Int) (hb:b.length≤2000000) (hg:g.length≤2000000) (hp:fitLL ps) (ha:a.length≤2000000) :
  Ev L f_k55 [.s (dL b),.s (dL g),.s (dLL ps),dI s,.s (dL a)] [dB (keeps b g ps s a)]:=by
 refine JuM (vs:=[.l (dL b),.l (dL g),.l (dLL ps),.i s,.l (dL a)]) L_k55 rfl ?_;refine Juc (Jcl b g ps s a hb hg hp ha) rfl rfl rfl ?_;rw[Jj5];refine JuE (QJ b g ps s a) rfl (fun h=>JuC ?_) (fun h=>?_)
 ·show [dB false]=_;rw[h];rfl
 obtain⟨h1,h2,s0,s1,h4,hd,g0,g5⟩:=Jho h;generalize g.getD s.toNat 0=G at *;refine Jui (ds:=dL g) s rfl rfl rfl s0 (mA1 (f:=dI) hd) rfl ?_;refine Juc (JcS (fun p=>!Kj G a p) ps (fn:=f_k54) (caps:=[.q [.s (dL a)],.q [dI G]]) hp.1 rfl rfl fun p hm=>JeB p a G (Ju4.1 h2 p hm) h4 g0 g5) rfl rfl rfl (JuC ?_);show [dB (!(ps.any fun p=>!Kj G a p))]=_;rw[UF,h];rfl
/- All sites keep to a treaty just if each does: over residual programs. -/
theorem Qr.fitLL {n:Nat} {ps:List (List Int)} (h:Qr n ps) (hn:n≤2000000):fitLL ps:=⟨by have:=h.len;omega,fun p hp=>by rw[(h.each p hp).1];omega⟩
end Go.Proofs.YtofcmnglieaoeabGreatDoor

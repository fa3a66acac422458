import Derived.Test.YtofcmnglieaoeabGreatDoorPG
import Derived.Test.YtofcmnglieaoeabGreatDoorTd
set_option linter.unusedVariables false
set_option linter.unusedSimpArgs false
/- What the reference's ways through an act come to. -/
namespace Go.Proofs.YtofcmnglieaoeabGreatDoor
open Go Go.Tm
open Go.IntKind (i64)
theorem Ji0 {l:List Frm} {i:Nat} (h:i<l.length):l.getD i Frm.none∈l∧l[i]? = some (l.getD i Frm.none):=by
 rw[JuG,JuO h];exact⟨List.getElem_mem h,rfl⟩
def ZN (p:List Frm):List Frm:=[JW (p.getD 0 Frm.none) (JA 0) (-1),JW (p.getD 1 Frm.none) (JA 1) (-1),JW (p.getD 2 Frm.none) (JA 2) (-1)]
theorem Jn7 {p g t:List Frm} {M:Int} (hp:p.length=3) (sp :∀f∈p,Std M f) (hg:g.length≤2000000) (sg :∀f∈g,Std M f) (ht:t.length≤2000000) (st :∀f∈t,Std M f) (h0:1≤M) (hM:M≤1000000000) :
  Ev L f_k10 [.s (dF p),.s (dF g),.s (dF t)] (Y0 p g t).cells:=by
 refine JuA (vs:=[.l (dF p),.l (dF g),.l (dF t)]) L_k10 rfl ?_;refine Jt2 (args:=[.s (dF g)]) rfl rfl (YA hg sg (by omega) hM) rfl ?_;refine Jt2 (args:=[.s (dF t)]) rfl rfl (YA ht st (by omega) hM) rfl ?_;refine Jt6 (fun m vs=>∃ i:Nat,i≤3∧m=3-i∧vs=[.l (dF ((ZN p).take i)),.i i]) rfl 3 ⟨0,by omega,rfl,rfl⟩ ?_;rintro m _ ⟨i,hi,hm,rfl⟩;refine Jt8 ((i:Int)<3) rfl (fun h=>?_) (fun h=>?_)
 ·obtain⟨x,hx,hd⟩:=Jbu (l:=p) (i:=(i:Int)) (by omega) (by omega);have hsx:=sp x (JuK hx);refine Jug (ds:=dF p) i rfl rfl rfl (by omega) hd rfl ?_;refine Jt2 (args:=[dI i]) rfl rfl (ZH i (by omega) (by omega)) rfl ?_;rw[Int.toNat_natCast] at hx;refine Jt2 (args:=x.cells++(JA (i:Int).toNat).cells++[dI (-1)]) rfl rfl (VB hsx (Xd.mono h0) hM (by omega)) rfl ?_;have hn:(ZN p)[i]? = some (JW x (JA (i:Int).toNat) (-1)):=by
   have e:p.getD i Frm.none=x:=by rw[JuG,hx];rfl
   subst e;rw[Int.toNat_natCast]
   match i,h with
   | 0,_=>rfl
   | 1,_=>rfl
   | 2,_=>rfl
   | n+3,h=>omega
  refine JtZ (dF ((ZN p).take i)++[(JW x (JA (i:Int).toNat) (-1)).g]) rfl (by rw[Xk,J3];simp;omega) ?_;refine Jt4 (vs:=[.l (dF ((ZN p).take (i+1))),.i ((i+1:Nat):Int)]) ?_ ⟨m-1,by omega,i+1,by omega,by omega,rfl⟩;show [V.l (dF ((ZN p).take i)++[(JW x (JA (i:Int).toNat) (-1)).g]),V.i (i64.wrap ((i:Int)+1))]=_;rw[Xk,tS1 hn,w64 (by omega) (by omega)];rfl
 ·refine Juk (Jue ?_);have hi3:i=3:=by omega
  subst hi3;rfl
structure QF (act:List Jg):Prop where
 len:act.length≤6
 ok :∀l∈act,l.ok=true
theorem JcH {act:List Jg} (h:Qt act=true):QF act:=by
 simp only[Qt,JuD,decide_eq_true_eq,JuQ] at h;exact⟨by omega,h.1.1⟩
theorem Jhx {l:Jg} (h:l.ok=true) (h4 : ¬l.kind=4):l.f.small=true:=by
 unfold Jg.ok at h;split at h
 ·simp only[JuD] at h;exact h.2
 split at h
 ·simp only[JuD] at h;exact h.2
 split at h
 ·simp only[JuD] at h;exact h.2
 ·simp[h4] at h
theorem Jgo {l:Jg} (h:l.ok=true) (h2:l.kind=2):0≤l.pot∧l.pot≤2:=by
 unfold Jg.ok at h;rw[if_neg (by omega),if_pos h2] at h;simp only[JuD,Jq] at h;exact h.1.1
theorem Jcs {l:Jg} (h:l.ok=true) (h1:l.kind=1):1≤l.skip∧l.skip≤6:=by
 unfold Jg.ok at h;rw[if_pos h1] at h;simp only[JuD,Jq] at h;exact h.1.2
theorem XF {α:Type} {l:List α} {i:Nat} {x:α} (h:l[i]? = some x):l.drop i=x::l.drop (i+1):=by
 obtain⟨h1,h2⟩:=JuE.1 h;rw[List.drop_eq_getElem_cons h1,h2]
theorem KQ {α:Type} {l:List α} {x:α} {p:α→Prop} (h :∀y∈l,p y) (hx:p x) :∀y∈l++[x],p y:=by
 intro y hy;rcases JuI.1 hy with hy | hy
 ·exact h y hy
 ·simp at hy;subst hy;exact hx
theorem Jmp (a b:List Row):Qk a++Qk b=Qk (a++b):=by simp[Qk]
set_option maxHeartbeats 4000000 in
theorem JlU {act:List Jg} (hact:QF act) :∀(n:Nat) (at_:Int) (p g t:List Frm) (j:Nat),0≤at_→at_≤20→act.length-at_.toNat=n→(j:Int)≤at_→j≤6 →
  p.length=3→(∀f∈p,Std (Bd j) f)→g.length≤j→(∀f∈g,Std 10000000 f)→t.length≤j→(∀f∈t,Std 10000000 f) →
  Ev L f_k11 [.s (Jk act),dI at_,.s (dF p),.s (dF g),.s (dF t)] [.s (Qk (walk (act.drop at_.toNat) p g t))]:=by
 intro n
 induction n using Nat.strongRecOn with
 | _ n ih =>
  intro at_ p g t j a0 a20 hn hj hj6 hp sp hg sg ht st;have hal:=hact.len;refine JuA (vs:=[.l (Jk act),.i at_,.l (dF p),.l (dF g),.l (dF t)]) L_k11 rfl ?_;refine Jt6 (fun m vs=>∃ (i:Int) (p' t':List Frm) (j':Nat),vs=[.l (dF p'),.l (dF t'),.i i]∧at_≤i∧i≤20∧m=act.length-i.toNat∧(j':Int)≤i∧j≤j'∧j'≤6∧p'.length=3∧(∀f∈p',Std (Bd j') f)∧t'.length≤j'∧(∀f∈t',Std 10000000 f) ∧
   walk (act.drop i.toNat) p' g t'=walk (act.drop at_.toNat) p g t) rfl (act.length-at_.toNat) ⟨at_,p,t,j,rfl,by omega,a20,rfl,hj,by omega,hj6,hp,sp,ht,st,rfl⟩ ?_
  rintro m _ ⟨i,p',t',j',rfl,ai,i20,hm,hj',hjj,hj6',hp',sp',ht',st',hw⟩;have hB:=JhT hj6';have hB0:=Y6 j';refine Jt8 (i<((Jk act).length:Int)) rfl (fun hi=>?_) (fun hi=>?_)
  ·rw[JM] at hi;obtain⟨l,hl,hd⟩:=Vg (a:=act) (i:=i) (by omega) hi;have hok:=hact.ok l (JuK hl);have hdr:=XF hl;have hs1:(i+1).toNat=i.toNat+1:=by omega
   refine Jug (ds:=Jk act) i rfl rfl rfl (by omega) hd rfl ?_;refine Jt8 (l.kind=4) rfl (fun h4=>?_) (fun h4=>?_)
   ·refine Jt2 (args:=[.s (dF g)]) rfl rfl (YA (by omega) sg (by omega) (by omega)) rfl ?_;refine Juk (Jue ?_);show [D.s [D.g [.s (dF g),.s [],.s [],dB true]]]=_;rw[←hw,hdr,walk,if_pos h4];rfl
   have hsm:=Jhx hok h4;have hin:=Vj hsm hp' sp' hB0;have hin7:Std 10000000 (Js l.f p'):=hin.mono (by omega);refine Jt2 (args:=l.f.cells++[.s (dF p')]) rfl rfl (Jjq hsm hp' sp' hB0 (by omega)) rfl ?_;have hj5:j'<6:=by omega
   refine Jt8 (l.kind=1) rfl (fun h1=>?_) (fun h1=>?_)
   ·have hsk:=Jcs hok h1;have hg':(g++[Js l.f p']).length≤j'+1:=by simp;omega
    have hg2:(g++[QT (Js l.f p')]).length≤j'+1:=by simp;omega
    have hmin:Std 10000000 (QT (Js l.f p')):=(Wr hin).mono (by omega);have spB :∀f∈p',Std (Bd (j'+1)) f:=fun f hf=>(sp' f hf).mono (Kp (by omega));have cp:=YA (by omega:p'.length≤2000000) sp' hB0 (by omega);have cg:=YA (by omega:g.length≤2000000) sg (by omega) (by omega);have ct:=YA (by omega:t'.length≤2000000) st' (by omega) (by omega);refine Jt2 (args:=[.s (dF p')]) rfl rfl cp rfl ?_;refine Jt2 (args:=[.s (dF g)]) rfl rfl cg rfl ?_;refine JtZ (dF g++[(Js l.f p').g]) rfl (by rw[Xk,J3];omega) ?_;refine Jt2 (args:=[.s (dF t')]) rfl rfl ct rfl ?_;have e1:=ih (act.length-(i+1).toNat) (by omega) (i+1) p' (g++[Js l.f p']) t' (j'+1) (by omega) (by omega) rfl (by omega) (by omega) hp' spB hg' (KQ sg hin7) (by omega) st';refine Jt2 (args:=[.s (Jk act),dI (i+1),.s (dF p'),.s (dF (g++[Js l.f p'])),.s (dF t')]) rfl ?_ e1 rfl ?_
    ·show [D.s (Jk act),dI (i64.wrap (i+1)),.s (dF p'),.s (dF g++[(Js l.f p').g]),.s (dF t')]=_;rw[Xk,w64 (by omega) (by omega)]
    refine Jt2 (args:=[.s (dF p')]) rfl rfl cp rfl ?_;refine Jt2 (args:=[.s (dF g)]) rfl rfl cg rfl ?_;refine Jt2 (args:=(Js l.f p').cells) rfl rfl (Jjh hin7 (by omega) (by omega)) rfl ?_;refine JtZ (dF g++[(QT (Js l.f p')).g]) rfl (by rw[Xk,J3];omega) ?_;refine Jt2 (args:=[.s (dF t')]) rfl rfl ct rfl ?_;have e2:=ih (act.length-(i+1+l.skip).toNat) (by omega) (i+1+l.skip) p' (g++[QT (Js l.f p')]) t' (j'+1) (by omega) (by omega) rfl (by omega) (by omega) hp' spB hg2 (KQ sg hmin) (by omega) st';refine Jt2 (args:=[.s (Jk act),dI (i+1+l.skip),.s (dF p'),.s (dF (g++[QT (Js l.f p')])),.s (dF t')]) rfl ?_ e2 rfl ?_
    ·show [D.s (Jk act),dI (i64.wrap (i64.wrap (i+1)+l.skip)),.s (dF p'),.s (dF g++[(QT (Js l.f p')).g]),.s (dF t')]=_;rw[Xk,w64 (n:=i+1) (by omega) (by omega),w64 (by omega) (by omega)]
    have wl :∀(k:Nat) (a b c:List Frm),(walk (act.drop k) a b c).length≤64:=fun k a b c=>by
     refine Nat.le_trans (JiL _ _ _ _) ?_;exact Nat.le_trans (Nat.pow_le_pow_right (by omega) (show (act.drop k).length≤6 by simp;omega)) (by decide)
    have w1:=wl (i+1).toNat p' (g++[Js l.f p']) t';have w2:=wl (i+1+l.skip).toNat p' (g++[QT (Js l.f p')]) t';refine JtZ (Qk (walk (act.drop (i+1+l.skip).toNat) p' (g++[QT (Js l.f p')]) t')) rfl (by rw[X7];omega) ?_;refine Juc (Jl0 _) ?_;refine JtZ (Qk (walk (act.drop (i+1).toNat) p' (g++[Js l.f p']) t')++Qk (walk (act.drop (i+1+l.skip).toNat) p' (g++[QT (Js l.f p')]) t')) rfl (by rw[JuJ,X7,X7];omega) ?_;refine Juk (Jue ?_);show [D.s (Qk (walk (act.drop (i+1).toNat) p' (g++[Js l.f p']) t')++Qk (walk (act.drop (i+1+l.skip).toNat) p' (g++[QT (Js l.f p')]) t'))]=_;rw[Jmp,←hw,hdr,walk,if_neg h4,if_pos h1,List.drop_drop,hs1,show i.toNat+1+l.skip.toNat=(i+1+l.skip).toNat by omega]
   refine Jt8 (l.kind=2) rfl (fun h2=>?_) (fun h2=>?_)
   ·have hpt:=Jgo hok h2;have hlt:l.pot.toNat<p'.length:=by omega
    obtain⟨hm1,hm2⟩:=Ji0 hlt;have hdg:(dF p')[l.pot.toNat]? = some (p'.getD l.pot.toNat Frm.none).g:=mA1 (f:=Frm.g) hm2;refine Jt2 (args:=[.s (dF p')]) rfl rfl (YA (by omega) sp' hB0 (by omega)) rfl ?_;refine Juf (0≤l.pot) rfl hpt.1 ?_;refine Juf (l.pot<((dF p').length:Int)) rfl (by rw[J3];omega) ?_;refine Jug (ds:=dF p') l.pot rfl rfl rfl hpt.1 hdg rfl ?_;refine Jt2 (args:=(p'.getD l.pot.toNat Frm.none).cells++(Js l.f p').cells++[dI 1]) rfl rfl (VB ((sp' _ hm1).mono (by omega)) hin7 (by omega) (by omega)) rfl ?_;refine Juf (0≤l.pot) rfl hpt.1 ?_;refine Juf (l.pot<((dF p').length:Int)) rfl (by rw[J3];omega) ?_;refine Jug (ds:=dF p') l.pot rfl rfl rfl hpt.1 hdg rfl ?_;have hsum:Std (Bd (j'+1)) (JW (p'.getD l.pot.toNat Frm.none) (Js l.f p') 1):=(QV (sp' _ hm1) hin (n:=1) (N:=1) (by omega)).mono (by simp only[Bd];omega);refine Jt4 (vs:=[.l (dF (p'.set l.pot.toNat (JW (p'.getD l.pot.toNat Frm.none) (Js l.f p') 1))),.l (dF t'),.i (i+1)]) ?_
     ⟨act.length-(i+1).toNat,by omega,i+1,p'.set l.pot.toNat (JW (p'.getD l.pot.toNat Frm.none) (Js l.f p') 1),t',j'+1,rfl,by omega,by omega,rfl,by omega,by omega,by omega,by simp[hp'],?_,by omega,st',?_⟩
    ·show [V.l ((dF p').set l.pot.toNat (JW (p'.getD l.pot.toNat Frm.none) (Js l.f p') 1).g),V.l (dF t'),V.i (i64.wrap (i+1))]=_;rw[w64 (by omega) (by omega)];simp[dF,List.map_set]
    ·intro f hf;rcases Ju2 hf with hf | hf
     ·exact(sp' f hf).mono (Kp (by omega))
     ·subst hf;exact hsum
    ·rw[←hw,hdr,hs1];conv=>rhs;rw[walk];rw[if_neg h4,if_neg h1,if_pos h2]
   ·refine Jt2 (args:=[.s (dF t')]) rfl rfl (YA (by omega) st' (by omega) (by omega)) rfl ?_;refine JtZ (dF t'++[(Js l.f p').g]) rfl (by rw[Xk,J3,JuJ,List.length_singleton];omega) ?_;refine Jt4 (vs:=[.l (dF p'),.l (dF (t'++[Js l.f p'])),.i (i+1)]) ?_
     ⟨act.length-(i+1).toNat,by omega,i+1,p',t'++[Js l.f p'],j'+1,rfl,by omega,by omega,rfl,by omega,by omega,by omega,hp',fun f hf=>(sp' f hf).mono (Kp (by omega)),by simp;omega,KQ st' hin7,?_⟩
    ·show [V.l (dF p'),V.l (dF t'++[(Js l.f p').g]),V.i (i64.wrap (i+1))]=_;rw[Xk,w64 (by omega) (by omega)]
    ·rw[←hw,hdr,hs1];conv=>rhs;rw[walk];rw[if_neg h4,if_neg h1,if_neg h2]
  ·rw[JM] at hi;refine Juk ?_;refine Jt2 (args:=[.s (dF p'),.s (dF g),.s (dF t')]) rfl rfl (Jn7 (M:=10000000) hp' (fun f hf=>(sp' f hf).mono (by omega)) (by omega) sg (by omega) st' (by omega) (by omega)) rfl ?_;refine Jue ?_;show [D.s [(Y0 p' g t').g]]=_;rw[←hw,List.drop_eq_nil_of_le (by omega),walk];rfl
theorem JfL (act:List Jg) (hf:KF act):Ev L f_k12 [.s (Jk act)] [.s (Qk (Jv act))]:=by
 refine JuA (vs:=[.l (Jk act)]) L_k12 rfl ?_;refine Jt2 (args:=[.s (Jk act)]) rfl rfl (Jaz act hf) rfl ?_;refine Jt8 (Qt act=false) ?_ (fun h=>Jue ?_) (fun h=>?_)
 ·show (!(Qt act))=_;cases Qt act <;> rfl
 ·show [D.s []]=_;simp[Jv,h,Qk]
 have h:Qt act=true:=by simpa using h
 refine Jt2 (args:=[dI 0]) rfl rfl (ZH 0 (by omega) (by omega)) rfl ?_;refine Jt2 (args:=[dI 1]) rfl rfl (ZH 1 (by omega) (by omega)) rfl ?_;refine Jt2 (args:=[dI 2]) rfl rfl (ZH 2 (by omega) (by omega)) rfl ?_;have e:=JlU (JcH h) act.length 0 [JA 0,JA 1,JA 2] [] [] 0 (by omega) (by omega) (by simp) (by omega) (by omega) rfl (by
  intro f hf';simp at hf';rcases hf' with rfl | rfl | rfl <;> exact Xd) (by simp) (by simp) (by simp) (by simp)
 refine Jt2 (args:=[.s (Jk act),dI 0,.s (dF [JA 0,JA 1,JA 2]),.s (dF []),.s (dF [])]) rfl rfl e rfl ?_;refine Jue ?_;show [D.s (Qk (walk (act.drop (0:Int).toNat) [JA 0,JA 1,JA 2] [] []))]=_;simp[Jv,h]
/- What the reference's parts,pins,and draws of them come to. -/
def Yj (as:List (List Jg)):Prop:=as.length≤2000000∧∀a∈as,KF a
theorem JgU.fit {as:List (List Jg)} (h:JgU as):Yj as:=⟨by have:=h.1;omega,fun a ha=>(h.2 a ha).fit⟩
theorem JoJ (as:List (List Jg)) (hf:Yj as):Ev L f_kf [.s (Jc as)] [dB (Qu as)]:=by
 have hl:=hf.1;refine JuA (vs:=[.l (Jc as)]) L_kf rfl ?_;refine Jur (JP as.length 1 4) rfl ?_ rfl ?_
 ·show [dI ((Jc as).length:Int),dI 1,dI 4]=_;rw[JN]
 refine Jum (inB as.length 1 4) rfl (fun h=>Jue ?_) (fun h=>?_)
 ·show [dB false]=_;simp[Qu,h]
 refine Jt3 as.length (fun i=>[.i i]) (fun i=>(as.take i).all Qt=true) rfl rfl (by simp) fun i hi hp=>?_;refine JtY i (JN as) rfl (fun h'=>?_) (fun h'=>?_)
 ·obtain⟨x,hx,hm⟩:=sA1 h';refine Juo i (mA1 (f:=fun a=> .s (Jk a)) hx) rfl rfl rfl rfl ?_;refine Jur (Jaz x (hf.2 x hm)) rfl rfl rfl ?_;refine Jum (Qt x) rfl (fun hb=>Juk (Jue ?_)) (fun hb=>?_)
  ·show [dB false]=_;simp[Qu,Yl hx hb]
  ·refine Jt4 (vs:=[.i ((i+1:Nat):Int)]) ?_ ⟨h',rfl,QY hx hp hb⟩;show [V.i (i64.wrap ((i:Int)+1))]=_;rw[wS h' (by omega)]
 ·refine Juk (Jue ?_);rw[tA1 h'] at hp;show [dB true]=_;simp only[Qu,h,hp];simp
theorem JcM (f:Frm) (hl:Lim 1000000000 f.c) (hn:f.c.length≤2000000):Ev L f_k14 f.cells [.s (dL (Jm f.c))]:=by
 refine JuA (vs:=[.l (dL f.c),.l (dL f.d),.i f.k]) L_k14 rfl ?_;refine Jt3 f.c.length (fun i=>[.l (dL (Jm (f.c.take i))),.i (Y2 (f.c.take i)),.i i]) (fun _=>True) rfl rfl trivial fun i hi _=>?_;refine JtY i (dL1 f.c) rfl (fun h=>?_) (fun h=>?_)
 ·obtain⟨x,hx,hm⟩:=sA1 h;have hd:=mA1 (f:=dI) hx;have hxl:=hl x hm;have hs:=JiA (f.c.take i) x;have hps:=JlB (f.c.take i) x;rw[←tS1 hx] at hs hps;have hlen:(Jm (f.c.take i)).length≤i:=by rw[Vn];simp;omega
  have hin:=Jga (f.c.take i);have fin :∀(s:Int) (l:List V),s=Y2 (f.c.take (i+1))→[V.l (dL (Jm (f.c.take i))++[dI (i64.wrap (s*x))]),V.i s,V.i (i64.wrap ((i:Int)+1))]=[V.l (dL (Jm (f.c.take (i+1)))),.i (Y2 (f.c.take (i+1))),.i ((i+1:Nat):Int)]:=by
   intro s _ e;subst e;rw[wS h (by omega),hps,w64,XI]
   ·rcases Jga (f.c.take (i+1)) with e | e | e <;> rw[e] <;> omega
   ·rcases Jga (f.c.take (i+1)) with e | e | e <;> rw[e] <;> omega
  generalize hS:Y2 (f.c.take i)=S at *;refine Jt8 (S=0) rfl (fun h0=>?_) (fun h0=>?_)
  ·subst h0;simp only[if_true] at hs;refine Juo i hd rfl rfl rfl rfl ?_;refine Jt8 (0<x) rfl (fun h1=>?_) (fun h1=>?_)
   ·refine Juo i hd rfl rfl rfl rfl ?_;refine Jus (dL (Jm (f.c.take i))) 2000000 (by rw[dL1];omega) (by omega) rfl ?_;rw[if_pos h1] at hs;exact Jt4 (fin 1 [] hs.symm) ⟨h,rfl,trivial⟩
   ·refine Jt8 ((0:Int)=0) rfl (fun _=>?_) (fun h=>absurd rfl h);refine Juo i hd rfl rfl rfl rfl ?_;refine Jt8 (x<0) rfl (fun h2=>?_) (fun h2=>?_)
    ·refine Juo i hd rfl rfl rfl rfl ?_;refine Jus (dL (Jm (f.c.take i))) 2000000 (by rw[dL1];omega) (by omega) rfl ?_;rw[if_neg h1,if_pos h2] at hs;exact Jt4 (fin (-1) [] hs.symm) ⟨h,rfl,trivial⟩
    ·refine Juo i hd rfl rfl rfl rfl ?_;refine Jus (dL (Jm (f.c.take i))) 2000000 (by rw[dL1];omega) (by omega) rfl ?_;rw[if_neg h1,if_neg h2] at hs;exact Jt4 (fin 0 [] hs.symm) ⟨h,rfl,trivial⟩
  ·rw[if_neg h0] at hs;refine Jt8 (S=0) rfl (fun h=>absurd h h0) (fun _=>?_);refine Juo i hd rfl rfl rfl rfl ?_;refine Jus (dL (Jm (f.c.take i))) 2000000 (by rw[dL1];omega) (by omega) rfl ?_;exact Jt4 (fin S [] hs.symm) ⟨h,rfl,trivial⟩
 ·refine Juk (Jue ?_);show [D.s (dL (Jm (f.c.take i)))]=_;rw[tA1 h]
def JrI (cmp : E) (sh : Sh) : R :=
  .ite (.not (.cmp .eq (.len (.v 0)) (.len (.v 1))))
   (
    .done [(.vb .ff)])
   (
    .loop 2 [(.z 0)] <|
      .ite (.cmp .lt (.v 2) (.len (.v 0)))
       (
        .i (.idx (.v 0) (.v 2) sh 3) <|
        .i (.idx (.v 1) (.v 2) sh 4) <|
        .ite (.not cmp)
         (
          .esc <|
          .done [(.vb .ff)])
         (
          .next [(.bin .add .i64 (.v 2) (.z 1))]))
       (
        .esc <|
        .done [(.vb .tt)]))
theorem JfU {α:Type} [DecidableEq α] {f:FuncId} {H:Kg} {s:Sig} {cmp:E} {sh:Sh} (enc:α→D) (vOf:α→V) (a b:List α) (hf:L.lookup f=some ⟨s,.r H (JrI cmp sh)⟩) (hs:Vr s=[.s,.s])
  (hb :∀x,KG sh (enc x)=some [vOf x]) (hc :∀(v0 v1 v2:V) (x y:α),bol (Jn [v0,v1,v2,vOf x,vOf y]) cmp=decide (x=y)) (hl:a.length≤2000000) :
  Ev L f [.s (a.map enc),.s (b.map enc)] [dB (decide (a=b))]:=by
 refine JuA (vs:=[.l (a.map enc),.l (b.map enc)]) hf (by rw[hs];rfl) ?_;refine Jt8 (¬a.length=b.length) ?_ (fun h=>Jue ?_) (fun h=>?_)
 ·show (!(decide (((a.map enc).length:Int)=((b.map enc).length:Int))))=_;rw[JuM,JuM]
  by_cases h:a.length=b.length
  ·simp[h]
  ·simp[h,show ¬(a.length:Int)=b.length by omega]
 ·show [dB false]=_;rw[decide_eq_false];intro e;exact h (by rw[e])
 have h:a.length=b.length:=Classical.not_not.1 h;refine Jt3 a.length (fun i=>[.i i]) (fun i=>a.take i=b.take i) rfl rfl rfl fun i hi hp=>?_;refine JtY i (JuM (f:=enc) (as:=a)) rfl (fun h'=>?_) (fun h'=>?_)
 ·obtain⟨x,hx,_⟩:=sA1 h';obtain⟨y,hy,_⟩:=sA1 (show i<b.length by omega);refine Juo i (mA1 (f:=enc) hx) rfl rfl rfl (hb x) ?_;refine Juo i (mA1 (f:=enc) hy) rfl rfl rfl (hb y) ?_;refine Jum (decide (x=y)) ?_ (fun hxy=>Juk (Jue ?_)) (fun hxy=>?_)
  ·show (!(bol (Jn [V.l (a.map enc),.l (b.map enc),.i i,vOf x,vOf y]) cmp))=_;rw[hc]
  ·show [dB false]=_;rw[decide_eq_false];intro e;subst e;rw[hx] at hy;simp only[JuC] at hy;simp[hy] at hxy
  ·have hxy:x=y:=by simpa using hxy
   subst hxy;refine Jt4 (vs:=[.i ((i+1:Nat):Int)]) ?_ ⟨h',rfl,by show a.take (i+1)=b.take (i+1);rw[tS1 hx,tS1 hy,hp]⟩;show [V.i (i64.wrap ((i:Int)+1))]=_;rw[wS h' (by omega)]
 ·refine Juk (Jue ?_);rw[tA1 h',tA1 (by omega)] at hp;subst hp;show [dB true]=_;simp
theorem Ja4 (a b:List Int) (hl:a.length≤2000000):Ev L f_k15 [.s (dL a),.s (dL b)] [dB (decide (a=b))] :=
 JfU dI .i a b L_k15 rfl (fun _=>rfl) (fun _ _ _ _ _=>rfl) hl
theorem JfD (l:List (List Int)) (p:List Int) (hl:l.length≤2000000) (hq :∀q∈l,q.length≤2000000):Ev L f_k16 [.s (dLL l),.s (dL p)] [dI (KT l p)]:=by
 refine JuA (vs:=[.l (dLL l),.l (dL p)]) L_k16 rfl ?_;refine Jt3 l.length (fun i=>[.i i]) (fun i=>(l.take i).any (fun q=>decide (q=p))=false) rfl rfl (by simp) fun i hi hn=>?_;refine JtY i (Uk l) rfl (fun h=>?_) (fun h=>?_)
 ·obtain⟨x,hx,hm⟩:=sA1 h;refine Juo i (mA1 (f:=fun x=> .s (dL x)) hx) rfl rfl rfl rfl ?_;refine Jur (Ja4 x p (hq x hm)) rfl rfl rfl ?_;refine Jud (decide (x=p)) rfl (fun hp=>Juk (Jue ?_)) (fun hp=>?_)
  ·show [dI i]=_;rw[KT,Jeh hx hp hn]
  ·refine Jt4 (vs:=[.i ((i+1:Nat):Int)]) ?_ ⟨h,rfl,Jd1 hx hn hp⟩;show [V.i (i64.wrap ((i:Int)+1))]=_;rw[wS h (by omega)]
 ·refine Juk (Jue ?_);rw[tA1 h] at hn;show [dI (-1)]=_;rw[KT,JcL hn]
theorem JpL (p:List Bool):Yc 1 (dBl p)=true:=by cases p <;> rfl
theorem JdC (p:List Bool) (fs:List Frm) (hp:p.length=3) (hc :∀f∈fs,f.c.length=3) (hl:fs.length≤2000000):Ev L f_k13 [.s (dBl p),.s (dF fs)] [.s (dBl (QR p fs))]:=by
 refine JuA (vs:=[.l (dBl p),.l (dF fs)]) L_k13 rfl ?_;refine Juj (dBl p) 3 (by rw[JgH];omega) (by omega) rfl ?_;refine Juc (JpL p) ?_;refine Juj (dBl p) 3 (by rw[JgH];omega) (by omega) rfl ?_;refine Jt3 fs.length (fun i=>[.l (dBl (QR p (fs.take i))),.i i]) (fun _=>True) rfl rfl trivial fun i hi _=>?_;refine JtY i (J3 fs) rfl (fun h=>?_) (fun h=>?_)
 ·obtain⟨x,hx,hm⟩:=sA1 h;have hx3:=hc x hm;have hP:(QR p (fs.take i)).length=3:=Kb hp fun f hf=>hc f (Ju1 hf);have hS:QR p (fs.take (i+1))=Ur (QR p (fs.take i)) x.c:=XC hx;generalize QR p (fs.take i)=P at *;have hO:(Ur P x.c).length=3:=by rw[JaJ];omega
  refine Jt3 3 (fun v=>[.l (dBl ((Ur P x.c).take v++P.drop v)),.i v]) (fun _=>True) rfl rfl trivial fun v hv _=>?_;refine JtX v 3 rfl (fun hv3=>?_) (fun hv3=>?_)
  ·obtain⟨n,hn,_⟩:=sA1 (show v<x.c.length by omega);obtain⟨b,hb,_⟩:=sA1 (show v<P.length by omega);have ho:(Ur P x.c)[v]? = some (b||decide (n≠0)):=by simp[Ur,List.getElem?_zipWith,hn,hb]
   refine Juo i (mA1 (f:=Frm.g) hx) rfl rfl rfl rfl ?_;refine Juo v (mA1 (f:=dI) hn) rfl rfl rfl rfl ?_;have hlen:((Ur P x.c).take v++P.drop v).length=3:=by simp;omega
   refine Jum (decide (n=0)) rfl (fun h0=>?_) (fun h0=>?_)
   ·obtain⟨b',hb',_⟩:=sA1 (show v<((Ur P x.c).take v++P.drop v).length by omega);refine Jux v (mA1 (f:=dB) hb') rfl rfl rfl rfl rfl rfl ?_;have h0:n≠0:=by simpa using h0
    have ho:(Ur P x.c)[v]? = some true:=by rw[ho];simp[h0]
    refine Jt4 (vs:=[.l (dBl ((Ur P x.c).take (v+1)++P.drop (v+1))),.i ((v+1:Nat):Int)]) ?_ ⟨hv3,rfl,trivial⟩;show [V.l ((dBl ((Ur P x.c).take v++P.drop v)).set (v:Int).toNat (dB true)),V.i (i64.wrap ((v:Int)+1))]=_;rw[wS hv3 (by omega),Jk6,Int.toNat_natCast,Joc (by omega) ho]
   ·have h0:n=0:=by simpa using h0
    refine Jt4 (vs:=[.l (dBl ((Ur P x.c).take (v+1)++P.drop (v+1))),.i ((v+1:Nat):Int)]) ?_ ⟨hv3,rfl,trivial⟩;show [V.l (dBl ((Ur P x.c).take v++P.drop v)),V.i (i64.wrap ((v:Int)+1))]=_;rw[wS hv3 (by omega),JlI (s:=b) (by rw[ho];simp[h0]) hb]
  ·have:v=3:=by omega
   subst this;rw[JuH (by omega),List.drop_eq_nil_of_le (by omega),List.append_nil];refine Juk ?_;refine Jt4 (vs:=[.l (dBl (QR p (fs.take (i+1)))),.i ((i+1:Nat):Int)]) ?_ ⟨h,rfl,trivial⟩;show [V.l (dBl (Ur P x.c)),V.i (i64.wrap ((i:Int)+1))]=_;rw[wS h (by omega),hS]
 ·refine Juk (Jue ?_);show [D.s (dBl (QR p (fs.take i)))]=_;rw[tA1 h]
/- What the reference's catalogue of parts and pins comes to. -/
structure Qo (n:Nat) (s:List (List Int)):Prop where
 len:s.length≤n
 each :∀q∈s,q.length=3∧Lim 10000000 q
theorem Qo.add {n:Nat} {s:List (List Int)} (h:Qo n s) {f:Frm} (hf:Std 10000000 f):Qo (n+1) (Jo s f) :=
 ⟨by have:=JhG s f;have:=h.len;omega,JhU h.each ⟨by rw[Vn];exact hf.c,Jog hf.lc⟩⟩
theorem Qo.mono {n m:Nat} {s:List (List Int)} (h:Qo n s) (hm:n≤m):Qo m s:=⟨by have:=h.len;omega,h.each⟩
theorem Qo.adds {n:Nat} {s:List (List Int)} (h:Qo n s) {fs:List Frm} (hf :∀f∈fs,Std 10000000 f):Qo (n+fs.length) (fs.foldl Jo s):=by
 induction fs generalizing n s with
 | nil=>exact h
 | cons f fs ih=>exact(ih (h.add (hf f (by simp))) fun g hg=>hf g (by simp[hg])).mono (by simp;omega)
theorem Qo.rows {n:Nat} {s:List (List Int)×List Bool} (h:Qo n s.1) (h3:s.2.length=3) {rs:List Row} (hr :∀r∈rs,YD r):Qo (n+6*rs.length) (rs.foldl QN s).1∧(rs.foldl QN s).2.length=3:=by
 induction rs generalizing n s with
 | nil=>exact⟨h,h3⟩
 | cons r rs ih =>
  have hr1:=hr r (by simp);have a:=(h.adds hr1.g).mono (show n+r.guards.length≤n+6 by have:=hr1.gl;omega);have b:(QN s r).2.length=3:=Kb (Kb h3 fun f hf=>(hr1.a f hf).c) fun f hf=>(hr1.t f hf).c;have:=ih (s:=QN s r) (n:=n+6) a b fun x hx=>hr x (by simp[hx]);exact⟨this.1.mono (by simp;omega),this.2⟩
theorem JcG (as:List (List Jg)):Qo (3+384*as.length) (U2 as).1∧(U2 as).2.length=3:=by
 have key :∀(n:Nat) (s:List (List Int)×List Bool),Qo n s.1→s.2.length=3→Qo (n+384*as.length) (as.foldl Yk s).1∧(as.foldl Yk s).2.length=3:=by
  induction as with
  | nil=>intro n s h h3;exact⟨h,h3⟩
  | cons a as ih =>
   intro n s h h3;have:=h.rows h3 (rs:=Jv a) Yf;have hl:=Uf a;have:=ih (n+384) (Yk s a) (this.1.mono (by omega)) this.2;exact⟨this.1.mono (by simp;omega),this.2⟩
 refine key 3 _ ⟨by simp[YJ],?_⟩ rfl;intro q hq;simp[YJ] at hq;rcases hq with rfl | rfl | rfl <;> exact⟨rfl,by intro x hx;simp at hx;omega⟩
theorem rdR {rs:List Row} {i:Nat} {r:Row} (h:rs[i]? = some r):(Qk rs)[i]? = some r.g:=mA1 (f:=Row.g) h
set_option maxHeartbeats 8000000 in
theorem JeO (as:List (List Jg)) (hf:Yj as) (h4:as.length≤4):Ev L f_k17 [.s (Jc as)] [.s (dLL (U2 as).1),.s (dBl (U2 as).2)]:=by
 refine JuA (vs:=[.l (Jc as)]) L_k17 rfl ?_;refine Jt3 3 (fun v=>[.l (dLL (YJ.take v)),.i v]) (fun _=>True) rfl rfl trivial fun v hv _=>?_;refine JtX v 3 rfl (fun hv3=>?_) (fun hv3=>?_)
 ·refine Jur (ZH v (by omega) (by omega)) rfl rfl rfl ?_;have hp:YJ[v]? = some (JA (v:Int).toNat).c:=by
   rw[Int.toNat_natCast]
   match v,hv3 with
   | 0,_ | 1,_ | 2,_=>rfl
   | n+3,h=>omega
  refine Jus (dLL (YJ.take v)) 3 (by rw[Uk];simp;omega) (by omega) rfl ?_;refine Jt4 (vs:=[.l (dLL (YJ.take (v+1))),.i ((v+1:Nat):Int)]) ?_ ⟨hv3,rfl,trivial⟩;show [V.l (dLL (YJ.take v)++[.s (dL (JA (v:Int).toNat).c)]),V.i (i64.wrap ((v:Int)+1))]=_;rw[wS hv3 (by omega),Jaf,tS1 hp]
 have hv3:v=3:=by omega
 subst hv3;refine Juk ?_;refine Jui as.length (fun i vs=>∃ b:List (List Int)×List Bool,vs=[.l (dLL b.1),.l (dBl b.2),.i i]∧b=U2 (as.take i)) rfl ⟨(YJ,[false,false,false]),rfl,rfl⟩ ?_;rintro i _ hi ⟨⟨b1,b2⟩,rfl,hb⟩;simp only[sC,sN];refine JtY i (JN as) rfl (fun h=>?_) (fun h=>?_)
 ·obtain⟨a,ha,hm⟩:=sA1 h;have hB:U2 (as.take (i+1))=Yk (b1,b2) a:=by rw[hb];exact XC ha
  obtain⟨f1,f2⟩:=JcG (as.take i);rw[←hb] at f1 f2;have f1:=f1.mono (show 3+384*(as.take i).length≤1600 by simp;omega);have hrl:=Uf a;refine Juo i (mA1 (f:=fun a=> .s (Jk a)) ha) rfl rfl rfl rfl ?_;refine Jur (JfL a (hf.2 a hm)) rfl rfl rfl ?_;have hrf :∀r∈Jv a,YD r:=Yf;have hAB:Yk (b1,b2) a=(Jv a).foldl QN (b1,b2):=rfl;generalize Jv a=rs at *;refine Jui rs.length (fun k vs=>∃ c:List (List Int)×List Bool,vs=[.l (dLL c.1),.l (dBl c.2),.i k]∧c=(rs.take k).foldl QN (b1,b2)) rfl ⟨(b1,b2),rfl,rfl⟩ ?_;rintro k _ hk ⟨⟨c1,c2⟩,rfl,hc⟩;simp only[sC,sN];refine JtY k (X7 rs) rfl (fun h'=>?_) (fun h'=>?_)
  ·obtain⟨r,hr,hmr⟩:=sA1 h';have hfit:=hrf r hmr;have hC:(rs.take (k+1)).foldl QN (b1,b2)=QN (c1,c2) r:=by rw[hc];exact XC hr
   obtain⟨g1,g2⟩:=f1.rows f2 (rs:=rs.take k) fun x hx=>hrf x (Ju1 hx);rw[←hc] at g1 g2;have g1:=g1.mono (show 1600+6*(rs.take k).length≤2000 by simp;omega);have hRd:=rdR hr;refine Jux k hRd rfl rfl rfl rfl rfl rfl ?_;refine Jur (JdC c2 r.adds g2 (fun f hf=>(hfit.a f hf).c) (by have:=hfit.al;omega)) rfl rfl rfl ?_;refine Jux k hRd rfl rfl rfl rfl rfl rfl ?_;have e3:(QR c2 r.adds).length=3:=Kb g2 fun f hf=>(hfit.a f hf).c;refine Jur (JdC (QR c2 r.adds) r.tells e3 (fun f hf=>(hfit.t f hf).c) (by have:=hfit.tl;omega)) rfl rfl rfl ?_;have hR:QN (c1,c2) r=(r.guards.foldl Jo c1,QR (QR c2 r.adds) r.tells):=rfl;generalize QR (QR c2 r.adds) r.tells=d2 at *;generalize QR c2 r.adds=d1 at *;have hgl:=hfit.gl;refine Jui r.guards.length (fun g vs=>∃ e:List (List Int),vs=[.l (dLL e),.i g]∧e=(r.guards.take g).foldl Jo c1) rfl ⟨c1,rfl,rfl⟩ ?_;rintro g _ hg ⟨e,rfl,he⟩;simp only[sC,sN];refine Jux k hRd rfl rfl rfl rfl rfl rfl ?_;refine JtY g (J3 r.guards) rfl (fun hg'=>?_) (fun hg'=>?_)
   ·obtain⟨f,hfg,hmf⟩:=sA1 hg';have hsf:=hfit.g f hmf;have hE:(r.guards.take (g+1)).foldl Jo c1=Jo e f:=by rw[he];exact XC hfg
    have e1:=(g1.adds (fs:=r.guards.take g) fun x hx=>hfit.g x (Ju1 hx)).mono (show 2000+(r.guards.take g).length≤2010 by simp;omega);rw[←he] at e1;have nx :∀(x:List (List Int)),x=Jo e f→[V.l (dLL x),V.i (i64.wrap ((g:Int)+1))]=[.l (dLL (Jo e f)),.i ((g+1:Nat):Int)]:=by
     intro x hx;rw[hx,wS hg' (by omega)]
    refine Jux k hRd rfl rfl rfl rfl rfl rfl ?_;refine Juo g (mA1 (f:=Frm.g) hfg) rfl rfl rfl rfl ?_;refine Jur (JcM f (hsf.lc.mono (by omega)) (by rw[hsf.c];omega)) rfl rfl rfl ?_;have el:=e1.len;have hp3:(Jm f.c).length=3:=by rw[Vn];exact hsf.c
    have hAP:Jo e f=if KT e (Jm f.c)<0∧Jm f.c≠[0,0,0] then e++[Jm f.c] else e:=rfl;generalize Jm f.c=pt at *;refine Jur (JfD e pt (by omega) (fun q hq=>by rw[(e1.each q hq).1];omega)) rfl rfl rfl ?_;generalize KT e pt=ha at *;refine Jt8 (ha<0) rfl (fun h0=>?_) (fun h0=>?_)
    ·refine Jur XQ rfl rfl rfl ?_;refine Jur (Ja4 pt [0,0,0] (by omega)) rfl rfl rfl ?_;refine Jum (decide (pt=[0,0,0])) rfl (fun hz=>?_) (fun hz=>?_)
     ·refine Jus (dLL e) 3000 (by rw[Uk];omega) (by omega) rfl ?_;refine Jt4 (vs:=[.l (dLL (Jo e f)),.i ((g+1:Nat):Int)]) ?_ ⟨hg',Jo e f,rfl,hE.symm⟩;show [V.l (dLL e++[.s (dL pt)]),V.i (i64.wrap ((g:Int)+1))]=_;rw[Jaf];refine nx _ ?_;rw[hAP,if_pos ⟨h0,by simpa using hz⟩]
     ·refine Jt4 (nx e ?_) ⟨hg',Jo e f,rfl,hE.symm⟩;rw[hAP,if_neg];intro ⟨_,h⟩;exact h (by simpa using hz)
    ·refine Jt4 (nx e ?_) ⟨hg',Jo e f,rfl,hE.symm⟩;rw[hAP,if_neg];intro ⟨h,_⟩;exact h0 h
   ·refine Juk ?_;rw[tA1 hg'] at he;refine Jt4 (vs:=[.l (dLL e),.l (dBl d2),.i ((k+1:Nat):Int)]) ?_ ⟨h',(e,d2),rfl,by rw[hC,hR,he]⟩;show [V.l (dLL e),V.l (dBl d2),V.i (i64.wrap ((k:Int)+1))]=_;rw[wS h' (by omega)]
  ·refine Juk ?_;rw[tA1 h'] at hc;refine Jt4 (vs:=[.l (dLL c1),.l (dBl c2),.i ((i+1:Nat):Int)]) ?_ ⟨h,(c1,c2),rfl,by rw[hB,hAB,hc]⟩;show [V.l (dLL c1),V.l (dBl c2),V.i (i64.wrap ((i:Int)+1))]=_;rw[wS h (by omega)]
 ·refine Juk (Jue ?_);show [D.s (dLL b1),.s (dBl b2)]=_;rw[tA1 h] at hb;rw[←hb]
theorem X5 {as:List (List Jg)} (h:Qu as=true):1≤as.length∧as.length≤4∧∀a∈as,Qt a=true:=by
 simp only[Qu,JuD,Jq,JuQ] at h;exact⟨by omega,by omega,h.2⟩
theorem Xc (as:List (List Jg)):Qo 1600 (Jb as):=by
 unfold Jb;split
 ·rename_i h;exact(JcG as).1.mono (by have:=(X5 h).2.1;omega)
 ·exact⟨by simp,by simp⟩
/- What the reference's treaties come to. -/
theorem Zc (l:List Int) (hl:l.length≤2000000):Ev L f_kg [.s (dL l)] [dB (JR l)] :=
 JuA (vs:=[.l (dL l)]) L_kg rfl (Jur (Xr l 3 10000 hl (by omega) (by omega)) rfl rfl rfl (Jue rfl))
theorem Jbf (b g:List Int) (hb:b.length≤2000000) (hg:g.length≤2000000):Ev L f_kh [.s (dL b),.s (dL g)] [dB (Qw b g)]:=by
 refine JuA (vs:=[.l (dL b),.l (dL g)]) L_kh rfl ?_;refine Jur (Zc b hb) rfl rfl rfl ?_;refine Jum (JR b) rfl (fun h=>Jue ?_) (fun h=>?_)
 ·show [dB false]=_;simp[Qw,h]
 refine Jur (JP g.length 1 3) rfl ?_ rfl ?_
 ·show [dI ((dL g).length:Int),dI 1,dI 3]=_;rw[dL1]
 refine Jum (inB g.length 1 3) rfl (fun h2=>Jue ?_) (fun h2=>?_)
 ·show [dB false]=_;simp[Qw,h2]
 refine Jt3 g.length (fun i=>[.i i]) (fun i=>(g.take i).all (fun x=>inB x 0 50)=true) rfl rfl (by simp) fun i hi hp=>?_;refine JtY i (dL1 g) rfl (fun h'=>?_) (fun h'=>?_)
 ·obtain⟨x,hx,hm⟩:=sA1 h';refine Juo i (mA1 (f:=dI) hx) rfl rfl rfl rfl ?_;refine Jur (JP x 0 50) rfl rfl rfl ?_;refine Jum (inB x 0 50) rfl (fun hb=>Juk (Jue ?_)) (fun hb=>?_)
  ·show [dB false]=_;simp only[Qw,Yl (p:=fun x=>inB x 0 50) hx hb,Bool.and_false]
  ·refine Jt4 (vs:=[.i ((i+1:Nat):Int)]) ?_ ⟨h',rfl,QY (p:=fun x=>inB x 0 50) hx hp hb⟩;show [V.i (i64.wrap ((i:Int)+1))]=_;rw[wS h' (by omega)]
 ·refine Juk (Jue ?_);rw[tA1 h'] at hp;show [dB true]=_;simp only[Qw,h,h2,hp];rfl
def fitLL (ps:List (List Int)):Prop:=ps.length≤2000000∧∀p∈ps,p.length≤2000000
theorem Jc7 (ps:List (List Int)) (hp:fitLL ps):Ev L f_k1f [.s (dLL ps)] [dB (QP ps)]:=by
 have hl:=hp.1;refine JuA (vs:=[.l (dLL ps)]) L_k1f rfl ?_;refine Jt3 ps.length (fun i=>[.i i]) (fun i=>(ps.take i).all (fun p=>JF 3 10000000 p)=true) rfl rfl (by simp) fun i hi hq=>?_;refine JtY i (Uk ps) rfl (fun h'=>?_) (fun h'=>?_)
 ·obtain⟨x,hx,hm⟩:=sA1 h';refine Juo i (mA1 (f:=fun x=> .s (dL x)) hx) rfl rfl rfl rfl ?_;refine Jur (Xr x 3 10000000 (hp.2 x hm) (by omega) (by omega)) rfl rfl rfl ?_;refine Jum (JF 3 10000000 x) rfl (fun hb=>Juk (Jue ?_)) (fun hb=>?_)
  ·show [dB false]=_;simp only[QP,Yl (p:=fun p=>JF 3 10000000 p) hx hb]
  ·refine Jt4 (vs:=[.i ((i+1:Nat):Int)]) ?_ ⟨h',rfl,QY (p:=fun p=>JF 3 10000000 p) hx hq hb⟩;show [V.i (i64.wrap ((i:Int)+1))]=_;rw[wS h' (by omega)]
 ·refine Juk (Jue ?_);rw[tA1 h'] at hq;show [dB true]=_;simp only[QP,hq]
theorem JdT {a b:List Int} {i:Nat} {x y:Int} (hx:a[i]? = some x) (hy:b[i]? = some y):dot (a.take (i+1)) (b.take (i+1))=dot (a.take i) (b.take i)+x*y:=by
 have h1:=(JuE.1 hx).1;have h2:=(JuE.1 hy).1;rw[tS1 hx,tS1 hy,Jm8 x y (by simp;omega)]
theorem Jho {a b:List Int} {i:Nat} {x y:Int} (hx:a[i]? = some x) (hy:b[i]? = some y) (ha:Lim 100000000 a) (hb:Lim 1000000 b) (hi:i<1000) :
  i64.wrap (dot (a.take i) (b.take i)+i64.wrap (x*y))=dot (a.take (i+1)) (b.take (i+1)):=by
 have h1:=Km (ha.take i) (hb.take i) (by omega) (by omega);have h2:((a.take i).length:Int)≤1000:=by simp;omega
 have h3:=Uj (ha x (JuK hx)) (hb y (JuK hy));rw[JdT hx hy,w64 (n:=x*y) (by omega) (by omega),w64 (by omega) (by omega)]
theorem Jko (p a:List Int) (hp:JF 3 10000000 p=true) (ha:JF 3 20000 a=true):Ev L f_k1g [.s (dL p),.s (dL a)] [dI (dot p a)]:=by
 obtain⟨p1,p2⟩:=Jp.1 hp;obtain⟨a1,a2⟩:=Jp.1 ha;have p2:Lim 100000000 p:=Lim.mono (m:=10000000) p2 (by omega);have a2:Lim 1000000 a:=Lim.mono (m:=20000) a2 (by omega);refine JuA (vs:=[.l (dL p),.l (dL a)]) L_k1g rfl ?_;refine Jt3 3 (fun i=>[.i (dot (p.take i) (a.take i)),.i i]) (fun _=>True) rfl rfl trivial fun i hi _=>?_;refine JtX i 3 rfl (fun h=>?_) (fun h=>?_)
 ·obtain⟨x,hx,_⟩:=sA1 (show i<p.length by omega);obtain⟨y,hy,_⟩:=sA1 (show i<a.length by omega);refine Juo i (mA1 (f:=dI) hx) rfl rfl rfl rfl ?_;refine Juo i (mA1 (f:=dI) hy) rfl rfl rfl rfl ?_;refine Jt4 (vs:=[.i (dot (p.take (i+1)) (a.take (i+1))),.i ((i+1:Nat):Int)]) ?_ ⟨h,rfl,trivial⟩;show [V.i (i64.wrap (dot (p.take i) (a.take i)+i64.wrap (x*y))),V.i (i64.wrap ((i:Int)+1))]=_;rw[wS h (by omega),Jho hx hy p2 a2 (by omega)]
 ·refine Juk (Jue ?_);show [dI (dot (p.take i) (a.take i))]=_;rw[JuH (by omega),JuH (by omega)]
theorem JaT {l:List Int} {i:Nat} (h:i<l.length):l[i]? = some (l.getD i 0):=by simp[JuG,h]
theorem Zz (b g:List Int) (ps:List (List Int)) (s:Int) (a:List Int) (hb:b.length≤2000000) (hg:g.length≤2000000) (hp:fitLL ps) (ha:a.length≤2000000) :
  Ev L f_k1h [.s (dL b),.s (dL g),.s (dLL ps),dI s,.s (dL a)] [dB (keeps b g ps s a)]:=by
 have hpl:=hp.1;refine JuA (vs:=[.l (dL b),.l (dL g),.l (dLL ps),.i s,.l (dL a)]) L_k1h rfl ?_;refine Jur (Jbf b g hb hg) rfl rfl rfl ?_;refine Jum (Qw b g) rfl (fun h=>Jue ?_) (fun h=>?_)
 ·show [dB false]=_;simp[keeps,h]
 refine Jur (Jc7 ps hp) rfl rfl rfl ?_;refine Jum (QP ps) rfl (fun h2=>Jue ?_) (fun h2=>?_)
 ·show [dB false]=_;simp[keeps,h2]
 refine Jur (JP s 0 (g.length-1)) rfl ?_ rfl ?_
 ·show [dI s,dI 0,dI (i64.wrap (((dL g).length:Int)-1))]=_;rw[dL1,w64 (by omega) (by omega)]
 refine Jum (inB s 0 (g.length-1)) rfl (fun h3=>Jue ?_) (fun h3=>?_)
 ·show [dB false]=_;simp[keeps,h3]
 refine Jur (Xr a 3 20000 ha (by omega) (by omega)) rfl rfl rfl ?_;refine Jum (JF 3 20000 a) rfl (fun h4=>Jue ?_) (fun h4=>?_)
 ·show [dB false]=_;simp[keeps,QO,h4]
 have hs:=Jq.1 h3;have hsg:s.toNat<g.length:=by omega
 have hgs:=JaT hsg;have hgm:=XN (p:=fun x=>0≤x∧x≤50) (l:=g) (by
  intro x hx;simp only[Qw,JuD,JuQ] at h;exact Jq.1 (h.2 x hx)) hsg
 have hdS:(dL g)[s.toNat]? = some (dI (g.getD s.toNat 0)):=mA1 (f:=dI) hgs;simp only[keeps,QO,h,h2,h3,h4,JuX];generalize g.getD s.toNat 0=G at *;refine Jt3 ps.length (fun i=>[.i i]) (fun i=>(ps.take i).all (Z3 G a)=true) rfl rfl (by simp) fun i hi hq=>?_;refine JtY i (Uk ps) rfl (fun h'=>?_) (fun h'=>?_)
 ·obtain⟨x,hx,hm⟩:=sA1 h';have hxo:JF 3 10000000 x=true:=JuQ.1 h2 x hm;refine Juo i (mA1 (f:=fun x=> .s (dL x)) hx) rfl rfl rfl rfl ?_;refine Jur (Jko x a hxo h4) rfl rfl rfl ?_;refine Jug (ds:=dL g) s rfl rfl rfl hs.1 hdS rfl ?_;refine Jug (ds:=dL g) s rfl rfl rfl hs.1 hdS rfl ?_;refine Jur (JP (dot x a) (0-G) G) rfl ?_ rfl ?_
  ·show [dI (dot x a),dI (i64.wrap (0-G)),dI G]=_;rw[w64 (by omega) (by omega)]
  refine Jum (inB (dot x a) (0-G) G) rfl (fun hb=>Juk (Jue ?_)) (fun hb=>?_)
  ·show [dB false]=_;rw[Yl (p:=Z3 G a) hx hb]
  ·refine Jt4 (vs:=[.i ((i+1:Nat):Int)]) ?_ ⟨h',rfl,QY (p:=Z3 G a) hx hq hb⟩;show [V.i (i64.wrap ((i:Int)+1))]=_;rw[wS h' (by omega)]
 ·refine Juk (Jue ?_);rw[tA1 h'] at hq;show [dB true]=_;rw[hq]
/- What the program's treaties come to. -/
theorem Yy (n a b:Int):Ev L f_k37 [dI n,dI a,dI b] [dB (inB n a b)]:=by
 refine JuA (vs:=[.i n,.i a,.i b]) L_k37 rfl ?_;refine Jt8 (a≤n) rfl (fun h=>Jue ?_) (fun h=>Jue ?_)
 ·show [dB (decide (n≤b))]=_;simp[inB,h]
 ·show [dB false]=_;simp[inB,h]
theorem JfF (p:Int→Bool) (l:List Int) {fn:FuncId} {caps:List D} (hlen:l.length≤2000000) (hcap:XJ (.f fn caps) = .f fn caps) (har:arT L fn=some ([none]++caps.map fun _=>none))
  (hc :∀x∈l,Ev L fn ([dI x]++caps.map D.norm) [dB (p x)]):Ev L f_k3b [.s (dL l),.f fn caps] [dI (Z8 p l)] :=
 ZZ (sh:= .one (.i .i64)) (as:=[(.vi .i64 (.v 3))]) (ar:=[none]) (k:=4) dI p (fun x=>[dI x]) (fun x=>[.i x]) l L_k3b rfl hlen hcap (fun _ _=>rfl) (fun _ _=>rfl) (fun _ _ _ _=>rfl) har hc
theorem VW (p:Int→Bool) (l:List Int) {fn:FuncId} {caps:List D} (hlen:l.length≤2000000) (hcap:XJ (.f fn caps) = .f fn caps) (har:arT L fn=some ([none]++caps.map fun _=>none))
  (hc :∀x∈l,Ev L fn ([dI x]++caps.map D.norm) [dB (p x)]):Ev L f_k3c [.s (dL l),.f fn caps] [dB (l.any p)] :=
 Zj (g:=f_k3b) L_k3c rfl hcap (JfF p l hlen hcap har hc)
theorem Jeo (p:List Int→Bool) (l:List (List Int)) {fn:FuncId} {caps:List D} (hlen:l.length≤2000000) (hcap:XJ (.f fn caps) = .f fn caps) (har:arT L fn=some ([none]++caps.map fun _=>none))
  (hc :∀x∈l,Ev L fn ([.s (dL x)]++caps.map D.norm) [dB (p x)]):Ev L f_k4b [.s (dLL l),.f fn caps] [dI (Z8 p l)] :=
 ZZ (sh:= .one .s) (as:=[(.s (.v 3))]) (ar:=[none]) (k:=4) (fun x=> .s (dL x)) p (fun x=>[.s (dL x)]) (fun x=>[.l (dL x)]) l L_k4b rfl hlen hcap (fun _ _=>rfl) (fun _ _=>rfl) (fun _ _ _ _=>rfl) har hc
theorem JcQ (p:List Int→Bool) (l:List (List Int)) {fn:FuncId} {caps:List D} (hlen:l.length≤2000000) (hcap:XJ (.f fn caps) = .f fn caps) (har:arT L fn=some ([none]++caps.map fun _=>none))
  (hc :∀x∈l,Ev L fn ([.s (dL x)]++caps.map D.norm) [dB (p x)]):Ev L f_k4y [.s (dLL l),.f fn caps] [dB (l.any p)] :=
 Zj (g:=f_k4b) L_k4y rfl hcap (Jeo p l hlen hcap har hc)
theorem Ul {α:Type} (p:α→Bool) (l:List α):(!(l.any fun x=>!p x))=l.all p:=by
 induction l with
 | nil=>rfl
 | cons x l ih=>simp[ih]
theorem JhD (x m:Int) (h0:0≤m) (hm:m≤10000000000000):Ev L f_k3a [dI x,.q [dI m]] [dB (!inB x (0-m) m)]:=by
 refine JuA (vs:=[.i x,.d (.q [dI m])]) L_k3a rfl ?_;refine Jt7 (vs:=[.i m]) rfl rfl ?_;refine Jt7 (vs:=[.i m]) rfl rfl ?_;refine Jur (Yy x (0-m) m) rfl ?_ rfl (Jue rfl);show [dI x,dI (i64.wrap (0-m)),dI m]=_;rw[w64 (by omega) (by omega)]
theorem XE (l:List Int) (n m:Int) (hl:l.length≤2000000) (h0:0≤m) (hm:m≤10000000000000):Ev L f_k3d [.s (dL l),dI n,dI m] [dB (JF n m l)]:=by
 refine JuA (vs:=[.l (dL l),.i n,.i m]) L_k3d rfl ?_;refine Jt8 ((l.length:Int)=n) ?_ (fun h=>?_) (fun h=>Jue ?_)
 ·show decide (((dL l).length:Int)=n)=_;rw[dL1]
 ·refine Jur (VW (fun x=>!inB x (0-m) m) l (fn:=f_k3a) (caps:=[.q [dI m]]) hl rfl rfl fun x _=>JhD x m h0 hm) rfl rfl rfl (Jue ?_);show [dB (!(l.any fun x=>!inB x (0-m) m))]=_;rw[Ul];simp[JF,h]
 ·show [dB false]=_;simp[JF,h]
theorem Jiy (l:List Int) (hl:l.length≤2000000):Ev L f_k3n [.s (dL l)] [dB (JR l)] :=
 JuA (vs:=[.l (dL l)]) L_k3n rfl (Jur (XE l 3 10000 hl (by omega) (by omega)) rfl rfl rfl (Jue rfl))
theorem JjU (x:Int):Ev L f_k3m [dI x] [dB (!inB x 0 50)] :=
 JuA (vs:=[.i x]) L_k3m rfl (Jur (Yy x 0 50) rfl rfl rfl (Jue rfl))
theorem Jhj (b g:List Int) (hb:b.length≤2000000) (hg:g.length≤2000000):Ev L f_k3o [.s (dL b),.s (dL g)] [dB (Qw b g)]:=by
 refine JuA (vs:=[.l (dL b),.l (dL g)]) L_k3o rfl ?_;refine Jur (Jiy b hb) rfl rfl rfl ?_;refine Jud (JR b) rfl (fun h=>?_) (fun h=>Jue ?_)
 ·refine Jur (Yy g.length 1 3) rfl ?_ rfl ?_
  ·show [dI ((dL g).length:Int),dI 1,dI 3]=_;rw[dL1]
  refine Jud (inB g.length 1 3) rfl (fun h2=>?_) (fun h2=>Jue ?_)
  ·refine Jur (VW (fun x=>!inB x 0 50) g (fn:=f_k3m) (caps:=[]) hg rfl rfl fun x _=>JjU x) rfl rfl rfl (Jue ?_);show [dB (!(g.any fun x=>!inB x 0 50))]=_;rw[Ul];simp[Qw,h,h2]
  ·show [dB false]=_;simp[Qw,h2]
 ·show [dB false]=_;simp[Qw,h]
theorem Jf4 (p:List Int) (hp:p.length≤2000000):Ev L f_k4z [.s (dL p)] [dB (!JF 3 10000000 p)] :=
 JuA (vs:=[.l (dL p)]) L_k4z rfl (Jur (XE p 3 10000000 hp (by omega) (by omega)) rfl rfl rfl (Jue rfl))
theorem JjF (ps:List (List Int)) (hp:fitLL ps):Ev L f_k50 [.s (dLL ps)] [dB (QP ps)]:=by
 refine JuA (vs:=[.l (dLL ps)]) L_k50 rfl ?_;refine Jur (JcQ (fun p=>!JF 3 10000000 p) ps (fn:=f_k4z) (caps:=[]) hp.1 rfl rfl fun p h=>Jf4 p (hp.2 p h)) rfl rfl rfl (Jue ?_);show [dB (!(ps.any fun p=>!JF 3 10000000 p))]=_;rw[Ul];rfl
theorem JjZ (a:List Int) (ha:a.length≤2000000):Ev L f_k51 [.s (dL a)] [dB (QO a)] :=
 JuA (vs:=[.l (dL a)]) L_k51 rfl (Jur (XE a 3 20000 ha (by omega) (by omega)) rfl rfl rfl (Jue rfl))
def QG (b g:List Int) (ps:List (List Int)) (s:Int) (a:List Int):Bool:=Qw b g&&QP ps&&inB s 0 (g.length-1)&&QO a
theorem Jce (b g:List Int) (ps:List (List Int)) (s:Int) (a:List Int) (hb:b.length≤2000000) (hg:g.length≤2000000) (hp:fitLL ps) (ha:a.length≤2000000) :
  Ev L f_k52 [.s (dL b),.s (dL g),.s (dLL ps),dI s,.s (dL a)] [dB (QG b g ps s a)]:=by
 refine JuA (vs:=[.l (dL b),.l (dL g),.l (dLL ps),.i s,.l (dL a)]) L_k52 rfl ?_;refine Jur (Jhj b g hb hg) rfl rfl rfl ?_;refine Jud (Qw b g) rfl (fun h=>?_) (fun h=>Jue ?_)
 ·refine Jur (JjF ps hp) rfl rfl rfl ?_;refine Jud (QP ps) rfl (fun h2=>?_) (fun h2=>Jue ?_)
  ·refine Jur (Yy s 0 (g.length-1)) rfl ?_ rfl ?_
   ·show [dI s,dI 0,dI (i64.wrap (((dL g).length:Int)-1))]=_;rw[dL1,w64 (by omega) (by omega)]
   refine Jud (inB s 0 (g.length-1)) rfl (fun h3=>?_) (fun h3=>Jue ?_)
   ·refine Jur (JjZ a ha) rfl rfl rfl (Jue ?_);show [dB (QO a)]=_;simp[QG,h,h2,h3]
   ·show [dB false]=_;simp[QG,h3]
  ·show [dB false]=_;simp[QG,h2]
 ·show [dB false]=_;simp[QG,h]
theorem JqS (p a:List Int) (hp:Lim 100000000 p) (ha:Lim 1000000 a) (hl:p.length=a.length) (h9:p.length≤999):Ev L f_k53 [.s (dL p),.s (dL a)] [dI (dot p a)]:=by
 refine JuA (vs:=[.l (dL p),.l (dL a)]) L_k53 rfl ?_;refine Jt3 p.length (fun i=>[.i (dot (p.take i) (a.take i)),.i i]) (fun _=>True) rfl rfl trivial fun i hi _=>?_;refine JtY i (dL1 p) rfl (fun h=>?_) (fun h=>?_)
 ·obtain⟨x,hx,_⟩:=sA1 (show i<p.length by omega);obtain⟨y,hy,_⟩:=sA1 (show i<a.length by omega);refine Juo i (mA1 (f:=dI) hx) rfl rfl rfl rfl ?_;refine Juo i (mA1 (f:=dI) hy) rfl rfl rfl rfl ?_;refine Jt4 (vs:=[.i (dot (p.take (i+1)) (a.take (i+1))),.i ((i+1:Nat):Int)]) ?_ ⟨h,rfl,trivial⟩;show [V.i (i64.wrap (dot (p.take i) (a.take i)+i64.wrap (x*y))),V.i (i64.wrap ((i:Int)+1))]=_;rw[wS h (by omega),Jho hx hy hp ha (by omega)]
 ·refine Juk (Jue ?_);show [dI (dot (p.take i) (a.take i))]=_;rw[tA1 h,tA1 (by omega)]
theorem Jey (p a:List Int) (G:Int) (hp:JF 3 10000000 p=true) (ha:QO a=true) (h0:0≤G) (h5:G≤50):Ev L f_k54 [.s (dL p),.q [.s (dL a)],.q [dI G]] [dB (!Z3 G a p)]:=by
 obtain⟨p1,p2⟩:=Jp.1 hp;obtain⟨a1,a2⟩:=Jp.1 ha;refine JuA (vs:=[.l (dL p),.d (.q [.s (dL a)]),.d (.q [dI G])]) L_k54 rfl ?_;refine Jt7 (vs:=[.l (dL a)]) rfl rfl ?_;refine Jur (JqS p a (Lim.mono (m:=10000000) p2 (by omega)) (Lim.mono (m:=20000) a2 (by omega)) (by omega) (by omega)) rfl rfl rfl ?_;refine Jt7 (vs:=[.i G]) rfl rfl ?_;refine Jt7 (vs:=[.i G]) rfl rfl ?_;refine Jur (Yy (dot p a) (0-G) G) rfl ?_ rfl (Jue rfl);show [dI (dot p a),dI (i64.wrap (0-G)),dI G]=_;rw[w64 (by omega) (by omega)]
theorem JhJ {b g:List Int} {ps:List (List Int)} {s:Int} {a:List Int} (h:QG b g ps s a=true) :
  Qw b g=true∧QP ps=true∧0≤s∧s<g.length∧QO a=true∧g[s.toNat]? = some (g.getD s.toNat 0)∧0≤g.getD s.toNat 0∧g.getD s.toNat 0≤50:=by
 simp only[QG,JuD,Jq] at h;obtain⟨⟨⟨h1,h2⟩,h3⟩,h4⟩:=h;have hsg:s.toNat<g.length:=by omega
 have hgm:=XN (p:=fun x=>0≤x∧x≤50) (l:=g) (by
  intro x hx;simp only[Qw,JuD,JuQ] at h1;exact Jq.1 (h1.2 x hx)) hsg
 exact⟨h1,h2,h3.1,by omega,h4,JaT hsg,hgm⟩
theorem JjS (b g:List Int) (ps:List (List Int)) (s:Int) (a:List Int):keeps b g ps s a=(QG b g ps s a&&ps.all (Z3 (g.getD s.toNat 0) a)):=rfl
theorem Jis (b g:List Int) (ps:List (List Int)) (s:Int) (a:List Int) (hb:b.length≤2000000) (hg:g.length≤2000000) (hp:fitLL ps) (ha:a.length≤2000000) :
  Ev L f_k55 [.s (dL b),.s (dL g),.s (dLL ps),dI s,.s (dL a)] [dB (keeps b g ps s a)]:=by
 refine JuA (vs:=[.l (dL b),.l (dL g),.l (dLL ps),.i s,.l (dL a)]) L_k55 rfl ?_;refine Jur (Jce b g ps s a hb hg hp ha) rfl rfl rfl ?_;rw[JjS];refine Jum (QG b g ps s a) rfl (fun h=>Jue ?_) (fun h=>?_)
 ·show [dB false]=_;rw[h];rfl
 obtain⟨h1,h2,s0,s1,h4,hd,g0,g5⟩:=JhJ h;generalize g.getD s.toNat 0=G at *;refine Jug (ds:=dL g) s rfl rfl rfl s0 (mA1 (f:=dI) hd) rfl ?_;refine Jur (JcQ (fun p=>!Z3 G a p) ps (fn:=f_k54) (caps:=[.q [.s (dL a)],.q [dI G]]) hp.1 rfl rfl fun p hm=>Jey p a G (JuQ.1 h2 p hm) h4 g0 g5) rfl rfl rfl (Jue ?_);show [dB (!(ps.any fun p=>!Z3 G a p))]=_;rw[Ul,h];rfl
/- All sites keep to a treaty just if each does: over residual programs. -/
theorem Qo.fitLL {n:Nat} {ps:List (List Int)} (h:Qo n ps) (hn:n≤2000000):fitLL ps:=⟨by have:=h.len;omega,fun p hp=>by rw[(h.each p hp).1];omega⟩
end Go.Proofs.YtofcmnglieaoeabGreatDoor

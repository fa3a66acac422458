import Derived.Test.YtofcmnglieaoeaaGreatDoorPG
import Derived.Test.YtofcmnglieaoeaaGreatDoorTd
set_option linter.unusedVariables false
set_option linter.unusedSimpArgs false
/- What the reference's ways through an act come to. -/
namespace Go.Proofs.YtofcmnglieaoeaaGreatDoor
open Go Go.Tm
open Go.IntKind (i64)
theorem JiI {l:List Frm} {i:Nat} (h:i<l.length):l.getD i Frm.none∈l∧l[i]? = some (l.getD i Frm.none):=by
 rw[Juv,JuD h];exact⟨List.getElem_mem h,rfl⟩
def Z4 (p:List Frm):List Frm:=[JV (p.getD 0 Frm.none) (JB 0) (-1),JV (p.getD 1 Frm.none) (JB 1) (-1),JV (p.getD 2 Frm.none) (JB 2) (-1)]
theorem Joz {p g t:List Frm} {M:Int} (hp:p.length=3) (sp :∀f∈p,Std M f) (hg:g.length≤2000000) (sg :∀f∈g,Std M f) (ht:t.length≤2000000) (st :∀f∈t,Std M f) (h0:1≤M) (hM:M≤1000000000) :
  Ev L f_k10 [.s (dF p),.s (dF g),.s (dF t)] (Y0 p g t).cells:=by
 refine Juq (vs:=[.l (dF p),.l (dF g),.l (dF t)]) L_k10 rfl ?_;refine Jt9 (args:=[.s (dF g)]) rfl rfl (YE hg sg (by omega) hM) rfl ?_;refine Jt9 (args:=[.s (dF t)]) rfl rfl (YE ht st (by omega) hM) rfl ?_;refine Jt3 (fun m vs=>∃ i:Nat,i≤3∧m=3-i∧vs=[.l (dF ((Z4 p).take i)),.i i]) rfl 3 ⟨0,by omega,rfl,rfl⟩ ?_;rintro m _ ⟨i,hi,hm,rfl⟩;refine Jue ((i:Int)<3) rfl (fun h=>?_) (fun h=>?_)
 ·obtain⟨x,hx,hd⟩:=Jbg (l:=p) (i:=(i:Int)) (by omega) (by omega);have hsx:=sp x (Juz hx);refine Jt5 (ds:=dF p) i rfl rfl rfl (by omega) hd rfl ?_;refine Jt9 (args:=[dI i]) rfl rfl (ZJ i (by omega) (by omega)) rfl ?_;rw[Int.toNat_natCast] at hx;refine Jt9 (args:=x.cells++(JB (i:Int).toNat).cells++[dI (-1)]) rfl rfl (Vr hsx (Xa.mono h0) hM (by omega)) rfl ?_;have hn:(Z4 p)[i]? = some (JV x (JB (i:Int).toNat) (-1)):=by
   have e:p.getD i Frm.none=x:=by rw[Juv,hx];rfl
   subst e;rw[Int.toNat_natCast]
   match i,h with
   | 0,_=>rfl
   | 1,_=>rfl
   | 2,_=>rfl
   | n+3,h=>omega
  refine Juc (dF ((Z4 p).take i)++[(JV x (JB (i:Int).toNat) (-1)).g]) rfl (by rw[Xk,J5];simp;omega) ?_;refine Juk (vs:=[.l (dF ((Z4 p).take (i+1))),.i ((i+1:Nat):Int)]) ?_ ⟨m-1,by omega,i+1,by omega,by omega,rfl⟩;show [V.l (dF ((Z4 p).take i)++[(JV x (JB (i:Int).toNat) (-1)).g]),V.i (i64.wrap ((i:Int)+1))]=_;rw[Xk,tS1 hn,w64 (by omega) (by omega)];rfl
 ·refine Juj (JtU ?_);have hi3:i=3:=by omega
  subst hi3;rfl
structure QE (act:List Jg):Prop where
 len:act.length≤6
 ok :∀l∈act,l.ok=true
theorem JcT {act:List Jg} (h:Qt act=true):QE act:=by
 simp only[Qt,Jus,decide_eq_true_eq,JuF] at h;exact⟨by omega,h.1.1⟩
theorem JiD {l:Jg} (h:l.ok=true) (h4 : ¬l.kind=4):l.f.small=true:=by
 unfold Jg.ok at h;split at h
 ·simp only[Jus] at h;exact h.2
 split at h
 ·simp only[Jus] at h;exact h.2
 split at h
 ·simp only[Jus] at h;exact h.2
 ·simp[h4] at h
theorem Jgl {l:Jg} (h:l.ok=true) (h2:l.kind=2):0≤l.pot∧l.pot≤2:=by
 unfold Jg.ok at h;rw[if_neg (by omega),if_pos h2] at h;simp only[Jus,Jp] at h;exact h.1.1
theorem Jcw {l:Jg} (h:l.ok=true) (h1:l.kind=1):1≤l.skip∧l.skip≤6:=by
 unfold Jg.ok at h;rw[if_pos h1] at h;simp only[Jus,Jp] at h;exact h.1.2
theorem XD {α:Type} {l:List α} {i:Nat} {x:α} (h:l[i]? = some x):l.drop i=x::l.drop (i+1):=by
 obtain⟨h1,h2⟩:=Jut.1 h;rw[List.drop_eq_getElem_cons h1,h2]
theorem K1 {α:Type} {l:List α} {x:α} {p:α→Prop} (h :∀y∈l,p y) (hx:p x) :∀y∈l++[x],p y:=by
 intro y hy;rcases Jux.1 hy with hy | hy
 ·exact h y hy
 ·simp at hy;subst hy;exact hx
theorem Jmi (a b:List Row):Qi a++Qi b=Qi (a++b):=by simp[Qi]
set_option maxHeartbeats 4000000 in
theorem JmJ {act:List Jg} (hact:QE act) :∀(n:Nat) (at_:Int) (p g t:List Frm) (j:Nat),0≤at_→at_≤20→act.length-at_.toNat=n→(j:Int)≤at_→j≤6 →
  p.length=3→(∀f∈p,Std (Bd j) f)→g.length≤j→(∀f∈g,Std 10000000 f)→t.length≤j→(∀f∈t,Std 10000000 f) →
  Ev L f_k11 [.s (Jk act),dI at_,.s (dF p),.s (dF g),.s (dF t)] [.s (Qi (walk (act.drop at_.toNat) p g t))]:=by
 intro n
 induction n using Nat.strongRecOn with
 | _ n ih =>
  intro at_ p g t j a0 a20 hn hj hj6 hp sp hg sg ht st;have hal:=hact.len;refine Juq (vs:=[.l (Jk act),.i at_,.l (dF p),.l (dF g),.l (dF t)]) L_k11 rfl ?_;refine Jt3 (fun m vs=>∃ (i:Int) (p' t':List Frm) (j':Nat),vs=[.l (dF p'),.l (dF t'),.i i]∧at_≤i∧i≤20∧m=act.length-i.toNat∧(j':Int)≤i∧j≤j'∧j'≤6∧p'.length=3∧(∀f∈p',Std (Bd j') f)∧t'.length≤j'∧(∀f∈t',Std 10000000 f) ∧
   walk (act.drop i.toNat) p' g t'=walk (act.drop at_.toNat) p g t) rfl (act.length-at_.toNat) ⟨at_,p,t,j,rfl,by omega,a20,rfl,hj,by omega,hj6,hp,sp,ht,st,rfl⟩ ?_
  rintro m _ ⟨i,p',t',j',rfl,ai,i20,hm,hj',hjj,hj6',hp',sp',ht',st',hw⟩;have hB:=Jic hj6';have hB0:=YZ j';refine Jue (i<((Jk act).length:Int)) rfl (fun hi=>?_) (fun hi=>?_)
  ·rw[JL] at hi;obtain⟨l,hl,hd⟩:=U9 (a:=act) (i:=i) (by omega) hi;have hok:=hact.ok l (Juz hl);have hdr:=XD hl;have hs1:(i+1).toNat=i.toNat+1:=by omega
   refine Jt5 (ds:=Jk act) i rfl rfl rfl (by omega) hd rfl ?_;refine Jue (l.kind=4) rfl (fun h4=>?_) (fun h4=>?_)
   ·refine Jt9 (args:=[.s (dF g)]) rfl rfl (YE (by omega) sg (by omega) (by omega)) rfl ?_;refine Juj (JtU ?_);show [D.s [D.g [.s (dF g),.s [],.s [],dB true]]]=_;rw[←hw,hdr,walk,if_pos h4];rfl
   have hsm:=JiD hok h4;have hin:=UN hsm hp' sp' hB0;have hin7:Std 10000000 (Js l.f p'):=hin.mono (by omega);refine Jt9 (args:=l.f.cells++[.s (dF p')]) rfl rfl (Jj6 hsm hp' sp' hB0 (by omega)) rfl ?_;have hj5:j'<6:=by omega
   refine Jue (l.kind=1) rfl (fun h1=>?_) (fun h1=>?_)
   ·have hsk:=Jcw hok h1;have hg':(g++[Js l.f p']).length≤j'+1:=by simp;omega
    have hg2:(g++[QX (Js l.f p')]).length≤j'+1:=by simp;omega
    have hmin:Std 10000000 (QX (Js l.f p')):=(WJ hin).mono (by omega);have spB :∀f∈p',Std (Bd (j'+1)) f:=fun f hf=>(sp' f hf).mono (Kl (by omega));have cp:=YE (by omega:p'.length≤2000000) sp' hB0 (by omega);have cg:=YE (by omega:g.length≤2000000) sg (by omega) (by omega);have ct:=YE (by omega:t'.length≤2000000) st' (by omega) (by omega);refine Jt9 (args:=[.s (dF p')]) rfl rfl cp rfl ?_;refine Jt9 (args:=[.s (dF g)]) rfl rfl cg rfl ?_;refine Juc (dF g++[(Js l.f p').g]) rfl (by rw[Xk,J5];omega) ?_;refine Jt9 (args:=[.s (dF t')]) rfl rfl ct rfl ?_;have e1:=ih (act.length-(i+1).toNat) (by omega) (i+1) p' (g++[Js l.f p']) t' (j'+1) (by omega) (by omega) rfl (by omega) (by omega) hp' spB hg' (K1 sg hin7) (by omega) st';refine Jt9 (args:=[.s (Jk act),dI (i+1),.s (dF p'),.s (dF (g++[Js l.f p'])),.s (dF t')]) rfl ?_ e1 rfl ?_
    ·show [D.s (Jk act),dI (i64.wrap (i+1)),.s (dF p'),.s (dF g++[(Js l.f p').g]),.s (dF t')]=_;rw[Xk,w64 (by omega) (by omega)]
    refine Jt9 (args:=[.s (dF p')]) rfl rfl cp rfl ?_;refine Jt9 (args:=[.s (dF g)]) rfl rfl cg rfl ?_;refine Jt9 (args:=(Js l.f p').cells) rfl rfl (JkF hin7 (by omega) (by omega)) rfl ?_;refine Juc (dF g++[(QX (Js l.f p')).g]) rfl (by rw[Xk,J5];omega) ?_;refine Jt9 (args:=[.s (dF t')]) rfl rfl ct rfl ?_;have e2:=ih (act.length-(i+1+l.skip).toNat) (by omega) (i+1+l.skip) p' (g++[QX (Js l.f p')]) t' (j'+1) (by omega) (by omega) rfl (by omega) (by omega) hp' spB hg2 (K1 sg hmin) (by omega) st';refine Jt9 (args:=[.s (Jk act),dI (i+1+l.skip),.s (dF p'),.s (dF (g++[QX (Js l.f p')])),.s (dF t')]) rfl ?_ e2 rfl ?_
    ·show [D.s (Jk act),dI (i64.wrap (i64.wrap (i+1)+l.skip)),.s (dF p'),.s (dF g++[(QX (Js l.f p')).g]),.s (dF t')]=_;rw[Xk,w64 (n:=i+1) (by omega) (by omega),w64 (by omega) (by omega)]
    have wl :∀(k:Nat) (a b c:List Frm),(walk (act.drop k) a b c).length≤64:=fun k a b c=>by
     refine Nat.le_trans (Jhn _ _ _ _) ?_;exact Nat.le_trans (Nat.pow_le_pow_right (by omega) (show (act.drop k).length≤6 by simp;omega)) (by decide)
    have w1:=wl (i+1).toNat p' (g++[Js l.f p']) t';have w2:=wl (i+1+l.skip).toNat p' (g++[QX (Js l.f p')]) t';refine Juc (Qi (walk (act.drop (i+1+l.skip).toNat) p' (g++[QX (Js l.f p')]) t')) rfl (by rw[X6];omega) ?_;refine Jt0 (JmO _) ?_;refine Juc (Qi (walk (act.drop (i+1).toNat) p' (g++[Js l.f p']) t')++Qi (walk (act.drop (i+1+l.skip).toNat) p' (g++[QX (Js l.f p')]) t')) rfl (by rw[Juy,X6,X6];omega) ?_;refine Juj (JtU ?_);show [D.s (Qi (walk (act.drop (i+1).toNat) p' (g++[Js l.f p']) t')++Qi (walk (act.drop (i+1+l.skip).toNat) p' (g++[QX (Js l.f p')]) t'))]=_;rw[Jmi,←hw,hdr,walk,if_neg h4,if_pos h1,List.drop_drop,hs1,show i.toNat+1+l.skip.toNat=(i+1+l.skip).toNat by omega]
   refine Jue (l.kind=2) rfl (fun h2=>?_) (fun h2=>?_)
   ·have hpt:=Jgl hok h2;have hlt:l.pot.toNat<p'.length:=by omega
    obtain⟨hm1,hm2⟩:=JiI hlt;have hdg:(dF p')[l.pot.toNat]? = some (p'.getD l.pot.toNat Frm.none).g:=mA1 (f:=Frm.g) hm2;refine Jt9 (args:=[.s (dF p')]) rfl rfl (YE (by omega) sp' hB0 (by omega)) rfl ?_;refine JtY (0≤l.pot) rfl hpt.1 ?_;refine JtY (l.pot<((dF p').length:Int)) rfl (by rw[J5];omega) ?_;refine Jt5 (ds:=dF p') l.pot rfl rfl rfl hpt.1 hdg rfl ?_;refine Jt9 (args:=(p'.getD l.pot.toNat Frm.none).cells++(Js l.f p').cells++[dI 1]) rfl rfl (Vr ((sp' _ hm1).mono (by omega)) hin7 (by omega) (by omega)) rfl ?_;refine JtY (0≤l.pot) rfl hpt.1 ?_;refine JtY (l.pot<((dF p').length:Int)) rfl (by rw[J5];omega) ?_;refine Jt5 (ds:=dF p') l.pot rfl rfl rfl hpt.1 hdg rfl ?_;have hsum:Std (Bd (j'+1)) (JV (p'.getD l.pot.toNat Frm.none) (Js l.f p') 1):=(QU (sp' _ hm1) hin (n:=1) (N:=1) (by omega)).mono (by simp only[Bd];omega);refine Juk (vs:=[.l (dF (p'.set l.pot.toNat (JV (p'.getD l.pot.toNat Frm.none) (Js l.f p') 1))),.l (dF t'),.i (i+1)]) ?_
     ⟨act.length-(i+1).toNat,by omega,i+1,p'.set l.pot.toNat (JV (p'.getD l.pot.toNat Frm.none) (Js l.f p') 1),t',j'+1,rfl,by omega,by omega,rfl,by omega,by omega,by omega,by simp[hp'],?_,by omega,st',?_⟩
    ·show [V.l ((dF p').set l.pot.toNat (JV (p'.getD l.pot.toNat Frm.none) (Js l.f p') 1).g),V.l (dF t'),V.i (i64.wrap (i+1))]=_;rw[w64 (by omega) (by omega)];simp[dF,List.map_set]
    ·intro f hf;rcases JuR hf with hf | hf
     ·exact(sp' f hf).mono (Kl (by omega))
     ·subst hf;exact hsum
    ·rw[←hw,hdr,hs1];conv=>rhs;rw[walk];rw[if_neg h4,if_neg h1,if_pos h2]
   ·refine Jt9 (args:=[.s (dF t')]) rfl rfl (YE (by omega) st' (by omega) (by omega)) rfl ?_;refine Juc (dF t'++[(Js l.f p').g]) rfl (by rw[Xk,J5,Juy,List.length_singleton];omega) ?_;refine Juk (vs:=[.l (dF p'),.l (dF (t'++[Js l.f p'])),.i (i+1)]) ?_
     ⟨act.length-(i+1).toNat,by omega,i+1,p',t'++[Js l.f p'],j'+1,rfl,by omega,by omega,rfl,by omega,by omega,by omega,hp',fun f hf=>(sp' f hf).mono (Kl (by omega)),by simp;omega,K1 st' hin7,?_⟩
    ·show [V.l (dF p'),V.l (dF t'++[(Js l.f p').g]),V.i (i64.wrap (i+1))]=_;rw[Xk,w64 (by omega) (by omega)]
    ·rw[←hw,hdr,hs1];conv=>rhs;rw[walk];rw[if_neg h4,if_neg h1,if_neg h2]
  ·rw[JL] at hi;refine Juj ?_;refine Jt9 (args:=[.s (dF p'),.s (dF g),.s (dF t')]) rfl rfl (Joz (M:=10000000) hp' (fun f hf=>(sp' f hf).mono (by omega)) (by omega) sg (by omega) st' (by omega) (by omega)) rfl ?_;refine JtU ?_;show [D.s [(Y0 p' g t').g]]=_;rw[←hw,List.drop_eq_nil_of_le (by omega),walk];rfl
theorem JfV (act:List Jg) (hf:KE act):Ev L f_k12 [.s (Jk act)] [.s (Qi (Jt act))]:=by
 refine Juq (vs:=[.l (Jk act)]) L_k12 rfl ?_;refine Jt9 (args:=[.s (Jk act)]) rfl rfl (Jai act hf) rfl ?_;refine Jue (Qt act=false) ?_ (fun h=>JtU ?_) (fun h=>?_)
 ·show (!(Qt act))=_;cases Qt act <;> rfl
 ·show [D.s []]=_;simp[Jt,h,Qi]
 have h:Qt act=true:=by simpa using h
 refine Jt9 (args:=[dI 0]) rfl rfl (ZJ 0 (by omega) (by omega)) rfl ?_;refine Jt9 (args:=[dI 1]) rfl rfl (ZJ 1 (by omega) (by omega)) rfl ?_;refine Jt9 (args:=[dI 2]) rfl rfl (ZJ 2 (by omega) (by omega)) rfl ?_;have e:=JmJ (JcT h) act.length 0 [JB 0,JB 1,JB 2] [] [] 0 (by omega) (by omega) (by simp) (by omega) (by omega) rfl (by
  intro f hf';simp at hf';rcases hf' with rfl | rfl | rfl <;> exact Xa) (by simp) (by simp) (by simp) (by simp)
 refine Jt9 (args:=[.s (Jk act),dI 0,.s (dF [JB 0,JB 1,JB 2]),.s (dF []),.s (dF [])]) rfl rfl e rfl ?_;refine JtU ?_;show [D.s (Qi (walk (act.drop (0:Int).toNat) [JB 0,JB 1,JB 2] [] []))]=_;simp[Jt,h]
/- What the reference's parts,pins,and draws of them come to. -/
def Ym (as:List (List Jg)):Prop:=as.length≤2000000∧∀a∈as,KE a
theorem JgT.fit {as:List (List Jg)} (h:JgT as):Ym as:=⟨by have:=h.1;omega,fun a ha=>(h.2 a ha).fit⟩
theorem JoZ (as:List (List Jg)) (hf:Ym as):Ev L f_kf [.s (Je as)] [dB (Qv as)]:=by
 have hl:=hf.1;refine Juq (vs:=[.l (Je as)]) L_kf rfl ?_;refine Jua (JQ as.length 1 4) rfl ?_ rfl ?_
 ·show [dI ((Je as).length:Int),dI 1,dI 4]=_;rw[JM]
 refine JtQ (inB as.length 1 4) rfl (fun h=>JtU ?_) (fun h=>?_)
 ·show [dB false]=_;simp[Qv,h]
 refine Jt7 as.length (fun i=>[.i i]) (fun i=>(as.take i).all Qt=true) rfl rfl (by simp) fun i hi hp=>?_;refine Jub i (JM as) rfl (fun h'=>?_) (fun h'=>?_)
 ·obtain⟨x,hx,hm⟩:=sA1 h';refine JtX i (mA1 (f:=fun a=> .s (Jk a)) hx) rfl rfl rfl rfl ?_;refine Jua (Jai x (hf.2 x hm)) rfl rfl rfl ?_;refine JtQ (Qt x) rfl (fun hb=>Juj (JtU ?_)) (fun hb=>?_)
  ·show [dB false]=_;simp[Qv,Yl hx hb]
  ·refine Juk (vs:=[.i ((i+1:Nat):Int)]) ?_ ⟨h',rfl,QT hx hp hb⟩;show [V.i (i64.wrap ((i:Int)+1))]=_;rw[wS h' (by omega)]
 ·refine Juj (JtU ?_);rw[tA1 h'] at hp;show [dB true]=_;simp only[Qv,h,hp];simp
theorem Jd0 (f:Frm) (hl:Lim 1000000000 f.c) (hn:f.c.length≤2000000):Ev L f_k14 f.cells [.s (dL (Jl f.c))]:=by
 refine Juq (vs:=[.l (dL f.c),.l (dL f.d),.i f.k]) L_k14 rfl ?_;refine Jt7 f.c.length (fun i=>[.l (dL (Jl (f.c.take i))),.i (Zc (f.c.take i)),.i i]) (fun _=>True) rfl rfl trivial fun i hi _=>?_;refine Jub i (dL1 f.c) rfl (fun h=>?_) (fun h=>?_)
 ·obtain⟨x,hx,hm⟩:=sA1 h;have hd:=mA1 (f:=dI) hx;have hxl:=hl x hm;have hs:=Jiq (f.c.take i) x;have hps:=Jmp (f.c.take i) x;rw[←tS1 hx] at hs hps;have hlen:(Jl (f.c.take i)).length≤i:=by rw[VD];simp;omega
  have hin:=Jgy (f.c.take i);have fin :∀(s:Int) (l:List V),s=Zc (f.c.take (i+1))→[V.l (dL (Jl (f.c.take i))++[dI (i64.wrap (s*x))]),V.i s,V.i (i64.wrap ((i:Int)+1))]=[V.l (dL (Jl (f.c.take (i+1)))),.i (Zc (f.c.take (i+1))),.i ((i+1:Nat):Int)]:=by
   intro s _ e;subst e;rw[wS h (by omega),hps,w64,Q6]
   ·rcases Jgy (f.c.take (i+1)) with e | e | e <;> rw[e] <;> omega
   ·rcases Jgy (f.c.take (i+1)) with e | e | e <;> rw[e] <;> omega
  generalize hS:Zc (f.c.take i)=S at *;refine Jue (S=0) rfl (fun h0=>?_) (fun h0=>?_)
  ·subst h0;simp only[if_true] at hs;refine JtX i hd rfl rfl rfl rfl ?_;refine Jue (0<x) rfl (fun h1=>?_) (fun h1=>?_)
   ·refine JtX i hd rfl rfl rfl rfl ?_;refine JtN (dL (Jl (f.c.take i))) 2000000 (by rw[dL1];omega) (by omega) rfl ?_;rw[if_pos h1] at hs;exact Juk (fin 1 [] hs.symm) ⟨h,rfl,trivial⟩
   ·refine Jue ((0:Int)=0) rfl (fun _=>?_) (fun h=>absurd rfl h);refine JtX i hd rfl rfl rfl rfl ?_;refine Jue (x<0) rfl (fun h2=>?_) (fun h2=>?_)
    ·refine JtX i hd rfl rfl rfl rfl ?_;refine JtN (dL (Jl (f.c.take i))) 2000000 (by rw[dL1];omega) (by omega) rfl ?_;rw[if_neg h1,if_pos h2] at hs;exact Juk (fin (-1) [] hs.symm) ⟨h,rfl,trivial⟩
    ·refine JtX i hd rfl rfl rfl rfl ?_;refine JtN (dL (Jl (f.c.take i))) 2000000 (by rw[dL1];omega) (by omega) rfl ?_;rw[if_neg h1,if_neg h2] at hs;exact Juk (fin 0 [] hs.symm) ⟨h,rfl,trivial⟩
  ·rw[if_neg h0] at hs;refine Jue (S=0) rfl (fun h=>absurd h h0) (fun _=>?_);refine JtX i hd rfl rfl rfl rfl ?_;refine JtN (dL (Jl (f.c.take i))) 2000000 (by rw[dL1];omega) (by omega) rfl ?_;exact Juk (fin S [] hs.symm) ⟨h,rfl,trivial⟩
 ·refine Juj (JtU ?_);show [D.s (dL (Jl (f.c.take i)))]=_;rw[tA1 h]
def Jse (cmp : E) (sh : Sh) : R :=
  .ite (.not (.cmp .eq (.len (.v 0)) (.len (.v 1))))
   (
    .done [(.vb .ff)])
   (
    .loop 2 [(.z 0)] <|
      .ite (.cmp .lt (.v 2) (.len (.v 0)))
       (
        .i (.idx (.v 0) (.v 2) sh 3) <|
        .i (.idx (.v 1) (.v 2) sh 4) <|
        .ite (.not cmp)
         (
          .esc <|
          .done [(.vb .ff)])
         (
          .next [(.bin .add .i64 (.v 2) (.z 1))]))
       (
        .esc <|
        .done [(.vb .tt)]))
theorem JgP {α:Type} [DecidableEq α] {f:FuncId} {H:ZQ} {s:Sig} {cmp:E} {sh:Sh} (enc:α→D) (vOf:α→V) (a b:List α) (hf:L.lookup f=some ⟨s,.r H (Jse cmp sh)⟩) (hs:U8 s=[.s,.s])
  (hb :∀x,KG sh (enc x)=some [vOf x]) (hc :∀(v0 v1 v2:V) (x y:α),bol (Jm [v0,v1,v2,vOf x,vOf y]) cmp=decide (x=y)) (hl:a.length≤2000000) :
  Ev L f [.s (a.map enc),.s (b.map enc)] [dB (decide (a=b))]:=by
 refine Juq (vs:=[.l (a.map enc),.l (b.map enc)]) hf (by rw[hs];rfl) ?_;refine Jue (¬a.length=b.length) ?_ (fun h=>JtU ?_) (fun h=>?_)
 ·show (!(decide (((a.map enc).length:Int)=((b.map enc).length:Int))))=_;rw[JuB,JuB]
  by_cases h:a.length=b.length
  ·simp[h]
  ·simp[h,show ¬(a.length:Int)=b.length by omega]
 ·show [dB false]=_;rw[decide_eq_false];intro e;exact h (by rw[e])
 have h:a.length=b.length:=Classical.not_not.1 h;refine Jt7 a.length (fun i=>[.i i]) (fun i=>a.take i=b.take i) rfl rfl rfl fun i hi hp=>?_;refine Jub i (JuB (f:=enc) (as:=a)) rfl (fun h'=>?_) (fun h'=>?_)
 ·obtain⟨x,hx,_⟩:=sA1 h';obtain⟨y,hy,_⟩:=sA1 (show i<b.length by omega);refine JtX i (mA1 (f:=enc) hx) rfl rfl rfl (hb x) ?_;refine JtX i (mA1 (f:=enc) hy) rfl rfl rfl (hb y) ?_;refine JtQ (decide (x=y)) ?_ (fun hxy=>Juj (JtU ?_)) (fun hxy=>?_)
  ·show (!(bol (Jm [V.l (a.map enc),.l (b.map enc),.i i,vOf x,vOf y]) cmp))=_;rw[hc]
  ·show [dB false]=_;rw[decide_eq_false];intro e;subst e;rw[hx] at hy;simp only[Jur] at hy;simp[hy] at hxy
  ·have hxy:x=y:=by simpa using hxy
   subst hxy;refine Juk (vs:=[.i ((i+1:Nat):Int)]) ?_ ⟨h',rfl,by show a.take (i+1)=b.take (i+1);rw[tS1 hx,tS1 hy,hp]⟩;show [V.i (i64.wrap ((i:Int)+1))]=_;rw[wS h' (by omega)]
 ·refine Juj (JtU ?_);rw[tA1 h',tA1 (by omega)] at hp;subst hp;show [dB true]=_;simp
theorem Ja7 (a b:List Int) (hl:a.length≤2000000):Ev L f_k15 [.s (dL a),.s (dL b)] [dB (decide (a=b))] :=
 JgP dI .i a b L_k15 rfl (fun _=>rfl) (fun _ _ _ _ _=>rfl) hl
theorem JfR (l:List (List Int)) (p:List Int) (hl:l.length≤2000000) (hq :∀q∈l,q.length≤2000000):Ev L f_k16 [.s (dLL l),.s (dL p)] [dI (K4 l p)]:=by
 refine Juq (vs:=[.l (dLL l),.l (dL p)]) L_k16 rfl ?_;refine Jt7 l.length (fun i=>[.i i]) (fun i=>(l.take i).any (fun q=>decide (q=p))=false) rfl rfl (by simp) fun i hi hn=>?_;refine Jub i (Uv l) rfl (fun h=>?_) (fun h=>?_)
 ·obtain⟨x,hx,hm⟩:=sA1 h;refine JtX i (mA1 (f:=fun x=> .s (dL x)) hx) rfl rfl rfl rfl ?_;refine Jua (Ja7 x p (hq x hm)) rfl rfl rfl ?_;refine Jt4 (decide (x=p)) rfl (fun hp=>Juj (JtU ?_)) (fun hp=>?_)
  ·show [dI i]=_;rw[K4,Jd6 hx hp hn]
  ·refine Juk (vs:=[.i ((i+1:Nat):Int)]) ?_ ⟨h,rfl,JdI hx hn hp⟩;show [V.i (i64.wrap ((i:Int)+1))]=_;rw[wS h (by omega)]
 ·refine Juj (JtU ?_);rw[tA1 h] at hn;show [dI (-1)]=_;rw[K4,Jdg hn]
theorem JpM (p:List Bool):Ya 1 (dBl p)=true:=by cases p <;> rfl
theorem Jdn (p:List Bool) (fs:List Frm) (hp:p.length=3) (hc :∀f∈fs,f.c.length=3) (hl:fs.length≤2000000):Ev L f_k13 [.s (dBl p),.s (dF fs)] [.s (dBl (QM p fs))]:=by
 refine Juq (vs:=[.l (dBl p),.l (dF fs)]) L_k13 rfl ?_;refine JtV (dBl p) 3 (by rw[Jhd];omega) (by omega) rfl ?_;refine Jt0 (JpM p) ?_;refine JtV (dBl p) 3 (by rw[Jhd];omega) (by omega) rfl ?_;refine Jt7 fs.length (fun i=>[.l (dBl (QM p (fs.take i))),.i i]) (fun _=>True) rfl rfl trivial fun i hi _=>?_;refine Jub i (J5 fs) rfl (fun h=>?_) (fun h=>?_)
 ·obtain⟨x,hx,hm⟩:=sA1 h;have hx3:=hc x hm;have hP:(QM p (fs.take i)).length=3:=Z9 hp fun f hf=>hc f (JuQ hf);have hS:QM p (fs.take (i+1))=Uu (QM p (fs.take i)) x.c:=Xv hx;generalize QM p (fs.take i)=P at *;have hO:(Uu P x.c).length=3:=by rw[JaZ];omega
  refine Jt7 3 (fun v=>[.l (dBl ((Uu P x.c).take v++P.drop v)),.i v]) (fun _=>True) rfl rfl trivial fun v hv _=>?_;refine JtZ v 3 rfl (fun hv3=>?_) (fun hv3=>?_)
  ·obtain⟨n,hn,_⟩:=sA1 (show v<x.c.length by omega);obtain⟨b,hb,_⟩:=sA1 (show v<P.length by omega);have ho:(Uu P x.c)[v]? = some (b||decide (n≠0)):=by simp[Uu,List.getElem?_zipWith,hn,hb]
   refine JtX i (mA1 (f:=Frm.g) hx) rfl rfl rfl rfl ?_;refine JtX v (mA1 (f:=dI) hn) rfl rfl rfl rfl ?_;have hlen:((Uu P x.c).take v++P.drop v).length=3:=by simp;omega
   refine JtQ (decide (n=0)) rfl (fun h0=>?_) (fun h0=>?_)
   ·obtain⟨b',hb',_⟩:=sA1 (show v<((Uu P x.c).take v++P.drop v).length by omega);refine Jul v (mA1 (f:=dB) hb') rfl rfl rfl rfl rfl rfl ?_;have h0:n≠0:=by simpa using h0
    have ho:(Uu P x.c)[v]? = some true:=by rw[ho];simp[h0]
    refine Juk (vs:=[.l (dBl ((Uu P x.c).take (v+1)++P.drop (v+1))),.i ((v+1:Nat):Int)]) ?_ ⟨hv3,rfl,trivial⟩;show [V.l ((dBl ((Uu P x.c).take v++P.drop v)).set (v:Int).toNat (dB true)),V.i (i64.wrap ((v:Int)+1))]=_;rw[wS hv3 (by omega),Jk0,Int.toNat_natCast,Jo1 (by omega) ho]
   ·have h0:n=0:=by simpa using h0
    refine Juk (vs:=[.l (dBl ((Uu P x.c).take (v+1)++P.drop (v+1))),.i ((v+1:Nat):Int)]) ?_ ⟨hv3,rfl,trivial⟩;show [V.l (dBl ((Uu P x.c).take v++P.drop v)),V.i (i64.wrap ((v:Int)+1))]=_;rw[wS hv3 (by omega),Jmj (s:=b) (by rw[ho];simp[h0]) hb]
  ·have:v=3:=by omega
   subst this;rw[Juw (by omega),List.drop_eq_nil_of_le (by omega),List.append_nil];refine Juj ?_;refine Juk (vs:=[.l (dBl (QM p (fs.take (i+1)))),.i ((i+1:Nat):Int)]) ?_ ⟨h,rfl,trivial⟩;show [V.l (dBl (Uu P x.c)),V.i (i64.wrap ((i:Int)+1))]=_;rw[wS h (by omega),hS]
 ·refine Juj (JtU ?_);show [D.s (dBl (QM p (fs.take i)))]=_;rw[tA1 h]
/- What the reference's catalogue of parts and pins comes to. -/
structure Qn (n:Nat) (s:List (List Int)):Prop where
 len:s.length≤n
 each :∀q∈s,q.length=3∧Lim 10000000 q
theorem Qn.add {n:Nat} {s:List (List Int)} (h:Qn n s) {f:Frm} (hf:Std 10000000 f):Qn (n+1) (Jn s f) :=
 ⟨by have:=Jip s f;have:=h.len;omega,Ji4 h.each ⟨by rw[VD];exact hf.c,Jnt hf.lc⟩⟩
theorem Qn.mono {n m:Nat} {s:List (List Int)} (h:Qn n s) (hm:n≤m):Qn m s:=⟨by have:=h.len;omega,h.each⟩
theorem Qn.adds {n:Nat} {s:List (List Int)} (h:Qn n s) {fs:List Frm} (hf :∀f∈fs,Std 10000000 f):Qn (n+fs.length) (fs.foldl Jn s):=by
 induction fs generalizing n s with
 | nil=>exact h
 | cons f fs ih=>exact(ih (h.add (hf f (by simp))) fun g hg=>hf g (by simp[hg])).mono (by simp;omega)
theorem Qn.rows {n:Nat} {s:List (List Int)×List Bool} (h:Qn n s.1) (h3:s.2.length=3) {rs:List Row} (hr :∀r∈rs,YR r):Qn (n+6*rs.length) (rs.foldl QO s).1∧(rs.foldl QO s).2.length=3:=by
 induction rs generalizing n s with
 | nil=>exact⟨h,h3⟩
 | cons r rs ih =>
  have hr1:=hr r (by simp);have a:=(h.adds hr1.g).mono (show n+r.guards.length≤n+6 by have:=hr1.gl;omega);have b:(QO s r).2.length=3:=Z9 (Z9 h3 fun f hf=>(hr1.a f hf).c) fun f hf=>(hr1.t f hf).c;have:=ih (s:=QO s r) (n:=n+6) a b fun x hx=>hr x (by simp[hx]);exact⟨this.1.mono (by simp;omega),this.2⟩
theorem Jec (as:List (List Jg)):Qn (3+384*as.length) (US as).1∧(US as).2.length=3:=by
 have key :∀(n:Nat) (s:List (List Int)×List Bool),Qn n s.1→s.2.length=3→Qn (n+384*as.length) (as.foldl Yo s).1∧(as.foldl Yo s).2.length=3:=by
  induction as with
  | nil=>intro n s h h3;exact⟨h,h3⟩
  | cons a as ih =>
   intro n s h h3;have:=h.rows h3 (rs:=Jt a) Yg;have hl:=KO a;have:=ih (n+384) (Yo s a) (this.1.mono (by omega)) this.2;exact⟨this.1.mono (by simp;omega),this.2⟩
 refine key 3 _ ⟨by simp[YM],?_⟩ rfl;intro q hq;simp[YM] at hq;rcases hq with rfl | rfl | rfl <;> exact⟨rfl,by intro x hx;simp at hx;omega⟩
theorem rdR {rs:List Row} {i:Nat} {r:Row} (h:rs[i]? = some r):(Qi rs)[i]? = some r.g:=mA1 (f:=Row.g) h
set_option maxHeartbeats 8000000 in
theorem Je8 (as:List (List Jg)) (hf:Ym as) (h4:as.length≤4):Ev L f_k17 [.s (Je as)] [.s (dLL (US as).1),.s (dBl (US as).2)]:=by
 refine Juq (vs:=[.l (Je as)]) L_k17 rfl ?_;refine Jt7 3 (fun v=>[.l (dLL (YM.take v)),.i v]) (fun _=>True) rfl rfl trivial fun v hv _=>?_;refine JtZ v 3 rfl (fun hv3=>?_) (fun hv3=>?_)
 ·refine Jua (ZJ v (by omega) (by omega)) rfl rfl rfl ?_;have hp:YM[v]? = some (JB (v:Int).toNat).c:=by
   rw[Int.toNat_natCast]
   match v,hv3 with
   | 0,_ | 1,_ | 2,_=>rfl
   | n+3,h=>omega
  refine JtN (dLL (YM.take v)) 3 (by rw[Uv];simp;omega) (by omega) rfl ?_;refine Juk (vs:=[.l (dLL (YM.take (v+1))),.i ((v+1:Nat):Int)]) ?_ ⟨hv3,rfl,trivial⟩;show [V.l (dLL (YM.take v)++[.s (dL (JB (v:Int).toNat).c)]),V.i (i64.wrap ((v:Int)+1))]=_;rw[wS hv3 (by omega),JaU,tS1 hp]
 have hv3:v=3:=by omega
 subst hv3;refine Juj ?_;refine Jum as.length (fun i vs=>∃ b:List (List Int)×List Bool,vs=[.l (dLL b.1),.l (dBl b.2),.i i]∧b=US (as.take i)) rfl ⟨(YM,[false,false,false]),rfl,rfl⟩ ?_;rintro i _ hi ⟨⟨b1,b2⟩,rfl,hb⟩;simp only[sC,sN];refine Jub i (JM as) rfl (fun h=>?_) (fun h=>?_)
 ·obtain⟨a,ha,hm⟩:=sA1 h;have hB:US (as.take (i+1))=Yo (b1,b2) a:=by rw[hb];exact Xv ha
  obtain⟨f1,f2⟩:=Jec (as.take i);rw[←hb] at f1 f2;have f1:=f1.mono (show 3+384*(as.take i).length≤1600 by simp;omega);have hrl:=KO a;refine JtX i (mA1 (f:=fun a=> .s (Jk a)) ha) rfl rfl rfl rfl ?_;refine Jua (JfV a (hf.2 a hm)) rfl rfl rfl ?_;have hrf :∀r∈Jt a,YR r:=Yg;have hAB:Yo (b1,b2) a=(Jt a).foldl QO (b1,b2):=rfl;generalize Jt a=rs at *;refine Jum rs.length (fun k vs=>∃ c:List (List Int)×List Bool,vs=[.l (dLL c.1),.l (dBl c.2),.i k]∧c=(rs.take k).foldl QO (b1,b2)) rfl ⟨(b1,b2),rfl,rfl⟩ ?_;rintro k _ hk ⟨⟨c1,c2⟩,rfl,hc⟩;simp only[sC,sN];refine Jub k (X6 rs) rfl (fun h'=>?_) (fun h'=>?_)
  ·obtain⟨r,hr,hmr⟩:=sA1 h';have hfit:=hrf r hmr;have hC:(rs.take (k+1)).foldl QO (b1,b2)=QO (c1,c2) r:=by rw[hc];exact Xv hr
   obtain⟨g1,g2⟩:=f1.rows f2 (rs:=rs.take k) fun x hx=>hrf x (JuQ hx);rw[←hc] at g1 g2;have g1:=g1.mono (show 1600+6*(rs.take k).length≤2000 by simp;omega);have hRd:=rdR hr;refine Jul k hRd rfl rfl rfl rfl rfl rfl ?_;refine Jua (Jdn c2 r.adds g2 (fun f hf=>(hfit.a f hf).c) (by have:=hfit.al;omega)) rfl rfl rfl ?_;refine Jul k hRd rfl rfl rfl rfl rfl rfl ?_;have e3:(QM c2 r.adds).length=3:=Z9 g2 fun f hf=>(hfit.a f hf).c;refine Jua (Jdn (QM c2 r.adds) r.tells e3 (fun f hf=>(hfit.t f hf).c) (by have:=hfit.tl;omega)) rfl rfl rfl ?_;have hR:QO (c1,c2) r=(r.guards.foldl Jn c1,QM (QM c2 r.adds) r.tells):=rfl;generalize QM (QM c2 r.adds) r.tells=d2 at *;generalize QM c2 r.adds=d1 at *;have hgl:=hfit.gl;refine Jum r.guards.length (fun g vs=>∃ e:List (List Int),vs=[.l (dLL e),.i g]∧e=(r.guards.take g).foldl Jn c1) rfl ⟨c1,rfl,rfl⟩ ?_;rintro g _ hg ⟨e,rfl,he⟩;simp only[sC,sN];refine Jul k hRd rfl rfl rfl rfl rfl rfl ?_;refine Jub g (J5 r.guards) rfl (fun hg'=>?_) (fun hg'=>?_)
   ·obtain⟨f,hfg,hmf⟩:=sA1 hg';have hsf:=hfit.g f hmf;have hE:(r.guards.take (g+1)).foldl Jn c1=Jn e f:=by rw[he];exact Xv hfg
    have e1:=(g1.adds (fs:=r.guards.take g) fun x hx=>hfit.g x (JuQ hx)).mono (show 2000+(r.guards.take g).length≤2010 by simp;omega);rw[←he] at e1;have nx :∀(x:List (List Int)),x=Jn e f→[V.l (dLL x),V.i (i64.wrap ((g:Int)+1))]=[.l (dLL (Jn e f)),.i ((g+1:Nat):Int)]:=by
     intro x hx;rw[hx,wS hg' (by omega)]
    refine Jul k hRd rfl rfl rfl rfl rfl rfl ?_;refine JtX g (mA1 (f:=Frm.g) hfg) rfl rfl rfl rfl ?_;refine Jua (Jd0 f (hsf.lc.mono (by omega)) (by rw[hsf.c];omega)) rfl rfl rfl ?_;have el:=e1.len;have hp3:(Jl f.c).length=3:=by rw[VD];exact hsf.c
    have hAP:Jn e f=if K4 e (Jl f.c)<0∧Jl f.c≠[0,0,0] then e++[Jl f.c] else e:=rfl;generalize Jl f.c=pt at *;refine Jua (JfR e pt (by omega) (fun q hq=>by rw[(e1.each q hq).1];omega)) rfl rfl rfl ?_;generalize K4 e pt=ha at *;refine Jue (ha<0) rfl (fun h0=>?_) (fun h0=>?_)
    ·refine Jua XX rfl rfl rfl ?_;refine Jua (Ja7 pt [0,0,0] (by omega)) rfl rfl rfl ?_;refine JtQ (decide (pt=[0,0,0])) rfl (fun hz=>?_) (fun hz=>?_)
     ·refine JtN (dLL e) 3000 (by rw[Uv];omega) (by omega) rfl ?_;refine Juk (vs:=[.l (dLL (Jn e f)),.i ((g+1:Nat):Int)]) ?_ ⟨hg',Jn e f,rfl,hE.symm⟩;show [V.l (dLL e++[.s (dL pt)]),V.i (i64.wrap ((g:Int)+1))]=_;rw[JaU];refine nx _ ?_;rw[hAP,if_pos ⟨h0,by simpa using hz⟩]
     ·refine Juk (nx e ?_) ⟨hg',Jn e f,rfl,hE.symm⟩;rw[hAP,if_neg];intro ⟨_,h⟩;exact h (by simpa using hz)
    ·refine Juk (nx e ?_) ⟨hg',Jn e f,rfl,hE.symm⟩;rw[hAP,if_neg];intro ⟨h,_⟩;exact h0 h
   ·refine Juj ?_;rw[tA1 hg'] at he;refine Juk (vs:=[.l (dLL e),.l (dBl d2),.i ((k+1:Nat):Int)]) ?_ ⟨h',(e,d2),rfl,by rw[hC,hR,he]⟩;show [V.l (dLL e),V.l (dBl d2),V.i (i64.wrap ((k:Int)+1))]=_;rw[wS h' (by omega)]
  ·refine Juj ?_;rw[tA1 h'] at hc;refine Juk (vs:=[.l (dLL c1),.l (dBl c2),.i ((i+1:Nat):Int)]) ?_ ⟨h,(c1,c2),rfl,by rw[hB,hAB,hc]⟩;show [V.l (dLL c1),V.l (dBl c2),V.i (i64.wrap ((i:Int)+1))]=_;rw[wS h (by omega)]
 ·refine Juj (JtU ?_);show [D.s (dLL b1),.s (dBl b2)]=_;rw[tA1 h] at hb;rw[←hb]
theorem X0 {as:List (List Jg)} (h:Qv as=true):1≤as.length∧as.length≤4∧∀a∈as,Qt a=true:=by
 simp only[Qv,Jus,Jp,JuF] at h;exact⟨by omega,by omega,h.2⟩
theorem Q9 (as:List (List Jg)):Qn 1600 (Jb as):=by
 unfold Jb;split
 ·rename_i h;exact(Jec as).1.mono (by have:=(X0 h).2.1;omega)
 ·exact⟨by simp,by simp⟩
/- What the reference's treaties come to. -/
theorem Y4 (l:List Int) (hl:l.length≤2000000):Ev L f_kg [.s (dL l)] [dB (JU l)] :=
 Juq (vs:=[.l (dL l)]) L_kg rfl (Jua (Xl l 3 10000 hl (by omega) (by omega)) rfl rfl rfl (JtU rfl))
theorem Jbv (b g:List Int) (hb:b.length≤2000000) (hg:g.length≤2000000):Ev L f_kh [.s (dL b),.s (dL g)] [dB (Qu b g)]:=by
 refine Juq (vs:=[.l (dL b),.l (dL g)]) L_kh rfl ?_;refine Jua (Y4 b hb) rfl rfl rfl ?_;refine JtQ (JU b) rfl (fun h=>JtU ?_) (fun h=>?_)
 ·show [dB false]=_;simp[Qu,h]
 refine Jua (JQ g.length 1 3) rfl ?_ rfl ?_
 ·show [dI ((dL g).length:Int),dI 1,dI 3]=_;rw[dL1]
 refine JtQ (inB g.length 1 3) rfl (fun h2=>JtU ?_) (fun h2=>?_)
 ·show [dB false]=_;simp[Qu,h2]
 refine Jt7 g.length (fun i=>[.i i]) (fun i=>(g.take i).all (fun x=>inB x 0 50)=true) rfl rfl (by simp) fun i hi hp=>?_;refine Jub i (dL1 g) rfl (fun h'=>?_) (fun h'=>?_)
 ·obtain⟨x,hx,hm⟩:=sA1 h';refine JtX i (mA1 (f:=dI) hx) rfl rfl rfl rfl ?_;refine Jua (JQ x 0 50) rfl rfl rfl ?_;refine JtQ (inB x 0 50) rfl (fun hb=>Juj (JtU ?_)) (fun hb=>?_)
  ·show [dB false]=_;simp only[Qu,Yl (p:=fun x=>inB x 0 50) hx hb,Bool.and_false]
  ·refine Juk (vs:=[.i ((i+1:Nat):Int)]) ?_ ⟨h',rfl,QT (p:=fun x=>inB x 0 50) hx hp hb⟩;show [V.i (i64.wrap ((i:Int)+1))]=_;rw[wS h' (by omega)]
 ·refine Juj (JtU ?_);rw[tA1 h'] at hp;show [dB true]=_;simp only[Qu,h,h2,hp];rfl
def fitLL (ps:List (List Int)):Prop:=ps.length≤2000000∧∀p∈ps,p.length≤2000000
theorem JdP (ps:List (List Int)) (hp:fitLL ps):Ev L f_k1f [.s (dLL ps)] [dB (QP ps)]:=by
 have hl:=hp.1;refine Juq (vs:=[.l (dLL ps)]) L_k1f rfl ?_;refine Jt7 ps.length (fun i=>[.i i]) (fun i=>(ps.take i).all (fun p=>JH 3 10000000 p)=true) rfl rfl (by simp) fun i hi hq=>?_;refine Jub i (Uv ps) rfl (fun h'=>?_) (fun h'=>?_)
 ·obtain⟨x,hx,hm⟩:=sA1 h';refine JtX i (mA1 (f:=fun x=> .s (dL x)) hx) rfl rfl rfl rfl ?_;refine Jua (Xl x 3 10000000 (hp.2 x hm) (by omega) (by omega)) rfl rfl rfl ?_;refine JtQ (JH 3 10000000 x) rfl (fun hb=>Juj (JtU ?_)) (fun hb=>?_)
  ·show [dB false]=_;simp only[QP,Yl (p:=fun p=>JH 3 10000000 p) hx hb]
  ·refine Juk (vs:=[.i ((i+1:Nat):Int)]) ?_ ⟨h',rfl,QT (p:=fun p=>JH 3 10000000 p) hx hq hb⟩;show [V.i (i64.wrap ((i:Int)+1))]=_;rw[wS h' (by omega)]
 ·refine Juj (JtU ?_);rw[tA1 h'] at hq;show [dB true]=_;simp only[QP,hq]
theorem Jeu {a b:List Int} {i:Nat} {x y:Int} (hx:a[i]? = some x) (hy:b[i]? = some y):dot (a.take (i+1)) (b.take (i+1))=dot (a.take i) (b.take i)+x*y:=by
 have h1:=(Jut.1 hx).1;have h2:=(Jut.1 hy).1;rw[tS1 hx,tS1 hy,JoT x y (by simp;omega)]
theorem Jjh {a b:List Int} {i:Nat} {x y:Int} (hx:a[i]? = some x) (hy:b[i]? = some y) (ha:Lim 100000000 a) (hb:Lim 1000000 b) (hi:i<1000) :
  i64.wrap (dot (a.take i) (b.take i)+i64.wrap (x*y))=dot (a.take (i+1)) (b.take (i+1)):=by
 have h1:=Kr (ha.take i) (hb.take i) (by omega) (by omega);have h2:((a.take i).length:Int)≤1000:=by simp;omega
 have h3:=UE (ha x (Juz hx)) (hb y (Juz hy));rw[Jeu hx hy,w64 (n:=x*y) (by omega) (by omega),w64 (by omega) (by omega)]
theorem Jkg (p a:List Int) (hp:JH 3 10000000 p=true) (ha:JH 3 20000 a=true):Ev L f_k1g [.s (dL p),.s (dL a)] [dI (dot p a)]:=by
 obtain⟨p1,p2⟩:=Jo.1 hp;obtain⟨a1,a2⟩:=Jo.1 ha;have p2:Lim 100000000 p:=Lim.mono (m:=10000000) p2 (by omega);have a2:Lim 1000000 a:=Lim.mono (m:=20000) a2 (by omega);refine Juq (vs:=[.l (dL p),.l (dL a)]) L_k1g rfl ?_;refine Jt7 3 (fun i=>[.i (dot (p.take i) (a.take i)),.i i]) (fun _=>True) rfl rfl trivial fun i hi _=>?_;refine JtZ i 3 rfl (fun h=>?_) (fun h=>?_)
 ·obtain⟨x,hx,_⟩:=sA1 (show i<p.length by omega);obtain⟨y,hy,_⟩:=sA1 (show i<a.length by omega);refine JtX i (mA1 (f:=dI) hx) rfl rfl rfl rfl ?_;refine JtX i (mA1 (f:=dI) hy) rfl rfl rfl rfl ?_;refine Juk (vs:=[.i (dot (p.take (i+1)) (a.take (i+1))),.i ((i+1:Nat):Int)]) ?_ ⟨h,rfl,trivial⟩;show [V.i (i64.wrap (dot (p.take i) (a.take i)+i64.wrap (x*y))),V.i (i64.wrap ((i:Int)+1))]=_;rw[wS h (by omega),Jjh hx hy p2 a2 (by omega)]
 ·refine Juj (JtU ?_);show [dI (dot (p.take i) (a.take i))]=_;rw[Juw (by omega),Juw (by omega)]
theorem JaR {l:List Int} {i:Nat} (h:i<l.length):l[i]? = some (l.getD i 0):=by simp[Juv,h]
theorem Zu (b g:List Int) (ps:List (List Int)) (s:Int) (a:List Int) (hb:b.length≤2000000) (hg:g.length≤2000000) (hp:fitLL ps) (ha:a.length≤2000000) :
  Ev L f_k1h [.s (dL b),.s (dL g),.s (dLL ps),dI s,.s (dL a)] [dB (keeps b g ps s a)]:=by
 have hpl:=hp.1;refine Juq (vs:=[.l (dL b),.l (dL g),.l (dLL ps),.i s,.l (dL a)]) L_k1h rfl ?_;refine Jua (Jbv b g hb hg) rfl rfl rfl ?_;refine JtQ (Qu b g) rfl (fun h=>JtU ?_) (fun h=>?_)
 ·show [dB false]=_;simp[keeps,h]
 refine Jua (JdP ps hp) rfl rfl rfl ?_;refine JtQ (QP ps) rfl (fun h2=>JtU ?_) (fun h2=>?_)
 ·show [dB false]=_;simp[keeps,h2]
 refine Jua (JQ s 0 (g.length-1)) rfl ?_ rfl ?_
 ·show [dI s,dI 0,dI (i64.wrap (((dL g).length:Int)-1))]=_;rw[dL1,w64 (by omega) (by omega)]
 refine JtQ (inB s 0 (g.length-1)) rfl (fun h3=>JtU ?_) (fun h3=>?_)
 ·show [dB false]=_;simp[keeps,h3]
 refine Jua (Xl a 3 20000 ha (by omega) (by omega)) rfl rfl rfl ?_;refine JtQ (JH 3 20000 a) rfl (fun h4=>JtU ?_) (fun h4=>?_)
 ·show [dB false]=_;simp[keeps,Qy,h4]
 have hs:=Jp.1 h3;have hsg:s.toNat<g.length:=by omega
 have hgs:=JaR hsg;have hgm:=XI (p:=fun x=>0≤x∧x≤50) (l:=g) (by
  intro x hx;simp only[Qu,Jus,JuF] at h;exact Jp.1 (h.2 x hx)) hsg
 have hdS:(dL g)[s.toNat]? = some (dI (g.getD s.toNat 0)):=mA1 (f:=dI) hgs;simp only[keeps,Qy,h,h2,h3,h4,JuM];generalize g.getD s.toNat 0=G at *;refine Jt7 ps.length (fun i=>[.i i]) (fun i=>(ps.take i).all (Kg G a)=true) rfl rfl (by simp) fun i hi hq=>?_;refine Jub i (Uv ps) rfl (fun h'=>?_) (fun h'=>?_)
 ·obtain⟨x,hx,hm⟩:=sA1 h';have hxo:JH 3 10000000 x=true:=JuF.1 h2 x hm;refine JtX i (mA1 (f:=fun x=> .s (dL x)) hx) rfl rfl rfl rfl ?_;refine Jua (Jkg x a hxo h4) rfl rfl rfl ?_;refine Jt5 (ds:=dL g) s rfl rfl rfl hs.1 hdS rfl ?_;refine Jt5 (ds:=dL g) s rfl rfl rfl hs.1 hdS rfl ?_;refine Jua (JQ (dot x a) (0-G) G) rfl ?_ rfl ?_
  ·show [dI (dot x a),dI (i64.wrap (0-G)),dI G]=_;rw[w64 (by omega) (by omega)]
  refine JtQ (inB (dot x a) (0-G) G) rfl (fun hb=>Juj (JtU ?_)) (fun hb=>?_)
  ·show [dB false]=_;rw[Yl (p:=Kg G a) hx hb]
  ·refine Juk (vs:=[.i ((i+1:Nat):Int)]) ?_ ⟨h',rfl,QT (p:=Kg G a) hx hq hb⟩;show [V.i (i64.wrap ((i:Int)+1))]=_;rw[wS h' (by omega)]
 ·refine Juj (JtU ?_);rw[tA1 h'] at hq;show [dB true]=_;rw[hq]
/- What the program's treaties come to. -/
theorem X7 (n a b:Int):Ev L f_k3a [dI n,dI a,dI b] [dB (inB n a b)]:=by
 refine Juq (vs:=[.i n,.i a,.i b]) L_k3a rfl ?_;refine Jue (a≤n) rfl (fun h=>JtU ?_) (fun h=>JtU ?_)
 ·show [dB (decide (n≤b))]=_;simp[inB,h]
 ·show [dB false]=_;simp[inB,h]
theorem JfC (p:Int→Bool) (l:List Int) {fn:FuncId} {caps:List D} (hlen:l.length≤2000000) (hcap:XK (.f fn caps) = .f fn caps) (har:arT L fn=some ([none]++caps.map fun _=>none))
  (hc :∀x∈l,Ev L fn ([dI x]++caps.map D.norm) [dB (p x)]):Ev L f_k3e [.s (dL l),.f fn caps] [dI (ZZ p l)] :=
 Z6 (sh:= .one (.i .i64)) (as:=[(.vi .i64 (.v 3))]) (ar:=[none]) (k:=4) dI p (fun x=>[dI x]) (fun x=>[.i x]) l L_k3e rfl hlen hcap (fun _ _=>rfl) (fun _ _=>rfl) (fun _ _ _ _=>rfl) har hc
theorem V6 (p:Int→Bool) (l:List Int) {fn:FuncId} {caps:List D} (hlen:l.length≤2000000) (hcap:XK (.f fn caps) = .f fn caps) (har:arT L fn=some ([none]++caps.map fun _=>none))
  (hc :∀x∈l,Ev L fn ([dI x]++caps.map D.norm) [dB (p x)]):Ev L f_k3f [.s (dL l),.f fn caps] [dB (l.any p)] :=
 Zo (g:=f_k3e) L_k3f rfl hcap (JfC p l hlen hcap har hc)
theorem Jdo (p:List Int→Bool) (l:List (List Int)) {fn:FuncId} {caps:List D} (hlen:l.length≤2000000) (hcap:XK (.f fn caps) = .f fn caps) (har:arT L fn=some ([none]++caps.map fun _=>none))
  (hc :∀x∈l,Ev L fn ([.s (dL x)]++caps.map D.norm) [dB (p x)]):Ev L f_k4e [.s (dLL l),.f fn caps] [dI (ZZ p l)] :=
 Z6 (sh:= .one .s) (as:=[(.s (.v 3))]) (ar:=[none]) (k:=4) (fun x=> .s (dL x)) p (fun x=>[.s (dL x)]) (fun x=>[.l (dL x)]) l L_k4e rfl hlen hcap (fun _ _=>rfl) (fun _ _=>rfl) (fun _ _ _ _=>rfl) har hc
theorem Jdu (p:List Int→Bool) (l:List (List Int)) {fn:FuncId} {caps:List D} (hlen:l.length≤2000000) (hcap:XK (.f fn caps) = .f fn caps) (har:arT L fn=some ([none]++caps.map fun _=>none))
  (hc :∀x∈l,Ev L fn ([.s (dL x)]++caps.map D.norm) [dB (p x)]):Ev L f_k4p [.s (dLL l),.f fn caps] [dB (l.any p)] :=
 Zo (g:=f_k4e) L_k4p rfl hcap (Jdo p l hlen hcap har hc)
theorem Uq {α:Type} (p:α→Bool) (l:List α):(!(l.any fun x=>!p x))=l.all p:=by
 induction l with
 | nil=>rfl
 | cons x l ih=>simp[ih]
theorem Jhz (x m:Int) (h0:0≤m) (hm:m≤10000000000000):Ev L f_k3d [dI x,.q [dI m]] [dB (!inB x (0-m) m)]:=by
 refine Juq (vs:=[.i x,.d (.q [dI m])]) L_k3d rfl ?_;refine Jud (vs:=[.i m]) rfl rfl ?_;refine Jud (vs:=[.i m]) rfl rfl ?_;refine Jua (X7 x (0-m) m) rfl ?_ rfl (JtU rfl);show [dI x,dI (i64.wrap (0-m)),dI m]=_;rw[w64 (by omega) (by omega)]
theorem XC (l:List Int) (n m:Int) (hl:l.length≤2000000) (h0:0≤m) (hm:m≤10000000000000):Ev L f_k3g [.s (dL l),dI n,dI m] [dB (JH n m l)]:=by
 refine Juq (vs:=[.l (dL l),.i n,.i m]) L_k3g rfl ?_;refine Jue ((l.length:Int)=n) ?_ (fun h=>?_) (fun h=>JtU ?_)
 ·show decide (((dL l).length:Int)=n)=_;rw[dL1]
 ·refine Jua (V6 (fun x=>!inB x (0-m) m) l (fn:=f_k3d) (caps:=[.q [dI m]]) hl rfl rfl fun x _=>Jhz x m h0 hm) rfl rfl rfl (JtU ?_);show [dB (!(l.any fun x=>!inB x (0-m) m))]=_;rw[Uq];simp[JH,h]
 ·show [dB false]=_;simp[JH,h]
theorem Jd3 (l:List Int) (hl:l.length≤2000000):Ev L f_k3q [.s (dL l)] [dB (JU l)] :=
 Juq (vs:=[.l (dL l)]) L_k3q rfl (Jua (XC l 3 10000 hl (by omega) (by omega)) rfl rfl rfl (JtU rfl))
theorem JkA (x:Int):Ev L f_k3p [dI x] [dB (!inB x 0 50)] :=
 Juq (vs:=[.i x]) L_k3p rfl (Jua (X7 x 0 50) rfl rfl rfl (JtU rfl))
theorem Jid (b g:List Int) (hb:b.length≤2000000) (hg:g.length≤2000000):Ev L f_k3r [.s (dL b),.s (dL g)] [dB (Qu b g)]:=by
 refine Juq (vs:=[.l (dL b),.l (dL g)]) L_k3r rfl ?_;refine Jua (Jd3 b hb) rfl rfl rfl ?_;refine Jt4 (JU b) rfl (fun h=>?_) (fun h=>JtU ?_)
 ·refine Jua (X7 g.length 1 3) rfl ?_ rfl ?_
  ·show [dI ((dL g).length:Int),dI 1,dI 3]=_;rw[dL1]
  refine Jt4 (inB g.length 1 3) rfl (fun h2=>?_) (fun h2=>JtU ?_)
  ·refine Jua (V6 (fun x=>!inB x 0 50) g (fn:=f_k3p) (caps:=[]) hg rfl rfl fun x _=>JkA x) rfl rfl rfl (JtU ?_);show [dB (!(g.any fun x=>!inB x 0 50))]=_;rw[Uq];simp[Qu,h,h2]
  ·show [dB false]=_;simp[Qu,h2]
 ·show [dB false]=_;simp[Qu,h]
theorem Jgf (p:List Int) (hp:p.length≤2000000):Ev L f_k4q [.s (dL p)] [dB (!JH 3 10000000 p)] :=
 Juq (vs:=[.l (dL p)]) L_k4q rfl (Jua (XC p 3 10000000 hp (by omega) (by omega)) rfl rfl rfl (JtU rfl))
theorem JjU (ps:List (List Int)) (hp:fitLL ps):Ev L f_k4r [.s (dLL ps)] [dB (QP ps)]:=by
 refine Juq (vs:=[.l (dLL ps)]) L_k4r rfl ?_;refine Jua (Jdu (fun p=>!JH 3 10000000 p) ps (fn:=f_k4q) (caps:=[]) hp.1 rfl rfl fun p h=>Jgf p (hp.2 p h)) rfl rfl rfl (JtU ?_);show [dB (!(ps.any fun p=>!JH 3 10000000 p))]=_;rw[Uq];rfl
theorem JdL (a:List Int) (ha:a.length≤2000000):Ev L f_k4s [.s (dL a)] [dB (Qy a)] :=
 Juq (vs:=[.l (dL a)]) L_k4s rfl (Jua (XC a 3 20000 ha (by omega) (by omega)) rfl rfl rfl (JtU rfl))
def QG (b g:List Int) (ps:List (List Int)) (s:Int) (a:List Int):Bool:=Qu b g&&QP ps&&inB s 0 (g.length-1)&&Qy a
theorem Jcr (b g:List Int) (ps:List (List Int)) (s:Int) (a:List Int) (hb:b.length≤2000000) (hg:g.length≤2000000) (hp:fitLL ps) (ha:a.length≤2000000) :
  Ev L f_k4t [.s (dL b),.s (dL g),.s (dLL ps),dI s,.s (dL a)] [dB (QG b g ps s a)]:=by
 refine Juq (vs:=[.l (dL b),.l (dL g),.l (dLL ps),.i s,.l (dL a)]) L_k4t rfl ?_;refine Jua (Jid b g hb hg) rfl rfl rfl ?_;refine Jt4 (Qu b g) rfl (fun h=>?_) (fun h=>JtU ?_)
 ·refine Jua (JjU ps hp) rfl rfl rfl ?_;refine Jt4 (QP ps) rfl (fun h2=>?_) (fun h2=>JtU ?_)
  ·refine Jua (X7 s 0 (g.length-1)) rfl ?_ rfl ?_
   ·show [dI s,dI 0,dI (i64.wrap (((dL g).length:Int)-1))]=_;rw[dL1,w64 (by omega) (by omega)]
   refine Jt4 (inB s 0 (g.length-1)) rfl (fun h3=>?_) (fun h3=>JtU ?_)
   ·refine Jua (JdL a ha) rfl rfl rfl (JtU ?_);show [dB (Qy a)]=_;simp[QG,h,h2,h3]
   ·show [dB false]=_;simp[QG,h3]
  ·show [dB false]=_;simp[QG,h2]
 ·show [dB false]=_;simp[QG,h]
theorem Jqq (p a:List Int) (hp:Lim 100000000 p) (ha:Lim 1000000 a) (hl:p.length=a.length) (h9:p.length≤999):Ev L f_k4u [.s (dL p),.s (dL a)] [dI (dot p a)]:=by
 refine Juq (vs:=[.l (dL p),.l (dL a)]) L_k4u rfl ?_;refine Jt7 p.length (fun i=>[.i (dot (p.take i) (a.take i)),.i i]) (fun _=>True) rfl rfl trivial fun i hi _=>?_;refine Jub i (dL1 p) rfl (fun h=>?_) (fun h=>?_)
 ·obtain⟨x,hx,_⟩:=sA1 (show i<p.length by omega);obtain⟨y,hy,_⟩:=sA1 (show i<a.length by omega);refine JtX i (mA1 (f:=dI) hx) rfl rfl rfl rfl ?_;refine JtX i (mA1 (f:=dI) hy) rfl rfl rfl rfl ?_;refine Juk (vs:=[.i (dot (p.take (i+1)) (a.take (i+1))),.i ((i+1:Nat):Int)]) ?_ ⟨h,rfl,trivial⟩;show [V.i (i64.wrap (dot (p.take i) (a.take i)+i64.wrap (x*y))),V.i (i64.wrap ((i:Int)+1))]=_;rw[wS h (by omega),Jjh hx hy hp ha (by omega)]
 ·refine Juj (JtU ?_);show [dI (dot (p.take i) (a.take i))]=_;rw[tA1 h,tA1 (by omega)]
theorem JeN (p a:List Int) (G:Int) (hp:JH 3 10000000 p=true) (ha:Qy a=true) (h0:0≤G) (h5:G≤50):Ev L f_k4v [.s (dL p),.q [.s (dL a)],.q [dI G]] [dB (!Kg G a p)]:=by
 obtain⟨p1,p2⟩:=Jo.1 hp;obtain⟨a1,a2⟩:=Jo.1 ha;refine Juq (vs:=[.l (dL p),.d (.q [.s (dL a)]),.d (.q [dI G])]) L_k4v rfl ?_;refine Jud (vs:=[.l (dL a)]) rfl rfl ?_;refine Jua (Jqq p a (Lim.mono (m:=10000000) p2 (by omega)) (Lim.mono (m:=20000) a2 (by omega)) (by omega) (by omega)) rfl rfl rfl ?_;refine Jud (vs:=[.i G]) rfl rfl ?_;refine Jud (vs:=[.i G]) rfl rfl ?_;refine Jua (X7 (dot p a) (0-G) G) rfl ?_ rfl (JtU rfl);show [dI (dot p a),dI (i64.wrap (0-G)),dI G]=_;rw[w64 (by omega) (by omega)]
theorem JiY {b g:List Int} {ps:List (List Int)} {s:Int} {a:List Int} (h:QG b g ps s a=true) :
  Qu b g=true∧QP ps=true∧0≤s∧s<g.length∧Qy a=true∧g[s.toNat]? = some (g.getD s.toNat 0)∧0≤g.getD s.toNat 0∧g.getD s.toNat 0≤50:=by
 simp only[QG,Jus,Jp] at h;obtain⟨⟨⟨h1,h2⟩,h3⟩,h4⟩:=h;have hsg:s.toNat<g.length:=by omega
 have hgm:=XI (p:=fun x=>0≤x∧x≤50) (l:=g) (by
  intro x hx;simp only[Qu,Jus,JuF] at h1;exact Jp.1 (h1.2 x hx)) hsg
 exact⟨h1,h2,h3.1,by omega,h4,JaR hsg,hgm⟩
theorem Jj2 (b g:List Int) (ps:List (List Int)) (s:Int) (a:List Int):keeps b g ps s a=(QG b g ps s a&&ps.all (Kg (g.getD s.toNat 0) a)):=rfl
theorem JhI (b g:List Int) (ps:List (List Int)) (s:Int) (a:List Int) (hb:b.length≤2000000) (hg:g.length≤2000000) (hp:fitLL ps) (ha:a.length≤2000000) :
  Ev L f_k4w [.s (dL b),.s (dL g),.s (dLL ps),dI s,.s (dL a)] [dB (keeps b g ps s a)]:=by
 refine Juq (vs:=[.l (dL b),.l (dL g),.l (dLL ps),.i s,.l (dL a)]) L_k4w rfl ?_;refine Jua (Jcr b g ps s a hb hg hp ha) rfl rfl rfl ?_;rw[Jj2];refine JtQ (QG b g ps s a) rfl (fun h=>JtU ?_) (fun h=>?_)
 ·show [dB false]=_;rw[h];rfl
 obtain⟨h1,h2,s0,s1,h4,hd,g0,g5⟩:=JiY h;generalize g.getD s.toNat 0=G at *;refine Jt5 (ds:=dL g) s rfl rfl rfl s0 (mA1 (f:=dI) hd) rfl ?_;refine Jua (Jdu (fun p=>!Kg G a p) ps (fn:=f_k4v) (caps:=[.q [.s (dL a)],.q [dI G]]) hp.1 rfl rfl fun p hm=>JeN p a G (JuF.1 h2 p hm) h4 g0 g5) rfl rfl rfl (JtU ?_);show [dB (!(ps.any fun p=>!Kg G a p))]=_;rw[Uq,h];rfl
/- All sites keep to a treaty just if each does: over residual programs. -/
theorem Qn.fitLL {n:Nat} {ps:List (List Int)} (h:Qn n ps) (hn:n≤2000000):fitLL ps:=⟨by have:=h.len;omega,fun p hp=>by rw[(h.each p hp).1];omega⟩
end Go.Proofs.YtofcmnglieaoeaaGreatDoor

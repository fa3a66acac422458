import Derived.Test.YtofcmnglieaoeaaGreatDoorPG
import Derived.Test.YtofcmnglieaoeaaGreatDoorTd
set_option linter.unusedVariables false
set_option linter.unusedSimpArgs false
/- What the reference's ways through an act come to. -/
namespace Go.Proofs.YtofcmnglieaoeaaGreatDoor
open Go Go.Tm
open Go.IntKind (i64)
theorem Jja {l:List Frm} {i:Nat} (h:i<l.length):l.getD i Frm.none∈l∧l[i]? = some (l.getD i Frm.none):=by
 rw[Jul,Jut h];exact⟨List.getElem_mem h,rfl⟩
def ZT (p:List Frm):List Frm:=[JV (p.getD 0 Frm.none) (JA 0) (-1),JV (p.getD 1 Frm.none) (JA 1) (-1),JV (p.getD 2 Frm.none) (JA 2) (-1)]
theorem Jnj {p g t:List Frm} {M:Int} (hp:p.length=3) (sp :∀f∈p,Std M f) (hg:g.length≤2000000) (sg :∀f∈g,Std M f) (ht:t.length≤2000000) (st :∀f∈t,Std M f) (h0:1≤M) (hM:M≤1000000000) :
  Ev L f_k10 [.s (dF p),.s (dF g),.s (dF t)] (Y5 p g t).cells:=by
 refine Jud (vs:=[.l (dF p),.l (dF g),.l (dF t)]) L_k10 rfl ?_;refine JtK (args:=[.s (dF g)]) rfl rfl (YF hg sg (by omega) hM) rfl ?_;refine JtK (args:=[.s (dF t)]) rfl rfl (YF ht st (by omega) hM) rfl ?_;refine JtE (fun m vs=>∃ i:Nat,i≤3∧m=3-i∧vs=[.l (dF ((ZT p).take i)),.i i]) rfl 3 ⟨0,by omega,rfl,rfl⟩ ?_;rintro m _ ⟨i,hi,hm,rfl⟩;refine Jt2 ((i:Int)<3) rfl (fun h=>?_) (fun h=>?_)
 ·obtain⟨x,hx,hd⟩:=JbG (l:=p) (i:=(i:Int)) (by omega) (by omega);have hsx:=sp x (Jup hx);refine JtJ (ds:=dF p) i rfl rfl rfl (by omega) hd rfl ?_;refine JtK (args:=[dI i]) rfl rfl (ZI i (by omega) (by omega)) rfl ?_;rw[Int.toNat_natCast] at hx;refine JtK (args:=x.cells++(JA (i:Int).toNat).cells++[dI (-1)]) rfl rfl (VC hsx (Xe.mono h0) hM (by omega)) rfl ?_;have hn:(ZT p)[i]? = some (JV x (JA (i:Int).toNat) (-1)):=by
   have e:p.getD i Frm.none=x:=by rw[Jul,hx];rfl
   subst e;rw[Int.toNat_natCast]
   match i,h with
   | 0,_=>rfl
   | 1,_=>rfl
   | 2,_=>rfl
   | n+3,h=>omega
  refine Jub (dF ((ZT p).take i)++[(JV x (JA (i:Int).toNat) (-1)).g]) rfl (by rw[Xl,J4];simp;omega) ?_;refine JtH (vs:=[.l (dF ((ZT p).take (i+1))),.i ((i+1:Nat):Int)]) ?_ ⟨m-1,by omega,i+1,by omega,by omega,rfl⟩;show [V.l (dF ((ZT p).take i)++[(JV x (JA (i:Int).toNat) (-1)).g]),V.i (i64.wrap ((i:Int)+1))]=_;rw[Xl,tS1 hn,w64 (by omega) (by omega)];rfl
 ·refine JtX (Jt9 ?_);have hi3:i=3:=by omega
  subst hi3;rfl
structure QE (act:List Jg):Prop where
 len:act.length≤6
 ok :∀l∈act,l.ok=true
theorem Jd3 {act:List Jg} (h:Qu act=true):QE act:=by
 simp only[Qu,Jui,decide_eq_true_eq,Juv] at h;exact⟨by omega,h.1.1⟩
theorem JhB {l:Jg} (h:l.ok=true) (h4 : ¬l.kind=4):l.f.small=true:=by
 unfold Jg.ok at h;split at h
 ·simp only[Jui] at h;exact h.2
 split at h
 ·simp only[Jui] at h;exact h.2
 split at h
 ·simp only[Jui] at h;exact h.2
 ·simp[h4] at h
theorem Jgq {l:Jg} (h:l.ok=true) (h2:l.kind=2):0≤l.pot∧l.pot≤2:=by
 unfold Jg.ok at h;rw[if_neg (by omega),if_pos h2] at h;simp only[Jui,Jp] at h;exact h.1.1
theorem Jcz {l:Jg} (h:l.ok=true) (h1:l.kind=1):1≤l.skip∧l.skip≤6:=by
 unfold Jg.ok at h;rw[if_pos h1] at h;simp only[Jui,Jp] at h;exact h.1.2
theorem XF {α:Type} {l:List α} {i:Nat} {x:α} (h:l[i]? = some x):l.drop i=x::l.drop (i+1):=by
 obtain⟨h1,h2⟩:=Juj.1 h;rw[List.drop_eq_getElem_cons h1,h2]
theorem KW {α:Type} {l:List α} {x:α} {p:α→Prop} (h :∀y∈l,p y) (hx:p x) :∀y∈l++[x],p y:=by
 intro y hy;rcases Jun.1 hy with hy | hy
 ·exact h y hy
 ·simp at hy;subst hy;exact hx
theorem JlQ (a b:List Row):Qj a++Qj b=Qj (a++b):=by simp[Qj]
set_option maxHeartbeats 4000000 in
theorem JmZ {act:List Jg} (hact:QE act) :∀(n:Nat) (at_:Int) (p g t:List Frm) (j:Nat),0≤at_→at_≤20→act.length-at_.toNat=n→(j:Int)≤at_→j≤6 →
  p.length=3→(∀f∈p,Std (Bd j) f)→g.length≤j→(∀f∈g,Std 10000000 f)→t.length≤j→(∀f∈t,Std 10000000 f) →
  Ev L f_k11 [.s (Jk act),dI at_,.s (dF p),.s (dF g),.s (dF t)] [.s (Qj (walk (act.drop at_.toNat) p g t))]:=by
 intro n
 induction n using Nat.strongRecOn with
 | _ n ih =>
  intro at_ p g t j a0 a20 hn hj hj6 hp sp hg sg ht st;have hal:=hact.len;refine Jud (vs:=[.l (Jk act),.i at_,.l (dF p),.l (dF g),.l (dF t)]) L_k11 rfl ?_;refine JtE (fun m vs=>∃ (i:Int) (p' t':List Frm) (j':Nat),vs=[.l (dF p'),.l (dF t'),.i i]∧at_≤i∧i≤20∧m=act.length-i.toNat∧(j':Int)≤i∧j≤j'∧j'≤6∧p'.length=3∧(∀f∈p',Std (Bd j') f)∧t'.length≤j'∧(∀f∈t',Std 10000000 f) ∧
   walk (act.drop i.toNat) p' g t'=walk (act.drop at_.toNat) p g t) rfl (act.length-at_.toNat) ⟨at_,p,t,j,rfl,by omega,a20,rfl,hj,by omega,hj6,hp,sp,ht,st,rfl⟩ ?_
  rintro m _ ⟨i,p',t',j',rfl,ai,i20,hm,hj',hjj,hj6',hp',sp',ht',st',hw⟩;have hB:=Jil hj6';have hB0:=Y4 j';refine Jt2 (i<((Jk act).length:Int)) rfl (fun hi=>?_) (fun hi=>?_)
  ·rw[JM] at hi;obtain⟨l,hl,hd⟩:=U7 (a:=act) (i:=i) (by omega) hi;have hok:=hact.ok l (Jup hl);have hdr:=XF hl;have hs1:(i+1).toNat=i.toNat+1:=by omega
   refine JtJ (ds:=Jk act) i rfl rfl rfl (by omega) hd rfl ?_;refine Jt2 (l.kind=4) rfl (fun h4=>?_) (fun h4=>?_)
   ·refine JtK (args:=[.s (dF g)]) rfl rfl (YF (by omega) sg (by omega) (by omega)) rfl ?_;refine JtX (Jt9 ?_);show [D.s [D.g [.s (dF g),.s [],.s [],dB true]]]=_;rw[←hw,hdr,walk,if_pos h4];rfl
   have hsm:=JhB hok h4;have hin:=U4 hsm hp' sp' hB0;have hin7:Std 10000000 (Js l.f p'):=hin.mono (by omega);refine JtK (args:=l.f.cells++[.s (dF p')]) rfl rfl (Jj2 hsm hp' sp' hB0 (by omega)) rfl ?_;have hj5:j'<6:=by omega
   refine Jt2 (l.kind=1) rfl (fun h1=>?_) (fun h1=>?_)
   ·have hsk:=Jcz hok h1;have hg':(g++[Js l.f p']).length≤j'+1:=by simp;omega
    have hg2:(g++[QT (Js l.f p')]).length≤j'+1:=by simp;omega
    have hmin:Std 10000000 (QT (Js l.f p')):=(WP hin).mono (by omega);have spB :∀f∈p',Std (Bd (j'+1)) f:=fun f hf=>(sp' f hf).mono (KC (by omega));have cp:=YF (by omega:p'.length≤2000000) sp' hB0 (by omega);have cg:=YF (by omega:g.length≤2000000) sg (by omega) (by omega);have ct:=YF (by omega:t'.length≤2000000) st' (by omega) (by omega);refine JtK (args:=[.s (dF p')]) rfl rfl cp rfl ?_;refine JtK (args:=[.s (dF g)]) rfl rfl cg rfl ?_;refine Jub (dF g++[(Js l.f p').g]) rfl (by rw[Xl,J4];omega) ?_;refine JtK (args:=[.s (dF t')]) rfl rfl ct rfl ?_;have e1:=ih (act.length-(i+1).toNat) (by omega) (i+1) p' (g++[Js l.f p']) t' (j'+1) (by omega) (by omega) rfl (by omega) (by omega) hp' spB hg' (KW sg hin7) (by omega) st';refine JtK (args:=[.s (Jk act),dI (i+1),.s (dF p'),.s (dF (g++[Js l.f p'])),.s (dF t')]) rfl ?_ e1 rfl ?_
    ·show [D.s (Jk act),dI (i64.wrap (i+1)),.s (dF p'),.s (dF g++[(Js l.f p').g]),.s (dF t')]=_;rw[Xl,w64 (by omega) (by omega)]
    refine JtK (args:=[.s (dF p')]) rfl rfl cp rfl ?_;refine JtK (args:=[.s (dF g)]) rfl rfl cg rfl ?_;refine JtK (args:=(Js l.f p').cells) rfl rfl (JjP hin7 (by omega) (by omega)) rfl ?_;refine Jub (dF g++[(QT (Js l.f p')).g]) rfl (by rw[Xl,J4];omega) ?_;refine JtK (args:=[.s (dF t')]) rfl rfl ct rfl ?_;have e2:=ih (act.length-(i+1+l.skip).toNat) (by omega) (i+1+l.skip) p' (g++[QT (Js l.f p')]) t' (j'+1) (by omega) (by omega) rfl (by omega) (by omega) hp' spB hg2 (KW sg hmin) (by omega) st';refine JtK (args:=[.s (Jk act),dI (i+1+l.skip),.s (dF p'),.s (dF (g++[QT (Js l.f p')])),.s (dF t')]) rfl ?_ e2 rfl ?_
    ·show [D.s (Jk act),dI (i64.wrap (i64.wrap (i+1)+l.skip)),.s (dF p'),.s (dF g++[(QT (Js l.f p')).g]),.s (dF t')]=_;rw[Xl,w64 (n:=i+1) (by omega) (by omega),w64 (by omega) (by omega)]
    have wl :∀(k:Nat) (a b c:List Frm),(walk (act.drop k) a b c).length≤64:=fun k a b c=>by
     refine Nat.le_trans (JhR _ _ _ _) ?_;exact Nat.le_trans (Nat.pow_le_pow_right (by omega) (show (act.drop k).length≤6 by simp;omega)) (by decide)
    have w1:=wl (i+1).toNat p' (g++[Js l.f p']) t';have w2:=wl (i+1+l.skip).toNat p' (g++[QT (Js l.f p')]) t';refine Jub (Qj (walk (act.drop (i+1+l.skip).toNat) p' (g++[QT (Js l.f p')]) t')) rfl (by rw[X6];omega) ?_;refine JtS (Jms _) ?_;refine Jub (Qj (walk (act.drop (i+1).toNat) p' (g++[Js l.f p']) t')++Qj (walk (act.drop (i+1+l.skip).toNat) p' (g++[QT (Js l.f p')]) t')) rfl (by rw[Juo,X6,X6];omega) ?_;refine JtX (Jt9 ?_);show [D.s (Qj (walk (act.drop (i+1).toNat) p' (g++[Js l.f p']) t')++Qj (walk (act.drop (i+1+l.skip).toNat) p' (g++[QT (Js l.f p')]) t'))]=_;rw[JlQ,←hw,hdr,walk,if_neg h4,if_pos h1,List.drop_drop,hs1,show i.toNat+1+l.skip.toNat=(i+1+l.skip).toNat by omega]
   refine Jt2 (l.kind=2) rfl (fun h2=>?_) (fun h2=>?_)
   ·have hpt:=Jgq hok h2;have hlt:l.pot.toNat<p'.length:=by omega
    obtain⟨hm1,hm2⟩:=Jja hlt;have hdg:(dF p')[l.pot.toNat]? = some (p'.getD l.pot.toNat Frm.none).g:=mA1 (f:=Frm.g) hm2;refine JtK (args:=[.s (dF p')]) rfl rfl (YF (by omega) sp' hB0 (by omega)) rfl ?_;refine JtF (0≤l.pot) rfl hpt.1 ?_;refine JtF (l.pot<((dF p').length:Int)) rfl (by rw[J4];omega) ?_;refine JtJ (ds:=dF p') l.pot rfl rfl rfl hpt.1 hdg rfl ?_;refine JtK (args:=(p'.getD l.pot.toNat Frm.none).cells++(Js l.f p').cells++[dI 1]) rfl rfl (VC ((sp' _ hm1).mono (by omega)) hin7 (by omega) (by omega)) rfl ?_;refine JtF (0≤l.pot) rfl hpt.1 ?_;refine JtF (l.pot<((dF p').length:Int)) rfl (by rw[J4];omega) ?_;refine JtJ (ds:=dF p') l.pot rfl rfl rfl hpt.1 hdg rfl ?_;have hsum:Std (Bd (j'+1)) (JV (p'.getD l.pot.toNat Frm.none) (Js l.f p') 1):=(QU (sp' _ hm1) hin (n:=1) (N:=1) (by omega)).mono (by simp only[Bd];omega);refine JtH (vs:=[.l (dF (p'.set l.pot.toNat (JV (p'.getD l.pot.toNat Frm.none) (Js l.f p') 1))),.l (dF t'),.i (i+1)]) ?_
     ⟨act.length-(i+1).toNat,by omega,i+1,p'.set l.pot.toNat (JV (p'.getD l.pot.toNat Frm.none) (Js l.f p') 1),t',j'+1,rfl,by omega,by omega,rfl,by omega,by omega,by omega,by simp[hp'],?_,by omega,st',?_⟩
    ·show [V.l ((dF p').set l.pot.toNat (JV (p'.getD l.pot.toNat Frm.none) (Js l.f p') 1).g),V.l (dF t'),V.i (i64.wrap (i+1))]=_;rw[w64 (by omega) (by omega)];simp[dF,List.map_set]
    ·intro f hf;rcases JuH hf with hf | hf
     ·exact(sp' f hf).mono (KC (by omega))
     ·subst hf;exact hsum
    ·rw[←hw,hdr,hs1];conv=>rhs;rw[walk];rw[if_neg h4,if_neg h1,if_pos h2]
   ·refine JtK (args:=[.s (dF t')]) rfl rfl (YF (by omega) st' (by omega) (by omega)) rfl ?_;refine Jub (dF t'++[(Js l.f p').g]) rfl (by rw[Xl,J4,Juo,List.length_singleton];omega) ?_;refine JtH (vs:=[.l (dF p'),.l (dF (t'++[Js l.f p'])),.i (i+1)]) ?_
     ⟨act.length-(i+1).toNat,by omega,i+1,p',t'++[Js l.f p'],j'+1,rfl,by omega,by omega,rfl,by omega,by omega,by omega,hp',fun f hf=>(sp' f hf).mono (KC (by omega)),by simp;omega,KW st' hin7,?_⟩
    ·show [V.l (dF p'),V.l (dF t'++[(Js l.f p').g]),V.i (i64.wrap (i+1))]=_;rw[Xl,w64 (by omega) (by omega)]
    ·rw[←hw,hdr,hs1];conv=>rhs;rw[walk];rw[if_neg h4,if_neg h1,if_neg h2]
  ·rw[JM] at hi;refine JtX ?_;refine JtK (args:=[.s (dF p'),.s (dF g),.s (dF t')]) rfl rfl (Jnj (M:=10000000) hp' (fun f hf=>(sp' f hf).mono (by omega)) (by omega) sg (by omega) st' (by omega) (by omega)) rfl ?_;refine Jt9 ?_;show [D.s [(Y5 p' g t').g]]=_;rw[←hw,List.drop_eq_nil_of_le (by omega),walk];rfl
theorem Je5 (act:List Jg) (hf:KL act):Ev L f_k12 [.s (Jk act)] [.s (Qj (Ju act))]:=by
 refine Jud (vs:=[.l (Jk act)]) L_k12 rfl ?_;refine JtK (args:=[.s (Jk act)]) rfl rfl (Jaq act hf) rfl ?_;refine Jt2 (Qu act=false) ?_ (fun h=>Jt9 ?_) (fun h=>?_)
 ·show (!(Qu act))=_;cases Qu act <;> rfl
 ·show [D.s []]=_;simp[Ju,h,Qj]
 have h:Qu act=true:=by simpa using h
 refine JtK (args:=[dI 0]) rfl rfl (ZI 0 (by omega) (by omega)) rfl ?_;refine JtK (args:=[dI 1]) rfl rfl (ZI 1 (by omega) (by omega)) rfl ?_;refine JtK (args:=[dI 2]) rfl rfl (ZI 2 (by omega) (by omega)) rfl ?_;have e:=JmZ (Jd3 h) act.length 0 [JA 0,JA 1,JA 2] [] [] 0 (by omega) (by omega) (by simp) (by omega) (by omega) rfl (by
  intro f hf';simp at hf';rcases hf' with rfl | rfl | rfl <;> exact Xe) (by simp) (by simp) (by simp) (by simp)
 refine JtK (args:=[.s (Jk act),dI 0,.s (dF [JA 0,JA 1,JA 2]),.s (dF []),.s (dF [])]) rfl rfl e rfl ?_;refine Jt9 ?_;show [D.s (Qj (walk (act.drop (0:Int).toNat) [JA 0,JA 1,JA 2] [] []))]=_;simp[Ju,h]
/- What the reference's parts,pins,and draws of them come to. -/
def Ym (as:List (List Jg)):Prop:=as.length≤2000000∧∀a∈as,KL a
theorem JgO.fit {as:List (List Jg)} (h:JgO as):Ym as:=⟨by have:=h.1;omega,fun a ha=>(h.2 a ha).fit⟩
theorem Jot (as:List (List Jg)) (hf:Ym as):Ev L f_kf [.s (Je as)] [dB (Qs as)]:=by
 have hl:=hf.1;refine Jud (vs:=[.l (Je as)]) L_kf rfl ?_;refine JtL (JQ as.length 1 4) rfl ?_ rfl ?_
 ·show [dI ((Je as).length:Int),dI 1,dI 4]=_;rw[JO]
 refine JtI (inB as.length 1 4) rfl (fun h=>Jt9 ?_) (fun h=>?_)
 ·show [dB false]=_;simp[Qs,h]
 refine Jt5 as.length (fun i=>[.i i]) (fun i=>(as.take i).all Qu=true) rfl rfl (by simp) fun i hi hp=>?_;refine JtN i (JO as) rfl (fun h'=>?_) (fun h'=>?_)
 ·obtain⟨x,hx,hm⟩:=sA1 h';refine Jt3 i (mA1 (f:=fun a=> .s (Jk a)) hx) rfl rfl rfl rfl ?_;refine JtL (Jaq x (hf.2 x hm)) rfl rfl rfl ?_;refine JtI (Qu x) rfl (fun hb=>JtX (Jt9 ?_)) (fun hb=>?_)
  ·show [dB false]=_;simp[Qs,Yl hx hb]
  ·refine JtH (vs:=[.i ((i+1:Nat):Int)]) ?_ ⟨h',rfl,QW hx hp hb⟩;show [V.i (i64.wrap ((i:Int)+1))]=_;rw[wS h' (by omega)]
 ·refine JtX (Jt9 ?_);rw[tA1 h'] at hp;show [dB true]=_;simp only[Qs,h,hp];simp
theorem Jeo (f:Frm) (hl:Lim 1000000000 f.c) (hn:f.c.length≤2000000):Ev L f_k14 f.cells [.s (dL (Jl f.c))]:=by
 refine Jud (vs:=[.l (dL f.c),.l (dL f.d),.i f.k]) L_k14 rfl ?_;refine Jt5 f.c.length (fun i=>[.l (dL (Jl (f.c.take i))),.i (Y9 (f.c.take i)),.i i]) (fun _=>True) rfl rfl trivial fun i hi _=>?_;refine JtN i (dL1 f.c) rfl (fun h=>?_) (fun h=>?_)
 ·obtain⟨x,hx,hm⟩:=sA1 h;have hd:=mA1 (f:=dI) hx;have hxl:=hl x hm;have hs:=Ji9 (f.c.take i) x;have hps:=JmG (f.c.take i) x;rw[←tS1 hx] at hs hps;have hlen:(Jl (f.c.take i)).length≤i:=by rw[Vl];simp;omega
  have hin:=Jg6 (f.c.take i);have fin :∀(s:Int) (l:List V),s=Y9 (f.c.take (i+1))→[V.l (dL (Jl (f.c.take i))++[dI (i64.wrap (s*x))]),V.i s,V.i (i64.wrap ((i:Int)+1))]=[V.l (dL (Jl (f.c.take (i+1)))),.i (Y9 (f.c.take (i+1))),.i ((i+1:Nat):Int)]:=by
   intro s _ e;subst e;rw[wS h (by omega),hps,w64,Xa]
   ·rcases Jg6 (f.c.take (i+1)) with e | e | e <;> rw[e] <;> omega
   ·rcases Jg6 (f.c.take (i+1)) with e | e | e <;> rw[e] <;> omega
  generalize hS:Y9 (f.c.take i)=S at *;refine Jt2 (S=0) rfl (fun h0=>?_) (fun h0=>?_)
  ·subst h0;simp only[if_true] at hs;refine Jt3 i hd rfl rfl rfl rfl ?_;refine Jt2 (0<x) rfl (fun h1=>?_) (fun h1=>?_)
   ·refine Jt3 i hd rfl rfl rfl rfl ?_;refine Juc (dL (Jl (f.c.take i))) 2000000 (by rw[dL1];omega) (by omega) rfl ?_;rw[if_pos h1] at hs;exact JtH (fin 1 [] hs.symm) ⟨h,rfl,trivial⟩
   ·refine Jt2 ((0:Int)=0) rfl (fun _=>?_) (fun h=>absurd rfl h);refine Jt3 i hd rfl rfl rfl rfl ?_;refine Jt2 (x<0) rfl (fun h2=>?_) (fun h2=>?_)
    ·refine Jt3 i hd rfl rfl rfl rfl ?_;refine Juc (dL (Jl (f.c.take i))) 2000000 (by rw[dL1];omega) (by omega) rfl ?_;rw[if_neg h1,if_pos h2] at hs;exact JtH (fin (-1) [] hs.symm) ⟨h,rfl,trivial⟩
    ·refine Jt3 i hd rfl rfl rfl rfl ?_;refine Juc (dL (Jl (f.c.take i))) 2000000 (by rw[dL1];omega) (by omega) rfl ?_;rw[if_neg h1,if_neg h2] at hs;exact JtH (fin 0 [] hs.symm) ⟨h,rfl,trivial⟩
  ·rw[if_neg h0] at hs;refine Jt2 (S=0) rfl (fun h=>absurd h h0) (fun _=>?_);refine Jt3 i hd rfl rfl rfl rfl ?_;refine Juc (dL (Jl (f.c.take i))) 2000000 (by rw[dL1];omega) (by omega) rfl ?_;exact JtH (fin S [] hs.symm) ⟨h,rfl,trivial⟩
 ·refine JtX (Jt9 ?_);show [D.s (dL (Jl (f.c.take i)))]=_;rw[tA1 h]
def Jsd (cmp : E) (sh : Sh) : R :=
  .ite (.not (.cmp .eq (.len (.v 0)) (.len (.v 1))))
   (
    .done [(.vb .ff)])
   (
    .loop 2 [(.z 0)] <|
      .ite (.cmp .lt (.v 2) (.len (.v 0)))
       (
        .i (.idx (.v 0) (.v 2) sh 3) <|
        .i (.idx (.v 1) (.v 2) sh 4) <|
        .ite (.not cmp)
         (
          .esc <|
          .done [(.vb .ff)])
         (
          .next [(.bin .add .i64 (.v 2) (.z 1))]))
       (
        .esc <|
        .done [(.vb .tt)]))
theorem Jgm {α:Type} [DecidableEq α] {f:FuncId} {H:Ke} {s:Sig} {cmp:E} {sh:Sh} (enc:α→D) (vOf:α→V) (a b:List α) (hf:L.lookup f=some ⟨s,.r H (Jsd cmp sh)⟩) (hs:UY s=[.s,.s])
  (hb :∀x,KM sh (enc x)=some [vOf x]) (hc :∀(v0 v1 v2:V) (x y:α),bol (Jm [v0,v1,v2,vOf x,vOf y]) cmp=decide (x=y)) (hl:a.length≤2000000) :
  Ev L f [.s (a.map enc),.s (b.map enc)] [dB (decide (a=b))]:=by
 refine Jud (vs:=[.l (a.map enc),.l (b.map enc)]) hf (by rw[hs];rfl) ?_;refine Jt2 (¬a.length=b.length) ?_ (fun h=>Jt9 ?_) (fun h=>?_)
 ·show (!(decide (((a.map enc).length:Int)=((b.map enc).length:Int))))=_;rw[Jur,Jur]
  by_cases h:a.length=b.length
  ·simp[h]
  ·simp[h,show ¬(a.length:Int)=b.length by omega]
 ·show [dB false]=_;rw[decide_eq_false];intro e;exact h (by rw[e])
 have h:a.length=b.length:=Classical.not_not.1 h;refine Jt5 a.length (fun i=>[.i i]) (fun i=>a.take i=b.take i) rfl rfl rfl fun i hi hp=>?_;refine JtN i (Jur (f:=enc) (as:=a)) rfl (fun h'=>?_) (fun h'=>?_)
 ·obtain⟨x,hx,_⟩:=sA1 h';obtain⟨y,hy,_⟩:=sA1 (show i<b.length by omega);refine Jt3 i (mA1 (f:=enc) hx) rfl rfl rfl (hb x) ?_;refine Jt3 i (mA1 (f:=enc) hy) rfl rfl rfl (hb y) ?_;refine JtI (decide (x=y)) ?_ (fun hxy=>JtX (Jt9 ?_)) (fun hxy=>?_)
  ·show (!(bol (Jm [V.l (a.map enc),.l (b.map enc),.i i,vOf x,vOf y]) cmp))=_;rw[hc]
  ·show [dB false]=_;rw[decide_eq_false];intro e;subst e;rw[hx] at hy;simp only[Juh] at hy;simp[hy] at hxy
  ·have hxy:x=y:=by simpa using hxy
   subst hxy;refine JtH (vs:=[.i ((i+1:Nat):Int)]) ?_ ⟨h',rfl,by show a.take (i+1)=b.take (i+1);rw[tS1 hx,tS1 hy,hp]⟩;show [V.i (i64.wrap ((i:Int)+1))]=_;rw[wS h' (by omega)]
 ·refine JtX (Jt9 ?_);rw[tA1 h',tA1 (by omega)] at hp;subst hp;show [dB true]=_;simp
theorem Jby (a b:List Int) (hl:a.length≤2000000):Ev L f_k15 [.s (dL a),.s (dL b)] [dB (decide (a=b))] :=
 Jgm dI .i a b L_k15 rfl (fun _=>rfl) (fun _ _ _ _ _=>rfl) hl
theorem JeX (l:List (List Int)) (p:List Int) (hl:l.length≤2000000) (hq :∀q∈l,q.length≤2000000):Ev L f_k16 [.s (dLL l),.s (dL p)] [dI (K0 l p)]:=by
 refine Jud (vs:=[.l (dLL l),.l (dL p)]) L_k16 rfl ?_;refine Jt5 l.length (fun i=>[.i i]) (fun i=>(l.take i).any (fun q=>decide (q=p))=false) rfl rfl (by simp) fun i hi hn=>?_;refine JtN i (Uy l) rfl (fun h=>?_) (fun h=>?_)
 ·obtain⟨x,hx,hm⟩:=sA1 h;refine Jt3 i (mA1 (f:=fun x=> .s (dL x)) hx) rfl rfl rfl rfl ?_;refine JtL (Jby x p (hq x hm)) rfl rfl rfl ?_;refine Jua (decide (x=p)) rfl (fun hp=>JtX (Jt9 ?_)) (fun hp=>?_)
  ·show [dI i]=_;rw[K0,Jdr hx hp hn]
  ·refine JtH (vs:=[.i ((i+1:Nat):Int)]) ?_ ⟨h,rfl,Jdz hx hn hp⟩;show [V.i (i64.wrap ((i:Int)+1))]=_;rw[wS h (by omega)]
 ·refine JtX (Jt9 ?_);rw[tA1 h] at hn;show [dI (-1)]=_;rw[K0,Jd8 hn]
theorem JpW (p:List Bool):Yb 1 (dBl p)=true:=by cases p <;> rfl
theorem JdX (p:List Bool) (fs:List Frm) (hp:p.length=3) (hc :∀f∈fs,f.c.length=3) (hl:fs.length≤2000000):Ev L f_k13 [.s (dBl p),.s (dF fs)] [.s (dBl (QP p fs))]:=by
 refine Jud (vs:=[.l (dBl p),.l (dF fs)]) L_k13 rfl ?_;refine JtM (dBl p) 3 (by rw[Jgp];omega) (by omega) rfl ?_;refine JtS (JpW p) ?_;refine JtM (dBl p) 3 (by rw[Jgp];omega) (by omega) rfl ?_;refine Jt5 fs.length (fun i=>[.l (dBl (QP p (fs.take i))),.i i]) (fun _=>True) rfl rfl trivial fun i hi _=>?_;refine JtN i (J4 fs) rfl (fun h=>?_) (fun h=>?_)
 ·obtain⟨x,hx,hm⟩:=sA1 h;have hx3:=hc x hm;have hP:(QP p (fs.take i)).length=3:=Z8 hp fun f hf=>hc f (JuG hf);have hS:QP p (fs.take (i+1))=Ut (QP p (fs.take i)) x.c:=XC hx;generalize QP p (fs.take i)=P at *;have hO:(Ut P x.c).length=3:=by rw[Jau];omega
  refine Jt5 3 (fun v=>[.l (dBl ((Ut P x.c).take v++P.drop v)),.i v]) (fun _=>True) rfl rfl trivial fun v hv _=>?_;refine JtZ v 3 rfl (fun hv3=>?_) (fun hv3=>?_)
  ·obtain⟨n,hn,_⟩:=sA1 (show v<x.c.length by omega);obtain⟨b,hb,_⟩:=sA1 (show v<P.length by omega);have ho:(Ut P x.c)[v]? = some (b||decide (n≠0)):=by simp[Ut,List.getElem?_zipWith,hn,hb]
   refine Jt3 i (mA1 (f:=Frm.g) hx) rfl rfl rfl rfl ?_;refine Jt3 v (mA1 (f:=dI) hn) rfl rfl rfl rfl ?_;have hlen:((Ut P x.c).take v++P.drop v).length=3:=by simp;omega
   refine JtI (decide (n=0)) rfl (fun h0=>?_) (fun h0=>?_)
   ·obtain⟨b',hb',_⟩:=sA1 (show v<((Ut P x.c).take v++P.drop v).length by omega);refine JtO v (mA1 (f:=dB) hb') rfl rfl rfl rfl rfl rfl ?_;have h0:n≠0:=by simpa using h0
    have ho:(Ut P x.c)[v]? = some true:=by rw[ho];simp[h0]
    refine JtH (vs:=[.l (dBl ((Ut P x.c).take (v+1)++P.drop (v+1))),.i ((v+1:Nat):Int)]) ?_ ⟨hv3,rfl,trivial⟩;show [V.l ((dBl ((Ut P x.c).take v++P.drop v)).set (v:Int).toNat (dB true)),V.i (i64.wrap ((v:Int)+1))]=_;rw[wS hv3 (by omega),JlM,Int.toNat_natCast,JoG (by omega) ho]
   ·have h0:n=0:=by simpa using h0
    refine JtH (vs:=[.l (dBl ((Ut P x.c).take (v+1)++P.drop (v+1))),.i ((v+1:Nat):Int)]) ?_ ⟨hv3,rfl,trivial⟩;show [V.l (dBl ((Ut P x.c).take v++P.drop v)),V.i (i64.wrap ((v:Int)+1))]=_;rw[wS hv3 (by omega),JlO (s:=b) (by rw[ho];simp[h0]) hb]
  ·have:v=3:=by omega
   subst this;rw[Jum (by omega),List.drop_eq_nil_of_le (by omega),List.append_nil];refine JtX ?_;refine JtH (vs:=[.l (dBl (QP p (fs.take (i+1)))),.i ((i+1:Nat):Int)]) ?_ ⟨h,rfl,trivial⟩;show [V.l (dBl (Ut P x.c)),V.i (i64.wrap ((i:Int)+1))]=_;rw[wS h (by omega),hS]
 ·refine JtX (Jt9 ?_);show [D.s (dBl (QP p (fs.take i)))]=_;rw[tA1 h]
/- What the reference's catalogue of parts and pins comes to. -/
structure Qm (n:Nat) (s:List (List Int)):Prop where
 len:s.length≤n
 each :∀q∈s,q.length=3∧Lim 10000000 q
theorem Qm.add {n:Nat} {s:List (List Int)} (h:Qm n s) {f:Frm} (hf:Std 10000000 f):Qm (n+1) (Jn s f) :=
 ⟨by have:=Jjl s f;have:=h.len;omega,JiW h.each ⟨by rw[Vl];exact hf.c,Jnp hf.lc⟩⟩
theorem Qm.mono {n m:Nat} {s:List (List Int)} (h:Qm n s) (hm:n≤m):Qm m s:=⟨by have:=h.len;omega,h.each⟩
theorem Qm.adds {n:Nat} {s:List (List Int)} (h:Qm n s) {fs:List Frm} (hf :∀f∈fs,Std 10000000 f):Qm (n+fs.length) (fs.foldl Jn s):=by
 induction fs generalizing n s with
 | nil=>exact h
 | cons f fs ih=>exact(ih (h.add (hf f (by simp))) fun g hg=>hf g (by simp[hg])).mono (by simp;omega)
theorem Qm.rows {n:Nat} {s:List (List Int)×List Bool} (h:Qm n s.1) (h3:s.2.length=3) {rs:List Row} (hr :∀r∈rs,YO r):Qm (n+6*rs.length) (rs.foldl QQ s).1∧(rs.foldl QQ s).2.length=3:=by
 induction rs generalizing n s with
 | nil=>exact⟨h,h3⟩
 | cons r rs ih =>
  have hr1:=hr r (by simp);have a:=(h.adds hr1.g).mono (show n+r.guards.length≤n+6 by have:=hr1.gl;omega);have b:(QQ s r).2.length=3:=Z8 (Z8 h3 fun f hf=>(hr1.a f hf).c) fun f hf=>(hr1.t f hf).c;have:=ih (s:=QQ s r) (n:=n+6) a b fun x hx=>hr x (by simp[hx]);exact⟨this.1.mono (by simp;omega),this.2⟩
theorem Jdp (as:List (List Jg)):Qm (3+384*as.length) (UO as).1∧(UO as).2.length=3:=by
 have key :∀(n:Nat) (s:List (List Int)×List Bool),Qm n s.1→s.2.length=3→Qm (n+384*as.length) (as.foldl Yk s).1∧(as.foldl Yk s).2.length=3:=by
  induction as with
  | nil=>intro n s h h3;exact⟨h,h3⟩
  | cons a as ih =>
   intro n s h h3;have:=h.rows h3 (rs:=Ju a) Yi;have hl:=Ua a;have:=ih (n+384) (Yk s a) (this.1.mono (by omega)) this.2;exact⟨this.1.mono (by simp;omega),this.2⟩
 refine key 3 _ ⟨by simp[YR],?_⟩ rfl;intro q hq;simp[YR] at hq;rcases hq with rfl | rfl | rfl <;> exact⟨rfl,by intro x hx;simp at hx;omega⟩
theorem rdR {rs:List Row} {i:Nat} {r:Row} (h:rs[i]? = some r):(Qj rs)[i]? = some r.g:=mA1 (f:=Row.g) h
set_option maxHeartbeats 8000000 in
theorem Jfp (as:List (List Jg)) (hf:Ym as) (h4:as.length≤4):Ev L f_k17 [.s (Je as)] [.s (dLL (UO as).1),.s (dBl (UO as).2)]:=by
 refine Jud (vs:=[.l (Je as)]) L_k17 rfl ?_;refine Jt5 3 (fun v=>[.l (dLL (YR.take v)),.i v]) (fun _=>True) rfl rfl trivial fun v hv _=>?_;refine JtZ v 3 rfl (fun hv3=>?_) (fun hv3=>?_)
 ·refine JtL (ZI v (by omega) (by omega)) rfl rfl rfl ?_;have hp:YR[v]? = some (JA (v:Int).toNat).c:=by
   rw[Int.toNat_natCast]
   match v,hv3 with
   | 0,_ | 1,_ | 2,_=>rfl
   | n+3,h=>omega
  refine Juc (dLL (YR.take v)) 3 (by rw[Uy];simp;omega) (by omega) rfl ?_;refine JtH (vs:=[.l (dLL (YR.take (v+1))),.i ((v+1:Nat):Int)]) ?_ ⟨hv3,rfl,trivial⟩;show [V.l (dLL (YR.take v)++[.s (dL (JA (v:Int).toNat).c)]),V.i (i64.wrap ((v:Int)+1))]=_;rw[wS hv3 (by omega),Jax,tS1 hp]
 have hv3:v=3:=by omega
 subst hv3;refine JtX ?_;refine JtY as.length (fun i vs=>∃ b:List (List Int)×List Bool,vs=[.l (dLL b.1),.l (dBl b.2),.i i]∧b=UO (as.take i)) rfl ⟨(YR,[false,false,false]),rfl,rfl⟩ ?_;rintro i _ hi ⟨⟨b1,b2⟩,rfl,hb⟩;simp only[sC,sN];refine JtN i (JO as) rfl (fun h=>?_) (fun h=>?_)
 ·obtain⟨a,ha,hm⟩:=sA1 h;have hB:UO (as.take (i+1))=Yk (b1,b2) a:=by rw[hb];exact XC ha
  obtain⟨f1,f2⟩:=Jdp (as.take i);rw[←hb] at f1 f2;have f1:=f1.mono (show 3+384*(as.take i).length≤1600 by simp;omega);have hrl:=Ua a;refine Jt3 i (mA1 (f:=fun a=> .s (Jk a)) ha) rfl rfl rfl rfl ?_;refine JtL (Je5 a (hf.2 a hm)) rfl rfl rfl ?_;have hrf :∀r∈Ju a,YO r:=Yi;have hAB:Yk (b1,b2) a=(Ju a).foldl QQ (b1,b2):=rfl;generalize Ju a=rs at *;refine JtY rs.length (fun k vs=>∃ c:List (List Int)×List Bool,vs=[.l (dLL c.1),.l (dBl c.2),.i k]∧c=(rs.take k).foldl QQ (b1,b2)) rfl ⟨(b1,b2),rfl,rfl⟩ ?_;rintro k _ hk ⟨⟨c1,c2⟩,rfl,hc⟩;simp only[sC,sN];refine JtN k (X6 rs) rfl (fun h'=>?_) (fun h'=>?_)
  ·obtain⟨r,hr,hmr⟩:=sA1 h';have hfit:=hrf r hmr;have hC:(rs.take (k+1)).foldl QQ (b1,b2)=QQ (c1,c2) r:=by rw[hc];exact XC hr
   obtain⟨g1,g2⟩:=f1.rows f2 (rs:=rs.take k) fun x hx=>hrf x (JuG hx);rw[←hc] at g1 g2;have g1:=g1.mono (show 1600+6*(rs.take k).length≤2000 by simp;omega);have hRd:=rdR hr;refine JtO k hRd rfl rfl rfl rfl rfl rfl ?_;refine JtL (JdX c2 r.adds g2 (fun f hf=>(hfit.a f hf).c) (by have:=hfit.al;omega)) rfl rfl rfl ?_;refine JtO k hRd rfl rfl rfl rfl rfl rfl ?_;have e3:(QP c2 r.adds).length=3:=Z8 g2 fun f hf=>(hfit.a f hf).c;refine JtL (JdX (QP c2 r.adds) r.tells e3 (fun f hf=>(hfit.t f hf).c) (by have:=hfit.tl;omega)) rfl rfl rfl ?_;have hR:QQ (c1,c2) r=(r.guards.foldl Jn c1,QP (QP c2 r.adds) r.tells):=rfl;generalize QP (QP c2 r.adds) r.tells=d2 at *;generalize QP c2 r.adds=d1 at *;have hgl:=hfit.gl;refine JtY r.guards.length (fun g vs=>∃ e:List (List Int),vs=[.l (dLL e),.i g]∧e=(r.guards.take g).foldl Jn c1) rfl ⟨c1,rfl,rfl⟩ ?_;rintro g _ hg ⟨e,rfl,he⟩;simp only[sC,sN];refine JtO k hRd rfl rfl rfl rfl rfl rfl ?_;refine JtN g (J4 r.guards) rfl (fun hg'=>?_) (fun hg'=>?_)
   ·obtain⟨f,hfg,hmf⟩:=sA1 hg';have hsf:=hfit.g f hmf;have hE:(r.guards.take (g+1)).foldl Jn c1=Jn e f:=by rw[he];exact XC hfg
    have e1:=(g1.adds (fs:=r.guards.take g) fun x hx=>hfit.g x (JuG hx)).mono (show 2000+(r.guards.take g).length≤2010 by simp;omega);rw[←he] at e1;have nx :∀(x:List (List Int)),x=Jn e f→[V.l (dLL x),V.i (i64.wrap ((g:Int)+1))]=[.l (dLL (Jn e f)),.i ((g+1:Nat):Int)]:=by
     intro x hx;rw[hx,wS hg' (by omega)]
    refine JtO k hRd rfl rfl rfl rfl rfl rfl ?_;refine Jt3 g (mA1 (f:=Frm.g) hfg) rfl rfl rfl rfl ?_;refine JtL (Jeo f (hsf.lc.mono (by omega)) (by rw[hsf.c];omega)) rfl rfl rfl ?_;have el:=e1.len;have hp3:(Jl f.c).length=3:=by rw[Vl];exact hsf.c
    have hAP:Jn e f=if K0 e (Jl f.c)<0∧Jl f.c≠[0,0,0] then e++[Jl f.c] else e:=rfl;generalize Jl f.c=pt at *;refine JtL (JeX e pt (by omega) (fun q hq=>by rw[(e1.each q hq).1];omega)) rfl rfl rfl ?_;generalize K0 e pt=ha at *;refine Jt2 (ha<0) rfl (fun h0=>?_) (fun h0=>?_)
    ·refine JtL XR rfl rfl rfl ?_;refine JtL (Jby pt [0,0,0] (by omega)) rfl rfl rfl ?_;refine JtI (decide (pt=[0,0,0])) rfl (fun hz=>?_) (fun hz=>?_)
     ·refine Juc (dLL e) 3000 (by rw[Uy];omega) (by omega) rfl ?_;refine JtH (vs:=[.l (dLL (Jn e f)),.i ((g+1:Nat):Int)]) ?_ ⟨hg',Jn e f,rfl,hE.symm⟩;show [V.l (dLL e++[.s (dL pt)]),V.i (i64.wrap ((g:Int)+1))]=_;rw[Jax];refine nx _ ?_;rw[hAP,if_pos ⟨h0,by simpa using hz⟩]
     ·refine JtH (nx e ?_) ⟨hg',Jn e f,rfl,hE.symm⟩;rw[hAP,if_neg];intro ⟨_,h⟩;exact h (by simpa using hz)
    ·refine JtH (nx e ?_) ⟨hg',Jn e f,rfl,hE.symm⟩;rw[hAP,if_neg];intro ⟨h,_⟩;exact h0 h
   ·refine JtX ?_;rw[tA1 hg'] at he;refine JtH (vs:=[.l (dLL e),.l (dBl d2),.i ((k+1:Nat):Int)]) ?_ ⟨h',(e,d2),rfl,by rw[hC,hR,he]⟩;show [V.l (dLL e),V.l (dBl d2),V.i (i64.wrap ((k:Int)+1))]=_;rw[wS h' (by omega)]
  ·refine JtX ?_;rw[tA1 h'] at hc;refine JtH (vs:=[.l (dLL c1),.l (dBl c2),.i ((i+1:Nat):Int)]) ?_ ⟨h,(c1,c2),rfl,by rw[hB,hAB,hc]⟩;show [V.l (dLL c1),V.l (dBl c2),V.i (i64.wrap ((i:Int)+1))]=_;rw[wS h (by omega)]
 ·refine JtX (Jt9 ?_);show [D.s (dLL b1),.s (dBl b2)]=_;rw[tA1 h] at hb;rw[←hb]
theorem X4 {as:List (List Jg)} (h:Qs as=true):1≤as.length∧as.length≤4∧∀a∈as,Qu a=true:=by
 simp only[Qs,Jui,Jp,Juv] at h;exact⟨by omega,by omega,h.2⟩
theorem Xc (as:List (List Jg)):Qm 1600 (Jb as):=by
 unfold Jb;split
 ·rename_i h;exact(Jdp as).1.mono (by have:=(X4 h).2.1;omega)
 ·exact⟨by simp,by simp⟩
/- What the reference's treaties come to. -/
theorem Y2 (l:List Int) (hl:l.length≤2000000):Ev L f_kg [.s (dL l)] [dB (JU l)] :=
 Jud (vs:=[.l (dL l)]) L_kg rfl (JtL (Xr l 3 10000 hl (by omega) (by omega)) rfl rfl rfl (Jt9 rfl))
theorem Jbm (b g:List Int) (hb:b.length≤2000000) (hg:g.length≤2000000):Ev L f_kh [.s (dL b),.s (dL g)] [dB (Qr b g)]:=by
 refine Jud (vs:=[.l (dL b),.l (dL g)]) L_kh rfl ?_;refine JtL (Y2 b hb) rfl rfl rfl ?_;refine JtI (JU b) rfl (fun h=>Jt9 ?_) (fun h=>?_)
 ·show [dB false]=_;simp[Qr,h]
 refine JtL (JQ g.length 1 3) rfl ?_ rfl ?_
 ·show [dI ((dL g).length:Int),dI 1,dI 3]=_;rw[dL1]
 refine JtI (inB g.length 1 3) rfl (fun h2=>Jt9 ?_) (fun h2=>?_)
 ·show [dB false]=_;simp[Qr,h2]
 refine Jt5 g.length (fun i=>[.i i]) (fun i=>(g.take i).all (fun x=>inB x 0 50)=true) rfl rfl (by simp) fun i hi hp=>?_;refine JtN i (dL1 g) rfl (fun h'=>?_) (fun h'=>?_)
 ·obtain⟨x,hx,hm⟩:=sA1 h';refine Jt3 i (mA1 (f:=dI) hx) rfl rfl rfl rfl ?_;refine JtL (JQ x 0 50) rfl rfl rfl ?_;refine JtI (inB x 0 50) rfl (fun hb=>JtX (Jt9 ?_)) (fun hb=>?_)
  ·show [dB false]=_;simp only[Qr,Yl (p:=fun x=>inB x 0 50) hx hb,Bool.and_false]
  ·refine JtH (vs:=[.i ((i+1:Nat):Int)]) ?_ ⟨h',rfl,QW (p:=fun x=>inB x 0 50) hx hp hb⟩;show [V.i (i64.wrap ((i:Int)+1))]=_;rw[wS h' (by omega)]
 ·refine JtX (Jt9 ?_);rw[tA1 h'] at hp;show [dB true]=_;simp only[Qr,h,h2,hp];rfl
def fitLL (ps:List (List Int)):Prop:=ps.length≤2000000∧∀p∈ps,p.length≤2000000
theorem Jdx (ps:List (List Int)) (hp:fitLL ps):Ev L f_k1f [.s (dLL ps)] [dB (QO ps)]:=by
 have hl:=hp.1;refine Jud (vs:=[.l (dLL ps)]) L_k1f rfl ?_;refine Jt5 ps.length (fun i=>[.i i]) (fun i=>(ps.take i).all (fun p=>JG 3 10000000 p)=true) rfl rfl (by simp) fun i hi hq=>?_;refine JtN i (Uy ps) rfl (fun h'=>?_) (fun h'=>?_)
 ·obtain⟨x,hx,hm⟩:=sA1 h';refine Jt3 i (mA1 (f:=fun x=> .s (dL x)) hx) rfl rfl rfl rfl ?_;refine JtL (Xr x 3 10000000 (hp.2 x hm) (by omega) (by omega)) rfl rfl rfl ?_;refine JtI (JG 3 10000000 x) rfl (fun hb=>JtX (Jt9 ?_)) (fun hb=>?_)
  ·show [dB false]=_;simp only[QO,Yl (p:=fun p=>JG 3 10000000 p) hx hb]
  ·refine JtH (vs:=[.i ((i+1:Nat):Int)]) ?_ ⟨h',rfl,QW (p:=fun p=>JG 3 10000000 p) hx hq hb⟩;show [V.i (i64.wrap ((i:Int)+1))]=_;rw[wS h' (by omega)]
 ·refine JtX (Jt9 ?_);rw[tA1 h'] at hq;show [dB true]=_;simp only[QO,hq]
theorem Jew {a b:List Int} {i:Nat} {x y:Int} (hx:a[i]? = some x) (hy:b[i]? = some y):dot (a.take (i+1)) (b.take (i+1))=dot (a.take i) (b.take i)+x*y:=by
 have h1:=(Juj.1 hx).1;have h2:=(Juj.1 hy).1;rw[tS1 hx,tS1 hy,JnL x y (by simp;omega)]
theorem Jiy {a b:List Int} {i:Nat} {x y:Int} (hx:a[i]? = some x) (hy:b[i]? = some y) (ha:Lim 100000000 a) (hb:Lim 1000000 b) (hi:i<1000) :
  i64.wrap (dot (a.take i) (b.take i)+i64.wrap (x*y))=dot (a.take (i+1)) (b.take (i+1)):=by
 have h1:=KA (ha.take i) (hb.take i) (by omega) (by omega);have h2:((a.take i).length:Int)≤1000:=by simp;omega
 have h3:=UE (ha x (Jup hx)) (hb y (Jup hy));rw[Jew hx hy,w64 (n:=x*y) (by omega) (by omega),w64 (by omega) (by omega)]
theorem Jku (p a:List Int) (hp:JG 3 10000000 p=true) (ha:JG 3 20000 a=true):Ev L f_k1g [.s (dL p),.s (dL a)] [dI (dot p a)]:=by
 obtain⟨p1,p2⟩:=Jo.1 hp;obtain⟨a1,a2⟩:=Jo.1 ha;have p2:Lim 100000000 p:=Lim.mono (m:=10000000) p2 (by omega);have a2:Lim 1000000 a:=Lim.mono (m:=20000) a2 (by omega);refine Jud (vs:=[.l (dL p),.l (dL a)]) L_k1g rfl ?_;refine Jt5 3 (fun i=>[.i (dot (p.take i) (a.take i)),.i i]) (fun _=>True) rfl rfl trivial fun i hi _=>?_;refine JtZ i 3 rfl (fun h=>?_) (fun h=>?_)
 ·obtain⟨x,hx,_⟩:=sA1 (show i<p.length by omega);obtain⟨y,hy,_⟩:=sA1 (show i<a.length by omega);refine Jt3 i (mA1 (f:=dI) hx) rfl rfl rfl rfl ?_;refine Jt3 i (mA1 (f:=dI) hy) rfl rfl rfl rfl ?_;refine JtH (vs:=[.i (dot (p.take (i+1)) (a.take (i+1))),.i ((i+1:Nat):Int)]) ?_ ⟨h,rfl,trivial⟩;show [V.i (i64.wrap (dot (p.take i) (a.take i)+i64.wrap (x*y))),V.i (i64.wrap ((i:Int)+1))]=_;rw[wS h (by omega),Jiy hx hy p2 a2 (by omega)]
 ·refine JtX (Jt9 ?_);show [dI (dot (p.take i) (a.take i))]=_;rw[Jum (by omega),Jum (by omega)]
theorem JaG {l:List Int} {i:Nat} (h:i<l.length):l[i]? = some (l.getD i 0):=by simp[Jul,h]
theorem Zw (b g:List Int) (ps:List (List Int)) (s:Int) (a:List Int) (hb:b.length≤2000000) (hg:g.length≤2000000) (hp:fitLL ps) (ha:a.length≤2000000) :
  Ev L f_k1h [.s (dL b),.s (dL g),.s (dLL ps),dI s,.s (dL a)] [dB (keeps b g ps s a)]:=by
 have hpl:=hp.1;refine Jud (vs:=[.l (dL b),.l (dL g),.l (dLL ps),.i s,.l (dL a)]) L_k1h rfl ?_;refine JtL (Jbm b g hb hg) rfl rfl rfl ?_;refine JtI (Qr b g) rfl (fun h=>Jt9 ?_) (fun h=>?_)
 ·show [dB false]=_;simp[keeps,h]
 refine JtL (Jdx ps hp) rfl rfl rfl ?_;refine JtI (QO ps) rfl (fun h2=>Jt9 ?_) (fun h2=>?_)
 ·show [dB false]=_;simp[keeps,h2]
 refine JtL (JQ s 0 (g.length-1)) rfl ?_ rfl ?_
 ·show [dI s,dI 0,dI (i64.wrap (((dL g).length:Int)-1))]=_;rw[dL1,w64 (by omega) (by omega)]
 refine JtI (inB s 0 (g.length-1)) rfl (fun h3=>Jt9 ?_) (fun h3=>?_)
 ·show [dB false]=_;simp[keeps,h3]
 refine JtL (Xr a 3 20000 ha (by omega) (by omega)) rfl rfl rfl ?_;refine JtI (JG 3 20000 a) rfl (fun h4=>Jt9 ?_) (fun h4=>?_)
 ·show [dB false]=_;simp[keeps,Qw,h4]
 have hs:=Jp.1 h3;have hsg:s.toNat<g.length:=by omega
 have hgs:=JaG hsg;have hgm:=XI (p:=fun x=>0≤x∧x≤50) (l:=g) (by
  intro x hx;simp only[Qr,Jui,Juv] at h;exact Jp.1 (h.2 x hx)) hsg
 have hdS:(dL g)[s.toNat]? = some (dI (g.getD s.toNat 0)):=mA1 (f:=dI) hgs;simp only[keeps,Qw,h,h2,h3,h4,JuC];generalize g.getD s.toNat 0=G at *;refine Jt5 ps.length (fun i=>[.i i]) (fun i=>(ps.take i).all (ZV G a)=true) rfl rfl (by simp) fun i hi hq=>?_;refine JtN i (Uy ps) rfl (fun h'=>?_) (fun h'=>?_)
 ·obtain⟨x,hx,hm⟩:=sA1 h';have hxo:JG 3 10000000 x=true:=Juv.1 h2 x hm;refine Jt3 i (mA1 (f:=fun x=> .s (dL x)) hx) rfl rfl rfl rfl ?_;refine JtL (Jku x a hxo h4) rfl rfl rfl ?_;refine JtJ (ds:=dL g) s rfl rfl rfl hs.1 hdS rfl ?_;refine JtJ (ds:=dL g) s rfl rfl rfl hs.1 hdS rfl ?_;refine JtL (JQ (dot x a) (0-G) G) rfl ?_ rfl ?_
  ·show [dI (dot x a),dI (i64.wrap (0-G)),dI G]=_;rw[w64 (by omega) (by omega)]
  refine JtI (inB (dot x a) (0-G) G) rfl (fun hb=>JtX (Jt9 ?_)) (fun hb=>?_)
  ·show [dB false]=_;rw[Yl (p:=ZV G a) hx hb]
  ·refine JtH (vs:=[.i ((i+1:Nat):Int)]) ?_ ⟨h',rfl,QW (p:=ZV G a) hx hq hb⟩;show [V.i (i64.wrap ((i:Int)+1))]=_;rw[wS h' (by omega)]
 ·refine JtX (Jt9 ?_);rw[tA1 h'] at hq;show [dB true]=_;rw[hq]
/- What the program's treaties come to. -/
theorem X8 (n a b:Int):Ev L f_k3a [dI n,dI a,dI b] [dB (inB n a b)]:=by
 refine Jud (vs:=[.i n,.i a,.i b]) L_k3a rfl ?_;refine Jt2 (a≤n) rfl (fun h=>Jt9 ?_) (fun h=>Jt9 ?_)
 ·show [dB (decide (n≤b))]=_;simp[inB,h]
 ·show [dB false]=_;simp[inB,h]
theorem Jfx (p:Int→Bool) (l:List Int) {fn:FuncId} {caps:List D} (hlen:l.length≤2000000) (hcap:XN (.f fn caps) = .f fn caps) (har:arT L fn=some ([none]++caps.map fun _=>none))
  (hc :∀x∈l,Ev L fn ([dI x]++caps.map D.norm) [dB (p x)]):Ev L f_k3e [.s (dL l),.f fn caps] [dI (Ki p l)] :=
 Z7 (sh:= .one (.i .i64)) (as:=[(.vi .i64 (.v 3))]) (ar:=[none]) (k:=4) dI p (fun x=>[dI x]) (fun x=>[.i x]) l L_k3e rfl hlen hcap (fun _ _=>rfl) (fun _ _=>rfl) (fun _ _ _ _=>rfl) har hc
theorem V7 (p:Int→Bool) (l:List Int) {fn:FuncId} {caps:List D} (hlen:l.length≤2000000) (hcap:XN (.f fn caps) = .f fn caps) (har:arT L fn=some ([none]++caps.map fun _=>none))
  (hc :∀x∈l,Ev L fn ([dI x]++caps.map D.norm) [dB (p x)]):Ev L f_k3f [.s (dL l),.f fn caps] [dB (l.any p)] :=
 Zm (g:=f_k3e) L_k3f rfl hcap (Jfx p l hlen hcap har hc)
theorem Jc7 (p:List Int→Bool) (l:List (List Int)) {fn:FuncId} {caps:List D} (hlen:l.length≤2000000) (hcap:XN (.f fn caps) = .f fn caps) (har:arT L fn=some ([none]++caps.map fun _=>none))
  (hc :∀x∈l,Ev L fn ([.s (dL x)]++caps.map D.norm) [dB (p x)]):Ev L f_k4e [.s (dLL l),.f fn caps] [dI (Ki p l)] :=
 Z7 (sh:= .one .s) (as:=[(.s (.v 3))]) (ar:=[none]) (k:=4) (fun x=> .s (dL x)) p (fun x=>[.s (dL x)]) (fun x=>[.l (dL x)]) l L_k4e rfl hlen hcap (fun _ _=>rfl) (fun _ _=>rfl) (fun _ _ _ _=>rfl) har hc
theorem JdC (p:List Int→Bool) (l:List (List Int)) {fn:FuncId} {caps:List D} (hlen:l.length≤2000000) (hcap:XN (.f fn caps) = .f fn caps) (har:arT L fn=some ([none]++caps.map fun _=>none))
  (hc :∀x∈l,Ev L fn ([.s (dL x)]++caps.map D.norm) [dB (p x)]):Ev L f_k4p [.s (dLL l),.f fn caps] [dB (l.any p)] :=
 Zm (g:=f_k4e) L_k4p rfl hcap (Jc7 p l hlen hcap har hc)
theorem UC {α:Type} (p:α→Bool) (l:List α):(!(l.any fun x=>!p x))=l.all p:=by
 induction l with
 | nil=>rfl
 | cons x l ih=>simp[ih]
theorem Jjk (x m:Int) (h0:0≤m) (hm:m≤10000000000000):Ev L f_k3d [dI x,.q [dI m]] [dB (!inB x (0-m) m)]:=by
 refine Jud (vs:=[.i x,.d (.q [dI m])]) L_k3d rfl ?_;refine Jt8 (vs:=[.i m]) rfl rfl ?_;refine Jt8 (vs:=[.i m]) rfl rfl ?_;refine JtL (X8 x (0-m) m) rfl ?_ rfl (Jt9 rfl);show [dI x,dI (i64.wrap (0-m)),dI m]=_;rw[w64 (by omega) (by omega)]
theorem XG (l:List Int) (n m:Int) (hl:l.length≤2000000) (h0:0≤m) (hm:m≤10000000000000):Ev L f_k3g [.s (dL l),dI n,dI m] [dB (JG n m l)]:=by
 refine Jud (vs:=[.l (dL l),.i n,.i m]) L_k3g rfl ?_;refine Jt2 ((l.length:Int)=n) ?_ (fun h=>?_) (fun h=>Jt9 ?_)
 ·show decide (((dL l).length:Int)=n)=_;rw[dL1]
 ·refine JtL (V7 (fun x=>!inB x (0-m) m) l (fn:=f_k3d) (caps:=[.q [dI m]]) hl rfl rfl fun x _=>Jjk x m h0 hm) rfl rfl rfl (Jt9 ?_);show [dB (!(l.any fun x=>!inB x (0-m) m))]=_;rw[UC];simp[JG,h]
 ·show [dB false]=_;simp[JG,h]
theorem Jc0 (l:List Int) (hl:l.length≤2000000):Ev L f_k3q [.s (dL l)] [dB (JU l)] :=
 Jud (vs:=[.l (dL l)]) L_k3q rfl (JtL (XG l 3 10000 hl (by omega) (by omega)) rfl rfl rfl (Jt9 rfl))
theorem Jkz (x:Int):Ev L f_k3p [dI x] [dB (!inB x 0 50)] :=
 Jud (vs:=[.i x]) L_k3p rfl (JtL (X8 x 0 50) rfl rfl rfl (Jt9 rfl))
theorem JiM (b g:List Int) (hb:b.length≤2000000) (hg:g.length≤2000000):Ev L f_k3r [.s (dL b),.s (dL g)] [dB (Qr b g)]:=by
 refine Jud (vs:=[.l (dL b),.l (dL g)]) L_k3r rfl ?_;refine JtL (Jc0 b hb) rfl rfl rfl ?_;refine Jua (JU b) rfl (fun h=>?_) (fun h=>Jt9 ?_)
 ·refine JtL (X8 g.length 1 3) rfl ?_ rfl ?_
  ·show [dI ((dL g).length:Int),dI 1,dI 3]=_;rw[dL1]
  refine Jua (inB g.length 1 3) rfl (fun h2=>?_) (fun h2=>Jt9 ?_)
  ·refine JtL (V7 (fun x=>!inB x 0 50) g (fn:=f_k3p) (caps:=[]) hg rfl rfl fun x _=>Jkz x) rfl rfl rfl (Jt9 ?_);show [dB (!(g.any fun x=>!inB x 0 50))]=_;rw[UC];simp[Qr,h,h2]
  ·show [dB false]=_;simp[Qr,h2]
 ·show [dB false]=_;simp[Qr,h]
theorem Jhg (p:List Int) (hp:p.length≤2000000):Ev L f_k4q [.s (dL p)] [dB (!JG 3 10000000 p)] :=
 Jud (vs:=[.l (dL p)]) L_k4q rfl (JtL (XG p 3 10000000 hp (by omega) (by omega)) rfl rfl rfl (Jt9 rfl))
theorem JjD (ps:List (List Int)) (hp:fitLL ps):Ev L f_k4r [.s (dLL ps)] [dB (QO ps)]:=by
 refine Jud (vs:=[.l (dLL ps)]) L_k4r rfl ?_;refine JtL (JdC (fun p=>!JG 3 10000000 p) ps (fn:=f_k4q) (caps:=[]) hp.1 rfl rfl fun p h=>Jhg p (hp.2 p h)) rfl rfl rfl (Jt9 ?_);show [dB (!(ps.any fun p=>!JG 3 10000000 p))]=_;rw[UC];rfl
theorem JcW (a:List Int) (ha:a.length≤2000000):Ev L f_k4s [.s (dL a)] [dB (Qw a)] :=
 Jud (vs:=[.l (dL a)]) L_k4s rfl (JtL (XG a 3 20000 ha (by omega) (by omega)) rfl rfl rfl (Jt9 rfl))
def QF (b g:List Int) (ps:List (List Int)) (s:Int) (a:List Int):Bool:=Qr b g&&QO ps&&inB s 0 (g.length-1)&&Qw a
theorem Jcs (b g:List Int) (ps:List (List Int)) (s:Int) (a:List Int) (hb:b.length≤2000000) (hg:g.length≤2000000) (hp:fitLL ps) (ha:a.length≤2000000) :
  Ev L f_k4t [.s (dL b),.s (dL g),.s (dLL ps),dI s,.s (dL a)] [dB (QF b g ps s a)]:=by
 refine Jud (vs:=[.l (dL b),.l (dL g),.l (dLL ps),.i s,.l (dL a)]) L_k4t rfl ?_;refine JtL (JiM b g hb hg) rfl rfl rfl ?_;refine Jua (Qr b g) rfl (fun h=>?_) (fun h=>Jt9 ?_)
 ·refine JtL (JjD ps hp) rfl rfl rfl ?_;refine Jua (QO ps) rfl (fun h2=>?_) (fun h2=>Jt9 ?_)
  ·refine JtL (X8 s 0 (g.length-1)) rfl ?_ rfl ?_
   ·show [dI s,dI 0,dI (i64.wrap (((dL g).length:Int)-1))]=_;rw[dL1,w64 (by omega) (by omega)]
   refine Jua (inB s 0 (g.length-1)) rfl (fun h3=>?_) (fun h3=>Jt9 ?_)
   ·refine JtL (JcW a ha) rfl rfl rfl (Jt9 ?_);show [dB (Qw a)]=_;simp[QF,h,h2,h3]
   ·show [dB false]=_;simp[QF,h3]
  ·show [dB false]=_;simp[QF,h2]
 ·show [dB false]=_;simp[QF,h]
theorem JqJ (p a:List Int) (hp:Lim 100000000 p) (ha:Lim 1000000 a) (hl:p.length=a.length) (h9:p.length≤999):Ev L f_k4u [.s (dL p),.s (dL a)] [dI (dot p a)]:=by
 refine Jud (vs:=[.l (dL p),.l (dL a)]) L_k4u rfl ?_;refine Jt5 p.length (fun i=>[.i (dot (p.take i) (a.take i)),.i i]) (fun _=>True) rfl rfl trivial fun i hi _=>?_;refine JtN i (dL1 p) rfl (fun h=>?_) (fun h=>?_)
 ·obtain⟨x,hx,_⟩:=sA1 (show i<p.length by omega);obtain⟨y,hy,_⟩:=sA1 (show i<a.length by omega);refine Jt3 i (mA1 (f:=dI) hx) rfl rfl rfl rfl ?_;refine Jt3 i (mA1 (f:=dI) hy) rfl rfl rfl rfl ?_;refine JtH (vs:=[.i (dot (p.take (i+1)) (a.take (i+1))),.i ((i+1:Nat):Int)]) ?_ ⟨h,rfl,trivial⟩;show [V.i (i64.wrap (dot (p.take i) (a.take i)+i64.wrap (x*y))),V.i (i64.wrap ((i:Int)+1))]=_;rw[wS h (by omega),Jiy hx hy hp ha (by omega)]
 ·refine JtX (Jt9 ?_);show [dI (dot (p.take i) (a.take i))]=_;rw[tA1 h,tA1 (by omega)]
theorem JeS (p a:List Int) (G:Int) (hp:JG 3 10000000 p=true) (ha:Qw a=true) (h0:0≤G) (h5:G≤50):Ev L f_k4v [.s (dL p),.q [.s (dL a)],.q [dI G]] [dB (!ZV G a p)]:=by
 obtain⟨p1,p2⟩:=Jo.1 hp;obtain⟨a1,a2⟩:=Jo.1 ha;refine Jud (vs:=[.l (dL p),.d (.q [.s (dL a)]),.d (.q [dI G])]) L_k4v rfl ?_;refine Jt8 (vs:=[.l (dL a)]) rfl rfl ?_;refine JtL (JqJ p a (Lim.mono (m:=10000000) p2 (by omega)) (Lim.mono (m:=20000) a2 (by omega)) (by omega) (by omega)) rfl rfl rfl ?_;refine Jt8 (vs:=[.i G]) rfl rfl ?_;refine Jt8 (vs:=[.i G]) rfl rfl ?_;refine JtL (X8 (dot p a) (0-G) G) rfl ?_ rfl (Jt9 rfl);show [dI (dot p a),dI (i64.wrap (0-G)),dI G]=_;rw[w64 (by omega) (by omega)]
theorem JhT {b g:List Int} {ps:List (List Int)} {s:Int} {a:List Int} (h:QF b g ps s a=true) :
  Qr b g=true∧QO ps=true∧0≤s∧s<g.length∧Qw a=true∧g[s.toNat]? = some (g.getD s.toNat 0)∧0≤g.getD s.toNat 0∧g.getD s.toNat 0≤50:=by
 simp only[QF,Jui,Jp] at h;obtain⟨⟨⟨h1,h2⟩,h3⟩,h4⟩:=h;have hsg:s.toNat<g.length:=by omega
 have hgm:=XI (p:=fun x=>0≤x∧x≤50) (l:=g) (by
  intro x hx;simp only[Qr,Jui,Juv] at h1;exact Jp.1 (h1.2 x hx)) hsg
 exact⟨h1,h2,h3.1,by omega,h4,JaG hsg,hgm⟩
theorem Jj4 (b g:List Int) (ps:List (List Int)) (s:Int) (a:List Int):keeps b g ps s a=(QF b g ps s a&&ps.all (ZV (g.getD s.toNat 0) a)):=rfl
theorem JiA (b g:List Int) (ps:List (List Int)) (s:Int) (a:List Int) (hb:b.length≤2000000) (hg:g.length≤2000000) (hp:fitLL ps) (ha:a.length≤2000000) :
  Ev L f_k4w [.s (dL b),.s (dL g),.s (dLL ps),dI s,.s (dL a)] [dB (keeps b g ps s a)]:=by
 refine Jud (vs:=[.l (dL b),.l (dL g),.l (dLL ps),.i s,.l (dL a)]) L_k4w rfl ?_;refine JtL (Jcs b g ps s a hb hg hp ha) rfl rfl rfl ?_;rw[Jj4];refine JtI (QF b g ps s a) rfl (fun h=>Jt9 ?_) (fun h=>?_)
 ·show [dB false]=_;rw[h];rfl
 obtain⟨h1,h2,s0,s1,h4,hd,g0,g5⟩:=JhT h;generalize g.getD s.toNat 0=G at *;refine JtJ (ds:=dL g) s rfl rfl rfl s0 (mA1 (f:=dI) hd) rfl ?_;refine JtL (JdC (fun p=>!ZV G a p) ps (fn:=f_k4v) (caps:=[.q [.s (dL a)],.q [dI G]]) hp.1 rfl rfl fun p hm=>JeS p a G (Juv.1 h2 p hm) h4 g0 g5) rfl rfl rfl (Jt9 ?_);show [dB (!(ps.any fun p=>!ZV G a p))]=_;rw[UC,h];rfl
/- All sites keep to a treaty just if each does: over residual programs. -/
theorem Qm.fitLL {n:Nat} {ps:List (List Int)} (h:Qm n ps) (hn:n≤2000000):fitLL ps:=⟨by have:=h.len;omega,fun p hp=>by rw[(h.each p hp).1];omega⟩
end Go.Proofs.YtofcmnglieaoeaaGreatDoor

import Derived.Test.YtngcnclchcahlabGreatDoorPG
import Derived.Test.YtngcnclchcahlabGreatDoorTd
set_option linter.unusedVariables false
set_option linter.unusedSimpArgs false
/- What the reference's ways through an act come to. -/
namespace Go.Proofs.YtngcnclchcahlabGreatDoor
open Go Go.Tm
open Go.IntKind (i64)
theorem JiJ {l:List Frm} {i:Nat} (h:i<l.length):l.getD i Frm.none∈l∧l[i]? = some (l.getD i Frm.none):=by
 rw[Ju3,Jvb h];exact⟨List.getElem_mem h,rfl⟩
def Kn (p:List Frm):List Frm:=[JX (p.getD 0 Frm.none) (JC 0) (-1),JX (p.getD 1 Frm.none) (JC 1) (-1),JX (p.getD 2 Frm.none) (JC 2) (-1)]
theorem JnU {p g t:List Frm} {M:Int} (hp:p.length=3) (sp :∀f∈p,Std M f) (hg:g.length≤2000000) (sg :∀f∈g,Std M f) (ht:t.length≤2000000) (st :∀f∈t,Std M f) (h0:1≤M) (hM:M≤1000000000) :
  Ev L f_k10 [.s (dF p),.s (dF g),.s (dF t)] (Zb p g t).cells:=by
 refine JuV (vs:=[.l (dF p),.l (dF g),.l (dF t)]) L_k10 rfl ?_;refine JuM (args:=[.s (dF g)]) rfl rfl (YD hg sg (by omega) hM) rfl ?_;refine JuM (args:=[.s (dF t)]) rfl rfl (YD ht st (by omega) hM) rfl ?_;refine JuQ (fun m vs=>∃ i:Nat,i≤3∧m=3-i∧vs=[.l (dF ((Kn p).take i)),.i i]) rfl 3 ⟨0,by omega,rfl,rfl⟩ ?_;rintro m _ ⟨i,hi,hm,rfl⟩;refine JuB ((i:Int)<3) rfl (fun h=>?_) (fun h=>?_)
 ·obtain⟨x,hx,hd⟩:=Jbb (l:=p) (i:=(i:Int)) (by omega) (by omega);have hsx:=sp x (Ju7 hx);refine Juz (ds:=dF p) i rfl rfl rfl (by omega) hd rfl ?_;refine JuM (args:=[dI i]) rfl rfl (ZS i (by omega) (by omega)) rfl ?_;rw[Int.toNat_natCast] at hx;refine JuM (args:=x.cells++(JC (i:Int).toNat).cells++[dI (-1)]) rfl rfl (VS hsx (Xk.mono h0) hM (by omega)) rfl ?_;have hn:(Kn p)[i]? = some (JX x (JC (i:Int).toNat) (-1)):=by
   have e:p.getD i Frm.none=x:=by rw[Ju3,hx];rfl
   subst e;rw[Int.toNat_natCast]
   match i,h with
   | 0,_=>rfl
   | 1,_=>rfl
   | 2,_=>rfl
   | n+3,h=>omega
  refine Jus (dF ((Kn p).take i)++[(JX x (JC (i:Int).toNat) (-1)).g]) rfl (by rw[Xt,J8];simp;omega) ?_;refine JuC (vs:=[.l (dF ((Kn p).take (i+1))),.i ((i+1:Nat):Int)]) ?_ ⟨m-1,by omega,i+1,by omega,by omega,rfl⟩;show [V.l (dF ((Kn p).take i)++[(JX x (JC (i:Int).toNat) (-1)).g]),V.i (i64.wrap ((i:Int)+1))]=_;rw[Xt,tS1 hn,w64 (by omega) (by omega)];rfl
 ·refine Juk (Jun ?_);have hi3:i=3:=by omega
  subst hi3;rfl
structure QI (act:List Jg):Prop where
 len:act.length≤6
 ok :∀l∈act,l.ok=true
theorem JeE {act:List Jg} (h:Qo act=true):QI act:=by
 simp only[Qo,Ju0,decide_eq_true_eq,Jvd] at h;exact⟨by omega,h.1.1⟩
theorem JiU {l:Jg} (h:l.ok=true) (h4 : ¬l.kind=4):l.f.small=true:=by
 unfold Jg.ok at h;split at h
 ·simp only[Ju0] at h;exact h.2
 split at h
 ·simp only[Ju0] at h;exact h.2
 split at h
 ·simp only[Ju0] at h;exact h.2
 ·simp[h4] at h
theorem Jez {l:Jg} (h:l.ok=true) (h2:l.kind=2):0≤l.pot∧l.pot≤2:=by
 unfold Jg.ok at h;rw[if_neg (by omega),if_pos h2] at h;simp only[Ju0,Jr] at h;exact h.1.1
theorem V1 {l:Jg} (h:l.ok=true) (h1:l.kind=1):1≤l.skip∧l.skip≤6:=by
 unfold Jg.ok at h;rw[if_pos h1] at h;simp only[Ju0,Jr] at h;exact h.1.2
theorem Xw {α:Type} {l:List α} {i:Nat} {x:α} (h:l[i]? = some x):l.drop i=x::l.drop (i+1):=by
 obtain⟨h1,h2⟩:=Ju1.1 h;rw[List.drop_eq_getElem_cons h1,h2]
theorem K3 {α:Type} {l:List α} {x:α} {p:α→Prop} (h :∀y∈l,p y) (hx:p x) :∀y∈l++[x],p y:=by
 intro y hy;rcases Ju5.1 hy with hy | hy
 ·exact h y hy
 ·simp at hy;subst hy;exact hx
theorem JmD (a b:List Row):Qm a++Qm b=Qm (a++b):=by simp[Qm]
set_option maxHeartbeats 4000000 in
theorem JlU {act:List Jg} (hact:QI act) :∀(n:Nat) (at_:Int) (p g t:List Frm) (j:Nat),0≤at_→at_≤20→act.length-at_.toNat=n→(j:Int)≤at_→j≤6 →
  p.length=3→(∀f∈p,Std (Bd j) f)→g.length≤j→(∀f∈g,Std 10000000 f)→t.length≤j→(∀f∈t,Std 10000000 f) →
  Ev L f_k11 [.s (Jl act),dI at_,.s (dF p),.s (dF g),.s (dF t)] [.s (Qm (walk (act.drop at_.toNat) p g t))]:=by
 intro n
 induction n using Nat.strongRecOn with
 | _ n ih =>
  intro at_ p g t j a0 a20 hn hj hj6 hp sp hg sg ht st;have hal:=hact.len;refine JuV (vs:=[.l (Jl act),.i at_,.l (dF p),.l (dF g),.l (dF t)]) L_k11 rfl ?_;refine JuQ (fun m vs=>∃ (i:Int) (p' t':List Frm) (j':Nat),vs=[.l (dF p'),.l (dF t'),.i i]∧at_≤i∧i≤20∧m=act.length-i.toNat∧(j':Int)≤i∧j≤j'∧j'≤6∧p'.length=3∧(∀f∈p',Std (Bd j') f)∧t'.length≤j'∧(∀f∈t',Std 10000000 f) ∧
   walk (act.drop i.toNat) p' g t'=walk (act.drop at_.toNat) p g t) rfl (act.length-at_.toNat) ⟨at_,p,t,j,rfl,by omega,a20,rfl,hj,by omega,hj6,hp,sp,ht,st,rfl⟩ ?_
  rintro m _ ⟨i,p',t',j',rfl,ai,i20,hm,hj',hjj,hj6',hp',sp',ht',st',hw⟩;have hB:=Jhs hj6';have hB0:=Y6 j';refine JuB (i<((Jl act).length:Int)) rfl (fun hi=>?_) (fun hi=>?_)
  ·rw[JG] at hi;obtain⟨l,hl,hd⟩:=K2 (a:=act) (i:=i) (by omega) hi;have hok:=hact.ok l (Ju7 hl);have hdr:=Xw hl;have hs1:(i+1).toNat=i.toNat+1:=by omega
   refine Juz (ds:=Jl act) i rfl rfl rfl (by omega) hd rfl ?_;refine JuB (l.kind=4) rfl (fun h4=>?_) (fun h4=>?_)
   ·refine JuM (args:=[.s (dF g)]) rfl rfl (YD (by omega) sg (by omega) (by omega)) rfl ?_;refine Juk (Jun ?_);show [D.s [D.g [.s (dF g),.s [],.s [],dB true]]]=_;rw[←hw,hdr,walk,if_pos h4];rfl
   have hsm:=JiU hok h4;have hin:=U9 hsm hp' sp' hB0;have hin7:Std 10000000 (Jt l.f p'):=hin.mono (by omega);refine JuM (args:=l.f.cells++[.s (dF p')]) rfl rfl (JkA hsm hp' sp' hB0 (by omega)) rfl ?_;have hj5:j'<6:=by omega
   refine JuB (l.kind=1) rfl (fun h1=>?_) (fun h1=>?_)
   ·have hsk:=V1 hok h1;have hg':(g++[Jt l.f p']).length≤j'+1:=by simp;omega
    have hg2:(g++[QY (Jt l.f p')]).length≤j'+1:=by simp;omega
    have hmin:Std 10000000 (QY (Jt l.f p')):=(W8 hin).mono (by omega);have spB :∀f∈p',Std (Bd (j'+1)) f:=fun f hf=>(sp' f hf).mono (Kw (by omega));have cp:=YD (by omega:p'.length≤2000000) sp' hB0 (by omega);have cg:=YD (by omega:g.length≤2000000) sg (by omega) (by omega);have ct:=YD (by omega:t'.length≤2000000) st' (by omega) (by omega);refine JuM (args:=[.s (dF p')]) rfl rfl cp rfl ?_;refine JuM (args:=[.s (dF g)]) rfl rfl cg rfl ?_;refine Jus (dF g++[(Jt l.f p').g]) rfl (by rw[Xt,J8];omega) ?_;refine JuM (args:=[.s (dF t')]) rfl rfl ct rfl ?_;have e1:=ih (act.length-(i+1).toNat) (by omega) (i+1) p' (g++[Jt l.f p']) t' (j'+1) (by omega) (by omega) rfl (by omega) (by omega) hp' spB hg' (K3 sg hin7) (by omega) st';refine JuM (args:=[.s (Jl act),dI (i+1),.s (dF p'),.s (dF (g++[Jt l.f p'])),.s (dF t')]) rfl ?_ e1 rfl ?_
    ·show [D.s (Jl act),dI (i64.wrap (i+1)),.s (dF p'),.s (dF g++[(Jt l.f p').g]),.s (dF t')]=_;rw[Xt,w64 (by omega) (by omega)]
    refine JuM (args:=[.s (dF p')]) rfl rfl cp rfl ?_;refine JuM (args:=[.s (dF g)]) rfl rfl cg rfl ?_;refine JuM (args:=(Jt l.f p').cells) rfl rfl (Jj2 hin7 (by omega) (by omega)) rfl ?_;refine Jus (dF g++[(QY (Jt l.f p')).g]) rfl (by rw[Xt,J8];omega) ?_;refine JuM (args:=[.s (dF t')]) rfl rfl ct rfl ?_;have e2:=ih (act.length-(i+1+l.skip).toNat) (by omega) (i+1+l.skip) p' (g++[QY (Jt l.f p')]) t' (j'+1) (by omega) (by omega) rfl (by omega) (by omega) hp' spB hg2 (K3 sg hmin) (by omega) st';refine JuM (args:=[.s (Jl act),dI (i+1+l.skip),.s (dF p'),.s (dF (g++[QY (Jt l.f p')])),.s (dF t')]) rfl ?_ e2 rfl ?_
    ·show [D.s (Jl act),dI (i64.wrap (i64.wrap (i+1)+l.skip)),.s (dF p'),.s (dF g++[(QY (Jt l.f p')).g]),.s (dF t')]=_;rw[Xt,w64 (n:=i+1) (by omega) (by omega),w64 (by omega) (by omega)]
    have wl :∀(k:Nat) (a b c:List Frm),(walk (act.drop k) a b c).length≤64:=fun k a b c=>by
     refine Nat.le_trans (JhH _ _ _ _) ?_;exact Nat.le_trans (Nat.pow_le_pow_right (by omega) (show (act.drop k).length≤6 by simp;omega)) (by decide)
    have w1:=wl (i+1).toNat p' (g++[Jt l.f p']) t';have w2:=wl (i+1+l.skip).toNat p' (g++[QY (Jt l.f p')]) t';refine Jus (Qm (walk (act.drop (i+1+l.skip).toNat) p' (g++[QY (Jt l.f p')]) t')) rfl (by rw[Yc];omega) ?_;refine JuT (Jnh _) ?_;refine Jus (Qm (walk (act.drop (i+1).toNat) p' (g++[Jt l.f p']) t')++Qm (walk (act.drop (i+1+l.skip).toNat) p' (g++[QY (Jt l.f p')]) t')) rfl (by rw[Ju6,Yc,Yc];omega) ?_;refine Juk (Jun ?_);show [D.s (Qm (walk (act.drop (i+1).toNat) p' (g++[Jt l.f p']) t')++Qm (walk (act.drop (i+1+l.skip).toNat) p' (g++[QY (Jt l.f p')]) t'))]=_;rw[JmD,←hw,hdr,walk,if_neg h4,if_pos h1,List.drop_drop,hs1,show i.toNat+1+l.skip.toNat=(i+1+l.skip).toNat by omega]
   refine JuB (l.kind=2) rfl (fun h2=>?_) (fun h2=>?_)
   ·have hpt:=Jez hok h2;have hlt:l.pot.toNat<p'.length:=by omega
    obtain⟨hm1,hm2⟩:=JiJ hlt;have hdg:(dF p')[l.pot.toNat]? = some (p'.getD l.pot.toNat Frm.none).g:=mA1 (f:=Frm.g) hm2;refine JuM (args:=[.s (dF p')]) rfl rfl (YD (by omega) sp' hB0 (by omega)) rfl ?_;refine JuE (0≤l.pot) rfl hpt.1 ?_;refine JuE (l.pot<((dF p').length:Int)) rfl (by rw[J8];omega) ?_;refine Juz (ds:=dF p') l.pot rfl rfl rfl hpt.1 hdg rfl ?_;refine JuM (args:=(p'.getD l.pot.toNat Frm.none).cells++(Jt l.f p').cells++[dI 1]) rfl rfl (VS ((sp' _ hm1).mono (by omega)) hin7 (by omega) (by omega)) rfl ?_;refine JuE (0≤l.pot) rfl hpt.1 ?_;refine JuE (l.pot<((dF p').length:Int)) rfl (by rw[J8];omega) ?_;refine Juz (ds:=dF p') l.pot rfl rfl rfl hpt.1 hdg rfl ?_;have hsum:Std (Bd (j'+1)) (JX (p'.getD l.pot.toNat Frm.none) (Jt l.f p') 1):=(Q5 (sp' _ hm1) hin (n:=1) (N:=1) (by omega)).mono (by simp only[Bd];omega);refine JuC (vs:=[.l (dF (p'.set l.pot.toNat (JX (p'.getD l.pot.toNat Frm.none) (Jt l.f p') 1))),.l (dF t'),.i (i+1)]) ?_
     ⟨act.length-(i+1).toNat,by omega,i+1,p'.set l.pot.toNat (JX (p'.getD l.pot.toNat Frm.none) (Jt l.f p') 1),t',j'+1,rfl,by omega,by omega,rfl,by omega,by omega,by omega,by simp[hp'],?_,by omega,st',?_⟩
    ·show [V.l ((dF p').set l.pot.toNat (JX (p'.getD l.pot.toNat Frm.none) (Jt l.f p') 1).g),V.l (dF t'),V.i (i64.wrap (i+1))]=_;rw[w64 (by omega) (by omega)];simp[dF,List.map_set]
    ·intro f hf;rcases Jvp hf with hf | hf
     ·exact(sp' f hf).mono (Kw (by omega))
     ·subst hf;exact hsum
    ·rw[←hw,hdr,hs1];conv=>rhs;rw[walk];rw[if_neg h4,if_neg h1,if_pos h2]
   ·refine JuM (args:=[.s (dF t')]) rfl rfl (YD (by omega) st' (by omega) (by omega)) rfl ?_;refine Jus (dF t'++[(Jt l.f p').g]) rfl (by rw[Xt,J8,Ju6,List.length_singleton];omega) ?_;refine JuC (vs:=[.l (dF p'),.l (dF (t'++[Jt l.f p'])),.i (i+1)]) ?_
     ⟨act.length-(i+1).toNat,by omega,i+1,p',t'++[Jt l.f p'],j'+1,rfl,by omega,by omega,rfl,by omega,by omega,by omega,hp',fun f hf=>(sp' f hf).mono (Kw (by omega)),by simp;omega,K3 st' hin7,?_⟩
    ·show [V.l (dF p'),V.l (dF t'++[(Jt l.f p').g]),V.i (i64.wrap (i+1))]=_;rw[Xt,w64 (by omega) (by omega)]
    ·rw[←hw,hdr,hs1];conv=>rhs;rw[walk];rw[if_neg h4,if_neg h1,if_neg h2]
  ·rw[JG] at hi;refine Juk ?_;refine JuM (args:=[.s (dF p'),.s (dF g),.s (dF t')]) rfl rfl (JnU (M:=10000000) hp' (fun f hf=>(sp' f hf).mono (by omega)) (by omega) sg (by omega) st' (by omega) (by omega)) rfl ?_;refine Jun ?_;show [D.s [(Zb p' g t').g]]=_;rw[←hw,List.drop_eq_nil_of_le (by omega),walk];rfl
theorem Jf3 (act:List Jg) (hf:Kt act):Ev L f_k12 [.s (Jl act)] [.s (Qm (Jv act))]:=by
 refine JuV (vs:=[.l (Jl act)]) L_k12 rfl ?_;refine JuM (args:=[.s (Jl act)]) rfl rfl (JaQ act hf) rfl ?_;refine JuB (Qo act=false) ?_ (fun h=>Jun ?_) (fun h=>?_)
 ·show (!(Qo act))=_;cases Qo act <;> rfl
 ·show [D.s []]=_;simp[Jv,h,Qm]
 have h:Qo act=true:=by simpa using h
 refine JuM (args:=[dI 0]) rfl rfl (ZS 0 (by omega) (by omega)) rfl ?_;refine JuM (args:=[dI 1]) rfl rfl (ZS 1 (by omega) (by omega)) rfl ?_;refine JuM (args:=[dI 2]) rfl rfl (ZS 2 (by omega) (by omega)) rfl ?_;have e:=JlU (JeE h) act.length 0 [JC 0,JC 1,JC 2] [] [] 0 (by omega) (by omega) (by simp) (by omega) (by omega) rfl (by
  intro f hf';simp at hf';rcases hf' with rfl | rfl | rfl <;> exact Xk) (by simp) (by simp) (by simp) (by simp)
 refine JuM (args:=[.s (Jl act),dI 0,.s (dF [JC 0,JC 1,JC 2]),.s (dF []),.s (dF [])]) rfl rfl e rfl ?_;refine Jun ?_;show [D.s (Qm (walk (act.drop (0:Int).toNat) [JC 0,JC 1,JC 2] [] []))]=_;simp[Jv,h]
/- What the reference's parts,pins,and draws of them come to. -/
def Yr (as:List (List Jg)):Prop:=as.length≤2000000∧∀a∈as,Kt a
theorem Jgx.fit {as:List (List Jg)} (h:Jgx as):Yr as:=⟨by have:=h.1;omega,fun a ha=>(h.2 a ha).fit⟩
theorem Jok (as:List (List Jg)) (hf:Yr as):Ev L f_kf [.s (Jd as)] [dB (Qx as)]:=by
 have hl:=hf.1;refine JuV (vs:=[.l (Jd as)]) L_kf rfl ?_;refine Jup (JT as.length 1 4) rfl ?_ rfl ?_
 ·show [dI ((Jd as).length:Int),dI 1,dI 4]=_;rw[JR]
 refine JuL (inB as.length 1 4) rfl (fun h=>Jun ?_) (fun h=>?_)
 ·show [dB false]=_;simp[Qx,h]
 refine Juu as.length (fun i=>[.i i]) (fun i=>(as.take i).all Qo=true) rfl rfl (by simp) fun i hi hp=>?_;refine JuG i (JR as) rfl (fun h'=>?_) (fun h'=>?_)
 ·obtain⟨x,hx,hm⟩:=sA1 h';refine JuF i (mA1 (f:=fun a=> .s (Jl a)) hx) rfl rfl rfl rfl ?_;refine Jup (JaQ x (hf.2 x hm)) rfl rfl rfl ?_;refine JuL (Qo x) rfl (fun hb=>Juk (Jun ?_)) (fun hb=>?_)
  ·show [dB false]=_;simp[Qx,Yw hx hb]
  ·refine JuC (vs:=[.i ((i+1:Nat):Int)]) ?_ ⟨h',rfl,Q4 hx hp hb⟩;show [V.i (i64.wrap ((i:Int)+1))]=_;rw[wS h' (by omega)]
 ·refine Juk (Jun ?_);rw[tA1 h'] at hp;show [dB true]=_;simp only[Qx,h,hp];simp
theorem Jd4 (f:Frm) (hl:Lim 1000000000 f.c) (hn:f.c.length≤2000000):Ev L f_k14 f.cells [.s (dL (Jn f.c))]:=by
 refine JuV (vs:=[.l (dL f.c),.l (dL f.d),.i f.k]) L_k14 rfl ?_;refine Juu f.c.length (fun i=>[.l (dL (Jn (f.c.take i))),.i (Zj (f.c.take i)),.i i]) (fun _=>True) rfl rfl trivial fun i hi _=>?_;refine JuG i (dL1 f.c) rfl (fun h=>?_) (fun h=>?_)
 ·obtain⟨x,hx,hm⟩:=sA1 h;have hd:=mA1 (f:=dI) hx;have hxl:=hl x hm;have hs:=JiP (f.c.take i) x;have hps:=Jm7 (f.c.take i) x;rw[←tS1 hx] at hs hps;have hlen:(Jn (f.c.take i)).length≤i:=by rw[VF];simp;omega
  have hin:=Jgu (f.c.take i);have fin :∀(s:Int) (l:List V),s=Zj (f.c.take (i+1))→[V.l (dL (Jn (f.c.take i))++[dI (i64.wrap (s*x))]),V.i s,V.i (i64.wrap ((i:Int)+1))]=[V.l (dL (Jn (f.c.take (i+1)))),.i (Zj (f.c.take (i+1))),.i ((i+1:Nat):Int)]:=by
   intro s _ e;subst e;rw[wS h (by omega),hps,w64,XI]
   ·rcases Jgu (f.c.take (i+1)) with e | e | e <;> rw[e] <;> omega
   ·rcases Jgu (f.c.take (i+1)) with e | e | e <;> rw[e] <;> omega
  generalize hS:Zj (f.c.take i)=S at *;refine JuB (S=0) rfl (fun h0=>?_) (fun h0=>?_)
  ·subst h0;simp only[if_true] at hs;refine JuF i hd rfl rfl rfl rfl ?_;refine JuB (0<x) rfl (fun h1=>?_) (fun h1=>?_)
   ·refine JuF i hd rfl rfl rfl rfl ?_;refine JuR (dL (Jn (f.c.take i))) 2000000 (by rw[dL1];omega) (by omega) rfl ?_;rw[if_pos h1] at hs;exact JuC (fin 1 [] hs.symm) ⟨h,rfl,trivial⟩
   ·refine JuB ((0:Int)=0) rfl (fun _=>?_) (fun h=>absurd rfl h);refine JuF i hd rfl rfl rfl rfl ?_;refine JuB (x<0) rfl (fun h2=>?_) (fun h2=>?_)
    ·refine JuF i hd rfl rfl rfl rfl ?_;refine JuR (dL (Jn (f.c.take i))) 2000000 (by rw[dL1];omega) (by omega) rfl ?_;rw[if_neg h1,if_pos h2] at hs;exact JuC (fin (-1) [] hs.symm) ⟨h,rfl,trivial⟩
    ·refine JuF i hd rfl rfl rfl rfl ?_;refine JuR (dL (Jn (f.c.take i))) 2000000 (by rw[dL1];omega) (by omega) rfl ?_;rw[if_neg h1,if_neg h2] at hs;exact JuC (fin 0 [] hs.symm) ⟨h,rfl,trivial⟩
  ·rw[if_neg h0] at hs;refine JuB (S=0) rfl (fun h=>absurd h h0) (fun _=>?_);refine JuF i hd rfl rfl rfl rfl ?_;refine JuR (dL (Jn (f.c.take i))) 2000000 (by rw[dL1];omega) (by omega) rfl ?_;exact JuC (fin S [] hs.symm) ⟨h,rfl,trivial⟩
 ·refine Juk (Jun ?_);show [D.s (dL (Jn (f.c.take i)))]=_;rw[tA1 h]
def JrD (cmp : E) (sh : Sh) : R :=
  .ite (.not (.cmp .eq (.len (.v 0)) (.len (.v 1))))
   (
    .done [(.vb .ff)])
   (
    .loop 2 [(.z 0)] <|
      .ite (.cmp .lt (.v 2) (.len (.v 0)))
       (
        .i (.idx (.v 0) (.v 2) sh 3) <|
        .i (.idx (.v 1) (.v 2) sh 4) <|
        .ite (.not cmp)
         (
          .esc <|
          .done [(.vb .ff)])
         (
          .next [(.bin .add .i64 (.v 2) (.z 1))]))
       (
        .esc <|
        .done [(.vb .tt)]))
theorem Jgs {α:Type} [DecidableEq α] {f:FuncId} {H:Kr} {s:Sig} {cmp:E} {sh:Sh} (enc:α→D) (vOf:α→V) (a b:List α) (hf:L.lookup f=some ⟨s,.r H (JrD cmp sh)⟩) (hs:UZ s=[.s,.s])
  (hb :∀x,KS sh (enc x)=some [vOf x]) (hc :∀(v0 v1 v2:V) (x y:α),bol (Jo [v0,v1,v2,vOf x,vOf y]) cmp=decide (x=y)) (hl:a.length≤2000000) :
  Ev L f [.s (a.map enc),.s (b.map enc)] [dB (decide (a=b))]:=by
 refine JuV (vs:=[.l (a.map enc),.l (b.map enc)]) hf (by rw[hs];rfl) ?_;refine JuB (¬a.length=b.length) ?_ (fun h=>Jun ?_) (fun h=>?_)
 ·show (!(decide (((a.map enc).length:Int)=((b.map enc).length:Int))))=_;rw[Ju9,Ju9]
  by_cases h:a.length=b.length
  ·simp[h]
  ·simp[h,show ¬(a.length:Int)=b.length by omega]
 ·show [dB false]=_;rw[decide_eq_false];intro e;exact h (by rw[e])
 have h:a.length=b.length:=Classical.not_not.1 h;refine Juu a.length (fun i=>[.i i]) (fun i=>a.take i=b.take i) rfl rfl rfl fun i hi hp=>?_;refine JuG i (Ju9 (f:=enc) (as:=a)) rfl (fun h'=>?_) (fun h'=>?_)
 ·obtain⟨x,hx,_⟩:=sA1 h';obtain⟨y,hy,_⟩:=sA1 (show i<b.length by omega);refine JuF i (mA1 (f:=enc) hx) rfl rfl rfl (hb x) ?_;refine JuF i (mA1 (f:=enc) hy) rfl rfl rfl (hb y) ?_;refine JuL (decide (x=y)) ?_ (fun hxy=>Juk (Jun ?_)) (fun hxy=>?_)
  ·show (!(bol (Jo [V.l (a.map enc),.l (b.map enc),.i i,vOf x,vOf y]) cmp))=_;rw[hc]
  ·show [dB false]=_;rw[decide_eq_false];intro e;subst e;rw[hx] at hy;simp only[JuZ] at hy;simp[hy] at hxy
  ·have hxy:x=y:=by simpa using hxy
   subst hxy;refine JuC (vs:=[.i ((i+1:Nat):Int)]) ?_ ⟨h',rfl,by show a.take (i+1)=b.take (i+1);rw[tS1 hx,tS1 hy,hp]⟩;show [V.i (i64.wrap ((i:Int)+1))]=_;rw[wS h' (by omega)]
 ·refine Juk (Jun ?_);rw[tA1 h',tA1 (by omega)] at hp;subst hp;show [dB true]=_;simp
theorem JbE (a b:List Int) (hl:a.length≤2000000):Ev L f_k15 [.s (dL a),.s (dL b)] [dB (decide (a=b))] :=
 Jgs dI .i a b L_k15 rfl (fun _=>rfl) (fun _ _ _ _ _=>rfl) hl
theorem Jff (l:List (List Int)) (p:List Int) (hl:l.length≤2000000) (hq :∀q∈l,q.length≤2000000):Ev L f_k16 [.s (dLL l),.s (dL p)] [dI (K6 l p)]:=by
 refine JuV (vs:=[.l (dLL l),.l (dL p)]) L_k16 rfl ?_;refine Juu l.length (fun i=>[.i i]) (fun i=>(l.take i).any (fun q=>decide (q=p))=false) rfl rfl (by simp) fun i hi hn=>?_;refine JuG i (Ux l) rfl (fun h=>?_) (fun h=>?_)
 ·obtain⟨x,hx,hm⟩:=sA1 h;refine JuF i (mA1 (f:=fun x=> .s (dL x)) hx) rfl rfl rfl rfl ?_;refine Jup (JbE x p (hq x hm)) rfl rfl rfl ?_;refine JuU (decide (x=p)) rfl (fun hp=>Juk (Jun ?_)) (fun hp=>?_)
  ·show [dI i]=_;rw[K6,Jd0 hx hp hn]
  ·refine JuC (vs:=[.i ((i+1:Nat):Int)]) ?_ ⟨h,rfl,Jel hx hn hp⟩;show [V.i (i64.wrap ((i:Int)+1))]=_;rw[wS h (by omega)]
 ·refine Juk (Jun ?_);rw[tA1 h] at hn;show [dI (-1)]=_;rw[K6,Jey hn]
theorem Jqd (p:List Bool):Yf 1 (dBl p)=true:=by cases p <;> rfl
theorem JdO (p:List Bool) (fs:List Frm) (hp:p.length=3) (hc :∀f∈fs,f.c.length=3) (hl:fs.length≤2000000):Ev L f_k13 [.s (dBl p),.s (dF fs)] [.s (dBl (QU p fs))]:=by
 refine JuV (vs:=[.l (dBl p),.l (dF fs)]) L_k13 rfl ?_;refine Juv (dBl p) 3 (by rw[Jf8];omega) (by omega) rfl ?_;refine JuT (Jqd p) ?_;refine Juv (dBl p) 3 (by rw[Jf8];omega) (by omega) rfl ?_;refine Juu fs.length (fun i=>[.l (dBl (QU p (fs.take i))),.i i]) (fun _=>True) rfl rfl trivial fun i hi _=>?_;refine JuG i (J8 fs) rfl (fun h=>?_) (fun h=>?_)
 ·obtain⟨x,hx,hm⟩:=sA1 h;have hx3:=hc x hm;have hP:(QU p (fs.take i)).length=3:=Kc hp fun f hf=>hc f (Jvo hf);have hS:QU p (fs.take (i+1))=UD (QU p (fs.take i)) x.c:=XJ hx;generalize QU p (fs.take i)=P at *;have hO:(UD P x.c).length=3:=by rw[JaB];omega
  refine Juu 3 (fun v=>[.l (dBl ((UD P x.c).take v++P.drop v)),.i v]) (fun _=>True) rfl rfl trivial fun v hv _=>?_;refine JuD v 3 rfl (fun hv3=>?_) (fun hv3=>?_)
  ·obtain⟨n,hn,_⟩:=sA1 (show v<x.c.length by omega);obtain⟨b,hb,_⟩:=sA1 (show v<P.length by omega);have ho:(UD P x.c)[v]? = some (b||decide (n≠0)):=by simp[UD,List.getElem?_zipWith,hn,hb]
   refine JuF i (mA1 (f:=Frm.g) hx) rfl rfl rfl rfl ?_;refine JuF v (mA1 (f:=dI) hn) rfl rfl rfl rfl ?_;have hlen:((UD P x.c).take v++P.drop v).length=3:=by simp;omega
   refine JuL (decide (n=0)) rfl (fun h0=>?_) (fun h0=>?_)
   ·obtain⟨b',hb',_⟩:=sA1 (show v<((UD P x.c).take v++P.drop v).length by omega);refine JuP v (mA1 (f:=dB) hb') rfl rfl rfl rfl rfl rfl ?_;have h0:n≠0:=by simpa using h0
    have ho:(UD P x.c)[v]? = some true:=by rw[ho];simp[h0]
    refine JuC (vs:=[.l (dBl ((UD P x.c).take (v+1)++P.drop (v+1))),.i ((v+1:Nat):Int)]) ?_ ⟨hv3,rfl,trivial⟩;show [V.l ((dBl ((UD P x.c).take v++P.drop v)).set (v:Int).toNat (dB true)),V.i (i64.wrap ((v:Int)+1))]=_;rw[wS hv3 (by omega),JlB,Int.toNat_natCast,Jow (by omega) ho]
   ·have h0:n=0:=by simpa using h0
    refine JuC (vs:=[.l (dBl ((UD P x.c).take (v+1)++P.drop (v+1))),.i ((v+1:Nat):Int)]) ?_ ⟨hv3,rfl,trivial⟩;show [V.l (dBl ((UD P x.c).take v++P.drop v)),V.i (i64.wrap ((v:Int)+1))]=_;rw[wS hv3 (by omega),JmS (s:=b) (by rw[ho];simp[h0]) hb]
  ·have:v=3:=by omega
   subst this;rw[Ju4 (by omega),List.drop_eq_nil_of_le (by omega),List.append_nil];refine Juk ?_;refine JuC (vs:=[.l (dBl (QU p (fs.take (i+1)))),.i ((i+1:Nat):Int)]) ?_ ⟨h,rfl,trivial⟩;show [V.l (dBl (UD P x.c)),V.i (i64.wrap ((i:Int)+1))]=_;rw[wS h (by omega),hS]
 ·refine Juk (Jun ?_);show [D.s (dBl (QU p (fs.take i)))]=_;rw[tA1 h]
/- What the reference's catalogue of parts and pins comes to. -/
structure Qs (n:Nat) (s:List (List Int)):Prop where
 len:s.length≤n
 each :∀q∈s,q.length=3∧Lim 10000000 q
theorem Qs.add {n:Nat} {s:List (List Int)} (h:Qs n s) {f:Frm} (hf:Std 10000000 f):Qs (n+1) (Jp s f) :=
 ⟨by have:=JiF s f;have:=h.len;omega,Jjp h.each ⟨by rw[VF];exact hf.c,JoO hf.lc⟩⟩
theorem Qs.mono {n m:Nat} {s:List (List Int)} (h:Qs n s) (hm:n≤m):Qs m s:=⟨by have:=h.len;omega,h.each⟩
theorem Qs.adds {n:Nat} {s:List (List Int)} (h:Qs n s) {fs:List Frm} (hf :∀f∈fs,Std 10000000 f):Qs (n+fs.length) (fs.foldl Jp s):=by
 induction fs generalizing n s with
 | nil=>exact h
 | cons f fs ih=>exact(ih (h.add (hf f (by simp))) fun g hg=>hf g (by simp[hg])).mono (by simp;omega)
theorem Qs.rows {n:Nat} {s:List (List Int)×List Bool} (h:Qs n s.1) (h3:s.2.length=3) {rs:List Row} (hr :∀r∈rs,YZ r):Qs (n+6*rs.length) (rs.foldl QV s).1∧(rs.foldl QV s).2.length=3:=by
 induction rs generalizing n s with
 | nil=>exact⟨h,h3⟩
 | cons r rs ih =>
  have hr1:=hr r (by simp);have a:=(h.adds hr1.g).mono (show n+r.guards.length≤n+6 by have:=hr1.gl;omega);have b:(QV s r).2.length=3:=Kc (Kc h3 fun f hf=>(hr1.a f hf).c) fun f hf=>(hr1.t f hf).c;have:=ih (s:=QV s r) (n:=n+6) a b fun x hx=>hr x (by simp[hx]);exact⟨this.1.mono (by simp;omega),this.2⟩
theorem JdG (as:List (List Jg)):Qs (3+384*as.length) (U2 as).1∧(U2 as).2.length=3:=by
 have key :∀(n:Nat) (s:List (List Int)×List Bool),Qs n s.1→s.2.length=3→Qs (n+384*as.length) (as.foldl Yu s).1∧(as.foldl Yu s).2.length=3:=by
  induction as with
  | nil=>intro n s h h3;exact⟨h,h3⟩
  | cons a as ih =>
   intro n s h h3;have:=h.rows h3 (rs:=Jv a) Yp;have hl:=Uh a;have:=ih (n+384) (Yu s a) (this.1.mono (by omega)) this.2;exact⟨this.1.mono (by simp;omega),this.2⟩
 refine key 3 _ ⟨by simp[YS],?_⟩ rfl;intro q hq;simp[YS] at hq;rcases hq with rfl | rfl | rfl <;> exact⟨rfl,by intro x hx;simp at hx;omega⟩
theorem rdR {rs:List Row} {i:Nat} {r:Row} (h:rs[i]? = some r):(Qm rs)[i]? = some r.g:=mA1 (f:=Row.g) h
set_option maxHeartbeats 8000000 in
theorem JfE (as:List (List Jg)) (hf:Yr as) (h4:as.length≤4):Ev L f_k17 [.s (Jd as)] [.s (dLL (U2 as).1),.s (dBl (U2 as).2)]:=by
 refine JuV (vs:=[.l (Jd as)]) L_k17 rfl ?_;refine Juu 3 (fun v=>[.l (dLL (YS.take v)),.i v]) (fun _=>True) rfl rfl trivial fun v hv _=>?_;refine JuD v 3 rfl (fun hv3=>?_) (fun hv3=>?_)
 ·refine Jup (ZS v (by omega) (by omega)) rfl rfl rfl ?_;have hp:YS[v]? = some (JC (v:Int).toNat).c:=by
   rw[Int.toNat_natCast]
   match v,hv3 with
   | 0,_ | 1,_ | 2,_=>rfl
   | n+3,h=>omega
  refine JuR (dLL (YS.take v)) 3 (by rw[Ux];simp;omega) (by omega) rfl ?_;refine JuC (vs:=[.l (dLL (YS.take (v+1))),.i ((v+1:Nat):Int)]) ?_ ⟨hv3,rfl,trivial⟩;show [V.l (dLL (YS.take v)++[.s (dL (JC (v:Int).toNat).c)]),V.i (i64.wrap ((v:Int)+1))]=_;rw[wS hv3 (by omega),Ja2,tS1 hp]
 have hv3:v=3:=by omega
 subst hv3;refine Juk ?_;refine Jul as.length (fun i vs=>∃ b:List (List Int)×List Bool,vs=[.l (dLL b.1),.l (dBl b.2),.i i]∧b=U2 (as.take i)) rfl ⟨(YS,[false,false,false]),rfl,rfl⟩ ?_;rintro i _ hi ⟨⟨b1,b2⟩,rfl,hb⟩;simp only[sC,sN];refine JuG i (JR as) rfl (fun h=>?_) (fun h=>?_)
 ·obtain⟨a,ha,hm⟩:=sA1 h;have hB:U2 (as.take (i+1))=Yu (b1,b2) a:=by rw[hb];exact XJ ha
  obtain⟨f1,f2⟩:=JdG (as.take i);rw[←hb] at f1 f2;have f1:=f1.mono (show 3+384*(as.take i).length≤1600 by simp;omega);have hrl:=Uh a;refine JuF i (mA1 (f:=fun a=> .s (Jl a)) ha) rfl rfl rfl rfl ?_;refine Jup (Jf3 a (hf.2 a hm)) rfl rfl rfl ?_;have hrf :∀r∈Jv a,YZ r:=Yp;have hAB:Yu (b1,b2) a=(Jv a).foldl QV (b1,b2):=rfl;generalize Jv a=rs at *;refine Jul rs.length (fun k vs=>∃ c:List (List Int)×List Bool,vs=[.l (dLL c.1),.l (dBl c.2),.i k]∧c=(rs.take k).foldl QV (b1,b2)) rfl ⟨(b1,b2),rfl,rfl⟩ ?_;rintro k _ hk ⟨⟨c1,c2⟩,rfl,hc⟩;simp only[sC,sN];refine JuG k (Yc rs) rfl (fun h'=>?_) (fun h'=>?_)
  ·obtain⟨r,hr,hmr⟩:=sA1 h';have hfit:=hrf r hmr;have hC:(rs.take (k+1)).foldl QV (b1,b2)=QV (c1,c2) r:=by rw[hc];exact XJ hr
   obtain⟨g1,g2⟩:=f1.rows f2 (rs:=rs.take k) fun x hx=>hrf x (Jvo hx);rw[←hc] at g1 g2;have g1:=g1.mono (show 1600+6*(rs.take k).length≤2000 by simp;omega);have hRd:=rdR hr;refine JuP k hRd rfl rfl rfl rfl rfl rfl ?_;refine Jup (JdO c2 r.adds g2 (fun f hf=>(hfit.a f hf).c) (by have:=hfit.al;omega)) rfl rfl rfl ?_;refine JuP k hRd rfl rfl rfl rfl rfl rfl ?_;have e3:(QU c2 r.adds).length=3:=Kc g2 fun f hf=>(hfit.a f hf).c;refine Jup (JdO (QU c2 r.adds) r.tells e3 (fun f hf=>(hfit.t f hf).c) (by have:=hfit.tl;omega)) rfl rfl rfl ?_;have hR:QV (c1,c2) r=(r.guards.foldl Jp c1,QU (QU c2 r.adds) r.tells):=rfl;generalize QU (QU c2 r.adds) r.tells=d2 at *;generalize QU c2 r.adds=d1 at *;have hgl:=hfit.gl;refine Jul r.guards.length (fun g vs=>∃ e:List (List Int),vs=[.l (dLL e),.i g]∧e=(r.guards.take g).foldl Jp c1) rfl ⟨c1,rfl,rfl⟩ ?_;rintro g _ hg ⟨e,rfl,he⟩;simp only[sC,sN];refine JuP k hRd rfl rfl rfl rfl rfl rfl ?_;refine JuG g (J8 r.guards) rfl (fun hg'=>?_) (fun hg'=>?_)
   ·obtain⟨f,hfg,hmf⟩:=sA1 hg';have hsf:=hfit.g f hmf;have hE:(r.guards.take (g+1)).foldl Jp c1=Jp e f:=by rw[he];exact XJ hfg
    have e1:=(g1.adds (fs:=r.guards.take g) fun x hx=>hfit.g x (Jvo hx)).mono (show 2000+(r.guards.take g).length≤2010 by simp;omega);rw[←he] at e1;have nx :∀(x:List (List Int)),x=Jp e f→[V.l (dLL x),V.i (i64.wrap ((g:Int)+1))]=[.l (dLL (Jp e f)),.i ((g+1:Nat):Int)]:=by
     intro x hx;rw[hx,wS hg' (by omega)]
    refine JuP k hRd rfl rfl rfl rfl rfl rfl ?_;refine JuF g (mA1 (f:=Frm.g) hfg) rfl rfl rfl rfl ?_;refine Jup (Jd4 f (hsf.lc.mono (by omega)) (by rw[hsf.c];omega)) rfl rfl rfl ?_;have el:=e1.len;have hp3:(Jn f.c).length=3:=by rw[VF];exact hsf.c
    have hAP:Jp e f=if K6 e (Jn f.c)<0∧Jn f.c≠[0,0,0] then e++[Jn f.c] else e:=rfl;generalize Jn f.c=pt at *;refine Jup (Jff e pt (by omega) (fun q hq=>by rw[(e1.each q hq).1];omega)) rfl rfl rfl ?_;generalize K6 e pt=ha at *;refine JuB (ha<0) rfl (fun h0=>?_) (fun h0=>?_)
    ·refine Jup X1 rfl rfl rfl ?_;refine Jup (JbE pt [0,0,0] (by omega)) rfl rfl rfl ?_;refine JuL (decide (pt=[0,0,0])) rfl (fun hz=>?_) (fun hz=>?_)
     ·refine JuR (dLL e) 3000 (by rw[Ux];omega) (by omega) rfl ?_;refine JuC (vs:=[.l (dLL (Jp e f)),.i ((g+1:Nat):Int)]) ?_ ⟨hg',Jp e f,rfl,hE.symm⟩;show [V.l (dLL e++[.s (dL pt)]),V.i (i64.wrap ((g:Int)+1))]=_;rw[Ja2];refine nx _ ?_;rw[hAP,if_pos ⟨h0,by simpa using hz⟩]
     ·refine JuC (nx e ?_) ⟨hg',Jp e f,rfl,hE.symm⟩;rw[hAP,if_neg];intro ⟨_,h⟩;exact h (by simpa using hz)
    ·refine JuC (nx e ?_) ⟨hg',Jp e f,rfl,hE.symm⟩;rw[hAP,if_neg];intro ⟨h,_⟩;exact h0 h
   ·refine Juk ?_;rw[tA1 hg'] at he;refine JuC (vs:=[.l (dLL e),.l (dBl d2),.i ((k+1:Nat):Int)]) ?_ ⟨h',(e,d2),rfl,by rw[hC,hR,he]⟩;show [V.l (dLL e),V.l (dBl d2),V.i (i64.wrap ((k:Int)+1))]=_;rw[wS h' (by omega)]
  ·refine Juk ?_;rw[tA1 h'] at hc;refine JuC (vs:=[.l (dLL c1),.l (dBl c2),.i ((i+1:Nat):Int)]) ?_ ⟨h,(c1,c2),rfl,by rw[hB,hAB,hc]⟩;show [V.l (dLL c1),V.l (dBl c2),V.i (i64.wrap ((i:Int)+1))]=_;rw[wS h (by omega)]
 ·refine Juk (Jun ?_);show [D.s (dLL b1),.s (dBl b2)]=_;rw[tA1 h] at hb;rw[←hb]
theorem Ya {as:List (List Jg)} (h:Qx as=true):1≤as.length∧as.length≤4∧∀a∈as,Qo a=true:=by
 simp only[Qx,Ju0,Jr,Jvd] at h;exact⟨by omega,by omega,h.2⟩
theorem Xi (as:List (List Jg)):Qs 1600 (Jb as):=by
 unfold Jb;split
 ·rename_i h;exact(JdG as).1.mono (by have:=(Ya h).2.1;omega)
 ·exact⟨by simp,by simp⟩
/- What the reference's treaties come to. -/
theorem Zd (l:List Int) (hl:l.length≤2000000):Ev L f_kg [.s (dL l)] [dB (JQ l)] :=
 JuV (vs:=[.l (dL l)]) L_kg rfl (Jup (Xx l 3 10000 hl (by omega) (by omega)) rfl rfl rfl (Jun rfl))
theorem Jbc (b g:List Int) (hb:b.length≤2000000) (hg:g.length≤2000000):Ev L f_kh [.s (dL b),.s (dL g)] [dB (Qw b g)]:=by
 refine JuV (vs:=[.l (dL b),.l (dL g)]) L_kh rfl ?_;refine Jup (Zd b hb) rfl rfl rfl ?_;refine JuL (JQ b) rfl (fun h=>Jun ?_) (fun h=>?_)
 ·show [dB false]=_;simp[Qw,h]
 refine Jup (JT g.length 1 3) rfl ?_ rfl ?_
 ·show [dI ((dL g).length:Int),dI 1,dI 3]=_;rw[dL1]
 refine JuL (inB g.length 1 3) rfl (fun h2=>Jun ?_) (fun h2=>?_)
 ·show [dB false]=_;simp[Qw,h2]
 refine Juu g.length (fun i=>[.i i]) (fun i=>(g.take i).all (fun x=>inB x 0 50)=true) rfl rfl (by simp) fun i hi hp=>?_;refine JuG i (dL1 g) rfl (fun h'=>?_) (fun h'=>?_)
 ·obtain⟨x,hx,hm⟩:=sA1 h';refine JuF i (mA1 (f:=dI) hx) rfl rfl rfl rfl ?_;refine Jup (JT x 0 50) rfl rfl rfl ?_;refine JuL (inB x 0 50) rfl (fun hb=>Juk (Jun ?_)) (fun hb=>?_)
  ·show [dB false]=_;simp only[Qw,Yw (p:=fun x=>inB x 0 50) hx hb,Bool.and_false]
  ·refine JuC (vs:=[.i ((i+1:Nat):Int)]) ?_ ⟨h',rfl,Q4 (p:=fun x=>inB x 0 50) hx hp hb⟩;show [V.i (i64.wrap ((i:Int)+1))]=_;rw[wS h' (by omega)]
 ·refine Juk (Jun ?_);rw[tA1 h'] at hp;show [dB true]=_;simp only[Qw,h,h2,hp];rfl
def fitLL (ps:List (List Int)):Prop:=ps.length≤2000000∧∀p∈ps,p.length≤2000000
theorem Jc1 (ps:List (List Int)) (hp:fitLL ps):Ev L f_k1f [.s (dLL ps)] [dB (QW ps)]:=by
 have hl:=hp.1;refine JuV (vs:=[.l (dLL ps)]) L_k1f rfl ?_;refine Juu ps.length (fun i=>[.i i]) (fun i=>(ps.take i).all (fun p=>JK 3 10000000 p)=true) rfl rfl (by simp) fun i hi hq=>?_;refine JuG i (Ux ps) rfl (fun h'=>?_) (fun h'=>?_)
 ·obtain⟨x,hx,hm⟩:=sA1 h';refine JuF i (mA1 (f:=fun x=> .s (dL x)) hx) rfl rfl rfl rfl ?_;refine Jup (Xx x 3 10000000 (hp.2 x hm) (by omega) (by omega)) rfl rfl rfl ?_;refine JuL (JK 3 10000000 x) rfl (fun hb=>Juk (Jun ?_)) (fun hb=>?_)
  ·show [dB false]=_;simp only[QW,Yw (p:=fun p=>JK 3 10000000 p) hx hb]
  ·refine JuC (vs:=[.i ((i+1:Nat):Int)]) ?_ ⟨h',rfl,Q4 (p:=fun p=>JK 3 10000000 p) hx hq hb⟩;show [V.i (i64.wrap ((i:Int)+1))]=_;rw[wS h' (by omega)]
 ·refine Juk (Jun ?_);rw[tA1 h'] at hq;show [dB true]=_;simp only[QW,hq]
theorem Jah {a b:List Int} {i:Nat} {x y:Int} (hx:a[i]? = some x) (hy:b[i]? = some y):dot (a.take (i+1)) (b.take (i+1))=dot (a.take i) (b.take i)+x*y:=by
 have h1:=(Ju1.1 hx).1;have h2:=(Ju1.1 hy).1;rw[tS1 hx,tS1 hy,Joo x y (by simp;omega)]
theorem Jh2 {a b:List Int} {i:Nat} {x y:Int} (hx:a[i]? = some x) (hy:b[i]? = some y) (ha:Lim 100000000 a) (hb:Lim 1000000 b) (hi:i<1000) :
  i64.wrap (dot (a.take i) (b.take i)+i64.wrap (x*y))=dot (a.take (i+1)) (b.take (i+1)):=by
 have h1:=ZH (ha.take i) (hb.take i) (by omega) (by omega);have h2:((a.take i).length:Int)≤1000:=by simp;omega
 have h3:=KG (ha x (Ju7 hx)) (hb y (Ju7 hy));rw[Jah hx hy,w64 (n:=x*y) (by omega) (by omega),w64 (by omega) (by omega)]
theorem JkE (p a:List Int) (hp:JK 3 10000000 p=true) (ha:JK 3 20000 a=true):Ev L f_k1g [.s (dL p),.s (dL a)] [dI (dot p a)]:=by
 obtain⟨p1,p2⟩:=Jq.1 hp;obtain⟨a1,a2⟩:=Jq.1 ha;have p2:Lim 100000000 p:=Lim.mono (m:=10000000) p2 (by omega);have a2:Lim 1000000 a:=Lim.mono (m:=20000) a2 (by omega);refine JuV (vs:=[.l (dL p),.l (dL a)]) L_k1g rfl ?_;refine Juu 3 (fun i=>[.i (dot (p.take i) (a.take i)),.i i]) (fun _=>True) rfl rfl trivial fun i hi _=>?_;refine JuD i 3 rfl (fun h=>?_) (fun h=>?_)
 ·obtain⟨x,hx,_⟩:=sA1 (show i<p.length by omega);obtain⟨y,hy,_⟩:=sA1 (show i<a.length by omega);refine JuF i (mA1 (f:=dI) hx) rfl rfl rfl rfl ?_;refine JuF i (mA1 (f:=dI) hy) rfl rfl rfl rfl ?_;refine JuC (vs:=[.i (dot (p.take (i+1)) (a.take (i+1))),.i ((i+1:Nat):Int)]) ?_ ⟨h,rfl,trivial⟩;show [V.i (i64.wrap (dot (p.take i) (a.take i)+i64.wrap (x*y))),V.i (i64.wrap ((i:Int)+1))]=_;rw[wS h (by omega),Jh2 hx hy p2 a2 (by omega)]
 ·refine Juk (Jun ?_);show [dI (dot (p.take i) (a.take i))]=_;rw[Ju4 (by omega),Ju4 (by omega)]
theorem We {l:List Int} {i:Nat} (h:i<l.length):l[i]? = some (l.getD i 0):=by simp[Ju3,h]
theorem ZQ (b g:List Int) (ps:List (List Int)) (s:Int) (a:List Int) (hb:b.length≤2000000) (hg:g.length≤2000000) (hp:fitLL ps) (ha:a.length≤2000000) :
  Ev L f_k1h [.s (dL b),.s (dL g),.s (dLL ps),dI s,.s (dL a)] [dB (keeps b g ps s a)]:=by
 have hpl:=hp.1;refine JuV (vs:=[.l (dL b),.l (dL g),.l (dLL ps),.i s,.l (dL a)]) L_k1h rfl ?_;refine Jup (Jbc b g hb hg) rfl rfl rfl ?_;refine JuL (Qw b g) rfl (fun h=>Jun ?_) (fun h=>?_)
 ·show [dB false]=_;simp[keeps,h]
 refine Jup (Jc1 ps hp) rfl rfl rfl ?_;refine JuL (QW ps) rfl (fun h2=>Jun ?_) (fun h2=>?_)
 ·show [dB false]=_;simp[keeps,h2]
 refine Jup (JT s 0 (g.length-1)) rfl ?_ rfl ?_
 ·show [dI s,dI 0,dI (i64.wrap (((dL g).length:Int)-1))]=_;rw[dL1,w64 (by omega) (by omega)]
 refine JuL (inB s 0 (g.length-1)) rfl (fun h3=>Jun ?_) (fun h3=>?_)
 ·show [dB false]=_;simp[keeps,h3]
 refine Jup (Xx a 3 20000 ha (by omega) (by omega)) rfl rfl rfl ?_;refine JuL (JK 3 20000 a) rfl (fun h4=>Jun ?_) (fun h4=>?_)
 ·show [dB false]=_;simp[keeps,QT,h4]
 have hs:=Jr.1 h3;have hsg:s.toNat<g.length:=by omega
 have hgs:=We hsg;have hgm:=XU (p:=fun x=>0≤x∧x≤50) (l:=g) (by
  intro x hx;simp only[Qw,Ju0,Jvd] at h;exact Jr.1 (h.2 x hx)) hsg
 have hdS:(dL g)[s.toNat]? = some (dI (g.getD s.toNat 0)):=mA1 (f:=dI) hgs;simp only[keeps,QT,h,h2,h3,h4,Jvk];generalize g.getD s.toNat 0=G at *;refine Juu ps.length (fun i=>[.i i]) (fun i=>(ps.take i).all (Z1 G a)=true) rfl rfl (by simp) fun i hi hq=>?_;refine JuG i (Ux ps) rfl (fun h'=>?_) (fun h'=>?_)
 ·obtain⟨x,hx,hm⟩:=sA1 h';have hxo:JK 3 10000000 x=true:=Jvd.1 h2 x hm;refine JuF i (mA1 (f:=fun x=> .s (dL x)) hx) rfl rfl rfl rfl ?_;refine Jup (JkE x a hxo h4) rfl rfl rfl ?_;refine Juz (ds:=dL g) s rfl rfl rfl hs.1 hdS rfl ?_;refine Juz (ds:=dL g) s rfl rfl rfl hs.1 hdS rfl ?_;refine Jup (JT (dot x a) (0-G) G) rfl ?_ rfl ?_
  ·show [dI (dot x a),dI (i64.wrap (0-G)),dI G]=_;rw[w64 (by omega) (by omega)]
  refine JuL (inB (dot x a) (0-G) G) rfl (fun hb=>Juk (Jun ?_)) (fun hb=>?_)
  ·show [dB false]=_;rw[Yw (p:=Z1 G a) hx hb]
  ·refine JuC (vs:=[.i ((i+1:Nat):Int)]) ?_ ⟨h',rfl,Q4 (p:=Z1 G a) hx hq hb⟩;show [V.i (i64.wrap ((i:Int)+1))]=_;rw[wS h' (by omega)]
 ·refine Juk (Jun ?_);rw[tA1 h'] at hq;show [dB true]=_;rw[hq]
/- What the program's treaties come to. -/
theorem YL (n a b:Int):Ev L f_k37 [dI n,dI a,dI b] [dB (inB n a b)]:=by
 refine JuV (vs:=[.i n,.i a,.i b]) L_k37 rfl ?_;refine JuB (a≤n) rfl (fun h=>Jun ?_) (fun h=>Jun ?_)
 ·show [dB (decide (n≤b))]=_;simp[inB,h]
 ·show [dB false]=_;simp[inB,h]
theorem JfR (p:Int→Bool) (l:List Int) {fn:FuncId} {caps:List D} (hlen:l.length≤2000000) (hcap:XM (.f fn caps) = .f fn caps) (har:arT L fn=some ([none]++caps.map fun _=>none))
  (hc :∀x∈l,Ev L fn ([dI x]++caps.map D.norm) [dB (p x)]):Ev L f_k3b [.s (dL l),.f fn caps] [dI (Z5 p l)] :=
 Zn (sh:= .one (.i .i64)) (as:=[(.vi .i64 (.v 3))]) (ar:=[none]) (k:=4) dI p (fun x=>[dI x]) (fun x=>[.i x]) l L_k3b rfl hlen hcap (fun _ _=>rfl) (fun _ _=>rfl) (fun _ _ _ _=>rfl) har hc
theorem V9 (p:Int→Bool) (l:List Int) {fn:FuncId} {caps:List D} (hlen:l.length≤2000000) (hcap:XM (.f fn caps) = .f fn caps) (har:arT L fn=some ([none]++caps.map fun _=>none))
  (hc :∀x∈l,Ev L fn ([dI x]++caps.map D.norm) [dB (p x)]):Ev L f_k3c [.s (dL l),.f fn caps] [dB (l.any p)] :=
 YK (g:=f_k3b) L_k3c rfl hcap (JfR p l hlen hcap har hc)
theorem Jdk (p:List Int→Bool) (l:List (List Int)) {fn:FuncId} {caps:List D} (hlen:l.length≤2000000) (hcap:XM (.f fn caps) = .f fn caps) (har:arT L fn=some ([none]++caps.map fun _=>none))
  (hc :∀x∈l,Ev L fn ([.s (dL x)]++caps.map D.norm) [dB (p x)]):Ev L f_k4b [.s (dLL l),.f fn caps] [dI (Z5 p l)] :=
 Zn (sh:= .one .s) (as:=[(.s (.v 3))]) (ar:=[none]) (k:=4) (fun x=> .s (dL x)) p (fun x=>[.s (dL x)]) (fun x=>[.l (dL x)]) l L_k4b rfl hlen hcap (fun _ _=>rfl) (fun _ _=>rfl) (fun _ _ _ _=>rfl) har hc
theorem Jdh (p:List Int→Bool) (l:List (List Int)) {fn:FuncId} {caps:List D} (hlen:l.length≤2000000) (hcap:XM (.f fn caps) = .f fn caps) (har:arT L fn=some ([none]++caps.map fun _=>none))
  (hc :∀x∈l,Ev L fn ([.s (dL x)]++caps.map D.norm) [dB (p x)]):Ev L f_k4y [.s (dLL l),.f fn caps] [dB (l.any p)] :=
 YK (g:=f_k4b) L_k4y rfl hcap (Jdk p l hlen hcap har hc)
theorem KB {α:Type} (p:α→Bool) (l:List α):(!(l.any fun x=>!p x))=l.all p:=by
 induction l with
 | nil=>rfl
 | cons x l ih=>simp[ih]
theorem JiW (x m:Int) (h0:0≤m) (hm:m≤10000000000000):Ev L f_k3a [dI x,.q [dI m]] [dB (!inB x (0-m) m)]:=by
 refine JuV (vs:=[.i x,.d (.q [dI m])]) L_k3a rfl ?_;refine JuH (vs:=[.i m]) rfl rfl ?_;refine JuH (vs:=[.i m]) rfl rfl ?_;refine Jup (YL x (0-m) m) rfl ?_ rfl (Jun rfl);show [dI x,dI (i64.wrap (0-m)),dI m]=_;rw[w64 (by omega) (by omega)]
theorem XQ (l:List Int) (n m:Int) (hl:l.length≤2000000) (h0:0≤m) (hm:m≤10000000000000):Ev L f_k3d [.s (dL l),dI n,dI m] [dB (JK n m l)]:=by
 refine JuV (vs:=[.l (dL l),.i n,.i m]) L_k3d rfl ?_;refine JuB ((l.length:Int)=n) ?_ (fun h=>?_) (fun h=>Jun ?_)
 ·show decide (((dL l).length:Int)=n)=_;rw[dL1]
 ·refine Jup (V9 (fun x=>!inB x (0-m) m) l (fn:=f_k3a) (caps:=[.q [dI m]]) hl rfl rfl fun x _=>JiW x m h0 hm) rfl rfl rfl (Jun ?_);show [dB (!(l.any fun x=>!inB x (0-m) m))]=_;rw[KB];simp[JK,h]
 ·show [dB false]=_;simp[JK,h]
theorem VR (l:List Int) (hl:l.length≤2000000):Ev L f_k3n [.s (dL l)] [dB (JQ l)] :=
 JuV (vs:=[.l (dL l)]) L_k3n rfl (Jup (XQ l 3 10000 hl (by omega) (by omega)) rfl rfl rfl (Jun rfl))
theorem Jjy (x:Int):Ev L f_k3m [dI x] [dB (!inB x 0 50)] :=
 JuV (vs:=[.i x]) L_k3m rfl (Jup (YL x 0 50) rfl rfl rfl (Jun rfl))
theorem Ji1 (b g:List Int) (hb:b.length≤2000000) (hg:g.length≤2000000):Ev L f_k3o [.s (dL b),.s (dL g)] [dB (Qw b g)]:=by
 refine JuV (vs:=[.l (dL b),.l (dL g)]) L_k3o rfl ?_;refine Jup (VR b hb) rfl rfl rfl ?_;refine JuU (JQ b) rfl (fun h=>?_) (fun h=>Jun ?_)
 ·refine Jup (YL g.length 1 3) rfl ?_ rfl ?_
  ·show [dI ((dL g).length:Int),dI 1,dI 3]=_;rw[dL1]
  refine JuU (inB g.length 1 3) rfl (fun h2=>?_) (fun h2=>Jun ?_)
  ·refine Jup (V9 (fun x=>!inB x 0 50) g (fn:=f_k3m) (caps:=[]) hg rfl rfl fun x _=>Jjy x) rfl rfl rfl (Jun ?_);show [dB (!(g.any fun x=>!inB x 0 50))]=_;rw[KB];simp[Qw,h,h2]
  ·show [dB false]=_;simp[Qw,h2]
 ·show [dB false]=_;simp[Qw,h]
theorem JgS (p:List Int) (hp:p.length≤2000000):Ev L f_k4z [.s (dL p)] [dB (!JK 3 10000000 p)] :=
 JuV (vs:=[.l (dL p)]) L_k4z rfl (Jup (XQ p 3 10000000 hp (by omega) (by omega)) rfl rfl rfl (Jun rfl))
theorem JkH (ps:List (List Int)) (hp:fitLL ps):Ev L f_k50 [.s (dLL ps)] [dB (QW ps)]:=by
 refine JuV (vs:=[.l (dLL ps)]) L_k50 rfl ?_;refine Jup (Jdh (fun p=>!JK 3 10000000 p) ps (fn:=f_k4z) (caps:=[]) hp.1 rfl rfl fun p h=>JgS p (hp.2 p h)) rfl rfl rfl (Jun ?_);show [dB (!(ps.any fun p=>!JK 3 10000000 p))]=_;rw[KB];rfl
theorem JjB (a:List Int) (ha:a.length≤2000000):Ev L f_k51 [.s (dL a)] [dB (QT a)] :=
 JuV (vs:=[.l (dL a)]) L_k51 rfl (Jup (XQ a 3 20000 ha (by omega) (by omega)) rfl rfl rfl (Jun rfl))
def QM (b g:List Int) (ps:List (List Int)) (s:Int) (a:List Int):Bool:=Qw b g&&QW ps&&inB s 0 (g.length-1)&&QT a
theorem Jcv (b g:List Int) (ps:List (List Int)) (s:Int) (a:List Int) (hb:b.length≤2000000) (hg:g.length≤2000000) (hp:fitLL ps) (ha:a.length≤2000000) :
  Ev L f_k52 [.s (dL b),.s (dL g),.s (dLL ps),dI s,.s (dL a)] [dB (QM b g ps s a)]:=by
 refine JuV (vs:=[.l (dL b),.l (dL g),.l (dLL ps),.i s,.l (dL a)]) L_k52 rfl ?_;refine Jup (Ji1 b g hb hg) rfl rfl rfl ?_;refine JuU (Qw b g) rfl (fun h=>?_) (fun h=>Jun ?_)
 ·refine Jup (JkH ps hp) rfl rfl rfl ?_;refine JuU (QW ps) rfl (fun h2=>?_) (fun h2=>Jun ?_)
  ·refine Jup (YL s 0 (g.length-1)) rfl ?_ rfl ?_
   ·show [dI s,dI 0,dI (i64.wrap (((dL g).length:Int)-1))]=_;rw[dL1,w64 (by omega) (by omega)]
   refine JuU (inB s 0 (g.length-1)) rfl (fun h3=>?_) (fun h3=>Jun ?_)
   ·refine Jup (JjB a ha) rfl rfl rfl (Jun ?_);show [dB (QT a)]=_;simp[QM,h,h2,h3]
   ·show [dB false]=_;simp[QM,h3]
  ·show [dB false]=_;simp[QM,h2]
 ·show [dB false]=_;simp[QM,h]
theorem JqU (p a:List Int) (hp:Lim 100000000 p) (ha:Lim 1000000 a) (hl:p.length=a.length) (h9:p.length≤999):Ev L f_k53 [.s (dL p),.s (dL a)] [dI (dot p a)]:=by
 refine JuV (vs:=[.l (dL p),.l (dL a)]) L_k53 rfl ?_;refine Juu p.length (fun i=>[.i (dot (p.take i) (a.take i)),.i i]) (fun _=>True) rfl rfl trivial fun i hi _=>?_;refine JuG i (dL1 p) rfl (fun h=>?_) (fun h=>?_)
 ·obtain⟨x,hx,_⟩:=sA1 (show i<p.length by omega);obtain⟨y,hy,_⟩:=sA1 (show i<a.length by omega);refine JuF i (mA1 (f:=dI) hx) rfl rfl rfl rfl ?_;refine JuF i (mA1 (f:=dI) hy) rfl rfl rfl rfl ?_;refine JuC (vs:=[.i (dot (p.take (i+1)) (a.take (i+1))),.i ((i+1:Nat):Int)]) ?_ ⟨h,rfl,trivial⟩;show [V.i (i64.wrap (dot (p.take i) (a.take i)+i64.wrap (x*y))),V.i (i64.wrap ((i:Int)+1))]=_;rw[wS h (by omega),Jh2 hx hy hp ha (by omega)]
 ·refine Juk (Jun ?_);show [dI (dot (p.take i) (a.take i))]=_;rw[tA1 h,tA1 (by omega)]
theorem JeU (p a:List Int) (G:Int) (hp:JK 3 10000000 p=true) (ha:QT a=true) (h0:0≤G) (h5:G≤50):Ev L f_k54 [.s (dL p),.q [.s (dL a)],.q [dI G]] [dB (!Z1 G a p)]:=by
 obtain⟨p1,p2⟩:=Jq.1 hp;obtain⟨a1,a2⟩:=Jq.1 ha;refine JuV (vs:=[.l (dL p),.d (.q [.s (dL a)]),.d (.q [dI G])]) L_k54 rfl ?_;refine JuH (vs:=[.l (dL a)]) rfl rfl ?_;refine Jup (JqU p a (Lim.mono (m:=10000000) p2 (by omega)) (Lim.mono (m:=20000) a2 (by omega)) (by omega) (by omega)) rfl rfl rfl ?_;refine JuH (vs:=[.i G]) rfl rfl ?_;refine JuH (vs:=[.i G]) rfl rfl ?_;refine Jup (YL (dot p a) (0-G) G) rfl ?_ rfl (Jun rfl);show [dI (dot p a),dI (i64.wrap (0-G)),dI G]=_;rw[w64 (by omega) (by omega)]
theorem JhO {b g:List Int} {ps:List (List Int)} {s:Int} {a:List Int} (h:QM b g ps s a=true) :
  Qw b g=true∧QW ps=true∧0≤s∧s<g.length∧QT a=true∧g[s.toNat]? = some (g.getD s.toNat 0)∧0≤g.getD s.toNat 0∧g.getD s.toNat 0≤50:=by
 simp only[QM,Ju0,Jr] at h;obtain⟨⟨⟨h1,h2⟩,h3⟩,h4⟩:=h;have hsg:s.toNat<g.length:=by omega
 have hgm:=XU (p:=fun x=>0≤x∧x≤50) (l:=g) (by
  intro x hx;simp only[Qw,Ju0,Jvd] at h1;exact Jr.1 (h1.2 x hx)) hsg
 exact⟨h1,h2,h3.1,by omega,h4,We hsg,hgm⟩
theorem Jkz (b g:List Int) (ps:List (List Int)) (s:Int) (a:List Int):keeps b g ps s a=(QM b g ps s a&&ps.all (Z1 (g.getD s.toNat 0) a)):=rfl
theorem JhF (b g:List Int) (ps:List (List Int)) (s:Int) (a:List Int) (hb:b.length≤2000000) (hg:g.length≤2000000) (hp:fitLL ps) (ha:a.length≤2000000) :
  Ev L f_k55 [.s (dL b),.s (dL g),.s (dLL ps),dI s,.s (dL a)] [dB (keeps b g ps s a)]:=by
 refine JuV (vs:=[.l (dL b),.l (dL g),.l (dLL ps),.i s,.l (dL a)]) L_k55 rfl ?_;refine Jup (Jcv b g ps s a hb hg hp ha) rfl rfl rfl ?_;rw[Jkz];refine JuL (QM b g ps s a) rfl (fun h=>Jun ?_) (fun h=>?_)
 ·show [dB false]=_;rw[h];rfl
 obtain⟨h1,h2,s0,s1,h4,hd,g0,g5⟩:=JhO h;generalize g.getD s.toNat 0=G at *;refine Juz (ds:=dL g) s rfl rfl rfl s0 (mA1 (f:=dI) hd) rfl ?_;refine Jup (Jdh (fun p=>!Z1 G a p) ps (fn:=f_k54) (caps:=[.q [.s (dL a)],.q [dI G]]) hp.1 rfl rfl fun p hm=>JeU p a G (Jvd.1 h2 p hm) h4 g0 g5) rfl rfl rfl (Jun ?_);show [dB (!(ps.any fun p=>!Z1 G a p))]=_;rw[KB,h];rfl
/- All sites keep to a treaty just if each does: over residual programs. -/
theorem Qs.fitLL {n:Nat} {ps:List (List Int)} (h:Qs n ps) (hn:n≤2000000):fitLL ps:=⟨by have:=h.len;omega,fun p hp=>by rw[(h.each p hp).1];omega⟩
end Go.Proofs.YtngcnclchcahlabGreatDoor

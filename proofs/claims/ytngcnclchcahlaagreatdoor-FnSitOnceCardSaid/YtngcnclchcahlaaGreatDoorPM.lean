import Derived.Test.YtngcnclchcahlaaGreatDoorPG
import Derived.Test.YtngcnclchcahlaaGreatDoorTd
set_option linter.unusedVariables false
set_option linter.unusedSimpArgs false
/- What the reference's ways through an act come to. -/
namespace Go.Proofs.YtngcnclchcahlaaGreatDoor
open Go Go.Tm
open Go.IntKind (i64)
theorem JhA {l:List Frm} {i:Nat} (h:i<l.length):l.getD i Frm.none∈l∧l[i]? = some (l.getD i Frm.none):=by
 rw[Juc,Juk h];exact⟨List.getElem_mem h,rfl⟩
def ZT (p:List Frm):List Frm:=[JU (p.getD 0 Frm.none) (JA 0) (-1),JU (p.getD 1 Frm.none) (JA 1) (-1),JU (p.getD 2 Frm.none) (JA 2) (-1)]
theorem JoB {p g t:List Frm} {M:Int} (hp:p.length=3) (sp :∀f∈p,Std M f) (hg:g.length≤2000000) (sg :∀f∈g,Std M f) (ht:t.length≤2000000) (st :∀f∈t,Std M f) (h0:1≤M) (hM:M≤1000000000) :
  Ev L f_k10 [.s (dF p),.s (dF g),.s (dF t)] (Y9 p g t).cells:=by
 refine Jt7 (vs:=[.l (dF p),.l (dF g),.l (dF t)]) L_k10 rfl ?_;refine Jtz (args:=[.s (dF g)]) rfl rfl (Yz hg sg (by omega) hM) rfl ?_;refine Jtz (args:=[.s (dF t)]) rfl rfl (Yz ht st (by omega) hM) rfl ?_;refine JtL (fun m vs=>∃ i:Nat,i≤3∧m=3-i∧vs=[.l (dF ((ZT p).take i)),.i i]) rfl 3 ⟨0,by omega,rfl,rfl⟩ ?_;rintro m _ ⟨i,hi,hm,rfl⟩;refine Jty ((i:Int)<3) rfl (fun h=>?_) (fun h=>?_)
 ·obtain⟨x,hx,hd⟩:=Jbk (l:=p) (i:=(i:Int)) (by omega) (by omega);have hsx:=sp x (Jug hx);refine JtJ (ds:=dF p) i rfl rfl rfl (by omega) hd rfl ?_;refine Jtz (args:=[dI i]) rfl rfl (ZL i (by omega) (by omega)) rfl ?_;rw[Int.toNat_natCast] at hx;refine Jtz (args:=x.cells++(JA (i:Int).toNat).cells++[dI (-1)]) rfl rfl (UR hsx (QS.mono h0) hM (by omega)) rfl ?_;have hn:(ZT p)[i]? = some (JU x (JA (i:Int).toNat) (-1)):=by
   have e:p.getD i Frm.none=x:=by rw[Juc,hx];rfl
   subst e;rw[Int.toNat_natCast]
   match i,h with
   | 0,_=>rfl
   | 1,_=>rfl
   | 2,_=>rfl
   | n+3,h=>omega
  refine JtD (dF ((ZT p).take i)++[(JU x (JA (i:Int).toNat) (-1)).g]) rfl (by rw[Xg,J0];simp;omega) ?_;refine JtK (vs:=[.l (dF ((ZT p).take (i+1))),.i ((i+1:Nat):Int)]) ?_ ⟨m-1,by omega,i+1,by omega,by omega,rfl⟩;show [V.l (dF ((ZT p).take i)++[(JU x (JA (i:Int).toNat) (-1)).g]),V.i (i64.wrap ((i:Int)+1))]=_;rw[Xg,tS1 hn,w64 (by omega) (by omega)];rfl
 ·refine JtA (Jt0 ?_);have hi3:i=3:=by omega
  subst hi3;rfl
structure Qz (act:List Jg):Prop where
 len:act.length≤6
 ok :∀l∈act,l.ok=true
theorem JdD {act:List Jg} (h:Qp act=true):Qz act:=by
 simp only[Qp,Jt9,decide_eq_true_eq,Jum] at h;exact⟨by omega,h.1.1⟩
theorem Jhr {l:Jg} (h:l.ok=true) (h4 : ¬l.kind=4):l.f.small=true:=by
 unfold Jg.ok at h;split at h
 ·simp only[Jt9] at h;exact h.2
 split at h
 ·simp only[Jt9] at h;exact h.2
 split at h
 ·simp only[Jt9] at h;exact h.2
 ·simp[h4] at h
theorem Jgs {l:Jg} (h:l.ok=true) (h2:l.kind=2):0≤l.pot∧l.pot≤2:=by
 unfold Jg.ok at h;rw[if_neg (by omega),if_pos h2] at h;simp only[Jt9,Jr] at h;exact h.1.1
theorem JcQ {l:Jg} (h:l.ok=true) (h1:l.kind=1):1≤l.skip∧l.skip≤6:=by
 unfold Jg.ok at h;rw[if_pos h1] at h;simp only[Jt9,Jr] at h;exact h.1.2
theorem Xx {α:Type} {l:List α} {i:Nat} {x:α} (h:l[i]? = some x):l.drop i=x::l.drop (i+1):=by
 obtain⟨h1,h2⟩:=Jua.1 h;rw[List.drop_eq_getElem_cons h1,h2]
theorem KI {α:Type} {l:List α} {x:α} {p:α→Prop} (h :∀y∈l,p y) (hx:p x) :∀y∈l++[x],p y:=by
 intro y hy;rcases Jue.1 hy with hy | hy
 ·exact h y hy
 ·simp at hy;subst hy;exact hx
theorem Jni (a b:List Row):Qc a++Qc b=Qc (a++b):=by simp[Qc]
set_option maxHeartbeats 4000000 in
theorem Jne {act:List Jg} (hact:Qz act) :∀(n:Nat) (at_:Int) (p g t:List Frm) (j:Nat),0≤at_→at_≤20→act.length-at_.toNat=n→(j:Int)≤at_→j≤6 →
  p.length=3→(∀f∈p,Std (Bd j) f)→g.length≤j→(∀f∈g,Std 10000000 f)→t.length≤j→(∀f∈t,Std 10000000 f) →
  Ev L f_k11 [.s (Jl act),dI at_,.s (dF p),.s (dF g),.s (dF t)] [.s (Qc (walk (act.drop at_.toNat) p g t))]:=by
 intro n
 induction n using Nat.strongRecOn with
 | _ n ih =>
  intro at_ p g t j a0 a20 hn hj hj6 hp sp hg sg ht st;have hal:=hact.len;refine Jt7 (vs:=[.l (Jl act),.i at_,.l (dF p),.l (dF g),.l (dF t)]) L_k11 rfl ?_;refine JtL (fun m vs=>∃ (i:Int) (p' t':List Frm) (j':Nat),vs=[.l (dF p'),.l (dF t'),.i i]∧at_≤i∧i≤20∧m=act.length-i.toNat∧(j':Int)≤i∧j≤j'∧j'≤6∧p'.length=3∧(∀f∈p',Std (Bd j') f)∧t'.length≤j'∧(∀f∈t',Std 10000000 f) ∧
   walk (act.drop i.toNat) p' g t'=walk (act.drop at_.toNat) p g t) rfl (act.length-at_.toNat) ⟨at_,p,t,j,rfl,by omega,a20,rfl,hj,by omega,hj6,hp,sp,ht,st,rfl⟩ ?_
  rintro m _ ⟨i,p',t',j',rfl,ai,i20,hm,hj',hjj,hj6',hp',sp',ht',st',hw⟩;have hB:=Jiv hj6';have hB0:=YW j';refine Jty (i<((Jl act).length:Int)) rfl (fun hi=>?_) (fun hi=>?_)
  ·rw[JN] at hi;obtain⟨l,hl,hd⟩:=UN (a:=act) (i:=i) (by omega) hi;have hok:=hact.ok l (Jug hl);have hdr:=Xx hl;have hs1:(i+1).toNat=i.toNat+1:=by omega
   refine JtJ (ds:=Jl act) i rfl rfl rfl (by omega) hd rfl ?_;refine Jty (l.kind=4) rfl (fun h4=>?_) (fun h4=>?_)
   ·refine Jtz (args:=[.s (dF g)]) rfl rfl (Yz (by omega) sg (by omega) (by omega)) rfl ?_;refine JtA (Jt0 ?_);show [D.s [D.g [.s (dF g),.s [],.s [],dB true]]]=_;rw[←hw,hdr,walk,if_pos h4];rfl
   have hsm:=Jhr hok h4;have hin:=Vr hsm hp' sp' hB0;have hin7:Std 10000000 (Jv l.f p'):=hin.mono (by omega);refine Jtz (args:=l.f.cells++[.s (dF p')]) rfl rfl (JjM hsm hp' sp' hB0 (by omega)) rfl ?_;have hj5:j'<6:=by omega
   refine Jty (l.kind=1) rfl (fun h1=>?_) (fun h1=>?_)
   ·have hsk:=JcQ hok h1;have hg':(g++[Jv l.f p']).length≤j'+1:=by simp;omega
    have hg2:(g++[QU (Jv l.f p')]).length≤j'+1:=by simp;omega
    have hmin:Std 10000000 (QU (Jv l.f p')):=(WI hin).mono (by omega);have spB :∀f∈p',Std (Bd (j'+1)) f:=fun f hf=>(sp' f hf).mono (Kv (by omega));have cp:=Yz (by omega:p'.length≤2000000) sp' hB0 (by omega);have cg:=Yz (by omega:g.length≤2000000) sg (by omega) (by omega);have ct:=Yz (by omega:t'.length≤2000000) st' (by omega) (by omega);refine Jtz (args:=[.s (dF p')]) rfl rfl cp rfl ?_;refine Jtz (args:=[.s (dF g)]) rfl rfl cg rfl ?_;refine JtD (dF g++[(Jv l.f p').g]) rfl (by rw[Xg,J0];omega) ?_;refine Jtz (args:=[.s (dF t')]) rfl rfl ct rfl ?_;have e1:=ih (act.length-(i+1).toNat) (by omega) (i+1) p' (g++[Jv l.f p']) t' (j'+1) (by omega) (by omega) rfl (by omega) (by omega) hp' spB hg' (KI sg hin7) (by omega) st';refine Jtz (args:=[.s (Jl act),dI (i+1),.s (dF p'),.s (dF (g++[Jv l.f p'])),.s (dF t')]) rfl ?_ e1 rfl ?_
    ·show [D.s (Jl act),dI (i64.wrap (i+1)),.s (dF p'),.s (dF g++[(Jv l.f p').g]),.s (dF t')]=_;rw[Xg,w64 (by omega) (by omega)]
    refine Jtz (args:=[.s (dF p')]) rfl rfl cp rfl ?_;refine Jtz (args:=[.s (dF g)]) rfl rfl cg rfl ?_;refine Jtz (args:=(Jv l.f p').cells) rfl rfl (Jko hin7 (by omega) (by omega)) rfl ?_;refine JtD (dF g++[(QU (Jv l.f p')).g]) rfl (by rw[Xg,J0];omega) ?_;refine Jtz (args:=[.s (dF t')]) rfl rfl ct rfl ?_;have e2:=ih (act.length-(i+1+l.skip).toNat) (by omega) (i+1+l.skip) p' (g++[QU (Jv l.f p')]) t' (j'+1) (by omega) (by omega) rfl (by omega) (by omega) hp' spB hg2 (KI sg hmin) (by omega) st';refine Jtz (args:=[.s (Jl act),dI (i+1+l.skip),.s (dF p'),.s (dF (g++[QU (Jv l.f p')])),.s (dF t')]) rfl ?_ e2 rfl ?_
    ·show [D.s (Jl act),dI (i64.wrap (i64.wrap (i+1)+l.skip)),.s (dF p'),.s (dF g++[(QU (Jv l.f p')).g]),.s (dF t')]=_;rw[Xg,w64 (n:=i+1) (by omega) (by omega),w64 (by omega) (by omega)]
    have wl :∀(k:Nat) (a b c:List Frm),(walk (act.drop k) a b c).length≤64:=fun k a b c=>by
     refine Nat.le_trans (Jjj _ _ _ _) ?_;exact Nat.le_trans (Nat.pow_le_pow_right (by omega) (show (act.drop k).length≤6 by simp;omega)) (by decide)
    have w1:=wl (i+1).toNat p' (g++[Jv l.f p']) t';have w2:=wl (i+1+l.skip).toNat p' (g++[QU (Jv l.f p')]) t';refine JtD (Qc (walk (act.drop (i+1+l.skip).toNat) p' (g++[QU (Jv l.f p')]) t')) rfl (by rw[X4];omega) ?_;refine JtH (JmF _) ?_;refine JtD (Qc (walk (act.drop (i+1).toNat) p' (g++[Jv l.f p']) t')++Qc (walk (act.drop (i+1+l.skip).toNat) p' (g++[QU (Jv l.f p')]) t')) rfl (by rw[Juf,X4,X4];omega) ?_;refine JtA (Jt0 ?_);show [D.s (Qc (walk (act.drop (i+1).toNat) p' (g++[Jv l.f p']) t')++Qc (walk (act.drop (i+1+l.skip).toNat) p' (g++[QU (Jv l.f p')]) t'))]=_;rw[Jni,←hw,hdr,walk,if_neg h4,if_pos h1,List.drop_drop,hs1,show i.toNat+1+l.skip.toNat=(i+1+l.skip).toNat by omega]
   refine Jty (l.kind=2) rfl (fun h2=>?_) (fun h2=>?_)
   ·have hpt:=Jgs hok h2;have hlt:l.pot.toNat<p'.length:=by omega
    obtain⟨hm1,hm2⟩:=JhA hlt;have hdg:(dF p')[l.pot.toNat]? = some (p'.getD l.pot.toNat Frm.none).g:=mA1 (f:=Frm.g) hm2;refine Jtz (args:=[.s (dF p')]) rfl rfl (Yz (by omega) sp' hB0 (by omega)) rfl ?_;refine JtP (0≤l.pot) rfl hpt.1 ?_;refine JtP (l.pot<((dF p').length:Int)) rfl (by rw[J0];omega) ?_;refine JtJ (ds:=dF p') l.pot rfl rfl rfl hpt.1 hdg rfl ?_;refine Jtz (args:=(p'.getD l.pot.toNat Frm.none).cells++(Jv l.f p').cells++[dI 1]) rfl rfl (UR ((sp' _ hm1).mono (by omega)) hin7 (by omega) (by omega)) rfl ?_;refine JtP (0≤l.pot) rfl hpt.1 ?_;refine JtP (l.pot<((dF p').length:Int)) rfl (by rw[J0];omega) ?_;refine JtJ (ds:=dF p') l.pot rfl rfl rfl hpt.1 hdg rfl ?_;have hsum:Std (Bd (j'+1)) (JU (p'.getD l.pot.toNat Frm.none) (Jv l.f p') 1):=(QT (sp' _ hm1) hin (n:=1) (N:=1) (by omega)).mono (by simp only[Bd];omega);refine JtK (vs:=[.l (dF (p'.set l.pot.toNat (JU (p'.getD l.pot.toNat Frm.none) (Jv l.f p') 1))),.l (dF t'),.i (i+1)]) ?_
     ⟨act.length-(i+1).toNat,by omega,i+1,p'.set l.pot.toNat (JU (p'.getD l.pot.toNat Frm.none) (Jv l.f p') 1),t',j'+1,rfl,by omega,by omega,rfl,by omega,by omega,by omega,by simp[hp'],?_,by omega,st',?_⟩
    ·show [V.l ((dF p').set l.pot.toNat (JU (p'.getD l.pot.toNat Frm.none) (Jv l.f p') 1).g),V.l (dF t'),V.i (i64.wrap (i+1))]=_;rw[w64 (by omega) (by omega)];simp[dF,List.map_set]
    ·intro f hf;rcases Juy hf with hf | hf
     ·exact(sp' f hf).mono (Kv (by omega))
     ·subst hf;exact hsum
    ·rw[←hw,hdr,hs1];conv=>rhs;rw[walk];rw[if_neg h4,if_neg h1,if_pos h2]
   ·refine Jtz (args:=[.s (dF t')]) rfl rfl (Yz (by omega) st' (by omega) (by omega)) rfl ?_;refine JtD (dF t'++[(Jv l.f p').g]) rfl (by rw[Xg,J0,Juf,List.length_singleton];omega) ?_;refine JtK (vs:=[.l (dF p'),.l (dF (t'++[Jv l.f p'])),.i (i+1)]) ?_
     ⟨act.length-(i+1).toNat,by omega,i+1,p',t'++[Jv l.f p'],j'+1,rfl,by omega,by omega,rfl,by omega,by omega,by omega,hp',fun f hf=>(sp' f hf).mono (Kv (by omega)),by simp;omega,KI st' hin7,?_⟩
    ·show [V.l (dF p'),V.l (dF t'++[(Jv l.f p').g]),V.i (i64.wrap (i+1))]=_;rw[Xg,w64 (by omega) (by omega)]
    ·rw[←hw,hdr,hs1];conv=>rhs;rw[walk];rw[if_neg h4,if_neg h1,if_neg h2]
  ·rw[JN] at hi;refine JtA ?_;refine Jtz (args:=[.s (dF p'),.s (dF g),.s (dF t')]) rfl rfl (JoB (M:=10000000) hp' (fun f hf=>(sp' f hf).mono (by omega)) (by omega) sg (by omega) st' (by omega) (by omega)) rfl ?_;refine Jt0 ?_;show [D.s [(Y9 p' g t').g]]=_;rw[←hw,List.drop_eq_nil_of_le (by omega),walk];rfl
theorem JfH (act:List Jg) (hf:KB act):Ev L f_k12 [.s (Jl act)] [.s (Qc (Js act))]:=by
 refine Jt7 (vs:=[.l (Jl act)]) L_k12 rfl ?_;refine Jtz (args:=[.s (Jl act)]) rfl rfl (JaB act hf) rfl ?_;refine Jty (Qp act=false) ?_ (fun h=>Jt0 ?_) (fun h=>?_)
 ·show (!(Qp act))=_;cases Qp act <;> rfl
 ·show [D.s []]=_;simp[Js,h,Qc]
 have h:Qp act=true:=by simpa using h
 refine Jtz (args:=[dI 0]) rfl rfl (ZL 0 (by omega) (by omega)) rfl ?_;refine Jtz (args:=[dI 1]) rfl rfl (ZL 1 (by omega) (by omega)) rfl ?_;refine Jtz (args:=[dI 2]) rfl rfl (ZL 2 (by omega) (by omega)) rfl ?_;have e:=Jne (JdD h) act.length 0 [JA 0,JA 1,JA 2] [] [] 0 (by omega) (by omega) (by simp) (by omega) (by omega) rfl (by
  intro f hf';simp at hf';rcases hf' with rfl | rfl | rfl <;> exact QS) (by simp) (by simp) (by simp) (by simp)
 refine Jtz (args:=[.s (Jl act),dI 0,.s (dF [JA 0,JA 1,JA 2]),.s (dF []),.s (dF [])]) rfl rfl e rfl ?_;refine Jt0 ?_;show [D.s (Qc (walk (act.drop (0:Int).toNat) [JA 0,JA 1,JA 2] [] []))]=_;simp[Js,h]
/- What the reference's parts,pins,and draws of them come to. -/
def X3 (as:List (List Jg)):Prop:=as.length≤2000000∧∀a∈as,KB a
theorem Jgf.fit {as:List (List Jg)} (h:Jgf as):X3 as:=⟨by have:=h.1;omega,fun a ha=>(h.2 a ha).fit⟩
theorem Joa (as:List (List Jg)) (hf:X3 as):Ev L f_kf [.s (Jd as)] [dB (Qk as)]:=by
 have hl:=hf.1;refine Jt7 (vs:=[.l (Jd as)]) L_kf rfl ?_;refine JtE (JP as.length 1 4) rfl ?_ rfl ?_
 ·show [dI ((Jd as).length:Int),dI 1,dI 4]=_;rw[JK]
 refine Jt1 (inB as.length 1 4) rfl (fun h=>Jt0 ?_) (fun h=>?_)
 ·show [dB false]=_;simp[Qk,h]
 refine Jtt as.length (fun i=>[.i i]) (fun i=>(as.take i).all Qp=true) rfl rfl (by simp) fun i hi hp=>?_;refine JtT i (JK as) rfl (fun h'=>?_) (fun h'=>?_)
 ·obtain⟨x,hx,hm⟩:=sA1 h';refine JtY i (mA1 (f:=fun a=> .s (Jl a)) hx) rfl rfl rfl rfl ?_;refine JtE (JaB x (hf.2 x hm)) rfl rfl rfl ?_;refine Jt1 (Qp x) rfl (fun hb=>JtA (Jt0 ?_)) (fun hb=>?_)
  ·show [dB false]=_;simp[Qk,Yi hx hb]
  ·refine JtK (vs:=[.i ((i+1:Nat):Int)]) ?_ ⟨h',rfl,QV hx hp hb⟩;show [V.i (i64.wrap ((i:Int)+1))]=_;rw[wS h' (by omega)]
 ·refine JtA (Jt0 ?_);rw[tA1 h'] at hp;show [dB true]=_;simp only[Qk,h,hp];simp
theorem JeA (f:Frm) (hl:Lim 1000000000 f.c) (hn:f.c.length≤2000000):Ev L f_k14 f.cells [.s (dL (Jm f.c))]:=by
 refine Jt7 (vs:=[.l (dL f.c),.l (dL f.d),.i f.k]) L_k14 rfl ?_;refine Jtt f.c.length (fun i=>[.l (dL (Jm (f.c.take i))),.i (Y4 (f.c.take i)),.i i]) (fun _=>True) rfl rfl trivial fun i hi _=>?_;refine JtT i (dL1 f.c) rfl (fun h=>?_) (fun h=>?_)
 ·obtain⟨x,hx,hm⟩:=sA1 h;have hd:=mA1 (f:=dI) hx;have hxl:=hl x hm;have hs:=Jig (f.c.take i) x;have hps:=Jnf (f.c.take i) x;rw[←tS1 hx] at hs hps;have hlen:(Jm (f.c.take i)).length≤i:=by rw[U4];simp;omega
  have hin:=Jgg (f.c.take i);have fin :∀(s:Int) (l:List V),s=Y4 (f.c.take (i+1))→[V.l (dL (Jm (f.c.take i))++[dI (i64.wrap (s*x))]),V.i s,V.i (i64.wrap ((i:Int)+1))]=[V.l (dL (Jm (f.c.take (i+1)))),.i (Y4 (f.c.take (i+1))),.i ((i+1:Nat):Int)]:=by
   intro s _ e;subst e;rw[wS h (by omega),hps,w64,Q8]
   ·rcases Jgg (f.c.take (i+1)) with e | e | e <;> rw[e] <;> omega
   ·rcases Jgg (f.c.take (i+1)) with e | e | e <;> rw[e] <;> omega
  generalize hS:Y4 (f.c.take i)=S at *;refine Jty (S=0) rfl (fun h0=>?_) (fun h0=>?_)
  ·subst h0;simp only[if_true] at hs;refine JtY i hd rfl rfl rfl rfl ?_;refine Jty (0<x) rfl (fun h1=>?_) (fun h1=>?_)
   ·refine JtY i hd rfl rfl rfl rfl ?_;refine JtR (dL (Jm (f.c.take i))) 2000000 (by rw[dL1];omega) (by omega) rfl ?_;rw[if_pos h1] at hs;exact JtK (fin 1 [] hs.symm) ⟨h,rfl,trivial⟩
   ·refine Jty ((0:Int)=0) rfl (fun _=>?_) (fun h=>absurd rfl h);refine JtY i hd rfl rfl rfl rfl ?_;refine Jty (x<0) rfl (fun h2=>?_) (fun h2=>?_)
    ·refine JtY i hd rfl rfl rfl rfl ?_;refine JtR (dL (Jm (f.c.take i))) 2000000 (by rw[dL1];omega) (by omega) rfl ?_;rw[if_neg h1,if_pos h2] at hs;exact JtK (fin (-1) [] hs.symm) ⟨h,rfl,trivial⟩
    ·refine JtY i hd rfl rfl rfl rfl ?_;refine JtR (dL (Jm (f.c.take i))) 2000000 (by rw[dL1];omega) (by omega) rfl ?_;rw[if_neg h1,if_neg h2] at hs;exact JtK (fin 0 [] hs.symm) ⟨h,rfl,trivial⟩
  ·rw[if_neg h0] at hs;refine Jty (S=0) rfl (fun h=>absurd h h0) (fun _=>?_);refine JtY i hd rfl rfl rfl rfl ?_;refine JtR (dL (Jm (f.c.take i))) 2000000 (by rw[dL1];omega) (by omega) rfl ?_;exact JtK (fin S [] hs.symm) ⟨h,rfl,trivial⟩
 ·refine JtA (Jt0 ?_);show [D.s (dL (Jm (f.c.take i)))]=_;rw[tA1 h]
def JrZ (cmp : E) (sh : Sh) : R :=
  .ite (.not (.cmp .eq (.len (.v 0)) (.len (.v 1))))
   (
    .done [(.vb .ff)])
   (
    .loop 2 [(.z 0)] <|
      .ite (.cmp .lt (.v 2) (.len (.v 0)))
       (
        .i (.idx (.v 0) (.v 2) sh 3) <|
        .i (.idx (.v 1) (.v 2) sh 4) <|
        .ite (.not cmp)
         (
          .esc <|
          .done [(.vb .ff)])
         (
          .next [(.bin .add .i64 (.v 2) (.z 1))]))
       (
        .esc <|
        .done [(.vb .tt)]))
theorem Jgr {α:Type} [DecidableEq α] {f:FuncId} {H:Z4} {s:Sig} {cmp:E} {sh:Sh} (enc:α→D) (vOf:α→V) (a b:List α) (hf:L.lookup f=some ⟨s,.r H (JrZ cmp sh)⟩) (hs:Vx s=[.s,.s])
  (hb :∀x,KF sh (enc x)=some [vOf x]) (hc :∀(v0 v1 v2:V) (x y:α),bol (Jn [v0,v1,v2,vOf x,vOf y]) cmp=decide (x=y)) (hl:a.length≤2000000) :
  Ev L f [.s (a.map enc),.s (b.map enc)] [dB (decide (a=b))]:=by
 refine Jt7 (vs:=[.l (a.map enc),.l (b.map enc)]) hf (by rw[hs];rfl) ?_;refine Jty (¬a.length=b.length) ?_ (fun h=>Jt0 ?_) (fun h=>?_)
 ·show (!(decide (((a.map enc).length:Int)=((b.map enc).length:Int))))=_;rw[Jui,Jui]
  by_cases h:a.length=b.length
  ·simp[h]
  ·simp[h,show ¬(a.length:Int)=b.length by omega]
 ·show [dB false]=_;rw[decide_eq_false];intro e;exact h (by rw[e])
 have h:a.length=b.length:=Classical.not_not.1 h;refine Jtt a.length (fun i=>[.i i]) (fun i=>a.take i=b.take i) rfl rfl rfl fun i hi hp=>?_;refine JtT i (Jui (f:=enc) (as:=a)) rfl (fun h'=>?_) (fun h'=>?_)
 ·obtain⟨x,hx,_⟩:=sA1 h';obtain⟨y,hy,_⟩:=sA1 (show i<b.length by omega);refine JtY i (mA1 (f:=enc) hx) rfl rfl rfl (hb x) ?_;refine JtY i (mA1 (f:=enc) hy) rfl rfl rfl (hb y) ?_;refine Jt1 (decide (x=y)) ?_ (fun hxy=>JtA (Jt0 ?_)) (fun hxy=>?_)
  ·show (!(bol (Jn [V.l (a.map enc),.l (b.map enc),.i i,vOf x,vOf y]) cmp))=_;rw[hc]
  ·show [dB false]=_;rw[decide_eq_false];intro e;subst e;rw[hx] at hy;simp only[Jt8] at hy;simp[hy] at hxy
  ·have hxy:x=y:=by simpa using hxy
   subst hxy;refine JtK (vs:=[.i ((i+1:Nat):Int)]) ?_ ⟨h',rfl,by show a.take (i+1)=b.take (i+1);rw[tS1 hx,tS1 hy,hp]⟩;show [V.i (i64.wrap ((i:Int)+1))]=_;rw[wS h' (by omega)]
 ·refine JtA (Jt0 ?_);rw[tA1 h',tA1 (by omega)] at hp;subst hp;show [dB true]=_;simp
theorem JbF (a b:List Int) (hl:a.length≤2000000):Ev L f_k15 [.s (dL a),.s (dL b)] [dB (decide (a=b))] :=
 Jgr dI .i a b L_k15 rfl (fun _=>rfl) (fun _ _ _ _ _=>rfl) hl
theorem JfT (l:List (List Int)) (p:List Int) (hl:l.length≤2000000) (hq :∀q∈l,q.length≤2000000):Ev L f_k16 [.s (dLL l),.s (dL p)] [dI (Ks l p)]:=by
 refine Jt7 (vs:=[.l (dLL l),.l (dL p)]) L_k16 rfl ?_;refine Jtt l.length (fun i=>[.i i]) (fun i=>(l.take i).any (fun q=>decide (q=p))=false) rfl rfl (by simp) fun i hi hn=>?_;refine JtT i (Ut l) rfl (fun h=>?_) (fun h=>?_)
 ·obtain⟨x,hx,hm⟩:=sA1 h;refine JtY i (mA1 (f:=fun x=> .s (dL x)) hx) rfl rfl rfl rfl ?_;refine JtE (JbF x p (hq x hm)) rfl rfl rfl ?_;refine JtG (decide (x=p)) rfl (fun hp=>JtA (Jt0 ?_)) (fun hp=>?_)
  ·show [dI i]=_;rw[Ks,Jc6 hx hp hn]
  ·refine JtK (vs:=[.i ((i+1:Nat):Int)]) ?_ ⟨h,rfl,Jea hx hn hp⟩;show [V.i (i64.wrap ((i:Int)+1))]=_;rw[wS h (by omega)]
 ·refine JtA (Jt0 ?_);rw[tA1 h] at hn;show [dI (-1)]=_;rw[Ks,Jdw hn]
theorem JpS (p:List Bool):Yb 1 (dBl p)=true:=by cases p <;> rfl
theorem JdO (p:List Bool) (fs:List Frm) (hp:p.length=3) (hc :∀f∈fs,f.c.length=3) (hl:fs.length≤2000000):Ev L f_k13 [.s (dBl p),.s (dF fs)] [.s (dBl (QK p fs))]:=by
 refine Jt7 (vs:=[.l (dBl p),.l (dF fs)]) L_k13 rfl ?_;refine Jtv (dBl p) 3 (by rw[Jhd];omega) (by omega) rfl ?_;refine JtH (JpS p) ?_;refine Jtv (dBl p) 3 (by rw[Jhd];omega) (by omega) rfl ?_;refine Jtt fs.length (fun i=>[.l (dBl (QK p (fs.take i))),.i i]) (fun _=>True) rfl rfl trivial fun i hi _=>?_;refine JtT i (J0 fs) rfl (fun h=>?_) (fun h=>?_)
 ·obtain⟨x,hx,hm⟩:=sA1 h;have hx3:=hc x hm;have hP:(QK p (fs.take i)).length=3:=Kh hp fun f hf=>hc f (Jux hf);have hS:QK p (fs.take (i+1))=UE (QK p (fs.take i)) x.c:=Xn hx;generalize QK p (fs.take i)=P at *;have hO:(UE P x.c).length=3:=by rw[Ja3];omega
  refine Jtt 3 (fun v=>[.l (dBl ((UE P x.c).take v++P.drop v)),.i v]) (fun _=>True) rfl rfl trivial fun v hv _=>?_;refine JtQ v 3 rfl (fun hv3=>?_) (fun hv3=>?_)
  ·obtain⟨n,hn,_⟩:=sA1 (show v<x.c.length by omega);obtain⟨b,hb,_⟩:=sA1 (show v<P.length by omega);have ho:(UE P x.c)[v]? = some (b||decide (n≠0)):=by simp[UE,List.getElem?_zipWith,hn,hb]
   refine JtY i (mA1 (f:=Frm.g) hx) rfl rfl rfl rfl ?_;refine JtY v (mA1 (f:=dI) hn) rfl rfl rfl rfl ?_;have hlen:((UE P x.c).take v++P.drop v).length=3:=by simp;omega
   refine Jt1 (decide (n=0)) rfl (fun h0=>?_) (fun h0=>?_)
   ·obtain⟨b',hb',_⟩:=sA1 (show v<((UE P x.c).take v++P.drop v).length by omega);refine Jtu v (mA1 (f:=dB) hb') rfl rfl rfl rfl rfl rfl ?_;have h0:n≠0:=by simpa using h0
    have ho:(UE P x.c)[v]? = some true:=by rw[ho];simp[h0]
    refine JtK (vs:=[.l (dBl ((UE P x.c).take (v+1)++P.drop (v+1))),.i ((v+1:Nat):Int)]) ?_ ⟨hv3,rfl,trivial⟩;show [V.l ((dBl ((UE P x.c).take v++P.drop v)).set (v:Int).toNat (dB true)),V.i (i64.wrap ((v:Int)+1))]=_;rw[wS hv3 (by omega),Jk0,Int.toNat_natCast,Jov (by omega) ho]
   ·have h0:n=0:=by simpa using h0
    refine JtK (vs:=[.l (dBl ((UE P x.c).take (v+1)++P.drop (v+1))),.i ((v+1:Nat):Int)]) ?_ ⟨hv3,rfl,trivial⟩;show [V.l (dBl ((UE P x.c).take v++P.drop v)),V.i (i64.wrap ((v:Int)+1))]=_;rw[wS hv3 (by omega),Jmx (s:=b) (by rw[ho];simp[h0]) hb]
  ·have:v=3:=by omega
   subst this;rw[Jud (by omega),List.drop_eq_nil_of_le (by omega),List.append_nil];refine JtA ?_;refine JtK (vs:=[.l (dBl (QK p (fs.take (i+1)))),.i ((i+1:Nat):Int)]) ?_ ⟨h,rfl,trivial⟩;show [V.l (dBl (UE P x.c)),V.i (i64.wrap ((i:Int)+1))]=_;rw[wS h (by omega),hS]
 ·refine JtA (Jt0 ?_);show [D.s (dBl (QK p (fs.take i)))]=_;rw[tA1 h]
/- What the reference's catalogue of parts and pins comes to. -/
structure Ql (n:Nat) (s:List (List Int)):Prop where
 len:s.length≤n
 each :∀q∈s,q.length=3∧Lim 10000000 q
theorem Ql.add {n:Nat} {s:List (List Int)} (h:Ql n s) {f:Frm} (hf:Std 10000000 f):Ql (n+1) (Jp s f) :=
 ⟨by have:=Jiu s f;have:=h.len;omega,Jjc h.each ⟨by rw[U4];exact hf.c,Jok hf.lc⟩⟩
theorem Ql.mono {n m:Nat} {s:List (List Int)} (h:Ql n s) (hm:n≤m):Ql m s:=⟨by have:=h.len;omega,h.each⟩
theorem Ql.adds {n:Nat} {s:List (List Int)} (h:Ql n s) {fs:List Frm} (hf :∀f∈fs,Std 10000000 f):Ql (n+fs.length) (fs.foldl Jp s):=by
 induction fs generalizing n s with
 | nil=>exact h
 | cons f fs ih=>exact(ih (h.add (hf f (by simp))) fun g hg=>hf g (by simp[hg])).mono (by simp;omega)
theorem Ql.rows {n:Nat} {s:List (List Int)×List Bool} (h:Ql n s.1) (h3:s.2.length=3) {rs:List Row} (hr :∀r∈rs,Yc r):Ql (n+6*rs.length) (rs.foldl QN s).1∧(rs.foldl QN s).2.length=3:=by
 induction rs generalizing n s with
 | nil=>exact⟨h,h3⟩
 | cons r rs ih =>
  have hr1:=hr r (by simp);have a:=(h.adds hr1.g).mono (show n+r.guards.length≤n+6 by have:=hr1.gl;omega);have b:(QN s r).2.length=3:=Kh (Kh h3 fun f hf=>(hr1.a f hf).c) fun f hf=>(hr1.t f hf).c;have:=ih (s:=QN s r) (n:=n+6) a b fun x hx=>hr x (by simp[hx]);exact⟨this.1.mono (by simp;omega),this.2⟩
theorem JdN (as:List (List Jg)):Ql (3+384*as.length) (Ud as).1∧(Ud as).2.length=3:=by
 have key :∀(n:Nat) (s:List (List Int)×List Bool),Ql n s.1→s.2.length=3→Ql (n+384*as.length) (as.foldl Yl s).1∧(as.foldl Yl s).2.length=3:=by
  induction as with
  | nil=>intro n s h h3;exact⟨h,h3⟩
  | cons a as ih =>
   intro n s h h3;have:=h.rows h3 (rs:=Js a) XT;have hl:=ZS a;have:=ih (n+384) (Yl s a) (this.1.mono (by omega)) this.2;exact⟨this.1.mono (by simp;omega),this.2⟩
 refine key 3 _ ⟨by simp[YC],?_⟩ rfl;intro q hq;simp[YC] at hq;rcases hq with rfl | rfl | rfl <;> exact⟨rfl,by intro x hx;simp at hx;omega⟩
theorem rdR {rs:List Row} {i:Nat} {r:Row} (h:rs[i]? = some r):(Qc rs)[i]? = some r.g:=mA1 (f:=Row.g) h
set_option maxHeartbeats 8000000 in
theorem Jbq (as:List (List Jg)) (hf:X3 as) (h4:as.length≤4):Ev L f_k17 [.s (Jd as)] [.s (dLL (Ud as).1),.s (dBl (Ud as).2)]:=by
 refine Jt7 (vs:=[.l (Jd as)]) L_k17 rfl ?_;refine Jtt 3 (fun v=>[.l (dLL (YC.take v)),.i v]) (fun _=>True) rfl rfl trivial fun v hv _=>?_;refine JtQ v 3 rfl (fun hv3=>?_) (fun hv3=>?_)
 ·refine JtE (ZL v (by omega) (by omega)) rfl rfl rfl ?_;have hp:YC[v]? = some (JA (v:Int).toNat).c:=by
   rw[Int.toNat_natCast]
   match v,hv3 with
   | 0,_ | 1,_ | 2,_=>rfl
   | n+3,h=>omega
  refine JtR (dLL (YC.take v)) 3 (by rw[Ut];simp;omega) (by omega) rfl ?_;refine JtK (vs:=[.l (dLL (YC.take (v+1))),.i ((v+1:Nat):Int)]) ?_ ⟨hv3,rfl,trivial⟩;show [V.l (dLL (YC.take v)++[.s (dL (JA (v:Int).toNat).c)]),V.i (i64.wrap ((v:Int)+1))]=_;rw[wS hv3 (by omega),JaK,tS1 hp]
 have hv3:v=3:=by omega
 subst hv3;refine JtA ?_;refine JtW as.length (fun i vs=>∃ b:List (List Int)×List Bool,vs=[.l (dLL b.1),.l (dBl b.2),.i i]∧b=Ud (as.take i)) rfl ⟨(YC,[false,false,false]),rfl,rfl⟩ ?_;rintro i _ hi ⟨⟨b1,b2⟩,rfl,hb⟩;simp only[sC,sN];refine JtT i (JK as) rfl (fun h=>?_) (fun h=>?_)
 ·obtain⟨a,ha,hm⟩:=sA1 h;have hB:Ud (as.take (i+1))=Yl (b1,b2) a:=by rw[hb];exact Xn ha
  obtain⟨f1,f2⟩:=JdN (as.take i);rw[←hb] at f1 f2;have f1:=f1.mono (show 3+384*(as.take i).length≤1600 by simp;omega);have hrl:=ZS a;refine JtY i (mA1 (f:=fun a=> .s (Jl a)) ha) rfl rfl rfl rfl ?_;refine JtE (JfH a (hf.2 a hm)) rfl rfl rfl ?_;have hrf :∀r∈Js a,Yc r:=XT;have hAB:Yl (b1,b2) a=(Js a).foldl QN (b1,b2):=rfl;generalize Js a=rs at *;refine JtW rs.length (fun k vs=>∃ c:List (List Int)×List Bool,vs=[.l (dLL c.1),.l (dBl c.2),.i k]∧c=(rs.take k).foldl QN (b1,b2)) rfl ⟨(b1,b2),rfl,rfl⟩ ?_;rintro k _ hk ⟨⟨c1,c2⟩,rfl,hc⟩;simp only[sC,sN];refine JtT k (X4 rs) rfl (fun h'=>?_) (fun h'=>?_)
  ·obtain⟨r,hr,hmr⟩:=sA1 h';have hfit:=hrf r hmr;have hC:(rs.take (k+1)).foldl QN (b1,b2)=QN (c1,c2) r:=by rw[hc];exact Xn hr
   obtain⟨g1,g2⟩:=f1.rows f2 (rs:=rs.take k) fun x hx=>hrf x (Jux hx);rw[←hc] at g1 g2;have g1:=g1.mono (show 1600+6*(rs.take k).length≤2000 by simp;omega);have hRd:=rdR hr;refine Jtu k hRd rfl rfl rfl rfl rfl rfl ?_;refine JtE (JdO c2 r.adds g2 (fun f hf=>(hfit.a f hf).c) (by have:=hfit.al;omega)) rfl rfl rfl ?_;refine Jtu k hRd rfl rfl rfl rfl rfl rfl ?_;have e3:(QK c2 r.adds).length=3:=Kh g2 fun f hf=>(hfit.a f hf).c;refine JtE (JdO (QK c2 r.adds) r.tells e3 (fun f hf=>(hfit.t f hf).c) (by have:=hfit.tl;omega)) rfl rfl rfl ?_;have hR:QN (c1,c2) r=(r.guards.foldl Jp c1,QK (QK c2 r.adds) r.tells):=rfl;generalize QK (QK c2 r.adds) r.tells=d2 at *;generalize QK c2 r.adds=d1 at *;have hgl:=hfit.gl;refine JtW r.guards.length (fun g vs=>∃ e:List (List Int),vs=[.l (dLL e),.i g]∧e=(r.guards.take g).foldl Jp c1) rfl ⟨c1,rfl,rfl⟩ ?_;rintro g _ hg ⟨e,rfl,he⟩;simp only[sC,sN];refine Jtu k hRd rfl rfl rfl rfl rfl rfl ?_;refine JtT g (J0 r.guards) rfl (fun hg'=>?_) (fun hg'=>?_)
   ·obtain⟨f,hfg,hmf⟩:=sA1 hg';have hsf:=hfit.g f hmf;have hE:(r.guards.take (g+1)).foldl Jp c1=Jp e f:=by rw[he];exact Xn hfg
    have e1:=(g1.adds (fs:=r.guards.take g) fun x hx=>hfit.g x (Jux hx)).mono (show 2000+(r.guards.take g).length≤2010 by simp;omega);rw[←he] at e1;have nx :∀(x:List (List Int)),x=Jp e f→[V.l (dLL x),V.i (i64.wrap ((g:Int)+1))]=[.l (dLL (Jp e f)),.i ((g+1:Nat):Int)]:=by
     intro x hx;rw[hx,wS hg' (by omega)]
    refine Jtu k hRd rfl rfl rfl rfl rfl rfl ?_;refine JtY g (mA1 (f:=Frm.g) hfg) rfl rfl rfl rfl ?_;refine JtE (JeA f (hsf.lc.mono (by omega)) (by rw[hsf.c];omega)) rfl rfl rfl ?_;have el:=e1.len;have hp3:(Jm f.c).length=3:=by rw[U4];exact hsf.c
    have hAP:Jp e f=if Ks e (Jm f.c)<0∧Jm f.c≠[0,0,0] then e++[Jm f.c] else e:=rfl;generalize Jm f.c=pt at *;refine JtE (JfT e pt (by omega) (fun q hq=>by rw[(e1.each q hq).1];omega)) rfl rfl rfl ?_;generalize Ks e pt=ha at *;refine Jty (ha<0) rfl (fun h0=>?_) (fun h0=>?_)
    ·refine JtE XL rfl rfl rfl ?_;refine JtE (JbF pt [0,0,0] (by omega)) rfl rfl rfl ?_;refine Jt1 (decide (pt=[0,0,0])) rfl (fun hz=>?_) (fun hz=>?_)
     ·refine JtR (dLL e) 3000 (by rw[Ut];omega) (by omega) rfl ?_;refine JtK (vs:=[.l (dLL (Jp e f)),.i ((g+1:Nat):Int)]) ?_ ⟨hg',Jp e f,rfl,hE.symm⟩;show [V.l (dLL e++[.s (dL pt)]),V.i (i64.wrap ((g:Int)+1))]=_;rw[JaK];refine nx _ ?_;rw[hAP,if_pos ⟨h0,by simpa using hz⟩]
     ·refine JtK (nx e ?_) ⟨hg',Jp e f,rfl,hE.symm⟩;rw[hAP,if_neg];intro ⟨_,h⟩;exact h (by simpa using hz)
    ·refine JtK (nx e ?_) ⟨hg',Jp e f,rfl,hE.symm⟩;rw[hAP,if_neg];intro ⟨h,_⟩;exact h0 h
   ·refine JtA ?_;rw[tA1 hg'] at he;refine JtK (vs:=[.l (dLL e),.l (dBl d2),.i ((k+1:Nat):Int)]) ?_ ⟨h',(e,d2),rfl,by rw[hC,hR,he]⟩;show [V.l (dLL e),V.l (dBl d2),V.i (i64.wrap ((k:Int)+1))]=_;rw[wS h' (by omega)]
  ·refine JtA ?_;rw[tA1 h'] at hc;refine JtK (vs:=[.l (dLL c1),.l (dBl c2),.i ((i+1:Nat):Int)]) ?_ ⟨h,(c1,c2),rfl,by rw[hB,hAB,hc]⟩;show [V.l (dLL c1),V.l (dBl c2),V.i (i64.wrap ((i:Int)+1))]=_;rw[wS h (by omega)]
 ·refine JtA (Jt0 ?_);show [D.s (dLL b1),.s (dBl b2)]=_;rw[tA1 h] at hb;rw[←hb]
theorem Xv {as:List (List Jg)} (h:Qk as=true):1≤as.length∧as.length≤4∧∀a∈as,Qp a=true:=by
 simp only[Qk,Jt9,Jr,Jum] at h;exact⟨by omega,by omega,h.2⟩
theorem QM (as:List (List Jg)):Ql 1600 (Jb as):=by
 unfold Jb;split
 ·rename_i h;exact(JdN as).1.mono (by have:=(Xv h).2.1;omega)
 ·exact⟨by simp,by simp⟩
/- What the reference's treaties come to. -/
theorem YV (l:List Int) (hl:l.length≤2000000):Ev L f_kg [.s (dL l)] [dB (JY l)] :=
 Jt7 (vs:=[.l (dL l)]) L_kg rfl (JtE (Xj l 3 10000 hl (by omega) (by omega)) rfl rfl rfl (Jt0 rfl))
theorem JbA (b g:List Int) (hb:b.length≤2000000) (hg:g.length≤2000000):Ev L f_kh [.s (dL b),.s (dL g)] [dB (Qr b g)]:=by
 refine Jt7 (vs:=[.l (dL b),.l (dL g)]) L_kh rfl ?_;refine JtE (YV b hb) rfl rfl rfl ?_;refine Jt1 (JY b) rfl (fun h=>Jt0 ?_) (fun h=>?_)
 ·show [dB false]=_;simp[Qr,h]
 refine JtE (JP g.length 1 3) rfl ?_ rfl ?_
 ·show [dI ((dL g).length:Int),dI 1,dI 3]=_;rw[dL1]
 refine Jt1 (inB g.length 1 3) rfl (fun h2=>Jt0 ?_) (fun h2=>?_)
 ·show [dB false]=_;simp[Qr,h2]
 refine Jtt g.length (fun i=>[.i i]) (fun i=>(g.take i).all (fun x=>inB x 0 50)=true) rfl rfl (by simp) fun i hi hp=>?_;refine JtT i (dL1 g) rfl (fun h'=>?_) (fun h'=>?_)
 ·obtain⟨x,hx,hm⟩:=sA1 h';refine JtY i (mA1 (f:=dI) hx) rfl rfl rfl rfl ?_;refine JtE (JP x 0 50) rfl rfl rfl ?_;refine Jt1 (inB x 0 50) rfl (fun hb=>JtA (Jt0 ?_)) (fun hb=>?_)
  ·show [dB false]=_;simp only[Qr,Yi (p:=fun x=>inB x 0 50) hx hb,Bool.and_false]
  ·refine JtK (vs:=[.i ((i+1:Nat):Int)]) ?_ ⟨h',rfl,QV (p:=fun x=>inB x 0 50) hx hp hb⟩;show [V.i (i64.wrap ((i:Int)+1))]=_;rw[wS h' (by omega)]
 ·refine JtA (Jt0 ?_);rw[tA1 h'] at hp;show [dB true]=_;simp only[Qr,h,h2,hp];rfl
def fitLL (ps:List (List Int)):Prop:=ps.length≤2000000∧∀p∈ps,p.length≤2000000
theorem JeD (ps:List (List Int)) (hp:fitLL ps):Ev L f_k1f [.s (dLL ps)] [dB (QL ps)]:=by
 have hl:=hp.1;refine Jt7 (vs:=[.l (dLL ps)]) L_k1f rfl ?_;refine Jtt ps.length (fun i=>[.i i]) (fun i=>(ps.take i).all (fun p=>JJ 3 10000000 p)=true) rfl rfl (by simp) fun i hi hq=>?_;refine JtT i (Ut ps) rfl (fun h'=>?_) (fun h'=>?_)
 ·obtain⟨x,hx,hm⟩:=sA1 h';refine JtY i (mA1 (f:=fun x=> .s (dL x)) hx) rfl rfl rfl rfl ?_;refine JtE (Xj x 3 10000000 (hp.2 x hm) (by omega) (by omega)) rfl rfl rfl ?_;refine Jt1 (JJ 3 10000000 x) rfl (fun hb=>JtA (Jt0 ?_)) (fun hb=>?_)
  ·show [dB false]=_;simp only[QL,Yi (p:=fun p=>JJ 3 10000000 p) hx hb]
  ·refine JtK (vs:=[.i ((i+1:Nat):Int)]) ?_ ⟨h',rfl,QV (p:=fun p=>JJ 3 10000000 p) hx hq hb⟩;show [V.i (i64.wrap ((i:Int)+1))]=_;rw[wS h' (by omega)]
 ·refine JtA (Jt0 ?_);rw[tA1 h'] at hq;show [dB true]=_;simp only[QL,hq]
theorem Jai {a b:List Int} {i:Nat} {x y:Int} (hx:a[i]? = some x) (hy:b[i]? = some y):dot (a.take (i+1)) (b.take (i+1))=dot (a.take i) (b.take i)+x*y:=by
 have h1:=(Jua.1 hx).1;have h2:=(Jua.1 hy).1;rw[tS1 hx,tS1 hy,Jn7 x y (by simp;omega)]
theorem Jik {a b:List Int} {i:Nat} {x y:Int} (hx:a[i]? = some x) (hy:b[i]? = some y) (ha:Lim 100000000 a) (hb:Lim 1000000 b) (hi:i<1000) :
  i64.wrap (dot (a.take i) (b.take i)+i64.wrap (x*y))=dot (a.take (i+1)) (b.take (i+1)):=by
 have h1:=ZI (ha.take i) (hb.take i) (by omega) (by omega);have h2:((a.take i).length:Int)≤1000:=by simp;omega
 have h3:=Kx (ha x (Jug hx)) (hb y (Jug hy));rw[Jai hx hy,w64 (n:=x*y) (by omega) (by omega),w64 (by omega) (by omega)]
theorem JkH (p a:List Int) (hp:JJ 3 10000000 p=true) (ha:JJ 3 20000 a=true):Ev L f_k1g [.s (dL p),.s (dL a)] [dI (dot p a)]:=by
 obtain⟨p1,p2⟩:=Jo.1 hp;obtain⟨a1,a2⟩:=Jo.1 ha;have p2:Lim 100000000 p:=Lim.mono (m:=10000000) p2 (by omega);have a2:Lim 1000000 a:=Lim.mono (m:=20000) a2 (by omega);refine Jt7 (vs:=[.l (dL p),.l (dL a)]) L_k1g rfl ?_;refine Jtt 3 (fun i=>[.i (dot (p.take i) (a.take i)),.i i]) (fun _=>True) rfl rfl trivial fun i hi _=>?_;refine JtQ i 3 rfl (fun h=>?_) (fun h=>?_)
 ·obtain⟨x,hx,_⟩:=sA1 (show i<p.length by omega);obtain⟨y,hy,_⟩:=sA1 (show i<a.length by omega);refine JtY i (mA1 (f:=dI) hx) rfl rfl rfl rfl ?_;refine JtY i (mA1 (f:=dI) hy) rfl rfl rfl rfl ?_;refine JtK (vs:=[.i (dot (p.take (i+1)) (a.take (i+1))),.i ((i+1:Nat):Int)]) ?_ ⟨h,rfl,trivial⟩;show [V.i (i64.wrap (dot (p.take i) (a.take i)+i64.wrap (x*y))),V.i (i64.wrap ((i:Int)+1))]=_;rw[wS h (by omega),Jik hx hy p2 a2 (by omega)]
 ·refine JtA (Jt0 ?_);show [dI (dot (p.take i) (a.take i))]=_;rw[Jud (by omega),Jud (by omega)]
theorem Ja4 {l:List Int} {i:Nat} (h:i<l.length):l[i]? = some (l.getD i 0):=by simp[Juc,h]
theorem ZF (b g:List Int) (ps:List (List Int)) (s:Int) (a:List Int) (hb:b.length≤2000000) (hg:g.length≤2000000) (hp:fitLL ps) (ha:a.length≤2000000) :
  Ev L f_k1h [.s (dL b),.s (dL g),.s (dLL ps),dI s,.s (dL a)] [dB (keeps b g ps s a)]:=by
 have hpl:=hp.1;refine Jt7 (vs:=[.l (dL b),.l (dL g),.l (dLL ps),.i s,.l (dL a)]) L_k1h rfl ?_;refine JtE (JbA b g hb hg) rfl rfl rfl ?_;refine Jt1 (Qr b g) rfl (fun h=>Jt0 ?_) (fun h=>?_)
 ·show [dB false]=_;simp[keeps,h]
 refine JtE (JeD ps hp) rfl rfl rfl ?_;refine Jt1 (QL ps) rfl (fun h2=>Jt0 ?_) (fun h2=>?_)
 ·show [dB false]=_;simp[keeps,h2]
 refine JtE (JP s 0 (g.length-1)) rfl ?_ rfl ?_
 ·show [dI s,dI 0,dI (i64.wrap (((dL g).length:Int)-1))]=_;rw[dL1,w64 (by omega) (by omega)]
 refine Jt1 (inB s 0 (g.length-1)) rfl (fun h3=>Jt0 ?_) (fun h3=>?_)
 ·show [dB false]=_;simp[keeps,h3]
 refine JtE (Xj a 3 20000 ha (by omega) (by omega)) rfl rfl rfl ?_;refine Jt1 (JJ 3 20000 a) rfl (fun h4=>Jt0 ?_) (fun h4=>?_)
 ·show [dB false]=_;simp[keeps,QE,h4]
 have hs:=Jr.1 h3;have hsg:s.toNat<g.length:=by omega
 have hgs:=Ja4 hsg;have hgm:=XC (p:=fun x=>0≤x∧x≤50) (l:=g) (by
  intro x hx;simp only[Qr,Jt9,Jum] at h;exact Jr.1 (h.2 x hx)) hsg
 have hdS:(dL g)[s.toNat]? = some (dI (g.getD s.toNat 0)):=mA1 (f:=dI) hgs;simp only[keeps,QE,h,h2,h3,h4,Jut];generalize g.getD s.toNat 0=G at *;refine Jtt ps.length (fun i=>[.i i]) (fun i=>(ps.take i).all (ZW G a)=true) rfl rfl (by simp) fun i hi hq=>?_;refine JtT i (Ut ps) rfl (fun h'=>?_) (fun h'=>?_)
 ·obtain⟨x,hx,hm⟩:=sA1 h';have hxo:JJ 3 10000000 x=true:=Jum.1 h2 x hm;refine JtY i (mA1 (f:=fun x=> .s (dL x)) hx) rfl rfl rfl rfl ?_;refine JtE (JkH x a hxo h4) rfl rfl rfl ?_;refine JtJ (ds:=dL g) s rfl rfl rfl hs.1 hdS rfl ?_;refine JtJ (ds:=dL g) s rfl rfl rfl hs.1 hdS rfl ?_;refine JtE (JP (dot x a) (0-G) G) rfl ?_ rfl ?_
  ·show [dI (dot x a),dI (i64.wrap (0-G)),dI G]=_;rw[w64 (by omega) (by omega)]
  refine Jt1 (inB (dot x a) (0-G) G) rfl (fun hb=>JtA (Jt0 ?_)) (fun hb=>?_)
  ·show [dB false]=_;rw[Yi (p:=ZW G a) hx hb]
  ·refine JtK (vs:=[.i ((i+1:Nat):Int)]) ?_ ⟨h',rfl,QV (p:=ZW G a) hx hq hb⟩;show [V.i (i64.wrap ((i:Int)+1))]=_;rw[wS h' (by omega)]
 ·refine JtA (Jt0 ?_);rw[tA1 h'] at hq;show [dB true]=_;rw[hq]
/- What the program's treaties come to. -/
theorem Yf (n a b:Int):Ev L f_k39 [dI n,dI a,dI b] [dB (inB n a b)]:=by
 refine Jt7 (vs:=[.i n,.i a,.i b]) L_k39 rfl ?_;refine Jty (a≤n) rfl (fun h=>Jt0 ?_) (fun h=>Jt0 ?_)
 ·show [dB (decide (n≤b))]=_;simp[inB,h]
 ·show [dB false]=_;simp[inB,h]
theorem Jfz (p:Int→Bool) (l:List Int) {fn:FuncId} {caps:List D} (hlen:l.length≤2000000) (hcap:Xu (.f fn caps) = .f fn caps) (har:arT L fn=some ([none]++caps.map fun _=>none))
  (hc :∀x∈l,Ev L fn ([dI x]++caps.map D.norm) [dB (p x)]):Ev L f_k3d [.s (dL l),.f fn caps] [dI (Zu p l)] :=
 YY (sh:= .one (.i .i64)) (as:=[(.vi .i64 (.v 3))]) (ar:=[none]) (k:=4) dI p (fun x=>[dI x]) (fun x=>[.i x]) l L_k3d rfl hlen hcap (fun _ _=>rfl) (fun _ _=>rfl) (fun _ _ _ _=>rfl) har hc
theorem Jbz (p:Int→Bool) (l:List Int) {fn:FuncId} {caps:List D} (hlen:l.length≤2000000) (hcap:Xu (.f fn caps) = .f fn caps) (har:arT L fn=some ([none]++caps.map fun _=>none))
  (hc :∀x∈l,Ev L fn ([dI x]++caps.map D.norm) [dB (p x)]):Ev L f_k3e [.s (dL l),.f fn caps] [dB (l.any p)] :=
 Zl (g:=f_k3d) L_k3e rfl hcap (Jfz p l hlen hcap har hc)
theorem JeF (p:List Int→Bool) (l:List (List Int)) {fn:FuncId} {caps:List D} (hlen:l.length≤2000000) (hcap:Xu (.f fn caps) = .f fn caps) (har:arT L fn=some ([none]++caps.map fun _=>none))
  (hc :∀x∈l,Ev L fn ([.s (dL x)]++caps.map D.norm) [dB (p x)]):Ev L f_k4d [.s (dLL l),.f fn caps] [dI (Zu p l)] :=
 YY (sh:= .one .s) (as:=[(.s (.v 3))]) (ar:=[none]) (k:=4) (fun x=> .s (dL x)) p (fun x=>[.s (dL x)]) (fun x=>[.l (dL x)]) l L_k4d rfl hlen hcap (fun _ _=>rfl) (fun _ _=>rfl) (fun _ _ _ _=>rfl) har hc
theorem Jec (p:List Int→Bool) (l:List (List Int)) {fn:FuncId} {caps:List D} (hlen:l.length≤2000000) (hcap:Xu (.f fn caps) = .f fn caps) (har:arT L fn=some ([none]++caps.map fun _=>none))
  (hc :∀x∈l,Ev L fn ([.s (dL x)]++caps.map D.norm) [dB (p x)]):Ev L f_k4o [.s (dLL l),.f fn caps] [dB (l.any p)] :=
 Zl (g:=f_k4d) L_k4o rfl hcap (JeF p l hlen hcap har hc)
theorem Ue {α:Type} (p:α→Bool) (l:List α):(!(l.any fun x=>!p x))=l.all p:=by
 induction l with
 | nil=>rfl
 | cons x l ih=>simp[ih]
theorem JhL (x m:Int) (h0:0≤m) (hm:m≤10000000000000):Ev L f_k3c [dI x,.q [dI m]] [dB (!inB x (0-m) m)]:=by
 refine Jt7 (vs:=[.i x,.d (.q [dI m])]) L_k3c rfl ?_;refine JtI (vs:=[.i m]) rfl rfl ?_;refine JtI (vs:=[.i m]) rfl rfl ?_;refine JtE (Yf x (0-m) m) rfl ?_ rfl (Jt0 rfl);show [dI x,dI (i64.wrap (0-m)),dI m]=_;rw[w64 (by omega) (by omega)]
theorem Xw (l:List Int) (n m:Int) (hl:l.length≤2000000) (h0:0≤m) (hm:m≤10000000000000):Ev L f_k3f [.s (dL l),dI n,dI m] [dB (JJ n m l)]:=by
 refine Jt7 (vs:=[.l (dL l),.i n,.i m]) L_k3f rfl ?_;refine Jty ((l.length:Int)=n) ?_ (fun h=>?_) (fun h=>Jt0 ?_)
 ·show decide (((dL l).length:Int)=n)=_;rw[dL1]
 ·refine JtE (Jbz (fun x=>!inB x (0-m) m) l (fn:=f_k3c) (caps:=[.q [dI m]]) hl rfl rfl fun x _=>JhL x m h0 hm) rfl rfl rfl (Jt0 ?_);show [dB (!(l.any fun x=>!inB x (0-m) m))]=_;rw[Ue];simp[JJ,h]
 ·show [dB false]=_;simp[JJ,h]
theorem JiJ (l:List Int) (hl:l.length≤2000000):Ev L f_k3p [.s (dL l)] [dB (JY l)] :=
 Jt7 (vs:=[.l (dL l)]) L_k3p rfl (JtE (Xw l 3 10000 hl (by omega) (by omega)) rfl rfl rfl (Jt0 rfl))
theorem JjY (x:Int):Ev L f_k3o [dI x] [dB (!inB x 0 50)] :=
 Jt7 (vs:=[.i x]) L_k3o rfl (JtE (Yf x 0 50) rfl rfl rfl (Jt0 rfl))
theorem JiZ (b g:List Int) (hb:b.length≤2000000) (hg:g.length≤2000000):Ev L f_k3q [.s (dL b),.s (dL g)] [dB (Qr b g)]:=by
 refine Jt7 (vs:=[.l (dL b),.l (dL g)]) L_k3q rfl ?_;refine JtE (JiJ b hb) rfl rfl rfl ?_;refine JtG (JY b) rfl (fun h=>?_) (fun h=>Jt0 ?_)
 ·refine JtE (Yf g.length 1 3) rfl ?_ rfl ?_
  ·show [dI ((dL g).length:Int),dI 1,dI 3]=_;rw[dL1]
  refine JtG (inB g.length 1 3) rfl (fun h2=>?_) (fun h2=>Jt0 ?_)
  ·refine JtE (Jbz (fun x=>!inB x 0 50) g (fn:=f_k3o) (caps:=[]) hg rfl rfl fun x _=>JjY x) rfl rfl rfl (Jt0 ?_);show [dB (!(g.any fun x=>!inB x 0 50))]=_;rw[Ue];simp[Qr,h,h2]
  ·show [dB false]=_;simp[Qr,h2]
 ·show [dB false]=_;simp[Qr,h]
theorem Jg1 (p:List Int) (hp:p.length≤2000000):Ev L f_k4p [.s (dL p)] [dB (!JJ 3 10000000 p)] :=
 Jt7 (vs:=[.l (dL p)]) L_k4p rfl (JtE (Xw p 3 10000000 hp (by omega) (by omega)) rfl rfl rfl (Jt0 rfl))
theorem Jj0 (ps:List (List Int)) (hp:fitLL ps):Ev L f_k4q [.s (dLL ps)] [dB (QL ps)]:=by
 refine Jt7 (vs:=[.l (dLL ps)]) L_k4q rfl ?_;refine JtE (Jec (fun p=>!JJ 3 10000000 p) ps (fn:=f_k4p) (caps:=[]) hp.1 rfl rfl fun p h=>Jg1 p (hp.2 p h)) rfl rfl rfl (Jt0 ?_);show [dB (!(ps.any fun p=>!JJ 3 10000000 p))]=_;rw[Ue];rfl
theorem Jdu (a:List Int) (ha:a.length≤2000000):Ev L f_k4r [.s (dL a)] [dB (QE a)] :=
 Jt7 (vs:=[.l (dL a)]) L_k4r rfl (JtE (Xw a 3 20000 ha (by omega) (by omega)) rfl rfl rfl (Jt0 rfl))
def J9 (b g:List Int) (ps:List (List Int)) (s:Int) (a:List Int):Bool:=Qr b g&&QL ps&&inB s 0 (g.length-1)&&QE a
theorem UJ (b g:List Int) (ps:List (List Int)) (s:Int) (a:List Int) (hb:b.length≤2000000) (hg:g.length≤2000000) (hp:fitLL ps) (ha:a.length≤2000000) :
  Ev L f_k4s [.s (dL b),.s (dL g),.s (dLL ps),dI s,.s (dL a)] [dB (J9 b g ps s a)]:=by
 refine Jt7 (vs:=[.l (dL b),.l (dL g),.l (dLL ps),.i s,.l (dL a)]) L_k4s rfl ?_;refine JtE (JiZ b g hb hg) rfl rfl rfl ?_;refine JtG (Qr b g) rfl (fun h=>?_) (fun h=>Jt0 ?_)
 ·refine JtE (Jj0 ps hp) rfl rfl rfl ?_;refine JtG (QL ps) rfl (fun h2=>?_) (fun h2=>Jt0 ?_)
  ·refine JtE (Yf s 0 (g.length-1)) rfl ?_ rfl ?_
   ·show [dI s,dI 0,dI (i64.wrap (((dL g).length:Int)-1))]=_;rw[dL1,w64 (by omega) (by omega)]
   refine JtG (inB s 0 (g.length-1)) rfl (fun h3=>?_) (fun h3=>Jt0 ?_)
   ·refine JtE (Jdu a ha) rfl rfl rfl (Jt0 ?_);show [dB (QE a)]=_;simp[J9,h,h2,h3]
   ·show [dB false]=_;simp[J9,h3]
  ·show [dB false]=_;simp[J9,h2]
 ·show [dB false]=_;simp[J9,h]
theorem JqT (p a:List Int) (hp:Lim 100000000 p) (ha:Lim 1000000 a) (hl:p.length=a.length) (h9:p.length≤999):Ev L f_k4t [.s (dL p),.s (dL a)] [dI (dot p a)]:=by
 refine Jt7 (vs:=[.l (dL p),.l (dL a)]) L_k4t rfl ?_;refine Jtt p.length (fun i=>[.i (dot (p.take i) (a.take i)),.i i]) (fun _=>True) rfl rfl trivial fun i hi _=>?_;refine JtT i (dL1 p) rfl (fun h=>?_) (fun h=>?_)
 ·obtain⟨x,hx,_⟩:=sA1 (show i<p.length by omega);obtain⟨y,hy,_⟩:=sA1 (show i<a.length by omega);refine JtY i (mA1 (f:=dI) hx) rfl rfl rfl rfl ?_;refine JtY i (mA1 (f:=dI) hy) rfl rfl rfl rfl ?_;refine JtK (vs:=[.i (dot (p.take (i+1)) (a.take (i+1))),.i ((i+1:Nat):Int)]) ?_ ⟨h,rfl,trivial⟩;show [V.i (i64.wrap (dot (p.take i) (a.take i)+i64.wrap (x*y))),V.i (i64.wrap ((i:Int)+1))]=_;rw[wS h (by omega),Jik hx hy hp ha (by omega)]
 ·refine JtA (Jt0 ?_);show [dI (dot (p.take i) (a.take i))]=_;rw[tA1 h,tA1 (by omega)]
theorem JeN (p a:List Int) (G:Int) (hp:JJ 3 10000000 p=true) (ha:QE a=true) (h0:0≤G) (h5:G≤50):Ev L f_k4u [.s (dL p),.q [.s (dL a)],.q [dI G]] [dB (!ZW G a p)]:=by
 obtain⟨p1,p2⟩:=Jo.1 hp;obtain⟨a1,a2⟩:=Jo.1 ha;refine Jt7 (vs:=[.l (dL p),.d (.q [.s (dL a)]),.d (.q [dI G])]) L_k4u rfl ?_;refine JtI (vs:=[.l (dL a)]) rfl rfl ?_;refine JtE (JqT p a (Lim.mono (m:=10000000) p2 (by omega)) (Lim.mono (m:=20000) a2 (by omega)) (by omega) (by omega)) rfl rfl rfl ?_;refine JtI (vs:=[.i G]) rfl rfl ?_;refine JtI (vs:=[.i G]) rfl rfl ?_;refine JtE (Yf (dot p a) (0-G) G) rfl ?_ rfl (Jt0 rfl);show [dI (dot p a),dI (i64.wrap (0-G)),dI G]=_;rw[w64 (by omega) (by omega)]
theorem JiY {b g:List Int} {ps:List (List Int)} {s:Int} {a:List Int} (h:J9 b g ps s a=true) :
  Qr b g=true∧QL ps=true∧0≤s∧s<g.length∧QE a=true∧g[s.toNat]? = some (g.getD s.toNat 0)∧0≤g.getD s.toNat 0∧g.getD s.toNat 0≤50:=by
 simp only[J9,Jt9,Jr] at h;obtain⟨⟨⟨h1,h2⟩,h3⟩,h4⟩:=h;have hsg:s.toNat<g.length:=by omega
 have hgm:=XC (p:=fun x=>0≤x∧x≤50) (l:=g) (by
  intro x hx;simp only[Qr,Jt9,Jum] at h1;exact Jr.1 (h1.2 x hx)) hsg
 exact⟨h1,h2,h3.1,by omega,h4,Ja4 hsg,hgm⟩
theorem JkD (b g:List Int) (ps:List (List Int)) (s:Int) (a:List Int):keeps b g ps s a=(J9 b g ps s a&&ps.all (ZW (g.getD s.toNat 0) a)):=rfl
theorem JbS (b g:List Int) (ps:List (List Int)) (s:Int) (a:List Int) (hb:b.length≤2000000) (hg:g.length≤2000000) (hp:fitLL ps) (ha:a.length≤2000000) :
  Ev L f_k4v [.s (dL b),.s (dL g),.s (dLL ps),dI s,.s (dL a)] [dB (keeps b g ps s a)]:=by
 refine Jt7 (vs:=[.l (dL b),.l (dL g),.l (dLL ps),.i s,.l (dL a)]) L_k4v rfl ?_;refine JtE (UJ b g ps s a hb hg hp ha) rfl rfl rfl ?_;rw[JkD];refine Jt1 (J9 b g ps s a) rfl (fun h=>Jt0 ?_) (fun h=>?_)
 ·show [dB false]=_;rw[h];rfl
 obtain⟨h1,h2,s0,s1,h4,hd,g0,g5⟩:=JiY h;generalize g.getD s.toNat 0=G at *;refine JtJ (ds:=dL g) s rfl rfl rfl s0 (mA1 (f:=dI) hd) rfl ?_;refine JtE (Jec (fun p=>!ZW G a p) ps (fn:=f_k4u) (caps:=[.q [.s (dL a)],.q [dI G]]) hp.1 rfl rfl fun p hm=>JeN p a G (Jum.1 h2 p hm) h4 g0 g5) rfl rfl rfl (Jt0 ?_);show [dB (!(ps.any fun p=>!ZW G a p))]=_;rw[Ue,h];rfl
/- All sites keep to a treaty just if each does: over residual programs. -/
theorem Ql.fitLL {n:Nat} {ps:List (List Int)} (h:Ql n ps) (hn:n≤2000000):fitLL ps:=⟨by have:=h.len;omega,fun p hp=>by rw[(h.each p hp).1];omega⟩
end Go.Proofs.YtngcnclchcahlaaGreatDoor

import Derived.Test.YtdmjmcegcpdenaaGreatDoorPG
import Derived.Test.YtdmjmcegcpdenaaGreatDoorTd
set_option linter.unusedVariables false
set_option linter.unusedSimpArgs false
/- What the reference's ways through an act come to. -/
namespace Go.Proofs.YtdmjmcegcpdenaaGreatDoor
open Go Go.Tm
theorem Jhk {l:List Frm} {i:Nat} (h:i<l.length):l.getD i Frm.none∈l∧l[i]? = some (l.getD i Frm.none):=by
 rw[List.getD_eq_getElem?_getD,List.getElem?_eq_getElem h]
 exact⟨List.getElem_mem h,rfl⟩
def Z6 (p:List Frm):List Frm:=[JR (p.getD 0 Frm.none) (Jz 0) (-1),JR (p.getD 1 Frm.none) (Jz 1) (-1),JR (p.getD 2 Frm.none) (Jz 2) (-1)]
theorem Jnv {p g t:List Frm} {M:Int} (hp:p.length=3) (sp :∀f∈p,Std M f) (hg:g.length≤2000000) (sg :∀f∈g,Std M f) (ht:t.length≤2000000) (st :∀f∈t,Std M f) (h0:1≤M) (hM:M≤1000000000) :
  Ev L f_k10 [.s (dF p),.s (dF g),.s (dF t)] (YY p g t).cells:=by
 refine Jtg (vs:=[.l (dF p),.l (dF g),.l (dF t)]) L_k10 rfl ?_
 refine Jtc (args:=[.s (dF g)]) rfl rfl (Yj hg sg (by omega) hM) rfl ?_
 refine Jtc (args:=[.s (dF t)]) rfl rfl (Yj ht st (by omega) hM) rfl ?_
 refine Jta (fun m vs=>∃ i:Nat,i≤3∧m=3-i∧vs=[.l (dF ((Z6 p).take i)),.i i]) rfl 3 ⟨0,by omega,rfl,rfl⟩ ?_
 rintro m _ ⟨i,hi,hm,rfl⟩
 refine JsI ((i:Int)<3) rfl (fun h=>?_) (fun h=>?_)
 ·obtain⟨x,hx,hd⟩:=Ja0 (l:=p) (i:=(i:Int)) (by omega) (by omega)
  have hsx:=sp x (List.mem_of_getElem? hx)
  refine Jtd (ds:=dF p) i rfl rfl rfl (by omega) hd rfl ?_
  refine Jtc (args:=[dI i]) rfl rfl (Zv i (by omega) (by omega)) rfl ?_
  rw[Int.toNat_natCast] at hx
  refine Jtc (args:=x.cells++(Jz (i:Int).toNat).cells++[dI (-1)]) rfl rfl (UC hsx (QZ.mono h0) hM (by omega)) rfl ?_
  have hn:(Z6 p)[i]? = some (JR x (Jz (i:Int).toNat) (-1)):=by
   have e:p.getD i Frm.none=x:=by rw[List.getD_eq_getElem?_getD,hx];rfl
   subst e
   rw[Int.toNat_natCast]
   match i,h with
   | 0,_=>rfl
   | 1,_=>rfl
   | 2,_=>rfl
   | n+3,h=>omega
  refine Js5 (dF ((Z6 p).take i)++[(JR x (Jz (i:Int).toNat) (-1)).g]) rfl (by rw[Xc,JZ];simp;omega) ?_
  refine Js3 (vs:=[.l (dF ((Z6 p).take (i+1))),.i ((i+1:Nat):Int)]) ?_ ⟨m-1,by omega,i+1,by omega,by omega,rfl⟩
  show [V.l (dF ((Z6 p).take i)++[(JR x (Jz (i:Int).toNat) (-1)).g]),V.i (IntKind.i64.wrap ((i:Int)+1))]=_
  rw[Xc,tS1 hn,w64 (by omega) (by omega)];rfl
 ·refine JsS (JsN ?_)
  have hi3:i=3:=by omega
  subst hi3;rfl
structure Qu (act:List Jg):Prop where
 len:act.length≤6
 ok :∀l∈act,l.ok=true
theorem Jd9 {act:List Jg} (h:Qk act=true):Qu act:=by
 simp only[Qk,Bool.and_eq_true,decide_eq_true_eq,List.all_eq_true] at h
 exact⟨by omega,h.1.1⟩
theorem Jhz {l:Jg} (h:l.ok=true) (h4 : ¬l.kind=4):l.f.small=true:=by
 unfold Jg.ok at h
 split at h
 ·simp only[Bool.and_eq_true] at h;exact h.2
 split at h
 ·simp only[Bool.and_eq_true] at h;exact h.2
 split at h
 ·simp only[Bool.and_eq_true] at h;exact h.2
 ·simp[h4] at h
theorem Jgp {l:Jg} (h:l.ok=true) (h2:l.kind=2):0≤l.pot∧l.pot≤2:=by
 unfold Jg.ok at h
 rw[if_neg (by omega),if_pos h2] at h
 simp only[Bool.and_eq_true,Jp] at h;exact h.1.1
theorem Jcu {l:Jg} (h:l.ok=true) (h1:l.kind=1):1≤l.skip∧l.skip≤6:=by
 unfold Jg.ok at h
 rw[if_pos h1] at h
 simp only[Bool.and_eq_true,Jp] at h;exact h.1.2
theorem Xt {α:Type} {l:List α} {i:Nat} {x:α} (h:l[i]? = some x):l.drop i=x::l.drop (i+1):=by
 obtain⟨h1,h2⟩:=List.getElem?_eq_some_iff.1 h
 rw[List.drop_eq_getElem_cons h1,h2]
theorem Kw {α:Type} {l:List α} {x:α} {p:α→Prop} (h :∀y∈l,p y) (hx:p x) :∀y∈l++[x],p y:=by
 intro y hy
 rcases List.mem_append.1 hy with hy | hy
 ·exact h y hy
 ·simp at hy;subst hy;exact hx
theorem Jlo (a b:List Row):Qb a++Qb b=Qb (a++b):=by simp[Qb]
set_option maxHeartbeats 4000000 in
theorem Jmv {act:List Jg} (hact:Qu act) :∀(n:Nat) (at_:Int) (p g t:List Frm) (j:Nat),0≤at_→at_≤20→act.length-at_.toNat=n→(j:Int)≤at_→j≤6 →
  p.length=3→(∀f∈p,Std (Bd j) f)→g.length≤j→(∀f∈g,Std 10000000 f)→t.length≤j→(∀f∈t,Std 10000000 f) →
  Ev L f_k11 [.s (Jk act),dI at_,.s (dF p),.s (dF g),.s (dF t)] [.s (Qb (walk (act.drop at_.toNat) p g t))]:=by
 intro n
 induction n using Nat.strongRecOn with
 | _ n ih =>
  intro at_ p g t j a0 a20 hn hj hj6 hp sp hg sg ht st
  have hal:=hact.len
  refine Jtg (vs:=[.l (Jk act),.i at_,.l (dF p),.l (dF g),.l (dF t)]) L_k11 rfl ?_
  refine Jta (fun m vs=>∃ (i:Int) (p' t':List Frm) (j':Nat),vs=[.l (dF p'),.l (dF t'),.i i]∧at_≤i∧i≤20∧m=act.length-i.toNat∧(j':Int)≤i∧j≤j'∧j'≤6∧p'.length=3∧(∀f∈p',Std (Bd j') f)∧t'.length≤j'∧(∀f∈t',Std 10000000 f) ∧
   walk (act.drop i.toNat) p' g t'=walk (act.drop at_.toNat) p g t) rfl (act.length-at_.toNat) ⟨at_,p,t,j,rfl,by omega,a20,rfl,hj,by omega,hj6,hp,sp,ht,st,rfl⟩ ?_
  rintro m _ ⟨i,p',t',j',rfl,ai,i20,hm,hj',hjj,hj6',hp',sp',ht',st',hw⟩
  have hB:=Jhl hj6'
  have hB0:=YU j'
  refine JsI (i<((Jk act).length:Int)) rfl (fun hi=>?_) (fun hi=>?_)
  ·rw[JJ] at hi
   obtain⟨l,hl,hd⟩:=UZ (a:=act) (i:=i) (by omega) hi
   have hok:=hact.ok l (List.mem_of_getElem? hl)
   have hdr:=Xt hl
   have hs1:(i+1).toNat=i.toNat+1:=by omega
   refine Jtd (ds:=Jk act) i rfl rfl rfl (by omega) hd rfl ?_
   refine JsI (l.kind=4) rfl (fun h4=>?_) (fun h4=>?_)
   ·refine Jtc (args:=[.s (dF g)]) rfl rfl (Yj (by omega) sg (by omega) (by omega)) rfl ?_
    refine JsS (JsN ?_)
    show [D.s [D.g [.s (dF g),.s [],.s [],dB true]]]=_
    rw[←hw,hdr,walk,if_pos h4];rfl
   have hsm:=Jhz hok h4
   have hin:=U8 hsm hp' sp' hB0
   have hin7:Std 10000000 (Jr l.f p'):=hin.mono (by omega)
   refine Jtc (args:=l.f.cells++[.s (dF p')]) rfl rfl (Jjh hsm hp' sp' hB0 (by omega)) rfl ?_
   have hj5:j'<6:=by omega
   refine JsI (l.kind=1) rfl (fun h1=>?_) (fun h1=>?_)
   ·have hsk:=Jcu hok h1
    have hg':(g++[Jr l.f p']).length≤j'+1:=by simp;omega
    have hg2:(g++[QO (Jr l.f p')]).length≤j'+1:=by simp;omega
    have hmin:Std 10000000 (QO (Jr l.f p')):=(Wz hin).mono (by omega)
    have spB :∀f∈p',Std (Bd (j'+1)) f:=fun f hf=>(sp' f hf).mono (Km (by omega))
    have cp:=Yj (by omega:p'.length≤2000000) sp' hB0 (by omega)
    have cg:=Yj (by omega:g.length≤2000000) sg (by omega) (by omega)
    have ct:=Yj (by omega:t'.length≤2000000) st' (by omega) (by omega)
    refine Jtc (args:=[.s (dF p')]) rfl rfl cp rfl ?_
    refine Jtc (args:=[.s (dF g)]) rfl rfl cg rfl ?_
    refine Js5 (dF g++[(Jr l.f p').g]) rfl (by rw[Xc,JZ];omega) ?_
    refine Jtc (args:=[.s (dF t')]) rfl rfl ct rfl ?_
    have e1:=ih (act.length-(i+1).toNat) (by omega) (i+1) p' (g++[Jr l.f p']) t' (j'+1) (by omega) (by omega) rfl (by omega) (by omega) hp' spB hg' (Kw sg hin7) (by omega) st'
    refine Jtc (args:=[.s (Jk act),dI (i+1),.s (dF p'),.s (dF (g++[Jr l.f p'])),.s (dF t')]) rfl ?_ e1 rfl ?_
    ·show [D.s (Jk act),dI (IntKind.i64.wrap (i+1)),.s (dF p'),.s (dF g++[(Jr l.f p').g]),.s (dF t')]=_
     rw[Xc,w64 (by omega) (by omega)]
    refine Jtc (args:=[.s (dF p')]) rfl rfl cp rfl ?_
    refine Jtc (args:=[.s (dF g)]) rfl rfl cg rfl ?_
    refine Jtc (args:=(Jr l.f p').cells) rfl rfl (Jj4 hin7 (by omega) (by omega)) rfl ?_
    refine Js5 (dF g++[(QO (Jr l.f p')).g]) rfl (by rw[Xc,JZ];omega) ?_
    refine Jtc (args:=[.s (dF t')]) rfl rfl ct rfl ?_
    have e2:=ih (act.length-(i+1+l.skip).toNat) (by omega) (i+1+l.skip) p' (g++[QO (Jr l.f p')]) t' (j'+1) (by omega) (by omega) rfl (by omega) (by omega) hp' spB hg2 (Kw sg hmin) (by omega) st'
    refine Jtc (args:=[.s (Jk act),dI (i+1+l.skip),.s (dF p'),.s (dF (g++[QO (Jr l.f p')])),.s (dF t')]) rfl ?_ e2 rfl ?_
    ·show [D.s (Jk act),dI (IntKind.i64.wrap (IntKind.i64.wrap (i+1)+l.skip)),.s (dF p'),.s (dF g++[(QO (Jr l.f p')).g]),.s (dF t')]=_
     rw[Xc,w64 (n:=i+1) (by omega) (by omega),w64 (by omega) (by omega)]
    have wl :∀(k:Nat) (a b c:List Frm),(walk (act.drop k) a b c).length≤64:=fun k a b c=>by
     refine Nat.le_trans (JiG _ _ _ _) ?_
     exact Nat.le_trans (Nat.pow_le_pow_right (by omega) (show (act.drop k).length≤6 by simp;omega)) (by decide)
    have w1:=wl (i+1).toNat p' (g++[Jr l.f p']) t'
    have w2:=wl (i+1+l.skip).toNat p' (g++[QO (Jr l.f p')]) t'
    refine Js5 (Qb (walk (act.drop (i+1+l.skip).toNat) p' (g++[QO (Jr l.f p')]) t')) rfl (by rw[XR];omega) ?_
    refine JsU (Jml _) ?_
    refine Js5 (Qb (walk (act.drop (i+1).toNat) p' (g++[Jr l.f p']) t')++Qb (walk (act.drop (i+1+l.skip).toNat) p' (g++[QO (Jr l.f p')]) t')) rfl (by rw[List.length_append,XR,XR];omega) ?_
    refine JsS (JsN ?_)
    show [D.s (Qb (walk (act.drop (i+1).toNat) p' (g++[Jr l.f p']) t')++Qb (walk (act.drop (i+1+l.skip).toNat) p' (g++[QO (Jr l.f p')]) t'))]=_
    rw[Jlo,←hw,hdr,walk,if_neg h4,if_pos h1,List.drop_drop,hs1,show i.toNat+1+l.skip.toNat=(i+1+l.skip).toNat by omega]
   refine JsI (l.kind=2) rfl (fun h2=>?_) (fun h2=>?_)
   ·have hpt:=Jgp hok h2
    have hlt:l.pot.toNat<p'.length:=by omega
    obtain⟨hm1,hm2⟩:=Jhk hlt
    have hdg:(dF p')[l.pot.toNat]? = some (p'.getD l.pot.toNat Frm.none).g:=mA1 (f:=Frm.g) hm2
    refine Jtc (args:=[.s (dF p')]) rfl rfl (Yj (by omega) sp' hB0 (by omega)) rfl ?_
    refine Js4 (0≤l.pot) rfl hpt.1 ?_
    refine Js4 (l.pot<((dF p').length:Int)) rfl (by rw[JZ];omega) ?_
    refine Jtd (ds:=dF p') l.pot rfl rfl rfl hpt.1 hdg rfl ?_
    refine Jtc (args:=(p'.getD l.pot.toNat Frm.none).cells++(Jr l.f p').cells++[dI 1]) rfl rfl (UC ((sp' _ hm1).mono (by omega)) hin7 (by omega) (by omega)) rfl ?_
    refine Js4 (0≤l.pot) rfl hpt.1 ?_
    refine Js4 (l.pot<((dF p').length:Int)) rfl (by rw[JZ];omega) ?_
    refine Jtd (ds:=dF p') l.pot rfl rfl rfl hpt.1 hdg rfl ?_
    have hsum:Std (Bd (j'+1)) (JR (p'.getD l.pot.toNat Frm.none) (Jr l.f p') 1):=(QN (sp' _ hm1) hin (n:=1) (N:=1) (by omega)).mono (by simp only[Bd];omega)
    refine Js3 (vs:=[.l (dF (p'.set l.pot.toNat (JR (p'.getD l.pot.toNat Frm.none) (Jr l.f p') 1))),.l (dF t'),.i (i+1)]) ?_
     ⟨act.length-(i+1).toNat,by omega,i+1,p'.set l.pot.toNat (JR (p'.getD l.pot.toNat Frm.none) (Jr l.f p') 1),t',j'+1,rfl,by omega,by omega,rfl,by omega,by omega,by omega,by simp[hp'],?_,by omega,st',?_⟩
    ·show [V.l ((dF p').set l.pot.toNat (JR (p'.getD l.pot.toNat Frm.none) (Jr l.f p') 1).g),V.l (dF t'),V.i (IntKind.i64.wrap (i+1))]=_
     rw[w64 (by omega) (by omega)]
     simp[dF,List.map_set]
    ·intro f hf
     rcases List.mem_or_eq_of_mem_set hf with hf | hf
     ·exact(sp' f hf).mono (Km (by omega))
     ·subst hf;exact hsum
    ·rw[←hw,hdr,hs1];conv=>rhs;rw[walk]
     rw[if_neg h4,if_neg h1,if_pos h2]
   ·refine Jtc (args:=[.s (dF t')]) rfl rfl (Yj (by omega) st' (by omega) (by omega)) rfl ?_
    refine Js5 (dF t'++[(Jr l.f p').g]) rfl (by rw[Xc,JZ,List.length_append,List.length_singleton];omega) ?_
    refine Js3 (vs:=[.l (dF p'),.l (dF (t'++[Jr l.f p'])),.i (i+1)]) ?_
     ⟨act.length-(i+1).toNat,by omega,i+1,p',t'++[Jr l.f p'],j'+1,rfl,by omega,by omega,rfl,by omega,by omega,by omega,hp',fun f hf=>(sp' f hf).mono (Km (by omega)),by simp;omega,Kw st' hin7,?_⟩
    ·show [V.l (dF p'),V.l (dF t'++[(Jr l.f p').g]),V.i (IntKind.i64.wrap (i+1))]=_
     rw[Xc,w64 (by omega) (by omega)]
    ·rw[←hw,hdr,hs1];conv=>rhs;rw[walk]
     rw[if_neg h4,if_neg h1,if_neg h2]
  ·rw[JJ] at hi
   refine JsS ?_
   refine Jtc (args:=[.s (dF p'),.s (dF g),.s (dF t')]) rfl rfl (Jnv (M:=10000000) hp' (fun f hf=>(sp' f hf).mono (by omega)) (by omega) sg (by omega) st' (by omega) (by omega)) rfl ?_
   refine JsN ?_
   show [D.s [(YY p' g t').g]]=_
   rw[←hw,List.drop_eq_nil_of_le (by omega),walk];rfl
theorem Jfn (act:List Jg) (hf:Kp act):Ev L f_k12 [.s (Jk act)] [.s (Qb (Js act))]:=by
 refine Jtg (vs:=[.l (Jk act)]) L_k12 rfl ?_
 refine Jtc (args:=[.s (Jk act)]) rfl rfl (WT act hf) rfl ?_
 refine JsI (Qk act=false) ?_ (fun h=>JsN ?_) (fun h=>?_)
 ·show (!(Qk act))=_
  cases Qk act <;> rfl
 ·show [D.s []]=_
  simp[Js,h,Qb]
 have h:Qk act=true:=by simpa using h
 refine Jtc (args:=[dI 0]) rfl rfl (Zv 0 (by omega) (by omega)) rfl ?_
 refine Jtc (args:=[dI 1]) rfl rfl (Zv 1 (by omega) (by omega)) rfl ?_
 refine Jtc (args:=[dI 2]) rfl rfl (Zv 2 (by omega) (by omega)) rfl ?_
 have e:=Jmv (Jd9 h) act.length 0 [Jz 0,Jz 1,Jz 2] [] [] 0 (by omega) (by omega) (by simp) (by omega) (by omega) rfl (by
  intro f hf'
  simp at hf'
  rcases hf' with rfl | rfl | rfl <;> exact QZ) (by simp) (by simp) (by simp) (by simp)
 refine Jtc (args:=[.s (Jk act),dI 0,.s (dF [Jz 0,Jz 1,Jz 2]),.s (dF []),.s (dF [])]) rfl rfl e rfl ?_
 refine JsN ?_
 show [D.s (Qb (walk (act.drop (0:Int).toNat) [Jz 0,Jz 1,Jz 2] [] []))]=_
 simp[Js,h]
/- What the reference's parts,pins,and draws of them come to. -/
def X9 (as:List (List Jg)):Prop:=as.length≤2000000∧∀a∈as,Kp a
theorem Jgy.fit {as:List (List Jg)} (h:Jgy as):X9 as:=⟨by have:=h.1;omega,fun a ha=>(h.2 a ha).fit⟩
theorem JnU (as:List (List Jg)) (hf:X9 as):Ev L f_kf [.s (Jd as)] [dB (Qj as)]:=by
 have hl:=hf.1
 refine Jtg (vs:=[.l (Jd as)]) L_kf rfl ?_
 refine JsZ (JL as.length 1 4) rfl ?_ rfl ?_
 ·show [dI ((Jd as).length:Int),dI 1,dI 4]=_
  rw[JM]
 refine Jte (inB as.length 1 4) rfl (fun h=>JsN ?_) (fun h=>?_)
 ·show [dB false]=_
  simp[Qj,h]
 refine Js2 as.length (fun i=>[.i i]) (fun i=>(as.take i).all Qk=true) rfl rfl (by simp) fun i hi hp=>?_
 refine JsY i (JM as) rfl (fun h'=>?_) (fun h'=>?_)
 ·obtain⟨x,hx,hm⟩:=sA1 h'
  refine Js9 i (mA1 (f:=fun a=> .s (Jk a)) hx) rfl rfl rfl rfl ?_
  refine JsZ (WT x (hf.2 x hm)) rfl rfl rfl ?_
  refine Jte (Qk x) rfl (fun hb=>JsS (JsN ?_)) (fun hb=>?_)
  ·show [dB false]=_
   simp[Qj,X7 hx hb]
  ·refine Js3 (vs:=[.i ((i+1:Nat):Int)]) ?_ ⟨h',rfl,QM hx hp hb⟩
   show [V.i (IntKind.i64.wrap ((i:Int)+1))]=_
   rw[wS h' (by omega)]
 ·refine JsS (JsN ?_)
  rw[tA1 h'] at hp
  show [dB true]=_
  simp only[Qj,h,hp];simp
theorem Jcz (f:Frm) (hl:Lim 1000000000 f.c) (hn:f.c.length≤2000000):Ev L f_k14 f.cells [.s (dL (Jl f.c))]:=by
 refine Jtg (vs:=[.l (dL f.c),.l (dL f.d),.i f.k]) L_k14 rfl ?_
 refine Js2 f.c.length (fun i=>[.l (dL (Jl (f.c.take i))),.i (YL (f.c.take i)),.i i]) (fun _=>True) rfl rfl trivial fun i hi _=>?_
 refine JsY i (dL1 f.c) rfl (fun h=>?_) (fun h=>?_)
 ·obtain⟨x,hx,hm⟩:=sA1 h
  have hd:=mA1 (f:=dI) hx
  have hxl:=hl x hm
  have hs:=JiA (f.c.take i) x
  have hps:=Jmp (f.c.take i) x
  rw[←tS1 hx] at hs hps
  have hlen:(Jl (f.c.take i)).length≤i:=by rw[U2];simp;omega
  have hin:=JgH (f.c.take i)
  have fin :∀(s:Int) (l:List V),s=YL (f.c.take (i+1))→[V.l (dL (Jl (f.c.take i))++[dI (IntKind.i64.wrap (s*x))]),V.i s,V.i (IntKind.i64.wrap ((i:Int)+1))]=[V.l (dL (Jl (f.c.take (i+1)))),.i (YL (f.c.take (i+1))),.i ((i+1:Nat):Int)]:=by
   intro s _ e
   subst e
   rw[wS h (by omega),hps,w64,Xd]
   ·rcases JgH (f.c.take (i+1)) with e | e | e <;> rw[e] <;> omega
   ·rcases JgH (f.c.take (i+1)) with e | e | e <;> rw[e] <;> omega
  generalize hS:YL (f.c.take i)=S at *
  refine JsI (S=0) rfl (fun h0=>?_) (fun h0=>?_)
  ·subst h0
   simp only[if_true] at hs
   refine Js9 i hd rfl rfl rfl rfl ?_
   refine JsI (0<x) rfl (fun h1=>?_) (fun h1=>?_)
   ·refine Js9 i hd rfl rfl rfl rfl ?_
    refine JsX (dL (Jl (f.c.take i))) 2000000 (by rw[dL1];omega) (by omega) rfl ?_
    rw[if_pos h1] at hs
    exact Js3 (fin 1 [] hs.symm) ⟨h,rfl,trivial⟩
   ·refine JsI ((0:Int)=0) rfl (fun _=>?_) (fun h=>absurd rfl h)
    refine Js9 i hd rfl rfl rfl rfl ?_
    refine JsI (x<0) rfl (fun h2=>?_) (fun h2=>?_)
    ·refine Js9 i hd rfl rfl rfl rfl ?_
     refine JsX (dL (Jl (f.c.take i))) 2000000 (by rw[dL1];omega) (by omega) rfl ?_
     rw[if_neg h1,if_pos h2] at hs
     exact Js3 (fin (-1) [] hs.symm) ⟨h,rfl,trivial⟩
    ·refine Js9 i hd rfl rfl rfl rfl ?_
     refine JsX (dL (Jl (f.c.take i))) 2000000 (by rw[dL1];omega) (by omega) rfl ?_
     rw[if_neg h1,if_neg h2] at hs
     exact Js3 (fin 0 [] hs.symm) ⟨h,rfl,trivial⟩
  ·rw[if_neg h0] at hs
   refine JsI (S=0) rfl (fun h=>absurd h h0) (fun _=>?_)
   refine Js9 i hd rfl rfl rfl rfl ?_
   refine JsX (dL (Jl (f.c.take i))) 2000000 (by rw[dL1];omega) (by omega) rfl ?_
   exact Js3 (fin S [] hs.symm) ⟨h,rfl,trivial⟩
 ·refine JsS (JsN ?_)
  show [D.s (dL (Jl (f.c.take i)))]=_
  rw[tA1 h]
def Jq7 (cmp : E) (sh : Sh) : R :=
  .ite (.not (.cmp .eq (.len (.v 0)) (.len (.v 1))))
   (
    .done [(.vb .ff)])
   (
    .loop 2 [(.z 0)] <|
      .ite (.cmp .lt (.v 2) (.len (.v 0)))
       (
        .i (.idx (.v 0) (.v 2) sh 3) <|
        .i (.idx (.v 1) (.v 2) sh 4) <|
        .ite (.not cmp)
         (
          .esc <|
          .done [(.vb .ff)])
         (
          .next [(.bin .add .i64 (.v 2) (.z 1))]))
       (
        .esc <|
        .done [(.vb .tt)]))
theorem JfV {α:Type} [DecidableEq α] {f:FuncId} {H:ZU} {s:Sig} {cmp:E} {sh:Sh} (enc:α→D) (vOf:α→V) (a b:List α) (hf:L.lookup f=some ⟨s,.r H (Jq7 cmp sh)⟩) (hs:Vu s=[.s,.s])
  (hb :∀x,Ks sh (enc x)=some [vOf x]) (hc :∀(v0 v1 v2:V) (x y:α),bol (Jm [v0,v1,v2,vOf x,vOf y]) cmp=decide (x=y)) (hl:a.length≤2000000) :
  Ev L f [.s (a.map enc),.s (b.map enc)] [dB (decide (a=b))]:=by
 refine Jtg (vs:=[.l (a.map enc),.l (b.map enc)]) hf (by rw[hs];rfl) ?_
 refine JsI (¬a.length=b.length) ?_ (fun h=>JsN ?_) (fun h=>?_)
 ·show (!(decide (((a.map enc).length:Int)=((b.map enc).length:Int))))=_
  rw[List.length_map,List.length_map]
  by_cases h:a.length=b.length
  ·simp[h]
  ·simp[h,show ¬(a.length:Int)=b.length by omega]
 ·show [dB false]=_
  rw[decide_eq_false]
  intro e;exact h (by rw[e])
 have h:a.length=b.length:=Classical.not_not.1 h
 refine Js2 a.length (fun i=>[.i i]) (fun i=>a.take i=b.take i) rfl rfl rfl fun i hi hp=>?_
 refine JsY i (List.length_map (f:=enc) (as:=a)) rfl (fun h'=>?_) (fun h'=>?_)
 ·obtain⟨x,hx,_⟩:=sA1 h'
  obtain⟨y,hy,_⟩:=sA1 (show i<b.length by omega)
  refine Js9 i (mA1 (f:=enc) hx) rfl rfl rfl (hb x) ?_
  refine Js9 i (mA1 (f:=enc) hy) rfl rfl rfl (hb y) ?_
  refine Jte (decide (x=y)) ?_ (fun hxy=>JsS (JsN ?_)) (fun hxy=>?_)
  ·show (!(bol (Jm [V.l (a.map enc),.l (b.map enc),.i i,vOf x,vOf y]) cmp))=_
   rw[hc]
  ·show [dB false]=_
   rw[decide_eq_false]
   intro e
   subst e
   rw[hx] at hy
   simp only[Option.some.injEq] at hy
   simp[hy] at hxy
  ·have hxy:x=y:=by simpa using hxy
   subst hxy
   refine Js3 (vs:=[.i ((i+1:Nat):Int)]) ?_ ⟨h',rfl,by show a.take (i+1)=b.take (i+1);rw[tS1 hx,tS1 hy,hp]⟩
   show [V.i (IntKind.i64.wrap ((i:Int)+1))]=_
   rw[wS h' (by omega)]
 ·refine JsS (JsN ?_)
  rw[tA1 h',tA1 (by omega)] at hp
  subst hp
  show [dB true]=_
  simp
theorem JaY (a b:List Int) (hl:a.length≤2000000):Ev L f_k15 [.s (dL a),.s (dL b)] [dB (decide (a=b))] :=
 JfV dI .i a b L_k15 rfl (fun _=>rfl) (fun _ _ _ _ _=>rfl) hl
theorem Je0 (l:List (List Int)) (p:List Int) (hl:l.length≤2000000) (hq :∀q∈l,q.length≤2000000):Ev L f_k16 [.s (dLL l),.s (dL p)] [dI (KQ l p)]:=by
 refine Jtg (vs:=[.l (dLL l),.l (dL p)]) L_k16 rfl ?_
 refine Js2 l.length (fun i=>[.i i]) (fun i=>(l.take i).any (fun q=>decide (q=p))=false) rfl rfl (by simp) fun i hi hn=>?_
 refine JsY i (Uh l) rfl (fun h=>?_) (fun h=>?_)
 ·obtain⟨x,hx,hm⟩:=sA1 h
  refine Js9 i (mA1 (f:=fun x=> .s (dL x)) hx) rfl rfl rfl rfl ?_
  refine JsZ (JaY x p (hq x hm)) rfl rfl rfl ?_
  refine JsW (decide (x=p)) rfl (fun hp=>JsS (JsN ?_)) (fun hp=>?_)
  ·show [dI i]=_
   rw[KQ,JdZ hx hp hn]
  ·refine Js3 (vs:=[.i ((i+1:Nat):Int)]) ?_ ⟨h,rfl,Jdo hx hn hp⟩
   show [V.i (IntKind.i64.wrap ((i:Int)+1))]=_
   rw[wS h (by omega)]
 ·refine JsS (JsN ?_)
  rw[tA1 h] at hn
  show [dI (-1)]=_
  rw[KQ,JcU hn]
theorem Jpm (p:List Bool):XY 1 (dBl p)=true:=by cases p <;> rfl
theorem Jd0 (p:List Bool) (fs:List Frm) (hp:p.length=3) (hc :∀f∈fs,f.c.length=3) (hl:fs.length≤2000000):Ev L f_k13 [.s (dBl p),.s (dF fs)] [.s (dBl (QJ p fs))]:=by
 refine Jtg (vs:=[.l (dBl p),.l (dF fs)]) L_k13 rfl ?_
 refine Js6 (dBl p) 3 (by rw[Jgc];omega) (by omega) rfl ?_
 refine JsU (Jpm p) ?_
 refine Js6 (dBl p) 3 (by rw[Jgc];omega) (by omega) rfl ?_
 refine Js2 fs.length (fun i=>[.l (dBl (QJ p (fs.take i))),.i i]) (fun _=>True) rfl rfl trivial fun i hi _=>?_
 refine JsY i (JZ fs) rfl (fun h=>?_) (fun h=>?_)
 ·obtain⟨x,hx,hm⟩:=sA1 h
  have hx3:=hc x hm
  have hP:(QJ p (fs.take i)).length=3:=ZP hp fun f hf=>hc f (List.mem_of_mem_take hf)
  have hS:QJ p (fs.take (i+1))=Ur (QJ p (fs.take i)) x.c:=Xm hx
  generalize QJ p (fs.take i)=P at *
  have hO:(Ur P x.c).length=3:=by rw[Jab];omega
  refine Js2 3 (fun v=>[.l (dBl ((Ur P x.c).take v++P.drop v)),.i v]) (fun _=>True) rfl rfl trivial fun v hv _=>?_
  refine JsF v 3 rfl (fun hv3=>?_) (fun hv3=>?_)
  ·obtain⟨n,hn,_⟩:=sA1 (show v<x.c.length by omega)
   obtain⟨b,hb,_⟩:=sA1 (show v<P.length by omega)
   have ho:(Ur P x.c)[v]? = some (b||decide (n≠0)):=by simp[Ur,List.getElem?_zipWith,hn,hb]
   refine Js9 i (mA1 (f:=Frm.g) hx) rfl rfl rfl rfl ?_
   refine Js9 v (mA1 (f:=dI) hn) rfl rfl rfl rfl ?_
   have hlen:((Ur P x.c).take v++P.drop v).length=3:=by simp;omega
   refine Jte (decide (n=0)) rfl (fun h0=>?_) (fun h0=>?_)
   ·obtain⟨b',hb',_⟩:=sA1 (show v<((Ur P x.c).take v++P.drop v).length by omega)
    refine JsG v (mA1 (f:=dB) hb') rfl rfl rfl rfl rfl rfl ?_
    have h0:n≠0:=by simpa using h0
    have ho:(Ur P x.c)[v]? = some true:=by rw[ho];simp[h0]
    refine Js3 (vs:=[.l (dBl ((Ur P x.c).take (v+1)++P.drop (v+1))),.i ((v+1:Nat):Int)]) ?_ ⟨hv3,rfl,trivial⟩
    show [V.l ((dBl ((Ur P x.c).take v++P.drop v)).set (v:Int).toNat (dB true)),V.i (IntKind.i64.wrap ((v:Int)+1))]=_
    rw[wS hv3 (by omega),JkT,Int.toNat_natCast,JoE (by omega) ho]
   ·have h0:n=0:=by simpa using h0
    refine Js3 (vs:=[.l (dBl ((Ur P x.c).take (v+1)++P.drop (v+1))),.i ((v+1:Nat):Int)]) ?_ ⟨hv3,rfl,trivial⟩
    show [V.l (dBl ((Ur P x.c).take v++P.drop v)),V.i (IntKind.i64.wrap ((v:Int)+1))]=_
    rw[wS hv3 (by omega),JlR (s:=b) (by rw[ho];simp[h0]) hb]
  ·have:v=3:=by omega
   subst this
   rw[List.take_of_length_le (by omega),List.drop_eq_nil_of_le (by omega),List.append_nil]
   refine JsS ?_
   refine Js3 (vs:=[.l (dBl (QJ p (fs.take (i+1)))),.i ((i+1:Nat):Int)]) ?_ ⟨h,rfl,trivial⟩
   show [V.l (dBl (Ur P x.c)),V.i (IntKind.i64.wrap ((i:Int)+1))]=_
   rw[wS h (by omega),hS]
 ·refine JsS (JsN ?_)
  show [D.s (dBl (QJ p (fs.take i)))]=_
  rw[tA1 h]
/- What the reference's catalogue of parts and pins comes to. -/
structure Qe (n:Nat) (s:List (List Int)):Prop where
 len:s.length≤n
 each :∀q∈s,q.length=3∧Lim 10000000 q
theorem Qe.add {n:Nat} {s:List (List Int)} (h:Qe n s) {f:Frm} (hf:Std 10000000 f):Qe (n+1) (Jn s f) :=
 ⟨by have:=Jil s f;have:=h.len;omega,Jiz h.each ⟨by rw[U2];exact hf.c,Jor hf.lc⟩⟩
theorem Qe.mono {n m:Nat} {s:List (List Int)} (h:Qe n s) (hm:n≤m):Qe m s:=⟨by have:=h.len;omega,h.each⟩
theorem Qe.adds {n:Nat} {s:List (List Int)} (h:Qe n s) {fs:List Frm} (hf :∀f∈fs,Std 10000000 f):Qe (n+fs.length) (fs.foldl Jn s):=by
 induction fs generalizing n s with
 | nil=>exact h
 | cons f fs ih=>exact(ih (h.add (hf f (by simp))) fun g hg=>hf g (by simp[hg])).mono (by simp;omega)
theorem Qe.rows {n:Nat} {s:List (List Int)×List Bool} (h:Qe n s.1) (h3:s.2.length=3) {rs:List Row} (hr :∀r∈rs,YC r):Qe (n+6*rs.length) (rs.foldl QF s).1∧(rs.foldl QF s).2.length=3:=by
 induction rs generalizing n s with
 | nil=>exact⟨h,h3⟩
 | cons r rs ih =>
  have hr1:=hr r (by simp)
  have a:=(h.adds hr1.g).mono (show n+r.guards.length≤n+6 by have:=hr1.gl;omega)
  have b:(QF s r).2.length=3:=ZP (ZP h3 fun f hf=>(hr1.a f hf).c) fun f hf=>(hr1.t f hf).c
  have:=ih (s:=QF s r) (n:=n+6) a b fun x hx=>hr x (by simp[hx])
  exact⟨this.1.mono (by simp;omega),this.2⟩
theorem Jdr (as:List (List Jg)):Qe (3+384*as.length) (U3 as).1∧(U3 as).2.length=3:=by
 have key :∀(n:Nat) (s:List (List Int)×List Bool),Qe n s.1→s.2.length=3→Qe (n+384*as.length) (as.foldl Ya s).1∧(as.foldl Ya s).2.length=3:=by
  induction as with
  | nil=>intro n s h h3;exact⟨h,h3⟩
  | cons a as ih =>
   intro n s h h3
   have:=h.rows h3 (rs:=Js a) X5
   have hl:=Ku a
   have:=ih (n+384) (Ya s a) (this.1.mono (by omega)) this.2
   exact⟨this.1.mono (by simp;omega),this.2⟩
 refine key 3 _ ⟨by simp[YH],?_⟩ rfl
 intro q hq
 simp[YH] at hq
 rcases hq with rfl | rfl | rfl <;> exact⟨rfl,by intro x hx;simp at hx;omega⟩
theorem rdR {rs:List Row} {i:Nat} {r:Row} (h:rs[i]? = some r):(Qb rs)[i]? = some r.g:=mA1 (f:=Row.g) h
set_option maxHeartbeats 8000000 in
theorem Jfe (as:List (List Jg)) (hf:X9 as) (h4:as.length≤4):Ev L f_k17 [.s (Jd as)] [.s (dLL (U3 as).1),.s (dBl (U3 as).2)]:=by
 refine Jtg (vs:=[.l (Jd as)]) L_k17 rfl ?_
 refine Js2 3 (fun v=>[.l (dLL (YH.take v)),.i v]) (fun _=>True) rfl rfl trivial fun v hv _=>?_
 refine JsF v 3 rfl (fun hv3=>?_) (fun hv3=>?_)
 ·refine JsZ (Zv v (by omega) (by omega)) rfl rfl rfl ?_
  have hp:YH[v]? = some (Jz (v:Int).toNat).c:=by
   rw[Int.toNat_natCast]
   match v,hv3 with
   | 0,_ | 1,_ | 2,_=>rfl
   | n+3,h=>omega
  refine JsX (dLL (YH.take v)) 3 (by rw[Uh];simp;omega) (by omega) rfl ?_
  refine Js3 (vs:=[.l (dLL (YH.take (v+1))),.i ((v+1:Nat):Int)]) ?_ ⟨hv3,rfl,trivial⟩
  show [V.l (dLL (YH.take v)++[.s (dL (Jz (v:Int).toNat).c)]),V.i (IntKind.i64.wrap ((v:Int)+1))]=_
  rw[wS hv3 (by omega),JaJ,tS1 hp]
 have hv3:v=3:=by omega
 subst hv3
 refine JsS ?_
 refine JsR as.length (fun i vs=>∃ b:List (List Int)×List Bool,vs=[.l (dLL b.1),.l (dBl b.2),.i i]∧b=U3 (as.take i)) rfl ⟨(YH,[false,false,false]),rfl,rfl⟩ ?_
 rintro i _ hi ⟨⟨b1,b2⟩,rfl,hb⟩
 simp only[sC,sN]
 refine JsY i (JM as) rfl (fun h=>?_) (fun h=>?_)
 ·obtain⟨a,ha,hm⟩:=sA1 h
  have hB:U3 (as.take (i+1))=Ya (b1,b2) a:=by rw[hb];exact Xm ha
  obtain⟨f1,f2⟩:=Jdr (as.take i)
  rw[←hb] at f1 f2
  have f1:=f1.mono (show 3+384*(as.take i).length≤1600 by simp;omega)
  have hrl:=Ku a
  refine Js9 i (mA1 (f:=fun a=> .s (Jk a)) ha) rfl rfl rfl rfl ?_
  refine JsZ (Jfn a (hf.2 a hm)) rfl rfl rfl ?_
  have hrf :∀r∈Js a,YC r:=X5
  have hAB:Ya (b1,b2) a=(Js a).foldl QF (b1,b2):=rfl
  generalize Js a=rs at *
  refine JsR rs.length (fun k vs=>∃ c:List (List Int)×List Bool,vs=[.l (dLL c.1),.l (dBl c.2),.i k]∧c=(rs.take k).foldl QF (b1,b2)) rfl ⟨(b1,b2),rfl,rfl⟩ ?_
  rintro k _ hk ⟨⟨c1,c2⟩,rfl,hc⟩
  simp only[sC,sN]
  refine JsY k (XR rs) rfl (fun h'=>?_) (fun h'=>?_)
  ·obtain⟨r,hr,hmr⟩:=sA1 h'
   have hfit:=hrf r hmr
   have hC:(rs.take (k+1)).foldl QF (b1,b2)=QF (c1,c2) r:=by rw[hc];exact Xm hr
   obtain⟨g1,g2⟩:=f1.rows f2 (rs:=rs.take k) fun x hx=>hrf x (List.mem_of_mem_take hx)
   rw[←hc] at g1 g2
   have g1:=g1.mono (show 1600+6*(rs.take k).length≤2000 by simp;omega)
   have hRd:=rdR hr
   refine JsG k hRd rfl rfl rfl rfl rfl rfl ?_
   refine JsZ (Jd0 c2 r.adds g2 (fun f hf=>(hfit.a f hf).c) (by have:=hfit.al;omega)) rfl rfl rfl ?_
   refine JsG k hRd rfl rfl rfl rfl rfl rfl ?_
   have e3:(QJ c2 r.adds).length=3:=ZP g2 fun f hf=>(hfit.a f hf).c
   refine JsZ (Jd0 (QJ c2 r.adds) r.tells e3 (fun f hf=>(hfit.t f hf).c) (by have:=hfit.tl;omega)) rfl rfl rfl ?_
   have hR:QF (c1,c2) r=(r.guards.foldl Jn c1,QJ (QJ c2 r.adds) r.tells):=rfl
   generalize QJ (QJ c2 r.adds) r.tells=d2 at *
   generalize QJ c2 r.adds=d1 at *
   have hgl:=hfit.gl
   refine JsR r.guards.length (fun g vs=>∃ e:List (List Int),vs=[.l (dLL e),.i g]∧e=(r.guards.take g).foldl Jn c1) rfl ⟨c1,rfl,rfl⟩ ?_
   rintro g _ hg ⟨e,rfl,he⟩
   simp only[sC,sN]
   refine JsG k hRd rfl rfl rfl rfl rfl rfl ?_
   refine JsY g (JZ r.guards) rfl (fun hg'=>?_) (fun hg'=>?_)
   ·obtain⟨f,hfg,hmf⟩:=sA1 hg'
    have hsf:=hfit.g f hmf
    have hE:(r.guards.take (g+1)).foldl Jn c1=Jn e f:=by rw[he];exact Xm hfg
    have e1:=(g1.adds (fs:=r.guards.take g) fun x hx=>hfit.g x (List.mem_of_mem_take hx)).mono (show 2000+(r.guards.take g).length≤2010 by simp;omega)
    rw[←he] at e1
    have nx :∀(x:List (List Int)),x=Jn e f→[V.l (dLL x),V.i (IntKind.i64.wrap ((g:Int)+1))]=[.l (dLL (Jn e f)),.i ((g+1:Nat):Int)]:=by
     intro x hx;rw[hx,wS hg' (by omega)]
    refine JsG k hRd rfl rfl rfl rfl rfl rfl ?_
    refine Js9 g (mA1 (f:=Frm.g) hfg) rfl rfl rfl rfl ?_
    refine JsZ (Jcz f (hsf.lc.mono (by omega)) (by rw[hsf.c];omega)) rfl rfl rfl ?_
    have el:=e1.len
    have hp3:(Jl f.c).length=3:=by rw[U2];exact hsf.c
    have hAP:Jn e f=if KQ e (Jl f.c)<0∧Jl f.c≠[0,0,0] then e++[Jl f.c] else e:=rfl
    generalize Jl f.c=pt at *
    refine JsZ (Je0 e pt (by omega) (fun q hq=>by rw[(e1.each q hq).1];omega)) rfl rfl rfl ?_
    generalize KQ e pt=ha at *
    refine JsI (ha<0) rfl (fun h0=>?_) (fun h0=>?_)
    ·refine JsZ XF rfl rfl rfl ?_
     refine JsZ (JaY pt [0,0,0] (by omega)) rfl rfl rfl ?_
     refine Jte (decide (pt=[0,0,0])) rfl (fun hz=>?_) (fun hz=>?_)
     ·refine JsX (dLL e) 3000 (by rw[Uh];omega) (by omega) rfl ?_
      refine Js3 (vs:=[.l (dLL (Jn e f)),.i ((g+1:Nat):Int)]) ?_ ⟨hg',Jn e f,rfl,hE.symm⟩
      show [V.l (dLL e++[.s (dL pt)]),V.i (IntKind.i64.wrap ((g:Int)+1))]=_
      rw[JaJ]
      refine nx _ ?_
      rw[hAP,if_pos ⟨h0,by simpa using hz⟩]
     ·refine Js3 (nx e ?_) ⟨hg',Jn e f,rfl,hE.symm⟩
      rw[hAP,if_neg]
      intro ⟨_,h⟩
      exact h (by simpa using hz)
    ·refine Js3 (nx e ?_) ⟨hg',Jn e f,rfl,hE.symm⟩
     rw[hAP,if_neg]
     intro ⟨h,_⟩
     exact h0 h
   ·refine JsS ?_
    rw[tA1 hg'] at he
    refine Js3 (vs:=[.l (dLL e),.l (dBl d2),.i ((k+1:Nat):Int)]) ?_ ⟨h',(e,d2),rfl,by rw[hC,hR,he]⟩
    show [V.l (dLL e),V.l (dBl d2),V.i (IntKind.i64.wrap ((k:Int)+1))]=_
    rw[wS h' (by omega)]
  ·refine JsS ?_
   rw[tA1 h'] at hc
   refine Js3 (vs:=[.l (dLL c1),.l (dBl c2),.i ((i+1:Nat):Int)]) ?_ ⟨h,(c1,c2),rfl,by rw[hB,hAB,hc]⟩
   show [V.l (dLL c1),V.l (dBl c2),V.i (IntKind.i64.wrap ((i:Int)+1))]=_
   rw[wS h (by omega)]
 ·refine JsS (JsN ?_)
  show [D.s (dLL b1),.s (dBl b2)]=_
  rw[tA1 h] at hb
  rw[←hb]
theorem XT {as:List (List Jg)} (h:Qj as=true):1≤as.length∧as.length≤4∧∀a∈as,Qk a=true:=by
 simp only[Qj,Bool.and_eq_true,Jp,List.all_eq_true] at h
 exact⟨by omega,by omega,h.2⟩
theorem Q6 (as:List (List Jg)):Qe 1600 (Jb as):=by
 unfold Jb
 split
 ·rename_i h
  exact(Jdr as).1.mono (by have:=(XT h).2.1;omega)
 ·exact⟨by simp,by simp⟩
/- What the reference's treaties come to. -/
theorem YV (l:List Int) (hl:l.length≤2000000):Ev L f_kg [.s (dL l)] [dB (JW l)] :=
 Jtg (vs:=[.l (dL l)]) L_kg rfl (JsZ (Xh l 3 10000 hl (by omega) (by omega)) rfl rfl rfl (JsN rfl))
theorem Ja9 (b g:List Int) (hb:b.length≤2000000) (hg:g.length≤2000000):Ev L f_kh [.s (dL b),.s (dL g)] [dB (Qi b g)]:=by
 refine Jtg (vs:=[.l (dL b),.l (dL g)]) L_kh rfl ?_
 refine JsZ (YV b hb) rfl rfl rfl ?_
 refine Jte (JW b) rfl (fun h=>JsN ?_) (fun h=>?_)
 ·show [dB false]=_
  simp[Qi,h]
 refine JsZ (JL g.length 1 3) rfl ?_ rfl ?_
 ·show [dI ((dL g).length:Int),dI 1,dI 3]=_
  rw[dL1]
 refine Jte (inB g.length 1 3) rfl (fun h2=>JsN ?_) (fun h2=>?_)
 ·show [dB false]=_
  simp[Qi,h2]
 refine Js2 g.length (fun i=>[.i i]) (fun i=>(g.take i).all (fun x=>inB x 0 50)=true) rfl rfl (by simp) fun i hi hp=>?_
 refine JsY i (dL1 g) rfl (fun h'=>?_) (fun h'=>?_)
 ·obtain⟨x,hx,hm⟩:=sA1 h'
  refine Js9 i (mA1 (f:=dI) hx) rfl rfl rfl rfl ?_
  refine JsZ (JL x 0 50) rfl rfl rfl ?_
  refine Jte (inB x 0 50) rfl (fun hb=>JsS (JsN ?_)) (fun hb=>?_)
  ·show [dB false]=_
   simp only[Qi,X7 (p:=fun x=>inB x 0 50) hx hb,Bool.and_false]
  ·refine Js3 (vs:=[.i ((i+1:Nat):Int)]) ?_ ⟨h',rfl,QM (p:=fun x=>inB x 0 50) hx hp hb⟩
   show [V.i (IntKind.i64.wrap ((i:Int)+1))]=_
   rw[wS h' (by omega)]
 ·refine JsS (JsN ?_)
  rw[tA1 h'] at hp
  show [dB true]=_
  simp only[Qi,h,h2,hp];rfl
def fitLL (ps:List (List Int)):Prop:=ps.length≤2000000∧∀p∈ps,p.length≤2000000
theorem JcR (ps:List (List Int)) (hp:fitLL ps):Ev L f_k1f [.s (dLL ps)] [dB (QH ps)]:=by
 have hl:=hp.1
 refine Jtg (vs:=[.l (dLL ps)]) L_k1f rfl ?_
 refine Js2 ps.length (fun i=>[.i i]) (fun i=>(ps.take i).all (fun p=>JD 3 10000000 p)=true) rfl rfl (by simp) fun i hi hq=>?_
 refine JsY i (Uh ps) rfl (fun h'=>?_) (fun h'=>?_)
 ·obtain⟨x,hx,hm⟩:=sA1 h'
  refine Js9 i (mA1 (f:=fun x=> .s (dL x)) hx) rfl rfl rfl rfl ?_
  refine JsZ (Xh x 3 10000000 (hp.2 x hm) (by omega) (by omega)) rfl rfl rfl ?_
  refine Jte (JD 3 10000000 x) rfl (fun hb=>JsS (JsN ?_)) (fun hb=>?_)
  ·show [dB false]=_
   simp only[QH,X7 (p:=fun p=>JD 3 10000000 p) hx hb]
  ·refine Js3 (vs:=[.i ((i+1:Nat):Int)]) ?_ ⟨h',rfl,QM (p:=fun p=>JD 3 10000000 p) hx hq hb⟩
   show [V.i (IntKind.i64.wrap ((i:Int)+1))]=_
   rw[wS h' (by omega)]
 ·refine JsS (JsN ?_)
  rw[tA1 h'] at hq
  show [dB true]=_
  simp only[QH,hq]
theorem Jdx {a b:List Int} {i:Nat} {x y:Int} (hx:a[i]? = some x) (hy:b[i]? = some y):dot (a.take (i+1)) (b.take (i+1))=dot (a.take i) (b.take i)+x*y:=by
 have h1:=(List.getElem?_eq_some_iff.1 hx).1
 have h2:=(List.getElem?_eq_some_iff.1 hy).1
 rw[tS1 hx,tS1 hy,Jn2 x y (by simp;omega)]
theorem Jid {a b:List Int} {i:Nat} {x y:Int} (hx:a[i]? = some x) (hy:b[i]? = some y) (ha:Lim 100000000 a) (hb:Lim 1000000 b) (hi:i<1000) :
  IntKind.i64.wrap (dot (a.take i) (b.take i)+IntKind.i64.wrap (x*y))=dot (a.take (i+1)) (b.take (i+1)):=by
 have h1:=Kg (ha.take i) (hb.take i) (by omega) (by omega)
 have h2:((a.take i).length:Int)≤1000:=by simp;omega
 have h3:=K4 (ha x (List.mem_of_getElem? hx)) (hb y (List.mem_of_getElem? hy))
 rw[Jdx hx hy,w64 (n:=x*y) (by omega) (by omega),w64 (by omega) (by omega)]
theorem Ji5 (p a:List Int) (hp:JD 3 10000000 p=true) (ha:JD 3 20000 a=true):Ev L f_k1g [.s (dL p),.s (dL a)] [dI (dot p a)]:=by
 obtain⟨p1,p2⟩:=Jo.1 hp
 obtain⟨a1,a2⟩:=Jo.1 ha
 have p2:Lim 100000000 p:=Lim.mono (m:=10000000) p2 (by omega)
 have a2:Lim 1000000 a:=Lim.mono (m:=20000) a2 (by omega)
 refine Jtg (vs:=[.l (dL p),.l (dL a)]) L_k1g rfl ?_
 refine Js2 3 (fun i=>[.i (dot (p.take i) (a.take i)),.i i]) (fun _=>True) rfl rfl trivial fun i hi _=>?_
 refine JsF i 3 rfl (fun h=>?_) (fun h=>?_)
 ·obtain⟨x,hx,_⟩:=sA1 (show i<p.length by omega)
  obtain⟨y,hy,_⟩:=sA1 (show i<a.length by omega)
  refine Js9 i (mA1 (f:=dI) hx) rfl rfl rfl rfl ?_
  refine Js9 i (mA1 (f:=dI) hy) rfl rfl rfl rfl ?_
  refine Js3 (vs:=[.i (dot (p.take (i+1)) (a.take (i+1))),.i ((i+1:Nat):Int)]) ?_ ⟨h,rfl,trivial⟩
  show [V.i (IntKind.i64.wrap (dot (p.take i) (a.take i)+IntKind.i64.wrap (x*y))),V.i (IntKind.i64.wrap ((i:Int)+1))]=_
  rw[wS h (by omega),Jid hx hy p2 a2 (by omega)]
 ·refine JsS (JsN ?_)
  show [dI (dot (p.take i) (a.take i))]=_
  rw[List.take_of_length_le (by omega),List.take_of_length_le (by omega)]
theorem JaH {l:List Int} {i:Nat} (h:i<l.length):l[i]? = some (l.getD i 0):=by simp[List.getD_eq_getElem?_getD,h]
theorem Zr (b g:List Int) (ps:List (List Int)) (s:Int) (a:List Int) (hb:b.length≤2000000) (hg:g.length≤2000000) (hp:fitLL ps) (ha:a.length≤2000000) :
  Ev L f_k1h [.s (dL b),.s (dL g),.s (dLL ps),dI s,.s (dL a)] [dB (keeps b g ps s a)]:=by
 have hpl:=hp.1
 refine Jtg (vs:=[.l (dL b),.l (dL g),.l (dLL ps),.i s,.l (dL a)]) L_k1h rfl ?_
 refine JsZ (Ja9 b g hb hg) rfl rfl rfl ?_
 refine Jte (Qi b g) rfl (fun h=>JsN ?_) (fun h=>?_)
 ·show [dB false]=_
  simp[keeps,h]
 refine JsZ (JcR ps hp) rfl rfl rfl ?_
 refine Jte (QH ps) rfl (fun h2=>JsN ?_) (fun h2=>?_)
 ·show [dB false]=_
  simp[keeps,h2]
 refine JsZ (JL s 0 (g.length-1)) rfl ?_ rfl ?_
 ·show [dI s,dI 0,dI (IntKind.i64.wrap (((dL g).length:Int)-1))]=_
  rw[dL1,w64 (by omega) (by omega)]
 refine Jte (inB s 0 (g.length-1)) rfl (fun h3=>JsN ?_) (fun h3=>?_)
 ·show [dB false]=_
  simp[keeps,h3]
 refine JsZ (Xh a 3 20000 ha (by omega) (by omega)) rfl rfl rfl ?_
 refine Jte (JD 3 20000 a) rfl (fun h4=>JsN ?_) (fun h4=>?_)
 ·show [dB false]=_
  simp[keeps,QI,h4]
 have hs:=Jp.1 h3
 have hsg:s.toNat<g.length:=by omega
 have hgs:=JaH hsg
 have hgm:=Xy (p:=fun x=>0≤x∧x≤50) (l:=g) (by
  intro x hx
  simp only[Qi,Bool.and_eq_true,List.all_eq_true] at h
  exact Jp.1 (h.2 x hx)) hsg
 have hdS:(dL g)[s.toNat]? = some (dI (g.getD s.toNat 0)):=mA1 (f:=dI) hgs
 simp only[keeps,QI,h,h2,h3,h4,Bool.true_and]
 generalize g.getD s.toNat 0=G at *
 refine Js2 ps.length (fun i=>[.i i]) (fun i=>(ps.take i).all (Z0 G a)=true) rfl rfl (by simp) fun i hi hq=>?_
 refine JsY i (Uh ps) rfl (fun h'=>?_) (fun h'=>?_)
 ·obtain⟨x,hx,hm⟩:=sA1 h'
  have hxo:JD 3 10000000 x=true:=List.all_eq_true.1 h2 x hm
  refine Js9 i (mA1 (f:=fun x=> .s (dL x)) hx) rfl rfl rfl rfl ?_
  refine JsZ (Ji5 x a hxo h4) rfl rfl rfl ?_
  refine Jtd (ds:=dL g) s rfl rfl rfl hs.1 hdS rfl ?_
  refine Jtd (ds:=dL g) s rfl rfl rfl hs.1 hdS rfl ?_
  refine JsZ (JL (dot x a) (0-G) G) rfl ?_ rfl ?_
  ·show [dI (dot x a),dI (IntKind.i64.wrap (0-G)),dI G]=_
   rw[w64 (by omega) (by omega)]
  refine Jte (inB (dot x a) (0-G) G) rfl (fun hb=>JsS (JsN ?_)) (fun hb=>?_)
  ·show [dB false]=_
   rw[X7 (p:=Z0 G a) hx hb]
  ·refine Js3 (vs:=[.i ((i+1:Nat):Int)]) ?_ ⟨h',rfl,QM (p:=Z0 G a) hx hq hb⟩
   show [V.i (IntKind.i64.wrap ((i:Int)+1))]=_
   rw[wS h' (by omega)]
 ·refine JsS (JsN ?_)
  rw[tA1 h'] at hq
  show [dB true]=_
  rw[hq]
/- What the program's treaties come to. -/
theorem Y7 (n a b:Int):Ev L f_k37 [dI n,dI a,dI b] [dB (inB n a b)]:=by
 refine Jtg (vs:=[.i n,.i a,.i b]) L_k37 rfl ?_
 refine JsI (a≤n) rfl (fun h=>JsN ?_) (fun h=>JsN ?_)
 ·show [dB (decide (n≤b))]=_
  simp[inB,h]
 ·show [dB false]=_
  simp[inB,h]
theorem JeX (p:Int→Bool) (l:List Int) {fn:FuncId} {caps:List D} (hlen:l.length≤2000000) (hcap:Xv (.f fn caps) = .f fn caps) (har:arT L fn=some ([none]++caps.map fun _=>none))
  (hc :∀x∈l,Ev L fn ([dI x]++caps.map D.norm) [dB (p x)]):Ev L f_k3b [.s (dL l),.f fn caps] [dI (ZT p l)] :=
 ZG (sh:= .one (.i .i64)) (as:=[(.vi .i64 (.v 3))]) (ar:=[none]) (k:=4) dI p (fun x=>[dI x]) (fun x=>[.i x]) l L_k3b rfl hlen hcap (fun _ _=>rfl) (fun _ _=>rfl) (fun _ _ _ _=>rfl) har hc
theorem JaO (p:Int→Bool) (l:List Int) {fn:FuncId} {caps:List D} (hlen:l.length≤2000000) (hcap:Xv (.f fn caps) = .f fn caps) (har:arT L fn=some ([none]++caps.map fun _=>none))
  (hc :∀x∈l,Ev L fn ([dI x]++caps.map D.norm) [dB (p x)]):Ev L f_k3c [.s (dL l),.f fn caps] [dB (l.any p)] :=
 Za (g:=f_k3b) L_k3c rfl hcap (JeX p l hlen hcap har hc)
theorem JdT (p:List Int→Bool) (l:List (List Int)) {fn:FuncId} {caps:List D} (hlen:l.length≤2000000) (hcap:Xv (.f fn caps) = .f fn caps) (har:arT L fn=some ([none]++caps.map fun _=>none))
  (hc :∀x∈l,Ev L fn ([.s (dL x)]++caps.map D.norm) [dB (p x)]):Ev L f_k4b [.s (dLL l),.f fn caps] [dI (ZT p l)] :=
 ZG (sh:= .one .s) (as:=[(.s (.v 3))]) (ar:=[none]) (k:=4) (fun x=> .s (dL x)) p (fun x=>[.s (dL x)]) (fun x=>[.l (dL x)]) l L_k4b rfl hlen hcap (fun _ _=>rfl) (fun _ _=>rfl) (fun _ _ _ _=>rfl) har hc
theorem JdL (p:List Int→Bool) (l:List (List Int)) {fn:FuncId} {caps:List D} (hlen:l.length≤2000000) (hcap:Xv (.f fn caps) = .f fn caps) (har:arT L fn=some ([none]++caps.map fun _=>none))
  (hc :∀x∈l,Ev L fn ([.s (dL x)]++caps.map D.norm) [dB (p x)]):Ev L f_k4m [.s (dLL l),.f fn caps] [dB (l.any p)] :=
 Za (g:=f_k4b) L_k4m rfl hcap (JdT p l hlen hcap har hc)
theorem VJ {α:Type} (p:α→Bool) (l:List α):(!(l.any fun x=>!p x))=l.all p:=by
 induction l with
 | nil=>rfl
 | cons x l ih=>simp[ih]
theorem JiJ (x m:Int) (h0:0≤m) (hm:m≤10000000000000):Ev L f_k3a [dI x,.q [dI m]] [dB (!inB x (0-m) m)]:=by
 refine Jtg (vs:=[.i x,.d (.q [dI m])]) L_k3a rfl ?_
 refine JsL (vs:=[.i m]) rfl rfl ?_
 refine JsL (vs:=[.i m]) rfl rfl ?_
 refine JsZ (Y7 x (0-m) m) rfl ?_ rfl (JsN rfl)
 show [dI x,dI (IntKind.i64.wrap (0-m)),dI m]=_
 rw[w64 (by omega) (by omega)]
theorem XS (l:List Int) (n m:Int) (hl:l.length≤2000000) (h0:0≤m) (hm:m≤10000000000000):Ev L f_k3d [.s (dL l),dI n,dI m] [dB (JD n m l)]:=by
 refine Jtg (vs:=[.l (dL l),.i n,.i m]) L_k3d rfl ?_
 refine JsI ((l.length:Int)=n) ?_ (fun h=>?_) (fun h=>JsN ?_)
 ·show decide (((dL l).length:Int)=n)=_
  rw[dL1]
 ·refine JsZ (JaO (fun x=>!inB x (0-m) m) l (fn:=f_k3a) (caps:=[.q [dI m]]) hl rfl rfl fun x _=>JiJ x m h0 hm) rfl rfl rfl (JsN ?_)
  show [dB (!(l.any fun x=>!inB x (0-m) m))]=_
  rw[VJ];simp[JD,h]
 ·show [dB false]=_
  simp[JD,h]
theorem Jio (l:List Int) (hl:l.length≤2000000):Ev L f_k3n [.s (dL l)] [dB (JW l)] :=
 Jtg (vs:=[.l (dL l)]) L_k3n rfl (JsZ (XS l 3 10000 hl (by omega) (by omega)) rfl rfl rfl (JsN rfl))
theorem JjU (x:Int):Ev L f_k3m [dI x] [dB (!inB x 0 50)] :=
 Jtg (vs:=[.i x]) L_k3m rfl (JsZ (Y7 x 0 50) rfl rfl rfl (JsN rfl))
theorem Jic (b g:List Int) (hb:b.length≤2000000) (hg:g.length≤2000000):Ev L f_k3o [.s (dL b),.s (dL g)] [dB (Qi b g)]:=by
 refine Jtg (vs:=[.l (dL b),.l (dL g)]) L_k3o rfl ?_
 refine JsZ (Jio b hb) rfl rfl rfl ?_
 refine JsW (JW b) rfl (fun h=>?_) (fun h=>JsN ?_)
 ·refine JsZ (Y7 g.length 1 3) rfl ?_ rfl ?_
  ·show [dI ((dL g).length:Int),dI 1,dI 3]=_
   rw[dL1]
  refine JsW (inB g.length 1 3) rfl (fun h2=>?_) (fun h2=>JsN ?_)
  ·refine JsZ (JaO (fun x=>!inB x 0 50) g (fn:=f_k3m) (caps:=[]) hg rfl rfl fun x _=>JjU x) rfl rfl rfl (JsN ?_)
   show [dB (!(g.any fun x=>!inB x 0 50))]=_
   rw[VJ];simp[Qi,h,h2]
  ·show [dB false]=_
   simp[Qi,h2]
 ·show [dB false]=_
  simp[Qi,h]
theorem Jf5 (p:List Int) (hp:p.length≤2000000):Ev L f_k4n [.s (dL p)] [dB (!JD 3 10000000 p)] :=
 Jtg (vs:=[.l (dL p)]) L_k4n rfl (JsZ (XS p 3 10000000 hp (by omega) (by omega)) rfl rfl rfl (JsN rfl))
theorem Jjy (ps:List (List Int)) (hp:fitLL ps):Ev L f_k4o [.s (dLL ps)] [dB (QH ps)]:=by
 refine Jtg (vs:=[.l (dLL ps)]) L_k4o rfl ?_
 refine JsZ (JdL (fun p=>!JD 3 10000000 p) ps (fn:=f_k4n) (caps:=[]) hp.1 rfl rfl fun p h=>Jf5 p (hp.2 p h)) rfl rfl rfl (JsN ?_)
 show [dB (!(ps.any fun p=>!JD 3 10000000 p))]=_
 rw[VJ];rfl
theorem Ji9 (a:List Int) (ha:a.length≤2000000):Ev L f_k4p [.s (dL a)] [dB (QI a)] :=
 Jtg (vs:=[.l (dL a)]) L_k4p rfl (JsZ (XS a 3 20000 ha (by omega) (by omega)) rfl rfl rfl (JsN rfl))
def QA (b g:List Int) (ps:List (List Int)) (s:Int) (a:List Int):Bool:=Qi b g&&QH ps&&inB s 0 (g.length-1)&&QI a
theorem Jb6 (b g:List Int) (ps:List (List Int)) (s:Int) (a:List Int) (hb:b.length≤2000000) (hg:g.length≤2000000) (hp:fitLL ps) (ha:a.length≤2000000) :
  Ev L f_k4q [.s (dL b),.s (dL g),.s (dLL ps),dI s,.s (dL a)] [dB (QA b g ps s a)]:=by
 refine Jtg (vs:=[.l (dL b),.l (dL g),.l (dLL ps),.i s,.l (dL a)]) L_k4q rfl ?_
 refine JsZ (Jic b g hb hg) rfl rfl rfl ?_
 refine JsW (Qi b g) rfl (fun h=>?_) (fun h=>JsN ?_)
 ·refine JsZ (Jjy ps hp) rfl rfl rfl ?_
  refine JsW (QH ps) rfl (fun h2=>?_) (fun h2=>JsN ?_)
  ·refine JsZ (Y7 s 0 (g.length-1)) rfl ?_ rfl ?_
   ·show [dI s,dI 0,dI (IntKind.i64.wrap (((dL g).length:Int)-1))]=_
    rw[dL1,w64 (by omega) (by omega)]
   refine JsW (inB s 0 (g.length-1)) rfl (fun h3=>?_) (fun h3=>JsN ?_)
   ·refine JsZ (Ji9 a ha) rfl rfl rfl (JsN ?_)
    show [dB (QI a)]=_
    simp[QA,h,h2,h3]
   ·show [dB false]=_
    simp[QA,h3]
  ·show [dB false]=_
   simp[QA,h2]
 ·show [dB false]=_
  simp[QA,h]
theorem Jqp (p a:List Int) (hp:Lim 100000000 p) (ha:Lim 1000000 a) (hl:p.length=a.length) (h9:p.length≤999):Ev L f_k4r [.s (dL p),.s (dL a)] [dI (dot p a)]:=by
 refine Jtg (vs:=[.l (dL p),.l (dL a)]) L_k4r rfl ?_
 refine Js2 p.length (fun i=>[.i (dot (p.take i) (a.take i)),.i i]) (fun _=>True) rfl rfl trivial fun i hi _=>?_
 refine JsY i (dL1 p) rfl (fun h=>?_) (fun h=>?_)
 ·obtain⟨x,hx,_⟩:=sA1 (show i<p.length by omega)
  obtain⟨y,hy,_⟩:=sA1 (show i<a.length by omega)
  refine Js9 i (mA1 (f:=dI) hx) rfl rfl rfl rfl ?_
  refine Js9 i (mA1 (f:=dI) hy) rfl rfl rfl rfl ?_
  refine Js3 (vs:=[.i (dot (p.take (i+1)) (a.take (i+1))),.i ((i+1:Nat):Int)]) ?_ ⟨h,rfl,trivial⟩
  show [V.i (IntKind.i64.wrap (dot (p.take i) (a.take i)+IntKind.i64.wrap (x*y))),V.i (IntKind.i64.wrap ((i:Int)+1))]=_
  rw[wS h (by omega),Jid hx hy hp ha (by omega)]
 ·refine JsS (JsN ?_)
  show [dI (dot (p.take i) (a.take i))]=_
  rw[tA1 h,tA1 (by omega)]
theorem Jer (p a:List Int) (G:Int) (hp:JD 3 10000000 p=true) (ha:QI a=true) (h0:0≤G) (h5:G≤50):Ev L f_k4s [.s (dL p),.q [.s (dL a)],.q [dI G]] [dB (!Z0 G a p)]:=by
 obtain⟨p1,p2⟩:=Jo.1 hp
 obtain⟨a1,a2⟩:=Jo.1 ha
 refine Jtg (vs:=[.l (dL p),.d (.q [.s (dL a)]),.d (.q [dI G])]) L_k4s rfl ?_
 refine JsL (vs:=[.l (dL a)]) rfl rfl ?_
 refine JsZ (Jqp p a (Lim.mono (m:=10000000) p2 (by omega)) (Lim.mono (m:=20000) a2 (by omega)) (by omega) (by omega)) rfl rfl rfl ?_
 refine JsL (vs:=[.i G]) rfl rfl ?_
 refine JsL (vs:=[.i G]) rfl rfl ?_
 refine JsZ (Y7 (dot p a) (0-G) G) rfl ?_ rfl (JsN rfl)
 show [dI (dot p a),dI (IntKind.i64.wrap (0-G)),dI G]=_
 rw[w64 (by omega) (by omega)]
theorem JiT {b g:List Int} {ps:List (List Int)} {s:Int} {a:List Int} (h:QA b g ps s a=true) :
  Qi b g=true∧QH ps=true∧0≤s∧s<g.length∧QI a=true∧g[s.toNat]? = some (g.getD s.toNat 0)∧0≤g.getD s.toNat 0∧g.getD s.toNat 0≤50:=by
 simp only[QA,Bool.and_eq_true,Jp] at h
 obtain⟨⟨⟨h1,h2⟩,h3⟩,h4⟩:=h
 have hsg:s.toNat<g.length:=by omega
 have hgm:=Xy (p:=fun x=>0≤x∧x≤50) (l:=g) (by
  intro x hx
  simp only[Qi,Bool.and_eq_true,List.all_eq_true] at h1
  exact Jp.1 (h1.2 x hx)) hsg
 exact⟨h1,h2,h3.1,by omega,h4,JaH hsg,hgm⟩
theorem Jjb (b g:List Int) (ps:List (List Int)) (s:Int) (a:List Int):keeps b g ps s a=(QA b g ps s a&&ps.all (Z0 (g.getD s.toNat 0) a)):=rfl
theorem JhO (b g:List Int) (ps:List (List Int)) (s:Int) (a:List Int) (hb:b.length≤2000000) (hg:g.length≤2000000) (hp:fitLL ps) (ha:a.length≤2000000) :
  Ev L f_k4t [.s (dL b),.s (dL g),.s (dLL ps),dI s,.s (dL a)] [dB (keeps b g ps s a)]:=by
 refine Jtg (vs:=[.l (dL b),.l (dL g),.l (dLL ps),.i s,.l (dL a)]) L_k4t rfl ?_
 refine JsZ (Jb6 b g ps s a hb hg hp ha) rfl rfl rfl ?_
 rw[Jjb]
 refine Jte (QA b g ps s a) rfl (fun h=>JsN ?_) (fun h=>?_)
 ·show [dB false]=_
  rw[h];rfl
 obtain⟨h1,h2,s0,s1,h4,hd,g0,g5⟩:=JiT h
 generalize g.getD s.toNat 0=G at *
 refine Jtd (ds:=dL g) s rfl rfl rfl s0 (mA1 (f:=dI) hd) rfl ?_
 refine JsZ (JdL (fun p=>!Z0 G a p) ps (fn:=f_k4s) (caps:=[.q [.s (dL a)],.q [dI G]]) hp.1 rfl rfl fun p hm=>Jer p a G (List.all_eq_true.1 h2 p hm) h4 g0 g5) rfl rfl rfl (JsN ?_)
 show [dB (!(ps.any fun p=>!Z0 G a p))]=_
 rw[VJ,h];rfl
/- All sites keep to a treaty just if each does: over residual programs. -/
theorem Qe.fitLL {n:Nat} {ps:List (List Int)} (h:Qe n ps) (hn:n≤2000000):fitLL ps:=⟨by have:=h.len;omega,fun p hp=>by rw[(h.each p hp).1];omega⟩
end Go.Proofs.YtdmjmcegcpdenaaGreatDoor

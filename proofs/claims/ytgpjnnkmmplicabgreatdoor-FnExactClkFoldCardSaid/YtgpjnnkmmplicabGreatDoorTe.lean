import Derived.Test.YtgpjnnkmmplicabGreatDoorTd
set_option linter.unusedVariables false
set_option linter.unusedSimpArgs false
section
namespace Go.Tm
def YB (ps:List Bool) (a:List Int):Bool:=(a.zip ps).all fun q=>!(q.2 && !decide (q.1=0))
def Jc1 (b g:List Int) (ps:List (List Int)) (s:Int) (a w:List Int) (r:Row):Bool:=r.guards.all fun f=>(Xa b g ps s a f w).2.2&&decide (0≤(Xa b g ps s a f w).1)
def ovM (b g:List Int) (ps:List (List Int)) (s:Int) (a w:List Int) (v:Nat):Bool:=decide (10000<(Xa b g ps s a (JA v) w).1)||decide ((Xa b g ps s a (JA v) w).2.1 < -10000)
def unM (b g:List Int) (ps:List (List Int)) (s:Int) (a w:List Int) (v:Nat):Bool:=decide ((Xa b g ps s a (JA v) w).1 < -10000)||decide (10000<(Xa b g ps s a (JA v) w).2.1)
structure Jpn where
 code:Int
 tells:List Int
 adds:List Int
 ok:Bool
def Jpn.ds (r:Jpn):List D:=[dI r.code,.s (dL r.tells),.s (dL r.adds),dB r.ok]
def Jof (b g:List Int) (ps:List (List Int)) (pins:List Bool) (s:Int) (a w:List Int) (r:Row):Jpn :=
 if r.stop then ⟨2,[],a,true⟩
 else if YB pins (atL r.adds b w)&&Xx (Xi a (atL r.adds b w)) then
  if [0,1,2].any (ovM b g ps s (Xi a (atL r.adds b w)) w) then ⟨3,[],a,true⟩
  else if [0,1,2].any (unM b g ps s (Xi a (atL r.adds b w)) w) then ⟨0,[],a,false⟩
  else if keeps b g ps s (Xi a (atL r.adds b w)) then ⟨1,atL r.tells b w,Xi a (atL r.adds b w),true⟩
  else ⟨0,[],a,false⟩
 else ⟨0,[],a,false⟩
def KW (as:List (List Jc)) (b g:List Int) (s:Int) (a:List Int) (k:Int) (w:List Int):Bool :=
 QK as&&inB k 0 (as.length-1)&&XN w&&(keeps b g (Jg as) s a&&YB (JT as) a)
def Jo7 (as:List (List Jc)) (b g:List Int) (s:Int) (a:List Int) (k:Int) (w:List Int):Jpn :=
 if KW as b g s a k w then
  match (Jz (as.getD k.toNat [])).find? (Jc1 b g (Jg as) s a w) with
  | some r=>Jof b g (Jg as) (JT as) s a w r
  | none=>⟨0,[],a,false⟩
 else ⟨0,[],[],false⟩
theorem Jiw {α:Type} {p:α→Bool} {l:List α} {k:Nat} {x:α} (h:l[k]? = some x):(l.take (k+1)).any p=((l.take k).any p||p x):=by rw[tS1 h];simp
def Uo (b g:List Int) (ps:List (List Int)) (s:Int) (a:List Int):Bool:=QL b g&&Xc ps&&inB s 0 (g.length-1)&&Xx a
def Uf (f:Frm) (g:List Int) (s:Int):Int:=if f.c=[0,0,0] then 0 else QA g s
def JkI (ps:List (List Int)) (f:Frm):Prop:=Jn f.c∈ps∨f.c=[0,0,0]
theorem Jmk {b g:List Int} {ps:List (List Int)} {s:Int} {a:List Int} {f:Frm} {w:List Int} (h:Uo b g ps s a=true) (hf:f.ok=true) (hw:XN w=true) (hp:JkI ps f) :
  Xa b g ps s a f w=(atF f (Xi b a) w-Uf f g s,atF f (Xi b a) w+Uf f g s,true):=by
 unfold Uo at h;unfold Xa Uf;rw[if_pos (by rw[h,hf,hw];rfl)]
 by_cases hz:f.c=[0,0,0]
 ·simp only[if_pos hz,Int.sub_zero,Int.add_zero]
 ·simp only[if_neg hz,if_pos (hp.resolve_right hz)]
theorem Xm {b g:List Int} {ps:List (List Int)} {s:Int} {a:List Int} (h:keeps b g ps s a=true):Uo b g ps s a=true:=by
 unfold keeps at h;unfold Uo;simp only[JrE] at h ⊢;exact h.1
theorem VO {b g:List Int} {ps:List (List Int)} {s:Int} {a:List Int} (h:Uo b g ps s a=true) :
  QL b g=true∧Xc ps=true∧(0≤s∧s<g.length)∧Xx a=true∧(b.length=3∧Lim 10000 b)∧(a.length=3∧Lim 20000 a)∧(∀x∈g,0≤x∧x≤50):=by
 simp only[Uo,JrE,JG] at h;obtain⟨⟨⟨h1,h2⟩,h3⟩,h4⟩:=h;have h1':=h1;simp only[QL,J3,JrE,JB,JrR,JG] at h1';have h4':=JB.1 h4;exact⟨h1,h2,by omega,h4,⟨by omega,h1'.1.1.2⟩,⟨by omega,h4'.2⟩,h1'.2⟩
theorem JlR {g:List Int} {s:Int} (h :∀x∈g,0≤x∧x≤50):0≤QA g s:=by
 have:=Jl7 (s:=s) h g.length (Nat.le_refl _);rw[JrI (Nat.le_refl _)] at this;exact this.1
theorem JkX {f:Frm} {g:List Int} {s:Int} (h :∀x∈g,0≤x∧x≤50):0≤Uf f g s:=by
 unfold Uf;split
 ·omega
 ·exact JlR h
theorem Jn8 {as:List (List Jc)} (h:QK as=true) {a:List Jc} (ha:a∈as) {r:Row} (hr:r∈Jz a) {f:Frm} (hf:f∈r.guards):JkI (Jg as) f:=by
 rw[JhJ h];rcases (Jit (ZB as) _ Jns).2.2 f (Jfl ha hr hf) with hm | hz
 ·exact .inl hm
 ·exact .inr ((JlK ((ZI r hr).g f hf).c).1 hz)
theorem W4 {as:List (List Jc)} {k:Int} (h0:0≤k) (h1:k<as.length):as.getD k.toNat []∈as∧as[k.toNat]? = some (as.getD k.toNat []):=by
 have hk:k.toNat<as.length:=by omega
 have e:as[k.toNat]? = some (as.getD k.toNat []):=by simp[JrH,hk]
 exact⟨JrL e,e⟩
theorem Jjg {as:List (List Jc)} {b g:List Int} {s:Int} {a w:List Int} {x:List Jc} {r:Row} (h:QK as=true) (hf:Uo b g (Jg as) s a=true) (hw:XN w=true) (hx:x∈as) (hr:r∈Jz x) :
  Jc1 b g (Jg as) s a w r=r.guards.all fun f=>decide (0≤atF f (Xi b a) w-Uf f g s):=by
 unfold Jc1;have key :∀f∈r.guards,((Xa b g (Jg as) s a f w).2.2&&decide (0≤(Xa b g (Jg as) s a f w).1))=decide (0≤atF f (Xi b a) w-Uf f g s):=by
  intro f hm;rw[Jmk hf (((ZI r hr).g f hm).okF (by omega)) hw (Jn8 h hx hr hm)];rfl
 rw[Bool.eq_iff_iff,JrR,JrR];constructor
 ·intro h f hm;rw[←key f hm];exact h f hm
 ·intro h f hm;rw[key f hm];exact h f hm
theorem Jnk {α:Type} {l1 l2:List α} {x:α} {p q:α→Bool} (h1 :∀y∈l1,q y=false) (h2 :∀y∈l2,q y=false) (hpq :∀y∈l1++x::l2,p y=true→q y=true) :
  (l1++x::l2).find? p=if p x then some x else none:=by
 have n1:l1.find? p=none:=by
  rw[List.find?_eq_none];intro y hy hp;have:=hpq y (by simp[hy]) hp;rw[h1 y hy] at this;cases this
 have n2:l2.find? p=none:=by
  rw[List.find?_eq_none];intro y hy hp;have:=hpq y (by simp[hy]) hp;rw[h2 y hy] at this;cases this
 rw[List.find?_append,n1,Option.none_or,List.find?_cons];split
 ·rename_i hp;rw[hp];rfl
 ·rename_i hp;rw[hp,n2];rfl
theorem Jbs {as:List (List Jc)} {b g:List Int} {s:Int} {a:List Int} {k:Int} {w:List Int} :
  KW as b g s a k w=true↔QK as=true∧(0≤k∧k<as.length)∧XN w=true∧keeps b g (Jg as) s a=true∧YB (JT as) a=true:=by
 simp only[KW,JrE,JG];constructor
 ·rintro⟨⟨⟨h1,h2⟩,h3⟩,h4,h5⟩;exact⟨h1,by omega,h3,h4,h5⟩
 ·rintro⟨h1,h2,h3,h4,h5⟩;exact⟨⟨⟨h1,by omega⟩,h3⟩,h4,h5⟩
theorem JoW {as:List (List Jc)} {b g:List Int} {s:Int} {a:List Int} {k:Int} {w:List Int} (h:KW as b g s a k w=true) :
  ∃ r,r∈Jz (as.getD k.toNat [])∧JR r (Xi b a) w=true∧(∀y∈Jz (as.getD k.toNat []),JR y (Xi b a) w=true→y=r) ∧
   ∀g',(∀x∈g',0≤x∧x≤50)→Uo b g' (Jg as) s a=true→(Jz (as.getD k.toNat [])).find? (Jc1 b g' (Jg as) s a w)=if Jc1 b g' (Jg as) s a w r then some r else none:=by
 obtain⟨h1,h2,h3,h4,h5⟩:=Jbs.1 h;obtain⟨hm,hk⟩:=W4 (as:=as) h2.1 h2.2;have hf:=Xm h4;obtain⟨_,_,_,_,hb,ha,hg⟩:=VO hf;have hact:Qh (as.getD k.toNat [])=true:=by
  simp only[QK,JrE,JrR] at h1;exact h1.2 _ hm
 obtain⟨l1,l2,r,e1,e2,e3,e4,_⟩:=Jpm (v:=Xi b a) (w:=w) hact (by rw[Kw (by omega)];omega) (by have:=(JB.1 h3).1;omega);refine⟨r,by rw[e1];simp,e2,?_,?_⟩
 ·intro y hy hh;rw[e1] at hy;rcases JrJ.1 hy with hy | hy
  ·rw[e3 y hy] at hh;cases hh
  ·rcases JrX.1 hy with rfl | hy
   ·rfl
   ·rw[e4 y hy] at hh;cases hh
 ·intro g' hg' hf';rw[e1];refine Jnk (q:=fun y=>JR y (Xi b a) w) e3 e4 fun y hy hs=>?_;rw[←e1] at hy;rw[Jjg h1 hf' h3 hm hy] at hs;unfold JR;simp only[JrR,decide_eq_true_eq] at hs ⊢;intro f hfm;have:=hs f hfm;have:=JkX (f:=f) (s:=s) hg';omega
structure V7 (g g':List Int) (s:Int):Prop where
 l:g'.length=g.length
 r :∀x∈g',0≤x∧x≤50
 m:g.getD s.toNat 0≤g'.getD s.toNat 0
 o:QA g' s≤QA g s
theorem V7.fine {b g g':List Int} {ps:List (List Int)} {s:Int} {a:List Int} (h:V7 g g' s) (hf:Uo b g ps s a=true):Uo b g' ps s a=true:=by
 unfold Uo QL at *;simp only[JrE,JG,JrR,h.l] at hf ⊢;exact⟨⟨⟨⟨hf.1.1.1.1,h.r⟩,hf.1.1.2⟩,hf.1.2⟩,hf.2⟩
theorem V7.keeps {b g g':List Int} {ps:List (List Int)} {s:Int} {a:List Int} (h:V7 g g' s) (hf:Go.Tm.keeps b g ps s a=true):Go.Tm.keeps b g' ps s a=true:=by
 have h1:=h.fine (Xm hf);unfold Go.Tm.keeps at *;unfold Uo at h1;rw[h1,JrY];simp only[JrE,JrR,Km,JG] at hf ⊢;intro p hp;have:=hf.2 p hp;have:=h.m;omega
theorem Jqj {as:List (List Jc)} {b g:List Int} {s:Int} {a:List Int} {k:Int} {w:List Int} (h:(Jo7 as b g s a k w).ok=true):KW as b g s a k w=true:=by
 by_cases hl:KW as b g s a k w=true
 ·exact hl
 ·unfold Jo7 at h;rw[if_neg hl] at h;simp at h
theorem JcC {g:List Int} {s:Int} {i:Nat} {x y:Int} (hx:g[i]? = some x):QA (g.set i y) s=QA g s+if(i:Int)=s then 0 else y-x:=by
 have hi:=(JrF.1 hx).1;have key :∀k,k≤g.length→QA ((g.set i y).take k) s=QA (g.take k) s+if i<k then(if(i:Int)=s then 0 else y-x) else 0:=by
  intro k
  induction k with
  | zero=>intro _;simp[QA]
  | succ k ih =>
   intro hk;have ih:=ih (by omega);obtain⟨z,hz,_⟩:=sA1 (show k<g.length by omega)
   by_cases hik:i=k
   ·subst hik;rw[hx] at hz;cases hz;have hy:(g.set i y)[i]? = some y:=by rw[List.getElem?_set];simp[hi]
    rw[YV hx,YV hy,ih,if_neg (show ¬i<i by omega),if_pos (show i<i+1 by omega)];split <;> omega
   ·have hy:(g.set i y)[k]? = some z:=by rw[List.getElem?_set,if_neg hik];exact hz
    rw[YV hz,YV hy,ih]
    by_cases hlt:i<k
    ·rw[if_pos hlt,if_pos (show i<k+1 by omega)];omega
    ·rw[if_neg hlt,if_neg (show ¬i<k+1 by omega)];omega
 have:=key g.length (Nat.le_refl _);rw[JrI (Nat.le_refl _),JrI (by simp),if_pos hi] at this;exact this
theorem Jou {g:List Int} {i:Nat} {y:Int} (hg :∀x∈g,0≤x∧x≤50) (hy:0≤y∧y≤50) :∀x∈g.set i y,0≤x∧x≤50:=by
 intro x hx;rcases Jr3 hx with h | h
 ·exact hg x h
 ·subst h;exact hy
theorem V7.same {g:List Int} {s:Int} (hg :∀x∈g,0≤x∧x≤50):V7 g g s:=⟨rfl,hg,Int.le_refl _,Int.le_refl _⟩
theorem V7.up {g:List Int} {s:Int} {i:Nat} {x:Int} (hg :∀x∈g,0≤x∧x≤50) (hx:g[i]? = some x) (hs:(i:Int)=s) (h:x<50):V7 g (g.set i (x+1)) s:=by
 have hxx:=hg x (JrL hx);have hi:=(JrF.1 hx).1;refine⟨by simp,Jou hg (by omega),?_,?_⟩
 ·subst hs;rw[Int.toNat_natCast,JrH,JrH,hx,List.getElem?_set];simp[hi];omega
 ·rw[JcC hx,if_pos hs];omega
theorem V7.down {g:List Int} {s:Int} {i:Nat} {x:Int} (hg :∀x∈g,0≤x∧x≤50) (hx:g[i]? = some x) (hs : ¬(i:Int)=s) (s0:0≤s) (h:0<x):V7 g (g.set i (x-1)) s:=by
 have hxx:=hg x (JrL hx);refine⟨by simp,Jou hg (by omega),?_,?_⟩
 ·rw[JrH,JrH,List.getElem?_set,if_neg (by omega)];omega
 ·rw[JcC hx,if_neg hs];omega
end Go.Tm
end
section
namespace Go.Tm
theorem loc_eq {as:List (List Jc)} {b g:List Int} {s:Int} {a:List Int} {k:Int} {w:List Int} (h:KW as b g s a k w=true) :
  ∃ r,r∈Jz (as.getD k.toNat [])∧JR r (Xi b a) w=true∧Jo7 as b g s a k w=if Jc1 b g (Jg as) s a w r then Jof b g (Jg as) (JT as) s a w r else ⟨0,[],a,false⟩:=by
 obtain⟨r,hr,hh,_,hfind⟩:=JoW h;have hf:=Xm (Jbs.1 h).2.2.2.1;have e:=hfind g (VO hf).2.2.2.2.2.2 hf;refine⟨r,hr,hh,?_⟩;unfold Jo7;rw[if_pos h,e]
 by_cases hs:Jc1 b g (Jg as) s a w r=true
 ·rw[if_pos hs,if_pos hs]
 ·rw[if_neg hs,if_neg hs]
theorem Jp9 {b g:List Int} {as:List (List Jc)} (hp:Xc (Jg as)=true) (ht:QL b g=true):keeps b g (Jg as) 0 [0,0,0]=true:=by
 have ht':=ht;simp only[QL,JrE,JG,JrR] at ht';unfold keeps;have g0:=ht'.2;have hl:=ht'.1.2;obtain⟨x,hx,hm⟩:=sA1 (show 0<g.length by omega);have e:g.getD (0:Int).toNat 0=x:=by simp[JrH,hx]
 have:=g0 x hm;rw[ht,hp,e];simp only[JrY,JrE,JG,JrR];refine⟨⟨by omega,by decide⟩,fun p hpp=>?_⟩;have h3:p.length=3:=by
  simp only[Xc,JrR,JB] at hp;have:=(hp p hpp).1;omega
 obtain⟨u,v,w,rfl⟩:=JaV h3;unfold Km;rw[JG];simp only[dot,Int.mul_zero,Int.add_zero];omega
end Go.Tm
end
section
namespace Go.Tm
end Go.Tm
end

import Derived.Test.YtgpjnnkmmplicaaGreatDoorTd
set_option linter.unusedVariables false
set_option linter.unusedSimpArgs false
section
namespace Go.Tm
def JZ (ps:List Bool) (a:List Int):Bool:=(a.zip ps).all fun q=>!(q.2 && !decide (q.1=0))
def KU (b g:List Int) (ps:List (List Int)) (s:Int) (a w:List Int) (r:Row):Bool:=r.guards.all fun f=>(JB b g ps s a f w).2.2&&decide (0≤(JB b g ps s a f w).1)
def ovM (b g:List Int) (ps:List (List Int)) (s:Int) (a w:List Int) (v:Nat):Bool:=decide (10000<(JB b g ps s a (Ju v) w).1)||decide ((JB b g ps s a (Ju v) w).2.1 < -10000)
def unM (b g:List Int) (ps:List (List Int)) (s:Int) (a w:List Int) (v:Nat):Bool:=decide ((JB b g ps s a (Ju v) w).1 < -10000)||decide (10000<(JB b g ps s a (Ju v) w).2.1)
structure Jg5 where
 code:Int
 tells:List Int
 adds:List Int
 ok:Bool
def Jg5.ds (r:Jg5):List D:=[dI r.code,.s (dL r.tells),.s (dL r.adds),dB r.ok]
def Yt (b g:List Int) (ps:List (List Int)) (pins:List Bool) (s:Int) (a w:List Int) (r:Row):Jg5 :=
 if r.stop then ⟨2,[],a,true⟩
 else if JZ pins (atL r.adds b w)&&Qh (J7 a (atL r.adds b w)) then
  if [0,1,2].any (ovM b g ps s (J7 a (atL r.adds b w)) w) then ⟨3,[],a,true⟩
  else if [0,1,2].any (unM b g ps s (J7 a (atL r.adds b w)) w) then ⟨0,[],a,false⟩
  else if keeps b g ps s (J7 a (atL r.adds b w)) then ⟨1,atL r.tells b w,J7 a (atL r.adds b w),true⟩
  else ⟨0,[],a,false⟩
 else ⟨0,[],a,false⟩
def QR (as:List (List Jd)) (b g:List Int) (s:Int) (a:List Int) (k:Int) (w:List Int):Bool :=
 QA as&&inB k 0 (as.length-1)&&QL w&&(keeps b g (Jb as) s a&&JZ (Jh as) a)
def KW (as:List (List Jd)) (b g:List Int) (s:Int) (a:List Int) (k:Int) (w:List Int):Jg5 :=
 if QR as b g s a k w then
  match (Jw (as.getD k.toNat [])).find? (KU b g (Jb as) s a w) with
  | some r=>Yt b g (Jb as) (Jh as) s a w r
  | none=>⟨0,[],a,false⟩
 else ⟨0,[],[],false⟩
theorem Jkn {α:Type} {p:α→Bool} {l:List α} {i:Nat} {x:α} (h:l[i]? = some x) (hx:p x=true) (ht:(l.take i).any p=false):l.find? p=some x:=by
 rw[List.find?_eq_some_iff_append];refine⟨hx,l.take i,l.drop (i+1),?_,fun a ha=>?_⟩
 ·obtain⟨hi,rfl⟩:=Jra.1 h;rw[List.getElem_cons_drop,List.take_append_drop]
 ·simp only[List.any_eq_false] at ht;simp[ht a ha]
theorem JeT {α:Type} {p:α→Bool} {l:List α} (h:l.any p=false):l.find? p=none:=by
 rw[List.find?_eq_none];simpa[List.any_eq_false] using h
theorem JgU {α:Type} {p:α→Bool} {l:List α} {k:Nat} {x:α} (h:l[k]? = some x):(l.take (k+1)).any p=((l.take k).any p||p x):=by rw[tS1 h];simp
def YZ (b g:List Int) (ps:List (List Int)) (s:Int) (a:List Int):Bool:=Qu b g&&QV ps&&inB s 0 (g.length-1)&&Qh a
def V9 (f:Frm) (g:List Int) (s:Int):Int:=if f.c=[0,0,0] then 0 else Jm g s
def Jjx (ps:List (List Int)) (f:Frm):Prop:=Ji f.c∈ps∨f.c=[0,0,0]
theorem JlH {b g:List Int} {ps:List (List Int)} {s:Int} {a:List Int} {f:Frm} {w:List Int} (h:YZ b g ps s a=true) (hf:f.ok=true) (hw:QL w=true) (hp:Jjx ps f) :
  JB b g ps s a f w=(atF f (J7 b a) w-V9 f g s,atF f (J7 b a) w+V9 f g s,true):=by
 unfold YZ at h;unfold JB V9;rw[if_pos (by rw[h,hf,hw];rfl)]
 by_cases hz:f.c=[0,0,0]
 ·simp only[if_pos hz,Int.sub_zero,Int.add_zero]
 ·simp only[if_neg hz,if_pos (hp.resolve_right hz)]
theorem YL {b g:List Int} {ps:List (List Int)} {s:Int} {a:List Int} (h:keeps b g ps s a=true):YZ b g ps s a=true:=by
 unfold keeps at h;unfold YZ;simp only[Jq9] at h ⊢;exact h.1
theorem Ve {b g:List Int} {ps:List (List Int)} {s:Int} {a:List Int} (h:YZ b g ps s a=true) :
  Qu b g=true∧QV ps=true∧(0≤s∧s<g.length)∧Qh a=true∧(b.length=3∧Lim 10000 b)∧(a.length=3∧Lim 20000 a)∧(∀x∈g,0≤x∧x≤50):=by
 simp only[YZ,Jq9,JH] at h;obtain⟨⟨⟨h1,h2⟩,h3⟩,h4⟩:=h;have h1':=h1;simp only[Qu,Xb,Jq9,Jy,Jrm,JH] at h1';have h4':=Jy.1 h4;exact⟨h1,h2,by omega,h4,⟨by omega,h1'.1.1.2⟩,⟨by omega,h4'.2⟩,h1'.2⟩
theorem JnO {b g:List Int} {ps:List (List Int)} {s:Int} {a x:List Int} (h:YZ b g ps s a=true) (hx:Qh x=true):YZ b g ps s x=true:=by
 unfold YZ at *;simp only[Jq9] at h ⊢;exact⟨h.1,hx⟩
theorem Jfs {as:List (List Jd)} (h:QA as=true):X7 <+: Jb as:=by
 rw[Jhu h];exact(Jhs _ _ JmT).2.1
theorem Jpa {as:List (List Jd)} (h:QA as=true) {v:Nat} (hv:v<3):Jjx (Jb as) (Ju v):=by
 refine .inl ((Jfs h).subset ?_)
 match v,hv with
 | 0,_ | 1,_ | 2,_=>decide
theorem Jpp (v:Nat):(Ju v).ok=true:=Qw.okF (by omega)
theorem Jiq {g:List Int} {s:Int} {v:Nat} (hv:v<3):V9 (Ju v) g s=Jm g s:=by
 unfold V9;rw[if_neg]
 match v,hv with
 | 0,_ | 1,_ | 2,_=>decide
theorem JcT {as:List (List Jd)} {b g:List Int} {s:Int} {a w:List Int} (h:QA as=true) (hf:YZ b g (Jb as) s a=true) (hw:QL w=true) {v:Nat} (hv:v<3) :
  JB b g (Jb as) s a (Ju v) w=((J7 b a).getD v 0-Jm g s,(J7 b a).getD v 0+Jm g s,true):=by
 rw[JlH hf (Jpp v) hw (Jpa h hv),Jiq hv];obtain⟨_,_,_,_,h5,h6,_⟩:=Ve hf;rw[VQ (by rw[Z2 (by omega)];omega) (by have:=(Jy.1 hw).1;omega) v hv]
theorem Jhd {as:List (List Jd)} {k:Int} (h0:0≤k) (h1:k<as.length):as.getD k.toNat []∈as∧as[k.toNat]? = some (as.getD k.toNat []):=by
 have hk:k.toNat<as.length:=by omega
 have e:as[k.toNat]? = some (as.getD k.toNat []):=by simp[Jrc,hk]
 exact⟨Jrg e,e⟩
theorem UQ {as:List (List Jd)} {b g:List Int} {s:Int} {a:List Int} {k:Int} {w:List Int} :
  QR as b g s a k w=true↔QA as=true∧(0≤k∧k<as.length)∧QL w=true∧keeps b g (Jb as) s a=true∧JZ (Jh as) a=true:=by
 simp only[QR,Jq9,JH];constructor
 ·rintro⟨⟨⟨h1,h2⟩,h3⟩,h4,h5⟩;exact⟨h1,by omega,h3,h4,h5⟩
 ·rintro⟨h1,h2,h3,h4,h5⟩;exact⟨⟨⟨h1,by omega⟩,h3⟩,h4,h5⟩
structure Jbd (g g':List Int) (s:Int):Prop where
 l:g'.length=g.length
 r :∀x∈g',0≤x∧x≤50
 m:g.getD s.toNat 0≤g'.getD s.toNat 0
 o:Jm g' s≤Jm g s
theorem Jbd.fine {b g g':List Int} {ps:List (List Int)} {s:Int} {a:List Int} (h:Jbd g g' s) (hf:YZ b g ps s a=true):YZ b g' ps s a=true:=by
 unfold YZ Qu at *;simp only[Jq9,JH,Jrm,h.l] at hf ⊢;exact⟨⟨⟨⟨hf.1.1.1.1,h.r⟩,hf.1.1.2⟩,hf.1.2⟩,hf.2⟩
theorem Jbd.keeps {b g g':List Int} {ps:List (List Int)} {s:Int} {a:List Int} (h:Jbd g g' s) (hf:Go.Tm.keeps b g ps s a=true):Go.Tm.keeps b g' ps s a=true:=by
 have h1:=h.fine (YL hf);unfold Go.Tm.keeps at *;unfold YZ at h1;rw[h1,Jrt];simp only[Jq9,Jrm,ZX,JH] at hf ⊢;intro p hp;have:=hf.2 p hp;have:=h.m;omega
theorem JgK {as:List (List Jd)} {b g:List Int} {s:Int} {a:List Int} {k:Int} {w:List Int} (h:(KW as b g s a k w).ok=true):QR as b g s a k w=true:=by
 by_cases hl:QR as b g s a k w=true
 ·exact hl
 ·unfold KW at h;rw[if_neg hl] at h;simp at h
theorem JiJ {g:List Int} {s:Int} {i:Nat} {x y:Int} (hx:g[i]? = some x):Jm (g.set i y) s=Jm g s+if(i:Int)=s then 0 else y-x:=by
 have hi:=(Jra.1 hx).1;have key :∀k,k≤g.length→Jm ((g.set i y).take k) s=Jm (g.take k) s+if i<k then(if(i:Int)=s then 0 else y-x) else 0:=by
  intro k
  induction k with
  | zero=>intro _;simp[Jm]
  | succ k ih =>
   intro hk;have ih:=ih (by omega);obtain⟨z,hz,_⟩:=sA1 (show k<g.length by omega)
   by_cases hik:i=k
   ·subst hik;rw[hx] at hz;cases hz;have hy:(g.set i y)[i]? = some y:=by rw[List.getElem?_set];simp[hi]
    rw[Xe hx,Xe hy,ih,if_neg (show ¬i<i by omega),if_pos (show i<i+1 by omega)];split <;> omega
   ·have hy:(g.set i y)[k]? = some z:=by rw[List.getElem?_set,if_neg hik];exact hz
    rw[Xe hz,Xe hy,ih]
    by_cases hlt:i<k
    ·rw[if_pos hlt,if_pos (show i<k+1 by omega)];omega
    ·rw[if_neg hlt,if_neg (show ¬i<k+1 by omega)];omega
 have:=key g.length (Nat.le_refl _);rw[Jrd (Nat.le_refl _),Jrd (by simp),if_pos hi] at this;exact this
theorem JoU {g:List Int} {i:Nat} {y:Int} (hg :∀x∈g,0≤x∧x≤50) (hy:0≤y∧y≤50) :∀x∈g.set i y,0≤x∧x≤50:=by
 intro x hx;rcases Jry hx with h | h
 ·exact hg x h
 ·subst h;exact hy
theorem Jbd.same {g:List Int} {s:Int} (hg :∀x∈g,0≤x∧x≤50):Jbd g g s:=⟨rfl,hg,Int.le_refl _,Int.le_refl _⟩
theorem Jbd.up {g:List Int} {s:Int} {i:Nat} {x:Int} (hg :∀x∈g,0≤x∧x≤50) (hx:g[i]? = some x) (hs:(i:Int)=s) (h:x<50):Jbd g (g.set i (x+1)) s:=by
 have hxx:=hg x (Jrg hx);have hi:=(Jra.1 hx).1;refine⟨by simp,JoU hg (by omega),?_,?_⟩
 ·subst hs;rw[Int.toNat_natCast,Jrc,Jrc,hx,List.getElem?_set];simp[hi];omega
 ·rw[JiJ hx,if_pos hs];omega
end Go.Tm
end
section
namespace Go.Tm
theorem Jpw {b g:List Int} {as:List (List Jd)} (hp:QV (Jb as)=true) (ht:Qu b g=true):keeps b g (Jb as) 0 [0,0,0]=true:=by
 have ht':=ht;simp only[Qu,Jq9,JH,Jrm] at ht';unfold keeps;have g0:=ht'.2;have hl:=ht'.1.2;obtain⟨x,hx,hm⟩:=sA1 (show 0<g.length by omega);have e:g.getD (0:Int).toNat 0=x:=by simp[Jrc,hx]
 have:=g0 x hm;rw[ht,hp,e];simp only[Jrt,Jq9,JH,Jrm];refine⟨⟨by omega,by decide⟩,fun p hpp=>?_⟩;have h3:p.length=3:=by
  simp only[QV,Jrm,Jy] at hp;have:=(hp p hpp).1;omega
 obtain⟨u,v,w,rfl⟩:=Jai h3;unfold ZX;rw[JH];simp only[dot,Int.mul_zero,Int.add_zero];omega
end Go.Tm
end

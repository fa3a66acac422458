import Derived.Test.YtofcmnglieaoeabGreatDoorPM
import Derived.Test.YtofcmnglieaoeabGreatDoorPG
set_option linter.unusedVariables false
set_option linter.unusedSimpArgs false
/- What the program's forms and acts come to. -/
namespace Go.Proofs.YtofcmnglieaoeabGreatDoor
open Go Go.Tm
open Go.IntKind (i64)
theorem JT (l:List Int):Yc 1 (dL l)=true:=by cases l <;> rfl
theorem JpN (l:List Frm):Yc 3 (dF l)=true:=by cases l <;> rfl
theorem Ys (l:List Int) (hl:l.length≤2000000):Ev L f_k3s [.s (dL l)] [.s (dL l)] :=
 Jov L_k3s rfl (JT l) (by rw[dL1];exact hl) (by omega)
theorem Jd6 (a b:List Int) (hl:a.length≤2000000):Ev L f_k3f [.s (dL a),.s (dL b)] [dB (decide (a=b))] :=
 JfU dI .i a b L_k3f rfl (fun _=>rfl) (fun _ _ _ _ _=>rfl) hl
theorem JmQ (f:Frm) (hf:Frm.fit f):Ev L f_k3t f.cells f.cells:=by
 refine JuA (vs:=[.l (dL f.c),.l (dL f.d),.i f.k]) L_k3t rfl ?_;refine Jur (Ys f.c hf.1) rfl rfl rfl ?_;exact Jur (Ys f.d hf.2) rfl rfl rfl (Jue rfl)
theorem YN :∀l:List Int,JH (dL l)=true
 | []=>rfl
 | x::l=>YN l
theorem YF (l:List Frm) (hl:l.length≤2000000) (hf :∀f∈l,Frm.fit f):Ev L f_k3u [.s (dF l)] [.s (dF l)]:=by
 refine JuA (vs:=[.l (dF l)]) L_k3u rfl ?_;refine Jt3 l.length (fun i=>[.l (dF (l.take i)),.i i]) (fun _=>True) rfl rfl trivial fun i hi _=>?_;refine JtY i (J3 l) rfl (fun h=>?_) (fun h=>?_)
 ·obtain⟨x,hx,hm⟩:=sA1 h;refine Juo i (mA1 (f:=Frm.g) hx) rfl rfl rfl rfl ?_;refine Jur (JmQ x (hf x hm)) rfl rfl rfl ?_;refine Juv (YN x.c) (Juv (YN x.d) ?_);refine Jus (dF (l.take i)) 2000000 (by rw[J3];simp;omega) (by omega) rfl ?_;refine Jt4 (vs:=[.l (dF (l.take (i+1))),.i ((i+1:Nat):Int)]) ?_ ⟨h,rfl,trivial⟩;show [V.l (dF (l.take i)++[x.g]),V.i (i64.wrap ((i:Int)+1))]=_;rw[wS h (by omega),Xk,tS1 hx]
 ·refine Juk (Jue ?_);show [D.s (dF (l.take i))]=_;rw[tA1 h]
theorem Jni (l:List Int) (hl:l.length≤2000000):Ev L f_k4w [.s (dL l)] [dB (Q6 l)] :=
 JuA (vs:=[.l (dL l)]) L_k4w rfl (Jur (XE l 2 9 hl (by omega) (by omega)) rfl rfl rfl (Jue rfl))
theorem Y9 (f:Frm) (hf:Frm.fit f):Ev L f_k3v f.cells [dB f.ok]:=by
 refine JuA (vs:=[.l (dL f.c),.l (dL f.d),.i f.k]) L_k3v rfl ?_;refine Jur (XE f.c 3 10000000 hf.1 (by omega) (by omega)) rfl rfl rfl ?_;refine Jud (JF 3 10000000 f.c) rfl (fun h=>?_) (fun h=>Jue ?_)
 ·refine Jur (XE f.d 2 10000000 hf.2 (by omega) (by omega)) rfl rfl rfl ?_;refine Jud (JF 2 10000000 f.d) rfl (fun h2=>?_) (fun h2=>Jue ?_)
  ·refine Jur (Yy f.k (-10000000) 10000000) rfl rfl rfl (Jue ?_);show [dB (inB f.k (-10000000) 10000000)]=_;simp[Frm.ok,h,h2]
  ·show [dB false]=_;simp[Frm.ok,h2]
 ·show [dB false]=_;simp[Frm.ok,h]
theorem Jbr (f:Frm) (hf:Frm.fit f):Ev L f_k3e f.cells [dB f.small]:=by
 refine JuA (vs:=[.l (dL f.c),.l (dL f.d),.i f.k]) L_k3e rfl ?_;refine Jur (XE f.c 3 2 hf.1 (by omega) (by omega)) rfl rfl rfl ?_;refine Jud (JF 3 2 f.c) rfl (fun h=>?_) (fun h=>Jue ?_)
 ·refine Jur (XE f.d 2 2 hf.2 (by omega) (by omega)) rfl rfl rfl ?_;refine Jud (JF 2 2 f.d) rfl (fun h2=>?_) (fun h2=>Jue ?_)
  ·refine Jur (Yy f.k (-20) 20) rfl rfl rfl (Jue ?_);show [dB (inB f.k (-20) 20)]=_;simp[Frm.small,h,h2]
  ·show [dB false]=_;simp[Frm.small,h2]
 ·show [dB false]=_;simp[Frm.small,h]
theorem JoR (f g:Frm) (hf:Frm.fit f):Ev L f_k3g (f.cells++g.cells) [dB (decide (f=g))]:=by
 refine JuA (vs:=[.l (dL f.c),.l (dL f.d),.i f.k,.l (dL g.c),.l (dL g.d),.i g.k]) L_k3g rfl ?_;have e:decide (f=g)=(decide (f.k=g.k)&&decide (f.c=g.c)&&decide (f.d=g.d)):=by
  obtain⟨a,b,c⟩:=f;obtain⟨a',b',c'⟩:=g;simp only[Frm.mk.injEq]
  by_cases h1:a=a' <;> by_cases h2:b=b' <;> by_cases h3:c=c' <;> simp[h1,h2,h3]
 rw[e];refine Jt8 (f.k=g.k) rfl (fun h=>?_) (fun h=>Jue ?_)
 ·refine Jur (Jd6 f.c g.c hf.1) rfl rfl rfl ?_;refine Jud (decide (f.c=g.c)) rfl (fun h2=>?_) (fun h2=>Jue ?_)
  ·refine Jur (Jd6 f.d g.d hf.2) rfl rfl rfl (Jue ?_);show [dB (decide (f.d=g.d))]=_;simp only[h,h2];simp
  ·show [dB false]=_;simp only[h2];simp
 ·show [dB false]=_;simp only[h];simp
theorem JoK (l:Jg) (hf:Frm.fit l.f):Ev L f_k3h l.cells [dB l.ok]:=by
 refine JuA (vs:=[.i l.kind,.i l.pot,.i l.skip,.l (dL l.f.c),.l (dL l.f.d),.i l.f.k]) L_k3h rfl ?_;refine Jt8 (l.kind=1) rfl (fun h1=>?_) (fun h1=>?_)
 ·refine Jur (Yy l.skip 1 6) rfl rfl rfl ?_;refine Jud (inB l.skip 1 6) rfl (fun h3=>?_) (fun h3=>Jue ?_)
  ·refine Jt8 (l.pot=0) rfl (fun h2=>?_) (fun h2=>Jue ?_)
   ·refine Jur (Jbr l.f hf) rfl rfl rfl (Jue ?_);show [dB l.f.small]=_;simp[Jg.ok,h1,h2,h3]
   ·show [dB false]=_;simp[Jg.ok,h1,h2]
  ·show [dB false]=_;simp[Jg.ok,h1,h3]
 refine Jt8 (l.kind=2) rfl (fun h2=>?_) (fun h2=>?_)
 ·refine Jur (Yy l.pot 0 2) rfl rfl rfl ?_;refine Jud (inB l.pot 0 2) rfl (fun h3=>?_) (fun h3=>Jue ?_)
  ·refine Jt8 (l.skip=0) rfl (fun h4=>?_) (fun h4=>Jue ?_)
   ·refine Jur (Jbr l.f hf) rfl rfl rfl (Jue ?_);show [dB l.f.small]=_;simp[Jg.ok,h2,h3,h4]
   ·show [dB false]=_;simp[Jg.ok,h2,h4]
  ·show [dB false]=_;simp[Jg.ok,h2,h3]
 refine Jt8 (l.kind=3) rfl (fun h3=>?_) (fun h3=>?_)
 ·refine Jt8 (l.pot=0) rfl (fun h4=>?_) (fun h4=>Jue ?_)
  ·refine Jt8 (l.skip=0) rfl (fun h5=>?_) (fun h5=>Jue ?_)
   ·refine Jur (Jbr l.f hf) rfl rfl rfl (Jue ?_);show [dB l.f.small]=_;simp[Jg.ok,h3,h4,h5]
   ·show [dB false]=_;simp[Jg.ok,h3,h5]
  ·show [dB false]=_;simp[Jg.ok,h3,h4]
 refine Jt8 (l.kind=4) rfl (fun h4=>?_) (fun h4=>Jue ?_)
 ·refine Jt8 (l.pot=0) rfl (fun h5=>?_) (fun h5=>Jue ?_)
  ·refine Jt8 (l.skip=0) rfl (fun h6=>?_) (fun h6=>Jue ?_)
   ·refine Jur (JoR l.f Frm.none hf) rfl rfl rfl (Jue ?_);show [dB (decide (l.f=Frm.none))]=_;have e:decide (l.f=Frm.none)=(decide (((l.f.c.length:Int)+l.f.d.length)=0)&&decide (l.f.k=0)):=by
     obtain⟨a,b,c⟩:=l.f;have e1:(Frm.mk a b c=Frm.none)↔((((a.length:Int)+b.length)=0)∧c=0):=by
      simp only[Frm.none,Frm.mk.injEq];constructor
      ·rintro⟨rfl,rfl,rfl⟩;exact⟨rfl,rfl⟩
      ·rintro⟨h,rfl⟩;exact⟨List.length_eq_zero_iff.1 (by omega),List.length_eq_zero_iff.1 (by omega),rfl⟩
     by_cases h:Frm.mk a b c=Frm.none
     ·have:=e1.1 h;rw[decide_eq_true h,decide_eq_true this.1,decide_eq_true this.2];rfl
     ·rw[decide_eq_false h]
      symm
      rw[Bool.and_eq_false_iff]
      by_cases h1:((a.length:Int)+b.length)=0
      ·right;simp only[decide_eq_false_iff_not];intro h2;exact h (e1.2 ⟨h1,h2⟩)
      ·left;simpa using h1
    rw[e];simp only[Jg.ok,h4,h5,h6];simp
   ·show [dB false]=_;simp[Jg.ok,h4,h6]
  ·show [dB false]=_;simp[Jg.ok,h4,h5]
 ·show [dB false]=_;simp[Jg.ok,h1,h2,h3,h4]
theorem JjK {a:List Jg} {i:Nat} {x:Jg} (hx:a[i]? = some x):Yi (a.take (i+1))=Yi (a.take i)+if x.kind=1 then 1 else 0:=by
 rw[tS1 hx];simp[Yi,List.countP_append,List.countP_cons]
theorem JeQ (a:List Jg) (ha:KF a):Ev L f_k3i [.s (Jk a)] [dB (Qt a)]:=by
 have hlen:=ha.1;refine JuA (vs:=[.l (Jk a)]) L_k3i rfl ?_;refine Jt3 a.length (fun i=>[.i (Yi (a.take i)),.i i]) (fun i=>(a.take i).all Jg.ok=true) rfl rfl (by simp) fun i hi hal=>?_;have htl:Yi (a.take i)≤a.length:=Nat.le_trans List.countP_le_length (by simp;omega);refine JtY i (JM a) rfl (fun h=>?_) (fun h=>?_)
 ·obtain⟨x,hx,hm⟩:=sA1 h;refine Juo i (mA1 (f:=Jg.g) hx) rfl rfl rfl rfl ?_;refine Jur (JoK x (ha.2 x hm)) rfl rfl rfl ?_;refine Jum x.ok rfl (fun hb=>Juk (Jue ?_)) (fun hb=>?_)
  ·show [dB false]=_;simp[Qt,Yl hx hb]
  ·have ht:=JjK hx;refine Jt8 (x.kind=1) rfl (fun h1=>?_) (fun h1=>?_)
   ·refine Jt4 (vs:=[.i (Yi (a.take (i+1))),.i ((i+1:Nat):Int)]) ?_ ⟨h,rfl,QY hx hal hb⟩;show [V.i (i64.wrap ((Yi (a.take i):Int)+1)),V.i (i64.wrap ((i:Int)+1))]=_;rw[wS h (by omega),w64 (by omega) (by omega),ht,if_pos h1];rfl
   ·refine Jt4 (vs:=[.i (Yi (a.take (i+1))),.i ((i+1:Nat):Int)]) ?_ ⟨h,rfl,QY hx hal hb⟩;show [V.i (Yi (a.take i):Int),V.i (i64.wrap ((i:Int)+1))]=_;rw[wS h (by omega),ht,if_neg h1];rfl
 ·rw[tA1 h] at hal htl ⊢;refine Juk ?_;refine Jt8 (((Jk a).length:Int)≤6) rfl (fun h6=>Jue ?_) (fun h6=>Jue ?_)
  ·rw[JM] at h6;show [dB (decide ((Yi a:Int)≤3))]=_;simp only[Qt,hal,h6];simp
  ·rw[JM] at h6;show [dB false]=_;simp only[Qt,h6];simp
theorem U1:Ev L f_k3q [] Frm.zero.cells:=JuA (vs:=[]) L_k3q rfl (Jue rfl)
theorem JgQ (v:Int) (h0:0≤v) (h2:v≤2):Ev L f_k3r [dI v] (JA v.toNat).cells:=by
 refine JuA (vs:=[.i v]) L_k3r rfl ?_;refine Jur (Yy v 0 2) rfl rfl rfl ?_;refine Juq (by show (!(inB v 0 2))=false;simp[inB,h0,h2]) ?_;refine Jur U1 rfl rfl rfl ?_;refine Juf (0≤v) rfl h0 ?_;refine Juf (v<((dL [0,0,0]).length:Int)) rfl (by simp[dL];omega) ?_;refine Jug (ds:=dL [0,0,0]) v rfl rfl rfl h0 (JY h0 (by simp;omega)) rfl ?_;refine Jue ?_;show [D.s ((dL [0,0,0]).set v.toNat (dI 1)),.s (dL [0,0]),dI 0]=_;rw[QM];rfl
def Jed (a b:List Int) (n:Int):List Int:=Qi a b n++a.drop b.length
theorem JkY {a b:List Int} {n:Int} (h:b.length=a.length):Jed a b n=Qi a b n:=by simp[Jed,h]
theorem JoP (a:List Int) (n:Int):Jed a [] n=a:=by simp[Jed,Qi]
theorem Jfm {a b:List Int} {n:Int} {i:Nat} {x y:Int} (hl:b.length≤a.length) (hx:a[i]? = some x) (hy:b[i]? = some y) :
  (Qi a (b.take i) n++a.drop i)[i]? = some x∧(Qi a (b.take i) n++a.drop i).set i (x+n*y)=Qi a (b.take (i+1)) n++a.drop (i+1):=by
 have hi:=(JuE.1 hy).1;have h1:(Qi a (b.take i) n).length=i:=by rw[UW];simp;omega
 have hz :∀(l:List Int),l.length=i→Qi a l n=Qi (a.take i) l n:=by
  intro l hl;unfold Qi
  conv=>lhs;rw[←List.take_append_drop i a]
  rw[show l=l++[] by simp];rw[List.zipWith_append (by simp;omega)];simp
 refine⟨by rw[Ju5 (by omega),h1,Nat.sub_self,List.getElem?_drop,Nat.add_zero];exact hx,?_⟩;rw[List.set_append_right _ _ (by omega),h1,Nat.sub_self,XF hx,List.set_cons_zero,tS1 hy];have h2:Qi a (b.take i++[y]) n=Qi a (b.take i) n++[x+n*y]:=by
  unfold Qi
  conv=>lhs;rw[←List.take_append_drop i a]
  rw[List.zipWith_append (by simp;omega),XF hx]
  congr 1
  ·have:=hz (b.take i) (by simp;omega);unfold Qi at this;exact this.symm
  ·simp
 rw[h2,List.append_assoc];rfl
theorem Jnv {a b:Frm} {n M:Int} (hac:Lim M a.c) (had:Lim M a.d) (hak : -M≤a.k∧a.k≤M) (hbc:Lim M b.c) (hbd:Lim M b.d) (hbk : -M≤b.k∧b.k≤M) (hl:b.c.length≤a.c.length) (hl2:b.d.length≤a.d.length) (h9:a.c.length≤1000) (h92:a.d.length≤1000)
  (hM:M≤1000000000) (hn : -1000000000≤n∧n≤1000000000) :
  Ev L f_k3z (a.cells++b.cells++[dI n]) [dI (a.k+n*b.k),.s (dL (Jed a.c b.c n)),.s (dL (Jed a.d b.d n))]:=by
 refine JuA (vs:=[.l (dL a.c),.l (dL a.d),.i a.k,.l (dL b.c),.l (dL b.d),.i b.k,.i n]) L_k3z rfl ?_;refine Jt3 b.c.length (fun i=>[.l (dL (Qi a.c (b.c.take i) n++a.c.drop i)),.i i]) (fun _=>True) rfl (by simp[Qi,den,Jn,V.int]) trivial fun i hi _=>?_;simp only[sC,sN];refine JtY i (dL1 b.c) rfl (fun h=>?_) (fun h=>?_)
 ·obtain⟨x,hx,hmx⟩:=sA1 (show i<a.c.length by omega);obtain⟨y,hy,hmy⟩:=sA1 h;obtain⟨s1,s2⟩:=Jfm (n:=n) hl hx hy;refine Juo i (mA1 (f:=dI) hy) rfl rfl rfl rfl ?_;refine Jux i (mA1 (f:=dI) s1) rfl rfl rfl rfl rfl rfl ?_;refine Jux i (mA1 (f:=dI) s1) rfl rfl rfl rfl rfl rfl ?_;refine Jt4 (vs:=[.l (dL (Qi a.c (b.c.take (i+1)) n++a.c.drop (i+1))),.i ((i+1:Nat):Int)]) ?_ ⟨h,rfl,trivial⟩;show [V.l ((dL (Qi a.c (b.c.take i) n++a.c.drop i)).set (i:Int).toNat (dI (i64.wrap (x+i64.wrap (n*y))))),V.i (i64.wrap ((i:Int)+1))]=_;rw[wS h (by omega),Wa (hac x hmx) (hbc y hmy) hn hM (by omega),QM,Int.toNat_natCast,s2]
 refine Juk ?_;have hc:Qi a.c (b.c.take i) n++a.c.drop i=Jed a.c b.c n:=by rw[tA1 h,show i=b.c.length by omega];rfl
 rw[hc];refine Jt3 b.d.length (fun i=>[.l (dL (Qi a.d (b.d.take i) n++a.d.drop i)),.i i]) (fun _=>True) rfl (by simp[Qi,den,Jn,V.int]) trivial fun i hi _=>?_;simp only[sC,sN];refine JtY i (dL1 b.d) rfl (fun h=>?_) (fun h=>?_)
 ·obtain⟨x,hx,hmx⟩:=sA1 (show i<a.d.length by omega);obtain⟨y,hy,hmy⟩:=sA1 h;obtain⟨s1,s2⟩:=Jfm (n:=n) hl2 hx hy;refine Juo i (mA1 (f:=dI) hy) rfl rfl rfl rfl ?_;refine Jux i (mA1 (f:=dI) s1) rfl rfl rfl rfl rfl rfl ?_;refine Jux i (mA1 (f:=dI) s1) rfl rfl rfl rfl rfl rfl ?_;refine Jt4 (vs:=[.l (dL (Qi a.d (b.d.take (i+1)) n++a.d.drop (i+1))),.i ((i+1:Nat):Int)]) ?_ ⟨h,rfl,trivial⟩;show [V.l ((dL (Qi a.d (b.d.take i) n++a.d.drop i)).set (i:Int).toNat (dI (i64.wrap (x+i64.wrap (n*y))))),V.i (i64.wrap ((i:Int)+1))]=_;rw[wS h (by omega),Wa (had x hmx) (hbd y hmy) hn hM (by omega),QM,Int.toNat_natCast,s2]
 refine Juk (Jue ?_);have hd:Qi a.d (b.d.take i) n++a.d.drop i=Jed a.d b.d n:=by rw[tA1 h,show i=b.d.length by omega];rfl
 show [dI (i64.wrap (a.k+i64.wrap (n*b.k))),.s (dL (Jed a.c b.c n)),.s (dL (Qi a.d (b.d.take i) n++a.d.drop i))]=_;rw[hd,Wa hak hbk hn hM (by omega)]
theorem Jco {a b:Frm} {n M:Int} (ha:Std M a) (hb:Std M b) (hM:M≤1000000000) (hn : -1000000000≤n∧n≤1000000000) :
  Ev L f_k3z (a.cells++b.cells++[dI n]) [dI (JW a b n).k,.s (dL (JW a b n).c),.s (dL (JW a b n).d)]:=by
 have:=Jnv (n:=n) ha.lc ha.ld ha.k hb.lc hb.ld hb.k (by rw[ha.c,hb.c];omega) (by rw[ha.d,hb.d];omega) (by rw[ha.c];omega) (by rw[ha.d];omega) hM hn;rw[JkY (by rw[ha.c,hb.c]),JkY (by rw[ha.d,hb.d])] at this;exact this
theorem WN {f:Frm} {M:Int} (hf:Std M f) (hM:M≤10000000):Ev L f_k40 f.cells f.cells:=by
 refine JuA (vs:=[.l (dL f.c),.l (dL f.d),.i f.k]) L_k40 rfl ?_;have e:=Y9 f hf.fit;rw[hf.okF hM] at e;exact Jur e rfl rfl rfl (Juq rfl (Jue rfl))
theorem Jfz {f:Frm} {M n:Int} (hf:Std M f) (hM:M≤10000000) (hn : -1≤n∧n≤1) (h0:0≤M):Ev L f_k42 (f.cells++[dI n]) (JW Frm.zero f n).cells:=by
 refine JuA (vs:=[.l (dL f.c),.l (dL f.d),.i f.k,.i n]) L_k42 rfl ?_;have e:=Y9 f hf.fit;rw[hf.okF hM] at e;refine Jur e rfl rfl rfl (Juq rfl ?_);refine Jur (Yy n (-10000000) 10000000) rfl rfl rfl ?_;refine Juq (by show (!(inB n (-10000000) 10000000))=false;simp[inB];omega) ?_;refine Jur U1 rfl rfl rfl ?_;refine Jur (Jco (Xt.mono h0) hf (by omega) (n:=n) (by omega)) rfl rfl rfl ?_;have hs:=QV Xt hf (n:=n) (N:=1) (by omega);exact Jur (WN (hs.mono (by omega)) hM) rfl rfl rfl (Jue rfl)
theorem JdF {f g:Frm} {M N:Int} (hf:Std M f) (hg:Std N g) (n:Int):JW f (JW Frm.zero g n) 1=JW f g n:=by
 obtain⟨c,d,k⟩:=f;obtain⟨c',d',k'⟩:=g;obtain⟨a1,a2,a3,rfl⟩:=Jaa hf.c;obtain⟨b1,b2,rfl⟩:=Jh0 hf.d;obtain⟨a1',a2',a3',rfl⟩:=Jaa hg.c;obtain⟨b1',b2',rfl⟩:=Jh0 hg.d;simp[JW,Qi,Frm.zero]
theorem JkC {f g:Frm} {M:Int} (hf:Std M f) (hg:Std M g) (h0:0≤M) (hM:2*M≤10000000):Ev L f_k43 (f.cells++g.cells) (JW f g 1).cells:=by
 refine JuA (vs:=[.l (dL f.c),.l (dL f.d),.i f.k,.l (dL g.c),.l (dL g.d),.i g.k]) L_k43 rfl ?_;have e:=Y9 f hf.fit;rw[hf.okF (by omega)] at e;have e2:=Y9 g hg.fit;rw[hg.okF (by omega)] at e2;refine Jur e rfl rfl rfl (Juq rfl ?_);refine Jur e2 rfl rfl rfl (Juq rfl ?_);refine Jur U1 rfl rfl rfl ?_;have e3:=Jco (Xt.mono h0) hf (by omega) (n:=1) (by omega);rw[Jfi hf] at e3;refine Jur e3 rfl rfl rfl ?_;simp only[sC,sN];refine Jur (Jco hf hg (by omega) (n:=1) (by omega)) rfl rfl rfl ?_;have hs:=QV hf hg (n:=1) (N:=1) (by omega);exact Jur (WN hs (by omega)) rfl rfl rfl (Jue rfl)
/- What the program's ways through an act come to. -/
theorem Jgp (f:Frm) (hf:Frm.fit f):Ev L f_k3y f.cells [dB (!f.ok)] :=
 JuA (vs:=[.l (dL f.c),.l (dL f.d),.i f.k]) L_k3y rfl (Jur (Y9 f hf) rfl rfl rfl (Jue rfl))
theorem Jff (p:Frm→Bool) (l:List Frm) {fn:FuncId} {caps:List D} (hlen:l.length≤2000000) (hcap:XJ (.f fn caps) = .f fn caps) (har:arT L fn=some ([some 3]++caps.map fun _=>none))
  (hc :∀x∈l,Ev L fn (x.cells++caps.map D.norm) [dB (p x)]):Ev L f_k3x [.s (dF l),.f fn caps] [dB (l.any p)] :=
 Zj (g := f_k3w) L_k3x rfl hcap
   (ZZ (sh:= .g [.s,.s,.i .i64]) (as:=[(.s (.v 3)),(.s (.v 4)),(.vi .i64 (.v 5))]) (ar:=[some 3]) (k:=6) Frm.g p Frm.cells (fun x=>[.l (dL x.c),.l (dL x.d),.i x.k]) l
     L_k3w rfl hlen hcap (fun _ _=>rfl) (fun _ _=>rfl) (fun _ _ _ _=>rfl) har hc)
def Jf2 (f:Frm) (pots:List Frm) (i:Nat):Frm:=(List.zip (pots.take i) (f.c.take i)).foldl (fun x q=>JW x q.1 q.2) Frm.zero
theorem JfQ {f:Frm} {pots:List Frm} {i:Nat} {p:Frm} {n:Int} (hp:pots[i]? = some p) (hn:f.c[i]? = some n):Jf2 f pots (i+1)=JW (Jf2 f pots i) p n:=by
 have h1:=(JuE.1 hp).1;have h2:=(JuE.1 hn).1;simp only[Jf2];rw[tS1 hp,tS1 hn,List.zip_append (by simp;omega),List.foldl_append];rfl
theorem Joq {f:Frm} {pots:List Frm} {M:Int} (hf:f.small=true) (hp :∀p∈pots,Std M p) (hl:pots.length=3) (h0:0≤M) (i:Nat) (hi:i≤3):Std (2*M*i) (Jf2 f pots i):=by
 obtain⟨h1,h2,h3,h4,h5⟩:=XG hf
 induction i with
 | zero=>exact Xt.mono (by omega)
 | succ i ih =>
  have ih:=ih (by omega);obtain⟨p,hp1,hp2⟩:=sA1 (show i<pots.length by omega);obtain⟨n,hn1,hn2⟩:=sA1 (show i<f.c.length by omega);rw[JfQ hp1 hn1];have:=QV ih (hp _ hp2) (h3 _ hn2);refine this.mono ?_
  push_cast
  rw[Int.mul_add];omega
theorem Jmt {f:Frm} {pots:List Frm} {M:Int} (hf:f.small=true) (hp :∀p∈pots,Std M p) (hl:pots.length=3) :
  Js f pots=⟨(Jf2 f pots 3).c,Jed (Jf2 f pots 3).d f.d 1,(Jf2 f pots 3).k+1*f.k⟩:=by
 obtain⟨h1,h2,_⟩:=XG hf
 match pots,hl with
 | [⟨c,d,k⟩,⟨c',d',k'⟩,⟨c'',d'',k''⟩],_ =>
  have s1:=hp ⟨c,d,k⟩ (by simp);have s2:=hp ⟨c',d',k'⟩ (by simp);have s3:=hp ⟨c'',d'',k''⟩ (by simp);obtain⟨fc,fd,fk⟩:=f;obtain⟨x,y,z,rfl⟩:=Jaa h1;obtain⟨u,v,rfl⟩:=Jh0 h2;obtain⟨a1,a2,a3,rfl⟩:=Jaa s1.c;obtain⟨b1,b2,rfl⟩:=Jh0 s1.d;obtain⟨a1',a2',a3',rfl⟩:=Jaa s2.c;obtain⟨b1',b2',rfl⟩:=Jh0 s2.d;obtain⟨a1'',a2'',a3'',rfl⟩:=Jaa s3.c;obtain⟨b1'',b2'',rfl⟩:=Jh0 s3.d;simp[Js,Jf2,JW,Qi,Jed,Frm.zero];omega
theorem Jof {f:Frm} {pots:List Frm} {M:Int} (hf:f.small=true) (hl:pots.length=3) (hp :∀p∈pots,Std M p) (h0:0≤M) (hM:M≤1000000) :
  Ev L f_k41 (f.cells++[.s (dF pots)]) (Js f pots).cells:=by
 obtain⟨f1,f2,f3,f4,f5⟩:=XG hf;have hfs:=Jfh hf;refine JuA (vs:=[.l (dL f.c),.l (dL f.d),.i f.k,.l (dF pots)]) L_k41 rfl ?_;have e:=Y9 f hfs.fit;rw[hfs.okF (by omega)] at e;refine Jur e rfl rfl rfl (Juq rfl ?_);refine Jt8 (¬(pots.length:Int)=3) ?_ (fun h=>by omega) (fun _=>?_)
 ·show (!(decide (((dF pots).length:Int)=3)))=_;rw[J3];simp
 have hany:pots.any (fun p=>!p.ok)=false:=by
  rw[List.any_eq_false];intro p hpm;rw[(hp p hpm).okF (by omega)];simp
 have e2:=Jff (fun p=>!p.ok) pots (fn:=f_k3y) (caps:=[]) (by omega) rfl rfl fun p hpm=>by
  rw[List.map_nil,List.append_nil];exact Jgp p (hp p hpm).fit
 rw[hany] at e2;refine Jur e2 rfl rfl rfl (Juq rfl ?_);refine Jur U1 rfl rfl rfl ?_;simp only[sC,sN];have hstd:=Joq hf hp hl h0;refine Jui 3 (fun i vs=>∃ a:Frm,a=Jf2 f pots i∧vs=[.l (dL a.c),.l (dL a.d),.i i,.i a.k]) rfl ⟨Frm.zero,rfl,rfl⟩ ?_;rintro i _ hi ⟨a,ha,rfl⟩;have hs:=hstd i hi;rw[←ha] at hs;simp only[sC,sN];refine JtY i (J3 pots) rfl (fun h=>?_) (fun h=>?_)
 ·obtain⟨p,hp1,hp2⟩:=sA1 h;obtain⟨n,hn1,hn2⟩:=sA1 (show i<f.c.length by omega);refine Juo i (mA1 (f:=Frm.g) hp1) rfl rfl rfl rfl ?_;refine Juo i (mA1 (f:=dI) hn1) rfl rfl rfl rfl ?_;have hb:2*M*(i:Int)≤2*M*3:=Int.mul_le_mul_of_nonneg_left (by omega) (by omega);have hn:=f3 n hn2;refine Jur (Jco (M:=6*M) (hs.mono (by omega)) ((hp p hp2).mono (by omega)) (by omega) (n:=n) (by omega)) rfl rfl rfl ?_;have hA:=JfQ hp1 hn1;rw[←ha] at hA;refine Jt4 (vs:=[.l (dL (JW a p n).c),.l (dL (JW a p n).d),.i ((i+1:Nat):Int),.i (JW a p n).k]) ?_ ⟨by omega,JW a p n,hA.symm,rfl⟩;show [V.l (dL (JW a p n).c),.l (dL (JW a p n).d),.i (i64.wrap ((i:Int)+1)),.i (JW a p n).k]=_;rw[wS h (by omega)]
 ·refine Juk ?_;have hi3:i=3:=by omega
  subst hi3;have e3:=Jnv (a:=a) (b:=⟨[],f.d,f.k⟩) (n:=1) (M:=6*M+20) (hs.lc.mono (by omega)) (hs.ld.mono (by omega)) (by have:=hs.k;omega) (by intro x hx;simp at hx) (hfs.ld.mono (by omega)) (by have:=hfs.k;show -(6*M+20)≤f.k∧f.k≤6*M+20;omega)
   (by simp) (by show f.d.length≤a.d.length;rw[hs.d];omega) (by rw[hs.c];omega) (by rw[hs.d];omega) (by omega) (by omega)
  refine Jur e3 rfl rfl rfl ?_;simp only[sC,sN];have hin:=Jmt hf hp hl;rw[←ha] at hin;have hic:=Vj hf hl hp h0;rw[JoP];have e4:=WN hic (by omega);rw[hin] at e4 ⊢;exact Jur e4 rfl rfl rfl (Jue rfl)
theorem JdP (l:List Row) (r:Row):Qk l++[r.g]=Qk (l++[r]):=by simp[Qk]
theorem Jf3 {l:List Frm} {M:Int} (h :∀f∈l,Std M f) :∀f∈l,Frm.fit f:=fun f hf=>(h f hf).fit
set_option maxHeartbeats 2000000 in
theorem JpK {act:List Jg} (hact:QF act) :∀(n:Nat) (at_:Int) (p g t:List Frm) (rows:List Row) (j:Nat),0≤at_→at_≤20→act.length-at_.toNat=n→(j:Int)≤at_→j≤6 →
  p.length=3→(∀f∈p,Std (Bd j) f)→g.length≤j→(∀f∈g,Std 10000000 f)→t.length≤j→(∀f∈t,Std 10000000 f)→rows.length+(walk (act.drop at_.toNat) p g t).length≤1000 →
  Ev L f_k44 [.s (Jk act),.s (Qk rows),dI at_,.s (dF g),.s (dF p),.s (dF t)] [.s (Jk act),.s (Qk (rows++walk (act.drop at_.toNat) p g t))]:=by
 intro n
 induction n using Nat.strongRecOn with
 | _ n ih =>
  intro at_ p g t rows j a0 a20 hn hj hj6 hp sp hg sg ht st hlen;have hal:=hact.len;refine JuA (vs:=[.l (Jk act),.l (Qk rows),.i at_,.l (dF g),.l (dF p),.l (dF t)]) L_k44 rfl ?_;refine Jt6 (fun m vs=>∃ (i:Int) (p' g' t':List Frm) (rs:List Row) (j':Nat),vs=[.l (Qk rs),.i i,.l (dF g'),.l (dF p'),.l (dF t'),.l (Jk act)]∧at_≤i∧i≤20∧m=act.length-i.toNat∧(j':Int)≤i∧j≤j'∧j'≤6∧p'.length=3∧(∀f∈p',Std (Bd j') f)∧g'.length≤j'∧(∀f∈g',Std 10000000 f)∧t'.length≤j'∧(∀f∈t',Std 10000000 f) ∧
   rs++walk (act.drop i.toNat) p' g' t'=rows++walk (act.drop at_.toNat) p g t) rfl (act.length-at_.toNat) ⟨at_,p,g,t,rows,j,rfl,by omega,a20,rfl,hj,by omega,hj6,hp,sp,hg,sg,ht,st,rfl⟩ ?_
  rintro m _ ⟨i,p',g',t',rs,j',rfl,ai,i20,hm,hj',hjj,hj6',hp',sp',hg',sg',ht',st',hw⟩;simp only[sC,sN];have hlen':rs.length+(walk (act.drop i.toNat) p' g' t').length≤1000:=by
   rw[←JuJ,hw,JuJ];exact hlen
  rw[←hw];clear hw hlen;have hB:=JhT hj6';have hB0:=Y6 j';have fg:=Jf3 sg';have fp:=Jf3 sp';have ft:=Jf3 st';refine Jt8 (i<((Jk act).length:Int)) rfl (fun hi=>?_) (fun hi=>?_)
  ·rw[JM] at hi;obtain⟨l,hl,hd⟩:=Vg (a:=act) (i:=i) (by omega) hi;have hok:=hact.ok l (JuK hl);have hdr:=XF hl;have hs1:(i+1).toNat=i.toNat+1:=by omega
   refine Jug (ds:=Jk act) i rfl rfl rfl (by omega) hd rfl ?_;simp only[sC,sN];refine Jt8 (l.kind=4) rfl (fun h4=>?_) (fun h4=>?_)
   ·refine Jur (YF g' (by omega) fg) rfl rfl rfl ?_;refine Jus (Qk rs) 1000 (by rw[X7];omega) (by omega) rfl ?_;refine Juk (Jue ?_);show [D.s (Jk act),D.s (Qk rs++[Row.g ⟨g',[],[],true⟩])]=_;rw[JdP,hdr,walk,if_pos h4]
   have hsm:=Jhx hok h4;have hin:=Vj hsm hp' sp' hB0;have hin7:Std 10000000 (Js l.f p'):=hin.mono (by omega);refine Jur (Jof hsm hp' sp' hB0 (by omega)) rfl rfl rfl ?_;simp only[sC,sN];have hj5:j'<6:=by omega
   refine Jt8 (l.kind=1) rfl (fun h1=>?_) (fun h1=>?_)
   ·have hsk:=Jcs hok h1;have hwk:walk (act.drop i.toNat) p' g' t'=walk (act.drop (i+1).toNat) p' (g'++[Js l.f p']) t'++walk (act.drop (i+l.skip+1).toNat) p' (g'++[QT (Js l.f p')]) t':=by
     rw[hdr,walk,if_neg h4,if_pos h1,List.drop_drop,hs1,show i.toNat+1+l.skip.toNat=(i+l.skip+1).toNat by omega]
    have hmin:Std 10000000 (QT (Js l.f p')):=(Wr hin).mono (by omega);have spB :∀f∈p',Std (Bd (j'+1)) f:=fun f hf=>(sp' f hf).mono (Kp (by omega));rw[hwk,JuJ] at hlen';rw[hwk];have hns:=QV Xt hin (n:=-1) (N:=1) (by omega);generalize hF:Js l.f p'=F at *;refine Jur (YF g' (by omega) fg) rfl rfl rfl ?_;refine Jus (dF g') 1000 (by rw[J3];omega) (by omega) rfl ?_;refine Jur (YF p' (by omega) fp) rfl rfl rfl ?_;refine Jur (YF t' (by omega) ft) rfl rfl rfl ?_;simp only[sC,sN];have e1:=ih (act.length-(i+1).toNat) (by omega) (i+1) p' (g'++[F]) t' rs (j'+1) (by omega) (by omega) rfl (by omega) (by omega) hp' spB (by simp;omega) (KQ sg' hin7) (by omega) st' (by omega);refine Jur e1 rfl ?_ rfl ?_
    ·show [D.s (Jk act),.s (Qk rs),dI (i64.wrap (i+1)),.s (dF g'++[F.g]),.s (dF p'),.s (dF t')]=_;rw[Xk,w64 (by omega) (by omega)]
    simp only[sC,sN];refine Jur (Jfz hin7 (by omega) (n:=-1) (by omega) (by omega)) rfl rfl rfl ?_;refine Jur (YF g' (by omega) fg) rfl rfl rfl ?_;refine Jus (dF g') 1000 (by rw[J3];omega) (by omega) rfl ?_;simp only[sC,sN];refine Jt4 (vs:=[.l (Qk (rs++walk (act.drop (i+1).toNat) p' (g'++[F]) t')),.i (i+l.skip+1),.l (dF (g'++[QT F])),.l (dF p'),.l (dF t'),.l (Jk act)]) ?_
     ⟨act.length-(i+l.skip+1).toNat,by omega,i+l.skip+1,p',g'++[QT F],t',_,j'+1,rfl,by omega,by omega,rfl,by omega,by omega,by omega,hp',spB,by simp;omega,KQ sg' hmin,by omega,st',?_⟩
    ·have hk:=hns.k;show [V.l (Qk (rs++walk (act.drop (i+1).toNat) p' (g'++[F]) t')),V.i (i64.wrap (i64.wrap (i+l.skip)+1)),V.l (dF g'++[Frm.g ⟨(JW Frm.zero F (-1)).c,(JW Frm.zero F (-1)).d,i64.wrap ((JW Frm.zero F (-1)).k-1)⟩]),V.l (dF p'),V.l (dF t'),V.l (Jk act)]=_;rw[Xk,w64 (n:=i+l.skip) (by omega) (by omega),w64 (n:=i+l.skip+1) (by omega) (by omega),w64 (n:=(JW Frm.zero F (-1)).k-1) (by omega) (by omega)];rfl
    ·rw[List.append_assoc]
   refine Jt8 (l.kind=2) rfl (fun h2=>?_) (fun h2=>?_)
   ·have hpt:=Jgo hok h2;have hlt:l.pot.toNat<p'.length:=by omega
    obtain⟨hm1,hm2⟩:=Ji0 hlt;have hdg:(dF p')[l.pot.toNat]? = some (p'.getD l.pot.toNat Frm.none).g:=mA1 (f:=Frm.g) hm2;have hwk:walk (act.drop i.toNat) p' g' t'=walk (act.drop (i+1).toNat) (p'.set l.pot.toNat (JW (p'.getD l.pot.toNat Frm.none) (Js l.f p') 1)) g' t':=by
     rw[hdr,walk,if_neg h4,if_neg h1,if_pos h2,hs1]
    rw[hwk];have hsum:Std (Bd (j'+1)) (JW (p'.getD l.pot.toNat Frm.none) (Js l.f p') 1):=(QV (sp' _ hm1) hin (n:=1) (N:=1) (by omega)).mono (by simp only[Bd];omega);have hsp1:=sp' _ hm1;generalize p'.getD l.pot.toNat Frm.none=q at *;generalize Js l.f p'=F at *;refine Jur (YF p' (by omega) fp) rfl rfl rfl ?_;refine Juf (0≤l.pot) rfl hpt.1 ?_;refine Juf (l.pot<((dF p').length:Int)) rfl (by rw[J3];omega) ?_;refine Jug (ds:=dF p') l.pot rfl rfl rfl hpt.1 hdg rfl ?_;simp only[sC,sN];refine Jur (JkC (M:=5000000) (hsp1.mono (by omega)) (hin.mono (by omega)) (by omega) (by omega)) rfl rfl rfl ?_;refine Juf (0≤l.pot) rfl hpt.1 ?_;refine Juf (l.pot<((dF p').length:Int)) rfl (by rw[J3];omega) ?_;refine Jug (ds:=dF p') l.pot rfl rfl rfl hpt.1 hdg rfl ?_;simp only[sC,sN];refine Jt4 (vs:=[.l (Qk rs),.i (i+1),.l (dF g'),.l (dF (p'.set l.pot.toNat (JW q F 1))),.l (dF t'),.l (Jk act)]) ?_
     ⟨act.length-(i+1).toNat,by omega,i+1,p'.set l.pot.toNat (JW q F 1),g',t',rs,j'+1,rfl,by omega,by omega,rfl,by omega,by omega,by omega,by simp[hp'],?_,by omega,sg',by omega,st',rfl⟩
    ·show [V.l (Qk rs),V.i (i64.wrap (i+1)),V.l (dF g'),V.l ((dF p').set l.pot.toNat (JW q F 1).g),V.l (dF t'),V.l (Jk act)]=_;rw[w64 (by omega) (by omega)];simp only[dF,List.map_set]
    ·intro f hf;rcases Ju2 hf with hf | hf
     ·exact(sp' f hf).mono (Kp (by omega))
     ·subst hf;exact hsum
   ·have h3:l.kind=3:=by
     have:=hok;unfold Jg.ok at this;rw[if_neg h1,if_neg h2] at this;split at this
     ·assumption
     ·simp[h4] at this
    have hwk:walk (act.drop i.toNat) p' g' t'=walk (act.drop (i+1).toNat) p' g' (t'++[Js l.f p']):=by
     rw[hdr,walk,if_neg h4,if_neg h1,if_neg h2,hs1]
    rw[hwk];generalize Js l.f p'=F at *;refine Jt8 (l.kind=3) rfl (fun _=>?_) (fun h=>absurd h3 h);refine Jur (YF t' (by omega) ft) rfl rfl rfl ?_;refine Jus (dF t') 1000 (by rw[J3];omega) (by omega) rfl ?_;simp only[sC,sN];refine Jt4 (vs:=[.l (Qk rs),.i (i+1),.l (dF g'),.l (dF p'),.l (dF (t'++[F])),.l (Jk act)]) ?_
     ⟨act.length-(i+1).toNat,by omega,i+1,p',g',t'++[F],rs,j'+1,rfl,by omega,by omega,rfl,by omega,by omega,by omega,hp',fun f hf=>(sp' f hf).mono (Kp (by omega)),by omega,sg',by simp;omega,KQ st' hin7,rfl⟩
    show [V.l (Qk rs),V.i (i64.wrap (i+1)),V.l (dF g'),V.l (dF p'),V.l (dF t'++[F.g]),V.l (Jk act)]=_;rw[Xk,w64 (by omega) (by omega)]
  ·rw[JM] at hi;have hwk:walk (act.drop i.toNat) p' g' t'=[Y0 p' g' t']:=by rw[List.drop_eq_nil_of_le (by omega),walk]
   rw[hwk];rw[hwk] at hlen';refine Juk ?_;refine Jur (YF g' (by omega) fg) rfl rfl rfl ?_;refine Jur (YF t' (by omega) ft) rfl rfl rfl ?_;simp only[sC,sN];refine Jt3 3 (fun v=>[.l (dF ((ZN p').take v)),.i v]) (fun _=>True) rfl rfl trivial fun v hv _=>?_;simp only[sC,sN];refine JtY v (J3 p') rfl (fun h=>?_) (fun h=>?_)
   ·obtain⟨x,hx,hmx⟩:=sA1 h;have hsx:=sp' x hmx;refine Juo v (mA1 (f:=Frm.g) hx) rfl rfl rfl rfl ?_;refine Jur (JgQ v (by omega) (by omega)) rfl rfl rfl ?_;refine Jur (Jfz (M:=10000000) (Xd.mono (by omega)) (by omega) (n:=-1) (by omega) (by omega)) rfl rfl rfl ?_;simp only[sC,sN];have hps:=QV Xt (Xd (v:=(v:Int).toNat)) (n:=-1) (N:=1) (by omega);refine Jur (JkC (M:=5000000) (hsx.mono (by omega)) (hps.mono (by omega)) (by omega) (by omega)) rfl rfl rfl ?_;rw[JdF hsx Xd];refine Juv (YN _) (Juv (YN _) ?_);have hn:(ZN p')[v]? = some (JW x (JA (v:Int).toNat) (-1)):=by
     have e:p'.getD v Frm.none=x:=by rw[JuG,hx];rfl
     subst e;rw[Int.toNat_natCast]
     match v,(show v<3 by omega) with
     | 0,_=>rfl
     | 1,_=>rfl
     | 2,_=>rfl
     | n+3,h=>omega
    refine Jus (dF ((ZN p').take v)) 1000 (by rw[J3];simp[ZN];omega) (by omega) rfl ?_;simp only[sC,sN];refine Jt4 (vs:=[.l (dF ((ZN p').take (v+1))),.i ((v+1:Nat):Int)]) ?_ ⟨by omega,rfl,trivial⟩;show [V.l (dF ((ZN p').take v)++[(JW x (JA (v:Int).toNat) (-1)).g]),V.i (i64.wrap ((v:Int)+1))]=_;rw[Xk,tS1 hn,wS' (by omega)]
   ·have hv3:v=3:=by omega
    subst hv3;refine Juk ?_;refine Jus (Qk rs) 1000 (by rw[X7];omega) (by omega) rfl ?_;refine Jue ?_;show [D.s (Jk act),D.s (Qk rs++[(Y0 p' g' t').g])]=_;rw[JdP]
theorem JcW (act:List Jg) (hf:KF act):Ev L f_k45 [.s (Jk act)] [.s (Qk (Jv act))]:=by
 refine JuA (vs:=[.l (Jk act)]) L_k45 rfl ?_;refine Jur (JeQ act hf) rfl rfl rfl ?_;refine Jum (Qt act) rfl (fun h=>Jue ?_) (fun h=>?_)
 ·show [D.s []]=_;simp[Jv,h,Qk]
 have hpp :∀f∈[JA 0,JA 1,JA 2],Std (Bd 0) f:=by
  intro f hf';simp at hf';rcases hf' with rfl | rfl | rfl <;> exact Xd
 refine Jt3 3 (fun v=>[.l (dF ([JA 0,JA 1,JA 2].take v)),.i v]) (fun _=>True) rfl rfl trivial fun v hv _=>?_;refine JtX v 3 rfl (fun h3=>?_) (fun h3=>?_)
 ·refine Jur (JgQ v (by omega) (by omega)) rfl rfl rfl ?_;refine Juv (YN _) (Juv (YN _) ?_);have hn:[JA 0,JA 1,JA 2][v]? = some (JA (v:Int).toNat):=by
   rw[Int.toNat_natCast]
   match v,h3 with
   | 0,_ | 1,_ | 2,_=>rfl
   | n+3,h=>omega
  refine Jus (dF ([JA 0,JA 1,JA 2].take v)) 1000 (by rw[J3];simp;omega) (by omega) rfl ?_;refine Jt4 (vs:=[.l (dF ([JA 0,JA 1,JA 2].take (v+1))),.i ((v+1:Nat):Int)]) ?_ ⟨h3,rfl,trivial⟩;show [V.l (dF ([JA 0,JA 1,JA 2].take v)++[(JA (v:Int).toNat).g]),V.i (i64.wrap ((v:Int)+1))]=_;rw[Xk,tS1 hn,wS h3 (by omega)]
 ·have hv3:v=3:=by omega
  subst hv3;refine Juk ?_;have hw:=Uf act;rw[Jv,if_pos h] at hw;have e:=JpK (JcH h) act.length 0 [JA 0,JA 1,JA 2] [] [] [] 0 (by omega) (by omega) (by simp) (by omega) (by omega) rfl hpp (by simp) (by simp) (by simp) (by simp) (by
   show 0+(walk (act.drop (0:Int).toNat) _ [] []).length≤1000;rw[show (0:Int).toNat=0 from rfl,List.drop_zero];omega)
  refine Jur e rfl rfl rfl (Jue ?_);show [D.s (Qk ([]++walk (act.drop (0:Int).toNat) [JA 0,JA 1,JA 2] [] []))]=_;simp[Jv,h]
/- What draws of any acts come to,and the comparisons of rows. -/
theorem J1 {r:R} {l:List V} {Q:Oc→Prop} {n:Nat} {b1 b2 e i:E} (cs:List Int) (v:Int) (h0:0≤v) (h1:v<cs.length) (hb1:bol (Jn l) b1=decide (0≤v)) (hb2:bol (Jn l) b2=decide (v<(cs.length:Int)))
  (hn:n=l.length) (he:lst (Jn l) e=dL cs) (hi:int (Jn l) i=v) (h :∀x,WR L r (l++[.i x]) Q):WR L (.i (.chk b1) (.i (.chk b2) (.i (.idx e i (.one (.i .i64)) n) r))) l Q :=
 Juf (0≤v) hb1 h0 (Juf (v<(cs.length:Int)) hb2 h1 (Jug (ds:=dL cs) v hn he hi h0 (JY h0 h1) rfl (h _)))
theorem Jp7 {r:R} {l:List V} {Q:Oc→Prop} {n:Nat} {b1 b2 e i:E} (cs:List Int) (v:Int) (h0:0≤v) (h1:v<cs.length) (hb1:bol (Jn l) b1=decide (0≤v)) (hb2:bol (Jn l) b2=decide (v<((dL cs).length:Int)))
  (hn:n=l.length) (he:lst (Jn l) e=dL cs) (hi:int (Jn l) i=v) (h :∀x,WR L r (l++[.i x]) Q):WR L (.i (.chk b1) (.i (.chk b2) (.i (.idx e i (.one (.i .i64)) n) r))) l Q :=
 Juf (0≤v) hb1 h0 (Juf (v<((dL cs).length:Int)) hb2 (by rw[dL1];exact h1) (Jug (ds:=dL cs) v hn he hi h0 (JY h0 h1) rfl (h _)))
def JfJ (f:Frm):Prop:=f.c.length≤3∧f.d.length≤3
theorem Jj3 {bs:List Int} {p n:Int} (hr:Rdr bs p) (hf:p≤999999990000) (n1:1≤n) (n2:n≤2000000) :
  ∃ (f:Frm) (q:Int),Ev L f_k2y [.s (Ja bs),dI p,dI n] (f.cells++[.s (Ja bs),dI q])∧p≤q∧q≤p+30∧JfJ f:=by
 have key : ∃ ds,Ev L f_k2y [.s (Ja bs),dI p,dI n] ds∧∃ (f:Frm) (q:Int),ds=f.cells++[.s (Ja bs),dI q]∧p≤q∧q≤p+30∧JfJ f:=by
  refine Juy (vs:=[.l (Ja bs),.i p,.i n]) L_k2y rfl ?_;obtain⟨f,q,e,q1,q2,f1,f2⟩:=Q8 hr (by omega);obtain⟨c,d,k⟩:=f;have f1:c.length=3:=f1;have f2:d.length=2:=f2;refine Jur e rfl rfl rfl ?_;have go :∀j:Int,0≤j→j≤10→Rdr bs (q+j):=fun j h0 h1=>hr.go (by omega) (by omega);have fin :∀(c' d':List Int) (k' o:Int),c'.length≤3→d'.length≤3→q≤o→o≤q+20→∃ (f:Frm) (q':Int),[D.s (dL c'),D.s (dL d'),dI k',.s (Ja bs),dI o]=f.cells++[.s (Ja bs),dI q']∧p≤q'∧q'≤p+30∧JfJ f :=
   fun c' d' k' o h1 h2 h3 h4=>⟨⟨c',d',k'⟩,o,rfl,by omega,by omega,h1,h2⟩
  have hr0:Rdr bs q:=hr.go (by omega) (by omega);have hr1:Rdr bs (q+1):=go 1 (by omega) (by omega);have hr2:Rdr bs (q+1+1):=hr.go (by omega) (by omega);have hr3:Rdr bs (q+1+1+1):=hr.go (by omega) (by omega);have hr4:Rdr bs (q+1+1+1+1):=hr.go (by omega) (by omega);have hr5:Rdr bs (q+1+1+1+1+1):=hr.go (by omega) (by omega);have hr6:Rdr bs (q+1+1+1+1+1+1):=hr.go (by omega) (by omega);refine Jd 4 hr0 (by omega) (by omega) rfl rfl fun u hu0 hu1=>?_;simp only[sC,sN];refine Jt8 (u=0) rfl (fun h=>?_) (fun h=>?_)
  ·refine Jd 3 hr1 (by omega) (by omega) rfl rfl fun a ha0 ha1=>?_;refine Jd 4 hr2 (by omega) (by omega) rfl rfl fun b hb0 hb1=>?_;simp only[sC,sN];refine J1 [10000000,-10000000,1000,77] b hb0 hb1 rfl rfl rfl rfl rfl fun x=>?_;refine Jp7 c a ha0 (by omega) rfl rfl rfl rfl rfl fun _=>?_;simp only[sC,sN];refine Jd n hr3 n1 n2 rfl rfl fun w hw0 hw1=>?_;simp only[sC,sN];have hs:(c.set a.toNat x).length=3:=by simp[f1]
   refine Jt8 (0<w) rfl (fun hw=>Jue ?_) (fun hw=>?_)
   ·show ∃ (f:Frm) (q':Int),[D.s ((dL c).set a.toNat (dI x)),D.s (dL d),dI k,.s (Ja bs),dI (q+1+1+1+1)]=_∧_;rw[QM];exact fin _ _ _ _ (by omega) (by omega) (by omega) (by omega)
   refine Jd 4 hr4 (by omega) (by omega) rfl rfl fun y hy0 hy1=>?_;simp only[sC,sN];refine Jt8 (y=0) rfl (fun hy=>?_) (fun hy=>?_)
   ·refine Juf (2≤(((dL c).set a.toNat (dI x)).length:Int)) rfl (by rw[QM,dL1,hs];omega) ?_;refine Jue ?_;show ∃ (f:Frm) (q':Int),[D.s (((dL c).set a.toNat (dI x)).take 2),D.s (dL d),dI k,.s (Ja bs),dI (q+1+1+1+1+1)]=_∧_;rw[QM,VU];exact fin _ _ _ _ (by simp;omega) (by omega) (by omega) (by omega)
   refine Jt8 (y=1) rfl (fun hy=>?_) (fun hy=>?_)
   ·refine Jus (dL d) 10 (by rw[dL1];omega) (by omega) rfl ?_;refine Jue ?_;show ∃ (f:Frm) (q':Int),[D.s ((dL c).set a.toNat (dI x)),D.s (dL d++[dI 0]),dI k,.s (Ja bs),dI (q+1+1+1+1+1)]=_∧_;rw[QM,XI];exact fin _ _ _ _ (by omega) (by simp;omega) (by omega) (by omega)
   refine Jt8 (y=2) rfl (fun hy=>?_) (fun hy=>?_)
   ·refine Jd 3 hr5 (by omega) (by omega) rfl rfl fun z hz0 hz1=>?_;simp only[sC,sN];refine J1 [10000001,-10000001,10000000] z hz0 hz1 rfl rfl rfl rfl rfl fun x2=>Jue ?_;show ∃ (f:Frm) (q':Int),[D.s ((dL c).set a.toNat (dI x)),D.s (dL d),dI x2,.s (Ja bs),dI (q+1+1+1+1+1+1)]=_∧_;rw[QM];exact fin _ _ _ _ (by omega) (by omega) (by omega) (by omega)
   ·refine Jd 3 hr5 (by omega) (by omega) rfl rfl fun z hz0 hz1=>?_;refine Jd 2 hr6 (by omega) (by omega) rfl rfl fun z2 hz20 hz21=>?_;simp only[sC,sN];refine J1 [10000001,-10000001] z2 hz20 hz21 rfl rfl rfl rfl rfl fun x2=>?_;refine Juf (0≤z) rfl hz0 ?_;refine Juf (z<((dL c).length:Int)) rfl (by rw[dL1];omega) ?_;refine Jug (ds:=dL (c.set a.toNat x)) z rfl (by show (dL c).set a.toNat (dI x)=_;rw[QM]) rfl hz0 (JY hz0 (by omega)) rfl ?_;refine Jue ?_;show ∃ (f:Frm) (q':Int),[D.s (((dL c).set a.toNat (dI x)).set z.toNat (dI x2)),D.s (dL d),dI k,.s (Ja bs),dI (q+1+1+1+1+1+1+1)]=_∧_;rw[QM,QM];exact fin _ _ _ _ (by simp;omega) (by omega) (by omega) (by omega)
  ·refine Jd n hr1 n1 n2 rfl rfl fun w hw0 hw1=>?_;simp only[sC,sN];refine Jt8 (0<w) rfl (fun hw=>Jue ?_) (fun hw=>?_)
   ·exact fin c d k (q+1+1) (by omega) (by omega) (by omega) (by omega)
   refine Jd 4 hr2 (by omega) (by omega) rfl rfl fun y hy0 hy1=>?_;simp only[sC,sN];refine Jt8 (y=0) rfl (fun hy=>?_) (fun hy=>?_)
   ·refine Juf (2≤((dL c).length:Int)) rfl (by rw[dL1,f1];omega) ?_;refine Jue ?_;show ∃ (f:Frm) (q':Int),[D.s ((dL c).take 2),D.s (dL d),dI k,.s (Ja bs),dI (q+1+1+1)]=_∧_;rw[VU];exact fin _ _ _ _ (by simp;omega) (by omega) (by omega) (by omega)
   refine Jt8 (y=1) rfl (fun hy=>?_) (fun hy=>?_)
   ·refine Jus (dL d) 10 (by rw[dL1];omega) (by omega) rfl ?_;refine Jue ?_;show ∃ (f:Frm) (q':Int),[D.s (dL c),D.s (dL d++[dI 0]),dI k,.s (Ja bs),dI (q+1+1+1)]=_∧_;rw[XI];exact fin _ _ _ _ (by omega) (by simp;omega) (by omega) (by omega)
   refine Jt8 (y=2) rfl (fun hy=>?_) (fun hy=>?_)
   ·refine Jd 3 hr3 (by omega) (by omega) rfl rfl fun z hz0 hz1=>?_;simp only[sC,sN];refine J1 [10000001,-10000001,10000000] z hz0 hz1 rfl rfl rfl rfl rfl fun x2=>Jue ?_;exact fin c d x2 (q+1+1+1+1) (by omega) (by omega) (by omega) (by omega)
   ·refine Jd 3 hr3 (by omega) (by omega) rfl rfl fun z hz0 hz1=>?_;refine Jd 2 hr4 (by omega) (by omega) rfl rfl fun z2 hz20 hz21=>?_;simp only[sC,sN];refine J1 [10000001,-10000001] z2 hz20 hz21 rfl rfl rfl rfl rfl fun x2=>?_;refine Jp7 c z hz0 (by omega) rfl rfl rfl rfl rfl fun _=>Jue ?_;show ∃ (f:Frm) (q':Int),[D.s ((dL c).set z.toNat (dI x2)),D.s (dL d),dI k,.s (Ja bs),dI (q+1+1+1+1+1)]=_∧_;rw[QM];exact fin _ _ _ _ (by simp;omega) (by omega) (by omega) (by omega)
 obtain⟨ds,e1,f,q,rfl,e2⟩:=key;exact⟨f,q,e1,e2⟩
def K8 (a:List Jg):Prop:=a.length≤7∧∀l∈a,JfJ l.f
theorem K8.fit {a:List Jg} (h:K8 a):KF a:=⟨by have:=h.1;omega,fun l hl=>⟨by have:=(h.2 l hl).1;omega,by have:=(h.2 l hl).2;omega⟩⟩
theorem JbZ.thin {a:List Jg} (h:JbZ a):K8 a:=⟨by have:=h.1;omega,fun l hl=>⟨(h.2.1 l hl).1,by have:=(h.2.1 l hl).2;omega⟩⟩
theorem K8.set {a:List Jg} (h:K8 a) {x:Jg} (hx:JfJ x.f) (k:Nat):K8 (a.set k x):=by
 refine⟨by simp;exact h.1,fun l hl=>?_⟩;rcases Ju2 hl with hl | hl
 ·exact h.2 l hl
 ·subst hl;exact hx
theorem Jaq (a:List Jg) (k:Nat) (x:Jg):(Jk a).set k x.g=Jk (a.set k x):=by simp[Jk,List.map_set]
theorem JcP {r:R} {l:List V} {Q:Oc→Prop} {n:Nat} {b1 b2 e i:E} (a:List Jg) (v:Int) (h0:0≤v) (h1:v<a.length) (ha:K8 a) (hb1:bol (Jn l) b1=decide (0≤v)) (hb2:bol (Jn l) b2=decide (v<((Jk a).length:Int)))
  (hn:n=l.length) (he:lst (Jn l) e=Jk a) (hi:int (Jn l) i=v) (h :∀x:Jg,JfJ x.f→WR L r (l++[.i x.kind,.i x.pot,.i x.skip,.l (dL x.f.c),.l (dL x.f.d),.i x.f.k]) Q) :
  WR L (.i (.chk b1) (.i (.chk b2) (.i (.idx e i (.g [.i .i64,.i .i64,.i .i64,.s,.s,.i .i64]) n) r))) l Q:=by
 obtain⟨x,hx,hd⟩:=Vg h0 h1;exact Juf (0≤v) hb1 h0 (Juf (v<((Jk a).length:Int)) hb2 (by rw[JM];exact h1) (Jug (ds:=Jk a) v hn he hi h0 hd rfl (h x (ha.2 x (JuK hx)))))
theorem Jgz {bs:List Int} {p n:Int} (hr:Rdr bs p) (hf:p≤999999960000) (n1:1≤n) (n2:n≤2000000) :
  ∃ (a:List Jg) (q:Int),Ev L f_k2z [.s (Ja bs),dI p,dI n] [.s (Jk a),.s (Ja bs),dI q]∧p≤q∧q≤p+300∧K8 a:=by
 have key : ∃ ds,Ev L f_k2z [.s (Ja bs),dI p,dI n] ds∧∃ (a:List Jg) (q:Int),ds=[.s (Jk a),.s (Ja bs),dI q]∧p≤q∧q≤p+300∧K8 a:=by
  refine Juy (vs:=[.l (Ja bs),.i p,.i n]) L_k2z rfl ?_;obtain⟨a,q,e,q1,q2,hsl⟩:=JeG hr (by omega);refine Jur e rfl rfl rfl ?_;simp only[sC,sN];have ha:=hsl.thin;have ha5:=hsl.1;have fin :∀(a':List Jg) (o:Int),K8 a'→q≤o→o≤q+100→∃ (a:List Jg) (q':Int),[D.s (Jk a'),.s (Ja bs),dI o]=[.s (Jk a),.s (Ja bs),dI q']∧p≤q'∧q'≤p+300∧K8 a :=
   fun a' o h1 h2 h3=>⟨a',o,rfl,by omega,by omega,h1⟩
  have hr0:Rdr bs q:=hr.go (by omega) (by omega);have hr1:Rdr bs (q+1):=hr.go (by omega) (by omega);have hr2:Rdr bs (q+1+1):=hr.go (by omega) (by omega);have hr3:Rdr bs (q+1+1+1):=hr.go (by omega) (by omega);refine Jt8 ((a.length:Int)=0) (by show decide (((Jk a).length:Int)=0)=_;rw[JM]) (fun h=>Jue (fin a q ha (by omega) (by omega))) (fun h=>?_);refine Jd n hr0 n1 n2 rfl rfl fun u hu0 hu1=>?_;simp only[sC,sN];refine Jt8 (0<u) rfl (fun hu=>Jue (fin a (q+1) ha (by omega) (by omega))) (fun hu=>?_);refine Jd a.length hr1 (by omega) (by omega) rfl (by show [D.s (Ja bs),dI (q+1),dI ((Jk a).length:Int)]=_;rw[JM]) fun k hk0 hk1=>?_;refine Jd 6 hr2 (by omega) (by omega) rfl rfl fun w hw0 hw1=>?_;simp only[sC,sN];refine Jt8 (w=0) rfl (fun hw=>?_) (fun hw=>?_)
  ·refine Jd 4 hr3 (by omega) (by omega) rfl rfl fun z hz0 hz1=>?_;simp only[sC,sN];refine J1 [0,5,4,1] z hz0 hz1 rfl rfl rfl rfl rfl fun y=>?_;refine JcP a k hk0 hk1 ha rfl rfl rfl rfl rfl fun x hx=>Jue ?_;show ∃ (a2:List Jg) (q':Int),[D.s ((Jk a).set k.toNat (Jg.g ⟨y,x.pot,x.skip,x.f⟩)),.s (Ja bs),dI (q+1+1+1+1)]=_∧_;rw[Jaq];exact fin _ _ (ha.set (by exact hx) _) (by omega) (by omega)
  refine Jt8 (w=1) rfl (fun hw=>?_) (fun hw=>?_)
  ·refine Jd 3 hr3 (by omega) (by omega) rfl rfl fun z hz0 hz1=>?_;simp only[sC,sN];refine J1 [-1,3,2] z hz0 hz1 rfl rfl rfl rfl rfl fun y=>?_;refine JcP a k hk0 hk1 ha rfl rfl rfl rfl rfl fun x hx=>Jue ?_;show ∃ (a2:List Jg) (q':Int),[D.s ((Jk a).set k.toNat (Jg.g ⟨x.kind,y,x.skip,x.f⟩)),.s (Ja bs),dI (q+1+1+1+1)]=_∧_;rw[Jaq];exact fin _ _ (ha.set (by exact hx) _) (by omega) (by omega)
  refine Jt8 (w=2) rfl (fun hw=>?_) (fun hw=>?_)
  ·refine Jd 4 hr3 (by omega) (by omega) rfl rfl fun z hz0 hz1=>?_;simp only[sC,sN];refine J1 [0,-1,7,6] z hz0 hz1 rfl rfl rfl rfl rfl fun y=>?_;refine JcP a k hk0 hk1 ha rfl rfl rfl rfl rfl fun x hx=>Jue ?_;show ∃ (a2:List Jg) (q':Int),[D.s ((Jk a).set k.toNat (Jg.g ⟨x.kind,x.pot,y,x.f⟩)),.s (Ja bs),dI (q+1+1+1+1)]=_∧_;rw[Jaq];exact fin _ _ (ha.set (by exact hx) _) (by omega) (by omega)
  refine Jt8 (w=3) rfl (fun hw=>?_) (fun hw=>?_)
  ·obtain⟨f,o,ef,o1,o2,hsf⟩:=Jj3 hr3 (by omega) (n:=2) (by omega) (by omega);refine Jur ef rfl rfl rfl ?_;simp only[sC,sN];refine JcP a k hk0 hk1 ha rfl rfl rfl rfl rfl fun x hx=>Jue ?_;show ∃ (a2:List Jg) (q':Int),[D.s ((Jk a).set k.toNat (Jg.g ⟨x.kind,x.pot,x.skip,f⟩)),.s (Ja bs),dI o]=_∧_;rw[Jaq];exact fin _ _ (ha.set (by exact hsf) _) (by omega) (by omega)
  refine Jt8 (w=4) rfl (fun hw=>?_) (fun hw=>?_)
  ·refine Jt6 (fun m vs=>∃ a':List Jg,vs=[.l (Jk a')]∧K8 a'∧a.length≤a'.length∧m=7-a'.length) rfl (7-a.length) ⟨a,rfl,ha,by omega,rfl⟩ ?_;rintro m _ ⟨a',rfl,ha',hal,hm⟩;simp only[sC,sN];refine Jt8 ((a'.length:Int)≤6) (by show decide (((Jk a').length:Int)≤6)=_;rw[JM]) (fun h6=>?_) (fun h6=>?_)
   ·refine JcP a' k hk0 (by omega) ha' rfl rfl rfl rfl rfl fun x hx=>?_;refine Jus (Jk a') 100 (by rw[JM];omega) (by omega) rfl ?_;refine Jt4 (vs:=[.l (Jk (a'++[x]))]) ?_ ⟨7-(a'++[x]).length,by simp;omega,a'++[x],rfl,⟨by simp;omega,?_⟩,by simp;omega,rfl⟩
    ·show [V.l (Jk a'++[x.g])]=_;rw[KI]
    ·intro l hl;rcases JuI.1 hl with hl | hl
     ·exact ha'.2 l hl
     ·simp at hl;subst hl;exact hx
   ·exact Juk (Jue (fin a' (q+1+1+1) ha' (by omega) (by omega)))
  ·obtain⟨f,o,ef,o1,o2,g1,g2⟩:=Q8 hr3 (by omega);refine Jur ef rfl rfl rfl ?_;obtain⟨f',o',ef',o1',o2',g1',g2'⟩:=Q8 (hr.go (q:=o) (by omega) (by omega)) (by omega);refine Jur ef' rfl rfl rfl ?_;simp only[sC,sN];refine Juj (Jk a++[Jg.g ⟨1,0,1,f⟩,Jg.g ⟨1,0,1,f'⟩]) 100 (by rw[JuJ,JM];simp;omega) (by omega) rfl ?_;refine Jue ?_;show ∃ (a2:List Jg) (q':Int),[D.s (Jk a++[Jg.g ⟨1,0,1,f⟩,Jg.g ⟨1,0,1,f'⟩]),.s (Ja bs),dI o']=_∧_;have:Jk a++[Jg.g ⟨1,0,1,f⟩,Jg.g ⟨1,0,1,f'⟩]=Jk (a++[⟨1,0,1,f⟩,⟨1,0,1,f'⟩]):=by simp[Jk]
   rw[this];refine fin _ _ ⟨by simp;omega,?_⟩ (by omega) (by omega);intro l hl;rcases JuI.1 hl with hl | hl
   ·exact ha.2 l hl
   ·simp at hl;rcases hl with rfl | rfl
    ·exact⟨by simp[g1],by simp[g2]⟩
    ·exact⟨by simp[g1'],by simp[g2']⟩
 obtain⟨ds,e1,f,q,rfl,e2⟩:=key;exact⟨f,q,e1,e2⟩
end Go.Proofs.YtofcmnglieaoeabGreatDoor

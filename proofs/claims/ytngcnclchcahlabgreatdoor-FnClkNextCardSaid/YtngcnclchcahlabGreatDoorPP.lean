import Derived.Test.YtngcnclchcahlabGreatDoorPM
import Derived.Test.YtngcnclchcahlabGreatDoorPG
set_option linter.unusedVariables false
set_option linter.unusedSimpArgs false
/- What the program's forms and acts come to. -/
namespace Go.Proofs.YtngcnclchcahlabGreatDoor
open Go Go.Tm
open Go.IntKind (i64)
theorem JW (l:List Int):Yf 1 (dL l)=true:=by cases l <;> rfl
theorem JpV (l:List Frm):Yf 3 (dF l)=true:=by cases l <;> rfl
theorem QK (l:List Int) (hl:l.length≤2000000):Ev L f_k3s [.s (dL l)] [.s (dL l)] :=
 JnX L_k3s rfl (JW l) (by rw[dL1];exact hl) (by omega)
theorem Jd9 (a b:List Int) (hl:a.length≤2000000):Ev L f_k3f [.s (dL a),.s (dL b)] [dB (decide (a=b))] :=
 Jgs dI .i a b L_k3f rfl (fun _=>rfl) (fun _ _ _ _ _=>rfl) hl
theorem Jm6 (f:Frm) (hf:Frm.fit f):Ev L f_k3t f.cells f.cells:=by
 refine JuV (vs:=[.l (dL f.c),.l (dL f.d),.i f.k]) L_k3t rfl ?_;refine Jup (QK f.c hf.1) rfl rfl rfl ?_;exact Jup (QK f.d hf.2) rfl rfl rfl (Jun rfl)
theorem Y2 :∀l:List Int,JM (dL l)=true
 | []=>rfl
 | x::l=>Y2 l
theorem YP (l:List Frm) (hl:l.length≤2000000) (hf :∀f∈l,Frm.fit f):Ev L f_k3u [.s (dF l)] [.s (dF l)]:=by
 refine JuV (vs:=[.l (dF l)]) L_k3u rfl ?_;refine Juu l.length (fun i=>[.l (dF (l.take i)),.i i]) (fun _=>True) rfl rfl trivial fun i hi _=>?_;refine JuG i (J8 l) rfl (fun h=>?_) (fun h=>?_)
 ·obtain⟨x,hx,hm⟩:=sA1 h;refine JuF i (mA1 (f:=Frm.g) hx) rfl rfl rfl rfl ?_;refine Jup (Jm6 x (hf x hm)) rfl rfl rfl ?_;refine JuI (Y2 x.c) (JuI (Y2 x.d) ?_);refine JuR (dF (l.take i)) 2000000 (by rw[J8];simp;omega) (by omega) rfl ?_;refine JuC (vs:=[.l (dF (l.take (i+1))),.i ((i+1:Nat):Int)]) ?_ ⟨h,rfl,trivial⟩;show [V.l (dF (l.take i)++[x.g]),V.i (i64.wrap ((i:Int)+1))]=_;rw[wS h (by omega),Xt,tS1 hx]
 ·refine Juk (Jun ?_);show [D.s (dF (l.take i))]=_;rw[tA1 h]
theorem Jjh (l:List Int) (hl:l.length≤2000000):Ev L f_k4w [.s (dL l)] [dB (Q1 l)] :=
 JuV (vs:=[.l (dL l)]) L_k4w rfl (Jup (XQ l 2 9 hl (by omega) (by omega)) rfl rfl rfl (Jun rfl))
theorem Zm (f:Frm) (hf:Frm.fit f):Ev L f_k3v f.cells [dB f.ok]:=by
 refine JuV (vs:=[.l (dL f.c),.l (dL f.d),.i f.k]) L_k3v rfl ?_;refine Jup (XQ f.c 3 10000000 hf.1 (by omega) (by omega)) rfl rfl rfl ?_;refine JuU (JK 3 10000000 f.c) rfl (fun h=>?_) (fun h=>Jun ?_)
 ·refine Jup (XQ f.d 2 10000000 hf.2 (by omega) (by omega)) rfl rfl rfl ?_;refine JuU (JK 2 10000000 f.d) rfl (fun h2=>?_) (fun h2=>Jun ?_)
  ·refine Jup (YL f.k (-10000000) 10000000) rfl rfl rfl (Jun ?_);show [dB (inB f.k (-10000000) 10000000)]=_;simp[Frm.ok,h,h2]
  ·show [dB false]=_;simp[Frm.ok,h2]
 ·show [dB false]=_;simp[Frm.ok,h]
theorem JbF (f:Frm) (hf:Frm.fit f):Ev L f_k3e f.cells [dB f.small]:=by
 refine JuV (vs:=[.l (dL f.c),.l (dL f.d),.i f.k]) L_k3e rfl ?_;refine Jup (XQ f.c 3 2 hf.1 (by omega) (by omega)) rfl rfl rfl ?_;refine JuU (JK 3 2 f.c) rfl (fun h=>?_) (fun h=>Jun ?_)
 ·refine Jup (XQ f.d 2 2 hf.2 (by omega) (by omega)) rfl rfl rfl ?_;refine JuU (JK 2 2 f.d) rfl (fun h2=>?_) (fun h2=>Jun ?_)
  ·refine Jup (YL f.k (-20) 20) rfl rfl rfl (Jun ?_);show [dB (inB f.k (-20) 20)]=_;simp[Frm.small,h,h2]
  ·show [dB false]=_;simp[Frm.small,h2]
 ·show [dB false]=_;simp[Frm.small,h]
theorem JoS (f g:Frm) (hf:Frm.fit f):Ev L f_k3g (f.cells++g.cells) [dB (decide (f=g))]:=by
 refine JuV (vs:=[.l (dL f.c),.l (dL f.d),.i f.k,.l (dL g.c),.l (dL g.d),.i g.k]) L_k3g rfl ?_;have e:decide (f=g)=(decide (f.k=g.k)&&decide (f.c=g.c)&&decide (f.d=g.d)):=by
  obtain⟨a,b,c⟩:=f;obtain⟨a',b',c'⟩:=g;simp only[Frm.mk.injEq]
  by_cases h1:a=a' <;> by_cases h2:b=b' <;> by_cases h3:c=c' <;> simp[h1,h2,h3]
 rw[e];refine JuB (f.k=g.k) rfl (fun h=>?_) (fun h=>Jun ?_)
 ·refine Jup (Jd9 f.c g.c hf.1) rfl rfl rfl ?_;refine JuU (decide (f.c=g.c)) rfl (fun h2=>?_) (fun h2=>Jun ?_)
  ·refine Jup (Jd9 f.d g.d hf.2) rfl rfl rfl (Jun ?_);show [dB (decide (f.d=g.d))]=_;simp only[h,h2];simp
  ·show [dB false]=_;simp only[h2];simp
 ·show [dB false]=_;simp only[h];simp
theorem Joj (l:Jg) (hf:Frm.fit l.f):Ev L f_k3h l.cells [dB l.ok]:=by
 refine JuV (vs:=[.i l.kind,.i l.pot,.i l.skip,.l (dL l.f.c),.l (dL l.f.d),.i l.f.k]) L_k3h rfl ?_;refine JuB (l.kind=1) rfl (fun h1=>?_) (fun h1=>?_)
 ·refine Jup (YL l.skip 1 6) rfl rfl rfl ?_;refine JuU (inB l.skip 1 6) rfl (fun h3=>?_) (fun h3=>Jun ?_)
  ·refine JuB (l.pot=0) rfl (fun h2=>?_) (fun h2=>Jun ?_)
   ·refine Jup (JbF l.f hf) rfl rfl rfl (Jun ?_);show [dB l.f.small]=_;simp[Jg.ok,h1,h2,h3]
   ·show [dB false]=_;simp[Jg.ok,h1,h2]
  ·show [dB false]=_;simp[Jg.ok,h1,h3]
 refine JuB (l.kind=2) rfl (fun h2=>?_) (fun h2=>?_)
 ·refine Jup (YL l.pot 0 2) rfl rfl rfl ?_;refine JuU (inB l.pot 0 2) rfl (fun h3=>?_) (fun h3=>Jun ?_)
  ·refine JuB (l.skip=0) rfl (fun h4=>?_) (fun h4=>Jun ?_)
   ·refine Jup (JbF l.f hf) rfl rfl rfl (Jun ?_);show [dB l.f.small]=_;simp[Jg.ok,h2,h3,h4]
   ·show [dB false]=_;simp[Jg.ok,h2,h4]
  ·show [dB false]=_;simp[Jg.ok,h2,h3]
 refine JuB (l.kind=3) rfl (fun h3=>?_) (fun h3=>?_)
 ·refine JuB (l.pot=0) rfl (fun h4=>?_) (fun h4=>Jun ?_)
  ·refine JuB (l.skip=0) rfl (fun h5=>?_) (fun h5=>Jun ?_)
   ·refine Jup (JbF l.f hf) rfl rfl rfl (Jun ?_);show [dB l.f.small]=_;simp[Jg.ok,h3,h4,h5]
   ·show [dB false]=_;simp[Jg.ok,h3,h5]
  ·show [dB false]=_;simp[Jg.ok,h3,h4]
 refine JuB (l.kind=4) rfl (fun h4=>?_) (fun h4=>Jun ?_)
 ·refine JuB (l.pot=0) rfl (fun h5=>?_) (fun h5=>Jun ?_)
  ·refine JuB (l.skip=0) rfl (fun h6=>?_) (fun h6=>Jun ?_)
   ·refine Jup (JoS l.f Frm.none hf) rfl rfl rfl (Jun ?_);show [dB (decide (l.f=Frm.none))]=_;have e:decide (l.f=Frm.none)=(decide (((l.f.c.length:Int)+l.f.d.length)=0)&&decide (l.f.k=0)):=by
     obtain⟨a,b,c⟩:=l.f;have e1:(Frm.mk a b c=Frm.none)↔((((a.length:Int)+b.length)=0)∧c=0):=by
      simp only[Frm.none,Frm.mk.injEq];constructor
      ·rintro⟨rfl,rfl,rfl⟩;exact⟨rfl,rfl⟩
      ·rintro⟨h,rfl⟩;exact⟨List.length_eq_zero_iff.1 (by omega),List.length_eq_zero_iff.1 (by omega),rfl⟩
     by_cases h:Frm.mk a b c=Frm.none
     ·have:=e1.1 h;rw[decide_eq_true h,decide_eq_true this.1,decide_eq_true this.2];rfl
     ·rw[decide_eq_false h]
      symm
      rw[Bool.and_eq_false_iff]
      by_cases h1:((a.length:Int)+b.length)=0
      ·right;simp only[decide_eq_false_iff_not];intro h2;exact h (e1.2 ⟨h1,h2⟩)
      ·left;simpa using h1
    rw[e];simp only[Jg.ok,h4,h5,h6];simp
   ·show [dB false]=_;simp[Jg.ok,h4,h6]
  ·show [dB false]=_;simp[Jg.ok,h4,h5]
 ·show [dB false]=_;simp[Jg.ok,h1,h2,h3,h4]
theorem JjU {a:List Jg} {i:Nat} {x:Jg} (hx:a[i]? = some x):Yk (a.take (i+1))=Yk (a.take i)+if x.kind=1 then 1 else 0:=by
 rw[tS1 hx];simp[Yk,List.countP_append,List.countP_cons]
theorem JbN (a:List Jg) (ha:Kt a):Ev L f_k3i [.s (Jl a)] [dB (Qo a)]:=by
 have hlen:=ha.1;refine JuV (vs:=[.l (Jl a)]) L_k3i rfl ?_;refine Juu a.length (fun i=>[.i (Yk (a.take i)),.i i]) (fun i=>(a.take i).all Jg.ok=true) rfl rfl (by simp) fun i hi hal=>?_;have htl:Yk (a.take i)≤a.length:=Nat.le_trans List.countP_le_length (by simp;omega);refine JuG i (JG a) rfl (fun h=>?_) (fun h=>?_)
 ·obtain⟨x,hx,hm⟩:=sA1 h;refine JuF i (mA1 (f:=Jg.g) hx) rfl rfl rfl rfl ?_;refine Jup (Joj x (ha.2 x hm)) rfl rfl rfl ?_;refine JuL x.ok rfl (fun hb=>Juk (Jun ?_)) (fun hb=>?_)
  ·show [dB false]=_;simp[Qo,Yw hx hb]
  ·have ht:=JjU hx;refine JuB (x.kind=1) rfl (fun h1=>?_) (fun h1=>?_)
   ·refine JuC (vs:=[.i (Yk (a.take (i+1))),.i ((i+1:Nat):Int)]) ?_ ⟨h,rfl,Q4 hx hal hb⟩;show [V.i (i64.wrap ((Yk (a.take i):Int)+1)),V.i (i64.wrap ((i:Int)+1))]=_;rw[wS h (by omega),w64 (by omega) (by omega),ht,if_pos h1];rfl
   ·refine JuC (vs:=[.i (Yk (a.take (i+1))),.i ((i+1:Nat):Int)]) ?_ ⟨h,rfl,Q4 hx hal hb⟩;show [V.i (Yk (a.take i):Int),V.i (i64.wrap ((i:Int)+1))]=_;rw[wS h (by omega),ht,if_neg h1];rfl
 ·rw[tA1 h] at hal htl ⊢;refine Juk ?_;refine JuB (((Jl a).length:Int)≤6) rfl (fun h6=>Jun ?_) (fun h6=>Jun ?_)
  ·rw[JG] at h6;show [dB (decide ((Yk a:Int)≤3))]=_;simp only[Qo,hal,h6];simp
  ·rw[JG] at h6;show [dB false]=_;simp only[Qo,h6];simp
theorem UW:Ev L f_k3q [] Frm.zero.cells:=JuV (vs:=[]) L_k3q rfl (Jun rfl)
theorem Jgj (v:Int) (h0:0≤v) (h2:v≤2):Ev L f_k3r [dI v] (JC v.toNat).cells:=by
 refine JuV (vs:=[.i v]) L_k3r rfl ?_;refine Jup (YL v 0 2) rfl rfl rfl ?_;refine JuN (by show (!(inB v 0 2))=false;simp[inB,h0,h2]) ?_;refine Jup UW rfl rfl rfl ?_;refine JuE (0≤v) rfl h0 ?_;refine JuE (v<((dL [0,0,0]).length:Int)) rfl (by simp[dL];omega) ?_;refine Juz (ds:=dL [0,0,0]) v rfl rfl rfl h0 (J1 h0 (by simp;omega)) rfl ?_;refine Jun ?_;show [D.s ((dL [0,0,0]).set v.toNat (dI 1)),.s (dL [0,0]),dI 0]=_;rw[QC];rfl
def Jct (a b:List Int) (n:Int):List Int:=J5 a b n++a.drop b.length
theorem Jg6 {a b:List Int} {n:Int} (h:b.length=a.length):Jct a b n=J5 a b n:=by simp[Jct,h]
theorem JoZ (a:List Int) (n:Int):Jct a [] n=a:=by simp[Jct,J5]
theorem JbI {a b:List Int} {n:Int} {i:Nat} {x y:Int} (hl:b.length≤a.length) (hx:a[i]? = some x) (hy:b[i]? = some y) :
  (J5 a (b.take i) n++a.drop i)[i]? = some x∧(J5 a (b.take i) n++a.drop i).set i (x+n*y)=J5 a (b.take (i+1)) n++a.drop (i+1):=by
 have hi:=(Ju1.1 hy).1;have h1:(J5 a (b.take i) n).length=i:=by rw[UT];simp;omega
 have hz :∀(l:List Int),l.length=i→J5 a l n=J5 (a.take i) l n:=by
  intro l hl;unfold J5
  conv=>lhs;rw[←List.take_append_drop i a]
  rw[show l=l++[] by simp];rw[List.zipWith_append (by simp;omega)];simp
 refine⟨by rw[Jvs (by omega),h1,Nat.sub_self,List.getElem?_drop,Nat.add_zero];exact hx,?_⟩;rw[List.set_append_right _ _ (by omega),h1,Nat.sub_self,Xw hx,List.set_cons_zero,tS1 hy];have h2:J5 a (b.take i++[y]) n=J5 a (b.take i) n++[x+n*y]:=by
  unfold J5
  conv=>lhs;rw[←List.take_append_drop i a]
  rw[List.zipWith_append (by simp;omega),Xw hx]
  congr 1
  ·have:=hz (b.take i) (by simp;omega);unfold J5 at this;exact this.symm
  ·simp
 rw[h2,List.append_assoc];rfl
theorem JoH {a b:Frm} {n M:Int} (hac:Lim M a.c) (had:Lim M a.d) (hak : -M≤a.k∧a.k≤M) (hbc:Lim M b.c) (hbd:Lim M b.d) (hbk : -M≤b.k∧b.k≤M) (hl:b.c.length≤a.c.length) (hl2:b.d.length≤a.d.length) (h9:a.c.length≤1000) (h92:a.d.length≤1000)
  (hM:M≤1000000000) (hn : -1000000000≤n∧n≤1000000000) :
  Ev L f_k3z (a.cells++b.cells++[dI n]) [dI (a.k+n*b.k),.s (dL (Jct a.c b.c n)),.s (dL (Jct a.d b.d n))]:=by
 refine JuV (vs:=[.l (dL a.c),.l (dL a.d),.i a.k,.l (dL b.c),.l (dL b.d),.i b.k,.i n]) L_k3z rfl ?_;refine Juu b.c.length (fun i=>[.l (dL (J5 a.c (b.c.take i) n++a.c.drop i)),.i i]) (fun _=>True) rfl (by simp[J5,den,Jo,V.int]) trivial fun i hi _=>?_;simp only[sC,sN];refine JuG i (dL1 b.c) rfl (fun h=>?_) (fun h=>?_)
 ·obtain⟨x,hx,hmx⟩:=sA1 (show i<a.c.length by omega);obtain⟨y,hy,hmy⟩:=sA1 h;obtain⟨s1,s2⟩:=JbI (n:=n) hl hx hy;refine JuF i (mA1 (f:=dI) hy) rfl rfl rfl rfl ?_;refine JuP i (mA1 (f:=dI) s1) rfl rfl rfl rfl rfl rfl ?_;refine JuP i (mA1 (f:=dI) s1) rfl rfl rfl rfl rfl rfl ?_;refine JuC (vs:=[.l (dL (J5 a.c (b.c.take (i+1)) n++a.c.drop (i+1))),.i ((i+1:Nat):Int)]) ?_ ⟨h,rfl,trivial⟩;show [V.l ((dL (J5 a.c (b.c.take i) n++a.c.drop i)).set (i:Int).toNat (dI (i64.wrap (x+i64.wrap (n*y))))),V.i (i64.wrap ((i:Int)+1))]=_;rw[wS h (by omega),V7 (hac x hmx) (hbc y hmy) hn hM (by omega),QC,Int.toNat_natCast,s2]
 refine Juk ?_;have hc:J5 a.c (b.c.take i) n++a.c.drop i=Jct a.c b.c n:=by rw[tA1 h,show i=b.c.length by omega];rfl
 rw[hc];refine Juu b.d.length (fun i=>[.l (dL (J5 a.d (b.d.take i) n++a.d.drop i)),.i i]) (fun _=>True) rfl (by simp[J5,den,Jo,V.int]) trivial fun i hi _=>?_;simp only[sC,sN];refine JuG i (dL1 b.d) rfl (fun h=>?_) (fun h=>?_)
 ·obtain⟨x,hx,hmx⟩:=sA1 (show i<a.d.length by omega);obtain⟨y,hy,hmy⟩:=sA1 h;obtain⟨s1,s2⟩:=JbI (n:=n) hl2 hx hy;refine JuF i (mA1 (f:=dI) hy) rfl rfl rfl rfl ?_;refine JuP i (mA1 (f:=dI) s1) rfl rfl rfl rfl rfl rfl ?_;refine JuP i (mA1 (f:=dI) s1) rfl rfl rfl rfl rfl rfl ?_;refine JuC (vs:=[.l (dL (J5 a.d (b.d.take (i+1)) n++a.d.drop (i+1))),.i ((i+1:Nat):Int)]) ?_ ⟨h,rfl,trivial⟩;show [V.l ((dL (J5 a.d (b.d.take i) n++a.d.drop i)).set (i:Int).toNat (dI (i64.wrap (x+i64.wrap (n*y))))),V.i (i64.wrap ((i:Int)+1))]=_;rw[wS h (by omega),V7 (had x hmx) (hbd y hmy) hn hM (by omega),QC,Int.toNat_natCast,s2]
 refine Juk (Jun ?_);have hd:J5 a.d (b.d.take i) n++a.d.drop i=Jct a.d b.d n:=by rw[tA1 h,show i=b.d.length by omega];rfl
 show [dI (i64.wrap (a.k+i64.wrap (n*b.k))),.s (dL (Jct a.c b.c n)),.s (dL (J5 a.d (b.d.take i) n++a.d.drop i))]=_;rw[hd,V7 hak hbk hn hM (by omega)]
theorem JcK {a b:Frm} {n M:Int} (ha:Std M a) (hb:Std M b) (hM:M≤1000000000) (hn : -1000000000≤n∧n≤1000000000) :
  Ev L f_k3z (a.cells++b.cells++[dI n]) [dI (JX a b n).k,.s (dL (JX a b n).c),.s (dL (JX a b n).d)]:=by
 have:=JoH (n:=n) ha.lc ha.ld ha.k hb.lc hb.ld hb.k (by rw[ha.c,hb.c];omega) (by rw[ha.d,hb.d];omega) (by rw[ha.c];omega) (by rw[ha.d];omega) hM hn;rw[Jg6 (by rw[ha.c,hb.c]),Jg6 (by rw[ha.d,hb.d])] at this;exact this
theorem WL {f:Frm} {M:Int} (hf:Std M f) (hM:M≤10000000):Ev L f_k40 f.cells f.cells:=by
 refine JuV (vs:=[.l (dL f.c),.l (dL f.d),.i f.k]) L_k40 rfl ?_;have e:=Zm f hf.fit;rw[hf.okF hM] at e;exact Jup e rfl rfl rfl (JuN rfl (Jun rfl))
theorem JfO {f:Frm} {M n:Int} (hf:Std M f) (hM:M≤10000000) (hn : -1≤n∧n≤1) (h0:0≤M):Ev L f_k42 (f.cells++[dI n]) (JX Frm.zero f n).cells:=by
 refine JuV (vs:=[.l (dL f.c),.l (dL f.d),.i f.k,.i n]) L_k42 rfl ?_;have e:=Zm f hf.fit;rw[hf.okF hM] at e;refine Jup e rfl rfl rfl (JuN rfl ?_);refine Jup (YL n (-10000000) 10000000) rfl rfl rfl ?_;refine JuN (by show (!(inB n (-10000000) 10000000))=false;simp[inB];omega) ?_;refine Jup UW rfl rfl rfl ?_;refine Jup (JcK (Xu.mono h0) hf (by omega) (n:=n) (by omega)) rfl rfl rfl ?_;have hs:=Q5 Xu hf (n:=n) (N:=1) (by omega);exact Jup (WL (hs.mono (by omega)) hM) rfl rfl rfl (Jun rfl)
theorem JdB {f g:Frm} {M N:Int} (hf:Std M f) (hg:Std N g) (n:Int):JX f (JX Frm.zero g n) 1=JX f g n:=by
 obtain⟨c,d,k⟩:=f;obtain⟨c',d',k'⟩:=g;obtain⟨a1,a2,a3,rfl⟩:=Jae hf.c;obtain⟨b1,b2,rfl⟩:=Jiy hf.d;obtain⟨a1',a2',a3',rfl⟩:=Jae hg.c;obtain⟨b1',b2',rfl⟩:=Jiy hg.d;simp[JX,J5,Frm.zero]
theorem JkT {f g:Frm} {M:Int} (hf:Std M f) (hg:Std M g) (h0:0≤M) (hM:2*M≤10000000):Ev L f_k43 (f.cells++g.cells) (JX f g 1).cells:=by
 refine JuV (vs:=[.l (dL f.c),.l (dL f.d),.i f.k,.l (dL g.c),.l (dL g.d),.i g.k]) L_k43 rfl ?_;have e:=Zm f hf.fit;rw[hf.okF (by omega)] at e;have e2:=Zm g hg.fit;rw[hg.okF (by omega)] at e2;refine Jup e rfl rfl rfl (JuN rfl ?_);refine Jup e2 rfl rfl rfl (JuN rfl ?_);refine Jup UW rfl rfl rfl ?_;have e3:=JcK (Xu.mono h0) hf (by omega) (n:=1) (by omega);rw[JfW hf] at e3;refine Jup e3 rfl rfl rfl ?_;simp only[sC,sN];refine Jup (JcK hf hg (by omega) (n:=1) (by omega)) rfl rfl rfl ?_;have hs:=Q5 hf hg (n:=1) (N:=1) (by omega);exact Jup (WL hs (by omega)) rfl rfl rfl (Jun rfl)
/- What the program's ways through an act come to. -/
theorem JgX (f:Frm) (hf:Frm.fit f):Ev L f_k3y f.cells [dB (!f.ok)] :=
 JuV (vs:=[.l (dL f.c),.l (dL f.d),.i f.k]) L_k3y rfl (Jup (Zm f hf) rfl rfl rfl (Jun rfl))
theorem Jfw (p:Frm→Bool) (l:List Frm) {fn:FuncId} {caps:List D} (hlen:l.length≤2000000) (hcap:XM (.f fn caps) = .f fn caps) (har:arT L fn=some ([some 3]++caps.map fun _=>none))
  (hc :∀x∈l,Ev L fn (x.cells++caps.map D.norm) [dB (p x)]):Ev L f_k3x [.s (dF l),.f fn caps] [dB (l.any p)] :=
 YK (g := f_k3w) L_k3x rfl hcap
   (Zn (sh:= .g [.s,.s,.i .i64]) (as:=[(.s (.v 3)),(.s (.v 4)),(.vi .i64 (.v 5))]) (ar:=[some 3]) (k:=6) Frm.g p Frm.cells (fun x=>[.l (dL x.c),.l (dL x.d),.i x.k]) l
     L_k3w rfl hlen hcap (fun _ _=>rfl) (fun _ _=>rfl) (fun _ _ _ _=>rfl) har hc)
def Jf9 (f:Frm) (pots:List Frm) (i:Nat):Frm:=(List.zip (pots.take i) (f.c.take i)).foldl (fun x q=>JX x q.1 q.2) Frm.zero
theorem Jfi {f:Frm} {pots:List Frm} {i:Nat} {p:Frm} {n:Int} (hp:pots[i]? = some p) (hn:f.c[i]? = some n):Jf9 f pots (i+1)=JX (Jf9 f pots i) p n:=by
 have h1:=(Ju1.1 hp).1;have h2:=(Ju1.1 hn).1;simp only[Jf9];rw[tS1 hp,tS1 hn,List.zip_append (by simp;omega),List.foldl_append];rfl
theorem Jpn {f:Frm} {pots:List Frm} {M:Int} (hf:f.small=true) (hp :∀p∈pots,Std M p) (hl:pots.length=3) (h0:0≤M) (i:Nat) (hi:i≤3):Std (2*M*i) (Jf9 f pots i):=by
 obtain⟨h1,h2,h3,h4,h5⟩:=XO hf
 induction i with
 | zero=>exact Xu.mono (by omega)
 | succ i ih =>
  have ih:=ih (by omega);obtain⟨p,hp1,hp2⟩:=sA1 (show i<pots.length by omega);obtain⟨n,hn1,hn2⟩:=sA1 (show i<f.c.length by omega);rw[Jfi hp1 hn1];have:=Q5 ih (hp _ hp2) (h3 _ hn2);refine this.mono ?_
  push_cast
  rw[Int.mul_add];omega
theorem Jnm {f:Frm} {pots:List Frm} {M:Int} (hf:f.small=true) (hp :∀p∈pots,Std M p) (hl:pots.length=3) :
  Jt f pots=⟨(Jf9 f pots 3).c,Jct (Jf9 f pots 3).d f.d 1,(Jf9 f pots 3).k+1*f.k⟩:=by
 obtain⟨h1,h2,_⟩:=XO hf
 match pots,hl with
 | [⟨c,d,k⟩,⟨c',d',k'⟩,⟨c'',d'',k''⟩],_ =>
  have s1:=hp ⟨c,d,k⟩ (by simp);have s2:=hp ⟨c',d',k'⟩ (by simp);have s3:=hp ⟨c'',d'',k''⟩ (by simp);obtain⟨fc,fd,fk⟩:=f;obtain⟨x,y,z,rfl⟩:=Jae h1;obtain⟨u,v,rfl⟩:=Jiy h2;obtain⟨a1,a2,a3,rfl⟩:=Jae s1.c;obtain⟨b1,b2,rfl⟩:=Jiy s1.d;obtain⟨a1',a2',a3',rfl⟩:=Jae s2.c;obtain⟨b1',b2',rfl⟩:=Jiy s2.d;obtain⟨a1'',a2'',a3'',rfl⟩:=Jae s3.c;obtain⟨b1'',b2'',rfl⟩:=Jiy s3.d;simp[Jt,Jf9,JX,J5,Jct,Frm.zero];omega
theorem Jn6 {f:Frm} {pots:List Frm} {M:Int} (hf:f.small=true) (hl:pots.length=3) (hp :∀p∈pots,Std M p) (h0:0≤M) (hM:M≤1000000) :
  Ev L f_k41 (f.cells++[.s (dF pots)]) (Jt f pots).cells:=by
 obtain⟨f1,f2,f3,f4,f5⟩:=XO hf;have hfs:=Jf1 hf;refine JuV (vs:=[.l (dL f.c),.l (dL f.d),.i f.k,.l (dF pots)]) L_k41 rfl ?_;have e:=Zm f hfs.fit;rw[hfs.okF (by omega)] at e;refine Jup e rfl rfl rfl (JuN rfl ?_);refine JuB (¬(pots.length:Int)=3) ?_ (fun h=>by omega) (fun _=>?_)
 ·show (!(decide (((dF pots).length:Int)=3)))=_;rw[J8];simp
 have hany:pots.any (fun p=>!p.ok)=false:=by
  rw[List.any_eq_false];intro p hpm;rw[(hp p hpm).okF (by omega)];simp
 have e2:=Jfw (fun p=>!p.ok) pots (fn:=f_k3y) (caps:=[]) (by omega) rfl rfl fun p hpm=>by
  rw[List.map_nil,List.append_nil];exact JgX p (hp p hpm).fit
 rw[hany] at e2;refine Jup e2 rfl rfl rfl (JuN rfl ?_);refine Jup UW rfl rfl rfl ?_;simp only[sC,sN];have hstd:=Jpn hf hp hl h0;refine Jul 3 (fun i vs=>∃ a:Frm,a=Jf9 f pots i∧vs=[.l (dL a.c),.l (dL a.d),.i i,.i a.k]) rfl ⟨Frm.zero,rfl,rfl⟩ ?_;rintro i _ hi ⟨a,ha,rfl⟩;have hs:=hstd i hi;rw[←ha] at hs;simp only[sC,sN];refine JuG i (J8 pots) rfl (fun h=>?_) (fun h=>?_)
 ·obtain⟨p,hp1,hp2⟩:=sA1 h;obtain⟨n,hn1,hn2⟩:=sA1 (show i<f.c.length by omega);refine JuF i (mA1 (f:=Frm.g) hp1) rfl rfl rfl rfl ?_;refine JuF i (mA1 (f:=dI) hn1) rfl rfl rfl rfl ?_;have hb:2*M*(i:Int)≤2*M*3:=Int.mul_le_mul_of_nonneg_left (by omega) (by omega);have hn:=f3 n hn2;refine Jup (JcK (M:=6*M) (hs.mono (by omega)) ((hp p hp2).mono (by omega)) (by omega) (n:=n) (by omega)) rfl rfl rfl ?_;have hA:=Jfi hp1 hn1;rw[←ha] at hA;refine JuC (vs:=[.l (dL (JX a p n).c),.l (dL (JX a p n).d),.i ((i+1:Nat):Int),.i (JX a p n).k]) ?_ ⟨by omega,JX a p n,hA.symm,rfl⟩;show [V.l (dL (JX a p n).c),.l (dL (JX a p n).d),.i (i64.wrap ((i:Int)+1)),.i (JX a p n).k]=_;rw[wS h (by omega)]
 ·refine Juk ?_;have hi3:i=3:=by omega
  subst hi3;have e3:=JoH (a:=a) (b:=⟨[],f.d,f.k⟩) (n:=1) (M:=6*M+20) (hs.lc.mono (by omega)) (hs.ld.mono (by omega)) (by have:=hs.k;omega) (by intro x hx;simp at hx) (hfs.ld.mono (by omega)) (by have:=hfs.k;show -(6*M+20)≤f.k∧f.k≤6*M+20;omega)
   (by simp) (by show f.d.length≤a.d.length;rw[hs.d];omega) (by rw[hs.c];omega) (by rw[hs.d];omega) (by omega) (by omega)
  refine Jup e3 rfl rfl rfl ?_;simp only[sC,sN];have hin:=Jnm hf hp hl;rw[←ha] at hin;have hic:=U9 hf hl hp h0;rw[JoZ];have e4:=WL hic (by omega);rw[hin] at e4 ⊢;exact Jup e4 rfl rfl rfl (Jun rfl)
theorem Jdr (l:List Row) (r:Row):Qm l++[r.g]=Qm (l++[r]):=by simp[Qm]
theorem Jg4 {l:List Frm} {M:Int} (h :∀f∈l,Std M f) :∀f∈l,Frm.fit f:=fun f hf=>(h f hf).fit
set_option maxHeartbeats 2000000 in
theorem Jpt {act:List Jg} (hact:QI act) :∀(n:Nat) (at_:Int) (p g t:List Frm) (rows:List Row) (j:Nat),0≤at_→at_≤20→act.length-at_.toNat=n→(j:Int)≤at_→j≤6 →
  p.length=3→(∀f∈p,Std (Bd j) f)→g.length≤j→(∀f∈g,Std 10000000 f)→t.length≤j→(∀f∈t,Std 10000000 f)→rows.length+(walk (act.drop at_.toNat) p g t).length≤1000 →
  Ev L f_k44 [.s (Jl act),.s (Qm rows),dI at_,.s (dF g),.s (dF p),.s (dF t)] [.s (Jl act),.s (Qm (rows++walk (act.drop at_.toNat) p g t))]:=by
 intro n
 induction n using Nat.strongRecOn with
 | _ n ih =>
  intro at_ p g t rows j a0 a20 hn hj hj6 hp sp hg sg ht st hlen;have hal:=hact.len;refine JuV (vs:=[.l (Jl act),.l (Qm rows),.i at_,.l (dF g),.l (dF p),.l (dF t)]) L_k44 rfl ?_;refine JuQ (fun m vs=>∃ (i:Int) (p' g' t':List Frm) (rs:List Row) (j':Nat),vs=[.l (Qm rs),.i i,.l (dF g'),.l (dF p'),.l (dF t'),.l (Jl act)]∧at_≤i∧i≤20∧m=act.length-i.toNat∧(j':Int)≤i∧j≤j'∧j'≤6∧p'.length=3∧(∀f∈p',Std (Bd j') f)∧g'.length≤j'∧(∀f∈g',Std 10000000 f)∧t'.length≤j'∧(∀f∈t',Std 10000000 f) ∧
   rs++walk (act.drop i.toNat) p' g' t'=rows++walk (act.drop at_.toNat) p g t) rfl (act.length-at_.toNat) ⟨at_,p,g,t,rows,j,rfl,by omega,a20,rfl,hj,by omega,hj6,hp,sp,hg,sg,ht,st,rfl⟩ ?_
  rintro m _ ⟨i,p',g',t',rs,j',rfl,ai,i20,hm,hj',hjj,hj6',hp',sp',hg',sg',ht',st',hw⟩;simp only[sC,sN];have hlen':rs.length+(walk (act.drop i.toNat) p' g' t').length≤1000:=by
   rw[←Ju6,hw,Ju6];exact hlen
  rw[←hw];clear hw hlen;have hB:=Jhs hj6';have hB0:=Y6 j';have fg:=Jg4 sg';have fp:=Jg4 sp';have ft:=Jg4 st';refine JuB (i<((Jl act).length:Int)) rfl (fun hi=>?_) (fun hi=>?_)
  ·rw[JG] at hi;obtain⟨l,hl,hd⟩:=K2 (a:=act) (i:=i) (by omega) hi;have hok:=hact.ok l (Ju7 hl);have hdr:=Xw hl;have hs1:(i+1).toNat=i.toNat+1:=by omega
   refine Juz (ds:=Jl act) i rfl rfl rfl (by omega) hd rfl ?_;simp only[sC,sN];refine JuB (l.kind=4) rfl (fun h4=>?_) (fun h4=>?_)
   ·refine Jup (YP g' (by omega) fg) rfl rfl rfl ?_;refine JuR (Qm rs) 1000 (by rw[Yc];omega) (by omega) rfl ?_;refine Juk (Jun ?_);show [D.s (Jl act),D.s (Qm rs++[Row.g ⟨g',[],[],true⟩])]=_;rw[Jdr,hdr,walk,if_pos h4]
   have hsm:=JiU hok h4;have hin:=U9 hsm hp' sp' hB0;have hin7:Std 10000000 (Jt l.f p'):=hin.mono (by omega);refine Jup (Jn6 hsm hp' sp' hB0 (by omega)) rfl rfl rfl ?_;simp only[sC,sN];have hj5:j'<6:=by omega
   refine JuB (l.kind=1) rfl (fun h1=>?_) (fun h1=>?_)
   ·have hsk:=V1 hok h1;have hwk:walk (act.drop i.toNat) p' g' t'=walk (act.drop (i+1).toNat) p' (g'++[Jt l.f p']) t'++walk (act.drop (i+l.skip+1).toNat) p' (g'++[QY (Jt l.f p')]) t':=by
     rw[hdr,walk,if_neg h4,if_pos h1,List.drop_drop,hs1,show i.toNat+1+l.skip.toNat=(i+l.skip+1).toNat by omega]
    have hmin:Std 10000000 (QY (Jt l.f p')):=(W8 hin).mono (by omega);have spB :∀f∈p',Std (Bd (j'+1)) f:=fun f hf=>(sp' f hf).mono (Kw (by omega));rw[hwk,Ju6] at hlen';rw[hwk];have hns:=Q5 Xu hin (n:=-1) (N:=1) (by omega);generalize hF:Jt l.f p'=F at *;refine Jup (YP g' (by omega) fg) rfl rfl rfl ?_;refine JuR (dF g') 1000 (by rw[J8];omega) (by omega) rfl ?_;refine Jup (YP p' (by omega) fp) rfl rfl rfl ?_;refine Jup (YP t' (by omega) ft) rfl rfl rfl ?_;simp only[sC,sN];have e1:=ih (act.length-(i+1).toNat) (by omega) (i+1) p' (g'++[F]) t' rs (j'+1) (by omega) (by omega) rfl (by omega) (by omega) hp' spB (by simp;omega) (K3 sg' hin7) (by omega) st' (by omega);refine Jup e1 rfl ?_ rfl ?_
    ·show [D.s (Jl act),.s (Qm rs),dI (i64.wrap (i+1)),.s (dF g'++[F.g]),.s (dF p'),.s (dF t')]=_;rw[Xt,w64 (by omega) (by omega)]
    simp only[sC,sN];refine Jup (JfO hin7 (by omega) (n:=-1) (by omega) (by omega)) rfl rfl rfl ?_;refine Jup (YP g' (by omega) fg) rfl rfl rfl ?_;refine JuR (dF g') 1000 (by rw[J8];omega) (by omega) rfl ?_;simp only[sC,sN];refine JuC (vs:=[.l (Qm (rs++walk (act.drop (i+1).toNat) p' (g'++[F]) t')),.i (i+l.skip+1),.l (dF (g'++[QY F])),.l (dF p'),.l (dF t'),.l (Jl act)]) ?_
     ⟨act.length-(i+l.skip+1).toNat,by omega,i+l.skip+1,p',g'++[QY F],t',_,j'+1,rfl,by omega,by omega,rfl,by omega,by omega,by omega,hp',spB,by simp;omega,K3 sg' hmin,by omega,st',?_⟩
    ·have hk:=hns.k;show [V.l (Qm (rs++walk (act.drop (i+1).toNat) p' (g'++[F]) t')),V.i (i64.wrap (i64.wrap (i+l.skip)+1)),V.l (dF g'++[Frm.g ⟨(JX Frm.zero F (-1)).c,(JX Frm.zero F (-1)).d,i64.wrap ((JX Frm.zero F (-1)).k-1)⟩]),V.l (dF p'),V.l (dF t'),V.l (Jl act)]=_;rw[Xt,w64 (n:=i+l.skip) (by omega) (by omega),w64 (n:=i+l.skip+1) (by omega) (by omega),w64 (n:=(JX Frm.zero F (-1)).k-1) (by omega) (by omega)];rfl
    ·rw[List.append_assoc]
   refine JuB (l.kind=2) rfl (fun h2=>?_) (fun h2=>?_)
   ·have hpt:=Jez hok h2;have hlt:l.pot.toNat<p'.length:=by omega
    obtain⟨hm1,hm2⟩:=JiJ hlt;have hdg:(dF p')[l.pot.toNat]? = some (p'.getD l.pot.toNat Frm.none).g:=mA1 (f:=Frm.g) hm2;have hwk:walk (act.drop i.toNat) p' g' t'=walk (act.drop (i+1).toNat) (p'.set l.pot.toNat (JX (p'.getD l.pot.toNat Frm.none) (Jt l.f p') 1)) g' t':=by
     rw[hdr,walk,if_neg h4,if_neg h1,if_pos h2,hs1]
    rw[hwk];have hsum:Std (Bd (j'+1)) (JX (p'.getD l.pot.toNat Frm.none) (Jt l.f p') 1):=(Q5 (sp' _ hm1) hin (n:=1) (N:=1) (by omega)).mono (by simp only[Bd];omega);have hsp1:=sp' _ hm1;generalize p'.getD l.pot.toNat Frm.none=q at *;generalize Jt l.f p'=F at *;refine Jup (YP p' (by omega) fp) rfl rfl rfl ?_;refine JuE (0≤l.pot) rfl hpt.1 ?_;refine JuE (l.pot<((dF p').length:Int)) rfl (by rw[J8];omega) ?_;refine Juz (ds:=dF p') l.pot rfl rfl rfl hpt.1 hdg rfl ?_;simp only[sC,sN];refine Jup (JkT (M:=5000000) (hsp1.mono (by omega)) (hin.mono (by omega)) (by omega) (by omega)) rfl rfl rfl ?_;refine JuE (0≤l.pot) rfl hpt.1 ?_;refine JuE (l.pot<((dF p').length:Int)) rfl (by rw[J8];omega) ?_;refine Juz (ds:=dF p') l.pot rfl rfl rfl hpt.1 hdg rfl ?_;simp only[sC,sN];refine JuC (vs:=[.l (Qm rs),.i (i+1),.l (dF g'),.l (dF (p'.set l.pot.toNat (JX q F 1))),.l (dF t'),.l (Jl act)]) ?_
     ⟨act.length-(i+1).toNat,by omega,i+1,p'.set l.pot.toNat (JX q F 1),g',t',rs,j'+1,rfl,by omega,by omega,rfl,by omega,by omega,by omega,by simp[hp'],?_,by omega,sg',by omega,st',rfl⟩
    ·show [V.l (Qm rs),V.i (i64.wrap (i+1)),V.l (dF g'),V.l ((dF p').set l.pot.toNat (JX q F 1).g),V.l (dF t'),V.l (Jl act)]=_;rw[w64 (by omega) (by omega)];simp only[dF,List.map_set]
    ·intro f hf;rcases Jvp hf with hf | hf
     ·exact(sp' f hf).mono (Kw (by omega))
     ·subst hf;exact hsum
   ·have h3:l.kind=3:=by
     have:=hok;unfold Jg.ok at this;rw[if_neg h1,if_neg h2] at this;split at this
     ·assumption
     ·simp[h4] at this
    have hwk:walk (act.drop i.toNat) p' g' t'=walk (act.drop (i+1).toNat) p' g' (t'++[Jt l.f p']):=by
     rw[hdr,walk,if_neg h4,if_neg h1,if_neg h2,hs1]
    rw[hwk];generalize Jt l.f p'=F at *;refine JuB (l.kind=3) rfl (fun _=>?_) (fun h=>absurd h3 h);refine Jup (YP t' (by omega) ft) rfl rfl rfl ?_;refine JuR (dF t') 1000 (by rw[J8];omega) (by omega) rfl ?_;simp only[sC,sN];refine JuC (vs:=[.l (Qm rs),.i (i+1),.l (dF g'),.l (dF p'),.l (dF (t'++[F])),.l (Jl act)]) ?_
     ⟨act.length-(i+1).toNat,by omega,i+1,p',g',t'++[F],rs,j'+1,rfl,by omega,by omega,rfl,by omega,by omega,by omega,hp',fun f hf=>(sp' f hf).mono (Kw (by omega)),by omega,sg',by simp;omega,K3 st' hin7,rfl⟩
    show [V.l (Qm rs),V.i (i64.wrap (i+1)),V.l (dF g'),V.l (dF p'),V.l (dF t'++[F.g]),V.l (Jl act)]=_;rw[Xt,w64 (by omega) (by omega)]
  ·rw[JG] at hi;have hwk:walk (act.drop i.toNat) p' g' t'=[Zb p' g' t']:=by rw[List.drop_eq_nil_of_le (by omega),walk]
   rw[hwk];rw[hwk] at hlen';refine Juk ?_;refine Jup (YP g' (by omega) fg) rfl rfl rfl ?_;refine Jup (YP t' (by omega) ft) rfl rfl rfl ?_;simp only[sC,sN];refine Juu 3 (fun v=>[.l (dF ((Kn p').take v)),.i v]) (fun _=>True) rfl rfl trivial fun v hv _=>?_;simp only[sC,sN];refine JuG v (J8 p') rfl (fun h=>?_) (fun h=>?_)
   ·obtain⟨x,hx,hmx⟩:=sA1 h;have hsx:=sp' x hmx;refine JuF v (mA1 (f:=Frm.g) hx) rfl rfl rfl rfl ?_;refine Jup (Jgj v (by omega) (by omega)) rfl rfl rfl ?_;refine Jup (JfO (M:=10000000) (Xk.mono (by omega)) (by omega) (n:=-1) (by omega) (by omega)) rfl rfl rfl ?_;simp only[sC,sN];have hps:=Q5 Xu (Xk (v:=(v:Int).toNat)) (n:=-1) (N:=1) (by omega);refine Jup (JkT (M:=5000000) (hsx.mono (by omega)) (hps.mono (by omega)) (by omega) (by omega)) rfl rfl rfl ?_;rw[JdB hsx Xk];refine JuI (Y2 _) (JuI (Y2 _) ?_);have hn:(Kn p')[v]? = some (JX x (JC (v:Int).toNat) (-1)):=by
     have e:p'.getD v Frm.none=x:=by rw[Ju3,hx];rfl
     subst e;rw[Int.toNat_natCast]
     match v,(show v<3 by omega) with
     | 0,_=>rfl
     | 1,_=>rfl
     | 2,_=>rfl
     | n+3,h=>omega
    refine JuR (dF ((Kn p').take v)) 1000 (by rw[J8];simp[Kn];omega) (by omega) rfl ?_;simp only[sC,sN];refine JuC (vs:=[.l (dF ((Kn p').take (v+1))),.i ((v+1:Nat):Int)]) ?_ ⟨by omega,rfl,trivial⟩;show [V.l (dF ((Kn p').take v)++[(JX x (JC (v:Int).toNat) (-1)).g]),V.i (i64.wrap ((v:Int)+1))]=_;rw[Xt,tS1 hn,wS' (by omega)]
   ·have hv3:v=3:=by omega
    subst hv3;refine Juk ?_;refine JuR (Qm rs) 1000 (by rw[Yc];omega) (by omega) rfl ?_;refine Jun ?_;show [D.s (Jl act),D.s (Qm rs++[(Zb p' g' t').g])]=_;rw[Jdr]
theorem JeG (act:List Jg) (hf:Kt act):Ev L f_k45 [.s (Jl act)] [.s (Qm (Jv act))]:=by
 refine JuV (vs:=[.l (Jl act)]) L_k45 rfl ?_;refine Jup (JbN act hf) rfl rfl rfl ?_;refine JuL (Qo act) rfl (fun h=>Jun ?_) (fun h=>?_)
 ·show [D.s []]=_;simp[Jv,h,Qm]
 have hpp :∀f∈[JC 0,JC 1,JC 2],Std (Bd 0) f:=by
  intro f hf';simp at hf';rcases hf' with rfl | rfl | rfl <;> exact Xk
 refine Juu 3 (fun v=>[.l (dF ([JC 0,JC 1,JC 2].take v)),.i v]) (fun _=>True) rfl rfl trivial fun v hv _=>?_;refine JuD v 3 rfl (fun h3=>?_) (fun h3=>?_)
 ·refine Jup (Jgj v (by omega) (by omega)) rfl rfl rfl ?_;refine JuI (Y2 _) (JuI (Y2 _) ?_);have hn:[JC 0,JC 1,JC 2][v]? = some (JC (v:Int).toNat):=by
   rw[Int.toNat_natCast]
   match v,h3 with
   | 0,_ | 1,_ | 2,_=>rfl
   | n+3,h=>omega
  refine JuR (dF ([JC 0,JC 1,JC 2].take v)) 1000 (by rw[J8];simp;omega) (by omega) rfl ?_;refine JuC (vs:=[.l (dF ([JC 0,JC 1,JC 2].take (v+1))),.i ((v+1:Nat):Int)]) ?_ ⟨h3,rfl,trivial⟩;show [V.l (dF ([JC 0,JC 1,JC 2].take v)++[(JC (v:Int).toNat).g]),V.i (i64.wrap ((v:Int)+1))]=_;rw[Xt,tS1 hn,wS h3 (by omega)]
 ·have hv3:v=3:=by omega
  subst hv3;refine Juk ?_;have hw:=Uh act;rw[Jv,if_pos h] at hw;have e:=Jpt (JeE h) act.length 0 [JC 0,JC 1,JC 2] [] [] [] 0 (by omega) (by omega) (by simp) (by omega) (by omega) rfl hpp (by simp) (by simp) (by simp) (by simp) (by
   show 0+(walk (act.drop (0:Int).toNat) _ [] []).length≤1000;rw[show (0:Int).toNat=0 from rfl,List.drop_zero];omega)
  refine Jup e rfl rfl rfl (Jun ?_);show [D.s (Qm ([]++walk (act.drop (0:Int).toNat) [JC 0,JC 1,JC 2] [] []))]=_;simp[Jv,h]
/- What draws of any acts come to,and the comparisons of rows. -/
theorem J4 {r:R} {l:List V} {Q:Oc→Prop} {n:Nat} {b1 b2 e i:E} (cs:List Int) (v:Int) (h0:0≤v) (h1:v<cs.length) (hb1:bol (Jo l) b1=decide (0≤v)) (hb2:bol (Jo l) b2=decide (v<(cs.length:Int)))
  (hn:n=l.length) (he:lst (Jo l) e=dL cs) (hi:int (Jo l) i=v) (h :∀x,WR L r (l++[.i x]) Q):WR L (.i (.chk b1) (.i (.chk b2) (.i (.idx e i (.one (.i .i64)) n) r))) l Q :=
 JuE (0≤v) hb1 h0 (JuE (v<(cs.length:Int)) hb2 h1 (Juz (ds:=dL cs) v hn he hi h0 (J1 h0 h1) rfl (h _)))
theorem Jqu {r:R} {l:List V} {Q:Oc→Prop} {n:Nat} {b1 b2 e i:E} (cs:List Int) (v:Int) (h0:0≤v) (h1:v<cs.length) (hb1:bol (Jo l) b1=decide (0≤v)) (hb2:bol (Jo l) b2=decide (v<((dL cs).length:Int)))
  (hn:n=l.length) (he:lst (Jo l) e=dL cs) (hi:int (Jo l) i=v) (h :∀x,WR L r (l++[.i x]) Q):WR L (.i (.chk b1) (.i (.chk b2) (.i (.idx e i (.one (.i .i64)) n) r))) l Q :=
 JuE (0≤v) hb1 h0 (JuE (v<((dL cs).length:Int)) hb2 (by rw[dL1];exact h1) (Juz (ds:=dL cs) v hn he hi h0 (J1 h0 h1) rfl (h _)))
def Jfd (f:Frm):Prop:=f.c.length≤3∧f.d.length≤3
theorem JjV {bs:List Int} {p n:Int} (hr:Rdr bs p) (hf:p≤999999990000) (n1:1≤n) (n2:n≤2000000) :
  ∃ (f:Frm) (q:Int),Ev L f_k2y [.s (Ja bs),dI p,dI n] (f.cells++[.s (Ja bs),dI q])∧p≤q∧q≤p+30∧Jfd f:=by
 have key : ∃ ds,Ev L f_k2y [.s (Ja bs),dI p,dI n] ds∧∃ (f:Frm) (q:Int),ds=f.cells++[.s (Ja bs),dI q]∧p≤q∧q≤p+30∧Jfd f:=by
  refine JuY (vs:=[.l (Ja bs),.i p,.i n]) L_k2y rfl ?_;obtain⟨f,q,e,q1,q2,f1,f2⟩:=Xg hr (by omega);obtain⟨c,d,k⟩:=f;have f1:c.length=3:=f1;have f2:d.length=2:=f2;refine Jup e rfl rfl rfl ?_;have go :∀j:Int,0≤j→j≤10→Rdr bs (q+j):=fun j h0 h1=>hr.go (by omega) (by omega);have fin :∀(c' d':List Int) (k' o:Int),c'.length≤3→d'.length≤3→q≤o→o≤q+20→∃ (f:Frm) (q':Int),[D.s (dL c'),D.s (dL d'),dI k',.s (Ja bs),dI o]=f.cells++[.s (Ja bs),dI q']∧p≤q'∧q'≤p+30∧Jfd f :=
   fun c' d' k' o h1 h2 h3 h4=>⟨⟨c',d',k'⟩,o,rfl,by omega,by omega,h1,h2⟩
  have hr0:Rdr bs q:=hr.go (by omega) (by omega);have hr1:Rdr bs (q+1):=go 1 (by omega) (by omega);have hr2:Rdr bs (q+1+1):=hr.go (by omega) (by omega);have hr3:Rdr bs (q+1+1+1):=hr.go (by omega) (by omega);have hr4:Rdr bs (q+1+1+1+1):=hr.go (by omega) (by omega);have hr5:Rdr bs (q+1+1+1+1+1):=hr.go (by omega) (by omega);have hr6:Rdr bs (q+1+1+1+1+1+1):=hr.go (by omega) (by omega);refine Je 4 hr0 (by omega) (by omega) rfl rfl fun u hu0 hu1=>?_;simp only[sC,sN];refine JuB (u=0) rfl (fun h=>?_) (fun h=>?_)
  ·refine Je 3 hr1 (by omega) (by omega) rfl rfl fun a ha0 ha1=>?_;refine Je 4 hr2 (by omega) (by omega) rfl rfl fun b hb0 hb1=>?_;simp only[sC,sN];refine J4 [10000000,-10000000,1000,77] b hb0 hb1 rfl rfl rfl rfl rfl fun x=>?_;refine Jqu c a ha0 (by omega) rfl rfl rfl rfl rfl fun _=>?_;simp only[sC,sN];refine Je n hr3 n1 n2 rfl rfl fun w hw0 hw1=>?_;simp only[sC,sN];have hs:(c.set a.toNat x).length=3:=by simp[f1]
   refine JuB (0<w) rfl (fun hw=>Jun ?_) (fun hw=>?_)
   ·show ∃ (f:Frm) (q':Int),[D.s ((dL c).set a.toNat (dI x)),D.s (dL d),dI k,.s (Ja bs),dI (q+1+1+1+1)]=_∧_;rw[QC];exact fin _ _ _ _ (by omega) (by omega) (by omega) (by omega)
   refine Je 4 hr4 (by omega) (by omega) rfl rfl fun y hy0 hy1=>?_;simp only[sC,sN];refine JuB (y=0) rfl (fun hy=>?_) (fun hy=>?_)
   ·refine JuE (2≤(((dL c).set a.toNat (dI x)).length:Int)) rfl (by rw[QC,dL1,hs];omega) ?_;refine Jun ?_;show ∃ (f:Frm) (q':Int),[D.s (((dL c).set a.toNat (dI x)).take 2),D.s (dL d),dI k,.s (Ja bs),dI (q+1+1+1+1+1)]=_∧_;rw[QC,V6];exact fin _ _ _ _ (by simp;omega) (by omega) (by omega) (by omega)
   refine JuB (y=1) rfl (fun hy=>?_) (fun hy=>?_)
   ·refine JuR (dL d) 10 (by rw[dL1];omega) (by omega) rfl ?_;refine Jun ?_;show ∃ (f:Frm) (q':Int),[D.s ((dL c).set a.toNat (dI x)),D.s (dL d++[dI 0]),dI k,.s (Ja bs),dI (q+1+1+1+1+1)]=_∧_;rw[QC,XI];exact fin _ _ _ _ (by omega) (by simp;omega) (by omega) (by omega)
   refine JuB (y=2) rfl (fun hy=>?_) (fun hy=>?_)
   ·refine Je 3 hr5 (by omega) (by omega) rfl rfl fun z hz0 hz1=>?_;simp only[sC,sN];refine J4 [10000001,-10000001,10000000] z hz0 hz1 rfl rfl rfl rfl rfl fun x2=>Jun ?_;show ∃ (f:Frm) (q':Int),[D.s ((dL c).set a.toNat (dI x)),D.s (dL d),dI x2,.s (Ja bs),dI (q+1+1+1+1+1+1)]=_∧_;rw[QC];exact fin _ _ _ _ (by omega) (by omega) (by omega) (by omega)
   ·refine Je 3 hr5 (by omega) (by omega) rfl rfl fun z hz0 hz1=>?_;refine Je 2 hr6 (by omega) (by omega) rfl rfl fun z2 hz20 hz21=>?_;simp only[sC,sN];refine J4 [10000001,-10000001] z2 hz20 hz21 rfl rfl rfl rfl rfl fun x2=>?_;refine JuE (0≤z) rfl hz0 ?_;refine JuE (z<((dL c).length:Int)) rfl (by rw[dL1];omega) ?_;refine Juz (ds:=dL (c.set a.toNat x)) z rfl (by show (dL c).set a.toNat (dI x)=_;rw[QC]) rfl hz0 (J1 hz0 (by omega)) rfl ?_;refine Jun ?_;show ∃ (f:Frm) (q':Int),[D.s (((dL c).set a.toNat (dI x)).set z.toNat (dI x2)),D.s (dL d),dI k,.s (Ja bs),dI (q+1+1+1+1+1+1+1)]=_∧_;rw[QC,QC];exact fin _ _ _ _ (by simp;omega) (by omega) (by omega) (by omega)
  ·refine Je n hr1 n1 n2 rfl rfl fun w hw0 hw1=>?_;simp only[sC,sN];refine JuB (0<w) rfl (fun hw=>Jun ?_) (fun hw=>?_)
   ·exact fin c d k (q+1+1) (by omega) (by omega) (by omega) (by omega)
   refine Je 4 hr2 (by omega) (by omega) rfl rfl fun y hy0 hy1=>?_;simp only[sC,sN];refine JuB (y=0) rfl (fun hy=>?_) (fun hy=>?_)
   ·refine JuE (2≤((dL c).length:Int)) rfl (by rw[dL1,f1];omega) ?_;refine Jun ?_;show ∃ (f:Frm) (q':Int),[D.s ((dL c).take 2),D.s (dL d),dI k,.s (Ja bs),dI (q+1+1+1)]=_∧_;rw[V6];exact fin _ _ _ _ (by simp;omega) (by omega) (by omega) (by omega)
   refine JuB (y=1) rfl (fun hy=>?_) (fun hy=>?_)
   ·refine JuR (dL d) 10 (by rw[dL1];omega) (by omega) rfl ?_;refine Jun ?_;show ∃ (f:Frm) (q':Int),[D.s (dL c),D.s (dL d++[dI 0]),dI k,.s (Ja bs),dI (q+1+1+1)]=_∧_;rw[XI];exact fin _ _ _ _ (by omega) (by simp;omega) (by omega) (by omega)
   refine JuB (y=2) rfl (fun hy=>?_) (fun hy=>?_)
   ·refine Je 3 hr3 (by omega) (by omega) rfl rfl fun z hz0 hz1=>?_;simp only[sC,sN];refine J4 [10000001,-10000001,10000000] z hz0 hz1 rfl rfl rfl rfl rfl fun x2=>Jun ?_;exact fin c d x2 (q+1+1+1+1) (by omega) (by omega) (by omega) (by omega)
   ·refine Je 3 hr3 (by omega) (by omega) rfl rfl fun z hz0 hz1=>?_;refine Je 2 hr4 (by omega) (by omega) rfl rfl fun z2 hz20 hz21=>?_;simp only[sC,sN];refine J4 [10000001,-10000001] z2 hz20 hz21 rfl rfl rfl rfl rfl fun x2=>?_;refine Jqu c z hz0 (by omega) rfl rfl rfl rfl rfl fun _=>Jun ?_;show ∃ (f:Frm) (q':Int),[D.s ((dL c).set z.toNat (dI x2)),D.s (dL d),dI k,.s (Ja bs),dI (q+1+1+1+1+1)]=_∧_;rw[QC];exact fin _ _ _ _ (by simp;omega) (by omega) (by omega) (by omega)
 obtain⟨ds,e1,f,q,rfl,e2⟩:=key;exact⟨f,q,e1,e2⟩
def Ud (a:List Jg):Prop:=a.length≤7∧∀l∈a,Jfd l.f
theorem Ud.fit {a:List Jg} (h:Ud a):Kt a:=⟨by have:=h.1;omega,fun l hl=>⟨by have:=(h.2 l hl).1;omega,by have:=(h.2 l hl).2;omega⟩⟩
theorem Jb8.thin {a:List Jg} (h:Jb8 a):Ud a:=⟨by have:=h.1;omega,fun l hl=>⟨(h.2.1 l hl).1,by have:=(h.2.1 l hl).2;omega⟩⟩
theorem Ud.set {a:List Jg} (h:Ud a) {x:Jg} (hx:Jfd x.f) (k:Nat):Ud (a.set k x):=by
 refine⟨by simp;exact h.1,fun l hl=>?_⟩;rcases Jvp hl with hl | hl
 ·exact h.2 l hl
 ·subst hl;exact hx
theorem JaT (a:List Jg) (k:Nat) (x:Jg):(Jl a).set k x.g=Jl (a.set k x):=by simp[Jl,List.map_set]
theorem Jeo {r:R} {l:List V} {Q:Oc→Prop} {n:Nat} {b1 b2 e i:E} (a:List Jg) (v:Int) (h0:0≤v) (h1:v<a.length) (ha:Ud a) (hb1:bol (Jo l) b1=decide (0≤v)) (hb2:bol (Jo l) b2=decide (v<((Jl a).length:Int)))
  (hn:n=l.length) (he:lst (Jo l) e=Jl a) (hi:int (Jo l) i=v) (h :∀x:Jg,Jfd x.f→WR L r (l++[.i x.kind,.i x.pot,.i x.skip,.l (dL x.f.c),.l (dL x.f.d),.i x.f.k]) Q) :
  WR L (.i (.chk b1) (.i (.chk b2) (.i (.idx e i (.g [.i .i64,.i .i64,.i .i64,.s,.s,.i .i64]) n) r))) l Q:=by
 obtain⟨x,hx,hd⟩:=K2 h0 h1;exact JuE (0≤v) hb1 h0 (JuE (v<((Jl a).length:Int)) hb2 (by rw[JG];exact h1) (Juz (ds:=Jl a) v hn he hi h0 hd rfl (h x (ha.2 x (Ju7 hx)))))
theorem Jg1 {bs:List Int} {p n:Int} (hr:Rdr bs p) (hf:p≤999999960000) (n1:1≤n) (n2:n≤2000000) :
  ∃ (a:List Jg) (q:Int),Ev L f_k2z [.s (Ja bs),dI p,dI n] [.s (Jl a),.s (Ja bs),dI q]∧p≤q∧q≤p+300∧Ud a:=by
 have key : ∃ ds,Ev L f_k2z [.s (Ja bs),dI p,dI n] ds∧∃ (a:List Jg) (q:Int),ds=[.s (Jl a),.s (Ja bs),dI q]∧p≤q∧q≤p+300∧Ud a:=by
  refine JuY (vs:=[.l (Ja bs),.i p,.i n]) L_k2z rfl ?_;obtain⟨a,q,e,q1,q2,hsl⟩:=JfA hr (by omega);refine Jup e rfl rfl rfl ?_;simp only[sC,sN];have ha:=hsl.thin;have ha5:=hsl.1;have fin :∀(a':List Jg) (o:Int),Ud a'→q≤o→o≤q+100→∃ (a:List Jg) (q':Int),[D.s (Jl a'),.s (Ja bs),dI o]=[.s (Jl a),.s (Ja bs),dI q']∧p≤q'∧q'≤p+300∧Ud a :=
   fun a' o h1 h2 h3=>⟨a',o,rfl,by omega,by omega,h1⟩
  have hr0:Rdr bs q:=hr.go (by omega) (by omega);have hr1:Rdr bs (q+1):=hr.go (by omega) (by omega);have hr2:Rdr bs (q+1+1):=hr.go (by omega) (by omega);have hr3:Rdr bs (q+1+1+1):=hr.go (by omega) (by omega);refine JuB ((a.length:Int)=0) (by show decide (((Jl a).length:Int)=0)=_;rw[JG]) (fun h=>Jun (fin a q ha (by omega) (by omega))) (fun h=>?_);refine Je n hr0 n1 n2 rfl rfl fun u hu0 hu1=>?_;simp only[sC,sN];refine JuB (0<u) rfl (fun hu=>Jun (fin a (q+1) ha (by omega) (by omega))) (fun hu=>?_);refine Je a.length hr1 (by omega) (by omega) rfl (by show [D.s (Ja bs),dI (q+1),dI ((Jl a).length:Int)]=_;rw[JG]) fun k hk0 hk1=>?_;refine Je 6 hr2 (by omega) (by omega) rfl rfl fun w hw0 hw1=>?_;simp only[sC,sN];refine JuB (w=0) rfl (fun hw=>?_) (fun hw=>?_)
  ·refine Je 4 hr3 (by omega) (by omega) rfl rfl fun z hz0 hz1=>?_;simp only[sC,sN];refine J4 [0,5,4,1] z hz0 hz1 rfl rfl rfl rfl rfl fun y=>?_;refine Jeo a k hk0 hk1 ha rfl rfl rfl rfl rfl fun x hx=>Jun ?_;show ∃ (a2:List Jg) (q':Int),[D.s ((Jl a).set k.toNat (Jg.g ⟨y,x.pot,x.skip,x.f⟩)),.s (Ja bs),dI (q+1+1+1+1)]=_∧_;rw[JaT];exact fin _ _ (ha.set (by exact hx) _) (by omega) (by omega)
  refine JuB (w=1) rfl (fun hw=>?_) (fun hw=>?_)
  ·refine Je 3 hr3 (by omega) (by omega) rfl rfl fun z hz0 hz1=>?_;simp only[sC,sN];refine J4 [-1,3,2] z hz0 hz1 rfl rfl rfl rfl rfl fun y=>?_;refine Jeo a k hk0 hk1 ha rfl rfl rfl rfl rfl fun x hx=>Jun ?_;show ∃ (a2:List Jg) (q':Int),[D.s ((Jl a).set k.toNat (Jg.g ⟨x.kind,y,x.skip,x.f⟩)),.s (Ja bs),dI (q+1+1+1+1)]=_∧_;rw[JaT];exact fin _ _ (ha.set (by exact hx) _) (by omega) (by omega)
  refine JuB (w=2) rfl (fun hw=>?_) (fun hw=>?_)
  ·refine Je 4 hr3 (by omega) (by omega) rfl rfl fun z hz0 hz1=>?_;simp only[sC,sN];refine J4 [0,-1,7,6] z hz0 hz1 rfl rfl rfl rfl rfl fun y=>?_;refine Jeo a k hk0 hk1 ha rfl rfl rfl rfl rfl fun x hx=>Jun ?_;show ∃ (a2:List Jg) (q':Int),[D.s ((Jl a).set k.toNat (Jg.g ⟨x.kind,x.pot,y,x.f⟩)),.s (Ja bs),dI (q+1+1+1+1)]=_∧_;rw[JaT];exact fin _ _ (ha.set (by exact hx) _) (by omega) (by omega)
  refine JuB (w=3) rfl (fun hw=>?_) (fun hw=>?_)
  ·obtain⟨f,o,ef,o1,o2,hsf⟩:=JjV hr3 (by omega) (n:=2) (by omega) (by omega);refine Jup ef rfl rfl rfl ?_;simp only[sC,sN];refine Jeo a k hk0 hk1 ha rfl rfl rfl rfl rfl fun x hx=>Jun ?_;show ∃ (a2:List Jg) (q':Int),[D.s ((Jl a).set k.toNat (Jg.g ⟨x.kind,x.pot,x.skip,f⟩)),.s (Ja bs),dI o]=_∧_;rw[JaT];exact fin _ _ (ha.set (by exact hsf) _) (by omega) (by omega)
  refine JuB (w=4) rfl (fun hw=>?_) (fun hw=>?_)
  ·refine JuQ (fun m vs=>∃ a':List Jg,vs=[.l (Jl a')]∧Ud a'∧a.length≤a'.length∧m=7-a'.length) rfl (7-a.length) ⟨a,rfl,ha,by omega,rfl⟩ ?_;rintro m _ ⟨a',rfl,ha',hal,hm⟩;simp only[sC,sN];refine JuB ((a'.length:Int)≤6) (by show decide (((Jl a').length:Int)≤6)=_;rw[JG]) (fun h6=>?_) (fun h6=>?_)
   ·refine Jeo a' k hk0 (by omega) ha' rfl rfl rfl rfl rfl fun x hx=>?_;refine JuR (Jl a') 100 (by rw[JG];omega) (by omega) rfl ?_;refine JuC (vs:=[.l (Jl (a'++[x]))]) ?_ ⟨7-(a'++[x]).length,by simp;omega,a'++[x],rfl,⟨by simp;omega,?_⟩,by simp;omega,rfl⟩
    ·show [V.l (Jl a'++[x.g])]=_;rw[Ul]
    ·intro l hl;rcases Ju5.1 hl with hl | hl
     ·exact ha'.2 l hl
     ·simp at hl;subst hl;exact hx
   ·exact Juk (Jun (fin a' (q+1+1+1) ha' (by omega) (by omega)))
  ·obtain⟨f,o,ef,o1,o2,g1,g2⟩:=Xg hr3 (by omega);refine Jup ef rfl rfl rfl ?_;obtain⟨f',o',ef',o1',o2',g1',g2'⟩:=Xg (hr.go (q:=o) (by omega) (by omega)) (by omega);refine Jup ef' rfl rfl rfl ?_;simp only[sC,sN];refine Juv (Jl a++[Jg.g ⟨1,0,1,f⟩,Jg.g ⟨1,0,1,f'⟩]) 100 (by rw[Ju6,JG];simp;omega) (by omega) rfl ?_;refine Jun ?_;show ∃ (a2:List Jg) (q':Int),[D.s (Jl a++[Jg.g ⟨1,0,1,f⟩,Jg.g ⟨1,0,1,f'⟩]),.s (Ja bs),dI o']=_∧_;have:Jl a++[Jg.g ⟨1,0,1,f⟩,Jg.g ⟨1,0,1,f'⟩]=Jl (a++[⟨1,0,1,f⟩,⟨1,0,1,f'⟩]):=by simp[Jl]
   rw[this];refine fin _ _ ⟨by simp;omega,?_⟩ (by omega) (by omega);intro l hl;rcases Ju5.1 hl with hl | hl
   ·exact ha.2 l hl
   ·simp at hl;rcases hl with rfl | rfl
    ·exact⟨by simp[g1],by simp[g2]⟩
    ·exact⟨by simp[g1'],by simp[g2']⟩
 obtain⟨ds,e1,f,q,rfl,e2⟩:=key;exact⟨f,q,e1,e2⟩
end Go.Proofs.YtngcnclchcahlabGreatDoor

import Derived.Test.YtgpjnnkmmplicaaGreatDoorTd
import Derived.Test.YtgpjnnkmmplicaaGreatDoorPT
import Derived.Test.YtgpjnnkmmplicaaGreatDoorPN
import Derived.Test.YtgpjnnkmmplicaaGreatDoorPZ
set_option linter.unusedVariables false
set_option linter.unusedSimpArgs false
/- Copies,comparisons,marks and sizes of acts: over residual programs. -/
namespace Go.Proofs.YtgpjnnkmmplicaaGreatDoor
open Go Go.Tm
open Go.IntKind (i64)
theorem XW (l:List Int) (hl:l.length≤2000000):Ev L f_kb [.s (dL l)] [.s (dL l)]:=by
 refine Jq7 (vs:=[.l (dL l)]) L_kb rfl ?_;have hlen:=dL1 l;refine JqV (by show decide ((0:Int)≤((dL l).length:Int))=true;simp) ?_;refine JqQ (dL l) 2000000 (by omega) (by omega) rfl ?_;refine JqH (dL l).length (fun i=>[.l ((dL l).take i++List.replicate ((dL l).length-i) (dI 0)),.i i]) (fun _=>True) rfl ?_ trivial fun i hi _=>?_
 ·show [V.l (List.replicate ((dL l).length:Int).toNat (dI 0)),V.i 0]=_;simp
 simp only[sC,sN];refine Jqv i (ds:=dL l) rfl rfl (fun h=>?_) (fun h=>JqG (JqK ?_))
 ·obtain⟨x,hx,_⟩:=sA1 (show i<l.length by omega);refine JqJ i (mA1 (f:=dI) hx) rfl rfl rfl rfl ?_;refine JqB (ds:=(dL l).take i++List.replicate ((dL l).length-i) (dI 0)) i (JbG h) rfl rfl rfl rfl rfl rfl ?_;refine JqI (vs:=[.l ((dL l).take (i+1)++List.replicate ((dL l).length-(i+1)) (dI 0)),.i ((i+1:Nat):Int)]) ?_ ⟨h,rfl,trivial⟩;show [V.l (((dL l).take i++List.replicate ((dL l).length-i) (dI 0)).set (i:Int).toNat (dI x)),V.i (i64.wrap ((i:Int)+1))]=_;rw[wS h (by omega),Int.toNat_natCast,Ww (es:=dL l) (mA1 (f:=dI) hx)]
 ·show [D.s ((dL l).take i++List.replicate ((dL l).length-i) (dI 0))]=_;rw[V5 h]
theorem Jf3 (f:Frm) (hf:Frm.fit f):Ev L f_kc f.cells f.cells:=by
 refine Jq7 (vs:=[.l (dL f.c),.l (dL f.d),.i f.k]) L_kc rfl ?_;refine JqC (XW f.c hf.1) rfl rfl rfl ?_;refine JqC (XW f.d hf.2) rfl rfl rfl ?_;exact JqK rfl
theorem Jgk (l:Jd) (hf:Frm.fit l.f):Ev L f_kd l.cells l.cells:=by
 refine Jq7 (vs:=[.i l.kind,.i l.pot,.i l.skip,.l (dL l.f.c),.l (dL l.f.d),.i l.f.k]) L_kd rfl ?_;refine JqC (Jf3 l.f hf) rfl rfl rfl ?_;exact JqK rfl
theorem JdQ (a:List Jd) (ha:YS a):Ev L f_ke [.s (Jn a)] [.s (Jn a)]:=by
 refine Jq7 (vs:=[.l (Jn a)]) L_ke rfl ?_;have hlen:=Qt a;have hl:=ha.1;refine JqV (by show decide ((0:Int)≤((Jn a).length:Int))=true;simp) ?_;refine JqQ (Jn a) 2000000 (by omega) (by omega) rfl ?_;refine JqH (Jn a).length (fun i=>[.l ((Jn a).take i++List.replicate ((Jn a).length-i) (Jd.g ⟨0,0,0,Frm.none⟩)),.i i]) (fun _=>True) rfl ?_ trivial fun i hi _=>?_
 ·show [V.l (List.replicate ((Jn a).length:Int).toNat (Jd.g ⟨0,0,0,Frm.none⟩)),V.i 0]=_;simp
 simp only[sC,sN];refine Jqv i (ds:=Jn a) rfl rfl (fun h=>?_) (fun h=>JqG (JqK ?_))
 ·obtain⟨x,hx,hm⟩:=sA1 (show i<a.length by omega);refine JqJ (vs:=[.i x.kind,.i x.pot,.i x.skip,.l (dL x.f.c),.l (dL x.f.d),.i x.f.k]) i (mA1 (f:=Jd.g) hx) rfl rfl rfl rfl ?_;simp only[sC,sN];refine JqC (vs:=[.i x.kind,.i x.pot,.i x.skip,.l (dL x.f.c),.l (dL x.f.d),.i x.f.k]) (Jgk x (ha.2 x hm)) rfl rfl rfl ?_;simp only[sC,sN];refine JqB (vs:=[.i 0,.i 0,.i 0,.l [],.l [],.i 0]) (ds:=(Jn a).take i++List.replicate ((Jn a).length-i) (Jd.g ⟨0,0,0,Frm.none⟩)) i (JbG h) rfl rfl rfl rfl rfl rfl ?_;refine JqI (vs:=[.l ((Jn a).take (i+1)++List.replicate ((Jn a).length-(i+1)) (Jd.g ⟨0,0,0,Frm.none⟩)),.i ((i+1:Nat):Int)]) ?_ ⟨h,rfl,trivial⟩;show [V.l (((Jn a).take i++List.replicate ((Jn a).length-i) (Jd.g ⟨0,0,0,Frm.none⟩)).set (i:Int).toNat (Jd.g x)),V.i (i64.wrap ((i:Int)+1))]=_;rw[wS h (by omega),Int.toNat_natCast,Ww (es:=Jn a) (mA1 (f:=Jd.g) hx)]
 ·show [D.s ((Jn a).take i++List.replicate ((Jn a).length-i) (Jd.g ⟨0,0,0,Frm.none⟩))]=_;rw[V5 h]
theorem Jcw (as:List (List Jd)) (ha:QP as):Ev L f_kf [.s (Jf as)] [.s (Jf as)]:=by
 refine Jq7 (vs:=[.l (Jf as)]) L_kf rfl ?_;have hlen:=QC as;have hl:=ha.1;refine JqV (by show decide ((0:Int)≤((Jf as).length:Int))=true;simp) ?_;refine JqQ (Jf as) 2000000 (by omega) (by omega) rfl ?_;refine JqH (Jf as).length (fun i=>[.l ((Jf as).take i++List.replicate ((Jf as).length-i) (D.s [])),.i i]) (fun _=>True) rfl ?_ trivial fun i hi _=>?_
 ·show [V.l (List.replicate ((Jf as).length:Int).toNat (D.s [])),V.i 0]=_;simp
 simp only[sC,sN];refine Jqv i (ds:=Jf as) rfl rfl (fun h=>?_) (fun h=>JqG (JqK ?_))
 ·obtain⟨x,hx,hm⟩:=sA1 (show i<as.length by omega);refine JqJ i (mA1 (f:=fun a=>D.s (Jn a)) hx) rfl rfl rfl rfl ?_;refine JqC (JdQ x (ha.2 x hm)) rfl rfl rfl ?_;simp only[sC,sN];refine JqB (ds:=(Jf as).take i++List.replicate ((Jf as).length-i) (D.s [])) i (JbG h) rfl rfl rfl rfl rfl rfl ?_;refine JqI (vs:=[.l ((Jf as).take (i+1)++List.replicate ((Jf as).length-(i+1)) (D.s [])),.i ((i+1:Nat):Int)]) ?_ ⟨h,rfl,trivial⟩;show [V.l (((Jf as).take i++List.replicate ((Jf as).length-i) (D.s [])).set (i:Int).toNat (.s (Jn x))),V.i (i64.wrap ((i:Int)+1))]=_;rw[wS h (by omega),Int.toNat_natCast,Ww (es:=Jf as) (mA1 (f:=fun a=>D.s (Jn a)) hx)]
 ·show [D.s ((Jf as).take i++List.replicate ((Jf as).length-i) (D.s []))]=_;rw[V5 h]
theorem Q9 (a b:List Int) (hl:a.length≤2000000):Ev L f_k4q [.s (dL a),.s (dL b)] [dB (decide (a=b))] :=
 JfR dI .i a b L_k4q rfl (fun _=>rfl) (fun _ _ _ _ _=>rfl) hl
theorem JfP (f g:Frm) (hf:Frm.fit f):Ev L f_k4y (f.cells++g.cells) [dB (decide (f=g))]:=by
 refine Jq7 (vs:=[.l (dL f.c),.l (dL f.d),.i f.k,.l (dL g.c),.l (dL g.d),.i g.k]) L_k4y rfl ?_;have e:decide (f=g)=(decide (f.c=g.c)&&(decide (f.d=g.d)&&decide (f.k=g.k))):=by
  obtain⟨a,b,c⟩:=f;obtain⟨a',b',c'⟩:=g;simp only[Frm.mk.injEq]
  by_cases h1:a=a' <;> by_cases h2:b=b' <;> by_cases h3:c=c' <;> simp[h1,h2,h3]
 rw[e];refine JqC (Q9 f.c g.c hf.1) rfl rfl rfl ?_;refine JqA (decide (f.c=g.c)) rfl (fun h=>JqK ?_) (fun h=>?_)
 ·show [dB false]=_;rw[h];rfl
 refine JqC (Q9 f.d g.d hf.2) rfl rfl rfl ?_;refine JqA (decide (f.d=g.d)) rfl (fun h2=>JqK ?_) (fun h2=>?_)
 ·show [dB false]=_;rw[h,h2];rfl
 refine JqA (decide (f.k=g.k)) rfl (fun h3=>JqK ?_) (fun h3=>JqK ?_)
 ·show [dB false]=_;rw[h,h2,h3];rfl
 ·show [dB true]=_;rw[h,h2,h3];rfl
theorem JfC (a b:Jd) (hf:Frm.fit a.f):Ev L f_k4z (a.cells++b.cells) [dB (decide (a=b))]:=by
 refine Jq7 (vs:=[.i a.kind,.i a.pot,.i a.skip,.l (dL a.f.c),.l (dL a.f.d),.i a.f.k,.i b.kind,.i b.pot,.i b.skip,.l (dL b.f.c),.l (dL b.f.d),.i b.f.k]) L_k4z rfl ?_;have e:decide (a=b)=(decide (a.kind=b.kind)&&(decide (a.pot=b.pot)&&(decide (a.skip=b.skip)&&decide (a.f=b.f)))):=by
  obtain⟨a1,a2,a3,a4⟩:=a;obtain⟨b1,b2,b3,b4⟩:=b;simp only[Jd.mk.injEq]
  by_cases h1:a1=b1 <;> by_cases h2:a2=b2 <;> by_cases h3:a3=b3 <;> by_cases h4:a4=b4 <;> simp[h1,h2,h3,h4]
 rw[e];refine JqA (decide (a.kind=b.kind)) rfl (fun h=>JqK ?_) (fun h=>?_)
 ·show [dB false]=_;rw[h];rfl
 refine JqA (decide (a.pot=b.pot)) rfl (fun h2=>JqK ?_) (fun h2=>?_)
 ·show [dB false]=_;rw[h,h2];rfl
 refine JqA (decide (a.skip=b.skip)) rfl (fun h3=>JqK ?_) (fun h3=>?_)
 ·show [dB false]=_;rw[h,h2,h3];rfl
 refine JqC (JfP a.f b.f hf) rfl rfl rfl ?_;refine JqA (decide (a.f=b.f)) rfl (fun h4=>JqK ?_) (fun h4=>JqK ?_)
 ·show [dB false]=_;rw[h,h2,h3,h4];rfl
 ·show [dB true]=_;rw[h,h2,h3,h4];rfl
theorem JdI (a b:List Jd) (ha:YS a):Ev L f_k50 [.s (Jn a),.s (Jn b)] [dB (decide (a=b))] :=
 JcL (g:=f_k4z) (sh:= .g [.i .i64,.i .i64,.i .i64,.s,.s,.i .i64])
  (as:=[(.vi .i64 (.v 3)),(.vi .i64 (.v 4)),(.vi .i64 (.v 5)),(.s (.v 6)),(.s (.v 7)),(.vi .i64 (.v 8)),(.vi .i64 (.v 9)),(.vi .i64 (.v 10)),(.vi .i64 (.v 11)),(.s (.v 12)),(.s (.v 13)),(.vi .i64 (.v 14))]) (k1:=9) (k2:=15)
  Jd.g (fun x=>[.i x.kind,.i x.pot,.i x.skip,.l (dL x.f.c),.l (dL x.f.d),.i x.f.k]) Jd.cells a b
  L_k50 rfl (fun _=>rfl) (fun _=>rfl) (fun _=>rfl) (fun _ _ _ _ _=>rfl) (fun x hx y=>JfC x y (ha.2 x hx)) ha.1
theorem Jb4 (a b:List (List Jd)) (ha:QP a):Ev L f_k51 [.s (Jf a),.s (Jf b)] [dB (decide (a=b))] :=
 JcL (g:=f_k50) (sh:= .one .s) (as:=[(.s (.v 3)),(.s (.v 4))]) (k1:=4) (k2:=5) (fun x=> .s (Jn x)) (fun x=>[.l (Jn x)]) (fun x=>[.s (Jn x)]) a b
  L_k51 rfl (fun _=>rfl) (fun _=>rfl) (fun _=>rfl) (fun _ _ _ _ _=>rfl) (fun x hx y=>JdI x y (ha.2 x hx)) ha.1
/- Marks,and what is held; sizes of acts: over residual programs. -/
theorem JK (l:List Int) (k:Int) (hl:l.length≤2000000) (h0:0≤k) (h1:k≤1000000000000000):Ev L f_k53 [.s (dL l),dI k] [dI (k+l.length),.s (dL (cnt k l.length))]:=by
 refine Jq7 (vs:=[.l (dL l),.i k]) L_k53 rfl ?_;have hc:(cnt k l.length).length=l.length:=X5 _ _;have hc':(dL (cnt k l.length)).length=(dL l).length:=by rw[dL1,dL1,hc]
 have hlen:=dL1 l;refine JqH l.length (fun i=>[.l ((dL (cnt k l.length)).take i++(dL l).drop i),.i (k+i),.i i]) (fun _=>True) rfl ?_ trivial fun i hi _=>?_
 ·show [V.l (dL l),V.i k,V.i 0]=_;simp
 simp only[sC,sN];refine Jqv i (ds:=(dL (cnt k l.length)).take i++(dL l).drop i) ((JhA hc').trans hlen) rfl (fun h=>?_) (fun h=>JqG (JqK ?_))
 ·obtain⟨x,hx,_⟩:=sA1 h;refine JqB (ds:=(dL (cnt k l.length)).take i++(dL l).drop i) i (Jj6 hc' (mA1 (f:=dI) hx)) rfl rfl rfl rfl rfl rfl ?_;refine JqI (vs:=[.l ((dL (cnt k l.length)).take (i+1)++(dL l).drop (i+1)),.i (k+((i+1:Nat):Int)),.i ((i+1:Nat):Int)]) ?_ ⟨h,rfl,trivial⟩;show [V.l (((dL (cnt k l.length)).take i++(dL l).drop i).set (i:Int).toNat (dI (k+i))),V.i (i64.wrap (k+i+1)),V.i (i64.wrap ((i:Int)+1))]=_;rw[wS h (by omega),Int.toNat_natCast,JhQ hc' (mA1 (f:=dI) (Jj3 k h)),w64 (by omega) (by omega)];rw[show k+(i:Int)+1=k+((i+1:Nat):Int) by push_cast;omega]
 ·show [dI (k+i),D.s ((dL (cnt k l.length)).take i++(dL l).drop i)]=_;rw[Jh0 hc' (by omega),show i=l.length by omega]
theorem Xp (k:Int) (n:Nat) (hl:n≤2000000) (h0:0≤k) (h1:k≤1000000000000000):Ev L f_k5c [.s (dL (cnt k n)),dI k] [dI (k+n)]:=by
 refine Jq7 (vs:=[.l (dL (cnt k n)),.i k]) L_k5c rfl ?_;have hlen:(dL (cnt k n)).length=n:=by rw[dL1,X5]
 refine JqH n (fun i=>[.i (k+i),.i i]) (fun _=>True) rfl ?_ trivial fun i hi _=>?_
 ·show [V.i k,V.i 0]=_;simp
 simp only[sC,sN];refine Jqv i hlen rfl (fun h=>?_) (fun h=>JqG (JqK ?_))
 ·refine JqJ i (mA1 (f:=dI) (Jj3 k h)) rfl rfl rfl rfl ?_;refine JqM ?_ ?_
  ·show (!(decide ((k+(i:Int))=(k+(i:Int)))))=false;simp
  refine JqI (vs:=[.i (k+((i+1:Nat):Int)),.i ((i+1:Nat):Int)]) ?_ ⟨h,rfl,trivial⟩;show [V.i (i64.wrap (k+i+1)),V.i (i64.wrap ((i:Int)+1))]=_;rw[wS h (by omega),w64 (by omega) (by omega)];rw[show k+(i:Int)+1=k+((i+1:Nat):Int) by push_cast;omega]
 ·show [dI (k+i)]=_;rw[show i=n by omega]
def wtL (l:Jd):Nat:=4+l.f.c.length+l.f.d.length
def wtA (a:List Jd):Nat:=(a.map wtL).sum
def X0 (as:List (List Jd)):Nat:=(as.map wtA).sum
theorem JmY {a:List Jd} {i:Nat} {x:Jd} (h:a[i]? = some x):wtA (a.take (i+1))=wtA (a.take i)+wtL x:=by unfold wtA;rw[Q6 h];simp
theorem Jk9 {a:List (List Jd)} {i:Nat} {x:List Jd} (h:a[i]? = some x):X0 (a.take (i+1))=X0 (a.take i)+wtA x:=by unfold X0;rw[Q6 h];simp
theorem JaT {α:Type} (f:α→Nat) (l:List α) (i:Nat):((l.take i).map f).sum≤(l.map f).sum:=by
 conv=>rhs;rw[←List.take_append_drop i l,List.map_append,List.sum_append]
 omega
theorem Jhn (a:List Jd) (i:Nat):wtA (a.take i)≤wtA a:=JaT _ _ _
theorem JeS (a:List (List Jd)) (i:Nat):X0 (a.take i)≤X0 a:=JaT _ _ _
theorem Jku {α:Type} {es:List α} {fs:List α} {i:Nat} (h:es.drop i=fs.drop i) {x:α} (hx:fs[i]? = some x):es[i]? = some x:=by
 have:(es.drop i)[0]? = (fs.drop i)[0]?:=by rw[h]
 simpa[hx] using this
theorem Jgu {α:Type} {es:List α} {fs:List α} {i:Nat} (h:es.drop i=fs.drop i) (x:α):(es.set i x).drop (i+1)=fs.drop (i+1):=by
 rw[List.drop_set_of_lt (by omega)];rw[show es.drop (i+1)=(es.drop i).drop 1 by rw[List.drop_drop],show fs.drop (i+1)=(fs.drop i).drop 1 by rw[List.drop_drop],h]
theorem Jbq (a:List Jd) (ha:YS a) (k:Int) (h0:0≤k) (h1:k+wtA a≤1000000000000) : ∃ ds,Ev L f_k54 [.s (Jn a),dI k] ds∧∃ es,ds=[dI (k+wtA a),.s es]∧es.length=a.length:=by
 refine Jq4 (vs:=[.l (Jn a),.i k]) L_k54 rfl ?_;have hlen:=Qt a;have hl:=ha.1;refine JqS a.length (fun i vs=>∃ es,vs=[.l es,.i (k+wtA (a.take i)),.i i]∧es.length=a.length∧es.drop i=(Jn a).drop i) rfl ?_ ?_
 ·exact⟨Jn a,by show [V.l (Jn a),V.i k,V.i 0]=_;simp[wtA],hlen,rfl⟩
 rintro i _ hi ⟨es,rfl,he,hd⟩;simp only[sC,sN];have hw:=Jhn a i;refine Jqv i (ds:=es) he rfl (fun h=>?_) (fun h=>JqG (JqK ?_))
 ·obtain⟨x,hx,hm⟩:=sA1 h;have hx0:=Jku hd (mA1 (f:=Jd.g) hx);have hxf:=ha.2 x hm;have hw2:=JmY hx;have hw3:=Jhn a (i+1);have hwl:wtL x=4+x.f.c.length+x.f.d.length:=rfl;generalize hk:k+(wtA (a.take i):Int)=q at *;have hq0:0≤q:=by omega
  have hq1:q+wtL x≤1000000000000:=by omega
  have e1:i64.wrap (q+1)=q+1:=w64 (by omega) (by omega);have e2:i64.wrap (q+1+1)=q+1+1:=w64 (by omega) (by omega);have e3:i64.wrap (q+1+1+1)=q+1+1+1:=w64 (by omega) (by omega);have hil:i<es.length:=by omega
  refine JqB (vs:=[.i x.kind,.i x.pot,.i x.skip,.l (dL x.f.c),.l (dL x.f.d),.i x.f.k]) (ds:=es) i hx0 rfl rfl rfl rfl rfl rfl ?_;simp only[sC,sN];generalize hes1:es.set i (.g [dI q,dI x.pot,dI x.skip,.s (dL x.f.c),.s (dL x.f.d),dI x.f.k])=es1;have hl1:es1.length=es.length:=by rw[←hes1];simp
  refine JqB (vs:=[.i q,.i x.pot,.i x.skip,.l (dL x.f.c),.l (dL x.f.d),.i x.f.k]) (ds:=es1) (d:= .g [dI q,dI x.pot,dI x.skip,.s (dL x.f.c),.s (dL x.f.d),dI x.f.k]) i (by rw[←hes1];exact Xn _ hil) rfl (by rw[hl1];rfl) rfl (by rw[←hes1];rfl) rfl rfl ?_;simp only[sC,sN];generalize hes2:es1.set i (.g [dI q,dI (q+1),dI x.skip,.s (dL x.f.c),.s (dL x.f.d),dI x.f.k])=es2;have hl2:es2.length=es.length:=by rw[←hes2];simp[hl1]
  refine JqB (vs:=[.i q,.i (q+1),.i x.skip,.l (dL x.f.c),.l (dL x.f.d),.i x.f.k]) (ds:=es2) (d:= .g [dI q,dI (q+1),dI x.skip,.s (dL x.f.c),.s (dL x.f.d),dI x.f.k]) i (by rw[←hes2];exact Xn _ (by omega)) rfl (by rw[hl2];rfl) rfl
   (by rw[←hes2,←hes1,←e1];rfl) rfl rfl ?_
  simp only[sC,sN];generalize hes3:es2.set i (.g [dI q,dI (q+1),dI (q+1+1),.s (dL x.f.c),.s (dL x.f.d),dI x.f.k])=es3;have hl3:es3.length=es.length:=by rw[←hes3];simp[hl2]
  have hes3':es3=((es.set i (.g [dI q,dI x.pot,dI x.skip,.s (dL x.f.c),.s (dL x.f.d),dI x.f.k])).set i (.g [dI q,dI (i64.wrap (q+1)),dI x.skip,.s (dL x.f.c),.s (dL x.f.d),dI x.f.k])).set i
   (.g [dI q,dI (q+1),dI (i64.wrap (i64.wrap (q+1)+1)),.s (dL x.f.c),.s (dL x.f.d),dI x.f.k]):=by rw[e1,e2,hes1,hes2,hes3]
  refine JqB (vs:=[.i q,.i (q+1),.i (q+1+1),.l (dL x.f.c),.l (dL x.f.d),.i x.f.k]) (ds:=es3) (d:= .g [dI q,dI (q+1),dI (q+1+1),.s (dL x.f.c),.s (dL x.f.d),dI x.f.k]) i (by rw[←hes3];exact Xn _ (by omega)) rfl (by rw[hl3];rfl) rfl
   (by rw[hes3'];rfl) rfl rfl ?_
  simp only[sC,sN];refine JqC (vs:=[.i (q+1+1+1+x.f.c.length),.l (dL (cnt (q+1+1+1) x.f.c.length))]) (JK x.f.c (q+1+1+1) hxf.1 (by omega) (by omega)) rfl ?_ rfl ?_
  ·show [D.s (dL x.f.c),dI (i64.wrap (i64.wrap (i64.wrap (q+1)+1)+1))]=_;rw[e1,e2,e3]
  simp only[sC,sN];refine JqV ?_ ?_
  ·show decide (((dL (cnt (q+1+1+1) x.f.c.length)).length:Int)=((dL x.f.c).length:Int))=true;rw[dL1,dL1,X5];simp
  generalize hes4:es3.set i (.g [dI q,dI (q+1),dI (q+1+1),.s (dL (cnt (q+1+1+1) x.f.c.length)),.s (dL x.f.d),dI x.f.k])=es4;have hl4:es4.length=es.length:=by rw[←hes4];simp[hl3]
  refine JqB (vs:=[.i q,.i (q+1),.i (q+1+1),.l (dL (cnt (q+1+1+1) x.f.c.length)),.l (dL x.f.d),.i x.f.k]) (ds:=es4) (d:= .g [dI q,dI (q+1),dI (q+1+1),.s (dL (cnt (q+1+1+1) x.f.c.length)),.s (dL x.f.d),dI x.f.k]) i (by rw[←hes4];exact Xn _ (by omega)) rfl (by rw[hl4];rfl) rfl
   (by rw[←hes4,hes3'];rfl) rfl rfl ?_
  simp only[sC,sN];refine JqC (vs:=[.i (q+1+1+1+x.f.c.length+x.f.d.length),.l (dL (cnt (q+1+1+1+x.f.c.length) x.f.d.length))]) (JK x.f.d (q+1+1+1+x.f.c.length) hxf.2 (by omega) (by omega)) rfl rfl rfl ?_;simp only[sC,sN];refine JqV ?_ ?_
  ·show decide (((dL (cnt (q+1+1+1+x.f.c.length) x.f.d.length)).length:Int)=((dL x.f.d).length:Int))=true;rw[dL1,dL1,X5];simp
  generalize hes5:es4.set i (.g [dI q,dI (q+1),dI (q+1+1),.s (dL (cnt (q+1+1+1) x.f.c.length)),.s (dL (cnt (q+1+1+1+x.f.c.length) x.f.d.length)),dI x.f.k])=es5;have hl5:es5.length=es.length:=by rw[←hes5];simp[hl4]
  refine JqB (vs:=[.i q,.i (q+1),.i (q+1+1),.l (dL (cnt (q+1+1+1) x.f.c.length)),.l (dL (cnt (q+1+1+1+x.f.c.length) x.f.d.length)),.i x.f.k]) (ds:=es5)
   (d:= .g [dI q,dI (q+1),dI (q+1+1),.s (dL (cnt (q+1+1+1) x.f.c.length)),.s (dL (cnt (q+1+1+1+x.f.c.length) x.f.d.length)),dI x.f.k]) i (by rw[←hes5];exact Xn _ (by omega)) rfl (by rw[hl5];rfl) rfl
   (by rw[←hes5,←hes4,hes3'];rfl) rfl rfl ?_
  simp only[sC,sN];have e6:i64.wrap (q+1+1+1+x.f.c.length+x.f.d.length+1)=q+wtL x:=by rw[w64 (by omega) (by omega)];omega
  generalize hes6:es5.set i (.g [dI q,dI (q+1),dI (q+1+1),.s (dL (cnt (q+1+1+1) x.f.c.length)),.s (dL (cnt (q+1+1+1+x.f.c.length) x.f.d.length)),dI (q+1+1+1+x.f.c.length+x.f.d.length)])=es6;refine JqI (vs:=[.l es6,.i (q+wtL x),.i ((i+1:Nat):Int)]) ?_ ⟨h,es6,?_,?_,?_⟩
  ·rw[←hes6,←hes5,←hes4,hes3',←wS h (by omega),←e6];rfl
  ·rw[hw2,←hk];simp only[List.cons.injEq,V.i.injEq,and_true,true_and];push_cast;omega
  ·rw[←hes6,List.length_set,hl5,he]
  ·rw[←hes6,←hes5,←hes4,hes3'];simp only[List.set_set];exact Jgu hd _
 ·refine⟨es,?_,he⟩;show [dI (k+wtA (a.take i)),D.s es]=_;rw[tA1 h]
theorem Jay (as:List (List Jd)) (ha:QP as) (k:Int) (h0:0≤k) (h1:k+X0 as≤1000000000000) : ∃ ds,Ev L f_k55 [.s (Jf as),dI k] ds∧∃ es,ds=[dI (k+X0 as),.s es]∧es.length=as.length:=by
 refine Jq4 (vs:=[.l (Jf as),.i k]) L_k55 rfl ?_;have hlen:=QC as;have hl:=ha.1;refine JqS as.length (fun i vs=>∃ es,vs=[.l es,.i (k+X0 (as.take i)),.i i]∧es.length=as.length∧es.drop i=(Jf as).drop i) rfl ?_ ?_
 ·exact⟨Jf as,by show [V.l (Jf as),V.i k,V.i 0]=_;simp[X0],hlen,rfl⟩
 rintro i _ hi ⟨es,rfl,he,hd⟩;simp only[sC,sN];have hw:=JeS as i;refine Jqv i (ds:=es) he rfl (fun h=>?_) (fun h=>JqG (JqK ?_))
 ·obtain⟨x,hx,hm⟩:=sA1 h;have hx0:=Jku hd (mA1 (f:=fun a=>D.s (Jn a)) hx);have hxf:=ha.2 x hm;have hw2:=Jk9 hx;have hw3:=JeS as (i+1);refine JqB (vs:=[.l (Jn x)]) (ds:=es) i hx0 rfl rfl rfl rfl rfl rfl ?_;simp only[sC,sN];obtain⟨ds,hev,es',rfl,hle⟩:=Jbq x hxf (k+X0 (as.take i)) (by omega) (by omega);refine JqC (vs:=[.i (k+X0 (as.take i)+wtA x),.l es']) hev rfl rfl rfl ?_;simp only[sC,sN];refine JqV ?_ ?_
  ·show decide ((es'.length:Int)=((Jn x).length:Int))=true;rw[Qt,hle];simp
  refine JqI (vs:=[.l (es.set i (.s es')),.i (k+X0 (as.take i)+wtA x),.i ((i+1:Nat):Int)]) ?_ ⟨h,es.set i (.s es'),?_,?_,?_⟩
  ·rw[←wS h (by omega)];rfl
  ·rw[hw2];simp only[List.cons.injEq,V.i.injEq,and_true,true_and];push_cast;omega
  ·rw[List.length_set,he]
  ·exact Jgu hd _
 ·refine⟨es,?_,he⟩;show [dI (k+X0 (as.take i)),D.s es]=_;rw[tA1 h]
/- The program's CatWrites,CatReads and CatPins answer as the reference's: over residual programs. -/
def Jld (f:Frm):Prop:=f.c.length≤9223372036854775807∧f.d.length≤9223372036854775807
def Jn5 (a:List Jd):Prop:=a.length≤9223372036854775807∧∀l∈a,Jld l.f
def Jnh (as:List (List Jd)):Prop:=as.length≤9223372036854775807∧∀a∈as,Jn5 a
def szF (f:Frm):Nat:=f.c.length+f.d.length
def szA (a:List Jd):Nat:=a.length+(a.map fun l=>szF l.f).sum
def KZ (as:List (List Jd)):Nat:=as.length+(as.map szA).sum
theorem J2 {left:Int} {n:Nat} (h0:0≤left) (h1:left≤1048576) : -1≤dec left n∧dec left n≤1048576:=by
 unfold dec;split <;> omega
theorem Ji3 {left:Int} {n:Nat} (h : ¬dec left n<0):(n:Int)≤left:=by
 unfold dec at h;split at h
 ·assumption
 ·omega
theorem XY (l:List Int) (left:Int) (hl:l.length≤9223372036854775807) (h0:0≤left) (h1:left≤1048576):Ev L f_k0 [.s (dL l),dI left] [dI (dec left l.length)]:=by
 refine Jq7 (vs:=[.l (dL l),.i left]) L_k0 rfl ?_;have hlen:=dL1 l;have hw:i64.wrap (left-((dL l).length:Int))=left-l.length:=by rw[hlen];exact w64 (by omega) (by omega)
 refine JqL (left-(l.length:Int)<0) ?_ (fun h=>JqK ?_) (fun h=>JqK ?_)
 ·show decide (i64.wrap (left-((dL l).length:Int))<0)=_;rw[hw]
 ·show [dI (-1)]=_;unfold dec;rw[if_neg (by omega)]
 ·show [dI (i64.wrap (left-((dL l).length:Int)))]=_;unfold dec;rw[hw,if_pos (by omega)]
theorem JfJ (f:Frm) (left:Int) (hf:Jld f) (h0:0≤left) (h1:left≤1048576):Ev L f_k1 (f.cells++[dI left]) [dI (dec left (szF f))]:=by
 refine Jq7 (vs:=[.l (dL f.c),.l (dL f.d),.i f.k,.i left]) L_k1 rfl ?_;refine JqC (XY f.c left hf.1 h0 h1) rfl rfl rfl ?_;have hr:=J2 (n:=f.c.length) h0 h1;refine JqL (dec left f.c.length<0) rfl (fun h=>JqK ?_) (fun h=>?_)
 ·show [dI (-1)]=_;rw[szF,UL h h0]
 refine JqC (XY f.d (dec left f.c.length) hf.2 (by omega) (by omega)) rfl rfl rfl ?_;refine JqL (dec (dec left f.c.length) f.d.length<0) rfl (fun h2=>JqK ?_) (fun h2=>JqK ?_)
 ·show [dI (-1)]=_;rw[Y4 h] at h2;have:=(J2 (n:=f.c.length+f.d.length) h0 h1).1;rw[szF,show dec left (f.c.length+f.d.length) = -1 by omega]
 ·show [dI (dec (dec left f.c.length) f.d.length)]=_;rw[Y4 h];rfl
theorem JfF (l:Jd) (left:Int) (hf:Jld l.f) (h0:0≤left) (h1:left≤1048576):Ev L f_k2 (l.cells++[dI left]) [dI (dec left (szF l.f))]:=by
 refine Jq7 (vs:=[.i l.kind,.i l.pot,.i l.skip,.l (dL l.f.c),.l (dL l.f.d),.i l.f.k,.i left]) L_k2 rfl ?_;refine JqC (JfJ l.f left hf h0 h1) rfl rfl rfl ?_;have hr:=J2 (n:=szF l.f) h0 h1;refine JqL (dec left (szF l.f)<0) rfl (fun h=>JqK ?_) (fun h=>JqK rfl);show [dI (-1)]=_;rw[show dec left (szF l.f) = -1 by omega]
theorem JnS {a:List Jd} {i:Nat} {x:Jd} (h:a[i]? = some x):((a.take (i+1)).map fun l=>szF l.f).sum=((a.take i).map fun l=>szF l.f).sum+szF x.f:=by rw[Q6 h];simp
theorem JkL {a:List (List Jd)} {i:Nat} {x:List Jd} (h:a[i]? = some x):((a.take (i+1)).map szA).sum=((a.take i).map szA).sum+szA x:=by rw[Q6 h];simp
theorem JdE (a:List Jd) (left:Int) (ha:Jn5 a) (h0:0≤left) (h1:left≤1048576):Ev L f_k3 [.s (Jn a),dI left] [dI (dec left (szA a))]:=by
 refine Jq7 (vs:=[.l (Jn a),.i left]) L_k3 rfl ?_;have hlen:=Qt a;have hl:=ha.1;have hw:i64.wrap (left-((Jn a).length:Int))=left-a.length:=by rw[hlen];exact w64 (by omega) (by omega)
 refine JqL (left-(a.length:Int)<0) ?_ (fun h=>JqK ?_) (fun h=>?_)
 ·show decide (i64.wrap (left-((Jn a).length:Int))<0)=_;rw[hw]
 ·show [dI (-1)]=_;unfold dec szA;rw[if_neg (by omega)]
 have hal:a.length≤1048576:=by omega
 refine JqH a.length (fun i=>[.i (dec left (a.length+((a.take i).map fun l=>szF l.f).sum)),.i i]) (fun i=>¬dec left (a.length+((a.take i).map fun l=>szF l.f).sum)<0) rfl ?_ ?_ fun i hi hp=>?_
 ·show [V.i (i64.wrap (left-((Jn a).length:Int))),V.i 0]=_;rw[hw];simp only[List.take_zero,List.map_nil,List.sum_nil,Nat.add_zero];unfold dec;rw[if_pos (by omega)];rfl
 ·simp only[List.take_zero,List.map_nil,List.sum_nil,Nat.add_zero];unfold dec;rw[if_pos (by omega)];omega
 simp only[sC,sN];have hr:=J2 (n:=a.length+((a.take i).map fun l=>szF l.f).sum) h0 h1;refine Jqv i hlen rfl (fun h'=>?_) (fun h'=>JqG (JqK ?_))
 ·obtain⟨x,hx,hm⟩:=sA1 h';refine JqJ (vs:=[.i x.kind,.i x.pot,.i x.skip,.l (dL x.f.c),.l (dL x.f.d),.i x.f.k]) i (mA1 (f:=Jd.g) hx) rfl rfl rfl rfl ?_;simp only[sC,sN];refine JqC (JfF x (dec left (a.length+((a.take i).map fun l=>szF l.f).sum)) (ha.2 x hm) (by omega) (by omega)) rfl rfl rfl ?_;simp only[sC,sN];have e:=Y4 (m:=szF x.f) hp;rw[Nat.add_assoc,←JnS hx] at e;rw[e];refine JqL (dec left (a.length+((a.take (i+1)).map fun l=>szF l.f).sum)<0) rfl (fun h2=>JqG (JqK ?_)) (fun h2=>?_)
  ·show [dI (-1)]=_;have:szA a=a.length+((a.take (i+1)).map fun l=>szF l.f).sum+((a.drop (i+1)).map fun l=>szF l.f).sum:=by
    unfold szA
    conv=>lhs;rw[←List.take_append_drop (i+1) a,List.map_append,List.sum_append,List.take_append_drop]
    omega
   rw[this,UL h2 h0]
  ·refine JqI (vs:=[.i (dec left (a.length+((a.take (i+1)).map fun l=>szF l.f).sum)),.i ((i+1:Nat):Int)]) ?_ ⟨h',rfl,h2⟩;rw[←wS h' (by omega)];rfl
 ·show [dI (dec left (a.length+((a.take i).map fun l=>szF l.f).sum))]=_;rw[tA1 h'];rfl
theorem JcY (a:List (List Jd)) (left:Int) (ha:Jnh a) (h0:0≤left) (h1:left≤1048576):Ev L f_k4 [.s (Jf a),dI left] [dI (dec left (KZ a))]:=by
 refine Jq7 (vs:=[.l (Jf a),.i left]) L_k4 rfl ?_;have hlen:=QC a;have hl:=ha.1;have hw:i64.wrap (left-((Jf a).length:Int))=left-a.length:=by rw[hlen];exact w64 (by omega) (by omega)
 refine JqL (left-(a.length:Int)<0) ?_ (fun h=>JqK ?_) (fun h=>?_)
 ·show decide (i64.wrap (left-((Jf a).length:Int))<0)=_;rw[hw]
 ·show [dI (-1)]=_;unfold dec KZ;rw[if_neg (by omega)]
 have hal:a.length≤1048576:=by omega
 refine JqH a.length (fun i=>[.i (dec left (a.length+((a.take i).map szA).sum)),.i i]) (fun i=>¬dec left (a.length+((a.take i).map szA).sum)<0) rfl ?_ ?_ fun i hi hp=>?_
 ·show [V.i (i64.wrap (left-((Jf a).length:Int))),V.i 0]=_;rw[hw];simp only[List.take_zero,List.map_nil,List.sum_nil,Nat.add_zero];unfold dec;rw[if_pos (by omega)];rfl
 ·simp only[List.take_zero,List.map_nil,List.sum_nil,Nat.add_zero];unfold dec;rw[if_pos (by omega)];omega
 simp only[sC,sN];have hr:=J2 (n:=a.length+((a.take i).map szA).sum) h0 h1;refine Jqv i hlen rfl (fun h'=>?_) (fun h'=>JqG (JqK ?_))
 ·obtain⟨x,hx,hm⟩:=sA1 h';refine JqJ (vs:=[.l (Jn x)]) i (mA1 (f:=fun a=>D.s (Jn a)) hx) rfl rfl rfl rfl ?_;simp only[sC,sN];refine JqC (JdE x (dec left (a.length+((a.take i).map szA).sum)) (ha.2 x hm) (by omega) (by omega)) rfl rfl rfl ?_;simp only[sC,sN];have e:=Y4 (m:=szA x) hp;rw[Nat.add_assoc,←JkL hx] at e;rw[e];refine JqL (dec left (a.length+((a.take (i+1)).map szA).sum)<0) rfl (fun h2=>JqG (JqK ?_)) (fun h2=>?_)
  ·show [dI (-1)]=_;have:KZ a=a.length+((a.take (i+1)).map szA).sum+((a.drop (i+1)).map szA).sum:=by
    unfold KZ
    conv=>lhs;rw[←List.take_append_drop (i+1) a,List.map_append,List.sum_append,List.take_append_drop]
    omega
   rw[this,UL h2 h0]
  ·refine JqI (vs:=[.i (dec left (a.length+((a.take (i+1)).map szA).sum)),.i ((i+1:Nat):Int)]) ?_ ⟨h',rfl,h2⟩;rw[←wS h' (by omega)];rfl
 ·show [dI (dec left (a.length+((a.take i).map szA).sum))]=_;rw[tA1 h'];rfl
theorem Jds {α:Type} (f:α→Nat) {l:List α} {x:α} (h:x∈l):f x≤(l.map f).sum:=by
 induction l with
 | nil=>simp at h
 | cons y l ih =>
  simp only[Jrh,List.sum_cons];rcases Jrs.1 h with rfl | h
  ·omega
  ·have:=ih h;omega
theorem JkY {a:List Jd} (h:szA a≤1048576):YS a:=by
 unfold szA at h;refine⟨by omega,fun l hl=>?_⟩;have:szF l.f≤(a.map fun l=>szF l.f).sum:=Jds (fun l:Jd=>szF l.f) hl;have e:szF l.f=l.f.c.length+l.f.d.length:=rfl;exact⟨by omega,by omega⟩
theorem JiL {as:List (List Jd)} (h:KZ as≤1048576):QP as:=by
 unfold KZ at h;refine⟨by omega,fun a ha=>JkY ?_⟩;have:=Jds szA ha;omega
theorem Jnp :∀a:List Jd,wtA a≤4*szA a
 | []=>by simp[wtA]
 | l::a=>by
  have:=Jnp a;simp only[wtA,szA,wtL,szF,Jrh,List.sum_cons,List.length_cons] at *;omega
theorem JjQ :∀as:List (List Jd),X0 as≤4*KZ as
 | []=>by simp[X0]
 | a::as=>by
  have:=JjQ as;have:=Jnp a;simp only[X0,KZ,Jrh,List.sum_cons,List.length_cons] at *;omega
abbrev KC:Ty:= .sl (.i .i64)
abbrev JoQ:Ty:= .st [KC,KC,.i .i64]
abbrev Jfk:Ty:= .st [.i .i64,.i .i64,.i .i64,JoQ]
theorem ZQ {ds:List D} (h:VO KC ds) : ∃ l,ds=[.s (dL l)]∧l.length≤9223372036854775807:=by
 obtain⟨es,rfl,hl,he⟩:=h;obtain⟨l,rfl,_⟩:=Jcp (f:=dI) (p:=fun _=>True) fun x hx=>by
  obtain⟨cs,⟨n,rfl⟩,rfl⟩:=he x hx;exact⟨n,trivial,rfl⟩
 exact⟨l,rfl,by rw[Jri] at hl;unfold maxLen at hl;omega⟩
theorem JoV {ds:List D} (h:VO JoQ ds) : ∃ f:Frm,ds=f.cells∧Jld f:=by
 obtain⟨_,_,rfl,h1,_,_,rfl,h2,_,_,rfl,⟨k,rfl⟩,rfl⟩:=h;obtain⟨c,rfl,hc⟩:=ZQ h1;obtain⟨d,rfl,hd⟩:=ZQ h2;exact⟨⟨c,d,k⟩,rfl,hc,hd⟩
theorem Jot {ds:List D} (h:VO Jfk ds) : ∃ l:Jd,ds=l.cells∧Jld l.f:=by
 obtain⟨_,_,rfl,⟨a,rfl⟩,_,_,rfl,⟨b,rfl⟩,_,_,rfl,⟨c,rfl⟩,_,_,rfl,h4,rfl⟩:=h;obtain⟨f,rfl,hf⟩:=JoV h4;exact⟨⟨a,b,c,f⟩,rfl,hf⟩
theorem JoW {ds:List D} (h:VO (.sl Jfk) ds) : ∃ a,ds=[.s (Jn a)]∧Jn5 a:=by
 obtain⟨es,rfl,hl,he⟩:=h;obtain⟨l,rfl,hp⟩:=Jcp (f:=Jd.g) (p:=fun l=>Jld l.f) fun x hx=>by
  obtain⟨cs,h1,rfl⟩:=he x hx;obtain⟨l,rfl,hf⟩:=Jot h1;exact⟨l,hf,rfl⟩
 exact⟨l,rfl,by rw[Jri] at hl;unfold maxLen at hl;omega,hp⟩
theorem Joq {ds:List D} (h:VO (.sl (.sl Jfk)) ds) : ∃ a,ds=[.s (Jf a)]∧Jnh a:=by
 obtain⟨es,rfl,hl,he⟩:=h;obtain⟨l,rfl,hp⟩:=Jcp (f:=fun a=>D.s (Jn a)) (p:=Jn5) fun x hx=>by
  obtain⟨cs,h1,rfl⟩:=he x hx;obtain⟨a,rfl,ha⟩:=JoW h1;exact⟨a,ha,rfl⟩
 exact⟨l,rfl,by rw[Jri] at hl;unfold maxLen at hl;omega,hp⟩
/- The program's SitNew and ClkNew answer as the reference's: over residual programs. -/
structure Pln where
 n:Int
 acts:List (List Jd)
 gives:List Int
 start:List Int
 deriving DecidableEq
def Pln.cells (p:Pln):List D:=[dI p.n,.s (Jf p.acts),.s (dL p.gives),.s (dL p.start)]
def QB (p:Pln):Prop:=QP p.acts∧p.gives.length≤2000000∧p.start.length≤2000000
def Jij (p:Pln):Prop:=Jnh p.acts∧p.gives.length≤9223372036854775807∧p.start.length≤9223372036854775807
def YE (p:Pln):Nat:=KZ p.acts+p.gives.length+p.start.length
def XH (p:Pln):Nat:=X0 p.acts+p.gives.length+p.start.length
theorem Jlc {p:Pln} (h:YE p≤1048576):QB p:=by
 unfold YE at h;exact⟨JiL (by omega),by omega,by omega⟩
theorem JfV (p:Pln) (hp:QB p):Ev L f_kg p.cells p.cells:=by
 refine Jq7 (vs:=[.i p.n,.l (Jf p.acts),.l (dL p.gives),.l (dL p.start)]) L_kg rfl ?_;refine JqC (Jcw p.acts hp.1) rfl rfl rfl ?_;refine JqC (XW p.gives hp.2.1) rfl rfl rfl ?_;refine JqC (XW p.start hp.2.2) rfl rfl rfl ?_;exact JqK rfl
theorem Je2 (p:Pln) (hp:QB p):Ev L f_k52 (p.cells++p.cells) [dB true]:=by
 refine Jq7 (vs:=[.i p.n,.l (Jf p.acts),.l (dL p.gives),.l (dL p.start),.i p.n,.l (Jf p.acts),.l (dL p.gives),.l (dL p.start)]) L_k52 rfl ?_;have h1:=Jb4 p.acts p.acts hp.1;have h2:=Q9 p.gives p.gives hp.2.1;have h3:=Q9 p.start p.start hp.2.2;rw[decide_eq_true rfl] at h1 h2 h3;refine JqM (by show (!decide (p.n=p.n))=false;simp) ?_;refine JqC h1 rfl rfl rfl (JqM rfl ?_);refine JqC h2 rfl rfl rfl (JqM rfl ?_);exact JqC h3 rfl rfl rfl (JqM rfl (JqK rfl))
theorem Jf9 (p:Pln) (left:Int) (hp:Jij p) (h0:0≤left) (h1:left≤1048576):Ev L f_k5 (p.cells++[dI left]) [dI (dec left (YE p))]:=by
 refine Jq7 (vs:=[.i p.n,.l (Jf p.acts),.l (dL p.gives),.l (dL p.start),.i left]) L_k5 rfl ?_;refine JqC (JcY p.acts left hp.1 h0 h1) rfl rfl rfl ?_;have hr:=J2 (n:=KZ p.acts) h0 h1;refine JqL (dec left (KZ p.acts)<0) rfl (fun h=>JqK ?_) (fun h=>?_)
 ·show [dI (-1)]=_;rw[YE,Nat.add_assoc,UL h h0]
 refine JqC (XY p.gives (dec left (KZ p.acts)) hp.2.1 (by omega) (by omega)) rfl rfl rfl ?_;have hr2:=J2 (n:=KZ p.acts+p.gives.length) h0 h1;rw[Y4 h];refine JqL (dec left (KZ p.acts+p.gives.length)<0) rfl (fun h=>JqK ?_) (fun h=>?_)
 ·show [dI (-1)]=_;rw[YE,UL h h0]
 refine JqC (XY p.start (dec left (KZ p.acts+p.gives.length)) hp.2.2 (by omega) (by omega)) rfl rfl rfl ?_;rw[Y4 h];have hr3:=J2 (n:=KZ p.acts+p.gives.length+p.start.length) h0 h1;refine JqL (dec left (KZ p.acts+p.gives.length+p.start.length)<0) rfl (fun h=>JqK ?_) (fun h=>JqK rfl);show [dI (-1)]=_;rw[YE,show dec left (KZ p.acts+p.gives.length+p.start.length) = -1 by omega]
theorem Jdd (p:Pln) (hp:QB p) (hw:XH p≤10000000000) : ∃ es,Ev L f_k56 (p.cells++[dI 1]) [dI (1+XH p),.s es,.s (dL (cnt (1+X0 p.acts) p.gives.length)),.s (dL (cnt (1+X0 p.acts+p.gives.length) p.start.length))]:=by
 unfold XH at hw;obtain⟨ds,hmk,es,rfl,hes⟩:=Jay p.acts hp.1 1 (by omega) (by omega);refine⟨es,Jq7 (vs:=[.i p.n,.l (Jf p.acts),.l (dL p.gives),.l (dL p.start),.i 1]) L_k56 rfl ?_⟩;refine JqC (vs:=[.i (1+X0 p.acts),.l es]) hmk rfl rfl rfl ?_;refine JqC (vs:=[.i (1+X0 p.acts+p.gives.length),.l (dL (cnt (1+X0 p.acts) p.gives.length))]) (JK p.gives (1+X0 p.acts) hp.2.1 (by omega) (by omega)) rfl rfl rfl ?_;refine JqC (vs:=[.i (1+X0 p.acts+p.gives.length+p.start.length),.l (dL (cnt (1+X0 p.acts+p.gives.length) p.start.length))]) (JK p.start (1+X0 p.acts+p.gives.length) hp.2.2 (by omega) (by omega)) rfl rfl rfl ?_;refine JqK ?_;show [dI (1+X0 p.acts+p.gives.length+p.start.length),D.s es,_,_]=_;rw[show (1:Int)+X0 p.acts+p.gives.length+p.start.length=1+XH p by unfold XH;push_cast;omega];rfl
def Qq (p:Pln):Bool:=inB p.n 1 4&&(QA p.acts&&(JE 3 1000 p.start&&Qu p.start p.gives))
theorem Jeu (p:Pln) (hp:QB p):Ev L f_ku p.cells [dB (Qq p)]:=by
 refine Jq7 (vs:=[.i p.n,.l (Jf p.acts),.l (dL p.gives),.l (dL p.start)]) L_ku rfl ?_;refine JqC (Qg p.n 1 4) rfl rfl rfl ?_;refine JqZ (inB p.n 1 4) rfl (fun h1=>?_) (fun h1=>JqK (by show [dB false]=_;simp[Qq,h1]));refine JqC (Jm9 p.acts hp.1) rfl rfl rfl ?_;refine JqZ (QA p.acts) rfl (fun h2=>?_) (fun h2=>JqK (by show [dB false]=_;simp[Qq,h2]));refine JqC (Q4 p.start 3 1000 hp.2.2 (by omega) (by omega)) rfl rfl rfl ?_;refine JqZ (JE 3 1000 p.start) rfl (fun h3=>?_) (fun h3=>JqK (by show [dB false]=_;simp[Qq,h3]));refine JqC (JaM p.start p.gives hp.2.2 hp.2.1) rfl rfl rfl (JqK ?_);show [dB (Qu p.start p.gives)]=_;simp[Qq,h1,h2,h3]
theorem VI (p:Pln) (b:List Int):Ev L f_k2h (p.cells++[.s (dL b)]) [.s (dL b),.s (dL p.gives)] :=
 Jq7 (vs:=[.i p.n,.l (Jf p.acts),.l (dL p.gives),.l (dL p.start),.l (dL b)]) L_k2h rfl (JqK rfl)
theorem Jd5 (p:Pln) (hp:QB p):Ev L f_k2l p.cells [dB (Qq p)]:=by
 refine Jq7 (vs:=[.i p.n,.l (Jf p.acts),.l (dL p.gives),.l (dL p.start)]) L_k2l rfl ?_;refine JqC (XE p.n 1 4) rfl rfl rfl ?_;refine JqZ (inB p.n 1 4) rfl (fun h1=>?_) (fun h1=>JqK (by show [dB false]=_;simp[Qq,h1]));refine JqC (Vc p.acts hp.1) rfl rfl rfl ?_;refine JqZ (QA p.acts) rfl (fun h2=>?_) (fun h2=>JqK (by show [dB false]=_;simp[Qq,h2]));refine JqC (Q8 p.start 3 1000 hp.2.2 (by omega) (by omega)) rfl rfl rfl ?_;refine JqZ (JE 3 1000 p.start) rfl (fun h3=>?_) (fun h3=>JqK (by show [dB false]=_;simp[Qq,h3]));refine JqC (VI p p.start) rfl rfl rfl ?_;refine JqC (JgN p.start p.gives hp.2.2 hp.2.1) rfl rfl rfl (JqK ?_);show [dB (Qu p.start p.gives)]=_;simp[Qq,h1,h2,h3]
theorem Uz (a b:Int) (c d:List Int) (hl:c.length≤2000000):Ev L f_k4r [dI a,.s (dL c),dI b,.s (dL d)] [dB (decide (a=b)&&decide (c=d))]:=by
 refine Jq7 (vs:=[.i a,.l (dL c),.i b,.l (dL d)]) L_k4r rfl ?_;refine JqA (decide (a=b)) rfl (fun h=>JqK (by show [dB false]=_;rw[h];rfl)) (fun h=>?_);refine JqC (Q9 c d hl) rfl rfl rfl ?_;refine JqA (decide (c=d)) rfl (fun h2=>JqK (by show [dB false]=_;rw[h,h2];rfl)) (fun h2=>JqK (by show [dB true]=_;rw[h,h2];rfl))
theorem Jfb (a b:Don) (hl:a.tells.length≤2000000):Ev L f_k4s (a.cells++b.cells) [dB (decide (a=b))]:=by
 refine Jq7 (vs:=[.i a.seq,.i a.code,.l (dL a.tells),.i b.seq,.i b.code,.l (dL b.tells)]) L_k4s rfl ?_;have e:decide (a=b)=(decide (a.seq=b.seq)&&(decide (a.code=b.code)&&decide (a.tells=b.tells))):=by
  obtain⟨a1,a2,a3⟩:=a;obtain⟨b1,b2,b3⟩:=b;simp only[Don.mk.injEq]
  by_cases h1:a1=b1 <;> by_cases h2:a2=b2 <;> by_cases h3:a3=b3 <;> simp[h1,h2,h3]
 rw[e];refine JqA (decide (a.seq=b.seq)) rfl (fun h=>JqK (by show [dB false]=_;rw[h];rfl)) (fun h=>?_);refine JqC (Uz a.code b.code a.tells b.tells hl) rfl rfl rfl ?_;refine JqA (decide (a.code=b.code)&&decide (a.tells=b.tells)) rfl (fun h2=>JqK (by show [dB false]=_;rw[h,h2];rfl)) (fun h2=>JqK (by show [dB true]=_;rw[h,h2];rfl))
theorem Vz (a b:List Don) (hl:a.length≤2000000) (ht :∀d∈a,d.tells.length≤2000000):Ev L f_k4t [.s (dDs a),.s (dDs b)] [dB (decide (a=b))] :=
 JcL (g:=f_k4s) (sh:= .g [.i .i64,.i .i64,.s]) (as:=[(.vi .i64 (.v 3)),(.vi .i64 (.v 4)),(.s (.v 5)),(.vi .i64 (.v 6)),(.vi .i64 (.v 7)),(.s (.v 8))]) (k1:=6) (k2:=9)
  Don.g (fun x=>[.i x.seq,.i x.code,.l (dL x.tells)]) Don.cells a b
  L_k4t rfl (fun _=>rfl) (fun _=>rfl) (fun _=>rfl) (fun _ _ _ _ _=>rfl) (fun x hx y=>Jfb x y (ht x hx)) hl
theorem YR (l:List Don) (k:Int) (hl:l.length≤2000000) (ht :∀d∈l,d.tells.length≤2000000) (h0:0≤k) (h1:k+wts Don.w l≤1000000000000) :
  Ev L f_k57 [.s (dDs l),dI k] [dI (k+wts Don.w l),.s (dDs (JS Don.w Don.mk' k l))] :=
 Jba Don.g Don.w Don.mk' l k L_k57 rfl h0 h1 hl fun v0 v1 es i x q hx hxi hi hq0 hq1=>by
  have hil:i<es.length:=(Jra.1 hxi).1;have hxt:=ht x hx;have hw:x.w=2+x.tells.length:=rfl;have e1:i64.wrap (q+1)=q+1:=w64 (by omega) (by omega);have e2:i64.wrap (q+1+1)=q+1+1:=w64 (by omega) (by omega);refine JqB (vs:=[.i x.seq,.i x.code,.l (dL x.tells)]) (ds:=es) i hxi rfl rfl rfl rfl rfl rfl ?_;simp only[sC,sN];generalize hes1:es.set i (.g [dI q,dI x.code,.s (dL x.tells)])=es1;have hl1:es1.length=es.length:=by rw[←hes1];simp
  refine JqB (vs:=[.i q,.i x.code,.l (dL x.tells)]) (ds:=es1) (d:= .g [dI q,dI x.code,.s (dL x.tells)]) i (by rw[←hes1];exact Xn _ hil) rfl (by rw[hl1];rfl) rfl (by rw[←hes1];rfl) rfl rfl ?_;simp only[sC,sN];generalize hes2:es1.set i (.g [dI q,dI (q+1),.s (dL x.tells)])=es2;have hl2:es2.length=es.length:=by rw[←hes2];simp[hl1]
  have hes2':es2=(es.set i (.g [dI q,dI x.code,.s (dL x.tells)])).set i (.g [dI q,dI (i64.wrap (q+1)),.s (dL x.tells)]):=by rw[e1,hes1,hes2]
  refine JqB (vs:=[.i q,.i (q+1),.l (dL x.tells)]) (ds:=es2) (d:= .g [dI q,dI (q+1),.s (dL x.tells)]) i (by rw[←hes2];exact Xn _ (by omega)) rfl (by rw[hl2];rfl) rfl (by rw[hes2'];rfl) rfl rfl ?_;simp only[sC,sN];refine JqC (vs:=[.i (q+1+1+x.tells.length),.l (dL (cnt (q+1+1) x.tells.length))]) (JK x.tells (q+1+1) hxt (by omega) (by omega)) rfl ?_ rfl ?_
  ·show [D.s (dL x.tells),dI (i64.wrap (i64.wrap (q+1)+1))]=_;rw[e1,e2]
  simp only[sC,sN];refine JqV ?_ ?_
  ·show decide (((dL (cnt (q+1+1) x.tells.length)).length:Int)=((dL x.tells).length:Int))=true;rw[dL1,dL1,X5];simp
  refine JqI ?_ rfl;show [V.l (((es.set i (.g [dI q,dI x.code,.s (dL x.tells)])).set i (.g [dI q,dI (i64.wrap (q+1)),.s (dL x.tells)])).set i (.g [dI q,dI (q+1),.s (dL (cnt (q+1+1) x.tells.length))])),V.i (q+1+1+x.tells.length),V.i (i64.wrap ((i:Int)+1))]=_;rw[wS' (by omega),List.set_set,List.set_set,show q+1+1+(x.tells.length:Int)=q+(x.w:Nat) by rw[hw];push_cast;omega];rfl
theorem KS (l:List Don) (k:Int) (hl:l.length≤2000000) (ht :∀d∈l,d.tells.length≤2000000) (h0:0≤k) (h1:k+wts Don.w l≤1000000000000) :
  Ev L f_k5d [.s (dDs (JS Don.w Don.mk' k l)),dI k] [dI (k+wts Don.w l)] :=
 Ja8 Don.g Don.w Don.mk' l k L_k5d rfl h0 h1 hl fun v1 es i x q hx hxi hi hq0 hq1=>by
  have hxt:=ht x hx;have hw:x.w=2+x.tells.length:=rfl;have e1:i64.wrap (q+1)=q+1:=w64 (by omega) (by omega);have e2:i64.wrap (q+1+1)=q+1+1:=w64 (by omega) (by omega);refine JqJ (vs:=[.i q,.i (q+1),.l (dL (cnt (q+1+1) x.tells.length))]) i hxi rfl rfl rfl rfl ?_;refine JqM (by show (!decide (q=q))=false;simp) ?_;refine JqJ (vs:=[.i q,.i (q+1),.l (dL (cnt (q+1+1) x.tells.length))]) i hxi rfl rfl rfl rfl ?_;refine JqM (by show (!decide (q+1=i64.wrap (q+1)))=false;rw[e1];simp) ?_;refine JqJ (vs:=[.i q,.i (q+1),.l (dL (cnt (q+1+1) x.tells.length))]) i hxi rfl rfl rfl rfl ?_;simp only[sC,sN];refine JqC (vs:=[.i (q+1+1+x.tells.length)]) (Xp (q+1+1) x.tells.length hxt (by omega) (by omega)) rfl ?_ rfl ?_
  ·show [D.s (dL (cnt (q+1+1) x.tells.length)),dI (i64.wrap (i64.wrap (q+1)+1))]=_;rw[e1,e2]
  simp only[sC,sN];refine JqM (by show decide (q+1+1+(x.tells.length:Int)<0)=false;rw[decide_eq_false];omega) ?_;refine JqI ?_ rfl;show [V.i (q+1+1+x.tells.length),V.i (i64.wrap ((i:Int)+1))]=_;rw[wS' (by omega),show q+1+1+(x.tells.length:Int)=q+(x.w:Nat) by rw[hw];push_cast;omega]
structure Sit where
 up:Bool
 frozen:Bool
 round:Int
 base:List Int
 added:List Int
 done:List Don
 deriving DecidableEq
def Sit.cells (s:Sit):List D:=[dB s.up,dB s.frozen,dI s.round,.s (dL s.base),.s (dL s.added),.s (dDs s.done)]
def Qj (s:Sit):Prop:=s.base.length≤2000000∧s.added.length≤2000000∧s.done.length≤2000000∧∀d∈s.done,d.tells.length≤2000000
def JD (s:Sit):Nat:=s.base.length+s.added.length+wts Don.w s.done
def Uu (s:Sit):Sit:=⟨s.up,s.frozen,s.round,cnt 1 s.base.length,cnt (1+s.base.length) s.added.length,JS Don.w Don.mk' (1+s.base.length+s.added.length) s.done⟩
theorem Wv (s:Sit) (hs:Qj s):Ev L f_k4u (s.cells++s.cells) [dB true]:=by
 refine Jq7 (vs:=[.b s.up,.b s.frozen,.i s.round,.l (dL s.base),.l (dL s.added),.l (dDs s.done),.b s.up,.b s.frozen,.i s.round,.l (dL s.base),.l (dL s.added),.l (dDs s.done)]) L_k4u rfl ?_;have h1:=Q9 s.base s.base hs.1;have h2:=Q9 s.added s.added hs.2.1;have h3:=Vz s.done s.done hs.2.2.1 hs.2.2.2;rw[decide_eq_true rfl] at h1 h2 h3;refine JqM (by show (!(s.up == s.up))=false;simp) ?_;refine JqM (by show (!(s.frozen == s.frozen))=false;simp) ?_;refine JqM (by show (!decide (s.round=s.round))=false;simp) ?_;refine JqC h1 rfl rfl rfl (JqM rfl ?_);refine JqC h2 rfl rfl rfl (JqM rfl ?_);exact JqC h3 rfl rfl rfl (JqM rfl (JqK rfl))
theorem Jcs (s:Sit) (hs:Qj s) (hw:JD s≤10000000000):Ev L f_k58 (s.cells++[dI 1]) [dI (1+JD s),.s (dL (Uu s).base),.s (dL (Uu s).added),.s (dDs (Uu s).done)]:=by
 unfold JD at hw;refine Jq7 (vs:=[.b s.up,.b s.frozen,.i s.round,.l (dL s.base),.l (dL s.added),.l (dDs s.done),.i 1]) L_k58 rfl ?_;refine JqC (JK s.base 1 hs.1 (by omega) (by omega)) rfl rfl rfl ?_;refine JqC (JK s.added (1+s.base.length) hs.2.1 (by omega) (by omega)) rfl rfl rfl ?_;refine JqC (YR s.done (1+s.base.length+s.added.length) hs.2.2.1 hs.2.2.2 (by omega) (by omega)) rfl rfl rfl ?_;refine JqK ?_;show [dI (1+s.base.length+s.added.length+wts Don.w s.done),_,_,_]=_;rw[show (1:Int)+s.base.length+s.added.length+wts Don.w s.done=1+JD s by unfold JD;push_cast;omega];rfl
theorem Jci (s:Sit) (hs:Qj s) (hw:JD s≤10000000000):Ev L f_k5e ((Uu s).cells++[dI 1]) [dI (1+JD s)]:=by
 unfold JD at hw;refine Jq7 (vs:=[.b s.up,.b s.frozen,.i s.round,.l (dL (Uu s).base),.l (dL (Uu s).added),.l (dDs (Uu s).done),.i 1]) L_k5e rfl ?_;refine JqC (Xp 1 s.base.length hs.1 (by omega) (by omega)) rfl rfl rfl ?_;refine JqM (by show decide (1+(s.base.length:Int)<0)=false;rw[decide_eq_false];omega) ?_;refine JqC (Xp (1+s.base.length) s.added.length hs.2.1 (by omega) (by omega)) rfl rfl rfl ?_;refine JqM (by show decide (1+(s.base.length:Int)+s.added.length<0)=false;rw[decide_eq_false];omega) ?_;refine JqC (KS s.done (1+s.base.length+s.added.length) hs.2.2.1 hs.2.2.2 (by omega) (by omega)) rfl rfl rfl ?_;refine JqM (by show decide (1+(s.base.length:Int)+s.added.length+wts Don.w s.done<0)=false;rw[decide_eq_false];omega) (JqK ?_);show [dI (1+s.base.length+s.added.length+wts Don.w s.done)]=_;rw[show (1:Int)+s.base.length+s.added.length+wts Don.w s.done=1+JD s by unfold JD;push_cast;omega]
def don0:Don:=⟨0,0,[]⟩
theorem JbA {p:Pln} (h:Qq p=true):1≤p.n∧p.n≤4∧p.start.length=3∧Qu p.start p.gives=true:=by
 simp only[Qq,Jq9,JH,Jy] at h;obtain⟨⟨h1,h2⟩,_,⟨h3,_⟩,h4⟩:=h;exact⟨h1,h2,by omega,h4⟩
theorem Jm2 (p:Pln):XH p≤4*YE p:=by
 have:=JjQ p.acts;unfold XH YE;omega
abbrev tyPlan:Ty:= .st [.i .i64,.sl (.sl Jfk),KC,KC]
theorem JnV {ds:List D} (h:VO tyPlan ds) : ∃ p:Pln,ds=p.cells∧Jij p:=by
 obtain⟨_,_,rfl,⟨n,rfl⟩,_,_,rfl,h1,_,_,rfl,h2,_,_,rfl,h3,rfl⟩:=h;obtain⟨as,rfl,ha⟩:=Joq h1;obtain⟨g,rfl,hg⟩:=ZQ h2;obtain⟨s,rfl,hs⟩:=ZQ h3;exact⟨⟨n,as,g,s⟩,rfl,ha,hg,hs⟩
/- The program's ClkNew answers as the reference's: over residual programs. -/
theorem WA (a b:Cal) (hl:a.args.length≤2000000):Ev L f_k4v (a.cells++b.cells) [dB (decide (a=b))]:=by
 refine Jq7 (vs:=[.i a.client,.i a.seq,.i a.act,.l (dL a.args),.i b.client,.i b.seq,.i b.act,.l (dL b.args)]) L_k4v rfl ?_;have e:decide (a=b)=(decide (a.client=b.client)&&(decide (a.seq=b.seq)&&(decide (a.act=b.act)&&decide (a.args=b.args)))):=by
  obtain⟨a1,a2,a3,a4⟩:=a;obtain⟨b1,b2,b3,b4⟩:=b;simp only[Cal.mk.injEq]
  by_cases h1:a1=b1 <;> by_cases h2:a2=b2 <;> by_cases h3:a3=b3 <;> by_cases h4:a4=b4 <;> simp[h1,h2,h3,h4]
 rw[e];refine JqA (decide (a.client=b.client)) rfl (fun h=>JqK (by show [dB false]=_;rw[h];rfl)) (fun h=>?_);refine JqA (decide (a.seq=b.seq)) rfl (fun h2=>JqK (by show [dB false]=_;rw[h,h2];rfl)) (fun h2=>?_);refine JqA (decide (a.act=b.act)) rfl (fun h3=>JqK (by show [dB false]=_;rw[h,h2,h3];rfl)) (fun h3=>?_);refine JqC (Q9 a.args b.args hl) rfl rfl rfl ?_;refine JqA (decide (a.args=b.args)) rfl (fun h4=>JqK (by show [dB false]=_;rw[h,h2,h3,h4];rfl)) (fun h4=>JqK (by show [dB true]=_;rw[h,h2,h3,h4];rfl))
structure Clk where
 up:Bool
 round:Int
 base:List Int
 done:List Don
 wants:List Cal
 got:List Got
 deriving DecidableEq
def Clk.cells (s:Clk):List D:=[dB s.up,dI s.round,.s (dL s.base),.s (dDs s.done),.s (dCs s.wants),.s (dGs s.got)]
/- The program's LocTry answers as the reference's: over residual programs. -/
theorem W9 (c:Int) (t:List Int) (k:Int) (ht:t.length≤2000000) (h0:0≤k) (h1:k≤100000000000):Ev L f_k5a [dI c,.s (dL t),dI k] [dI (k+t.length),.s (dL (cnt k t.length))] :=
 Jq7 (vs:=[.i c,.l (dL t),.i k]) L_k5a rfl (JqC (JK t k ht h0 (by omega)) rfl rfl rfl (JqK rfl))
theorem JaK (c:Int) (n:Nat) (k:Int) (ht:n≤2000000) (h0:0≤k) (h1:k≤100000000000):Ev L f_k5f [dI c,.s (dL (cnt k n)),dI k] [dI (k+n)]:=by
 refine Jq7 (vs:=[.i c,.l (dL (cnt k n)),.i k]) L_k5f rfl ?_;refine JqC (Xp k n ht h0 (by omega)) rfl rfl rfl ?_;exact JqM (by show decide (k+(n:Int)<0)=false;rw[decide_eq_false];omega) (JqK rfl)
theorem JcA (as:List (List Jd)) (b g:List Int) (s:Int) (a:List Int) (k:Int) (w:List Int) (ha:a.length≤2000000):(KW as b g s a k w).tells.length≤2000000∧(KW as b g s a k w).adds.length≤2000000:=by
 have key :∀r,r∈Jw (as.getD k.toNat [])→(Yt b g (Jb as) (Jh as) s a w r).tells.length≤2000000∧(Yt b g (Jb as) (Jh as) s a w r).adds.length≤2000000:=by
  intro r hr;have hf:=X8 r hr;have hs:(J7 a (atL r.adds b w)).length≤a.length:=by unfold J7;rw[List.length_zipWith];omega
  have ht:(atL r.tells b w).length=r.tells.length:=by simp[atL]
  have htl:=hf.tl;unfold Yt
  repeat' split
  all_goals first
   | exact⟨by simp,ha⟩
   | exact⟨by simp only[ht];omega,by simp only;omega⟩
 unfold KW;split
 ·split
  ·rename_i r hr;exact key r (List.mem_of_find?_eq_some hr)
  ·exact⟨by simp,ha⟩
 ·exact⟨by simp,by simp⟩
/- Marks,and what is held,of plans,sites and clients: over residual programs. Printed by wip/tools/pzl.py. -/
def Sit.w (s:Sit):Nat:=3+s.base.length+s.added.length+wts Don.w s.done
def Sit.mk' (q:Int) (s:Sit):Sit:=⟨decide (q.tmod 3=0),decide ((q+1).tmod 3=0),q+1+1,cnt (q+1+1+1) s.base.length,cnt (q+1+1+1+s.base.length) s.added.length,
 JS Don.w Don.mk' (q+1+1+1+s.base.length+s.added.length) s.done⟩
def Sit.g (s:Sit):D:= .g s.cells
structure Con where
 seq:Int
 busy:Bool
 call:Cal
 code:Int
 tells:List Int
 deriving DecidableEq
def Con.cells (s:Con):List D:=[dI s.seq,dB s.busy,dI s.call.client,dI s.call.seq,dI s.call.act,.s (dL s.call.args),dI s.code,.s (dL s.tells)]
def Con.g (s:Con):D:= .g s.cells
def Con.w (s:Con):Nat:=6+s.call.args.length+s.tells.length
def Con.mk' (q:Int) (s:Con):Con:=⟨q,decide ((q+1).tmod 3=0),⟨q+1+1,q+1+1+1,q+1+1+1+1,cnt (q+1+1+1+1+1) s.call.args.length⟩,q+1+1+1+1+1+s.call.args.length,
 cnt (q+1+1+1+1+1+s.call.args.length+1) s.tells.length⟩
end Go.Proofs.YtgpjnnkmmplicaaGreatDoor

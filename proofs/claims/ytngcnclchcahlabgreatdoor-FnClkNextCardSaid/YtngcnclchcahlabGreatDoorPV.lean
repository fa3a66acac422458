import Derived.Test.YtngcnclchcahlabGreatDoorPP
import Derived.Test.YtngcnclchcahlabGreatDoorPM
import Derived.Test.YtngcnclchcahlabGreatDoorTd
set_option linter.unusedVariables false
set_option linter.unusedSimpArgs false
/- Each way is ok,and there are at most two for each test: over residual programs. -/
namespace Go.Proofs.YtngcnclchcahlabGreatDoor
open Go Go.Tm
open Go.IntKind (i64)
theorem Je6 (a b:List Int) (hl:a.length≤2000000):Ev L f_k5t [.s (dL a),.s (dL b)] [dB (decide (a=b))] :=
 Jgs dI .i a b L_k5t rfl (fun _=>rfl) (fun _ _ _ _ _=>rfl) hl
theorem JdJ:Ev L f_k60 [] [dB true]:=by
 refine JuV (vs:=[]) L_k60 rfl ?_;refine Jup UW rfl rfl rfl ?_;have e:=Zm Frm.zero Xu.fit;rw[Xu.okF (by omega)] at e;exact Jup e rfl rfl rfl (Jun rfl)
theorem Jqe (n:Int) (h0:0≤n) (hn:n≤2000000):Ev L f_k4f [dI n] [.s []]:=by
 refine JuV (vs:=[.i n]) L_k4f rfl ?_;have hw:i64.wrap (n-i64.wrap (0-0))=n:=by rw[w64 (n:=0-0) (by omega) (by omega),w64 (by omega) (by omega)];omega
 refine JuB (n<0) rfl (fun h=>by omega) (fun _=>?_);refine JuB (0<n) (by show decide (0<i64.wrap (n-i64.wrap (0-0)))=_;rw[hw]) (fun h=>?_) (fun h=>Jun rfl);refine JuE (0<n) (by show decide (0<i64.wrap (n-i64.wrap (0-0)))=_;rw[hw]) h ?_;refine JuE (n≤1256584717458) (by show decide (i64.wrap (n-i64.wrap (0-0))≤1256584717458)=_;rw[hw]) (by omega) ?_;refine Juo ?_ (Jun ?_)
 ·show decide ((0:Int)≤((List.replicate (i64.wrap (n-i64.wrap (0-0))).toNat (D.g [.s [],.s [],dI 0])).length:Int))=true;simp only[decide_eq_true_eq];omega
 ·show [D.s ((List.replicate (i64.wrap (n-i64.wrap (0-0))).toNat (D.g [.s [],.s [],dI 0])).take (0:Int).toNat)]=_;simp
def dFF (ls:List (List Frm)):List D:=ls.map fun l=> .s (dF l)
theorem Jlw (ls:List (List Frm)):(dFF ls).length=ls.length:=by simp[dFF]
theorem JqM (a b:List Frm):dF a++dF b=dF (a++b):=by simp[dF]
def US (ls:List (List Frm)):Nat:=(ls.map List.length).sum
theorem Jmx {ls:List (List Frm)} {i:Nat} {l:List Frm} (h:ls[i]? = some l):US (ls.take (i+1))=US (ls.take i)+l.length:=by
 unfold US;rw[tS1 h];simp
theorem JmZ (ls:List (List Frm)):ls.flatten.length=US ls:=by simp[US,List.length_flatten]
theorem JpQ {ls:List (List Frm)} {N:Nat} (h :∀l∈ls,l.length≤N) (i:Nat):US (ls.take i)≤N*ls.length:=by
 have :∀(ls:List (List Frm)),(∀l∈ls,l.length≤N)→US ls≤N*ls.length:=by
  intro ls
  induction ls with
  | nil=>intro _;simp[US]
  | cons l ls ih =>
   intro h;have h1:=h l (by simp);have h2:=ih fun x hx=>h x (by simp[hx]);simp only[US,Ju8,List.sum_cons,List.length_cons,Nat.mul_add] at *;omega
 have h1:=this (ls.take i) fun l hl=>h l (Jvo hl);refine Nat.le_trans h1 (Nat.mul_le_mul_left _ (by simp;omega))
theorem Jnb (ls:List (List Frm)) (hl:ls.length≤100) (h1 :∀l∈ls,l.length≤1000):Ev L f_k4g [.s (dFF ls)] [.s (dF ls.flatten)]:=by
 refine JuV (vs:=[.l (dFF ls)]) L_k4g rfl ?_;have hle :∀i,US (ls.take i)≤100000:=fun i=>Nat.le_trans (JpQ h1 i) (by omega);refine Juu ls.length (fun i=>[.i (US (ls.take i)),.i i]) (fun _=>True) rfl rfl trivial fun i hi _=>?_;have hli:=hle i;refine JuG i (Jlw ls) rfl (fun h=>?_) (fun h=>?_)
 ·obtain⟨x,hx,hm⟩:=sA1 h;have hxl:=h1 x hm;refine JuF i (mA1 (f:=fun l=> .s (dF l)) hx) rfl rfl rfl rfl ?_;have hw:i64.wrap ((US (ls.take i):Int)+((dF x).length:Int))=(US (ls.take (i+1)):Int):=by
   rw[J8,Jmx hx,w64 (by omega) (by omega)];rfl
  refine JuB (((US (ls.take (i+1)):Int))<0) (by show decide (i64.wrap ((US (ls.take i):Int)+((dF x).length:Int))<0)=_;rw[hw]) (fun h=>by omega) (fun _=>?_);refine JuC (vs:=[.i (US (ls.take (i+1))),.i ((i+1:Nat):Int)]) ?_ ⟨h,rfl,trivial⟩;show [V.i (i64.wrap ((US (ls.take i):Int)+((dF x).length:Int))),V.i (i64.wrap ((i:Int)+1))]=_;rw[wS h (by omega),hw]
 ·refine Juk ?_;refine Jup (Jqe (US (ls.take i)) (by omega) (by omega)) rfl rfl rfl ?_;simp only[sC,sN];refine Juu ls.length (fun j=>[.l (dF (ls.take j).flatten),.i j]) (fun _=>True) rfl rfl trivial fun j hj _=>?_;simp only[sC,sN];refine JuG j (Jlw ls) rfl (fun h=>?_) (fun h=>?_)
  ·obtain⟨x,hx,hm⟩:=sA1 h;have hxl:=h1 x hm;have hlj:=hle j;refine JuF j (mA1 (f:=fun l=> .s (dF l)) hx) rfl rfl rfl rfl ?_;refine Juv (dF x) 1000 (by rw[J8];exact hxl) (by omega) rfl ?_;refine JuT (JpV x) ?_;refine Juv (dF (ls.take j).flatten++dF x) 2000000 (by rw[Ju6,J8,J8,JmZ];omega) (by omega) rfl ?_;refine JuC (vs:=[.l (dF (ls.take (j+1)).flatten),.i ((j+1:Nat):Int)]) ?_ ⟨h,rfl,trivial⟩;show [V.l (dF (ls.take j).flatten++dF x),V.i (i64.wrap ((j:Int)+1))]=_;rw[wS h (by omega),JqM,tS1 hx];simp
  ·refine Juk (Jun ?_);show [D.s (dF (ls.take j).flatten)]=_;rw[tA1 h]
/- What an act does not turn stays: over residual programs. -/
theorem XK {bs:List Int} {p n:Int} (hr:Rdr bs p) (hf:p≤999999999000) (h1:1≤n) (hn:n≤2000000) :
  ∃ a q,Ev L f_kq [.s (Ja bs),dI p,dI n] [.s (dL a),.s (Ja bs),dI q]∧p≤q∧q≤p+10∧a.length≤3:=by
 have key : ∃ ds,Ev L f_kq [.s (Ja bs),dI p,dI n] ds∧∃ a q,ds=[.s (dL a),.s (Ja bs),dI q]∧p≤q∧q≤p+10∧a.length≤3:=by
  refine JuY (vs:=[.l (Ja bs),.i p,.i n]) L_kq rfl ?_;have go :∀q,p≤q→q≤p+10→Rdr bs q:=fun q h h'=>hr.go h (by omega);refine Je 19 hr (by omega) (by omega) rfl rfl fun u hu0 hu1=>?_;refine Je 19 (go (p+1) (by omega) (by omega)) (by omega) (by omega) rfl rfl fun v hv0 hv1=>?_;refine Je n (go (p+1+1) (by omega) (by omega)) h1 hn rfl rfl fun w hw0 hw1=>?_;simp only[sC,sN];have e:[dI (i64.wrap (u-9)),dI (i64.wrap (v-9))]=dL [u-9,v-9]:=by
   rw[w64 (by omega) (by omega),w64 (by omega) (by omega)];rfl
  refine JuB (w=0) rfl (fun hw=>?_) (fun hw=>?_)
  ·refine Je 3 (go (p+1+1+1) (by omega) (by omega)) (by omega) (by omega) rfl rfl fun z hz0 hz1=>?_;simp only[sC,sN];refine JuB (z=0) rfl (fun hz=>Jun ?_) (fun hz=>?_)
   ·refine⟨[u-9,v-9].take 1,p+1+1+1+1,?_,by omega,by omega,by simp⟩;show [D.s ([dI (i64.wrap (u-9)),dI (i64.wrap (v-9))].take 1),.s (Ja bs),dI (p+1+1+1+1)]=_;rw[e,V6]
   refine JuB (z=1) rfl (fun hz=>?_) (fun hz=>?_)
   ·refine JuR [dI (i64.wrap (u-9)),dI (i64.wrap (v-9))] 2 (by simp) (by omega) rfl ?_;refine Jun ⟨[u-9,v-9]++[0],p+1+1+1+1,?_,by omega,by omega,by simp⟩;show [D.s ([dI (i64.wrap (u-9)),dI (i64.wrap (v-9))]++[dI 0]),.s (Ja bs),dI (p+1+1+1+1)]=_;rw[e,XI]
   ·refine Je 2 (go (p+1+1+1+1) (by omega) (by omega)) (by omega) (by omega) rfl rfl fun a ha0 ha1=>?_;refine Je 2 (go (p+1+1+1+1+1) (by omega) (by omega)) (by omega) (by omega) rfl rfl fun b hb0 hb1=>?_;simp only[sC,sN];refine J4 [10,-10] b hb0 hb1 rfl rfl rfl rfl rfl fun x=>?_;refine JuE (0≤a) rfl ha0 ?_;refine JuE (a<2) rfl ha1 ?_;refine Juz (ds:=dL [u-9,v-9]) a rfl e rfl ha0 (J1 ha0 (by simpa using ha1)) rfl ?_;refine Jun ⟨[u-9,v-9].set a.toNat x,p+1+1+1+1+1+1,?_,by omega,by omega,by simp⟩;show [D.s ([dI (i64.wrap (u-9)),dI (i64.wrap (v-9))].set a.toNat (dI x)),.s (Ja bs),dI (p+1+1+1+1+1+1)]=_;rw[e,QC]
  ·refine Jun ⟨[u-9,v-9],p+1+1+1,?_,by omega,by omega,by simp⟩;show [D.s [dI (i64.wrap (u-9)),dI (i64.wrap (v-9))],.s (Ja bs),dI (p+1+1+1)]=_;rw[e]
 obtain⟨ds,e1,a,q,rfl,e2⟩:=key;exact⟨a,q,e1,e2⟩
theorem Jmm {a b:List Int} {i:Nat} {x y A B:Int} (hx:a[i]? = some x) (hy:b[i]? = some y) (ha:Lim A a) (hb:Lim B b) (hA:0≤A) (hB:0≤B) (hi:i<1000) (hAB:A*B≤1000000000000000) :
  i64.wrap (dot (a.take i) (b.take i)+i64.wrap (x*y))=dot (a.take (i+1)) (b.take (i+1)):=by
 have h1:=ZH (ha.take i) (hb.take i) hA hB;have h2:((a.take i).length:Int)≤1000:=by simp;omega
 have h0:0≤A*B:=Int.mul_nonneg hA hB;have h3:=KG (ha x (Ju7 hx)) (hb y (Ju7 hy));have h4:A*B*((a.take i).length:Int)≤A*B*1000:=Int.mul_le_mul_of_nonneg_left h2 h0;rw[Jah hx hy,w64 (n:=x*y) (by omega) (by omega),w64 (by omega) (by omega)]
theorem Jlm {p a:List Int} {A B:Int} (hp:Lim A p) (ha:Lim B a) (hA:0≤A) (hB:0≤B) (hAB:A*B≤1000000000000000) (hl:p.length=a.length) (h9:p.length≤999):Ev L f_k53 [.s (dL p),.s (dL a)] [dI (dot p a)]:=by
 refine JuV (vs:=[.l (dL p),.l (dL a)]) L_k53 rfl ?_;refine Juu p.length (fun i=>[.i (dot (p.take i) (a.take i)),.i i]) (fun _=>True) rfl rfl trivial fun i hi _=>?_;refine JuG i (dL1 p) rfl (fun h=>?_) (fun h=>?_)
 ·obtain⟨x,hx,_⟩:=sA1 (show i<p.length by omega);obtain⟨y,hy,_⟩:=sA1 (show i<a.length by omega);refine JuF i (mA1 (f:=dI) hx) rfl rfl rfl rfl ?_;refine JuF i (mA1 (f:=dI) hy) rfl rfl rfl rfl ?_;refine JuC (vs:=[.i (dot (p.take (i+1)) (a.take (i+1))),.i ((i+1:Nat):Int)]) ?_ ⟨h,rfl,trivial⟩;show [V.i (i64.wrap (dot (p.take i) (a.take i)+i64.wrap (x*y))),V.i (i64.wrap ((i:Int)+1))]=_;rw[wS h (by omega),Jmm hx hy hp ha hA hB (by omega) hAB]
 ·refine Juk (Jun ?_);show [dI (dot (p.take i) (a.take i))]=_;rw[tA1 h,tA1 (by omega)]
structure Zy (f:Frm) (v w:List Int):Prop where
 c:f.c.length=3
 d:f.d.length=2
 v3:v.length=3
 w2:w.length=2
 a : ∃ A B:Int,0≤A∧0≤B∧A*B≤1000000000000000∧Lim A f.c∧Lim A f.d∧Lim B v∧Lim B w∧-1000000000000000≤f.k∧f.k≤1000000000000000
theorem Zy.sums {f:Frm} {v w:List Int} (h:Zy f v w):(-3000000000000000≤dot f.c v∧dot f.c v≤3000000000000000)∧(-2000000000000000≤dot f.d w∧dot f.d w≤2000000000000000)∧-1000000000000000≤f.k∧f.k≤1000000000000000:=by
 obtain⟨A,B,hA,hB,hAB,h1,h2,h3,h4,h5⟩:=h.a;have a:=ZH h1 h3 hA hB;have b:=ZH h2 h4 hA hB;rw[h.c] at a;rw[h.d] at b;exact⟨by omega,by omega,h5⟩
theorem JqY {f:Frm} {v w:List Int} (h:Zy f v w):Ev L f_k5m (f.cells++[.s (dL v),.s (dL w)]) [dI (atF f v w)]:=by
 obtain⟨A,B,hA,hB,hAB,h1,h2,h3,h4,h5⟩:=h.a;obtain⟨s1,s2,s3⟩:=h.sums;refine JuV (vs:=[.l (dL f.c),.l (dL f.d),.i f.k,.l (dL v),.l (dL w)]) L_k5m rfl ?_;refine Jup (Jlm h1 h3 hA hB hAB (by rw[h.c,h.v3]) (by rw[h.c];omega)) rfl rfl rfl ?_;refine Jup (Jlm h2 h4 hA hB hAB (by rw[h.d,h.w2]) (by rw[h.d];omega)) rfl rfl rfl (Jun ?_);show [dI (i64.wrap (i64.wrap (dot f.c v+dot f.d w)+f.k))]=_;rw[w64 (n:=dot f.c v+dot f.d w) (by omega) (by omega),w64 (by omega) (by omega)];rfl
theorem Qd {l:List Int}:JQ l=true↔l.length=3∧Lim 10000 l:=by
 unfold JQ;rw[Jq];exact⟨fun h=>⟨by omega,h.2⟩,fun h=>⟨by omega,h.2⟩⟩
theorem Xv {l:List Int}:Q1 l=true↔l.length=2∧Lim 9 l:=by
 unfold Q1;rw[Jq];exact⟨fun h=>⟨by omega,h.2⟩,fun h=>⟨by omega,h.2⟩⟩
theorem Zy.std {f:Frm} {v w:List Int} (hf:Std 10000000 f) (hv:JQ v=true) (hw:Q1 w=true):Zy f v w:=by
 obtain⟨v1,v2⟩:=Qd.1 hv;obtain⟨w1,w2⟩:=Xv.1 hw;exact⟨hf.c,hf.d,v1,w1,10000000,10000,by omega,by omega,by omega,hf.lc,hf.ld,v2,w2.mono (by omega),by have:=hf.k;omega⟩
theorem Zy.small {f:Frm} {x w:List Int} (hf:f.small=true) (hx:x.length=3) (hl:Lim 2000000000 x) (hw:Q1 w=true):Zy f x w:=by
 obtain⟨h1,h2,h3,h4,h5⟩:=XO hf;obtain⟨w1,w2⟩:=Xv.1 hw;exact⟨h1,h2,hx,w1,2,2000000000,by omega,by omega,by omega,h3,h4,hl,w2.mono (by omega),by omega⟩
def Res.ds (r:Res):List D:=[dI r.code,.s (dL r.tells),.s (dL r.is)]
theorem Jlt {l:Jg} (h:l.ok=true) (h1 : ¬l.kind=1) (h2 : ¬l.kind=2) (h4 : ¬l.kind=4):l.kind=3:=by
 unfold Jg.ok at h;rw[if_neg h1,if_neg h2] at h;split at h
 ·assumption
 ·simp[h4] at h
theorem JmA (a:List Jg) (v w:List Int) (ha:Kt a) (hv:v.length≤2000000) (hw:w.length≤2000000):Ev L f_k5n [.s (Jl a),.s (dL v),.s (dL w)] (Res.ds (X8 a v w)):=by
 refine JuV (vs:=[.l (Jl a),.l (dL v),.l (dL w)]) L_k5n rfl ?_;have none:(Qo a&&(JQ v&&Q1 w))=false→X8 a v w=⟨0,[],[]⟩:=fun h=>by simp[X8,h]
 refine Jup (JbN a ha) rfl rfl rfl ?_;refine JuL (Qo a) rfl (fun h=>Jun ?_) (fun h=>?_)
 ·rw[none (by simp[h])];rfl
 refine Jup (VR v hv) rfl rfl rfl ?_;refine JuL (JQ v) rfl (fun h2=>Jun ?_) (fun h2=>?_)
 ·rw[none (by simp[h2])];rfl
 refine Jup (Jjh w hw) rfl rfl rfl ?_;refine JuL (Q1 w) rfl (fun h3=>Jun ?_) (fun h3=>?_)
 ·rw[none (by simp[h3])];rfl
 have hrun:X8 a v w=run v w a v []:=by simp[X8,h,h2,h3]
 rw[hrun];obtain⟨v1,v2⟩:=Qd.1 h2;obtain⟨w1,w2⟩:=Xv.1 h3;obtain⟨a1,a2⟩:=Ko h;refine Jup (QK v hv) rfl rfl rfl ?_;simp only[sC,sN];refine JuQ (fun m vs=>∃ (i:Int) (x t:List Int) (j:Nat),vs=[.l (dL t),.l (dL x),.i i]∧0≤i∧i≤20∧m=a.length-i.toNat∧(j:Int)≤i∧j≤6∧x.length=3∧Lim (XB j) x∧t.length≤j∧run v w (a.drop i.toNat) x t=run v w a v []) rfl a.length
  ⟨0,v,[],0,rfl,by omega,by omega,by simp,by omega,by omega,v1,v2,by simp,by simp⟩ ?_
 rintro m _ ⟨i,x,t,j,rfl,i0,i20,hm,hji,hj6,hx,hl,ht,hr⟩;rw[←hr];clear hr;simp only[sC,sN];have hX0:=Jdl j;have hXl:=Jpi hj6;refine JuB (i<((Jl a).length:Int)) rfl (fun hi=>?_) (fun hi=>?_)
 ·rw[JG] at hi;obtain⟨l,hla,hd⟩:=K2 i0 hi;have hok:=a2 l (Ju7 hla);have hdr:=Xw hla;have hs1:(i+1).toNat=i.toNat+1:=by omega
  refine Juz (ds:=Jl a) i rfl rfl rfl i0 hd rfl ?_;simp only[sC,sN];refine JuB (l.kind=4) rfl (fun h4=>?_) (fun h4=>?_)
  ·refine Jup (QK v hv) rfl rfl rfl (Juk (Jun ?_));rw[hdr,run,if_pos h4];rfl
  have hsm:=XH hok h4;have hlx:Lim 2000000000 x:=hl.mono hXl;refine Jup (JqY (Zy.small hsm hx hlx h3)) rfl rfl rfl ?_;have hb:=Jdb hsm hl w2 hX0;simp only[sC,sN];have hrn:run v w (a.drop i.toNat) x t=if l.kind=1 then(if atF l.f x w<0 then run v w (a.drop (i+l.skip+1).toNat) x t else run v w (a.drop (i+1).toNat) x t)
    else if l.kind=2 then run v w (a.drop (i+1).toNat) (x.set l.pot.toNat (x.getD l.pot.toNat 0+atF l.f x w)) t else run v w (a.drop (i+1).toNat) x (t++[atF l.f x w]):=by
   rw[hdr,run,if_neg h4,hs1]
   by_cases h1:l.kind=1
   ·have hsk:=V1 hok h1;rw[if_pos h1,if_pos h1,List.drop_drop,show i.toNat+1+l.skip.toNat=(i+l.skip+1).toNat by omega]
   ·rw[if_neg h1,if_neg h1]
  rw[hrn];clear hrn;generalize atF l.f x w=n at *;refine JuB (l.kind=1) rfl (fun h1=>?_) (fun h1=>?_)
  ·have hsk:=V1 hok h1;rw[if_pos h1];refine JuB (n<0) rfl (fun hn=>?_) (fun hn=>?_)
   ·rw[if_pos hn];refine JuC (vs:=[.l (dL t),.l (dL x),.i (i+l.skip+1)]) ?_ ⟨a.length-(i+l.skip+1).toNat,by omega,i+l.skip+1,x,t,j,rfl,by omega,by omega,rfl,by omega,by omega,hx,hl,ht,rfl⟩;show [V.l (dL t),V.l (dL x),V.i (i64.wrap (i64.wrap (i+l.skip)+1))]=_;rw[w64 (n:=i+l.skip) (by omega) (by omega),w64 (by omega) (by omega)]
   ·rw[if_neg hn];refine JuC (vs:=[.l (dL t),.l (dL x),.i (i+1)]) ?_ ⟨a.length-(i+1).toNat,by omega,i+1,x,t,j,rfl,by omega,by omega,rfl,by omega,by omega,hx,hl,ht,rfl⟩;show [V.l (dL t),V.l (dL x),V.i (i64.wrap (i+1))]=_;rw[w64 (by omega) (by omega)]
  rw[if_neg h1];have hj5:j<6:=by omega
  refine JuB (l.kind=2) rfl (fun h2'=>?_) (fun h2'=>?_)
  ·have hpt:=Jez hok h2';rw[if_pos h2'];have hxp:=We (l:=x) (i:=l.pot.toNat) (by omega);have hdx:(dL x)[l.pot.toNat]? = some (dI (x.getD l.pot.toNat 0)):=mA1 (f:=dI) hxp;have hlp:=hl _ (Ju7 hxp);generalize x.getD l.pot.toNat 0=y at *;refine JuE (0≤l.pot) rfl hpt.1 ?_;refine JuE (l.pot<((dL x).length:Int)) rfl (by rw[dL1];omega) ?_;refine Juz (ds:=dL x) l.pot rfl rfl rfl hpt.1 hdx rfl ?_;refine JuE (0≤l.pot) rfl hpt.1 ?_;refine JuE (l.pot<((dL x).length:Int)) rfl (by rw[dL1];omega) ?_;refine Juz (ds:=dL x) l.pot rfl rfl rfl hpt.1 hdx rfl ?_;simp only[sC,sN];have hstep:XB (j+1)=7*XB j+60:=rfl;refine JuC (vs:=[.l (dL t),.l (dL (x.set l.pot.toNat (y+n))),.i (i+1)]) ?_ ⟨a.length-(i+1).toNat,by omega,i+1,x.set l.pot.toNat (y+n),t,j+1,rfl,by omega,by omega,rfl,by omega,by omega,by simp[hx],(hl.mono (Wl (by omega))).set (by omega) _,by omega,rfl⟩;show [V.l (dL t),V.l ((dL x).set l.pot.toNat (dI (i64.wrap (y+n)))),V.i (i64.wrap (i+1))]=_;rw[w64 (n:=i+1) (by omega) (by omega),w64 (by omega) (by omega),QC]
  rw[if_neg h2'];have h3':=Jlt hok h1 h2' h4;refine JuB (l.kind=3) rfl (fun _=>?_) (fun h=>absurd h3' h);refine JuR (dL t) 10 (by rw[dL1];omega) (by omega) rfl ?_;refine JuC (vs:=[.l (dL (t++[n])),.l (dL x),.i (i+1)]) ?_ ⟨a.length-(i+1).toNat,by omega,i+1,x,t++[n],j+1,rfl,by omega,by omega,rfl,by omega,by omega,hx,hl.mono (Wl (by omega)),by simp;omega,rfl⟩;show [V.l (dL t++[dI n]),V.l (dL x),V.i (i64.wrap (i+1))]=_;rw[w64 (by omega) (by omega),XI]
 ·rw[JG] at hi;rw[List.drop_eq_nil_of_le (by omega),run];refine Juk ?_;refine Jup (VR x (by omega)) rfl rfl rfl ?_;unfold JfP;refine JuL (JQ x) rfl (fun hvx=>?_) (fun hvx=>Jun ?_)
  ·rw[hvx,if_neg (by simp)];exact Jup (QK v hv) rfl rfl rfl (Jun rfl)
  ·rw[hvx];rfl
theorem JpC (h:Row→Nat→Bool) (as:List (List Jg)) (hf:Yr as) {fn:FuncId} {caps:List D} (hcap:XM (.f fn caps) = .f fn caps) (har:arT L fn=some ([some 4,none]++caps.map fun _=>none))
  (hc :∀r,YZ r→∀v:Nat,v<3→Ev L fn (r.cells++[dI v]++caps.map D.norm) [dB (h r v)]):Ev L f_k4e [.s (Jd as),.f fn caps] [.s (dBl (WE h as))]:=by
 have hl:=hf.1;refine JuV (vs:=[.l (Jd as),.d (.f fn caps)]) L_k4e rfl ?_;refine Jul as.length (fun i vs=>∃ p:List Bool,vs=[.l (dBl p),.i i]∧p.length=3∧p=WE h (as.take i)) rfl ⟨[false,false,false],rfl,rfl,rfl⟩ ?_;rintro i _ hi ⟨p,rfl,hp,hpe⟩;simp only[sC,sN];refine JuG i (JR as) rfl (fun h'=>?_) (fun h'=>?_)
 ·obtain⟨a,ha,hm⟩:=sA1 h';have hB:WE h (as.take (i+1))=(Jv a).foldl (fun p r=>orB p (h r)) p:=by rw[hpe];exact XJ ha
  refine JuF i (mA1 (f:=fun a=> .s (Jl a)) ha) rfl rfl rfl rfl ?_;refine Jup (JeG a (hf.2 a hm)) rfl rfl rfl ?_;have hrf :∀r∈Jv a,YZ r:=Yp;have hrl:=Uh a;generalize Jv a=rs at *;refine Jul rs.length (fun k vs=>∃ q:List Bool,vs=[.l (dBl q),.i k]∧q.length=3∧q=(rs.take k).foldl (fun p r=>orB p (h r)) p) rfl ⟨p,rfl,hp,rfl⟩ ?_;rintro k _ hk ⟨q,rfl,hq,hqe⟩;simp only[sC,sN];refine JuG k (Yc rs) rfl (fun h''=>?_) (fun h''=>?_)
  ·obtain⟨r,hr,hmr⟩:=sA1 h'';have hfit:=hrf r hmr;have hC:(rs.take (k+1)).foldl (fun p r=>orB p (h r)) p=orB q (h r):=by rw[hqe];exact XJ hr
   refine JuP k (rdR hr) rfl rfl rfl rfl rfl rfl ?_;have hO:(orB q (h r)).length=3:=by rw[ZL];exact hq
   refine Juu 3 (fun v=>[.l (dBl ((orB q (h r)).take v++q.drop v)),.i v]) (fun _=>True) rfl rfl trivial fun v hv _=>?_;simp only[sC,sN];refine JuG v (show (dBl q).length=3 by rw[Jf8];exact hq) rfl (fun hv3=>?_) (fun hv3=>?_)
   ·obtain⟨b,hb,_⟩:=sA1 (show v<q.length by omega);have ho:=W9 (h:=h r) hb;have hcur:((orB q (h r)).take v++q.drop v)[v]? = some b:=by
     rw[Jvs (by simp;omega),List.getElem?_drop];rw[show v+(v-((orB q (h r)).take v).length)=v by simp;omega];exact hb
    have nx :∀c:Bool,c=(b||h r v)→[V.l ((dBl ((orB q (h r)).take v++q.drop v)).set (v:Int).toNat (dB c)),V.i (i64.wrap ((v:Int)+1))]=[.l (dBl ((orB q (h r)).take (v+1)++q.drop (v+1))),.i ((v+1:Nat):Int)]:=by
     intro c hc';rw[←hc'] at ho;rw[wS hv3 (by omega),JlB,Int.toNat_natCast,Jow (by omega) ho]
    refine JuP v (mA1 (f:=dB) hcur) rfl rfl rfl rfl rfl rfl ?_;refine JuU b rfl (fun hbt=>?_) (fun hbf=>?_)
    ·refine JuP v (mA1 (f:=dB) hcur) rfl rfl rfl rfl rfl rfl ?_;exact JuC (nx true (by simp[hbt])) ⟨hv3,rfl,trivial⟩
    ·refine JuO (fn:=fn) (caps:=caps) (ds:=[dB (h r v)]) (vs:=[.b (h r v)]) rfl hcap har (hc r hfit v hv3) rfl ?_;refine JuP v (mA1 (f:=dB) hcur) rfl rfl rfl rfl rfl rfl ?_;exact JuC (nx (h r v) (by simp[hbf])) ⟨hv3,rfl,trivial⟩
   ·have hv3:v=3:=by omega
    subst hv3;rw[Ju4 (by omega),List.drop_eq_nil_of_le (by omega),List.append_nil];refine Juk (JuC (vs:=[.l (dBl (orB q (h r))),.i ((k+1:Nat):Int)]) ?_ ⟨h'',orB q (h r),rfl,hO,hC.symm⟩);show [V.l (dBl (orB q (h r))),V.i (i64.wrap ((k:Int)+1))]=_;rw[wS h'' (by omega)]
  ·rw[tA1 h''] at hqe;refine Juk (JuC (vs:=[.l (dBl q),.i ((i+1:Nat):Int)]) ?_ ⟨h',q,rfl,hq,by rw[hB,hqe]⟩);show [V.l (dBl q),V.i (i64.wrap ((i:Int)+1))]=_;rw[wS h' (by omega)]
 ·refine Juk (Jun ?_);show [D.s (dBl p)]=_;rw[tA1 h'] at hpe;rw[hpe]
/- All is kept an eye on; who tells of a pot pins it; with an act more there is more: over residual programs. -/
theorem JjP (x:Int):Ev L f_k48 [dI x] [dB (nz x)]:=JuV (vs:=[.i x]) L_k48 rfl (Jun rfl)
theorem Jn1 (l:List Int) (hl:l.length=3):Ev L f_k49 [.s (dL l)] [dB (decide (l=[0,0,0]))]:=by
 refine JuV (vs:=[.l (dL l)]) L_k49 rfl ?_;refine Jup (V9 nz l (fn:=f_k48) (caps:=[]) (by omega) rfl rfl fun x _=>JjP x) rfl rfl rfl (Jun ?_);show [dB (!(l.any nz))]=_;obtain⟨a,b,c,rfl⟩:=Jae hl
 congr 3
 by_cases h1:a=0 <;> by_cases h2:b=0 <;> by_cases h3:c=0 <;> simp[nz,h1,h2,h3]
theorem Jhk (x:Int):Ev L f_k46 [dI x] [dB (nz x)]:=JuV (vs:=[.i x]) L_k46 rfl (Jun rfl)
theorem JnC (f:Frm) (hl:Lim 1000000000 f.c) (hn:f.c.length≤2000000):Ev L f_k47 f.cells [.s (dL (Jn f.c))]:=by
 refine JuV (vs:=[.l (dL f.c),.l (dL f.d),.i f.k]) L_k47 rfl ?_;refine Jup (QK f.c hn) rfl rfl rfl ?_;refine Jup (JfR nz f.c (fn:=f_k46) (caps:=[]) hn rfl rfl fun x _=>Jhk x) rfl rfl rfl ?_;simp only[sC,sN];rcases Jb2 nz f.c with ⟨hp,ha⟩ | ⟨i,x,hp,hx,hnx,ht⟩
 ·rw[hp];refine JuN rfl (Jun ?_);show [D.s (dL f.c)]=_;rw[JiA ha]
 rw[hp];have hi:=(Ju1.1 hx).1;have hs:=JiG hx hnx ht;have hx0:x≠0:=by simpa[nz] using hnx
 refine JuB ((0:Int)≤(i:Int)) rfl (fun _=>?_) (fun h=>by omega);refine JuP i (mA1 (f:=dI) hx) rfl rfl rfl rfl rfl rfl ?_;simp only[sC,sN];refine JuB (x<0) rfl (fun hneg=>?_) (fun hpos=>Jun ?_)
 ·have hpart:Jn f.c=f.c.map fun y=>0-y:=by
   unfold Jn;rw[hs,if_neg (by omega)];apply Jvm;intro y _;omega
  rw[hpart];refine Juu f.c.length (fun k=>[.l (dL ((f.c.map fun y=>0-y).take k++f.c.drop k)),.i k]) (fun _=>True) rfl rfl trivial fun k hk _=>?_;simp only[sC,sN];refine JuG k (dL1 f.c) rfl (fun h=>?_) (fun h=>?_)
  ·obtain⟨y,hy,hm⟩:=sA1 h;have hly:=hl y hm;have hcur:((f.c.map fun y=>0-y).take k++f.c.drop k)[k]? = some y:=by
    rw[Jvs (by simp;omega),List.getElem?_drop];rw[show k+(k-((f.c.map fun y=>0-y).take k).length)=k by simp;omega];exact hy
   have hny:(f.c.map fun y=>0-y)[k]? = some (0-y):=by simp[hy]
   refine JuP k (mA1 (f:=dI) hcur) rfl rfl rfl rfl rfl rfl ?_;refine JuP k (mA1 (f:=dI) hcur) rfl rfl rfl rfl rfl rfl ?_;refine JuC (vs:=[.l (dL ((f.c.map fun y=>0-y).take (k+1)++f.c.drop (k+1))),.i ((k+1:Nat):Int)]) ?_ ⟨h,rfl,trivial⟩;show [V.l ((dL ((f.c.map fun y=>0-y).take k++f.c.drop k)).set (k:Int).toNat (dI (i64.wrap (0-y)))),V.i (i64.wrap ((k:Int)+1))]=_;rw[wS h (by omega),w64 (by omega) (by omega),QC,Int.toNat_natCast,Jow (by simp) hny]
  ·refine Juk (Jun ?_);show [D.s (dL ((f.c.map fun y=>0-y).take k++f.c.drop k))]=_;rw[Ju4 (by simp;omega),List.drop_eq_nil_of_le (by omega),List.append_nil]
 ·show [D.s (dL f.c)]=_;unfold Jn;rw[hs,if_pos (by omega)]
  congr 3
  conv=>lhs;rw[←List.map_id f.c]
  apply Jvm;intro y _;show y=1*y;omega
theorem Jhv (q p:List Int) (hq:q.length≤2000000):Ev L f_k4a [.s (dL q),.q [.s (dL p)]] [dB (decide (q=p))] :=
 JuV (vs:=[.l (dL q),.d (.q [.s (dL p)])]) L_k4a rfl (JuH (vs:=[.l (dL p)]) rfl rfl (Jup (Jd9 q p hq) rfl rfl rfl (Jun rfl)))
theorem Jp1 (l:List (List Int)) (p:List Int) (hl:l.length≤2000000) (hq :∀q∈l,q.length≤2000000):Ev L f_k4c [.s (dLL l),.s (dL p)] [dI (K6 l p)] :=
 JuV (vs:=[.l (dLL l),.l (dL p)]) L_k4c rfl (Jup (Jdk (fun q=>decide (q=p)) l (fn:=f_k4a) (caps:=[.q [.s (dL p)]]) hl rfl rfl fun q h=>Jhv q p (hq q h)) rfl rfl rfl (Jun rfl))
theorem Jj6 (a:List Jg) (ha:Kt a):Ev L f_k3j ([.s (Jl a)]++([]:List D).map D.norm) [dB (!Qo a)] :=
 JuV (vs:=[.l (Jl a)]) L_k3j rfl (Jup (JbN a ha) rfl rfl rfl (Jun rfl))
theorem Jbr (as:List (List Jg)) (hf:Yr as):Ev L f_k3k [.s (Jd as)] [dB (Qx as)]:=by
 have hl:=hf.1;refine JuV (vs:=[.l (Jd as)]) L_k3k rfl ?_;refine Jup (YL as.length 1 4) rfl ?_ rfl ?_
 ·show [dI ((Jd as).length:Int),dI 1,dI 4]=_;rw[JR]
 refine JuU (inB as.length 1 4) rfl (fun h=>?_) (fun h=>Jun ?_)
 ·have e:Ev L f_k39 [.s (Jd as),.f f_k3j []] [dB (as.any fun a=>!Qo a)] :=
   YK (g := f_k38) L_k39 rfl rfl
     (Zn (sh:= .one .s) (as:=[(.s (.v 3))]) (ar:=[none]) (k:=4) (caps:=[]) (fun a=> .s (Jl a)) (fun a=>!Qo a) (fun a=>[.s (Jl a)]) (fun a=>[.l (Jl a)]) as
       L_k38 rfl hl rfl (fun _ _=>rfl) (fun _ _=>rfl) (fun _ _ _ _=>rfl) rfl fun a ha=>Jj6 a (hf.2 a ha))
  refine Jup e rfl rfl rfl (Jun ?_);show [dB (!(as.any fun a=>!Qo a))]=_;rw[KB];simp[Qx,h]
 ·show [dB false]=_;simp[Qx,h]
set_option maxHeartbeats 2000000 in
theorem JmC (as:List (List Jg)) (hf:Yr as):Ev L f_k4d [.s (Jd as)] [.s (dLL (Jb as))]:=by
 refine JuV (vs:=[.l (Jd as)]) L_k4d rfl ?_;refine Jup (Jbr as hf) rfl rfl rfl ?_;refine JuL (Qx as) rfl (fun h=>Jun ?_) (fun hok=>?_)
 ·show [D.s []]=_;simp[Jb,h,dLL]
 have h4:=(Ya hok).2.1;have hcf:Jb as=(U2 as).1:=by simp[Jb,hok]
 rw[hcf];simp only[sC,sN];refine Juu 3 (fun v=>[.l (dLL (YS.take v)),.i v]) (fun _=>True) rfl rfl trivial fun v hv _=>?_;simp only[sC,sN];refine JuD v 3 rfl (fun hv3=>?_) (fun hv3=>?_)
 ·refine Jup (Jgj v (by omega) (by omega)) rfl rfl rfl ?_;refine JuI (Y2 _) ?_;have hp:YS[v]? = some (JC (v:Int).toNat).c:=by
   rw[Int.toNat_natCast]
   match v,hv3 with
   | 0,_ | 1,_ | 2,_=>rfl
   | n+3,h=>omega
  refine JuR (dLL (YS.take v)) 3 (by rw[Ux];simp;omega) (by omega) rfl ?_;refine JuC (vs:=[.l (dLL (YS.take (v+1))),.i ((v+1:Nat):Int)]) ?_ ⟨hv3,rfl,trivial⟩;show [V.l (dLL (YS.take v)++[.s (dL (JC (v:Int).toNat).c)]),V.i (i64.wrap ((v:Int)+1))]=_;rw[wS hv3 (by omega),Ja2,tS1 hp]
 have hv3:v=3:=by omega
 subst hv3;refine Juk ?_;refine Jul as.length (fun i vs=>∃ b:List (List Int)×List Bool,vs=[.l (dLL b.1),.i i]∧b=U2 (as.take i)) rfl ⟨(YS,[false,false,false]),rfl,rfl⟩ ?_;rintro i _ hi ⟨⟨b1,b2⟩,rfl,hb⟩;simp only[sC,sN];refine JuG i (JR as) rfl (fun h=>?_) (fun h=>?_)
 ·obtain⟨a,ha,hm⟩:=sA1 h;have hB:U2 (as.take (i+1))=Yu (b1,b2) a:=by rw[hb];exact XJ ha
  obtain⟨f1,f2⟩:=JdG (as.take i);rw[←hb] at f1 f2;have f1:=f1.mono (show 3+384*(as.take i).length≤1600 by simp;omega);have hrl:=Uh a;refine JuF i (mA1 (f:=fun a=> .s (Jl a)) ha) rfl rfl rfl rfl ?_;refine Jup (JeG a (hf.2 a hm)) rfl rfl rfl ?_;have hrf :∀r∈Jv a,YZ r:=Yp;have hAB:Yu (b1,b2) a=(Jv a).foldl QV (b1,b2):=rfl;generalize Jv a=rs at *;refine Jul rs.length (fun k vs=>∃ c:List (List Int)×List Bool,vs=[.l (dLL c.1),.i k]∧c=(rs.take k).foldl QV (b1,b2)) rfl ⟨(b1,b2),rfl,rfl⟩ ?_;rintro k _ hk ⟨⟨c1,c2⟩,rfl,hc⟩;simp only[sC,sN];refine JuG k (Yc rs) rfl (fun h'=>?_) (fun h'=>?_)
  ·obtain⟨r,hr,hmr⟩:=sA1 h';have hfit:=hrf r hmr;have hC:(rs.take (k+1)).foldl QV (b1,b2)=QV (c1,c2) r:=by rw[hc];exact XJ hr
   obtain⟨g1,g2⟩:=f1.rows f2 (rs:=rs.take k) fun x hx=>hrf x (Jvo hx);rw[←hc] at g1 g2;have g1:=g1.mono (show 1600+6*(rs.take k).length≤2000 by simp;omega);refine JuP k (rdR hr) rfl rfl rfl rfl rfl rfl ?_;simp only[sC,sN];have hR:QV (c1,c2) r=(r.guards.foldl Jp c1,QU (QU c2 r.adds) r.tells):=rfl;have hgl:=hfit.gl;refine Jul r.guards.length (fun g vs=>∃ e:List (List Int),vs=[.l (dLL e),.i g]∧e=(r.guards.take g).foldl Jp c1) rfl ⟨c1,rfl,rfl⟩ ?_;rintro g _ hg ⟨e,rfl,he⟩;simp only[sC,sN];refine JuG g (J8 r.guards) rfl (fun hg'=>?_) (fun hg'=>?_)
   ·obtain⟨f,hfg,hmf⟩:=sA1 hg';have hsf:=hfit.g f hmf;have hE:(r.guards.take (g+1)).foldl Jp c1=Jp e f:=by rw[he];exact XJ hfg
    have e1:=(g1.adds (fs:=r.guards.take g) fun x hx=>hfit.g x (Jvo hx)).mono (show 2000+(r.guards.take g).length≤2010 by simp;omega);rw[←he] at e1;have nx :∀(x:List (List Int)),x=Jp e f→[V.l (dLL x),V.i (i64.wrap ((g:Int)+1))]=[.l (dLL (Jp e f)),.i ((g+1:Nat):Int)]:=by
     intro x hx;rw[hx,wS hg' (by omega)]
    refine JuF g (mA1 (f:=Frm.g) hfg) rfl rfl rfl rfl ?_;refine Jup (JnC f (hsf.lc.mono (by omega)) (by rw[hsf.c];omega)) rfl rfl rfl ?_;simp only[sC,sN];have el:=e1.len;have hp3:(Jn f.c).length=3:=by rw[VF];exact hsf.c
    have hAP:Jp e f=if K6 e (Jn f.c)<0∧Jn f.c≠[0,0,0] then e++[Jn f.c] else e:=rfl;generalize Jn f.c=pt at *;refine Jup (Jn1 pt hp3) rfl rfl rfl ?_;refine JuL (decide (pt=[0,0,0])) rfl (fun hz=>?_) (fun hz=>?_)
    ·refine Jup (Jp1 e pt (by omega) (fun q hq=>by rw[(e1.each q hq).1];omega)) rfl rfl rfl ?_;generalize K6 e pt=ha at *;refine JuB (ha<0) rfl (fun h0=>?_) (fun h0=>?_)
     ·refine JuI (Y2 _) ?_;refine JuR (dLL e) 3000 (by rw[Ux];omega) (by omega) rfl ?_;refine JuC (vs:=[.l (dLL (Jp e f)),.i ((g+1:Nat):Int)]) ?_ ⟨hg',Jp e f,rfl,hE.symm⟩;show [V.l (dLL e++[.s (dL pt)]),V.i (i64.wrap ((g:Int)+1))]=_;rw[Ja2];refine nx _ ?_;rw[hAP,if_pos ⟨h0,by simpa using hz⟩]
     ·refine JuC (nx e ?_) ⟨hg',Jp e f,rfl,hE.symm⟩;rw[hAP,if_neg];intro ⟨h,_⟩;exact h0 h
    ·refine JuC (nx e ?_) ⟨hg',Jp e f,rfl,hE.symm⟩;rw[hAP,if_neg];intro ⟨_,h⟩;exact h (by simpa using hz)
   ·refine Juk ?_;rw[tA1 hg'] at he;refine JuC (vs:=[.l (dLL e),.i ((k+1:Nat):Int)]) ?_ ⟨h',(e,(QV (c1,c2) r).2),rfl,by rw[hC,he];rfl⟩;show [V.l (dLL e),V.i (i64.wrap ((k:Int)+1))]=_;rw[wS h' (by omega)]
  ·refine Juk ?_;rw[tA1 h'] at hc;refine JuC (vs:=[.l (dLL c1),.i ((i+1:Nat):Int)]) ?_ ⟨h,(c1,c2),rfl,by rw[hB,hAB,hc]⟩;show [V.l (dLL c1),V.i (i64.wrap ((i:Int)+1))]=_;rw[wS h (by omega)]
 ·refine Juk (Jun ?_);show [D.s (dLL b1)]=_;rw[tA1 h] at hb;rw[←hb]
def UN (as:List (List Jg)):Prop:=as.length≤5∧∀a∈as,Ud a
theorem UN.fit {as:List (List Jg)} (h:UN as):Yr as:=⟨by have:=h.1;omega,fun a ha=>(h.2 a ha).fit⟩
theorem Jl6 (as:List (List Jg)) (k:Nat) (a:List Jg):(Jd as).set k (.s (Jl a))=Jd (as.set k a):=by simp[Jd,List.map_set]
theorem JeS {bs:List Int} {p n:Int} (hr:Rdr bs p) (hf:p≤999999950000) (n1:1≤n) (n2:n≤2000000) :
  ∃ as q,Ev L f_k30 [.s (Ja bs),dI p,dI n] [.s (Jd as),.s (Ja bs),dI q]∧p≤q∧q≤p+2000∧UN as:=by
 have key : ∃ ds,Ev L f_k30 [.s (Ja bs),dI p,dI n] ds∧∃ as q,ds=[.s (Jd as),.s (Ja bs),dI q]∧p≤q∧q≤p+2000∧UN as:=by
  refine JuY (vs:=[.l (Ja bs),.i p,.i n]) L_k30 rfl ?_;obtain⟨as,q,e,q1,q2,hs,hl1⟩:=Jdn hr (by omega);refine Jup e rfl rfl rfl ?_;have ht:UN as:=⟨by have:=hs.1;omega,fun a ha=>(hs.2 a ha).thin⟩;have hs4:=hs.1;refine Je n (hr.go (q:=q) (by omega) (by omega)) n1 n2 rfl rfl fun u hu0 hu1=>?_;simp only[sC,sN];refine JuB (0<u) rfl (fun _=>Jun ⟨as,q+1,rfl,by omega,by omega,ht⟩) (fun _=>?_);refine Je 3 (hr.go (q:=q+1) (by omega) (by omega)) (by omega) (by omega) rfl rfl fun v hv0 hv1=>?_;simp only[sC,sN];obtain⟨a0,ha0,hm0⟩:=sA1 (show 0<as.length by omega);refine JuB (v=0) rfl (fun _=>?_) (fun _=>?_)
  ·obtain⟨a,o,ea,o1,o2,ha⟩:=Jg1 (hr.go (q:=q+1+1) (by omega) (by omega)) (by omega) (n:=1) (by omega) (by omega);refine Jup ea rfl rfl rfl ?_;simp only[sC,sN];refine JuE ((0:Int)<((Jd as).length:Int)) rfl (by rw[JR];omega) ?_;refine JuF 0 (mA1 (f:=fun a=> .s (Jl a)) ha0) rfl rfl rfl rfl ?_;refine Jun ⟨as.set 0 a,o,?_,by omega,by omega,by simp;omega,?_⟩
   ·show [D.s ((Jd as).set (0:Int).toNat (.s (Jl a))),.s (Ja bs),dI o]=_;rw[Jl6];rfl
   ·intro x hx;rcases Jvp hx with hx | hx
    ·exact ht.2 x hx
    ·subst hx;exact ha
  refine JuB (v=1) rfl (fun _=>Jun ⟨[],q+1+1,rfl,by omega,by omega,by simp,by simp⟩) (fun _=>?_);refine JuQ (fun m vs=>∃ bs':List (List Jg),vs=[.l (Jd bs')]∧UN bs'∧1≤bs'.length∧m=5-bs'.length) rfl (5-as.length) ⟨as,rfl,ht,hl1,rfl⟩ ?_;rintro m _ ⟨cs,rfl,hc,hc1,hm⟩;simp only[sC,sN];refine JuB ((cs.length:Int)≤4) (by show decide (((Jd cs).length:Int)≤4)=_;rw[JR]) (fun h4=>?_) (fun _=>Juk (Jun ⟨cs,q+1+1,rfl,by omega,by omega,hc⟩));obtain⟨c0,hc0,hmc⟩:=sA1 (show 0<cs.length by omega);refine JuE ((0:Int)<((Jd cs).length:Int)) rfl (by rw[JR];omega) ?_;refine JuF 0 (mA1 (f:=fun a=> .s (Jl a)) hc0) rfl rfl rfl rfl ?_;refine JuR (Jd cs) 10 (by rw[JR];omega) (by omega) rfl ?_;refine JuC (vs:=[.l (Jd (cs++[c0]))]) ?_ ⟨5-(cs++[c0]).length,by simp;omega,cs++[c0],rfl,⟨by simp;omega,?_⟩,by simp,rfl⟩
  ·show [V.l (Jd cs++[.s (Jl c0)])]=_;rw[Jad]
  ·intro x hx;rcases Ju5.1 hx with hx | hx
   ·exact hc.2 x hx
   ·simp at hx;subst hx;exact hc.2 x hmc
 obtain⟨ds,e1,as,q,rfl,e2⟩:=key;exact⟨as,q,e1,e2⟩
theorem Jjt (f:Frm) (hf:f.c.length=3) (v:Nat) (hv:v<3):Ev L f_k4h (f.cells++[D.q [dI v]].map D.norm) [dB (decide (f.c.getD v 0≠0))]:=by
 refine JuV (vs:=[.l (dL f.c),.l (dL f.d),.i f.k,.d (.q [dI v])]) L_k4h rfl ?_;refine JuH (vs:=[.i v]) rfl rfl ?_;refine JuF v (mA1 (f:=dI) (We (by omega))) rfl rfl rfl rfl (Jun ?_);show [dB (!(decide (f.c.getD v 0=0)))]=_;simp
theorem JnM (r:Row) (hr:YZ r) (v:Nat) (hv:v<3):Ev L f_k4i (r.cells++[dI v]++([]:List D).map D.norm) [dB (ZC r v)]:=by
 refine JuV (vs:=[.l (dF r.guards),.l (dF r.adds),.l (dF r.tells),.b r.stop,.i v]) L_k4i rfl ?_;have ha:=hr.al;have ht:=hr.tl;refine Jup (Jnb [r.adds,r.tells] (by simp) (by simp;omega)) rfl rfl rfl ?_;have hfl:[r.adds,r.tells].flatten=r.adds++r.tells:=by simp
 rw[hfl];have h3 :∀f∈r.adds++r.tells,f.c.length=3:=by
  intro f hf;rcases Ju5.1 hf with hf | hf
  ·exact(hr.a f hf).c
  ·exact(hr.t f hf).c
 have hlen:(r.adds++r.tells).length≤2000000:=by simp;omega
 unfold ZC;generalize r.adds++r.tells=all at *;exact Jup (Jfw (fun f=>decide (f.c.getD v 0≠0)) all (fn:=f_k4h) (caps:=[.q [dI v]]) hlen rfl rfl fun f hf=>Jjt f (h3 f hf) v hv) rfl rfl rfl (Jun rfl)
theorem Jo0 (as:List (List Jg)) (hf:Yr as):Ev L f_k4j [.s (Jd as)] [.s (dBl (Jj as))]:=by
 refine JuV (vs:=[.l (Jd as)]) L_k4j rfl ?_;refine Jup (Jbr as hf) rfl rfl rfl ?_;refine JuL (Qx as) rfl (fun h=>Jun ?_) (fun h=>?_)
 ·show [D.s []]=_;simp[Jj,h,dBl]
 ·refine Jup (JpC ZC as hf (fn:=f_k4i) (caps:=[]) rfl rfl fun r hr v hv=>JnM r hr v hv) rfl rfl rfl (Jun ?_);show [D.s (dBl (WE ZC as))]=_;rw[Jdi h]
/- There is one way,and it is the act; what an act does not read turns no answer; with an act more there is more: over residual programs. -/
theorem Jnv {a b:List Int} (h:b.length=a.length):Jct a b 1=List.zipWith (· + ·) a b:=by
 rw[Jg6 h];unfold J5
 congr 1
 funext x y
 omega
theorem Jp3 {a b:List Int} {M:Int} (ha:Lim M a) (hb:Lim M b) (hM:M≤4000000000000000000) (hl:b.length=a.length) (h9:a.length≤1000):Ev L f_k5h [.s (dL a),.s (dL b)] [.s (dL (List.zipWith (· + ·) a b))]:=by
 refine JuV (vs:=[.l (dL a),.l (dL b)]) L_k5h rfl ?_;refine Jup (QK a (by omega)) rfl rfl rfl ?_;refine Juu b.length (fun i=>[.l (dL (J5 a (b.take i) 1++a.drop i)),.i i]) (fun _=>True) rfl (by simp[J5,den,Jo,V.int]) trivial fun i hi _=>?_;simp only[sC,sN];refine JuG i (dL1 b) rfl (fun h=>?_) (fun h=>?_)
 ·obtain⟨x,hx,hmx⟩:=sA1 (show i<a.length by omega);obtain⟨y,hy,hmy⟩:=sA1 h;obtain⟨s1,s2⟩:=JbI (n:=1) (by omega) hx hy;have hxl:=ha x hmx;have hyl:=hb y hmy;refine JuF i (mA1 (f:=dI) hy) rfl rfl rfl rfl ?_;refine JuP i (mA1 (f:=dI) s1) rfl rfl rfl rfl rfl rfl ?_;refine JuP i (mA1 (f:=dI) s1) rfl rfl rfl rfl rfl rfl ?_;refine JuC (vs:=[.l (dL (J5 a (b.take (i+1)) 1++a.drop (i+1))),.i ((i+1:Nat):Int)]) ?_ ⟨h,rfl,trivial⟩;show [V.l ((dL (J5 a (b.take i) 1++a.drop i)).set (i:Int).toNat (dI (i64.wrap (x+y)))),V.i (i64.wrap ((i:Int)+1))]=_;rw[wS h (by omega),w64 (by omega) (by omega),QC,Int.toNat_natCast,show x+y=x+1*y by omega,s2]
 ·refine Juk (Jun ?_);show [D.s (dL (J5 a (b.take i) 1++a.drop i))]=_;rw[tA1 h,show i=b.length by omega,←Jnv hl];rfl
theorem Job {f:Frm} {v w:List Int} (h:Zy f v w) : -6000000000000000≤atF f v w∧atF f v w≤6000000000000000:=by
 obtain⟨s1,s2,s3⟩:=h.sums;unfold atF;omega
theorem Jp7 {fs:List Frm} {v w:List Int} (h :∀f∈fs,Zy f v w):Lim 6000000000000000 (atL fs v w):=by
 intro x hx;simp only[atL,List.mem_map] at hx;obtain⟨f,hf,rfl⟩:=hx;exact Job (h f hf)
theorem JiE (c1 c2:Int) (t1 t2:List Int) (hl:t1.length≤2000000):Ev L f_k5u [dI c1,.s (dL t1),dI c2,.s (dL t2)] [dB (decide (c1=c2)&&decide (t1=t2))]:=by
 refine JuV (vs:=[.i c1,.l (dL t1),.i c2,.l (dL t2)]) L_k5u rfl ?_;refine JuB (c1=c2) rfl (fun h=>?_) (fun h=>Jun ?_)
 ·refine Jup (Je6 t1 t2 hl) rfl rfl rfl (Jun ?_);rw[decide_eq_true h];rfl
 ·rw[decide_eq_false h];rfl
theorem Jjs (l:List Int) (hl:l.length≤2000000):Ev L f_k18 [.s (dL l)] [dB (Q1 l)] :=
 JuV (vs:=[.l (dL l)]) L_k18 rfl (Jup (Xx l 2 9 hl (by omega) (by omega)) rfl rfl rfl (Jun rfl))
/- What one site knows is so for all; who is alone knows all: over residual programs. -/
theorem Jki (b g:List Int) (s:Int) (hg :∀x∈g,0≤x∧x≤50) (hl:g.length≤2000000):Ev L f_k24 [.s (dL b),.s (dL g),dI s] [dI (JN g s)]:=by
 refine JuV (vs:=[.l (dL b),.l (dL g),.i s]) L_k24 rfl ?_;refine Juu g.length (fun i=>[.i (JN (g.take i) s),.i i]) (fun _=>True) rfl rfl trivial fun i hi _=>?_;simp only[sC,sN];refine JuG i (dL1 g) rfl (fun h=>?_) (fun h=>?_)
 ·obtain⟨x,hx,hm⟩:=sA1 h;have hst:=YE (s:=s) hx;have hle:=Jbg (s:=s) hg i hi;have hxb:=hg x hm;refine JuL (decide ((i:Int)=s)) rfl (fun hs=>?_) (fun hs=>?_)
  ·refine JuF i (mA1 (f:=dI) hx) rfl rfl rfl rfl ?_;refine JuC (vs:=[.i (JN (g.take (i+1)) s),.i ((i+1:Nat):Int)]) ?_ ⟨h,rfl,trivial⟩;show [V.i (i64.wrap (JN (g.take i) s+x)),V.i (i64.wrap ((i:Int)+1))]=_;rw[wS h (by omega),hst,if_neg (by simpa using hs),w64 (by omega) (by omega)]
  ·refine JuC (vs:=[.i (JN (g.take (i+1)) s),.i ((i+1:Nat):Int)]) ?_ ⟨h,rfl,trivial⟩;show [V.i (JN (g.take i) s),V.i (i64.wrap ((i:Int)+1))]=_;rw[wS h (by omega),hst,if_pos (by simpa using hs),Int.add_zero]
 ·refine Juk (Jun ?_);rw[tA1 h];rfl
def B3 (r:Int×Int×Bool):List D:=[dI r.1,dI r.2.1,dB r.2.2]
theorem Jed {a b:List Int} {A B:Int} (ha:Lim A a) (hb:Lim B b):Lim (A+B) (Qp a b):=by
 have:=Jer (n:=1) (N:=1) ha hb (by omega);have e:J5 a b 1=Qp a b:=by
  unfold J5 Qp
  congr 1
  funext x y;omega
 rw[e] at this;exact this.mono (by omega)
theorem Zy.here {f:Frm} {b a w:List Int} (hf:f.ok=true) (hb:JQ b=true) (ha:QT a=true) (hw:Q1 w=true):Zy f (Qp b a) w:=by
 have hs:=JnA hf;obtain⟨b1,b2⟩:=Qd.1 hb;obtain⟨a1,a2⟩:=Jq.1 ha;obtain⟨w1,w2⟩:=Xv.1 hw;refine⟨hs.c,hs.d,by rw[ZA (by omega)];exact b1,w1,10000000,30000,by omega,by omega,by omega,hs.lc,hs.ld,(Jed b2 (B:=20000) a2).mono (by omega),w2.mono (by omega),by have:=hs.k;omega⟩
theorem JgH {f:Frm} {v w:List Int} (h:Zy f v w):Ev L f_k23 (f.cells++[.s (dL v),.s (dL w)]) [dI (atF f v w)]:=by
 obtain⟨A,B,hA,hB,hAB,h1,h2,h3,h4,h5⟩:=h.a;have h0:0≤A*B:=Int.mul_nonneg hA hB;have c3:=h.c;have d2:=h.d;have v3:=h.v3;have w2:=h.w2;have lim :∀(c x:List Int) (i:Nat),Lim A c→Lim B x→i≤3→-3000000000000000≤dot (c.take i) (x.take i)∧dot (c.take i) (x.take i)≤3000000000000000:=by
  intro c x i hc hx hi;have:=ZH (hc.take i) (hx.take i) hA hB;have hl:((c.take i).length:Int)≤3:=by simp;omega
  have:=Int.mul_le_mul_of_nonneg_left hl h0;omega
 refine JuV (vs:=[.l (dL f.c),.l (dL f.d),.i f.k,.l (dL v),.l (dL w)]) L_k23 rfl ?_;refine Juu 3 (fun i=>[.i (f.k+dot (f.c.take i) (v.take i)),.i i]) (fun _=>True) rfl (by simp[dot,den,Jo,V.int]) trivial fun i hi _=>?_;simp only[sC,sN];refine JuD i 3 rfl (fun hi3=>?_) (fun hi3=>?_)
 ·obtain⟨x,hx,hmx⟩:=sA1 (show i<f.c.length by omega);obtain⟨y,hy,hmy⟩:=sA1 (show i<v.length by omega);have hp:=KG (h1 x hmx) (h3 y hmy);have hl:=lim f.c v i h1 h3 hi;refine JuF i (mA1 (f:=dI) hx) rfl rfl rfl rfl ?_;refine JuF i (mA1 (f:=dI) hy) rfl rfl rfl rfl ?_;refine JuC (vs:=[.i (f.k+dot (f.c.take (i+1)) (v.take (i+1))),.i ((i+1:Nat):Int)]) ?_ ⟨hi3,rfl,trivial⟩;show [V.i (i64.wrap (f.k+dot (f.c.take i) (v.take i)+i64.wrap (x*y))),V.i (i64.wrap ((i:Int)+1))]=_;rw[wS hi3 (by omega),w64 (n:=x*y) (by omega) (by omega),w64 (by omega) (by omega),Jah hx hy,Int.add_assoc]
 have hi3:i=3:=by omega
 subst hi3;rw[Ju4 (by omega),Ju4 (by omega)];refine Juk ?_;have hcv:=lim f.c v 3 h1 h3 (by omega);rw[Ju4 (by omega),Ju4 (by omega)] at hcv;refine Juu 2 (fun i=>[.i (f.k+dot f.c v+dot (f.d.take i) (w.take i)),.i i]) (fun _=>True) rfl (by simp[dot,den,Jo,V.int]) trivial fun i hi _=>?_;simp only[sC,sN];refine JuD i 2 rfl (fun hi2=>?_) (fun hi2=>?_)
 ·obtain⟨x,hx,hmx⟩:=sA1 (show i<f.d.length by omega);obtain⟨y,hy,hmy⟩:=sA1 (show i<w.length by omega);have hp:=KG (h2 x hmx) (h4 y hmy);have hl:=lim f.d w i h2 h4 (by omega);refine JuF i (mA1 (f:=dI) hx) rfl rfl rfl rfl ?_;refine JuF i (mA1 (f:=dI) hy) rfl rfl rfl rfl ?_;refine JuC (vs:=[.i (f.k+dot f.c v+dot (f.d.take (i+1)) (w.take (i+1))),.i ((i+1:Nat):Int)]) ?_ ⟨hi2,rfl,trivial⟩;show [V.i (i64.wrap (f.k+dot f.c v+dot (f.d.take i) (w.take i)+i64.wrap (x*y))),V.i (i64.wrap ((i:Int)+1))]=_;rw[wS hi2 (by omega),w64 (n:=x*y) (by omega) (by omega),w64 (by omega) (by omega),Jah hx hy,Int.add_assoc (f.k+dot f.c v)]
 ·refine Juk (Jun ?_);show [dI (f.k+dot f.c v+dot (f.d.take i) (w.take i))]=_;rw[Ju4 (by omega),Ju4 (by omega),show f.k+dot f.c v+dot f.d w=atF f v w by unfold atF;omega]
theorem JpR {a b:List Int} (ha:a.length=3) (hb:b.length=3) (la:Lim 1000000000 a) (lb:Lim 1000000000 b):Ev L f_k22 [.s (dL a),.s (dL b)] [.s (dL (Qp a b))]:=by
 refine JuV (vs:=[.l (dL a),.l (dL b)]) L_k22 rfl ?_;refine Juu 3 (fun i=>[.l (dL ((Qp a b).take i)),.i i]) (fun _=>True) rfl rfl trivial fun i hi _=>?_;simp only[sC,sN];refine JuD i 3 rfl (fun h=>?_) (fun h=>?_)
 ·obtain⟨x,hx,hmx⟩:=sA1 (show i<a.length by omega);obtain⟨y,hy,hmy⟩:=sA1 (show i<b.length by omega);have hxl:=la x hmx;have hyl:=lb y hmy;have hs:(Qp a b)[i]? = some (x+y):=by unfold Qp;rw[List.getElem?_zipWith,hx,hy]
  refine JuF i (mA1 (f:=dI) hx) rfl rfl rfl rfl ?_;refine JuF i (mA1 (f:=dI) hy) rfl rfl rfl rfl ?_;refine JuR (dL ((Qp a b).take i)) 10 (by rw[dL1];simp;omega) (by omega) rfl ?_;refine JuC (vs:=[.l (dL ((Qp a b).take (i+1))),.i ((i+1:Nat):Int)]) ?_ ⟨h,rfl,trivial⟩;show [V.l (dL ((Qp a b).take i)++[dI (i64.wrap (x+y))]),V.i (i64.wrap ((i:Int)+1))]=_;rw[wS h (by omega),w64 (by omega) (by omega),XI,tS1 hs]
 ·refine Juk (Jun ?_);show [D.s (dL ((Qp a b).take i))]=_;rw[Ju4 (by rw[ZA (by omega)];omega)]
theorem JkP {b g:List Int} {ps:List (List Int)} {s:Int} {a:List Int} (h:QM b g ps s a=true):JQ b=true∧(∀x∈g,0≤x∧x≤50)∧QT a=true:=by
 simp only[QM,Qw,Ju0,Jvd,Jr] at h;exact⟨h.1.1.1.1.1,h.1.1.1.2,h.2⟩
theorem JdF (b g:List Int) (ps:List (List Int)) (s:Int) (a:List Int) (f:Frm) (w:List Int) (hb:b.length≤2000000) (hg:g.length≤2000000) (hp:fitLL ps) (ha:a.length≤2000000) (hf:Frm.fit f) (hw:w.length≤2000000) :
  Ev L f_k25 ([.s (dL b),.s (dL g),.s (dLL ps),dI s,.s (dL a)]++f.cells++[.s (dL w)]) (B3 (JV b g ps s a f w)):=by
 refine JuV (vs:=[.l (dL b),.l (dL g),.l (dLL ps),.i s,.l (dL a),.l (dL f.c),.l (dL f.d),.i f.k,.l (dL w)]) L_k25 rfl ?_;have none:(QM b g ps s a&&f.ok&&Q1 w)=false→JV b g ps s a f w=(0,0,false):=fun h=>by
  unfold JV;unfold QM at h;rw[h];rfl
 refine Jup (Jbc b g hb hg) rfl rfl rfl ?_;refine JuL (Qw b g) rfl (fun h=>Jun ?_) (fun h=>?_)
 ·rw[none (by simp[QM,h])];rfl
 refine Jup (Jc1 ps hp) rfl rfl rfl ?_;refine JuL (QW ps) rfl (fun h'=>Jun ?_) (fun h'=>?_)
 ·rw[none (by simp[QM,h'])];rfl
 refine Jup (JT s 0 (g.length-1)) rfl ?_ rfl ?_
 ·show [dI s,dI 0,dI (i64.wrap (((dL g).length:Int)-1))]=_;rw[dL1,w64 (by omega) (by omega)]
 refine JuL (inB s 0 (g.length-1)) rfl (fun h''=>Jun ?_) (fun h''=>?_)
 ·rw[none (by simp[QM,h''])];rfl
 refine Jup (Xx a 3 20000 ha (by omega) (by omega)) rfl rfl rfl ?_;refine JuL (JK 3 20000 a) rfl (fun h3=>Jun ?_) (fun h3=>?_)
 ·rw[none (by simp[QM,QT,h3])];rfl
 have hfine:QM b g ps s a=true:=by simp only[QM,QT,h,h',h'',h3];rfl
 refine Jup (Ji4 f hf) rfl rfl rfl ?_;refine JuL f.ok rfl (fun h2=>Jun ?_) (fun h2=>?_)
 ·rw[none (by simp[h2])];rfl
 refine Jup (Jjs w hw) rfl rfl rfl ?_;refine JuL (Q1 w) rfl (fun h3=>Jun ?_) (fun h4=>?_)
 ·rw[none (by simp[h3])];rfl
 simp only[sC,sN];obtain⟨v1,v2,v3⟩:=JkP hfine;obtain⟨b1,b2⟩:=Qd.1 v1;obtain⟨a1,a2⟩:=Jq.1 v3;have hat:=Zy.here h2 v1 v3 h4;have hlim:=Job hat;have hstd:=JnA h2;have hM:JV b g ps s a f w=if f.c=[0,0,0] then(atF f (Qp b a) w,atF f (Qp b a) w,true) else if Jn f.c∈ps then(atF f (Qp b a) w-JN g s,atF f (Qp b a) w+JN g s,true) else(0,0,false):=by
  unfold JV;unfold QM at hfine;rw[hfine,h2,h4];rfl
 rw[hM];refine Jup (JpR b1 (by omega) (b2.mono (by omega)) (Lim.mono (m:=20000) a2 (by omega))) rfl rfl rfl ?_;refine Jup (JgH hat) rfl rfl rfl ?_;refine Jup (Jd4 f (hstd.lc.mono (by omega)) (by rw[hstd.c];omega)) rfl rfl rfl ?_;refine Jup X1 rfl rfl rfl ?_;refine Jup (JbE (Jn f.c) [0,0,0] (by rw[VF,hstd.c];omega)) rfl rfl rfl ?_;have hol:=Jbg (s:=s) v2 g.length (Nat.le_refl _);rw[Ju4 (Nat.le_refl _)] at hol;have hO:=Jki b g s v2 hg;simp only[sC,sN];generalize atF f (Qp b a) w=n at *;generalize JN g s=o at *;have hpz:=Je7 hstd.c;refine JuU (decide (Jn f.c=[0,0,0])) rfl (fun hz=>Jun ?_) (fun hz=>?_)
 ·rw[if_pos (hpz.1 (by simpa using hz))];rfl
 rw[if_neg (fun e=>by simp[hpz.2 e] at hz)];refine Jup (Jff ps (Jn f.c) hp.1 hp.2) rfl rfl rfl ?_;simp only[sC,sN];refine JuB (K6 ps (Jn f.c)<0) rfl (fun hh=>Jun ?_) (fun hh=>?_)
 ·rw[if_neg ((Jfk _ _).1 hh)];rfl
 ·rw[if_pos ((Ja0 _ _).1 (by omega))];refine Jup hO rfl rfl rfl ?_;refine Jup hO rfl rfl rfl (Jun ?_);show [dI (i64.wrap (n-o)),dI (i64.wrap (n+o)),dB true]=_;rw[w64 (n:=n-o) (by omega) (by omega),w64 (n:=n+o) (by omega) (by omega)];rfl
end Go.Proofs.YtngcnclchcahlabGreatDoor

import Derived.Test.YtngcnclchcahlaaGreatDoorPP
import Derived.Test.YtngcnclchcahlaaGreatDoorPM
import Derived.Test.YtngcnclchcahlaaGreatDoorTd
set_option linter.unusedVariables false
set_option linter.unusedSimpArgs false
/- Each way is ok,and there are at most two for each test: over residual programs. -/
namespace Go.Proofs.YtngcnclchcahlaaGreatDoor
open Go Go.Tm
open Go.IntKind (i64)
theorem Jf1 (a b:List Int) (hl:a.length≤2000000):Ev L f_k5x [.s (dL a),.s (dL b)] [dB (decide (a=b))] :=
 Jgr dI .i a b L_k5x rfl (fun _=>rfl) (fun _ _ _ _ _=>rfl) hl
theorem Jdq:Ev L f_k64 [] [dB true]:=by
 refine Jt7 (vs:=[]) L_k64 rfl ?_;refine JtE Vk rfl rfl rfl ?_;have e:=Yw Frm.zero Xi.fit;rw[Xi.okF (by omega)] at e;exact JtE e rfl rfl rfl (Jt0 rfl)
theorem JpB (n:Int) (h0:0≤n) (hn:n≤2000000):Ev L f_k4h [dI n] [.s []]:=by
 refine Jt7 (vs:=[.i n]) L_k4h rfl ?_;have hw:i64.wrap (n-i64.wrap (0-0))=n:=by rw[w64 (n:=0-0) (by omega) (by omega),w64 (by omega) (by omega)];omega
 refine Jty (n<0) rfl (fun h=>by omega) (fun _=>?_);refine Jty (0<n) (by show decide (0<i64.wrap (n-i64.wrap (0-0)))=_;rw[hw]) (fun h=>?_) (fun h=>Jt0 rfl);refine JtP (0<n) (by show decide (0<i64.wrap (n-i64.wrap (0-0)))=_;rw[hw]) h ?_;refine JtP (n≤1256584717458) (by show decide (i64.wrap (n-i64.wrap (0-0))≤1256584717458)=_;rw[hw]) (by omega) ?_;refine Jt3 ?_ (Jt0 ?_)
 ·show decide ((0:Int)≤((List.replicate (i64.wrap (n-i64.wrap (0-0))).toNat (D.g [.s [],.s [],dI 0])).length:Int))=true;simp only[decide_eq_true_eq];omega
 ·show [D.s ((List.replicate (i64.wrap (n-i64.wrap (0-0))).toNat (D.g [.s [],.s [],dI 0])).take (0:Int).toNat)]=_;simp
def dFF (ls:List (List Frm)):List D:=ls.map fun l=> .s (dF l)
theorem Jlq (ls:List (List Frm)):(dFF ls).length=ls.length:=by simp[dFF]
theorem Jrg (a b:List Frm):dF a++dF b=dF (a++b):=by simp[dF]
def UM (ls:List (List Frm)):Nat:=(ls.map List.length).sum
theorem Jmv {ls:List (List Frm)} {i:Nat} {l:List Frm} (h:ls[i]? = some l):UM (ls.take (i+1))=UM (ls.take i)+l.length:=by
 unfold UM;rw[tS1 h];simp
theorem JmR (ls:List (List Frm)):ls.flatten.length=UM ls:=by simp[UM,List.length_flatten]
theorem JpF {ls:List (List Frm)} {N:Nat} (h :∀l∈ls,l.length≤N) (i:Nat):UM (ls.take i)≤N*ls.length:=by
 have :∀(ls:List (List Frm)),(∀l∈ls,l.length≤N)→UM ls≤N*ls.length:=by
  intro ls
  induction ls with
  | nil=>intro _;simp[UM]
  | cons l ls ih =>
   intro h;have h1:=h l (by simp);have h2:=ih fun x hx=>h x (by simp[hx]);simp only[UM,Juh,List.sum_cons,List.length_cons,Nat.mul_add] at *;omega
 have h1:=this (ls.take i) fun l hl=>h l (Jux hl);refine Nat.le_trans h1 (Nat.mul_le_mul_left _ (by simp;omega))
theorem JmZ (ls:List (List Frm)) (hl:ls.length≤100) (h1 :∀l∈ls,l.length≤1000):Ev L f_k4i [.s (dFF ls)] [.s (dF ls.flatten)]:=by
 refine Jt7 (vs:=[.l (dFF ls)]) L_k4i rfl ?_;have hle :∀i,UM (ls.take i)≤100000:=fun i=>Nat.le_trans (JpF h1 i) (by omega);refine Jtt ls.length (fun i=>[.i (UM (ls.take i)),.i i]) (fun _=>True) rfl rfl trivial fun i hi _=>?_;have hli:=hle i;refine JtT i (Jlq ls) rfl (fun h=>?_) (fun h=>?_)
 ·obtain⟨x,hx,hm⟩:=sA1 h;have hxl:=h1 x hm;refine JtY i (mA1 (f:=fun l=> .s (dF l)) hx) rfl rfl rfl rfl ?_;have hw:i64.wrap ((UM (ls.take i):Int)+((dF x).length:Int))=(UM (ls.take (i+1)):Int):=by
   rw[J0,Jmv hx,w64 (by omega) (by omega)];rfl
  refine Jty (((UM (ls.take (i+1)):Int))<0) (by show decide (i64.wrap ((UM (ls.take i):Int)+((dF x).length:Int))<0)=_;rw[hw]) (fun h=>by omega) (fun _=>?_);refine JtK (vs:=[.i (UM (ls.take (i+1))),.i ((i+1:Nat):Int)]) ?_ ⟨h,rfl,trivial⟩;show [V.i (i64.wrap ((UM (ls.take i):Int)+((dF x).length:Int))),V.i (i64.wrap ((i:Int)+1))]=_;rw[wS h (by omega),hw]
 ·refine JtA ?_;refine JtE (JpB (UM (ls.take i)) (by omega) (by omega)) rfl rfl rfl ?_;simp only[sC,sN];refine Jtt ls.length (fun j=>[.l (dF (ls.take j).flatten),.i j]) (fun _=>True) rfl rfl trivial fun j hj _=>?_;simp only[sC,sN];refine JtT j (Jlq ls) rfl (fun h=>?_) (fun h=>?_)
  ·obtain⟨x,hx,hm⟩:=sA1 h;have hxl:=h1 x hm;have hlj:=hle j;refine JtY j (mA1 (f:=fun l=> .s (dF l)) hx) rfl rfl rfl rfl ?_;refine Jtv (dF x) 1000 (by rw[J0];exact hxl) (by omega) rfl ?_;refine JtH (JpQ x) ?_;refine Jtv (dF (ls.take j).flatten++dF x) 2000000 (by rw[Juf,J0,J0,JmR];omega) (by omega) rfl ?_;refine JtK (vs:=[.l (dF (ls.take (j+1)).flatten),.i ((j+1:Nat):Int)]) ?_ ⟨h,rfl,trivial⟩;show [V.l (dF (ls.take j).flatten++dF x),V.i (i64.wrap ((j:Int)+1))]=_;rw[wS h (by omega),Jrg,tS1 hx];simp
  ·refine JtA (Jt0 ?_);show [D.s (dF (ls.take j).flatten)]=_;rw[tA1 h]
/- What an act does not turn stays: over residual programs. -/
theorem Xo {bs:List Int} {p n:Int} (hr:Rdr bs p) (hf:p≤999999999000) (h1:1≤n) (hn:n≤2000000) :
  ∃ a q,Ev L f_kq [.s (Ja bs),dI p,dI n] [.s (dL a),.s (Ja bs),dI q]∧p≤q∧q≤p+10∧a.length≤3:=by
 have key : ∃ ds,Ev L f_kq [.s (Ja bs),dI p,dI n] ds∧∃ a q,ds=[.s (dL a),.s (Ja bs),dI q]∧p≤q∧q≤p+10∧a.length≤3:=by
  refine Jt4 (vs:=[.l (Ja bs),.i p,.i n]) L_kq rfl ?_;have go :∀q,p≤q→q≤p+10→Rdr bs q:=fun q h h'=>hr.go h (by omega);refine Je 19 hr (by omega) (by omega) rfl rfl fun u hu0 hu1=>?_;refine Je 19 (go (p+1) (by omega) (by omega)) (by omega) (by omega) rfl rfl fun v hv0 hv1=>?_;refine Je n (go (p+1+1) (by omega) (by omega)) h1 hn rfl rfl fun w hw0 hw1=>?_;simp only[sC,sN];have e:[dI (i64.wrap (u-9)),dI (i64.wrap (v-9))]=dL [u-9,v-9]:=by
   rw[w64 (by omega) (by omega),w64 (by omega) (by omega)];rfl
  refine Jty (w=0) rfl (fun hw=>?_) (fun hw=>?_)
  ·refine Je 3 (go (p+1+1+1) (by omega) (by omega)) (by omega) (by omega) rfl rfl fun z hz0 hz1=>?_;simp only[sC,sN];refine Jty (z=0) rfl (fun hz=>Jt0 ?_) (fun hz=>?_)
   ·refine⟨[u-9,v-9].take 1,p+1+1+1+1,?_,by omega,by omega,by simp⟩;show [D.s ([dI (i64.wrap (u-9)),dI (i64.wrap (v-9))].take 1),.s (Ja bs),dI (p+1+1+1+1)]=_;rw[e,VO]
   refine Jty (z=1) rfl (fun hz=>?_) (fun hz=>?_)
   ·refine JtR [dI (i64.wrap (u-9)),dI (i64.wrap (v-9))] 2 (by simp) (by omega) rfl ?_;refine Jt0 ⟨[u-9,v-9]++[0],p+1+1+1+1,?_,by omega,by omega,by simp⟩;show [D.s ([dI (i64.wrap (u-9)),dI (i64.wrap (v-9))]++[dI 0]),.s (Ja bs),dI (p+1+1+1+1)]=_;rw[e,Q8]
   ·refine Je 2 (go (p+1+1+1+1) (by omega) (by omega)) (by omega) (by omega) rfl rfl fun a ha0 ha1=>?_;refine Je 2 (go (p+1+1+1+1+1) (by omega) (by omega)) (by omega) (by omega) rfl rfl fun b hb0 hb1=>?_;simp only[sC,sN];refine JX [10,-10] b hb0 hb1 rfl rfl rfl rfl rfl fun x=>?_;refine JtP (0≤a) rfl ha0 ?_;refine JtP (a<2) rfl ha1 ?_;refine JtJ (ds:=dL [u-9,v-9]) a rfl e rfl ha0 (J1 ha0 (by simpa using ha1)) rfl ?_;refine Jt0 ⟨[u-9,v-9].set a.toNat x,p+1+1+1+1+1+1,?_,by omega,by omega,by simp⟩;show [D.s ([dI (i64.wrap (u-9)),dI (i64.wrap (v-9))].set a.toNat (dI x)),.s (Ja bs),dI (p+1+1+1+1+1+1)]=_;rw[e,QH]
  ·refine Jt0 ⟨[u-9,v-9],p+1+1+1,?_,by omega,by omega,by simp⟩;show [D.s [dI (i64.wrap (u-9)),dI (i64.wrap (v-9))],.s (Ja bs),dI (p+1+1+1)]=_;rw[e]
 obtain⟨ds,e1,a,q,rfl,e2⟩:=key;exact⟨a,q,e1,e2⟩
theorem Jms {a b:List Int} {i:Nat} {x y A B:Int} (hx:a[i]? = some x) (hy:b[i]? = some y) (ha:Lim A a) (hb:Lim B b) (hA:0≤A) (hB:0≤B) (hi:i<1000) (hAB:A*B≤1000000000000000) :
  i64.wrap (dot (a.take i) (b.take i)+i64.wrap (x*y))=dot (a.take (i+1)) (b.take (i+1)):=by
 have h1:=ZI (ha.take i) (hb.take i) hA hB;have h2:((a.take i).length:Int)≤1000:=by simp;omega
 have h0:0≤A*B:=Int.mul_nonneg hA hB;have h3:=Kx (ha x (Jug hx)) (hb y (Jug hy));have h4:A*B*((a.take i).length:Int)≤A*B*1000:=Int.mul_le_mul_of_nonneg_left h2 h0;rw[Jai hx hy,w64 (n:=x*y) (by omega) (by omega),w64 (by omega) (by omega)]
theorem JlQ {p a:List Int} {A B:Int} (hp:Lim A p) (ha:Lim B a) (hA:0≤A) (hB:0≤B) (hAB:A*B≤1000000000000000) (hl:p.length=a.length) (h9:p.length≤999):Ev L f_k4t [.s (dL p),.s (dL a)] [dI (dot p a)]:=by
 refine Jt7 (vs:=[.l (dL p),.l (dL a)]) L_k4t rfl ?_;refine Jtt p.length (fun i=>[.i (dot (p.take i) (a.take i)),.i i]) (fun _=>True) rfl rfl trivial fun i hi _=>?_;refine JtT i (dL1 p) rfl (fun h=>?_) (fun h=>?_)
 ·obtain⟨x,hx,_⟩:=sA1 (show i<p.length by omega);obtain⟨y,hy,_⟩:=sA1 (show i<a.length by omega);refine JtY i (mA1 (f:=dI) hx) rfl rfl rfl rfl ?_;refine JtY i (mA1 (f:=dI) hy) rfl rfl rfl rfl ?_;refine JtK (vs:=[.i (dot (p.take (i+1)) (a.take (i+1))),.i ((i+1:Nat):Int)]) ?_ ⟨h,rfl,trivial⟩;show [V.i (i64.wrap (dot (p.take i) (a.take i)+i64.wrap (x*y))),V.i (i64.wrap ((i:Int)+1))]=_;rw[wS h (by omega),Jms hx hy hp ha hA hB (by omega) hAB]
 ·refine JtA (Jt0 ?_);show [dI (dot (p.take i) (a.take i))]=_;rw[tA1 h,tA1 (by omega)]
structure YQ (f:Frm) (v w:List Int):Prop where
 c:f.c.length=3
 d:f.d.length=2
 v3:v.length=3
 w2:w.length=2
 a : ∃ A B:Int,0≤A∧0≤B∧A*B≤1000000000000000∧Lim A f.c∧Lim A f.d∧Lim B v∧Lim B w∧-1000000000000000≤f.k∧f.k≤1000000000000000
theorem YQ.sums {f:Frm} {v w:List Int} (h:YQ f v w):(-3000000000000000≤dot f.c v∧dot f.c v≤3000000000000000)∧(-2000000000000000≤dot f.d w∧dot f.d w≤2000000000000000)∧-1000000000000000≤f.k∧f.k≤1000000000000000:=by
 obtain⟨A,B,hA,hB,hAB,h1,h2,h3,h4,h5⟩:=h.a;have a:=ZI h1 h3 hA hB;have b:=ZI h2 h4 hA hB;rw[h.c] at a;rw[h.d] at b;exact⟨by omega,by omega,h5⟩
theorem Jo5 {f:Frm} {v w:List Int} (h:YQ f v w):Ev L f_k5i (f.cells++[.s (dL v),.s (dL w)]) [dI (atF f v w)]:=by
 obtain⟨A,B,hA,hB,hAB,h1,h2,h3,h4,h5⟩:=h.a;obtain⟨s1,s2,s3⟩:=h.sums;refine Jt7 (vs:=[.l (dL f.c),.l (dL f.d),.i f.k,.l (dL v),.l (dL w)]) L_k5i rfl ?_;refine JtE (JlQ h1 h3 hA hB hAB (by rw[h.c,h.v3]) (by rw[h.c];omega)) rfl rfl rfl ?_;refine JtE (JlQ h2 h4 hA hB hAB (by rw[h.d,h.w2]) (by rw[h.d];omega)) rfl rfl rfl (Jt0 ?_);show [dI (i64.wrap (i64.wrap (dot f.c v+dot f.d w)+f.k))]=_;rw[w64 (n:=dot f.c v+dot f.d w) (by omega) (by omega),w64 (by omega) (by omega)];rfl
theorem Qg {l:List Int}:JY l=true↔l.length=3∧Lim 10000 l:=by
 unfold JY;rw[Jo];exact⟨fun h=>⟨by omega,h.2⟩,fun h=>⟨by omega,h.2⟩⟩
theorem XX {l:List Int}:QR l=true↔l.length=2∧Lim 9 l:=by
 unfold QR;rw[Jo];exact⟨fun h=>⟨by omega,h.2⟩,fun h=>⟨by omega,h.2⟩⟩
theorem YQ.std {f:Frm} {v w:List Int} (hf:Std 10000000 f) (hv:JY v=true) (hw:QR w=true):YQ f v w:=by
 obtain⟨v1,v2⟩:=Qg.1 hv;obtain⟨w1,w2⟩:=XX.1 hw;exact⟨hf.c,hf.d,v1,w1,10000000,10000,by omega,by omega,by omega,hf.lc,hf.ld,v2,w2.mono (by omega),by have:=hf.k;omega⟩
theorem YQ.small {f:Frm} {x w:List Int} (hf:f.small=true) (hx:x.length=3) (hl:Lim 2000000000 x) (hw:QR w=true):YQ f x w:=by
 obtain⟨h1,h2,h3,h4,h5⟩:=Xy hf;obtain⟨w1,w2⟩:=XX.1 hw;exact⟨h1,h2,hx,w1,2,2000000000,by omega,by omega,by omega,h3,h4,hl,w2.mono (by omega),by omega⟩
def Res.ds (r:Res):List D:=[dI r.code,.s (dL r.tells),.s (dL r.is)]
theorem Jqg {l:Jg} (h:l.ok=true) (h1 : ¬l.kind=1) (h2 : ¬l.kind=2) (h4 : ¬l.kind=4):l.kind=3:=by
 unfold Jg.ok at h;rw[if_neg h1,if_neg h2] at h;split at h
 ·assumption
 ·simp[h4] at h
theorem JpE (h:Row→Nat→Bool) (as:List (List Jg)) (hf:X3 as) {fn:FuncId} {caps:List D} (hcap:Xu (.f fn caps) = .f fn caps) (har:arT L fn=some ([some 4,none]++caps.map fun _=>none))
  (hc :∀r,Yc r→∀v:Nat,v<3→Ev L fn (r.cells++[dI v]++caps.map D.norm) [dB (h r v)]):Ev L f_k4g [.s (Jd as),.f fn caps] [.s (dBl (Wr h as))]:=by
 have hl:=hf.1;refine Jt7 (vs:=[.l (Jd as),.d (.f fn caps)]) L_k4g rfl ?_;refine JtW as.length (fun i vs=>∃ p:List Bool,vs=[.l (dBl p),.i i]∧p.length=3∧p=Wr h (as.take i)) rfl ⟨[false,false,false],rfl,rfl,rfl⟩ ?_;rintro i _ hi ⟨p,rfl,hp,hpe⟩;simp only[sC,sN];refine JtT i (JK as) rfl (fun h'=>?_) (fun h'=>?_)
 ·obtain⟨a,ha,hm⟩:=sA1 h';have hB:Wr h (as.take (i+1))=(Js a).foldl (fun p r=>orB p (h r)) p:=by rw[hpe];exact Xn ha
  refine JtY i (mA1 (f:=fun a=> .s (Jl a)) ha) rfl rfl rfl rfl ?_;refine JtE (WB a (hf.2 a hm)) rfl rfl rfl ?_;have hrf :∀r∈Js a,Yc r:=XT;have hrl:=ZS a;generalize Js a=rs at *;refine JtW rs.length (fun k vs=>∃ q:List Bool,vs=[.l (dBl q),.i k]∧q.length=3∧q=(rs.take k).foldl (fun p r=>orB p (h r)) p) rfl ⟨p,rfl,hp,rfl⟩ ?_;rintro k _ hk ⟨q,rfl,hq,hqe⟩;simp only[sC,sN];refine JtT k (X4 rs) rfl (fun h''=>?_) (fun h''=>?_)
  ·obtain⟨r,hr,hmr⟩:=sA1 h'';have hfit:=hrf r hmr;have hC:(rs.take (k+1)).foldl (fun p r=>orB p (h r)) p=orB q (h r):=by rw[hqe];exact Xn hr
   refine Jtu k (rdR hr) rfl rfl rfl rfl rfl rfl ?_;have hO:(orB q (h r)).length=3:=by rw[Zz];exact hq
   refine Jtt 3 (fun v=>[.l (dBl ((orB q (h r)).take v++q.drop v)),.i v]) (fun _=>True) rfl rfl trivial fun v hv _=>?_;simp only[sC,sN];refine JtT v (show (dBl q).length=3 by rw[Jhd];exact hq) rfl (fun hv3=>?_) (fun hv3=>?_)
   ·obtain⟨b,hb,_⟩:=sA1 (show v<q.length by omega);have ho:=WQ (h:=h r) hb;have hcur:((orB q (h r)).take v++q.drop v)[v]? = some b:=by
     rw[JuB (by simp;omega),List.getElem?_drop];rw[show v+(v-((orB q (h r)).take v).length)=v by simp;omega];exact hb
    have nx :∀c:Bool,c=(b||h r v)→[V.l ((dBl ((orB q (h r)).take v++q.drop v)).set (v:Int).toNat (dB c)),V.i (i64.wrap ((v:Int)+1))]=[.l (dBl ((orB q (h r)).take (v+1)++q.drop (v+1))),.i ((v+1:Nat):Int)]:=by
     intro c hc';rw[←hc'] at ho;rw[wS hv3 (by omega),Jk0,Int.toNat_natCast,Jov (by omega) ho]
    refine Jtu v (mA1 (f:=dB) hcur) rfl rfl rfl rfl rfl rfl ?_;refine JtG b rfl (fun hbt=>?_) (fun hbf=>?_)
    ·refine Jtu v (mA1 (f:=dB) hcur) rfl rfl rfl rfl rfl rfl ?_;exact JtK (nx true (by simp[hbt])) ⟨hv3,rfl,trivial⟩
    ·refine JtF (fn:=fn) (caps:=caps) (ds:=[dB (h r v)]) (vs:=[.b (h r v)]) rfl hcap har (hc r hfit v hv3) rfl ?_;refine Jtu v (mA1 (f:=dB) hcur) rfl rfl rfl rfl rfl rfl ?_;exact JtK (nx (h r v) (by simp[hbf])) ⟨hv3,rfl,trivial⟩
   ·have hv3:v=3:=by omega
    subst hv3;rw[Jud (by omega),List.drop_eq_nil_of_le (by omega),List.append_nil];refine JtA (JtK (vs:=[.l (dBl (orB q (h r))),.i ((k+1:Nat):Int)]) ?_ ⟨h'',orB q (h r),rfl,hO,hC.symm⟩);show [V.l (dBl (orB q (h r))),V.i (i64.wrap ((k:Int)+1))]=_;rw[wS h'' (by omega)]
  ·rw[tA1 h''] at hqe;refine JtA (JtK (vs:=[.l (dBl q),.i ((i+1:Nat):Int)]) ?_ ⟨h',q,rfl,hq,by rw[hB,hqe]⟩);show [V.l (dBl q),V.i (i64.wrap ((i:Int)+1))]=_;rw[wS h' (by omega)]
 ·refine JtA (Jt0 ?_);show [D.s (dBl p)]=_;rw[tA1 h'] at hpe;rw[hpe]
/- All is kept an eye on; who tells of a pot pins it; with an act more there is more: over residual programs. -/
theorem JkK (x:Int):Ev L f_k4a [dI x] [dB (nz x)]:=Jt7 (vs:=[.i x]) L_k4a rfl (Jt0 rfl)
theorem Jic (l:List Int) (hl:l.length=3):Ev L f_k4b [.s (dL l)] [dB (decide (l=[0,0,0]))]:=by
 refine Jt7 (vs:=[.l (dL l)]) L_k4b rfl ?_;refine JtE (Jbz nz l (fn:=f_k4a) (caps:=[]) (by omega) rfl rfl fun x _=>JkK x) rfl rfl rfl (Jt0 ?_);show [dB (!(l.any nz))]=_;obtain⟨a,b,c,rfl⟩:=Jav hl
 congr 3
 by_cases h1:a=0 <;> by_cases h2:b=0 <;> by_cases h3:c=0 <;> simp[nz,h1,h2,h3]
theorem JgI (x:Int):Ev L f_k48 [dI x] [dB (nz x)]:=Jt7 (vs:=[.i x]) L_k48 rfl (Jt0 rfl)
theorem Jji (f:Frm) (hl:Lim 1000000000 f.c) (hn:f.c.length≤2000000):Ev L f_k49 f.cells [.s (dL (Jm f.c))]:=by
 refine Jt7 (vs:=[.l (dL f.c),.l (dL f.d),.i f.k]) L_k49 rfl ?_;refine JtE (X6 f.c hn) rfl rfl rfl ?_;refine JtE (Jfz nz f.c (fn:=f_k48) (caps:=[]) hn rfl rfl fun x _=>JgI x) rfl rfl rfl ?_;simp only[sC,sN];rcases Vm nz f.c with ⟨hp,ha⟩ | ⟨i,x,hp,hx,hnx,ht⟩
 ·rw[hp];refine JtN rfl (Jt0 ?_);show [D.s (dL f.c)]=_;rw[JhS ha]
 rw[hp];have hi:=(Jua.1 hx).1;have hs:=JhY hx hnx ht;have hx0:x≠0:=by simpa[nz] using hnx
 refine Jty ((0:Int)≤(i:Int)) rfl (fun _=>?_) (fun h=>by omega);refine Jtu i (mA1 (f:=dI) hx) rfl rfl rfl rfl rfl rfl ?_;simp only[sC,sN];refine Jty (x<0) rfl (fun hneg=>?_) (fun hpos=>Jt0 ?_)
 ·have hpart:Jm f.c=f.c.map fun y=>0-y:=by
   unfold Jm;rw[hs,if_neg (by omega)];apply Juv;intro y _;omega
  rw[hpart];refine Jtt f.c.length (fun k=>[.l (dL ((f.c.map fun y=>0-y).take k++f.c.drop k)),.i k]) (fun _=>True) rfl rfl trivial fun k hk _=>?_;simp only[sC,sN];refine JtT k (dL1 f.c) rfl (fun h=>?_) (fun h=>?_)
  ·obtain⟨y,hy,hm⟩:=sA1 h;have hly:=hl y hm;have hcur:((f.c.map fun y=>0-y).take k++f.c.drop k)[k]? = some y:=by
    rw[JuB (by simp;omega),List.getElem?_drop];rw[show k+(k-((f.c.map fun y=>0-y).take k).length)=k by simp;omega];exact hy
   have hny:(f.c.map fun y=>0-y)[k]? = some (0-y):=by simp[hy]
   refine Jtu k (mA1 (f:=dI) hcur) rfl rfl rfl rfl rfl rfl ?_;refine Jtu k (mA1 (f:=dI) hcur) rfl rfl rfl rfl rfl rfl ?_;refine JtK (vs:=[.l (dL ((f.c.map fun y=>0-y).take (k+1)++f.c.drop (k+1))),.i ((k+1:Nat):Int)]) ?_ ⟨h,rfl,trivial⟩;show [V.l ((dL ((f.c.map fun y=>0-y).take k++f.c.drop k)).set (k:Int).toNat (dI (i64.wrap (0-y)))),V.i (i64.wrap ((k:Int)+1))]=_;rw[wS h (by omega),w64 (by omega) (by omega),QH,Int.toNat_natCast,Jov (by simp) hny]
  ·refine JtA (Jt0 ?_);show [D.s (dL ((f.c.map fun y=>0-y).take k++f.c.drop k))]=_;rw[Jud (by simp;omega),List.drop_eq_nil_of_le (by omega),List.append_nil]
 ·show [D.s (dL f.c)]=_;unfold Jm;rw[hs,if_pos (by omega)]
  congr 3
  conv=>lhs;rw[←List.map_id f.c]
  apply Juv;intro y _;show y=1*y;omega
theorem JiW (q p:List Int) (hq:q.length≤2000000):Ev L f_k4c [.s (dL q),.q [.s (dL p)]] [dB (decide (q=p))] :=
 Jt7 (vs:=[.l (dL q),.d (.q [.s (dL p)])]) L_k4c rfl (JtI (vs:=[.l (dL p)]) rfl rfl (JtE (Jdc q p hq) rfl rfl rfl (Jt0 rfl)))
theorem JkY (l:List (List Int)) (p:List Int) (hl:l.length≤2000000) (hq :∀q∈l,q.length≤2000000):Ev L f_k4e [.s (dLL l),.s (dL p)] [dI (Ks l p)] :=
 Jt7 (vs:=[.l (dLL l),.l (dL p)]) L_k4e rfl (JtE (JeF (fun q=>decide (q=p)) l (fn:=f_k4c) (caps:=[.q [.s (dL p)]]) hl rfl rfl fun q h=>JiW q p (hq q h)) rfl rfl rfl (Jt0 rfl))
theorem JjF (a:List Jg) (ha:KB a):Ev L f_k3l ([.s (Jl a)]++([]:List D).map D.norm) [dB (!Qp a)] :=
 Jt7 (vs:=[.l (Jl a)]) L_k3l rfl (JtE (Jfl a ha) rfl rfl rfl (Jt0 rfl))
theorem Wb (as:List (List Jg)) (hf:X3 as):Ev L f_k3m [.s (Jd as)] [dB (Qk as)]:=by
 have hl:=hf.1;refine Jt7 (vs:=[.l (Jd as)]) L_k3m rfl ?_;refine JtE (Yf as.length 1 4) rfl ?_ rfl ?_
 ·show [dI ((Jd as).length:Int),dI 1,dI 4]=_;rw[JK]
 refine JtG (inB as.length 1 4) rfl (fun h=>?_) (fun h=>Jt0 ?_)
 ·have e:Ev L f_k3b [.s (Jd as),.f f_k3l []] [dB (as.any fun a=>!Qp a)] :=
   Zl (g := f_k3a) L_k3b rfl rfl
     (YY (sh:= .one .s) (as:=[(.s (.v 3))]) (ar:=[none]) (k:=4) (caps:=[]) (fun a=> .s (Jl a)) (fun a=>!Qp a) (fun a=>[.s (Jl a)]) (fun a=>[.l (Jl a)]) as
       L_k3a rfl hl rfl (fun _ _=>rfl) (fun _ _=>rfl) (fun _ _ _ _=>rfl) rfl fun a ha=>JjF a (hf.2 a ha))
  refine JtE e rfl rfl rfl (Jt0 ?_);show [dB (!(as.any fun a=>!Qp a))]=_;rw[Ue];simp[Qk,h]
 ·show [dB false]=_;simp[Qk,h]
set_option maxHeartbeats 2000000 in
theorem JmY (as:List (List Jg)) (hf:X3 as):Ev L f_k4f [.s (Jd as)] [.s (dLL (Jb as))]:=by
 refine Jt7 (vs:=[.l (Jd as)]) L_k4f rfl ?_;refine JtE (Wb as hf) rfl rfl rfl ?_;refine Jt1 (Qk as) rfl (fun h=>Jt0 ?_) (fun hok=>?_)
 ·show [D.s []]=_;simp[Jb,h,dLL]
 have h4:=(Xv hok).2.1;have hcf:Jb as=(Ud as).1:=by simp[Jb,hok]
 rw[hcf];simp only[sC,sN];refine Jtt 3 (fun v=>[.l (dLL (YC.take v)),.i v]) (fun _=>True) rfl rfl trivial fun v hv _=>?_;simp only[sC,sN];refine JtQ v 3 rfl (fun hv3=>?_) (fun hv3=>?_)
 ·refine JtE (JcG v (by omega) (by omega)) rfl rfl rfl ?_;refine JtC (YK _) ?_;have hp:YC[v]? = some (JA (v:Int).toNat).c:=by
   rw[Int.toNat_natCast]
   match v,hv3 with
   | 0,_ | 1,_ | 2,_=>rfl
   | n+3,h=>omega
  refine JtR (dLL (YC.take v)) 3 (by rw[Ut];simp;omega) (by omega) rfl ?_;refine JtK (vs:=[.l (dLL (YC.take (v+1))),.i ((v+1:Nat):Int)]) ?_ ⟨hv3,rfl,trivial⟩;show [V.l (dLL (YC.take v)++[.s (dL (JA (v:Int).toNat).c)]),V.i (i64.wrap ((v:Int)+1))]=_;rw[wS hv3 (by omega),JaK,tS1 hp]
 have hv3:v=3:=by omega
 subst hv3;refine JtA ?_;refine JtW as.length (fun i vs=>∃ b:List (List Int)×List Bool,vs=[.l (dLL b.1),.i i]∧b=Ud (as.take i)) rfl ⟨(YC,[false,false,false]),rfl,rfl⟩ ?_;rintro i _ hi ⟨⟨b1,b2⟩,rfl,hb⟩;simp only[sC,sN];refine JtT i (JK as) rfl (fun h=>?_) (fun h=>?_)
 ·obtain⟨a,ha,hm⟩:=sA1 h;have hB:Ud (as.take (i+1))=Yl (b1,b2) a:=by rw[hb];exact Xn ha
  obtain⟨f1,f2⟩:=JdN (as.take i);rw[←hb] at f1 f2;have f1:=f1.mono (show 3+384*(as.take i).length≤1600 by simp;omega);have hrl:=ZS a;refine JtY i (mA1 (f:=fun a=> .s (Jl a)) ha) rfl rfl rfl rfl ?_;refine JtE (WB a (hf.2 a hm)) rfl rfl rfl ?_;have hrf :∀r∈Js a,Yc r:=XT;have hAB:Yl (b1,b2) a=(Js a).foldl QN (b1,b2):=rfl;generalize Js a=rs at *;refine JtW rs.length (fun k vs=>∃ c:List (List Int)×List Bool,vs=[.l (dLL c.1),.i k]∧c=(rs.take k).foldl QN (b1,b2)) rfl ⟨(b1,b2),rfl,rfl⟩ ?_;rintro k _ hk ⟨⟨c1,c2⟩,rfl,hc⟩;simp only[sC,sN];refine JtT k (X4 rs) rfl (fun h'=>?_) (fun h'=>?_)
  ·obtain⟨r,hr,hmr⟩:=sA1 h';have hfit:=hrf r hmr;have hC:(rs.take (k+1)).foldl QN (b1,b2)=QN (c1,c2) r:=by rw[hc];exact Xn hr
   obtain⟨g1,g2⟩:=f1.rows f2 (rs:=rs.take k) fun x hx=>hrf x (Jux hx);rw[←hc] at g1 g2;have g1:=g1.mono (show 1600+6*(rs.take k).length≤2000 by simp;omega);refine Jtu k (rdR hr) rfl rfl rfl rfl rfl rfl ?_;simp only[sC,sN];have hR:QN (c1,c2) r=(r.guards.foldl Jp c1,QK (QK c2 r.adds) r.tells):=rfl;have hgl:=hfit.gl;refine JtW r.guards.length (fun g vs=>∃ e:List (List Int),vs=[.l (dLL e),.i g]∧e=(r.guards.take g).foldl Jp c1) rfl ⟨c1,rfl,rfl⟩ ?_;rintro g _ hg ⟨e,rfl,he⟩;simp only[sC,sN];refine JtT g (J0 r.guards) rfl (fun hg'=>?_) (fun hg'=>?_)
   ·obtain⟨f,hfg,hmf⟩:=sA1 hg';have hsf:=hfit.g f hmf;have hE:(r.guards.take (g+1)).foldl Jp c1=Jp e f:=by rw[he];exact Xn hfg
    have e1:=(g1.adds (fs:=r.guards.take g) fun x hx=>hfit.g x (Jux hx)).mono (show 2000+(r.guards.take g).length≤2010 by simp;omega);rw[←he] at e1;have nx :∀(x:List (List Int)),x=Jp e f→[V.l (dLL x),V.i (i64.wrap ((g:Int)+1))]=[.l (dLL (Jp e f)),.i ((g+1:Nat):Int)]:=by
     intro x hx;rw[hx,wS hg' (by omega)]
    refine JtY g (mA1 (f:=Frm.g) hfg) rfl rfl rfl rfl ?_;refine JtE (Jji f (hsf.lc.mono (by omega)) (by rw[hsf.c];omega)) rfl rfl rfl ?_;simp only[sC,sN];have el:=e1.len;have hp3:(Jm f.c).length=3:=by rw[U4];exact hsf.c
    have hAP:Jp e f=if Ks e (Jm f.c)<0∧Jm f.c≠[0,0,0] then e++[Jm f.c] else e:=rfl;generalize Jm f.c=pt at *;refine JtE (Jic pt hp3) rfl rfl rfl ?_;refine Jt1 (decide (pt=[0,0,0])) rfl (fun hz=>?_) (fun hz=>?_)
    ·refine JtE (JkY e pt (by omega) (fun q hq=>by rw[(e1.each q hq).1];omega)) rfl rfl rfl ?_;generalize Ks e pt=ha at *;refine Jty (ha<0) rfl (fun h0=>?_) (fun h0=>?_)
     ·refine JtC (YK _) ?_;refine JtR (dLL e) 3000 (by rw[Ut];omega) (by omega) rfl ?_;refine JtK (vs:=[.l (dLL (Jp e f)),.i ((g+1:Nat):Int)]) ?_ ⟨hg',Jp e f,rfl,hE.symm⟩;show [V.l (dLL e++[.s (dL pt)]),V.i (i64.wrap ((g:Int)+1))]=_;rw[JaK];refine nx _ ?_;rw[hAP,if_pos ⟨h0,by simpa using hz⟩]
     ·refine JtK (nx e ?_) ⟨hg',Jp e f,rfl,hE.symm⟩;rw[hAP,if_neg];intro ⟨h,_⟩;exact h0 h
    ·refine JtK (nx e ?_) ⟨hg',Jp e f,rfl,hE.symm⟩;rw[hAP,if_neg];intro ⟨_,h⟩;exact h (by simpa using hz)
   ·refine JtA ?_;rw[tA1 hg'] at he;refine JtK (vs:=[.l (dLL e),.i ((k+1:Nat):Int)]) ?_ ⟨h',(e,(QN (c1,c2) r).2),rfl,by rw[hC,he];rfl⟩;show [V.l (dLL e),V.i (i64.wrap ((k:Int)+1))]=_;rw[wS h' (by omega)]
  ·refine JtA ?_;rw[tA1 h'] at hc;refine JtK (vs:=[.l (dLL c1),.i ((i+1:Nat):Int)]) ?_ ⟨h,(c1,c2),rfl,by rw[hB,hAB,hc]⟩;show [V.l (dLL c1),V.i (i64.wrap ((i:Int)+1))]=_;rw[wS h (by omega)]
 ·refine JtA (Jt0 ?_);show [D.s (dLL b1)]=_;rw[tA1 h] at hb;rw[←hb]
def UA (as:List (List Jg)):Prop:=as.length≤5∧∀a∈as,KJ a
theorem UA.fit {as:List (List Jg)} (h:UA as):X3 as:=⟨by have:=h.1;omega,fun a ha=>(h.2 a ha).fit⟩
theorem Jmi (as:List (List Jg)) (k:Nat) (a:List Jg):(Jd as).set k (.s (Jl a))=Jd (as.set k a):=by simp[Jd,List.map_set]
theorem JeI {bs:List Int} {p n:Int} (hr:Rdr bs p) (hf:p≤999999950000) (n1:1≤n) (n2:n≤2000000) :
  ∃ as q,Ev L f_k2z [.s (Ja bs),dI p,dI n] [.s (Jd as),.s (Ja bs),dI q]∧p≤q∧q≤p+2000∧UA as:=by
 have key : ∃ ds,Ev L f_k2z [.s (Ja bs),dI p,dI n] ds∧∃ as q,ds=[.s (Jd as),.s (Ja bs),dI q]∧p≤q∧q≤p+2000∧UA as:=by
  refine Jt4 (vs:=[.l (Ja bs),.i p,.i n]) L_k2z rfl ?_;obtain⟨as,q,e,q1,q2,hs,hl1⟩:=Jdi hr (by omega);refine JtE e rfl rfl rfl ?_;have ht:UA as:=⟨by have:=hs.1;omega,fun a ha=>(hs.2 a ha).thin⟩;have hs4:=hs.1;refine Je n (hr.go (q:=q) (by omega) (by omega)) n1 n2 rfl rfl fun u hu0 hu1=>?_;simp only[sC,sN];refine Jty (0<u) rfl (fun _=>Jt0 ⟨as,q+1,rfl,by omega,by omega,ht⟩) (fun _=>?_);refine Je 3 (hr.go (q:=q+1) (by omega) (by omega)) (by omega) (by omega) rfl rfl fun v hv0 hv1=>?_;simp only[sC,sN];obtain⟨a0,ha0,hm0⟩:=sA1 (show 0<as.length by omega);refine Jty (v=0) rfl (fun _=>?_) (fun _=>?_)
  ·obtain⟨a,o,ea,o1,o2,ha⟩:=Jha (hr.go (q:=q+1+1) (by omega) (by omega)) (by omega) (n:=1) (by omega) (by omega);refine JtE ea rfl rfl rfl ?_;simp only[sC,sN];refine JtP ((0:Int)<((Jd as).length:Int)) rfl (by rw[JK];omega) ?_;refine JtY 0 (mA1 (f:=fun a=> .s (Jl a)) ha0) rfl rfl rfl rfl ?_;refine Jt0 ⟨as.set 0 a,o,?_,by omega,by omega,by simp;omega,?_⟩
   ·show [D.s ((Jd as).set (0:Int).toNat (.s (Jl a))),.s (Ja bs),dI o]=_;rw[Jmi];rfl
   ·intro x hx;rcases Juy hx with hx | hx
    ·exact ht.2 x hx
    ·subst hx;exact ha
  refine Jty (v=1) rfl (fun _=>Jt0 ⟨[],q+1+1,rfl,by omega,by omega,by simp,by simp⟩) (fun _=>?_);refine JtL (fun m vs=>∃ bs':List (List Jg),vs=[.l (Jd bs')]∧UA bs'∧1≤bs'.length∧m=5-bs'.length) rfl (5-as.length) ⟨as,rfl,ht,hl1,rfl⟩ ?_;rintro m _ ⟨cs,rfl,hc,hc1,hm⟩;simp only[sC,sN];refine Jty ((cs.length:Int)≤4) (by show decide (((Jd cs).length:Int)≤4)=_;rw[JK]) (fun h4=>?_) (fun _=>JtA (Jt0 ⟨cs,q+1+1,rfl,by omega,by omega,hc⟩));obtain⟨c0,hc0,hmc⟩:=sA1 (show 0<cs.length by omega);refine JtP ((0:Int)<((Jd cs).length:Int)) rfl (by rw[JK];omega) ?_;refine JtY 0 (mA1 (f:=fun a=> .s (Jl a)) hc0) rfl rfl rfl rfl ?_;refine JtR (Jd cs) 10 (by rw[JK];omega) (by omega) rfl ?_;refine JtK (vs:=[.l (Jd (cs++[c0]))]) ?_ ⟨5-(cs++[c0]).length,by simp;omega,cs++[c0],rfl,⟨by simp;omega,?_⟩,by simp,rfl⟩
  ·show [V.l (Jd cs++[.s (Jl c0)])]=_;rw[WW]
  ·intro x hx;rcases Jue.1 hx with hx | hx
   ·exact hc.2 x hx
   ·simp at hx;subst hx;exact hc.2 x hmc
 obtain⟨ds,e1,as,q,rfl,e2⟩:=key;exact⟨as,q,e1,e2⟩
theorem JkL (f:Frm) (hf:f.c.length=3) (v:Nat) (hv:v<3):Ev L f_k4j (f.cells++[D.q [dI v]].map D.norm) [dB (decide (f.c.getD v 0≠0))]:=by
 refine Jt7 (vs:=[.l (dL f.c),.l (dL f.d),.i f.k,.d (.q [dI v])]) L_k4j rfl ?_;refine JtI (vs:=[.i v]) rfl rfl ?_;refine JtY v (mA1 (f:=dI) (Ja4 (by omega))) rfl rfl rfl rfl (Jt0 ?_);show [dB (!(decide (f.c.getD v 0=0)))]=_;simp
theorem Jnx (r:Row) (hr:Yc r) (v:Nat) (hv:v<3):Ev L f_k4k (r.cells++[dI v]++([]:List D).map D.norm) [dB (Zq r v)]:=by
 refine Jt7 (vs:=[.l (dF r.guards),.l (dF r.adds),.l (dF r.tells),.b r.stop,.i v]) L_k4k rfl ?_;have ha:=hr.al;have ht:=hr.tl;refine JtE (JmZ [r.adds,r.tells] (by simp) (by simp;omega)) rfl rfl rfl ?_;have hfl:[r.adds,r.tells].flatten=r.adds++r.tells:=by simp
 rw[hfl];have h3 :∀f∈r.adds++r.tells,f.c.length=3:=by
  intro f hf;rcases Jue.1 hf with hf | hf
  ·exact(hr.a f hf).c
  ·exact(hr.t f hf).c
 have hlen:(r.adds++r.tells).length≤2000000:=by simp;omega
 unfold Zq;generalize r.adds++r.tells=all at *;exact JtE (JbE (fun f=>decide (f.c.getD v 0≠0)) all (fn:=f_k4j) (caps:=[.q [dI v]]) hlen rfl rfl fun f hf=>JkL f (h3 f hf) v hv) rfl rfl rfl (Jt0 rfl)
theorem Jpk (as:List (List Jg)) (hf:X3 as):Ev L f_k4l [.s (Jd as)] [.s (dBl (Jh as))]:=by
 refine Jt7 (vs:=[.l (Jd as)]) L_k4l rfl ?_;refine JtE (Wb as hf) rfl rfl rfl ?_;refine Jt1 (Qk as) rfl (fun h=>Jt0 ?_) (fun h=>?_)
 ·show [D.s []]=_;simp[Jh,h,dBl]
 ·refine JtE (JpE Zq as hf (fn:=f_k4k) (caps:=[]) rfl rfl fun r hr v hv=>Jnx r hr v hv) rfl rfl rfl (Jt0 ?_);show [D.s (dBl (Wr Zq as))]=_;rw[Jdg h]
/- There is one way,and it is the act; what an act does not read turns no answer; with an act more there is more: over residual programs. -/
theorem JoL {fs:List Frm} {v w:List Int} (hl:fs.length≤1000) (hf :∀f∈fs,YQ f v w):Ev L f_k5o [.s (dF fs),.s (dL v),.s (dL w)] [.s (dL (atL fs v w))]:=by
 refine Jt7 (vs:=[.l (dF fs),.l (dL v),.l (dL w)]) L_k5o rfl ?_;refine Jtt fs.length (fun i=>[.l (dL (atL (fs.take i) v w)),.i i]) (fun _=>True) rfl rfl trivial fun i hi _=>?_;refine JtT i (J0 fs) rfl (fun h=>?_) (fun h=>?_)
 ·obtain⟨x,hx,hm⟩:=sA1 h;refine JtY i (mA1 (f:=Frm.g) hx) rfl rfl rfl rfl ?_;refine JtE (Jo5 (hf x hm)) rfl rfl rfl ?_;refine JtR (dL (atL (fs.take i) v w)) 1000 (by rw[dL1];simp[atL];omega) (by omega) rfl ?_;refine JtK (vs:=[.l (dL (atL (fs.take (i+1)) v w)),.i ((i+1:Nat):Int)]) ?_ ⟨h,rfl,trivial⟩;show [V.l (dL (atL (fs.take i) v w)++[dI (atF x v w)]),V.i (i64.wrap ((i:Int)+1))]=_;rw[wS h (by omega),Q8,tS1 hx];simp[atL]
 ·refine JtA (Jt0 ?_);rw[tA1 h];rfl
theorem Jo8 {a b:List Int} (h:b.length=a.length):Jcv a b 1=List.zipWith (· + ·) a b:=by
 rw[Jhb h];unfold J3
 congr 1
 funext x y
 omega
theorem Jlo {a b:List Int} {M:Int} (ha:Lim M a) (hb:Lim M b) (hM:M≤4000000000000000000) (hl:b.length=a.length) (h9:a.length≤1000):Ev L f_k5h [.s (dL a),.s (dL b)] [.s (dL (List.zipWith (· + ·) a b))]:=by
 refine Jt7 (vs:=[.l (dL a),.l (dL b)]) L_k5h rfl ?_;refine JtE (X6 a (by omega)) rfl rfl rfl ?_;refine Jtt b.length (fun i=>[.l (dL (J3 a (b.take i) 1++a.drop i)),.i i]) (fun _=>True) rfl (by simp[J3,den,Jn,V.int]) trivial fun i hi _=>?_;simp only[sC,sN];refine JtT i (dL1 b) rfl (fun h=>?_) (fun h=>?_)
 ·obtain⟨x,hx,hmx⟩:=sA1 (show i<a.length by omega);obtain⟨y,hy,hmy⟩:=sA1 h;obtain⟨s1,s2⟩:=JbJ (n:=1) (by omega) hx hy;have hxl:=ha x hmx;have hyl:=hb y hmy;refine JtY i (mA1 (f:=dI) hy) rfl rfl rfl rfl ?_;refine Jtu i (mA1 (f:=dI) s1) rfl rfl rfl rfl rfl rfl ?_;refine Jtu i (mA1 (f:=dI) s1) rfl rfl rfl rfl rfl rfl ?_;refine JtK (vs:=[.l (dL (J3 a (b.take (i+1)) 1++a.drop (i+1))),.i ((i+1:Nat):Int)]) ?_ ⟨h,rfl,trivial⟩;show [V.l ((dL (J3 a (b.take i) 1++a.drop i)).set (i:Int).toNat (dI (i64.wrap (x+y)))),V.i (i64.wrap ((i:Int)+1))]=_;rw[wS h (by omega),w64 (by omega) (by omega),QH,Int.toNat_natCast,show x+y=x+1*y by omega,s2]
 ·refine JtA (Jt0 ?_);show [D.s (dL (J3 a (b.take i) 1++a.drop i))]=_;rw[tA1 h,show i=b.length by omega,←Jo8 hl];rfl
theorem JjL {f:Frm} {v w:List Int} (h:YQ f v w) : -6000000000000000≤atF f v w∧atF f v w≤6000000000000000:=by
 obtain⟨s1,s2,s3⟩:=h.sums;unfold atF;omega
theorem Jly {fs:List Frm} {v w:List Int} (h :∀f∈fs,YQ f v w):Lim 6000000000000000 (atL fs v w):=by
 intro x hx;simp only[atL,List.mem_map] at hx;obtain⟨f,hf,rfl⟩:=hx;exact JjL (h f hf)
theorem Jhv (c1 c2:Int) (t1 t2:List Int) (hl:t1.length≤2000000):Ev L f_k5y [dI c1,.s (dL t1),dI c2,.s (dL t2)] [dB (decide (c1=c2)&&decide (t1=t2))]:=by
 refine Jt7 (vs:=[.i c1,.l (dL t1),.i c2,.l (dL t2)]) L_k5y rfl ?_;refine Jty (c1=c2) rfl (fun h=>?_) (fun h=>Jt0 ?_)
 ·refine JtE (Jf1 t1 t2 hl) rfl rfl rfl (Jt0 ?_);rw[decide_eq_true h];rfl
 ·rw[decide_eq_false h];rfl
theorem Jj5 (l:List Int) (hl:l.length≤2000000):Ev L f_k18 [.s (dL l)] [dB (QR l)] :=
 Jt7 (vs:=[.l (dL l)]) L_k18 rfl (JtE (Xj l 2 9 hl (by omega) (by omega)) rfl rfl rfl (Jt0 rfl))
/- What one site knows is so for all; who is alone knows all: over residual programs. -/
theorem JjP (b g:List Int) (s:Int) (hg :∀x∈g,0≤x∧x≤50) (hl:g.length≤2000000):Ev L f_k5j [.s (dL b),.s (dL g),dI s] [dI (Jq g s)]:=by
 refine Jt7 (vs:=[.l (dL b),.l (dL g),.i s]) L_k5j rfl ?_;refine Jtt g.length (fun i=>[.i (Jq (g.take i) s),.i i]) (fun _=>True) rfl rfl trivial fun i hi _=>?_;simp only[sC,sN];refine JtT i (dL1 g) rfl (fun h=>?_) (fun h=>?_)
 ·obtain⟨x,hx,hm⟩:=sA1 h;have hst:=XV (s:=s) hx;have hle:=KY (s:=s) hg i hi;have hxb:=hg x hm;refine JtY i (mA1 (f:=dI) hx) rfl rfl rfl rfl ?_;refine Jt1 (decide ((i:Int)=s)) rfl (fun hs=>?_) (fun hs=>?_)
  ·refine JtK (vs:=[.i (Jq (g.take (i+1)) s),.i ((i+1:Nat):Int)]) ?_ ⟨h,rfl,trivial⟩;show [V.i (i64.wrap (Jq (g.take i) s+x)),V.i (i64.wrap ((i:Int)+1))]=_;rw[wS h (by omega),hst,if_neg (by simpa using hs),w64 (by omega) (by omega)]
  ·refine JtK (vs:=[.i (Jq (g.take (i+1)) s),.i ((i+1:Nat):Int)]) ?_ ⟨h,rfl,trivial⟩;show [V.i (Jq (g.take i) s),V.i (i64.wrap ((i:Int)+1))]=_;rw[wS h (by omega),hst,if_pos (by simpa using hs),Int.add_zero]
 ·refine JtA (Jt0 ?_);rw[tA1 h];rfl
theorem JkI (b g:List Int) (s:Int) (hg :∀x∈g,0≤x∧x≤50) (hl:g.length≤2000000):Ev L f_k24 [.s (dL b),.s (dL g),dI s] [dI (Jq g s)]:=by
 refine Jt7 (vs:=[.l (dL b),.l (dL g),.i s]) L_k24 rfl ?_;refine Jtt g.length (fun i=>[.i (Jq (g.take i) s),.i i]) (fun _=>True) rfl rfl trivial fun i hi _=>?_;simp only[sC,sN];refine JtT i (dL1 g) rfl (fun h=>?_) (fun h=>?_)
 ·obtain⟨x,hx,hm⟩:=sA1 h;have hst:=XV (s:=s) hx;have hle:=KY (s:=s) hg i hi;have hxb:=hg x hm;refine Jt1 (decide ((i:Int)=s)) rfl (fun hs=>?_) (fun hs=>?_)
  ·refine JtY i (mA1 (f:=dI) hx) rfl rfl rfl rfl ?_;refine JtK (vs:=[.i (Jq (g.take (i+1)) s),.i ((i+1:Nat):Int)]) ?_ ⟨h,rfl,trivial⟩;show [V.i (i64.wrap (Jq (g.take i) s+x)),V.i (i64.wrap ((i:Int)+1))]=_;rw[wS h (by omega),hst,if_neg (by simpa using hs),w64 (by omega) (by omega)]
  ·refine JtK (vs:=[.i (Jq (g.take (i+1)) s),.i ((i+1:Nat):Int)]) ?_ ⟨h,rfl,trivial⟩;show [V.i (Jq (g.take i) s),V.i (i64.wrap ((i:Int)+1))]=_;rw[wS h (by omega),hst,if_pos (by simpa using hs),Int.add_zero]
 ·refine JtA (Jt0 ?_);rw[tA1 h];rfl
def B3 (r:Int×Int×Bool):List D:=[dI r.1,dI r.2.1,dB r.2.2]
theorem Jia {a b:List Int} {A B:Int} (ha:Lim A a) (hb:Lim B b):Lim (A+B) (J2 a b):=by
 have:=JeC (n:=1) (N:=1) ha hb (by omega);have e:J3 a b 1=J2 a b:=by
  unfold J3 J2
  congr 1
  funext x y;omega
 rw[e] at this;exact this.mono (by omega)
theorem YQ.here {f:Frm} {b a w:List Int} (hf:f.ok=true) (hb:JY b=true) (ha:QE a=true) (hw:QR w=true):YQ f (J2 b a) w:=by
 have hs:=Jkq hf;obtain⟨b1,b2⟩:=Qg.1 hb;obtain⟨a1,a2⟩:=Jo.1 ha;obtain⟨w1,w2⟩:=XX.1 hw;refine⟨hs.c,hs.d,by rw[Zn (by omega)];exact b1,w1,10000000,30000,by omega,by omega,by omega,hs.lc,hs.ld,(Jia b2 (B:=20000) a2).mono (by omega),w2.mono (by omega),by have:=hs.k;omega⟩
theorem JgZ {f:Frm} {v w:List Int} (h:YQ f v w):Ev L f_k23 (f.cells++[.s (dL v),.s (dL w)]) [dI (atF f v w)]:=by
 obtain⟨A,B,hA,hB,hAB,h1,h2,h3,h4,h5⟩:=h.a;have h0:0≤A*B:=Int.mul_nonneg hA hB;have c3:=h.c;have d2:=h.d;have v3:=h.v3;have w2:=h.w2;have lim :∀(c x:List Int) (i:Nat),Lim A c→Lim B x→i≤3→-3000000000000000≤dot (c.take i) (x.take i)∧dot (c.take i) (x.take i)≤3000000000000000:=by
  intro c x i hc hx hi;have:=ZI (hc.take i) (hx.take i) hA hB;have hl:((c.take i).length:Int)≤3:=by simp;omega
  have:=Int.mul_le_mul_of_nonneg_left hl h0;omega
 refine Jt7 (vs:=[.l (dL f.c),.l (dL f.d),.i f.k,.l (dL v),.l (dL w)]) L_k23 rfl ?_;refine Jtt 3 (fun i=>[.i (f.k+dot (f.c.take i) (v.take i)),.i i]) (fun _=>True) rfl (by simp[dot,den,Jn,V.int]) trivial fun i hi _=>?_;simp only[sC,sN];refine JtQ i 3 rfl (fun hi3=>?_) (fun hi3=>?_)
 ·obtain⟨x,hx,hmx⟩:=sA1 (show i<f.c.length by omega);obtain⟨y,hy,hmy⟩:=sA1 (show i<v.length by omega);have hp:=Kx (h1 x hmx) (h3 y hmy);have hl:=lim f.c v i h1 h3 hi;refine JtY i (mA1 (f:=dI) hx) rfl rfl rfl rfl ?_;refine JtY i (mA1 (f:=dI) hy) rfl rfl rfl rfl ?_;refine JtK (vs:=[.i (f.k+dot (f.c.take (i+1)) (v.take (i+1))),.i ((i+1:Nat):Int)]) ?_ ⟨hi3,rfl,trivial⟩;show [V.i (i64.wrap (f.k+dot (f.c.take i) (v.take i)+i64.wrap (x*y))),V.i (i64.wrap ((i:Int)+1))]=_;rw[wS hi3 (by omega),w64 (n:=x*y) (by omega) (by omega),w64 (by omega) (by omega),Jai hx hy,Int.add_assoc]
 have hi3:i=3:=by omega
 subst hi3;rw[Jud (by omega),Jud (by omega)];refine JtA ?_;have hcv:=lim f.c v 3 h1 h3 (by omega);rw[Jud (by omega),Jud (by omega)] at hcv;refine Jtt 2 (fun i=>[.i (f.k+dot f.c v+dot (f.d.take i) (w.take i)),.i i]) (fun _=>True) rfl (by simp[dot,den,Jn,V.int]) trivial fun i hi _=>?_;simp only[sC,sN];refine JtQ i 2 rfl (fun hi2=>?_) (fun hi2=>?_)
 ·obtain⟨x,hx,hmx⟩:=sA1 (show i<f.d.length by omega);obtain⟨y,hy,hmy⟩:=sA1 (show i<w.length by omega);have hp:=Kx (h2 x hmx) (h4 y hmy);have hl:=lim f.d w i h2 h4 (by omega);refine JtY i (mA1 (f:=dI) hx) rfl rfl rfl rfl ?_;refine JtY i (mA1 (f:=dI) hy) rfl rfl rfl rfl ?_;refine JtK (vs:=[.i (f.k+dot f.c v+dot (f.d.take (i+1)) (w.take (i+1))),.i ((i+1:Nat):Int)]) ?_ ⟨hi2,rfl,trivial⟩;show [V.i (i64.wrap (f.k+dot f.c v+dot (f.d.take i) (w.take i)+i64.wrap (x*y))),V.i (i64.wrap ((i:Int)+1))]=_;rw[wS hi2 (by omega),w64 (n:=x*y) (by omega) (by omega),w64 (by omega) (by omega),Jai hx hy,Int.add_assoc (f.k+dot f.c v)]
 ·refine JtA (Jt0 ?_);show [dI (f.k+dot f.c v+dot (f.d.take i) (w.take i))]=_;rw[Jud (by omega),Jud (by omega),show f.k+dot f.c v+dot f.d w=atF f v w by unfold atF;omega]
theorem JpH {a b:List Int} (ha:a.length=3) (hb:b.length=3) (la:Lim 1000000000 a) (lb:Lim 1000000000 b):Ev L f_k22 [.s (dL a),.s (dL b)] [.s (dL (J2 a b))]:=by
 refine Jt7 (vs:=[.l (dL a),.l (dL b)]) L_k22 rfl ?_;refine Jtt 3 (fun i=>[.l (dL ((J2 a b).take i)),.i i]) (fun _=>True) rfl rfl trivial fun i hi _=>?_;simp only[sC,sN];refine JtQ i 3 rfl (fun h=>?_) (fun h=>?_)
 ·obtain⟨x,hx,hmx⟩:=sA1 (show i<a.length by omega);obtain⟨y,hy,hmy⟩:=sA1 (show i<b.length by omega);have hxl:=la x hmx;have hyl:=lb y hmy;have hs:(J2 a b)[i]? = some (x+y):=by unfold J2;rw[List.getElem?_zipWith,hx,hy]
  refine JtY i (mA1 (f:=dI) hx) rfl rfl rfl rfl ?_;refine JtY i (mA1 (f:=dI) hy) rfl rfl rfl rfl ?_;refine JtR (dL ((J2 a b).take i)) 10 (by rw[dL1];simp;omega) (by omega) rfl ?_;refine JtK (vs:=[.l (dL ((J2 a b).take (i+1))),.i ((i+1:Nat):Int)]) ?_ ⟨h,rfl,trivial⟩;show [V.l (dL ((J2 a b).take i)++[dI (i64.wrap (x+y))]),V.i (i64.wrap ((i:Int)+1))]=_;rw[wS h (by omega),w64 (by omega) (by omega),Q8,tS1 hs]
 ·refine JtA (Jt0 ?_);show [D.s (dL ((J2 a b).take i))]=_;rw[Jud (by rw[Zn (by omega)];omega)]
theorem Jel {b g:List Int} {ps:List (List Int)} {s:Int} {a:List Int} (h:J9 b g ps s a=true):JY b=true∧(∀x∈g,0≤x∧x≤50)∧QE a=true:=by
 simp only[J9,Qr,Jt9,Jum,Jr] at h;exact⟨h.1.1.1.1.1,h.1.1.1.2,h.2⟩
theorem Jez (b g:List Int) (ps:List (List Int)) (s:Int) (a:List Int) (f:Frm) (w:List Int) (hb:b.length≤2000000) (hg:g.length≤2000000) (hp:fitLL ps) (ha:a.length≤2000000) (hf:Frm.fit f) (hw:w.length≤2000000) :
  Ev L f_k5k ([.s (dL b),.s (dL g),.s (dLL ps),dI s,.s (dL a)]++f.cells++[.s (dL w)]) (B3 (JC b g ps s a f w)):=by
 refine Jt7 (vs:=[.l (dL b),.l (dL g),.l (dLL ps),.i s,.l (dL a),.l (dL f.c),.l (dL f.d),.i f.k,.l (dL w)]) L_k5k rfl ?_;have none:(J9 b g ps s a&&f.ok&&QR w)=false→JC b g ps s a f w=(0,0,false):=fun h=>by
  unfold JC;unfold J9 at h;rw[h];rfl
 refine JtE (UJ b g ps s a hb hg hp ha) rfl rfl rfl ?_;refine Jt1 (J9 b g ps s a) rfl (fun h=>Jt0 ?_) (fun h=>?_)
 ·rw[none (by simp[h])];rfl
 refine JtE (Yw f hf) rfl rfl rfl ?_;refine Jt1 f.ok rfl (fun h2=>Jt0 ?_) (fun h2=>?_)
 ·rw[none (by simp[h2])];rfl
 refine JtE (Jdk w hw) rfl rfl rfl ?_;refine Jt1 (QR w) rfl (fun h3=>Jt0 ?_) (fun h3=>?_)
 ·rw[none (by simp[h3])];rfl
 simp only[sC,sN];obtain⟨v1,v2,v3⟩:=Jel h;obtain⟨b1,b2⟩:=Qg.1 v1;obtain⟨a1,a2⟩:=Jo.1 v3;have hat:=YQ.here h2 v1 v3 h3;have hlim:=JjL hat;have hstd:=Jkq h2;have hM:JC b g ps s a f w=if f.c=[0,0,0] then(atF f (J2 b a) w,atF f (J2 b a) w,true) else if Jm f.c∈ps then(atF f (J2 b a) w-Jq g s,atF f (J2 b a) w+Jq g s,true) else(0,0,false):=by
  unfold JC;unfold J9 at h;rw[h,h2,h3];rfl
 rw[hM];refine JtE (Jlo (M:=20000) (b2.mono (by omega)) a2 (by omega) (by omega) (by omega)) rfl rfl rfl ?_;refine JtE (Jo5 hat) rfl rfl rfl ?_;refine JtE (JjP b g s v2 hg) rfl rfl rfl ?_;have hol:=KY (s:=s) v2 g.length (Nat.le_refl _);rw[Jud (Nat.le_refl _)] at hol;refine JtE (Jic f.c hstd.c) rfl rfl rfl ?_;simp only[sC,sN];generalize atF f (J2 b a) w=n at *;generalize Jq g s=o at *;refine JtG (decide (f.c=[0,0,0])) rfl (fun hz=>Jt0 ?_) (fun hz=>?_)
 ·rw[if_pos (by simpa using hz)];rfl
 rw[if_neg (by simpa using hz)];refine JtE (Jji f (hstd.lc.mono (by omega)) (by rw[hstd.c];omega)) rfl rfl rfl ?_;refine JtE (JkY ps (Jm f.c) hp.1 hp.2) rfl rfl rfl ?_;simp only[sC,sN];refine Jty (0≤Ks ps (Jm f.c)) rfl (fun hh=>Jt0 ?_) (fun hh=>Jt0 ?_)
 ·rw[if_pos ((ZE _ _).1 hh)];show [dI (i64.wrap (n-o)),dI (i64.wrap (n+o)),dB true]=_;rw[w64 (n:=n-o) (by omega) (by omega),w64 (n:=n+o) (by omega) (by omega)];rfl
 ·rw[if_neg (fun hm=>hh ((ZE _ _).2 hm))];rfl
theorem Jd2 (b g:List Int) (ps:List (List Int)) (s:Int) (a:List Int) (f:Frm) (w:List Int) (hb:b.length≤2000000) (hg:g.length≤2000000) (hp:fitLL ps) (ha:a.length≤2000000) (hf:Frm.fit f) (hw:w.length≤2000000) :
  Ev L f_k25 ([.s (dL b),.s (dL g),.s (dLL ps),dI s,.s (dL a)]++f.cells++[.s (dL w)]) (B3 (JC b g ps s a f w)):=by
 refine Jt7 (vs:=[.l (dL b),.l (dL g),.l (dLL ps),.i s,.l (dL a),.l (dL f.c),.l (dL f.d),.i f.k,.l (dL w)]) L_k25 rfl ?_;have none:(J9 b g ps s a&&f.ok&&QR w)=false→JC b g ps s a f w=(0,0,false):=fun h=>by
  unfold JC;unfold J9 at h;rw[h];rfl
 refine JtE (JbA b g hb hg) rfl rfl rfl ?_;refine Jt1 (Qr b g) rfl (fun h=>Jt0 ?_) (fun h=>?_)
 ·rw[none (by simp[J9,h])];rfl
 refine JtE (JeD ps hp) rfl rfl rfl ?_;refine Jt1 (QL ps) rfl (fun h'=>Jt0 ?_) (fun h'=>?_)
 ·rw[none (by simp[J9,h'])];rfl
 refine JtE (JP s 0 (g.length-1)) rfl ?_ rfl ?_
 ·show [dI s,dI 0,dI (i64.wrap (((dL g).length:Int)-1))]=_;rw[dL1,w64 (by omega) (by omega)]
 refine Jt1 (inB s 0 (g.length-1)) rfl (fun h''=>Jt0 ?_) (fun h''=>?_)
 ·rw[none (by simp[J9,h''])];rfl
 refine JtE (Xj a 3 20000 ha (by omega) (by omega)) rfl rfl rfl ?_;refine Jt1 (JJ 3 20000 a) rfl (fun h3=>Jt0 ?_) (fun h3=>?_)
 ·rw[none (by simp[J9,QE,h3])];rfl
 have hfine:J9 b g ps s a=true:=by simp only[J9,QE,h,h',h'',h3];rfl
 refine JtE (JhX f hf) rfl rfl rfl ?_;refine Jt1 f.ok rfl (fun h2=>Jt0 ?_) (fun h2=>?_)
 ·rw[none (by simp[h2])];rfl
 refine JtE (Jj5 w hw) rfl rfl rfl ?_;refine Jt1 (QR w) rfl (fun h3=>Jt0 ?_) (fun h4=>?_)
 ·rw[none (by simp[h3])];rfl
 simp only[sC,sN];obtain⟨v1,v2,v3⟩:=Jel hfine;obtain⟨b1,b2⟩:=Qg.1 v1;obtain⟨a1,a2⟩:=Jo.1 v3;have hat:=YQ.here h2 v1 v3 h4;have hlim:=JjL hat;have hstd:=Jkq h2;have hM:JC b g ps s a f w=if f.c=[0,0,0] then(atF f (J2 b a) w,atF f (J2 b a) w,true) else if Jm f.c∈ps then(atF f (J2 b a) w-Jq g s,atF f (J2 b a) w+Jq g s,true) else(0,0,false):=by
  unfold JC;unfold J9 at hfine;rw[hfine,h2,h4];rfl
 rw[hM];refine JtE (JpH b1 (by omega) (b2.mono (by omega)) (Lim.mono (m:=20000) a2 (by omega))) rfl rfl rfl ?_;refine JtE (JgZ hat) rfl rfl rfl ?_;refine JtE (JeA f (hstd.lc.mono (by omega)) (by rw[hstd.c];omega)) rfl rfl rfl ?_;refine JtE XL rfl rfl rfl ?_;refine JtE (JbF (Jm f.c) [0,0,0] (by rw[U4,hstd.c];omega)) rfl rfl rfl ?_;have hol:=KY (s:=s) v2 g.length (Nat.le_refl _);rw[Jud (Nat.le_refl _)] at hol;have hO:=JkI b g s v2 hg;simp only[sC,sN];generalize atF f (J2 b a) w=n at *;generalize Jq g s=o at *;have hpz:=JfS hstd.c;refine JtG (decide (Jm f.c=[0,0,0])) rfl (fun hz=>Jt0 ?_) (fun hz=>?_)
 ·rw[if_pos (hpz.1 (by simpa using hz))];rfl
 rw[if_neg (fun e=>by simp[hpz.2 e] at hz)];refine JtE (JfT ps (Jm f.c) hp.1 hp.2) rfl rfl rfl ?_;simp only[sC,sN];refine Jty (Ks ps (Jm f.c)<0) rfl (fun hh=>Jt0 ?_) (fun hh=>?_)
 ·rw[if_neg ((Jf7 _ _).1 hh)];rfl
 ·rw[if_pos ((ZE _ _).1 (by omega))];refine JtE hO rfl rfl rfl ?_;refine JtE hO rfl rfl rfl (Jt0 ?_);show [dI (i64.wrap (n-o)),dI (i64.wrap (n+o)),dB true]=_;rw[w64 (n:=n-o) (by omega) (by omega),w64 (n:=n+o) (by omega) (by omega)];rfl
end Go.Proofs.YtngcnclchcahlaaGreatDoor

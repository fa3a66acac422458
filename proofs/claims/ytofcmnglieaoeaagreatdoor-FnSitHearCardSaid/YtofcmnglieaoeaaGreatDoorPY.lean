import Derived.Test.YtofcmnglieaoeaaGreatDoorPP
import Derived.Test.YtofcmnglieaoeaaGreatDoorPM
import Derived.Test.YtofcmnglieaoeaaGreatDoorTd
set_option linter.unusedVariables false
set_option linter.unusedSimpArgs false
/- Each way is ok,and there are at most two for each test: over residual programs. -/
namespace Go.Proofs.YtofcmnglieaoeaaGreatDoor
open Go Go.Tm
open Go.IntKind (i64)
theorem Je9 (a b:List Int) (hl:a.length≤2000000):Ev L f_k5s [.s (dL a),.s (dL b)] [dB (decide (a=b))] :=
 JgP dI .i a b L_k5s rfl (fun _=>rfl) (fun _ _ _ _ _=>rfl) hl
theorem Jeh:Ev L f_k5z [] [dB true]:=by
 refine Juq (vs:=[]) L_k5z rfl ?_;refine Jua Vf rfl rfl rfl ?_;have e:=Y8 Frm.zero Xn.fit;rw[Xn.okF (by omega)] at e;exact Jua e rfl rfl rfl (JtU rfl)
theorem Jpk (n:Int) (h0:0≤n) (hn:n≤2000000):Ev L f_k4i [dI n] [.s []]:=by
 refine Juq (vs:=[.i n]) L_k4i rfl ?_;have hw:i64.wrap (n-i64.wrap (0-0))=n:=by rw[w64 (n:=0-0) (by omega) (by omega),w64 (by omega) (by omega)];omega
 refine Jue (n<0) rfl (fun h=>by omega) (fun _=>?_);refine Jue (0<n) (by show decide (0<i64.wrap (n-i64.wrap (0-0)))=_;rw[hw]) (fun h=>?_) (fun h=>JtU rfl);refine JtY (0<n) (by show decide (0<i64.wrap (n-i64.wrap (0-0)))=_;rw[hw]) h ?_;refine JtY (n≤1256584717458) (by show decide (i64.wrap (n-i64.wrap (0-0))≤1256584717458)=_;rw[hw]) (by omega) ?_;refine Jui ?_ (JtU ?_)
 ·show decide ((0:Int)≤((List.replicate (i64.wrap (n-i64.wrap (0-0))).toNat (D.g [.s [],.s [],dI 0])).length:Int))=true;simp only[decide_eq_true_eq];omega
 ·show [D.s ((List.replicate (i64.wrap (n-i64.wrap (0-0))).toNat (D.g [.s [],.s [],dI 0])).take (0:Int).toNat)]=_;simp
def dFF (ls:List (List Frm)):List D:=ls.map fun l=> .s (dF l)
theorem JkG (ls:List (List Frm)):(dFF ls).length=ls.length:=by simp[dFF]
theorem Jq1 (a b:List Frm):dF a++dF b=dF (a++b):=by simp[dF]
def UJ (ls:List (List Frm)):Nat:=(ls.map List.length).sum
theorem Jmm {ls:List (List Frm)} {i:Nat} {l:List Frm} (h:ls[i]? = some l):UJ (ls.take (i+1))=UJ (ls.take i)+l.length:=by
 unfold UJ;rw[tS1 h];simp
theorem JmY (ls:List (List Frm)):ls.flatten.length=UJ ls:=by simp[UJ,List.length_flatten]
theorem JpD {ls:List (List Frm)} {N:Nat} (h :∀l∈ls,l.length≤N) (i:Nat):UJ (ls.take i)≤N*ls.length:=by
 have :∀(ls:List (List Frm)),(∀l∈ls,l.length≤N)→UJ ls≤N*ls.length:=by
  intro ls
  induction ls with
  | nil=>intro _;simp[UJ]
  | cons l ls ih =>
   intro h;have h1:=h l (by simp);have h2:=ih fun x hx=>h x (by simp[hx]);simp only[UJ,JuA,List.sum_cons,List.length_cons,Nat.mul_add] at *;omega
 have h1:=this (ls.take i) fun l hl=>h l (JuQ hl);refine Nat.le_trans h1 (Nat.mul_le_mul_left _ (by simp;omega))
theorem JmQ (ls:List (List Frm)) (hl:ls.length≤100) (h1 :∀l∈ls,l.length≤1000):Ev L f_k4j [.s (dFF ls)] [.s (dF ls.flatten)]:=by
 refine Juq (vs:=[.l (dFF ls)]) L_k4j rfl ?_;have hle :∀i,UJ (ls.take i)≤100000:=fun i=>Nat.le_trans (JpD h1 i) (by omega);refine Jt7 ls.length (fun i=>[.i (UJ (ls.take i)),.i i]) (fun _=>True) rfl rfl trivial fun i hi _=>?_;have hli:=hle i;refine Jub i (JkG ls) rfl (fun h=>?_) (fun h=>?_)
 ·obtain⟨x,hx,hm⟩:=sA1 h;have hxl:=h1 x hm;refine JtX i (mA1 (f:=fun l=> .s (dF l)) hx) rfl rfl rfl rfl ?_;have hw:i64.wrap ((UJ (ls.take i):Int)+((dF x).length:Int))=(UJ (ls.take (i+1)):Int):=by
   rw[J5,Jmm hx,w64 (by omega) (by omega)];rfl
  refine Jue (((UJ (ls.take (i+1)):Int))<0) (by show decide (i64.wrap ((UJ (ls.take i):Int)+((dF x).length:Int))<0)=_;rw[hw]) (fun h=>by omega) (fun _=>?_);refine Juk (vs:=[.i (UJ (ls.take (i+1))),.i ((i+1:Nat):Int)]) ?_ ⟨h,rfl,trivial⟩;show [V.i (i64.wrap ((UJ (ls.take i):Int)+((dF x).length:Int))),V.i (i64.wrap ((i:Int)+1))]=_;rw[wS h (by omega),hw]
 ·refine Juj ?_;refine Jua (Jpk (UJ (ls.take i)) (by omega) (by omega)) rfl rfl rfl ?_;simp only[sC,sN];refine Jt7 ls.length (fun j=>[.l (dF (ls.take j).flatten),.i j]) (fun _=>True) rfl rfl trivial fun j hj _=>?_;simp only[sC,sN];refine Jub j (JkG ls) rfl (fun h=>?_) (fun h=>?_)
  ·obtain⟨x,hx,hm⟩:=sA1 h;have hxl:=h1 x hm;have hlj:=hle j;refine JtX j (mA1 (f:=fun l=> .s (dF l)) hx) rfl rfl rfl rfl ?_;refine JtV (dF x) 1000 (by rw[J5];exact hxl) (by omega) rfl ?_;refine Jt0 (JpN x) ?_;refine JtV (dF (ls.take j).flatten++dF x) 2000000 (by rw[Juy,J5,J5,JmY];omega) (by omega) rfl ?_;refine Juk (vs:=[.l (dF (ls.take (j+1)).flatten),.i ((j+1:Nat):Int)]) ?_ ⟨h,rfl,trivial⟩;show [V.l (dF (ls.take j).flatten++dF x),V.i (i64.wrap ((j:Int)+1))]=_;rw[wS h (by omega),Jq1,tS1 hx];simp
  ·refine Juj (JtU ?_);show [D.s (dF (ls.take j).flatten)]=_;rw[tA1 h]
/- What an act does not turn stays: over residual programs. -/
theorem Xu {bs:List Int} {p n:Int} (hr:Rdr bs p) (hf:p≤999999999000) (h1:1≤n) (hn:n≤2000000) :
  ∃ a q,Ev L f_kq [.s (Ja bs),dI p,dI n] [.s (dL a),.s (Ja bs),dI q]∧p≤q∧q≤p+10∧a.length≤3:=by
 have key : ∃ ds,Ev L f_kq [.s (Ja bs),dI p,dI n] ds∧∃ a q,ds=[.s (dL a),.s (Ja bs),dI q]∧p≤q∧q≤p+10∧a.length≤3:=by
  refine Juo (vs:=[.l (Ja bs),.i p,.i n]) L_kq rfl ?_;have go :∀q,p≤q→q≤p+10→Rdr bs q:=fun q h h'=>hr.go h (by omega);refine Jd 19 hr (by omega) (by omega) rfl rfl fun u hu0 hu1=>?_;refine Jd 19 (go (p+1) (by omega) (by omega)) (by omega) (by omega) rfl rfl fun v hv0 hv1=>?_;refine Jd n (go (p+1+1) (by omega) (by omega)) h1 hn rfl rfl fun w hw0 hw1=>?_;simp only[sC,sN];have e:[dI (i64.wrap (u-9)),dI (i64.wrap (v-9))]=dL [u-9,v-9]:=by
   rw[w64 (by omega) (by omega),w64 (by omega) (by omega)];rfl
  refine Jue (w=0) rfl (fun hw=>?_) (fun hw=>?_)
  ·refine Jd 3 (go (p+1+1+1) (by omega) (by omega)) (by omega) (by omega) rfl rfl fun z hz0 hz1=>?_;simp only[sC,sN];refine Jue (z=0) rfl (fun hz=>JtU ?_) (fun hz=>?_)
   ·refine⟨[u-9,v-9].take 1,p+1+1+1+1,?_,by omega,by omega,by simp⟩;show [D.s ([dI (i64.wrap (u-9)),dI (i64.wrap (v-9))].take 1),.s (Ja bs),dI (p+1+1+1+1)]=_;rw[e,VK]
   refine Jue (z=1) rfl (fun hz=>?_) (fun hz=>?_)
   ·refine JtN [dI (i64.wrap (u-9)),dI (i64.wrap (v-9))] 2 (by simp) (by omega) rfl ?_;refine JtU ⟨[u-9,v-9]++[0],p+1+1+1+1,?_,by omega,by omega,by simp⟩;show [D.s ([dI (i64.wrap (u-9)),dI (i64.wrap (v-9))]++[dI 0]),.s (Ja bs),dI (p+1+1+1+1)]=_;rw[e,Q6]
   ·refine Jd 2 (go (p+1+1+1+1) (by omega) (by omega)) (by omega) (by omega) rfl rfl fun a ha0 ha1=>?_;refine Jd 2 (go (p+1+1+1+1+1) (by omega) (by omega)) (by omega) (by omega) rfl rfl fun b hb0 hb1=>?_;simp only[sC,sN];refine JW [10,-10] b hb0 hb1 rfl rfl rfl rfl rfl fun x=>?_;refine JtY (0≤a) rfl ha0 ?_;refine JtY (a<2) rfl ha1 ?_;refine Jt5 (ds:=dL [u-9,v-9]) a rfl e rfl ha0 (J0 ha0 (by simpa using ha1)) rfl ?_;refine JtU ⟨[u-9,v-9].set a.toNat x,p+1+1+1+1+1+1,?_,by omega,by omega,by simp⟩;show [D.s ([dI (i64.wrap (u-9)),dI (i64.wrap (v-9))].set a.toNat (dI x)),.s (Ja bs),dI (p+1+1+1+1+1+1)]=_;rw[e,QN]
  ·refine JtU ⟨[u-9,v-9],p+1+1+1,?_,by omega,by omega,by simp⟩;show [D.s [dI (i64.wrap (u-9)),dI (i64.wrap (v-9))],.s (Ja bs),dI (p+1+1+1)]=_;rw[e]
 obtain⟨ds,e1,a,q,rfl,e2⟩:=key;exact⟨a,q,e1,e2⟩
structure ZM (f:Frm) (v w:List Int):Prop where
 c:f.c.length=3
 d:f.d.length=2
 v3:v.length=3
 w2:w.length=2
 a : ∃ A B:Int,0≤A∧0≤B∧A*B≤1000000000000000∧Lim A f.c∧Lim A f.d∧Lim B v∧Lim B w∧-1000000000000000≤f.k∧f.k≤1000000000000000
theorem ZM.sums {f:Frm} {v w:List Int} (h:ZM f v w):(-3000000000000000≤dot f.c v∧dot f.c v≤3000000000000000)∧(-2000000000000000≤dot f.d w∧dot f.d w≤2000000000000000)∧-1000000000000000≤f.k∧f.k≤1000000000000000:=by
 obtain⟨A,B,hA,hB,hAB,h1,h2,h3,h4,h5⟩:=h.a;have a:=Kr h1 h3 hA hB;have b:=Kr h2 h4 hA hB;rw[h.c] at a;rw[h.d] at b;exact⟨by omega,by omega,h5⟩
theorem QF {l:List Int}:JU l=true↔l.length=3∧Lim 10000 l:=by
 unfold JU;rw[Jo];exact⟨fun h=>⟨by omega,h.2⟩,fun h=>⟨by omega,h.2⟩⟩
theorem X3 {l:List Int}:Q8 l=true↔l.length=2∧Lim 9 l:=by
 unfold Q8;rw[Jo];exact⟨fun h=>⟨by omega,h.2⟩,fun h=>⟨by omega,h.2⟩⟩
theorem ZM.std {f:Frm} {v w:List Int} (hf:Std 10000000 f) (hv:JU v=true) (hw:Q8 w=true):ZM f v w:=by
 obtain⟨v1,v2⟩:=QF.1 hv;obtain⟨w1,w2⟩:=X3.1 hw;exact⟨hf.c,hf.d,v1,w1,10000000,10000,by omega,by omega,by omega,hf.lc,hf.ld,v2,w2.mono (by omega),by have:=hf.k;omega⟩
theorem ZM.small {f:Frm} {x w:List Int} (hf:f.small=true) (hx:x.length=3) (hl:Lim 2000000000 x) (hw:Q8 w=true):ZM f x w:=by
 obtain⟨h1,h2,h3,h4,h5⟩:=XA hf;obtain⟨w1,w2⟩:=X3.1 hw;exact⟨h1,h2,hx,w1,2,2000000000,by omega,by omega,by omega,h3,h4,hl,w2.mono (by omega),by omega⟩
def Res.ds (r:Res):List D:=[dI r.code,.s (dL r.tells),.s (dL r.is)]
theorem Jpl {l:Jg} (h:l.ok=true) (h1 : ¬l.kind=1) (h2 : ¬l.kind=2) (h4 : ¬l.kind=4):l.kind=3:=by
 unfold Jg.ok at h;rw[if_neg h1,if_neg h2] at h;split at h
 ·assumption
 ·simp[h4] at h
theorem JpY (h:Row→Nat→Bool) (as:List (List Jg)) (hf:Ym as) {fn:FuncId} {caps:List D} (hcap:XK (.f fn caps) = .f fn caps) (har:arT L fn=some ([some 4,none]++caps.map fun _=>none))
  (hc :∀r,YR r→∀v:Nat,v<3→Ev L fn (r.cells++[dI v]++caps.map D.norm) [dB (h r v)]):Ev L f_k4h [.s (Je as),.f fn caps] [.s (dBl (Wh h as))]:=by
 have hl:=hf.1;refine Juq (vs:=[.l (Je as),.d (.f fn caps)]) L_k4h rfl ?_;refine Jum as.length (fun i vs=>∃ p:List Bool,vs=[.l (dBl p),.i i]∧p.length=3∧p=Wh h (as.take i)) rfl ⟨[false,false,false],rfl,rfl,rfl⟩ ?_;rintro i _ hi ⟨p,rfl,hp,hpe⟩;simp only[sC,sN];refine Jub i (JM as) rfl (fun h'=>?_) (fun h'=>?_)
 ·obtain⟨a,ha,hm⟩:=sA1 h';have hB:Wh h (as.take (i+1))=(Jt a).foldl (fun p r=>orB p (h r)) p:=by rw[hpe];exact Xv ha
  refine JtX i (mA1 (f:=fun a=> .s (Jk a)) ha) rfl rfl rfl rfl ?_;refine Jua (Jde a (hf.2 a hm)) rfl rfl rfl ?_;have hrf :∀r∈Jt a,YR r:=Yg;have hrl:=KO a;generalize Jt a=rs at *;refine Jum rs.length (fun k vs=>∃ q:List Bool,vs=[.l (dBl q),.i k]∧q.length=3∧q=(rs.take k).foldl (fun p r=>orB p (h r)) p) rfl ⟨p,rfl,hp,rfl⟩ ?_;rintro k _ hk ⟨q,rfl,hq,hqe⟩;simp only[sC,sN];refine Jub k (X6 rs) rfl (fun h''=>?_) (fun h''=>?_)
  ·obtain⟨r,hr,hmr⟩:=sA1 h'';have hfit:=hrf r hmr;have hC:(rs.take (k+1)).foldl (fun p r=>orB p (h r)) p=orB q (h r):=by rw[hqe];exact Xv hr
   refine Jul k (rdR hr) rfl rfl rfl rfl rfl rfl ?_;have hO:(orB q (h r)).length=3:=by rw[ZB];exact hq
   refine Jt7 3 (fun v=>[.l (dBl ((orB q (h r)).take v++q.drop v)),.i v]) (fun _=>True) rfl rfl trivial fun v hv _=>?_;simp only[sC,sN];refine Jub v (show (dBl q).length=3 by rw[Jhd];exact hq) rfl (fun hv3=>?_) (fun hv3=>?_)
   ·obtain⟨b,hb,_⟩:=sA1 (show v<q.length by omega);have ho:=WS (h:=h r) hb;have hcur:((orB q (h r)).take v++q.drop v)[v]? = some b:=by
     rw[JuU (by simp;omega),List.getElem?_drop];rw[show v+(v-((orB q (h r)).take v).length)=v by simp;omega];exact hb
    have nx :∀c:Bool,c=(b||h r v)→[V.l ((dBl ((orB q (h r)).take v++q.drop v)).set (v:Int).toNat (dB c)),V.i (i64.wrap ((v:Int)+1))]=[.l (dBl ((orB q (h r)).take (v+1)++q.drop (v+1))),.i ((v+1:Nat):Int)]:=by
     intro c hc';rw[←hc'] at ho;rw[wS hv3 (by omega),Jk0,Int.toNat_natCast,Jo1 (by omega) ho]
    refine Jul v (mA1 (f:=dB) hcur) rfl rfl rfl rfl rfl rfl ?_;refine Jt4 b rfl (fun hbt=>?_) (fun hbf=>?_)
    ·refine Jul v (mA1 (f:=dB) hcur) rfl rfl rfl rfl rfl rfl ?_;exact Juk (nx true (by simp[hbt])) ⟨hv3,rfl,trivial⟩
    ·refine Jt2 (fn:=fn) (caps:=caps) (ds:=[dB (h r v)]) (vs:=[.b (h r v)]) rfl hcap har (hc r hfit v hv3) rfl ?_;refine Jul v (mA1 (f:=dB) hcur) rfl rfl rfl rfl rfl rfl ?_;exact Juk (nx (h r v) (by simp[hbf])) ⟨hv3,rfl,trivial⟩
   ·have hv3:v=3:=by omega
    subst hv3;rw[Juw (by omega),List.drop_eq_nil_of_le (by omega),List.append_nil];refine Juj (Juk (vs:=[.l (dBl (orB q (h r))),.i ((k+1:Nat):Int)]) ?_ ⟨h'',orB q (h r),rfl,hO,hC.symm⟩);show [V.l (dBl (orB q (h r))),V.i (i64.wrap ((k:Int)+1))]=_;rw[wS h'' (by omega)]
  ·rw[tA1 h''] at hqe;refine Juj (Juk (vs:=[.l (dBl q),.i ((i+1:Nat):Int)]) ?_ ⟨h',q,rfl,hq,by rw[hB,hqe]⟩);show [V.l (dBl q),V.i (i64.wrap ((i:Int)+1))]=_;rw[wS h' (by omega)]
 ·refine Juj (JtU ?_);show [D.s (dBl p)]=_;rw[tA1 h'] at hpe;rw[hpe]
/- All is kept an eye on; who tells of a pot pins it; with an act more there is more: over residual programs. -/
theorem Jkw (x:Int):Ev L f_k4b [dI x] [dB (nz x)]:=Juq (vs:=[.i x]) L_k4b rfl (JtU rfl)
theorem Jow (l:List Int) (hl:l.length=3):Ev L f_k4c [.s (dL l)] [dB (decide (l=[0,0,0]))]:=by
 refine Juq (vs:=[.l (dL l)]) L_k4c rfl ?_;refine Jua (V6 nz l (fn:=f_k4b) (caps:=[]) (by omega) rfl rfl fun x _=>Jkw x) rfl rfl rfl (JtU ?_);show [dB (!(l.any nz))]=_;obtain⟨a,b,c,rfl⟩:=Jat hl
 congr 3
 by_cases h1:a=0 <;> by_cases h2:b=0 <;> by_cases h3:c=0 <;> simp[nz,h1,h2,h3]
theorem Jhc (x:Int):Ev L f_k49 [dI x] [dB (nz x)]:=Juq (vs:=[.i x]) L_k49 rfl (JtU rfl)
theorem Jnh (f:Frm) (hl:Lim 1000000000 f.c) (hn:f.c.length≤2000000):Ev L f_k4a f.cells [.s (dL (Jl f.c))]:=by
 refine Juq (vs:=[.l (dL f.c),.l (dL f.d),.i f.k]) L_k4a rfl ?_;refine Jua (Yx f.c hn) rfl rfl rfl ?_;refine Jua (JfC nz f.c (fn:=f_k49) (caps:=[]) hn rfl rfl fun x _=>Jhc x) rfl rfl rfl ?_;simp only[sC,sN];rcases JbQ nz f.c with ⟨hp,ha⟩ | ⟨i,x,hp,hx,hnx,ht⟩
 ·rw[hp];refine JtO rfl (JtU ?_);show [D.s (dL f.c)]=_;rw[Jiy ha]
 rw[hp];have hi:=(Jut.1 hx).1;have hs:=JiH hx hnx ht;have hx0:x≠0:=by simpa[nz] using hnx
 refine Jue ((0:Int)≤(i:Int)) rfl (fun _=>?_) (fun h=>by omega);refine Jul i (mA1 (f:=dI) hx) rfl rfl rfl rfl rfl rfl ?_;simp only[sC,sN];refine Jue (x<0) rfl (fun hneg=>?_) (fun hpos=>JtU ?_)
 ·have hpart:Jl f.c=f.c.map fun y=>0-y:=by
   unfold Jl;rw[hs,if_neg (by omega)];apply JuO;intro y _;omega
  rw[hpart];refine Jt7 f.c.length (fun k=>[.l (dL ((f.c.map fun y=>0-y).take k++f.c.drop k)),.i k]) (fun _=>True) rfl rfl trivial fun k hk _=>?_;simp only[sC,sN];refine Jub k (dL1 f.c) rfl (fun h=>?_) (fun h=>?_)
  ·obtain⟨y,hy,hm⟩:=sA1 h;have hly:=hl y hm;have hcur:((f.c.map fun y=>0-y).take k++f.c.drop k)[k]? = some y:=by
    rw[JuU (by simp;omega),List.getElem?_drop];rw[show k+(k-((f.c.map fun y=>0-y).take k).length)=k by simp;omega];exact hy
   have hny:(f.c.map fun y=>0-y)[k]? = some (0-y):=by simp[hy]
   refine Jul k (mA1 (f:=dI) hcur) rfl rfl rfl rfl rfl rfl ?_;refine Jul k (mA1 (f:=dI) hcur) rfl rfl rfl rfl rfl rfl ?_;refine Juk (vs:=[.l (dL ((f.c.map fun y=>0-y).take (k+1)++f.c.drop (k+1))),.i ((k+1:Nat):Int)]) ?_ ⟨h,rfl,trivial⟩;show [V.l ((dL ((f.c.map fun y=>0-y).take k++f.c.drop k)).set (k:Int).toNat (dI (i64.wrap (0-y)))),V.i (i64.wrap ((k:Int)+1))]=_;rw[wS h (by omega),w64 (by omega) (by omega),QN,Int.toNat_natCast,Jo1 (by simp) hny]
  ·refine Juj (JtU ?_);show [D.s (dL ((f.c.map fun y=>0-y).take k++f.c.drop k))]=_;rw[Juw (by simp;omega),List.drop_eq_nil_of_le (by omega),List.append_nil]
 ·show [D.s (dL f.c)]=_;unfold Jl;rw[hs,if_pos (by omega)]
  congr 3
  conv=>lhs;rw[←List.map_id f.c]
  apply JuO;intro y _;show y=1*y;omega
theorem JiA (q p:List Int) (hq:q.length≤2000000):Ev L f_k4d [.s (dL q),.q [.s (dL p)]] [dB (decide (q=p))] :=
 Juq (vs:=[.l (dL q),.d (.q [.s (dL p)])]) L_k4d rfl (Jud (vs:=[.l (dL p)]) rfl rfl (Jua (JdF q p hq) rfl rfl rfl (JtU rfl)))
theorem Jp5 (l:List (List Int)) (p:List Int) (hl:l.length≤2000000) (hq :∀q∈l,q.length≤2000000):Ev L f_k4f [.s (dLL l),.s (dL p)] [dI (K4 l p)] :=
 Juq (vs:=[.l (dLL l),.l (dL p)]) L_k4f rfl (Jua (Jdo (fun q=>decide (q=p)) l (fn:=f_k4d) (caps:=[.q [.s (dL p)]]) hl rfl rfl fun q h=>JiA q p (hq q h)) rfl rfl rfl (JtU rfl))
theorem Jkq (a:List Jg) (ha:KE a):Ev L f_k3m ([.s (Jk a)]++([]:List D).map D.norm) [dB (!Qt a)] :=
 Juq (vs:=[.l (Jk a)]) L_k3m rfl (Jua (Jfn a ha) rfl rfl rfl (JtU rfl))
theorem Jbp (as:List (List Jg)) (hf:Ym as):Ev L f_k3n [.s (Je as)] [dB (Qv as)]:=by
 have hl:=hf.1;refine Juq (vs:=[.l (Je as)]) L_k3n rfl ?_;refine Jua (X7 as.length 1 4) rfl ?_ rfl ?_
 ·show [dI ((Je as).length:Int),dI 1,dI 4]=_;rw[JM]
 refine Jt4 (inB as.length 1 4) rfl (fun h=>?_) (fun h=>JtU ?_)
 ·have e:Ev L f_k3c [.s (Je as),.f f_k3m []] [dB (as.any fun a=>!Qt a)] :=
   Zo (g := f_k3b) L_k3c rfl rfl
     (Z6 (sh:= .one .s) (as:=[(.s (.v 3))]) (ar:=[none]) (k:=4) (caps:=[]) (fun a=> .s (Jk a)) (fun a=>!Qt a) (fun a=>[.s (Jk a)]) (fun a=>[.l (Jk a)]) as
       L_k3b rfl hl rfl (fun _ _=>rfl) (fun _ _=>rfl) (fun _ _ _ _=>rfl) rfl fun a ha=>Jkq a (hf.2 a ha))
  refine Jua e rfl rfl rfl (JtU ?_);show [dB (!(as.any fun a=>!Qt a))]=_;rw[Uq];simp[Qv,h]
 ·show [dB false]=_;simp[Qv,h]
set_option maxHeartbeats 2000000 in
theorem JlV (as:List (List Jg)) (hf:Ym as):Ev L f_k4g [.s (Je as)] [.s (dLL (Jb as))]:=by
 refine Juq (vs:=[.l (Je as)]) L_k4g rfl ?_;refine Jua (Jbp as hf) rfl rfl rfl ?_;refine JtQ (Qv as) rfl (fun h=>JtU ?_) (fun hok=>?_)
 ·show [D.s []]=_;simp[Jb,h,dLL]
 have h4:=(X0 hok).2.1;have hcf:Jb as=(US as).1:=by simp[Jb,hok]
 rw[hcf];simp only[sC,sN];refine Jt7 3 (fun v=>[.l (dLL (YM.take v)),.i v]) (fun _=>True) rfl rfl trivial fun v hv _=>?_;simp only[sC,sN];refine JtZ v 3 rfl (fun hv3=>?_) (fun hv3=>?_)
 ·refine Jua (JgX v (by omega) (by omega)) rfl rfl rfl ?_;refine JtT (YO _) ?_;have hp:YM[v]? = some (JB (v:Int).toNat).c:=by
   rw[Int.toNat_natCast]
   match v,hv3 with
   | 0,_ | 1,_ | 2,_=>rfl
   | n+3,h=>omega
  refine JtN (dLL (YM.take v)) 3 (by rw[Uv];simp;omega) (by omega) rfl ?_;refine Juk (vs:=[.l (dLL (YM.take (v+1))),.i ((v+1:Nat):Int)]) ?_ ⟨hv3,rfl,trivial⟩;show [V.l (dLL (YM.take v)++[.s (dL (JB (v:Int).toNat).c)]),V.i (i64.wrap ((v:Int)+1))]=_;rw[wS hv3 (by omega),JaU,tS1 hp]
 have hv3:v=3:=by omega
 subst hv3;refine Juj ?_;refine Jum as.length (fun i vs=>∃ b:List (List Int)×List Bool,vs=[.l (dLL b.1),.i i]∧b=US (as.take i)) rfl ⟨(YM,[false,false,false]),rfl,rfl⟩ ?_;rintro i _ hi ⟨⟨b1,b2⟩,rfl,hb⟩;simp only[sC,sN];refine Jub i (JM as) rfl (fun h=>?_) (fun h=>?_)
 ·obtain⟨a,ha,hm⟩:=sA1 h;have hB:US (as.take (i+1))=Yo (b1,b2) a:=by rw[hb];exact Xv ha
  obtain⟨f1,f2⟩:=Jec (as.take i);rw[←hb] at f1 f2;have f1:=f1.mono (show 3+384*(as.take i).length≤1600 by simp;omega);have hrl:=KO a;refine JtX i (mA1 (f:=fun a=> .s (Jk a)) ha) rfl rfl rfl rfl ?_;refine Jua (Jde a (hf.2 a hm)) rfl rfl rfl ?_;have hrf :∀r∈Jt a,YR r:=Yg;have hAB:Yo (b1,b2) a=(Jt a).foldl QO (b1,b2):=rfl;generalize Jt a=rs at *;refine Jum rs.length (fun k vs=>∃ c:List (List Int)×List Bool,vs=[.l (dLL c.1),.i k]∧c=(rs.take k).foldl QO (b1,b2)) rfl ⟨(b1,b2),rfl,rfl⟩ ?_;rintro k _ hk ⟨⟨c1,c2⟩,rfl,hc⟩;simp only[sC,sN];refine Jub k (X6 rs) rfl (fun h'=>?_) (fun h'=>?_)
  ·obtain⟨r,hr,hmr⟩:=sA1 h';have hfit:=hrf r hmr;have hC:(rs.take (k+1)).foldl QO (b1,b2)=QO (c1,c2) r:=by rw[hc];exact Xv hr
   obtain⟨g1,g2⟩:=f1.rows f2 (rs:=rs.take k) fun x hx=>hrf x (JuQ hx);rw[←hc] at g1 g2;have g1:=g1.mono (show 1600+6*(rs.take k).length≤2000 by simp;omega);refine Jul k (rdR hr) rfl rfl rfl rfl rfl rfl ?_;simp only[sC,sN];have hR:QO (c1,c2) r=(r.guards.foldl Jn c1,QM (QM c2 r.adds) r.tells):=rfl;have hgl:=hfit.gl;refine Jum r.guards.length (fun g vs=>∃ e:List (List Int),vs=[.l (dLL e),.i g]∧e=(r.guards.take g).foldl Jn c1) rfl ⟨c1,rfl,rfl⟩ ?_;rintro g _ hg ⟨e,rfl,he⟩;simp only[sC,sN];refine Jub g (J5 r.guards) rfl (fun hg'=>?_) (fun hg'=>?_)
   ·obtain⟨f,hfg,hmf⟩:=sA1 hg';have hsf:=hfit.g f hmf;have hE:(r.guards.take (g+1)).foldl Jn c1=Jn e f:=by rw[he];exact Xv hfg
    have e1:=(g1.adds (fs:=r.guards.take g) fun x hx=>hfit.g x (JuQ hx)).mono (show 2000+(r.guards.take g).length≤2010 by simp;omega);rw[←he] at e1;have nx :∀(x:List (List Int)),x=Jn e f→[V.l (dLL x),V.i (i64.wrap ((g:Int)+1))]=[.l (dLL (Jn e f)),.i ((g+1:Nat):Int)]:=by
     intro x hx;rw[hx,wS hg' (by omega)]
    refine JtX g (mA1 (f:=Frm.g) hfg) rfl rfl rfl rfl ?_;refine Jua (Jnh f (hsf.lc.mono (by omega)) (by rw[hsf.c];omega)) rfl rfl rfl ?_;simp only[sC,sN];have el:=e1.len;have hp3:(Jl f.c).length=3:=by rw[VD];exact hsf.c
    have hAP:Jn e f=if K4 e (Jl f.c)<0∧Jl f.c≠[0,0,0] then e++[Jl f.c] else e:=rfl;generalize Jl f.c=pt at *;refine Jua (Jow pt hp3) rfl rfl rfl ?_;refine JtQ (decide (pt=[0,0,0])) rfl (fun hz=>?_) (fun hz=>?_)
    ·refine Jua (Jp5 e pt (by omega) (fun q hq=>by rw[(e1.each q hq).1];omega)) rfl rfl rfl ?_;generalize K4 e pt=ha at *;refine Jue (ha<0) rfl (fun h0=>?_) (fun h0=>?_)
     ·refine JtT (YO _) ?_;refine JtN (dLL e) 3000 (by rw[Uv];omega) (by omega) rfl ?_;refine Juk (vs:=[.l (dLL (Jn e f)),.i ((g+1:Nat):Int)]) ?_ ⟨hg',Jn e f,rfl,hE.symm⟩;show [V.l (dLL e++[.s (dL pt)]),V.i (i64.wrap ((g:Int)+1))]=_;rw[JaU];refine nx _ ?_;rw[hAP,if_pos ⟨h0,by simpa using hz⟩]
     ·refine Juk (nx e ?_) ⟨hg',Jn e f,rfl,hE.symm⟩;rw[hAP,if_neg];intro ⟨h,_⟩;exact h0 h
    ·refine Juk (nx e ?_) ⟨hg',Jn e f,rfl,hE.symm⟩;rw[hAP,if_neg];intro ⟨_,h⟩;exact h (by simpa using hz)
   ·refine Juj ?_;rw[tA1 hg'] at he;refine Juk (vs:=[.l (dLL e),.i ((k+1:Nat):Int)]) ?_ ⟨h',(e,(QO (c1,c2) r).2),rfl,by rw[hC,he];rfl⟩;show [V.l (dLL e),V.i (i64.wrap ((k:Int)+1))]=_;rw[wS h' (by omega)]
  ·refine Juj ?_;rw[tA1 h'] at hc;refine Juk (vs:=[.l (dLL c1),.i ((i+1:Nat):Int)]) ?_ ⟨h,(c1,c2),rfl,by rw[hB,hAB,hc]⟩;show [V.l (dLL c1),V.i (i64.wrap ((i:Int)+1))]=_;rw[wS h (by omega)]
 ·refine Juj (JtU ?_);show [D.s (dLL b1)]=_;rw[tA1 h] at hb;rw[←hb]
def Uj (as:List (List Jg)):Prop:=as.length≤5∧∀a∈as,KU a
theorem Uj.fit {as:List (List Jg)} (h:Uj as):Ym as:=⟨by have:=h.1;omega,fun a ha=>(h.2 a ha).fit⟩
theorem JmW (as:List (List Jg)) (k:Nat) (a:List Jg):(Je as).set k (.s (Jk a))=Je (as.set k a):=by simp[Je,List.map_set]
theorem JeP {bs:List Int} {p n:Int} (hr:Rdr bs p) (hf:p≤999999950000) (n1:1≤n) (n2:n≤2000000) :
  ∃ as q,Ev L f_k2z [.s (Ja bs),dI p,dI n] [.s (Je as),.s (Ja bs),dI q]∧p≤q∧q≤p+2000∧Uj as:=by
 have key : ∃ ds,Ev L f_k2z [.s (Ja bs),dI p,dI n] ds∧∃ as q,ds=[.s (Je as),.s (Ja bs),dI q]∧p≤q∧q≤p+2000∧Uj as:=by
  refine Juo (vs:=[.l (Ja bs),.i p,.i n]) L_k2z rfl ?_;obtain⟨as,q,e,q1,q2,hs,hl1⟩:=JdU hr (by omega);refine Jua e rfl rfl rfl ?_;have ht:Uj as:=⟨by have:=hs.1;omega,fun a ha=>(hs.2 a ha).thin⟩;have hs4:=hs.1;refine Jd n (hr.go (q:=q) (by omega) (by omega)) n1 n2 rfl rfl fun u hu0 hu1=>?_;simp only[sC,sN];refine Jue (0<u) rfl (fun _=>JtU ⟨as,q+1,rfl,by omega,by omega,ht⟩) (fun _=>?_);refine Jd 3 (hr.go (q:=q+1) (by omega) (by omega)) (by omega) (by omega) rfl rfl fun v hv0 hv1=>?_;simp only[sC,sN];obtain⟨a0,ha0,hm0⟩:=sA1 (show 0<as.length by omega);refine Jue (v=0) rfl (fun _=>?_) (fun _=>?_)
  ·obtain⟨a,o,ea,o1,o2,ha⟩:=JgF (hr.go (q:=q+1+1) (by omega) (by omega)) (by omega) (n:=1) (by omega) (by omega);refine Jua ea rfl rfl rfl ?_;simp only[sC,sN];refine JtY ((0:Int)<((Je as).length:Int)) rfl (by rw[JM];omega) ?_;refine JtX 0 (mA1 (f:=fun a=> .s (Jk a)) ha0) rfl rfl rfl rfl ?_;refine JtU ⟨as.set 0 a,o,?_,by omega,by omega,by simp;omega,?_⟩
   ·show [D.s ((Je as).set (0:Int).toNat (.s (Jk a))),.s (Ja bs),dI o]=_;rw[JmW];rfl
   ·intro x hx;rcases JuR hx with hx | hx
    ·exact ht.2 x hx
    ·subst hx;exact ha
  refine Jue (v=1) rfl (fun _=>JtU ⟨[],q+1+1,rfl,by omega,by omega,by simp,by simp⟩) (fun _=>?_);refine Jt3 (fun m vs=>∃ bs':List (List Jg),vs=[.l (Je bs')]∧Uj bs'∧1≤bs'.length∧m=5-bs'.length) rfl (5-as.length) ⟨as,rfl,ht,hl1,rfl⟩ ?_;rintro m _ ⟨cs,rfl,hc,hc1,hm⟩;simp only[sC,sN];refine Jue ((cs.length:Int)≤4) (by show decide (((Je cs).length:Int)≤4)=_;rw[JM]) (fun h4=>?_) (fun _=>Juj (JtU ⟨cs,q+1+1,rfl,by omega,by omega,hc⟩));obtain⟨c0,hc0,hmc⟩:=sA1 (show 0<cs.length by omega);refine JtY ((0:Int)<((Je cs).length:Int)) rfl (by rw[JM];omega) ?_;refine JtX 0 (mA1 (f:=fun a=> .s (Jk a)) hc0) rfl rfl rfl rfl ?_;refine JtN (Je cs) 10 (by rw[JM];omega) (by omega) rfl ?_;refine Juk (vs:=[.l (Je (cs++[c0]))]) ?_ ⟨5-(cs++[c0]).length,by simp;omega,cs++[c0],rfl,⟨by simp;omega,?_⟩,by simp,rfl⟩
  ·show [V.l (Je cs++[.s (Jk c0)])]=_;rw[Wz]
  ·intro x hx;rcases Jux.1 hx with hx | hx
   ·exact hc.2 x hx
   ·simp at hx;subst hx;exact hc.2 x hmc
 obtain⟨ds,e1,as,q,rfl,e2⟩:=key;exact⟨as,q,e1,e2⟩
theorem JkC (f:Frm) (hf:f.c.length=3) (v:Nat) (hv:v<3):Ev L f_k4k (f.cells++[D.q [dI v]].map D.norm) [dB (decide (f.c.getD v 0≠0))]:=by
 refine Juq (vs:=[.l (dL f.c),.l (dL f.d),.i f.k,.d (.q [dI v])]) L_k4k rfl ?_;refine Jud (vs:=[.i v]) rfl rfl ?_;refine JtX v (mA1 (f:=dI) (JaR (by omega))) rfl rfl rfl rfl (JtU ?_);show [dB (!(decide (f.c.getD v 0=0)))]=_;simp
theorem JnZ (r:Row) (hr:YR r) (v:Nat) (hv:v<3):Ev L f_k4l (r.cells++[dI v]++([]:List D).map D.norm) [dB (Zq r v)]:=by
 refine Juq (vs:=[.l (dF r.guards),.l (dF r.adds),.l (dF r.tells),.b r.stop,.i v]) L_k4l rfl ?_;have ha:=hr.al;have ht:=hr.tl;refine Jua (JmQ [r.adds,r.tells] (by simp) (by simp;omega)) rfl rfl rfl ?_;have hfl:[r.adds,r.tells].flatten=r.adds++r.tells:=by simp
 rw[hfl];have h3 :∀f∈r.adds++r.tells,f.c.length=3:=by
  intro f hf;rcases Jux.1 hf with hf | hf
  ·exact(hr.a f hf).c
  ·exact(hr.t f hf).c
 have hlen:(r.adds++r.tells).length≤2000000:=by simp;omega
 unfold Zq;generalize r.adds++r.tells=all at *;exact Jua (Je5 (fun f=>decide (f.c.getD v 0≠0)) all (fn:=f_k4k) (caps:=[.q [dI v]]) hlen rfl rfl fun f hf=>JkC f (h3 f hf) v hv) rfl rfl rfl (JtU rfl)
theorem JoD (as:List (List Jg)) (hf:Ym as):Ev L f_k4m [.s (Je as)] [.s (dBl (Jj as))]:=by
 refine Juq (vs:=[.l (Je as)]) L_k4m rfl ?_;refine Jua (Jbp as hf) rfl rfl rfl ?_;refine JtQ (Qv as) rfl (fun h=>JtU ?_) (fun h=>?_)
 ·show [D.s []]=_;simp[Jj,h,dBl]
 ·refine Jua (JpY Zq as hf (fn:=f_k4l) (caps:=[]) rfl rfl fun r hr v hv=>JnZ r hr v hv) rfl rfl rfl (JtU ?_);show [D.s (dBl (Wh Zq as))]=_;rw[Jeq h]
/- There is one way,and it is the act; what an act does not read turns no answer; with an act more there is more: over residual programs. -/
theorem Jof {f:Frm} {v w:List Int} (h:ZM f v w) : -6000000000000000≤atF f v w∧atF f v w≤6000000000000000:=by
 obtain⟨s1,s2,s3⟩:=h.sums;unfold atF;omega
theorem Jp7 {fs:List Frm} {v w:List Int} (h :∀f∈fs,ZM f v w):Lim 6000000000000000 (atL fs v w):=by
 intro x hx;simp only[atL,List.mem_map] at hx;obtain⟨f,hf,rfl⟩:=hx;exact Jof (h f hf)
theorem JnB (c1 c2:Int) (t1 t2:List Int) (hl:t1.length≤2000000):Ev L f_k5t [dI c1,.s (dL t1),dI c2,.s (dL t2)] [dB (decide (c1=c2)&&decide (t1=t2))]:=by
 refine Juq (vs:=[.i c1,.l (dL t1),.i c2,.l (dL t2)]) L_k5t rfl ?_;refine Jue (c1=c2) rfl (fun h=>?_) (fun h=>JtU ?_)
 ·refine Jua (Je9 t1 t2 hl) rfl rfl rfl (JtU ?_);rw[decide_eq_true h];rfl
 ·rw[decide_eq_false h];rfl
theorem Jj0 (l:List Int) (hl:l.length≤2000000):Ev L f_k18 [.s (dL l)] [dB (Q8 l)] :=
 Juq (vs:=[.l (dL l)]) L_k18 rfl (Jua (Xl l 2 9 hl (by omega) (by omega)) rfl rfl rfl (JtU rfl))
/- What one site knows is so for all; who is alone knows all: over residual programs. -/
theorem JjO (b g:List Int) (s:Int) (hg :∀x∈g,0≤x∧x≤50) (hl:g.length≤2000000):Ev L f_k24 [.s (dL b),.s (dL g),dI s] [dI (JJ g s)]:=by
 refine Juq (vs:=[.l (dL b),.l (dL g),.i s]) L_k24 rfl ?_;refine Jt7 g.length (fun i=>[.i (JJ (g.take i) s),.i i]) (fun _=>True) rfl rfl trivial fun i hi _=>?_;simp only[sC,sN];refine Jub i (dL1 g) rfl (fun h=>?_) (fun h=>?_)
 ·obtain⟨x,hx,hm⟩:=sA1 h;have hst:=YB (s:=s) hx;have hle:=JbF (s:=s) hg i hi;have hxb:=hg x hm;refine JtQ (decide ((i:Int)=s)) rfl (fun hs=>?_) (fun hs=>?_)
  ·refine JtX i (mA1 (f:=dI) hx) rfl rfl rfl rfl ?_;refine Juk (vs:=[.i (JJ (g.take (i+1)) s),.i ((i+1:Nat):Int)]) ?_ ⟨h,rfl,trivial⟩;show [V.i (i64.wrap (JJ (g.take i) s+x)),V.i (i64.wrap ((i:Int)+1))]=_;rw[wS h (by omega),hst,if_neg (by simpa using hs),w64 (by omega) (by omega)]
  ·refine Juk (vs:=[.i (JJ (g.take (i+1)) s),.i ((i+1:Nat):Int)]) ?_ ⟨h,rfl,trivial⟩;show [V.i (JJ (g.take i) s),V.i (i64.wrap ((i:Int)+1))]=_;rw[wS h (by omega),hst,if_pos (by simpa using hs),Int.add_zero]
 ·refine Juj (JtU ?_);rw[tA1 h];rfl
def B3 (r:Int×Int×Bool):List D:=[dI r.1,dI r.2.1,dB r.2.2]
theorem Jii {a b:List Int} {A B:Int} (ha:Lim A a) (hb:Lim B b):Lim (A+B) (Qm a b):=by
 have:=Jc0 (n:=1) (N:=1) ha hb (by omega);have e:Qg a b 1=Qm a b:=by
  unfold Qg Qm
  congr 1
  funext x y;omega
 rw[e] at this;exact this.mono (by omega)
theorem ZM.here {f:Frm} {b a w:List Int} (hf:f.ok=true) (hb:JU b=true) (ha:Qy a=true) (hw:Q8 w=true):ZM f (Qm b a) w:=by
 have hs:=JnE hf;obtain⟨b1,b2⟩:=QF.1 hb;obtain⟨a1,a2⟩:=Jo.1 ha;obtain⟨w1,w2⟩:=X3.1 hw;refine⟨hs.c,hs.d,by rw[Z5 (by omega)];exact b1,w1,10000000,30000,by omega,by omega,by omega,hs.lc,hs.ld,(Jii b2 (B:=20000) a2).mono (by omega),w2.mono (by omega),by have:=hs.k;omega⟩
theorem Jg5 {f:Frm} {v w:List Int} (h:ZM f v w):Ev L f_k23 (f.cells++[.s (dL v),.s (dL w)]) [dI (atF f v w)]:=by
 obtain⟨A,B,hA,hB,hAB,h1,h2,h3,h4,h5⟩:=h.a;have h0:0≤A*B:=Int.mul_nonneg hA hB;have c3:=h.c;have d2:=h.d;have v3:=h.v3;have w2:=h.w2;have lim :∀(c x:List Int) (i:Nat),Lim A c→Lim B x→i≤3→-3000000000000000≤dot (c.take i) (x.take i)∧dot (c.take i) (x.take i)≤3000000000000000:=by
  intro c x i hc hx hi;have:=Kr (hc.take i) (hx.take i) hA hB;have hl:((c.take i).length:Int)≤3:=by simp;omega
  have:=Int.mul_le_mul_of_nonneg_left hl h0;omega
 refine Juq (vs:=[.l (dL f.c),.l (dL f.d),.i f.k,.l (dL v),.l (dL w)]) L_k23 rfl ?_;refine Jt7 3 (fun i=>[.i (f.k+dot (f.c.take i) (v.take i)),.i i]) (fun _=>True) rfl (by simp[dot,den,Jm,V.int]) trivial fun i hi _=>?_;simp only[sC,sN];refine JtZ i 3 rfl (fun hi3=>?_) (fun hi3=>?_)
 ·obtain⟨x,hx,hmx⟩:=sA1 (show i<f.c.length by omega);obtain⟨y,hy,hmy⟩:=sA1 (show i<v.length by omega);have hp:=UE (h1 x hmx) (h3 y hmy);have hl:=lim f.c v i h1 h3 hi;refine JtX i (mA1 (f:=dI) hx) rfl rfl rfl rfl ?_;refine JtX i (mA1 (f:=dI) hy) rfl rfl rfl rfl ?_;refine Juk (vs:=[.i (f.k+dot (f.c.take (i+1)) (v.take (i+1))),.i ((i+1:Nat):Int)]) ?_ ⟨hi3,rfl,trivial⟩;show [V.i (i64.wrap (f.k+dot (f.c.take i) (v.take i)+i64.wrap (x*y))),V.i (i64.wrap ((i:Int)+1))]=_;rw[wS hi3 (by omega),w64 (n:=x*y) (by omega) (by omega),w64 (by omega) (by omega),Jeu hx hy,Int.add_assoc]
 have hi3:i=3:=by omega
 subst hi3;rw[Juw (by omega),Juw (by omega)];refine Juj ?_;have hcv:=lim f.c v 3 h1 h3 (by omega);rw[Juw (by omega),Juw (by omega)] at hcv;refine Jt7 2 (fun i=>[.i (f.k+dot f.c v+dot (f.d.take i) (w.take i)),.i i]) (fun _=>True) rfl (by simp[dot,den,Jm,V.int]) trivial fun i hi _=>?_;simp only[sC,sN];refine JtZ i 2 rfl (fun hi2=>?_) (fun hi2=>?_)
 ·obtain⟨x,hx,hmx⟩:=sA1 (show i<f.d.length by omega);obtain⟨y,hy,hmy⟩:=sA1 (show i<w.length by omega);have hp:=UE (h2 x hmx) (h4 y hmy);have hl:=lim f.d w i h2 h4 (by omega);refine JtX i (mA1 (f:=dI) hx) rfl rfl rfl rfl ?_;refine JtX i (mA1 (f:=dI) hy) rfl rfl rfl rfl ?_;refine Juk (vs:=[.i (f.k+dot f.c v+dot (f.d.take (i+1)) (w.take (i+1))),.i ((i+1:Nat):Int)]) ?_ ⟨hi2,rfl,trivial⟩;show [V.i (i64.wrap (f.k+dot f.c v+dot (f.d.take i) (w.take i)+i64.wrap (x*y))),V.i (i64.wrap ((i:Int)+1))]=_;rw[wS hi2 (by omega),w64 (n:=x*y) (by omega) (by omega),w64 (by omega) (by omega),Jeu hx hy,Int.add_assoc (f.k+dot f.c v)]
 ·refine Juj (JtU ?_);show [dI (f.k+dot f.c v+dot (f.d.take i) (w.take i))]=_;rw[Juw (by omega),Juw (by omega),show f.k+dot f.c v+dot f.d w=atF f v w by unfold atF;omega]
theorem Jp1 {a b:List Int} (ha:a.length=3) (hb:b.length=3) (la:Lim 1000000000 a) (lb:Lim 1000000000 b):Ev L f_k22 [.s (dL a),.s (dL b)] [.s (dL (Qm a b))]:=by
 refine Juq (vs:=[.l (dL a),.l (dL b)]) L_k22 rfl ?_;refine Jt7 3 (fun i=>[.l (dL ((Qm a b).take i)),.i i]) (fun _=>True) rfl rfl trivial fun i hi _=>?_;simp only[sC,sN];refine JtZ i 3 rfl (fun h=>?_) (fun h=>?_)
 ·obtain⟨x,hx,hmx⟩:=sA1 (show i<a.length by omega);obtain⟨y,hy,hmy⟩:=sA1 (show i<b.length by omega);have hxl:=la x hmx;have hyl:=lb y hmy;have hs:(Qm a b)[i]? = some (x+y):=by unfold Qm;rw[List.getElem?_zipWith,hx,hy]
  refine JtX i (mA1 (f:=dI) hx) rfl rfl rfl rfl ?_;refine JtX i (mA1 (f:=dI) hy) rfl rfl rfl rfl ?_;refine JtN (dL ((Qm a b).take i)) 10 (by rw[dL1];simp;omega) (by omega) rfl ?_;refine Juk (vs:=[.l (dL ((Qm a b).take (i+1))),.i ((i+1:Nat):Int)]) ?_ ⟨h,rfl,trivial⟩;show [V.l (dL ((Qm a b).take i)++[dI (i64.wrap (x+y))]),V.i (i64.wrap ((i:Int)+1))]=_;rw[wS h (by omega),w64 (by omega) (by omega),Q6,tS1 hs]
 ·refine Juj (JtU ?_);show [D.s (dL ((Qm a b).take i))]=_;rw[Juw (by rw[Z5 (by omega)];omega)]
theorem Jks {b g:List Int} {ps:List (List Int)} {s:Int} {a:List Int} (h:QG b g ps s a=true):JU b=true∧(∀x∈g,0≤x∧x≤50)∧Qy a=true:=by
 simp only[QG,Qu,Jus,JuF,Jp] at h;exact⟨h.1.1.1.1.1,h.1.1.1.2,h.2⟩
theorem Jdp (b g:List Int) (ps:List (List Int)) (s:Int) (a:List Int) (f:Frm) (w:List Int) (hb:b.length≤2000000) (hg:g.length≤2000000) (hp:fitLL ps) (ha:a.length≤2000000) (hf:Frm.fit f) (hw:w.length≤2000000) :
  Ev L f_k25 ([.s (dL b),.s (dL g),.s (dLL ps),dI s,.s (dL a)]++f.cells++[.s (dL w)]) (B3 (JT b g ps s a f w)):=by
 refine Juq (vs:=[.l (dL b),.l (dL g),.l (dLL ps),.i s,.l (dL a),.l (dL f.c),.l (dL f.d),.i f.k,.l (dL w)]) L_k25 rfl ?_;have none:(QG b g ps s a&&f.ok&&Q8 w)=false→JT b g ps s a f w=(0,0,false):=fun h=>by
  unfold JT;unfold QG at h;rw[h];rfl
 refine Jua (Jbv b g hb hg) rfl rfl rfl ?_;refine JtQ (Qu b g) rfl (fun h=>JtU ?_) (fun h=>?_)
 ·rw[none (by simp[QG,h])];rfl
 refine Jua (JdP ps hp) rfl rfl rfl ?_;refine JtQ (QP ps) rfl (fun h'=>JtU ?_) (fun h'=>?_)
 ·rw[none (by simp[QG,h'])];rfl
 refine Jua (JQ s 0 (g.length-1)) rfl ?_ rfl ?_
 ·show [dI s,dI 0,dI (i64.wrap (((dL g).length:Int)-1))]=_;rw[dL1,w64 (by omega) (by omega)]
 refine JtQ (inB s 0 (g.length-1)) rfl (fun h''=>JtU ?_) (fun h''=>?_)
 ·rw[none (by simp[QG,h''])];rfl
 refine Jua (Xl a 3 20000 ha (by omega) (by omega)) rfl rfl rfl ?_;refine JtQ (JH 3 20000 a) rfl (fun h3=>JtU ?_) (fun h3=>?_)
 ·rw[none (by simp[QG,Qy,h3])];rfl
 have hfine:QG b g ps s a=true:=by simp only[QG,Qy,h,h',h'',h3];rfl
 refine Jua (JiB f hf) rfl rfl rfl ?_;refine JtQ f.ok rfl (fun h2=>JtU ?_) (fun h2=>?_)
 ·rw[none (by simp[h2])];rfl
 refine Jua (Jj0 w hw) rfl rfl rfl ?_;refine JtQ (Q8 w) rfl (fun h3=>JtU ?_) (fun h4=>?_)
 ·rw[none (by simp[h3])];rfl
 simp only[sC,sN];obtain⟨v1,v2,v3⟩:=Jks hfine;obtain⟨b1,b2⟩:=QF.1 v1;obtain⟨a1,a2⟩:=Jo.1 v3;have hat:=ZM.here h2 v1 v3 h4;have hlim:=Jof hat;have hstd:=JnE h2;have hM:JT b g ps s a f w=if f.c=[0,0,0] then(atF f (Qm b a) w,atF f (Qm b a) w,true) else if Jl f.c∈ps then(atF f (Qm b a) w-JJ g s,atF f (Qm b a) w+JJ g s,true) else(0,0,false):=by
  unfold JT;unfold QG at hfine;rw[hfine,h2,h4];rfl
 rw[hM];refine Jua (Jp1 b1 (by omega) (b2.mono (by omega)) (Lim.mono (m:=20000) a2 (by omega))) rfl rfl rfl ?_;refine Jua (Jg5 hat) rfl rfl rfl ?_;refine Jua (Jd0 f (hstd.lc.mono (by omega)) (by rw[hstd.c];omega)) rfl rfl rfl ?_;refine Jua XX rfl rfl rfl ?_;refine Jua (Ja7 (Jl f.c) [0,0,0] (by rw[VD,hstd.c];omega)) rfl rfl rfl ?_;have hol:=JbF (s:=s) v2 g.length (Nat.le_refl _);rw[Juw (Nat.le_refl _)] at hol;have hO:=JjO b g s v2 hg;simp only[sC,sN];generalize atF f (Qm b a) w=n at *;generalize JJ g s=o at *;have hpz:=JfI hstd.c;refine Jt4 (decide (Jl f.c=[0,0,0])) rfl (fun hz=>JtU ?_) (fun hz=>?_)
 ·rw[if_pos (hpz.1 (by simpa using hz))];rfl
 rw[if_neg (fun e=>by simp[hpz.2 e] at hz)];refine Jua (JfR ps (Jl f.c) hp.1 hp.2) rfl rfl rfl ?_;simp only[sC,sN];refine Jue (K4 ps (Jl f.c)<0) rfl (fun hh=>JtU ?_) (fun hh=>?_)
 ·rw[if_neg ((JfU _ _).1 hh)];rfl
 ·rw[if_pos ((Jac _ _).1 (by omega))];refine Jua hO rfl rfl rfl ?_;refine Jua hO rfl rfl rfl (JtU ?_);show [dI (i64.wrap (n-o)),dI (i64.wrap (n+o)),dB true]=_;rw[w64 (n:=n-o) (by omega) (by omega),w64 (n:=n+o) (by omega) (by omega)];rfl
/- What a site does alone: over residual programs. -/
theorem Juh {l:List V} {Q:Oc→Prop} {r:R} {c:Nat} {N:Int} (x:List Int) (hx:x.length≤1000) (hN:1000≤N) (he:lst (Jm l) (.v c)=dL x) (h:WR L r l Q) :
  WR L (.i (.chk (.cmp .le (.len (.v c)) (.z N))) (.i (.head 1 (.v c)) (.i (.chk (.cmp .le (.len (.app .nil (.v c))) (.z N))) r))) l Q :=
 JtV (dL x) 1000 (by rw[dL1];omega) hN he (Jt0 (by rw[he];exact JR x) (JtV (dL x) 1000 (by rw[dL1];omega) hN he h))
theorem WL {pins:List Bool} {a:List Int} {i:Nat} {x:Int} {b:Bool} (hx:a[i]? = some x) (hb:pins[i]? = some b):(a.zip pins)[i]? = some (x,b):=by
 rw[List.getElem?_zip_eq_some];exact⟨hx,hb⟩
theorem Jhx (as:List (List Jg)) (ps:List (List Int)) (pins:List Bool) (a:List Int) (hp:pins.length=3) (ha:a.length=3):Ev L f_k4x [.s (Je as),.s (dLL ps),.s (dBl pins),.s (dL a)] [dB (Qd pins a)]:=by
 refine Juq (vs:=[.l (Je as),.l (dLL ps),.l (dBl pins),.l (dL a)]) L_k4x rfl ?_;refine Jt7 a.length (fun i=>[.i i]) (fun i=>((a.zip pins).take i).all (fun q=>!(q.2 && !decide (q.1=0)))=true) rfl rfl rfl fun i hi hq=>?_;simp only[sC,sN];refine Jub i (dL1 a) rfl (fun h=>?_) (fun h=>?_)
 ·obtain⟨x,hx,_⟩:=sA1 h;obtain⟨b,hb,_⟩:=sA1 (show i<pins.length by omega);have hz:=WL hx hb;refine JtX i (mA1 (f:=dI) hx) rfl rfl rfl rfl ?_;refine JtQ (decide (x=0)) rfl (fun h0=>?_) (fun h0=>?_)
  ·refine JtX i (mA1 (f:=dB) hb) rfl rfl rfl rfl ?_;refine Jt4 b rfl (fun hb1=>Juj (JtU ?_)) (fun hb1=>?_)
   ·show [dB false]=_;unfold Qd;rw[Yl hz (by simp only[h0,hb1];rfl)]
   ·refine Juk (vs:=[.i ((i+1:Nat):Int)]) ?_ ⟨h,rfl,QT hz hq (by simp only[hb1];rfl)⟩;show [V.i (i64.wrap ((i:Int)+1))]=_;rw[wS h (by omega)]
  ·refine Juk (vs:=[.i ((i+1:Nat):Int)]) ?_ ⟨h,rfl,QT hz hq (by simp only[h0];simp)⟩;show [V.i (i64.wrap ((i:Int)+1))]=_;rw[wS h (by omega)]
 ·refine Juj (JtU ?_);rw[Juw (by simp;omega)] at hq;unfold Qd;rw[hq];rfl
theorem WG (pins:List Bool) (a:List Int) (hp:pins.length=3) (ha:a.length=3):Ev L f_k1i [.s (dBl pins),.s (dL a)] [dB (Qd pins a)]:=by
 refine Juq (vs:=[.l (dBl pins),.l (dL a)]) L_k1i rfl ?_;refine Jt7 3 (fun i=>[.i i]) (fun i=>((a.zip pins).take i).all (fun q=>!(q.2 && !decide (q.1=0)))=true) rfl rfl rfl fun i hi hq=>?_;simp only[sC,sN];refine JtZ i 3 rfl (fun h=>?_) (fun h=>?_)
 ·obtain⟨x,hx,_⟩:=sA1 (show i<a.length by omega);obtain⟨b,hb,_⟩:=sA1 (show i<pins.length by omega);have hz:=WL hx hb;refine JtX i (mA1 (f:=dB) hb) rfl rfl rfl rfl ?_;refine Jt4 b rfl (fun hb1=>?_) (fun hb1=>?_)
  ·refine JtX i (mA1 (f:=dI) hx) rfl rfl rfl rfl ?_;refine JtQ (decide (x=0)) rfl (fun h0=>Juj (JtU ?_)) (fun h0=>?_)
   ·show [dB false]=_;unfold Qd;rw[Yl hz (by simp only[h0,hb1];rfl)]
   ·refine Juk (vs:=[.i ((i+1:Nat):Int)]) ?_ ⟨h,rfl,QT hz hq (by simp only[h0];simp)⟩;show [V.i (i64.wrap ((i:Int)+1))]=_;rw[wS h (by omega)]
  ·refine Juk (vs:=[.i ((i+1:Nat):Int)]) ?_ ⟨h,rfl,QT hz hq (by simp only[hb1];rfl)⟩;show [V.i (i64.wrap ((i:Int)+1))]=_;rw[wS h (by omega)]
 ·refine Juj (JtU ?_);rw[Juw (by simp;omega)] at hq;unfold Qd;rw[hq];rfl
theorem Jkm (as:List (List Jg)) (hf:Ym as):Ev L f_k4n [.s (Je as)] [.s (Je as),.s (dLL (Jb as)),.s (dBl (Jj as))]:=by
 refine Juq (vs:=[.l (Je as)]) L_k4n rfl ?_;refine Jua (JlV as hf) rfl rfl rfl ?_;refine Jua (JoD as hf) rfl rfl rfl (JtU rfl)
theorem VL {b g:List Int} {ps:List (List Int)} {s:Int} {a:List Int} (h:keeps b g ps s a=true):a.length=3:=(ZE (Xt h)).2.2.2.2.2.1.1
theorem JmU (as:List (List Jg)) (ps:List (List Int)) (pins:List Bool) (b g:List Int) (s:Int) (a:List Int) (hpi:pins.length=3) (hb:b.length≤2000000) (hg:g.length≤2000000) (hp:fitLL ps) (ha:a.length≤2000000) :
  Ev L f_k4y [.s (Je as),.s (dLL ps),.s (dBl pins),.s (dL b),.s (dL g),dI s,.s (dL a)] [dB (keeps b g ps s a&&Qd pins a)]:=by
 refine Juq (vs:=[.l (Je as),.l (dLL ps),.l (dBl pins),.l (dL b),.l (dL g),.i s,.l (dL a)]) L_k4y rfl ?_;refine Jua (JhI b g ps s a hb hg hp ha) rfl rfl rfl ?_;refine Jt4 (keeps b g ps s a) rfl (fun h=>?_) (fun h=>JtU ?_)
 ·refine Jua (Jhx as ps pins a hpi (VL h)) rfl rfl rfl (JtU ?_);rw[h];rfl
 ·rw[h];rfl
def JnW (b g:List Int) (ps:List (List Int)) (s:Int) (a w:List Int) (f:Frm):Bool:=(JT b g ps s a f w).2.2&&decide (0≤(JT b g ps s a f w).1)
structure FitB (b g:List Int) (ps:List (List Int)) (a w:List Int):Prop where
 b:b.length≤2000000
 g:g.length≤2000000
 p:fitLL ps
 a:a.length≤2000000
 w:w.length≤2000000
theorem Jm4 (b g:List Int) (ps:List (List Int)) (s:Int) (a w:List Int) (h:FitB b g ps a w) (r:Row) (hr:YR r) :
  Ev L f_k26 ([.s (dL b),.s (dL g),.s (dLL ps),dI s,.s (dL a)]++r.cells++[.s (dL w)]) [dB (KV b g ps s a w r)]:=by
 refine Juq (vs:=[.l (dL b),.l (dL g),.l (dLL ps),.i s,.l (dL a),.l (dF r.guards),.l (dF r.adds),.l (dF r.tells),.b r.stop,.l (dL w)]) L_k26 rfl ?_;have hgl:=hr.gl;refine Jt7 r.guards.length (fun i=>[.i i]) (fun i=>(r.guards.take i).all (JnW b g ps s a w)=true) rfl rfl rfl fun i hi hq=>?_;simp only[sC,sN];have hS:KV b g ps s a w r=r.guards.all (JnW b g ps s a w):=rfl;rw[hS];refine Jub i (J5 r.guards) rfl (fun h'=>?_) (fun h'=>?_)
 ·obtain⟨f,hf,hm⟩:=sA1 h';refine JtX i (mA1 (f:=Frm.g) hf) rfl rfl rfl rfl ?_;refine Jua (Jdp b g ps s a f w h.b h.g h.p h.a (hr.g f hm).fit h.w) rfl rfl rfl ?_;simp only[sC,sN];have hF:JnW b g ps s a w f=((JT b g ps s a f w).2.2&&decide (0≤(JT b g ps s a f w).1)):=rfl;generalize JT b g ps s a f w=B at *;refine JtQ B.2.2 rfl (fun h1=>Juj (JtU ?_)) (fun h1=>?_)
  ·rw[Yl hf (by rw[hF,h1];rfl)];rfl
  refine Jue (B.1<0) rfl (fun h2=>Juj (JtU ?_)) (fun h2=>?_)
  ·rw[Yl hf (by rw[hF,h1];simp;omega)];rfl
  refine Juk (vs:=[.i ((i+1:Nat):Int)]) ?_ ⟨h',rfl,QT hf hq (by rw[hF,h1];simp;omega)⟩;show [V.i (i64.wrap ((i:Int)+1))]=_;rw[wS h' (by omega)]
 ·refine Juj (JtU ?_);rw[tA1 h'] at hq;rw[hq];rfl
/- What a site does alone: the tries themselves,over residual programs. -/
theorem JgL {b w:List Int} (hb:JU b=true) (hw:Q8 w=true) {fs:List Frm} (hf :∀f∈fs,Std 10000000 f) :∀f∈fs,ZM f b w:=fun f hm=>ZM.std (hf f hm) hb hw
theorem Jgj (fs:List Frm) (v w:List Int):(atL fs v w).length=fs.length:=by simp[atL]
theorem Jei {i:Nat} (h:i<3):[0,1,2][i]? = some i:=by
 match i,h with
 | 0,_ | 1,_ | 2,_=>rfl
theorem Ve {as:List (List Jg)} (h:Qv as=true):(Jj as).length=3:=by rw[Jeq h,Jpe]
def JcL (O U:Nat→Bool) (b g:List Int) (ps:List (List Int)) (s:Int) (a w:List Int):Prop :=
 ∀i,O i=([0,1,2].take i).any (ovM b g ps s a w)∧U i=([0,1,2].take i).any (unM b g ps s a w)
theorem JcL.step {O U:Nat→Bool} {b g:List Int} {ps:List (List Int)} {s:Int} {a w:List Int} (h:JcL O U b g ps s a w) {i:Nat} (hi:i<3) :
  O (i+1)=(O i||(decide (10000<(JT b g ps s a (JB i) w).1)||decide ((JT b g ps s a (JB i) w).2.1 < -10000))) ∧
  U (i+1)=(U i||(decide ((JT b g ps s a (JB i) w).1 < -10000)||decide (10000<(JT b g ps s a (JB i) w).2.1))):=by
 rw[(h (i+1)).1,(h (i+1)).2,(h i).1,(h i).2,Jh2 (Jei hi),Jh2 (Jei hi)];exact⟨rfl,rfl⟩
theorem JcL.zero {O U:Nat→Bool} {b g:List Int} {ps:List (List Int)} {s:Int} {a w:List Int} (h:JcL O U b g ps s a w):O 0=false∧U 0=false:=⟨(h 0).1,(h 0).2⟩
theorem JcL.three {O U:Nat→Bool} {b g:List Int} {ps:List (List Int)} {s:Int} {a w:List Int} (h:JcL O U b g ps s a w):O 3=[0,1,2].any (ovM b g ps s a w)∧U 3=[0,1,2].any (unM b g ps s a w):=⟨(h 3).1,(h 3).2⟩
end Go.Proofs.YtofcmnglieaoeaaGreatDoor

import Derived.Test.YtofcmnglieaoeabGreatDoorPP
import Derived.Test.YtofcmnglieaoeabGreatDoorPM
import Derived.Test.YtofcmnglieaoeabGreatDoorTd
set_option linter.unusedVariables false
set_option linter.unusedSimpArgs false
/- Each way is ok,and there are at most two for each test: over residual programs. -/
namespace Go.Proofs.YtofcmnglieaoeabGreatDoor
open Go Go.Tm
open Go.IntKind (i64)
theorem JfM (a b:List Int) (hl:a.length≤2000000):Ev L f_k5m [.s (dL a),.s (dL b)] [dB (decide (a=b))] :=
 JfU dI .i a b L_k5m rfl (fun _=>rfl) (fun _ _ _ _ _=>rfl) hl
theorem Jjf:Ev L f_k5s [] [dB true]:=by
 refine JuA (vs:=[]) L_k5s rfl ?_;refine Jur U1 rfl rfl rfl ?_;have e:=Y9 Frm.zero Xt.fit;rw[Xt.okF (by omega)] at e;exact Jur e rfl rfl rfl (Jue rfl)
theorem Jpo (n:Int) (h0:0≤n) (hn:n≤2000000):Ev L f_k4f [dI n] [.s []]:=by
 refine JuA (vs:=[.i n]) L_k4f rfl ?_;have hw:i64.wrap (n-i64.wrap (0-0))=n:=by rw[w64 (n:=0-0) (by omega) (by omega),w64 (by omega) (by omega)];omega
 refine Jt8 (n<0) rfl (fun h=>by omega) (fun _=>?_);refine Jt8 (0<n) (by show decide (0<i64.wrap (n-i64.wrap (0-0)))=_;rw[hw]) (fun h=>?_) (fun h=>Jue rfl);refine Juf (0<n) (by show decide (0<i64.wrap (n-i64.wrap (0-0)))=_;rw[hw]) h ?_;refine Juf (n≤1256584717458) (by show decide (i64.wrap (n-i64.wrap (0-0))≤1256584717458)=_;rw[hw]) (by omega) ?_;refine Jt5 ?_ (Jue ?_)
 ·show decide ((0:Int)≤((List.replicate (i64.wrap (n-i64.wrap (0-0))).toNat (D.g [.s [],.s [],dI 0])).length:Int))=true;simp only[decide_eq_true_eq];omega
 ·show [D.s ((List.replicate (i64.wrap (n-i64.wrap (0-0))).toNat (D.g [.s [],.s [],dI 0])).take (0:Int).toNat)]=_;simp
def dFF (ls:List (List Frm)):List D:=ls.map fun l=> .s (dF l)
theorem JkE (ls:List (List Frm)):(dFF ls).length=ls.length:=by simp[dFF]
theorem JqP (a b:List Frm):dF a++dF b=dF (a++b):=by simp[dF]
def UI (ls:List (List Frm)):Nat:=(ls.map List.length).sum
theorem JmF {ls:List (List Frm)} {i:Nat} {l:List Frm} (h:ls[i]? = some l):UI (ls.take (i+1))=UI (ls.take i)+l.length:=by
 unfold UI;rw[tS1 h];simp
theorem Jmx (ls:List (List Frm)):ls.flatten.length=UI ls:=by simp[UI,List.length_flatten]
theorem Jpr {ls:List (List Frm)} {N:Nat} (h :∀l∈ls,l.length≤N) (i:Nat):UI (ls.take i)≤N*ls.length:=by
 have :∀(ls:List (List Frm)),(∀l∈ls,l.length≤N)→UI ls≤N*ls.length:=by
  intro ls
  induction ls with
  | nil=>intro _;simp[UI]
  | cons l ls ih =>
   intro h;have h1:=h l (by simp);have h2:=ih fun x hx=>h x (by simp[hx]);simp only[UI,JuL,List.sum_cons,List.length_cons,Nat.mul_add] at *;omega
 have h1:=this (ls.take i) fun l hl=>h l (Ju1 hl);refine Nat.le_trans h1 (Nat.mul_le_mul_left _ (by simp;omega))
theorem Jm6 (ls:List (List Frm)) (hl:ls.length≤100) (h1 :∀l∈ls,l.length≤1000):Ev L f_k4g [.s (dFF ls)] [.s (dF ls.flatten)]:=by
 refine JuA (vs:=[.l (dFF ls)]) L_k4g rfl ?_;have hle :∀i,UI (ls.take i)≤100000:=fun i=>Nat.le_trans (Jpr h1 i) (by omega);refine Jt3 ls.length (fun i=>[.i (UI (ls.take i)),.i i]) (fun _=>True) rfl rfl trivial fun i hi _=>?_;have hli:=hle i;refine JtY i (JkE ls) rfl (fun h=>?_) (fun h=>?_)
 ·obtain⟨x,hx,hm⟩:=sA1 h;have hxl:=h1 x hm;refine Juo i (mA1 (f:=fun l=> .s (dF l)) hx) rfl rfl rfl rfl ?_;have hw:i64.wrap ((UI (ls.take i):Int)+((dF x).length:Int))=(UI (ls.take (i+1)):Int):=by
   rw[J3,JmF hx,w64 (by omega) (by omega)];rfl
  refine Jt8 (((UI (ls.take (i+1)):Int))<0) (by show decide (i64.wrap ((UI (ls.take i):Int)+((dF x).length:Int))<0)=_;rw[hw]) (fun h=>by omega) (fun _=>?_);refine Jt4 (vs:=[.i (UI (ls.take (i+1))),.i ((i+1:Nat):Int)]) ?_ ⟨h,rfl,trivial⟩;show [V.i (i64.wrap ((UI (ls.take i):Int)+((dF x).length:Int))),V.i (i64.wrap ((i:Int)+1))]=_;rw[wS h (by omega),hw]
 ·refine Juk ?_;refine Jur (Jpo (UI (ls.take i)) (by omega) (by omega)) rfl rfl rfl ?_;simp only[sC,sN];refine Jt3 ls.length (fun j=>[.l (dF (ls.take j).flatten),.i j]) (fun _=>True) rfl rfl trivial fun j hj _=>?_;simp only[sC,sN];refine JtY j (JkE ls) rfl (fun h=>?_) (fun h=>?_)
  ·obtain⟨x,hx,hm⟩:=sA1 h;have hxl:=h1 x hm;have hlj:=hle j;refine Juo j (mA1 (f:=fun l=> .s (dF l)) hx) rfl rfl rfl rfl ?_;refine Juj (dF x) 1000 (by rw[J3];exact hxl) (by omega) rfl ?_;refine Juc (JpN x) ?_;refine Juj (dF (ls.take j).flatten++dF x) 2000000 (by rw[JuJ,J3,J3,Jmx];omega) (by omega) rfl ?_;refine Jt4 (vs:=[.l (dF (ls.take (j+1)).flatten),.i ((j+1:Nat):Int)]) ?_ ⟨h,rfl,trivial⟩;show [V.l (dF (ls.take j).flatten++dF x),V.i (i64.wrap ((j:Int)+1))]=_;rw[wS h (by omega),JqP,tS1 hx];simp
  ·refine Juk (Jue ?_);show [D.s (dF (ls.take j).flatten)]=_;rw[tA1 h]
/- What an act does not turn stays: over residual programs. -/
theorem Xz {bs:List Int} {p n:Int} (hr:Rdr bs p) (hf:p≤999999999000) (h1:1≤n) (hn:n≤2000000) :
  ∃ a q,Ev L f_kq [.s (Ja bs),dI p,dI n] [.s (dL a),.s (Ja bs),dI q]∧p≤q∧q≤p+10∧a.length≤3:=by
 have key : ∃ ds,Ev L f_kq [.s (Ja bs),dI p,dI n] ds∧∃ a q,ds=[.s (dL a),.s (Ja bs),dI q]∧p≤q∧q≤p+10∧a.length≤3:=by
  refine Juy (vs:=[.l (Ja bs),.i p,.i n]) L_kq rfl ?_;have go :∀q,p≤q→q≤p+10→Rdr bs q:=fun q h h'=>hr.go h (by omega);refine Jd 19 hr (by omega) (by omega) rfl rfl fun u hu0 hu1=>?_;refine Jd 19 (go (p+1) (by omega) (by omega)) (by omega) (by omega) rfl rfl fun v hv0 hv1=>?_;refine Jd n (go (p+1+1) (by omega) (by omega)) h1 hn rfl rfl fun w hw0 hw1=>?_;simp only[sC,sN];have e:[dI (i64.wrap (u-9)),dI (i64.wrap (v-9))]=dL [u-9,v-9]:=by
   rw[w64 (by omega) (by omega),w64 (by omega) (by omega)];rfl
  refine Jt8 (w=0) rfl (fun hw=>?_) (fun hw=>?_)
  ·refine Jd 3 (go (p+1+1+1) (by omega) (by omega)) (by omega) (by omega) rfl rfl fun z hz0 hz1=>?_;simp only[sC,sN];refine Jt8 (z=0) rfl (fun hz=>Jue ?_) (fun hz=>?_)
   ·refine⟨[u-9,v-9].take 1,p+1+1+1+1,?_,by omega,by omega,by simp⟩;show [D.s ([dI (i64.wrap (u-9)),dI (i64.wrap (v-9))].take 1),.s (Ja bs),dI (p+1+1+1+1)]=_;rw[e,VU]
   refine Jt8 (z=1) rfl (fun hz=>?_) (fun hz=>?_)
   ·refine Jus [dI (i64.wrap (u-9)),dI (i64.wrap (v-9))] 2 (by simp) (by omega) rfl ?_;refine Jue ⟨[u-9,v-9]++[0],p+1+1+1+1,?_,by omega,by omega,by simp⟩;show [D.s ([dI (i64.wrap (u-9)),dI (i64.wrap (v-9))]++[dI 0]),.s (Ja bs),dI (p+1+1+1+1)]=_;rw[e,XI]
   ·refine Jd 2 (go (p+1+1+1+1) (by omega) (by omega)) (by omega) (by omega) rfl rfl fun a ha0 ha1=>?_;refine Jd 2 (go (p+1+1+1+1+1) (by omega) (by omega)) (by omega) (by omega) rfl rfl fun b hb0 hb1=>?_;simp only[sC,sN];refine J1 [10,-10] b hb0 hb1 rfl rfl rfl rfl rfl fun x=>?_;refine Juf (0≤a) rfl ha0 ?_;refine Juf (a<2) rfl ha1 ?_;refine Jug (ds:=dL [u-9,v-9]) a rfl e rfl ha0 (JY ha0 (by simpa using ha1)) rfl ?_;refine Jue ⟨[u-9,v-9].set a.toNat x,p+1+1+1+1+1+1,?_,by omega,by omega,by simp⟩;show [D.s ([dI (i64.wrap (u-9)),dI (i64.wrap (v-9))].set a.toNat (dI x)),.s (Ja bs),dI (p+1+1+1+1+1+1)]=_;rw[e,QM]
  ·refine Jue ⟨[u-9,v-9],p+1+1+1,?_,by omega,by omega,by simp⟩;show [D.s [dI (i64.wrap (u-9)),dI (i64.wrap (v-9))],.s (Ja bs),dI (p+1+1+1)]=_;rw[e]
 obtain⟨ds,e1,a,q,rfl,e2⟩:=key;exact⟨a,q,e1,e2⟩
structure ZL (f:Frm) (v w:List Int):Prop where
 c:f.c.length=3
 d:f.d.length=2
 v3:v.length=3
 w2:w.length=2
 a : ∃ A B:Int,0≤A∧0≤B∧A*B≤1000000000000000∧Lim A f.c∧Lim A f.d∧Lim B v∧Lim B w∧-1000000000000000≤f.k∧f.k≤1000000000000000
theorem ZL.sums {f:Frm} {v w:List Int} (h:ZL f v w):(-3000000000000000≤dot f.c v∧dot f.c v≤3000000000000000)∧(-2000000000000000≤dot f.d w∧dot f.d w≤2000000000000000)∧-1000000000000000≤f.k∧f.k≤1000000000000000:=by
 obtain⟨A,B,hA,hB,hAB,h1,h2,h3,h4,h5⟩:=h.a;have a:=Km h1 h3 hA hB;have b:=Km h2 h4 hA hB;rw[h.c] at a;rw[h.d] at b;exact⟨by omega,by omega,h5⟩
theorem QI {l:List Int}:JR l=true↔l.length=3∧Lim 10000 l:=by
 unfold JR;rw[Jp];exact⟨fun h=>⟨by omega,h.2⟩,fun h=>⟨by omega,h.2⟩⟩
theorem X1 {l:List Int}:Q6 l=true↔l.length=2∧Lim 9 l:=by
 unfold Q6;rw[Jp];exact⟨fun h=>⟨by omega,h.2⟩,fun h=>⟨by omega,h.2⟩⟩
theorem ZL.std {f:Frm} {v w:List Int} (hf:Std 10000000 f) (hv:JR v=true) (hw:Q6 w=true):ZL f v w:=by
 obtain⟨v1,v2⟩:=QI.1 hv;obtain⟨w1,w2⟩:=X1.1 hw;exact⟨hf.c,hf.d,v1,w1,10000000,10000,by omega,by omega,by omega,hf.lc,hf.ld,v2,w2.mono (by omega),by have:=hf.k;omega⟩
theorem ZL.small {f:Frm} {x w:List Int} (hf:f.small=true) (hx:x.length=3) (hl:Lim 2000000000 x) (hw:Q6 w=true):ZL f x w:=by
 obtain⟨h1,h2,h3,h4,h5⟩:=XG hf;obtain⟨w1,w2⟩:=X1.1 hw;exact⟨h1,h2,hx,w1,2,2000000000,by omega,by omega,by omega,h3,h4,hl,w2.mono (by omega),by omega⟩
def Res.ds (r:Res):List D:=[dI r.code,.s (dL r.tells),.s (dL r.is)]
theorem Jpv {l:Jg} (h:l.ok=true) (h1 : ¬l.kind=1) (h2 : ¬l.kind=2) (h4 : ¬l.kind=4):l.kind=3:=by
 unfold Jg.ok at h;rw[if_neg h1,if_neg h2] at h;split at h
 ·assumption
 ·simp[h4] at h
theorem Jpa (h:Row→Nat→Bool) (as:List (List Jg)) (hf:Yj as) {fn:FuncId} {caps:List D} (hcap:XJ (.f fn caps) = .f fn caps) (har:arT L fn=some ([some 4,none]++caps.map fun _=>none))
  (hc :∀r,YD r→∀v:Nat,v<3→Ev L fn (r.cells++[dI v]++caps.map D.norm) [dB (h r v)]):Ev L f_k4e [.s (Jc as),.f fn caps] [.s (dBl (Wk h as))]:=by
 have hl:=hf.1;refine JuA (vs:=[.l (Jc as),.d (.f fn caps)]) L_k4e rfl ?_;refine Jui as.length (fun i vs=>∃ p:List Bool,vs=[.l (dBl p),.i i]∧p.length=3∧p=Wk h (as.take i)) rfl ⟨[false,false,false],rfl,rfl,rfl⟩ ?_;rintro i _ hi ⟨p,rfl,hp,hpe⟩;simp only[sC,sN];refine JtY i (JN as) rfl (fun h'=>?_) (fun h'=>?_)
 ·obtain⟨a,ha,hm⟩:=sA1 h';have hB:Wk h (as.take (i+1))=(Jv a).foldl (fun p r=>orB p (h r)) p:=by rw[hpe];exact XC ha
  refine Juo i (mA1 (f:=fun a=> .s (Jk a)) ha) rfl rfl rfl rfl ?_;refine Jur (JcW a (hf.2 a hm)) rfl rfl rfl ?_;have hrf :∀r∈Jv a,YD r:=Yf;have hrl:=Uf a;generalize Jv a=rs at *;refine Jui rs.length (fun k vs=>∃ q:List Bool,vs=[.l (dBl q),.i k]∧q.length=3∧q=(rs.take k).foldl (fun p r=>orB p (h r)) p) rfl ⟨p,rfl,hp,rfl⟩ ?_;rintro k _ hk ⟨q,rfl,hq,hqe⟩;simp only[sC,sN];refine JtY k (X7 rs) rfl (fun h''=>?_) (fun h''=>?_)
  ·obtain⟨r,hr,hmr⟩:=sA1 h'';have hfit:=hrf r hmr;have hC:(rs.take (k+1)).foldl (fun p r=>orB p (h r)) p=orB q (h r):=by rw[hqe];exact XC hr
   refine Jux k (rdR hr) rfl rfl rfl rfl rfl rfl ?_;have hO:(orB q (h r)).length=3:=by rw[ZE];exact hq
   refine Jt3 3 (fun v=>[.l (dBl ((orB q (h r)).take v++q.drop v)),.i v]) (fun _=>True) rfl rfl trivial fun v hv _=>?_;simp only[sC,sN];refine JtY v (show (dBl q).length=3 by rw[JgH];exact hq) rfl (fun hv3=>?_) (fun hv3=>?_)
   ·obtain⟨b,hb,_⟩:=sA1 (show v<q.length by omega);have ho:=WD (h:=h r) hb;have hcur:((orB q (h r)).take v++q.drop v)[v]? = some b:=by
     rw[Ju5 (by simp;omega),List.getElem?_drop];rw[show v+(v-((orB q (h r)).take v).length)=v by simp;omega];exact hb
    have nx :∀c:Bool,c=(b||h r v)→[V.l ((dBl ((orB q (h r)).take v++q.drop v)).set (v:Int).toNat (dB c)),V.i (i64.wrap ((v:Int)+1))]=[.l (dBl ((orB q (h r)).take (v+1)++q.drop (v+1))),.i ((v+1:Nat):Int)]:=by
     intro c hc';rw[←hc'] at ho;rw[wS hv3 (by omega),Jk6,Int.toNat_natCast,Joc (by omega) ho]
    refine Jux v (mA1 (f:=dB) hcur) rfl rfl rfl rfl rfl rfl ?_;refine Jud b rfl (fun hbt=>?_) (fun hbf=>?_)
    ·refine Jux v (mA1 (f:=dB) hcur) rfl rfl rfl rfl rfl rfl ?_;exact Jt4 (nx true (by simp[hbt])) ⟨hv3,rfl,trivial⟩
    ·refine Jt9 (fn:=fn) (caps:=caps) (ds:=[dB (h r v)]) (vs:=[.b (h r v)]) rfl hcap har (hc r hfit v hv3) rfl ?_;refine Jux v (mA1 (f:=dB) hcur) rfl rfl rfl rfl rfl rfl ?_;exact Jt4 (nx (h r v) (by simp[hbf])) ⟨hv3,rfl,trivial⟩
   ·have hv3:v=3:=by omega
    subst hv3;rw[JuH (by omega),List.drop_eq_nil_of_le (by omega),List.append_nil];refine Juk (Jt4 (vs:=[.l (dBl (orB q (h r))),.i ((k+1:Nat):Int)]) ?_ ⟨h'',orB q (h r),rfl,hO,hC.symm⟩);show [V.l (dBl (orB q (h r))),V.i (i64.wrap ((k:Int)+1))]=_;rw[wS h'' (by omega)]
  ·rw[tA1 h''] at hqe;refine Juk (Jt4 (vs:=[.l (dBl q),.i ((i+1:Nat):Int)]) ?_ ⟨h',q,rfl,hq,by rw[hB,hqe]⟩);show [V.l (dBl q),V.i (i64.wrap ((i:Int)+1))]=_;rw[wS h' (by omega)]
 ·refine Juk (Jue ?_);show [D.s (dBl p)]=_;rw[tA1 h'] at hpe;rw[hpe]
/- All is kept an eye on; who tells of a pot pins it; with an act more there is more: over residual programs. -/
theorem Jjs (x:Int):Ev L f_k48 [dI x] [dB (nz x)]:=JuA (vs:=[.i x]) L_k48 rfl (Jue rfl)
theorem JnD (l:List Int) (hl:l.length=3):Ev L f_k49 [.s (dL l)] [dB (decide (l=[0,0,0]))]:=by
 refine JuA (vs:=[.l (dL l)]) L_k49 rfl ?_;refine Jur (VW nz l (fn:=f_k48) (caps:=[]) (by omega) rfl rfl fun x _=>Jjs x) rfl rfl rfl (Jue ?_);show [dB (!(l.any nz))]=_;obtain⟨a,b,c,rfl⟩:=Jaa hl
 congr 3
 by_cases h1:a=0 <;> by_cases h2:b=0 <;> by_cases h3:c=0 <;> simp[nz,h1,h2,h3]
theorem Jgl (x:Int):Ev L f_k46 [dI x] [dB (nz x)]:=JuA (vs:=[.i x]) L_k46 rfl (Jue rfl)
theorem Jno (f:Frm) (hl:Lim 1000000000 f.c) (hn:f.c.length≤2000000):Ev L f_k47 f.cells [.s (dL (Jm f.c))]:=by
 refine JuA (vs:=[.l (dL f.c),.l (dL f.d),.i f.k]) L_k47 rfl ?_;refine Jur (Ys f.c hn) rfl rfl rfl ?_;refine Jur (JfF nz f.c (fn:=f_k46) (caps:=[]) hn rfl rfl fun x _=>Jgl x) rfl rfl rfl ?_;simp only[sC,sN];rcases Jcb nz f.c with ⟨hp,ha⟩ | ⟨i,x,hp,hx,hnx,ht⟩
 ·rw[hp];refine Juq rfl (Jue ?_);show [D.s (dL f.c)]=_;rw[JiG ha]
 rw[hp];have hi:=(JuE.1 hx).1;have hs:=Jh3 hx hnx ht;have hx0:x≠0:=by simpa[nz] using hnx
 refine Jt8 ((0:Int)≤(i:Int)) rfl (fun _=>?_) (fun h=>by omega);refine Jux i (mA1 (f:=dI) hx) rfl rfl rfl rfl rfl rfl ?_;simp only[sC,sN];refine Jt8 (x<0) rfl (fun hneg=>?_) (fun hpos=>Jue ?_)
 ·have hpart:Jm f.c=f.c.map fun y=>0-y:=by
   unfold Jm;rw[hs,if_neg (by omega)];apply JuZ;intro y _;omega
  rw[hpart];refine Jt3 f.c.length (fun k=>[.l (dL ((f.c.map fun y=>0-y).take k++f.c.drop k)),.i k]) (fun _=>True) rfl rfl trivial fun k hk _=>?_;simp only[sC,sN];refine JtY k (dL1 f.c) rfl (fun h=>?_) (fun h=>?_)
  ·obtain⟨y,hy,hm⟩:=sA1 h;have hly:=hl y hm;have hcur:((f.c.map fun y=>0-y).take k++f.c.drop k)[k]? = some y:=by
    rw[Ju5 (by simp;omega),List.getElem?_drop];rw[show k+(k-((f.c.map fun y=>0-y).take k).length)=k by simp;omega];exact hy
   have hny:(f.c.map fun y=>0-y)[k]? = some (0-y):=by simp[hy]
   refine Jux k (mA1 (f:=dI) hcur) rfl rfl rfl rfl rfl rfl ?_;refine Jux k (mA1 (f:=dI) hcur) rfl rfl rfl rfl rfl rfl ?_;refine Jt4 (vs:=[.l (dL ((f.c.map fun y=>0-y).take (k+1)++f.c.drop (k+1))),.i ((k+1:Nat):Int)]) ?_ ⟨h,rfl,trivial⟩;show [V.l ((dL ((f.c.map fun y=>0-y).take k++f.c.drop k)).set (k:Int).toNat (dI (i64.wrap (0-y)))),V.i (i64.wrap ((k:Int)+1))]=_;rw[wS h (by omega),w64 (by omega) (by omega),QM,Int.toNat_natCast,Joc (by simp) hny]
  ·refine Juk (Jue ?_);show [D.s (dL ((f.c.map fun y=>0-y).take k++f.c.drop k))]=_;rw[JuH (by simp;omega),List.drop_eq_nil_of_le (by omega),List.append_nil]
 ·show [D.s (dL f.c)]=_;unfold Jm;rw[hs,if_pos (by omega)]
  congr 3
  conv=>lhs;rw[←List.map_id f.c]
  apply JuZ;intro y _;show y=1*y;omega
theorem JiQ (q p:List Int) (hq:q.length≤2000000):Ev L f_k4a [.s (dL q),.q [.s (dL p)]] [dB (decide (q=p))] :=
 JuA (vs:=[.l (dL q),.d (.q [.s (dL p)])]) L_k4a rfl (Jt7 (vs:=[.l (dL p)]) rfl rfl (Jur (Jd6 q p hq) rfl rfl rfl (Jue rfl)))
theorem JpB (l:List (List Int)) (p:List Int) (hl:l.length≤2000000) (hq :∀q∈l,q.length≤2000000):Ev L f_k4c [.s (dLL l),.s (dL p)] [dI (KT l p)] :=
 JuA (vs:=[.l (dLL l),.l (dL p)]) L_k4c rfl (Jur (Jeo (fun q=>decide (q=p)) l (fn:=f_k4a) (caps:=[.q [.s (dL p)]]) hl rfl rfl fun q h=>JiQ q p (hq q h)) rfl rfl rfl (Jue rfl))
theorem Jj6 (a:List Jg) (ha:KF a):Ev L f_k3j ([.s (Jk a)]++([]:List D).map D.norm) [dB (!Qt a)] :=
 JuA (vs:=[.l (Jk a)]) L_k3j rfl (Jur (JeQ a ha) rfl rfl rfl (Jue rfl))
theorem Jbi (as:List (List Jg)) (hf:Yj as):Ev L f_k3k [.s (Jc as)] [dB (Qu as)]:=by
 have hl:=hf.1;refine JuA (vs:=[.l (Jc as)]) L_k3k rfl ?_;refine Jur (Yy as.length 1 4) rfl ?_ rfl ?_
 ·show [dI ((Jc as).length:Int),dI 1,dI 4]=_;rw[JN]
 refine Jud (inB as.length 1 4) rfl (fun h=>?_) (fun h=>Jue ?_)
 ·have e:Ev L f_k39 [.s (Jc as),.f f_k3j []] [dB (as.any fun a=>!Qt a)] :=
   Zj (g := f_k38) L_k39 rfl rfl
     (ZZ (sh:= .one .s) (as:=[(.s (.v 3))]) (ar:=[none]) (k:=4) (caps:=[]) (fun a=> .s (Jk a)) (fun a=>!Qt a) (fun a=>[.s (Jk a)]) (fun a=>[.l (Jk a)]) as
       L_k38 rfl hl rfl (fun _ _=>rfl) (fun _ _=>rfl) (fun _ _ _ _=>rfl) rfl fun a ha=>Jj6 a (hf.2 a ha))
  refine Jur e rfl rfl rfl (Jue ?_);show [dB (!(as.any fun a=>!Qt a))]=_;rw[Ul];simp[Qu,h]
 ·show [dB false]=_;simp[Qu,h]
set_option maxHeartbeats 2000000 in
theorem Jmk (as:List (List Jg)) (hf:Yj as):Ev L f_k4d [.s (Jc as)] [.s (dLL (Jb as))]:=by
 refine JuA (vs:=[.l (Jc as)]) L_k4d rfl ?_;refine Jur (Jbi as hf) rfl rfl rfl ?_;refine Jum (Qu as) rfl (fun h=>Jue ?_) (fun hok=>?_)
 ·show [D.s []]=_;simp[Jb,h,dLL]
 have h4:=(X5 hok).2.1;have hcf:Jb as=(U2 as).1:=by simp[Jb,hok]
 rw[hcf];simp only[sC,sN];refine Jt3 3 (fun v=>[.l (dLL (YJ.take v)),.i v]) (fun _=>True) rfl rfl trivial fun v hv _=>?_;simp only[sC,sN];refine JtX v 3 rfl (fun hv3=>?_) (fun hv3=>?_)
 ·refine Jur (JgQ v (by omega) (by omega)) rfl rfl rfl ?_;refine Juv (YN _) ?_;have hp:YJ[v]? = some (JA (v:Int).toNat).c:=by
   rw[Int.toNat_natCast]
   match v,hv3 with
   | 0,_ | 1,_ | 2,_=>rfl
   | n+3,h=>omega
  refine Jus (dLL (YJ.take v)) 3 (by rw[Uk];simp;omega) (by omega) rfl ?_;refine Jt4 (vs:=[.l (dLL (YJ.take (v+1))),.i ((v+1:Nat):Int)]) ?_ ⟨hv3,rfl,trivial⟩;show [V.l (dLL (YJ.take v)++[.s (dL (JA (v:Int).toNat).c)]),V.i (i64.wrap ((v:Int)+1))]=_;rw[wS hv3 (by omega),Jaf,tS1 hp]
 have hv3:v=3:=by omega
 subst hv3;refine Juk ?_;refine Jui as.length (fun i vs=>∃ b:List (List Int)×List Bool,vs=[.l (dLL b.1),.i i]∧b=U2 (as.take i)) rfl ⟨(YJ,[false,false,false]),rfl,rfl⟩ ?_;rintro i _ hi ⟨⟨b1,b2⟩,rfl,hb⟩;simp only[sC,sN];refine JtY i (JN as) rfl (fun h=>?_) (fun h=>?_)
 ·obtain⟨a,ha,hm⟩:=sA1 h;have hB:U2 (as.take (i+1))=Yk (b1,b2) a:=by rw[hb];exact XC ha
  obtain⟨f1,f2⟩:=JcG (as.take i);rw[←hb] at f1 f2;have f1:=f1.mono (show 3+384*(as.take i).length≤1600 by simp;omega);have hrl:=Uf a;refine Juo i (mA1 (f:=fun a=> .s (Jk a)) ha) rfl rfl rfl rfl ?_;refine Jur (JcW a (hf.2 a hm)) rfl rfl rfl ?_;have hrf :∀r∈Jv a,YD r:=Yf;have hAB:Yk (b1,b2) a=(Jv a).foldl QN (b1,b2):=rfl;generalize Jv a=rs at *;refine Jui rs.length (fun k vs=>∃ c:List (List Int)×List Bool,vs=[.l (dLL c.1),.i k]∧c=(rs.take k).foldl QN (b1,b2)) rfl ⟨(b1,b2),rfl,rfl⟩ ?_;rintro k _ hk ⟨⟨c1,c2⟩,rfl,hc⟩;simp only[sC,sN];refine JtY k (X7 rs) rfl (fun h'=>?_) (fun h'=>?_)
  ·obtain⟨r,hr,hmr⟩:=sA1 h';have hfit:=hrf r hmr;have hC:(rs.take (k+1)).foldl QN (b1,b2)=QN (c1,c2) r:=by rw[hc];exact XC hr
   obtain⟨g1,g2⟩:=f1.rows f2 (rs:=rs.take k) fun x hx=>hrf x (Ju1 hx);rw[←hc] at g1 g2;have g1:=g1.mono (show 1600+6*(rs.take k).length≤2000 by simp;omega);refine Jux k (rdR hr) rfl rfl rfl rfl rfl rfl ?_;simp only[sC,sN];have hR:QN (c1,c2) r=(r.guards.foldl Jo c1,QR (QR c2 r.adds) r.tells):=rfl;have hgl:=hfit.gl;refine Jui r.guards.length (fun g vs=>∃ e:List (List Int),vs=[.l (dLL e),.i g]∧e=(r.guards.take g).foldl Jo c1) rfl ⟨c1,rfl,rfl⟩ ?_;rintro g _ hg ⟨e,rfl,he⟩;simp only[sC,sN];refine JtY g (J3 r.guards) rfl (fun hg'=>?_) (fun hg'=>?_)
   ·obtain⟨f,hfg,hmf⟩:=sA1 hg';have hsf:=hfit.g f hmf;have hE:(r.guards.take (g+1)).foldl Jo c1=Jo e f:=by rw[he];exact XC hfg
    have e1:=(g1.adds (fs:=r.guards.take g) fun x hx=>hfit.g x (Ju1 hx)).mono (show 2000+(r.guards.take g).length≤2010 by simp;omega);rw[←he] at e1;have nx :∀(x:List (List Int)),x=Jo e f→[V.l (dLL x),V.i (i64.wrap ((g:Int)+1))]=[.l (dLL (Jo e f)),.i ((g+1:Nat):Int)]:=by
     intro x hx;rw[hx,wS hg' (by omega)]
    refine Juo g (mA1 (f:=Frm.g) hfg) rfl rfl rfl rfl ?_;refine Jur (Jno f (hsf.lc.mono (by omega)) (by rw[hsf.c];omega)) rfl rfl rfl ?_;simp only[sC,sN];have el:=e1.len;have hp3:(Jm f.c).length=3:=by rw[Vn];exact hsf.c
    have hAP:Jo e f=if KT e (Jm f.c)<0∧Jm f.c≠[0,0,0] then e++[Jm f.c] else e:=rfl;generalize Jm f.c=pt at *;refine Jur (JnD pt hp3) rfl rfl rfl ?_;refine Jum (decide (pt=[0,0,0])) rfl (fun hz=>?_) (fun hz=>?_)
    ·refine Jur (JpB e pt (by omega) (fun q hq=>by rw[(e1.each q hq).1];omega)) rfl rfl rfl ?_;generalize KT e pt=ha at *;refine Jt8 (ha<0) rfl (fun h0=>?_) (fun h0=>?_)
     ·refine Juv (YN _) ?_;refine Jus (dLL e) 3000 (by rw[Uk];omega) (by omega) rfl ?_;refine Jt4 (vs:=[.l (dLL (Jo e f)),.i ((g+1:Nat):Int)]) ?_ ⟨hg',Jo e f,rfl,hE.symm⟩;show [V.l (dLL e++[.s (dL pt)]),V.i (i64.wrap ((g:Int)+1))]=_;rw[Jaf];refine nx _ ?_;rw[hAP,if_pos ⟨h0,by simpa using hz⟩]
     ·refine Jt4 (nx e ?_) ⟨hg',Jo e f,rfl,hE.symm⟩;rw[hAP,if_neg];intro ⟨h,_⟩;exact h0 h
    ·refine Jt4 (nx e ?_) ⟨hg',Jo e f,rfl,hE.symm⟩;rw[hAP,if_neg];intro ⟨_,h⟩;exact h (by simpa using hz)
   ·refine Juk ?_;rw[tA1 hg'] at he;refine Jt4 (vs:=[.l (dLL e),.i ((k+1:Nat):Int)]) ?_ ⟨h',(e,(QN (c1,c2) r).2),rfl,by rw[hC,he];rfl⟩;show [V.l (dLL e),V.i (i64.wrap ((k:Int)+1))]=_;rw[wS h' (by omega)]
  ·refine Juk ?_;rw[tA1 h'] at hc;refine Jt4 (vs:=[.l (dLL c1),.i ((i+1:Nat):Int)]) ?_ ⟨h,(c1,c2),rfl,by rw[hB,hAB,hc]⟩;show [V.l (dLL c1),V.i (i64.wrap ((i:Int)+1))]=_;rw[wS h (by omega)]
 ·refine Juk (Jue ?_);show [D.s (dLL b1)]=_;rw[tA1 h] at hb;rw[←hb]
def Ut (as:List (List Jg)):Prop:=as.length≤5∧∀a∈as,K8 a
theorem Ut.fit {as:List (List Jg)} (h:Ut as):Yj as:=⟨by have:=h.1;omega,fun a ha=>(h.2 a ha).fit⟩
theorem JmX (as:List (List Jg)) (k:Nat) (a:List Jg):(Jc as).set k (.s (Jk a))=Jc (as.set k a):=by simp[Jc,List.map_set]
theorem JeB {bs:List Int} {p n:Int} (hr:Rdr bs p) (hf:p≤999999950000) (n1:1≤n) (n2:n≤2000000) :
  ∃ as q,Ev L f_k30 [.s (Ja bs),dI p,dI n] [.s (Jc as),.s (Ja bs),dI q]∧p≤q∧q≤p+2000∧Ut as:=by
 have key : ∃ ds,Ev L f_k30 [.s (Ja bs),dI p,dI n] ds∧∃ as q,ds=[.s (Jc as),.s (Ja bs),dI q]∧p≤q∧q≤p+2000∧Ut as:=by
  refine Juy (vs:=[.l (Ja bs),.i p,.i n]) L_k30 rfl ?_;obtain⟨as,q,e,q1,q2,hs,hl1⟩:=Jdg hr (by omega);refine Jur e rfl rfl rfl ?_;have ht:Ut as:=⟨by have:=hs.1;omega,fun a ha=>(hs.2 a ha).thin⟩;have hs4:=hs.1;refine Jd n (hr.go (q:=q) (by omega) (by omega)) n1 n2 rfl rfl fun u hu0 hu1=>?_;simp only[sC,sN];refine Jt8 (0<u) rfl (fun _=>Jue ⟨as,q+1,rfl,by omega,by omega,ht⟩) (fun _=>?_);refine Jd 3 (hr.go (q:=q+1) (by omega) (by omega)) (by omega) (by omega) rfl rfl fun v hv0 hv1=>?_;simp only[sC,sN];obtain⟨a0,ha0,hm0⟩:=sA1 (show 0<as.length by omega);refine Jt8 (v=0) rfl (fun _=>?_) (fun _=>?_)
  ·obtain⟨a,o,ea,o1,o2,ha⟩:=Jgz (hr.go (q:=q+1+1) (by omega) (by omega)) (by omega) (n:=1) (by omega) (by omega);refine Jur ea rfl rfl rfl ?_;simp only[sC,sN];refine Juf ((0:Int)<((Jc as).length:Int)) rfl (by rw[JN];omega) ?_;refine Juo 0 (mA1 (f:=fun a=> .s (Jk a)) ha0) rfl rfl rfl rfl ?_;refine Jue ⟨as.set 0 a,o,?_,by omega,by omega,by simp;omega,?_⟩
   ·show [D.s ((Jc as).set (0:Int).toNat (.s (Jk a))),.s (Ja bs),dI o]=_;rw[JmX];rfl
   ·intro x hx;rcases Ju2 hx with hx | hx
    ·exact ht.2 x hx
    ·subst hx;exact ha
  refine Jt8 (v=1) rfl (fun _=>Jue ⟨[],q+1+1,rfl,by omega,by omega,by simp,by simp⟩) (fun _=>?_);refine Jt6 (fun m vs=>∃ bs':List (List Jg),vs=[.l (Jc bs')]∧Ut bs'∧1≤bs'.length∧m=5-bs'.length) rfl (5-as.length) ⟨as,rfl,ht,hl1,rfl⟩ ?_;rintro m _ ⟨cs,rfl,hc,hc1,hm⟩;simp only[sC,sN];refine Jt8 ((cs.length:Int)≤4) (by show decide (((Jc cs).length:Int)≤4)=_;rw[JN]) (fun h4=>?_) (fun _=>Juk (Jue ⟨cs,q+1+1,rfl,by omega,by omega,hc⟩));obtain⟨c0,hc0,hmc⟩:=sA1 (show 0<cs.length by omega);refine Juf ((0:Int)<((Jc cs).length:Int)) rfl (by rw[JN];omega) ?_;refine Juo 0 (mA1 (f:=fun a=> .s (Jk a)) hc0) rfl rfl rfl rfl ?_;refine Jus (Jc cs) 10 (by rw[JN];omega) (by omega) rfl ?_;refine Jt4 (vs:=[.l (Jc (cs++[c0]))]) ?_ ⟨5-(cs++[c0]).length,by simp;omega,cs++[c0],rfl,⟨by simp;omega,?_⟩,by simp,rfl⟩
  ·show [V.l (Jc cs++[.s (Jk c0)])]=_;rw[WI]
  ·intro x hx;rcases JuI.1 hx with hx | hx
   ·exact hc.2 x hx
   ·simp at hx;subst hx;exact hc.2 x hmc
 obtain⟨ds,e1,as,q,rfl,e2⟩:=key;exact⟨as,q,e1,e2⟩
theorem Jjw (f:Frm) (hf:f.c.length=3) (v:Nat) (hv:v<3):Ev L f_k4h (f.cells++[D.q [dI v]].map D.norm) [dB (decide (f.c.getD v 0≠0))]:=by
 refine JuA (vs:=[.l (dL f.c),.l (dL f.d),.i f.k,.d (.q [dI v])]) L_k4h rfl ?_;refine Jt7 (vs:=[.i v]) rfl rfl ?_;refine Juo v (mA1 (f:=dI) (JaT (by omega))) rfl rfl rfl rfl (Jue ?_);show [dB (!(decide (f.c.getD v 0=0)))]=_;simp
theorem JoY (r:Row) (hr:YD r) (v:Nat) (hv:v<3):Ev L f_k4i (r.cells++[dI v]++([]:List D).map D.norm) [dB (Zs r v)]:=by
 refine JuA (vs:=[.l (dF r.guards),.l (dF r.adds),.l (dF r.tells),.b r.stop,.i v]) L_k4i rfl ?_;have ha:=hr.al;have ht:=hr.tl;refine Jur (Jm6 [r.adds,r.tells] (by simp) (by simp;omega)) rfl rfl rfl ?_;have hfl:[r.adds,r.tells].flatten=r.adds++r.tells:=by simp
 rw[hfl];have h3 :∀f∈r.adds++r.tells,f.c.length=3:=by
  intro f hf;rcases JuI.1 hf with hf | hf
  ·exact(hr.a f hf).c
  ·exact(hr.t f hf).c
 have hlen:(r.adds++r.tells).length≤2000000:=by simp;omega
 unfold Zs;generalize r.adds++r.tells=all at *;exact Jur (Jff (fun f=>decide (f.c.getD v 0≠0)) all (fn:=f_k4h) (caps:=[.q [dI v]]) hlen rfl rfl fun f hf=>Jjw f (h3 f hf) v hv) rfl rfl rfl (Jue rfl)
theorem Jon (as:List (List Jg)) (hf:Yj as):Ev L f_k4j [.s (Jc as)] [.s (dBl (Jj as))]:=by
 refine JuA (vs:=[.l (Jc as)]) L_k4j rfl ?_;refine Jur (Jbi as hf) rfl rfl rfl ?_;refine Jum (Qu as) rfl (fun h=>Jue ?_) (fun h=>?_)
 ·show [D.s []]=_;simp[Jj,h,dBl]
 ·refine Jur (Jpa Zs as hf (fn:=f_k4i) (caps:=[]) rfl rfl fun r hr v hv=>JoY r hr v hv) rfl rfl rfl (Jue ?_);show [D.s (dBl (Wk Zs as))]=_;rw[JcV h]
/- There is one way,and it is the act; what an act does not read turns no answer; with an act more there is more: over residual programs. -/
theorem Jn0 {f:Frm} {v w:List Int} (h:ZL f v w) : -6000000000000000≤atF f v w∧atF f v w≤6000000000000000:=by
 obtain⟨s1,s2,s3⟩:=h.sums;unfold atF;omega
theorem Jpk {fs:List Frm} {v w:List Int} (h :∀f∈fs,ZL f v w):Lim 6000000000000000 (atL fs v w):=by
 intro x hx;simp only[atL,List.mem_map] at hx;obtain⟨f,hf,rfl⟩:=hx;exact Jn0 (h f hf)
theorem Jnb (c1 c2:Int) (t1 t2:List Int) (hl:t1.length≤2000000):Ev L f_k5n [dI c1,.s (dL t1),dI c2,.s (dL t2)] [dB (decide (c1=c2)&&decide (t1=t2))]:=by
 refine JuA (vs:=[.i c1,.l (dL t1),.i c2,.l (dL t2)]) L_k5n rfl ?_;refine Jt8 (c1=c2) rfl (fun h=>?_) (fun h=>Jue ?_)
 ·refine Jur (JfM t1 t2 hl) rfl rfl rfl (Jue ?_);rw[decide_eq_true h];rfl
 ·rw[decide_eq_false h];rfl
theorem Jjr (l:List Int) (hl:l.length≤2000000):Ev L f_k18 [.s (dL l)] [dB (Q6 l)] :=
 JuA (vs:=[.l (dL l)]) L_k18 rfl (Jur (Xr l 2 9 hl (by omega) (by omega)) rfl rfl rfl (Jue rfl))
/- What one site knows is so for all; who is alone knows all: over residual programs. -/
theorem Jkl (b g:List Int) (s:Int) (hg :∀x∈g,0≤x∧x≤50) (hl:g.length≤2000000):Ev L f_k24 [.s (dL b),.s (dL g),dI s] [dI (JJ g s)]:=by
 refine JuA (vs:=[.l (dL b),.l (dL g),.i s]) L_k24 rfl ?_;refine Jt3 g.length (fun i=>[.i (JJ (g.take i) s),.i i]) (fun _=>True) rfl rfl trivial fun i hi _=>?_;simp only[sC,sN];refine JtY i (dL1 g) rfl (fun h=>?_) (fun h=>?_)
 ·obtain⟨x,hx,hm⟩:=sA1 h;have hst:=Yu (s:=s) hx;have hle:=Jbo (s:=s) hg i hi;have hxb:=hg x hm;refine Jum (decide ((i:Int)=s)) rfl (fun hs=>?_) (fun hs=>?_)
  ·refine Juo i (mA1 (f:=dI) hx) rfl rfl rfl rfl ?_;refine Jt4 (vs:=[.i (JJ (g.take (i+1)) s),.i ((i+1:Nat):Int)]) ?_ ⟨h,rfl,trivial⟩;show [V.i (i64.wrap (JJ (g.take i) s+x)),V.i (i64.wrap ((i:Int)+1))]=_;rw[wS h (by omega),hst,if_neg (by simpa using hs),w64 (by omega) (by omega)]
  ·refine Jt4 (vs:=[.i (JJ (g.take (i+1)) s),.i ((i+1:Nat):Int)]) ?_ ⟨h,rfl,trivial⟩;show [V.i (JJ (g.take i) s),V.i (i64.wrap ((i:Int)+1))]=_;rw[wS h (by omega),hst,if_pos (by simpa using hs),Int.add_zero]
 ·refine Juk (Jue ?_);rw[tA1 h];rfl
def B3 (r:Int×Int×Bool):List D:=[dI r.1,dI r.2.1,dB r.2.2]
theorem Jir {a b:List Int} {A B:Int} (ha:Lim A a) (hb:Lim B b):Lim (A+B) (Qp a b):=by
 have:=Jd5 (n:=1) (N:=1) ha hb (by omega);have e:Qi a b 1=Qp a b:=by
  unfold Qi Qp
  congr 1
  funext x y;omega
 rw[e] at this;exact this.mono (by omega)
theorem ZL.here {f:Frm} {b a w:List Int} (hf:f.ok=true) (hb:JR b=true) (ha:QO a=true) (hw:Q6 w=true):ZL f (Qp b a) w:=by
 have hs:=JnN hf;obtain⟨b1,b2⟩:=QI.1 hb;obtain⟨a1,a2⟩:=Jp.1 ha;obtain⟨w1,w2⟩:=X1.1 hw;refine⟨hs.c,hs.d,by rw[ZU (by omega)];exact b1,w1,10000000,30000,by omega,by omega,by omega,hs.lc,hs.ld,(Jir b2 (B:=20000) a2).mono (by omega),w2.mono (by omega),by have:=hs.k;omega⟩
theorem Jg0 {f:Frm} {v w:List Int} (h:ZL f v w):Ev L f_k23 (f.cells++[.s (dL v),.s (dL w)]) [dI (atF f v w)]:=by
 obtain⟨A,B,hA,hB,hAB,h1,h2,h3,h4,h5⟩:=h.a;have h0:0≤A*B:=Int.mul_nonneg hA hB;have c3:=h.c;have d2:=h.d;have v3:=h.v3;have w2:=h.w2;have lim :∀(c x:List Int) (i:Nat),Lim A c→Lim B x→i≤3→-3000000000000000≤dot (c.take i) (x.take i)∧dot (c.take i) (x.take i)≤3000000000000000:=by
  intro c x i hc hx hi;have:=Km (hc.take i) (hx.take i) hA hB;have hl:((c.take i).length:Int)≤3:=by simp;omega
  have:=Int.mul_le_mul_of_nonneg_left hl h0;omega
 refine JuA (vs:=[.l (dL f.c),.l (dL f.d),.i f.k,.l (dL v),.l (dL w)]) L_k23 rfl ?_;refine Jt3 3 (fun i=>[.i (f.k+dot (f.c.take i) (v.take i)),.i i]) (fun _=>True) rfl (by simp[dot,den,Jn,V.int]) trivial fun i hi _=>?_;simp only[sC,sN];refine JtX i 3 rfl (fun hi3=>?_) (fun hi3=>?_)
 ·obtain⟨x,hx,hmx⟩:=sA1 (show i<f.c.length by omega);obtain⟨y,hy,hmy⟩:=sA1 (show i<v.length by omega);have hp:=Uj (h1 x hmx) (h3 y hmy);have hl:=lim f.c v i h1 h3 hi;refine Juo i (mA1 (f:=dI) hx) rfl rfl rfl rfl ?_;refine Juo i (mA1 (f:=dI) hy) rfl rfl rfl rfl ?_;refine Jt4 (vs:=[.i (f.k+dot (f.c.take (i+1)) (v.take (i+1))),.i ((i+1:Nat):Int)]) ?_ ⟨hi3,rfl,trivial⟩;show [V.i (i64.wrap (f.k+dot (f.c.take i) (v.take i)+i64.wrap (x*y))),V.i (i64.wrap ((i:Int)+1))]=_;rw[wS hi3 (by omega),w64 (n:=x*y) (by omega) (by omega),w64 (by omega) (by omega),JdT hx hy,Int.add_assoc]
 have hi3:i=3:=by omega
 subst hi3;rw[JuH (by omega),JuH (by omega)];refine Juk ?_;have hcv:=lim f.c v 3 h1 h3 (by omega);rw[JuH (by omega),JuH (by omega)] at hcv;refine Jt3 2 (fun i=>[.i (f.k+dot f.c v+dot (f.d.take i) (w.take i)),.i i]) (fun _=>True) rfl (by simp[dot,den,Jn,V.int]) trivial fun i hi _=>?_;simp only[sC,sN];refine JtX i 2 rfl (fun hi2=>?_) (fun hi2=>?_)
 ·obtain⟨x,hx,hmx⟩:=sA1 (show i<f.d.length by omega);obtain⟨y,hy,hmy⟩:=sA1 (show i<w.length by omega);have hp:=Uj (h2 x hmx) (h4 y hmy);have hl:=lim f.d w i h2 h4 (by omega);refine Juo i (mA1 (f:=dI) hx) rfl rfl rfl rfl ?_;refine Juo i (mA1 (f:=dI) hy) rfl rfl rfl rfl ?_;refine Jt4 (vs:=[.i (f.k+dot f.c v+dot (f.d.take (i+1)) (w.take (i+1))),.i ((i+1:Nat):Int)]) ?_ ⟨hi2,rfl,trivial⟩;show [V.i (i64.wrap (f.k+dot f.c v+dot (f.d.take i) (w.take i)+i64.wrap (x*y))),V.i (i64.wrap ((i:Int)+1))]=_;rw[wS hi2 (by omega),w64 (n:=x*y) (by omega) (by omega),w64 (by omega) (by omega),JdT hx hy,Int.add_assoc (f.k+dot f.c v)]
 ·refine Juk (Jue ?_);show [dI (f.k+dot f.c v+dot (f.d.take i) (w.take i))]=_;rw[JuH (by omega),JuH (by omega),show f.k+dot f.c v+dot f.d w=atF f v w by unfold atF;omega]
theorem Jpc {a b:List Int} (ha:a.length=3) (hb:b.length=3) (la:Lim 1000000000 a) (lb:Lim 1000000000 b):Ev L f_k22 [.s (dL a),.s (dL b)] [.s (dL (Qp a b))]:=by
 refine JuA (vs:=[.l (dL a),.l (dL b)]) L_k22 rfl ?_;refine Jt3 3 (fun i=>[.l (dL ((Qp a b).take i)),.i i]) (fun _=>True) rfl rfl trivial fun i hi _=>?_;simp only[sC,sN];refine JtX i 3 rfl (fun h=>?_) (fun h=>?_)
 ·obtain⟨x,hx,hmx⟩:=sA1 (show i<a.length by omega);obtain⟨y,hy,hmy⟩:=sA1 (show i<b.length by omega);have hxl:=la x hmx;have hyl:=lb y hmy;have hs:(Qp a b)[i]? = some (x+y):=by unfold Qp;rw[List.getElem?_zipWith,hx,hy]
  refine Juo i (mA1 (f:=dI) hx) rfl rfl rfl rfl ?_;refine Juo i (mA1 (f:=dI) hy) rfl rfl rfl rfl ?_;refine Jus (dL ((Qp a b).take i)) 10 (by rw[dL1];simp;omega) (by omega) rfl ?_;refine Jt4 (vs:=[.l (dL ((Qp a b).take (i+1))),.i ((i+1:Nat):Int)]) ?_ ⟨h,rfl,trivial⟩;show [V.l (dL ((Qp a b).take i)++[dI (i64.wrap (x+y))]),V.i (i64.wrap ((i:Int)+1))]=_;rw[wS h (by omega),w64 (by omega) (by omega),XI,tS1 hs]
 ·refine Juk (Jue ?_);show [D.s (dL ((Qp a b).take i))]=_;rw[JuH (by rw[ZU (by omega)];omega)]
theorem Jj5 {b g:List Int} {ps:List (List Int)} {s:Int} {a:List Int} (h:QG b g ps s a=true):JR b=true∧(∀x∈g,0≤x∧x≤50)∧QO a=true:=by
 simp only[QG,Qw,JuD,JuQ,Jq] at h;exact⟨h.1.1.1.1.1,h.1.1.1.2,h.2⟩
theorem Jdk (b g:List Int) (ps:List (List Int)) (s:Int) (a:List Int) (f:Frm) (w:List Int) (hb:b.length≤2000000) (hg:g.length≤2000000) (hp:fitLL ps) (ha:a.length≤2000000) (hf:Frm.fit f) (hw:w.length≤2000000) :
  Ev L f_k25 ([.s (dL b),.s (dL g),.s (dLL ps),dI s,.s (dL a)]++f.cells++[.s (dL w)]) (B3 (JS b g ps s a f w)):=by
 refine JuA (vs:=[.l (dL b),.l (dL g),.l (dLL ps),.i s,.l (dL a),.l (dL f.c),.l (dL f.d),.i f.k,.l (dL w)]) L_k25 rfl ?_;have none:(QG b g ps s a&&f.ok&&Q6 w)=false→JS b g ps s a f w=(0,0,false):=fun h=>by
  unfold JS;unfold QG at h;rw[h];rfl
 refine Jur (Jbf b g hb hg) rfl rfl rfl ?_;refine Jum (Qw b g) rfl (fun h=>Jue ?_) (fun h=>?_)
 ·rw[none (by simp[QG,h])];rfl
 refine Jur (Jc7 ps hp) rfl rfl rfl ?_;refine Jum (QP ps) rfl (fun h'=>Jue ?_) (fun h'=>?_)
 ·rw[none (by simp[QG,h'])];rfl
 refine Jur (JP s 0 (g.length-1)) rfl ?_ rfl ?_
 ·show [dI s,dI 0,dI (i64.wrap (((dL g).length:Int)-1))]=_;rw[dL1,w64 (by omega) (by omega)]
 refine Jum (inB s 0 (g.length-1)) rfl (fun h''=>Jue ?_) (fun h''=>?_)
 ·rw[none (by simp[QG,h''])];rfl
 refine Jur (Xr a 3 20000 ha (by omega) (by omega)) rfl rfl rfl ?_;refine Jum (JF 3 20000 a) rfl (fun h3=>Jue ?_) (fun h3=>?_)
 ·rw[none (by simp[QG,QO,h3])];rfl
 have hfine:QG b g ps s a=true:=by simp only[QG,QO,h,h',h'',h3];rfl
 refine Jur (Jit f hf) rfl rfl rfl ?_;refine Jum f.ok rfl (fun h2=>Jue ?_) (fun h2=>?_)
 ·rw[none (by simp[h2])];rfl
 refine Jur (Jjr w hw) rfl rfl rfl ?_;refine Jum (Q6 w) rfl (fun h3=>Jue ?_) (fun h4=>?_)
 ·rw[none (by simp[h3])];rfl
 simp only[sC,sN];obtain⟨v1,v2,v3⟩:=Jj5 hfine;obtain⟨b1,b2⟩:=QI.1 v1;obtain⟨a1,a2⟩:=Jp.1 v3;have hat:=ZL.here h2 v1 v3 h4;have hlim:=Jn0 hat;have hstd:=JnN h2;have hM:JS b g ps s a f w=if f.c=[0,0,0] then(atF f (Qp b a) w,atF f (Qp b a) w,true) else if Jm f.c∈ps then(atF f (Qp b a) w-JJ g s,atF f (Qp b a) w+JJ g s,true) else(0,0,false):=by
  unfold JS;unfold QG at hfine;rw[hfine,h2,h4];rfl
 rw[hM];refine Jur (Jpc b1 (by omega) (b2.mono (by omega)) (Lim.mono (m:=20000) a2 (by omega))) rfl rfl rfl ?_;refine Jur (Jg0 hat) rfl rfl rfl ?_;refine Jur (JcM f (hstd.lc.mono (by omega)) (by rw[hstd.c];omega)) rfl rfl rfl ?_;refine Jur XQ rfl rfl rfl ?_;refine Jur (Ja4 (Jm f.c) [0,0,0] (by rw[Vn,hstd.c];omega)) rfl rfl rfl ?_;have hol:=Jbo (s:=s) v2 g.length (Nat.le_refl _);rw[JuH (Nat.le_refl _)] at hol;have hO:=Jkl b g s v2 hg;simp only[sC,sN];generalize atF f (Qp b a) w=n at *;generalize JJ g s=o at *;have hpz:=Jfy hstd.c;refine Jud (decide (Jm f.c=[0,0,0])) rfl (fun hz=>Jue ?_) (fun hz=>?_)
 ·rw[if_pos (hpz.1 (by simpa using hz))];rfl
 rw[if_neg (fun e=>by simp[hpz.2 e] at hz)];refine Jur (JfD ps (Jm f.c) hp.1 hp.2) rfl rfl rfl ?_;simp only[sC,sN];refine Jt8 (KT ps (Jm f.c)<0) rfl (fun hh=>Jue ?_) (fun hh=>?_)
 ·rw[if_neg ((Jfl _ _).1 hh)];rfl
 ·rw[if_pos ((W5 _ _).1 (by omega))];refine Jur hO rfl rfl rfl ?_;refine Jur hO rfl rfl rfl (Jue ?_);show [dI (i64.wrap (n-o)),dI (i64.wrap (n+o)),dB true]=_;rw[w64 (n:=n-o) (by omega) (by omega),w64 (n:=n+o) (by omega) (by omega)];rfl
/- What a site does alone: over residual programs. -/
theorem Jt0 {l:List V} {Q:Oc→Prop} {r:R} {c:Nat} {N:Int} (x:List Int) (hx:x.length≤1000) (hN:1000≤N) (he:lst (Jn l) (.v c)=dL x) (h:WR L r l Q) :
  WR L (.i (.chk (.cmp .le (.len (.v c)) (.z N))) (.i (.head 1 (.v c)) (.i (.chk (.cmp .le (.len (.app .nil (.v c))) (.z N))) r))) l Q :=
 Juj (dL x) 1000 (by rw[dL1];omega) hN he (Juc (by rw[he];exact JT x) (Juj (dL x) 1000 (by rw[dL1];omega) hN he h))
theorem WA {pins:List Bool} {a:List Int} {i:Nat} {x:Int} {b:Bool} (hx:a[i]? = some x) (hb:pins[i]? = some b):(a.zip pins)[i]? = some (x,b):=by
 rw[List.getElem?_zip_eq_some];exact⟨hx,hb⟩
theorem JhY (as:List (List Jg)) (ps:List (List Int)) (pins:List Bool) (a:List Int) (hp:pins.length=3) (ha:a.length=3):Ev L f_k56 [.s (Jc as),.s (dLL ps),.s (dBl pins),.s (dL a)] [dB (Qc pins a)]:=by
 refine JuA (vs:=[.l (Jc as),.l (dLL ps),.l (dBl pins),.l (dL a)]) L_k56 rfl ?_;refine Jt3 a.length (fun i=>[.i i]) (fun i=>((a.zip pins).take i).all (fun q=>!(q.2 && !decide (q.1=0)))=true) rfl rfl rfl fun i hi hq=>?_;simp only[sC,sN];refine JtY i (dL1 a) rfl (fun h=>?_) (fun h=>?_)
 ·obtain⟨x,hx,_⟩:=sA1 h;obtain⟨b,hb,_⟩:=sA1 (show i<pins.length by omega);have hz:=WA hx hb;refine Juo i (mA1 (f:=dI) hx) rfl rfl rfl rfl ?_;refine Jum (decide (x=0)) rfl (fun h0=>?_) (fun h0=>?_)
  ·refine Juo i (mA1 (f:=dB) hb) rfl rfl rfl rfl ?_;refine Jud b rfl (fun hb1=>Juk (Jue ?_)) (fun hb1=>?_)
   ·show [dB false]=_;unfold Qc;rw[Yl hz (by simp only[h0,hb1];rfl)]
   ·refine Jt4 (vs:=[.i ((i+1:Nat):Int)]) ?_ ⟨h,rfl,QY hz hq (by simp only[hb1];rfl)⟩;show [V.i (i64.wrap ((i:Int)+1))]=_;rw[wS h (by omega)]
  ·refine Jt4 (vs:=[.i ((i+1:Nat):Int)]) ?_ ⟨h,rfl,QY hz hq (by simp only[h0];simp)⟩;show [V.i (i64.wrap ((i:Int)+1))]=_;rw[wS h (by omega)]
 ·refine Juk (Jue ?_);rw[JuH (by simp;omega)] at hq;unfold Qc;rw[hq];rfl
theorem WO (pins:List Bool) (a:List Int) (hp:pins.length=3) (ha:a.length=3):Ev L f_k1i [.s (dBl pins),.s (dL a)] [dB (Qc pins a)]:=by
 refine JuA (vs:=[.l (dBl pins),.l (dL a)]) L_k1i rfl ?_;refine Jt3 3 (fun i=>[.i i]) (fun i=>((a.zip pins).take i).all (fun q=>!(q.2 && !decide (q.1=0)))=true) rfl rfl rfl fun i hi hq=>?_;simp only[sC,sN];refine JtX i 3 rfl (fun h=>?_) (fun h=>?_)
 ·obtain⟨x,hx,_⟩:=sA1 (show i<a.length by omega);obtain⟨b,hb,_⟩:=sA1 (show i<pins.length by omega);have hz:=WA hx hb;refine Juo i (mA1 (f:=dB) hb) rfl rfl rfl rfl ?_;refine Jud b rfl (fun hb1=>?_) (fun hb1=>?_)
  ·refine Juo i (mA1 (f:=dI) hx) rfl rfl rfl rfl ?_;refine Jum (decide (x=0)) rfl (fun h0=>Juk (Jue ?_)) (fun h0=>?_)
   ·show [dB false]=_;unfold Qc;rw[Yl hz (by simp only[h0,hb1];rfl)]
   ·refine Jt4 (vs:=[.i ((i+1:Nat):Int)]) ?_ ⟨h,rfl,QY hz hq (by simp only[h0];simp)⟩;show [V.i (i64.wrap ((i:Int)+1))]=_;rw[wS h (by omega)]
  ·refine Jt4 (vs:=[.i ((i+1:Nat):Int)]) ?_ ⟨h,rfl,QY hz hq (by simp only[hb1];rfl)⟩;show [V.i (i64.wrap ((i:Int)+1))]=_;rw[wS h (by omega)]
 ·refine Juk (Jue ?_);rw[JuH (by simp;omega)] at hq;unfold Qc;rw[hq];rfl
theorem JjN (as:List (List Jg)) (hf:Yj as):Ev L f_k4k [.s (Jc as)] [.s (Jc as),.s (dLL (Jb as)),.s (dBl (Jj as))]:=by
 refine JuA (vs:=[.l (Jc as)]) L_k4k rfl ?_;refine Jur (Jmk as hf) rfl rfl rfl ?_;refine Jur (Jon as hf) rfl rfl rfl (Jue rfl)
theorem VY {b g:List Int} {ps:List (List Int)} {s:Int} {a:List Int} (h:keeps b g ps s a=true):a.length=3:=(ZC (Xv h)).2.2.2.2.2.1.1
theorem Jm1 (as:List (List Jg)) (ps:List (List Int)) (pins:List Bool) (b g:List Int) (s:Int) (a:List Int) (hpi:pins.length=3) (hb:b.length≤2000000) (hg:g.length≤2000000) (hp:fitLL ps) (ha:a.length≤2000000) :
  Ev L f_k57 [.s (Jc as),.s (dLL ps),.s (dBl pins),.s (dL b),.s (dL g),dI s,.s (dL a)] [dB (keeps b g ps s a&&Qc pins a)]:=by
 refine JuA (vs:=[.l (Jc as),.l (dLL ps),.l (dBl pins),.l (dL b),.l (dL g),.i s,.l (dL a)]) L_k57 rfl ?_;refine Jur (Jis b g ps s a hb hg hp ha) rfl rfl rfl ?_;refine Jud (keeps b g ps s a) rfl (fun h=>?_) (fun h=>Jue ?_)
 ·refine Jur (JhY as ps pins a hpi (VY h)) rfl rfl rfl (Jue ?_);rw[h];rfl
 ·rw[h];rfl
def Jnx (b g:List Int) (ps:List (List Int)) (s:Int) (a w:List Int) (f:Frm):Bool:=(JS b g ps s a f w).2.2&&decide (0≤(JS b g ps s a f w).1)
structure FitB (b g:List Int) (ps:List (List Int)) (a w:List Int):Prop where
 b:b.length≤2000000
 g:g.length≤2000000
 p:fitLL ps
 a:a.length≤2000000
 w:w.length≤2000000
theorem JlX (b g:List Int) (ps:List (List Int)) (s:Int) (a w:List Int) (h:FitB b g ps a w) (r:Row) (hr:YD r) :
  Ev L f_k26 ([.s (dL b),.s (dL g),.s (dLL ps),dI s,.s (dL a)]++r.cells++[.s (dL w)]) [dB (K9 b g ps s a w r)]:=by
 refine JuA (vs:=[.l (dL b),.l (dL g),.l (dLL ps),.i s,.l (dL a),.l (dF r.guards),.l (dF r.adds),.l (dF r.tells),.b r.stop,.l (dL w)]) L_k26 rfl ?_;have hgl:=hr.gl;refine Jt3 r.guards.length (fun i=>[.i i]) (fun i=>(r.guards.take i).all (Jnx b g ps s a w)=true) rfl rfl rfl fun i hi hq=>?_;simp only[sC,sN];have hS:K9 b g ps s a w r=r.guards.all (Jnx b g ps s a w):=rfl;rw[hS];refine JtY i (J3 r.guards) rfl (fun h'=>?_) (fun h'=>?_)
 ·obtain⟨f,hf,hm⟩:=sA1 h';refine Juo i (mA1 (f:=Frm.g) hf) rfl rfl rfl rfl ?_;refine Jur (Jdk b g ps s a f w h.b h.g h.p h.a (hr.g f hm).fit h.w) rfl rfl rfl ?_;simp only[sC,sN];have hF:Jnx b g ps s a w f=((JS b g ps s a f w).2.2&&decide (0≤(JS b g ps s a f w).1)):=rfl;generalize JS b g ps s a f w=B at *;refine Jum B.2.2 rfl (fun h1=>Juk (Jue ?_)) (fun h1=>?_)
  ·rw[Yl hf (by rw[hF,h1];rfl)];rfl
  refine Jt8 (B.1<0) rfl (fun h2=>Juk (Jue ?_)) (fun h2=>?_)
  ·rw[Yl hf (by rw[hF,h1];simp;omega)];rfl
  refine Jt4 (vs:=[.i ((i+1:Nat):Int)]) ?_ ⟨h',rfl,QY hf hq (by rw[hF,h1];simp;omega)⟩;show [V.i (i64.wrap ((i:Int)+1))]=_;rw[wS h' (by omega)]
 ·refine Juk (Jue ?_);rw[tA1 h'] at hq;rw[hq];rfl
/- What a site does alone: the tries themselves,over residual programs. -/
theorem Jgn {b w:List Int} (hb:JR b=true) (hw:Q6 w=true) {fs:List Frm} (hf :∀f∈fs,Std 10000000 f) :∀f∈fs,ZL f b w:=fun f hm=>ZL.std (hf f hm) hb hw
theorem JgF (fs:List Frm) (v w:List Int):(atL fs v w).length=fs.length:=by simp[atL]
theorem Jen {i:Nat} (h:i<3):[0,1,2][i]? = some i:=by
 match i,h with
 | 0,_ | 1,_ | 2,_=>rfl
theorem Vd {as:List (List Jg)} (h:Qu as=true):(Jj as).length=3:=by rw[JcV h,JoX]
def Jc3 (O U:Nat→Bool) (b g:List Int) (ps:List (List Int)) (s:Int) (a w:List Int):Prop :=
 ∀i,O i=([0,1,2].take i).any (ovM b g ps s a w)∧U i=([0,1,2].take i).any (unM b g ps s a w)
theorem Jc3.step {O U:Nat→Bool} {b g:List Int} {ps:List (List Int)} {s:Int} {a w:List Int} (h:Jc3 O U b g ps s a w) {i:Nat} (hi:i<3) :
  O (i+1)=(O i||(decide (10000<(JS b g ps s a (JA i) w).1)||decide ((JS b g ps s a (JA i) w).2.1 < -10000))) ∧
  U (i+1)=(U i||(decide ((JS b g ps s a (JA i) w).1 < -10000)||decide (10000<(JS b g ps s a (JA i) w).2.1))):=by
 rw[(h (i+1)).1,(h (i+1)).2,(h i).1,(h i).2,Jhe (Jen hi),Jhe (Jen hi)];exact⟨rfl,rfl⟩
theorem Jc3.zero {O U:Nat→Bool} {b g:List Int} {ps:List (List Int)} {s:Int} {a w:List Int} (h:Jc3 O U b g ps s a w):O 0=false∧U 0=false:=⟨(h 0).1,(h 0).2⟩
theorem Jc3.three {O U:Nat→Bool} {b g:List Int} {ps:List (List Int)} {s:Int} {a w:List Int} (h:Jc3 O U b g ps s a w):O 3=[0,1,2].any (ovM b g ps s a w)∧U 3=[0,1,2].any (unM b g ps s a w):=⟨(h 3).1,(h 3).2⟩
end Go.Proofs.YtofcmnglieaoeabGreatDoor

import Derived.Test.YtofcmnglieaoeaaGreatDoorPP
import Derived.Test.YtofcmnglieaoeaaGreatDoorPM
import Derived.Test.YtofcmnglieaoeaaGreatDoorTd
set_option linter.unusedVariables false
set_option linter.unusedSimpArgs false
/- Each way is ok,and there are at most two for each test: over residual programs. -/
namespace Go.Proofs.YtofcmnglieaoeaaGreatDoor
open Go Go.Tm
open Go.IntKind (i64)
theorem JeZ (a b:List Int) (hl:a.length≤2000000):Ev L f_k5s [.s (dL a),.s (dL b)] [dB (decide (a=b))] :=
 Jgm dI .i a b L_k5s rfl (fun _=>rfl) (fun _ _ _ _ _=>rfl) hl
theorem WN:Ev L f_k5z [] [dB true]:=by
 refine Jud (vs:=[]) L_k5z rfl ?_;refine JtL Vf rfl rfl rfl ?_;have e:=Y8 Frm.zero Xn.fit;rw[Xn.okF (by omega)] at e;exact JtL e rfl rfl rfl (Jt9 rfl)
theorem Jp2 (n:Int) (h0:0≤n) (hn:n≤2000000):Ev L f_k4i [dI n] [.s []]:=by
 refine Jud (vs:=[.i n]) L_k4i rfl ?_;have hw:i64.wrap (n-i64.wrap (0-0))=n:=by rw[w64 (n:=0-0) (by omega) (by omega),w64 (by omega) (by omega)];omega
 refine Jt2 (n<0) rfl (fun h=>by omega) (fun _=>?_);refine Jt2 (0<n) (by show decide (0<i64.wrap (n-i64.wrap (0-0)))=_;rw[hw]) (fun h=>?_) (fun h=>Jt9 rfl);refine JtF (0<n) (by show decide (0<i64.wrap (n-i64.wrap (0-0)))=_;rw[hw]) h ?_;refine JtF (n≤1256584717458) (by show decide (i64.wrap (n-i64.wrap (0-0))≤1256584717458)=_;rw[hw]) (by omega) ?_;refine Jt0 ?_ (Jt9 ?_)
 ·show decide ((0:Int)≤((List.replicate (i64.wrap (n-i64.wrap (0-0))).toNat (D.g [.s [],.s [],dI 0])).length:Int))=true;simp only[decide_eq_true_eq];omega
 ·show [D.s ((List.replicate (i64.wrap (n-i64.wrap (0-0))).toNat (D.g [.s [],.s [],dI 0])).take (0:Int).toNat)]=_;simp
def dFF (ls:List (List Frm)):List D:=ls.map fun l=> .s (dF l)
theorem Jlh (ls:List (List Frm)):(dFF ls).length=ls.length:=by simp[dFF]
theorem Jq9 (a b:List Frm):dF a++dF b=dF (a++b):=by simp[dF]
def UK (ls:List (List Frm)):Nat:=(ls.map List.length).sum
theorem Jnb {ls:List (List Frm)} {i:Nat} {l:List Frm} (h:ls[i]? = some l):UK (ls.take (i+1))=UK (ls.take i)+l.length:=by
 unfold UK;rw[tS1 h];simp
theorem JmB (ls:List (List Frm)):ls.flatten.length=UK ls:=by simp[UK,List.length_flatten]
theorem Jpu {ls:List (List Frm)} {N:Nat} (h :∀l∈ls,l.length≤N) (i:Nat):UK (ls.take i)≤N*ls.length:=by
 have :∀(ls:List (List Frm)),(∀l∈ls,l.length≤N)→UK ls≤N*ls.length:=by
  intro ls
  induction ls with
  | nil=>intro _;simp[UK]
  | cons l ls ih =>
   intro h;have h1:=h l (by simp);have h2:=ih fun x hx=>h x (by simp[hx]);simp only[UK,Juq,List.sum_cons,List.length_cons,Nat.mul_add] at *;omega
 have h1:=this (ls.take i) fun l hl=>h l (JuG hl);refine Nat.le_trans h1 (Nat.mul_le_mul_left _ (by simp;omega))
theorem JmQ (ls:List (List Frm)) (hl:ls.length≤100) (h1 :∀l∈ls,l.length≤1000):Ev L f_k4j [.s (dFF ls)] [.s (dF ls.flatten)]:=by
 refine Jud (vs:=[.l (dFF ls)]) L_k4j rfl ?_;have hle :∀i,UK (ls.take i)≤100000:=fun i=>Nat.le_trans (Jpu h1 i) (by omega);refine Jt5 ls.length (fun i=>[.i (UK (ls.take i)),.i i]) (fun _=>True) rfl rfl trivial fun i hi _=>?_;have hli:=hle i;refine JtN i (Jlh ls) rfl (fun h=>?_) (fun h=>?_)
 ·obtain⟨x,hx,hm⟩:=sA1 h;have hxl:=h1 x hm;refine Jt3 i (mA1 (f:=fun l=> .s (dF l)) hx) rfl rfl rfl rfl ?_;have hw:i64.wrap ((UK (ls.take i):Int)+((dF x).length:Int))=(UK (ls.take (i+1)):Int):=by
   rw[J4,Jnb hx,w64 (by omega) (by omega)];rfl
  refine Jt2 (((UK (ls.take (i+1)):Int))<0) (by show decide (i64.wrap ((UK (ls.take i):Int)+((dF x).length:Int))<0)=_;rw[hw]) (fun h=>by omega) (fun _=>?_);refine JtH (vs:=[.i (UK (ls.take (i+1))),.i ((i+1:Nat):Int)]) ?_ ⟨h,rfl,trivial⟩;show [V.i (i64.wrap ((UK (ls.take i):Int)+((dF x).length:Int))),V.i (i64.wrap ((i:Int)+1))]=_;rw[wS h (by omega),hw]
 ·refine JtX ?_;refine JtL (Jp2 (UK (ls.take i)) (by omega) (by omega)) rfl rfl rfl ?_;simp only[sC,sN];refine Jt5 ls.length (fun j=>[.l (dF (ls.take j).flatten),.i j]) (fun _=>True) rfl rfl trivial fun j hj _=>?_;simp only[sC,sN];refine JtN j (Jlh ls) rfl (fun h=>?_) (fun h=>?_)
  ·obtain⟨x,hx,hm⟩:=sA1 h;have hxl:=h1 x hm;have hlj:=hle j;refine Jt3 j (mA1 (f:=fun l=> .s (dF l)) hx) rfl rfl rfl rfl ?_;refine JtM (dF x) 1000 (by rw[J4];exact hxl) (by omega) rfl ?_;refine JtS (JpQ x) ?_;refine JtM (dF (ls.take j).flatten++dF x) 2000000 (by rw[Juo,J4,J4,JmB];omega) (by omega) rfl ?_;refine JtH (vs:=[.l (dF (ls.take (j+1)).flatten),.i ((j+1:Nat):Int)]) ?_ ⟨h,rfl,trivial⟩;show [V.l (dF (ls.take j).flatten++dF x),V.i (i64.wrap ((j:Int)+1))]=_;rw[wS h (by omega),Jq9,tS1 hx];simp
  ·refine JtX (Jt9 ?_);show [D.s (dF (ls.take j).flatten)]=_;rw[tA1 h]
/- What an act does not turn stays: over residual programs. -/
theorem Xy {bs:List Int} {p n:Int} (hr:Rdr bs p) (hf:p≤999999999000) (h1:1≤n) (hn:n≤2000000) :
  ∃ a q,Ev L f_kq [.s (Ja bs),dI p,dI n] [.s (dL a),.s (Ja bs),dI q]∧p≤q∧q≤p+10∧a.length≤3:=by
 have key : ∃ ds,Ev L f_kq [.s (Ja bs),dI p,dI n] ds∧∃ a q,ds=[.s (dL a),.s (Ja bs),dI q]∧p≤q∧q≤p+10∧a.length≤3:=by
  refine Jue (vs:=[.l (Ja bs),.i p,.i n]) L_kq rfl ?_;have go :∀q,p≤q→q≤p+10→Rdr bs q:=fun q h h'=>hr.go h (by omega);refine Jd 19 hr (by omega) (by omega) rfl rfl fun u hu0 hu1=>?_;refine Jd 19 (go (p+1) (by omega) (by omega)) (by omega) (by omega) rfl rfl fun v hv0 hv1=>?_;refine Jd n (go (p+1+1) (by omega) (by omega)) h1 hn rfl rfl fun w hw0 hw1=>?_;simp only[sC,sN];have e:[dI (i64.wrap (u-9)),dI (i64.wrap (v-9))]=dL [u-9,v-9]:=by
   rw[w64 (by omega) (by omega),w64 (by omega) (by omega)];rfl
  refine Jt2 (w=0) rfl (fun hw=>?_) (fun hw=>?_)
  ·refine Jd 3 (go (p+1+1+1) (by omega) (by omega)) (by omega) (by omega) rfl rfl fun z hz0 hz1=>?_;simp only[sC,sN];refine Jt2 (z=0) rfl (fun hz=>Jt9 ?_) (fun hz=>?_)
   ·refine⟨[u-9,v-9].take 1,p+1+1+1+1,?_,by omega,by omega,by simp⟩;show [D.s ([dI (i64.wrap (u-9)),dI (i64.wrap (v-9))].take 1),.s (Ja bs),dI (p+1+1+1+1)]=_;rw[e,VF]
   refine Jt2 (z=1) rfl (fun hz=>?_) (fun hz=>?_)
   ·refine Juc [dI (i64.wrap (u-9)),dI (i64.wrap (v-9))] 2 (by simp) (by omega) rfl ?_;refine Jt9 ⟨[u-9,v-9]++[0],p+1+1+1+1,?_,by omega,by omega,by simp⟩;show [D.s ([dI (i64.wrap (u-9)),dI (i64.wrap (v-9))]++[dI 0]),.s (Ja bs),dI (p+1+1+1+1)]=_;rw[e,Xa]
   ·refine Jd 2 (go (p+1+1+1+1) (by omega) (by omega)) (by omega) (by omega) rfl rfl fun a ha0 ha1=>?_;refine Jd 2 (go (p+1+1+1+1+1) (by omega) (by omega)) (by omega) (by omega) rfl rfl fun b hb0 hb1=>?_;simp only[sC,sN];refine JW [10,-10] b hb0 hb1 rfl rfl rfl rfl rfl fun x=>?_;refine JtF (0≤a) rfl ha0 ?_;refine JtF (a<2) rfl ha1 ?_;refine JtJ (ds:=dL [u-9,v-9]) a rfl e rfl ha0 (JZ ha0 (by simpa using ha1)) rfl ?_;refine Jt9 ⟨[u-9,v-9].set a.toNat x,p+1+1+1+1+1+1,?_,by omega,by omega,by simp⟩;show [D.s ([dI (i64.wrap (u-9)),dI (i64.wrap (v-9))].set a.toNat (dI x)),.s (Ja bs),dI (p+1+1+1+1+1+1)]=_;rw[e,QL]
  ·refine Jt9 ⟨[u-9,v-9],p+1+1+1,?_,by omega,by omega,by simp⟩;show [D.s [dI (i64.wrap (u-9)),dI (i64.wrap (v-9))],.s (Ja bs),dI (p+1+1+1)]=_;rw[e]
 obtain⟨ds,e1,a,q,rfl,e2⟩:=key;exact⟨a,q,e1,e2⟩
structure Z1 (f:Frm) (v w:List Int):Prop where
 c:f.c.length=3
 d:f.d.length=2
 v3:v.length=3
 w2:w.length=2
 a : ∃ A B:Int,0≤A∧0≤B∧A*B≤1000000000000000∧Lim A f.c∧Lim A f.d∧Lim B v∧Lim B w∧-1000000000000000≤f.k∧f.k≤1000000000000000
theorem Z1.sums {f:Frm} {v w:List Int} (h:Z1 f v w):(-3000000000000000≤dot f.c v∧dot f.c v≤3000000000000000)∧(-2000000000000000≤dot f.d w∧dot f.d w≤2000000000000000)∧-1000000000000000≤f.k∧f.k≤1000000000000000:=by
 obtain⟨A,B,hA,hB,hAB,h1,h2,h3,h4,h5⟩:=h.a;have a:=KA h1 h3 hA hB;have b:=KA h2 h4 hA hB;rw[h.c] at a;rw[h.d] at b;exact⟨by omega,by omega,h5⟩
theorem QH {l:List Int}:JU l=true↔l.length=3∧Lim 10000 l:=by
 unfold JU;rw[Jo];exact⟨fun h=>⟨by omega,h.2⟩,fun h=>⟨by omega,h.2⟩⟩
theorem X3 {l:List Int}:Q7 l=true↔l.length=2∧Lim 9 l:=by
 unfold Q7;rw[Jo];exact⟨fun h=>⟨by omega,h.2⟩,fun h=>⟨by omega,h.2⟩⟩
theorem Z1.std {f:Frm} {v w:List Int} (hf:Std 10000000 f) (hv:JU v=true) (hw:Q7 w=true):Z1 f v w:=by
 obtain⟨v1,v2⟩:=QH.1 hv;obtain⟨w1,w2⟩:=X3.1 hw;exact⟨hf.c,hf.d,v1,w1,10000000,10000,by omega,by omega,by omega,hf.lc,hf.ld,v2,w2.mono (by omega),by have:=hf.k;omega⟩
theorem Z1.small {f:Frm} {x w:List Int} (hf:f.small=true) (hx:x.length=3) (hl:Lim 2000000000 x) (hw:Q7 w=true):Z1 f x w:=by
 obtain⟨h1,h2,h3,h4,h5⟩:=XE hf;obtain⟨w1,w2⟩:=X3.1 hw;exact⟨h1,h2,hx,w1,2,2000000000,by omega,by omega,by omega,h3,h4,hl,w2.mono (by omega),by omega⟩
def Res.ds (r:Res):List D:=[dI r.code,.s (dL r.tells),.s (dL r.is)]
theorem Jp8 {l:Jg} (h:l.ok=true) (h1 : ¬l.kind=1) (h2 : ¬l.kind=2) (h4 : ¬l.kind=4):l.kind=3:=by
 unfold Jg.ok at h;rw[if_neg h1,if_neg h2] at h;split at h
 ·assumption
 ·simp[h4] at h
theorem JpH (h:Row→Nat→Bool) (as:List (List Jg)) (hf:Ym as) {fn:FuncId} {caps:List D} (hcap:XN (.f fn caps) = .f fn caps) (har:arT L fn=some ([some 4,none]++caps.map fun _=>none))
  (hc :∀r,YO r→∀v:Nat,v<3→Ev L fn (r.cells++[dI v]++caps.map D.norm) [dB (h r v)]):Ev L f_k4h [.s (Je as),.f fn caps] [.s (dBl (Wh h as))]:=by
 have hl:=hf.1;refine Jud (vs:=[.l (Je as),.d (.f fn caps)]) L_k4h rfl ?_;refine JtY as.length (fun i vs=>∃ p:List Bool,vs=[.l (dBl p),.i i]∧p.length=3∧p=Wh h (as.take i)) rfl ⟨[false,false,false],rfl,rfl,rfl⟩ ?_;rintro i _ hi ⟨p,rfl,hp,hpe⟩;simp only[sC,sN];refine JtN i (JO as) rfl (fun h'=>?_) (fun h'=>?_)
 ·obtain⟨a,ha,hm⟩:=sA1 h';have hB:Wh h (as.take (i+1))=(Ju a).foldl (fun p r=>orB p (h r)) p:=by rw[hpe];exact XC ha
  refine Jt3 i (mA1 (f:=fun a=> .s (Jk a)) ha) rfl rfl rfl rfl ?_;refine JtL (Jd5 a (hf.2 a hm)) rfl rfl rfl ?_;have hrf :∀r∈Ju a,YO r:=Yi;have hrl:=Ua a;generalize Ju a=rs at *;refine JtY rs.length (fun k vs=>∃ q:List Bool,vs=[.l (dBl q),.i k]∧q.length=3∧q=(rs.take k).foldl (fun p r=>orB p (h r)) p) rfl ⟨p,rfl,hp,rfl⟩ ?_;rintro k _ hk ⟨q,rfl,hq,hqe⟩;simp only[sC,sN];refine JtN k (X6 rs) rfl (fun h''=>?_) (fun h''=>?_)
  ·obtain⟨r,hr,hmr⟩:=sA1 h'';have hfit:=hrf r hmr;have hC:(rs.take (k+1)).foldl (fun p r=>orB p (h r)) p=orB q (h r):=by rw[hqe];exact XC hr
   refine JtO k (rdR hr) rfl rfl rfl rfl rfl rfl ?_;have hO:(orB q (h r)).length=3:=by rw[Zv];exact hq
   refine Jt5 3 (fun v=>[.l (dBl ((orB q (h r)).take v++q.drop v)),.i v]) (fun _=>True) rfl rfl trivial fun v hv _=>?_;simp only[sC,sN];refine JtN v (show (dBl q).length=3 by rw[Jgp];exact hq) rfl (fun hv3=>?_) (fun hv3=>?_)
   ·obtain⟨b,hb,_⟩:=sA1 (show v<q.length by omega);have ho:=WU (h:=h r) hb;have hcur:((orB q (h r)).take v++q.drop v)[v]? = some b:=by
     rw[JuK (by simp;omega),List.getElem?_drop];rw[show v+(v-((orB q (h r)).take v).length)=v by simp;omega];exact hb
    have nx :∀c:Bool,c=(b||h r v)→[V.l ((dBl ((orB q (h r)).take v++q.drop v)).set (v:Int).toNat (dB c)),V.i (i64.wrap ((v:Int)+1))]=[.l (dBl ((orB q (h r)).take (v+1)++q.drop (v+1))),.i ((v+1:Nat):Int)]:=by
     intro c hc';rw[←hc'] at ho;rw[wS hv3 (by omega),JlM,Int.toNat_natCast,JoG (by omega) ho]
    refine JtO v (mA1 (f:=dB) hcur) rfl rfl rfl rfl rfl rfl ?_;refine Jua b rfl (fun hbt=>?_) (fun hbf=>?_)
    ·refine JtO v (mA1 (f:=dB) hcur) rfl rfl rfl rfl rfl rfl ?_;exact JtH (nx true (by simp[hbt])) ⟨hv3,rfl,trivial⟩
    ·refine JtP (fn:=fn) (caps:=caps) (ds:=[dB (h r v)]) (vs:=[.b (h r v)]) rfl hcap har (hc r hfit v hv3) rfl ?_;refine JtO v (mA1 (f:=dB) hcur) rfl rfl rfl rfl rfl rfl ?_;exact JtH (nx (h r v) (by simp[hbf])) ⟨hv3,rfl,trivial⟩
   ·have hv3:v=3:=by omega
    subst hv3;rw[Jum (by omega),List.drop_eq_nil_of_le (by omega),List.append_nil];refine JtX (JtH (vs:=[.l (dBl (orB q (h r))),.i ((k+1:Nat):Int)]) ?_ ⟨h'',orB q (h r),rfl,hO,hC.symm⟩);show [V.l (dBl (orB q (h r))),V.i (i64.wrap ((k:Int)+1))]=_;rw[wS h'' (by omega)]
  ·rw[tA1 h''] at hqe;refine JtX (JtH (vs:=[.l (dBl q),.i ((i+1:Nat):Int)]) ?_ ⟨h',q,rfl,hq,by rw[hB,hqe]⟩);show [V.l (dBl q),V.i (i64.wrap ((i:Int)+1))]=_;rw[wS h' (by omega)]
 ·refine JtX (Jt9 ?_);show [D.s (dBl p)]=_;rw[tA1 h'] at hpe;rw[hpe]
/- All is kept an eye on; who tells of a pot pins it; with an act more there is more: over residual programs. -/
theorem JjH (x:Int):Ev L f_k4b [dI x] [dB (nz x)]:=Jud (vs:=[.i x]) L_k4b rfl (Jt9 rfl)
theorem JoX (l:List Int) (hl:l.length=3):Ev L f_k4c [.s (dL l)] [dB (decide (l=[0,0,0]))]:=by
 refine Jud (vs:=[.l (dL l)]) L_k4c rfl ?_;refine JtL (V7 nz l (fn:=f_k4b) (caps:=[]) (by omega) rfl rfl fun x _=>JjH x) rfl rfl rfl (Jt9 ?_);show [dB (!(l.any nz))]=_;obtain⟨a,b,c,rfl⟩:=Jab hl
 congr 3
 by_cases h1:a=0 <;> by_cases h2:b=0 <;> by_cases h3:c=0 <;> simp[nz,h1,h2,h3]
theorem JgY (x:Int):Ev L f_k49 [dI x] [dB (nz x)]:=Jud (vs:=[.i x]) L_k49 rfl (Jt9 rfl)
theorem Jo7 (f:Frm) (hl:Lim 1000000000 f.c) (hn:f.c.length≤2000000):Ev L f_k4a f.cells [.s (dL (Jl f.c))]:=by
 refine Jud (vs:=[.l (dL f.c),.l (dL f.d),.i f.k]) L_k4a rfl ?_;refine JtL (YC f.c hn) rfl rfl rfl ?_;refine JtL (Jfx nz f.c (fn:=f_k49) (caps:=[]) hn rfl rfl fun x _=>JgY x) rfl rfl rfl ?_;simp only[sC,sN];rcases Jcd nz f.c with ⟨hp,ha⟩ | ⟨i,x,hp,hx,hnx,ht⟩
 ·rw[hp];refine JtG rfl (Jt9 ?_);show [D.s (dL f.c)]=_;rw[JiS ha]
 rw[hp];have hi:=(Juj.1 hx).1;have hs:=Jht hx hnx ht;have hx0:x≠0:=by simpa[nz] using hnx
 refine Jt2 ((0:Int)≤(i:Int)) rfl (fun _=>?_) (fun h=>by omega);refine JtO i (mA1 (f:=dI) hx) rfl rfl rfl rfl rfl rfl ?_;simp only[sC,sN];refine Jt2 (x<0) rfl (fun hneg=>?_) (fun hpos=>Jt9 ?_)
 ·have hpart:Jl f.c=f.c.map fun y=>0-y:=by
   unfold Jl;rw[hs,if_neg (by omega)];apply JuE;intro y _;omega
  rw[hpart];refine Jt5 f.c.length (fun k=>[.l (dL ((f.c.map fun y=>0-y).take k++f.c.drop k)),.i k]) (fun _=>True) rfl rfl trivial fun k hk _=>?_;simp only[sC,sN];refine JtN k (dL1 f.c) rfl (fun h=>?_) (fun h=>?_)
  ·obtain⟨y,hy,hm⟩:=sA1 h;have hly:=hl y hm;have hcur:((f.c.map fun y=>0-y).take k++f.c.drop k)[k]? = some y:=by
    rw[JuK (by simp;omega),List.getElem?_drop];rw[show k+(k-((f.c.map fun y=>0-y).take k).length)=k by simp;omega];exact hy
   have hny:(f.c.map fun y=>0-y)[k]? = some (0-y):=by simp[hy]
   refine JtO k (mA1 (f:=dI) hcur) rfl rfl rfl rfl rfl rfl ?_;refine JtO k (mA1 (f:=dI) hcur) rfl rfl rfl rfl rfl rfl ?_;refine JtH (vs:=[.l (dL ((f.c.map fun y=>0-y).take (k+1)++f.c.drop (k+1))),.i ((k+1:Nat):Int)]) ?_ ⟨h,rfl,trivial⟩;show [V.l ((dL ((f.c.map fun y=>0-y).take k++f.c.drop k)).set (k:Int).toNat (dI (i64.wrap (0-y)))),V.i (i64.wrap ((k:Int)+1))]=_;rw[wS h (by omega),w64 (by omega) (by omega),QL,Int.toNat_natCast,JoG (by simp) hny]
  ·refine JtX (Jt9 ?_);show [D.s (dL ((f.c.map fun y=>0-y).take k++f.c.drop k))]=_;rw[Jum (by simp;omega),List.drop_eq_nil_of_le (by omega),List.append_nil]
 ·show [D.s (dL f.c)]=_;unfold Jl;rw[hs,if_pos (by omega)]
  congr 3
  conv=>lhs;rw[←List.map_id f.c]
  apply JuE;intro y _;show y=1*y;omega
theorem Jjb (q p:List Int) (hq:q.length≤2000000):Ev L f_k4d [.s (dL q),.q [.s (dL p)]] [dB (decide (q=p))] :=
 Jud (vs:=[.l (dL q),.d (.q [.s (dL p)])]) L_k4d rfl (Jt8 (vs:=[.l (dL p)]) rfl rfl (JtL (JcV q p hq) rfl rfl rfl (Jt9 rfl)))
theorem Jp6 (l:List (List Int)) (p:List Int) (hl:l.length≤2000000) (hq :∀q∈l,q.length≤2000000):Ev L f_k4f [.s (dLL l),.s (dL p)] [dI (K0 l p)] :=
 Jud (vs:=[.l (dLL l),.l (dL p)]) L_k4f rfl (JtL (Jc7 (fun q=>decide (q=p)) l (fn:=f_k4d) (caps:=[.q [.s (dL p)]]) hl rfl rfl fun q h=>Jjb q p (hq q h)) rfl rfl rfl (Jt9 rfl))
theorem JkA (a:List Jg) (ha:KL a):Ev L f_k3m ([.s (Jk a)]++([]:List D).map D.norm) [dB (!Qu a)] :=
 Jud (vs:=[.l (Jk a)]) L_k3m rfl (JtL (Jf2 a ha) rfl rfl rfl (Jt9 rfl))
theorem JbC (as:List (List Jg)) (hf:Ym as):Ev L f_k3n [.s (Je as)] [dB (Qs as)]:=by
 have hl:=hf.1;refine Jud (vs:=[.l (Je as)]) L_k3n rfl ?_;refine JtL (X8 as.length 1 4) rfl ?_ rfl ?_
 ·show [dI ((Je as).length:Int),dI 1,dI 4]=_;rw[JO]
 refine Jua (inB as.length 1 4) rfl (fun h=>?_) (fun h=>Jt9 ?_)
 ·have e:Ev L f_k3c [.s (Je as),.f f_k3m []] [dB (as.any fun a=>!Qu a)] :=
   Zm (g := f_k3b) L_k3c rfl rfl
     (Z7 (sh:= .one .s) (as:=[(.s (.v 3))]) (ar:=[none]) (k:=4) (caps:=[]) (fun a=> .s (Jk a)) (fun a=>!Qu a) (fun a=>[.s (Jk a)]) (fun a=>[.l (Jk a)]) as
       L_k3b rfl hl rfl (fun _ _=>rfl) (fun _ _=>rfl) (fun _ _ _ _=>rfl) rfl fun a ha=>JkA a (hf.2 a ha))
  refine JtL e rfl rfl rfl (Jt9 ?_);show [dB (!(as.any fun a=>!Qu a))]=_;rw[UC];simp[Qs,h]
 ·show [dB false]=_;simp[Qs,h]
set_option maxHeartbeats 2000000 in
theorem Jm5 (as:List (List Jg)) (hf:Ym as):Ev L f_k4g [.s (Je as)] [.s (dLL (Jb as))]:=by
 refine Jud (vs:=[.l (Je as)]) L_k4g rfl ?_;refine JtL (JbC as hf) rfl rfl rfl ?_;refine JtI (Qs as) rfl (fun h=>Jt9 ?_) (fun hok=>?_)
 ·show [D.s []]=_;simp[Jb,h,dLL]
 have h4:=(X4 hok).2.1;have hcf:Jb as=(UO as).1:=by simp[Jb,hok]
 rw[hcf];simp only[sC,sN];refine Jt5 3 (fun v=>[.l (dLL (YR.take v)),.i v]) (fun _=>True) rfl rfl trivial fun v hv _=>?_;simp only[sC,sN];refine JtZ v 3 rfl (fun hv3=>?_) (fun hv3=>?_)
 ·refine JtL (JgF v (by omega) (by omega)) rfl rfl rfl ?_;refine Jt6 (YL _) ?_;have hp:YR[v]? = some (JA (v:Int).toNat).c:=by
   rw[Int.toNat_natCast]
   match v,hv3 with
   | 0,_ | 1,_ | 2,_=>rfl
   | n+3,h=>omega
  refine Juc (dLL (YR.take v)) 3 (by rw[Uy];simp;omega) (by omega) rfl ?_;refine JtH (vs:=[.l (dLL (YR.take (v+1))),.i ((v+1:Nat):Int)]) ?_ ⟨hv3,rfl,trivial⟩;show [V.l (dLL (YR.take v)++[.s (dL (JA (v:Int).toNat).c)]),V.i (i64.wrap ((v:Int)+1))]=_;rw[wS hv3 (by omega),Jax,tS1 hp]
 have hv3:v=3:=by omega
 subst hv3;refine JtX ?_;refine JtY as.length (fun i vs=>∃ b:List (List Int)×List Bool,vs=[.l (dLL b.1),.i i]∧b=UO (as.take i)) rfl ⟨(YR,[false,false,false]),rfl,rfl⟩ ?_;rintro i _ hi ⟨⟨b1,b2⟩,rfl,hb⟩;simp only[sC,sN];refine JtN i (JO as) rfl (fun h=>?_) (fun h=>?_)
 ·obtain⟨a,ha,hm⟩:=sA1 h;have hB:UO (as.take (i+1))=Yk (b1,b2) a:=by rw[hb];exact XC ha
  obtain⟨f1,f2⟩:=Jdp (as.take i);rw[←hb] at f1 f2;have f1:=f1.mono (show 3+384*(as.take i).length≤1600 by simp;omega);have hrl:=Ua a;refine Jt3 i (mA1 (f:=fun a=> .s (Jk a)) ha) rfl rfl rfl rfl ?_;refine JtL (Jd5 a (hf.2 a hm)) rfl rfl rfl ?_;have hrf :∀r∈Ju a,YO r:=Yi;have hAB:Yk (b1,b2) a=(Ju a).foldl QQ (b1,b2):=rfl;generalize Ju a=rs at *;refine JtY rs.length (fun k vs=>∃ c:List (List Int)×List Bool,vs=[.l (dLL c.1),.i k]∧c=(rs.take k).foldl QQ (b1,b2)) rfl ⟨(b1,b2),rfl,rfl⟩ ?_;rintro k _ hk ⟨⟨c1,c2⟩,rfl,hc⟩;simp only[sC,sN];refine JtN k (X6 rs) rfl (fun h'=>?_) (fun h'=>?_)
  ·obtain⟨r,hr,hmr⟩:=sA1 h';have hfit:=hrf r hmr;have hC:(rs.take (k+1)).foldl QQ (b1,b2)=QQ (c1,c2) r:=by rw[hc];exact XC hr
   obtain⟨g1,g2⟩:=f1.rows f2 (rs:=rs.take k) fun x hx=>hrf x (JuG hx);rw[←hc] at g1 g2;have g1:=g1.mono (show 1600+6*(rs.take k).length≤2000 by simp;omega);refine JtO k (rdR hr) rfl rfl rfl rfl rfl rfl ?_;simp only[sC,sN];have hR:QQ (c1,c2) r=(r.guards.foldl Jn c1,QP (QP c2 r.adds) r.tells):=rfl;have hgl:=hfit.gl;refine JtY r.guards.length (fun g vs=>∃ e:List (List Int),vs=[.l (dLL e),.i g]∧e=(r.guards.take g).foldl Jn c1) rfl ⟨c1,rfl,rfl⟩ ?_;rintro g _ hg ⟨e,rfl,he⟩;simp only[sC,sN];refine JtN g (J4 r.guards) rfl (fun hg'=>?_) (fun hg'=>?_)
   ·obtain⟨f,hfg,hmf⟩:=sA1 hg';have hsf:=hfit.g f hmf;have hE:(r.guards.take (g+1)).foldl Jn c1=Jn e f:=by rw[he];exact XC hfg
    have e1:=(g1.adds (fs:=r.guards.take g) fun x hx=>hfit.g x (JuG hx)).mono (show 2000+(r.guards.take g).length≤2010 by simp;omega);rw[←he] at e1;have nx :∀(x:List (List Int)),x=Jn e f→[V.l (dLL x),V.i (i64.wrap ((g:Int)+1))]=[.l (dLL (Jn e f)),.i ((g+1:Nat):Int)]:=by
     intro x hx;rw[hx,wS hg' (by omega)]
    refine Jt3 g (mA1 (f:=Frm.g) hfg) rfl rfl rfl rfl ?_;refine JtL (Jo7 f (hsf.lc.mono (by omega)) (by rw[hsf.c];omega)) rfl rfl rfl ?_;simp only[sC,sN];have el:=e1.len;have hp3:(Jl f.c).length=3:=by rw[Vl];exact hsf.c
    have hAP:Jn e f=if K0 e (Jl f.c)<0∧Jl f.c≠[0,0,0] then e++[Jl f.c] else e:=rfl;generalize Jl f.c=pt at *;refine JtL (JoX pt hp3) rfl rfl rfl ?_;refine JtI (decide (pt=[0,0,0])) rfl (fun hz=>?_) (fun hz=>?_)
    ·refine JtL (Jp6 e pt (by omega) (fun q hq=>by rw[(e1.each q hq).1];omega)) rfl rfl rfl ?_;generalize K0 e pt=ha at *;refine Jt2 (ha<0) rfl (fun h0=>?_) (fun h0=>?_)
     ·refine Jt6 (YL _) ?_;refine Juc (dLL e) 3000 (by rw[Uy];omega) (by omega) rfl ?_;refine JtH (vs:=[.l (dLL (Jn e f)),.i ((g+1:Nat):Int)]) ?_ ⟨hg',Jn e f,rfl,hE.symm⟩;show [V.l (dLL e++[.s (dL pt)]),V.i (i64.wrap ((g:Int)+1))]=_;rw[Jax];refine nx _ ?_;rw[hAP,if_pos ⟨h0,by simpa using hz⟩]
     ·refine JtH (nx e ?_) ⟨hg',Jn e f,rfl,hE.symm⟩;rw[hAP,if_neg];intro ⟨h,_⟩;exact h0 h
    ·refine JtH (nx e ?_) ⟨hg',Jn e f,rfl,hE.symm⟩;rw[hAP,if_neg];intro ⟨_,h⟩;exact h (by simpa using hz)
   ·refine JtX ?_;rw[tA1 hg'] at he;refine JtH (vs:=[.l (dLL e),.i ((k+1:Nat):Int)]) ?_ ⟨h',(e,(QQ (c1,c2) r).2),rfl,by rw[hC,he];rfl⟩;show [V.l (dLL e),V.i (i64.wrap ((k:Int)+1))]=_;rw[wS h' (by omega)]
  ·refine JtX ?_;rw[tA1 h'] at hc;refine JtH (vs:=[.l (dLL c1),.i ((i+1:Nat):Int)]) ?_ ⟨h,(c1,c2),rfl,by rw[hB,hAB,hc]⟩;show [V.l (dLL c1),V.i (i64.wrap ((i:Int)+1))]=_;rw[wS h (by omega)]
 ·refine JtX (Jt9 ?_);show [D.s (dLL b1)]=_;rw[tA1 h] at hb;rw[←hb]
def Ux (as:List (List Jg)):Prop:=as.length≤5∧∀a∈as,KX a
theorem Ux.fit {as:List (List Jg)} (h:Ux as):Ym as:=⟨by have:=h.1;omega,fun a ha=>(h.2 a ha).fit⟩
theorem Jmo (as:List (List Jg)) (k:Nat) (a:List Jg):(Je as).set k (.s (Jk a))=Je (as.set k a):=by simp[Je,List.map_set]
theorem JeN {bs:List Int} {p n:Int} (hr:Rdr bs p) (hf:p≤999999950000) (n1:1≤n) (n2:n≤2000000) :
  ∃ as q,Ev L f_k2z [.s (Ja bs),dI p,dI n] [.s (Je as),.s (Ja bs),dI q]∧p≤q∧q≤p+2000∧Ux as:=by
 have key : ∃ ds,Ev L f_k2z [.s (Ja bs),dI p,dI n] ds∧∃ as q,ds=[.s (Je as),.s (Ja bs),dI q]∧p≤q∧q≤p+2000∧Ux as:=by
  refine Jue (vs:=[.l (Ja bs),.i p,.i n]) L_k2z rfl ?_;obtain⟨as,q,e,q1,q2,hs,hl1⟩:=JcO hr (by omega);refine JtL e rfl rfl rfl ?_;have ht:Ux as:=⟨by have:=hs.1;omega,fun a ha=>(hs.2 a ha).thin⟩;have hs4:=hs.1;refine Jd n (hr.go (q:=q) (by omega) (by omega)) n1 n2 rfl rfl fun u hu0 hu1=>?_;simp only[sC,sN];refine Jt2 (0<u) rfl (fun _=>Jt9 ⟨as,q+1,rfl,by omega,by omega,ht⟩) (fun _=>?_);refine Jd 3 (hr.go (q:=q+1) (by omega) (by omega)) (by omega) (by omega) rfl rfl fun v hv0 hv1=>?_;simp only[sC,sN];obtain⟨a0,ha0,hm0⟩:=sA1 (show 0<as.length by omega);refine Jt2 (v=0) rfl (fun _=>?_) (fun _=>?_)
  ·obtain⟨a,o,ea,o1,o2,ha⟩:=JgP (hr.go (q:=q+1+1) (by omega) (by omega)) (by omega) (n:=1) (by omega) (by omega);refine JtL ea rfl rfl rfl ?_;simp only[sC,sN];refine JtF ((0:Int)<((Je as).length:Int)) rfl (by rw[JO];omega) ?_;refine Jt3 0 (mA1 (f:=fun a=> .s (Jk a)) ha0) rfl rfl rfl rfl ?_;refine Jt9 ⟨as.set 0 a,o,?_,by omega,by omega,by simp;omega,?_⟩
   ·show [D.s ((Je as).set (0:Int).toNat (.s (Jk a))),.s (Ja bs),dI o]=_;rw[Jmo];rfl
   ·intro x hx;rcases JuH hx with hx | hx
    ·exact ht.2 x hx
    ·subst hx;exact ha
  refine Jt2 (v=1) rfl (fun _=>Jt9 ⟨[],q+1+1,rfl,by omega,by omega,by simp,by simp⟩) (fun _=>?_);refine JtE (fun m vs=>∃ bs':List (List Jg),vs=[.l (Je bs')]∧Ux bs'∧1≤bs'.length∧m=5-bs'.length) rfl (5-as.length) ⟨as,rfl,ht,hl1,rfl⟩ ?_;rintro m _ ⟨cs,rfl,hc,hc1,hm⟩;simp only[sC,sN];refine Jt2 ((cs.length:Int)≤4) (by show decide (((Je cs).length:Int)≤4)=_;rw[JO]) (fun h4=>?_) (fun _=>JtX (Jt9 ⟨cs,q+1+1,rfl,by omega,by omega,hc⟩));obtain⟨c0,hc0,hmc⟩:=sA1 (show 0<cs.length by omega);refine JtF ((0:Int)<((Je cs).length:Int)) rfl (by rw[JO];omega) ?_;refine Jt3 0 (mA1 (f:=fun a=> .s (Jk a)) hc0) rfl rfl rfl rfl ?_;refine Juc (Je cs) 10 (by rw[JO];omega) (by omega) rfl ?_;refine JtH (vs:=[.l (Je (cs++[c0]))]) ?_ ⟨5-(cs++[c0]).length,by simp;omega,cs++[c0],rfl,⟨by simp;omega,?_⟩,by simp,rfl⟩
  ·show [V.l (Je cs++[.s (Jk c0)])]=_;rw[Ws]
  ·intro x hx;rcases Jun.1 hx with hx | hx
   ·exact hc.2 x hx
   ·simp at hx;subst hx;exact hc.2 x hmc
 obtain⟨ds,e1,as,q,rfl,e2⟩:=key;exact⟨as,q,e1,e2⟩
theorem Jkw (f:Frm) (hf:f.c.length=3) (v:Nat) (hv:v<3):Ev L f_k4k (f.cells++[D.q [dI v]].map D.norm) [dB (decide (f.c.getD v 0≠0))]:=by
 refine Jud (vs:=[.l (dL f.c),.l (dL f.d),.i f.k,.d (.q [dI v])]) L_k4k rfl ?_;refine Jt8 (vs:=[.i v]) rfl rfl ?_;refine Jt3 v (mA1 (f:=dI) (JaG (by omega))) rfl rfl rfl rfl (Jt9 ?_);show [dB (!(decide (f.c.getD v 0=0)))]=_;simp
theorem JoR (r:Row) (hr:YO r) (v:Nat) (hv:v<3):Ev L f_k4l (r.cells++[dI v]++([]:List D).map D.norm) [dB (Zq r v)]:=by
 refine Jud (vs:=[.l (dF r.guards),.l (dF r.adds),.l (dF r.tells),.b r.stop,.i v]) L_k4l rfl ?_;have ha:=hr.al;have ht:=hr.tl;refine JtL (JmQ [r.adds,r.tells] (by simp) (by simp;omega)) rfl rfl rfl ?_;have hfl:[r.adds,r.tells].flatten=r.adds++r.tells:=by simp
 rw[hfl];have h3 :∀f∈r.adds++r.tells,f.c.length=3:=by
  intro f hf;rcases Jun.1 hf with hf | hf
  ·exact(hr.a f hf).c
  ·exact(hr.t f hf).c
 have hlen:(r.adds++r.tells).length≤2000000:=by simp;omega
 unfold Zq;generalize r.adds++r.tells=all at *;exact JtL (Jfw (fun f=>decide (f.c.getD v 0≠0)) all (fn:=f_k4k) (caps:=[.q [dI v]]) hlen rfl rfl fun f hf=>Jkw f (h3 f hf) v hv) rfl rfl rfl (Jt9 rfl)
theorem JoW (as:List (List Jg)) (hf:Ym as):Ev L f_k4m [.s (Je as)] [.s (dBl (Jj as))]:=by
 refine Jud (vs:=[.l (Je as)]) L_k4m rfl ?_;refine JtL (JbC as hf) rfl rfl rfl ?_;refine JtI (Qs as) rfl (fun h=>Jt9 ?_) (fun h=>?_)
 ·show [D.s []]=_;simp[Jj,h,dBl]
 ·refine JtL (JpH Zq as hf (fn:=f_k4l) (caps:=[]) rfl rfl fun r hr v hv=>JoR r hr v hv) rfl rfl rfl (Jt9 ?_);show [D.s (dBl (Wh Zq as))]=_;rw[Jd4 h]
/- There is one way,and it is the act; what an act does not read turns no answer; with an act more there is more: over residual programs. -/
theorem Jpc {f:Frm} {v w:List Int} (h:Z1 f v w) : -6000000000000000≤atF f v w∧atF f v w≤6000000000000000:=by
 obtain⟨s1,s2,s3⟩:=h.sums;unfold atF;omega
theorem Jpy {fs:List Frm} {v w:List Int} (h :∀f∈fs,Z1 f v w):Lim 6000000000000000 (atL fs v w):=by
 intro x hx;simp only[atL,List.mem_map] at hx;obtain⟨f,hf,rfl⟩:=hx;exact Jpc (h f hf)
theorem Jol (c1 c2:Int) (t1 t2:List Int) (hl:t1.length≤2000000):Ev L f_k5t [dI c1,.s (dL t1),dI c2,.s (dL t2)] [dB (decide (c1=c2)&&decide (t1=t2))]:=by
 refine Jud (vs:=[.i c1,.l (dL t1),.i c2,.l (dL t2)]) L_k5t rfl ?_;refine Jt2 (c1=c2) rfl (fun h=>?_) (fun h=>Jt9 ?_)
 ·refine JtL (JeZ t1 t2 hl) rfl rfl rfl (Jt9 ?_);rw[decide_eq_true h];rfl
 ·rw[decide_eq_false h];rfl
theorem Jkg (l:List Int) (hl:l.length≤2000000):Ev L f_k18 [.s (dL l)] [dB (Q7 l)] :=
 Jud (vs:=[.l (dL l)]) L_k18 rfl (JtL (Xr l 2 9 hl (by omega) (by omega)) rfl rfl rfl (Jt9 rfl))
/- What one site knows is so for all; who is alone knows all: over residual programs. -/
theorem JjQ (b g:List Int) (s:Int) (hg :∀x∈g,0≤x∧x≤50) (hl:g.length≤2000000):Ev L f_k24 [.s (dL b),.s (dL g),dI s] [dI (JK g s)]:=by
 refine Jud (vs:=[.l (dL b),.l (dL g),.i s]) L_k24 rfl ?_;refine Jt5 g.length (fun i=>[.i (JK (g.take i) s),.i i]) (fun _=>True) rfl rfl trivial fun i hi _=>?_;simp only[sC,sN];refine JtN i (dL1 g) rfl (fun h=>?_) (fun h=>?_)
 ·obtain⟨x,hx,hm⟩:=sA1 h;have hst:=Yx (s:=s) hx;have hle:=Jbz (s:=s) hg i hi;have hxb:=hg x hm;refine JtI (decide ((i:Int)=s)) rfl (fun hs=>?_) (fun hs=>?_)
  ·refine Jt3 i (mA1 (f:=dI) hx) rfl rfl rfl rfl ?_;refine JtH (vs:=[.i (JK (g.take (i+1)) s),.i ((i+1:Nat):Int)]) ?_ ⟨h,rfl,trivial⟩;show [V.i (i64.wrap (JK (g.take i) s+x)),V.i (i64.wrap ((i:Int)+1))]=_;rw[wS h (by omega),hst,if_neg (by simpa using hs),w64 (by omega) (by omega)]
  ·refine JtH (vs:=[.i (JK (g.take (i+1)) s),.i ((i+1:Nat):Int)]) ?_ ⟨h,rfl,trivial⟩;show [V.i (JK (g.take i) s),V.i (i64.wrap ((i:Int)+1))]=_;rw[wS h (by omega),hst,if_pos (by simpa using hs),Int.add_zero]
 ·refine JtX (Jt9 ?_);rw[tA1 h];rfl
def B3 (r:Int×Int×Bool):List D:=[dI r.1,dI r.2.1,dB r.2.2]
theorem Jir {a b:List Int} {A B:Int} (ha:Lim A a) (hb:Lim B b):Lim (A+B) (Qn a b):=by
 have:=JdK (n:=1) (N:=1) ha hb (by omega);have e:Qh a b 1=Qn a b:=by
  unfold Qh Qn
  congr 1
  funext x y;omega
 rw[e] at this;exact this.mono (by omega)
theorem Z1.here {f:Frm} {b a w:List Int} (hf:f.ok=true) (hb:JU b=true) (ha:Qw a=true) (hw:Q7 w=true):Z1 f (Qn b a) w:=by
 have hs:=JoD hf;obtain⟨b1,b2⟩:=QH.1 hb;obtain⟨a1,a2⟩:=Jo.1 ha;obtain⟨w1,w2⟩:=X3.1 hw;refine⟨hs.c,hs.d,by rw[ZU (by omega)];exact b1,w1,10000000,30000,by omega,by omega,by omega,hs.lc,hs.ld,(Jir b2 (B:=20000) a2).mono (by omega),w2.mono (by omega),by have:=hs.k;omega⟩
theorem Jgs {f:Frm} {v w:List Int} (h:Z1 f v w):Ev L f_k23 (f.cells++[.s (dL v),.s (dL w)]) [dI (atF f v w)]:=by
 obtain⟨A,B,hA,hB,hAB,h1,h2,h3,h4,h5⟩:=h.a;have h0:0≤A*B:=Int.mul_nonneg hA hB;have c3:=h.c;have d2:=h.d;have v3:=h.v3;have w2:=h.w2;have lim :∀(c x:List Int) (i:Nat),Lim A c→Lim B x→i≤3→-3000000000000000≤dot (c.take i) (x.take i)∧dot (c.take i) (x.take i)≤3000000000000000:=by
  intro c x i hc hx hi;have:=KA (hc.take i) (hx.take i) hA hB;have hl:((c.take i).length:Int)≤3:=by simp;omega
  have:=Int.mul_le_mul_of_nonneg_left hl h0;omega
 refine Jud (vs:=[.l (dL f.c),.l (dL f.d),.i f.k,.l (dL v),.l (dL w)]) L_k23 rfl ?_;refine Jt5 3 (fun i=>[.i (f.k+dot (f.c.take i) (v.take i)),.i i]) (fun _=>True) rfl (by simp[dot,den,Jm,V.int]) trivial fun i hi _=>?_;simp only[sC,sN];refine JtZ i 3 rfl (fun hi3=>?_) (fun hi3=>?_)
 ·obtain⟨x,hx,hmx⟩:=sA1 (show i<f.c.length by omega);obtain⟨y,hy,hmy⟩:=sA1 (show i<v.length by omega);have hp:=UE (h1 x hmx) (h3 y hmy);have hl:=lim f.c v i h1 h3 hi;refine Jt3 i (mA1 (f:=dI) hx) rfl rfl rfl rfl ?_;refine Jt3 i (mA1 (f:=dI) hy) rfl rfl rfl rfl ?_;refine JtH (vs:=[.i (f.k+dot (f.c.take (i+1)) (v.take (i+1))),.i ((i+1:Nat):Int)]) ?_ ⟨hi3,rfl,trivial⟩;show [V.i (i64.wrap (f.k+dot (f.c.take i) (v.take i)+i64.wrap (x*y))),V.i (i64.wrap ((i:Int)+1))]=_;rw[wS hi3 (by omega),w64 (n:=x*y) (by omega) (by omega),w64 (by omega) (by omega),Jew hx hy,Int.add_assoc]
 have hi3:i=3:=by omega
 subst hi3;rw[Jum (by omega),Jum (by omega)];refine JtX ?_;have hcv:=lim f.c v 3 h1 h3 (by omega);rw[Jum (by omega),Jum (by omega)] at hcv;refine Jt5 2 (fun i=>[.i (f.k+dot f.c v+dot (f.d.take i) (w.take i)),.i i]) (fun _=>True) rfl (by simp[dot,den,Jm,V.int]) trivial fun i hi _=>?_;simp only[sC,sN];refine JtZ i 2 rfl (fun hi2=>?_) (fun hi2=>?_)
 ·obtain⟨x,hx,hmx⟩:=sA1 (show i<f.d.length by omega);obtain⟨y,hy,hmy⟩:=sA1 (show i<w.length by omega);have hp:=UE (h2 x hmx) (h4 y hmy);have hl:=lim f.d w i h2 h4 (by omega);refine Jt3 i (mA1 (f:=dI) hx) rfl rfl rfl rfl ?_;refine Jt3 i (mA1 (f:=dI) hy) rfl rfl rfl rfl ?_;refine JtH (vs:=[.i (f.k+dot f.c v+dot (f.d.take (i+1)) (w.take (i+1))),.i ((i+1:Nat):Int)]) ?_ ⟨hi2,rfl,trivial⟩;show [V.i (i64.wrap (f.k+dot f.c v+dot (f.d.take i) (w.take i)+i64.wrap (x*y))),V.i (i64.wrap ((i:Int)+1))]=_;rw[wS hi2 (by omega),w64 (n:=x*y) (by omega) (by omega),w64 (by omega) (by omega),Jew hx hy,Int.add_assoc (f.k+dot f.c v)]
 ·refine JtX (Jt9 ?_);show [dI (f.k+dot f.c v+dot (f.d.take i) (w.take i))]=_;rw[Jum (by omega),Jum (by omega),show f.k+dot f.c v+dot f.d w=atF f v w by unfold atF;omega]
theorem JpZ {a b:List Int} (ha:a.length=3) (hb:b.length=3) (la:Lim 1000000000 a) (lb:Lim 1000000000 b):Ev L f_k22 [.s (dL a),.s (dL b)] [.s (dL (Qn a b))]:=by
 refine Jud (vs:=[.l (dL a),.l (dL b)]) L_k22 rfl ?_;refine Jt5 3 (fun i=>[.l (dL ((Qn a b).take i)),.i i]) (fun _=>True) rfl rfl trivial fun i hi _=>?_;simp only[sC,sN];refine JtZ i 3 rfl (fun h=>?_) (fun h=>?_)
 ·obtain⟨x,hx,hmx⟩:=sA1 (show i<a.length by omega);obtain⟨y,hy,hmy⟩:=sA1 (show i<b.length by omega);have hxl:=la x hmx;have hyl:=lb y hmy;have hs:(Qn a b)[i]? = some (x+y):=by unfold Qn;rw[List.getElem?_zipWith,hx,hy]
  refine Jt3 i (mA1 (f:=dI) hx) rfl rfl rfl rfl ?_;refine Jt3 i (mA1 (f:=dI) hy) rfl rfl rfl rfl ?_;refine Juc (dL ((Qn a b).take i)) 10 (by rw[dL1];simp;omega) (by omega) rfl ?_;refine JtH (vs:=[.l (dL ((Qn a b).take (i+1))),.i ((i+1:Nat):Int)]) ?_ ⟨h,rfl,trivial⟩;show [V.l (dL ((Qn a b).take i)++[dI (i64.wrap (x+y))]),V.i (i64.wrap ((i:Int)+1))]=_;rw[wS h (by omega),w64 (by omega) (by omega),Xa,tS1 hs]
 ·refine JtX (Jt9 ?_);show [D.s (dL ((Qn a b).take i))]=_;rw[Jum (by rw[ZU (by omega)];omega)]
theorem Jj7 {b g:List Int} {ps:List (List Int)} {s:Int} {a:List Int} (h:QF b g ps s a=true):JU b=true∧(∀x∈g,0≤x∧x≤50)∧Qw a=true:=by
 simp only[QF,Qr,Jui,Juv,Jp] at h;exact⟨h.1.1.1.1.1,h.1.1.1.2,h.2⟩
theorem Jeu (b g:List Int) (ps:List (List Int)) (s:Int) (a:List Int) (f:Frm) (w:List Int) (hb:b.length≤2000000) (hg:g.length≤2000000) (hp:fitLL ps) (ha:a.length≤2000000) (hf:Frm.fit f) (hw:w.length≤2000000) :
  Ev L f_k25 ([.s (dL b),.s (dL g),.s (dLL ps),dI s,.s (dL a)]++f.cells++[.s (dL w)]) (B3 (JT b g ps s a f w)):=by
 refine Jud (vs:=[.l (dL b),.l (dL g),.l (dLL ps),.i s,.l (dL a),.l (dL f.c),.l (dL f.d),.i f.k,.l (dL w)]) L_k25 rfl ?_;have none:(QF b g ps s a&&f.ok&&Q7 w)=false→JT b g ps s a f w=(0,0,false):=fun h=>by
  unfold JT;unfold QF at h;rw[h];rfl
 refine JtL (Jbm b g hb hg) rfl rfl rfl ?_;refine JtI (Qr b g) rfl (fun h=>Jt9 ?_) (fun h=>?_)
 ·rw[none (by simp[QF,h])];rfl
 refine JtL (Jdx ps hp) rfl rfl rfl ?_;refine JtI (QO ps) rfl (fun h'=>Jt9 ?_) (fun h'=>?_)
 ·rw[none (by simp[QF,h'])];rfl
 refine JtL (JQ s 0 (g.length-1)) rfl ?_ rfl ?_
 ·show [dI s,dI 0,dI (i64.wrap (((dL g).length:Int)-1))]=_;rw[dL1,w64 (by omega) (by omega)]
 refine JtI (inB s 0 (g.length-1)) rfl (fun h''=>Jt9 ?_) (fun h''=>?_)
 ·rw[none (by simp[QF,h''])];rfl
 refine JtL (Xr a 3 20000 ha (by omega) (by omega)) rfl rfl rfl ?_;refine JtI (JG 3 20000 a) rfl (fun h3=>Jt9 ?_) (fun h3=>?_)
 ·rw[none (by simp[QF,Qw,h3])];rfl
 have hfine:QF b g ps s a=true:=by simp only[QF,Qw,h,h',h'',h3];rfl
 refine JtL (Jih f hf) rfl rfl rfl ?_;refine JtI f.ok rfl (fun h2=>Jt9 ?_) (fun h2=>?_)
 ·rw[none (by simp[h2])];rfl
 refine JtL (Jkg w hw) rfl rfl rfl ?_;refine JtI (Q7 w) rfl (fun h3=>Jt9 ?_) (fun h4=>?_)
 ·rw[none (by simp[h3])];rfl
 simp only[sC,sN];obtain⟨v1,v2,v3⟩:=Jj7 hfine;obtain⟨b1,b2⟩:=QH.1 v1;obtain⟨a1,a2⟩:=Jo.1 v3;have hat:=Z1.here h2 v1 v3 h4;have hlim:=Jpc hat;have hstd:=JoD h2;have hM:JT b g ps s a f w=if f.c=[0,0,0] then(atF f (Qn b a) w,atF f (Qn b a) w,true) else if Jl f.c∈ps then(atF f (Qn b a) w-JK g s,atF f (Qn b a) w+JK g s,true) else(0,0,false):=by
  unfold JT;unfold QF at hfine;rw[hfine,h2,h4];rfl
 rw[hM];refine JtL (JpZ b1 (by omega) (b2.mono (by omega)) (Lim.mono (m:=20000) a2 (by omega))) rfl rfl rfl ?_;refine JtL (Jgs hat) rfl rfl rfl ?_;refine JtL (Jeo f (hstd.lc.mono (by omega)) (by rw[hstd.c];omega)) rfl rfl rfl ?_;refine JtL XR rfl rfl rfl ?_;refine JtL (Jby (Jl f.c) [0,0,0] (by rw[Vl,hstd.c];omega)) rfl rfl rfl ?_;have hol:=Jbz (s:=s) v2 g.length (Nat.le_refl _);rw[Jum (Nat.le_refl _)] at hol;have hO:=JjQ b g s v2 hg;simp only[sC,sN];generalize atF f (Qn b a) w=n at *;generalize JK g s=o at *;have hpz:=JfX hstd.c;refine Jua (decide (Jl f.c=[0,0,0])) rfl (fun hz=>Jt9 ?_) (fun hz=>?_)
 ·rw[if_pos (hpz.1 (by simpa using hz))];rfl
 rw[if_neg (fun e=>by simp[hpz.2 e] at hz)];refine JtL (JeX ps (Jl f.c) hp.1 hp.2) rfl rfl rfl ?_;simp only[sC,sN];refine Jt2 (K0 ps (Jl f.c)<0) rfl (fun hh=>Jt9 ?_) (fun hh=>?_)
 ·rw[if_neg ((Jgb _ _).1 hh)];rfl
 ·rw[if_pos ((JaS _ _).1 (by omega))];refine JtL hO rfl rfl rfl ?_;refine JtL hO rfl rfl rfl (Jt9 ?_);show [dI (i64.wrap (n-o)),dI (i64.wrap (n+o)),dB true]=_;rw[w64 (n:=n-o) (by omega) (by omega),w64 (n:=n+o) (by omega) (by omega)];rfl
/- What a site does alone: over residual programs. -/
theorem JtT {l:List V} {Q:Oc→Prop} {r:R} {c:Nat} {N:Int} (x:List Int) (hx:x.length≤1000) (hN:1000≤N) (he:lst (Jm l) (.v c)=dL x) (h:WR L r l Q) :
  WR L (.i (.chk (.cmp .le (.len (.v c)) (.z N))) (.i (.head 1 (.v c)) (.i (.chk (.cmp .le (.len (.app .nil (.v c))) (.z N))) r))) l Q :=
 JtM (dL x) 1000 (by rw[dL1];omega) hN he (JtS (by rw[he];exact JR x) (JtM (dL x) 1000 (by rw[dL1];omega) hN he h))
theorem Wr {pins:List Bool} {a:List Int} {i:Nat} {x:Int} {b:Bool} (hx:a[i]? = some x) (hb:pins[i]? = some b):(a.zip pins)[i]? = some (x,b):=by
 rw[List.getElem?_zip_eq_some];exact⟨hx,hb⟩
theorem Jjc (as:List (List Jg)) (ps:List (List Int)) (pins:List Bool) (a:List Int) (hp:pins.length=3) (ha:a.length=3):Ev L f_k4x [.s (Je as),.s (dLL ps),.s (dBl pins),.s (dL a)] [dB (Qe pins a)]:=by
 refine Jud (vs:=[.l (Je as),.l (dLL ps),.l (dBl pins),.l (dL a)]) L_k4x rfl ?_;refine Jt5 a.length (fun i=>[.i i]) (fun i=>((a.zip pins).take i).all (fun q=>!(q.2 && !decide (q.1=0)))=true) rfl rfl rfl fun i hi hq=>?_;simp only[sC,sN];refine JtN i (dL1 a) rfl (fun h=>?_) (fun h=>?_)
 ·obtain⟨x,hx,_⟩:=sA1 h;obtain⟨b,hb,_⟩:=sA1 (show i<pins.length by omega);have hz:=Wr hx hb;refine Jt3 i (mA1 (f:=dI) hx) rfl rfl rfl rfl ?_;refine JtI (decide (x=0)) rfl (fun h0=>?_) (fun h0=>?_)
  ·refine Jt3 i (mA1 (f:=dB) hb) rfl rfl rfl rfl ?_;refine Jua b rfl (fun hb1=>JtX (Jt9 ?_)) (fun hb1=>?_)
   ·show [dB false]=_;unfold Qe;rw[Yl hz (by simp only[h0,hb1];rfl)]
   ·refine JtH (vs:=[.i ((i+1:Nat):Int)]) ?_ ⟨h,rfl,QW hz hq (by simp only[hb1];rfl)⟩;show [V.i (i64.wrap ((i:Int)+1))]=_;rw[wS h (by omega)]
  ·refine JtH (vs:=[.i ((i+1:Nat):Int)]) ?_ ⟨h,rfl,QW hz hq (by simp only[h0];simp)⟩;show [V.i (i64.wrap ((i:Int)+1))]=_;rw[wS h (by omega)]
 ·refine JtX (Jt9 ?_);rw[Jum (by simp;omega)] at hq;unfold Qe;rw[hq];rfl
theorem WH (pins:List Bool) (a:List Int) (hp:pins.length=3) (ha:a.length=3):Ev L f_k1i [.s (dBl pins),.s (dL a)] [dB (Qe pins a)]:=by
 refine Jud (vs:=[.l (dBl pins),.l (dL a)]) L_k1i rfl ?_;refine Jt5 3 (fun i=>[.i i]) (fun i=>((a.zip pins).take i).all (fun q=>!(q.2 && !decide (q.1=0)))=true) rfl rfl rfl fun i hi hq=>?_;simp only[sC,sN];refine JtZ i 3 rfl (fun h=>?_) (fun h=>?_)
 ·obtain⟨x,hx,_⟩:=sA1 (show i<a.length by omega);obtain⟨b,hb,_⟩:=sA1 (show i<pins.length by omega);have hz:=Wr hx hb;refine Jt3 i (mA1 (f:=dB) hb) rfl rfl rfl rfl ?_;refine Jua b rfl (fun hb1=>?_) (fun hb1=>?_)
  ·refine Jt3 i (mA1 (f:=dI) hx) rfl rfl rfl rfl ?_;refine JtI (decide (x=0)) rfl (fun h0=>JtX (Jt9 ?_)) (fun h0=>?_)
   ·show [dB false]=_;unfold Qe;rw[Yl hz (by simp only[h0,hb1];rfl)]
   ·refine JtH (vs:=[.i ((i+1:Nat):Int)]) ?_ ⟨h,rfl,QW hz hq (by simp only[h0];simp)⟩;show [V.i (i64.wrap ((i:Int)+1))]=_;rw[wS h (by omega)]
  ·refine JtH (vs:=[.i ((i+1:Nat):Int)]) ?_ ⟨h,rfl,QW hz hq (by simp only[hb1];rfl)⟩;show [V.i (i64.wrap ((i:Int)+1))]=_;rw[wS h (by omega)]
 ·refine JtX (Jt9 ?_);rw[Jum (by simp;omega)] at hq;unfold Qe;rw[hq];rfl
theorem JkH (as:List (List Jg)) (hf:Ym as):Ev L f_k4n [.s (Je as)] [.s (Je as),.s (dLL (Jb as)),.s (dBl (Jj as))]:=by
 refine Jud (vs:=[.l (Je as)]) L_k4n rfl ?_;refine JtL (Jm5 as hf) rfl rfl rfl ?_;refine JtL (JoW as hf) rfl rfl rfl (Jt9 rfl)
theorem VR {b g:List Int} {ps:List (List Int)} {s:Int} {a:List Int} (h:keeps b g ps s a=true):a.length=3:=(Zx (Xu h)).2.2.2.2.2.1.1
theorem JmK (as:List (List Jg)) (ps:List (List Int)) (pins:List Bool) (b g:List Int) (s:Int) (a:List Int) (hpi:pins.length=3) (hb:b.length≤2000000) (hg:g.length≤2000000) (hp:fitLL ps) (ha:a.length≤2000000) :
  Ev L f_k4y [.s (Je as),.s (dLL ps),.s (dBl pins),.s (dL b),.s (dL g),dI s,.s (dL a)] [dB (keeps b g ps s a&&Qe pins a)]:=by
 refine Jud (vs:=[.l (Je as),.l (dLL ps),.l (dBl pins),.l (dL b),.l (dL g),.i s,.l (dL a)]) L_k4y rfl ?_;refine JtL (JiA b g ps s a hb hg hp ha) rfl rfl rfl ?_;refine Jua (keeps b g ps s a) rfl (fun h=>?_) (fun h=>Jt9 ?_)
 ·refine JtL (Jjc as ps pins a hpi (VR h)) rfl rfl rfl (Jt9 ?_);rw[h];rfl
 ·rw[h];rfl
def Joj (b g:List Int) (ps:List (List Int)) (s:Int) (a w:List Int) (f:Frm):Bool:=(JT b g ps s a f w).2.2&&decide (0≤(JT b g ps s a f w).1)
structure FitB (b g:List Int) (ps:List (List Int)) (a w:List Int):Prop where
 b:b.length≤2000000
 g:g.length≤2000000
 p:fitLL ps
 a:a.length≤2000000
 w:w.length≤2000000
theorem Jl5 (b g:List Int) (ps:List (List Int)) (s:Int) (a w:List Int) (h:FitB b g ps a w) (r:Row) (hr:YO r) :
  Ev L f_k26 ([.s (dL b),.s (dL g),.s (dLL ps),dI s,.s (dL a)]++r.cells++[.s (dL w)]) [dB (KT b g ps s a w r)]:=by
 refine Jud (vs:=[.l (dL b),.l (dL g),.l (dLL ps),.i s,.l (dL a),.l (dF r.guards),.l (dF r.adds),.l (dF r.tells),.b r.stop,.l (dL w)]) L_k26 rfl ?_;have hgl:=hr.gl;refine Jt5 r.guards.length (fun i=>[.i i]) (fun i=>(r.guards.take i).all (Joj b g ps s a w)=true) rfl rfl rfl fun i hi hq=>?_;simp only[sC,sN];have hS:KT b g ps s a w r=r.guards.all (Joj b g ps s a w):=rfl;rw[hS];refine JtN i (J4 r.guards) rfl (fun h'=>?_) (fun h'=>?_)
 ·obtain⟨f,hf,hm⟩:=sA1 h';refine Jt3 i (mA1 (f:=Frm.g) hf) rfl rfl rfl rfl ?_;refine JtL (Jeu b g ps s a f w h.b h.g h.p h.a (hr.g f hm).fit h.w) rfl rfl rfl ?_;simp only[sC,sN];have hF:Joj b g ps s a w f=((JT b g ps s a f w).2.2&&decide (0≤(JT b g ps s a f w).1)):=rfl;generalize JT b g ps s a f w=B at *;refine JtI B.2.2 rfl (fun h1=>JtX (Jt9 ?_)) (fun h1=>?_)
  ·rw[Yl hf (by rw[hF,h1];rfl)];rfl
  refine Jt2 (B.1<0) rfl (fun h2=>JtX (Jt9 ?_)) (fun h2=>?_)
  ·rw[Yl hf (by rw[hF,h1];simp;omega)];rfl
  refine JtH (vs:=[.i ((i+1:Nat):Int)]) ?_ ⟨h',rfl,QW hf hq (by rw[hF,h1];simp;omega)⟩;show [V.i (i64.wrap ((i:Int)+1))]=_;rw[wS h' (by omega)]
 ·refine JtX (Jt9 ?_);rw[tA1 h'] at hq;rw[hq];rfl
/- What a site does alone: the tries themselves,over residual programs. -/
theorem Jha {b w:List Int} (hb:JU b=true) (hw:Q7 w=true) {fs:List Frm} (hf :∀f∈fs,Std 10000000 f) :∀f∈fs,Z1 f b w:=fun f hm=>Z1.std (hf f hm) hb hw
theorem Jg3 (fs:List Frm) (v w:List Int):(atL fs v w).length=fs.length:=by simp[atL]
theorem JeA {i:Nat} (h:i<3):[0,1,2][i]? = some i:=by
 match i,h with
 | 0,_ | 1,_ | 2,_=>rfl
theorem UX {as:List (List Jg)} (h:Qs as=true):(Jj as).length=3:=by rw[Jd4 h,Jnh]
def Jdc (O U:Nat→Bool) (b g:List Int) (ps:List (List Int)) (s:Int) (a w:List Int):Prop :=
 ∀i,O i=([0,1,2].take i).any (ovM b g ps s a w)∧U i=([0,1,2].take i).any (unM b g ps s a w)
theorem Jdc.step {O U:Nat→Bool} {b g:List Int} {ps:List (List Int)} {s:Int} {a w:List Int} (h:Jdc O U b g ps s a w) {i:Nat} (hi:i<3) :
  O (i+1)=(O i||(decide (10000<(JT b g ps s a (JA i) w).1)||decide ((JT b g ps s a (JA i) w).2.1 < -10000))) ∧
  U (i+1)=(U i||(decide ((JT b g ps s a (JA i) w).1 < -10000)||decide (10000<(JT b g ps s a (JA i) w).2.1))):=by
 rw[(h (i+1)).1,(h (i+1)).2,(h i).1,(h i).2,Ji3 (JeA hi),Ji3 (JeA hi)];exact⟨rfl,rfl⟩
theorem Jdc.zero {O U:Nat→Bool} {b g:List Int} {ps:List (List Int)} {s:Int} {a w:List Int} (h:Jdc O U b g ps s a w):O 0=false∧U 0=false:=⟨(h 0).1,(h 0).2⟩
theorem Jdc.three {O U:Nat→Bool} {b g:List Int} {ps:List (List Int)} {s:Int} {a w:List Int} (h:Jdc O U b g ps s a w):O 3=[0,1,2].any (ovM b g ps s a w)∧U 3=[0,1,2].any (unM b g ps s a w):=⟨(h 3).1,(h 3).2⟩
end Go.Proofs.YtofcmnglieaoeaaGreatDoor

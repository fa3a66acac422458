import Derived.Test.YtdmjmcegcpdenaaGreatDoorPP
import Derived.Test.YtdmjmcegcpdenaaGreatDoorPM
import Derived.Test.YtdmjmcegcpdenaaGreatDoorTd
set_option linter.unusedVariables false
set_option linter.unusedSimpArgs false
/- Each way is ok,and there are at most two for each test: over residual programs. -/
namespace Go.Proofs.YtdmjmcegcpdenaaGreatDoor
open Go Go.Tm
theorem Jey (a b:List Int) (hl:a.length≤2000000):Ev L f_k5e [.s (dL a),.s (dL b)] [dB (decide (a=b))] :=
 JfV dI .i a b L_k5e rfl (fun _=>rfl) (fun _ _ _ _ _=>rfl) hl
theorem Jj0:Ev L f_k5i [] [dB true]:=by
 refine Jtg (vs:=[]) L_k5i rfl ?_
 refine JsZ U6 rfl rfl rfl ?_
 have e:=YP Frm.zero Xe.fit
 rw[Xe.okF (by omega)] at e
 exact JsZ e rfl rfl rfl (JsN rfl)
theorem Jpc (n:Int) (h0:0≤n) (hn:n≤2000000):Ev L f_k4f [dI n] [.s []]:=by
 refine Jtg (vs:=[.i n]) L_k4f rfl ?_
 have hw:IntKind.i64.wrap (n-IntKind.i64.wrap (0-0))=n:=by rw[w64 (n:=0-0) (by omega) (by omega),w64 (by omega) (by omega)];omega
 refine JsI (n<0) rfl (fun h=>by omega) (fun _=>?_)
 refine JsI (0<n) (by show decide (0<IntKind.i64.wrap (n-IntKind.i64.wrap (0-0)))=_;rw[hw]) (fun h=>?_) (fun h=>JsN rfl)
 refine Js4 (0<n) (by show decide (0<IntKind.i64.wrap (n-IntKind.i64.wrap (0-0)))=_;rw[hw]) h ?_
 refine Js4 (n≤1256584717458) (by show decide (IntKind.i64.wrap (n-IntKind.i64.wrap (0-0))≤1256584717458)=_;rw[hw]) (by omega) ?_
 refine Js8 ?_ (JsN ?_)
 ·show decide ((0:Int)≤((List.replicate (IntKind.i64.wrap (n-IntKind.i64.wrap (0-0))).toNat (D.g [.s [],.s [],dI 0])).length:Int))=true
  simp only[decide_eq_true_eq];omega
 ·show [D.s ((List.replicate (IntKind.i64.wrap (n-IntKind.i64.wrap (0-0))).toNat (D.g [.s [],.s [],dI 0])).take (0:Int).toNat)]=_
  simp
def dFF (ls:List (List Frm)):List D:=ls.map fun l=> .s (dF l)
theorem Jli (ls:List (List Frm)):(dFF ls).length=ls.length:=by simp[dFF]
theorem JpW (a b:List Frm):dF a++dF b=dF (a++b):=by simp[dF]
def Uw (ls:List (List Frm)):Nat:=(ls.map List.length).sum
theorem JlP {ls:List (List Frm)} {i:Nat} {l:List Frm} (h:ls[i]? = some l):Uw (ls.take (i+1))=Uw (ls.take i)+l.length:=by
 unfold Uw
 rw[tS1 h];simp
theorem Jmz (ls:List (List Frm)):ls.flatten.length=Uw ls:=by simp[Uw,List.length_flatten]
theorem JpC {ls:List (List Frm)} {N:Nat} (h :∀l∈ls,l.length≤N) (i:Nat):Uw (ls.take i)≤N*ls.length:=by
 have :∀(ls:List (List Frm)),(∀l∈ls,l.length≤N)→Uw ls≤N*ls.length:=by
  intro ls
  induction ls with
  | nil=>intro _;simp[Uw]
  | cons l ls ih =>
   intro h
   have h1:=h l (by simp)
   have h2:=ih fun x hx=>h x (by simp[hx])
   simp only[Uw,List.map_cons,List.sum_cons,List.length_cons,Nat.mul_add] at *
   omega
 have h1:=this (ls.take i) fun l hl=>h l (List.mem_of_mem_take hl)
 refine Nat.le_trans h1 (Nat.mul_le_mul_left _ (by simp;omega))
theorem JmP (ls:List (List Frm)) (hl:ls.length≤100) (h1 :∀l∈ls,l.length≤1000):Ev L f_k4g [.s (dFF ls)] [.s (dF ls.flatten)]:=by
 refine Jtg (vs:=[.l (dFF ls)]) L_k4g rfl ?_
 have hle :∀i,Uw (ls.take i)≤100000:=fun i=>Nat.le_trans (JpC h1 i) (by omega)
 refine Js2 ls.length (fun i=>[.i (Uw (ls.take i)),.i i]) (fun _=>True) rfl rfl trivial fun i hi _=>?_
 have hli:=hle i
 refine JsY i (Jli ls) rfl (fun h=>?_) (fun h=>?_)
 ·obtain⟨x,hx,hm⟩:=sA1 h
  have hxl:=h1 x hm
  refine Js9 i (mA1 (f:=fun l=> .s (dF l)) hx) rfl rfl rfl rfl ?_
  have hw:IntKind.i64.wrap ((Uw (ls.take i):Int)+((dF x).length:Int))=(Uw (ls.take (i+1)):Int):=by
   rw[JZ,JlP hx,w64 (by omega) (by omega)];rfl
  refine JsI (((Uw (ls.take (i+1)):Int))<0) (by show decide (IntKind.i64.wrap ((Uw (ls.take i):Int)+((dF x).length:Int))<0)=_;rw[hw]) (fun h=>by omega) (fun _=>?_)
  refine Js3 (vs:=[.i (Uw (ls.take (i+1))),.i ((i+1:Nat):Int)]) ?_ ⟨h,rfl,trivial⟩
  show [V.i (IntKind.i64.wrap ((Uw (ls.take i):Int)+((dF x).length:Int))),V.i (IntKind.i64.wrap ((i:Int)+1))]=_
  rw[wS h (by omega),hw]
 ·refine JsS ?_
  refine JsZ (Jpc (Uw (ls.take i)) (by omega) (by omega)) rfl rfl rfl ?_
  simp only[sC,sN]
  refine Js2 ls.length (fun j=>[.l (dF (ls.take j).flatten),.i j]) (fun _=>True) rfl rfl trivial fun j hj _=>?_
  simp only[sC,sN]
  refine JsY j (Jli ls) rfl (fun h=>?_) (fun h=>?_)
  ·obtain⟨x,hx,hm⟩:=sA1 h
   have hxl:=h1 x hm
   have hlj:=hle j
   refine Js9 j (mA1 (f:=fun l=> .s (dF l)) hx) rfl rfl rfl rfl ?_
   refine Js6 (dF x) 1000 (by rw[JZ];exact hxl) (by omega) rfl ?_
   refine JsU (JoU x) ?_
   refine Js6 (dF (ls.take j).flatten++dF x) 2000000 (by rw[List.length_append,JZ,JZ,Jmz];omega) (by omega) rfl ?_
   refine Js3 (vs:=[.l (dF (ls.take (j+1)).flatten),.i ((j+1:Nat):Int)]) ?_ ⟨h,rfl,trivial⟩
   show [V.l (dF (ls.take j).flatten++dF x),V.i (IntKind.i64.wrap ((j:Int)+1))]=_
   rw[wS h (by omega),JpW,tS1 hx];simp
  ·refine JsS (JsN ?_)
   show [D.s (dF (ls.take j).flatten)]=_
   rw[tA1 h]
/- What an act does not turn stays: over residual programs. -/
theorem Uj {bs:List Int} {p n:Int} (hr:Rdr bs p) (hf:p≤999999999000) (h1:1≤n) (hn:n≤2000000) :
  ∃ a q,Ev L f_kq [.s (Ja bs),dI p,dI n] [.s (dL a),.s (Ja bs),dI q]∧p≤q∧q≤p+10∧a.length≤3:=by
 have key : ∃ ds,Ev L f_kq [.s (Ja bs),dI p,dI n] ds∧∃ a q,ds=[.s (dL a),.s (Ja bs),dI q]∧p≤q∧q≤p+10∧a.length≤3:=by
  refine Jth (vs:=[.l (Ja bs),.i p,.i n]) L_kq rfl ?_
  have go :∀q,p≤q→q≤p+10→Rdr bs q:=fun q h h'=>hr.go h (by omega)
  refine Je 19 hr (by omega) (by omega) rfl rfl fun u hu0 hu1=>?_
  refine Je 19 (go (p+1) (by omega) (by omega)) (by omega) (by omega) rfl rfl fun v hv0 hv1=>?_
  refine Je n (go (p+1+1) (by omega) (by omega)) h1 hn rfl rfl fun w hw0 hw1=>?_
  simp only[sC,sN]
  have e:[dI (IntKind.i64.wrap (u-9)),dI (IntKind.i64.wrap (v-9))]=dL [u-9,v-9]:=by
   rw[w64 (by omega) (by omega),w64 (by omega) (by omega)];rfl
  refine JsI (w=0) rfl (fun hw=>?_) (fun hw=>?_)
  ·refine Je 3 (go (p+1+1+1) (by omega) (by omega)) (by omega) (by omega) rfl rfl fun z hz0 hz1=>?_
   simp only[sC,sN]
   refine JsI (z=0) rfl (fun hz=>JsN ?_) (fun hz=>?_)
   ·refine⟨[u-9,v-9].take 1,p+1+1+1+1,?_,by omega,by omega,by simp⟩
    show [D.s ([dI (IntKind.i64.wrap (u-9)),dI (IntKind.i64.wrap (v-9))].take 1),.s (Ja bs),dI (p+1+1+1+1)]=_
    rw[e,VI]
   refine JsI (z=1) rfl (fun hz=>?_) (fun hz=>?_)
   ·refine JsX [dI (IntKind.i64.wrap (u-9)),dI (IntKind.i64.wrap (v-9))] 2 (by simp) (by omega) rfl ?_
    refine JsN ⟨[u-9,v-9]++[0],p+1+1+1+1,?_,by omega,by omega,by simp⟩
    show [D.s ([dI (IntKind.i64.wrap (u-9)),dI (IntKind.i64.wrap (v-9))]++[dI 0]),.s (Ja bs),dI (p+1+1+1+1)]=_
    rw[e,Xd]
   ·refine Je 2 (go (p+1+1+1+1) (by omega) (by omega)) (by omega) (by omega) rfl rfl fun a ha0 ha1=>?_
    refine Je 2 (go (p+1+1+1+1+1) (by omega) (by omega)) (by omega) (by omega) rfl rfl fun b hb0 hb1=>?_
    simp only[sC,sN]
    refine XQ [10,-10] b hb0 hb1 rfl rfl rfl rfl rfl fun x=>?_
    refine Js4 (0≤a) rfl ha0 ?_
    refine Js4 (a<2) rfl ha1 ?_
    refine Jtd (ds:=dL [u-9,v-9]) a rfl e rfl ha0 (JV ha0 (by simpa using ha1)) rfl ?_
    refine JsN ⟨[u-9,v-9].set a.toNat x,p+1+1+1+1+1+1,?_,by omega,by omega,by simp⟩
    show [D.s ([dI (IntKind.i64.wrap (u-9)),dI (IntKind.i64.wrap (v-9))].set a.toNat (dI x)),.s (Ja bs),dI (p+1+1+1+1+1+1)]=_
    rw[e,QK]
  ·refine JsN ⟨[u-9,v-9],p+1+1+1,?_,by omega,by omega,by simp⟩
   show [D.s [dI (IntKind.i64.wrap (u-9)),dI (IntKind.i64.wrap (v-9))],.s (Ja bs),dI (p+1+1+1)]=_
   rw[e]
 obtain⟨ds,e1,a,q,rfl,e2⟩:=key
 exact⟨a,q,e1,e2⟩
structure ZI (f:Frm) (v w:List Int):Prop where
 c:f.c.length=3
 d:f.d.length=2
 v3:v.length=3
 w2:w.length=2
 a : ∃ A B:Int,0≤A∧0≤B∧A*B≤1000000000000000∧Lim A f.c∧Lim A f.d∧Lim B v∧Lim B w∧-1000000000000000≤f.k∧f.k≤1000000000000000
theorem ZI.sums {f:Frm} {v w:List Int} (h:ZI f v w):(-3000000000000000≤dot f.c v∧dot f.c v≤3000000000000000)∧(-2000000000000000≤dot f.d w∧dot f.d w≤2000000000000000)∧-1000000000000000≤f.k∧f.k≤1000000000000000:=by
 obtain⟨A,B,hA,hB,hAB,h1,h2,h3,h4,h5⟩:=h.a
 have a:=Kg h1 h3 hA hB
 have b:=Kg h2 h4 hA hB
 rw[h.c] at a
 rw[h.d] at b
 exact⟨by omega,by omega,h5⟩
theorem Qz {l:List Int}:JW l=true↔l.length=3∧Lim 10000 l:=by
 unfold JW
 rw[Jo]
 exact⟨fun h=>⟨by omega,h.2⟩,fun h=>⟨by omega,h.2⟩⟩
theorem XV {l:List Int}:Xj l=true↔l.length=2∧Lim 9 l:=by
 unfold Xj
 rw[Jo]
 exact⟨fun h=>⟨by omega,h.2⟩,fun h=>⟨by omega,h.2⟩⟩
theorem ZI.std {f:Frm} {v w:List Int} (hf:Std 10000000 f) (hv:JW v=true) (hw:Xj w=true):ZI f v w:=by
 obtain⟨v1,v2⟩:=Qz.1 hv
 obtain⟨w1,w2⟩:=XV.1 hw
 exact⟨hf.c,hf.d,v1,w1,10000000,10000,by omega,by omega,by omega,hf.lc,hf.ld,v2,w2.mono (by omega),by have:=hf.k;omega⟩
theorem ZI.small {f:Frm} {x w:List Int} (hf:f.small=true) (hx:x.length=3) (hl:Lim 2000000000 x) (hw:Xj w=true):ZI f x w:=by
 obtain⟨h1,h2,h3,h4,h5⟩:=Xq hf
 obtain⟨w1,w2⟩:=XV.1 hw
 exact⟨h1,h2,hx,w1,2,2000000000,by omega,by omega,by omega,h3,h4,hl,w2.mono (by omega),by omega⟩
def Res.ds (r:Res):List D:=[dI r.code,.s (dL r.tells),.s (dL r.is)]
theorem JpD {l:Jg} (h:l.ok=true) (h1 : ¬l.kind=1) (h2 : ¬l.kind=2) (h4 : ¬l.kind=4):l.kind=3:=by
 unfold Jg.ok at h
 rw[if_neg h1,if_neg h2] at h
 split at h
 ·assumption
 ·simp[h4] at h
theorem Jo5 (h:Row→Nat→Bool) (as:List (List Jg)) (hf:X9 as) {fn:FuncId} {caps:List D} (hcap:Xv (.f fn caps) = .f fn caps) (har:arT L fn=some ([some 4,none]++caps.map fun _=>none))
  (hc :∀r,YC r→∀v:Nat,v<3→Ev L fn (r.cells++[dI v]++caps.map D.norm) [dB (h r v)]):Ev L f_k4e [.s (Jd as),.f fn caps] [.s (dBl (V7 h as))]:=by
 have hl:=hf.1
 refine Jtg (vs:=[.l (Jd as),.d (.f fn caps)]) L_k4e rfl ?_
 refine JsR as.length (fun i vs=>∃ p:List Bool,vs=[.l (dBl p),.i i]∧p.length=3∧p=V7 h (as.take i)) rfl ⟨[false,false,false],rfl,rfl,rfl⟩ ?_
 rintro i _ hi ⟨p,rfl,hp,hpe⟩
 simp only[sC,sN]
 refine JsY i (JM as) rfl (fun h'=>?_) (fun h'=>?_)
 ·obtain⟨a,ha,hm⟩:=sA1 h'
  have hB:V7 h (as.take (i+1))=(Js a).foldl (fun p r=>orB p (h r)) p:=by rw[hpe];exact Xm ha
  refine Js9 i (mA1 (f:=fun a=> .s (Jk a)) ha) rfl rfl rfl rfl ?_
  refine JsZ (JcT a (hf.2 a hm)) rfl rfl rfl ?_
  have hrf :∀r∈Js a,YC r:=X5
  have hrl:=Ku a
  generalize Js a=rs at *
  refine JsR rs.length (fun k vs=>∃ q:List Bool,vs=[.l (dBl q),.i k]∧q.length=3∧q=(rs.take k).foldl (fun p r=>orB p (h r)) p) rfl ⟨p,rfl,hp,rfl⟩ ?_
  rintro k _ hk ⟨q,rfl,hq,hqe⟩
  simp only[sC,sN]
  refine JsY k (XR rs) rfl (fun h''=>?_) (fun h''=>?_)
  ·obtain⟨r,hr,hmr⟩:=sA1 h''
   have hfit:=hrf r hmr
   have hC:(rs.take (k+1)).foldl (fun p r=>orB p (h r)) p=orB q (h r):=by rw[hqe];exact Xm hr
   refine JsG k (rdR hr) rfl rfl rfl rfl rfl rfl ?_
   have hO:(orB q (h r)).length=3:=by rw[Zh];exact hq
   refine Js2 3 (fun v=>[.l (dBl ((orB q (h r)).take v++q.drop v)),.i v]) (fun _=>True) rfl rfl trivial fun v hv _=>?_
   simp only[sC,sN]
   refine JsY v (show (dBl q).length=3 by rw[Jgc];exact hq) rfl (fun hv3=>?_) (fun hv3=>?_)
   ·obtain⟨b,hb,_⟩:=sA1 (show v<q.length by omega)
    have ho:=WD (h:=h r) hb
    have hcur:((orB q (h r)).take v++q.drop v)[v]? = some b:=by
     rw[List.getElem?_append_right (by simp;omega),List.getElem?_drop]
     rw[show v+(v-((orB q (h r)).take v).length)=v by simp;omega];exact hb
    have nx :∀c:Bool,c=(b||h r v)→[V.l ((dBl ((orB q (h r)).take v++q.drop v)).set (v:Int).toNat (dB c)),V.i (IntKind.i64.wrap ((v:Int)+1))]=[.l (dBl ((orB q (h r)).take (v+1)++q.drop (v+1))),.i ((v+1:Nat):Int)]:=by
     intro c hc'
     rw[←hc'] at ho
     rw[wS hv3 (by omega),JkT,Int.toNat_natCast,JoE (by omega) ho]
    refine JsG v (mA1 (f:=dB) hcur) rfl rfl rfl rfl rfl rfl ?_
    refine JsW b rfl (fun hbt=>?_) (fun hbf=>?_)
    ·refine JsG v (mA1 (f:=dB) hcur) rfl rfl rfl rfl rfl rfl ?_
     exact Js3 (nx true (by simp[hbt])) ⟨hv3,rfl,trivial⟩
    ·refine JsM (fn:=fn) (caps:=caps) (ds:=[dB (h r v)]) (vs:=[.b (h r v)]) rfl hcap har (hc r hfit v hv3) rfl ?_
     refine JsG v (mA1 (f:=dB) hcur) rfl rfl rfl rfl rfl rfl ?_
     exact Js3 (nx (h r v) (by simp[hbf])) ⟨hv3,rfl,trivial⟩
   ·have hv3:v=3:=by omega
    subst hv3
    rw[List.take_of_length_le (by omega),List.drop_eq_nil_of_le (by omega),List.append_nil]
    refine JsS (Js3 (vs:=[.l (dBl (orB q (h r))),.i ((k+1:Nat):Int)]) ?_ ⟨h'',orB q (h r),rfl,hO,hC.symm⟩)
    show [V.l (dBl (orB q (h r))),V.i (IntKind.i64.wrap ((k:Int)+1))]=_
    rw[wS h'' (by omega)]
  ·rw[tA1 h''] at hqe
   refine JsS (Js3 (vs:=[.l (dBl q),.i ((i+1:Nat):Int)]) ?_ ⟨h',q,rfl,hq,by rw[hB,hqe]⟩)
   show [V.l (dBl q),V.i (IntKind.i64.wrap ((i:Int)+1))]=_
   rw[wS h' (by omega)]
 ·refine JsS (JsN ?_)
  show [D.s (dBl p)]=_
  rw[tA1 h'] at hpe
  rw[hpe]
/- All is kept an eye on; who tells of a pot pins it; with an act more there is more: over residual programs. -/
theorem Jj1 (x:Int):Ev L f_k48 [dI x] [dB (nz x)]:=Jtg (vs:=[.i x]) L_k48 rfl (JsN rfl)
theorem Jna (l:List Int) (hl:l.length=3):Ev L f_k49 [.s (dL l)] [dB (decide (l=[0,0,0]))]:=by
 refine Jtg (vs:=[.l (dL l)]) L_k49 rfl ?_
 refine JsZ (JaO nz l (fn:=f_k48) (caps:=[]) (by omega) rfl rfl fun x _=>Jj1 x) rfl rfl rfl (JsN ?_)
 show [dB (!(l.any nz))]=_
 obtain⟨a,b,c,rfl⟩:=Jar hl
 congr 3
 by_cases h1:a=0 <;> by_cases h2:b=0 <;> by_cases h3:c=0 <;> simp[nz,h1,h2,h3]
theorem Jgr (x:Int):Ev L f_k46 [dI x] [dB (nz x)]:=Jtg (vs:=[.i x]) L_k46 rfl (JsN rfl)
theorem JoM (f:Frm) (hl:Lim 1000000000 f.c) (hn:f.c.length≤2000000):Ev L f_k47 f.cells [.s (dL (Jl f.c))]:=by
 refine Jtg (vs:=[.l (dL f.c),.l (dL f.d),.i f.k]) L_k47 rfl ?_
 refine JsZ (Zy f.c hn) rfl rfl rfl ?_
 refine JsZ (JeX nz f.c (fn:=f_k46) (caps:=[]) hn rfl rfl fun x _=>Jgr x) rfl rfl rfl ?_
 simp only[sC,sN]
 rcases JbX nz f.c with ⟨hp,ha⟩ | ⟨i,x,hp,hx,hnx,ht⟩
 ·rw[hp]
  refine JsO rfl (JsN ?_)
  show [D.s (dL f.c)]=_
  rw[JhP ha]
 rw[hp]
 have hi:=(List.getElem?_eq_some_iff.1 hx).1
 have hs:=JhW hx hnx ht
 have hx0:x≠0:=by simpa[nz] using hnx
 refine JsI ((0:Int)≤(i:Int)) rfl (fun _=>?_) (fun h=>by omega)
 refine JsG i (mA1 (f:=dI) hx) rfl rfl rfl rfl rfl rfl ?_
 simp only[sC,sN]
 refine JsI (x<0) rfl (fun hneg=>?_) (fun hpos=>JsN ?_)
 ·have hpart:Jl f.c=f.c.map fun y=>0-y:=by
   unfold Jl
   rw[hs,if_neg (by omega)]
   apply List.map_congr_left
   intro y _;omega
  rw[hpart]
  refine Js2 f.c.length (fun k=>[.l (dL ((f.c.map fun y=>0-y).take k++f.c.drop k)),.i k]) (fun _=>True) rfl rfl trivial fun k hk _=>?_
  simp only[sC,sN]
  refine JsY k (dL1 f.c) rfl (fun h=>?_) (fun h=>?_)
  ·obtain⟨y,hy,hm⟩:=sA1 h
   have hly:=hl y hm
   have hcur:((f.c.map fun y=>0-y).take k++f.c.drop k)[k]? = some y:=by
    rw[List.getElem?_append_right (by simp;omega),List.getElem?_drop]
    rw[show k+(k-((f.c.map fun y=>0-y).take k).length)=k by simp;omega];exact hy
   have hny:(f.c.map fun y=>0-y)[k]? = some (0-y):=by simp[hy]
   refine JsG k (mA1 (f:=dI) hcur) rfl rfl rfl rfl rfl rfl ?_
   refine JsG k (mA1 (f:=dI) hcur) rfl rfl rfl rfl rfl rfl ?_
   refine Js3 (vs:=[.l (dL ((f.c.map fun y=>0-y).take (k+1)++f.c.drop (k+1))),.i ((k+1:Nat):Int)]) ?_ ⟨h,rfl,trivial⟩
   show [V.l ((dL ((f.c.map fun y=>0-y).take k++f.c.drop k)).set (k:Int).toNat (dI (IntKind.i64.wrap (0-y)))),V.i (IntKind.i64.wrap ((k:Int)+1))]=_
   rw[wS h (by omega),w64 (by omega) (by omega),QK,Int.toNat_natCast,JoE (by simp) hny]
  ·refine JsS (JsN ?_)
   show [D.s (dL ((f.c.map fun y=>0-y).take k++f.c.drop k))]=_
   rw[List.take_of_length_le (by simp;omega),List.drop_eq_nil_of_le (by omega),List.append_nil]
 ·show [D.s (dL f.c)]=_
  unfold Jl
  rw[hs,if_pos (by omega)]
  congr 3
  conv=>lhs;rw[←List.map_id f.c]
  apply List.map_congr_left
  intro y _
  show y=1*y
  omega
theorem Jim (q p:List Int) (hq:q.length≤2000000):Ev L f_k4a [.s (dL q),.q [.s (dL p)]] [dB (decide (q=p))] :=
 Jtg (vs:=[.l (dL q),.d (.q [.s (dL p)])]) L_k4a rfl (JsL (vs:=[.l (dL p)]) rfl rfl (JsZ (Jd4 q p hq) rfl rfl rfl (JsN rfl)))
theorem Jpn (l:List (List Int)) (p:List Int) (hl:l.length≤2000000) (hq :∀q∈l,q.length≤2000000):Ev L f_k4c [.s (dLL l),.s (dL p)] [dI (KQ l p)] :=
 Jtg (vs:=[.l (dLL l),.l (dL p)]) L_k4c rfl (JsZ (JdT (fun q=>decide (q=p)) l (fn:=f_k4a) (caps:=[.q [.s (dL p)]]) hl rfl rfl fun q h=>Jim q p (hq q h)) rfl rfl rfl (JsN rfl))
theorem JjA (a:List Jg) (ha:Kp a):Ev L f_k3j ([.s (Jk a)]++([]:List D).map D.norm) [dB (!Qk a)] :=
 Jtg (vs:=[.l (Jk a)]) L_k3j rfl (JsZ (JfH a ha) rfl rfl rfl (JsN rfl))
theorem Ja6 (as:List (List Jg)) (hf:X9 as):Ev L f_k3k [.s (Jd as)] [dB (Qj as)]:=by
 have hl:=hf.1
 refine Jtg (vs:=[.l (Jd as)]) L_k3k rfl ?_
 refine JsZ (Y7 as.length 1 4) rfl ?_ rfl ?_
 ·show [dI ((Jd as).length:Int),dI 1,dI 4]=_
  rw[JM]
 refine JsW (inB as.length 1 4) rfl (fun h=>?_) (fun h=>JsN ?_)
 ·have e:Ev L f_k39 [.s (Jd as),.f f_k3j []] [dB (as.any fun a=>!Qk a)] :=
   Za (g := f_k38) L_k39 rfl rfl
     (ZG (sh:= .one .s) (as:=[(.s (.v 3))]) (ar:=[none]) (k:=4) (caps:=[]) (fun a=> .s (Jk a)) (fun a=>!Qk a) (fun a=>[.s (Jk a)]) (fun a=>[.l (Jk a)]) as
       L_k38 rfl hl rfl (fun _ _=>rfl) (fun _ _=>rfl) (fun _ _ _ _=>rfl) rfl fun a ha=>JjA a (hf.2 a ha))
  refine JsZ e rfl rfl rfl (JsN ?_)
  show [dB (!(as.any fun a=>!Qk a))]=_
  rw[VJ];simp[Qj,h]
 ·show [dB false]=_
  simp[Qj,h]
set_option maxHeartbeats 2000000 in
theorem Jl7 (as:List (List Jg)) (hf:X9 as):Ev L f_k4d [.s (Jd as)] [.s (dLL (Jb as))]:=by
 refine Jtg (vs:=[.l (Jd as)]) L_k4d rfl ?_
 refine JsZ (Ja6 as hf) rfl rfl rfl ?_
 refine Jte (Qj as) rfl (fun h=>JsN ?_) (fun hok=>?_)
 ·show [D.s []]=_
  simp[Jb,h,dLL]
 have h4:=(XT hok).2.1
 have hcf:Jb as=(U3 as).1:=by simp[Jb,hok]
 rw[hcf]
 simp only[sC,sN]
 refine Js2 3 (fun v=>[.l (dLL (YH.take v)),.i v]) (fun _=>True) rfl rfl trivial fun v hv _=>?_
 simp only[sC,sN]
 refine JsF v 3 rfl (fun hv3=>?_) (fun hv3=>?_)
 ·refine JsZ (Jf4 v (by omega) (by omega)) rfl rfl rfl ?_
  refine Jtb (YA _) ?_
  have hp:YH[v]? = some (Jz (v:Int).toNat).c:=by
   rw[Int.toNat_natCast]
   match v,hv3 with
   | 0,_ | 1,_ | 2,_=>rfl
   | n+3,h=>omega
  refine JsX (dLL (YH.take v)) 3 (by rw[Uh];simp;omega) (by omega) rfl ?_
  refine Js3 (vs:=[.l (dLL (YH.take (v+1))),.i ((v+1:Nat):Int)]) ?_ ⟨hv3,rfl,trivial⟩
  show [V.l (dLL (YH.take v)++[.s (dL (Jz (v:Int).toNat).c)]),V.i (IntKind.i64.wrap ((v:Int)+1))]=_
  rw[wS hv3 (by omega),JaJ,tS1 hp]
 have hv3:v=3:=by omega
 subst hv3
 refine JsS ?_
 refine JsR as.length (fun i vs=>∃ b:List (List Int)×List Bool,vs=[.l (dLL b.1),.i i]∧b=U3 (as.take i)) rfl ⟨(YH,[false,false,false]),rfl,rfl⟩ ?_
 rintro i _ hi ⟨⟨b1,b2⟩,rfl,hb⟩
 simp only[sC,sN]
 refine JsY i (JM as) rfl (fun h=>?_) (fun h=>?_)
 ·obtain⟨a,ha,hm⟩:=sA1 h
  have hB:U3 (as.take (i+1))=Ya (b1,b2) a:=by rw[hb];exact Xm ha
  obtain⟨f1,f2⟩:=Jdr (as.take i)
  rw[←hb] at f1 f2
  have f1:=f1.mono (show 3+384*(as.take i).length≤1600 by simp;omega)
  have hrl:=Ku a
  refine Js9 i (mA1 (f:=fun a=> .s (Jk a)) ha) rfl rfl rfl rfl ?_
  refine JsZ (JcT a (hf.2 a hm)) rfl rfl rfl ?_
  have hrf :∀r∈Js a,YC r:=X5
  have hAB:Ya (b1,b2) a=(Js a).foldl QF (b1,b2):=rfl
  generalize Js a=rs at *
  refine JsR rs.length (fun k vs=>∃ c:List (List Int)×List Bool,vs=[.l (dLL c.1),.i k]∧c=(rs.take k).foldl QF (b1,b2)) rfl ⟨(b1,b2),rfl,rfl⟩ ?_
  rintro k _ hk ⟨⟨c1,c2⟩,rfl,hc⟩
  simp only[sC,sN]
  refine JsY k (XR rs) rfl (fun h'=>?_) (fun h'=>?_)
  ·obtain⟨r,hr,hmr⟩:=sA1 h'
   have hfit:=hrf r hmr
   have hC:(rs.take (k+1)).foldl QF (b1,b2)=QF (c1,c2) r:=by rw[hc];exact Xm hr
   obtain⟨g1,g2⟩:=f1.rows f2 (rs:=rs.take k) fun x hx=>hrf x (List.mem_of_mem_take hx)
   rw[←hc] at g1 g2
   have g1:=g1.mono (show 1600+6*(rs.take k).length≤2000 by simp;omega)
   refine JsG k (rdR hr) rfl rfl rfl rfl rfl rfl ?_
   simp only[sC,sN]
   have hR:QF (c1,c2) r=(r.guards.foldl Jn c1,QJ (QJ c2 r.adds) r.tells):=rfl
   have hgl:=hfit.gl
   refine JsR r.guards.length (fun g vs=>∃ e:List (List Int),vs=[.l (dLL e),.i g]∧e=(r.guards.take g).foldl Jn c1) rfl ⟨c1,rfl,rfl⟩ ?_
   rintro g _ hg ⟨e,rfl,he⟩
   simp only[sC,sN]
   refine JsY g (JZ r.guards) rfl (fun hg'=>?_) (fun hg'=>?_)
   ·obtain⟨f,hfg,hmf⟩:=sA1 hg'
    have hsf:=hfit.g f hmf
    have hE:(r.guards.take (g+1)).foldl Jn c1=Jn e f:=by rw[he];exact Xm hfg
    have e1:=(g1.adds (fs:=r.guards.take g) fun x hx=>hfit.g x (List.mem_of_mem_take hx)).mono (show 2000+(r.guards.take g).length≤2010 by simp;omega)
    rw[←he] at e1
    have nx :∀(x:List (List Int)),x=Jn e f→[V.l (dLL x),V.i (IntKind.i64.wrap ((g:Int)+1))]=[.l (dLL (Jn e f)),.i ((g+1:Nat):Int)]:=by
     intro x hx;rw[hx,wS hg' (by omega)]
    refine Js9 g (mA1 (f:=Frm.g) hfg) rfl rfl rfl rfl ?_
    refine JsZ (JoM f (hsf.lc.mono (by omega)) (by rw[hsf.c];omega)) rfl rfl rfl ?_
    simp only[sC,sN]
    have el:=e1.len
    have hp3:(Jl f.c).length=3:=by rw[U2];exact hsf.c
    have hAP:Jn e f=if KQ e (Jl f.c)<0∧Jl f.c≠[0,0,0] then e++[Jl f.c] else e:=rfl
    generalize Jl f.c=pt at *
    refine JsZ (Jna pt hp3) rfl rfl rfl ?_
    refine Jte (decide (pt=[0,0,0])) rfl (fun hz=>?_) (fun hz=>?_)
    ·refine JsZ (Jpn e pt (by omega) (fun q hq=>by rw[(e1.each q hq).1];omega)) rfl rfl rfl ?_
     generalize KQ e pt=ha at *
     refine JsI (ha<0) rfl (fun h0=>?_) (fun h0=>?_)
     ·refine Jtb (YA _) ?_
      refine JsX (dLL e) 3000 (by rw[Uh];omega) (by omega) rfl ?_
      refine Js3 (vs:=[.l (dLL (Jn e f)),.i ((g+1:Nat):Int)]) ?_ ⟨hg',Jn e f,rfl,hE.symm⟩
      show [V.l (dLL e++[.s (dL pt)]),V.i (IntKind.i64.wrap ((g:Int)+1))]=_
      rw[JaJ]
      refine nx _ ?_
      rw[hAP,if_pos ⟨h0,by simpa using hz⟩]
     ·refine Js3 (nx e ?_) ⟨hg',Jn e f,rfl,hE.symm⟩
      rw[hAP,if_neg]
      intro ⟨h,_⟩
      exact h0 h
    ·refine Js3 (nx e ?_) ⟨hg',Jn e f,rfl,hE.symm⟩
     rw[hAP,if_neg]
     intro ⟨_,h⟩
     exact h (by simpa using hz)
   ·refine JsS ?_
    rw[tA1 hg'] at he
    refine Js3 (vs:=[.l (dLL e),.i ((k+1:Nat):Int)]) ?_ ⟨h',(e,(QF (c1,c2) r).2),rfl,by rw[hC,he];rfl⟩
    show [V.l (dLL e),V.i (IntKind.i64.wrap ((k:Int)+1))]=_
    rw[wS h' (by omega)]
  ·refine JsS ?_
   rw[tA1 h'] at hc
   refine Js3 (vs:=[.l (dLL c1),.i ((i+1:Nat):Int)]) ?_ ⟨h,(c1,c2),rfl,by rw[hB,hAB,hc]⟩
   show [V.l (dLL c1),V.i (IntKind.i64.wrap ((i:Int)+1))]=_
   rw[wS h (by omega)]
 ·refine JsS (JsN ?_)
  show [D.s (dLL b1)]=_
  rw[tA1 h] at hb
  rw[←hb]
def Ua (as:List (List Jg)):Prop:=as.length≤5∧∀a∈as,KK a
theorem Ua.fit {as:List (List Jg)} (h:Ua as):X9 as:=⟨by have:=h.1;omega,fun a ha=>(h.2 a ha).fit⟩
theorem JmQ (as:List (List Jg)) (k:Nat) (a:List Jg):(Jd as).set k (.s (Jk a))=Jd (as.set k a):=by simp[Jd,List.map_set]
theorem Jel {bs:List Int} {p n:Int} (hr:Rdr bs p) (hf:p≤999999950000) (n1:1≤n) (n2:n≤2000000) :
  ∃ as q,Ev L f_k2z [.s (Ja bs),dI p,dI n] [.s (Jd as),.s (Ja bs),dI q]∧p≤q∧q≤p+2000∧Ua as:=by
 have key : ∃ ds,Ev L f_k2z [.s (Ja bs),dI p,dI n] ds∧∃ as q,ds=[.s (Jd as),.s (Ja bs),dI q]∧p≤q∧q≤p+2000∧Ua as:=by
  refine Jth (vs:=[.l (Ja bs),.i p,.i n]) L_k2z rfl ?_
  obtain⟨as,q,e,q1,q2,hs,hl1⟩:=JcX hr (by omega)
  refine JsZ e rfl rfl rfl ?_
  have ht:Ua as:=⟨by have:=hs.1;omega,fun a ha=>(hs.2 a ha).thin⟩
  have hs4:=hs.1
  refine Je n (hr.go (q:=q) (by omega) (by omega)) n1 n2 rfl rfl fun u hu0 hu1=>?_
  simp only[sC,sN]
  refine JsI (0<u) rfl (fun _=>JsN ⟨as,q+1,rfl,by omega,by omega,ht⟩) (fun _=>?_)
  refine Je 3 (hr.go (q:=q+1) (by omega) (by omega)) (by omega) (by omega) rfl rfl fun v hv0 hv1=>?_
  simp only[sC,sN]
  obtain⟨a0,ha0,hm0⟩:=sA1 (show 0<as.length by omega)
  refine JsI (v=0) rfl (fun _=>?_) (fun _=>?_)
  ·obtain⟨a,o,ea,o1,o2,ha⟩:=Jf2 (hr.go (q:=q+1+1) (by omega) (by omega)) (by omega) (n:=1) (by omega) (by omega)
   refine JsZ ea rfl rfl rfl ?_
   simp only[sC,sN]
   refine Js4 ((0:Int)<((Jd as).length:Int)) rfl (by rw[JM];omega) ?_
   refine Js9 0 (mA1 (f:=fun a=> .s (Jk a)) ha0) rfl rfl rfl rfl ?_
   refine JsN ⟨as.set 0 a,o,?_,by omega,by omega,by simp;omega,?_⟩
   ·show [D.s ((Jd as).set (0:Int).toNat (.s (Jk a))),.s (Ja bs),dI o]=_
    rw[JmQ];rfl
   ·intro x hx
    rcases List.mem_or_eq_of_mem_set hx with hx | hx
    ·exact ht.2 x hx
    ·subst hx;exact ha
  refine JsI (v=1) rfl (fun _=>JsN ⟨[],q+1+1,rfl,by omega,by omega,by simp,by simp⟩) (fun _=>?_)
  refine Jta (fun m vs=>∃ bs':List (List Jg),vs=[.l (Jd bs')]∧Ua bs'∧1≤bs'.length∧m=5-bs'.length) rfl (5-as.length) ⟨as,rfl,ht,hl1,rfl⟩ ?_
  rintro m _ ⟨cs,rfl,hc,hc1,hm⟩
  simp only[sC,sN]
  refine JsI ((cs.length:Int)≤4) (by show decide (((Jd cs).length:Int)≤4)=_;rw[JM]) (fun h4=>?_) (fun _=>JsS (JsN ⟨cs,q+1+1,rfl,by omega,by omega,hc⟩))
  obtain⟨c0,hc0,hmc⟩:=sA1 (show 0<cs.length by omega)
  refine Js4 ((0:Int)<((Jd cs).length:Int)) rfl (by rw[JM];omega) ?_
  refine Js9 0 (mA1 (f:=fun a=> .s (Jk a)) hc0) rfl rfl rfl rfl ?_
  refine JsX (Jd cs) 10 (by rw[JM];omega) (by omega) rfl ?_
  refine Js3 (vs:=[.l (Jd (cs++[c0]))]) ?_ ⟨5-(cs++[c0]).length,by simp;omega,cs++[c0],rfl,⟨by simp;omega,?_⟩,by simp,rfl⟩
  ·show [V.l (Jd cs++[.s (Jk c0)])]=_
   rw[Wq]
  ·intro x hx
   rcases List.mem_append.1 hx with hx | hx
   ·exact hc.2 x hx
   ·simp at hx;subst hx;exact hc.2 x hmc
 obtain⟨ds,e1,as,q,rfl,e2⟩:=key
 exact⟨as,q,e1,e2⟩
theorem Jjl (f:Frm) (hf:f.c.length=3) (v:Nat) (hv:v<3):Ev L f_k4h (f.cells++[D.q [dI v]].map D.norm) [dB (decide (f.c.getD v 0≠0))]:=by
 refine Jtg (vs:=[.l (dL f.c),.l (dL f.d),.i f.k,.d (.q [dI v])]) L_k4h rfl ?_
 refine JsL (vs:=[.i v]) rfl rfl ?_
 refine Js9 v (mA1 (f:=dI) (JaH (by omega))) rfl rfl rfl rfl (JsN ?_)
 show [dB (!(decide (f.c.getD v 0=0)))]=_
 simp
theorem JoF (r:Row) (hr:YC r) (v:Nat) (hv:v<3):Ev L f_k4i (r.cells++[dI v]++([]:List D).map D.norm) [dB (Ze r v)]:=by
 refine Jtg (vs:=[.l (dF r.guards),.l (dF r.adds),.l (dF r.tells),.b r.stop,.i v]) L_k4i rfl ?_
 have ha:=hr.al
 have ht:=hr.tl
 refine JsZ (JmP [r.adds,r.tells] (by simp) (by simp;omega)) rfl rfl rfl ?_
 have hfl:[r.adds,r.tells].flatten=r.adds++r.tells:=by simp
 rw[hfl]
 have h3 :∀f∈r.adds++r.tells,f.c.length=3:=by
  intro f hf
  rcases List.mem_append.1 hf with hf | hf
  ·exact(hr.a f hf).c
  ·exact(hr.t f hf).c
 have hlen:(r.adds++r.tells).length≤2000000:=by simp;omega
 unfold Ze
 generalize r.adds++r.tells=all at *
 exact JsZ (Jfo (fun f=>decide (f.c.getD v 0≠0)) all (fn:=f_k4h) (caps:=[.q [dI v]]) hlen rfl rfl fun f hf=>Jjl f (h3 f hf) v hv) rfl rfl rfl (JsN rfl)
theorem Job (as:List (List Jg)) (hf:X9 as):Ev L f_k4j [.s (Jd as)] [.s (dBl (Jj as))]:=by
 refine Jtg (vs:=[.l (Jd as)]) L_k4j rfl ?_
 refine JsZ (Ja6 as hf) rfl rfl rfl ?_
 refine Jte (Qj as) rfl (fun h=>JsN ?_) (fun h=>?_)
 ·show [D.s []]=_
  simp[Jj,h,dBl]
 ·refine JsZ (Jo5 Ze as hf (fn:=f_k4i) (caps:=[]) rfl rfl fun r hr v hv=>JoF r hr v hv) rfl rfl rfl (JsN ?_)
  show [D.s (dBl (V7 Ze as))]=_
  rw[JcD h]
/- There is one way,and it is the act; what an act does not read turns no answer; with an act more there is more: over residual programs. -/
theorem Jm9 {f:Frm} {v w:List Int} (h:ZI f v w) : -6000000000000000≤atF f v w∧atF f v w≤6000000000000000:=by
 obtain⟨s1,s2,s3⟩:=h.sums
 unfold atF;omega
theorem JpA {fs:List Frm} {v w:List Int} (h :∀f∈fs,ZI f v w):Lim 6000000000000000 (atL fs v w):=by
 intro x hx
 simp only[atL,List.mem_map] at hx
 obtain⟨f,hf,rfl⟩:=hx
 exact Jm9 (h f hf)
theorem Joc (c1 c2:Int) (t1 t2:List Int) (hl:t1.length≤2000000):Ev L f_k5f [dI c1,.s (dL t1),dI c2,.s (dL t2)] [dB (decide (c1=c2)&&decide (t1=t2))]:=by
 refine Jtg (vs:=[.i c1,.l (dL t1),.i c2,.l (dL t2)]) L_k5f rfl ?_
 refine JsI (c1=c2) rfl (fun h=>?_) (fun h=>JsN ?_)
 ·refine JsZ (Jey t1 t2 hl) rfl rfl rfl (JsN ?_)
  rw[decide_eq_true h];rfl
 ·rw[decide_eq_false h];rfl
theorem Jjk (l:List Int) (hl:l.length≤2000000):Ev L f_k18 [.s (dL l)] [dB (Xj l)] :=
 Jtg (vs:=[.l (dL l)]) L_k18 rfl (JsZ (Xh l 2 9 hl (by omega) (by omega)) rfl rfl rfl (JsN rfl))
/- What one site knows is so for all; who is alone knows all: over residual programs. -/
theorem Jkf (b g:List Int) (s:Int) (hg :∀x∈g,0≤x∧x≤50) (hl:g.length≤2000000):Ev L f_k24 [.s (dL b),.s (dL g),dI s] [dI (JG g s)]:=by
 refine Jtg (vs:=[.l (dL b),.l (dL g),.i s]) L_k24 rfl ?_
 refine Js2 g.length (fun i=>[.i (JG (g.take i) s),.i i]) (fun _=>True) rfl rfl trivial fun i hi _=>?_
 simp only[sC,sN]
 refine JsY i (dL1 g) rfl (fun h=>?_) (fun h=>?_)
 ·obtain⟨x,hx,hm⟩:=sA1 h
  have hst:=Yn (s:=s) hx
  have hle:=Jbb (s:=s) hg i hi
  have hxb:=hg x hm
  refine Jte (decide ((i:Int)=s)) rfl (fun hs=>?_) (fun hs=>?_)
  ·refine Js9 i (mA1 (f:=dI) hx) rfl rfl rfl rfl ?_
   refine Js3 (vs:=[.i (JG (g.take (i+1)) s),.i ((i+1:Nat):Int)]) ?_ ⟨h,rfl,trivial⟩
   show [V.i (IntKind.i64.wrap (JG (g.take i) s+x)),V.i (IntKind.i64.wrap ((i:Int)+1))]=_
   rw[wS h (by omega),hst,if_neg (by simpa using hs),w64 (by omega) (by omega)]
  ·refine Js3 (vs:=[.i (JG (g.take (i+1)) s),.i ((i+1:Nat):Int)]) ?_ ⟨h,rfl,trivial⟩
   show [V.i (JG (g.take i) s),V.i (IntKind.i64.wrap ((i:Int)+1))]=_
   rw[wS h (by omega),hst,if_pos (by simpa using hs),Int.add_zero]
 ·refine JsS (JsN ?_)
  rw[tA1 h];rfl
def B3 (r:Int×Int×Bool):List D:=[dI r.1,dI r.2.1,dB r.2.2]
theorem Jit {a b:List Int} {A B:Int} (ha:Lim A a) (hb:Lim B b):Lim (A+B) (Qf a b):=by
 have:=JdR (n:=1) (N:=1) ha hb (by omega)
 have e:J9 a b 1=Qf a b:=by
  unfold J9 Qf
  congr 1
  funext x y;omega
 rw[e] at this
 exact this.mono (by omega)
theorem ZI.here {f:Frm} {b a w:List Int} (hf:f.ok=true) (hb:JW b=true) (ha:QI a=true) (hw:Xj w=true):ZI f (Qf b a) w:=by
 have hs:=Jnb hf
 obtain⟨b1,b2⟩:=Qz.1 hb
 obtain⟨a1,a2⟩:=Jo.1 ha
 obtain⟨w1,w2⟩:=XV.1 hw
 refine⟨hs.c,hs.d,by rw[ZF (by omega)];exact b1,w1,10000000,30000,by omega,by omega,by omega,hs.lc,hs.ld,(Jit b2 (B:=20000) a2).mono (by omega),w2.mono (by omega),by have:=hs.k;omega⟩
theorem JgU {f:Frm} {v w:List Int} (h:ZI f v w):Ev L f_k23 (f.cells++[.s (dL v),.s (dL w)]) [dI (atF f v w)]:=by
 obtain⟨A,B,hA,hB,hAB,h1,h2,h3,h4,h5⟩:=h.a
 have h0:0≤A*B:=Int.mul_nonneg hA hB
 have c3:=h.c
 have d2:=h.d
 have v3:=h.v3
 have w2:=h.w2
 have lim :∀(c x:List Int) (i:Nat),Lim A c→Lim B x→i≤3→-3000000000000000≤dot (c.take i) (x.take i)∧dot (c.take i) (x.take i)≤3000000000000000:=by
  intro c x i hc hx hi
  have:=Kg (hc.take i) (hx.take i) hA hB
  have hl:((c.take i).length:Int)≤3:=by simp;omega
  have:=Int.mul_le_mul_of_nonneg_left hl h0
  omega
 refine Jtg (vs:=[.l (dL f.c),.l (dL f.d),.i f.k,.l (dL v),.l (dL w)]) L_k23 rfl ?_
 refine Js2 3 (fun i=>[.i (f.k+dot (f.c.take i) (v.take i)),.i i]) (fun _=>True) rfl (by simp[dot,den,Jm,V.int]) trivial fun i hi _=>?_
 simp only[sC,sN]
 refine JsF i 3 rfl (fun hi3=>?_) (fun hi3=>?_)
 ·obtain⟨x,hx,hmx⟩:=sA1 (show i<f.c.length by omega)
  obtain⟨y,hy,hmy⟩:=sA1 (show i<v.length by omega)
  have hp:=K4 (h1 x hmx) (h3 y hmy)
  have hl:=lim f.c v i h1 h3 hi
  refine Js9 i (mA1 (f:=dI) hx) rfl rfl rfl rfl ?_
  refine Js9 i (mA1 (f:=dI) hy) rfl rfl rfl rfl ?_
  refine Js3 (vs:=[.i (f.k+dot (f.c.take (i+1)) (v.take (i+1))),.i ((i+1:Nat):Int)]) ?_ ⟨hi3,rfl,trivial⟩
  show [V.i (IntKind.i64.wrap (f.k+dot (f.c.take i) (v.take i)+IntKind.i64.wrap (x*y))),V.i (IntKind.i64.wrap ((i:Int)+1))]=_
  rw[wS hi3 (by omega),w64 (n:=x*y) (by omega) (by omega),w64 (by omega) (by omega),Jdx hx hy,Int.add_assoc]
 have hi3:i=3:=by omega
 subst hi3
 rw[List.take_of_length_le (by omega),List.take_of_length_le (by omega)]
 refine JsS ?_
 have hcv:=lim f.c v 3 h1 h3 (by omega)
 rw[List.take_of_length_le (by omega),List.take_of_length_le (by omega)] at hcv
 refine Js2 2 (fun i=>[.i (f.k+dot f.c v+dot (f.d.take i) (w.take i)),.i i]) (fun _=>True) rfl (by simp[dot,den,Jm,V.int]) trivial fun i hi _=>?_
 simp only[sC,sN]
 refine JsF i 2 rfl (fun hi2=>?_) (fun hi2=>?_)
 ·obtain⟨x,hx,hmx⟩:=sA1 (show i<f.d.length by omega)
  obtain⟨y,hy,hmy⟩:=sA1 (show i<w.length by omega)
  have hp:=K4 (h2 x hmx) (h4 y hmy)
  have hl:=lim f.d w i h2 h4 (by omega)
  refine Js9 i (mA1 (f:=dI) hx) rfl rfl rfl rfl ?_
  refine Js9 i (mA1 (f:=dI) hy) rfl rfl rfl rfl ?_
  refine Js3 (vs:=[.i (f.k+dot f.c v+dot (f.d.take (i+1)) (w.take (i+1))),.i ((i+1:Nat):Int)]) ?_ ⟨hi2,rfl,trivial⟩
  show [V.i (IntKind.i64.wrap (f.k+dot f.c v+dot (f.d.take i) (w.take i)+IntKind.i64.wrap (x*y))),V.i (IntKind.i64.wrap ((i:Int)+1))]=_
  rw[wS hi2 (by omega),w64 (n:=x*y) (by omega) (by omega),w64 (by omega) (by omega),Jdx hx hy,Int.add_assoc (f.k+dot f.c v)]
 ·refine JsS (JsN ?_)
  show [dI (f.k+dot f.c v+dot (f.d.take i) (w.take i))]=_
  rw[List.take_of_length_le (by omega),List.take_of_length_le (by omega),show f.k+dot f.c v+dot f.d w=atF f v w by unfold atF;omega]
theorem Jpu {a b:List Int} (ha:a.length=3) (hb:b.length=3) (la:Lim 1000000000 a) (lb:Lim 1000000000 b):Ev L f_k22 [.s (dL a),.s (dL b)] [.s (dL (Qf a b))]:=by
 refine Jtg (vs:=[.l (dL a),.l (dL b)]) L_k22 rfl ?_
 refine Js2 3 (fun i=>[.l (dL ((Qf a b).take i)),.i i]) (fun _=>True) rfl rfl trivial fun i hi _=>?_
 simp only[sC,sN]
 refine JsF i 3 rfl (fun h=>?_) (fun h=>?_)
 ·obtain⟨x,hx,hmx⟩:=sA1 (show i<a.length by omega)
  obtain⟨y,hy,hmy⟩:=sA1 (show i<b.length by omega)
  have hxl:=la x hmx
  have hyl:=lb y hmy
  have hs:(Qf a b)[i]? = some (x+y):=by unfold Qf;rw[List.getElem?_zipWith,hx,hy]
  refine Js9 i (mA1 (f:=dI) hx) rfl rfl rfl rfl ?_
  refine Js9 i (mA1 (f:=dI) hy) rfl rfl rfl rfl ?_
  refine JsX (dL ((Qf a b).take i)) 10 (by rw[dL1];simp;omega) (by omega) rfl ?_
  refine Js3 (vs:=[.l (dL ((Qf a b).take (i+1))),.i ((i+1:Nat):Int)]) ?_ ⟨h,rfl,trivial⟩
  show [V.l (dL ((Qf a b).take i)++[dI (IntKind.i64.wrap (x+y))]),V.i (IntKind.i64.wrap ((i:Int)+1))]=_
  rw[wS h (by omega),w64 (by omega) (by omega),Xd,tS1 hs]
 ·refine JsS (JsN ?_)
  show [D.s (dL ((Qf a b).take i))]=_
  rw[List.take_of_length_le (by rw[ZF (by omega)];omega)]
theorem Jja {b g:List Int} {ps:List (List Int)} {s:Int} {a:List Int} (h:QA b g ps s a=true):JW b=true∧(∀x∈g,0≤x∧x≤50)∧QI a=true:=by
 simp only[QA,Qi,Bool.and_eq_true,List.all_eq_true,Jp] at h
 exact⟨h.1.1.1.1.1,h.1.1.1.2,h.2⟩
theorem JcI (b g:List Int) (ps:List (List Int)) (s:Int) (a:List Int) (f:Frm) (w:List Int) (hb:b.length≤2000000) (hg:g.length≤2000000) (hp:fitLL ps) (ha:a.length≤2000000) (hf:Frm.fit f) (hw:w.length≤2000000) :
  Ev L f_k25 ([.s (dL b),.s (dL g),.s (dLL ps),dI s,.s (dL a)]++f.cells++[.s (dL w)]) (B3 (JN b g ps s a f w)):=by
 refine Jtg (vs:=[.l (dL b),.l (dL g),.l (dLL ps),.i s,.l (dL a),.l (dL f.c),.l (dL f.d),.i f.k,.l (dL w)]) L_k25 rfl ?_
 have none:(QA b g ps s a&&f.ok&&Xj w)=false→JN b g ps s a f w=(0,0,false):=fun h=>by
  unfold JN;unfold QA at h;rw[h];rfl
 refine JsZ (Ja9 b g hb hg) rfl rfl rfl ?_
 refine Jte (Qi b g) rfl (fun h=>JsN ?_) (fun h=>?_)
 ·rw[none (by simp[QA,h])];rfl
 refine JsZ (JcR ps hp) rfl rfl rfl ?_
 refine Jte (QH ps) rfl (fun h'=>JsN ?_) (fun h'=>?_)
 ·rw[none (by simp[QA,h'])];rfl
 refine JsZ (JL s 0 (g.length-1)) rfl ?_ rfl ?_
 ·show [dI s,dI 0,dI (IntKind.i64.wrap (((dL g).length:Int)-1))]=_
  rw[dL1,w64 (by omega) (by omega)]
 refine Jte (inB s 0 (g.length-1)) rfl (fun h''=>JsN ?_) (fun h''=>?_)
 ·rw[none (by simp[QA,h''])];rfl
 refine JsZ (Xh a 3 20000 ha (by omega) (by omega)) rfl rfl rfl ?_
 refine Jte (JD 3 20000 a) rfl (fun h3=>JsN ?_) (fun h3=>?_)
 ·rw[none (by simp[QA,QI,h3])];rfl
 have hfine:QA b g ps s a=true:=by simp only[QA,QI,h,h',h'',h3];rfl
 refine JsZ (Jg7 f hf) rfl rfl rfl ?_
 refine Jte f.ok rfl (fun h2=>JsN ?_) (fun h2=>?_)
 ·rw[none (by simp[h2])];rfl
 refine JsZ (Jjk w hw) rfl rfl rfl ?_
 refine Jte (Xj w) rfl (fun h3=>JsN ?_) (fun h4=>?_)
 ·rw[none (by simp[h3])];rfl
 simp only[sC,sN]
 obtain⟨v1,v2,v3⟩:=Jja hfine
 obtain⟨b1,b2⟩:=Qz.1 v1
 obtain⟨a1,a2⟩:=Jo.1 v3
 have hat:=ZI.here h2 v1 v3 h4
 have hlim:=Jm9 hat
 have hstd:=Jnb h2
 have hM:JN b g ps s a f w=if f.c=[0,0,0] then(atF f (Qf b a) w,atF f (Qf b a) w,true) else if Jl f.c∈ps then(atF f (Qf b a) w-JG g s,atF f (Qf b a) w+JG g s,true) else(0,0,false):=by
  unfold JN
  unfold QA at hfine
  rw[hfine,h2,h4];rfl
 rw[hM]
 refine JsZ (Jpu b1 (by omega) (b2.mono (by omega)) (Lim.mono (m:=20000) a2 (by omega))) rfl rfl rfl ?_
 refine JsZ (JgU hat) rfl rfl rfl ?_
 refine JsZ (Jcz f (hstd.lc.mono (by omega)) (by rw[hstd.c];omega)) rfl rfl rfl ?_
 refine JsZ XF rfl rfl rfl ?_
 refine JsZ (JaY (Jl f.c) [0,0,0] (by rw[U2,hstd.c];omega)) rfl rfl rfl ?_
 have hol:=Jbb (s:=s) v2 g.length (Nat.le_refl _)
 rw[List.take_of_length_le (Nat.le_refl _)] at hol
 have hO:=Jkf b g s v2 hg
 simp only[sC,sN]
 generalize atF f (Qf b a) w=n at *
 generalize JG g s=o at *
 have hpz:=Jfw hstd.c
 refine JsW (decide (Jl f.c=[0,0,0])) rfl (fun hz=>JsN ?_) (fun hz=>?_)
 ·rw[if_pos (hpz.1 (by simpa using hz))];rfl
 rw[if_neg (fun e=>by simp[hpz.2 e] at hz)]
 refine JsZ (Je0 ps (Jl f.c) hp.1 hp.2) rfl rfl rfl ?_
 simp only[sC,sN]
 refine JsI (KQ ps (Jl f.c)<0) rfl (fun hh=>JsN ?_) (fun hh=>?_)
 ·rw[if_neg ((Je4 _ _).1 hh)];rfl
 ·rw[if_pos ((Jax _ _).1 (by omega))]
  refine JsZ hO rfl rfl rfl ?_
  refine JsZ hO rfl rfl rfl (JsN ?_)
  show [dI (IntKind.i64.wrap (n-o)),dI (IntKind.i64.wrap (n+o)),dB true]=_
  rw[w64 (n:=n-o) (by omega) (by omega),w64 (n:=n+o) (by omega) (by omega)];rfl
/- What a site does alone: over residual programs. -/
theorem Jtf {l:List V} {Q:Oc→Prop} {r:R} {c:Nat} {N:Int} (x:List Int) (hx:x.length≤1000) (hN:1000≤N) (he:lst (Jm l) (.v c)=dL x) (h:WR L r l Q) :
  WR L (.i (.chk (.cmp .le (.len (.v c)) (.z N))) (.i (.head 1 (.v c)) (.i (.chk (.cmp .le (.len (.app .nil (.v c))) (.z N))) r))) l Q :=
 Js6 (dL x) 1000 (by rw[dL1];omega) hN he (JsU (by rw[he];exact JO x) (Js6 (dL x) 1000 (by rw[dL1];omega) hN he h))
theorem Ws {pins:List Bool} {a:List Int} {i:Nat} {x:Int} {b:Bool} (hx:a[i]? = some x) (hb:pins[i]? = some b):(a.zip pins)[i]? = some (x,b):=by
 rw[List.getElem?_zip_eq_some];exact⟨hx,hb⟩
theorem JiW (as:List (List Jg)) (ps:List (List Int)) (pins:List Bool) (a:List Int) (hp:pins.length=3) (ha:a.length=3):Ev L f_k4u [.s (Jd as),.s (dLL ps),.s (dBl pins),.s (dL a)] [dB (J5 pins a)]:=by
 refine Jtg (vs:=[.l (Jd as),.l (dLL ps),.l (dBl pins),.l (dL a)]) L_k4u rfl ?_
 refine Js2 a.length (fun i=>[.i i]) (fun i=>((a.zip pins).take i).all (fun q=>!(q.2 && !decide (q.1=0)))=true) rfl rfl rfl fun i hi hq=>?_
 simp only[sC,sN]
 refine JsY i (dL1 a) rfl (fun h=>?_) (fun h=>?_)
 ·obtain⟨x,hx,_⟩:=sA1 h
  obtain⟨b,hb,_⟩:=sA1 (show i<pins.length by omega)
  have hz:=Ws hx hb
  refine Js9 i (mA1 (f:=dI) hx) rfl rfl rfl rfl ?_
  refine Jte (decide (x=0)) rfl (fun h0=>?_) (fun h0=>?_)
  ·refine Js9 i (mA1 (f:=dB) hb) rfl rfl rfl rfl ?_
   refine JsW b rfl (fun hb1=>JsS (JsN ?_)) (fun hb1=>?_)
   ·show [dB false]=_
    unfold J5
    rw[X7 hz (by simp only[h0,hb1];rfl)]
   ·refine Js3 (vs:=[.i ((i+1:Nat):Int)]) ?_ ⟨h,rfl,QM hz hq (by simp only[hb1];rfl)⟩
    show [V.i (IntKind.i64.wrap ((i:Int)+1))]=_
    rw[wS h (by omega)]
  ·refine Js3 (vs:=[.i ((i+1:Nat):Int)]) ?_ ⟨h,rfl,QM hz hq (by simp only[h0];simp)⟩
   show [V.i (IntKind.i64.wrap ((i:Int)+1))]=_
   rw[wS h (by omega)]
 ·refine JsS (JsN ?_)
  rw[List.take_of_length_le (by simp;omega)] at hq
  unfold J5
  rw[hq];rfl
theorem WN (pins:List Bool) (a:List Int) (hp:pins.length=3) (ha:a.length=3):Ev L f_k1i [.s (dBl pins),.s (dL a)] [dB (J5 pins a)]:=by
 refine Jtg (vs:=[.l (dBl pins),.l (dL a)]) L_k1i rfl ?_
 refine Js2 3 (fun i=>[.i i]) (fun i=>((a.zip pins).take i).all (fun q=>!(q.2 && !decide (q.1=0)))=true) rfl rfl rfl fun i hi hq=>?_
 simp only[sC,sN]
 refine JsF i 3 rfl (fun h=>?_) (fun h=>?_)
 ·obtain⟨x,hx,_⟩:=sA1 (show i<a.length by omega)
  obtain⟨b,hb,_⟩:=sA1 (show i<pins.length by omega)
  have hz:=Ws hx hb
  refine Js9 i (mA1 (f:=dB) hb) rfl rfl rfl rfl ?_
  refine JsW b rfl (fun hb1=>?_) (fun hb1=>?_)
  ·refine Js9 i (mA1 (f:=dI) hx) rfl rfl rfl rfl ?_
   refine Jte (decide (x=0)) rfl (fun h0=>JsS (JsN ?_)) (fun h0=>?_)
   ·show [dB false]=_
    unfold J5
    rw[X7 hz (by simp only[h0,hb1];rfl)]
   ·refine Js3 (vs:=[.i ((i+1:Nat):Int)]) ?_ ⟨h,rfl,QM hz hq (by simp only[h0];simp)⟩
    show [V.i (IntKind.i64.wrap ((i:Int)+1))]=_
    rw[wS h (by omega)]
  ·refine Js3 (vs:=[.i ((i+1:Nat):Int)]) ?_ ⟨h,rfl,QM hz hq (by simp only[hb1];rfl)⟩
   show [V.i (IntKind.i64.wrap ((i:Int)+1))]=_
   rw[wS h (by omega)]
 ·refine JsS (JsN ?_)
  rw[List.take_of_length_le (by simp;omega)] at hq
  unfold J5
  rw[hq];rfl
theorem Jkc (as:List (List Jg)) (hf:X9 as):Ev L f_k4k [.s (Jd as)] [.s (Jd as),.s (dLL (Jb as)),.s (dBl (Jj as))]:=by
 refine Jtg (vs:=[.l (Jd as)]) L_k4k rfl ?_
 refine JsZ (Jl7 as hf) rfl rfl rfl ?_
 refine JsZ (Job as hf) rfl rfl rfl (JsN rfl)
theorem VZ {b g:List Int} {ps:List (List Int)} {s:Int} {a:List Int} (h:keeps b g ps s a=true):a.length=3:=(Zi (Xk h)).2.2.2.2.2.1.1
theorem Jmq (as:List (List Jg)) (ps:List (List Int)) (pins:List Bool) (b g:List Int) (s:Int) (a:List Int) (hpi:pins.length=3) (hb:b.length≤2000000) (hg:g.length≤2000000) (hp:fitLL ps) (ha:a.length≤2000000) :
  Ev L f_k4v [.s (Jd as),.s (dLL ps),.s (dBl pins),.s (dL b),.s (dL g),dI s,.s (dL a)] [dB (keeps b g ps s a&&J5 pins a)]:=by
 refine Jtg (vs:=[.l (Jd as),.l (dLL ps),.l (dBl pins),.l (dL b),.l (dL g),.i s,.l (dL a)]) L_k4v rfl ?_
 refine JsZ (JhO b g ps s a hb hg hp ha) rfl rfl rfl ?_
 refine JsW (keeps b g ps s a) rfl (fun h=>?_) (fun h=>JsN ?_)
 ·refine JsZ (JiW as ps pins a hpi (VZ h)) rfl rfl rfl (JsN ?_)
  rw[h];rfl
 ·rw[h];rfl
def JoD (b g:List Int) (ps:List (List Int)) (s:Int) (a w:List Int) (f:Frm):Bool:=(JN b g ps s a f w).2.2&&decide (0≤(JN b g ps s a f w).1)
structure FitB (b g:List Int) (ps:List (List Int)) (a w:List Int):Prop where
 b:b.length≤2000000
 g:g.length≤2000000
 p:fitLL ps
 a:a.length≤2000000
 w:w.length≤2000000
theorem JlU (b g:List Int) (ps:List (List Int)) (s:Int) (a w:List Int) (h:FitB b g ps a w) (r:Row) (hr:YC r) :
  Ev L f_k26 ([.s (dL b),.s (dL g),.s (dLL ps),dI s,.s (dL a)]++r.cells++[.s (dL w)]) [dB (KI b g ps s a w r)]:=by
 refine Jtg (vs:=[.l (dL b),.l (dL g),.l (dLL ps),.i s,.l (dL a),.l (dF r.guards),.l (dF r.adds),.l (dF r.tells),.b r.stop,.l (dL w)]) L_k26 rfl ?_
 have hgl:=hr.gl
 refine Js2 r.guards.length (fun i=>[.i i]) (fun i=>(r.guards.take i).all (JoD b g ps s a w)=true) rfl rfl rfl fun i hi hq=>?_
 simp only[sC,sN]
 have hS:KI b g ps s a w r=r.guards.all (JoD b g ps s a w):=rfl
 rw[hS]
 refine JsY i (JZ r.guards) rfl (fun h'=>?_) (fun h'=>?_)
 ·obtain⟨f,hf,hm⟩:=sA1 h'
  refine Js9 i (mA1 (f:=Frm.g) hf) rfl rfl rfl rfl ?_
  refine JsZ (JcI b g ps s a f w h.b h.g h.p h.a (hr.g f hm).fit h.w) rfl rfl rfl ?_
  simp only[sC,sN]
  have hF:JoD b g ps s a w f=((JN b g ps s a f w).2.2&&decide (0≤(JN b g ps s a f w).1)):=rfl
  generalize JN b g ps s a f w=B at *
  refine Jte B.2.2 rfl (fun h1=>JsS (JsN ?_)) (fun h1=>?_)
  ·rw[X7 hf (by rw[hF,h1];rfl)];rfl
  refine JsI (B.1<0) rfl (fun h2=>JsS (JsN ?_)) (fun h2=>?_)
  ·rw[X7 hf (by rw[hF,h1];simp;omega)];rfl
  refine Js3 (vs:=[.i ((i+1:Nat):Int)]) ?_ ⟨h',rfl,QM hf hq (by rw[hF,h1];simp;omega)⟩
  show [V.i (IntKind.i64.wrap ((i:Int)+1))]=_
  rw[wS h' (by omega)]
 ·refine JsS (JsN ?_)
  rw[tA1 h'] at hq
  rw[hq];rfl
/- What a site does alone: the tries themselves,over residual programs. -/
theorem JfT {b w:List Int} (hb:JW b=true) (hw:Xj w=true) {fs:List Frm} (hf :∀f∈fs,Std 10000000 f) :∀f∈fs,ZI f b w:=fun f hm=>ZI.std (hf f hm) hb hw
theorem Jgi (fs:List Frm) (v w:List Int):(atL fs v w).length=fs.length:=by simp[atL]
theorem Jcx {i:Nat} (h:i<3):[0,1,2][i]? = some i:=by
 match i,h with
 | 0,_ | 1,_ | 2,_=>rfl
theorem UF {as:List (List Jg)} (h:Qj as=true):(Jj as).length=3:=by rw[JcD h,JnQ]
def Jdz (O U:Nat→Bool) (b g:List Int) (ps:List (List Int)) (s:Int) (a w:List Int):Prop :=
 ∀i,O i=([0,1,2].take i).any (ovM b g ps s a w)∧U i=([0,1,2].take i).any (unM b g ps s a w)
theorem Jdz.step {O U:Nat→Bool} {b g:List Int} {ps:List (List Int)} {s:Int} {a w:List Int} (h:Jdz O U b g ps s a w) {i:Nat} (hi:i<3) :
  O (i+1)=(O i||(decide (10000<(JN b g ps s a (Jz i) w).1)||decide ((JN b g ps s a (Jz i) w).2.1 < -10000))) ∧
  U (i+1)=(U i||(decide ((JN b g ps s a (Jz i) w).1 < -10000)||decide (10000<(JN b g ps s a (Jz i) w).2.1))):=by
 rw[(h (i+1)).1,(h (i+1)).2,(h i).1,(h i).2,JhF (Jcx hi),JhF (Jcx hi)]
 exact⟨rfl,rfl⟩
theorem Jdz.zero {O U:Nat→Bool} {b g:List Int} {ps:List (List Int)} {s:Int} {a w:List Int} (h:Jdz O U b g ps s a w):O 0=false∧U 0=false:=⟨(h 0).1,(h 0).2⟩
theorem Jdz.three {O U:Nat→Bool} {b g:List Int} {ps:List (List Int)} {s:Int} {a w:List Int} (h:Jdz O U b g ps s a w):O 3=[0,1,2].any (ovM b g ps s a w)∧U 3=[0,1,2].any (unM b g ps s a w):=⟨(h 3).1,(h 3).2⟩
end Go.Proofs.YtdmjmcegcpdenaaGreatDoor

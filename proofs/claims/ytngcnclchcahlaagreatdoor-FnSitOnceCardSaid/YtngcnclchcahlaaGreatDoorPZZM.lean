import Derived.Test.YtngcnclchcahlaaGreatDoorPZZI
import Derived.Test.YtngcnclchcahlaaGreatDoorPZZA
import Derived.Test.YtngcnclchcahlaaGreatDoorPZZE
set_option linter.unusedVariables false
set_option linter.unusedSimpArgs false
/- Worlds that are drawn: over residual programs. -/
namespace Go.Proofs.YtngcnclchcahlaaGreatDoor
open Go Go.Tm
open Go.IntKind (i64)
def Evt (bs:List Int) (p:Int) (ds:List D):Prop:=∃ (ek ea eb:Int) (ew:List Int) (q:Int),ds=[dI ek,dI ea,dI eb,.s (dL ew),.s (Ja bs),dI q]∧p≤q∧q≤p+100∧ew.length≤3
theorem Jjl {bs:List Int} {p:Int} (w:Wrl) (hr:Rdr bs p) (hf:p≤999999990000) (h:OkW w) :
  ∃ (ek ea eb:Int) (ew:List Int) (q:Int),Ev L f_kr ([.s (Ja bs),dI p]++w.cells) [dI ek,dI ea,dI eb,.s (dL ew),.s (Ja bs),dI q]∧p≤q∧q≤p+100∧ew.length≤3:=by
 have key : ∃ ds,Ev L f_kr ([.s (Ja bs),dI p]++w.cells) ds∧Evt bs p ds:=by
  refine Jt4 (vs:=[.l (Ja bs),.i p,.i w.p.n,.l (Jd w.p.acts),.l (dL w.p.gives),.l (dL w.p.start),.l (dSt w.sites),.b w.c.up,.i w.c.round,.l (dL w.c.base),.l (dDs w.c.done),.l (dCs w.c.wants),.l (dGs w.c.got),.l (dCn w.cons),.l (dMs w.net),.l (dLg w.log)]) L_kr rfl ?_;have hn:=Qb h.pln;have hg:=Qm h.pln;have hsl:=h.sl;have hnl:=h.nl;have hml:=h.ml;have hac:=Xv (Xl h.pln);have eC:i64.wrap (((dCn w.cons).length:Int)+1)=(w.cons.length:Int)+1:=by rw[Qs,w64 (by omega) (by omega)]
  have eS:i64.wrap (((dSt w.sites).length:Int)+1)=(w.sites.length:Int)+1:=by rw[QB,w64 (by omega) (by omega)]
  have hC1:1≤i64.wrap (((dCn w.cons).length:Int)+1):=by omega
  have hC2:i64.wrap (((dCn w.cons).length:Int)+1)≤2000000:=by omega
  have hS1:1≤i64.wrap (((dSt w.sites).length:Int)+1):=by omega
  have hS2:i64.wrap (((dSt w.sites).length:Int)+1)≤2000000:=by omega
  have hc1:1≤((dCn w.cons).length:Int):=by rw[Qs];omega
  have hc2:((dCn w.cons).length:Int)≤2000000:=by rw[Qs];omega
  have hs1:1≤((dSt w.sites).length:Int):=by rw[QB];omega
  have hs2:((dSt w.sites).length:Int)≤2000000:=by rw[QB];omega
  have hA1:1≤((Jd w.p.acts).length:Int):=by rw[JK];omega
  have hA2:((Jd w.p.acts).length:Int)≤2000000:=by rw[JK];omega
  have hm2:((dMs w.net).length:Int)≤2000000:=by rw[Q1];omega
  refine Jty (0<((dMs w.net).length:Int)) rfl (fun hm=>?_) (fun _=>?_)
  ·refine Je 3 (hr.go (q:=p) (by omega) (by omega)) (by omega) (by omega) rfl rfl fun u _ _=>?_;simp only[sC,sN];refine JtX (fun _=>?_) (fun _=>?_)
   ·refine Je _ (hr.go (q:=p+1) (by omega) (by omega)) hm hm2 rfl rfl fun at_ _ _=>?_;simp only[sC,sN];refine Je 32 (hr.go (q:=p+1+1) (by omega) (by omega)) (by omega) (by omega) rfl rfl fun u0 _ _=>?_;simp only[sC,sN]
    iterate 6
     refine JtX (fun _=>?_) (fun _=>?_)
     ·refine Je _ (hr.go (q:=p+1+1+1) (by omega) (by omega)) hC1 hC2 rfl rfl fun u1 _ _=>?_;simp only[sC,sN];refine Je _ (hr.go (q:=p+1+1+1+1) (by omega) (by omega)) hA1 hA2 rfl rfl fun u2 _ _=>?_;simp only[sC,sN];obtain⟨a,o,ea,o1,o2,o3⟩:=Xo (hr.go (q:=p+1+1+1+1+1) (by omega) (by omega)) (by omega) (n:=40) (by omega) (by omega);exact JtE (vs:=[.l (dL a),.l (Ja bs),.i o]) ea rfl rfl rfl (Jt0 ⟨_,_,_,a,o,rfl,by omega,by omega,o3⟩)
    iterate 6
     refine JtX (fun _=>?_) (fun _=>?_)
     ·exact Je _ (hr.go (q:=p+1+1+1) (by omega) (by omega)) hC1 hC2 rfl rfl fun u1 _ _=>Jt0 ⟨_,_,_,[],p+1+1+1+1,rfl,by omega,by omega,by simp⟩
    iterate 6
     refine JtX (fun _=>?_) (fun _=>?_)
     ·exact Jt0 ⟨_,_,_,[],p+1+1+1,rfl,by omega,by omega,by simp⟩
    iterate 2
     refine JtX (fun _=>?_) (fun _=>?_)
     ·exact Je _ (hr.go (q:=p+1+1+1) (by omega) (by omega)) hS1 hS2 rfl rfl fun u1 _ _=>Jt0 ⟨_,_,_,[],p+1+1+1+1,rfl,by omega,by omega,by simp⟩
    refine JtX (fun _=>?_) (fun _=>?_)
    ·exact Je 2 (hr.go (q:=p+1+1+1) (by omega) (by omega)) (by omega) (by omega) rfl rfl fun u1 _ _=>Jt0 ⟨_,_,_,[],p+1+1+1+1,rfl,by omega,by omega,by simp⟩
    exact Jt0 ⟨_,_,_,[],p+1+1+1,rfl,by omega,by omega,by simp⟩
   ·refine Je 32 (hr.go (q:=p+1) (by omega) (by omega)) (by omega) (by omega) rfl rfl fun u0 _ _=>?_;simp only[sC,sN]
    iterate 6
     refine JtX (fun _=>?_) (fun _=>?_)
     ·refine Je _ (hr.go (q:=p+1+1) (by omega) (by omega)) hC1 hC2 rfl rfl fun u1 _ _=>?_;simp only[sC,sN];refine Je _ (hr.go (q:=p+1+1+1) (by omega) (by omega)) hA1 hA2 rfl rfl fun u2 _ _=>?_;simp only[sC,sN];obtain⟨a,o,ea,o1,o2,o3⟩:=Xo (hr.go (q:=p+1+1+1+1) (by omega) (by omega)) (by omega) (n:=40) (by omega) (by omega);exact JtE (vs:=[.l (dL a),.l (Ja bs),.i o]) ea rfl rfl rfl (Jt0 ⟨_,_,_,a,o,rfl,by omega,by omega,o3⟩)
    iterate 6
     refine JtX (fun _=>?_) (fun _=>?_)
     ·exact Je _ (hr.go (q:=p+1+1) (by omega) (by omega)) hC1 hC2 rfl rfl fun u1 _ _=>Jt0 ⟨_,_,_,[],p+1+1+1,rfl,by omega,by omega,by simp⟩
    iterate 6
     refine JtX (fun _=>?_) (fun _=>?_)
     ·exact Jt0 ⟨_,_,_,[],p+1+1,rfl,by omega,by omega,by simp⟩
    iterate 2
     refine JtX (fun _=>?_) (fun _=>?_)
     ·exact Je _ (hr.go (q:=p+1+1) (by omega) (by omega)) hS1 hS2 rfl rfl fun u1 _ _=>Jt0 ⟨_,_,_,[],p+1+1+1,rfl,by omega,by omega,by simp⟩
    refine JtX (fun _=>?_) (fun _=>?_)
    ·exact Je 2 (hr.go (q:=p+1+1) (by omega) (by omega)) (by omega) (by omega) rfl rfl fun u1 _ _=>Jt0 ⟨_,_,_,[],p+1+1+1,rfl,by omega,by omega,by simp⟩
    exact Jt0 ⟨_,_,_,[],p+1+1,rfl,by omega,by omega,by simp⟩
  ·refine Je 32 (hr.go (q:=p) (by omega) (by omega)) (by omega) (by omega) rfl rfl fun u0 _ _=>?_;simp only[sC,sN]
   iterate 6
    refine JtX (fun _=>?_) (fun _=>?_)
    ·refine Je _ (hr.go (q:=p+1) (by omega) (by omega)) hC1 hC2 rfl rfl fun u1 _ _=>?_;simp only[sC,sN];refine Je _ (hr.go (q:=p+1+1) (by omega) (by omega)) hA1 hA2 rfl rfl fun u2 _ _=>?_;simp only[sC,sN];obtain⟨a,o,ea,o1,o2,o3⟩:=Xo (hr.go (q:=p+1+1+1) (by omega) (by omega)) (by omega) (n:=40) (by omega) (by omega);exact JtE (vs:=[.l (dL a),.l (Ja bs),.i o]) ea rfl rfl rfl (Jt0 ⟨_,_,_,a,o,rfl,by omega,by omega,o3⟩)
   iterate 6
    refine JtX (fun _=>?_) (fun _=>?_)
    ·exact Je _ (hr.go (q:=p+1) (by omega) (by omega)) hC1 hC2 rfl rfl fun u1 _ _=>Jt0 ⟨_,_,_,[],p+1+1,rfl,by omega,by omega,by simp⟩
   iterate 6
    refine JtX (fun _=>?_) (fun _=>?_)
    ·exact Jt0 ⟨_,_,_,[],p+1,rfl,by omega,by omega,by simp⟩
   iterate 2
    refine JtX (fun _=>?_) (fun _=>?_)
    ·exact Je _ (hr.go (q:=p+1) (by omega) (by omega)) hS1 hS2 rfl rfl fun u1 _ _=>Jt0 ⟨_,_,_,[],p+1+1,rfl,by omega,by omega,by simp⟩
   refine JtX (fun _=>?_) (fun _=>?_)
   ·exact Je 2 (hr.go (q:=p+1) (by omega) (by omega)) (by omega) (by omega) rfl rfl fun u1 _ _=>Jt0 ⟨_,_,_,[],p+1+1,rfl,by omega,by omega,by simp⟩
   exact Jt0 ⟨_,_,_,[],p+1,rfl,by omega,by omega,by simp⟩
 obtain⟨ds,e,ek,ea,eb,ew,q,rfl,h⟩:=key;exact⟨ek,ea,eb,ew,q,e,h⟩
theorem Jcl {bs:List Int} {p:Int} (w:Wrl) (k j:Int) (hr:Rdr bs p) (hf:p≤999999990000) (h:OkW w) :
  ∃ (ek ea eb:Int) (ew:List Int) (q:Int),Ev L f_ks ([.s (Ja bs),dI p]++w.cells++[dI k,dI j]) [dI ek,dI ea,dI eb,.s (dL ew),.s (Ja bs),dI q]∧p≤q∧q≤p+100∧ew.length≤3:=by
 have key : ∃ ds,Ev L f_ks ([.s (Ja bs),dI p]++w.cells++[dI k,dI j]) ds∧Evt bs p ds:=by
  refine Jt4 (vs:=[.l (Ja bs),.i p,.i w.p.n,.l (Jd w.p.acts),.l (dL w.p.gives),.l (dL w.p.start),.l (dSt w.sites),.b w.c.up,.i w.c.round,.l (dL w.c.base),.l (dDs w.c.done),.l (dCs w.c.wants),.l (dGs w.c.got),.l (dCn w.cons),.l (dMs w.net),.l (dLg w.log),.i k,.i j]) L_ks rfl ?_;have hn:=Qb h.pln;have hg:=Qm h.pln;have hsl:=h.sl;have hnl:=h.nl;have hml:=h.ml;have hac:=Xv (Xl h.pln);have eC:i64.wrap (((dCn w.cons).length:Int)+1)=(w.cons.length:Int)+1:=by rw[Qs,w64 (by omega) (by omega)]
  have eS:i64.wrap (((dSt w.sites).length:Int)+1)=(w.sites.length:Int)+1:=by rw[QB,w64 (by omega) (by omega)]
  have hC1:1≤i64.wrap (((dCn w.cons).length:Int)+1):=by omega
  have hC2:i64.wrap (((dCn w.cons).length:Int)+1)≤2000000:=by omega
  have hS1:1≤i64.wrap (((dSt w.sites).length:Int)+1):=by omega
  have hS2:i64.wrap (((dSt w.sites).length:Int)+1)≤2000000:=by omega
  have hc1:1≤((dCn w.cons).length:Int):=by rw[Qs];omega
  have hc2:((dCn w.cons).length:Int)≤2000000:=by rw[Qs];omega
  have hs1:1≤((dSt w.sites).length:Int):=by rw[QB];omega
  have hs2:((dSt w.sites).length:Int)≤2000000:=by rw[QB];omega
  have hA1:1≤((Jd w.p.acts).length:Int):=by rw[JK];omega
  have hA2:((Jd w.p.acts).length:Int)≤2000000:=by rw[JK];omega
  have hm2:((dMs w.net).length:Int)≤2000000:=by rw[Q1];omega
  have e1:i64.wrap (((dMs w.net).length:Int)-1)=(w.net.length:Int)-1:=by rw[Q1,w64 (by omega) (by omega)]
  have h01:1≤i64.wrap ((0:Int)+1):=by rw[w64 (by omega) (by omega)];omega
  have h02:i64.wrap ((0:Int)+1)≤2000000:=by rw[w64 (by omega) (by omega)];omega
  refine Jty (i64.wrap (((dMs w.net).length:Int)-1)<0) rfl (fun _=>?_) (fun hl=>?_)
  ·refine JtX (fun _=>?_) (fun _=>?_)
   ·exact Jt0 ⟨_,_,_,[],p,rfl,by omega,by omega,by simp⟩
   iterate 8
    refine JtX (fun _=>?_) (fun _=>?_)
    ·exact Je _ (hr.go (q:=p) (by omega) (by omega)) h01 h02 rfl rfl fun u1 _ _=>Jt0 ⟨_,_,_,[],p+1,rfl,by omega,by omega,by simp⟩
   refine JtX (fun _=>?_) (fun _=>?_)
   ·refine JtX (fun _=>Jt0 ⟨_,_,_,[],p,rfl,by omega,by omega,by simp⟩) (fun _=>?_);exact Je _ (hr.go (q:=p) (by omega) (by omega)) hs1 hs2 rfl rfl fun u1 _ _=>Jt0 ⟨_,_,_,[],p+1,rfl,by omega,by omega,by simp⟩
   refine JtX (fun _=>?_) (fun _=>?_)
   ·refine JtX (fun _=>Jt0 ⟨_,_,_,[],p,rfl,by omega,by omega,by simp⟩) (fun _=>?_);exact Je _ (hr.go (q:=p) (by omega) (by omega)) hs1 hs2 rfl rfl fun u1 _ _=>Jt0 ⟨_,_,_,[],p+1,rfl,by omega,by omega,by simp⟩
   refine JtX (fun _=>?_) (fun _=>?_)
   ·exact Je _ (hr.go (q:=p) (by omega) (by omega)) hc1 hc2 rfl rfl fun u1 _ _=>Jt0 ⟨_,_,_,[],p+1,rfl,by omega,by omega,by simp⟩
   exact Jt0 ⟨_,_,_,[],p,rfl,by omega,by omega,by simp⟩
  ·have hl1:1≤i64.wrap (i64.wrap (((dMs w.net).length:Int)-1)+1):=by rw[e1] at hl ⊢;rw[w64 (by omega) (by omega)];omega
   have hl2:i64.wrap (i64.wrap (((dMs w.net).length:Int)-1)+1)≤2000000:=by rw[e1,w64 (by omega) (by omega)];omega
   refine JtX (fun _=>?_) (fun _=>?_)
   ·exact Jt0 ⟨_,_,_,[],p,rfl,by omega,by omega,by simp⟩
   iterate 8
    refine JtX (fun _=>?_) (fun _=>?_)
    ·exact Je _ (hr.go (q:=p) (by omega) (by omega)) hl1 hl2 rfl rfl fun u1 _ _=>Jt0 ⟨_,_,_,[],p+1,rfl,by omega,by omega,by simp⟩
   refine JtX (fun _=>?_) (fun _=>?_)
   ·refine JtX (fun _=>Jt0 ⟨_,_,_,[],p,rfl,by omega,by omega,by simp⟩) (fun _=>?_);exact Je _ (hr.go (q:=p) (by omega) (by omega)) hs1 hs2 rfl rfl fun u1 _ _=>Jt0 ⟨_,_,_,[],p+1,rfl,by omega,by omega,by simp⟩
   refine JtX (fun _=>?_) (fun _=>?_)
   ·refine JtX (fun _=>Jt0 ⟨_,_,_,[],p,rfl,by omega,by omega,by simp⟩) (fun _=>?_);exact Je _ (hr.go (q:=p) (by omega) (by omega)) hs1 hs2 rfl rfl fun u1 _ _=>Jt0 ⟨_,_,_,[],p+1,rfl,by omega,by omega,by simp⟩
   refine JtX (fun _=>?_) (fun _=>?_)
   ·exact Je _ (hr.go (q:=p) (by omega) (by omega)) hc1 hc2 rfl rfl fun u1 _ _=>Jt0 ⟨_,_,_,[],p+1,rfl,by omega,by omega,by simp⟩
   exact Jt0 ⟨_,_,_,[],p,rfl,by omega,by omega,by simp⟩
 obtain⟨ds,e,ek,ea,eb,ew,q,rfl,h⟩:=key;exact⟨ek,ea,eb,ew,q,e,h⟩
theorem Jaj {bs:List Int} {p:Int} (w:Wrl) (k:Int) (hr:Rdr bs p) (hf:p≤999999990000) (h:OkW w) :
  ∃ (ek ea eb:Int) (ew:List Int) (q:Int),Ev L f_kt ([.s (Ja bs),dI p]++w.cells++[dI k]) [dI ek,dI ea,dI eb,.s (dL ew),.s (Ja bs),dI q]∧p≤q∧q≤p+100∧ew.length≤3:=by
 have key : ∃ ds,Ev L f_kt ([.s (Ja bs),dI p]++w.cells++[dI k]) ds∧Evt bs p ds:=by
  refine Jt4 (vs:=[.l (Ja bs),.i p,.i w.p.n,.l (Jd w.p.acts),.l (dL w.p.gives),.l (dL w.p.start),.l (dSt w.sites),.b w.c.up,.i w.c.round,.l (dL w.c.base),.l (dDs w.c.done),.l (dCs w.c.wants),.l (dGs w.c.got),.l (dCn w.cons),.l (dMs w.net),.l (dLg w.log),.i k]) L_kt rfl ?_;have hn:=Qb h.pln;have hg:=Qm h.pln;have hsl:=h.sl;have hnl:=h.nl;have hml:=h.ml;have hac:=Xv (Xl h.pln);have eC:i64.wrap (((dCn w.cons).length:Int)+1)=(w.cons.length:Int)+1:=by rw[Qs,w64 (by omega) (by omega)]
  have eS:i64.wrap (((dSt w.sites).length:Int)+1)=(w.sites.length:Int)+1:=by rw[QB,w64 (by omega) (by omega)]
  have hC1:1≤i64.wrap (((dCn w.cons).length:Int)+1):=by omega
  have hC2:i64.wrap (((dCn w.cons).length:Int)+1)≤2000000:=by omega
  have hS1:1≤i64.wrap (((dSt w.sites).length:Int)+1):=by omega
  have hS2:i64.wrap (((dSt w.sites).length:Int)+1)≤2000000:=by omega
  have hc1:1≤((dCn w.cons).length:Int):=by rw[Qs];omega
  have hc2:((dCn w.cons).length:Int)≤2000000:=by rw[Qs];omega
  have hs1:1≤((dSt w.sites).length:Int):=by rw[QB];omega
  have hs2:((dSt w.sites).length:Int)≤2000000:=by rw[QB];omega
  have hA1:1≤((Jd w.p.acts).length:Int):=by rw[JK];omega
  have hA2:((Jd w.p.acts).length:Int)≤2000000:=by rw[JK];omega
  have hm2:((dMs w.net).length:Int)≤2000000:=by rw[Q1];omega
  refine Je _ (hr.go (q:=p) (by omega) (by omega)) hc1 hc2 rfl rfl fun c hc0 hcl=>?_;simp only[sC,sN];rw[Qs] at hcl;refine Jt3 rfl ?_
  iterate 2
   refine JtX (fun _=>?_) (fun _=>?_)
   ·refine Je _ (hr.go (q:=p+1) (by omega) (by omega)) hA1 hA2 rfl rfl fun u2 _ _=>?_;simp only[sC,sN];obtain⟨a,o,ea,o1,o2,o3⟩:=Xo (hr.go (q:=p+1+1) (by omega) (by omega)) (by omega) (n:=99) (by omega) (by omega);exact JtE (vs:=[.l (dL a),.l (Ja bs),.i o]) ea rfl rfl rfl (Jt0 ⟨_,_,_,a,o,rfl,by omega,by omega,o3⟩)
  iterate 3
   refine JtX (fun _=>?_) (fun _=>?_)
   ·refine JtW w.cons.length (fun i vs=>∃ c:Int,vs=[.i c,.i i]∧0≤c∧c<w.cons.length) rfl ⟨c,rfl,hc0,hcl⟩ ?_;rintro i vs hi ⟨c,rfl,c0,c1⟩;simp only[sC,sN];refine JtT i (Qs w.cons) rfl (fun h'=>?_) (fun h'=>JtA (Jt0 ⟨_,_,_,[],p+1,rfl,by omega,by omega,by simp⟩));obtain⟨x,hx,hxm⟩:=sA1 (l:=w.cons) (i:=c.toNat) (by omega);refine JtJ (ds:=dCn w.cons) (d:=x.g) (vs:=[.i x.seq,.b x.busy,.i x.call.client,.i x.call.seq,.i x.call.act,.l (dL x.call.args),.i x.code,.l (dL x.tells)]) c rfl rfl rfl c0 (mA1 (f:=Con.g) hx) rfl ?_;simp only[sC,sN];refine JtX (fun _=>?_) (fun _=>JtA (Jt0 ⟨_,_,_,[],p+1,rfl,by omega,by omega,by simp⟩));have ew:i64.wrap (c+1)=c+1:=w64 (by omega) (by omega);refine Jt3 (by show (!decide (((dCn w.cons).length:Int)=0))=true;rw[Qs,Bool.not_eq_true',decide_eq_false_iff_not];omega) ?_;refine JtK (vs:=[.i (Int.tmod (c+1) w.cons.length),.i ((i+1:Nat):Int)]) ?_ ⟨h',_,rfl,Int.tmod_nonneg _ (by omega),Int.tmod_lt_of_pos _ (by omega)⟩;show [V.i (Int.tmod (i64.wrap (c+1)) ((dCn w.cons).length:Int)),V.i (i64.wrap ((i:Int)+1))]=_;rw[wS h' (by omega),ew,Qs]
  repeat' (refine JtX (fun _=>?_) (fun _=>?_))
  all_goals exact Jt0 ⟨_,_,_,[],p+1,rfl,by omega,by omega,by simp⟩
 obtain⟨ds,e,ek,ea,eb,ew,q,rfl,h⟩:=key;exact⟨ek,ea,eb,ew,q,e,h⟩
theorem Jhy {bs:List Int} {p:Int} (w:Wrl) (n:Int) (hr:Rdr bs p) (hf:p≤999999000000) (hok:OkW w) (hn:n≤200) :
  ∃ (evs:List D) (w':Wrl) (q:Int),Ev L f_k2v ([.s (Ja bs),dI p]++w.cells++[dI n]) ([.s evs]++w'.cells++[.s (Ja bs),dI q])∧OkW w'∧p≤q∧q≤p+200000:=by
 have key : ∃ ds,Ev L f_k2v ([.s (Ja bs),dI p]++w.cells++[dI n]) ds∧∃ (evs:List D) (w':Wrl) (q:Int),ds=[.s evs]++w'.cells++[.s (Ja bs),dI q]∧OkW w'∧p≤q∧q≤p+200000:=by
  refine Jt4 (vs:=[.l (Ja bs),.i p,.i w.p.n,.l (Jd w.p.acts),.l (dL w.p.gives),.l (dL w.p.start),.l (dSt w.sites),.b w.c.up,.i w.c.round,.l (dL w.c.base),.l (dDs w.c.done),.l (dCs w.c.wants),.l (dGs w.c.got),.l (dCn w.cons),.l (dMs w.net),.l (dLg w.log),.i n]) L_k2v rfl ?_;refine Je 4 (hr.go (q:=p) (by omega) (by omega)) (by omega) (by omega) rfl rfl fun sty _ _=>?_;simp only[sC,sN];refine JtL (fun m vs=>∃ (evs:List D) (st wh k:Int) (w:Wrl) (q:Int),vs=[.l evs,.i st,.i wh,.i k,.l (dLg w.log),.l (dMs w.net),.l (dCn w.cons),.l (dGs w.c.got),.l (dCs w.c.wants),.l (dDs w.c.done),.l (dL w.c.base),.i w.c.round,.b w.c.up,.l (dSt w.sites),.l (dL w.p.start),.l (dL w.p.gives),.l (Jd w.p.acts),.i w.p.n,.i q,.l (Ja bs)]∧OkW w∧0≤k∧p≤q∧q≤p+1+500*k∧(k≤n∨k=0)∧(m:Int)=(if k≤n then n-k else 0)∧(evs.length:Int)=k) rfl n.toNat ⟨[],14,0,0,w,p+1,rfl,hok,by omega,by omega,by omega,by omega,by split <;> omega,by simp⟩ ?_;rintro m _ ⟨evs,st,wh,k,w,q,rfl,hok,k0,q1,q2,hkn,hm,hev⟩;simp only[sC,sN];refine Jty (k<n) rfl (fun hlt=>?_) (fun _=>JtA (Jt0 ⟨evs,w,q,rfl,hok,by omega,by omega⟩));rw[if_pos (by omega)] at hm;have hk1:i64.wrap (k+1)=k+1:=w64 (by omega) (by omega);refine JtX (fun _=>?_) (fun _=>JtA (Jt0 ⟨evs,w,q,rfl,hok,by omega,by omega⟩));obtain⟨xk,xa,xb,xw,xq,xe,x1,x2,x3⟩:=Jjl w (hr.go (q:=q) (by omega) (by omega)) (by omega) hok;refine JtE (vs:=[.i xk,.i xa,.i xb,.l (dL xw),.l (Ja bs),.i xq]) xe rfl rfl rfl ?_;simp only[sC,sN];refine Jty (st<14) rfl (fun _=>?_) (fun _=>?_)
  ·obtain⟨yk,ya,yb,yw,yq,ye,y1,y2,y3⟩:=Jcl w st wh (hr.go (q:=xq) (by omega) (by omega)) (by omega) hok;refine JtE (vs:=[.i yk,.i ya,.i yb,.l (dL yw),.l (Ja bs),.i yq]) ye rfl rfl rfl ?_;simp only[sC,sN];refine Jtv (evs++[.g [dI yk,dI ya,dI yb,.s (dL yw)]]) 1001 (by simp;omega) (by omega) rfl ?_;obtain⟨w2,hst,ok2⟩:=XK w yk ya yb yw hok (by omega);refine JtE (vs:=[.i w2.p.n,.l (Jd w2.p.acts),.l (dL w2.p.gives),.l (dL w2.p.start),.l (dSt w2.sites),.b w2.c.up,.i w2.c.round,.l (dL w2.c.base),.l (dDs w2.c.done),.l (dCs w2.c.wants),.l (dGs w2.c.got),.l (dCn w2.cons),.l (dMs w2.net),.l (dLg w2.log)]) hst rfl rfl rfl ?_;simp only[sC,sN];refine JtK (vs:=[.l (evs++[.g [dI yk,dI ya,dI yb,.s (dL yw)]]),.i (i64.wrap (st+1)),.i wh,.i (k+1),.l (dLg w2.log),.l (dMs w2.net),.l (dCn w2.cons),.l (dGs w2.c.got),.l (dCs w2.c.wants),.l (dDs w2.c.done),.l (dL w2.c.base),.i w2.c.round,.b w2.c.up,.l (dSt w2.sites),.l (dL w2.p.start),.l (dL w2.p.gives),.l (Jd w2.p.acts),.i w2.p.n,.i (yq),.l (Ja bs)]) ?_ ⟨m-1,by omega,_,_,_,k+1,w2,yq,rfl,ok2,by omega,by omega,by omega,by simp;omega⟩;rw[←hk1];rfl
  refine JtX (fun _=>?_) (fun _=>?_)
  ·refine Je 12 (hr.go (q:=xq) (by omega) (by omega)) (by omega) (by omega) rfl rfl fun u1 _ _=>?_;simp only[sC,sN];refine JtX (fun _=>?_) (fun _=>?_)
   ·refine Je 2 (hr.go (q:=xq+1) (by omega) (by omega)) (by omega) (by omega) rfl rfl fun u2 _ _=>?_;simp only[sC,sN];obtain⟨yk,ya,yb,yw,yq,ye,y1,y2,y3⟩:=Jcl w 0 u2 (hr.go (q:=xq+1+1) (by omega) (by omega)) (by omega) hok;refine JtE (vs:=[.i yk,.i ya,.i yb,.l (dL yw),.l (Ja bs),.i yq]) ye rfl rfl rfl ?_;simp only[sC,sN];refine Jtv (evs++[.g [dI yk,dI ya,dI yb,.s (dL yw)]]) 1001 (by simp;omega) (by omega) rfl ?_;obtain⟨w2,hst,ok2⟩:=XK w yk ya yb yw hok (by omega);refine JtE (vs:=[.i w2.p.n,.l (Jd w2.p.acts),.l (dL w2.p.gives),.l (dL w2.p.start),.l (dSt w2.sites),.b w2.c.up,.i w2.c.round,.l (dL w2.c.base),.l (dDs w2.c.done),.l (dCs w2.c.wants),.l (dGs w2.c.got),.l (dCn w2.cons),.l (dMs w2.net),.l (dLg w2.log)]) hst rfl rfl rfl ?_;simp only[sC,sN];refine JtK (vs:=[.l (evs++[.g [dI yk,dI ya,dI yb,.s (dL yw)]]),.i 1,.i u2,.i (k+1),.l (dLg w2.log),.l (dMs w2.net),.l (dCn w2.cons),.l (dGs w2.c.got),.l (dCs w2.c.wants),.l (dDs w2.c.done),.l (dL w2.c.base),.i w2.c.round,.b w2.c.up,.l (dSt w2.sites),.l (dL w2.p.start),.l (dL w2.p.gives),.l (Jd w2.p.acts),.i w2.p.n,.i (yq),.l (Ja bs)]) ?_ ⟨m-1,by omega,_,_,_,k+1,w2,yq,rfl,ok2,by omega,by omega,by omega,by simp;omega⟩;rw[←hk1];rfl
   refine JtX (fun _=>?_) (fun _=>?_)
   ·refine Je 8 (hr.go (q:=xq+1) (by omega) (by omega)) (by omega) (by omega) rfl rfl fun u3 _ _=>?_;simp only[sC,sN];refine JtX (fun _=>?_) (fun _=>?_)
    ·obtain⟨yk,ya,yb,yw,yq,ye,y1,y2,y3⟩:=Jaj w k (hr.go (q:=xq+1+1) (by omega) (by omega)) (by omega) hok;refine JtE (vs:=[.i yk,.i ya,.i yb,.l (dL yw),.l (Ja bs),.i yq]) ye rfl rfl rfl ?_;simp only[sC,sN];refine Jtv (evs++[.g [dI yk,dI ya,dI yb,.s (dL yw)]]) 1001 (by simp;omega) (by omega) rfl ?_;obtain⟨w2,hst,ok2⟩:=XK w yk ya yb yw hok (by omega);refine JtE (vs:=[.i w2.p.n,.l (Jd w2.p.acts),.l (dL w2.p.gives),.l (dL w2.p.start),.l (dSt w2.sites),.b w2.c.up,.i w2.c.round,.l (dL w2.c.base),.l (dDs w2.c.done),.l (dCs w2.c.wants),.l (dGs w2.c.got),.l (dCn w2.cons),.l (dMs w2.net),.l (dLg w2.log)]) hst rfl rfl rfl ?_;simp only[sC,sN];refine JtK (vs:=[.l (evs++[.g [dI yk,dI ya,dI yb,.s (dL yw)]]),.i st,.i wh,.i (k+1),.l (dLg w2.log),.l (dMs w2.net),.l (dCn w2.cons),.l (dGs w2.c.got),.l (dCs w2.c.wants),.l (dDs w2.c.done),.l (dL w2.c.base),.i w2.c.round,.b w2.c.up,.l (dSt w2.sites),.l (dL w2.p.start),.l (dL w2.p.gives),.l (Jd w2.p.acts),.i w2.p.n,.i (yq),.l (Ja bs)]) ?_ ⟨m-1,by omega,_,_,_,k+1,w2,yq,rfl,ok2,by omega,by omega,by omega,by simp;omega⟩;rw[←hk1];rfl
    ·refine Jtv (evs++[.g [dI xk,dI xa,dI xb,.s (dL xw)]]) 1001 (by simp;omega) (by omega) rfl ?_;obtain⟨w2,hst,ok2⟩:=XK w xk xa xb xw hok (by omega);refine JtE (vs:=[.i w2.p.n,.l (Jd w2.p.acts),.l (dL w2.p.gives),.l (dL w2.p.start),.l (dSt w2.sites),.b w2.c.up,.i w2.c.round,.l (dL w2.c.base),.l (dDs w2.c.done),.l (dCs w2.c.wants),.l (dGs w2.c.got),.l (dCn w2.cons),.l (dMs w2.net),.l (dLg w2.log)]) hst rfl rfl rfl ?_;simp only[sC,sN];refine JtK (vs:=[.l (evs++[.g [dI xk,dI xa,dI xb,.s (dL xw)]]),.i st,.i wh,.i (k+1),.l (dLg w2.log),.l (dMs w2.net),.l (dCn w2.cons),.l (dGs w2.c.got),.l (dCs w2.c.wants),.l (dDs w2.c.done),.l (dL w2.c.base),.i w2.c.round,.b w2.c.up,.l (dSt w2.sites),.l (dL w2.p.start),.l (dL w2.p.gives),.l (Jd w2.p.acts),.i w2.p.n,.i (xq+1+1),.l (Ja bs)]) ?_ ⟨m-1,by omega,_,_,_,k+1,w2,xq+1+1,rfl,ok2,by omega,by omega,by omega,by simp;omega⟩;rw[←hk1];rfl
   ·refine Jtv (evs++[.g [dI xk,dI xa,dI xb,.s (dL xw)]]) 1001 (by simp;omega) (by omega) rfl ?_;obtain⟨w2,hst,ok2⟩:=XK w xk xa xb xw hok (by omega);refine JtE (vs:=[.i w2.p.n,.l (Jd w2.p.acts),.l (dL w2.p.gives),.l (dL w2.p.start),.l (dSt w2.sites),.b w2.c.up,.i w2.c.round,.l (dL w2.c.base),.l (dDs w2.c.done),.l (dCs w2.c.wants),.l (dGs w2.c.got),.l (dCn w2.cons),.l (dMs w2.net),.l (dLg w2.log)]) hst rfl rfl rfl ?_;simp only[sC,sN];refine JtK (vs:=[.l (evs++[.g [dI xk,dI xa,dI xb,.s (dL xw)]]),.i st,.i wh,.i (k+1),.l (dLg w2.log),.l (dMs w2.net),.l (dCn w2.cons),.l (dGs w2.c.got),.l (dCs w2.c.wants),.l (dDs w2.c.done),.l (dL w2.c.base),.i w2.c.round,.b w2.c.up,.l (dSt w2.sites),.l (dL w2.p.start),.l (dL w2.p.gives),.l (Jd w2.p.acts),.i w2.p.n,.i (xq+1),.l (Ja bs)]) ?_ ⟨m-1,by omega,_,_,_,k+1,w2,xq+1,rfl,ok2,by omega,by omega,by omega,by simp;omega⟩;rw[←hk1];rfl
  ·refine JtX (fun _=>?_) (fun _=>?_)
   ·refine Je 8 (hr.go (q:=xq) (by omega) (by omega)) (by omega) (by omega) rfl rfl fun u3 _ _=>?_;simp only[sC,sN];refine JtX (fun _=>?_) (fun _=>?_)
    ·obtain⟨yk,ya,yb,yw,yq,ye,y1,y2,y3⟩:=Jaj w k (hr.go (q:=xq+1) (by omega) (by omega)) (by omega) hok;refine JtE (vs:=[.i yk,.i ya,.i yb,.l (dL yw),.l (Ja bs),.i yq]) ye rfl rfl rfl ?_;simp only[sC,sN];refine Jtv (evs++[.g [dI yk,dI ya,dI yb,.s (dL yw)]]) 1001 (by simp;omega) (by omega) rfl ?_;obtain⟨w2,hst,ok2⟩:=XK w yk ya yb yw hok (by omega);refine JtE (vs:=[.i w2.p.n,.l (Jd w2.p.acts),.l (dL w2.p.gives),.l (dL w2.p.start),.l (dSt w2.sites),.b w2.c.up,.i w2.c.round,.l (dL w2.c.base),.l (dDs w2.c.done),.l (dCs w2.c.wants),.l (dGs w2.c.got),.l (dCn w2.cons),.l (dMs w2.net),.l (dLg w2.log)]) hst rfl rfl rfl ?_;simp only[sC,sN];refine JtK (vs:=[.l (evs++[.g [dI yk,dI ya,dI yb,.s (dL yw)]]),.i st,.i wh,.i (k+1),.l (dLg w2.log),.l (dMs w2.net),.l (dCn w2.cons),.l (dGs w2.c.got),.l (dCs w2.c.wants),.l (dDs w2.c.done),.l (dL w2.c.base),.i w2.c.round,.b w2.c.up,.l (dSt w2.sites),.l (dL w2.p.start),.l (dL w2.p.gives),.l (Jd w2.p.acts),.i w2.p.n,.i (yq),.l (Ja bs)]) ?_ ⟨m-1,by omega,_,_,_,k+1,w2,yq,rfl,ok2,by omega,by omega,by omega,by simp;omega⟩;rw[←hk1];rfl
    ·refine Jtv (evs++[.g [dI xk,dI xa,dI xb,.s (dL xw)]]) 1001 (by simp;omega) (by omega) rfl ?_;obtain⟨w2,hst,ok2⟩:=XK w xk xa xb xw hok (by omega);refine JtE (vs:=[.i w2.p.n,.l (Jd w2.p.acts),.l (dL w2.p.gives),.l (dL w2.p.start),.l (dSt w2.sites),.b w2.c.up,.i w2.c.round,.l (dL w2.c.base),.l (dDs w2.c.done),.l (dCs w2.c.wants),.l (dGs w2.c.got),.l (dCn w2.cons),.l (dMs w2.net),.l (dLg w2.log)]) hst rfl rfl rfl ?_;simp only[sC,sN];refine JtK (vs:=[.l (evs++[.g [dI xk,dI xa,dI xb,.s (dL xw)]]),.i st,.i wh,.i (k+1),.l (dLg w2.log),.l (dMs w2.net),.l (dCn w2.cons),.l (dGs w2.c.got),.l (dCs w2.c.wants),.l (dDs w2.c.done),.l (dL w2.c.base),.i w2.c.round,.b w2.c.up,.l (dSt w2.sites),.l (dL w2.p.start),.l (dL w2.p.gives),.l (Jd w2.p.acts),.i w2.p.n,.i (xq+1),.l (Ja bs)]) ?_ ⟨m-1,by omega,_,_,_,k+1,w2,xq+1,rfl,ok2,by omega,by omega,by omega,by simp;omega⟩;rw[←hk1];rfl
   ·refine Jtv (evs++[.g [dI xk,dI xa,dI xb,.s (dL xw)]]) 1001 (by simp;omega) (by omega) rfl ?_;obtain⟨w2,hst,ok2⟩:=XK w xk xa xb xw hok (by omega);refine JtE (vs:=[.i w2.p.n,.l (Jd w2.p.acts),.l (dL w2.p.gives),.l (dL w2.p.start),.l (dSt w2.sites),.b w2.c.up,.i w2.c.round,.l (dL w2.c.base),.l (dDs w2.c.done),.l (dCs w2.c.wants),.l (dGs w2.c.got),.l (dCn w2.cons),.l (dMs w2.net),.l (dLg w2.log)]) hst rfl rfl rfl ?_;simp only[sC,sN];refine JtK (vs:=[.l (evs++[.g [dI xk,dI xa,dI xb,.s (dL xw)]]),.i st,.i wh,.i (k+1),.l (dLg w2.log),.l (dMs w2.net),.l (dCn w2.cons),.l (dGs w2.c.got),.l (dCs w2.c.wants),.l (dDs w2.c.done),.l (dL w2.c.base),.i w2.c.round,.b w2.c.up,.l (dSt w2.sites),.l (dL w2.p.start),.l (dL w2.p.gives),.l (Jd w2.p.acts),.i w2.p.n,.i (xq),.l (Ja bs)]) ?_ ⟨m-1,by omega,_,_,_,k+1,w2,xq,rfl,ok2,by omega,by omega,by omega,by simp;omega⟩;rw[←hk1];rfl
 obtain⟨ds,e,evs,w',q,rfl,h⟩:=key;exact⟨evs,w',q,e,h⟩
theorem Jho {bs:List Int} {p:Int} (hr:Rdr bs p) (hf:p≤999998000000) :
  ∃ (w:Wrl) (q:Int),Ev L f_k2w [.s (Ja bs),dI p] (w.cells++[.s (Ja bs),dI q])∧OkW w∧p≤q∧q≤p+300000:=by
 have key : ∃ ds,Ev L f_k2w [.s (Ja bs),dI p] ds∧∃ (w:Wrl) (q:Int),ds=w.cells++[.s (Ja bs),dI q]∧OkW w∧p≤q∧q≤p+300000:=by
  refine Jt4 (vs:=[.l (Ja bs),.i p]) L_k2w rfl ?_;obtain⟨l,q,he,q1,q2,_,_,_,hl⟩:=Jem hr (by omega);refine JtE (vs:=[.i l.n,.l (Jd l.acts),.l (dL l.gives),.l (dL l.start),.l (Ja bs),.i q]) he rfl rfl rfl ?_;simp only[sC,sN];have hw:=Jl1 hl;have hev:=Jnj l hl;generalize YN l=w at *;refine JtE (vs:=[.i w.p.n,.l (Jd w.p.acts),.l (dL w.p.gives),.l (dL w.p.start),.l (dSt w.sites),.b w.c.up,.i w.c.round,.l (dL w.c.base),.l (dDs w.c.done),.l (dCs w.c.wants),.l (dGs w.c.got),.l (dCn w.cons),.l (dMs w.net),.l (dLg w.log)]) hev rfl rfl rfl ?_;simp only[sC,sN];refine Je 50 (hr.go (q:=q) (by omega) (by omega)) (by omega) (by omega) rfl rfl fun u hu0 hu1=>?_;simp only[sC,sN];refine Je 5 (hr.go (q:=q+1) (by omega) (by omega)) (by omega) (by omega) rfl rfl fun v hv0 hv1=>?_;simp only[sC,sN];refine JtP (0≤v) rfl hv0 (JtP (v<5) rfl hv1 ?_);have hn:([0,10,20,35,u]:List Int).getD v.toNat 0≤200:=by rcases (by omega:v=0∨v=1∨v=2∨v=3∨v=4) with q | q | q | q | q <;> subst q <;> simp <;> omega
  refine JtJ (ds:=dL [0,10,20,35,u]) v rfl rfl rfl hv0 (J1 hv0 hv1) rfl ?_;simp only[sC,sN];generalize ([0,10,20,35,u]:List Int).getD v.toNat 0=n at *;obtain⟨evs,w2,o,e,hok,o1,o2⟩:=Jhy w n (hr.go (q:=q+1+1) (by omega) (by omega)) (by omega) hw hn;exact JtE (vs:=[.l evs,.i w2.p.n,.l (Jd w2.p.acts),.l (dL w2.p.gives),.l (dL w2.p.start),.l (dSt w2.sites),.b w2.c.up,.i w2.c.round,.l (dL w2.c.base),.l (dDs w2.c.done),.l (dCs w2.c.wants),.l (dGs w2.c.got),.l (dCn w2.cons),.l (dMs w2.net),.l (dLg w2.log),.l (Ja bs),.i o]) e rfl rfl rfl (Jt0 ⟨w2,o,rfl,hok,by omega,by omega⟩)
 obtain⟨ds,e,w,q,rfl,h⟩:=key;exact⟨w,q,e,h⟩
/- Sites that are drawn: over residual programs. -/
def Joz:List D:=[.s (dL [1,2,3,4,5,6,7]),.s (dL [999999999999]),.s (dL [-999999999999]),.s (dL [1000000000000]),.s (dL [-9223372036854775808])]
theorem five {u:Int} (h0:0≤u) (h1:u<5) : ∃ y:List Int,y.length≤7∧Joz[u.toNat]? = some (.s (dL y)):=by
 rcases (by omega:u=0∨u=1∨u=2∨u=3∨u=4) with q | q | q | q | q <;> subst q
 ·exact⟨[1,2,3,4,5,6,7],by simp,rfl⟩
 ·exact⟨[999999999999],by simp,rfl⟩
 ·exact⟨[-999999999999],by simp,rfl⟩
 ·exact⟨[1000000000000],by simp,rfl⟩
 ·exact⟨[-9223372036854775808],by simp,rfl⟩
theorem Jl3 {bs:List Int} {p n:Int} (hr:Rdr bs p) (hf:p≤999999990000) (n1:1≤n) (n2:n≤2000000) :
  ∃ (c:Int) (t:List Int) (q:Int),Ev L f_k33 [.s (Ja bs),dI p,dI n] [dI c,.s (dL t),.s (Ja bs),dI q]∧p≤q∧q≤p+20∧t.length≤10:=by
 have key : ∃ ds,Ev L f_k33 [.s (Ja bs),dI p,dI n] ds∧∃ (c:Int) (t:List Int) (q:Int),ds=[dI c,.s (dL t),.s (Ja bs),dI q]∧p≤q∧q≤p+20∧t.length≤10:=by
  refine Jt4 (vs:=[.l (Ja bs),.i p,.i n]) L_k33 rfl ?_;refine Je 3 (hr.go (q:=p) (by omega) (by omega)) (by omega) (by omega) rfl rfl fun u _ _=>?_;simp only[sC,sN];refine JtX (fun _=>?_) (fun _=>?_)
  ·refine Je 3 (hr.go (q:=p+1) (by omega) (by omega)) (by omega) (by omega) rfl rfl fun k k0 k1=>?_;simp only[sC,sN];refine JtL (fun m vs=>∃ (l:List Int) (j o:Int),vs=[.l (dL l),.i j,.i o,.l (Ja bs)]∧p+2≤o∧o+j≤p+5∧0≤j∧j≤3∧(m:Int)=j∧(l.length:Int)+j≤3) rfl k.toNat ⟨[],k,p+1+1,rfl,by omega,by omega,by omega,by omega,by omega,by simp;omega⟩ ?_;rintro m _ ⟨l,j,o,rfl,o1,o2,j0,j3,hm,hl⟩;simp only[sC,sN];refine Jty (0<j) rfl (fun h=>?_) (fun _=>JtA ?_)
   ·refine Je 4 (hr.go (q:=o) (by omega) (by omega)) (by omega) (by omega) rfl rfl fun v v0 v1=>?_;simp only[sC,sN];refine JX [0,7,-7,12345] v v0 v1 rfl rfl rfl rfl rfl fun x=>?_;simp only[sC,sN];refine JtR (dL l) 10 (by rw[dL1];omega) (by omega) rfl ?_;refine JtK (vs:=[.l (dL (l++[x])),.i (j-1),.i (o+1),.l (Ja bs)]) ?_ ⟨m-1,by omega,l++[x],j-1,o+1,rfl,by omega,by omega,by omega,by omega,by omega,by simp;omega⟩;show [V.l (dL l++[dI x]),V.i (i64.wrap (j-1)),V.i (o+1),V.l (Ja bs)]=_;rw[Q8,w64 (by omega) (by omega)]
   refine Je n (hr.go (q:=o) (by omega) (by omega)) n1 n2 rfl rfl fun a _ _=>?_;simp only[sC,sN];refine JtX (fun _=>Jt0 ⟨_,l,o+1,rfl,by omega,by omega,by omega⟩) (fun _=>?_);refine Je 3 (hr.go (q:=o+1) (by omega) (by omega)) (by omega) (by omega) rfl rfl fun b _ _=>?_;simp only[sC,sN];refine JtX (fun _=>?_) (fun _=>?_)
   ·refine Je 3 (hr.go (q:=o+1+1) (by omega) (by omega)) (by omega) (by omega) rfl rfl fun c c0 c1=>?_;simp only[sC,sN];refine JX [0,4,-1] c c0 c1 rfl rfl rfl rfl rfl fun x=>Jt0 ⟨x,l,o+1+1+1,rfl,by omega,by omega,by omega⟩
   refine JtX (fun _=>?_) (fun _=>?_)
   ·refine JtR (dL l) 10 (by rw[dL1];omega) (by omega) rfl (Jt0 ⟨_,l++[1],o+1+1,by rw[←Q8];rfl,by omega,by omega,by simp;omega⟩)
   ·refine Je 5 (hr.go (q:=o+1+1) (by omega) (by omega)) (by omega) (by omega) rfl rfl fun c c0 c1=>?_;simp only[sC,sN];refine JtP (0≤c) rfl c0 (JtP (c<5) rfl c1 ?_);obtain⟨y,yl,ye⟩:=five c0 c1;refine JtJ (ds:=Joz) (vs:=[.l (dL y)]) c rfl rfl rfl c0 ye rfl ?_;simp only[sC,sN];exact Jt0 ⟨_,y,o+1+1+1,rfl,by omega,by omega,by omega⟩
  ·refine Je n (hr.go (q:=p+1) (by omega) (by omega)) n1 n2 rfl rfl fun a _ _=>?_;simp only[sC,sN];refine JtX (fun _=>Jt0 ⟨_,[],p+1+1,rfl,by omega,by omega,by simp⟩) (fun _=>?_);refine Je 3 (hr.go (q:=p+1+1) (by omega) (by omega)) (by omega) (by omega) rfl rfl fun b _ _=>?_;simp only[sC,sN];refine JtX (fun _=>?_) (fun _=>?_)
   ·refine Je 3 (hr.go (q:=p+1+1+1) (by omega) (by omega)) (by omega) (by omega) rfl rfl fun c c0 c1=>?_;simp only[sC,sN];refine JX [0,4,-1] c c0 c1 rfl rfl rfl rfl rfl fun x=>Jt0 ⟨x,[],p+1+1+1+1,rfl,by omega,by omega,by simp⟩
   refine JtX (fun _=>Jt0 ⟨_,[1],p+1+1+1,rfl,by omega,by omega,by simp⟩) (fun _=>?_);refine Je 5 (hr.go (q:=p+1+1+1) (by omega) (by omega)) (by omega) (by omega) rfl rfl fun c c0 c1=>?_;simp only[sC,sN];refine JtP (0≤c) rfl c0 (JtP (c<5) rfl c1 ?_);obtain⟨y,yl,ye⟩:=five c0 c1;refine JtJ (ds:=Joz) (vs:=[.l (dL y)]) c rfl rfl rfl c0 ye rfl ?_;simp only[sC,sN];exact Jt0 ⟨_,y,p+1+1+1+1,rfl,by omega,by omega,by omega⟩
 obtain⟨ds,e,c,t,q,rfl,h⟩:=key;exact⟨c,t,q,e,h⟩
theorem Jpv:Yn ⟨0,0,[]⟩:=by simp[Yn]
theorem JeM {bs:List Int} {p:Int} (s:Sit) (hr:Rdr bs p) (hf:p≤999999980000) (hs:Qu s) (hrd : -1000≤s.round∧s.round≤1000) (hd4:s.done.length≤1000) :
  ∃ (s':Sit) (q:Int),Ev L f_k34 ([.s (Ja bs),dI p]++s.cells) (s'.cells++[.s (Ja bs),dI q])∧p≤q∧q≤p+50∧Qu s':=by
 have key : ∃ ds,Ev L f_k34 ([.s (Ja bs),dI p]++s.cells) ds∧∃ (s':Sit) (q:Int),ds=s'.cells++[.s (Ja bs),dI q]∧p≤q∧q≤p+50∧Qu s':=by
  refine Jt4 (vs:=[.l (Ja bs),.i p,.b s.up,.b s.frozen,.i s.round,.l (dL s.base),.l (dL s.added),.l (dDs s.done)]) L_k34 rfl ?_;obtain⟨f1,f2,f3,f4⟩:=hs;refine JtE (vs:=[.b s.up,.b s.frozen,.i s.round,.l (dL s.base),.l (dL s.added),.l (dDs s.done)]) (VT s ⟨f1,f2,f3,f4⟩) rfl rfl rfl ?_;simp only[sC,sN];refine Je 6 (hr.go (q:=p) (by omega) (by omega)) (by omega) (by omega) rfl rfl fun u _ _=>?_;simp only[sC,sN];refine JtX (fun _=>?_) (fun _=>?_)
  ·refine Je 4 (hr.go (q:=p+1) (by omega) (by omega)) (by omega) (by omega) rfl rfl fun c c0 c1=>?_;simp only[sC,sN];have hw:i64.wrap (s.round+1)=s.round+1:=w64 (by omega) (by omega);refine JX [-1,200,201,s.round+1] c c0 c1 rfl rfl rfl (by rw[←hw];rfl) rfl fun x=>Jt0 ⟨⟨s.up,s.frozen,x,s.base,s.added,s.done⟩,p+1+1,rfl,by omega,by omega,f1,f2,f3,f4⟩
  refine JtX (fun _=>?_) (fun _=>?_)
  ·obtain⟨l,q,e,q1,q2,q3,_⟩:=Jpx (n:=1) (hr.go (q:=p+1) (by omega) (by omega)) (by omega) (by omega);exact JtE (vs:=[.l (dL l),.l (Ja bs),.i q]) e rfl rfl rfl (Jt0 ⟨⟨s.up,s.frozen,s.round,l,s.added,s.done⟩,q,rfl,by omega,by omega,by show l.length≤_;omega,f2,f3,f4⟩)
  refine JtX (fun _=>?_) (fun _=>?_)
  ·obtain⟨l,q,e,q1,q2,q3,_⟩:=JoY (n:=1) (hr.go (q:=p+1) (by omega) (by omega)) (by omega) (by omega) (by omega);exact JtE (vs:=[.l (dL l),.l (Ja bs),.i q]) e rfl rfl rfl (Jt0 ⟨⟨s.up,s.frozen,s.round,s.base,l,s.done⟩,q,rfl,by omega,by omega,f1,by show l.length≤_;omega,f3,f4⟩)
  refine JtX (fun _=>?_) (fun _=>?_)
  ·refine JtR (dDs s.done) 2000000 (by rw[QC];omega) (by omega) rfl (Jt0 ⟨⟨s.up,s.frozen,s.round,s.base,s.added,s.done++[⟨0,0,[]⟩]⟩,p+1,?_,by omega,by omega,f1,f2,by simp;omega,fun d hd=>?_⟩)
   ·show [dB s.up,dB s.frozen,dI s.round,.s (dL s.base),.s (dL s.added),.s (dDs s.done++[.g [dI 0,dI 0,.s []]]),.s (Ja bs),dI (p+1)]=[dB s.up,dB s.frozen,dI s.round,.s (dL s.base),.s (dL s.added),.s (dDs (s.done++[⟨0,0,[]⟩])),D.s (Ja bs),dI (p+1)];simp only[dDs,List.map_append,Juh,List.map_nil];rfl
   ·rcases Jue.1 hd with q | q
    ·exact f4 d q
    ·simp only[Jur] at q;subst q;exact Jpv
  refine JtX (fun _=>?_) (fun _=>Jt0 ⟨⟨s.up,!s.frozen,s.round,s.base,s.added,s.done⟩,p+1,rfl,by omega,by omega,f1,f2,f3,f4⟩);refine Jty (0<((dDs s.done).length:Int)) rfl (fun hpos=>?_) (fun _=>Jt0 ⟨s,p+1,rfl,by omega,by omega,f1,f2,f3,f4⟩);refine Je 3 (hr.go (q:=p+1) (by omega) (by omega)) (by omega) (by omega) rfl rfl fun c _ _=>?_;simp only[sC,sN];obtain⟨a,l,q,e,q1,q2,q3⟩:=Jl3 (n:=2) (hr.go (q:=p+1+1) (by omega) (by omega)) (by omega) (by omega) (by omega);refine JtE (vs:=[.i a,.l (dL l),.l (Ja bs),.i q]) e rfl rfl rfl ?_;simp only[sC,sN];obtain⟨x,hx,hxm⟩:=sA1 (l:=s.done) (i:=0) (by rw[QC] at hpos;omega);refine JtP ((0:Int)<((dDs s.done).length:Int)) rfl hpos ?_;refine JtJ (ds:=dDs s.done) (d:=x.g) (vs:=[.i x.seq,.i x.code,.l (dL x.tells)]) 0 rfl rfl rfl (by omega) (mA1 (f:=Don.g) hx) rfl (Jt0 ?_);refine⟨⟨s.up,s.frozen,s.round,s.base,s.added,s.done.set 0 ⟨c,a,l⟩⟩,q,?_,by omega,by omega,f1,f2,by simp only[List.length_set];exact f3,fun d hd=>?_⟩
  ·show [dB s.up,dB s.frozen,dI s.round,.s (dL s.base),.s (dL s.added),.s ((dDs s.done).set 0 (.g [dI c,dI a,.s (dL l)])),.s (Ja bs),dI q]=[dB s.up,dB s.frozen,dI s.round,.s (dL s.base),.s (dL s.added),.s (dDs (s.done.set 0 ⟨c,a,l⟩)),D.s (Ja bs),dI q];simp only[dDs,List.map_set];rfl
  ·rcases Juy hd with q | q
   ·exact f4 d q
   ·rw[q];show l.length≤_;omega
 obtain⟨ds,e,s',q,rfl,h⟩:=key;exact⟨s',q,e,h⟩
theorem Jkv {bs:List Int} {p n:Int} (hr:Rdr bs p) (hf:p≤999997000000) (n1:1≤n) (n2:n≤2000000) :
  ∃ (l:Pln) (s:Sit) (k:Int) (w:Wrl) (q:Int),Ev L f_k35 [.s (Ja bs),dI p,dI n] (l.cells++s.cells++[dI k]++w.cells++[.s (Ja bs),dI q])∧JM l∧Qu s∧OkW w∧p≤q∧q≤p+400000∧0≤k:=by
 have key : ∃ ds,Ev L f_k35 [.s (Ja bs),dI p,dI n] ds∧∃ (l:Pln) (s:Sit) (k:Int) (w:Wrl) (q:Int),ds=l.cells++s.cells++[dI k]++w.cells++[.s (Ja bs),dI q]∧JM l∧Qu s∧OkW w∧p≤q∧q≤p+400000∧0≤k:=by
  refine Jt4 (vs:=[.l (Ja bs),.i p,.i n]) L_k35 rfl ?_;obtain⟨w,o,e,hok,o1,o2⟩:=Jho hr (by omega);refine JtE (vs:=[.i w.p.n,.l (Jd w.p.acts),.l (dL w.p.gives),.l (dL w.p.start),.l (dSt w.sites),.b w.c.up,.i w.c.round,.l (dL w.c.base),.l (dDs w.c.done),.l (dCs w.c.wants),.l (dGs w.c.got),.l (dCn w.cons),.l (dMs w.net),.l (dLg w.log),.l (Ja bs),.i o]) e rfl rfl rfl ?_;simp only[sC,sN];have hg:=Qm hok.pln;have hsl:=hok.sl;have hs1:1≤((dSt w.sites).length:Int):=by rw[QB];omega
  have hs2:((dSt w.sites).length:Int)≤2000000:=by rw[QB];omega
  refine Je _ (hr.go (q:=o) (by omega) (by omega)) hs1 hs2 rfl rfl fun k k0 k1=>?_;simp only[sC,sN];rw[QB] at k1;obtain⟨s,hs,hsm⟩:=sA1 (l:=w.sites) (i:=k.toNat) (by omega);have hso:=hok.sites _ s hs;have hsf:=V7 hok.pln hso;have hpf:=Zb hok.pln;obtain⟨r1,r2,r3,r4⟩:=QG.1 hso;refine JtJ (ds:=dSt w.sites) (d:=s.g) (vs:=[.b s.up,.b s.frozen,.i s.round,.l (dL s.base),.l (dL s.added),.l (dDs s.done)]) k rfl rfl rfl k0 (mA1 (f:=Sit.g) hs) rfl ?_;simp only[sC,sN];refine Je n (hr.go (q:=o+1) (by omega) (by omega)) n1 n2 rfl rfl fun u _ _=>?_;simp only[sC,sN];refine JtX (fun _=>Jt0 ⟨w.p,s,k,w,o+1+1,rfl,hpf,hsf,hok,by omega,by omega,k0⟩) (fun _=>?_);refine Je 4 (hr.go (q:=o+1+1) (by omega) (by omega)) (by omega) (by omega) rfl rfl fun v _ _=>?_;simp only[sC,sN];refine JtX (fun _=>?_) (fun _=>?_)
  ·obtain⟨l,q,e,q1,q2,hl⟩:=JeQ (n:=1) (hr.go (q:=o+1+1+1) (by omega) (by omega)) (by omega) (by omega) (by omega);exact JtE (vs:=[.i l.n,.l (Jd l.acts),.l (dL l.gives),.l (dL l.start),.l (Ja bs),.i q]) e rfl rfl rfl (Jt0 ⟨l,s,k,w,q,rfl,hl,hsf,hok,by omega,by omega,k0⟩)
  ·obtain⟨s2,q,e,q1,q2,hs2⟩:=JeM s (hr.go (q:=o+1+1+1) (by omega) (by omega)) (by omega) hsf (by omega) (by have:=(JT.1 r4).1;have:=Qb hok.pln;omega);refine JtE (vs:=[.b s2.up,.b s2.frozen,.i s2.round,.l (dL s2.base),.l (dL s2.added),.l (dDs s2.done),.l (Ja bs),.i q]) e rfl rfl rfl ?_;simp only[sC,sN];refine Je 2 (hr.go (q:=q) (by omega) (by omega)) (by omega) (by omega) rfl rfl fun v v0 v1=>?_;simp only[sC,sN];exact Jt0 ⟨w.p,s2,i64.wrap (k+v),w,q+1,rfl,hpf,hs2,hok,by omega,by omega,by rw[w64 (by omega) (by omega)];omega⟩
 obtain⟨ds,e,l,s,k,w,q,rfl,h⟩:=key;exact⟨l,s,k,w,q,e,h⟩
/- Clerks that are drawn: over residual programs. -/
theorem Jjr {bs:List Int} {o0 n:Int} (p:Pln) (hr:Rdr bs o0) (hf:o0≤999999980000) (hp:JM p) (n1:1≤n) (n2:n≤2000000) :
  ∃ (c:Cal) (q:Int),Ev L f_k36 ([.s (Ja bs),dI o0]++p.cells++[dI n]) (c.cells++[.s (Ja bs),dI q])∧o0≤q∧q≤o0+50∧c.args.length≤3:=by
 have key : ∃ ds,Ev L f_k36 ([.s (Ja bs),dI o0]++p.cells++[dI n]) ds∧∃ (c:Cal) (q:Int),ds=c.cells++[.s (Ja bs),dI q]∧o0≤q∧q≤o0+50∧c.args.length≤3:=by
  refine Jt4 (vs:=[.l (Ja bs),.i o0,.i p.n,.l (Jd p.acts),.l (dL p.gives),.l (dL p.start),.i n]) L_k36 rfl ?_;refine Je 4 (hr.go (q:=o0) (by omega) (by omega)) (by omega) (by omega) rfl rfl fun u _ _=>?_;simp only[sC,sN];refine Je 3 (hr.go (q:=o0+1) (by omega) (by omega)) (by omega) (by omega) rfl rfl fun v _ _=>?_;simp only[sC,sN];refine Je 4 (hr.go (q:=o0+1+1) (by omega) (by omega)) (by omega) (by omega) rfl rfl fun k _ _=>?_;simp only[sC,sN];obtain⟨a,o,ea,o1,o2,o3⟩:=Xo (hr.go (q:=o0+1+1+1) (by omega) (by omega)) (by omega) (n:=99) (by omega) (by omega);refine JtE (vs:=[.l (dL a),.l (Ja bs),.i o]) ea rfl rfl rfl ?_;simp only[sC,sN];refine Jty (0<p.n) rfl (fun hn=>?_) (fun _=>?_)
  ·refine Jt3 (by show (!decide (p.n=0))=true;rw[Bool.not_eq_true',decide_eq_false_iff_not];omega) ?_;refine Jty (0<((Jd p.acts).length:Int)) rfl (fun ha=>?_) (fun _=>?_)
   ·refine Jt3 (by show (!decide (((Jd p.acts).length:Int)=0))=true;rw[Bool.not_eq_true',decide_eq_false_iff_not];omega) ?_;refine Je n (hr.go (q:=o) (by omega) (by omega)) n1 n2 rfl rfl fun x _ _=>?_;simp only[sC,sN];refine JtX (fun _=>Jt0 ⟨⟨_,_,_,a⟩,o+1,rfl,by omega,by omega,by omega⟩) (fun _=>?_);refine Je 4 (hr.go (q:=o+1) (by omega) (by omega)) (by omega) (by omega) rfl rfl fun y _ _=>?_;simp only[sC,sN];refine JtX (fun _=>?_) (fun _=>?_)
    ·refine Je 3 (hr.go (q:=o+1+1) (by omega) (by omega)) (by omega) (by omega) rfl rfl fun z z0 z1=>?_;simp only[sC,sN];exact JX [-1,4,3] z z0 z1 rfl rfl rfl rfl rfl fun x=>Jt0 ⟨⟨_,_,_,a⟩,o+1+1+1,rfl,by omega,by omega,by omega⟩
    refine JtX (fun _=>?_) (fun _=>?_)
    ·refine Je 3 (hr.go (q:=o+1+1) (by omega) (by omega)) (by omega) (by omega) rfl rfl fun z z0 z1=>?_;simp only[sC,sN];exact JX [0,300,301] z z0 z1 rfl rfl rfl rfl rfl fun x=>Jt0 ⟨⟨_,_,_,a⟩,o+1+1+1,rfl,by omega,by omega,by omega⟩
    refine JtX (fun _=>?_) (fun _=>?_)
    ·refine Je 3 (hr.go (q:=o+1+1) (by omega) (by omega)) (by omega) (by omega) rfl rfl fun z z0 z1=>?_;simp only[sC,sN];exact JX [-1,4,3] z z0 z1 rfl rfl rfl rfl rfl fun x=>Jt0 ⟨⟨_,_,_,a⟩,o+1+1+1,rfl,by omega,by omega,by omega⟩
    obtain⟨b,r,er,r1,r2,r3⟩:=Xo (hr.go (q:=o+1+1) (by omega) (by omega)) (by omega) (n:=1) (by omega) (by omega);exact JtE (vs:=[.l (dL b),.l (Ja bs),.i r]) er rfl rfl rfl (Jt0 ⟨⟨_,_,_,b⟩,r,rfl,by omega,by omega,by omega⟩)
   ·refine Je n (hr.go (q:=o) (by omega) (by omega)) n1 n2 rfl rfl fun x _ _=>?_;simp only[sC,sN];refine JtX (fun _=>Jt0 ⟨⟨_,_,_,a⟩,o+1,rfl,by omega,by omega,by omega⟩) (fun _=>?_);refine Je 4 (hr.go (q:=o+1) (by omega) (by omega)) (by omega) (by omega) rfl rfl fun y _ _=>?_;simp only[sC,sN];refine JtX (fun _=>?_) (fun _=>?_)
    ·refine Je 3 (hr.go (q:=o+1+1) (by omega) (by omega)) (by omega) (by omega) rfl rfl fun z z0 z1=>?_;simp only[sC,sN];exact JX [-1,4,3] z z0 z1 rfl rfl rfl rfl rfl fun x=>Jt0 ⟨⟨_,_,_,a⟩,o+1+1+1,rfl,by omega,by omega,by omega⟩
    refine JtX (fun _=>?_) (fun _=>?_)
    ·refine Je 3 (hr.go (q:=o+1+1) (by omega) (by omega)) (by omega) (by omega) rfl rfl fun z z0 z1=>?_;simp only[sC,sN];exact JX [0,300,301] z z0 z1 rfl rfl rfl rfl rfl fun x=>Jt0 ⟨⟨_,_,_,a⟩,o+1+1+1,rfl,by omega,by omega,by omega⟩
    refine JtX (fun _=>?_) (fun _=>?_)
    ·refine Je 3 (hr.go (q:=o+1+1) (by omega) (by omega)) (by omega) (by omega) rfl rfl fun z z0 z1=>?_;simp only[sC,sN];exact JX [-1,4,3] z z0 z1 rfl rfl rfl rfl rfl fun x=>Jt0 ⟨⟨_,_,_,a⟩,o+1+1+1,rfl,by omega,by omega,by omega⟩
    obtain⟨b,r,er,r1,r2,r3⟩:=Xo (hr.go (q:=o+1+1) (by omega) (by omega)) (by omega) (n:=1) (by omega) (by omega);exact JtE (vs:=[.l (dL b),.l (Ja bs),.i r]) er rfl rfl rfl (Jt0 ⟨⟨_,_,_,b⟩,r,rfl,by omega,by omega,by omega⟩)
  ·refine Jty (0<((Jd p.acts).length:Int)) rfl (fun ha=>?_) (fun _=>?_)
   ·refine Jt3 (by show (!decide (((Jd p.acts).length:Int)=0))=true;rw[Bool.not_eq_true',decide_eq_false_iff_not];omega) ?_;refine Je n (hr.go (q:=o) (by omega) (by omega)) n1 n2 rfl rfl fun x _ _=>?_;simp only[sC,sN];refine JtX (fun _=>Jt0 ⟨⟨_,_,_,a⟩,o+1,rfl,by omega,by omega,by omega⟩) (fun _=>?_);refine Je 4 (hr.go (q:=o+1) (by omega) (by omega)) (by omega) (by omega) rfl rfl fun y _ _=>?_;simp only[sC,sN];refine JtX (fun _=>?_) (fun _=>?_)
    ·refine Je 3 (hr.go (q:=o+1+1) (by omega) (by omega)) (by omega) (by omega) rfl rfl fun z z0 z1=>?_;simp only[sC,sN];exact JX [-1,4,3] z z0 z1 rfl rfl rfl rfl rfl fun x=>Jt0 ⟨⟨_,_,_,a⟩,o+1+1+1,rfl,by omega,by omega,by omega⟩
    refine JtX (fun _=>?_) (fun _=>?_)
    ·refine Je 3 (hr.go (q:=o+1+1) (by omega) (by omega)) (by omega) (by omega) rfl rfl fun z z0 z1=>?_;simp only[sC,sN];exact JX [0,300,301] z z0 z1 rfl rfl rfl rfl rfl fun x=>Jt0 ⟨⟨_,_,_,a⟩,o+1+1+1,rfl,by omega,by omega,by omega⟩
    refine JtX (fun _=>?_) (fun _=>?_)
    ·refine Je 3 (hr.go (q:=o+1+1) (by omega) (by omega)) (by omega) (by omega) rfl rfl fun z z0 z1=>?_;simp only[sC,sN];exact JX [-1,4,3] z z0 z1 rfl rfl rfl rfl rfl fun x=>Jt0 ⟨⟨_,_,_,a⟩,o+1+1+1,rfl,by omega,by omega,by omega⟩
    obtain⟨b,r,er,r1,r2,r3⟩:=Xo (hr.go (q:=o+1+1) (by omega) (by omega)) (by omega) (n:=1) (by omega) (by omega);exact JtE (vs:=[.l (dL b),.l (Ja bs),.i r]) er rfl rfl rfl (Jt0 ⟨⟨_,_,_,b⟩,r,rfl,by omega,by omega,by omega⟩)
   ·refine Je n (hr.go (q:=o) (by omega) (by omega)) n1 n2 rfl rfl fun x _ _=>?_;simp only[sC,sN];refine JtX (fun _=>Jt0 ⟨⟨_,_,_,a⟩,o+1,rfl,by omega,by omega,by omega⟩) (fun _=>?_);refine Je 4 (hr.go (q:=o+1) (by omega) (by omega)) (by omega) (by omega) rfl rfl fun y _ _=>?_;simp only[sC,sN];refine JtX (fun _=>?_) (fun _=>?_)
    ·refine Je 3 (hr.go (q:=o+1+1) (by omega) (by omega)) (by omega) (by omega) rfl rfl fun z z0 z1=>?_;simp only[sC,sN];exact JX [-1,4,3] z z0 z1 rfl rfl rfl rfl rfl fun x=>Jt0 ⟨⟨_,_,_,a⟩,o+1+1+1,rfl,by omega,by omega,by omega⟩
    refine JtX (fun _=>?_) (fun _=>?_)
    ·refine Je 3 (hr.go (q:=o+1+1) (by omega) (by omega)) (by omega) (by omega) rfl rfl fun z z0 z1=>?_;simp only[sC,sN];exact JX [0,300,301] z z0 z1 rfl rfl rfl rfl rfl fun x=>Jt0 ⟨⟨_,_,_,a⟩,o+1+1+1,rfl,by omega,by omega,by omega⟩
    refine JtX (fun _=>?_) (fun _=>?_)
    ·refine Je 3 (hr.go (q:=o+1+1) (by omega) (by omega)) (by omega) (by omega) rfl rfl fun z z0 z1=>?_;simp only[sC,sN];exact JX [-1,4,3] z z0 z1 rfl rfl rfl rfl rfl fun x=>Jt0 ⟨⟨_,_,_,a⟩,o+1+1+1,rfl,by omega,by omega,by omega⟩
    obtain⟨b,r,er,r1,r2,r3⟩:=Xo (hr.go (q:=o+1+1) (by omega) (by omega)) (by omega) (n:=1) (by omega) (by omega);exact JtE (vs:=[.l (dL b),.l (Ja bs),.i r]) er rfl rfl rfl (Jt0 ⟨⟨_,_,_,b⟩,r,rfl,by omega,by omega,by omega⟩)
 obtain⟨ds,e,c,q,rfl,h⟩:=key;exact⟨c,q,e,h⟩
/- What the clerk says: over residual programs. -/
theorem JjE (x:Msg) (hx:ZP x):Ev L f_k62 (x.cells++x.cells) [dB true]:=by
 refine Jt7 (vs:=[.i x.kind,.i x.to,.i x.frm,.i x.round,.i x.call.client,.i x.call.seq,.i x.call.act,.l (dL x.call.args),.l (dL x.vals),.l (dL x.seqs),.l (dDs x.done),.i x.kind,.i x.to,.i x.frm,.i x.round,.i x.call.client,.i x.call.seq,.i x.call.act,.l (dL x.call.args),.l (dL x.vals),.l (dL x.seqs),.l (dDs x.done)]) L_k62 rfl ?_;refine JtZ (by show decide (x.kind=x.kind)=true;simp) ?_;refine JtZ (by show decide (x.to=x.to)=true;simp) ?_;refine JtZ (by show decide (x.frm=x.frm)=true;simp) ?_;refine JtZ (by show decide (x.round=x.round)=true;simp) ?_;have hco:Ev L f_k61 (x.call.cells++x.call.cells) [dB true]:=by
  refine Jt7 (vs:=[.i x.call.client,.i x.call.seq,.i x.call.act,.l (dL x.call.args),.i x.call.client,.i x.call.seq,.i x.call.act,.l (dL x.call.args)]) L_k61 rfl ?_;refine JtZ (by show decide (x.call.client=x.call.client)=true;simp) ?_;refine JtZ (by show decide (x.call.seq=x.call.seq)=true;simp) ?_;refine JtZ (by show decide (x.call.act=x.call.act)=true;simp) ?_;exact JtE (Zi x.call.args hx.1) rfl rfl rfl (Jt0 rfl)
 refine JtE hco rfl rfl rfl (JtZ rfl ?_);refine JtE (Zi x.vals hx.2.1) rfl rfl rfl (JtZ rfl ?_);refine JtE (Zi x.seqs hx.2.2.1) rfl rfl rfl (JtZ rfl ?_);exact JtE (JbP x.done hx.2.2.2) rfl rfl rfl (Jt0 rfl)
theorem Jka (l:List Msg) (hl:Wj ZP l):Ev L f_k63 [.s (dMs l),.s (dMs l)] [dB true]:=by
 refine Jt7 (vs:=[.l (dMs l),.l (dMs l)]) L_k63 rfl ?_;have h0:=hl.1;refine JtN (by show (!decide (((dMs l).length:Int)=((dMs l).length:Int)))=false;simp) ?_;refine Jtt l.length (fun i=>[.i i]) (fun _=>True) rfl rfl trivial fun i hi _=>?_;simp only[sC,sN];refine JtT i (Q1 l) rfl (fun h=>?_) (fun h=>JtA (Jt0 rfl));obtain⟨x,hx,hm⟩:=sA1 h;refine JtY (vs:=[.i x.kind,.i x.to,.i x.frm,.i x.round,.i x.call.client,.i x.call.seq,.i x.call.act,.l (dL x.call.args),.l (dL x.vals),.l (dL x.seqs),.l (dDs x.done)]) i (mA1 (f:=Msg.g) hx) rfl rfl rfl rfl ?_;refine JtY (vs:=[.i x.kind,.i x.to,.i x.frm,.i x.round,.i x.call.client,.i x.call.seq,.i x.call.act,.l (dL x.call.args),.l (dL x.vals),.l (dL x.seqs),.l (dDs x.done)]) i (mA1 (f:=Msg.g) hx) rfl rfl rfl rfl ?_;simp only[sC,sN];refine JtE (JjE x (hl.2 x hm)) rfl rfl rfl (JtN rfl ?_);exact JtK (vs:=[.i ((i+1:Nat):Int)]) (by rw[←wS h (by omega)];rfl) ⟨h,rfl,trivial⟩
end Go.Proofs.YtngcnclchcahlaaGreatDoor

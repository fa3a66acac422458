import Derived.Test.YtdmjmcegcpdenaaGreatDoorPZZI
set_option linter.unusedVariables false
set_option linter.unusedSimpArgs false
/- Worlds that are drawn: over residual programs. -/
namespace Go.Proofs.YtdmjmcegcpdenaaGreatDoor
open Go Go.Tm
def Evt (bs:List Int) (p:Int) (ds:List D):Prop:=∃ (ek ea eb:Int) (ew:List Int) (q:Int),ds=[dI ek,dI ea,dI eb,.s (dL ew),.s (Ja bs),dI q]∧p≤q∧q≤p+100∧ew.length≤3
theorem Jh4 {bs:List Int} {p:Int} (w:Wrl) (hr:Rdr bs p) (hf:p≤999999990000) (h:OkW w) :
  ∃ (ek ea eb:Int) (ew:List Int) (q:Int),Ev L f_kr ([.s (Ja bs),dI p]++w.cells) [dI ek,dI ea,dI eb,.s (dL ew),.s (Ja bs),dI q]∧p≤q∧q≤p+100∧ew.length≤3:=by
 have key : ∃ ds,Ev L f_kr ([.s (Ja bs),dI p]++w.cells) ds∧Evt bs p ds:=by
  refine Jth (vs:=[.l (Ja bs),.i p,.i w.p.n,.l (Jd w.p.acts),.l (dL w.p.gives),.l (dL w.p.start),.l (dSt w.sites),.b w.c.up,.i w.c.round,.l (dL w.c.base),.l (dDs w.c.done),.l (dCs w.c.wants),.l (dGs w.c.got),.l (dCn w.cons),.l (dMs w.net),.l (dLg w.log)]) L_kr rfl ?_
  have hn:=Qm h.pln
  have hg:=Qo h.pln
  have hsl:=h.sl
  have hnl:=h.nl
  have hml:=h.ml
  have hac:=XT (Xr h.pln)
  have eC:IntKind.i64.wrap (((dCn w.cons).length:Int)+1)=(w.cons.length:Int)+1:=by rw[Qn,w64 (by omega) (by omega)]
  have eS:IntKind.i64.wrap (((dSt w.sites).length:Int)+1)=(w.sites.length:Int)+1:=by rw[Qx,w64 (by omega) (by omega)]
  have hC1:1≤IntKind.i64.wrap (((dCn w.cons).length:Int)+1):=by omega
  have hC2:IntKind.i64.wrap (((dCn w.cons).length:Int)+1)≤2000000:=by omega
  have hS1:1≤IntKind.i64.wrap (((dSt w.sites).length:Int)+1):=by omega
  have hS2:IntKind.i64.wrap (((dSt w.sites).length:Int)+1)≤2000000:=by omega
  have hc1:1≤((dCn w.cons).length:Int):=by rw[Qn];omega
  have hc2:((dCn w.cons).length:Int)≤2000000:=by rw[Qn];omega
  have hs1:1≤((dSt w.sites).length:Int):=by rw[Qx];omega
  have hs2:((dSt w.sites).length:Int)≤2000000:=by rw[Qx];omega
  have hA1:1≤((Jd w.p.acts).length:Int):=by rw[JM];omega
  have hA2:((Jd w.p.acts).length:Int)≤2000000:=by rw[JM];omega
  have hm2:((dMs w.net).length:Int)≤2000000:=by rw[Xb];omega
  refine JsI (0<((dMs w.net).length:Int)) rfl (fun hm=>?_) (fun _=>?_)
  ·refine Je 3 (hr.go (q:=p) (by omega) (by omega)) (by omega) (by omega) rfl rfl fun u _ _=>?_
   simp only[sC,sN]
   refine Js0 (fun _=>?_) (fun _=>?_)
   ·refine Je _ (hr.go (q:=p+1) (by omega) (by omega)) hm hm2 rfl rfl fun at_ _ _=>?_
    simp only[sC,sN]
    refine Je 32 (hr.go (q:=p+1+1) (by omega) (by omega)) (by omega) (by omega) rfl rfl fun u0 _ _=>?_
    simp only[sC,sN]
    iterate 6
     refine Js0 (fun _=>?_) (fun _=>?_)
     ·refine Je _ (hr.go (q:=p+1+1+1) (by omega) (by omega)) hC1 hC2 rfl rfl fun u1 _ _=>?_
      simp only[sC,sN]
      refine Je _ (hr.go (q:=p+1+1+1+1) (by omega) (by omega)) hA1 hA2 rfl rfl fun u2 _ _=>?_
      simp only[sC,sN]
      obtain⟨a,o,ea,o1,o2,o3⟩:=Uj (hr.go (q:=p+1+1+1+1+1) (by omega) (by omega)) (by omega) (n:=40) (by omega) (by omega)
      exact JsZ (vs:=[.l (dL a),.l (Ja bs),.i o]) ea rfl rfl rfl (JsN ⟨_,_,_,a,o,rfl,by omega,by omega,o3⟩)
    iterate 6
     refine Js0 (fun _=>?_) (fun _=>?_)
     ·exact Je _ (hr.go (q:=p+1+1+1) (by omega) (by omega)) hC1 hC2 rfl rfl fun u1 _ _=>JsN ⟨_,_,_,[],p+1+1+1+1,rfl,by omega,by omega,by simp⟩
    iterate 6
     refine Js0 (fun _=>?_) (fun _=>?_)
     ·exact JsN ⟨_,_,_,[],p+1+1+1,rfl,by omega,by omega,by simp⟩
    iterate 2
     refine Js0 (fun _=>?_) (fun _=>?_)
     ·exact Je _ (hr.go (q:=p+1+1+1) (by omega) (by omega)) hS1 hS2 rfl rfl fun u1 _ _=>JsN ⟨_,_,_,[],p+1+1+1+1,rfl,by omega,by omega,by simp⟩
    refine Js0 (fun _=>?_) (fun _=>?_)
    ·exact Je 2 (hr.go (q:=p+1+1+1) (by omega) (by omega)) (by omega) (by omega) rfl rfl fun u1 _ _=>JsN ⟨_,_,_,[],p+1+1+1+1,rfl,by omega,by omega,by simp⟩
    exact JsN ⟨_,_,_,[],p+1+1+1,rfl,by omega,by omega,by simp⟩
   ·refine Je 32 (hr.go (q:=p+1) (by omega) (by omega)) (by omega) (by omega) rfl rfl fun u0 _ _=>?_
    simp only[sC,sN]
    iterate 6
     refine Js0 (fun _=>?_) (fun _=>?_)
     ·refine Je _ (hr.go (q:=p+1+1) (by omega) (by omega)) hC1 hC2 rfl rfl fun u1 _ _=>?_
      simp only[sC,sN]
      refine Je _ (hr.go (q:=p+1+1+1) (by omega) (by omega)) hA1 hA2 rfl rfl fun u2 _ _=>?_
      simp only[sC,sN]
      obtain⟨a,o,ea,o1,o2,o3⟩:=Uj (hr.go (q:=p+1+1+1+1) (by omega) (by omega)) (by omega) (n:=40) (by omega) (by omega)
      exact JsZ (vs:=[.l (dL a),.l (Ja bs),.i o]) ea rfl rfl rfl (JsN ⟨_,_,_,a,o,rfl,by omega,by omega,o3⟩)
    iterate 6
     refine Js0 (fun _=>?_) (fun _=>?_)
     ·exact Je _ (hr.go (q:=p+1+1) (by omega) (by omega)) hC1 hC2 rfl rfl fun u1 _ _=>JsN ⟨_,_,_,[],p+1+1+1,rfl,by omega,by omega,by simp⟩
    iterate 6
     refine Js0 (fun _=>?_) (fun _=>?_)
     ·exact JsN ⟨_,_,_,[],p+1+1,rfl,by omega,by omega,by simp⟩
    iterate 2
     refine Js0 (fun _=>?_) (fun _=>?_)
     ·exact Je _ (hr.go (q:=p+1+1) (by omega) (by omega)) hS1 hS2 rfl rfl fun u1 _ _=>JsN ⟨_,_,_,[],p+1+1+1,rfl,by omega,by omega,by simp⟩
    refine Js0 (fun _=>?_) (fun _=>?_)
    ·exact Je 2 (hr.go (q:=p+1+1) (by omega) (by omega)) (by omega) (by omega) rfl rfl fun u1 _ _=>JsN ⟨_,_,_,[],p+1+1+1,rfl,by omega,by omega,by simp⟩
    exact JsN ⟨_,_,_,[],p+1+1,rfl,by omega,by omega,by simp⟩
  ·refine Je 32 (hr.go (q:=p) (by omega) (by omega)) (by omega) (by omega) rfl rfl fun u0 _ _=>?_
   simp only[sC,sN]
   iterate 6
    refine Js0 (fun _=>?_) (fun _=>?_)
    ·refine Je _ (hr.go (q:=p+1) (by omega) (by omega)) hC1 hC2 rfl rfl fun u1 _ _=>?_
     simp only[sC,sN]
     refine Je _ (hr.go (q:=p+1+1) (by omega) (by omega)) hA1 hA2 rfl rfl fun u2 _ _=>?_
     simp only[sC,sN]
     obtain⟨a,o,ea,o1,o2,o3⟩:=Uj (hr.go (q:=p+1+1+1) (by omega) (by omega)) (by omega) (n:=40) (by omega) (by omega)
     exact JsZ (vs:=[.l (dL a),.l (Ja bs),.i o]) ea rfl rfl rfl (JsN ⟨_,_,_,a,o,rfl,by omega,by omega,o3⟩)
   iterate 6
    refine Js0 (fun _=>?_) (fun _=>?_)
    ·exact Je _ (hr.go (q:=p+1) (by omega) (by omega)) hC1 hC2 rfl rfl fun u1 _ _=>JsN ⟨_,_,_,[],p+1+1,rfl,by omega,by omega,by simp⟩
   iterate 6
    refine Js0 (fun _=>?_) (fun _=>?_)
    ·exact JsN ⟨_,_,_,[],p+1,rfl,by omega,by omega,by simp⟩
   iterate 2
    refine Js0 (fun _=>?_) (fun _=>?_)
    ·exact Je _ (hr.go (q:=p+1) (by omega) (by omega)) hS1 hS2 rfl rfl fun u1 _ _=>JsN ⟨_,_,_,[],p+1+1,rfl,by omega,by omega,by simp⟩
   refine Js0 (fun _=>?_) (fun _=>?_)
   ·exact Je 2 (hr.go (q:=p+1) (by omega) (by omega)) (by omega) (by omega) rfl rfl fun u1 _ _=>JsN ⟨_,_,_,[],p+1+1,rfl,by omega,by omega,by simp⟩
   exact JsN ⟨_,_,_,[],p+1,rfl,by omega,by omega,by simp⟩
 obtain⟨ds,e,ek,ea,eb,ew,q,rfl,h⟩:=key
 exact⟨ek,ea,eb,ew,q,e,h⟩
theorem JbL {bs:List Int} {p:Int} (w:Wrl) (k j:Int) (hr:Rdr bs p) (hf:p≤999999990000) (h:OkW w) :
  ∃ (ek ea eb:Int) (ew:List Int) (q:Int),Ev L f_ks ([.s (Ja bs),dI p]++w.cells++[dI k,dI j]) [dI ek,dI ea,dI eb,.s (dL ew),.s (Ja bs),dI q]∧p≤q∧q≤p+100∧ew.length≤3:=by
 have key : ∃ ds,Ev L f_ks ([.s (Ja bs),dI p]++w.cells++[dI k,dI j]) ds∧Evt bs p ds:=by
  refine Jth (vs:=[.l (Ja bs),.i p,.i w.p.n,.l (Jd w.p.acts),.l (dL w.p.gives),.l (dL w.p.start),.l (dSt w.sites),.b w.c.up,.i w.c.round,.l (dL w.c.base),.l (dDs w.c.done),.l (dCs w.c.wants),.l (dGs w.c.got),.l (dCn w.cons),.l (dMs w.net),.l (dLg w.log),.i k,.i j]) L_ks rfl ?_
  have hn:=Qm h.pln
  have hg:=Qo h.pln
  have hsl:=h.sl
  have hnl:=h.nl
  have hml:=h.ml
  have hac:=XT (Xr h.pln)
  have eC:IntKind.i64.wrap (((dCn w.cons).length:Int)+1)=(w.cons.length:Int)+1:=by rw[Qn,w64 (by omega) (by omega)]
  have eS:IntKind.i64.wrap (((dSt w.sites).length:Int)+1)=(w.sites.length:Int)+1:=by rw[Qx,w64 (by omega) (by omega)]
  have hC1:1≤IntKind.i64.wrap (((dCn w.cons).length:Int)+1):=by omega
  have hC2:IntKind.i64.wrap (((dCn w.cons).length:Int)+1)≤2000000:=by omega
  have hS1:1≤IntKind.i64.wrap (((dSt w.sites).length:Int)+1):=by omega
  have hS2:IntKind.i64.wrap (((dSt w.sites).length:Int)+1)≤2000000:=by omega
  have hc1:1≤((dCn w.cons).length:Int):=by rw[Qn];omega
  have hc2:((dCn w.cons).length:Int)≤2000000:=by rw[Qn];omega
  have hs1:1≤((dSt w.sites).length:Int):=by rw[Qx];omega
  have hs2:((dSt w.sites).length:Int)≤2000000:=by rw[Qx];omega
  have hA1:1≤((Jd w.p.acts).length:Int):=by rw[JM];omega
  have hA2:((Jd w.p.acts).length:Int)≤2000000:=by rw[JM];omega
  have hm2:((dMs w.net).length:Int)≤2000000:=by rw[Xb];omega
  have e1:IntKind.i64.wrap (((dMs w.net).length:Int)-1)=(w.net.length:Int)-1:=by rw[Xb,w64 (by omega) (by omega)]
  have h01:1≤IntKind.i64.wrap ((0:Int)+1):=by rw[w64 (by omega) (by omega)];omega
  have h02:IntKind.i64.wrap ((0:Int)+1)≤2000000:=by rw[w64 (by omega) (by omega)];omega
  refine JsI (IntKind.i64.wrap (((dMs w.net).length:Int)-1)<0) rfl (fun _=>?_) (fun hl=>?_)
  ·refine Js0 (fun _=>?_) (fun _=>?_)
   ·exact JsN ⟨_,_,_,[],p,rfl,by omega,by omega,by simp⟩
   iterate 8
    refine Js0 (fun _=>?_) (fun _=>?_)
    ·exact Je _ (hr.go (q:=p) (by omega) (by omega)) h01 h02 rfl rfl fun u1 _ _=>JsN ⟨_,_,_,[],p+1,rfl,by omega,by omega,by simp⟩
   refine Js0 (fun _=>?_) (fun _=>?_)
   ·refine Js0 (fun _=>JsN ⟨_,_,_,[],p,rfl,by omega,by omega,by simp⟩) (fun _=>?_)
    exact Je _ (hr.go (q:=p) (by omega) (by omega)) hs1 hs2 rfl rfl fun u1 _ _=>JsN ⟨_,_,_,[],p+1,rfl,by omega,by omega,by simp⟩
   refine Js0 (fun _=>?_) (fun _=>?_)
   ·refine Js0 (fun _=>JsN ⟨_,_,_,[],p,rfl,by omega,by omega,by simp⟩) (fun _=>?_)
    exact Je _ (hr.go (q:=p) (by omega) (by omega)) hs1 hs2 rfl rfl fun u1 _ _=>JsN ⟨_,_,_,[],p+1,rfl,by omega,by omega,by simp⟩
   refine Js0 (fun _=>?_) (fun _=>?_)
   ·exact Je _ (hr.go (q:=p) (by omega) (by omega)) hc1 hc2 rfl rfl fun u1 _ _=>JsN ⟨_,_,_,[],p+1,rfl,by omega,by omega,by simp⟩
   exact JsN ⟨_,_,_,[],p,rfl,by omega,by omega,by simp⟩
  ·have hl1:1≤IntKind.i64.wrap (IntKind.i64.wrap (((dMs w.net).length:Int)-1)+1):=by rw[e1] at hl ⊢;rw[w64 (by omega) (by omega)];omega
   have hl2:IntKind.i64.wrap (IntKind.i64.wrap (((dMs w.net).length:Int)-1)+1)≤2000000:=by rw[e1,w64 (by omega) (by omega)];omega
   refine Js0 (fun _=>?_) (fun _=>?_)
   ·exact JsN ⟨_,_,_,[],p,rfl,by omega,by omega,by simp⟩
   iterate 8
    refine Js0 (fun _=>?_) (fun _=>?_)
    ·exact Je _ (hr.go (q:=p) (by omega) (by omega)) hl1 hl2 rfl rfl fun u1 _ _=>JsN ⟨_,_,_,[],p+1,rfl,by omega,by omega,by simp⟩
   refine Js0 (fun _=>?_) (fun _=>?_)
   ·refine Js0 (fun _=>JsN ⟨_,_,_,[],p,rfl,by omega,by omega,by simp⟩) (fun _=>?_)
    exact Je _ (hr.go (q:=p) (by omega) (by omega)) hs1 hs2 rfl rfl fun u1 _ _=>JsN ⟨_,_,_,[],p+1,rfl,by omega,by omega,by simp⟩
   refine Js0 (fun _=>?_) (fun _=>?_)
   ·refine Js0 (fun _=>JsN ⟨_,_,_,[],p,rfl,by omega,by omega,by simp⟩) (fun _=>?_)
    exact Je _ (hr.go (q:=p) (by omega) (by omega)) hs1 hs2 rfl rfl fun u1 _ _=>JsN ⟨_,_,_,[],p+1,rfl,by omega,by omega,by simp⟩
   refine Js0 (fun _=>?_) (fun _=>?_)
   ·exact Je _ (hr.go (q:=p) (by omega) (by omega)) hc1 hc2 rfl rfl fun u1 _ _=>JsN ⟨_,_,_,[],p+1,rfl,by omega,by omega,by simp⟩
   exact JsN ⟨_,_,_,[],p,rfl,by omega,by omega,by simp⟩
 obtain⟨ds,e,ek,ea,eb,ew,q,rfl,h⟩:=key
 exact⟨ek,ea,eb,ew,q,e,h⟩
theorem JaK {bs:List Int} {p:Int} (w:Wrl) (k:Int) (hr:Rdr bs p) (hf:p≤999999990000) (h:OkW w) :
  ∃ (ek ea eb:Int) (ew:List Int) (q:Int),Ev L f_kt ([.s (Ja bs),dI p]++w.cells++[dI k]) [dI ek,dI ea,dI eb,.s (dL ew),.s (Ja bs),dI q]∧p≤q∧q≤p+100∧ew.length≤3:=by
 have key : ∃ ds,Ev L f_kt ([.s (Ja bs),dI p]++w.cells++[dI k]) ds∧Evt bs p ds:=by
  refine Jth (vs:=[.l (Ja bs),.i p,.i w.p.n,.l (Jd w.p.acts),.l (dL w.p.gives),.l (dL w.p.start),.l (dSt w.sites),.b w.c.up,.i w.c.round,.l (dL w.c.base),.l (dDs w.c.done),.l (dCs w.c.wants),.l (dGs w.c.got),.l (dCn w.cons),.l (dMs w.net),.l (dLg w.log),.i k]) L_kt rfl ?_
  have hn:=Qm h.pln
  have hg:=Qo h.pln
  have hsl:=h.sl
  have hnl:=h.nl
  have hml:=h.ml
  have hac:=XT (Xr h.pln)
  have eC:IntKind.i64.wrap (((dCn w.cons).length:Int)+1)=(w.cons.length:Int)+1:=by rw[Qn,w64 (by omega) (by omega)]
  have eS:IntKind.i64.wrap (((dSt w.sites).length:Int)+1)=(w.sites.length:Int)+1:=by rw[Qx,w64 (by omega) (by omega)]
  have hC1:1≤IntKind.i64.wrap (((dCn w.cons).length:Int)+1):=by omega
  have hC2:IntKind.i64.wrap (((dCn w.cons).length:Int)+1)≤2000000:=by omega
  have hS1:1≤IntKind.i64.wrap (((dSt w.sites).length:Int)+1):=by omega
  have hS2:IntKind.i64.wrap (((dSt w.sites).length:Int)+1)≤2000000:=by omega
  have hc1:1≤((dCn w.cons).length:Int):=by rw[Qn];omega
  have hc2:((dCn w.cons).length:Int)≤2000000:=by rw[Qn];omega
  have hs1:1≤((dSt w.sites).length:Int):=by rw[Qx];omega
  have hs2:((dSt w.sites).length:Int)≤2000000:=by rw[Qx];omega
  have hA1:1≤((Jd w.p.acts).length:Int):=by rw[JM];omega
  have hA2:((Jd w.p.acts).length:Int)≤2000000:=by rw[JM];omega
  have hm2:((dMs w.net).length:Int)≤2000000:=by rw[Xb];omega
  refine Je _ (hr.go (q:=p) (by omega) (by omega)) hc1 hc2 rfl rfl fun c hc0 hcl=>?_
  simp only[sC,sN]
  rw[Qn] at hcl
  refine Js8 rfl ?_
  iterate 2
   refine Js0 (fun _=>?_) (fun _=>?_)
   ·refine Je _ (hr.go (q:=p+1) (by omega) (by omega)) hA1 hA2 rfl rfl fun u2 _ _=>?_
    simp only[sC,sN]
    obtain⟨a,o,ea,o1,o2,o3⟩:=Uj (hr.go (q:=p+1+1) (by omega) (by omega)) (by omega) (n:=99) (by omega) (by omega)
    exact JsZ (vs:=[.l (dL a),.l (Ja bs),.i o]) ea rfl rfl rfl (JsN ⟨_,_,_,a,o,rfl,by omega,by omega,o3⟩)
  iterate 3
   refine Js0 (fun _=>?_) (fun _=>?_)
   ·refine JsR w.cons.length (fun i vs=>∃ c:Int,vs=[.i c,.i i]∧0≤c∧c<w.cons.length) rfl ⟨c,rfl,hc0,hcl⟩ ?_
    rintro i vs hi ⟨c,rfl,c0,c1⟩
    simp only[sC,sN]
    refine JsY i (Qn w.cons) rfl (fun h'=>?_) (fun h'=>JsS (JsN ⟨_,_,_,[],p+1,rfl,by omega,by omega,by simp⟩))
    obtain⟨x,hx,hxm⟩:=sA1 (l:=w.cons) (i:=c.toNat) (by omega)
    refine Jtd (ds:=dCn w.cons) (d:=x.g) (vs:=[.i x.seq,.b x.busy,.i x.call.client,.i x.call.seq,.i x.call.act,.l (dL x.call.args),.i x.code,.l (dL x.tells)]) c rfl rfl rfl c0 (mA1 (f:=Con.g) hx) rfl ?_
    simp only[sC,sN]
    refine Js0 (fun _=>?_) (fun _=>JsS (JsN ⟨_,_,_,[],p+1,rfl,by omega,by omega,by simp⟩))
    have ew:IntKind.i64.wrap (c+1)=c+1:=w64 (by omega) (by omega)
    refine Js8 (by show (!decide (((dCn w.cons).length:Int)=0))=true;rw[Qn,Bool.not_eq_true',decide_eq_false_iff_not];omega) ?_
    refine Js3 (vs:=[.i (Int.tmod (c+1) w.cons.length),.i ((i+1:Nat):Int)]) ?_ ⟨h',_,rfl,Int.tmod_nonneg _ (by omega),Int.tmod_lt_of_pos _ (by omega)⟩
    show [V.i (Int.tmod (IntKind.i64.wrap (c+1)) ((dCn w.cons).length:Int)),V.i (IntKind.i64.wrap ((i:Int)+1))]=_
    rw[wS h' (by omega),ew,Qn]
  repeat' (refine Js0 (fun _=>?_) (fun _=>?_))
  all_goals exact JsN ⟨_,_,_,[],p+1,rfl,by omega,by omega,by simp⟩
 obtain⟨ds,e,ek,ea,eb,ew,q,rfl,h⟩:=key
 exact⟨ek,ea,eb,ew,q,e,h⟩
theorem JiH {bs:List Int} {p:Int} (w:Wrl) (n:Int) (hr:Rdr bs p) (hf:p≤999999000000) (hok:OkW w) (hn:n≤200) :
  ∃ (evs:List D) (w':Wrl) (q:Int),Ev L f_k2v ([.s (Ja bs),dI p]++w.cells++[dI n]) ([.s evs]++w'.cells++[.s (Ja bs),dI q])∧OkW w'∧p≤q∧q≤p+200000:=by
 have key : ∃ ds,Ev L f_k2v ([.s (Ja bs),dI p]++w.cells++[dI n]) ds∧∃ (evs:List D) (w':Wrl) (q:Int),ds=[.s evs]++w'.cells++[.s (Ja bs),dI q]∧OkW w'∧p≤q∧q≤p+200000:=by
  refine Jth (vs:=[.l (Ja bs),.i p,.i w.p.n,.l (Jd w.p.acts),.l (dL w.p.gives),.l (dL w.p.start),.l (dSt w.sites),.b w.c.up,.i w.c.round,.l (dL w.c.base),.l (dDs w.c.done),.l (dCs w.c.wants),.l (dGs w.c.got),.l (dCn w.cons),.l (dMs w.net),.l (dLg w.log),.i n]) L_k2v rfl ?_
  refine Je 4 (hr.go (q:=p) (by omega) (by omega)) (by omega) (by omega) rfl rfl fun sty _ _=>?_
  simp only[sC,sN]
  refine Jta (fun m vs=>∃ (evs:List D) (st wh k:Int) (w:Wrl) (q:Int),vs=[.l evs,.i st,.i wh,.i k,.l (dLg w.log),.l (dMs w.net),.l (dCn w.cons),.l (dGs w.c.got),.l (dCs w.c.wants),.l (dDs w.c.done),.l (dL w.c.base),.i w.c.round,.b w.c.up,.l (dSt w.sites),.l (dL w.p.start),.l (dL w.p.gives),.l (Jd w.p.acts),.i w.p.n,.i q,.l (Ja bs)]∧OkW w∧0≤k∧p≤q∧q≤p+1+500*k∧(k≤n∨k=0)∧(m:Int)=(if k≤n then n-k else 0)∧(evs.length:Int)=k) rfl n.toNat ⟨[],14,0,0,w,p+1,rfl,hok,by omega,by omega,by omega,by omega,by split <;> omega,by simp⟩ ?_
  rintro m _ ⟨evs,st,wh,k,w,q,rfl,hok,k0,q1,q2,hkn,hm,hev⟩
  simp only[sC,sN]
  refine JsI (k<n) rfl (fun hlt=>?_) (fun _=>JsS (JsN ⟨evs,w,q,rfl,hok,by omega,by omega⟩))
  rw[if_pos (by omega)] at hm
  have hk1:IntKind.i64.wrap (k+1)=k+1:=w64 (by omega) (by omega)
  refine Js0 (fun _=>?_) (fun _=>JsS (JsN ⟨evs,w,q,rfl,hok,by omega,by omega⟩))
  obtain⟨xk,xa,xb,xw,xq,xe,x1,x2,x3⟩:=Jh4 w (hr.go (q:=q) (by omega) (by omega)) (by omega) hok
  refine JsZ (vs:=[.i xk,.i xa,.i xb,.l (dL xw),.l (Ja bs),.i xq]) xe rfl rfl rfl ?_
  simp only[sC,sN]
  refine JsI (st<14) rfl (fun _=>?_) (fun _=>?_)
  ·obtain⟨yk,ya,yb,yw,yq,ye,y1,y2,y3⟩:=JbL w st wh (hr.go (q:=xq) (by omega) (by omega)) (by omega) hok
   refine JsZ (vs:=[.i yk,.i ya,.i yb,.l (dL yw),.l (Ja bs),.i yq]) ye rfl rfl rfl ?_
   simp only[sC,sN]
   refine Js6 (evs++[.g [dI yk,dI ya,dI yb,.s (dL yw)]]) 1001 (by simp;omega) (by omega) rfl ?_
   obtain⟨w2,hst,ok2⟩:=XE w yk ya yb yw hok (by omega)
   refine JsZ (vs:=[.i w2.p.n,.l (Jd w2.p.acts),.l (dL w2.p.gives),.l (dL w2.p.start),.l (dSt w2.sites),.b w2.c.up,.i w2.c.round,.l (dL w2.c.base),.l (dDs w2.c.done),.l (dCs w2.c.wants),.l (dGs w2.c.got),.l (dCn w2.cons),.l (dMs w2.net),.l (dLg w2.log)]) hst rfl rfl rfl ?_
   simp only[sC,sN]
   refine Js3 (vs:=[.l (evs++[.g [dI yk,dI ya,dI yb,.s (dL yw)]]),.i (IntKind.i64.wrap (st+1)),.i wh,.i (k+1),.l (dLg w2.log),.l (dMs w2.net),.l (dCn w2.cons),.l (dGs w2.c.got),.l (dCs w2.c.wants),.l (dDs w2.c.done),.l (dL w2.c.base),.i w2.c.round,.b w2.c.up,.l (dSt w2.sites),.l (dL w2.p.start),.l (dL w2.p.gives),.l (Jd w2.p.acts),.i w2.p.n,.i (yq),.l (Ja bs)]) ?_ ⟨m-1,by omega,_,_,_,k+1,w2,yq,rfl,ok2,by omega,by omega,by omega,by simp;omega⟩
   rw[←hk1];rfl
  refine Js0 (fun _=>?_) (fun _=>?_)
  ·refine Je 12 (hr.go (q:=xq) (by omega) (by omega)) (by omega) (by omega) rfl rfl fun u1 _ _=>?_
   simp only[sC,sN]
   refine Js0 (fun _=>?_) (fun _=>?_)
   ·refine Je 2 (hr.go (q:=xq+1) (by omega) (by omega)) (by omega) (by omega) rfl rfl fun u2 _ _=>?_
    simp only[sC,sN]
    obtain⟨yk,ya,yb,yw,yq,ye,y1,y2,y3⟩:=JbL w 0 u2 (hr.go (q:=xq+1+1) (by omega) (by omega)) (by omega) hok
    refine JsZ (vs:=[.i yk,.i ya,.i yb,.l (dL yw),.l (Ja bs),.i yq]) ye rfl rfl rfl ?_
    simp only[sC,sN]
    refine Js6 (evs++[.g [dI yk,dI ya,dI yb,.s (dL yw)]]) 1001 (by simp;omega) (by omega) rfl ?_
    obtain⟨w2,hst,ok2⟩:=XE w yk ya yb yw hok (by omega)
    refine JsZ (vs:=[.i w2.p.n,.l (Jd w2.p.acts),.l (dL w2.p.gives),.l (dL w2.p.start),.l (dSt w2.sites),.b w2.c.up,.i w2.c.round,.l (dL w2.c.base),.l (dDs w2.c.done),.l (dCs w2.c.wants),.l (dGs w2.c.got),.l (dCn w2.cons),.l (dMs w2.net),.l (dLg w2.log)]) hst rfl rfl rfl ?_
    simp only[sC,sN]
    refine Js3 (vs:=[.l (evs++[.g [dI yk,dI ya,dI yb,.s (dL yw)]]),.i 1,.i u2,.i (k+1),.l (dLg w2.log),.l (dMs w2.net),.l (dCn w2.cons),.l (dGs w2.c.got),.l (dCs w2.c.wants),.l (dDs w2.c.done),.l (dL w2.c.base),.i w2.c.round,.b w2.c.up,.l (dSt w2.sites),.l (dL w2.p.start),.l (dL w2.p.gives),.l (Jd w2.p.acts),.i w2.p.n,.i (yq),.l (Ja bs)]) ?_ ⟨m-1,by omega,_,_,_,k+1,w2,yq,rfl,ok2,by omega,by omega,by omega,by simp;omega⟩
    rw[←hk1];rfl
   refine Js0 (fun _=>?_) (fun _=>?_)
   ·refine Je 8 (hr.go (q:=xq+1) (by omega) (by omega)) (by omega) (by omega) rfl rfl fun u3 _ _=>?_
    simp only[sC,sN]
    refine Js0 (fun _=>?_) (fun _=>?_)
    ·obtain⟨yk,ya,yb,yw,yq,ye,y1,y2,y3⟩:=JaK w k (hr.go (q:=xq+1+1) (by omega) (by omega)) (by omega) hok
     refine JsZ (vs:=[.i yk,.i ya,.i yb,.l (dL yw),.l (Ja bs),.i yq]) ye rfl rfl rfl ?_
     simp only[sC,sN]
     refine Js6 (evs++[.g [dI yk,dI ya,dI yb,.s (dL yw)]]) 1001 (by simp;omega) (by omega) rfl ?_
     obtain⟨w2,hst,ok2⟩:=XE w yk ya yb yw hok (by omega)
     refine JsZ (vs:=[.i w2.p.n,.l (Jd w2.p.acts),.l (dL w2.p.gives),.l (dL w2.p.start),.l (dSt w2.sites),.b w2.c.up,.i w2.c.round,.l (dL w2.c.base),.l (dDs w2.c.done),.l (dCs w2.c.wants),.l (dGs w2.c.got),.l (dCn w2.cons),.l (dMs w2.net),.l (dLg w2.log)]) hst rfl rfl rfl ?_
     simp only[sC,sN]
     refine Js3 (vs:=[.l (evs++[.g [dI yk,dI ya,dI yb,.s (dL yw)]]),.i st,.i wh,.i (k+1),.l (dLg w2.log),.l (dMs w2.net),.l (dCn w2.cons),.l (dGs w2.c.got),.l (dCs w2.c.wants),.l (dDs w2.c.done),.l (dL w2.c.base),.i w2.c.round,.b w2.c.up,.l (dSt w2.sites),.l (dL w2.p.start),.l (dL w2.p.gives),.l (Jd w2.p.acts),.i w2.p.n,.i (yq),.l (Ja bs)]) ?_ ⟨m-1,by omega,_,_,_,k+1,w2,yq,rfl,ok2,by omega,by omega,by omega,by simp;omega⟩
     rw[←hk1];rfl
    ·refine Js6 (evs++[.g [dI xk,dI xa,dI xb,.s (dL xw)]]) 1001 (by simp;omega) (by omega) rfl ?_
     obtain⟨w2,hst,ok2⟩:=XE w xk xa xb xw hok (by omega)
     refine JsZ (vs:=[.i w2.p.n,.l (Jd w2.p.acts),.l (dL w2.p.gives),.l (dL w2.p.start),.l (dSt w2.sites),.b w2.c.up,.i w2.c.round,.l (dL w2.c.base),.l (dDs w2.c.done),.l (dCs w2.c.wants),.l (dGs w2.c.got),.l (dCn w2.cons),.l (dMs w2.net),.l (dLg w2.log)]) hst rfl rfl rfl ?_
     simp only[sC,sN]
     refine Js3 (vs:=[.l (evs++[.g [dI xk,dI xa,dI xb,.s (dL xw)]]),.i st,.i wh,.i (k+1),.l (dLg w2.log),.l (dMs w2.net),.l (dCn w2.cons),.l (dGs w2.c.got),.l (dCs w2.c.wants),.l (dDs w2.c.done),.l (dL w2.c.base),.i w2.c.round,.b w2.c.up,.l (dSt w2.sites),.l (dL w2.p.start),.l (dL w2.p.gives),.l (Jd w2.p.acts),.i w2.p.n,.i (xq+1+1),.l (Ja bs)]) ?_ ⟨m-1,by omega,_,_,_,k+1,w2,xq+1+1,rfl,ok2,by omega,by omega,by omega,by simp;omega⟩
     rw[←hk1];rfl
   ·refine Js6 (evs++[.g [dI xk,dI xa,dI xb,.s (dL xw)]]) 1001 (by simp;omega) (by omega) rfl ?_
    obtain⟨w2,hst,ok2⟩:=XE w xk xa xb xw hok (by omega)
    refine JsZ (vs:=[.i w2.p.n,.l (Jd w2.p.acts),.l (dL w2.p.gives),.l (dL w2.p.start),.l (dSt w2.sites),.b w2.c.up,.i w2.c.round,.l (dL w2.c.base),.l (dDs w2.c.done),.l (dCs w2.c.wants),.l (dGs w2.c.got),.l (dCn w2.cons),.l (dMs w2.net),.l (dLg w2.log)]) hst rfl rfl rfl ?_
    simp only[sC,sN]
    refine Js3 (vs:=[.l (evs++[.g [dI xk,dI xa,dI xb,.s (dL xw)]]),.i st,.i wh,.i (k+1),.l (dLg w2.log),.l (dMs w2.net),.l (dCn w2.cons),.l (dGs w2.c.got),.l (dCs w2.c.wants),.l (dDs w2.c.done),.l (dL w2.c.base),.i w2.c.round,.b w2.c.up,.l (dSt w2.sites),.l (dL w2.p.start),.l (dL w2.p.gives),.l (Jd w2.p.acts),.i w2.p.n,.i (xq+1),.l (Ja bs)]) ?_ ⟨m-1,by omega,_,_,_,k+1,w2,xq+1,rfl,ok2,by omega,by omega,by omega,by simp;omega⟩
    rw[←hk1];rfl
  ·refine Js0 (fun _=>?_) (fun _=>?_)
   ·refine Je 8 (hr.go (q:=xq) (by omega) (by omega)) (by omega) (by omega) rfl rfl fun u3 _ _=>?_
    simp only[sC,sN]
    refine Js0 (fun _=>?_) (fun _=>?_)
    ·obtain⟨yk,ya,yb,yw,yq,ye,y1,y2,y3⟩:=JaK w k (hr.go (q:=xq+1) (by omega) (by omega)) (by omega) hok
     refine JsZ (vs:=[.i yk,.i ya,.i yb,.l (dL yw),.l (Ja bs),.i yq]) ye rfl rfl rfl ?_
     simp only[sC,sN]
     refine Js6 (evs++[.g [dI yk,dI ya,dI yb,.s (dL yw)]]) 1001 (by simp;omega) (by omega) rfl ?_
     obtain⟨w2,hst,ok2⟩:=XE w yk ya yb yw hok (by omega)
     refine JsZ (vs:=[.i w2.p.n,.l (Jd w2.p.acts),.l (dL w2.p.gives),.l (dL w2.p.start),.l (dSt w2.sites),.b w2.c.up,.i w2.c.round,.l (dL w2.c.base),.l (dDs w2.c.done),.l (dCs w2.c.wants),.l (dGs w2.c.got),.l (dCn w2.cons),.l (dMs w2.net),.l (dLg w2.log)]) hst rfl rfl rfl ?_
     simp only[sC,sN]
     refine Js3 (vs:=[.l (evs++[.g [dI yk,dI ya,dI yb,.s (dL yw)]]),.i st,.i wh,.i (k+1),.l (dLg w2.log),.l (dMs w2.net),.l (dCn w2.cons),.l (dGs w2.c.got),.l (dCs w2.c.wants),.l (dDs w2.c.done),.l (dL w2.c.base),.i w2.c.round,.b w2.c.up,.l (dSt w2.sites),.l (dL w2.p.start),.l (dL w2.p.gives),.l (Jd w2.p.acts),.i w2.p.n,.i (yq),.l (Ja bs)]) ?_ ⟨m-1,by omega,_,_,_,k+1,w2,yq,rfl,ok2,by omega,by omega,by omega,by simp;omega⟩
     rw[←hk1];rfl
    ·refine Js6 (evs++[.g [dI xk,dI xa,dI xb,.s (dL xw)]]) 1001 (by simp;omega) (by omega) rfl ?_
     obtain⟨w2,hst,ok2⟩:=XE w xk xa xb xw hok (by omega)
     refine JsZ (vs:=[.i w2.p.n,.l (Jd w2.p.acts),.l (dL w2.p.gives),.l (dL w2.p.start),.l (dSt w2.sites),.b w2.c.up,.i w2.c.round,.l (dL w2.c.base),.l (dDs w2.c.done),.l (dCs w2.c.wants),.l (dGs w2.c.got),.l (dCn w2.cons),.l (dMs w2.net),.l (dLg w2.log)]) hst rfl rfl rfl ?_
     simp only[sC,sN]
     refine Js3 (vs:=[.l (evs++[.g [dI xk,dI xa,dI xb,.s (dL xw)]]),.i st,.i wh,.i (k+1),.l (dLg w2.log),.l (dMs w2.net),.l (dCn w2.cons),.l (dGs w2.c.got),.l (dCs w2.c.wants),.l (dDs w2.c.done),.l (dL w2.c.base),.i w2.c.round,.b w2.c.up,.l (dSt w2.sites),.l (dL w2.p.start),.l (dL w2.p.gives),.l (Jd w2.p.acts),.i w2.p.n,.i (xq+1),.l (Ja bs)]) ?_ ⟨m-1,by omega,_,_,_,k+1,w2,xq+1,rfl,ok2,by omega,by omega,by omega,by simp;omega⟩
     rw[←hk1];rfl
   ·refine Js6 (evs++[.g [dI xk,dI xa,dI xb,.s (dL xw)]]) 1001 (by simp;omega) (by omega) rfl ?_
    obtain⟨w2,hst,ok2⟩:=XE w xk xa xb xw hok (by omega)
    refine JsZ (vs:=[.i w2.p.n,.l (Jd w2.p.acts),.l (dL w2.p.gives),.l (dL w2.p.start),.l (dSt w2.sites),.b w2.c.up,.i w2.c.round,.l (dL w2.c.base),.l (dDs w2.c.done),.l (dCs w2.c.wants),.l (dGs w2.c.got),.l (dCn w2.cons),.l (dMs w2.net),.l (dLg w2.log)]) hst rfl rfl rfl ?_
    simp only[sC,sN]
    refine Js3 (vs:=[.l (evs++[.g [dI xk,dI xa,dI xb,.s (dL xw)]]),.i st,.i wh,.i (k+1),.l (dLg w2.log),.l (dMs w2.net),.l (dCn w2.cons),.l (dGs w2.c.got),.l (dCs w2.c.wants),.l (dDs w2.c.done),.l (dL w2.c.base),.i w2.c.round,.b w2.c.up,.l (dSt w2.sites),.l (dL w2.p.start),.l (dL w2.p.gives),.l (Jd w2.p.acts),.i w2.p.n,.i (xq),.l (Ja bs)]) ?_ ⟨m-1,by omega,_,_,_,k+1,w2,xq,rfl,ok2,by omega,by omega,by omega,by simp;omega⟩
    rw[←hk1];rfl
 obtain⟨ds,e,evs,w',q,rfl,h⟩:=key
 exact⟨evs,w',q,e,h⟩
theorem Jhi {bs:List Int} {p:Int} (hr:Rdr bs p) (hf:p≤999998000000) :
  ∃ (w:Wrl) (q:Int),Ev L f_k2w [.s (Ja bs),dI p] (w.cells++[.s (Ja bs),dI q])∧OkW w∧p≤q∧q≤p+300000:=by
 have key : ∃ ds,Ev L f_k2w [.s (Ja bs),dI p] ds∧∃ (w:Wrl) (q:Int),ds=w.cells++[.s (Ja bs),dI q]∧OkW w∧p≤q∧q≤p+300000:=by
  refine Jth (vs:=[.l (Ja bs),.i p]) L_k2w rfl ?_
  obtain⟨l,q,he,q1,q2,_,_,_,hl⟩:=Jdh hr (by omega)
  refine JsZ (vs:=[.i l.n,.l (Jd l.acts),.l (dL l.gives),.l (dL l.start),.l (Ja bs),.i q]) he rfl rfl rfl ?_
  simp only[sC,sN]
  have hw:=Jly hl
  have hev:=JlB l hl
  generalize YF l=w at *
  refine JsZ (vs:=[.i w.p.n,.l (Jd w.p.acts),.l (dL w.p.gives),.l (dL w.p.start),.l (dSt w.sites),.b w.c.up,.i w.c.round,.l (dL w.c.base),.l (dDs w.c.done),.l (dCs w.c.wants),.l (dGs w.c.got),.l (dCn w.cons),.l (dMs w.net),.l (dLg w.log)]) hev rfl rfl rfl ?_
  simp only[sC,sN]
  refine Je 50 (hr.go (q:=q) (by omega) (by omega)) (by omega) (by omega) rfl rfl fun u hu0 hu1=>?_
  simp only[sC,sN]
  refine Je 5 (hr.go (q:=q+1) (by omega) (by omega)) (by omega) (by omega) rfl rfl fun v hv0 hv1=>?_
  simp only[sC,sN]
  refine Js4 (0≤v) rfl hv0 (Js4 (v<5) rfl hv1 ?_)
  have hn:([0,10,20,35,u]:List Int).getD v.toNat 0≤200:=by rcases (by omega:v=0∨v=1∨v=2∨v=3∨v=4) with q | q | q | q | q <;> subst q <;> simp <;> omega
  refine Jtd (ds:=dL [0,10,20,35,u]) v rfl rfl rfl hv0 (JV hv0 hv1) rfl ?_
  simp only[sC,sN]
  generalize ([0,10,20,35,u]:List Int).getD v.toNat 0=n at *
  obtain⟨evs,w2,o,e,hok,o1,o2⟩:=JiH w n (hr.go (q:=q+1+1) (by omega) (by omega)) (by omega) hw hn
  exact JsZ (vs:=[.l evs,.i w2.p.n,.l (Jd w2.p.acts),.l (dL w2.p.gives),.l (dL w2.p.start),.l (dSt w2.sites),.b w2.c.up,.i w2.c.round,.l (dL w2.c.base),.l (dDs w2.c.done),.l (dCs w2.c.wants),.l (dGs w2.c.got),.l (dCn w2.cons),.l (dMs w2.net),.l (dLg w2.log),.l (Ja bs),.i o]) e rfl rfl rfl (JsN ⟨w2,o,rfl,hok,by omega,by omega⟩)
 obtain⟨ds,e,w,q,rfl,h⟩:=key
 exact⟨w,q,e,h⟩
/- Sites that are drawn: over residual programs. -/
def Jop:List D:=[.s (dL [1,2,3,4,5,6,7]),.s (dL [999999999999]),.s (dL [-999999999999]),.s (dL [1000000000000]),.s (dL [-9223372036854775808])]
theorem five {u:Int} (h0:0≤u) (h1:u<5) : ∃ y:List Int,y.length≤7∧Jop[u.toNat]? = some (.s (dL y)):=by
 rcases (by omega:u=0∨u=1∨u=2∨u=3∨u=4) with q | q | q | q | q <;> subst q
 ·exact⟨[1,2,3,4,5,6,7],by simp,rfl⟩
 ·exact⟨[999999999999],by simp,rfl⟩
 ·exact⟨[-999999999999],by simp,rfl⟩
 ·exact⟨[1000000000000],by simp,rfl⟩
 ·exact⟨[-9223372036854775808],by simp,rfl⟩
theorem Jmu {bs:List Int} {p n:Int} (hr:Rdr bs p) (hf:p≤999999990000) (n1:1≤n) (n2:n≤2000000) :
  ∃ (c:Int) (t:List Int) (q:Int),Ev L f_k33 [.s (Ja bs),dI p,dI n] [dI c,.s (dL t),.s (Ja bs),dI q]∧p≤q∧q≤p+20∧t.length≤10:=by
 have key : ∃ ds,Ev L f_k33 [.s (Ja bs),dI p,dI n] ds∧∃ (c:Int) (t:List Int) (q:Int),ds=[dI c,.s (dL t),.s (Ja bs),dI q]∧p≤q∧q≤p+20∧t.length≤10:=by
  refine Jth (vs:=[.l (Ja bs),.i p,.i n]) L_k33 rfl ?_
  refine Je 3 (hr.go (q:=p) (by omega) (by omega)) (by omega) (by omega) rfl rfl fun u _ _=>?_
  simp only[sC,sN]
  refine Js0 (fun _=>?_) (fun _=>?_)
  ·refine Je 3 (hr.go (q:=p+1) (by omega) (by omega)) (by omega) (by omega) rfl rfl fun k k0 k1=>?_
   simp only[sC,sN]
   refine Jta (fun m vs=>∃ (l:List Int) (j o:Int),vs=[.l (dL l),.i j,.i o,.l (Ja bs)]∧p+2≤o∧o+j≤p+5∧0≤j∧j≤3∧(m:Int)=j∧(l.length:Int)+j≤3) rfl k.toNat ⟨[],k,p+1+1,rfl,by omega,by omega,by omega,by omega,by omega,by simp;omega⟩ ?_
   rintro m _ ⟨l,j,o,rfl,o1,o2,j0,j3,hm,hl⟩
   simp only[sC,sN]
   refine JsI (0<j) rfl (fun h=>?_) (fun _=>JsS ?_)
   ·refine Je 4 (hr.go (q:=o) (by omega) (by omega)) (by omega) (by omega) rfl rfl fun v v0 v1=>?_
    simp only[sC,sN]
    refine XQ [0,7,-7,12345] v v0 v1 rfl rfl rfl rfl rfl fun x=>?_
    simp only[sC,sN]
    refine JsX (dL l) 10 (by rw[dL1];omega) (by omega) rfl ?_
    refine Js3 (vs:=[.l (dL (l++[x])),.i (j-1),.i (o+1),.l (Ja bs)]) ?_ ⟨m-1,by omega,l++[x],j-1,o+1,rfl,by omega,by omega,by omega,by omega,by omega,by simp;omega⟩
    show [V.l (dL l++[dI x]),V.i (IntKind.i64.wrap (j-1)),V.i (o+1),V.l (Ja bs)]=_
    rw[Xd,w64 (by omega) (by omega)]
   refine Je n (hr.go (q:=o) (by omega) (by omega)) n1 n2 rfl rfl fun a _ _=>?_
   simp only[sC,sN]
   refine Js0 (fun _=>JsN ⟨_,l,o+1,rfl,by omega,by omega,by omega⟩) (fun _=>?_)
   refine Je 3 (hr.go (q:=o+1) (by omega) (by omega)) (by omega) (by omega) rfl rfl fun b _ _=>?_
   simp only[sC,sN]
   refine Js0 (fun _=>?_) (fun _=>?_)
   ·refine Je 3 (hr.go (q:=o+1+1) (by omega) (by omega)) (by omega) (by omega) rfl rfl fun c c0 c1=>?_
    simp only[sC,sN]
    refine XQ [0,4,-1] c c0 c1 rfl rfl rfl rfl rfl fun x=>JsN ⟨x,l,o+1+1+1,rfl,by omega,by omega,by omega⟩
   refine Js0 (fun _=>?_) (fun _=>?_)
   ·refine JsX (dL l) 10 (by rw[dL1];omega) (by omega) rfl (JsN ⟨_,l++[1],o+1+1,by rw[←Xd];rfl,by omega,by omega,by simp;omega⟩)
   ·refine Je 5 (hr.go (q:=o+1+1) (by omega) (by omega)) (by omega) (by omega) rfl rfl fun c c0 c1=>?_
    simp only[sC,sN]
    refine Js4 (0≤c) rfl c0 (Js4 (c<5) rfl c1 ?_)
    obtain⟨y,yl,ye⟩:=five c0 c1
    refine Jtd (ds:=Jop) (vs:=[.l (dL y)]) c rfl rfl rfl c0 ye rfl ?_
    simp only[sC,sN]
    exact JsN ⟨_,y,o+1+1+1,rfl,by omega,by omega,by omega⟩
  ·refine Je n (hr.go (q:=p+1) (by omega) (by omega)) n1 n2 rfl rfl fun a _ _=>?_
   simp only[sC,sN]
   refine Js0 (fun _=>JsN ⟨_,[],p+1+1,rfl,by omega,by omega,by simp⟩) (fun _=>?_)
   refine Je 3 (hr.go (q:=p+1+1) (by omega) (by omega)) (by omega) (by omega) rfl rfl fun b _ _=>?_
   simp only[sC,sN]
   refine Js0 (fun _=>?_) (fun _=>?_)
   ·refine Je 3 (hr.go (q:=p+1+1+1) (by omega) (by omega)) (by omega) (by omega) rfl rfl fun c c0 c1=>?_
    simp only[sC,sN]
    refine XQ [0,4,-1] c c0 c1 rfl rfl rfl rfl rfl fun x=>JsN ⟨x,[],p+1+1+1+1,rfl,by omega,by omega,by simp⟩
   refine Js0 (fun _=>JsN ⟨_,[1],p+1+1+1,rfl,by omega,by omega,by simp⟩) (fun _=>?_)
   refine Je 5 (hr.go (q:=p+1+1+1) (by omega) (by omega)) (by omega) (by omega) rfl rfl fun c c0 c1=>?_
   simp only[sC,sN]
   refine Js4 (0≤c) rfl c0 (Js4 (c<5) rfl c1 ?_)
   obtain⟨y,yl,ye⟩:=five c0 c1
   refine Jtd (ds:=Jop) (vs:=[.l (dL y)]) c rfl rfl rfl c0 ye rfl ?_
   simp only[sC,sN]
   exact JsN ⟨_,y,p+1+1+1+1,rfl,by omega,by omega,by omega⟩
 obtain⟨ds,e,c,t,q,rfl,h⟩:=key
 exact⟨c,t,q,e,h⟩
theorem Jpo:Yd ⟨0,0,[]⟩:=by simp[Yd]
theorem Jek {bs:List Int} {p:Int} (s:Sit) (hr:Rdr bs p) (hf:p≤999999980000) (hs:QB s) (hrd : -1000≤s.round∧s.round≤1000) (hd4:s.done.length≤1000) :
  ∃ (s':Sit) (q:Int),Ev L f_k34 ([.s (Ja bs),dI p]++s.cells) (s'.cells++[.s (Ja bs),dI q])∧p≤q∧q≤p+50∧QB s':=by
 have key : ∃ ds,Ev L f_k34 ([.s (Ja bs),dI p]++s.cells) ds∧∃ (s':Sit) (q:Int),ds=s'.cells++[.s (Ja bs),dI q]∧p≤q∧q≤p+50∧QB s':=by
  refine Jth (vs:=[.l (Ja bs),.i p,.b s.up,.b s.frozen,.i s.round,.l (dL s.base),.l (dL s.added),.l (dDs s.done)]) L_k34 rfl ?_
  obtain⟨f1,f2,f3,f4⟩:=hs
  refine JsZ (vs:=[.b s.up,.b s.frozen,.i s.round,.l (dL s.base),.l (dL s.added),.l (dDs s.done)]) (KT s ⟨f1,f2,f3,f4⟩) rfl rfl rfl ?_
  simp only[sC,sN]
  refine Je 6 (hr.go (q:=p) (by omega) (by omega)) (by omega) (by omega) rfl rfl fun u _ _=>?_
  simp only[sC,sN]
  refine Js0 (fun _=>?_) (fun _=>?_)
  ·refine Je 4 (hr.go (q:=p+1) (by omega) (by omega)) (by omega) (by omega) rfl rfl fun c c0 c1=>?_
   simp only[sC,sN]
   have hw:IntKind.i64.wrap (s.round+1)=s.round+1:=w64 (by omega) (by omega)
   refine XQ [-1,200,201,s.round+1] c c0 c1 rfl rfl rfl (by rw[←hw];rfl) rfl fun x=>JsN ⟨⟨s.up,s.frozen,x,s.base,s.added,s.done⟩,p+1+1,rfl,by omega,by omega,f1,f2,f3,f4⟩
  refine Js0 (fun _=>?_) (fun _=>?_)
  ·obtain⟨l,q,e,q1,q2,q3,_⟩:=Jpj (n:=1) (hr.go (q:=p+1) (by omega) (by omega)) (by omega) (by omega)
   exact JsZ (vs:=[.l (dL l),.l (Ja bs),.i q]) e rfl rfl rfl (JsN ⟨⟨s.up,s.frozen,s.round,l,s.added,s.done⟩,q,rfl,by omega,by omega,by show l.length≤_;omega,f2,f3,f4⟩)
  refine Js0 (fun _=>?_) (fun _=>?_)
  ·obtain⟨l,q,e,q1,q2,q3,_⟩:=Joa (n:=1) (hr.go (q:=p+1) (by omega) (by omega)) (by omega) (by omega) (by omega)
   exact JsZ (vs:=[.l (dL l),.l (Ja bs),.i q]) e rfl rfl rfl (JsN ⟨⟨s.up,s.frozen,s.round,s.base,l,s.done⟩,q,rfl,by omega,by omega,f1,by show l.length≤_;omega,f3,f4⟩)
  refine Js0 (fun _=>?_) (fun _=>?_)
  ·refine JsX (dDs s.done) 2000000 (by rw[Q2];omega) (by omega) rfl (JsN ⟨⟨s.up,s.frozen,s.round,s.base,s.added,s.done++[⟨0,0,[]⟩]⟩,p+1,?_,by omega,by omega,f1,f2,by simp;omega,fun d hd=>?_⟩)
   ·show [dB s.up,dB s.frozen,dI s.round,.s (dL s.base),.s (dL s.added),.s (dDs s.done++[.g [dI 0,dI 0,.s []]]),.s (Ja bs),dI (p+1)]=[dB s.up,dB s.frozen,dI s.round,.s (dL s.base),.s (dL s.added),.s (dDs (s.done++[⟨0,0,[]⟩])),D.s (Ja bs),dI (p+1)]
    simp only[dDs,List.map_append,List.map_cons,List.map_nil];rfl
   ·rcases List.mem_append.1 hd with q | q
    ·exact f4 d q
    ·simp only[List.mem_singleton] at q;subst q;exact Jpo
  refine Js0 (fun _=>?_) (fun _=>JsN ⟨⟨s.up,!s.frozen,s.round,s.base,s.added,s.done⟩,p+1,rfl,by omega,by omega,f1,f2,f3,f4⟩)
  refine JsI (0<((dDs s.done).length:Int)) rfl (fun hpos=>?_) (fun _=>JsN ⟨s,p+1,rfl,by omega,by omega,f1,f2,f3,f4⟩)
  refine Je 3 (hr.go (q:=p+1) (by omega) (by omega)) (by omega) (by omega) rfl rfl fun c _ _=>?_
  simp only[sC,sN]
  obtain⟨a,l,q,e,q1,q2,q3⟩:=Jmu (n:=2) (hr.go (q:=p+1+1) (by omega) (by omega)) (by omega) (by omega) (by omega)
  refine JsZ (vs:=[.i a,.l (dL l),.l (Ja bs),.i q]) e rfl rfl rfl ?_
  simp only[sC,sN]
  obtain⟨x,hx,hxm⟩:=sA1 (l:=s.done) (i:=0) (by rw[Q2] at hpos;omega)
  refine Js4 ((0:Int)<((dDs s.done).length:Int)) rfl hpos ?_
  refine Jtd (ds:=dDs s.done) (d:=x.g) (vs:=[.i x.seq,.i x.code,.l (dL x.tells)]) 0 rfl rfl rfl (by omega) (mA1 (f:=Don.g) hx) rfl (JsN ?_)
  refine⟨⟨s.up,s.frozen,s.round,s.base,s.added,s.done.set 0 ⟨c,a,l⟩⟩,q,?_,by omega,by omega,f1,f2,by simp only[List.length_set];exact f3,fun d hd=>?_⟩
  ·show [dB s.up,dB s.frozen,dI s.round,.s (dL s.base),.s (dL s.added),.s ((dDs s.done).set 0 (.g [dI c,dI a,.s (dL l)])),.s (Ja bs),dI q]=[dB s.up,dB s.frozen,dI s.round,.s (dL s.base),.s (dL s.added),.s (dDs (s.done.set 0 ⟨c,a,l⟩)),D.s (Ja bs),dI q]
   simp only[dDs,List.map_set];rfl
  ·rcases List.mem_or_eq_of_mem_set hd with q | q
   ·exact f4 d q
   ·rw[q];show l.length≤_;omega
 obtain⟨ds,e,s',q,rfl,h⟩:=key
 exact⟨s',q,e,h⟩
theorem Jjt {bs:List Int} {p n:Int} (hr:Rdr bs p) (hf:p≤999997000000) (n1:1≤n) (n2:n≤2000000) :
  ∃ (l:Pln) (s:Sit) (k:Int) (w:Wrl) (q:Int),Ev L f_k35 [.s (Ja bs),dI p,dI n] (l.cells++s.cells++[dI k]++w.cells++[.s (Ja bs),dI q])∧JT l∧QB s∧OkW w∧p≤q∧q≤p+400000:=by
 have key : ∃ ds,Ev L f_k35 [.s (Ja bs),dI p,dI n] ds∧∃ (l:Pln) (s:Sit) (k:Int) (w:Wrl) (q:Int),ds=l.cells++s.cells++[dI k]++w.cells++[.s (Ja bs),dI q]∧JT l∧QB s∧OkW w∧p≤q∧q≤p+400000:=by
  refine Jth (vs:=[.l (Ja bs),.i p,.i n]) L_k35 rfl ?_
  obtain⟨w,o,e,hok,o1,o2⟩:=Jhi hr (by omega)
  refine JsZ (vs:=[.i w.p.n,.l (Jd w.p.acts),.l (dL w.p.gives),.l (dL w.p.start),.l (dSt w.sites),.b w.c.up,.i w.c.round,.l (dL w.c.base),.l (dDs w.c.done),.l (dCs w.c.wants),.l (dGs w.c.got),.l (dCn w.cons),.l (dMs w.net),.l (dLg w.log),.l (Ja bs),.i o]) e rfl rfl rfl ?_
  simp only[sC,sN]
  have hg:=Qo hok.pln
  have hsl:=hok.sl
  have hs1:1≤((dSt w.sites).length:Int):=by rw[Qx];omega
  have hs2:((dSt w.sites).length:Int)≤2000000:=by rw[Qx];omega
  refine Je _ (hr.go (q:=o) (by omega) (by omega)) hs1 hs2 rfl rfl fun k k0 k1=>?_
  simp only[sC,sN]
  rw[Qx] at k1
  obtain⟨s,hs,hsm⟩:=sA1 (l:=w.sites) (i:=k.toNat) (by omega)
  have hso:=hok.sites _ s hs
  have hsf:=Vw hok.pln hso
  have hpf:=Zm hok.pln
  obtain⟨r1,r2,r3,r4⟩:=Qw.1 hso
  refine Jtd (ds:=dSt w.sites) (d:=s.g) (vs:=[.b s.up,.b s.frozen,.i s.round,.l (dL s.base),.l (dL s.added),.l (dDs s.done)]) k rfl rfl rfl k0 (mA1 (f:=Sit.g) hs) rfl ?_
  simp only[sC,sN]
  refine Je n (hr.go (q:=o+1) (by omega) (by omega)) n1 n2 rfl rfl fun u _ _=>?_
  simp only[sC,sN]
  refine Js0 (fun _=>JsN ⟨w.p,s,k,w,o+1+1,rfl,hpf,hsf,hok,by omega,by omega⟩) (fun _=>?_)
  refine Je 4 (hr.go (q:=o+1+1) (by omega) (by omega)) (by omega) (by omega) rfl rfl fun v _ _=>?_
  simp only[sC,sN]
  refine Js0 (fun _=>?_) (fun _=>?_)
  ·obtain⟨l,q,e,q1,q2,hl⟩:=Jew (n:=1) (hr.go (q:=o+1+1+1) (by omega) (by omega)) (by omega) (by omega) (by omega)
   exact JsZ (vs:=[.i l.n,.l (Jd l.acts),.l (dL l.gives),.l (dL l.start),.l (Ja bs),.i q]) e rfl rfl rfl (JsN ⟨l,s,k,w,q,rfl,hl,hsf,hok,by omega,by omega⟩)
  ·obtain⟨s2,q,e,q1,q2,hs2⟩:=Jek s (hr.go (q:=o+1+1+1) (by omega) (by omega)) (by omega) hsf (by omega) (by have:=(JQ.1 r4).1;have:=Qm hok.pln;omega)
   refine JsZ (vs:=[.b s2.up,.b s2.frozen,.i s2.round,.l (dL s2.base),.l (dL s2.added),.l (dDs s2.done),.l (Ja bs),.i q]) e rfl rfl rfl ?_
   simp only[sC,sN]
   refine Je 2 (hr.go (q:=q) (by omega) (by omega)) (by omega) (by omega) rfl rfl fun v v0 v1=>?_
   simp only[sC,sN]
   exact JsN ⟨w.p,s2,_,w,q+1,rfl,hpf,hs2,hok,by omega,by omega⟩
 obtain⟨ds,e,l,s,k,w,q,rfl,h⟩:=key
 exact⟨l,s,k,w,q,e,h⟩
theorem JcC (ns:List Int) (hb :∀x∈ns,0≤x∧x<256) :
  ∃ (l:Pln) (s:Sit) (k:Int) (u:Bool),Ev L f_k36 [.s (Ja ns)] (l.cells++s.cells++[dI k,dB u])∧JT l∧QB s:=by
 obtain⟨bs,ho,hr⟩:=Jo9 ns hb
 obtain⟨l,s,k,w,q,e,hl,hs,_,q1,q2⟩:=Jjt (n:=12) hr (by omega) (by omega) (by omega)
 have key : ∃ ds,Ev L f_k36 [.s (Ja ns)] ds∧∃ u:Bool,ds=l.cells++s.cells++[dI k,dB u]:=by
  refine Jth (vs:=[.l (Ja ns)]) L_k36 rfl (JsZ ho rfl rfl rfl ?_)
  refine JsZ (vs:=[.i l.n,.l (Jd l.acts),.l (dL l.gives),.l (dL l.start),.b s.up,.b s.frozen,.i s.round,.l (dL s.base),.l (dL s.added),.l (dDs s.done),.i k,.i w.p.n,.l (Jd w.p.acts),.l (dL w.p.gives),.l (dL w.p.start),.l (dSt w.sites),.b w.c.up,.i w.c.round,.l (dL w.c.base),.l (dDs w.c.done),.l (dCs w.c.wants),.l (dGs w.c.got),.l (dCn w.cons),.l (dMs w.net),.l (dLg w.log),.l (Ja bs),.i q]) e rfl rfl rfl ?_
  simp only[sC,sN]
  refine Je 2 (hr.go (q:=q) (by omega) (by omega)) (by omega) (by omega) rfl rfl fun u _ _=>?_
  simp only[sC,sN]
  exact JsN ⟨_,rfl⟩
 obtain⟨ds,e,u,rfl⟩:=key
 exact⟨l,s,k,u,e,hl,hs⟩
theorem Jgo (ns:List Int) (hb :∀x∈ns,0≤x∧x<256):Ev L f_k5j [.s (Ja ns)] [dB true]:=by
 refine Jtg (vs:=[.l (Ja ns)]) L_k5j rfl ?_
 refine JsI (1048576<((Ja ns).length:Int)) rfl (fun _=>JsN rfl) (fun _=>?_)
 obtain⟨p,s,k,u,hd,hp,hs⟩:=JcC ns hb
 have h1:=JbI p s k u hp hs
 have h2:=Jih p s k u hp hs
 have hf:=Jhn p k u hs
 refine JsZ (vs:=[.i p.n,.l (Jd p.acts),.l (dL p.gives),.l (dL p.start),.b s.up,.b s.frozen,.i s.round,.l (dL s.base),.l (dL s.added),.l (dDs s.done),.i k,.b u]) hd rfl rfl rfl ?_
 simp only[sC,sN]
 generalize hx:Q4 p s k u=x at *
 refine JsZ (vs:=[.b x.up,.b x.frozen,.i x.round,.l (dL x.base),.l (dL x.added),.l (dDs x.done)]) h1 rfl rfl rfl ?_
 simp only[sC,sN]
 refine JsZ (vs:=[.b x.up,.b x.frozen,.i x.round,.l (dL x.base),.l (dL x.added),.l (dDs x.done)]) h2 rfl rfl rfl ?_
 simp only[sC,sN]
 refine JsZ (UH x hf) rfl rfl rfl (JsO rfl ?_)
 simp only[sC,sN]
 refine JsZ (JeP p s k hp hs) rfl rfl rfl ?_
 simp only[sC,sN]
 refine Jte (Yy p s k) rfl (fun h=>?_) (fun h=>?_)
 ·have e:x=⟨false,false,0,[],[],[]⟩:=by rw[←hx];unfold Q4;rw[h];rfl
  subst e
  refine JsZ (UH ⟨false,false,0,[],[],[]⟩ hf) rfl rfl rfl (JsP rfl ?_)
  simp only[sC,sN]
  refine JsZ (Jbr p s k hp hs) rfl rfl rfl ?_
  simp only[sC,sN]
  exact JsP (by show (!Yy p s k)=true;rw[h];rfl) (JsZ Jj0 rfl rfl rfl (JsN rfl))
 ·have e:x=⟨u,s.frozen,s.round,s.base,s.added,s.done⟩:=by rw[←hx];unfold Q4;rw[h];rfl
  have hxo:Yy p x k=true:=by rw[e];exact h
  have h3:=JbI p x k s.up hp hf
  have e3:Q4 p x k s.up=s:=by unfold Q4;rw[hxo,e];rfl
  rw[e3] at h3
  refine JsP (by show (x.up == u)=true;rw[e];simp) ?_
  refine JsZ (vs:=[.b s.up,.b s.frozen,.i s.round,.l (dL s.base),.l (dL s.added),.l (dDs s.done)]) h3 rfl rfl rfl ?_
  simp only[sC,sN]
  refine JsZ (UH s hs) rfl rfl rfl (JsP rfl ?_)
  simp only[sC,sN]
  refine JsZ (Jbr p x k hp hf) rfl rfl rfl (JsN ?_)
  show [dB (Yy p x k)]=_
  rw[hxo]
end Go.Proofs.YtdmjmcegcpdenaaGreatDoor

import Derived.Test.YtngcnclchcahlabGreatDoorPZZI
set_option linter.unusedVariables false
set_option linter.unusedSimpArgs false
/- Worlds that are drawn: over residual programs. -/
namespace Go.Proofs.YtngcnclchcahlabGreatDoor
open Go Go.Tm
open Go.IntKind (i64)
def Evt (bs:List Int) (p:Int) (ds:List D):Prop:=∃ (ek ea eb:Int) (ew:List Int) (q:Int),ds=[dI ek,dI ea,dI eb,.s (dL ew),.s (Ja bs),dI q]∧p≤q∧q≤p+100∧ew.length≤3
theorem Jio {bs:List Int} {p:Int} (w:Wrl) (hr:Rdr bs p) (hf:p≤999999990000) (h:OkW w) :
  ∃ (ek ea eb:Int) (ew:List Int) (q:Int),Ev L f_kr ([.s (Ja bs),dI p]++w.cells) [dI ek,dI ea,dI eb,.s (dL ew),.s (Ja bs),dI q]∧p≤q∧q≤p+100∧ew.length≤3:=by
 have key : ∃ ds,Ev L f_kr ([.s (Ja bs),dI p]++w.cells) ds∧Evt bs p ds:=by
  refine JuY (vs:=[.l (Ja bs),.i p,.i w.p.n,.l (Jd w.p.acts),.l (dL w.p.gives),.l (dL w.p.start),.l (dSt w.sites),.b w.c.up,.i w.c.round,.l (dL w.c.base),.l (dDs w.c.done),.l (dCs w.c.wants),.l (dGs w.c.got),.l (dCn w.cons),.l (dMs w.net),.l (dLg w.log)]) L_kr rfl ?_;have hn:=JZ h.pln;have hg:=Qa h.pln;have hsl:=h.sl;have hnl:=h.nl;have hml:=h.ml;have hac:=Ya (XN h.pln);have eC:i64.wrap (((dCn w.cons).length:Int)+1)=(w.cons.length:Int)+1:=by rw[QA,w64 (by omega) (by omega)]
  have eS:i64.wrap (((dSt w.sites).length:Int)+1)=(w.sites.length:Int)+1:=by rw[Qe,w64 (by omega) (by omega)]
  have hC1:1≤i64.wrap (((dCn w.cons).length:Int)+1):=by omega
  have hC2:i64.wrap (((dCn w.cons).length:Int)+1)≤2000000:=by omega
  have hS1:1≤i64.wrap (((dSt w.sites).length:Int)+1):=by omega
  have hS2:i64.wrap (((dSt w.sites).length:Int)+1)≤2000000:=by omega
  have hc1:1≤((dCn w.cons).length:Int):=by rw[QA];omega
  have hc2:((dCn w.cons).length:Int)≤2000000:=by rw[QA];omega
  have hs1:1≤((dSt w.sites).length:Int):=by rw[Qe];omega
  have hs2:((dSt w.sites).length:Int)≤2000000:=by rw[Qe];omega
  have hA1:1≤((Jd w.p.acts).length:Int):=by rw[JR];omega
  have hA2:((Jd w.p.acts).length:Int)≤2000000:=by rw[JR];omega
  have hm2:((dMs w.net).length:Int)≤2000000:=by rw[Xr];omega
  refine JuB (0<((dMs w.net).length:Int)) rfl (fun hm=>?_) (fun _=>?_)
  ·refine Je 3 (hr.go (q:=p) (by omega) (by omega)) (by omega) (by omega) rfl rfl fun u _ _=>?_;simp only[sC,sN];refine Jux (fun _=>?_) (fun _=>?_)
   ·refine Je _ (hr.go (q:=p+1) (by omega) (by omega)) hm hm2 rfl rfl fun at_ _ _=>?_;simp only[sC,sN];refine Je 32 (hr.go (q:=p+1+1) (by omega) (by omega)) (by omega) (by omega) rfl rfl fun u0 _ _=>?_;simp only[sC,sN]
    iterate 6
     refine Jux (fun _=>?_) (fun _=>?_)
     ·refine Je _ (hr.go (q:=p+1+1+1) (by omega) (by omega)) hC1 hC2 rfl rfl fun u1 _ _=>?_;simp only[sC,sN];refine Je _ (hr.go (q:=p+1+1+1+1) (by omega) (by omega)) hA1 hA2 rfl rfl fun u2 _ _=>?_;simp only[sC,sN];obtain⟨a,o,ea,o1,o2,o3⟩:=XK (hr.go (q:=p+1+1+1+1+1) (by omega) (by omega)) (by omega) (n:=40) (by omega) (by omega);exact Jup (vs:=[.l (dL a),.l (Ja bs),.i o]) ea rfl rfl rfl (Jun ⟨_,_,_,a,o,rfl,by omega,by omega,o3⟩)
    iterate 6
     refine Jux (fun _=>?_) (fun _=>?_)
     ·exact Je _ (hr.go (q:=p+1+1+1) (by omega) (by omega)) hC1 hC2 rfl rfl fun u1 _ _=>Jun ⟨_,_,_,[],p+1+1+1+1,rfl,by omega,by omega,by simp⟩
    iterate 6
     refine Jux (fun _=>?_) (fun _=>?_)
     ·exact Jun ⟨_,_,_,[],p+1+1+1,rfl,by omega,by omega,by simp⟩
    iterate 2
     refine Jux (fun _=>?_) (fun _=>?_)
     ·exact Je _ (hr.go (q:=p+1+1+1) (by omega) (by omega)) hS1 hS2 rfl rfl fun u1 _ _=>Jun ⟨_,_,_,[],p+1+1+1+1,rfl,by omega,by omega,by simp⟩
    refine Jux (fun _=>?_) (fun _=>?_)
    ·exact Je 2 (hr.go (q:=p+1+1+1) (by omega) (by omega)) (by omega) (by omega) rfl rfl fun u1 _ _=>Jun ⟨_,_,_,[],p+1+1+1+1,rfl,by omega,by omega,by simp⟩
    exact Jun ⟨_,_,_,[],p+1+1+1,rfl,by omega,by omega,by simp⟩
   ·refine Je 32 (hr.go (q:=p+1) (by omega) (by omega)) (by omega) (by omega) rfl rfl fun u0 _ _=>?_;simp only[sC,sN]
    iterate 6
     refine Jux (fun _=>?_) (fun _=>?_)
     ·refine Je _ (hr.go (q:=p+1+1) (by omega) (by omega)) hC1 hC2 rfl rfl fun u1 _ _=>?_;simp only[sC,sN];refine Je _ (hr.go (q:=p+1+1+1) (by omega) (by omega)) hA1 hA2 rfl rfl fun u2 _ _=>?_;simp only[sC,sN];obtain⟨a,o,ea,o1,o2,o3⟩:=XK (hr.go (q:=p+1+1+1+1) (by omega) (by omega)) (by omega) (n:=40) (by omega) (by omega);exact Jup (vs:=[.l (dL a),.l (Ja bs),.i o]) ea rfl rfl rfl (Jun ⟨_,_,_,a,o,rfl,by omega,by omega,o3⟩)
    iterate 6
     refine Jux (fun _=>?_) (fun _=>?_)
     ·exact Je _ (hr.go (q:=p+1+1) (by omega) (by omega)) hC1 hC2 rfl rfl fun u1 _ _=>Jun ⟨_,_,_,[],p+1+1+1,rfl,by omega,by omega,by simp⟩
    iterate 6
     refine Jux (fun _=>?_) (fun _=>?_)
     ·exact Jun ⟨_,_,_,[],p+1+1,rfl,by omega,by omega,by simp⟩
    iterate 2
     refine Jux (fun _=>?_) (fun _=>?_)
     ·exact Je _ (hr.go (q:=p+1+1) (by omega) (by omega)) hS1 hS2 rfl rfl fun u1 _ _=>Jun ⟨_,_,_,[],p+1+1+1,rfl,by omega,by omega,by simp⟩
    refine Jux (fun _=>?_) (fun _=>?_)
    ·exact Je 2 (hr.go (q:=p+1+1) (by omega) (by omega)) (by omega) (by omega) rfl rfl fun u1 _ _=>Jun ⟨_,_,_,[],p+1+1+1,rfl,by omega,by omega,by simp⟩
    exact Jun ⟨_,_,_,[],p+1+1,rfl,by omega,by omega,by simp⟩
  ·refine Je 32 (hr.go (q:=p) (by omega) (by omega)) (by omega) (by omega) rfl rfl fun u0 _ _=>?_;simp only[sC,sN]
   iterate 6
    refine Jux (fun _=>?_) (fun _=>?_)
    ·refine Je _ (hr.go (q:=p+1) (by omega) (by omega)) hC1 hC2 rfl rfl fun u1 _ _=>?_;simp only[sC,sN];refine Je _ (hr.go (q:=p+1+1) (by omega) (by omega)) hA1 hA2 rfl rfl fun u2 _ _=>?_;simp only[sC,sN];obtain⟨a,o,ea,o1,o2,o3⟩:=XK (hr.go (q:=p+1+1+1) (by omega) (by omega)) (by omega) (n:=40) (by omega) (by omega);exact Jup (vs:=[.l (dL a),.l (Ja bs),.i o]) ea rfl rfl rfl (Jun ⟨_,_,_,a,o,rfl,by omega,by omega,o3⟩)
   iterate 6
    refine Jux (fun _=>?_) (fun _=>?_)
    ·exact Je _ (hr.go (q:=p+1) (by omega) (by omega)) hC1 hC2 rfl rfl fun u1 _ _=>Jun ⟨_,_,_,[],p+1+1,rfl,by omega,by omega,by simp⟩
   iterate 6
    refine Jux (fun _=>?_) (fun _=>?_)
    ·exact Jun ⟨_,_,_,[],p+1,rfl,by omega,by omega,by simp⟩
   iterate 2
    refine Jux (fun _=>?_) (fun _=>?_)
    ·exact Je _ (hr.go (q:=p+1) (by omega) (by omega)) hS1 hS2 rfl rfl fun u1 _ _=>Jun ⟨_,_,_,[],p+1+1,rfl,by omega,by omega,by simp⟩
   refine Jux (fun _=>?_) (fun _=>?_)
   ·exact Je 2 (hr.go (q:=p+1) (by omega) (by omega)) (by omega) (by omega) rfl rfl fun u1 _ _=>Jun ⟨_,_,_,[],p+1+1,rfl,by omega,by omega,by simp⟩
   exact Jun ⟨_,_,_,[],p+1,rfl,by omega,by omega,by simp⟩
 obtain⟨ds,e,ek,ea,eb,ew,q,rfl,h⟩:=key;exact⟨ek,ea,eb,ew,q,e,h⟩
theorem Jb3 {bs:List Int} {p:Int} (w:Wrl) (k j:Int) (hr:Rdr bs p) (hf:p≤999999990000) (h:OkW w) :
  ∃ (ek ea eb:Int) (ew:List Int) (q:Int),Ev L f_ks ([.s (Ja bs),dI p]++w.cells++[dI k,dI j]) [dI ek,dI ea,dI eb,.s (dL ew),.s (Ja bs),dI q]∧p≤q∧q≤p+100∧ew.length≤3:=by
 have key : ∃ ds,Ev L f_ks ([.s (Ja bs),dI p]++w.cells++[dI k,dI j]) ds∧Evt bs p ds:=by
  refine JuY (vs:=[.l (Ja bs),.i p,.i w.p.n,.l (Jd w.p.acts),.l (dL w.p.gives),.l (dL w.p.start),.l (dSt w.sites),.b w.c.up,.i w.c.round,.l (dL w.c.base),.l (dDs w.c.done),.l (dCs w.c.wants),.l (dGs w.c.got),.l (dCn w.cons),.l (dMs w.net),.l (dLg w.log),.i k,.i j]) L_ks rfl ?_;have hn:=JZ h.pln;have hg:=Qa h.pln;have hsl:=h.sl;have hnl:=h.nl;have hml:=h.ml;have hac:=Ya (XN h.pln);have eC:i64.wrap (((dCn w.cons).length:Int)+1)=(w.cons.length:Int)+1:=by rw[QA,w64 (by omega) (by omega)]
  have eS:i64.wrap (((dSt w.sites).length:Int)+1)=(w.sites.length:Int)+1:=by rw[Qe,w64 (by omega) (by omega)]
  have hC1:1≤i64.wrap (((dCn w.cons).length:Int)+1):=by omega
  have hC2:i64.wrap (((dCn w.cons).length:Int)+1)≤2000000:=by omega
  have hS1:1≤i64.wrap (((dSt w.sites).length:Int)+1):=by omega
  have hS2:i64.wrap (((dSt w.sites).length:Int)+1)≤2000000:=by omega
  have hc1:1≤((dCn w.cons).length:Int):=by rw[QA];omega
  have hc2:((dCn w.cons).length:Int)≤2000000:=by rw[QA];omega
  have hs1:1≤((dSt w.sites).length:Int):=by rw[Qe];omega
  have hs2:((dSt w.sites).length:Int)≤2000000:=by rw[Qe];omega
  have hA1:1≤((Jd w.p.acts).length:Int):=by rw[JR];omega
  have hA2:((Jd w.p.acts).length:Int)≤2000000:=by rw[JR];omega
  have hm2:((dMs w.net).length:Int)≤2000000:=by rw[Xr];omega
  have e1:i64.wrap (((dMs w.net).length:Int)-1)=(w.net.length:Int)-1:=by rw[Xr,w64 (by omega) (by omega)]
  have h01:1≤i64.wrap ((0:Int)+1):=by rw[w64 (by omega) (by omega)];omega
  have h02:i64.wrap ((0:Int)+1)≤2000000:=by rw[w64 (by omega) (by omega)];omega
  refine JuB (i64.wrap (((dMs w.net).length:Int)-1)<0) rfl (fun _=>?_) (fun hl=>?_)
  ·refine Jux (fun _=>?_) (fun _=>?_)
   ·exact Jun ⟨_,_,_,[],p,rfl,by omega,by omega,by simp⟩
   iterate 8
    refine Jux (fun _=>?_) (fun _=>?_)
    ·exact Je _ (hr.go (q:=p) (by omega) (by omega)) h01 h02 rfl rfl fun u1 _ _=>Jun ⟨_,_,_,[],p+1,rfl,by omega,by omega,by simp⟩
   refine Jux (fun _=>?_) (fun _=>?_)
   ·refine Jux (fun _=>Jun ⟨_,_,_,[],p,rfl,by omega,by omega,by simp⟩) (fun _=>?_);exact Je _ (hr.go (q:=p) (by omega) (by omega)) hs1 hs2 rfl rfl fun u1 _ _=>Jun ⟨_,_,_,[],p+1,rfl,by omega,by omega,by simp⟩
   refine Jux (fun _=>?_) (fun _=>?_)
   ·refine Jux (fun _=>Jun ⟨_,_,_,[],p,rfl,by omega,by omega,by simp⟩) (fun _=>?_);exact Je _ (hr.go (q:=p) (by omega) (by omega)) hs1 hs2 rfl rfl fun u1 _ _=>Jun ⟨_,_,_,[],p+1,rfl,by omega,by omega,by simp⟩
   refine Jux (fun _=>?_) (fun _=>?_)
   ·exact Je _ (hr.go (q:=p) (by omega) (by omega)) hc1 hc2 rfl rfl fun u1 _ _=>Jun ⟨_,_,_,[],p+1,rfl,by omega,by omega,by simp⟩
   exact Jun ⟨_,_,_,[],p,rfl,by omega,by omega,by simp⟩
  ·have hl1:1≤i64.wrap (i64.wrap (((dMs w.net).length:Int)-1)+1):=by rw[e1] at hl ⊢;rw[w64 (by omega) (by omega)];omega
   have hl2:i64.wrap (i64.wrap (((dMs w.net).length:Int)-1)+1)≤2000000:=by rw[e1,w64 (by omega) (by omega)];omega
   refine Jux (fun _=>?_) (fun _=>?_)
   ·exact Jun ⟨_,_,_,[],p,rfl,by omega,by omega,by simp⟩
   iterate 8
    refine Jux (fun _=>?_) (fun _=>?_)
    ·exact Je _ (hr.go (q:=p) (by omega) (by omega)) hl1 hl2 rfl rfl fun u1 _ _=>Jun ⟨_,_,_,[],p+1,rfl,by omega,by omega,by simp⟩
   refine Jux (fun _=>?_) (fun _=>?_)
   ·refine Jux (fun _=>Jun ⟨_,_,_,[],p,rfl,by omega,by omega,by simp⟩) (fun _=>?_);exact Je _ (hr.go (q:=p) (by omega) (by omega)) hs1 hs2 rfl rfl fun u1 _ _=>Jun ⟨_,_,_,[],p+1,rfl,by omega,by omega,by simp⟩
   refine Jux (fun _=>?_) (fun _=>?_)
   ·refine Jux (fun _=>Jun ⟨_,_,_,[],p,rfl,by omega,by omega,by simp⟩) (fun _=>?_);exact Je _ (hr.go (q:=p) (by omega) (by omega)) hs1 hs2 rfl rfl fun u1 _ _=>Jun ⟨_,_,_,[],p+1,rfl,by omega,by omega,by simp⟩
   refine Jux (fun _=>?_) (fun _=>?_)
   ·exact Je _ (hr.go (q:=p) (by omega) (by omega)) hc1 hc2 rfl rfl fun u1 _ _=>Jun ⟨_,_,_,[],p+1,rfl,by omega,by omega,by simp⟩
   exact Jun ⟨_,_,_,[],p,rfl,by omega,by omega,by simp⟩
 obtain⟨ds,e,ek,ea,eb,ew,q,rfl,h⟩:=key;exact⟨ek,ea,eb,ew,q,e,h⟩
theorem JaG {bs:List Int} {p:Int} (w:Wrl) (k:Int) (hr:Rdr bs p) (hf:p≤999999990000) (h:OkW w) :
  ∃ (ek ea eb:Int) (ew:List Int) (q:Int),Ev L f_kt ([.s (Ja bs),dI p]++w.cells++[dI k]) [dI ek,dI ea,dI eb,.s (dL ew),.s (Ja bs),dI q]∧p≤q∧q≤p+100∧ew.length≤3:=by
 have key : ∃ ds,Ev L f_kt ([.s (Ja bs),dI p]++w.cells++[dI k]) ds∧Evt bs p ds:=by
  refine JuY (vs:=[.l (Ja bs),.i p,.i w.p.n,.l (Jd w.p.acts),.l (dL w.p.gives),.l (dL w.p.start),.l (dSt w.sites),.b w.c.up,.i w.c.round,.l (dL w.c.base),.l (dDs w.c.done),.l (dCs w.c.wants),.l (dGs w.c.got),.l (dCn w.cons),.l (dMs w.net),.l (dLg w.log),.i k]) L_kt rfl ?_;have hn:=JZ h.pln;have hg:=Qa h.pln;have hsl:=h.sl;have hnl:=h.nl;have hml:=h.ml;have hac:=Ya (XN h.pln);have eC:i64.wrap (((dCn w.cons).length:Int)+1)=(w.cons.length:Int)+1:=by rw[QA,w64 (by omega) (by omega)]
  have eS:i64.wrap (((dSt w.sites).length:Int)+1)=(w.sites.length:Int)+1:=by rw[Qe,w64 (by omega) (by omega)]
  have hC1:1≤i64.wrap (((dCn w.cons).length:Int)+1):=by omega
  have hC2:i64.wrap (((dCn w.cons).length:Int)+1)≤2000000:=by omega
  have hS1:1≤i64.wrap (((dSt w.sites).length:Int)+1):=by omega
  have hS2:i64.wrap (((dSt w.sites).length:Int)+1)≤2000000:=by omega
  have hc1:1≤((dCn w.cons).length:Int):=by rw[QA];omega
  have hc2:((dCn w.cons).length:Int)≤2000000:=by rw[QA];omega
  have hs1:1≤((dSt w.sites).length:Int):=by rw[Qe];omega
  have hs2:((dSt w.sites).length:Int)≤2000000:=by rw[Qe];omega
  have hA1:1≤((Jd w.p.acts).length:Int):=by rw[JR];omega
  have hA2:((Jd w.p.acts).length:Int)≤2000000:=by rw[JR];omega
  have hm2:((dMs w.net).length:Int)≤2000000:=by rw[Xr];omega
  refine Je _ (hr.go (q:=p) (by omega) (by omega)) hc1 hc2 rfl rfl fun c hc0 hcl=>?_;simp only[sC,sN];rw[QA] at hcl;refine Juo rfl ?_
  iterate 2
   refine Jux (fun _=>?_) (fun _=>?_)
   ·refine Je _ (hr.go (q:=p+1) (by omega) (by omega)) hA1 hA2 rfl rfl fun u2 _ _=>?_;simp only[sC,sN];obtain⟨a,o,ea,o1,o2,o3⟩:=XK (hr.go (q:=p+1+1) (by omega) (by omega)) (by omega) (n:=99) (by omega) (by omega);exact Jup (vs:=[.l (dL a),.l (Ja bs),.i o]) ea rfl rfl rfl (Jun ⟨_,_,_,a,o,rfl,by omega,by omega,o3⟩)
  iterate 3
   refine Jux (fun _=>?_) (fun _=>?_)
   ·refine Jul w.cons.length (fun i vs=>∃ c:Int,vs=[.i c,.i i]∧0≤c∧c<w.cons.length) rfl ⟨c,rfl,hc0,hcl⟩ ?_;rintro i vs hi ⟨c,rfl,c0,c1⟩;simp only[sC,sN];refine JuG i (QA w.cons) rfl (fun h'=>?_) (fun h'=>Juk (Jun ⟨_,_,_,[],p+1,rfl,by omega,by omega,by simp⟩));obtain⟨x,hx,hxm⟩:=sA1 (l:=w.cons) (i:=c.toNat) (by omega);refine Juz (ds:=dCn w.cons) (d:=x.g) (vs:=[.i x.seq,.b x.busy,.i x.call.client,.i x.call.seq,.i x.call.act,.l (dL x.call.args),.i x.code,.l (dL x.tells)]) c rfl rfl rfl c0 (mA1 (f:=Con.g) hx) rfl ?_;simp only[sC,sN];refine Jux (fun _=>?_) (fun _=>Juk (Jun ⟨_,_,_,[],p+1,rfl,by omega,by omega,by simp⟩));have ew:i64.wrap (c+1)=c+1:=w64 (by omega) (by omega);refine Juo (by show (!decide (((dCn w.cons).length:Int)=0))=true;rw[QA,Bool.not_eq_true',decide_eq_false_iff_not];omega) ?_;refine JuC (vs:=[.i (Int.tmod (c+1) w.cons.length),.i ((i+1:Nat):Int)]) ?_ ⟨h',_,rfl,Int.tmod_nonneg _ (by omega),Int.tmod_lt_of_pos _ (by omega)⟩;show [V.i (Int.tmod (i64.wrap (c+1)) ((dCn w.cons).length:Int)),V.i (i64.wrap ((i:Int)+1))]=_;rw[wS h' (by omega),ew,QA]
  repeat' (refine Jux (fun _=>?_) (fun _=>?_))
  all_goals exact Jun ⟨_,_,_,[],p+1,rfl,by omega,by omega,by simp⟩
 obtain⟨ds,e,ek,ea,eb,ew,q,rfl,h⟩:=key;exact⟨ek,ea,eb,ew,q,e,h⟩
theorem JhJ {bs:List Int} {p:Int} (w:Wrl) (n:Int) (hr:Rdr bs p) (hf:p≤999999000000) (hok:OkW w) (hn:n≤200) :
  ∃ (evs:List D) (w':Wrl) (q:Int),Ev L f_k2v ([.s (Ja bs),dI p]++w.cells++[dI n]) ([.s evs]++w'.cells++[.s (Ja bs),dI q])∧OkW w'∧p≤q∧q≤p+200000:=by
 have key : ∃ ds,Ev L f_k2v ([.s (Ja bs),dI p]++w.cells++[dI n]) ds∧∃ (evs:List D) (w':Wrl) (q:Int),ds=[.s evs]++w'.cells++[.s (Ja bs),dI q]∧OkW w'∧p≤q∧q≤p+200000:=by
  refine JuY (vs:=[.l (Ja bs),.i p,.i w.p.n,.l (Jd w.p.acts),.l (dL w.p.gives),.l (dL w.p.start),.l (dSt w.sites),.b w.c.up,.i w.c.round,.l (dL w.c.base),.l (dDs w.c.done),.l (dCs w.c.wants),.l (dGs w.c.got),.l (dCn w.cons),.l (dMs w.net),.l (dLg w.log),.i n]) L_k2v rfl ?_;refine Je 4 (hr.go (q:=p) (by omega) (by omega)) (by omega) (by omega) rfl rfl fun sty _ _=>?_;simp only[sC,sN];refine JuQ (fun m vs=>∃ (evs:List D) (st wh k:Int) (w:Wrl) (q:Int),vs=[.l evs,.i st,.i wh,.i k,.l (dLg w.log),.l (dMs w.net),.l (dCn w.cons),.l (dGs w.c.got),.l (dCs w.c.wants),.l (dDs w.c.done),.l (dL w.c.base),.i w.c.round,.b w.c.up,.l (dSt w.sites),.l (dL w.p.start),.l (dL w.p.gives),.l (Jd w.p.acts),.i w.p.n,.i q,.l (Ja bs)]∧OkW w∧0≤k∧p≤q∧q≤p+1+500*k∧(k≤n∨k=0)∧(m:Int)=(if k≤n then n-k else 0)∧(evs.length:Int)=k) rfl n.toNat ⟨[],14,0,0,w,p+1,rfl,hok,by omega,by omega,by omega,by omega,by split <;> omega,by simp⟩ ?_;rintro m _ ⟨evs,st,wh,k,w,q,rfl,hok,k0,q1,q2,hkn,hm,hev⟩;simp only[sC,sN];refine JuB (k<n) rfl (fun hlt=>?_) (fun _=>Juk (Jun ⟨evs,w,q,rfl,hok,by omega,by omega⟩));rw[if_pos (by omega)] at hm;have hk1:i64.wrap (k+1)=k+1:=w64 (by omega) (by omega);refine Jux (fun _=>?_) (fun _=>Juk (Jun ⟨evs,w,q,rfl,hok,by omega,by omega⟩));obtain⟨xk,xa,xb,xw,xq,xe,x1,x2,x3⟩:=Jio w (hr.go (q:=q) (by omega) (by omega)) (by omega) hok;refine Jup (vs:=[.i xk,.i xa,.i xb,.l (dL xw),.l (Ja bs),.i xq]) xe rfl rfl rfl ?_;simp only[sC,sN];refine JuB (st<14) rfl (fun _=>?_) (fun _=>?_)
  ·obtain⟨yk,ya,yb,yw,yq,ye,y1,y2,y3⟩:=Jb3 w st wh (hr.go (q:=xq) (by omega) (by omega)) (by omega) hok;refine Jup (vs:=[.i yk,.i ya,.i yb,.l (dL yw),.l (Ja bs),.i yq]) ye rfl rfl rfl ?_;simp only[sC,sN];refine Juv (evs++[.g [dI yk,dI ya,dI yb,.s (dL yw)]]) 1001 (by simp;omega) (by omega) rfl ?_;obtain⟨w2,hst,ok2⟩:=XX w yk ya yb yw hok (by omega);refine Jup (vs:=[.i w2.p.n,.l (Jd w2.p.acts),.l (dL w2.p.gives),.l (dL w2.p.start),.l (dSt w2.sites),.b w2.c.up,.i w2.c.round,.l (dL w2.c.base),.l (dDs w2.c.done),.l (dCs w2.c.wants),.l (dGs w2.c.got),.l (dCn w2.cons),.l (dMs w2.net),.l (dLg w2.log)]) hst rfl rfl rfl ?_;simp only[sC,sN];refine JuC (vs:=[.l (evs++[.g [dI yk,dI ya,dI yb,.s (dL yw)]]),.i (i64.wrap (st+1)),.i wh,.i (k+1),.l (dLg w2.log),.l (dMs w2.net),.l (dCn w2.cons),.l (dGs w2.c.got),.l (dCs w2.c.wants),.l (dDs w2.c.done),.l (dL w2.c.base),.i w2.c.round,.b w2.c.up,.l (dSt w2.sites),.l (dL w2.p.start),.l (dL w2.p.gives),.l (Jd w2.p.acts),.i w2.p.n,.i (yq),.l (Ja bs)]) ?_ ⟨m-1,by omega,_,_,_,k+1,w2,yq,rfl,ok2,by omega,by omega,by omega,by simp;omega⟩;rw[←hk1];rfl
  refine Jux (fun _=>?_) (fun _=>?_)
  ·refine Je 12 (hr.go (q:=xq) (by omega) (by omega)) (by omega) (by omega) rfl rfl fun u1 _ _=>?_;simp only[sC,sN];refine Jux (fun _=>?_) (fun _=>?_)
   ·refine Je 2 (hr.go (q:=xq+1) (by omega) (by omega)) (by omega) (by omega) rfl rfl fun u2 _ _=>?_;simp only[sC,sN];obtain⟨yk,ya,yb,yw,yq,ye,y1,y2,y3⟩:=Jb3 w 0 u2 (hr.go (q:=xq+1+1) (by omega) (by omega)) (by omega) hok;refine Jup (vs:=[.i yk,.i ya,.i yb,.l (dL yw),.l (Ja bs),.i yq]) ye rfl rfl rfl ?_;simp only[sC,sN];refine Juv (evs++[.g [dI yk,dI ya,dI yb,.s (dL yw)]]) 1001 (by simp;omega) (by omega) rfl ?_;obtain⟨w2,hst,ok2⟩:=XX w yk ya yb yw hok (by omega);refine Jup (vs:=[.i w2.p.n,.l (Jd w2.p.acts),.l (dL w2.p.gives),.l (dL w2.p.start),.l (dSt w2.sites),.b w2.c.up,.i w2.c.round,.l (dL w2.c.base),.l (dDs w2.c.done),.l (dCs w2.c.wants),.l (dGs w2.c.got),.l (dCn w2.cons),.l (dMs w2.net),.l (dLg w2.log)]) hst rfl rfl rfl ?_;simp only[sC,sN];refine JuC (vs:=[.l (evs++[.g [dI yk,dI ya,dI yb,.s (dL yw)]]),.i 1,.i u2,.i (k+1),.l (dLg w2.log),.l (dMs w2.net),.l (dCn w2.cons),.l (dGs w2.c.got),.l (dCs w2.c.wants),.l (dDs w2.c.done),.l (dL w2.c.base),.i w2.c.round,.b w2.c.up,.l (dSt w2.sites),.l (dL w2.p.start),.l (dL w2.p.gives),.l (Jd w2.p.acts),.i w2.p.n,.i (yq),.l (Ja bs)]) ?_ ⟨m-1,by omega,_,_,_,k+1,w2,yq,rfl,ok2,by omega,by omega,by omega,by simp;omega⟩;rw[←hk1];rfl
   refine Jux (fun _=>?_) (fun _=>?_)
   ·refine Je 8 (hr.go (q:=xq+1) (by omega) (by omega)) (by omega) (by omega) rfl rfl fun u3 _ _=>?_;simp only[sC,sN];refine Jux (fun _=>?_) (fun _=>?_)
    ·obtain⟨yk,ya,yb,yw,yq,ye,y1,y2,y3⟩:=JaG w k (hr.go (q:=xq+1+1) (by omega) (by omega)) (by omega) hok;refine Jup (vs:=[.i yk,.i ya,.i yb,.l (dL yw),.l (Ja bs),.i yq]) ye rfl rfl rfl ?_;simp only[sC,sN];refine Juv (evs++[.g [dI yk,dI ya,dI yb,.s (dL yw)]]) 1001 (by simp;omega) (by omega) rfl ?_;obtain⟨w2,hst,ok2⟩:=XX w yk ya yb yw hok (by omega);refine Jup (vs:=[.i w2.p.n,.l (Jd w2.p.acts),.l (dL w2.p.gives),.l (dL w2.p.start),.l (dSt w2.sites),.b w2.c.up,.i w2.c.round,.l (dL w2.c.base),.l (dDs w2.c.done),.l (dCs w2.c.wants),.l (dGs w2.c.got),.l (dCn w2.cons),.l (dMs w2.net),.l (dLg w2.log)]) hst rfl rfl rfl ?_;simp only[sC,sN];refine JuC (vs:=[.l (evs++[.g [dI yk,dI ya,dI yb,.s (dL yw)]]),.i st,.i wh,.i (k+1),.l (dLg w2.log),.l (dMs w2.net),.l (dCn w2.cons),.l (dGs w2.c.got),.l (dCs w2.c.wants),.l (dDs w2.c.done),.l (dL w2.c.base),.i w2.c.round,.b w2.c.up,.l (dSt w2.sites),.l (dL w2.p.start),.l (dL w2.p.gives),.l (Jd w2.p.acts),.i w2.p.n,.i (yq),.l (Ja bs)]) ?_ ⟨m-1,by omega,_,_,_,k+1,w2,yq,rfl,ok2,by omega,by omega,by omega,by simp;omega⟩;rw[←hk1];rfl
    ·refine Juv (evs++[.g [dI xk,dI xa,dI xb,.s (dL xw)]]) 1001 (by simp;omega) (by omega) rfl ?_;obtain⟨w2,hst,ok2⟩:=XX w xk xa xb xw hok (by omega);refine Jup (vs:=[.i w2.p.n,.l (Jd w2.p.acts),.l (dL w2.p.gives),.l (dL w2.p.start),.l (dSt w2.sites),.b w2.c.up,.i w2.c.round,.l (dL w2.c.base),.l (dDs w2.c.done),.l (dCs w2.c.wants),.l (dGs w2.c.got),.l (dCn w2.cons),.l (dMs w2.net),.l (dLg w2.log)]) hst rfl rfl rfl ?_;simp only[sC,sN];refine JuC (vs:=[.l (evs++[.g [dI xk,dI xa,dI xb,.s (dL xw)]]),.i st,.i wh,.i (k+1),.l (dLg w2.log),.l (dMs w2.net),.l (dCn w2.cons),.l (dGs w2.c.got),.l (dCs w2.c.wants),.l (dDs w2.c.done),.l (dL w2.c.base),.i w2.c.round,.b w2.c.up,.l (dSt w2.sites),.l (dL w2.p.start),.l (dL w2.p.gives),.l (Jd w2.p.acts),.i w2.p.n,.i (xq+1+1),.l (Ja bs)]) ?_ ⟨m-1,by omega,_,_,_,k+1,w2,xq+1+1,rfl,ok2,by omega,by omega,by omega,by simp;omega⟩;rw[←hk1];rfl
   ·refine Juv (evs++[.g [dI xk,dI xa,dI xb,.s (dL xw)]]) 1001 (by simp;omega) (by omega) rfl ?_;obtain⟨w2,hst,ok2⟩:=XX w xk xa xb xw hok (by omega);refine Jup (vs:=[.i w2.p.n,.l (Jd w2.p.acts),.l (dL w2.p.gives),.l (dL w2.p.start),.l (dSt w2.sites),.b w2.c.up,.i w2.c.round,.l (dL w2.c.base),.l (dDs w2.c.done),.l (dCs w2.c.wants),.l (dGs w2.c.got),.l (dCn w2.cons),.l (dMs w2.net),.l (dLg w2.log)]) hst rfl rfl rfl ?_;simp only[sC,sN];refine JuC (vs:=[.l (evs++[.g [dI xk,dI xa,dI xb,.s (dL xw)]]),.i st,.i wh,.i (k+1),.l (dLg w2.log),.l (dMs w2.net),.l (dCn w2.cons),.l (dGs w2.c.got),.l (dCs w2.c.wants),.l (dDs w2.c.done),.l (dL w2.c.base),.i w2.c.round,.b w2.c.up,.l (dSt w2.sites),.l (dL w2.p.start),.l (dL w2.p.gives),.l (Jd w2.p.acts),.i w2.p.n,.i (xq+1),.l (Ja bs)]) ?_ ⟨m-1,by omega,_,_,_,k+1,w2,xq+1,rfl,ok2,by omega,by omega,by omega,by simp;omega⟩;rw[←hk1];rfl
  ·refine Jux (fun _=>?_) (fun _=>?_)
   ·refine Je 8 (hr.go (q:=xq) (by omega) (by omega)) (by omega) (by omega) rfl rfl fun u3 _ _=>?_;simp only[sC,sN];refine Jux (fun _=>?_) (fun _=>?_)
    ·obtain⟨yk,ya,yb,yw,yq,ye,y1,y2,y3⟩:=JaG w k (hr.go (q:=xq+1) (by omega) (by omega)) (by omega) hok;refine Jup (vs:=[.i yk,.i ya,.i yb,.l (dL yw),.l (Ja bs),.i yq]) ye rfl rfl rfl ?_;simp only[sC,sN];refine Juv (evs++[.g [dI yk,dI ya,dI yb,.s (dL yw)]]) 1001 (by simp;omega) (by omega) rfl ?_;obtain⟨w2,hst,ok2⟩:=XX w yk ya yb yw hok (by omega);refine Jup (vs:=[.i w2.p.n,.l (Jd w2.p.acts),.l (dL w2.p.gives),.l (dL w2.p.start),.l (dSt w2.sites),.b w2.c.up,.i w2.c.round,.l (dL w2.c.base),.l (dDs w2.c.done),.l (dCs w2.c.wants),.l (dGs w2.c.got),.l (dCn w2.cons),.l (dMs w2.net),.l (dLg w2.log)]) hst rfl rfl rfl ?_;simp only[sC,sN];refine JuC (vs:=[.l (evs++[.g [dI yk,dI ya,dI yb,.s (dL yw)]]),.i st,.i wh,.i (k+1),.l (dLg w2.log),.l (dMs w2.net),.l (dCn w2.cons),.l (dGs w2.c.got),.l (dCs w2.c.wants),.l (dDs w2.c.done),.l (dL w2.c.base),.i w2.c.round,.b w2.c.up,.l (dSt w2.sites),.l (dL w2.p.start),.l (dL w2.p.gives),.l (Jd w2.p.acts),.i w2.p.n,.i (yq),.l (Ja bs)]) ?_ ⟨m-1,by omega,_,_,_,k+1,w2,yq,rfl,ok2,by omega,by omega,by omega,by simp;omega⟩;rw[←hk1];rfl
    ·refine Juv (evs++[.g [dI xk,dI xa,dI xb,.s (dL xw)]]) 1001 (by simp;omega) (by omega) rfl ?_;obtain⟨w2,hst,ok2⟩:=XX w xk xa xb xw hok (by omega);refine Jup (vs:=[.i w2.p.n,.l (Jd w2.p.acts),.l (dL w2.p.gives),.l (dL w2.p.start),.l (dSt w2.sites),.b w2.c.up,.i w2.c.round,.l (dL w2.c.base),.l (dDs w2.c.done),.l (dCs w2.c.wants),.l (dGs w2.c.got),.l (dCn w2.cons),.l (dMs w2.net),.l (dLg w2.log)]) hst rfl rfl rfl ?_;simp only[sC,sN];refine JuC (vs:=[.l (evs++[.g [dI xk,dI xa,dI xb,.s (dL xw)]]),.i st,.i wh,.i (k+1),.l (dLg w2.log),.l (dMs w2.net),.l (dCn w2.cons),.l (dGs w2.c.got),.l (dCs w2.c.wants),.l (dDs w2.c.done),.l (dL w2.c.base),.i w2.c.round,.b w2.c.up,.l (dSt w2.sites),.l (dL w2.p.start),.l (dL w2.p.gives),.l (Jd w2.p.acts),.i w2.p.n,.i (xq+1),.l (Ja bs)]) ?_ ⟨m-1,by omega,_,_,_,k+1,w2,xq+1,rfl,ok2,by omega,by omega,by omega,by simp;omega⟩;rw[←hk1];rfl
   ·refine Juv (evs++[.g [dI xk,dI xa,dI xb,.s (dL xw)]]) 1001 (by simp;omega) (by omega) rfl ?_;obtain⟨w2,hst,ok2⟩:=XX w xk xa xb xw hok (by omega);refine Jup (vs:=[.i w2.p.n,.l (Jd w2.p.acts),.l (dL w2.p.gives),.l (dL w2.p.start),.l (dSt w2.sites),.b w2.c.up,.i w2.c.round,.l (dL w2.c.base),.l (dDs w2.c.done),.l (dCs w2.c.wants),.l (dGs w2.c.got),.l (dCn w2.cons),.l (dMs w2.net),.l (dLg w2.log)]) hst rfl rfl rfl ?_;simp only[sC,sN];refine JuC (vs:=[.l (evs++[.g [dI xk,dI xa,dI xb,.s (dL xw)]]),.i st,.i wh,.i (k+1),.l (dLg w2.log),.l (dMs w2.net),.l (dCn w2.cons),.l (dGs w2.c.got),.l (dCs w2.c.wants),.l (dDs w2.c.done),.l (dL w2.c.base),.i w2.c.round,.b w2.c.up,.l (dSt w2.sites),.l (dL w2.p.start),.l (dL w2.p.gives),.l (Jd w2.p.acts),.i w2.p.n,.i (xq),.l (Ja bs)]) ?_ ⟨m-1,by omega,_,_,_,k+1,w2,xq,rfl,ok2,by omega,by omega,by omega,by simp;omega⟩;rw[←hk1];rfl
 obtain⟨ds,e,evs,w',q,rfl,h⟩:=key;exact⟨evs,w',q,e,h⟩
theorem Jh1 {bs:List Int} {p:Int} (hr:Rdr bs p) (hf:p≤999998000000) :
  ∃ (w:Wrl) (q:Int),Ev L f_k2w [.s (Ja bs),dI p] (w.cells++[.s (Ja bs),dI q])∧OkW w∧p≤q∧q≤p+300000:=by
 have key : ∃ ds,Ev L f_k2w [.s (Ja bs),dI p] ds∧∃ (w:Wrl) (q:Int),ds=w.cells++[.s (Ja bs),dI q]∧OkW w∧p≤q∧q≤p+300000:=by
  refine JuY (vs:=[.l (Ja bs),.i p]) L_k2w rfl ?_;obtain⟨l,q,he,q1,q2,_,_,_,hl⟩:=Jdy hr (by omega);refine Jup (vs:=[.i l.n,.l (Jd l.acts),.l (dL l.gives),.l (dL l.start),.l (Ja bs),.i q]) he rfl rfl rfl ?_;simp only[sC,sN];have hw:=JmK hl;have hev:=Jmv l hl;generalize YU l=w at *;refine Jup (vs:=[.i w.p.n,.l (Jd w.p.acts),.l (dL w.p.gives),.l (dL w.p.start),.l (dSt w.sites),.b w.c.up,.i w.c.round,.l (dL w.c.base),.l (dDs w.c.done),.l (dCs w.c.wants),.l (dGs w.c.got),.l (dCn w.cons),.l (dMs w.net),.l (dLg w.log)]) hev rfl rfl rfl ?_;simp only[sC,sN];refine Je 50 (hr.go (q:=q) (by omega) (by omega)) (by omega) (by omega) rfl rfl fun u hu0 hu1=>?_;simp only[sC,sN];refine Je 5 (hr.go (q:=q+1) (by omega) (by omega)) (by omega) (by omega) rfl rfl fun v hv0 hv1=>?_;simp only[sC,sN];refine JuE (0≤v) rfl hv0 (JuE (v<5) rfl hv1 ?_);have hn:([0,10,20,35,u]:List Int).getD v.toNat 0≤200:=by rcases (by omega:v=0∨v=1∨v=2∨v=3∨v=4) with q | q | q | q | q <;> subst q <;> simp <;> omega
  refine Juz (ds:=dL [0,10,20,35,u]) v rfl rfl rfl hv0 (J1 hv0 hv1) rfl ?_;simp only[sC,sN];generalize ([0,10,20,35,u]:List Int).getD v.toNat 0=n at *;obtain⟨evs,w2,o,e,hok,o1,o2⟩:=JhJ w n (hr.go (q:=q+1+1) (by omega) (by omega)) (by omega) hw hn;exact Jup (vs:=[.l evs,.i w2.p.n,.l (Jd w2.p.acts),.l (dL w2.p.gives),.l (dL w2.p.start),.l (dSt w2.sites),.b w2.c.up,.i w2.c.round,.l (dL w2.c.base),.l (dDs w2.c.done),.l (dCs w2.c.wants),.l (dGs w2.c.got),.l (dCn w2.cons),.l (dMs w2.net),.l (dLg w2.log),.l (Ja bs),.i o]) e rfl rfl rfl (Jun ⟨w2,o,rfl,hok,by omega,by omega⟩)
 obtain⟨ds,e,w,q,rfl,h⟩:=key;exact⟨w,q,e,h⟩
end Go.Proofs.YtngcnclchcahlabGreatDoor

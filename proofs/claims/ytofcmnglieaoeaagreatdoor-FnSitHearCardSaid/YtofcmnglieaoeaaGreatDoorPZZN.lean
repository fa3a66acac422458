import Derived.Test.YtofcmnglieaoeaaGreatDoorPZZM
set_option linter.unusedVariables false
set_option linter.unusedSimpArgs false
/- What sites hear: over residual programs. -/
namespace Go.Proofs.YtofcmnglieaoeaaGreatDoor
open Go Go.Tm
open Go.IntKind (i64)
theorem JmM {p:Pln} {x:Msg} (hp:JC p=true) (h:Jv p x=true):x.seqs.length≤1000∧x.done.length≤1000:=by
 have hn:=J1 hp;have hi:=KH hp h;unfold Jv at h;rw[Jus] at h;obtain⟨_,h⟩:=h;split at h
 ·simp only[Jus] at h;have hb:=Kt h.2.2.2.2;exact⟨by have:=hb.2.2.1 rfl;omega,by have:=hb.2.2.2 rfl;omega⟩
 split at h
 ·simp only[Jus] at h;have hb:=Kt h.2.2;exact⟨by have:=hb.2.2.1 rfl;omega,by have:=hb.2.2.2 rfl;omega⟩
 split at h
 ·simp only[Jus] at h;have hb:=Kt h.2.2.2.2;have:=(Z0.1 h.2.2.2.1).1;exact⟨by omega,by have:=hb.2.2.2 rfl;omega⟩
 split at h
 ·simp only[Jus] at h;have hb:=Kt h.2.2.2.2;have:=(JA.1 h.2.2.2.1).1;exact⟨by have:=hb.2.2.1 rfl;omega,by omega⟩
 ·cases h
theorem Jqi (c:Clk) (k:Int) (hc:KM c):Ev L f_k2m (c.cells++[dI k]) [dI 4,dI k,dI 0,dI c.round,dI 0,dI 0,dI 0,.s (dL []),.s (dL c.base),.s (dL []),.s (dDs c.done)]:=by
 refine Juq (vs:=[.b c.up,.i c.round,.l (dL c.base),.l (dDs c.done),.l (dCs c.wants),.l (dGs c.got),.i k]) L_k2m rfl ?_;have h1:=hc.b;refine JtV (dL c.base) 2000000 (by rw[dL1];omega) (by omega) rfl ?_;refine Jt0 (JR c.base) ?_;refine JtV (dL c.base) 2000000 (by rw[dL1];omega) (by omega) rfl ?_;exact Jua (vs:=[.l (dDs c.done)]) (Yf c.done ⟨hc.d,hc.dt⟩) rfl rfl rfl (JtU rfl)
theorem JeB {bs:List Int} {p:Int} (w:Wrl) (hr:Rdr bs p) (hf:p≤999999970000) (hok:OkW w) :
  ∃ (m:Msg) (q:Int),Ev L f_k37 ([.s (Ja bs),dI p]++w.cells) (m.cells++[.s (Ja bs),dI q])∧p≤q∧q≤p+100∧Qp m∧m.seqs.length≤1000∧m.done.length≤1000:=by
 have key : ∃ ds,Ev L f_k37 ([.s (Ja bs),dI p]++w.cells) ds∧∃ (m:Msg) (q:Int),ds=m.cells++[.s (Ja bs),dI q]∧p≤q∧q≤p+100∧Qp m∧m.seqs.length≤1000∧m.done.length≤1000:=by
  refine Juo (vs:=[.l (Ja bs),.i p,.i w.p.n,.l (Je w.p.acts),.l (dL w.p.gives),.l (dL w.p.start),.l (dSt w.sites),.b w.c.up,.i w.c.round,.l (dL w.c.base),.l (dDs w.c.done),.l (dCs w.c.wants),.l (dGs w.c.got),.l (dCn w.cons),.l (dMs w.net),.l (dLg w.log)]) L_k37 rfl ?_;have hn:=J1 hok.pln;have hg:=Qo hok.pln;have hsl:=hok.sl;have hml:=hok.ml;have hs1:1≤((dSt w.sites).length:Int):=by rw[J9];omega
  have hs2:((dSt w.sites).length:Int)≤2000000:=by rw[J9];omega
  have hm2:((dMs w.net).length:Int)≤2000000:=by rw[JP];omega
  refine Jue (0<((dMs w.net).length:Int)) rfl (fun hm=>?_) (fun _=>?_)
  ·refine Jd 4 (hr.go (q:=p) (by omega) (by omega)) (by omega) (by omega) rfl rfl fun v _ _=>?_;simp only[sC,sN];refine JtM (fun _=>?_) (fun _=>?_)
   ·refine Jd _ (hr.go (q:=p+1) (by omega) (by omega)) hm hm2 rfl rfl fun k k0 k1=>?_;simp only[sC,sN];rw[JP] at k1;obtain⟨m,hm3,hmm⟩:=sA1 (l:=w.net) (i:=k.toNat) (by omega);have hmo:=hok.net m hmm;have hsm:=JmM hok.pln hmo;refine Jt5 (ds:=dMs w.net) (d:=m.g) (vs:=[.i m.kind,.i m.to,.i m.frm,.i m.round,.i m.call.client,.i m.call.seq,.i m.call.act,.l (dL m.call.args),.l (dL m.vals),.l (dL m.seqs),.l (dDs m.done)]) k rfl rfl rfl k0 (mA1 (f:=Msg.g) hm3) rfl ?_;exact JtU ⟨m,p+1+1,rfl,by omega,by omega,(KH hok.pln hmo).fit,hsm.1,hsm.2⟩
   ·refine Jd _ (hr.go (q:=p+1) (by omega) (by omega)) hs1 hs2 rfl rfl fun k k0 k1=>?_;simp only[sC,sN];rw[J9] at k1;refine Jd 4 (hr.go (q:=p+1+1) (by omega) (by omega)) (by omega) (by omega) rfl rfl fun u _ _=>?_;simp only[sC,sN];obtain⟨s,hs,hsm⟩:=sA1 (l:=w.sites) (i:=k.toNat) (by omega);have hso:=hok.sites _ s hs;have hsf:=Kq hok.pln hso;have hsd:=(JA.1 (Qf.1 hso).2.2.2).1;refine JtM (fun _=>?_) (fun _=>?_)
    ·obtain⟨x,o,e,x1,x2,x3⟩:=W3 w.p (n:=16) (hr.go (q:=p+1+1+1) (by omega) (by omega)) (by omega) (Yn hok.pln) (by omega) (by omega);exact Jua (vs:=[.i x.client,.i x.seq,.i x.act,.l (dL x.args),.l (Ja bs),.i o]) e rfl rfl rfl (JtU ⟨⟨1,-1,0,0,x,[],[],[]⟩,o,rfl,by omega,by omega,⟨by show x.args.length≤_;omega,by simp,by simp,by simp,fun d hd=>by simp at hd⟩,by simp,by simp⟩)
    refine JtM (fun _=>?_) (fun _=>?_)
    ·refine Jt5 (ds:=dSt w.sites) (d:=s.g) (vs:=[.b s.up,.b s.frozen,.i s.round,.l (dL s.base),.l (dL s.added),.l (dDs s.done)]) k rfl rfl rfl k0 (mA1 (f:=Sit.g) hs) rfl ?_;simp only[sC,sN];refine Jd 2 (hr.go (q:=p+1+1+1) (by omega) (by omega)) (by omega) (by omega) rfl rfl fun z _ _=>?_;simp only[sC,sN];exact JtU ⟨⟨2,_,0,_,⟨0,0,0,[]⟩,[],[],[]⟩,p+1+1+1+1,rfl,by omega,by omega,⟨by simp,by simp,by simp,by simp,fun d hd=>by simp at hd⟩,by simp,by simp⟩
    refine JtM (fun _=>?_) (fun _=>?_)
    ·refine Jt5 (ds:=dSt w.sites) (d:=s.g) (vs:=[.b s.up,.b s.frozen,.i s.round,.l (dL s.base),.l (dL s.added),.l (dDs s.done)]) k rfl rfl rfl k0 (mA1 (f:=Sit.g) hs) rfl ?_;simp only[sC,sN];refine Jua (vs:=[.i 3,.i (-1),.i k,.i s.round,.i 0,.i 0,.i 0,.l (dL []),.l (dL s.added),.l (dL (Xq s.done)),.l (dDs [])]) (WD s k hsf) rfl rfl rfl (JtU ?_);exact⟨XH s k,p+1+1+1,rfl,by omega,by omega,⟨by simp[XH],hsf.2.1,by simp only[XH,Xq,JuB];exact hsf.2.2.1,by simp[XH],fun d hd=>by simp[XH] at hd⟩,by simp only[XH,Xq,JuB];omega,by simp[XH]⟩
    have hcf:=KA hok.pln hok.clk;have hcd:=(JA.1 hok.clk.done).1;refine Jua (vs:=[.i 4,.i k,.i 0,.i w.c.round,.i 0,.i 0,.i 0,.l (dL []),.l (dL w.c.base),.l (dL []),.l (dDs w.c.done)]) (Jqi w.c k hcf) rfl rfl rfl ?_;simp only[sC,sN];refine Jd 3 (hr.go (q:=p+1+1+1) (by omega) (by omega)) (by omega) (by omega) rfl rfl fun z _ _=>?_;simp only[sC,sN];exact JtU ⟨⟨4,_,0,_,⟨0,0,0,[]⟩,w.c.base,[],w.c.done⟩,p+1+1+1+1,rfl,by omega,by omega,⟨by simp,hcf.b,by simp,hcf.d,hcf.dt⟩,by simp,by show w.c.done.length≤1000;omega⟩
  ·refine Jd _ (hr.go (q:=p) (by omega) (by omega)) hs1 hs2 rfl rfl fun k k0 k1=>?_;simp only[sC,sN];rw[J9] at k1;refine Jd 4 (hr.go (q:=p+1) (by omega) (by omega)) (by omega) (by omega) rfl rfl fun u _ _=>?_;simp only[sC,sN];obtain⟨s,hs,hsm⟩:=sA1 (l:=w.sites) (i:=k.toNat) (by omega);have hso:=hok.sites _ s hs;have hsf:=Kq hok.pln hso;have hsd:=(JA.1 (Qf.1 hso).2.2.2).1;refine JtM (fun _=>?_) (fun _=>?_)
   ·obtain⟨x,o,e,x1,x2,x3⟩:=W3 w.p (n:=16) (hr.go (q:=p+1+1) (by omega) (by omega)) (by omega) (Yn hok.pln) (by omega) (by omega);exact Jua (vs:=[.i x.client,.i x.seq,.i x.act,.l (dL x.args),.l (Ja bs),.i o]) e rfl rfl rfl (JtU ⟨⟨1,-1,0,0,x,[],[],[]⟩,o,rfl,by omega,by omega,⟨by show x.args.length≤_;omega,by simp,by simp,by simp,fun d hd=>by simp at hd⟩,by simp,by simp⟩)
   refine JtM (fun _=>?_) (fun _=>?_)
   ·refine Jt5 (ds:=dSt w.sites) (d:=s.g) (vs:=[.b s.up,.b s.frozen,.i s.round,.l (dL s.base),.l (dL s.added),.l (dDs s.done)]) k rfl rfl rfl k0 (mA1 (f:=Sit.g) hs) rfl ?_;simp only[sC,sN];refine Jd 2 (hr.go (q:=p+1+1) (by omega) (by omega)) (by omega) (by omega) rfl rfl fun z _ _=>?_;simp only[sC,sN];exact JtU ⟨⟨2,_,0,_,⟨0,0,0,[]⟩,[],[],[]⟩,p+1+1+1,rfl,by omega,by omega,⟨by simp,by simp,by simp,by simp,fun d hd=>by simp at hd⟩,by simp,by simp⟩
   refine JtM (fun _=>?_) (fun _=>?_)
   ·refine Jt5 (ds:=dSt w.sites) (d:=s.g) (vs:=[.b s.up,.b s.frozen,.i s.round,.l (dL s.base),.l (dL s.added),.l (dDs s.done)]) k rfl rfl rfl k0 (mA1 (f:=Sit.g) hs) rfl ?_;simp only[sC,sN];refine Jua (vs:=[.i 3,.i (-1),.i k,.i s.round,.i 0,.i 0,.i 0,.l (dL []),.l (dL s.added),.l (dL (Xq s.done)),.l (dDs [])]) (WD s k hsf) rfl rfl rfl (JtU ?_);exact⟨XH s k,p+1+1,rfl,by omega,by omega,⟨by simp[XH],hsf.2.1,by simp only[XH,Xq,JuB];exact hsf.2.2.1,by simp[XH],fun d hd=>by simp[XH] at hd⟩,by simp only[XH,Xq,JuB];omega,by simp[XH]⟩
   have hcf:=KA hok.pln hok.clk;have hcd:=(JA.1 hok.clk.done).1;refine Jua (vs:=[.i 4,.i k,.i 0,.i w.c.round,.i 0,.i 0,.i 0,.l (dL []),.l (dL w.c.base),.l (dL []),.l (dDs w.c.done)]) (Jqi w.c k hcf) rfl rfl rfl ?_;simp only[sC,sN];refine Jd 3 (hr.go (q:=p+1+1) (by omega) (by omega)) (by omega) (by omega) rfl rfl fun z _ _=>?_;simp only[sC,sN];exact JtU ⟨⟨4,_,0,_,⟨0,0,0,[]⟩,w.c.base,[],w.c.done⟩,p+1+1+1,rfl,by omega,by omega,⟨by simp,hcf.b,by simp,hcf.d,hcf.dt⟩,by simp,by show w.c.done.length≤1000;omega⟩
 obtain⟨ds,e,m,q,rfl,h⟩:=key;exact⟨m,q,e,h⟩
theorem Jbe {bs:List Int} {p:Int} (w:Wrl) (m:Msg) (hr:Rdr bs p) (hf:p≤999999970000) (hok:OkW w) (hm:Qp m) (hq:m.seqs.length≤1000) (hdn:m.done.length≤1000) :
  ∃ (m':Msg) (q:Int),Ev L f_k38 ([.s (Ja bs),dI p]++w.cells++m.cells) (m'.cells++[.s (Ja bs),dI q])∧Qp m':=by
 have key : ∃ ds,Ev L f_k38 ([.s (Ja bs),dI p]++w.cells++m.cells) ds∧∃ (m':Msg) (q:Int),ds=m'.cells++[.s (Ja bs),dI q]∧Qp m':=by
  refine Juo (vs:=[.l (Ja bs),.i p,.i w.p.n,.l (Je w.p.acts),.l (dL w.p.gives),.l (dL w.p.start),.l (dSt w.sites),.b w.c.up,.i w.c.round,.l (dL w.c.base),.l (dDs w.c.done),.l (dCs w.c.wants),.l (dGs w.c.got),.l (dCn w.cons),.l (dMs w.net),.l (dLg w.log),.i m.kind,.i m.to,.i m.frm,.i m.round,.i m.call.client,.i m.call.seq,.i m.call.act,.l (dL m.call.args),.l (dL m.vals),.l (dL m.seqs),.l (dDs m.done)]) L_k38 rfl ?_;refine Jua (vs:=[.i m.kind,.i m.to,.i m.frm,.i m.round,.i m.call.client,.i m.call.seq,.i m.call.act,.l (dL m.call.args),.l (dL m.vals),.l (dL m.seqs),.l (dDs m.done)]) (Jbs m hm) rfl rfl rfl ?_;simp only[sC,sN];obtain⟨f1,f2,f3,f4⟩:=hm;refine Jd 8 (hr.go (q:=p) (by omega) (by omega)) (by omega) (by omega) rfl rfl fun u _ _=>?_;simp only[sC,sN];refine JtM (fun _=>?_) (fun _=>?_)
  ·refine Jd 6 (hr.go (q:=p+1) (by omega) (by omega)) (by omega) (by omega) rfl rfl fun z _ _=>?_;simp only[sC,sN];exact JtU ⟨⟨z,m.to,m.frm,m.round,m.call,m.vals,m.seqs,m.done⟩,p+1+1,rfl,f1,f2,f3,f4⟩
  refine JtM (fun _=>?_) (fun _=>?_)
  ·refine Jd 5 (hr.go (q:=p+1) (by omega) (by omega)) (by omega) (by omega) rfl rfl fun z _ _=>?_;simp only[sC,sN];exact JtU ⟨⟨m.kind,i64.wrap (z-1),m.frm,m.round,m.call,m.vals,m.seqs,m.done⟩,p+1+1,rfl,f1,f2,f3,f4⟩
  refine JtM (fun _=>?_) (fun _=>?_)
  ·refine Jd 5 (hr.go (q:=p+1) (by omega) (by omega)) (by omega) (by omega) rfl rfl fun z _ _=>?_;simp only[sC,sN];exact JtU ⟨⟨m.kind,m.to,i64.wrap (z-1),m.round,m.call,m.vals,m.seqs,m.done⟩,p+1+1,rfl,f1,f2,f3,f4⟩
  refine JtM (fun _=>?_) (fun _=>?_)
  ·refine Jd 3 (hr.go (q:=p+1) (by omega) (by omega)) (by omega) (by omega) rfl rfl fun z z0 z1=>?_;simp only[sC,sN];exact JW [-1,200,201] z z0 z1 rfl rfl rfl rfl rfl fun x=>JtU ⟨⟨m.kind,m.to,m.frm,x,m.call,m.vals,m.seqs,m.done⟩,p+1+1,rfl,f1,f2,f3,f4⟩
  refine JtM (fun _=>?_) (fun _=>?_)
  ·obtain⟨x,q,e,x1,x2,x3⟩:=W3 w.p (n:=2) (hr.go (q:=p+1) (by omega) (by omega)) (by omega) (Yn hok.pln) (by omega) (by omega);exact Jua (vs:=[.i x.client,.i x.seq,.i x.act,.l (dL x.args),.l (Ja bs),.i q]) e rfl rfl rfl (JtU ⟨⟨m.kind,m.to,m.frm,m.round,x,m.vals,m.seqs,m.done⟩,q,rfl,by show x.args.length≤_;omega,f2,f3,f4⟩)
  refine JtM (fun _=>?_) (fun _=>?_)
  ·obtain⟨l,q,e,q1,q2,q3,_⟩:=JiE (n:=2) (hr.go (q:=p+1) (by omega) (by omega)) (by omega) (by omega) (by omega);exact Jua (vs:=[.l (dL l),.l (Ja bs),.i q]) e rfl rfl rfl (JtU ⟨⟨m.kind,m.to,m.frm,m.round,m.call,l,m.seqs,m.done⟩,q,rfl,f1,by show l.length≤_;omega,f3,f4⟩)
  refine JtM (fun _=>?_) (fun _=>?_)
  ·refine Jd 3 (hr.go (q:=p+1) (by omega) (by omega)) (by omega) (by omega) rfl rfl fun z _ _=>?_;simp only[sC,sN];refine JtN (dL m.seqs) 2000000 (by rw[dL1];omega) (by omega) rfl (JtU ⟨⟨m.kind,m.to,m.frm,m.round,m.call,m.vals,m.seqs++[z],m.done⟩,p+1+1,?_,f1,f2,by simp;omega,f4⟩);show [dI m.kind,dI m.to,dI m.frm,dI m.round,dI m.call.client,dI m.call.seq,dI m.call.act,.s (dL m.call.args),.s (dL m.vals),.s (dL m.seqs++[dI z]),.s (dDs m.done),.s (Ja bs),dI (p+1+1)]=[dI m.kind,dI m.to,dI m.frm,dI m.round,dI m.call.client,dI m.call.seq,dI m.call.act,.s (dL m.call.args),.s (dL m.vals),.s (dL (m.seqs++[z])),.s (dDs m.done),D.s (Ja bs),dI (p+1+1)];rw[Q6]
  ·obtain⟨a,l,q,e,q1,q2,q3⟩:=JfF (n:=2) (hr.go (q:=p+1) (by omega) (by omega)) (by omega) (by omega) (by omega);refine Jua (vs:=[.i a,.l (dL l),.l (Ja bs),.i q]) e rfl rfl rfl ?_;simp only[sC,sN];refine JtN (dDs m.done) 2000000 (by rw[Qk];omega) (by omega) rfl (JtU ⟨⟨m.kind,m.to,m.frm,m.round,m.call,m.vals,m.seqs,m.done++[⟨1,a,l⟩]⟩,q,?_,f1,f2,f3,by simp;omega,fun d hd=>?_⟩)
   ·show [dI m.kind,dI m.to,dI m.frm,dI m.round,dI m.call.client,dI m.call.seq,dI m.call.act,.s (dL m.call.args),.s (dL m.vals),.s (dL m.seqs),.s (dDs m.done++[.g [dI 1,dI a,.s (dL l)]]),.s (Ja bs),dI q]=[dI m.kind,dI m.to,dI m.frm,dI m.round,dI m.call.client,dI m.call.seq,dI m.call.act,.s (dL m.call.args),.s (dL m.vals),.s (dL m.seqs),.s (dDs (m.done++[⟨1,a,l⟩])),D.s (Ja bs),dI q];simp only[dDs,List.map_append,JuA,List.map_nil];rfl
   ·rcases Jux.1 hd with q | q
    ·exact f4.2 d q
    ·simp only[JuK] at q;subst q;show l.length≤_;omega
 obtain⟨ds,e,m',q,rfl,h⟩:=key;exact⟨m',q,e,h⟩
theorem Jc2 (ns:List Int) (hb :∀x∈ns,0≤x∧x<256) :
  ∃ (l:Pln) (s:Sit) (k:Int) (m:Msg),Ev L f_k39 [.s (Ja ns)] (l.cells++s.cells++[dI k]++m.cells)∧JO l∧Qq s∧Qp m:=by
 obtain⟨bs,ho,hr⟩:=JpO ns hb;obtain⟨l,s,k,w,q,e,hl,hs,hok,q1,q2⟩:=Jjk (n:=20) hr (by omega) (by omega) (by omega);obtain⟨m,o,em,o1,o2,hm,hmq,hmd⟩:=JeB w (hr.go (q:=q) (by omega) (by omega)) (by omega) hok;have key : ∃ ds,Ev L f_k39 [.s (Ja ns)] ds∧∃ m:Msg,ds=l.cells++s.cells++[dI k]++m.cells∧Qp m:=by
  refine Juo (vs:=[.l (Ja ns)]) L_k39 rfl (Jua ho rfl rfl rfl ?_);refine Jua (vs:=[.i l.n,.l (Je l.acts),.l (dL l.gives),.l (dL l.start),.b s.up,.b s.frozen,.i s.round,.l (dL s.base),.l (dL s.added),.l (dDs s.done),.i k,.i w.p.n,.l (Je w.p.acts),.l (dL w.p.gives),.l (dL w.p.start),.l (dSt w.sites),.b w.c.up,.i w.c.round,.l (dL w.c.base),.l (dDs w.c.done),.l (dCs w.c.wants),.l (dGs w.c.got),.l (dCn w.cons),.l (dMs w.net),.l (dLg w.log),.l (Ja bs),.i q]) e rfl rfl rfl ?_;simp only[sC,sN];refine Jua (vs:=[.i m.kind,.i m.to,.i m.frm,.i m.round,.i m.call.client,.i m.call.seq,.i m.call.act,.l (dL m.call.args),.l (dL m.vals),.l (dL m.seqs),.l (dDs m.done),.l (Ja bs),.i o]) em rfl rfl rfl ?_;simp only[sC,sN];have bad :∀(t r:Int),o≤r→r≤o+100→∃ (m':Msg) (z:Int),Ev L f_k38 ([.s (Ja bs),dI r]++w.cells++(Msg.mk m.kind t m.frm m.round m.call m.vals m.seqs m.done).cells) (m'.cells++[.s (Ja bs),dI z])∧Qp m':=fun t r r1 r2 =>
   Jbe w ⟨m.kind,t,m.frm,m.round,m.call,m.vals,m.seqs,m.done⟩ (hr.go (q:=r) (by omega) (by omega)) (by omega) hok hm hmq hmd
  refine JtM (fun _=>?_) (fun _=>?_)
  ·refine Jd 4 (hr.go (q:=o) (by omega) (by omega)) (by omega) (by omega) rfl rfl fun u _ _=>?_;simp only[sC,sN];refine JtM (fun _=>?_) (fun _=>?_)
   ·refine Jd 20 (hr.go (q:=o+1) (by omega) (by omega)) (by omega) (by omega) rfl rfl fun v _ _=>?_;simp only[sC,sN];refine JtM (fun _=>?_) (fun _=>JtU ⟨⟨m.kind,k,m.frm,m.round,m.call,m.vals,m.seqs,m.done⟩,rfl,hm⟩);obtain⟨m2,z,e2,h2⟩:=bad k (o+1+1) (by omega) (by omega);exact Jua (vs:=[.i m2.kind,.i m2.to,.i m2.frm,.i m2.round,.i m2.call.client,.i m2.call.seq,.i m2.call.act,.l (dL m2.call.args),.l (dL m2.vals),.l (dL m2.seqs),.l (dDs m2.done),.l (Ja bs),.i z]) e2 rfl rfl rfl (JtU ⟨m2,rfl,h2⟩)
   ·refine Jd 20 (hr.go (q:=o+1) (by omega) (by omega)) (by omega) (by omega) rfl rfl fun v _ _=>?_;simp only[sC,sN];refine JtM (fun _=>?_) (fun _=>JtU ⟨m,rfl,hm⟩);obtain⟨m2,z,e2,h2⟩:=bad m.to (o+1+1) (by omega) (by omega);exact Jua (vs:=[.i m2.kind,.i m2.to,.i m2.frm,.i m2.round,.i m2.call.client,.i m2.call.seq,.i m2.call.act,.l (dL m2.call.args),.l (dL m2.vals),.l (dL m2.seqs),.l (dDs m2.done),.l (Ja bs),.i z]) e2 rfl rfl rfl (JtU ⟨m2,rfl,h2⟩)
  ·refine Jd 20 (hr.go (q:=o) (by omega) (by omega)) (by omega) (by omega) rfl rfl fun v _ _=>?_;simp only[sC,sN];refine JtM (fun _=>?_) (fun _=>JtU ⟨m,rfl,hm⟩);obtain⟨m2,z,e2,h2⟩:=bad m.to (o+1) (by omega) (by omega);exact Jua (vs:=[.i m2.kind,.i m2.to,.i m2.frm,.i m2.round,.i m2.call.client,.i m2.call.seq,.i m2.call.act,.l (dL m2.call.args),.l (dL m2.vals),.l (dL m2.seqs),.l (dDs m2.done),.l (Ja bs),.i z]) e2 rfl rfl rfl (JtU ⟨m2,rfl,h2⟩)
 obtain⟨ds,e,m2,rfl,h⟩:=key;exact⟨l,s,k,m2,e,hl,hs,h⟩
theorem JcZ {p:Pln} {s:Sit} {k:Int}:XP p s k=true↔JC p=true∧(0≤k∧k<p.gives.length)∧J4 p s k=true:=by
 unfold XP;rw[Jus,Jus,Yt]
theorem Jps (p:Pln) (s:Sit) (k:Int) (m:Msg):(J3 p s k m).up=s.up:=by
 unfold J3;repeat' split
 all_goals rfl
theorem JjI (p:Pln) (s:Sit) (k:Int) (m:Msg):s.round≤(J3 p s k m).round:=by
 unfold J3;split
 ·split
  ·exact Int.le_refl _
  ·split
   ·rename_i h;show s.round≤m.round;omega
   ·exact Int.le_refl _
 ·exact Int.le_refl _
theorem Jjn (p:Pln) (s:Sit) (k:Int) (m:Msg):J3 p (J3 p s k m) k m=J3 p s k m:=by
 by_cases h:s.up=true∧m.to=k
 ·by_cases h2:m.kind=2∧m.round=s.round
  ·have e:J3 p s k m=⟨s.up,true,s.round,s.base,s.added,s.done⟩:=by unfold J3;rw[if_pos h,if_pos h2]
   rw[e];unfold J3;rw[if_pos h,if_pos h2]
  ·by_cases h4:m.kind=4∧s.round<m.round
   ·have e:J3 p s k m=⟨s.up,false,m.round,m.vals,[0,0,0],Q4 p.gives.length k s.done m.done s.done.length⟩:=by unfold J3;rw[if_pos h,if_neg h2,if_pos h4]
    rw[e];unfold J3;rw[if_pos h,if_neg (fun q=>by omega),if_neg (fun q=>by have:=q.2;simp only at this;omega)]
   ·have e:=(YP (p:=p) (s:=s) (k:=k) (m:=m) (.inr ⟨h2,h4⟩)).1;rw[e,e]
 ·have e:=(YP (p:=p) (s:=s) (k:=k) (m:=m) (.inl h)).1;rw[e,e]
theorem JlK {p:Pln} {s:Sit} {k:Int} {m:Msg} (hl:m.kind=4→m.done.length=s.done.length) {i:Nat} {d:Don} (hd:s.done[i]? = some d) : ∃ x,(J3 p s k m).done[i]? = some x∧d.seq≤x.seq:=by
 unfold J3;split
 ·split
  ·exact⟨d,hd,Int.le_refl _⟩
  ·split
   ·rename_i h4;have hi:=(Jut.1 hd).1;obtain⟨y,hy,_⟩:=sA1 (l:=m.done) (i:=i) (by have:=hl h4.1;omega);refine⟨Yj p.gives.length k i d y,by simp only[Q4,List.getElem?_mapIdx,hd,Juu,QJ hy,hi,if_true],?_⟩;unfold Yj;split
    ·rename_i q;omega
    ·exact Int.le_refl _
   ·exact⟨d,hd,Int.le_refl _⟩
 ·exact⟨d,hd,Int.le_refl _⟩
set_option maxHeartbeats 1000000 in
theorem JgA (ns:List Int) (hb :∀x∈ns,0≤x∧x<256):Ev L f_k60 [.s (Ja ns)] [dB true]:=by
 refine Juq (vs:=[.l (Ja ns)]) L_k60 rfl ?_;refine Jue (1048576<((Ja ns).length:Int)) rfl (fun _=>JtU rfl) (fun _=>?_);obtain⟨p,s,k,m,hd,hp,hs,hm⟩:=Jc2 ns hb;have h1:=JbK p s k m hp hs hm;have h2:=JhS p s k m hp hs hm;obtain⟨hf,hfm,hlm⟩:=Jci p k hs hm;refine Jua (vs:=[.i p.n,.l (Je p.acts),.l (dL p.gives),.l (dL p.start),.b s.up,.b s.frozen,.i s.round,.l (dL s.base),.l (dL s.added),.l (dDs s.done),.i k,.i m.kind,.i m.to,.i m.frm,.i m.round,.i m.call.client,.i m.call.seq,.i m.call.act,.l (dL m.call.args),.l (dL m.vals),.l (dL m.seqs),.l (dDs m.done)]) hd rfl rfl rfl ?_;simp only[sC,sN];generalize hq:Qj p s k m=q at *;obtain⟨x,ms⟩:=q;simp only at h1 h2 hf hfm hlm;refine Jua (vs:=[.b x.up,.b x.frozen,.i x.round,.l (dL x.base),.l (dL x.added),.l (dDs x.done),.l (dMs ms)]) h1 rfl rfl rfl ?_;simp only[sC,sN];refine Jua (vs:=[.b x.up,.b x.frozen,.i x.round,.l (dL x.base),.l (dL x.added),.l (dDs x.done),.l (dMs ms)]) h2 rfl rfl rfl ?_;simp only[sC,sN];have hcs:=UY x hf;refine Jua hcs rfl rfl rfl (JtO rfl ?_);refine Jua (Jju ms ⟨by omega,hfm⟩) rfl rfl rfl (JtO rfl ?_);simp only[sC,sN];refine Jua (Jfb p s k hp hs) rfl rfl rfl ?_;simp only[sC,sN];have zero:(XP p s k&&YL p m)=false→x=⟨false,false,0,[],[],[]⟩∧ms=[]:=fun h=>by
  unfold Qj at hq;rw[if_neg (by simp[h])] at hq;cases hq;exact⟨rfl,rfl⟩
 refine JtQ (XP p s k) rfl (fun h=>?_) (fun h=>?_)
 ·obtain⟨rfl,rfl⟩:=zero (by rw[h];rfl);exact Jua hcs rfl rfl rfl (Juf rfl (Juf rfl (Jua Jeh rfl rfl rfl (JtU rfl))))
 refine Jua (Jfc p m hp hm) rfl rfl rfl ?_;simp only[sC,sN];refine JtQ (YL p m) rfl (fun h3=>?_) (fun h3=>?_)
 ·obtain⟨rfl,rfl⟩:=zero (by rw[h3];simp);exact Jua hcs rfl rfl rfl (Juf rfl (Juf rfl (Jua Jeh rfl rfl rfl (JtU rfl))))
 obtain⟨hpo,hk,hso⟩:=JcZ.1 h;have hmo:Jv p m=true:=by unfold YL at h3;rw[Jus] at h3;exact h3.2
 have ex:x=J3 p s k m:=by unfold Qj at hq;rw[if_pos (by rw[h,h3];rfl)] at hq;cases hq;rfl
 obtain⟨hg0,hdl⟩:=V1 h h3;obtain⟨ho1,_,_⟩:=Jk5 hpo hso hk hmo;rw[←ex] at ho1;have hxok:XP p x k=true:=JcZ.2 ⟨hpo,hk,ho1⟩;have hxo:=Jfl p x k hp hf;rw[hxok] at hxo;have hup:x.up=s.up:=by rw[ex];exact Jps ..
 have hround:s.round≤x.round:=by rw[ex];exact JjI ..
 have hag:(Qj p x k m).1=x:=by unfold Qj;rw[if_pos (by rw[hxok,h3];rfl)];show J3 p x k m=x;rw[ex];exact Jjn ..
 have hms2:=(Jci p k hf hm).2.2;have h4:=JbK p x k m hp hf hm;rw[hag] at h4;generalize (Qj p x k m).2=ms2 at *;have hcx:=UY x hf;have more :∀(i:Nat) (d:Don),s.done[i]? = some d→∃ y,x.done[i]? = some y∧d.seq≤y.seq:=fun i d hd=>by rw[ex];exact JlK hdl hd
 have hsl:=hs.2.2.1;refine Jt7 s.done.length (fun i=>[.i i]) (fun _=>True) rfl rfl trivial fun i hi _=>?_;simp only[sC,sN];refine Jub i (Qk s.done) rfl (fun h'=>?_) (fun h'=>Juj ?_)
 ·obtain⟨d,hd2,_⟩:=sA1 h';obtain⟨y,hy,hle⟩:=more i d hd2;refine Jul (vs:=[.i y.seq,.i y.code,.l (dL y.tells)]) (ds:=dDs x.done) i (mA1 (f:=Don.g) hy) rfl rfl rfl rfl rfl rfl ?_;simp only[sC,sN];refine JtX (vs:=[.i d.seq,.i d.code,.l (dL d.tells)]) i (mA1 (f:=Don.g) hd2) rfl rfl rfl rfl ?_;simp only[sC,sN];refine JtO (by show decide (y.seq<d.seq)=false;rw[decide_eq_false];omega) ?_;exact Juk (vs:=[.i ((i+1:Nat):Int)]) (by rw[←wS h' (by omega)];rfl) ⟨h',rfl,trivial⟩
 refine Jua (vs:=[.b x.up,.b x.frozen,.i x.round,.l (dL x.base),.l (dL x.added),.l (dDs x.done),.l (dMs ms2)]) h4 rfl rfl rfl ?_;simp only[sC,sN];have same:(¬s.round<m.round∨s.up=false∨m.to≠k)→m.kind=4→x=s:=fun q q4=>by
  rw[ex];rcases q with q | q | q
  ·exact(YP (.inr ⟨fun z=>by omega,fun z=>q z.2⟩)).1
  ·exact(YP (.inl (fun z=>by rw[q] at z;cases z.1))).1
  ·exact(YP (.inl (fun z=>q z.2))).1
 have hcs2 :∀_:x=s,Ev L f_k5v (x.cells++s.cells) [dB true]:=fun e=>by rw[e];exact UY s hs
 refine Jue (m.kind=4) rfl (fun q4=>?_) (fun _=>?_)
 ·refine Jue (m.round≤s.round) rfl (fun qr=>?_) (fun qr=>?_)
  ·refine Jua (hcs2 (same (.inl (by omega)) q4)) rfl rfl rfl (JtO rfl ?_);simp only[sC,sN];refine Jua hxo rfl rfl rfl (Juf rfl ?_);simp only[sC,sN];refine Juf (by show decide (s.round≤x.round)=true;exact decide_eq_true hround) ?_;refine Jua hcx rfl rfl rfl (Juf rfl ?_);refine Juf (by show decide (((dMs ms).length:Int)≤1)=true;rw[JP];exact decide_eq_true (by omega)) ?_;refine Juf (by show decide (((dMs ms2).length:Int)≤1)=true;rw[JP];exact decide_eq_true (by omega)) (JtU ?_);show [dB (x.up == s.up)]=_;rw[hup];simp
  ·refine JtQ s.up rfl (fun qu=>?_) (fun qu=>?_)
   ·refine Jua (hcs2 (same (.inr (.inl qu)) q4)) rfl rfl rfl (JtO rfl ?_);simp only[sC,sN];refine Jua hxo rfl rfl rfl (Juf rfl ?_);simp only[sC,sN];refine Juf (by show decide (s.round≤x.round)=true;exact decide_eq_true hround) ?_;refine Jua hcx rfl rfl rfl (Juf rfl ?_);refine Juf (by show decide (((dMs ms).length:Int)≤1)=true;rw[JP];exact decide_eq_true (by omega)) ?_;refine Juf (by show decide (((dMs ms2).length:Int)≤1)=true;rw[JP];exact decide_eq_true (by omega)) (JtU ?_);show [dB (x.up == s.up)]=_;rw[hup];simp
   ·refine JtQ (decide (m.to=k)) rfl (fun qt=>?_) (fun qt=>?_)
    ·refine Jua (hcs2 (same (.inr (.inr (by simpa using qt))) q4)) rfl rfl rfl (JtO rfl ?_);simp only[sC,sN];refine Jua hxo rfl rfl rfl (Juf rfl ?_);simp only[sC,sN];refine Juf (by show decide (s.round≤x.round)=true;exact decide_eq_true hround) ?_;refine Jua hcx rfl rfl rfl (Juf rfl ?_);refine Juf (by show decide (((dMs ms).length:Int)≤1)=true;rw[JP];exact decide_eq_true (by omega)) ?_;refine Juf (by show decide (((dMs ms2).length:Int)≤1)=true;rw[JP];exact decide_eq_true (by omega)) (JtU ?_);show [dB (x.up == s.up)]=_;rw[hup];simp
    ·refine Jua hxo rfl rfl rfl (Juf rfl ?_);simp only[sC,sN];refine Juf (by show decide (s.round≤x.round)=true;exact decide_eq_true hround) ?_;refine Jua hcx rfl rfl rfl (Juf rfl ?_);refine Juf (by show decide (((dMs ms).length:Int)≤1)=true;rw[JP];exact decide_eq_true (by omega)) ?_;refine Juf (by show decide (((dMs ms2).length:Int)≤1)=true;rw[JP];exact decide_eq_true (by omega)) (JtU ?_);show [dB (x.up == s.up)]=_;rw[hup];simp
 ·refine Jua hxo rfl rfl rfl (Juf rfl ?_);simp only[sC,sN];refine Juf (by show decide (s.round≤x.round)=true;exact decide_eq_true hround) ?_;refine Jua hcx rfl rfl rfl (Juf rfl ?_);refine Juf (by show decide (((dMs ms).length:Int)≤1)=true;rw[JP];exact decide_eq_true (by omega)) ?_;refine Juf (by show decide (((dMs ms2).length:Int)≤1)=true;rw[JP];exact decide_eq_true (by omega)) (JtU ?_);show [dB (x.up == s.up)]=_;rw[hup];simp
end Go.Proofs.YtofcmnglieaoeaaGreatDoor

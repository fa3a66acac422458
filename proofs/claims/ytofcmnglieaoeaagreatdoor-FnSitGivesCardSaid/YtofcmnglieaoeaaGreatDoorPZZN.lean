import Derived.Test.YtofcmnglieaoeaaGreatDoorPZZM
set_option linter.unusedVariables false
set_option linter.unusedSimpArgs false
/- What sites hear: over residual programs. -/
namespace Go.Proofs.YtofcmnglieaoeaaGreatDoor
open Go Go.Tm
open Go.IntKind (i64)
theorem Jm4 {p:Pln} {x:Msg} (hp:JC p=true) (h:Jw p x=true):x.seqs.length≤1000∧x.done.length≤1000:=by
 have hn:=J1 hp;have hi:=Kg hp h;unfold Jw at h;rw[Jui] at h;obtain⟨_,h⟩:=h;split at h
 ·simp only[Jui] at h;have hb:=Kn h.2.2.2.2;exact⟨by have:=hb.2.2.1 rfl;omega,by have:=hb.2.2.2 rfl;omega⟩
 split at h
 ·simp only[Jui] at h;have hb:=Kn h.2.2;exact⟨by have:=hb.2.2.1 rfl;omega,by have:=hb.2.2.2 rfl;omega⟩
 split at h
 ·simp only[Jui] at h;have hb:=Kn h.2.2.2.2;have:=(ZM.1 h.2.2.2.1).1;exact⟨by omega,by have:=hb.2.2.2 rfl;omega⟩
 split at h
 ·simp only[Jui] at h;have hb:=Kn h.2.2.2.2;have:=(JB.1 h.2.2.2.1).1;exact⟨by have:=hb.2.2.1 rfl;omega,by omega⟩
 ·cases h
theorem Jql (c:Clk) (k:Int) (hc:KH c):Ev L f_k2m (c.cells++[dI k]) [dI 4,dI k,dI 0,dI c.round,dI 0,dI 0,dI 0,.s (dL []),.s (dL c.base),.s (dL []),.s (dDs c.done)]:=by
 refine Jud (vs:=[.b c.up,.i c.round,.l (dL c.base),.l (dDs c.done),.l (dCs c.wants),.l (dGs c.got),.i k]) L_k2m rfl ?_;have h1:=hc.b;refine JtM (dL c.base) 2000000 (by rw[dL1];omega) (by omega) rfl ?_;refine JtS (JR c.base) ?_;refine JtM (dL c.base) 2000000 (by rw[dL1];omega) (by omega) rfl ?_;exact JtL (vs:=[.l (dDs c.done)]) (Yh c.done ⟨hc.d,hc.dt⟩) rfl rfl rfl (Jt9 rfl)
theorem JeD {bs:List Int} {p:Int} (w:Wrl) (hr:Rdr bs p) (hf:p≤999999970000) (hok:OkW w) :
  ∃ (m:Msg) (q:Int),Ev L f_k37 ([.s (Ja bs),dI p]++w.cells) (m.cells++[.s (Ja bs),dI q])∧p≤q∧q≤p+100∧Qd m∧m.seqs.length≤1000∧m.done.length≤1000:=by
 have key : ∃ ds,Ev L f_k37 ([.s (Ja bs),dI p]++w.cells) ds∧∃ (m:Msg) (q:Int),ds=m.cells++[.s (Ja bs),dI q]∧p≤q∧q≤p+100∧Qd m∧m.seqs.length≤1000∧m.done.length≤1000:=by
  refine Jue (vs:=[.l (Ja bs),.i p,.i w.p.n,.l (Je w.p.acts),.l (dL w.p.gives),.l (dL w.p.start),.l (dSt w.sites),.b w.c.up,.i w.c.round,.l (dL w.c.base),.l (dDs w.c.done),.l (dCs w.c.wants),.l (dGs w.c.got),.l (dCn w.cons),.l (dMs w.net),.l (dLg w.log)]) L_k37 rfl ?_;have hn:=J1 hok.pln;have hg:=Qo hok.pln;have hsl:=hok.sl;have hml:=hok.ml;have hs1:1≤((dSt w.sites).length:Int):=by rw[J8];omega
  have hs2:((dSt w.sites).length:Int)≤2000000:=by rw[J8];omega
  have hm2:((dMs w.net).length:Int)≤2000000:=by rw[Qy];omega
  refine Jt2 (0<((dMs w.net).length:Int)) rfl (fun hm=>?_) (fun _=>?_)
  ·refine Jd 4 (hr.go (q:=p) (by omega) (by omega)) (by omega) (by omega) rfl rfl fun v _ _=>?_;simp only[sC,sN];refine Jt7 (fun _=>?_) (fun _=>?_)
   ·refine Jd _ (hr.go (q:=p+1) (by omega) (by omega)) hm hm2 rfl rfl fun k k0 k1=>?_;simp only[sC,sN];rw[Qy] at k1;obtain⟨m,hm3,hmm⟩:=sA1 (l:=w.net) (i:=k.toNat) (by omega);have hmo:=hok.net m hmm;have hsm:=Jm4 hok.pln hmo;refine JtJ (ds:=dMs w.net) (d:=m.g) (vs:=[.i m.kind,.i m.to,.i m.frm,.i m.round,.i m.call.client,.i m.call.seq,.i m.call.act,.l (dL m.call.args),.l (dL m.vals),.l (dL m.seqs),.l (dDs m.done)]) k rfl rfl rfl k0 (mA1 (f:=Msg.g) hm3) rfl ?_;exact Jt9 ⟨m,p+1+1,rfl,by omega,by omega,(Kg hok.pln hmo).fit,hsm.1,hsm.2⟩
   ·refine Jd _ (hr.go (q:=p+1) (by omega) (by omega)) hs1 hs2 rfl rfl fun k k0 k1=>?_;simp only[sC,sN];rw[J8] at k1;refine Jd 4 (hr.go (q:=p+1+1) (by omega) (by omega)) (by omega) (by omega) rfl rfl fun u _ _=>?_;simp only[sC,sN];obtain⟨s,hs,hsm⟩:=sA1 (l:=w.sites) (i:=k.toNat) (by omega);have hso:=hok.sites _ s hs;have hsf:=Kq hok.pln hso;have hsd:=(JB.1 (Qg.1 hso).2.2.2).1;refine Jt7 (fun _=>?_) (fun _=>?_)
    ·obtain⟨x,o,e,x1,x2,x3⟩:=WC w.p (n:=16) (hr.go (q:=p+1+1+1) (by omega) (by omega)) (by omega) (Yn hok.pln) (by omega) (by omega);exact JtL (vs:=[.i x.client,.i x.seq,.i x.act,.l (dL x.args),.l (Ja bs),.i o]) e rfl rfl rfl (Jt9 ⟨⟨1,-1,0,0,x,[],[],[]⟩,o,rfl,by omega,by omega,⟨by show x.args.length≤_;omega,by simp,by simp,by simp,fun d hd=>by simp at hd⟩,by simp,by simp⟩)
    refine Jt7 (fun _=>?_) (fun _=>?_)
    ·refine JtJ (ds:=dSt w.sites) (d:=s.g) (vs:=[.b s.up,.b s.frozen,.i s.round,.l (dL s.base),.l (dL s.added),.l (dDs s.done)]) k rfl rfl rfl k0 (mA1 (f:=Sit.g) hs) rfl ?_;simp only[sC,sN];refine Jd 2 (hr.go (q:=p+1+1+1) (by omega) (by omega)) (by omega) (by omega) rfl rfl fun z _ _=>?_;simp only[sC,sN];exact Jt9 ⟨⟨2,_,0,_,⟨0,0,0,[]⟩,[],[],[]⟩,p+1+1+1+1,rfl,by omega,by omega,⟨by simp,by simp,by simp,by simp,fun d hd=>by simp at hd⟩,by simp,by simp⟩
    refine Jt7 (fun _=>?_) (fun _=>?_)
    ·refine JtJ (ds:=dSt w.sites) (d:=s.g) (vs:=[.b s.up,.b s.frozen,.i s.round,.l (dL s.base),.l (dL s.added),.l (dDs s.done)]) k rfl rfl rfl k0 (mA1 (f:=Sit.g) hs) rfl ?_;simp only[sC,sN];refine JtL (vs:=[.i 3,.i (-1),.i k,.i s.round,.i 0,.i 0,.i 0,.l (dL []),.l (dL s.added),.l (dL (QV s.done)),.l (dDs [])]) (Ww s k hsf) rfl rfl rfl (Jt9 ?_);exact⟨JJ s k,p+1+1+1,rfl,by omega,by omega,⟨by simp[JJ],hsf.2.1,by simp only[JJ,QV,Jur];exact hsf.2.2.1,by simp[JJ],fun d hd=>by simp[JJ] at hd⟩,by simp only[JJ,QV,Jur];omega,by simp[JJ]⟩
    have hcf:=Ky hok.pln hok.clk;have hcd:=(JB.1 hok.clk.done).1;refine JtL (vs:=[.i 4,.i k,.i 0,.i w.c.round,.i 0,.i 0,.i 0,.l (dL []),.l (dL w.c.base),.l (dL []),.l (dDs w.c.done)]) (Jql w.c k hcf) rfl rfl rfl ?_;simp only[sC,sN];refine Jd 3 (hr.go (q:=p+1+1+1) (by omega) (by omega)) (by omega) (by omega) rfl rfl fun z _ _=>?_;simp only[sC,sN];exact Jt9 ⟨⟨4,_,0,_,⟨0,0,0,[]⟩,w.c.base,[],w.c.done⟩,p+1+1+1+1,rfl,by omega,by omega,⟨by simp,hcf.b,by simp,hcf.d,hcf.dt⟩,by simp,by show w.c.done.length≤1000;omega⟩
  ·refine Jd _ (hr.go (q:=p) (by omega) (by omega)) hs1 hs2 rfl rfl fun k k0 k1=>?_;simp only[sC,sN];rw[J8] at k1;refine Jd 4 (hr.go (q:=p+1) (by omega) (by omega)) (by omega) (by omega) rfl rfl fun u _ _=>?_;simp only[sC,sN];obtain⟨s,hs,hsm⟩:=sA1 (l:=w.sites) (i:=k.toNat) (by omega);have hso:=hok.sites _ s hs;have hsf:=Kq hok.pln hso;have hsd:=(JB.1 (Qg.1 hso).2.2.2).1;refine Jt7 (fun _=>?_) (fun _=>?_)
   ·obtain⟨x,o,e,x1,x2,x3⟩:=WC w.p (n:=16) (hr.go (q:=p+1+1) (by omega) (by omega)) (by omega) (Yn hok.pln) (by omega) (by omega);exact JtL (vs:=[.i x.client,.i x.seq,.i x.act,.l (dL x.args),.l (Ja bs),.i o]) e rfl rfl rfl (Jt9 ⟨⟨1,-1,0,0,x,[],[],[]⟩,o,rfl,by omega,by omega,⟨by show x.args.length≤_;omega,by simp,by simp,by simp,fun d hd=>by simp at hd⟩,by simp,by simp⟩)
   refine Jt7 (fun _=>?_) (fun _=>?_)
   ·refine JtJ (ds:=dSt w.sites) (d:=s.g) (vs:=[.b s.up,.b s.frozen,.i s.round,.l (dL s.base),.l (dL s.added),.l (dDs s.done)]) k rfl rfl rfl k0 (mA1 (f:=Sit.g) hs) rfl ?_;simp only[sC,sN];refine Jd 2 (hr.go (q:=p+1+1) (by omega) (by omega)) (by omega) (by omega) rfl rfl fun z _ _=>?_;simp only[sC,sN];exact Jt9 ⟨⟨2,_,0,_,⟨0,0,0,[]⟩,[],[],[]⟩,p+1+1+1,rfl,by omega,by omega,⟨by simp,by simp,by simp,by simp,fun d hd=>by simp at hd⟩,by simp,by simp⟩
   refine Jt7 (fun _=>?_) (fun _=>?_)
   ·refine JtJ (ds:=dSt w.sites) (d:=s.g) (vs:=[.b s.up,.b s.frozen,.i s.round,.l (dL s.base),.l (dL s.added),.l (dDs s.done)]) k rfl rfl rfl k0 (mA1 (f:=Sit.g) hs) rfl ?_;simp only[sC,sN];refine JtL (vs:=[.i 3,.i (-1),.i k,.i s.round,.i 0,.i 0,.i 0,.l (dL []),.l (dL s.added),.l (dL (QV s.done)),.l (dDs [])]) (Ww s k hsf) rfl rfl rfl (Jt9 ?_);exact⟨JJ s k,p+1+1,rfl,by omega,by omega,⟨by simp[JJ],hsf.2.1,by simp only[JJ,QV,Jur];exact hsf.2.2.1,by simp[JJ],fun d hd=>by simp[JJ] at hd⟩,by simp only[JJ,QV,Jur];omega,by simp[JJ]⟩
   have hcf:=Ky hok.pln hok.clk;have hcd:=(JB.1 hok.clk.done).1;refine JtL (vs:=[.i 4,.i k,.i 0,.i w.c.round,.i 0,.i 0,.i 0,.l (dL []),.l (dL w.c.base),.l (dL []),.l (dDs w.c.done)]) (Jql w.c k hcf) rfl rfl rfl ?_;simp only[sC,sN];refine Jd 3 (hr.go (q:=p+1+1) (by omega) (by omega)) (by omega) (by omega) rfl rfl fun z _ _=>?_;simp only[sC,sN];exact Jt9 ⟨⟨4,_,0,_,⟨0,0,0,[]⟩,w.c.base,[],w.c.done⟩,p+1+1+1,rfl,by omega,by omega,⟨by simp,hcf.b,by simp,hcf.d,hcf.dt⟩,by simp,by show w.c.done.length≤1000;omega⟩
 obtain⟨ds,e,m,q,rfl,h⟩:=key;exact⟨m,q,e,h⟩
theorem Jbk {bs:List Int} {p:Int} (w:Wrl) (m:Msg) (hr:Rdr bs p) (hf:p≤999999970000) (hok:OkW w) (hm:Qd m) (hq:m.seqs.length≤1000) (hdn:m.done.length≤1000) :
  ∃ (m':Msg) (q:Int),Ev L f_k38 ([.s (Ja bs),dI p]++w.cells++m.cells) (m'.cells++[.s (Ja bs),dI q])∧Qd m':=by
 have key : ∃ ds,Ev L f_k38 ([.s (Ja bs),dI p]++w.cells++m.cells) ds∧∃ (m':Msg) (q:Int),ds=m'.cells++[.s (Ja bs),dI q]∧Qd m':=by
  refine Jue (vs:=[.l (Ja bs),.i p,.i w.p.n,.l (Je w.p.acts),.l (dL w.p.gives),.l (dL w.p.start),.l (dSt w.sites),.b w.c.up,.i w.c.round,.l (dL w.c.base),.l (dDs w.c.done),.l (dCs w.c.wants),.l (dGs w.c.got),.l (dCn w.cons),.l (dMs w.net),.l (dLg w.log),.i m.kind,.i m.to,.i m.frm,.i m.round,.i m.call.client,.i m.call.seq,.i m.call.act,.l (dL m.call.args),.l (dL m.vals),.l (dL m.seqs),.l (dDs m.done)]) L_k38 rfl ?_;refine JtL (vs:=[.i m.kind,.i m.to,.i m.frm,.i m.round,.i m.call.client,.i m.call.seq,.i m.call.act,.l (dL m.call.args),.l (dL m.vals),.l (dL m.seqs),.l (dDs m.done)]) (Ja7 m hm) rfl rfl rfl ?_;simp only[sC,sN];obtain⟨f1,f2,f3,f4⟩:=hm;refine Jd 8 (hr.go (q:=p) (by omega) (by omega)) (by omega) (by omega) rfl rfl fun u _ _=>?_;simp only[sC,sN];refine Jt7 (fun _=>?_) (fun _=>?_)
  ·refine Jd 6 (hr.go (q:=p+1) (by omega) (by omega)) (by omega) (by omega) rfl rfl fun z _ _=>?_;simp only[sC,sN];exact Jt9 ⟨⟨z,m.to,m.frm,m.round,m.call,m.vals,m.seqs,m.done⟩,p+1+1,rfl,f1,f2,f3,f4⟩
  refine Jt7 (fun _=>?_) (fun _=>?_)
  ·refine Jd 5 (hr.go (q:=p+1) (by omega) (by omega)) (by omega) (by omega) rfl rfl fun z _ _=>?_;simp only[sC,sN];exact Jt9 ⟨⟨m.kind,i64.wrap (z-1),m.frm,m.round,m.call,m.vals,m.seqs,m.done⟩,p+1+1,rfl,f1,f2,f3,f4⟩
  refine Jt7 (fun _=>?_) (fun _=>?_)
  ·refine Jd 5 (hr.go (q:=p+1) (by omega) (by omega)) (by omega) (by omega) rfl rfl fun z _ _=>?_;simp only[sC,sN];exact Jt9 ⟨⟨m.kind,m.to,i64.wrap (z-1),m.round,m.call,m.vals,m.seqs,m.done⟩,p+1+1,rfl,f1,f2,f3,f4⟩
  refine Jt7 (fun _=>?_) (fun _=>?_)
  ·refine Jd 3 (hr.go (q:=p+1) (by omega) (by omega)) (by omega) (by omega) rfl rfl fun z z0 z1=>?_;simp only[sC,sN];exact JW [-1,200,201] z z0 z1 rfl rfl rfl rfl rfl fun x=>Jt9 ⟨⟨m.kind,m.to,m.frm,x,m.call,m.vals,m.seqs,m.done⟩,p+1+1,rfl,f1,f2,f3,f4⟩
  refine Jt7 (fun _=>?_) (fun _=>?_)
  ·obtain⟨x,q,e,x1,x2,x3⟩:=WC w.p (n:=2) (hr.go (q:=p+1) (by omega) (by omega)) (by omega) (Yn hok.pln) (by omega) (by omega);exact JtL (vs:=[.i x.client,.i x.seq,.i x.act,.l (dL x.args),.l (Ja bs),.i q]) e rfl rfl rfl (Jt9 ⟨⟨m.kind,m.to,m.frm,m.round,x,m.vals,m.seqs,m.done⟩,q,rfl,by show x.args.length≤_;omega,f2,f3,f4⟩)
  refine Jt7 (fun _=>?_) (fun _=>?_)
  ·obtain⟨l,q,e,q1,q2,q3,_⟩:=Jhq (n:=2) (hr.go (q:=p+1) (by omega) (by omega)) (by omega) (by omega) (by omega);exact JtL (vs:=[.l (dL l),.l (Ja bs),.i q]) e rfl rfl rfl (Jt9 ⟨⟨m.kind,m.to,m.frm,m.round,m.call,l,m.seqs,m.done⟩,q,rfl,f1,by show l.length≤_;omega,f3,f4⟩)
  refine Jt7 (fun _=>?_) (fun _=>?_)
  ·refine Jd 3 (hr.go (q:=p+1) (by omega) (by omega)) (by omega) (by omega) rfl rfl fun z _ _=>?_;simp only[sC,sN];refine Juc (dL m.seqs) 2000000 (by rw[dL1];omega) (by omega) rfl (Jt9 ⟨⟨m.kind,m.to,m.frm,m.round,m.call,m.vals,m.seqs++[z],m.done⟩,p+1+1,?_,f1,f2,by simp;omega,f4⟩);show [dI m.kind,dI m.to,dI m.frm,dI m.round,dI m.call.client,dI m.call.seq,dI m.call.act,.s (dL m.call.args),.s (dL m.vals),.s (dL m.seqs++[dI z]),.s (dDs m.done),.s (Ja bs),dI (p+1+1)]=[dI m.kind,dI m.to,dI m.frm,dI m.round,dI m.call.client,dI m.call.seq,dI m.call.act,.s (dL m.call.args),.s (dL m.vals),.s (dL (m.seqs++[z])),.s (dDs m.done),D.s (Ja bs),dI (p+1+1)];rw[Xa]
  ·obtain⟨a,l,q,e,q1,q2,q3⟩:=Jfc (n:=2) (hr.go (q:=p+1) (by omega) (by omega)) (by omega) (by omega) (by omega);refine JtL (vs:=[.i a,.l (dL l),.l (Ja bs),.i q]) e rfl rfl rfl ?_;simp only[sC,sN];refine Juc (dDs m.done) 2000000 (by rw[Qv];omega) (by omega) rfl (Jt9 ⟨⟨m.kind,m.to,m.frm,m.round,m.call,m.vals,m.seqs,m.done++[⟨1,a,l⟩]⟩,q,?_,f1,f2,f3,by simp;omega,fun d hd=>?_⟩)
   ·show [dI m.kind,dI m.to,dI m.frm,dI m.round,dI m.call.client,dI m.call.seq,dI m.call.act,.s (dL m.call.args),.s (dL m.vals),.s (dL m.seqs),.s (dDs m.done++[.g [dI 1,dI a,.s (dL l)]]),.s (Ja bs),dI q]=[dI m.kind,dI m.to,dI m.frm,dI m.round,dI m.call.client,dI m.call.seq,dI m.call.act,.s (dL m.call.args),.s (dL m.vals),.s (dL m.seqs),.s (dDs (m.done++[⟨1,a,l⟩])),D.s (Ja bs),dI q];simp only[dDs,List.map_append,Juq,List.map_nil];rfl
   ·rcases Jun.1 hd with q | q
    ·exact f4.2 d q
    ·simp only[JuA] at q;subst q;show l.length≤_;omega
 obtain⟨ds,e,m',q,rfl,h⟩:=key;exact⟨m',q,e,h⟩
theorem JdB (ns:List Int) (hb :∀x∈ns,0≤x∧x<256) :
  ∃ (l:Pln) (s:Sit) (k:Int) (m:Msg),Ev L f_k39 [.s (Ja ns)] (l.cells++s.cells++[dI k]++m.cells)∧JN l∧Qa s∧Qd m:=by
 obtain⟨bs,ho,hr⟩:=JpT ns hb;obtain⟨l,s,k,w,q,e,hl,hs,hok,q1,q2⟩:=Jj5 (n:=20) hr (by omega) (by omega) (by omega);obtain⟨m,o,em,o1,o2,hm,hmq,hmd⟩:=JeD w (hr.go (q:=q) (by omega) (by omega)) (by omega) hok;have key : ∃ ds,Ev L f_k39 [.s (Ja ns)] ds∧∃ m:Msg,ds=l.cells++s.cells++[dI k]++m.cells∧Qd m:=by
  refine Jue (vs:=[.l (Ja ns)]) L_k39 rfl (JtL ho rfl rfl rfl ?_);refine JtL (vs:=[.i l.n,.l (Je l.acts),.l (dL l.gives),.l (dL l.start),.b s.up,.b s.frozen,.i s.round,.l (dL s.base),.l (dL s.added),.l (dDs s.done),.i k,.i w.p.n,.l (Je w.p.acts),.l (dL w.p.gives),.l (dL w.p.start),.l (dSt w.sites),.b w.c.up,.i w.c.round,.l (dL w.c.base),.l (dDs w.c.done),.l (dCs w.c.wants),.l (dGs w.c.got),.l (dCn w.cons),.l (dMs w.net),.l (dLg w.log),.l (Ja bs),.i q]) e rfl rfl rfl ?_;simp only[sC,sN];refine JtL (vs:=[.i m.kind,.i m.to,.i m.frm,.i m.round,.i m.call.client,.i m.call.seq,.i m.call.act,.l (dL m.call.args),.l (dL m.vals),.l (dL m.seqs),.l (dDs m.done),.l (Ja bs),.i o]) em rfl rfl rfl ?_;simp only[sC,sN];have bad :∀(t r:Int),o≤r→r≤o+100→∃ (m':Msg) (z:Int),Ev L f_k38 ([.s (Ja bs),dI r]++w.cells++(Msg.mk m.kind t m.frm m.round m.call m.vals m.seqs m.done).cells) (m'.cells++[.s (Ja bs),dI z])∧Qd m':=fun t r r1 r2 =>
   Jbk w ⟨m.kind,t,m.frm,m.round,m.call,m.vals,m.seqs,m.done⟩ (hr.go (q:=r) (by omega) (by omega)) (by omega) hok hm hmq hmd
  refine Jt7 (fun _=>?_) (fun _=>?_)
  ·refine Jd 4 (hr.go (q:=o) (by omega) (by omega)) (by omega) (by omega) rfl rfl fun u _ _=>?_;simp only[sC,sN];refine Jt7 (fun _=>?_) (fun _=>?_)
   ·refine Jd 20 (hr.go (q:=o+1) (by omega) (by omega)) (by omega) (by omega) rfl rfl fun v _ _=>?_;simp only[sC,sN];refine Jt7 (fun _=>?_) (fun _=>Jt9 ⟨⟨m.kind,k,m.frm,m.round,m.call,m.vals,m.seqs,m.done⟩,rfl,hm⟩);obtain⟨m2,z,e2,h2⟩:=bad k (o+1+1) (by omega) (by omega);exact JtL (vs:=[.i m2.kind,.i m2.to,.i m2.frm,.i m2.round,.i m2.call.client,.i m2.call.seq,.i m2.call.act,.l (dL m2.call.args),.l (dL m2.vals),.l (dL m2.seqs),.l (dDs m2.done),.l (Ja bs),.i z]) e2 rfl rfl rfl (Jt9 ⟨m2,rfl,h2⟩)
   ·refine Jd 20 (hr.go (q:=o+1) (by omega) (by omega)) (by omega) (by omega) rfl rfl fun v _ _=>?_;simp only[sC,sN];refine Jt7 (fun _=>?_) (fun _=>Jt9 ⟨m,rfl,hm⟩);obtain⟨m2,z,e2,h2⟩:=bad m.to (o+1+1) (by omega) (by omega);exact JtL (vs:=[.i m2.kind,.i m2.to,.i m2.frm,.i m2.round,.i m2.call.client,.i m2.call.seq,.i m2.call.act,.l (dL m2.call.args),.l (dL m2.vals),.l (dL m2.seqs),.l (dDs m2.done),.l (Ja bs),.i z]) e2 rfl rfl rfl (Jt9 ⟨m2,rfl,h2⟩)
  ·refine Jd 20 (hr.go (q:=o) (by omega) (by omega)) (by omega) (by omega) rfl rfl fun v _ _=>?_;simp only[sC,sN];refine Jt7 (fun _=>?_) (fun _=>Jt9 ⟨m,rfl,hm⟩);obtain⟨m2,z,e2,h2⟩:=bad m.to (o+1) (by omega) (by omega);exact JtL (vs:=[.i m2.kind,.i m2.to,.i m2.frm,.i m2.round,.i m2.call.client,.i m2.call.seq,.i m2.call.act,.l (dL m2.call.args),.l (dL m2.vals),.l (dL m2.seqs),.l (dDs m2.done),.l (Ja bs),.i z]) e2 rfl rfl rfl (Jt9 ⟨m2,rfl,h2⟩)
 obtain⟨ds,e,m2,rfl,h⟩:=key;exact⟨l,s,k,m2,e,hl,hs,h⟩
theorem Jex {p:Pln} {s:Sit} {k:Int}:Xp p s k=true↔JC p=true∧(0≤k∧k<p.gives.length)∧J2 p s k=true:=by
 unfold Xp;rw[Jui,Jui,Ys]
def UJ (s:Sit) (k:Int):Msg:=⟨2,k,0,s.round,⟨0,0,0,[]⟩,[],[],[]⟩
set_option maxHeartbeats 1000000 in
theorem JeK (ns:List Int) (hb :∀x∈ns,0≤x∧x<256):Ev L f_k61 [.s (Ja ns)] [dB true]:=by
 refine Jud (vs:=[.l (Ja ns)]) L_k61 rfl ?_;refine Jt2 (1048576<((Ja ns).length:Int)) rfl (fun _=>Jt9 rfl) (fun _=>?_);obtain⟨p,s,k,m0,hd,hp,hs,hm0⟩:=JdB ns hb;have hm:Qd (UJ s k):=⟨by simp[UJ],by simp[UJ],by simp[UJ],by simp[UJ],fun d hd=>by simp[UJ] at hd⟩;have h1:=JbX p s k (UJ s k) hp hs hm;have h2:=JiK p s k (UJ s k) hp hs hm;obtain⟨hf,hfm,hlm⟩:=Ji6 p k hs hm;refine JtL (vs:=[.i p.n,.l (Je p.acts),.l (dL p.gives),.l (dL p.start),.b s.up,.b s.frozen,.i s.round,.l (dL s.base),.l (dL s.added),.l (dDs s.done),.i k,.i m0.kind,.i m0.to,.i m0.frm,.i m0.round,.i m0.call.client,.i m0.call.seq,.i m0.call.act,.l (dL m0.call.args),.l (dL m0.vals),.l (dL m0.seqs),.l (dDs m0.done)]) hd rfl rfl rfl ?_;simp only[sC,sN];generalize hq:Ql p s k (UJ s k)=q at *;obtain⟨x,ms⟩:=q;simp only at h1 h2 hf hfm hlm;refine JtL (vs:=[.b x.up,.b x.frozen,.i x.round,.l (dL x.base),.l (dL x.added),.l (dDs x.done),.l (dMs ms)]) h1 rfl rfl rfl ?_;simp only[sC,sN];refine JtL (vs:=[.b x.up,.b x.frozen,.i x.round,.l (dL x.base),.l (dL x.added),.l (dDs x.done),.l (dMs ms)]) h2 rfl rfl rfl ?_;simp only[sC,sN];have hcs:=Jid x hf;refine JtL hcs rfl rfl rfl (JtG rfl ?_);have hnet:=JjF ms ⟨by omega,hfm⟩;refine JtL hnet rfl rfl rfl (JtG rfl ?_);simp only[sC,sN];refine JtL (JfH p s k hp hs) rfl rfl rfl ?_;simp only[sC,sN];have zero:(Xp p s k&&Yu p (UJ s k))=false→ms=[]:=fun h=>by
  unfold Ql at hq;rw[if_neg (by simp[h])] at hq;cases hq;rfl
 have fin:ms=[]→(decide (((dMs ms).length:Int)=0))=true:=fun e=>by rw[e];rfl
 refine JtI (Xp p s k) rfl (fun h=>?_) (fun h=>?_)
 ·exact Jt1 (fin (zero (by rw[h];rfl))) (JtL WN rfl rfl rfl (Jt9 rfl))
 refine JtL (JfW p (UJ s k) hp hm) rfl rfl rfl ?_;simp only[sC,sN];refine JtI (Yu p (UJ s k)) rfl (fun h3=>?_) (fun h3=>?_)
 ·exact Jt1 (fin (zero (by rw[h3];simp))) (JtL WN rfl rfl rfl (Jt9 rfl))
 have em:ms=Xw s k (UJ s k):=by unfold Ql at hq;rw[if_pos (by rw[h,h3];rfl)] at hq;cases hq;rfl
 have ex:x=Xv p s k (UJ s k):=by unfold Ql at hq;rw[if_pos (by rw[h,h3];rfl)] at hq;cases hq;rfl
 refine JtI s.up rfl (fun hu=>?_) (fun hu=>?_)
 ·have e:ms=[]:=by rw[em];unfold Xw;rw[if_neg (fun q=>by rw[hu] at q;cases q.1)]
  exact Jt1 (fin e) (JtL WN rfl rfl rfl (Jt9 rfl))
 obtain⟨hpo,hk,hso⟩:=Jex.1 h;obtain⟨e1,e2⟩:=Jgy (p:=p) (s:=s) (k:=k) (m:=UJ s k) hu rfl rfl rfl;rw[e1] at ex;rw[e2] at em;have hxok:Xp p x k=true:=Jex.2 ⟨hpo,hk,by rw[ex];exact hso⟩;have f1:YN p x k false=⟨false,x.frozen,x.round,x.base,x.added,x.done⟩:=by unfold YN;rw[hxok];rfl
 have hff:=Jh8 p k false hf;have g1:=Jb1 p x k false hp hf;rw[f1] at g1 hff;have hfok:Xp p ⟨false,x.frozen,x.round,x.base,x.added,x.done⟩ k=true:=hxok;have f2:YN p ⟨false,x.frozen,x.round,x.base,x.added,x.done⟩ k true=x:=by unfold YN;rw[hfok,ex];simp[hu]
 have g2:=Jb1 p ⟨false,x.frozen,x.round,x.base,x.added,x.done⟩ k true hp hff;rw[f2] at g2;have hxu:x.up=true:=by rw[ex];exact hu
 have hxr:x.round=s.round:=by rw[ex]
 obtain⟨e3,e4⟩:=Jgy (p:=p) (s:=x) (k:=k) (m:=UJ s k) hxu rfl rfl (by rw[hxr];rfl);have e5:Ql p x k (UJ s k)=(x,ms):=by
  unfold Ql;rw[if_pos (by rw[hxok,h3];rfl),e3,e4,em,ex];rfl
 have g3:=JbX p x k (UJ s k) hp hf hm;rw[e5] at g3;refine JtL (vs:=[.b false,.b x.frozen,.i x.round,.l (dL x.base),.l (dL x.added),.l (dDs x.done)]) g1 rfl rfl rfl ?_;simp only[sC,sN];refine JtL (vs:=[.b x.up,.b x.frozen,.i x.round,.l (dL x.base),.l (dL x.added),.l (dDs x.done)]) g2 rfl rfl rfl ?_;simp only[sC,sN];refine JtL (vs:=[.b x.up,.b x.frozen,.i x.round,.l (dL x.base),.l (dL x.added),.l (dDs x.done),.l (dMs ms)]) g3 rfl rfl rfl ?_;simp only[sC,sN];have hl1:ms.length=1:=by rw[em];rfl
 refine JtG (by show (!decide (((dMs ms).length:Int)=1))=false;rw[Qy,hl1];rfl) ?_;refine JtL hnet rfl rfl rfl (JtG rfl ?_);refine JtL hcs rfl rfl rfl (JtG rfl ?_);refine JtG (by show (!x.frozen)=false;rw[ex];rfl) ?_;simp only[sC,sN];have hgm:(dMs ms)[0]? = some (JJ s k).g:=by rw[em];rfl
 have hgo:=JlL hso hk;have hgf:Qd (JJ s k):=(Kg hpo hgo).fit;have hio:=JfR p (JJ s k) hp hgf;have emo:Yu p (JJ s k)=true:=by unfold Yu;rw[hpo,hgo];rfl
 rw[emo] at hio;have hpos:(0:Int)<((dMs ms).length:Int):=by rw[Qy,hl1];omega
 refine JtF ((0:Int)<((dMs ms).length:Int)) rfl hpos ?_;refine JtJ (ds:=dMs ms) (d:=(JJ s k).g) (vs:=[.i (JJ s k).kind,.i (JJ s k).to,.i (JJ s k).frm,.i (JJ s k).round,.i (JJ s k).call.client,.i (JJ s k).call.seq,.i (JJ s k).call.act,.l (dL (JJ s k).call.args),.l (dL (JJ s k).vals),.l (dL (JJ s k).seqs),.l (dDs (JJ s k).done)]) 0 rfl rfl rfl (by omega) hgm rfl ?_;simp only[sC,sN];refine JtL hio rfl rfl rfl (JtG rfl ?_);simp only[sC,sN];refine JtF ((0:Int)<((dMs ms).length:Int)) rfl hpos ?_;refine JtJ (ds:=dMs ms) (d:=(JJ s k).g) (vs:=[.i (JJ s k).kind,.i (JJ s k).to,.i (JJ s k).frm,.i (JJ s k).round,.i (JJ s k).call.client,.i (JJ s k).call.seq,.i (JJ s k).call.act,.l (dL (JJ s k).call.args),.l (dL (JJ s k).vals),.l (dL (JJ s k).seqs),.l (dDs (JJ s k).done)]) 0 rfl rfl rfl (by omega) hgm rfl ?_;simp only[sC,sN];have hsl:=hs.2.2.1;have hsq:(QV s.done).length=s.done.length:=by simp[QV]
 refine Jt5 s.done.length (fun i=>[.i i]) (fun _=>True) rfl rfl trivial fun i hi _=>?_;simp only[sC,sN];refine JtN i (show (dL (JJ s k).seqs).length=s.done.length by rw[dL1];exact hsq) rfl (fun h'=>?_) (fun h'=>JtX ?_)
 ·obtain⟨d,hd2,_⟩:=sA1 h';have hq2:(QV s.done)[i]? = some d.seq:=by simp[QV,hd2]
  refine Jt3 (vs:=[.i d.seq]) i (mA1 (f:=dI) hq2) rfl rfl rfl rfl ?_;refine Jt3 (vs:=[.i d.seq,.i d.code,.l (dL d.tells)]) i (mA1 (f:=Don.g) hd2) rfl rfl rfl rfl ?_;simp only[sC,sN];refine JtG (by show (!decide (d.seq=d.seq))=false;simp) ?_;exact JtH (vs:=[.i ((i+1:Nat):Int)]) (by rw[←wS h' (by omega)];rfl) ⟨h',rfl,trivial⟩
 refine Jt1 rfl ?_;refine Jt1 (by show decide (k=k)=true;simp) ?_;refine Jt1 (by show decide (s.round=s.round)=true;simp) ?_;exact JtL (Yz s.added hs.2.1) rfl rfl rfl (Jt1 rfl (Jt9 rfl))
end Go.Proofs.YtofcmnglieaoeaaGreatDoor

import Derived.Test.YtdmjmcegcpdenaaGreatDoorPZZH
import Derived.Test.YtdmjmcegcpdenaaGreatDoorPZR
set_option linter.unusedVariables false
set_option linter.unusedSimpArgs false
/- Worlds' steps,the whole of them,by the reference: over residual programs. -/
namespace Go.Proofs.YtdmjmcegcpdenaaGreatDoor
open Go Go.Tm
theorem JjJ (w:Wrl) (hf:JjZ w):Ev L f_k1z w.cells w.cells:=by
 refine Jtg (vs:=[.i w.p.n,.l (Jd w.p.acts),.l (dL w.p.gives),.l (dL w.p.start),.l (dSt w.sites),.b w.c.up,.i w.c.round,.l (dL w.c.base),.l (dDs w.c.done),.l (dCs w.c.wants),.l (dGs w.c.got),.l (dCn w.cons),.l (dMs w.net),.l (dLg w.log)]) L_k1z rfl ?_
 obtain⟨fp,fs,fc,fn,fm,fl⟩:=hf
 have s0:=fs.1
 have n0:=fn.1
 have m0:=fm.1
 have l0:=fl.1
 refine JsZ (vs:=[.i w.p.n,.l (Jd w.p.acts),.l (dL w.p.gives),.l (dL w.p.start)]) (JiS w.p fp) rfl rfl rfl ?_
 simp only[sC,sN]
 refine JsZ (vs:=[.b w.c.up,.i w.c.round,.l (dL w.c.base),.l (dDs w.c.done),.l (dCs w.c.wants),.l (dGs w.c.got)]) (Vy w.c fc) rfl rfl rfl ?_
 simp only[sC,sN]
 refine Js2 w.sites.length (fun i=>[.l (dSt (w.sites.take i)),.i i]) (fun _=>True) rfl rfl trivial fun i hi _=>?_
 simp only[sC,sN]
 refine JsY i (Qx w.sites) rfl (fun h'=>?_) (fun h'=>JsS ?_)
 ·obtain⟨x,hx,hm⟩:=sA1 h'
  refine Js9 (vs:=[.b x.up,.b x.frozen,.i x.round,.l (dL x.base),.l (dL x.added),.l (dDs x.done)]) i (mA1 (f:=Sit.g) hx) rfl rfl rfl rfl ?_
  simp only[sC,sN]
  refine JsZ (vs:=[.b x.up,.b x.frozen,.i x.round,.l (dL x.base),.l (dL x.added),.l (dDs x.done)]) (KT x (fs.2 x hm)) rfl rfl rfl ?_
  simp only[sC,sN]
  refine JsX (dSt (w.sites.take i)) 2000000 (by rw[Qx,List.length_take];omega) (by omega) rfl ?_
  refine Js3 (vs:=[.l (dSt (w.sites.take (i+1))),.i ((i+1:Nat):Int)]) ?_ ⟨h',rfl,trivial⟩
  rw[←wS h' (by omega),tS1 hx]
  show [V.l (dSt (w.sites.take i)++[x.g]),V.i (IntKind.i64.wrap ((i:Int)+1))]=_
  simp only[dSt,List.map_append,List.map_cons,List.map_nil]
 rw[tA1 h']
 clear h' hi
 refine Js2 w.cons.length (fun i=>[.l (dCn (w.cons.take i)),.i i]) (fun _=>True) rfl rfl trivial fun i hi _=>?_
 simp only[sC,sN]
 refine JsY i (Qn w.cons) rfl (fun h'=>?_) (fun h'=>JsS ?_)
 ·obtain⟨x,hx,hm⟩:=sA1 h'
  have hxf:=fn.2 x hm
  refine Js9 (vs:=[.i x.seq,.b x.busy,.i x.call.client,.i x.call.seq,.i x.call.act,.l (dL x.call.args),.i x.code,.l (dL x.tells)]) i (mA1 (f:=Con.g) hx) rfl rfl rfl rfl ?_
  simp only[sC,sN]
  refine JsZ (vs:=[.i x.call.client,.i x.call.seq,.i x.call.act,.l (dL x.call.args)]) (JU x.call hxf.1) rfl rfl rfl ?_
  simp only[sC,sN]
  refine JsZ (vs:=[.i x.code,.l (dL x.tells)]) (J8 x.code x.tells hxf.2) rfl rfl rfl ?_
  simp only[sC,sN]
  refine JsX (dCn (w.cons.take i)) 2000000 (by rw[Qn,List.length_take];omega) (by omega) rfl ?_
  refine Js3 (vs:=[.l (dCn (w.cons.take (i+1))),.i ((i+1:Nat):Int)]) ?_ ⟨h',rfl,trivial⟩
  rw[←wS h' (by omega),tS1 hx]
  show [V.l (dCn (w.cons.take i)++[x.g]),V.i (IntKind.i64.wrap ((i:Int)+1))]=_
  simp only[dCn,List.map_append,List.map_cons,List.map_nil]
 rw[tA1 h']
 clear h' hi
 refine Js2 w.net.length (fun i=>[.l (dMs (w.net.take i)),.i i]) (fun _=>True) rfl rfl trivial fun i hi _=>?_
 simp only[sC,sN]
 refine JsY i (Xb w.net) rfl (fun h'=>?_) (fun h'=>JsS ?_)
 ·obtain⟨x,hx,hm⟩:=sA1 h'
  refine Js9 (vs:=[.i x.kind,.i x.to,.i x.frm,.i x.round,.i x.call.client,.i x.call.seq,.i x.call.act,.l (dL x.call.args),.l (dL x.vals),.l (dL x.seqs),.l (dDs x.done)]) i (mA1 (f:=Msg.g) hx) rfl rfl rfl rfl ?_
  simp only[sC,sN]
  refine JsZ (vs:=[.i x.kind,.i x.to,.i x.frm,.i x.round,.i x.call.client,.i x.call.seq,.i x.call.act,.l (dL x.call.args),.l (dL x.vals),.l (dL x.seqs),.l (dDs x.done)]) (JeY x (fm.2 x hm)) rfl rfl rfl ?_
  simp only[sC,sN]
  refine JsX (dMs (w.net.take i)) 2000000 (by rw[Xb,List.length_take];omega) (by omega) rfl ?_
  refine Js3 (vs:=[.l (dMs (w.net.take (i+1))),.i ((i+1:Nat):Int)]) ?_ ⟨h',rfl,trivial⟩
  rw[←wS h' (by omega),tS1 hx]
  show [V.l (dMs (w.net.take i)++[x.g]),V.i (IntKind.i64.wrap ((i:Int)+1))]=_
  simp only[dMs,List.map_append,List.map_cons,List.map_nil]
 rw[tA1 h']
 clear h' hi
 refine Js2 w.log.length (fun i=>[.l (dLg (w.log.take i)),.i i]) (fun _=>True) rfl rfl trivial fun i hi _=>?_
 simp only[sC,sN]
 refine JsY i (Jat w.log) rfl (fun h'=>?_) (fun h'=>JsS (JsN ?_))
 ·obtain⟨x,hx,hm⟩:=sA1 h'
  have hxf:=fl.2 x hm
  refine Js9 (vs:=[.i x.call.client,.i x.call.seq,.i x.call.act,.l (dL x.call.args),.i x.code,.l (dL x.tells)]) i (mA1 (f:=UI.g) hx) rfl rfl rfl rfl ?_
  simp only[sC,sN]
  refine JsZ (vs:=[.i x.call.client,.i x.call.seq,.i x.call.act,.l (dL x.call.args)]) (JU x.call hxf.1) rfl rfl rfl ?_
  simp only[sC,sN]
  refine Js9 (vs:=[.i x.call.client,.i x.call.seq,.i x.call.act,.l (dL x.call.args),.i x.code,.l (dL x.tells)]) i (mA1 (f:=UI.g) hx) rfl rfl rfl rfl ?_
  simp only[sC,sN]
  refine JsZ (vs:=[.i x.code,.l (dL x.tells)]) (J8 x.code x.tells hxf.2) rfl rfl rfl ?_
  simp only[sC,sN]
  refine JsX (dLg (w.log.take i)) 2000000 (by rw[Jat,List.length_take];omega) (by omega) rfl ?_
  refine Js3 (vs:=[.l (dLg (w.log.take (i+1))),.i ((i+1:Nat):Int)]) ?_ ⟨h',rfl,trivial⟩
  rw[←wS h' (by omega),tS1 hx]
  show [V.l (dLg (w.log.take i)++[x.g]),V.i (IntKind.i64.wrap ((i:Int)+1))]=_
  simp only[dLg,List.map_append,List.map_cons,List.map_nil]
 ·rw[tA1 h'];rfl
theorem JpE {w:Wrl} (h:OkW w) {k:Int} (hk:0≤k):0≤Int.tmod k w.p.gives.length∧Int.tmod k w.p.gives.length<w.sites.length:=by
 have hg:=Qo h.pln
 have hs:=h.sl
 exact⟨Int.tmod_nonneg _ hk,by rw[hs];exact Int.tmod_lt_of_pos _ (by omega)⟩
theorem Jez (w:Wrl) (k:Int) (u:Bool) (h:OkW w) :
  ∃ w':Wrl,Ev L f_k2e (w.cells++[.s (dLL (Jb w.p.acts)),.s (dBl (Jj w.p.acts)),dI k,dB u]) w'.out∧OkW w'∧w'.p=w.p:=by
 have key : ∃ ds,Ev L f_k2e (w.cells++[.s (dLL (Jb w.p.acts)),.s (dBl (Jj w.p.acts)),dI k,dB u]) ds∧∃ w':Wrl,ds=w'.out∧OkW w'∧w'.p=w.p:=by
  refine Jth (vs:=[.i w.p.n,.l (Jd w.p.acts),.l (dL w.p.gives),.l (dL w.p.start),.l (dSt w.sites),.b w.c.up,.i w.c.round,.l (dL w.c.base),.l (dDs w.c.done),.l (dCs w.c.wants),.l (dGs w.c.got),.l (dCn w.cons),.l (dMs w.net),.l (dLg w.log),.l (dLL (Jb w.p.acts)),.l (dBl (Jj w.p.acts)),.i k,.b u]) L_k2e rfl ?_
  have hn:=Qm h.pln
  have hnl:=h.nl
  have hg:=Qo h.pln
  have same : ∃ w':Wrl,w.out=w'.out∧OkW w'∧w'.p=w.p:=⟨w,rfl,h,rfl⟩
  refine JsZ (JL k 0 ((w.cons.length:Int)-1)) rfl (by show [dI k,dI 0,dI (IntKind.i64.wrap (((dCn w.cons).length:Int)-1))]=_;rw[Qn,w64 (by omega) (by omega)]) rfl ?_
  simp only[sC,sN]
  refine Jte (inB k 0 ((w.cons.length:Int)-1)) rfl (fun _=>JsN same) (fun hk=>?_)
  have hk:=Jec.1 hk
  obtain⟨x,hx,hxm⟩:=sA1 (l:=w.cons) (i:=k.toNat) (by omega)
  have hco:=Ky.1 (h.cons _ x hx)
  have hcl:k<(dCn w.cons).length:=by rw[Qn];exact hk.2
  refine Js4 (0≤k) rfl hk.1 (Js4 (k<((dCn w.cons).length:Int)) rfl hcl ?_)
  refine Jtd (ds:=dCn w.cons) (d:=x.g) (vs:=[.i x.seq,.b x.busy,.i x.call.client,.i x.call.seq,.i x.call.act,.l (dL x.call.args),.i x.code,.l (dL x.tells)]) k rfl rfl rfl hk.1 (mA1 (f:=Con.g) hx) rfl ?_
  simp only[sC,sN]
  refine Jte x.busy rfl (fun _=>JsN same) (fun hb=>?_)
  obtain⟨hcall,hcc,hcs⟩:=hco.2.1 hb
  have hck:x.call.client=k:=by omega
  refine Js4 (0≤k) rfl hk.1 (Js4 (k<((dCn w.cons).length:Int)) rfl hcl ?_)
  refine Jtd (ds:=dCn w.cons) (d:=x.g) (vs:=[.i x.seq,.b x.busy,.i x.call.client,.i x.call.seq,.i x.call.act,.l (dL x.call.args),.i x.code,.l (dL x.tells)]) k rfl rfl rfl hk.1 (mA1 (f:=Con.g) hx) rfl ?_
  simp only[sC,sN]
  obtain⟨t0,t1⟩:=JpE h hk.1
  have hgl:(dL w.p.gives).length=w.p.gives.length:=dL1 _
  generalize ht:Int.tmod k w.p.gives.length=q at *
  have eq:Int.tmod k ((dL w.p.gives).length:Int)=q:=by rw[hgl];exact ht
  obtain⟨s,hs,hsm⟩:=sA1 (l:=w.sites) (i:=q.toNat) (by omega)
  have hq:((q.toNat:Nat):Int)=q:=by omega
  have hso:J4 w.p s q=true:=by have:=h.sites _ s hs;rwa [hq] at this
  have b1:decide (0≤Int.tmod k ((dL w.p.gives).length:Int))=true:=by rw[eq];exact decide_eq_true t0
  have b2 :∀l:List D,l.length=w.sites.length→decide (Int.tmod k ((dL w.p.gives).length:Int)<(l.length:Int))=true:=fun l hl=>by rw[eq,hl];exact decide_eq_true t1
  refine Js8 (by show (!decide (((dL w.p.gives).length:Int)=0))=true;rw[hgl,Bool.not_eq_true',decide_eq_false_iff_not];omega) ?_
  refine Js8 b1 (Js8 (b2 _ (Qx _)) ?_)
  refine Jtd (ds:=dSt w.sites) (d:=s.g) (vs:=[.b s.up,.b s.frozen,.i s.round,.l (dL s.base),.l (dL s.added),.l (dDs s.done)]) q rfl rfl eq t0 (mA1 (f:=Sit.g) hs) rfl ?_
  simp only[sC,sN]
  obtain⟨hla,hdo,hlm⟩:=Jct hso hcall
  rw[hck] at hla
  refine Jtd (ds:=dDs s.done) (d:=(JX s x.call).g) (vs:=[.i (JX s x.call).seq,.i (JX s x.call).code,.l (dL (JX s x.call).tells)]) k rfl rfl rfl hk.1 (mA1 (f:=Don.g) hla) rfl ?_
  simp only[sC,sN]
  refine Js8 b1 (Js8 (b2 _ (Qx _)) ?_)
  refine Jtd (ds:=dSt w.sites) (d:=s.g) (vs:=[.b s.up,.b s.frozen,.i s.round,.l (dL s.base),.l (dL s.added),.l (dDs s.done)]) q rfl rfl eq t0 (mA1 (f:=Sit.g) hs) rfl ?_
  simp only[sC,sN]
  have hfi:=Jqg h.pln hso hcall
  have hft:=Jpe w.p q (Vw h.pln hso) (Zj hcall)
  have hev:=JoC w.p s q x.call (Zm h.pln) (Vw h.pln hso) (Zj hcall) h.pln hso hcall
  generalize Wi w.p s q x.call=r at *
  refine JsZ (vs:=[.b r.site.up,.b r.site.frozen,.i r.site.round,.l (dL r.site.base),.l (dL r.site.added),.l (dDs r.site.done),.i r.code,.l (dL r.tells),.l (dMs r.said)]) hev rfl (by
   show [dI w.p.n,.s (Jd w.p.acts),.s (dL w.p.gives),.s (dL w.p.start),.s (dLL (Jb w.p.acts)),.s (dBl (Jj w.p.acts)),dB s.up,dB s.frozen,dI s.round,.s (dL s.base),.s (dL s.added),.s (dDs s.done),dI (Int.tmod k ((dL w.p.gives).length:Int)),dI x.call.client,dI x.call.seq,dI x.call.act,D.s (dL x.call.args)]=_
   rw[eq];rfl) rfl ?_
  simp only[sC,sN]
  refine Js8 b1 (Js8 (b2 _ (Qx _)) ?_)
  refine Jtd (ds:=dSt w.sites) (d:=s.g) (vs:=[.b s.up,.b s.frozen,.i s.round,.l (dL s.base),.l (dL s.added),.l (dDs s.done)]) q rfl rfl eq t0 (mA1 (f:=Sit.g) hs) rfl ?_
  simp only[sC,sN]
  have hset:(dSt w.sites).set q.toNat (.g [dB r.site.up,dB r.site.frozen,dI r.site.round,.s (dL r.site.base),.s (dL r.site.added),.s (dDs r.site.done)])=dSt (w.sites.set q.toNat r.site):=by simp only[dSt,List.map_set];rfl
  have h1:OkW ⟨w.p,w.sites.set q.toNat r.site,w.c,w.cons,w.net,w.log⟩:=h.setSite (k:=q.toNat) (by rw[hq];exact hfi.site)
  have h2:=W8 h1 hfi.said
  have hsd:=ZV ⟨w.p,w.sites.set q.toNat r.site,w.c,w.cons,w.net,w.log⟩ r.said h1.ml ⟨by have:=hfi.one;omega,hft.2.1⟩
  have hp2:(Z8 ⟨w.p,w.sites.set q.toNat r.site,w.c,w.cons,w.net,w.log⟩ r.said).p=w.p:=rfl
  have hcn2:(Z8 ⟨w.p,w.sites.set q.toNat r.site,w.c,w.cons,w.net,w.log⟩ r.said).cons=w.cons:=rfl
  generalize Z8 ⟨w.p,w.sites.set q.toNat r.site,w.c,w.cons,w.net,w.log⟩ r.said=w2 at *
  refine JsZ (vs:=[.i w2.p.n,.l (Jd w2.p.acts),.l (dL w2.p.gives),.l (dL w2.p.start),.b w2.c.up,.i w2.c.round,.l (dL w2.c.base),.l (dDs w2.c.done),.l (dCs w2.c.wants),.l (dGs w2.c.got),.l (dSt w2.sites),.l (dCn w2.cons),.l (dMs w2.net),.l (dLg w2.log)]) hsd rfl (by
   show [dI w.p.n,.s (Jd w.p.acts),.s (dL w.p.gives),.s (dL w.p.start),.s ((dSt w.sites).set (Int.tmod k ((dL w.p.gives).length:Int)).toNat (.g [dB r.site.up,dB r.site.frozen,dI r.site.round,.s (dL r.site.base),.s (dL r.site.added),.s (dDs r.site.done)])),dB w.c.up,dI w.c.round,.s (dL w.c.base),.s (dDs w.c.done),.s (dCs w.c.wants),.s (dGs w.c.got),.s (dCn w.cons),.s (dMs w.net),.s (dLg w.log),.s (dMs r.said)]=_
   rw[eq,hset];rfl) rfl ?_
  simp only[sC,sN]
  obtain⟨hla2,hdo2,hlm2⟩:=Jct hfi.site hcall
  rw[hck] at hla2
  refine Jtd (ds:=dDs r.site.done) (d:=(JX r.site x.call).g) (vs:=[.i (JX r.site x.call).seq,.i (JX r.site x.call).code,.l (dL (JX r.site x.call).tells)]) k rfl rfl rfl hk.1 (mA1 (f:=Don.g) hla2) rfl ?_
  simp only[sC,sN]
  have hrt:=hfi.len
  have hsq:=(QR.1 hcall).2.1
  have conn:r.code≠0→∀w3:Wrl,OkW w3→w3.p=w.p→w3.cons=w.cons→OkW ⟨w3.p,w3.sites,w3.c,w3.cons.set k.toNat ⟨x.call.seq,false,⟨0,0,0,[]⟩,r.code,r.tells⟩,w3.net,w3.log⟩:=fun hne w3 ho hp3 _=>by
   refine ho.setCon (k:=k.toNat) (Ky.2 ⟨Ym.2 (.inr ⟨hsq.1,hsq.2,?_⟩),fun q=>Bool.noConfusion q,fun _=>rfl⟩)
   rcases hfi.res with q | q
   ·exact absurd q.1 hne
   ·exact q
  refine JsI ((JX s x.call).seq<(JX r.site x.call).seq) rfl (fun hmore=>?_) (fun hmore=>?_)
  ·have hr:=hfi.more hmore
   have hc2:Jw w2.p x.call=true:=by rw[hp2];exact hcall
   obtain⟨h3,hp3⟩:=Jg0 h2 hc2 hr
   have hwr:=JbS w2 x.call r.code r.tells (Zj hcall) hrt
   have hcn3:(Zd w2 x.call r.code r.tells).cons=w.cons:=by unfold Zd;split <;> exact hcn2
   generalize Zd w2 x.call r.code r.tells=w3 at *
   refine JsZ (vs:=[.i w3.p.n,.l (Jd w3.p.acts),.l (dL w3.p.gives),.l (dL w3.p.start),.b w3.c.up,.i w3.c.round,.l (dL w3.c.base),.l (dDs w3.c.done),.l (dCs w3.c.wants),.l (dGs w3.c.got),.l (dSt w3.sites),.l (dCn w3.cons),.l (dMs w3.net),.l (dLg w3.log)]) hwr rfl rfl rfl ?_
   simp only[sC,sN]
   refine Jte (decide (r.code=0)) rfl (fun hc0=>?_) (fun _=>JsN ⟨w3,rfl,h3,by rw[hp3,hp2]⟩)
   have hc0:r.code≠0:=by simpa using hc0
   refine Jte u rfl (fun _=>?_) (fun _=>JsN ⟨w3,rfl,h3,by rw[hp3,hp2]⟩)
   refine JsZ (vs:=[.i r.code,.l (dL r.tells)]) (J8 r.code r.tells hrt) rfl rfl rfl ?_
   simp only[sC,sN]
   refine Js4 (0≤k) rfl hk.1 (Js4 (k<((dCn w3.cons).length:Int)) rfl (by rw[Qn,hcn3];exact hk.2) ?_)
   refine Jtd (ds:=dCn w3.cons) (d:=x.g) (vs:=[.i x.seq,.b x.busy,.i x.call.client,.i x.call.seq,.i x.call.act,.l (dL x.call.args),.i x.code,.l (dL x.tells)]) k rfl rfl rfl hk.1 (by rw[hcn3];exact mA1 (f:=Con.g) hx) rfl (JsN ?_)
   refine⟨_,?_,conn hc0 w3 h3 (by rw[hp3,hp2]) hcn3,by rw[hp3,hp2]⟩
   show [dI w3.p.n,.s (Jd w3.p.acts),.s (dL w3.p.gives),.s (dL w3.p.start),dB w3.c.up,dI w3.c.round,.s (dL w3.c.base),.s (dDs w3.c.done),.s (dCs w3.c.wants),.s (dGs w3.c.got),.s (dSt w3.sites),.s ((dCn w3.cons).set k.toNat (.g [dI x.call.seq,dB false,dI 0,dI 0,dI 0,.s [],dI r.code,.s (dL r.tells)])),.s (dMs w3.net),.s (dLg w3.log)]=[dI w3.p.n,.s (Jd w3.p.acts),.s (dL w3.p.gives),.s (dL w3.p.start),dB w3.c.up,dI w3.c.round,.s (dL w3.c.base),.s (dDs w3.c.done),.s (dCs w3.c.wants),.s (dGs w3.c.got),.s (dSt w3.sites),.s (dCn (w3.cons.set k.toNat ⟨x.call.seq,false,⟨0,0,0,[]⟩,r.code,r.tells⟩)),.s (dMs w3.net),.s (dLg w3.log)]
   simp only[dCn,List.map_set];rfl
  ·refine Jte (decide (r.code=0)) rfl (fun hc0=>?_) (fun _=>JsN ⟨w2,rfl,h2,hp2⟩)
   have hc0:r.code≠0:=by simpa using hc0
   refine Jte u rfl (fun _=>?_) (fun _=>JsN ⟨w2,rfl,h2,hp2⟩)
   refine JsZ (vs:=[.i r.code,.l (dL r.tells)]) (J8 r.code r.tells hrt) rfl rfl rfl ?_
   simp only[sC,sN]
   refine Js4 (0≤k) rfl hk.1 (Js4 (k<((dCn w2.cons).length:Int)) rfl (by rw[Qn,hcn2];exact hk.2) ?_)
   refine Jtd (ds:=dCn w2.cons) (d:=x.g) (vs:=[.i x.seq,.b x.busy,.i x.call.client,.i x.call.seq,.i x.call.act,.l (dL x.call.args),.i x.code,.l (dL x.tells)]) k rfl rfl rfl hk.1 (by rw[hcn2];exact mA1 (f:=Con.g) hx) rfl (JsN ?_)
   refine⟨_,?_,conn hc0 w2 h2 hp2 hcn2,hp2⟩
   show [dI w2.p.n,.s (Jd w2.p.acts),.s (dL w2.p.gives),.s (dL w2.p.start),dB w2.c.up,dI w2.c.round,.s (dL w2.c.base),.s (dDs w2.c.done),.s (dCs w2.c.wants),.s (dGs w2.c.got),.s (dSt w2.sites),.s ((dCn w2.cons).set k.toNat (.g [dI x.call.seq,dB false,dI 0,dI 0,dI 0,.s [],dI r.code,.s (dL r.tells)])),.s (dMs w2.net),.s (dLg w2.log)]=[dI w2.p.n,.s (Jd w2.p.acts),.s (dL w2.p.gives),.s (dL w2.p.start),dB w2.c.up,dI w2.c.round,.s (dL w2.c.base),.s (dDs w2.c.done),.s (dCs w2.c.wants),.s (dGs w2.c.got),.s (dSt w2.sites),.s (dCn (w2.cons.set k.toNat ⟨x.call.seq,false,⟨0,0,0,[]⟩,r.code,r.tells⟩)),.s (dMs w2.net),.s (dLg w2.log)]
   simp only[dCn,List.map_set];rfl
 obtain⟨ds,e,w',rfl,h⟩:=key
 exact⟨w',e,h⟩
theorem Jif (w:Wrl) (k:Int) (h:OkW w) :
  ∃ w':Wrl,Ev L f_k2p (w.cells++[.s (dLL (Jb w.p.acts)),.s (dBl (Jj w.p.acts)),dI k]) w'.out2∧OkW w'∧w'.p=w.p:=by
 have key : ∃ ds,Ev L f_k2p (w.cells++[.s (dLL (Jb w.p.acts)),.s (dBl (Jj w.p.acts)),dI k]) ds∧∃ w':Wrl,ds=w'.out2∧OkW w'∧w'.p=w.p:=by
  refine Jth (vs:=[.i w.p.n,.l (Jd w.p.acts),.l (dL w.p.gives),.l (dL w.p.start),.l (dSt w.sites),.b w.c.up,.i w.c.round,.l (dL w.c.base),.l (dDs w.c.done),.l (dCs w.c.wants),.l (dGs w.c.got),.l (dCn w.cons),.l (dMs w.net),.l (dLg w.log),.l (dLL (Jb w.p.acts)),.l (dBl (Jj w.p.acts)),.i k]) L_k2p rfl ?_
  have hml:=h.ml
  have hg:=Qo h.pln
  have hsl:=h.sl
  refine JsZ (JL k 0 ((w.net.length:Int)-1)) rfl (by show [dI k,dI 0,dI (IntKind.i64.wrap (((dMs w.net).length:Int)-1))]=_;rw[Xb,w64 (by omega) (by omega)]) rfl ?_
  simp only[sC,sN]
  refine Jte (inB k 0 ((w.net.length:Int)-1)) rfl (fun _=>JsN ⟨w,rfl,h,rfl⟩) (fun hk=>?_)
  have hk:=Jec.1 hk
  obtain⟨m,hm,hmm⟩:=sA1 (l:=w.net) (i:=k.toNat) (by omega)
  have hmo:=h.net m hmm
  have hmi:=Vr h.pln hmo
  refine Js4 (0≤k) rfl hk.1 (Js4 (k<((dMs w.net).length:Int)) rfl (by rw[Xb];exact hk.2) ?_)
  refine Jtd (ds:=dMs w.net) (d:=m.g) (vs:=[.i m.kind,.i m.to,.i m.frm,.i m.round,.i m.call.client,.i m.call.seq,.i m.call.act,.l (dL m.call.args),.l (dL m.vals),.l (dL m.seqs),.l (dDs m.done)]) k rfl rfl rfl hk.1 (mA1 (f:=Msg.g) hm) rfl ?_
  simp only[sC,sN]
  obtain⟨l,hcut,hll,hlm⟩:=Jfp w k hml
  have h1:OkW ⟨w.p,w.sites,w.c,w.cons,l,w.log⟩:=h.setNet hll fun x hx=>h.net x (hlm x hx)
  refine JsZ (vs:=[.i w.p.n,.l (Jd w.p.acts),.l (dL w.p.gives),.l (dL w.p.start),.b w.c.up,.i w.c.round,.l (dL w.c.base),.l (dDs w.c.done),.l (dCs w.c.wants),.l (dGs w.c.got),.l (dMs l),.l (dSt w.sites),.l (dCn w.cons),.l (dMs w.net),.l (dLg w.log)]) hcut rfl rfl rfl ?_
  simp only[sC,sN]
  refine Jte (decide (m.to = -1)) rfl (fun hto=>?_) (fun hto=>?_)
  ·have hto:m.to≠-1:=by simpa using hto
   have hin:0≤m.to∧m.to<w.p.gives.length:=by
    have h1:=hmi.want
    have h2:=hmi.frz
    have h3:=hmi.give
    have h4:=hmi.pact
    have:=hmi.kind
    rcases (by omega:m.kind=1∨m.kind=2∨m.kind=3∨m.kind=4) with q | q | q | q
    ·exact absurd (h1 q).1 hto
    ·exact h2 q
    ·exact absurd (h3 q).1 hto
    ·exact(h4 q).1
   obtain⟨s,hs,hsm⟩:=sA1 (l:=w.sites) (i:=m.to.toNat) (by omega)
   have hq:((m.to.toNat:Nat):Int)=m.to:=by omega
   have hso:J4 w.p s m.to=true:=by have:=h.sites _ s hs;rwa [hq] at this
   have hlt:m.to<((dSt w.sites).length:Int):=by rw[Qx];omega
   refine Js4 (0≤m.to) rfl hin.1 (Js4 (m.to<((dSt w.sites).length:Int)) rfl hlt ?_)
   refine Jtd (ds:=dSt w.sites) (d:=s.g) (vs:=[.b s.up,.b s.frozen,.i s.round,.l (dL s.base),.l (dL s.added),.l (dDs s.done)]) m.to rfl rfl rfl hin.1 (mA1 (f:=Sit.g) hs) rfl ?_
   simp only[sC,sN]
   obtain⟨o1,o2,o3⟩:=Jo6 h.pln hso hin hmo
   have hf1:=Vw h.pln o1
   have hev:=JlS w.p s m.to m (Vw h.pln hso) hmi.fit (by omega) (fun h4=>by have:=(JQ.1 (hmi.pact h4).2.2).1;have:=(JQ.1 (Qw.1 hso).2.2.2).1;omega)
   generalize Vq w.p s m.to m=r at *
   generalize KJ s m.to m=ms at *
   refine JsZ (vs:=[.b r.up,.b r.frozen,.i r.round,.l (dL r.base),.l (dL r.added),.l (dDs r.done),.l (dMs ms)]) hev rfl rfl rfl ?_
   simp only[sC,sN]
   refine Js4 (0≤m.to) rfl hin.1 (Js4 (m.to<((dSt w.sites).length:Int)) rfl hlt ?_)
   refine Jtd (ds:=dSt w.sites) (d:=s.g) (vs:=[.b s.up,.b s.frozen,.i s.round,.l (dL s.base),.l (dL s.added),.l (dDs s.done)]) m.to rfl rfl rfl hin.1 (mA1 (f:=Sit.g) hs) rfl ?_
   simp only[sC,sN]
   have hset:(dSt w.sites).set m.to.toNat (.g [dB r.up,dB r.frozen,dI r.round,.s (dL r.base),.s (dL r.added),.s (dDs r.done)])=dSt (w.sites.set m.to.toNat r):=by simp only[dSt,List.map_set];rfl
   have h2:OkW ⟨w.p,w.sites.set m.to.toNat r,w.c,w.cons,l,w.log⟩:=h1.setSite (k:=m.to.toNat) (by rw[hq];exact o1)
   have h3:=W8 h2 o2
   have hsd:=ZV ⟨w.p,w.sites.set m.to.toNat r,w.c,w.cons,l,w.log⟩ ms h2.ml ⟨by omega,fun x hx=>(Vr h.pln (o2 x hx)).fit⟩
   have hp2:(Z8 ⟨w.p,w.sites.set m.to.toNat r,w.c,w.cons,l,w.log⟩ ms).p=w.p:=rfl
   generalize Z8 ⟨w.p,w.sites.set m.to.toNat r,w.c,w.cons,l,w.log⟩ ms=w2 at *
   refine JsZ (vs:=[.i w2.p.n,.l (Jd w2.p.acts),.l (dL w2.p.gives),.l (dL w2.p.start),.b w2.c.up,.i w2.c.round,.l (dL w2.c.base),.l (dDs w2.c.done),.l (dCs w2.c.wants),.l (dGs w2.c.got),.l (dSt w2.sites),.l (dCn w2.cons),.l (dMs w2.net),.l (dLg w2.log)]) hsd rfl (by
    show [dI w.p.n,.s (Jd w.p.acts),.s (dL w.p.gives),.s (dL w.p.start),.s ((dSt w.sites).set m.to.toNat (.g [dB r.up,dB r.frozen,dI r.round,.s (dL r.base),.s (dL r.added),.s (dDs r.done)])),dB w.c.up,dI w.c.round,.s (dL w.c.base),.s (dDs w.c.done),.s (dCs w.c.wants),.s (dGs w.c.got),.s (dCn w.cons),.s (dMs l),.s (dLg w.log),.s (dMs ms)]=_
    rw[hset];rfl) rfl (JsN ⟨w2,rfl,h3,hp2⟩)
  ·obtain⟨c',ms,cs,ls,hev,ho⟩:=Jlz w.p w.c m h.pln h.clk hmo
   refine JsZ (vs:=[.b c'.up,.i c'.round,.l (dL c'.base),.l (dDs c'.done),.l (dCs c'.wants),.l (dGs c'.got),.l (dMs ms),.l (dCs cs),.l (dRr ls)]) hev rfl rfl rfl ?_
   simp only[sC,sN]
   have h2:OkW ⟨w.p,w.sites,c',w.cons,l,w.log⟩:=h1.setClk ho.c
   have LW :∀w3:Wrl,w3.p=w.p→True:=fun _ _=>trivial
   refine JsR cs.length (fun i vs=>∃ w3:Wrl,vs=[.l (dSt w3.sites),.l (dCn w3.cons),.l (dLg w3.log),.l (dMs w3.net),.i i,.l (dGs w3.c.got),.l (dCs w3.c.wants),.l (dDs w3.c.done),.l (dL w3.c.base),.i w3.c.round,.b w3.c.up,.l (dL w3.p.start),.l (dL w3.p.gives),.l (Jd w3.p.acts),.i w3.p.n]∧OkW w3∧w3.p=w.p) rfl ⟨⟨w.p,w.sites,c',w.cons,l,w.log⟩,rfl,h2,rfl⟩ ?_
   rintro i vs hi ⟨w3,rfl,h3,hp3⟩
   simp only[sC,sN]
   refine JsY i (X8 cs) rfl (fun h'=>?_) (fun h'=>JsS ?_)
   ·obtain⟨x,hx,hxm⟩:=sA1 h'
    obtain⟨y,hy,hym⟩:=sA1 (l:=ls) (i:=i) (by have:=ho.len;omega)
    have hyg:(dRr ls)[i]? = some (.g [dI y.1,.s (dL y.2)]):=mA1 (f:=fun x:Int×List Int=>D.g [dI x.1,.s (dL x.2)]) hy
    refine JsG (vs:=[.i x.client,.i x.seq,.i x.act,.l (dL x.args)]) (ds:=dCs cs) i (mA1 (f:=Cal.g) hx) rfl rfl rfl rfl rfl rfl ?_
    simp only[sC,sN]
    refine JsG (vs:=[.i y.1,.l (dL y.2)]) (ds:=dRr ls) i hyg rfl rfl rfl rfl rfl rfl ?_
    simp only[sC,sN]
    have hcx:Jw w3.p x=true:=by rw[hp3];exact ho.hc x hxm
    obtain⟨h4,hp4⟩:=Jg0 h3 hcx (ho.hl y hym)
    have hwr:=JbS w3 x y.1 y.2 (Zj hcx) (Jkq (ho.hl y hym))
    generalize Zd w3 x y.1 y.2=w4 at *
    refine JsZ (vs:=[.i w4.p.n,.l (Jd w4.p.acts),.l (dL w4.p.gives),.l (dL w4.p.start),.b w4.c.up,.i w4.c.round,.l (dL w4.c.base),.l (dDs w4.c.done),.l (dCs w4.c.wants),.l (dGs w4.c.got),.l (dSt w4.sites),.l (dCn w4.cons),.l (dMs w4.net),.l (dLg w4.log)]) hwr rfl rfl rfl ?_
    simp only[sC,sN]
    refine Js3 (vs:=[.l (dSt w4.sites),.l (dCn w4.cons),.l (dLg w4.log),.l (dMs w4.net),.i ((i+1:Nat):Int),.l (dGs w4.c.got),.l (dCs w4.c.wants),.l (dDs w4.c.done),.l (dL w4.c.base),.i w4.c.round,.b w4.c.up,.l (dL w4.p.start),.l (dL w4.p.gives),.l (Jd w4.p.acts),.i w4.p.n]) ?_ ⟨h',w4,rfl,h4,by rw[hp4,hp3]⟩
    rw[←wS h' (by have:=ho.four;omega)];rfl
   ·have h5:=W8 h3 (l:=ms) (fun x hx=>by rw[hp3];exact ho.hm x hx)
    have hsd:=ZV w3 ms h3.ml ⟨by have:=ho.three;omega,fun x hx=>(Vr h.pln (ho.hm x hx)).fit⟩
    have hp5:(Z8 w3 ms).p=w.p:=hp3
    generalize Z8 w3 ms=w5 at *
    exact JsZ (vs:=[.i w5.p.n,.l (Jd w5.p.acts),.l (dL w5.p.gives),.l (dL w5.p.start),.b w5.c.up,.i w5.c.round,.l (dL w5.c.base),.l (dDs w5.c.done),.l (dCs w5.c.wants),.l (dGs w5.c.got),.l (dSt w5.sites),.l (dCn w5.cons),.l (dMs w5.net),.l (dLg w5.log)]) hsd rfl rfl rfl (JsN ⟨w5,rfl,h5,hp5⟩)
 obtain⟨ds,e,w',rfl,h⟩:=key
 exact⟨w',e,h⟩
theorem Jjr (w:Wrl) (ek ea eb:Int) (ew:List Int) (h:OkW w) (hw:ew.length≤2000000) :
  ∃ w':Wrl,Ev L f_k2t (w.cells++[.s (dLL (Jb w.p.acts)),.s (dBl (Jj w.p.acts)),dI ek,dI ea,dI eb,.s (dL ew)]) w'.out2∧OkW w'∧w'.p=w.p:=by
 have key : ∃ ds,Ev L f_k2t (w.cells++[.s (dLL (Jb w.p.acts)),.s (dBl (Jj w.p.acts)),dI ek,dI ea,dI eb,.s (dL ew)]) ds∧∃ w':Wrl,ds=w'.out2∧OkW w'∧w'.p=w.p:=by
  refine Jth (vs:=[.i w.p.n,.l (Jd w.p.acts),.l (dL w.p.gives),.l (dL w.p.start),.l (dSt w.sites),.b w.c.up,.i w.c.round,.l (dL w.c.base),.l (dDs w.c.done),.l (dCs w.c.wants),.l (dGs w.c.got),.l (dCn w.cons),.l (dMs w.net),.l (dLg w.log),.l (dLL (Jb w.p.acts)),.l (dBl (Jj w.p.acts)),.i ek,.i ea,.i eb,.l (dL ew)]) L_k2t rfl ?_
  have hml:=h.ml
  have same : ∃ w':Wrl,w.out2=w'.out2∧OkW w'∧w'.p=w.p:=⟨w,rfl,h,rfl⟩
  have fin :∀w2:Wrl,OkW w2→w2.p=w.p→∃ w':Wrl,w2.out2=w'.out2∧OkW w'∧w'.p=w.p:=fun w2 a b=>⟨w2,rfl,a,b⟩
  refine JsI (ek=1) rfl (fun _=>?_) (fun _=>?_)
  ·obtain⟨w2,e,o,hp⟩:=JjT w ea eb ew h hw
   exact JsZ (vs:=[.i w2.p.n,.l (Jd w2.p.acts),.l (dL w2.p.gives),.l (dL w2.p.start),.b w2.c.up,.i w2.c.round,.l (dL w2.c.base),.l (dDs w2.c.done),.l (dCs w2.c.wants),.l (dGs w2.c.got),.l (dSt w2.sites),.l (dCn w2.cons),.l (dMs w2.net),.l (dLg w2.log)]) e rfl rfl rfl (JsN (fin w2 o hp))
  refine JsI (ek=2) rfl (fun _=>?_) (fun _=>?_)
  ·obtain⟨w2,e,o,hp⟩:=Jez w ea (decide (ek=3)) h
   exact JsZ (vs:=[.i w2.p.n,.l (Jd w2.p.acts),.l (dL w2.p.gives),.l (dL w2.p.start),.b w2.c.up,.i w2.c.round,.l (dL w2.c.base),.l (dDs w2.c.done),.l (dCs w2.c.wants),.l (dGs w2.c.got),.l (dSt w2.sites),.l (dCn w2.cons),.l (dMs w2.net),.l (dLg w2.log)]) e rfl rfl rfl (JsN (fin w2 o hp))
  refine JsI (ek=3) rfl (fun _=>?_) (fun _=>?_)
  ·obtain⟨w2,e,o,hp⟩:=Jez w ea (decide (ek=3)) h
   exact JsZ (vs:=[.i w2.p.n,.l (Jd w2.p.acts),.l (dL w2.p.gives),.l (dL w2.p.start),.b w2.c.up,.i w2.c.round,.l (dL w2.c.base),.l (dDs w2.c.done),.l (dCs w2.c.wants),.l (dGs w2.c.got),.l (dSt w2.sites),.l (dCn w2.cons),.l (dMs w2.net),.l (dLg w2.log)]) e rfl rfl rfl (JsN (fin w2 o hp))
  refine JsI (ek=4) rfl (fun _=>?_) (fun _=>?_)
  ·obtain⟨w2,e,o,hp⟩:=Jif w ea h
   exact JsZ (vs:=[.i w2.p.n,.l (Jd w2.p.acts),.l (dL w2.p.gives),.l (dL w2.p.start),.b w2.c.up,.i w2.c.round,.l (dL w2.c.base),.l (dDs w2.c.done),.l (dCs w2.c.wants),.l (dGs w2.c.got),.l (dMs w2.net),.l (dSt w2.sites),.l (dCn w2.cons),.l (dLg w2.log)]) e rfl rfl rfl (JsN (fin w2 o hp))
  refine JsI (ek=5) rfl (fun _=>?_) (fun _=>?_)
  ·obtain⟨l,hcut,hll,hlm⟩:=Jfp w ea hml
   have h1:OkW ⟨w.p,w.sites,w.c,w.cons,l,w.log⟩:=h.setNet hll fun x hx=>h.net x (hlm x hx)
   exact JsZ (vs:=[.i w.p.n,.l (Jd w.p.acts),.l (dL w.p.gives),.l (dL w.p.start),.b w.c.up,.i w.c.round,.l (dL w.c.base),.l (dDs w.c.done),.l (dCs w.c.wants),.l (dGs w.c.got),.l (dMs l),.l (dSt w.sites),.l (dCn w.cons),.l (dMs w.net),.l (dLg w.log)]) hcut rfl rfl rfl (JsN (fin _ h1 rfl))
  refine JsI (ek=6) rfl (fun _=>?_) (fun _=>?_)
  ·refine JsZ (JL ea 0 ((w.net.length:Int)-1)) rfl (by show [dI ea,dI 0,dI (IntKind.i64.wrap (((dMs w.net).length:Int)-1))]=_;rw[Xb,w64 (by omega) (by omega)]) rfl ?_
   simp only[sC,sN]
   refine JsW (inB ea 0 ((w.net.length:Int)-1)) rfl (fun hk=>?_) (fun _=>JsN same)
   have hk:=Jec.1 hk
   obtain⟨m,hm,hmm⟩:=sA1 (l:=w.net) (i:=ea.toNat) (by omega)
   have hmo:=h.net m hmm
   refine Js4 (0≤ea) rfl hk.1 (Js4 (ea<((dMs w.net).length:Int)) rfl (by rw[Xb];exact hk.2) ?_)
   refine Jtd (ds:=dMs w.net) (d:=m.g) (vs:=[.i m.kind,.i m.to,.i m.frm,.i m.round,.i m.call.client,.i m.call.seq,.i m.call.act,.l (dL m.call.args),.l (dL m.vals),.l (dL m.seqs),.l (dDs m.done)]) ea rfl rfl rfl hk.1 (mA1 (f:=Msg.g) hm) rfl ?_
   simp only[sC,sN]
   have h3:=W8 h (l:=[m]) (fun x hx=>by simp only[List.mem_singleton] at hx;rw[hx];exact hmo)
   have hsd:=ZV w [m] hml ⟨by simp,fun x hx=>by simp only[List.mem_singleton] at hx;rw[hx];exact(Vr h.pln hmo).fit⟩
   have hp2:(Z8 w [m]).p=w.p:=rfl
   generalize Z8 w [m]=w2 at *
   exact JsZ (vs:=[.i w2.p.n,.l (Jd w2.p.acts),.l (dL w2.p.gives),.l (dL w2.p.start),.b w2.c.up,.i w2.c.round,.l (dL w2.c.base),.l (dDs w2.c.done),.l (dCs w2.c.wants),.l (dGs w2.c.got),.l (dSt w2.sites),.l (dCn w2.cons),.l (dMs w2.net),.l (dLg w2.log)]) hsd rfl rfl rfl (JsN (fin w2 h3 hp2))
  refine JsI (ek=7) rfl (fun _=>?_) (fun _=>?_)
  ·obtain⟨t1,t2⟩:=JoT h.clk
   have hg:=Qo h.pln
   have hev:=Jl9 w.p w.c (Zm h.pln) (VH h.pln h.clk) h.clk.len
   generalize JbA w.c=ms at *
   refine JsZ (vs:=[.l (dMs ms)]) hev rfl rfl rfl ?_
   simp only[sC,sN]
   have h3:=W8 h t1
   have hsd:=ZV w ms hml ⟨by omega,fun x hx=>(Vr h.pln (t1 x hx)).fit⟩
   have hp2:(Z8 w ms).p=w.p:=rfl
   generalize Z8 w ms=w2 at *
   exact JsZ (vs:=[.i w2.p.n,.l (Jd w2.p.acts),.l (dL w2.p.gives),.l (dL w2.p.start),.b w2.c.up,.i w2.c.round,.l (dL w2.c.base),.l (dDs w2.c.done),.l (dCs w2.c.wants),.l (dGs w2.c.got),.l (dSt w2.sites),.l (dCn w2.cons),.l (dMs w2.net),.l (dLg w2.log)]) hsd rfl rfl rfl (JsN (fin w2 h3 hp2))
  refine JsI (ek=8) rfl (fun _=>?_) (fun _=>?_)
  ·obtain⟨w2,e,o,hp⟩:=Jdi w ea false h
   exact JsZ (vs:=[.i w2.p.n,.l (Jd w2.p.acts),.l (dL w2.p.gives),.l (dL w2.p.start),.b w2.c.up,.i w2.c.round,.l (dL w2.c.base),.l (dDs w2.c.done),.l (dCs w2.c.wants),.l (dGs w2.c.got),.l (dSt w2.sites),.l (dCn w2.cons),.l (dMs w2.net),.l (dLg w2.log)]) e rfl rfl rfl (JsN (fin w2 o hp))
  refine JsI (ek=9) rfl (fun _=>?_) (fun _=>?_)
  ·obtain⟨w2,e,o,hp⟩:=Jdi w ea true h
   exact JsZ (vs:=[.i w2.p.n,.l (Jd w2.p.acts),.l (dL w2.p.gives),.l (dL w2.p.start),.b w2.c.up,.i w2.c.round,.l (dL w2.c.base),.l (dDs w2.c.done),.l (dCs w2.c.wants),.l (dGs w2.c.got),.l (dSt w2.sites),.l (dCn w2.cons),.l (dMs w2.net),.l (dLg w2.log)]) e rfl rfl rfl (JsN (fin w2 o hp))
  refine JsI (ek=10) rfl (fun _=>?_) (fun _=>JsN same)
  have hd:=Jpa h.clk (decide (0<ea))
  have hev:=JmL w.p w.c (decide (0<ea)) (Zm h.pln) (VH h.pln h.clk) h.clk.len
  generalize Z7 w.c (decide (0<ea))=c2 at *
  exact JsZ (vs:=[.b c2.up,.i c2.round,.l (dL c2.base),.l (dDs c2.done),.l (dCs c2.wants),.l (dGs c2.got)]) hev rfl rfl rfl (JsN (fin _ (h.setClk hd) rfl))
 obtain⟨ds,e,w',rfl,h⟩:=key
 exact⟨w',e,h⟩
theorem XE (w:Wrl) (ek ea eb:Int) (ew:List Int) (h:OkW w) (hw:ew.length≤2000000) :
  ∃ w':Wrl,Ev L f_k2u (w.cells++[dI ek,dI ea,dI eb,.s (dL ew)]) w'.cells∧OkW w':=by
 have key : ∃ ds,Ev L f_k2u (w.cells++[dI ek,dI ea,dI eb,.s (dL ew)]) ds∧∃ w':Wrl,ds=w'.cells∧OkW w':=by
  refine Jth (vs:=[.i w.p.n,.l (Jd w.p.acts),.l (dL w.p.gives),.l (dL w.p.start),.l (dSt w.sites),.b w.c.up,.i w.c.round,.l (dL w.c.base),.l (dDs w.c.done),.l (dCs w.c.wants),.l (dGs w.c.got),.l (dCn w.cons),.l (dMs w.net),.l (dLg w.log),.i ek,.i ea,.i eb,.l (dL ew)]) L_k2u rfl ?_
  have hf:=h.fit
  obtain⟨n1,n2,_⟩:=Qm h.pln
  have hc:=Xr h.pln
  refine JsZ (KV w.p hf.p) rfl rfl rfl ?_
  simp only[sC,sN]
  refine JsO (by show (!JH w.p)=false;rw[h.pln];rfl) ?_
  have e1:(U3 w.p.acts).1=Jb w.p.acts:=by simp[Jb,hc]
  have e2:(U3 w.p.acts).2=Jj w.p.acts:=by simp[Jj,hc]
  have eB:=Jfe w.p.acts hf.p.1 (XT hc).2.1
  rw[e1,e2] at eB
  refine JsZ (vs:=[.l (dLL (Jb w.p.acts)),.l (dBl (Jj w.p.acts))]) eB rfl rfl rfl ?_
  simp only[sC,sN]
  refine JsZ (vs:=[.b (UO w)]) (Jng w hf n1 n2 hc) rfl rfl rfl ?_
  simp only[sC,sN]
  refine JsO (by show (!UO w)=false;rw[h.ok];rfl) ?_
  refine JsZ (vs:=[.i w.p.n,.l (Jd w.p.acts),.l (dL w.p.gives),.l (dL w.p.start),.l (dSt w.sites),.b w.c.up,.i w.c.round,.l (dL w.c.base),.l (dDs w.c.done),.l (dCs w.c.wants),.l (dGs w.c.got),.l (dCn w.cons),.l (dMs w.net),.l (dLg w.log)]) (JjJ w hf) rfl rfl rfl ?_
  simp only[sC,sN]
  obtain⟨w2,e,o,hp⟩:=Jjr w ek ea eb ew h hw
  exact JsZ (vs:=[.i w2.p.n,.l (Jd w2.p.acts),.l (dL w2.p.gives),.l (dL w2.p.start),.b w2.c.up,.i w2.c.round,.l (dL w2.c.base),.l (dDs w2.c.done),.l (dCs w2.c.wants),.l (dGs w2.c.got),.l (dMs w2.net),.l (dSt w2.sites),.l (dCn w2.cons),.l (dLg w2.log)]) e rfl rfl rfl (JsN ⟨w2,rfl,o⟩)
 obtain⟨ds,e,w',rfl,h⟩:=key
 exact⟨w',e,h⟩
def YF (p:Pln):Wrl:=⟨p,List.replicate p.gives.length (ZR p),XM p,List.replicate p.n.toNat Jf9,[],[]⟩
theorem Jly {p:Pln} (h:JH p=true):OkW (YF p):=by
 have hn:=Qm h
 have hcl:X6 p (XM p):=Jqh (by have:=(JlJ h).1;unfold JdP at this;rw[h,Bool.true_and] at this;exact this)
 refine⟨h,by simp[YF],by simp[YF];omega,by simp[YF],by simp[YF],fun x hx=>by simp[YF] at hx,fun k s hk=>?_,fun k s hk=>?_,fun x hx=>by simp[YF] at hx,hcl⟩
 ·have hl:=(List.getElem?_eq_some_iff.1 hk).1
  simp only[YF,List.length_replicate] at hl
  have hs:s=ZR p:=by simp only[YF,List.getElem?_replicate,hl,if_true,Option.some.injEq] at hk;exact hk.symm
  rw[hs]
  have hv:=Jbz h
  unfold ZR;rw[if_pos h]
  exact Qw.2 ⟨by simp,hv,Jb4 h hv (by show (0:Int)≤(k:Int)∧(k:Int)<(p.gives.length:Int);omega),JdY (by show (0:Int)≤p.n;omega)⟩
 ·have hl:=(List.getElem?_eq_some_iff.1 hk).1
  simp only[YF,List.length_replicate] at hl
  have hs:s=Jf9:=by simp only[YF,List.getElem?_replicate,hl,if_true,Option.some.injEq] at hk;exact hk.symm
  rw[hs];rfl
theorem JlB (p:Pln) (h:JH p=true):Ev L f_kp p.cells (YF p).cells:=by
 have:=JjH p (Zm h)
 have e:(Wf p).cells=(YF p).cells:=by unfold Wf;rw[if_pos h];rfl
 rwa [e] at this
end Go.Proofs.YtdmjmcegcpdenaaGreatDoor

import Derived.Test.YtdmjmcegcpdenaaGreatDoorPZZC
import Derived.Test.YtdmjmcegcpdenaaGreatDoorPZR
set_option linter.unusedVariables false
set_option linter.unusedSimpArgs false
/- What a site tries,by the reference: over residual programs. -/
namespace Go.Proofs.YtdmjmcegcpdenaaGreatDoor
open Go Go.Tm
theorem JeY (x:Msg) (hx:Ux x):Ev L f_k1y x.cells x.cells:=by
 refine Jtg (vs:=[.i x.kind,.i x.to,.i x.frm,.i x.round,.i x.call.client,.i x.call.seq,.i x.call.act,.l (dL x.call.args),.l (dL x.vals),.l (dL x.seqs),.l (dDs x.done)]) L_k1y rfl ?_
 obtain⟨h1,h2,h3,h4⟩:=hx
 refine JsZ (vs:=[.i x.call.client,.i x.call.seq,.i x.call.act,.l (dL x.call.args)]) (JU x.call h1) rfl rfl rfl ?_
 simp only[sC,sN]
 refine Js6 (dL x.vals) 2000000 (by rw[dL1];omega) (by omega) rfl ?_
 refine JsU (JO x.vals) ?_
 refine Js6 (dL x.vals) 2000000 (by rw[dL1];omega) (by omega) rfl ?_
 refine Js6 (dL x.seqs) 2000000 (by rw[dL1];omega) (by omega) rfl ?_
 refine JsU (JO x.seqs) ?_
 refine Js6 (dL x.seqs) 2000000 (by rw[dL1];omega) (by omega) rfl ?_
 refine JsZ (vs:=[.l (dDs x.done)]) (Y3 x.done h4) rfl rfl rfl (JsN rfl)
structure Jo0 where
 site:Sit
 code:Int
 tells:List Int
 said:List Msg
def Jby (c:Cal):Msg:=⟨1,-1,0,0,c,[],[],[]⟩
def JX (s:Sit) (c:Cal):Don:=s.done.getD c.client.toNat V0
def KP (p:Pln) (s:Sit) (k:Int) (c:Cal):Jj6:=JaW p.acts s.base p.gives k s.added c.act c.args
def Jho (s:Sit) (c:Cal) (r:Jj6):Sit:=⟨s.up,s.frozen,s.round,s.base,r.adds,s.done.set c.client.toNat ⟨c.seq,r.code,r.tells⟩⟩
def Wi (p:Pln) (s:Sit) (k:Int) (c:Cal):Jo0 :=
 if s.up=true∧Int.tmod c.client p.gives.length=k then
  if c.seq=(JX s c).seq then ⟨s,(JX s c).code,(JX s c).tells,[]⟩
  else if c.seq=(JX s c).seq+1 then
   if s.frozen=false∧(KP p s k c).ok=true then ⟨Jho s c (KP p s k c),(KP p s k c).code,(KP p s k c).tells,[]⟩
   else ⟨s,0,[],[Jby c]⟩
  else ⟨s,0,[],[]⟩
 else ⟨s,0,[],[]⟩
def Jo0.ds (r:Jo0):List D:=r.site.cells++[dI r.code,.s (dL r.tells),.s (dMs r.said)]
theorem Jjz {p:Pln} {s:Sit} {k:Int} {c:Cal} (h : ¬(s.up=true∧Int.tmod c.client p.gives.length=k)∨(c.seq≠(JX s c).seq∧c.seq≠(JX s c).seq+1)):Wi p s k c=⟨s,0,[],[]⟩:=by
 unfold Wi
 rcases h with h | ⟨h1,h2⟩
 ·rw[if_neg h]
 ·rw[if_neg h1,if_neg h2];split <;> rfl
theorem Jhh {p:Pln} {s:Sit} {k:Int} {c:Cal} (h1:s.up=true) (h2:Int.tmod c.client p.gives.length=k) (h3:c.seq=(JX s c).seq):Wi p s k c=⟨s,(JX s c).code,(JX s c).tells,[]⟩:=by
 unfold Wi;rw[if_pos ⟨h1,h2⟩,if_pos h3]
theorem JkE {p:Pln} {s:Sit} {k:Int} {c:Cal} (h1:s.up=true) (h2:Int.tmod c.client p.gives.length=k) (h3:c.seq=(JX s c).seq+1) (h4:s.frozen=false) (h5:(KP p s k c).ok=true) :
  Wi p s k c=⟨Jho s c (KP p s k c),(KP p s k c).code,(KP p s k c).tells,[]⟩:=by
 unfold Wi;rw[if_pos ⟨h1,h2⟩,if_neg (by omega),if_pos h3,if_pos ⟨h4,h5⟩]
theorem JhE {p:Pln} {s:Sit} {k:Int} {c:Cal} (h1:s.up=true) (h2:Int.tmod c.client p.gives.length=k) (h3:c.seq=(JX s c).seq+1) (h4:s.frozen=true∨(KP p s k c).ok=false):Wi p s k c=⟨s,0,[],[Jby c]⟩:=by
 unfold Wi;rw[if_pos ⟨h1,h2⟩,if_neg (by omega),if_pos h3,if_neg (by rintro⟨a,b⟩;rcases h4 with h | h <;> simp_all)]
theorem JQ {n:Int} {l:List Don}:Qc n l=true↔(l.length:Int)=n∧∀d∈l,Xa d=true:=by
 unfold Qc;rw[Bool.and_eq_true,decide_eq_true_eq,List.all_eq_true]
theorem Jdv {n:Int} {l:List Don} (h:Qc n l=true) (i:Nat) {d:Don} (hd:Xa d=true):Qc n (l.set i d)=true:=by
 obtain⟨h1,h2⟩:=JQ.1 h
 refine JQ.2 ⟨by rw[List.length_set];exact h1,fun x hx=>?_⟩
 rcases List.mem_or_eq_of_mem_set hx with q | q
 ·exact h2 x q
 ·rw[q];exact hd
theorem QR {p:Pln} {c:Cal}:Jw p c=true↔(0≤c.client∧c.client≤p.n-1)∧(1≤c.seq∧c.seq≤300)∧(0≤c.act∧c.act≤(p.acts.length:Int)-1)∧Xj c.args=true:=by
 unfold Jw;simp only[Bool.and_eq_true,Jp]
theorem XN {p:Pln} {b:List Int} {k:Int} {a:List Int}:Xl p b k a=true↔keeps b p.gives (Jb p.acts) k a=true∧J5 (Jj p.acts) a=true:=by
 unfold Xl;rw[Bool.and_eq_true]
theorem Qw {p:Pln} {s:Sit} {k:Int}:J4 p s k=true↔(0≤s.round∧s.round≤200)∧JW s.base=true∧Xl p s.base k s.added=true∧Qc p.n s.done=true:=by
 unfold J4;simp only[Bool.and_eq_true,Jp]
theorem JjR {p:Pln} {c:Cal} (h:Jw p c=true):JS p (Jby c)=true:=by simp[JS,Jby,inB,Yk,em,h]
theorem W9 {p:Pln} {s:Sit} {k:Int} {c:Cal} (hp:JH p=true) (hs:J4 p s k=true) (hc:Jw p c=true):Ys p.acts s.base p.gives k s.added c.act c.args=true:=by
 obtain⟨_,_,h3,_⟩:=Qw.1 hs
 obtain⟨_,_,h6,h7⟩:=QR.1 hc
 obtain⟨h8,h9⟩:=XN.1 h3
 unfold Ys
 rw[Xr hp,h7,h8,h9,show inB c.act 0 ((p.acts.length:Int)-1)=true from Jp.2 h6];rfl
theorem Jpp {f:Frm} {v w:List Int} (hf:Std 10000000 f) (hv:JW v=true) (hw:Xj w=true) : -999999999999≤atF f v w∧atF f v w≤999999999999:=by
 obtain⟨v1,v2⟩:=Qz.1 hv
 obtain⟨w1,w2⟩:=XV.1 hw
 have h1:=Kg hf.lc v2 (by omega) (by omega)
 have h2:=Kg hf.ld w2 (by omega) (by omega)
 have h3:=hf.k
 rw[hf.c] at h1
 rw[hf.d] at h2
 unfold atF
 omega
theorem Jmk {ps:List Bool} {a b:List Int} (ha:J5 ps a=true) (hb:J5 ps b=true):J5 ps (Qf a b)=true:=by
 unfold J5 Qf at *
 induction ps generalizing a b with
 | nil=>simp
 | cons q ps ih =>
  cases a with
  | nil=>simp
  | cons x a =>
   cases b with
   | nil=>simp
   | cons y b =>
    simp only[List.zip_cons_cons,List.all_cons,List.zipWith_cons_cons,Bool.and_eq_true] at ha hb ⊢
    refine⟨?_,ih ha.2 hb.2⟩
    have h1:=ha.1
    have h2:=hb.1
    cases q with
    | false=>rfl
    | true =>
     simp only[Bool.true_and,Bool.not_not,decide_eq_true_eq] at h1 h2 ⊢
     omega
theorem JhX {p:Pln} {s:Sit} {k:Int} {c:Cal} (hf:Ys p.acts s.base p.gives k s.added c.act c.args=true) (h:(KP p s k c).ok=true) :
  JI (KP p s k c).code (KP p s k c).tells=true∧Xl p s.base k (KP p s k c).adds=true:=by
 obtain⟨hc,hk,hw,hke,hst⟩:=Kl.1 hf
 have hb:JW s.base=true:=by
  obtain⟨h1,_⟩:=Zi (Xk hke)
  simp only[Qi,Bool.and_eq_true] at h1;exact h1.1.1
 have hka:Xl p s.base k s.added=true:=XN.2 ⟨hke,hst⟩
 have key :∀r,r∈Js (p.acts.getD c.act.toNat [])→∀q,Kt s.base p.gives (Jb p.acts) (Jj p.acts) k s.added c.args r=q→q.ok=true→JI q.code q.tells=true∧Xl p s.base k q.adds=true:=by
  intro r hr q hq hqo
  have hrf:=X5 r hr
  unfold Kt at hq
  split at hq
  ·subst hq;exact⟨by simp[JI,inB,JD],hka⟩
  ·split at hq
   ·rename_i h1
    rw[Bool.and_eq_true] at h1
    split at hq
    ·subst hq;exact⟨by simp[JI,inB,JD],hka⟩
    ·split at hq
     ·subst hq;cases hqo
     ·split at hq
      ·rename_i h2
       subst hq
       refine⟨Yo.2 ⟨by simp,by simp only[atL,List.length_map];exact hrf.tl,.inl rfl,fun x hx=>?_⟩,XN.2 ⟨h2,Jmk hst h1.1⟩⟩
       simp only[atL,List.mem_map] at hx
       obtain⟨f,hfm,rfl⟩:=hx
       exact Jpp (hrf.t f hfm) hb hw
      ·subst hq;cases hqo
   ·subst hq;cases hqo
 unfold KP JaW at h ⊢
 rw[if_pos hf] at h ⊢
 split at h
 ·rename_i r hr
  exact key r (List.mem_of_find?_eq_some hr) _ rfl h
 ·cases h
theorem Jct {p:Pln} {s:Sit} {k:Int} {c:Cal} (hs:J4 p s k=true) (hc:Jw p c=true):s.done[c.client.toNat]? = some (JX s c)∧Xa (JX s c)=true∧JX s c∈s.done:=by
 obtain⟨h1,h2⟩:=JQ.1 (Qw.1 hs).2.2.2
 obtain⟨h3,_⟩:=QR.1 hc
 obtain⟨x,hx,hm⟩:=sA1 (l:=s.done) (i:=c.client.toNat) (by omega)
 have e:JX s c=x:=QG hx
 rw[e];exact⟨hx,h2 x hm,hm⟩
theorem Ym {d:Don}:Xa d=true↔(d.seq=0∧d.code=0∧d.tells.length=0)∨(1≤d.seq∧d.seq≤300∧JI d.code d.tells=true):=by
 unfold Xa
 split
 ·rename_i h
  simp only[Bool.and_eq_true,decide_eq_true_eq]
  constructor
  ·rintro⟨a,b⟩;exact .inl ⟨h,a,b⟩
  ·rintro (⟨_,a,b⟩ | ⟨a,_⟩)
   ·exact⟨a,b⟩
   ·omega
 ·rename_i h
  simp only[Bool.and_eq_true,Jp]
  constructor
  ·rintro⟨⟨a,b⟩,d⟩;exact .inr ⟨a,b,d⟩
  ·rintro (⟨a,_⟩ | ⟨a,b,d⟩)
   ·exact absurd a h
   ·exact⟨⟨a,b⟩,d⟩
structure JkN (p:Pln) (s:Sit) (k:Int) (c:Cal) (r:Jo0):Prop where
 site:J4 p r.site k=true
 said :∀m∈r.said,JS p m=true
 one:r.said.length≤1
 res:(r.code=0∧r.tells.length=0)∨JI r.code r.tells=true
 seq:r.code≠0→(JX r.site c).seq=c.seq
 more:(JX s c).seq<(JX r.site c).seq→JI r.code r.tells=true
 len:r.tells.length≤2000000
theorem Jqg {p:Pln} {s:Sit} {k:Int} {c:Cal} (hp:JH p=true) (hs:J4 p s k=true) (hc:Jw p c=true):JkN p s k c (Wi p s k c):=by
 obtain⟨hx,hdo,hm⟩:=Jct hs hc
 have hf:=W9 hp hs hc
 obtain⟨c1,c2,c3,c4⟩:=QR.1 hc
 obtain⟨s1,s2,s3,s4⟩:=Qw.1 hs
 have six :∀{a:Int} {l:List Int},JI a l=true→l.length≤2000000:=fun h=>by have:=(Yo.1 h).2.1;omega
 have no:JkN p s k c ⟨s,0,[],[]⟩:=⟨hs,fun m h=>by simp at h,by simp,.inl ⟨rfl,rfl⟩,fun h=>absurd rfl h,fun h=>absurd h (Int.lt_irrefl _),by simp⟩
 by_cases h1:s.up=true∧Int.tmod c.client p.gives.length=k
 ·by_cases h2:c.seq=(JX s c).seq
  ·rw[Jhh h1.1 h1.2 h2]
   have hr:JI (JX s c).code (JX s c).tells=true:=by
    rcases Ym.1 hdo with h | h
    ·omega
    ·exact h.2.2
   exact⟨hs,fun m h=>by simp at h,by simp,.inr hr,fun _=>h2.symm,fun h=>absurd h (Int.lt_irrefl _),six hr⟩
  ·by_cases h3:c.seq=(JX s c).seq+1
   ·by_cases h4:s.frozen=false∧(KP p s k c).ok=true
    ·rw[JkE h1.1 h1.2 h3 h4.1 h4.2]
     obtain⟨l1,l2⟩:=JhX hf h4.2
     have hl:c.client.toNat<s.done.length:=(List.getElem?_eq_some_iff.1 hx).1
     have e:JX (Jho s c (KP p s k c)) c=⟨c.seq,(KP p s k c).code,(KP p s k c).tells⟩:=QG (by simp only[Jho];exact List.getElem?_set_self hl)
     refine⟨Qw.2 ⟨s1,s2,l2,Jdv s4 _ (Ym.2 (.inr ⟨c2.1,c2.2,l1⟩))⟩,fun m h=>by simp at h,by simp,.inr l1,fun _=>by rw[e],fun _=>l1,six l1⟩
    ·rw[JhE h1.1 h1.2 h3 (by cases hfz:s.frozen <;> simp_all)]
     refine⟨hs,fun m h=>?_,by simp,.inl ⟨rfl,rfl⟩,fun h=>absurd rfl h,fun h=>absurd h (Int.lt_irrefl _),by simp⟩
     simp only[List.mem_singleton] at h
     subst h
     exact JjR hc
   ·rw[Jjz (.inr ⟨h2,h3⟩)];exact no
 ·rw[Jjz (.inl h1)];exact no
theorem Jpe (p:Pln) {s:Sit} (k:Int) {c:Cal} (hs:QB s) (hc:UX c):QB (Wi p s k c).site∧(∀m∈(Wi p s k c).said,Ux m)∧(Wi p s k c).tells.length≤2000000:=by
 have hl:=JhM p.acts s.base p.gives k s.added c.act c.args hs.2.1
 have hd:(JX s c).tells.length≤2000000:=by
  unfold JX
  cases h:s.done[c.client.toNat]? with
  | none=>simp[List.getD_eq_getElem?_getD,h,V0]
  | some x=>rw[QG h];exact hs.2.2.2 x (List.mem_of_getElem? h)
 have no:QB s∧(∀m∈([]:List Msg),Ux m)∧([]:List Int).length≤2000000:=⟨hs,fun m h=>by simp at h,by simp⟩
 unfold Wi
 split
 ·split
  ·exact⟨hs,fun m h=>by simp at h,hd⟩
  ·split
   ·split
    ·refine⟨⟨hs.1,hl.2,by simp only[Jho,List.length_set];exact hs.2.2.1,fun d hm=>?_⟩,fun m h=>by simp at h,hl.1⟩
     simp only[Jho] at hm
     rcases List.mem_or_eq_of_mem_set hm with q | q
     ·exact hs.2.2.2 d q
     ·rw[q];exact hl.1
    ·refine⟨hs,fun m h=>?_,by simp⟩
     simp only[List.mem_singleton] at h
     subst h
     exact⟨hc,by simp[Jby],by simp[Jby],by simp[Jby],fun d hd=>by simp[Jby] at hd⟩
   ·exact no
 ·exact no
theorem JoC (p:Pln) (s:Sit) (k:Int) (c:Cal) (hp:JT p) (hs:QB s) (hc:UX c) (hpo:JH p=true) (hso:J4 p s k=true) (hco:Jw p c=true) :
  Ev L f_k2b (p.cells++[.s (dLL (Jb p.acts)),.s (dBl (Jj p.acts))]++s.cells++[dI k]++c.cells) (Wi p s k c).ds:=by
 refine Jtg (vs:=[.i p.n,.l (Jd p.acts),.l (dL p.gives),.l (dL p.start),.l (dLL (Jb p.acts)),.l (dBl (Jj p.acts)),.b s.up,.b s.frozen,.i s.round,.l (dL s.base),.l (dL s.added),.l (dDs s.done),.i k,.i c.client,.i c.seq,.i c.act,.l (dL c.args)]) L_k2b rfl ?_
 obtain⟨hx,hdo,hm⟩:=Jct hso hco
 have hfine:=W9 hpo hso hco
 obtain⟨c1,c2,c3,c4⟩:=QR.1 hco
 have hg:=(Qo hpo).1
 have hlt:c.client.toNat<s.done.length:=(List.getElem?_eq_some_iff.1 hx).1
 have hsq : -1≤(JX s c).seq∧(JX s c).seq≤300:=by rcases Ym.1 hdo with h | h <;> omega
 have hdl:(JX s c).tells.length≤2000000:=hs.2.2.2 _ hm
 refine JsZ (vs:=[.b s.up,.b s.frozen,.i s.round,.l (dL s.base),.l (dL s.added),.l (dDs s.done)]) (KT s hs) rfl rfl rfl ?_
 simp only[sC,sN]
 refine Js4 (0≤c.client) rfl c1.1 ?_
 refine Js4 (c.client<(s.done.length:Int)) (by show decide (c.client<((dDs s.done).length:Int))=_;rw[Q2]) (by omega) ?_
 refine Jtd (ds:=dDs s.done) (d:=(JX s c).g) (vs:=[.i (JX s c).seq,.i (JX s c).code,.l (dL (JX s c).tells)]) c.client rfl rfl rfl c1.1 (mA1 (f:=Don.g) hx) rfl ?_
 simp only[sC,sN]
 have no:=fun h=>Jjz (p:=p) (s:=s) (k:=k) (c:=c) h
 have same:=fun h1 h2 h3=>Jhh (p:=p) (s:=s) (k:=k) (c:=c) h1 h2 h3
 have did:=fun h1 h2 h3 h4 h5=>JkE (p:=p) (s:=s) (k:=k) (c:=c) h1 h2 h3 h4 h5
 have want:=fun h1 h2 h3 h4=>JhE (p:=p) (s:=s) (k:=k) (c:=c) h1 h2 h3 h4
 have hloc:=JoB (as:=p.acts) (b:=s.base) (g:=p.gives) (s:=k) (a:=s.added) (k:=c.act) (w:=c.args) hp.1 hp.2.1 hfine
 have hll:=JhM p.acts s.base p.gives k s.added c.act c.args hs.2.1
 have elo:JaW p.acts s.base p.gives k s.added c.act c.args=KP p s k c:=rfl
 rw[elo] at hloc hll
 have hset :∀r:Jj6,(dDs s.done).set c.client.toNat (.g [dI c.seq,dI r.code,.s (dL r.tells)])=dDs (Jho s c r).done:=fun r=>by simp only[dDs,Jho,List.map_set];rfl
 generalize JX s c=x at *
 generalize KP p s k c=r at *
 refine Jte s.up rfl (fun a=>JsN (by rw[no (.inl (fun q=>by rw[a] at q;cases q.1))];rfl)) (fun a=>?_)
 refine Js8 (by show (!decide (((dL p.gives).length:Int)=0))=true;rw[dL1,Bool.not_eq_true',decide_eq_false_iff_not];omega) ?_
 refine Jte (decide (Int.tmod c.client p.gives.length=k)) (by show (!decide (Int.tmod c.client ((dL p.gives).length:Int)=k))=_;rw[dL1]) (fun b=>JsN (by rw[no (.inl (fun q=>by simp[q.2] at b))];rfl)) (fun b=>?_)
 have b:Int.tmod c.client p.gives.length=k:=by simpa using b
 refine JsI (c.seq<x.seq) rfl (fun e=>JsN (by rw[no (.inr ⟨by omega,by omega⟩)];rfl)) (fun e=>?_)
 refine JsI (x.seq+1<c.seq) (by show decide (IntKind.i64.wrap (x.seq+1)<c.seq)=_;rw[w64 (by omega) (by omega)]) (fun e2=>JsN (by rw[no (.inr ⟨by omega,by omega⟩)];rfl)) (fun e2=>?_)
 refine JsI (c.seq=x.seq) rfl (fun e3=>?_) (fun e3=>?_)
 ·rw[same a b e3]
  refine JsZ (vs:=[.i x.code,.l (dL x.tells)]) (J8 x.code x.tells hdl) rfl rfl rfl (JsN rfl)
 have e4:c.seq=x.seq+1:=by omega
 refine Jte s.frozen rfl (fun f=>?_) (fun f=>?_)
 ·refine JsZ (JbM p s) rfl rfl rfl ?_
  simp only[sC,sN]
  refine JsZ (vs:=[.i r.code,.l (dL r.tells),.l (dL r.adds),.b r.ok]) hloc rfl rfl rfl ?_
  simp only[sC,sN]
  refine JsW r.ok rfl (fun o=>?_) (fun o=>?_)
  ·rw[did a b e4 f o]
   refine JsZ (vs:=[.i r.code,.l (dL r.tells)]) (J8 r.code r.tells hll.1) rfl rfl rfl ?_
   simp only[sC,sN]
   refine Js4 (0≤c.client) rfl c1.1 ?_
   refine Js4 (c.client<(s.done.length:Int)) (by show decide (c.client<((dDs s.done).length:Int))=_;rw[Q2]) (by omega) ?_
   refine Jtd (ds:=dDs s.done) (d:=x.g) (vs:=[.i x.seq,.i x.code,.l (dL x.tells)]) c.client rfl rfl rfl c1.1 (mA1 (f:=Don.g) hx) rfl (JsN ?_)
   show [dB s.up,dB s.frozen,dI s.round,.s (dL s.base),.s (dL r.adds),.s ((dDs s.done).set c.client.toNat (.g [dI c.seq,dI r.code,.s (dL r.tells)])),dI r.code,.s (dL r.tells),D.s []]=_
   rw[hset r];rfl
  ·rw[want a b e4 (.inr o)]
   refine JsZ (vs:=[.i c.client,.i c.seq,.i c.act,.l (dL c.args)]) (JU c hc) rfl rfl rfl (JsN rfl)
 ·rw[want a b e4 (.inl f)]
  refine JsZ (vs:=[.i c.client,.i c.seq,.i c.act,.l (dL c.args)]) (JU c hc) rfl rfl rfl (JsN rfl)
/- What the clerk hears,by the reference: over residual programs. -/
theorem Jpw {l:Jg} (h:l.ok=true):Frm.fit l.f:=by
 by_cases h4:l.kind=4
 ·unfold Jg.ok at h
  rw[if_neg (by omega),if_neg (by omega),if_neg (by omega)] at h
  simp only[Bool.and_eq_true,decide_eq_true_eq] at h
  exact⟨by omega,by omega⟩
 ·have:=XO h h4
  simp only[Frm.small,Bool.and_eq_true,Jo] at this
  exact⟨by omega,by omega⟩
theorem Zm {p:Pln} (h:JH p=true):JT p:=by
 have hc:=XT (Xr h)
 have hg:=Qo h
 have hs:=(Qm h).2.2.1
 refine⟨⟨by omega,fun a ha=>?_⟩,by omega,by omega⟩
 obtain⟨h1,h2⟩:=Kz (hc.2.2 a ha)
 exact⟨by omega,fun l hl=>Jpw (h2 l hl)⟩
theorem JkW {d:Don} (h:Xa d=true):Yd d:=by
 rcases Ym.1 h with h | h
 ·unfold Yd;omega
 ·have:=(Yo.1 h.2.2).2.1;unfold Yd;omega
theorem Jd8 {n:Int} {l:List Don} (h:Qc n l=true) (h4:n≤4):Wm Yd l :=
 ⟨by have:=(JQ.1 h).1;omega,fun d hd=>JkW ((JQ.1 h).2 d hd)⟩
theorem JiV {p:Pln} {b:List Int} {k:Int} {a:List Int} (h:Xl p b k a=true):a.length=3:=VZ (XN.1 h).1
theorem Vw {p:Pln} {s:Sit} {k:Int} (hp:JH p=true) (h:J4 p s k=true):QB s:=by
 obtain⟨_,h2,h3,h4⟩:=Qw.1 h
 have hd:=Jd8 h4 (Qm hp).2.1
 have:=(Qz.1 h2).1
 have:=JiV h3
 exact⟨by omega,by omega,hd.1,hd.2⟩
theorem Zj {p:Pln} {c:Cal} (h:Jw p c=true):UX c:=by
 have:=(XV.1 (QR.1 h).2.2.2).1
 unfold UX;omega
theorem K9 {n:Int} {l:List Int}:Yf n l=true↔(l.length:Int)=n∧∀x∈l,0≤x∧x≤300:=by
 unfold Yf;simp only[Bool.and_eq_true,decide_eq_true_eq,List.all_eq_true,Jp]
theorem JfF {c:Cal} (h:Y4 c=true):c.args.length=0:=by
 unfold Y4 at h;simp only[Bool.and_eq_true,decide_eq_true_eq] at h;exact h.2.2.2
structure JqU (p:Pln) (x:Msg):Prop where
 round:0≤x.round∧x.round≤200
 want:x.kind=1→x.to = -1∧Jw p x.call=true
 frz:x.kind=2→0≤x.to∧x.to<p.gives.length
 give:x.kind=3→x.to = -1∧(0≤x.frm∧x.frm<p.gives.length)∧x.vals.length=3∧Yf p.n x.seqs=true
 pact:x.kind=4→(0≤x.to∧x.to<p.gives.length)∧JW x.vals=true∧Qc p.n x.done=true
 kind:1≤x.kind∧x.kind≤4
 fit:Ux x
theorem YR {p:Pln} {k:Int}:XH p k=true↔0≤k∧k<p.gives.length:=by unfold XH;rw[Jp];omega
theorem Jcn {x:Msg} {a v s d:Bool} (h:Yk x a v s d=true):(a=false→x.call.args.length=0)∧(v=false→x.vals.length=0)∧(s=false→x.seqs.length=0)∧(d=false→x.done.length=0):=by
 unfold Yk em at h
 simp only[Bool.and_eq_true,Bool.or_eq_true,decide_eq_true_eq] at h
 obtain⟨h1,h2,h3,h4⟩:=h
 refine⟨fun e=>?_,fun e=>?_,fun e=>?_,fun e=>?_⟩
 ·subst e;exact JfF (h1.resolve_left (by simp))
 ·subst e;exact h2.resolve_left (by simp)
 ·subst e;exact h3.resolve_left (by simp)
 ·subst e;exact h4.resolve_left (by simp)
theorem Vr {p:Pln} {x:Msg} (hp:JH p=true) (h:JS p x=true):JqU p x:=by
 have hn:=Qm hp
 have no :∀{l:List Don},l.length=0→Wm Yd l:=fun h=>by rw[List.length_eq_zero_iff.1 h];exact⟨by simp,fun d hd=>by simp at hd⟩
 unfold JS at h
 rw[Bool.and_eq_true,Jp] at h
 obtain⟨hr,h⟩:=h
 split at h
 ·rename_i k
  simp only[Bool.and_eq_true,decide_eq_true_eq] at h
  obtain⟨h1,h2,h3,h4,h5⟩:=h
  have hb:=Jcn h5
  exact⟨hr,fun _=>⟨h1,h4⟩,fun e=>by omega,fun e=>by omega,fun e=>by omega,by omega,⟨Zj h4,by have:=hb.2.1 rfl;omega,by have:=hb.2.2.1 rfl;omega,no (hb.2.2.2 rfl)⟩⟩
 split at h
 ·rename_i k1 k
  simp only[Bool.and_eq_true,decide_eq_true_eq] at h
  obtain⟨h1,h2,h5⟩:=h
  have hb:=Jcn h5
  exact⟨hr,fun e=>by omega,fun _=>YR.1 h1,fun e=>by omega,fun e=>by omega,by omega,⟨by have:=hb.1 rfl;omega,by have:=hb.2.1 rfl;omega,by have:=hb.2.2.1 rfl;omega,no (hb.2.2.2 rfl)⟩⟩
 split at h
 ·rename_i k1 k2 k
  simp only[Bool.and_eq_true,decide_eq_true_eq] at h
  obtain⟨h1,h2,h3,h4,h5⟩:=h
  have hb:=Jcn h5
  have hv:=(Jo.1 h3).1
  have hq:=(K9.1 h4).1
  exact⟨hr,fun e=>by omega,fun e=>by omega,fun _=>⟨h1,YR.1 h2,by omega,h4⟩,fun e=>by omega,by omega,⟨by have:=hb.1 rfl;omega,by omega,by omega,no (hb.2.2.2 rfl)⟩⟩
 split at h
 ·rename_i k1 k2 k3 k
  simp only[Bool.and_eq_true,decide_eq_true_eq] at h
  obtain⟨h1,h2,h3,h4,h5⟩:=h
  have hb:=Jcn h5
  have hv:=(Qz.1 h3).1
  exact⟨hr,fun e=>by omega,fun e=>by omega,fun e=>by omega,fun _=>⟨YR.1 h1,h3,h4⟩,by omega,⟨by have:=hb.1 rfl;omega,by omega,by have:=hb.2.2.1 rfl;omega,Jd8 h4 hn.2.1⟩⟩
 ·cases h
def Asc (l:List Cal):Prop:=l.Pairwise fun a b=>a.client<b.client
theorem Jfd {p:Pln} {l:List Cal}:QV l.length (Wb p l)=true↔(∀x∈l,Jw p x=true)∧Asc l:=by
 rw[Y0]
 constructor
 ·intro h
  have h1 :∀(j:Nat) (x:Cal),l[j]? = some x→Jw p x=true∧(0<j→(l.getD (j-1) ⟨0,0,0,[]⟩).client<x.client):=fun j x hx=>by
   have:=h j (List.getElem?_eq_some_iff.1 hx).1
   rw[Jed hx,Bool.and_eq_true,Bool.or_eq_true,decide_eq_true_eq,decide_eq_true_eq] at this
   exact⟨this.1,fun hj=>this.2.resolve_left (by omega)⟩
  refine⟨fun x hx=>?_,?_⟩
  ·obtain⟨j,hj⟩:=List.getElem?_of_mem hx
   exact(h1 j x hj).1
  ·have step :∀(d i:Nat) (a b:Cal),l[i]? = some a→l[i+d+1]? = some b→a.client<b.client:=by
    intro d
    induction d with
    | zero =>
     intro i a b ha hb
     have:=(h1 _ _ hb).2 (by omega)
     rw[show i+0+1-1=i by omega,QG ha] at this
     exact this
    | succ d ih =>
     intro i a b ha hb
     have hl:=(List.getElem?_eq_some_iff.1 hb).1
     obtain⟨y,hy,_⟩:=sA1 (l:=l) (i:=i+d+1) (by omega)
     have h2:=ih i a y ha hy
     have h3:=(h1 _ _ hb).2 (by omega)
     rw[show i+(d+1)+1-1=i+d+1 by omega,QG hy] at h3
     omega
   unfold Asc
   rw[List.pairwise_iff_getElem]
   intro i j hi hj hij
   exact step (j-i-1) i _ _ (List.getElem?_eq_getElem hi) (by rw[show i+(j-i-1)+1=j by omega];exact List.getElem?_eq_getElem hj)
 ·rintro⟨h1,h2⟩ j hj
  obtain⟨x,hx,hm⟩:=sA1 hj
  rw[Jed hx,h1 x hm,Bool.true_and,Bool.or_eq_true,decide_eq_true_eq,decide_eq_true_eq]
  by_cases h0:j=0
  ·exact .inl h0
  ·right
   obtain⟨y,hy,_⟩:=sA1 (l:=l) (i:=j-1) (by omega)
   rw[QG hy]
   unfold Asc at h2
   rw[List.pairwise_iff_getElem] at h2
   obtain⟨hi1,rfl⟩:=List.getElem?_eq_some_iff.1 hx
   obtain⟨hi2,rfl⟩:=List.getElem?_eq_some_iff.1 hy
   exact h2 _ _ _ _ (by omega)
theorem JoR {l:List Cal} (h:Asc l) :∀(a b:Int),(∀x∈l,a≤x.client∧x.client≤b)→(l.length:Int)≤b-a+1∨l=[]:=by
 induction l with
 | nil=>intro a b _;exact .inr rfl
 | cons x l ih =>
  intro a b hb
  left
  rw[Asc,List.pairwise_cons] at h
  have hx:=hb x (List.mem_cons_self ..)
  rcases ih h.2 (x.client+1) b (fun y hy=>⟨by have:=h.1 y hy;omega,(hb y (List.mem_cons_of_mem _ hy)).2⟩) with q | q
  ·simp only[List.length_cons];omega
  ·subst q;simp only[List.length_cons,List.length_nil];omega
theorem Jbj {p:Pln} {l:List Cal} (hp:JH p=true) (h :∀x∈l,Jw p x=true) (ha:Asc l):l.length≤4:=by
 have hn:=Qm hp
 rcases JoR ha 0 (p.n-1) (fun x hx=>(QR.1 (h x hx)).1) with q | q
 ·omega
 ·subst q;simp
def Yi (x:Cal):List Cal→List Cal
 | []=>[x]
 | y::l=>if x.client≤y.client then(if y.client=x.client then(if x.seq<y.seq then y::l else x::l) else x::y::l) else y::Yi x l
theorem Jfr {x z:Cal} {l:List Cal} (h:z∈Yi x l):z=x∨z∈l:=by
 induction l with
 | nil=>simp only[Yi,List.mem_singleton] at h;exact .inl h
 | cons y l ih =>
  unfold Yi at h
  split at h
  ·split at h
   ·split at h
    ·exact .inr h
    ·rcases List.mem_cons.1 h with q | q
     ·exact .inl q
     ·exact .inr (List.mem_cons_of_mem _ q)
   ·rcases List.mem_cons.1 h with q | q
    ·exact .inl q
    ·exact .inr q
  ·rcases List.mem_cons.1 h with q | q
   ·exact .inr (by rw[q];exact List.mem_cons_self ..)
   ·rcases ih q with q | q
    ·exact .inl q
    ·exact .inr (List.mem_cons_of_mem _ q)
theorem Jlq {x:Cal} {l:List Cal} (h:Asc l):Asc (Yi x l):=by
 induction l with
 | nil=>simp[Yi,Asc]
 | cons y l ih =>
  rw[Asc,List.pairwise_cons] at h
  unfold Yi
  split
  ·split
   ·split
    ·exact List.pairwise_cons.2 h
    ·rename_i e _
     exact List.pairwise_cons.2 ⟨fun z hz=>by have:=h.1 z hz;omega,h.2⟩
   ·rename_i e1 e2
    refine List.pairwise_cons.2 ⟨fun z hz=>?_,List.pairwise_cons.2 h⟩
    rcases List.mem_cons.1 hz with q | q
    ·subst q;omega
    ·have:=h.1 z q;omega
  ·rename_i e
   refine List.pairwise_cons.2 ⟨fun z hz=>?_,ih h.2⟩
   rcases Jfr hz with q | q
   ·subst q;omega
   ·exact h.1 z q
theorem Jof (l:List Cal) (x:Cal):dCs l++[x.g]=dCs (l++[x]):=by simp[dCs]
theorem Jj2 {x y:Cal} {l:List Cal} (h:x.client≤y.client):Yi x (y::l)=if y.client=x.client then(if x.seq<y.seq then y::l else x::l) else x::y::l:=by rw[Yi,if_pos h]
theorem JlQ (l:List Cal) (x:Cal) (hl:Wm UX l) (hx:UX x):Ev L f_k2i ([.s (dCs l)]++x.cells) [.s (dCs (Yi x l))]:=by
 refine Jtg (vs:=[.l (dCs l),.i x.client,.i x.seq,.i x.act,.l (dL x.args)]) L_k2i rfl ?_
 have hl0:=hl.1
 refine JsR l.length (fun i vs=>∃ (out:List Cal) (b:Bool),vs=[.l (dCs out),.b b,.i i]∧out.length≤i+1∧(if b then out++l.drop i=Yi x l else out=l.take i∧Yi x l=l.take i++Yi x (l.drop i))) rfl ⟨[],false,rfl,by simp,by simp⟩ ?_
 rintro i vs hi ⟨out,b,rfl,hol,hq⟩
 simp only[sC,sN]
 have app :∀y:Cal,dCs out++[.g [dI y.client,dI y.seq,dI y.act,.s (dL y.args)]]=dCs (out++[y]):=fun y=>Jof out y
 have app2 :∀y z:Cal,dCs out++[.g [dI y.client,dI y.seq,dI y.act,.s (dL y.args)]]++[.g [dI z.client,dI z.seq,dI z.act,.s (dL z.args)]]=dCs (out++[y,z]):=fun y z=>by simp[dCs,Cal.g,Cal.cells]
 refine JsY i (X8 l) rfl (fun h'=>?_) (fun h'=>JsS ?_)
 ·obtain⟨y,hy,hm⟩:=sA1 h'
  have hyf:=hl.2 y hm
  have hdr:l.drop i=y::l.drop (i+1):=Xt hy
  have htk:=tS1 hy
  have hw:=wS h' (by omega)
  have ix :∀{r:R} {vs:List V} {n:Nat} {Q:Oc→Prop},n=vs.length→lst (Jm vs) (.v 0)=dCs l→int (Jm vs) (.v 7)=i→WR L r (vs++[.i y.client,.i y.seq,.i y.act,.l (dL y.args)]) Q→WR L (.i (.idx (.v 0) (.v 7) (.g [.i .i64,.i .i64,.i .i64,.s]) n) r) vs Q:=fun hn h0 h7 h =>
   Js9 (vs:=[.i y.client,.i y.seq,.i y.act,.l (dL y.args)]) i (mA1 (f:=Cal.g) hy) hn h0 h7 rfl h
  have ca :∀{r:R} {vs:List V} {e:E} {Q:Oc→Prop},lst (Jm vs) (.v 5)=dCs out→WR L r vs Q→WR L (.i (.chk (.cmp .le (.len (.app (.v 5) (.cons e .nil))) (.z 1466015503701))) r) vs Q:=fun h5 h =>
   JsX (dCs out) 2000001 (by rw[X8];omega) (by omega) h5 h
  have ca2 :∀{r:R} {vs:List V} {e e2:E} {Q:Oc→Prop},lst (Jm vs) (.v 5)=dCs out→WR L r vs Q→WR L (.i (.chk (.cmp .le (.len (.app (.app (.v 5) (.cons e .nil)) (.cons e2 .nil))) (.z 1466015503701))) r) vs Q:=fun {_ vs e _ _} h5 h =>
   JsX (dCs out++[dat (Jm vs) e]) 2000002 (by rw[List.length_append,X8];simp;omega) (by omega) (by show lst (Jm vs) (.v 5)++[dat (Jm vs) e]=_;rw[h5]) h
  cases b with
  | true =>
   refine JsO rfl (ix rfl rfl rfl ?_)
   simp only[sC,sN]
   refine ca rfl ?_
   refine Js3 (vs:=[.l (dCs (out++[y])),.b true,.i ((i+1:Nat):Int)]) ?_ ⟨h',out++[y],true,rfl,by simp;omega,?_⟩
   ·rw[←app y,←hw];rfl
   ·simp only[if_true] at hq ⊢
    rw[←hq,hdr];simp
  | false =>
   simp only[Bool.false_eq_true,if_false] at hq
   obtain⟨rfl,hq⟩:=hq
   rw[hdr] at hq
   refine JsP rfl (ix rfl rfl rfl ?_)
   simp only[sC,sN]
   refine JsI (x.client≤y.client) rfl (fun hle=>?_) (fun hle=>?_)
   ·rw[Jj2 hle] at hq
    have fin2 :∀o2:List Cal,o2++l.drop (i+1)=Yi x l→o2.length≤i+2→∃ (o3:List Cal) (b:Bool),[V.l (dCs o2),.b true,.i ((i+1:Nat):Int)]=[V.l (dCs o3),.b b,.i ((i+1:Nat):Int)]∧o3.length≤i+1+1∧(if b then o3++l.drop (i+1)=Yi x l else o3=l.take (i+1)∧Yi x l=l.take (i+1)++Yi x (l.drop (i+1))) :=
     fun o2 h1 h2=>⟨o2,true,rfl,by omega,by simpa using h1⟩
    refine ix rfl rfl rfl ?_
    simp only[sC,sN]
    refine JsI (y.client=x.client) rfl (fun he=>?_) (fun he=>?_)
    ·rw[if_pos he] at hq
     refine ix rfl rfl rfl ?_
     simp only[sC,sN]
     refine JsI (x.seq<y.seq) rfl (fun hs=>?_) (fun hs=>?_)
     ·rw[if_pos hs] at hq
      refine ix rfl rfl rfl (ca rfl (ix rfl rfl rfl ?_))
      simp only[sC,sN]
      refine JsP (by show decide (y.client=x.client)=true;exact decide_eq_true he) ?_
      refine Js3 (vs:=[.l (dCs (l.take i++[y])),.b true,.i ((i+1:Nat):Int)]) ?_ ⟨h',fin2 _ (by rw[hq];simp) (by simp;omega)⟩
      rw[←app y,←hw];rfl
     ·rw[if_neg hs] at hq
      refine JsZ (vs:=[.i x.client,.i x.seq,.i x.act,.l (dL x.args)]) (JU x hx) rfl rfl rfl ?_
      simp only[sC,sN]
      refine ca rfl (ix rfl rfl rfl ?_)
      simp only[sC,sN]
      refine JsP (by show decide (y.client=x.client)=true;exact decide_eq_true he) ?_
      refine Js3 (vs:=[.l (dCs (l.take i++[x])),.b true,.i ((i+1:Nat):Int)]) ?_ ⟨h',fin2 _ (by rw[hq];simp) (by simp;omega)⟩
      rw[←app x,←hw];rfl
    ·rw[if_neg he] at hq
     refine JsZ (vs:=[.i x.client,.i x.seq,.i x.act,.l (dL x.args)]) (JU x hx) rfl rfl rfl ?_
     simp only[sC,sN]
     refine ca rfl (ix rfl rfl rfl ?_)
     simp only[sC,sN]
     refine JsO (by show decide (y.client=x.client)=false;exact decide_eq_false he) ?_
     refine ix rfl rfl rfl (ca2 rfl ?_)
     simp only[sC,sN]
     refine Js3 (vs:=[.l (dCs (l.take i++[x,y])),.b true,.i ((i+1:Nat):Int)]) ?_ ⟨h',fin2 _ (by rw[hq];simp) (by simp;omega)⟩
     rw[←app2 x y,←hw];rfl
   ·refine ix rfl rfl rfl (ca rfl ?_)
    simp only[sC,sN]
    refine Js3 (vs:=[.l (dCs (l.take i++[y])),.b false,.i ((i+1:Nat):Int)]) ?_ ⟨h',l.take i++[y],false,rfl,by simp;omega,?_⟩
    ·rw[←app y,←hw];rfl
    ·simp only[Bool.false_eq_true,if_false]
     rw[htk]
     refine⟨rfl,?_⟩
     rw[hq,Yi,if_neg hle];simp
 ·have hd:l.drop i=[]:=List.drop_eq_nil_of_le (by omega)
  cases b with
  | true =>
   simp only[if_true,hd,List.append_nil] at hq
   subst hq
   exact JsO rfl (JsN rfl)
  | false =>
   simp only[Bool.false_eq_true,if_false,hd] at hq
   obtain⟨rfl,hq⟩:=hq
   refine JsP rfl (JsZ (vs:=[.i x.client,.i x.seq,.i x.act,.l (dL x.args)]) (JU x hx) rfl rfl rfl ?_)
   simp only[sC,sN]
   refine JsX (dCs (l.take i)) 2000001 (by rw[X8];omega) (by omega) rfl (JsN ?_)
   show [D.s (dCs (l.take i)++[.g [dI x.client,dI x.seq,dI x.act,.s (dL x.args)]])]=_
   rw[app x,hq];rfl
/- A round's end,by the reference: over residual programs. -/
structure X6 (p:Pln) (c:Clk):Prop where
 round:0≤c.round∧c.round≤200
 base:JW c.base=true
 done:Qc p.n c.done=true
 len:c.got.length=p.gives.length
 got :∀j,j<c.got.length→KY p c.base c.got j=true
 wants :∀x∈c.wants,Jw p x=true
 asc:Asc c.wants
 down:c.up=false→c.wants=[]∧XJ c.got=0
theorem Jqh {p:Pln} {c:Clk} (h:Zf p c=true):X6 p c:=by
 unfold Zf at h
 simp only[Bool.and_eq_true,decide_eq_true_eq,Bool.or_eq_true] at h
 obtain⟨h1,h2,h3,⟨h4,h5⟩,h6,h7⟩:=h
 obtain⟨w1,w2⟩:=Jfd.1 h6
 exact⟨Jp.1 h1,h2,h3,h4,Y0.1 h5,w1,w2,fun e=>by
  rcases h7 with q | q
  ·rw[e] at q;cases q
  ·exact⟨List.length_eq_zero_iff.1 q.1,q.2⟩⟩
theorem X6.ok {p:Pln} {c:Clk} (h:X6 p c):Zf p c=true:=by
 unfold Zf
 simp only[Bool.and_eq_true,decide_eq_true_eq,Bool.or_eq_true]
 refine⟨Jp.2 h.round,h.base,h.done,⟨h.len,Y0.2 h.got⟩,Jfd.2 ⟨h.wants,h.asc⟩,?_⟩
 cases e:c.up with
 | true=>exact .inl rfl
 | false=>exact .inr ⟨by rw[(h.down e).1];rfl,(h.down e).2⟩
theorem JjI {p:Pln} {b:List Int} {l:List Got} {j:Nat} {g:Got} (h:KY p b l j=true) (hg:l[j]? = some g):(g.has=true→Xl p b j g.added=true∧Yf p.n g.seqs=true)∧(g.has=false→g.added.length=0∧g.seqs.length=0):=by
 unfold KY at h
 rw[QG hg] at h
 cases e:g.has with
 | true=>rw[e] at h;simp only[if_true,Bool.and_eq_true] at h;exact⟨fun _=>h,fun q=>Bool.noConfusion q⟩
 | false=>rw[e] at h;simp only[Bool.false_eq_true,if_false,emp,Bool.and_eq_true,decide_eq_true_eq] at h;exact⟨fun q=>Bool.noConfusion q,fun _=>h⟩
theorem VH {p:Pln} {c:Clk} (hp:JH p=true) (h:X6 p c):Um c:=by
 have hn:=Qm hp
 have hg:=Qo hp
 have hd:=Jd8 h.done hn.2.1
 have hl:=h.len
 refine⟨by have:=(Qz.1 h.base).1;omega,hd.1,fun d hm=>hd.2 d hm,by have:=Jbj hp h.wants h.asc;omega,fun d hm=>Zj (h.wants d hm),by omega,fun g hm=>?_⟩
 obtain⟨j,hj⟩:=List.getElem?_of_mem hm
 have hi:=JjI (h.got j (List.getElem?_eq_some_iff.1 hj).1) hj
 cases e:g.has with
 | true =>
  obtain⟨a,b⟩:=hi.1 e
  have:=JiV a
  have:=(K9.1 b).1
  omega
 | false=>have:=hi.2 e;omega
def Q9 (b:List Int) (l:List Got):List Int:=l.foldl (fun v g=>if g.has then Qf v g.added else v) b
def dRr (l:List (Int×List Int)):List D:=l.map fun x=> .g [dI x.1,.s (dL x.2)]
structure Jah where
 done:List Don
 calls:List Cal
 list:List (Int×List Int)
 vals:List Int
def V4 (p:Pln) (c:Clk) (w:Cal):Int:=(c.got.getD (Int.tmod w.client p.gives.length).toNat XP).seqs.getD w.client.toNat 0
def Zb (p:Pln) (r:Jah) (w:Cal):Res:=ZK (p.acts.getD w.act.toNat []) r.vals w.args
def Jd1 (p:Pln) (r:Jah) (w:Cal):Jah:=⟨r.done.set w.client.toNat ⟨w.seq,(Zb p r w).code,(Zb p r w).tells⟩,r.calls++[w],r.list++[((Zb p r w).code,(Zb p r w).tells)],(Zb p r w).is⟩
def Vi (p:Pln) (c:Clk) (r:Jah) (w:Cal):Jah:=if w.seq=V4 p c w+1 then Jd1 p r w else r
def JP (p:Pln) (c:Clk) (l:List Cal):Jah:=l.foldl (Vi p c) ⟨c.done,[],[],Q9 c.base c.got⟩
theorem Jb5 (p:Pln) (c:Clk) {l:List Cal} {i:Nat} {x:Cal} (h:l[i]? = some x):JP p c (l.take (i+1))=Vi p c (JP p c (l.take i)) x:=by
 rw[tS1 h];simp[JP]
def Z3 (p:Pln) (c:Clk):Bool:=decide (XJ c.got=p.gives.length)&&(decide (c.round≠200)&&JW (Q9 c.base c.got))
structure JkI where
 c:Clk
 calls:List Cal
 list:List (Int×List Int)
def JbG (p:Pln) (c:Clk):JkI :=
 if Z3 p c then ⟨⟨c.up,c.round+1,(JP p c c.wants).vals,(JP p c c.wants).done,[],List.replicate p.gives.length XP⟩,(JP p c c.wants).calls,(JP p c c.wants).list⟩ else ⟨c,[],[]⟩
def JkI.ds (r:JkI):List D:=r.c.cells++[.s (dCs r.calls),.s (dRr r.list)]
theorem Jk9 {p:Pln} {c:Clk} (h:Z3 p c=false):JbG p c=⟨c,[],[]⟩:=by unfold JbG;rw[h];rfl
theorem Jiq {p:Pln} {c:Clk} (h:Z3 p c=true):JbG p c=⟨⟨c.up,c.round+1,(JP p c c.wants).vals,(JP p c c.wants).done,[],List.replicate p.gives.length XP⟩,(JP p c c.wants).calls,(JP p c c.wants).list⟩:=by unfold JbG;rw[if_pos h]
structure WW (p:Pln) (i:Nat) (r:Jah):Prop where
 done:Qc p.n r.done=true
 vals:JW r.vals=true
 calls :∀x∈r.calls,Jw p x=true
 list :∀x∈r.list,JI x.1 x.2=true
 cl:r.calls.length≤i
 ll:r.list.length=r.calls.length
theorem run_ok {p:Pln} {r:Jah} {w:Cal} (hp:JH p=true) (hv:JW r.vals=true) (hw:Jw p w=true):JW (Zb p r w).is=true∧JI (Zb p r w).code (Zb p r w).tells=true∧(Zb p r w).code≠0:=by
 obtain⟨_,_,h3,h4⟩:=QR.1 hw
 obtain⟨hm,_⟩:=Jad (as:=p.acts) h3.1 (by omega)
 have hf:=Jhp ((XT (Xr hp)).2.2 _ hm) hv h4
 unfold Zb
 generalize ZK (p.acts.getD w.act.toNat []) r.vals w.args=R at *
 rcases hf with ⟨a,b,c,d⟩ | ⟨a,b,c⟩
 ·exact⟨b,Yo.2 ⟨by omega,c,.inl a,d⟩,by omega⟩
 ·exact⟨by rw[a];exact hv,Yo.2 ⟨by omega,by rw[b];simp,.inr b,by rw[b];intro x hx;simp at hx⟩,by omega⟩
theorem WW.step {p:Pln} {c:Clk} {i:Nat} {r:Jah} {w:Cal} (hp:JH p=true) (h:WW p i r) (hw:Jw p w=true):WW p (i+1) (Vi p c r w):=by
 unfold Vi
 split
 ·obtain⟨r1,r2,r3⟩:=run_ok hp h.vals hw
  have hs:=(QR.1 hw).2.1
  refine⟨Jdv h.done _ (Ym.2 (.inr ⟨hs.1,hs.2,r2⟩)),r1,fun x hx=>?_,fun x hx=>?_,by simp only[Jd1,List.length_append,List.length_singleton];have:=h.cl;omega,by simp only[Jd1,List.length_append,List.length_singleton];have:=h.ll;omega⟩
  ·rcases List.mem_append.1 hx with q | q
   ·exact h.calls x q
   ·simp only[List.mem_singleton] at q;subst q;exact hw
  ·rcases List.mem_append.1 hx with q | q
   ·exact h.list x q
   ·simp only[List.mem_singleton] at q;subst q;exact r2
 ·exact⟨h.done,h.vals,h.calls,h.list,by have:=h.cl;omega,h.ll⟩
theorem Jb1 {p:Pln} {c:Clk} (hp:JH p=true) (hc:X6 p c) (hv:JW (Q9 c.base c.got)=true) :∀i,i≤c.wants.length→WW p i (JP p c (c.wants.take i)):=by
 intro i
 induction i with
 | zero=>intro _;exact⟨hc.done,hv,fun x hx=>by simp[JP] at hx,fun x hx=>by simp[JP] at hx,by simp[JP],by simp[JP]⟩
 | succ i ih =>
  intro hi
  obtain⟨x,hx,hm⟩:=sA1 (l:=c.wants) (i:=i) (by omega)
  rw[Jb5 p c hx]
  exact(ih (by omega)).step hp (hc.wants x hm)
theorem Jh8 (p:Pln) (b:List Int) (n j:Nat):KY p b (List.replicate n XP) j=true:=by
 unfold KY
 have:(List.replicate n XP).getD j XP=XP:=by
  rw[List.getD_eq_getElem?_getD,List.getElem?_replicate]
  split <;> rfl
 rw[this];rfl
theorem Jhj (n:Nat):XJ (List.replicate n XP)=0:=by
 unfold XJ
 rw[List.length_eq_zero_iff,List.filter_eq_nil_iff]
 intro x hx
 rw[(List.mem_replicate.1 hx).2]
 simp[XP]
structure JqL (p:Pln) (c:Clk) (r:JkI):Prop where
 c:X6 p r.c
 calls :∀x∈r.calls,Jw p x=true
 list :∀x∈r.list,JI x.1 x.2=true
 len:r.list.length=r.calls.length
 four:r.calls.length≤4
theorem Jo1 {p:Pln} {c:Clk} (hp:JH p=true) (hc:X6 p c):JqL p c (JbG p c):=by
 cases h:Z3 p c with
 | false=>rw[Jk9 h];exact⟨hc,fun x hx=>by simp at hx,fun x hx=>by simp at hx,rfl,by simp⟩
 | true =>
  rw[Jiq h]
  unfold Z3 at h
  simp only[Bool.and_eq_true,decide_eq_true_eq] at h
  obtain⟨h1,h2,h3⟩:=h
  have hf:=Jb1 hp hc h3 c.wants.length (Nat.le_refl _)
  rw[List.take_length] at hf
  have hw:=Jbj hp hc.wants hc.asc
  have hr:=hc.round
  exact⟨⟨by show 0≤c.round+1∧c.round+1≤200;omega,hf.vals,hf.done,by simp,fun j _=>Jh8 ..,fun x hx=>by simp at hx,List.Pairwise.nil,fun _=>⟨rfl,Jhj _⟩⟩,hf.calls,hf.list,hf.ll,by have:=hf.cl;show (JP p c c.wants).calls.length≤4;omega⟩
theorem JiP {b:List Int} {l:List Got} {i:Nat} {x:Got} (h:l[i]? = some x):Q9 b (l.take (i+1))=if x.has then Qf (Q9 b (l.take i)) x.added else Q9 b (l.take i):=by
 rw[tS1 h];simp[Q9]
theorem Jqn {p:Pln} {c:Clk} {x:Cal} (hp:JH p=true) (hc:X6 p c) (hall:XJ c.got=p.gives.length) (hx:Jw p x=true) :
  ∃ g:Got,(0≤Int.tmod x.client p.gives.length)∧c.got[(Int.tmod x.client p.gives.length).toNat]? = some g∧g.seqs[x.client.toNat]? = some (V4 p c x)∧(0≤V4 p c x∧V4 p c x≤300):=by
 have hg:=Qo hp
 obtain⟨h1,_⟩:=QR.1 hx
 have t0:0≤Int.tmod x.client p.gives.length:=Int.tmod_nonneg _ h1.1
 have t1:Int.tmod x.client p.gives.length<p.gives.length:=Int.tmod_lt_of_pos _ (by omega)
 obtain⟨g,hgg,hm⟩:=sA1 (l:=c.got) (i:=(Int.tmod x.client p.gives.length).toNat) (by have:=hc.len;omega)
 have hhas:g.has=true:=by
  have:=Jnm c.got
  rw[hall,←hc.len,decide_eq_true rfl,List.all_eq_true] at this
  exact this g hm
 obtain⟨_,hsq⟩:=(JjI (hc.got _ (List.getElem?_eq_some_iff.1 hgg).1) hgg).1 hhas
 obtain⟨q1,q2⟩:=K9.1 hsq
 obtain⟨v,hv,hvm⟩:=sA1 (l:=g.seqs) (i:=x.client.toNat) (by omega)
 have e:V4 p c x=v:=by unfold V4;rw[QG hgg,QG hv]
 rw[e]
 exact⟨g,t0,hgg,hv,q2 v hvm⟩
theorem Jlr (p:Pln) (c:Clk) (hp:JH p=true) (hc:X6 p c):Ev L f_k2l (p.cells++c.cells) (JbG p c).ds:=by
 refine Jtg (vs:=[.i p.n,.l (Jd p.acts),.l (dL p.gives),.l (dL p.start),.b c.up,.i c.round,.l (dL c.base),.l (dDs c.done),.l (dCs c.wants),.l (dGs c.got)]) L_k2l rfl ?_
 have hpf:=Zm hp
 have hcf:=VH hp hc
 have hg:=Qo hp
 have hn:=Qm hp
 have hb:=Qz.1 hc.base
 have hw4:=Jbj hp hc.wants hc.asc
 refine JsZ (vs:=[.b c.up,.i c.round,.l (dL c.base),.l (dDs c.done),.l (dCs c.wants),.l (dGs c.got)]) (Vy c hcf) rfl rfl rfl ?_
 simp only[sC,sN]
 refine Js6 (dL c.base) 2000000 (by rw[dL1];omega) (by omega) rfl ?_
 refine JsU (JO c.base) ?_
 refine Js6 (dL c.base) 2000000 (by rw[dL1];omega) (by omega) rfl ?_
 refine Js2 c.got.length (fun i=>[.l (dL (Q9 c.base (c.got.take i))),.i i]) (fun i=>(Q9 c.base (c.got.take i)).length=3∧Lim (10000+20000*(i:Int)) (Q9 c.base (c.got.take i))) rfl rfl ⟨by simp[Q9];omega,by simpa[Q9] using hb.2⟩ fun i hi hq=>?_
 simp only[sC,sN]
 refine JsY i (Ug c.got) rfl (fun h'=>?_) (fun h'=>JsS ?_)
 ·obtain⟨x,hx,hm⟩:=sA1 h'
  have hs:=JiP (b:=c.base) hx
  have hin:=JjI (hc.got i h') hx
  refine Js9 (vs:=[.b x.has,.l (dL x.added),.l (dL x.seqs)]) i (mA1 (f:=Got.g) hx) rfl rfl rfl rfl ?_
  simp only[sC,sN]
  refine JsW x.has rfl (fun hh=>?_) (fun hh=>?_)
  ·have hk:=XN.1 (hin.1 hh).1
   have ha:=(Zi (Xk hk.1)).2.2.2.2.2.1
   refine Js9 (vs:=[.b x.has,.l (dL x.added),.l (dL x.seqs)]) i (mA1 (f:=Got.g) hx) rfl rfl rfl rfl ?_
   simp only[sC,sN]
   have hl3:=hc.len
   refine JsZ (vs:=[.l (dL (Qf (Q9 c.base (c.got.take i)) x.added))]) (Jdj hq.1 ha.1 (hq.2.mono (by omega)) (ha.2.mono (by omega))) rfl rfl rfl ?_
   rw[hh] at hs
   simp only[if_true] at hs
   refine Js3 (vs:=[.l (dL (Q9 c.base (c.got.take (i+1)))),.i ((i+1:Nat):Int)]) ?_ ⟨h',rfl,?_⟩
   ·rw[hs,←wS h' (by omega)];rfl
   ·show (Q9 c.base (c.got.take (i+1))).length=3∧Lim (10000+20000*((i+1:Nat):Int)) (Q9 c.base (c.got.take (i+1)))
    rw[hs]
    refine⟨by rw[ZF (by omega)];exact hq.1,?_⟩
    have:=Jit hq.2 ha.2
    rw[show (10000+20000*(i:Int))+20000=10000+20000*((i+1:Nat):Int) by omega] at this
    exact this
  ·rw[hh] at hs
   simp only[Bool.false_eq_true,if_false] at hs
   have hl3:=hc.len
   refine Js3 (vs:=[.l (dL (Q9 c.base (c.got.take (i+1)))),.i ((i+1:Nat):Int)]) ?_ ⟨h',rfl,?_⟩
   ·rw[hs,←wS h' (by omega)];rfl
   ·show (Q9 c.base (c.got.take (i+1))).length=3∧Lim (10000+20000*((i+1:Nat):Int)) (Q9 c.base (c.got.take (i+1)))
    rw[hs];exact⟨hq.1,hq.2.mono (by omega)⟩
 rw[tA1 h'] at hq ⊢
 have hq3:=hq.1
 clear hq h' hi
 have hhn:=Jkw c.got
 have hl:=hc.len
 refine JsZ (Jee c hcf.g) rfl rfl rfl ?_
 simp only[sC,sN]
 have bad :∀q,Z3 p c=false→q=c.cells++[D.s [],D.s []]→q=(JbG p c).ds:=fun q h e=>by rw[Jk9 h,e];rfl
 refine JsI ((XJ c.got:Int)<(p.gives.length:Int)) (by show decide ((XJ c.got:Int)<((dL p.gives).length:Int))=_;rw[dL1]) (fun h=>JsN (bad _ (by unfold Z3;rw[decide_eq_false (show ¬XJ c.got=p.gives.length by omega)];rfl) rfl)) (fun h=>?_)
 have hall:XJ c.got=p.gives.length:=by omega
 refine JsI (c.round=200) rfl (fun h=>JsN (bad _ (by unfold Z3;rw[h];simp) rfl)) (fun h2=>?_)
 refine JsZ (YV (Q9 c.base c.got) (by rw[hq3];omega)) rfl rfl rfl ?_
 simp only[sC,sN]
 refine Jte (JW (Q9 c.base c.got)) rfl (fun h=>JsN (bad _ (by unfold Z3;rw[h];simp) rfl)) (fun h3=>?_)
 have hgo:Z3 p c=true:=by unfold Z3;rw[hall,h3,decide_eq_true rfl,decide_eq_true h2];rfl
 rw[Jiq hgo]
 refine Js2 c.wants.length (fun i=>[.l (dDs (JP p c (c.wants.take i)).done),.l (dCs (JP p c (c.wants.take i)).calls),.l (dRr (JP p c (c.wants.take i)).list),.l (dL (JP p c (c.wants.take i)).vals),.i i]) (fun _=>True) rfl rfl trivial fun i hi _=>?_
 simp only[sC,sN]
 have hf:=Jb1 hp hc h3 i hi
 refine JsY i (X8 c.wants) rfl (fun h'=>?_) (fun h'=>JsS ?_)
 ·obtain⟨x,hx,hm⟩:=sA1 h'
  have hs:=Jb5 p c hx
  have hxo:=hc.wants x hm
  obtain⟨g,t0,hgg,hsq,hsr⟩:=Jqn hp hc hall hxo
  obtain⟨c1,c2,c3,c4⟩:=QR.1 hxo
  refine Js9 (vs:=[.i x.client,.i x.seq,.i x.act,.l (dL x.args)]) i (mA1 (f:=Cal.g) hx) rfl rfl rfl rfl ?_
  simp only[sC,sN]
  refine Js8 (by show (!decide (((dL p.gives).length:Int)=0))=true;rw[dL1,Bool.not_eq_true',decide_eq_false_iff_not];omega) ?_
  refine Jtd (ds:=dGs c.got) (d:=g.g) (vs:=[.b g.has,.l (dL g.added),.l (dL g.seqs)]) (Int.tmod x.client p.gives.length) rfl rfl (by show Int.tmod x.client ((dL p.gives).length:Int)=_;rw[dL1]) t0 (mA1 (f:=Got.g) hgg) rfl ?_
  simp only[sC,sN]
  refine Jtd (ds:=dL g.seqs) (d:=dI (V4 p c x)) (vs:=[.i (V4 p c x)]) x.client rfl rfl rfl c1.1 (mA1 (f:=dI) hsq) rfl ?_
  simp only[sC,sN]
  have hstep:Vi p c (JP p c (c.wants.take i)) x=if x.seq=V4 p c x+1 then Jd1 p (JP p c (c.wants.take i)) x else JP p c (c.wants.take i):=rfl
  rw[hstep] at hs
  generalize JP p c (c.wants.take i)=r at *
  generalize V4 p c x=sq at *
  have hw:IntKind.i64.wrap ((i:Int)+1)=((i+1:Nat):Int):=wS h' (by omega)
  refine JsI (x.seq=sq+1) (by show decide (x.seq=IntKind.i64.wrap (sq+1))=_;rw[w64 (by omega) (by omega)]) (fun he=>?_) (fun he=>?_)
  ·rw[if_pos he] at hs
   obtain⟨hma,hka⟩:=Jad (as:=p.acts) c3.1 (by omega)
   obtain⟨r1,r2,r3⟩:=run_ok hp hf.vals hxo
   have hrun:=Jjj (p.acts.getD x.act.toNat []) r.vals x.args (hpf.1.2 _ hma) (by have:=(Qz.1 hf.vals).1;omega) (by have:=(XV.1 c4).1;omega)
   have ero:ZK (p.acts.getD x.act.toNat []) r.vals x.args=Zb p r x:=rfl
   rw[ero] at hrun
   have hdl:Jd1 p r x=⟨r.done.set x.client.toNat ⟨x.seq,(Zb p r x).code,(Zb p r x).tells⟩,r.calls++[x],r.list++[((Zb p r x).code,(Zb p r x).tells)],(Zb p r x).is⟩:=rfl
   rw[hdl] at hs
   generalize Zb p r x=R at *
   have htl:R.tells.length≤2000000:=by have:=(Yo.1 r2).2.1;omega
   refine Jtd (ds:=Jd p.acts) (d:= .s (Jk (p.acts.getD x.act.toNat []))) (vs:=[.l (Jk (p.acts.getD x.act.toNat []))]) x.act rfl rfl rfl c3.1 (mA1 (f:=fun a=>D.s (Jk a)) hka) rfl ?_
   simp only[sC,sN]
   refine JsZ (vs:=[.i R.code,.l (dL R.tells),.l (dL R.is)]) hrun rfl rfl rfl ?_
   simp only[sC,sN]
   refine JsZ (vs:=[.i R.code,.l (dL R.tells)]) (J8 R.code R.tells htl) rfl rfl rfl ?_
   simp only[sC,sN]
   obtain⟨d1,d2⟩:=JQ.1 hf.done
   obtain⟨y,hy,hym⟩:=sA1 (l:=r.done) (i:=x.client.toNat) (by omega)
   refine Js4 (0≤x.client) rfl c1.1 ?_
   refine Js4 (x.client<(r.done.length:Int)) (by show decide (x.client<((dDs r.done).length:Int))=_;rw[Q2]) (by omega) ?_
   refine Jtd (ds:=dDs r.done) (d:=y.g) (vs:=[.i y.seq,.i y.code,.l (dL y.tells)]) x.client rfl rfl rfl c1.1 (mA1 (f:=Don.g) hy) rfl ?_
   simp only[sC,sN]
   refine JsZ (vs:=[.i x.client,.i x.seq,.i x.act,.l (dL x.args)]) (JU x (Zj hxo)) rfl rfl rfl ?_
   simp only[sC,sN]
   have hcl:=hf.cl
   have hll:=hf.ll
   refine JsX (dCs r.calls) 2000000 (by rw[X8];omega) (by omega) rfl ?_
   refine JsZ (vs:=[.i R.code,.l (dL R.tells)]) (J8 R.code R.tells htl) rfl rfl rfl ?_
   simp only[sC,sN]
   refine JsX (dRr r.list) 2000000 (by rw[show (dRr r.list).length=r.list.length from List.length_map ..];omega) (by omega) rfl ?_
   refine Js3 (vs:=[.l (dDs (JP p c (c.wants.take (i+1))).done),.l (dCs (JP p c (c.wants.take (i+1))).calls),.l (dRr (JP p c (c.wants.take (i+1))).list),.l (dL (JP p c (c.wants.take (i+1))).vals),.i ((i+1:Nat):Int)]) ?_ ⟨h',rfl,trivial⟩
   rw[hs]
   show [V.l ((dDs r.done).set x.client.toNat (.g [dI x.seq,dI R.code,.s (dL R.tells)])),V.l (dCs r.calls++[.g [dI x.client,dI x.seq,dI x.act,.s (dL x.args)]]),V.l (dRr r.list++[.g [dI R.code,.s (dL R.tells)]]),V.l (dL R.is),V.i (IntKind.i64.wrap ((i:Int)+1))]=_
   rw[hw]
   simp only[dDs,dCs,dRr,List.map_set,List.map_append,List.map_cons,List.map_nil]
   rfl
  ·rw[if_neg he] at hs
   refine Js3 (vs:=[.l (dDs (JP p c (c.wants.take (i+1))).done),.l (dCs (JP p c (c.wants.take (i+1))).calls),.l (dRr (JP p c (c.wants.take (i+1))).list),.l (dL (JP p c (c.wants.take (i+1))).vals),.i ((i+1:Nat):Int)]) ?_ ⟨h',rfl,trivial⟩
   rw[hs]
   show [V.l (dDs r.done),V.l (dCs r.calls),V.l (dRr r.list),V.l (dL r.vals),V.i (IntKind.i64.wrap ((i:Int)+1))]=_
   rw[hw]
 ·rw[tA1 h'] at hf ⊢
  have hr:=hc.round
  refine JsZ (JaP p hpf.2.1) rfl rfl rfl (JsN ?_)
  generalize JP p c c.wants=r at *
  show [dB c.up,dI (IntKind.i64.wrap (c.round+1)),.s (dL r.vals),.s (dDs r.done),.s [],.s (dGs (List.replicate p.gives.length XP)),.s (dCs r.calls),D.s (dRr r.list)]=_
  rw[w64 (by omega) (by omega)];rfl
end Go.Proofs.YtdmjmcegcpdenaaGreatDoor

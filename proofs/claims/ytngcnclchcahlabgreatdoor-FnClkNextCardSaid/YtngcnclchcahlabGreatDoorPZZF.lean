import Derived.Test.YtngcnclchcahlabGreatDoorPZZC
import Derived.Test.YtngcnclchcahlabGreatDoorPZX
import Derived.Test.YtngcnclchcahlabGreatDoorPZP
import Derived.Test.YtngcnclchcahlabGreatDoorPZU
set_option linter.unusedVariables false
set_option linter.unusedSimpArgs false
/- What a site tries,by the reference: over residual programs. -/
namespace Go.Proofs.YtngcnclchcahlabGreatDoor
open Go Go.Tm
open Go.IntKind (i64)
theorem Jf7 (x:Msg) (hx:Vn x):Ev L f_k1y x.cells x.cells:=by
 refine JuV (vs:=[.i x.kind,.i x.to,.i x.frm,.i x.round,.i x.call.client,.i x.call.seq,.i x.call.act,.l (dL x.call.args),.l (dL x.vals),.l (dL x.seqs),.l (dDs x.done)]) L_k1y rfl ?_;obtain⟨h1,h2,h3,h4⟩:=hx;refine Jup (vs:=[.i x.call.client,.i x.call.seq,.i x.call.act,.l (dL x.call.args)]) (J2 x.call h1) rfl rfl rfl ?_;simp only[sC,sN];refine Juv (dL x.vals) 2000000 (by rw[dL1];omega) (by omega) rfl ?_;refine JuT (JW x.vals) ?_;refine Juv (dL x.vals) 2000000 (by rw[dL1];omega) (by omega) rfl ?_;refine Juv (dL x.seqs) 2000000 (by rw[dL1];omega) (by omega) rfl ?_;refine JuT (JW x.seqs) ?_;refine Juv (dL x.seqs) 2000000 (by rw[dL1];omega) (by omega) rfl ?_;refine Jup (vs:=[.l (dDs x.done)]) (Zp x.done h4) rfl rfl rfl (Jun rfl)
structure Jpy where
 site:Sit
 code:Int
 tells:List Int
 said:List Msg
def Jcq (c:Cal):Msg:=⟨1,-1,0,0,c,[],[],[]⟩
def J3 (s:Sit) (c:Cal):Don:=s.done.getD c.client.toNat Wr
def Up (p:Pln) (s:Sit) (k:Int) (c:Cal):JkO:=JbO p.acts s.base p.gives k s.added c.act c.args
def Jjj (s:Sit) (c:Cal) (r:JkO):Sit:=⟨s.up,s.frozen,s.round,s.base,r.adds,s.done.set c.client.toNat ⟨c.seq,r.code,r.tells⟩⟩
def W6 (p:Pln) (s:Sit) (k:Int) (c:Cal):Jpy :=
 if s.up=true∧Int.tmod c.client p.gives.length=k then
  if c.seq=(J3 s c).seq then ⟨s,(J3 s c).code,(J3 s c).tells,[]⟩
  else if c.seq=(J3 s c).seq+1 then
   if s.frozen=false∧(Up p s k c).ok=true then ⟨Jjj s c (Up p s k c),(Up p s k c).code,(Up p s k c).tells,[]⟩
   else ⟨s,0,[],[Jcq c]⟩
  else ⟨s,0,[],[]⟩
 else ⟨s,0,[],[]⟩
def Jpy.ds (r:Jpy):List D:=r.site.cells++[dI r.code,.s (dL r.tells),.s (dMs r.said)]
theorem Jky {p:Pln} {s:Sit} {k:Int} {c:Cal} (h : ¬(s.up=true∧Int.tmod c.client p.gives.length=k)∨(c.seq≠(J3 s c).seq∧c.seq≠(J3 s c).seq+1)):W6 p s k c=⟨s,0,[],[]⟩:=by
 unfold W6;rcases h with h | ⟨h1,h2⟩
 ·rw[if_neg h]
 ·rw[if_neg h1,if_neg h2];split <;> rfl
theorem Jh8 {p:Pln} {s:Sit} {k:Int} {c:Cal} (h1:s.up=true) (h2:Int.tmod c.client p.gives.length=k) (h3:c.seq=(J3 s c).seq):W6 p s k c=⟨s,(J3 s c).code,(J3 s c).tells,[]⟩:=by
 unfold W6;rw[if_pos ⟨h1,h2⟩,if_pos h3]
theorem JlP {p:Pln} {s:Sit} {k:Int} {c:Cal} (h1:s.up=true) (h2:Int.tmod c.client p.gives.length=k) (h3:c.seq=(J3 s c).seq+1) (h4:s.frozen=false) (h5:(Up p s k c).ok=true) :
  W6 p s k c=⟨Jjj s c (Up p s k c),(Up p s k c).code,(Up p s k c).tells,[]⟩:=by
 unfold W6;rw[if_pos ⟨h1,h2⟩,if_neg (by omega),if_pos h3,if_pos ⟨h4,h5⟩]
theorem Jje {p:Pln} {s:Sit} {k:Int} {c:Cal} (h1:s.up=true) (h2:Int.tmod c.client p.gives.length=k) (h3:c.seq=(J3 s c).seq+1) (h4:s.frozen=true∨(Up p s k c).ok=false):W6 p s k c=⟨s,0,[],[Jcq c]⟩:=by
 unfold W6;rw[if_pos ⟨h1,h2⟩,if_neg (by omega),if_pos h3,if_neg (by rintro⟨a,b⟩;rcases h4 with h | h <;> simp_all)]
theorem Jy {n:Int} {l:List Don}:J7 n l=true↔(l.length:Int)=n∧∀d∈l,Xq d=true:=by
 unfold J7;rw[Ju0,decide_eq_true_eq,Jvd]
theorem Jdj {n:Int} {l:List Don} (h:J7 n l=true) (i:Nat) {d:Don} (hd:Xq d=true):J7 n (l.set i d)=true:=by
 obtain⟨h1,h2⟩:=Jy.1 h;refine Jy.2 ⟨by rw[List.length_set];exact h1,fun x hx=>?_⟩;rcases Jvp hx with q | q
 ·exact h2 x q
 ·rw[q];exact hd
theorem JF {p:Pln} {c:Cal}:Jm p c=true↔(0≤c.client∧c.client≤p.n-1)∧(1≤c.seq∧c.seq≤300)∧(0≤c.act∧c.act≤(p.acts.length:Int)-1)∧Q1 c.args=true:=by
 unfold Jm;simp only[Ju0,Jr]
theorem XG {p:Pln} {b:List Int} {k:Int} {a:List Int}:Xa p b k a=true↔keeps b p.gives (Jb p.acts) k a=true∧Qi (Jj p.acts) a=true:=by
 unfold Xa;rw[Ju0]
theorem Ql {p:Pln} {s:Sit} {k:Int}:QZ p s k=true↔(0≤s.round∧s.round≤200)∧JQ s.base=true∧Xa p s.base k s.added=true∧J7 p.n s.done=true:=by
 unfold QZ;simp only[Ju0,Jr]
theorem Jj0 {p:Pln} {c:Cal} (h:Jm p c=true):J0 p (Jcq c)=true:=by simp[J0,Jcq,inB,YH,em,h]
theorem Ja4 {p:Pln} {s:Sit} {k:Int} {c:Cal} (hp:JJ p=true) (hs:QZ p s k=true) (hc:Jm p c=true):Y0 p.acts s.base p.gives k s.added c.act c.args=true:=by
 obtain⟨_,_,h3,_⟩:=Ql.1 hs;obtain⟨_,_,h6,h7⟩:=JF.1 hc;obtain⟨h8,h9⟩:=XG.1 h3;unfold Y0;rw[XN hp,h7,h8,h9,show inB c.act 0 ((p.acts.length:Int)-1)=true from Jr.2 h6];rfl
theorem Jqf {f:Frm} {v w:List Int} (hf:Std 10000000 f) (hv:JQ v=true) (hw:Q1 w=true) : -999999999999≤atF f v w∧atF f v w≤999999999999:=by
 obtain⟨v1,v2⟩:=Qd.1 hv;obtain⟨w1,w2⟩:=Xv.1 hw;have h1:=ZH hf.lc v2 (by omega) (by omega);have h2:=ZH hf.ld w2 (by omega) (by omega);have h3:=hf.k;rw[hf.c] at h1;rw[hf.d] at h2;unfold atF;omega
theorem Jl4 {ps:List Bool} {a b:List Int} (ha:Qi ps a=true) (hb:Qi ps b=true):Qi ps (Qp a b)=true:=by
 unfold Qi Qp at *
 induction ps generalizing a b with
 | nil=>simp
 | cons q ps ih =>
  cases a with
  | nil=>simp
  | cons x a =>
   cases b with
   | nil=>simp
   | cons y b =>
    simp only[List.zip_cons_cons,List.all_cons,List.zipWith_cons_cons,Ju0] at ha hb ⊢;refine⟨?_,ih ha.2 hb.2⟩;have h1:=ha.1;have h2:=hb.1;cases q with
    | false=>rfl
    | true =>
     simp only[Jvk,Bool.not_not,decide_eq_true_eq] at h1 h2 ⊢;omega
theorem JhA {p:Pln} {s:Sit} {k:Int} {c:Cal} (hf:Y0 p.acts s.base p.gives k s.added c.act c.args=true) (h:(Up p s k c).ok=true) :
  JO (Up p s k c).code (Up p s k c).tells=true∧Xa p s.base k (Up p s k c).adds=true:=by
 obtain⟨hc,hk,hw,hke,hst⟩:=KH.1 hf;have hb:JQ s.base=true:=by
  obtain⟨h1,_⟩:=Zr (Xd hke);simp only[Qw,Ju0] at h1;exact h1.1.1
 have hka:Xa p s.base k s.added=true:=XG.2 ⟨hke,hst⟩;have key :∀r,r∈Jv (p.acts.getD c.act.toNat [])→∀q,KM s.base p.gives (Jb p.acts) (Jj p.acts) k s.added c.args r=q→q.ok=true→JO q.code q.tells=true∧Xa p s.base k q.adds=true:=by
  intro r hr q hq hqo;have hrf:=Yp r hr;unfold KM at hq;split at hq
  ·subst hq;exact⟨by simp[JO,inB,JK],hka⟩
  ·split at hq
   ·rename_i h1;rw[Ju0] at h1;split at hq
    ·subst hq;exact⟨by simp[JO,inB,JK],hka⟩
    ·split at hq
     ·subst hq;cases hqo
     ·split at hq
      ·rename_i h2;subst hq;refine⟨XP.2 ⟨by simp,by simp only[atL,Ju9];exact hrf.tl,.inl rfl,fun x hx=>?_⟩,XG.2 ⟨h2,Jl4 hst h1.1⟩⟩;simp only[atL,List.mem_map] at hx;obtain⟨f,hfm,rfl⟩:=hx;exact Jqf (hrf.t f hfm) hb hw
      ·subst hq;cases hqo
   ·subst hq;cases hqo
 unfold Up JbO at h ⊢;rw[if_pos hf] at h ⊢;split at h
 ·rename_i r hr;exact key r (List.mem_of_find?_eq_some hr) _ rfl h
 ·cases h
theorem JcF {p:Pln} {s:Sit} {k:Int} {c:Cal} (hs:QZ p s k=true) (hc:Jm p c=true):s.done[c.client.toNat]? = some (J3 s c)∧Xq (J3 s c)=true∧J3 s c∈s.done:=by
 obtain⟨h1,h2⟩:=Jy.1 (Ql.1 hs).2.2.2;obtain⟨h3,_⟩:=JF.1 hc;obtain⟨x,hx,hm⟩:=sA1 (l:=s.done) (i:=c.client.toNat) (by omega);have e:J3 s c=x:=Qj hx;rw[e];exact⟨hx,h2 x hm,hm⟩
theorem YC {d:Don}:Xq d=true↔(d.seq=0∧d.code=0∧d.tells.length=0)∨(1≤d.seq∧d.seq≤300∧JO d.code d.tells=true):=by
 unfold Xq;split
 ·rename_i h;simp only[Ju0,decide_eq_true_eq];constructor
  ·rintro⟨a,b⟩;exact .inl ⟨h,a,b⟩
  ·rintro (⟨_,a,b⟩ | ⟨a,_⟩)
   ·exact⟨a,b⟩
   ·omega
 ·rename_i h;simp only[Ju0,Jr];constructor
  ·rintro⟨⟨a,b⟩,d⟩;exact .inr ⟨a,b,d⟩
  ·rintro (⟨a,_⟩ | ⟨a,b,d⟩)
   ·exact absurd a h
   ·exact⟨⟨a,b⟩,d⟩
structure Jk6 (p:Pln) (s:Sit) (k:Int) (c:Cal) (r:Jpy):Prop where
 site:QZ p r.site k=true
 said :∀m∈r.said,J0 p m=true
 one:r.said.length≤1
 res:(r.code=0∧r.tells.length=0)∨JO r.code r.tells=true
 seq:r.code≠0→(J3 r.site c).seq=c.seq
 more:(J3 s c).seq<(J3 r.site c).seq→JO r.code r.tells=true
 len:r.tells.length≤2000000
theorem JqN {p:Pln} {s:Sit} {k:Int} {c:Cal} (hp:JJ p=true) (hs:QZ p s k=true) (hc:Jm p c=true):Jk6 p s k c (W6 p s k c):=by
 obtain⟨hx,hdo,hm⟩:=JcF hs hc;have hf:=Ja4 hp hs hc;obtain⟨c1,c2,c3,c4⟩:=JF.1 hc;obtain⟨s1,s2,s3,s4⟩:=Ql.1 hs;have six :∀{a:Int} {l:List Int},JO a l=true→l.length≤2000000:=fun h=>by have:=(XP.1 h).2.1;omega
 have no:Jk6 p s k c ⟨s,0,[],[]⟩:=⟨hs,fun m h=>by simp at h,by simp,.inl ⟨rfl,rfl⟩,fun h=>absurd rfl h,fun h=>absurd h (Int.lt_irrefl _),by simp⟩
 by_cases h1:s.up=true∧Int.tmod c.client p.gives.length=k
 ·by_cases h2:c.seq=(J3 s c).seq
  ·rw[Jh8 h1.1 h1.2 h2];have hr:JO (J3 s c).code (J3 s c).tells=true:=by
    rcases YC.1 hdo with h | h
    ·omega
    ·exact h.2.2
   exact⟨hs,fun m h=>by simp at h,by simp,.inr hr,fun _=>h2.symm,fun h=>absurd h (Int.lt_irrefl _),six hr⟩
  ·by_cases h3:c.seq=(J3 s c).seq+1
   ·by_cases h4:s.frozen=false∧(Up p s k c).ok=true
    ·rw[JlP h1.1 h1.2 h3 h4.1 h4.2];obtain⟨l1,l2⟩:=JhA hf h4.2;have hl:c.client.toNat<s.done.length:=(Ju1.1 hx).1;have e:J3 (Jjj s c (Up p s k c)) c=⟨c.seq,(Up p s k c).code,(Up p s k c).tells⟩:=Qj (by simp only[Jjj];exact List.getElem?_set_self hl);refine⟨Ql.2 ⟨s1,s2,l2,Jdj s4 _ (YC.2 (.inr ⟨c2.1,c2.2,l1⟩))⟩,fun m h=>by simp at h,by simp,.inr l1,fun _=>by rw[e],fun _=>l1,six l1⟩
    ·rw[Jje h1.1 h1.2 h3 (by cases hfz:s.frozen <;> simp_all)];refine⟨hs,fun m h=>?_,by simp,.inl ⟨rfl,rfl⟩,fun h=>absurd rfl h,fun h=>absurd h (Int.lt_irrefl _),by simp⟩;simp only[Jvi] at h;subst h;exact Jj0 hc
   ·rw[Jky (.inr ⟨h2,h3⟩)];exact no
 ·rw[Jky (.inl h1)];exact no
theorem Jp0 (p:Pln) {s:Sit} (k:Int) {c:Cal} (hs:KN s) (hc:YW c):KN (W6 p s k c).site∧(∀m∈(W6 p s k c).said,Vn m)∧(W6 p s k c).tells.length≤2000000:=by
 have hl:=JiK p.acts s.base p.gives k s.added c.act c.args hs.2.1;have hd:(J3 s c).tells.length≤2000000:=by
  unfold J3;cases h:s.done[c.client.toNat]? with
  | none=>simp[Ju3,h,Wr]
  | some x=>rw[Qj h];exact hs.2.2.2 x (Ju7 h)
 have no:KN s∧(∀m∈([]:List Msg),Vn m)∧([]:List Int).length≤2000000:=⟨hs,fun m h=>by simp at h,by simp⟩;unfold W6;split
 ·split
  ·exact⟨hs,fun m h=>by simp at h,hd⟩
  ·split
   ·split
    ·refine⟨⟨hs.1,hl.2,by simp only[Jjj,List.length_set];exact hs.2.2.1,fun d hm=>?_⟩,fun m h=>by simp at h,hl.1⟩;simp only[Jjj] at hm;rcases Jvp hm with q | q
     ·exact hs.2.2.2 d q
     ·rw[q];exact hl.1
    ·refine⟨hs,fun m h=>?_,by simp⟩;simp only[Jvi] at h;subst h;exact⟨hc,by simp[Jcq],by simp[Jcq],by simp[Jcq],fun d hd=>by simp[Jcq] at hd⟩
   ·exact no
 ·exact no
theorem Jog (p:Pln) (s:Sit) (k:Int) (c:Cal) (hp:JY p) (hs:KN s) (hc:YW c) (hpo:JJ p=true) (hso:QZ p s k=true) (hco:Jm p c=true) :
  Ev L f_k2b (p.cells++[.s (dLL (Jb p.acts)),.s (dBl (Jj p.acts))]++s.cells++[dI k]++c.cells) (W6 p s k c).ds:=by
 refine JuV (vs:=[.i p.n,.l (Jd p.acts),.l (dL p.gives),.l (dL p.start),.l (dLL (Jb p.acts)),.l (dBl (Jj p.acts)),.b s.up,.b s.frozen,.i s.round,.l (dL s.base),.l (dL s.added),.l (dDs s.done),.i k,.i c.client,.i c.seq,.i c.act,.l (dL c.args)]) L_k2b rfl ?_;obtain⟨hx,hdo,hm⟩:=JcF hso hco;have hfine:=Ja4 hpo hso hco;obtain⟨c1,c2,c3,c4⟩:=JF.1 hco;have hg:=(Qa hpo).1;have hlt:c.client.toNat<s.done.length:=(Ju1.1 hx).1;have hsq : -1≤(J3 s c).seq∧(J3 s c).seq≤300:=by rcases YC.1 hdo with h | h <;> omega
 have hdl:(J3 s c).tells.length≤2000000:=hs.2.2.2 _ hm;refine Jup (vs:=[.b s.up,.b s.frozen,.i s.round,.l (dL s.base),.l (dL s.added),.l (dDs s.done)]) (Jbp s hs) rfl rfl rfl ?_;simp only[sC,sN];refine JuE (0≤c.client) rfl c1.1 ?_;refine JuE (c.client<(s.done.length:Int)) (by show decide (c.client<((dDs s.done).length:Int))=_;rw[Qz]) (by omega) ?_;refine Juz (ds:=dDs s.done) (d:=(J3 s c).g) (vs:=[.i (J3 s c).seq,.i (J3 s c).code,.l (dL (J3 s c).tells)]) c.client rfl rfl rfl c1.1 (mA1 (f:=Don.g) hx) rfl ?_;simp only[sC,sN];have no:=fun h=>Jky (p:=p) (s:=s) (k:=k) (c:=c) h;have same:=fun h1 h2 h3=>Jh8 (p:=p) (s:=s) (k:=k) (c:=c) h1 h2 h3;have did:=fun h1 h2 h3 h4 h5=>JlP (p:=p) (s:=s) (k:=k) (c:=c) h1 h2 h3 h4 h5;have want:=fun h1 h2 h3 h4=>Jje (p:=p) (s:=s) (k:=k) (c:=c) h1 h2 h3 h4;have hloc:=Jo5 (as:=p.acts) (b:=s.base) (g:=p.gives) (s:=k) (a:=s.added) (k:=c.act) (w:=c.args) hp.1 hp.2.1 hfine;have hll:=JiK p.acts s.base p.gives k s.added c.act c.args hs.2.1;have elo:JbO p.acts s.base p.gives k s.added c.act c.args=Up p s k c:=rfl;rw[elo] at hloc hll;have hset :∀r:JkO,(dDs s.done).set c.client.toNat (.g [dI c.seq,dI r.code,.s (dL r.tells)])=dDs (Jjj s c r).done:=fun r=>by simp only[dDs,Jjj,List.map_set];rfl
 generalize J3 s c=x at *;generalize Up p s k c=r at *;refine JuL s.up rfl (fun a=>Jun (by rw[no (.inl (fun q=>by rw[a] at q;cases q.1))];rfl)) (fun a=>?_);refine Juo (by show (!decide (((dL p.gives).length:Int)=0))=true;rw[dL1,Bool.not_eq_true',decide_eq_false_iff_not];omega) ?_;refine JuL (decide (Int.tmod c.client p.gives.length=k)) (by show (!decide (Int.tmod c.client ((dL p.gives).length:Int)=k))=_;rw[dL1]) (fun b=>Jun (by rw[no (.inl (fun q=>by simp[q.2] at b))];rfl)) (fun b=>?_);have b:Int.tmod c.client p.gives.length=k:=by simpa using b
 refine JuB (c.seq<x.seq) rfl (fun e=>Jun (by rw[no (.inr ⟨by omega,by omega⟩)];rfl)) (fun e=>?_);refine JuB (x.seq+1<c.seq) (by show decide (i64.wrap (x.seq+1)<c.seq)=_;rw[w64 (by omega) (by omega)]) (fun e2=>Jun (by rw[no (.inr ⟨by omega,by omega⟩)];rfl)) (fun e2=>?_);refine JuB (c.seq=x.seq) rfl (fun e3=>?_) (fun e3=>?_)
 ·rw[same a b e3];refine Jup (vs:=[.i x.code,.l (dL x.tells)]) (Qk x.code x.tells hdl) rfl rfl rfl (Jun rfl)
 have e4:c.seq=x.seq+1:=by omega
 refine JuL s.frozen rfl (fun f=>?_) (fun f=>?_)
 ·refine Jup (Jce p s) rfl rfl rfl ?_;simp only[sC,sN];refine Jup (vs:=[.i r.code,.l (dL r.tells),.l (dL r.adds),.b r.ok]) hloc rfl rfl rfl ?_;simp only[sC,sN];refine JuU r.ok rfl (fun o=>?_) (fun o=>?_)
  ·rw[did a b e4 f o];refine Jup (vs:=[.i r.code,.l (dL r.tells)]) (Qk r.code r.tells hll.1) rfl rfl rfl ?_;simp only[sC,sN];refine JuE (0≤c.client) rfl c1.1 ?_;refine JuE (c.client<(s.done.length:Int)) (by show decide (c.client<((dDs s.done).length:Int))=_;rw[Qz]) (by omega) ?_;refine Juz (ds:=dDs s.done) (d:=x.g) (vs:=[.i x.seq,.i x.code,.l (dL x.tells)]) c.client rfl rfl rfl c1.1 (mA1 (f:=Don.g) hx) rfl (Jun ?_);show [dB s.up,dB s.frozen,dI s.round,.s (dL s.base),.s (dL r.adds),.s ((dDs s.done).set c.client.toNat (.g [dI c.seq,dI r.code,.s (dL r.tells)])),dI r.code,.s (dL r.tells),D.s []]=_;rw[hset r];rfl
  ·rw[want a b e4 (.inr o)];refine Jup (vs:=[.i c.client,.i c.seq,.i c.act,.l (dL c.args)]) (J2 c hc) rfl rfl rfl (Jun rfl)
 ·rw[want a b e4 (.inl f)];refine Jup (vs:=[.i c.client,.i c.seq,.i c.act,.l (dL c.args)]) (J2 c hc) rfl rfl rfl (Jun rfl)
/- What the clerk hears,by the reference: over residual programs. -/
theorem Jp5 {l:Jg} (h:l.ok=true):Frm.fit l.f:=by
 by_cases h4:l.kind=4
 ·unfold Jg.ok at h;rw[if_neg (by omega),if_neg (by omega),if_neg (by omega)] at h;simp only[Ju0,decide_eq_true_eq] at h;exact⟨by omega,by omega⟩
 ·have:=XH h h4;simp only[Frm.small,Ju0,Jq] at this;exact⟨by omega,by omega⟩
theorem Yv {p:Pln} (h:JJ p=true):JY p:=by
 have hc:=Ya (XN h);have hg:=Qa h;have hs:=(JZ h).2.2.1;refine⟨⟨by omega,fun a ha=>?_⟩,by omega,by omega⟩;obtain⟨h1,h2⟩:=Ko (hc.2.2 a ha);exact⟨by omega,fun l hl=>Jp5 (h2 l hl)⟩
theorem JkR {d:Don} (h:Xq d=true):Za d:=by
 rcases YC.1 h with h | h
 ·unfold Za;omega
 ·have:=(XP.1 h.2.2).2.1;unfold Za;omega
theorem Jei {n:Int} {l:List Don} (h:J7 n l=true) (h4:n≤4):Wq Za l :=
 ⟨by have:=(Jy.1 h).1;omega,fun d hd=>JkR ((Jy.1 h).2 d hd)⟩
theorem Jho {p:Pln} {b:List Int} {k:Int} {a:List Int} (h:Xa p b k a=true):a.length=3:=Wi (XG.1 h).1
theorem V2 {p:Pln} {s:Sit} {k:Int} (hp:JJ p=true) (h:QZ p s k=true):KN s:=by
 obtain⟨_,h2,h3,h4⟩:=Ql.1 h;have hd:=Jei h4 (JZ hp).2.1;have:=(Qd.1 h2).1;have:=Jho h3;exact⟨by omega,by omega,hd.1,hd.2⟩
theorem Yt {p:Pln} {c:Cal} (h:Jm p c=true):YW c:=by
 have:=(Xv.1 (JF.1 h).2.2.2).1;unfold YW;omega
theorem Uu {n:Int} {l:List Int}:Xb n l=true↔(l.length:Int)=n∧∀x∈l,0≤x∧x≤300:=by
 unfold Xb;simp only[Ju0,decide_eq_true_eq,Jvd,Jr]
theorem JeW {c:Cal} (h:Zs c=true):c.args.length=0:=by
 unfold Zs at h;simp only[Ju0,decide_eq_true_eq] at h;exact h.2.2.2
structure Jrx (p:Pln) (x:Msg):Prop where
 round:0≤x.round∧x.round≤200
 want:x.kind=1→x.to = -1∧Jm p x.call=true
 frz:x.kind=2→0≤x.to∧x.to<p.gives.length
 give:x.kind=3→x.to = -1∧(0≤x.frm∧x.frm<p.gives.length)∧x.vals.length=3∧Xb p.n x.seqs=true
 pact:x.kind=4→(0≤x.to∧x.to<p.gives.length)∧JQ x.vals=true∧J7 p.n x.done=true
 kind:1≤x.kind∧x.kind≤4
 fit:Vn x
theorem Y8 {p:Pln} {k:Int}:ZB p k=true↔0≤k∧k<p.gives.length:=by unfold ZB;rw[Jr];omega
theorem JcG {x:Msg} {a v s d:Bool} (h:YH x a v s d=true):(a=false→x.call.args.length=0)∧(v=false→x.vals.length=0)∧(s=false→x.seqs.length=0)∧(d=false→x.done.length=0):=by
 unfold YH em at h;simp only[Ju0,Bool.or_eq_true,decide_eq_true_eq] at h;obtain⟨h1,h2,h3,h4⟩:=h;refine⟨fun e=>?_,fun e=>?_,fun e=>?_,fun e=>?_⟩
 ·subst e;exact JeW (h1.resolve_left (by simp))
 ·subst e;exact h2.resolve_left (by simp)
 ·subst e;exact h3.resolve_left (by simp)
 ·subst e;exact h4.resolve_left (by simp)
theorem Vg {p:Pln} {x:Msg} (hp:JJ p=true) (h:J0 p x=true):Jrx p x:=by
 have hn:=JZ hp;have no :∀{l:List Don},l.length=0→Wq Za l:=fun h=>by rw[List.length_eq_zero_iff.1 h];exact⟨by simp,fun d hd=>by simp at hd⟩
 unfold J0 at h;rw[Ju0,Jr] at h;obtain⟨hr,h⟩:=h;split at h
 ·rename_i k;simp only[Ju0,decide_eq_true_eq] at h;obtain⟨h1,h2,h3,h4,h5⟩:=h;have hb:=JcG h5;exact⟨hr,fun _=>⟨h1,h4⟩,fun e=>by omega,fun e=>by omega,fun e=>by omega,by omega,⟨Yt h4,by have:=hb.2.1 rfl;omega,by have:=hb.2.2.1 rfl;omega,no (hb.2.2.2 rfl)⟩⟩
 split at h
 ·rename_i k1 k;simp only[Ju0,decide_eq_true_eq] at h;obtain⟨h1,h2,h5⟩:=h;have hb:=JcG h5;exact⟨hr,fun e=>by omega,fun _=>Y8.1 h1,fun e=>by omega,fun e=>by omega,by omega,⟨by have:=hb.1 rfl;omega,by have:=hb.2.1 rfl;omega,by have:=hb.2.2.1 rfl;omega,no (hb.2.2.2 rfl)⟩⟩
 split at h
 ·rename_i k1 k2 k;simp only[Ju0,decide_eq_true_eq] at h;obtain⟨h1,h2,h3,h4,h5⟩:=h;have hb:=JcG h5;have hv:=(Jq.1 h3).1;have hq:=(Uu.1 h4).1;exact⟨hr,fun e=>by omega,fun e=>by omega,fun _=>⟨h1,Y8.1 h2,by omega,h4⟩,fun e=>by omega,by omega,⟨by have:=hb.1 rfl;omega,by omega,by omega,no (hb.2.2.2 rfl)⟩⟩
 split at h
 ·rename_i k1 k2 k3 k;simp only[Ju0,decide_eq_true_eq] at h;obtain⟨h1,h2,h3,h4,h5⟩:=h;have hb:=JcG h5;have hv:=(Qd.1 h3).1;exact⟨hr,fun e=>by omega,fun e=>by omega,fun e=>by omega,fun _=>⟨Y8.1 h1,h3,h4⟩,by omega,⟨by have:=hb.1 rfl;omega,by omega,by have:=hb.2.2.1 rfl;omega,Jei h4 hn.2.1⟩⟩
 ·cases h
def Asc (l:List Cal):Prop:=l.Pairwise fun a b=>a.client<b.client
theorem Jfr {p:Pln} {l:List Cal}:JU l.length (Yq p l)=true↔(∀x∈l,Jm p x=true)∧Asc l:=by
 rw[Yd];constructor
 ·intro h;have h1 :∀(j:Nat) (x:Cal),l[j]? = some x→Jm p x=true∧(0<j→(l.getD (j-1) ⟨0,0,0,[]⟩).client<x.client):=fun j x hx=>by
   have:=h j (Ju1.1 hx).1;rw[Jam hx,Ju0,Bool.or_eq_true,decide_eq_true_eq,decide_eq_true_eq] at this;exact⟨this.1,fun hj=>this.2.resolve_left (by omega)⟩
  refine⟨fun x hx=>?_,?_⟩
  ·obtain⟨j,hj⟩:=List.getElem?_of_mem hx;exact(h1 j x hj).1
  ·have step :∀(d i:Nat) (a b:Cal),l[i]? = some a→l[i+d+1]? = some b→a.client<b.client:=by
    intro d
    induction d with
    | zero =>
     intro i a b ha hb;have:=(h1 _ _ hb).2 (by omega);rw[show i+0+1-1=i by omega,Qj ha] at this;exact this
    | succ d ih =>
     intro i a b ha hb;have hl:=(Ju1.1 hb).1;obtain⟨y,hy,_⟩:=sA1 (l:=l) (i:=i+d+1) (by omega);have h2:=ih i a y ha hy;have h3:=(h1 _ _ hb).2 (by omega);rw[show i+(d+1)+1-1=i+d+1 by omega,Qj hy] at h3;omega
   unfold Asc;rw[List.pairwise_iff_getElem];intro i j hi hj hij;exact step (j-i-1) i _ _ (Jvb hi) (by rw[show i+(j-i-1)+1=j by omega];exact Jvb hj)
 ·rintro⟨h1,h2⟩ j hj;obtain⟨x,hx,hm⟩:=sA1 hj;rw[Jam hx,h1 x hm,Jvk,Bool.or_eq_true,decide_eq_true_eq,decide_eq_true_eq]
  by_cases h0:j=0
  ·exact .inl h0
  ·right;obtain⟨y,hy,_⟩:=sA1 (l:=l) (i:=j-1) (by omega);rw[Qj hy];unfold Asc at h2;rw[List.pairwise_iff_getElem] at h2;obtain⟨hi1,rfl⟩:=Ju1.1 hx;obtain⟨hi2,rfl⟩:=Ju1.1 hy;exact h2 _ _ _ _ (by omega)
theorem Jp6 {l:List Cal} (h:Asc l) :∀(a b:Int),(∀x∈l,a≤x.client∧x.client≤b)→(l.length:Int)≤b-a+1∨l=[]:=by
 induction l with
 | nil=>intro a b _;exact .inr rfl
 | cons x l ih =>
  intro a b hb;left;rw[Asc,List.pairwise_cons] at h;have hx:=hb x (List.mem_cons_self ..);rcases ih h.2 (x.client+1) b (fun y hy=>⟨by have:=h.1 y hy;omega,(hb y (List.mem_cons_of_mem _ hy)).2⟩) with q | q
  ·simp only[List.length_cons];omega
  ·subst q;simp only[List.length_cons,List.length_nil];omega
theorem ZU {p:Pln} {l:List Cal} (hp:JJ p=true) (h :∀x∈l,Jm p x=true) (ha:Asc l):l.length≤4:=by
 have hn:=JZ hp;rcases Jp6 ha 0 (p.n-1) (fun x hx=>(JF.1 (h x hx)).1) with q | q
 ·omega
 ·subst q;simp
def Q9 (x:Cal):List Cal→List Cal
 | []=>[x]
 | y::l=>if x.client≤y.client then(if y.client=x.client then(if x.seq<y.seq then y::l else x::l) else x::y::l) else y::Q9 x l
theorem Jbu {x z:Cal} {l:List Cal} (h:z∈Q9 x l):z=x∨z∈l:=by
 induction l with
 | nil=>simp only[Q9,Jvi] at h;exact .inl h
 | cons y l ih =>
  unfold Q9 at h;split at h
  ·split at h
   ·split at h
    ·exact .inr h
    ·rcases Jvj.1 h with q | q
     ·exact .inl q
     ·exact .inr (List.mem_cons_of_mem _ q)
   ·rcases Jvj.1 h with q | q
    ·exact .inl q
    ·exact .inr q
  ·rcases Jvj.1 h with q | q
   ·exact .inr (by rw[q];exact List.mem_cons_self ..)
   ·rcases ih q with q | q
    ·exact .inl q
    ·exact .inr (List.mem_cons_of_mem _ q)
theorem JmE {x:Cal} {l:List Cal} (h:Asc l):Asc (Q9 x l):=by
 induction l with
 | nil=>simp[Q9,Asc]
 | cons y l ih =>
  rw[Asc,List.pairwise_cons] at h;unfold Q9;split
  ·split
   ·split
    ·exact List.pairwise_cons.2 h
    ·rename_i e _;exact List.pairwise_cons.2 ⟨fun z hz=>by have:=h.1 z hz;omega,h.2⟩
   ·rename_i e1 e2;refine List.pairwise_cons.2 ⟨fun z hz=>?_,List.pairwise_cons.2 h⟩;rcases Jvj.1 hz with q | q
    ·subst q;omega
    ·have:=h.1 z q;omega
  ·rename_i e;refine List.pairwise_cons.2 ⟨fun z hz=>?_,ih h.2⟩;rcases Jbu hz with q | q
   ·subst q;omega
   ·exact h.1 z q
theorem Jiv (l:List Cal) (x:Cal):dCs l++[x.g]=dCs (l++[x]):=by simp[dCs]
theorem Jkf {x y:Cal} {l:List Cal} (h:x.client≤y.client):Q9 x (y::l)=if y.client=x.client then(if x.seq<y.seq then y::l else x::l) else x::y::l:=by rw[Q9,if_pos h]
theorem VV (l : List Cal) (x : Cal) (hl : Wq YW l) (hx : YW x) : Ev L f_k2i ([.s (dCs l)] ++ x.cells) [.s (dCs (Q9 x l))] := by
  refine JuV (vs:=[.l (dCs l),.i x.client,.i x.seq,.i x.act,.l (dL x.args)]) L_k2i rfl ?_
  have hl0:=hl.1
  refine Jul l.length (fun i vs=>∃ (out:List Cal) (b:Bool),vs=[.l (dCs out),.b b,.i i]∧out.length≤i+1∧(if b then out++l.drop i=Q9 x l else out=l.take i∧Q9 x l=l.take i++Q9 x (l.drop i))) rfl ⟨[],false,rfl,by simp,by simp⟩ ?_
  rintro i vs hi ⟨out,b,rfl,hol,hq⟩
  simp only[sC,sN]
  have app :∀y:Cal,dCs out++[.g [dI y.client,dI y.seq,dI y.act,.s (dL y.args)]]=dCs (out++[y]):=fun y=>Jiv out y
  have app2 :∀y z:Cal,dCs out++[.g [dI y.client,dI y.seq,dI y.act,.s (dL y.args)]]++[.g [dI z.client,dI z.seq,dI z.act,.s (dL z.args)]]=dCs (out++[y,z]):=fun y z=>by simp[dCs,Cal.g,Cal.cells]
  refine JuG i (Qq l) rfl (fun h'=>?_) (fun h'=>Juk ?_)
  · obtain⟨y,hy,hm⟩:=sA1 h'
    have hyf:=hl.2 y hm
    have hdr:l.drop i=y::l.drop (i+1):=Xw hy
    have htk:=tS1 hy
    have hw:=wS h' (by omega)
    have ix :∀{r:R} {vs:List V} {n:Nat} {Q:Oc→Prop},n=vs.length→lst (Jo vs) (.v 0)=dCs l→int (Jo vs) (.v 7)=i→WR L r (vs++[.i y.client,.i y.seq,.i y.act,.l (dL y.args)]) Q→WR L (.i (.idx (.v 0) (.v 7) (.g [.i .i64,.i .i64,.i .i64,.s]) n) r) vs Q:=fun hn h0 h7 h =>
      JuF (vs:=[.i y.client,.i y.seq,.i y.act,.l (dL y.args)]) i (mA1 (f:=Cal.g) hy) hn h0 h7 rfl h
    have ca :∀{r:R} {vs:List V} {e:E} {Q:Oc→Prop},lst (Jo vs) (.v 5)=dCs out→WR L r vs Q→WR L (.i (.chk (.cmp .le (.len (.app (.v 5) (.cons e .nil))) (.z 1466015503701))) r) vs Q:=fun h5 h =>
      JuR (dCs out) 2000001 (by rw[Qq];omega) (by omega) h5 h
    have ca2 :∀{r:R} {vs:List V} {e e2:E} {Q:Oc→Prop},lst (Jo vs) (.v 5)=dCs out→WR L r vs Q→WR L (.i (.chk (.cmp .le (.len (.app (.app (.v 5) (.cons e .nil)) (.cons e2 .nil))) (.z 1466015503701))) r) vs Q:=fun {_ vs e _ _} h5 h =>
      JuR (dCs out++[dat (Jo vs) e]) 2000002 (by rw[Ju6,Qq];simp;omega) (by omega) (by show lst (Jo vs) (.v 5)++[dat (Jo vs) e]=_;rw[h5]) h
    cases b with
    | true =>
      refine JuN rfl (ix rfl rfl rfl ?_)
      simp only[sC,sN]
      refine ca rfl ?_
      refine JuC (vs:=[.l (dCs (out++[y])),.b true,.i ((i+1:Nat):Int)]) ?_ ⟨h',out++[y],true,rfl,by simp;omega,?_⟩
      · rw[←app y,←hw];rfl
      · simp only[if_true] at hq ⊢
        rw[←hq,hdr];simp
    | false =>
      simp only[Jvg,if_false] at hq
      obtain⟨rfl,hq⟩:=hq
      rw[hdr] at hq
      refine JuK rfl (ix rfl rfl rfl ?_)
      simp only[sC,sN]
      refine JuB (x.client≤y.client) rfl (fun hle=>?_) (fun hle=>?_)
      · rw[Jkf hle] at hq
        have fin2 :∀o2:List Cal,o2++l.drop (i+1)=Q9 x l→o2.length≤i+2→∃ (o3:List Cal) (b:Bool),[V.l (dCs o2),.b true,.i ((i+1:Nat):Int)]=[V.l (dCs o3),.b b,.i ((i+1:Nat):Int)]∧o3.length≤i+1+1∧(if b then o3++l.drop (i+1)=Q9 x l else o3=l.take (i+1)∧Q9 x l=l.take (i+1)++Q9 x (l.drop (i+1))) :=
          fun o2 h1 h2=>⟨o2,true,rfl,by omega,by simpa using h1⟩
        refine ix rfl rfl rfl ?_
        simp only[sC,sN]
        refine JuB (y.client=x.client) rfl (fun he=>?_) (fun he=>?_)
        · rw[if_pos he] at hq
          refine ix rfl rfl rfl ?_
          simp only[sC,sN]
          refine JuB (x.seq<y.seq) rfl (fun hs=>?_) (fun hs=>?_)
          · rw[if_pos hs] at hq
            refine ix rfl rfl rfl (ca rfl (ix rfl rfl rfl ?_))
            simp only[sC,sN]
            refine JuK (by show decide (y.client=x.client)=true;exact decide_eq_true he) ?_
            refine JuC (vs:=[.l (dCs (l.take i++[y])),.b true,.i ((i+1:Nat):Int)]) ?_ ⟨h',fin2 _ (by rw[hq];simp) (by simp;omega)⟩
            rw[←app y,←hw];rfl
          · rw[if_neg hs] at hq
            refine Jup (vs:=[.i x.client,.i x.seq,.i x.act,.l (dL x.args)]) (J2 x hx) rfl rfl rfl ?_
            simp only[sC,sN]
            refine ca rfl (ix rfl rfl rfl ?_)
            simp only[sC,sN]
            refine JuK (by show decide (y.client=x.client)=true;exact decide_eq_true he) ?_
            refine JuC (vs:=[.l (dCs (l.take i++[x])),.b true,.i ((i+1:Nat):Int)]) ?_ ⟨h',fin2 _ (by rw[hq];simp) (by simp;omega)⟩
            rw[←app x,←hw];rfl
        · rw[if_neg he] at hq
          refine Jup (vs:=[.i x.client,.i x.seq,.i x.act,.l (dL x.args)]) (J2 x hx) rfl rfl rfl ?_
          simp only[sC,sN]
          refine ca rfl (ix rfl rfl rfl ?_)
          simp only[sC,sN]
          refine JuN (by show decide (y.client=x.client)=false;exact decide_eq_false he) ?_
          refine ix rfl rfl rfl (ca2 rfl ?_)
          simp only[sC,sN]
          refine JuC (vs:=[.l (dCs (l.take i++[x,y])),.b true,.i ((i+1:Nat):Int)]) ?_ ⟨h',fin2 _ (by rw[hq];simp) (by simp;omega)⟩
          rw[←app2 x y,←hw];rfl
      · refine ix rfl rfl rfl (ca rfl ?_)
        simp only[sC,sN]
        refine JuC (vs:=[.l (dCs (l.take i++[y])),.b false,.i ((i+1:Nat):Int)]) ?_ ⟨h',l.take i++[y],false,rfl,by simp;omega,?_⟩
        · rw[←app y,←hw];rfl
        · simp only[Jvg,if_false]
          rw[htk]
          refine⟨rfl,?_⟩
          rw[hq,Q9,if_neg hle];simp
  · have hd:l.drop i=[]:=List.drop_eq_nil_of_le (by omega)
    cases b with
    | true =>
      simp only[if_true,hd,List.append_nil] at hq
      subst hq
      exact JuN rfl (Jun rfl)
    | false =>
      simp only[Jvg,if_false,hd] at hq
      obtain⟨rfl,hq⟩:=hq
      refine JuK rfl (Jup (vs:=[.i x.client,.i x.seq,.i x.act,.l (dL x.args)]) (J2 x hx) rfl rfl rfl ?_)
      simp only[sC,sN]
      refine JuR (dCs (l.take i)) 2000001 (by rw[Qq];omega) (by omega) rfl (Jun ?_)
      show [D.s (dCs (l.take i)++[.g [dI x.client,dI x.seq,dI x.act,.s (dL x.args)]])]=_
      rw[app x,hq];rfl
/- A round's end,by the reference: over residual programs. -/
structure XC (p:Pln) (c:Clk):Prop where
 round:0≤c.round∧c.round≤200
 base:JQ c.base=true
 done:J7 p.n c.done=true
 len:c.got.length=p.gives.length
 got :∀j,j<c.got.length→Y3 p c.base c.got j=true
 wants :∀x∈c.wants,Jm p x=true
 asc:Asc c.wants
 down:c.up=false→c.wants=[]∧Xn c.got=0
theorem Jou {p:Pln} {c:Clk} (h:Yn p c=true):XC p c:=by
 unfold Yn at h;simp only[Ju0,decide_eq_true_eq,Bool.or_eq_true] at h;obtain⟨h1,h2,h3,⟨h4,h5⟩,h6,h7⟩:=h;obtain⟨w1,w2⟩:=Jfr.1 h6;exact⟨Jr.1 h1,h2,h3,h4,Yd.1 h5,w1,w2,fun e=>by
  rcases h7 with q | q
  ·rw[e] at q;cases q
  ·exact⟨List.length_eq_zero_iff.1 q.1,q.2⟩⟩
theorem XC.ok {p:Pln} {c:Clk} (h:XC p c):Yn p c=true:=by
 unfold Yn;simp only[Ju0,decide_eq_true_eq,Bool.or_eq_true];refine⟨Jr.2 h.round,h.base,h.done,⟨h.len,Yd.2 h.got⟩,Jfr.2 ⟨h.wants,h.asc⟩,?_⟩;cases e:c.up with
 | true=>exact .inl rfl
 | false=>exact .inr ⟨by rw[(h.down e).1];rfl,(h.down e).2⟩
theorem Jhc {p:Pln} {b:List Int} {l:List Got} {j:Nat} {g:Got} (h:Y3 p b l j=true) (hg:l[j]? = some g):(g.has=true→Xa p b j g.added=true∧Xb p.n g.seqs=true)∧(g.has=false→g.added.length=0∧g.seqs.length=0):=by
 unfold Y3 at h;rw[Qj hg] at h;cases e:g.has with
 | true=>rw[e] at h;simp only[if_true,Ju0] at h;exact⟨fun _=>h,fun q=>Bool.noConfusion q⟩
 | false=>rw[e] at h;simp only[Jvg,if_false,emp,Ju0,decide_eq_true_eq] at h;exact⟨fun q=>Bool.noConfusion q,fun _=>h⟩
theorem ZI {p:Pln} {c:Clk} (hp:JJ p=true) (h:XC p c):QP c:=by
 have hn:=JZ hp;have hg:=Qa hp;have hd:=Jei h.done hn.2.1;have hl:=h.len;refine⟨by have:=(Qd.1 h.base).1;omega,hd.1,fun d hm=>hd.2 d hm,by have:=ZU hp h.wants h.asc;omega,fun d hm=>Yt (h.wants d hm),by omega,fun g hm=>?_⟩;obtain⟨j,hj⟩:=List.getElem?_of_mem hm;have hi:=Jhc (h.got j (Ju1.1 hj).1) hj;cases e:g.has with
 | true =>
  obtain⟨a,b⟩:=hi.1 e;have:=Jho a;have:=(Uu.1 b).1;omega
 | false=>have:=hi.2 e;omega
def JP (b:List Int) (l:List Got):List Int:=l.foldl (fun v g=>if g.has then Qp v g.added else v) b
def dRr (l:List (Int×List Int)):List D:=l.map fun x=> .g [dI x.1,.s (dL x.2)]
structure UY where
 done:List Don
 calls:List Cal
 list:List (Int×List Int)
 vals:List Int
def Yl (p:Pln) (c:Clk) (w:Cal):Int:=(c.got.getD (Int.tmod w.client p.gives.length).toNat QQ).seqs.getD w.client.toNat 0
def XD (p:Pln) (r:UY) (w:Cal):Res:=X8 (p.acts.getD w.act.toNat []) r.vals w.args
def X4 (p:Pln) (r:UY) (w:Cal):UY:=⟨r.done.set w.client.toNat ⟨w.seq,(XD p r w).code,(XD p r w).tells⟩,r.calls++[w],r.list++[((XD p r w).code,(XD p r w).tells)],(XD p r w).is⟩
def QE (p:Pln) (c:Clk) (r:UY) (w:Cal):UY:=if w.seq=Yl p c w+1 then X4 p r w else r
def Jk (p:Pln) (c:Clk) (l:List Cal):UY:=l.foldl (QE p c) ⟨c.done,[],[],JP c.base c.got⟩
theorem YF (p:Pln) (c:Clk) {l:List Cal} {i:Nat} {x:Cal} (h:l[i]? = some x):Jk p c (l.take (i+1))=QE p c (Jk p c (l.take i)) x:=by
 rw[tS1 h];simp[Jk]
def Xm (p:Pln) (c:Clk):Bool:=decide (Xn c.got=p.gives.length)&&(decide (c.round≠200)&&JQ (JP c.base c.got))
structure JiO where
 c:Clk
 calls:List Cal
 list:List (Int×List Int)
def Yo (p:Pln) (c:Clk):JiO :=
 if Xm p c then ⟨⟨c.up,c.round+1,(Jk p c c.wants).vals,(Jk p c c.wants).done,[],List.replicate p.gives.length QQ⟩,(Jk p c c.wants).calls,(Jk p c c.wants).list⟩ else ⟨c,[],[]⟩
def JiO.ds (r:JiO):List D:=r.c.cells++[.s (dCs r.calls),.s (dRr r.list)]
theorem Jao {p:Pln} {c:Clk} (h:Xm p c=false):Yo p c=⟨c,[],[]⟩:=by unfold Yo;rw[h];rfl
theorem UV {p:Pln} {c:Clk} (h:Xm p c=true):Yo p c=⟨⟨c.up,c.round+1,(Jk p c c.wants).vals,(Jk p c c.wants).done,[],List.replicate p.gives.length QQ⟩,(Jk p c c.wants).calls,(Jk p c c.wants).list⟩:=by unfold Yo;rw[if_pos h]
structure Jaj (p:Pln) (i:Nat) (r:UY):Prop where
 done:J7 p.n r.done=true
 vals:JQ r.vals=true
 calls :∀x∈r.calls,Jm p x=true
 list :∀x∈r.list,JO x.1 x.2=true
 cl:r.calls.length≤i
 ll:r.list.length=r.calls.length
theorem run_ok {p:Pln} {r:UY} {w:Cal} (hp:JJ p=true) (hv:JQ r.vals=true) (hw:Jm p w=true):JQ (XD p r w).is=true∧JO (XD p r w).code (XD p r w).tells=true∧(XD p r w).code≠0:=by
 obtain⟨_,_,h3,h4⟩:=JF.1 hw;obtain⟨hm,_⟩:=VE (as:=p.acts) h3.1 (by omega);have hf:=JhK ((Ya (XN hp)).2.2 _ hm) hv h4;unfold XD;generalize X8 (p.acts.getD w.act.toNat []) r.vals w.args=R at *;rcases hf with ⟨a,b,c,d⟩ | ⟨a,b,c⟩
 ·exact⟨b,XP.2 ⟨by omega,c,.inl a,d⟩,by omega⟩
 ·exact⟨by rw[a];exact hv,XP.2 ⟨by omega,by rw[b];simp,.inr b,by rw[b];intro x hx;simp at hx⟩,by omega⟩
theorem Jaj.step {p:Pln} {c:Clk} {i:Nat} {r:UY} {w:Cal} (hp:JJ p=true) (h:Jaj p i r) (hw:Jm p w=true):Jaj p (i+1) (QE p c r w):=by
 unfold QE;split
 ·obtain⟨r1,r2,r3⟩:=run_ok hp h.vals hw;have hs:=(JF.1 hw).2.1;refine⟨Jdj h.done _ (YC.2 (.inr ⟨hs.1,hs.2,r2⟩)),r1,fun x hx=>?_,fun x hx=>?_,by simp only[X4,Ju6,List.length_singleton];have:=h.cl;omega,by simp only[X4,Ju6,List.length_singleton];have:=h.ll;omega⟩
  ·rcases Ju5.1 hx with q | q
   ·exact h.calls x q
   ·simp only[Jvi] at q;subst q;exact hw
  ·rcases Ju5.1 hx with q | q
   ·exact h.list x q
   ·simp only[Jvi] at q;subst q;exact r2
 ·exact⟨h.done,h.vals,h.calls,h.list,by have:=h.cl;omega,h.ll⟩
theorem Zv {p:Pln} {c:Clk} (hp:JJ p=true) (hc:XC p c) (hv:JQ (JP c.base c.got)=true) :∀i,i≤c.wants.length→Jaj p i (Jk p c (c.wants.take i)):=by
 intro i
 induction i with
 | zero=>intro _;exact⟨hc.done,hv,fun x hx=>by simp[Jk] at hx,fun x hx=>by simp[Jk] at hx,by simp[Jk],by simp[Jk]⟩
 | succ i ih =>
  intro hi;obtain⟨x,hx,hm⟩:=sA1 (l:=c.wants) (i:=i) (by omega);rw[YF p c hx];exact(ih (by omega)).step hp (hc.wants x hm)
theorem Jhq (p:Pln) (b:List Int) (n j:Nat):Y3 p b (List.replicate n QQ) j=true:=by
 unfold Y3;have:(List.replicate n QQ).getD j QQ=QQ:=by
  rw[Ju3,List.getElem?_replicate];split <;> rfl
 rw[this];rfl
theorem Jji (n:Nat):Xn (List.replicate n QQ)=0:=by
 unfold Xn;rw[List.length_eq_zero_iff,List.filter_eq_nil_iff];intro x hx;rw[(List.mem_replicate.1 hx).2];simp[QQ]
structure JqG (p:Pln) (c:Clk) (r:JiO):Prop where
 c:XC p r.c
 calls :∀x∈r.calls,Jm p x=true
 list :∀x∈r.list,JO x.1 x.2=true
 len:r.list.length=r.calls.length
 four:r.calls.length≤4
theorem Jk5 {p:Pln} {c:Clk} (hp:JJ p=true) (hc:XC p c):JqG p c (Yo p c):=by
 cases h:Xm p c with
 | false=>rw[Jao h];exact⟨hc,fun x hx=>by simp at hx,fun x hx=>by simp at hx,rfl,by simp⟩
 | true =>
  rw[UV h];unfold Xm at h;simp only[Ju0,decide_eq_true_eq] at h;obtain⟨h1,h2,h3⟩:=h;have hf:=Zv hp hc h3 c.wants.length (Nat.le_refl _);rw[List.take_length] at hf;have hw:=ZU hp hc.wants hc.asc;have hr:=hc.round;exact⟨⟨by show 0≤c.round+1∧c.round+1≤200;omega,hf.vals,hf.done,by simp,fun j _=>Jhq ..,fun x hx=>by simp at hx,List.Pairwise.nil,fun _=>⟨rfl,Jji _⟩⟩,hf.calls,hf.list,hf.ll,by have:=hf.cl;show (Jk p c c.wants).calls.length≤4;omega⟩
theorem Jca {b:List Int} {l:List Got} {i:Nat} {x:Got} (h:l[i]? = some x):JP b (l.take (i+1))=if x.has then Qp (JP b (l.take i)) x.added else JP b (l.take i):=by
 rw[tS1 h];simp[JP]
theorem Jkb {p:Pln} {c:Clk} {x:Cal} (hp:JJ p=true) (hc:XC p c) (hall:Xn c.got=p.gives.length) (hx:Jm p x=true) :
  ∃ g:Got,(0≤Int.tmod x.client p.gives.length)∧c.got[(Int.tmod x.client p.gives.length).toNat]? = some g∧g.seqs[x.client.toNat]? = some (Yl p c x)∧(0≤Yl p c x∧Yl p c x≤300):=by
 have hg:=Qa hp;obtain⟨h1,_⟩:=JF.1 hx;have t0:0≤Int.tmod x.client p.gives.length:=Int.tmod_nonneg _ h1.1;have t1:Int.tmod x.client p.gives.length<p.gives.length:=Int.tmod_lt_of_pos _ (by omega);obtain⟨g,hgg,hm⟩:=sA1 (l:=c.got) (i:=(Int.tmod x.client p.gives.length).toNat) (by have:=hc.len;omega);have hhas:g.has=true:=by
  have:=Ji2 c.got;rw[hall,←hc.len,decide_eq_true rfl,Jvd] at this;exact this g hm
 obtain⟨_,hsq⟩:=(Jhc (hc.got _ (Ju1.1 hgg).1) hgg).1 hhas;obtain⟨q1,q2⟩:=Uu.1 hsq;obtain⟨v,hv,hvm⟩:=sA1 (l:=g.seqs) (i:=x.client.toNat) (by omega);have e:Yl p c x=v:=by unfold Yl;rw[Qj hgg,Qj hv]
 rw[e];exact⟨g,t0,hgg,hv,q2 v hvm⟩
theorem JeZ (p:Pln) (c:Clk) (hp:JJ p=true) (hc:XC p c):Ev L f_k2l (p.cells++c.cells) (Yo p c).ds:=by
 refine JuV (vs:=[.i p.n,.l (Jd p.acts),.l (dL p.gives),.l (dL p.start),.b c.up,.i c.round,.l (dL c.base),.l (dDs c.done),.l (dCs c.wants),.l (dGs c.got)]) L_k2l rfl ?_;have hpf:=Yv hp;have hcf:=ZI hp hc;have hg:=Qa hp;have hn:=JZ hp;have hb:=Qd.1 hc.base;have hw4:=ZU hp hc.wants hc.asc;refine Jup (vs:=[.b c.up,.i c.round,.l (dL c.base),.l (dDs c.done),.l (dCs c.wants),.l (dGs c.got)]) (ZV c hcf) rfl rfl rfl ?_;simp only[sC,sN];refine Juv (dL c.base) 2000000 (by rw[dL1];omega) (by omega) rfl ?_;refine JuT (JW c.base) ?_;refine Juv (dL c.base) 2000000 (by rw[dL1];omega) (by omega) rfl ?_;refine Juu c.got.length (fun i=>[.l (dL (JP c.base (c.got.take i))),.i i]) (fun i=>(JP c.base (c.got.take i)).length=3∧Lim (10000+20000*(i:Int)) (JP c.base (c.got.take i))) rfl rfl ⟨by simp[JP];omega,by simpa[JP] using hb.2⟩ fun i hi hq=>?_;simp only[sC,sN];refine JuG i (Xc c.got) rfl (fun h'=>?_) (fun h'=>Juk ?_)
 ·obtain⟨x,hx,hm⟩:=sA1 h';have hs:=Jca (b:=c.base) hx;have hin:=Jhc (hc.got i h') hx;refine JuF (vs:=[.b x.has,.l (dL x.added),.l (dL x.seqs)]) i (mA1 (f:=Got.g) hx) rfl rfl rfl rfl ?_;simp only[sC,sN];refine JuU x.has rfl (fun hh=>?_) (fun hh=>?_)
  ·have hk:=XG.1 (hin.1 hh).1;have ha:=(Zr (Xd hk.1)).2.2.2.2.2.1;refine JuF (vs:=[.b x.has,.l (dL x.added),.l (dL x.seqs)]) i (mA1 (f:=Got.g) hx) rfl rfl rfl rfl ?_;simp only[sC,sN];have hl3:=hc.len;refine Jup (vs:=[.l (dL (Qp (JP c.base (c.got.take i)) x.added))]) (JeB hq.1 ha.1 (hq.2.mono (by omega)) (ha.2.mono (by omega))) rfl rfl rfl ?_;rw[hh] at hs;simp only[if_true] at hs;refine JuC (vs:=[.l (dL (JP c.base (c.got.take (i+1)))),.i ((i+1:Nat):Int)]) ?_ ⟨h',rfl,?_⟩
   ·rw[hs,←wS h' (by omega)];rfl
   ·show (JP c.base (c.got.take (i+1))).length=3∧Lim (10000+20000*((i+1:Nat):Int)) (JP c.base (c.got.take (i+1)));rw[hs];refine⟨by rw[ZA (by omega)];exact hq.1,?_⟩;have:=Jed hq.2 ha.2;rw[show (10000+20000*(i:Int))+20000=10000+20000*((i+1:Nat):Int) by omega] at this;exact this
  ·rw[hh] at hs;simp only[Jvg,if_false] at hs;have hl3:=hc.len;refine JuC (vs:=[.l (dL (JP c.base (c.got.take (i+1)))),.i ((i+1:Nat):Int)]) ?_ ⟨h',rfl,?_⟩
   ·rw[hs,←wS h' (by omega)];rfl
   ·show (JP c.base (c.got.take (i+1))).length=3∧Lim (10000+20000*((i+1:Nat):Int)) (JP c.base (c.got.take (i+1)));rw[hs];exact⟨hq.1,hq.2.mono (by omega)⟩
 rw[tA1 h'] at hq ⊢;have hq3:=hq.1;clear hq h' hi;have hhn:=JkY c.got;have hl:=hc.len;refine Jup (JcW c hcf.g) rfl rfl rfl ?_;simp only[sC,sN];have bad :∀q,Xm p c=false→q=c.cells++[D.s [],D.s []]→q=(Yo p c).ds:=fun q h e=>by rw[Jao h,e];rfl
 refine JuB ((Xn c.got:Int)<(p.gives.length:Int)) (by show decide ((Xn c.got:Int)<((dL p.gives).length:Int))=_;rw[dL1]) (fun h=>Jun (bad _ (by unfold Xm;rw[decide_eq_false (show ¬Xn c.got=p.gives.length by omega)];rfl) rfl)) (fun h=>?_);have hall:Xn c.got=p.gives.length:=by omega
 refine JuB (c.round=200) rfl (fun h=>Jun (bad _ (by unfold Xm;rw[h];simp) rfl)) (fun h2=>?_);refine Jup (Zd (JP c.base c.got) (by rw[hq3];omega)) rfl rfl rfl ?_;simp only[sC,sN];refine JuL (JQ (JP c.base c.got)) rfl (fun h=>Jun (bad _ (by unfold Xm;rw[h];simp) rfl)) (fun h3=>?_);have hgo:Xm p c=true:=by unfold Xm;rw[hall,h3,decide_eq_true rfl,decide_eq_true h2];rfl
 rw[UV hgo];refine Juu c.wants.length (fun i=>[.l (dDs (Jk p c (c.wants.take i)).done),.l (dCs (Jk p c (c.wants.take i)).calls),.l (dRr (Jk p c (c.wants.take i)).list),.l (dL (Jk p c (c.wants.take i)).vals),.i i]) (fun _=>True) rfl rfl trivial fun i hi _=>?_;simp only[sC,sN];have hf:=Zv hp hc h3 i hi;refine JuG i (Qq c.wants) rfl (fun h'=>?_) (fun h'=>Juk ?_)
 ·obtain⟨x,hx,hm⟩:=sA1 h';have hs:=YF p c hx;have hxo:=hc.wants x hm;obtain⟨g,t0,hgg,hsq,hsr⟩:=Jkb hp hc hall hxo;obtain⟨c1,c2,c3,c4⟩:=JF.1 hxo;refine JuF (vs:=[.i x.client,.i x.seq,.i x.act,.l (dL x.args)]) i (mA1 (f:=Cal.g) hx) rfl rfl rfl rfl ?_;simp only[sC,sN];refine Juo (by show (!decide (((dL p.gives).length:Int)=0))=true;rw[dL1,Bool.not_eq_true',decide_eq_false_iff_not];omega) ?_;refine Juz (ds:=dGs c.got) (d:=g.g) (vs:=[.b g.has,.l (dL g.added),.l (dL g.seqs)]) (Int.tmod x.client p.gives.length) rfl rfl (by show Int.tmod x.client ((dL p.gives).length:Int)=_;rw[dL1]) t0 (mA1 (f:=Got.g) hgg) rfl ?_;simp only[sC,sN];refine Juz (ds:=dL g.seqs) (d:=dI (Yl p c x)) (vs:=[.i (Yl p c x)]) x.client rfl rfl rfl c1.1 (mA1 (f:=dI) hsq) rfl ?_;simp only[sC,sN];have hstep:QE p c (Jk p c (c.wants.take i)) x=if x.seq=Yl p c x+1 then X4 p (Jk p c (c.wants.take i)) x else Jk p c (c.wants.take i):=rfl;rw[hstep] at hs;generalize Jk p c (c.wants.take i)=r at *;generalize Yl p c x=sq at *;have hw:i64.wrap ((i:Int)+1)=((i+1:Nat):Int):=wS h' (by omega);refine JuB (x.seq=sq+1) (by show decide (x.seq=i64.wrap (sq+1))=_;rw[w64 (by omega) (by omega)]) (fun he=>?_) (fun he=>?_)
  ·rw[if_pos he] at hs;obtain⟨hma,hka⟩:=VE (as:=p.acts) c3.1 (by omega);obtain⟨r1,r2,r3⟩:=run_ok hp hf.vals hxo;have hrun:=Jke (p.acts.getD x.act.toNat []) r.vals x.args (hpf.1.2 _ hma) (by have:=(Qd.1 hf.vals).1;omega) (by have:=(Xv.1 c4).1;omega);have ero:X8 (p.acts.getD x.act.toNat []) r.vals x.args=XD p r x:=rfl;rw[ero] at hrun;have hdl:X4 p r x=⟨r.done.set x.client.toNat ⟨x.seq,(XD p r x).code,(XD p r x).tells⟩,r.calls++[x],r.list++[((XD p r x).code,(XD p r x).tells)],(XD p r x).is⟩:=rfl;rw[hdl] at hs;generalize XD p r x=R at *;have htl:R.tells.length≤2000000:=by have:=(XP.1 r2).2.1;omega
   refine Juz (ds:=Jd p.acts) (d:= .s (Jl (p.acts.getD x.act.toNat []))) (vs:=[.l (Jl (p.acts.getD x.act.toNat []))]) x.act rfl rfl rfl c3.1 (mA1 (f:=fun a=>D.s (Jl a)) hka) rfl ?_;simp only[sC,sN];refine Jup (vs:=[.i R.code,.l (dL R.tells),.l (dL R.is)]) hrun rfl rfl rfl ?_;simp only[sC,sN];refine Jup (vs:=[.i R.code,.l (dL R.tells)]) (Qk R.code R.tells htl) rfl rfl rfl ?_;simp only[sC,sN];obtain⟨d1,d2⟩:=Jy.1 hf.done;obtain⟨y,hy,hym⟩:=sA1 (l:=r.done) (i:=x.client.toNat) (by omega);refine JuE (0≤x.client) rfl c1.1 ?_;refine JuE (x.client<(r.done.length:Int)) (by show decide (x.client<((dDs r.done).length:Int))=_;rw[Qz]) (by omega) ?_;refine Juz (ds:=dDs r.done) (d:=y.g) (vs:=[.i y.seq,.i y.code,.l (dL y.tells)]) x.client rfl rfl rfl c1.1 (mA1 (f:=Don.g) hy) rfl ?_;simp only[sC,sN];refine Jup (vs:=[.i x.client,.i x.seq,.i x.act,.l (dL x.args)]) (J2 x (Yt hxo)) rfl rfl rfl ?_;simp only[sC,sN];have hcl:=hf.cl;have hll:=hf.ll;refine JuR (dCs r.calls) 2000000 (by rw[Qq];omega) (by omega) rfl ?_;refine Jup (vs:=[.i R.code,.l (dL R.tells)]) (Qk R.code R.tells htl) rfl rfl rfl ?_;simp only[sC,sN];refine JuR (dRr r.list) 2000000 (by rw[show (dRr r.list).length=r.list.length from Ju9 ..];omega) (by omega) rfl ?_;refine JuC (vs:=[.l (dDs (Jk p c (c.wants.take (i+1))).done),.l (dCs (Jk p c (c.wants.take (i+1))).calls),.l (dRr (Jk p c (c.wants.take (i+1))).list),.l (dL (Jk p c (c.wants.take (i+1))).vals),.i ((i+1:Nat):Int)]) ?_ ⟨h',rfl,trivial⟩;rw[hs];show [V.l ((dDs r.done).set x.client.toNat (.g [dI x.seq,dI R.code,.s (dL R.tells)])),V.l (dCs r.calls++[.g [dI x.client,dI x.seq,dI x.act,.s (dL x.args)]]),V.l (dRr r.list++[.g [dI R.code,.s (dL R.tells)]]),V.l (dL R.is),V.i (i64.wrap ((i:Int)+1))]=_
   rw[hw];simp only[dDs,dCs,dRr,List.map_set,List.map_append,Ju8,List.map_nil];rfl
  ·rw[if_neg he] at hs;refine JuC (vs:=[.l (dDs (Jk p c (c.wants.take (i+1))).done),.l (dCs (Jk p c (c.wants.take (i+1))).calls),.l (dRr (Jk p c (c.wants.take (i+1))).list),.l (dL (Jk p c (c.wants.take (i+1))).vals),.i ((i+1:Nat):Int)]) ?_ ⟨h',rfl,trivial⟩;rw[hs];show [V.l (dDs r.done),V.l (dCs r.calls),V.l (dRr r.list),V.l (dL r.vals),V.i (i64.wrap ((i:Int)+1))]=_;rw[hw]
 ·rw[tA1 h'] at hf ⊢;have hr:=hc.round;refine Jup (Jbe p hpf.2.1) rfl rfl rfl (Jun ?_);generalize Jk p c c.wants=r at *;show [dB c.up,dI (i64.wrap (c.round+1)),.s (dL r.vals),.s (dDs r.done),.s [],.s (dGs (List.replicate p.gives.length QQ)),.s (dCs r.calls),D.s (dRr r.list)]=_;rw[w64 (by omega) (by omega)];rfl
end Go.Proofs.YtngcnclchcahlabGreatDoor

import Derived.Test.YtgpjnnkmmplicaaGreatDoorPZZC
import Derived.Test.YtgpjnnkmmplicaaGreatDoorPZY
import Derived.Test.YtgpjnnkmmplicaaGreatDoorPZL
set_option linter.unusedVariables false
set_option linter.unusedSimpArgs false
/- What a site tries,by the reference: over residual programs. -/
namespace Go.Proofs.YtgpjnnkmmplicaaGreatDoor
open Go Go.Tm
open Go.IntKind (i64)
structure Jis where
 site:Sit
 code:Int
 tells:List Int
 said:List Msg
def WC (c:Cal):Msg:=⟨1,-1,0,0,c,[],[],[]⟩
def JI (s:Sit) (c:Cal):Don:=s.done.getD c.client.toNat don0
def YT (p:Pln) (s:Sit) (k:Int) (c:Cal):Jg5:=KW p.acts s.base p.gives k s.added c.act c.args
def JdA (s:Sit) (c:Cal) (r:Jg5):Sit:=⟨s.up,s.frozen,s.round,s.base,r.adds,s.done.set c.client.toNat ⟨c.seq,r.code,r.tells⟩⟩
def Xa (p:Pln) (s:Sit) (k:Int) (c:Cal):Jis :=
 if s.up=true∧Int.tmod c.client p.gives.length=k then
  if c.seq=(JI s c).seq then ⟨s,(JI s c).code,(JI s c).tells,[]⟩
  else if c.seq=(JI s c).seq+1 then
   if s.frozen=false∧(YT p s k c).ok=true then ⟨JdA s c (YT p s k c),(YT p s k c).code,(YT p s k c).tells,[]⟩
   else ⟨s,0,[],[WC c]⟩
  else ⟨s,0,[],[]⟩
 else ⟨s,0,[],[]⟩
def Jis.ds (r:Jis):List D:=r.site.cells++[dI r.code,.s (dL r.tells),.s (dMs r.said)]
theorem JbM {p:Pln} {s:Sit} {k:Int} {c:Cal} (h : ¬(s.up=true∧Int.tmod c.client p.gives.length=k)∨(c.seq≠(JI s c).seq∧c.seq≠(JI s c).seq+1)):Xa p s k c=⟨s,0,[],[]⟩:=by
 unfold Xa;rcases h with h | ⟨h1,h2⟩
 ·rw[if_neg h]
 ·rw[if_neg h1,if_neg h2];split <;> rfl
theorem Jdj {p:Pln} {s:Sit} {k:Int} {c:Cal} (h1:s.up=true) (h2:Int.tmod c.client p.gives.length=k) (h3:c.seq=(JI s c).seq):Xa p s k c=⟨s,(JI s c).code,(JI s c).tells,[]⟩:=by
 unfold Xa;rw[if_pos ⟨h1,h2⟩,if_pos h3]
theorem Je3 {p:Pln} {s:Sit} {k:Int} {c:Cal} (h1:s.up=true) (h2:Int.tmod c.client p.gives.length=k) (h3:c.seq=(JI s c).seq+1) (h4:s.frozen=false) (h5:(YT p s k c).ok=true) :
  Xa p s k c=⟨JdA s c (YT p s k c),(YT p s k c).code,(YT p s k c).tells,[]⟩:=by
 unfold Xa;rw[if_pos ⟨h1,h2⟩,if_neg (by omega),if_pos h3,if_pos ⟨h4,h5⟩]
theorem Jdq {p:Pln} {s:Sit} {k:Int} {c:Cal} (h1:s.up=true) (h2:Int.tmod c.client p.gives.length=k) (h3:c.seq=(JI s c).seq+1) (h4:s.frozen=true∨(YT p s k c).ok=false):Xa p s k c=⟨s,0,[],[WC c]⟩:=by
 unfold Xa;rw[if_pos ⟨h1,h2⟩,if_neg (by omega),if_pos h3,if_neg (by rintro⟨a,b⟩;rcases h4 with h | h <;> simp_all)]
theorem KK {n:Int} {l:List Don}:Xl n l=true↔(l.length:Int)=n∧∀d∈l,XJ d=true:=by
 unfold Xl;rw[Jq9,decide_eq_true_eq,Jrm]
theorem JiC {n:Int} {l:List Don} (h:Xl n l=true) (i:Nat) {d:Don} (hd:XJ d=true):Xl n (l.set i d)=true:=by
 obtain⟨h1,h2⟩:=KK.1 h;refine KK.2 ⟨by rw[List.length_set];exact h1,fun x hx=>?_⟩;rcases Jry hx with q | q
 ·exact h2 x q
 ·rw[q];exact hd
theorem XS {p:Pln} {c:Cal}:JX p c=true↔(0≤c.client∧c.client≤p.n-1)∧(1≤c.seq∧c.seq≤300)∧(0≤c.act∧c.act≤(p.acts.length:Int)-1)∧QL c.args=true:=by
 unfold JX;simp only[Jq9,JH]
theorem VV {p:Pln} {b:List Int} {k:Int} {a:List Int}:Zz p b k a=true↔keeps b p.gives (Jb p.acts) k a=true∧JZ (Jh p.acts) a=true:=by
 unfold Zz;rw[Jq9]
theorem Z4 {p:Pln} {s:Sit} {k:Int}:Q1 p s k=true↔(0≤s.round∧s.round≤200)∧Xb s.base=true∧Zz p s.base k s.added=true∧Xl p.n s.done=true:=by
 unfold Q1;simp only[Jq9,JH]
theorem JiT {p:Pln} {c:Cal} (h:JX p c=true):JnB p (WC c)=true:=by simp[JnB,WC,inB,JgY,em,h]
theorem WJ {p:Pln} {s:Sit} {k:Int} {c:Cal} (hp:Qq p=true) (hs:Q1 p s k=true) (hc:JX p c=true):QR p.acts s.base p.gives k s.added c.act c.args=true:=by
 obtain⟨_,_,h3,_⟩:=Z4.1 hs;obtain⟨_,_,h6,h7⟩:=XS.1 hc;obtain⟨h8,h9⟩:=VV.1 h3;unfold QR;rw[Vh hp,h7,h8,h9,show inB c.act 0 ((p.acts.length:Int)-1)=true from JH.2 h6];rfl
theorem Jop {f:Frm} {v w:List Int} (hf:Std 10000000 f) (hv:Xb v=true) (hw:QL w=true) : -999999999999≤atF f v w∧atF f v w≤999999999999:=by
 obtain⟨v1,v2⟩:=Yq.1 hv;obtain⟨w1,w2⟩:=Km.1 hw;have h1:=KO hf.lc v2 (by omega) (by omega);have h2:=KO hf.ld w2 (by omega) (by omega);have h3:=hf.k;rw[hf.c] at h1;rw[hf.d] at h2;unfold atF;omega
theorem JlR {ps:List Bool} {a b:List Int} (ha:JZ ps a=true) (hb:JZ ps b=true):JZ ps (J7 a b)=true:=by
 unfold JZ J7 at *
 induction ps generalizing a b with
 | nil=>simp
 | cons q ps ih =>
  cases a with
  | nil=>simp
  | cons x a =>
   cases b with
   | nil=>simp
   | cons y b =>
    simp only[List.zip_cons_cons,List.all_cons,List.zipWith_cons_cons,Jq9] at ha hb ⊢;refine⟨?_,ih ha.2 hb.2⟩;have h1:=ha.1;have h2:=hb.1;cases q with
    | false=>rfl
    | true =>
     simp only[Jrt,Bool.not_not,decide_eq_true_eq] at h1 h2 ⊢;omega
theorem JgK {p:Pln} {s:Sit} {k:Int} {c:Cal} (hf:QR p.acts s.base p.gives k s.added c.act c.args=true) (h:(YT p s k c).ok=true) :
  JP (YT p s k c).code (YT p s k c).tells=true∧Zz p s.base k (YT p s k c).adds=true:=by
 obtain⟨hc,hk,hw,hke,hst⟩:=UQ.1 hf;have hb:Xb s.base=true:=by
  obtain⟨h1,_⟩:=Ve (YL hke);simp only[Qu,Jq9] at h1;exact h1.1.1
 have hka:Zz p s.base k s.added=true:=VV.2 ⟨hke,hst⟩;have key :∀r,r∈Jw (p.acts.getD c.act.toNat [])→∀q,Yt s.base p.gives (Jb p.acts) (Jh p.acts) k s.added c.args r=q→q.ok=true→JP q.code q.tells=true∧Zz p s.base k q.adds=true:=by
  intro r hr q hq hqo;have hrf:=X8 r hr;unfold Yt at hq;split at hq
  ·subst hq;exact⟨by simp[JP,inB,JE],hka⟩
  ·split at hq
   ·rename_i h1;rw[Jq9] at h1;split at hq
    ·subst hq;exact⟨by simp[JP,inB,JE],hka⟩
    ·split at hq
     ·subst hq;cases hqo
     ·split at hq
      ·rename_i h2;subst hq;refine⟨Jaj.2 ⟨by simp,by simp only[atL,Jri];exact hrf.tl,.inl rfl,fun x hx=>?_⟩,VV.2 ⟨h2,JlR hst h1.1⟩⟩;simp only[atL,List.mem_map] at hx;obtain⟨f,hfm,rfl⟩:=hx;exact Jop (hrf.t f hfm) hb hw
      ·subst hq;cases hqo
   ·subst hq;cases hqo
 unfold YT KW at h ⊢;rw[if_pos hf] at h ⊢;split at h
 ·rename_i r hr;exact key r (List.mem_of_find?_eq_some hr) _ rfl h
 ·cases h
theorem Wr {p:Pln} {s:Sit} {k:Int} {c:Cal} (hs:Q1 p s k=true) (hc:JX p c=true):s.done[c.client.toNat]? = some (JI s c)∧XJ (JI s c)=true∧JI s c∈s.done:=by
 obtain⟨h1,h2⟩:=KK.1 (Z4.1 hs).2.2.2;obtain⟨h3,_⟩:=XS.1 hc;obtain⟨x,hx,hm⟩:=sA1 (l:=s.done) (i:=c.client.toNat) (by omega);have e:JI s c=x:=JeX hx;rw[e];exact⟨hx,h2 x hm,hm⟩
theorem Ki {d:Don}:XJ d=true↔(d.seq=0∧d.code=0∧d.tells.length=0)∨(1≤d.seq∧d.seq≤300∧JP d.code d.tells=true):=by
 unfold XJ;split
 ·rename_i h;simp only[Jq9,decide_eq_true_eq];constructor
  ·rintro⟨a,b⟩;exact .inl ⟨h,a,b⟩
  ·rintro (⟨_,a,b⟩ | ⟨a,_⟩)
   ·exact⟨a,b⟩
   ·omega
 ·rename_i h;simp only[Jq9,JH];constructor
  ·rintro⟨⟨a,b⟩,d⟩;exact .inr ⟨a,b,d⟩
  ·rintro (⟨a,_⟩ | ⟨a,b,d⟩)
   ·exact absurd a h
   ·exact⟨⟨a,b⟩,d⟩
structure Jkh (p:Pln) (s:Sit) (k:Int) (c:Cal) (r:Jis):Prop where
 site:Q1 p r.site k=true
 said :∀m∈r.said,JnB p m=true
 one:r.said.length≤1
 res:(r.code=0∧r.tells.length=0)∨JP r.code r.tells=true
 seq:r.code≠0→(JI r.site c).seq=c.seq
 more:(JI s c).seq<(JI r.site c).seq→JP r.code r.tells=true
 len:r.tells.length≤2000000
theorem JoX {p:Pln} {s:Sit} {k:Int} {c:Cal} (hp:Qq p=true) (hs:Q1 p s k=true) (hc:JX p c=true):Jkh p s k c (Xa p s k c):=by
 obtain⟨hx,hdo,hm⟩:=Wr hs hc;have hf:=WJ hp hs hc;obtain⟨c1,c2,c3,c4⟩:=XS.1 hc;obtain⟨s1,s2,s3,s4⟩:=Z4.1 hs;have six :∀{a:Int} {l:List Int},JP a l=true→l.length≤2000000:=fun h=>by have:=(Jaj.1 h).2.1;omega
 have no:Jkh p s k c ⟨s,0,[],[]⟩:=⟨hs,fun m h=>by simp at h,by simp,.inl ⟨rfl,rfl⟩,fun h=>absurd rfl h,fun h=>absurd h (Int.lt_irrefl _),by simp⟩
 by_cases h1:s.up=true∧Int.tmod c.client p.gives.length=k
 ·by_cases h2:c.seq=(JI s c).seq
  ·rw[Jdj h1.1 h1.2 h2];have hr:JP (JI s c).code (JI s c).tells=true:=by
    rcases Ki.1 hdo with h | h
    ·omega
    ·exact h.2.2
   exact⟨hs,fun m h=>by simp at h,by simp,.inr hr,fun _=>h2.symm,fun h=>absurd h (Int.lt_irrefl _),six hr⟩
  ·by_cases h3:c.seq=(JI s c).seq+1
   ·by_cases h4:s.frozen=false∧(YT p s k c).ok=true
    ·rw[Je3 h1.1 h1.2 h3 h4.1 h4.2];obtain⟨l1,l2⟩:=JgK hf h4.2;have hl:c.client.toNat<s.done.length:=(Jra.1 hx).1;have e:JI (JdA s c (YT p s k c)) c=⟨c.seq,(YT p s k c).code,(YT p s k c).tells⟩:=JeX (by simp only[JdA];exact List.getElem?_set_self hl);refine⟨Z4.2 ⟨s1,s2,l2,JiC s4 _ (Ki.2 (.inr ⟨c2.1,c2.2,l1⟩))⟩,fun m h=>by simp at h,by simp,.inr l1,fun _=>by rw[e],fun _=>l1,six l1⟩
    ·rw[Jdq h1.1 h1.2 h3 (by cases hfz:s.frozen <;> simp_all)];refine⟨hs,fun m h=>?_,by simp,.inl ⟨rfl,rfl⟩,fun h=>absurd rfl h,fun h=>absurd h (Int.lt_irrefl _),by simp⟩;simp only[Jrr] at h;subst h;exact JiT hc
   ·rw[JbM (.inr ⟨h2,h3⟩)];exact no
 ·rw[JbM (.inl h1)];exact no
theorem JjI (p:Pln) {s:Sit} (k:Int) {c:Cal} (hs:Qj s) (hc:Yb c):Qj (Xa p s k c).site∧(∀m∈(Xa p s k c).said,Ul m)∧(Xa p s k c).tells.length≤2000000:=by
 have hl:=JcA p.acts s.base p.gives k s.added c.act c.args hs.2.1;have hd:(JI s c).tells.length≤2000000:=by
  unfold JI;cases h:s.done[c.client.toNat]? with
  | none=>simp[Jrc,h,don0]
  | some x=>rw[JeX h];exact hs.2.2.2 x (Jrg h)
 have no:Qj s∧(∀m∈([]:List Msg),Ul m)∧([]:List Int).length≤2000000:=⟨hs,fun m h=>by simp at h,by simp⟩;unfold Xa;split
 ·split
  ·exact⟨hs,fun m h=>by simp at h,hd⟩
  ·split
   ·split
    ·refine⟨⟨hs.1,hl.2,by simp only[JdA,List.length_set];exact hs.2.2.1,fun d hm=>?_⟩,fun m h=>by simp at h,hl.1⟩;simp only[JdA] at hm;rcases Jry hm with q | q
     ·exact hs.2.2.2 d q
     ·rw[q];exact hl.1
    ·refine⟨hs,fun m h=>?_,by simp⟩;simp only[Jrr] at h;subst h;exact⟨hc,by simp[WC],by simp[WC],by simp[WC],fun d hd=>by simp[WC] at hd⟩
   ·exact no
 ·exact no
theorem Jnl (p:Pln) (s:Sit) (k:Int) (c:Cal) (hp:QB p) (hs:Qj s) (hc:Yb c) (hpo:Qq p=true) (hso:Q1 p s k=true) (hco:JX p c=true) :
  Ev L f_k21 (p.cells++[.s (dLL (Jb p.acts)),.s (dBl (Jh p.acts))]++s.cells++[dI k]++c.cells) (Xa p s k c).ds:=by
 refine Jq7 (vs:=[.i p.n,.l (Jf p.acts),.l (dL p.gives),.l (dL p.start),.l (dLL (Jb p.acts)),.l (dBl (Jh p.acts)),.b s.up,.b s.frozen,.i s.round,.l (dL s.base),.l (dL s.added),.l (dDs s.done),.i k,.i c.client,.i c.seq,.i c.act,.l (dL c.args)]) L_k21 rfl ?_;obtain⟨hx,hdo,hm⟩:=Wr hso hco;have hfine:=WJ hpo hso hco;obtain⟨c1,c2,c3,c4⟩:=XS.1 hco;have hg:=(Jc0 hpo).1;have hlt:c.client.toNat<s.done.length:=(Jra.1 hx).1;have hsq : -1≤(JI s c).seq∧(JI s c).seq≤300:=by rcases Ki.1 hdo with h | h <;> omega
 have hdl:(JI s c).tells.length≤2000000:=hs.2.2.2 _ hm;refine JqC (vs:=[.b s.up,.b s.frozen,.i s.round,.l (dL s.base),.l (dL s.added),.l (dDs s.done)]) (Jk0 s hs) rfl rfl rfl ?_;simp only[sC,sN];refine JqF (0≤c.client) rfl c1.1 ?_;refine JqF (c.client<(s.done.length:Int)) (by show decide (c.client<((dDs s.done).length:Int))=_;rw[X2]) (by omega) ?_;refine JqO (ds:=dDs s.done) (d:=(JI s c).g) (vs:=[.i (JI s c).seq,.i (JI s c).code,.l (dL (JI s c).tells)]) c.client rfl rfl rfl c1.1 (mA1 (f:=Don.g) hx) rfl ?_;simp only[sC,sN];have no:=fun h=>JbM (p:=p) (s:=s) (k:=k) (c:=c) h;have same:=fun h1 h2 h3=>Jdj (p:=p) (s:=s) (k:=k) (c:=c) h1 h2 h3;have did:=fun h1 h2 h3 h4 h5=>Je3 (p:=p) (s:=s) (k:=k) (c:=c) h1 h2 h3 h4 h5;have want:=fun h1 h2 h3 h4=>Jdq (p:=p) (s:=s) (k:=k) (c:=c) h1 h2 h3 h4;have hloc:=Jmf (as:=p.acts) (b:=s.base) (g:=p.gives) (s:=k) (a:=s.added) (k:=c.act) (w:=c.args) hp.1 hp.2.1 hfine;have hll:=JcA p.acts s.base p.gives k s.added c.act c.args hs.2.1;have elo:KW p.acts s.base p.gives k s.added c.act c.args=YT p s k c:=rfl;rw[elo] at hloc hll;have hset :∀r:Jg5,(dDs s.done).set c.client.toNat (.g [dI c.seq,dI r.code,.s (dL r.tells)])=dDs (JdA s c r).done:=fun r=>by simp only[dDs,JdA,List.map_set];rfl
 generalize JI s c=x at *;generalize YT p s k c=r at *;refine JqA s.up rfl (fun a=>JqK (by rw[no (.inl (fun q=>by rw[a] at q;cases q.1))];rfl)) (fun a=>?_);refine JqV (by show (!decide (((dL p.gives).length:Int)=0))=true;rw[dL1,Bool.not_eq_true',decide_eq_false_iff_not];omega) ?_;refine JqA (decide (Int.tmod c.client p.gives.length=k)) (by show (!decide (Int.tmod c.client ((dL p.gives).length:Int)=k))=_;rw[dL1]) (fun b=>JqK (by rw[no (.inl (fun q=>by simp[q.2] at b))];rfl)) (fun b=>?_);have b:Int.tmod c.client p.gives.length=k:=by simpa using b
 refine JqL (c.seq<x.seq) rfl (fun e=>JqK (by rw[no (.inr ⟨by omega,by omega⟩)];rfl)) (fun e=>?_);refine JqL (x.seq+1<c.seq) (by show decide (i64.wrap (x.seq+1)<c.seq)=_;rw[w64 (by omega) (by omega)]) (fun e2=>JqK (by rw[no (.inr ⟨by omega,by omega⟩)];rfl)) (fun e2=>?_);refine JqL (c.seq=x.seq) rfl (fun e3=>?_) (fun e3=>?_)
 ·rw[same a b e3];refine JqC (vs:=[.i x.code,.l (dL x.tells)]) (KD x.code x.tells hdl) rfl rfl rfl (JqK rfl)
 have e4:c.seq=x.seq+1:=by omega
 refine JqA s.frozen rfl (fun f=>?_) (fun f=>?_)
 ·refine JqC (JaP p s) rfl rfl rfl ?_;simp only[sC,sN];refine JqC (vs:=[.i r.code,.l (dL r.tells),.l (dL r.adds),.b r.ok]) hloc rfl rfl rfl ?_;simp only[sC,sN];refine JqZ r.ok rfl (fun o=>?_) (fun o=>?_)
  ·rw[did a b e4 f o];refine JqC (vs:=[.i r.code,.l (dL r.tells)]) (KD r.code r.tells hll.1) rfl rfl rfl ?_;simp only[sC,sN];refine JqF (0≤c.client) rfl c1.1 ?_;refine JqF (c.client<(s.done.length:Int)) (by show decide (c.client<((dDs s.done).length:Int))=_;rw[X2]) (by omega) ?_;refine JqO (ds:=dDs s.done) (d:=x.g) (vs:=[.i x.seq,.i x.code,.l (dL x.tells)]) c.client rfl rfl rfl c1.1 (mA1 (f:=Don.g) hx) rfl (JqK ?_);show [dB s.up,dB s.frozen,dI s.round,.s (dL s.base),.s (dL r.adds),.s ((dDs s.done).set c.client.toNat (.g [dI c.seq,dI r.code,.s (dL r.tells)])),dI r.code,.s (dL r.tells),D.s []]=_;rw[hset r];rfl
  ·rw[want a b e4 (.inr o)];refine JqC (vs:=[.i c.client,.i c.seq,.i c.act,.l (dL c.args)]) (Vu c hc) rfl rfl rfl (JqK rfl)
 ·rw[want a b e4 (.inl f)];refine JqC (vs:=[.i c.client,.i c.seq,.i c.act,.l (dL c.args)]) (Vu c hc) rfl rfl rfl (JqK rfl)
/- The program's SitTry answers as the reference's: over residual programs. -/
theorem Jix (p:Pln) (s:Sit) (k:Int) (c:Cal) (hp:QB p) (hs:Qj s) (hc:Yb c) :
  Ev L f_k4l (s.cells++p.cells++[dI k]++c.cells) (YT p s k c).ds:=by
 refine Jq7 (vs:=[.b s.up,.b s.frozen,.i s.round,.l (dL s.base),.l (dL s.added),.l (dDs s.done),.i p.n,.l (Jf p.acts),.l (dL p.gives),.l (dL p.start),.i k,.i c.client,.i c.seq,.i c.act,.l (dL c.args)]) L_k4l rfl ?_;refine JqC (vs:=[.l (dL s.base),.l (dL p.gives)]) (VI p s.base) rfl rfl rfl ?_;simp only[sC,sN];have h:=JiR p.acts s.base p.gives k s.added c.act c.args hp.1 hs.1 hp.2.1 hs.2.1 hc;rw[show KW p.acts s.base p.gives k s.added c.act c.args=YT p s k c from rfl] at h;generalize YT p s k c=r at *;exact JqC (vs:=[.i r.code,.l (dL r.tells),.l (dL r.adds),.b r.ok]) h rfl rfl rfl (JqK rfl)
theorem Jm3 (p:Pln) (s:Sit) (k:Int) (c:Cal) (hs:Qj s) (hpo:Qq p=true) (hso:Q1 p s k=true) (hco:JX p c=true) (hsame:c.seq=(JI s c).seq) :
  Ev L f_k4o (s.cells++p.cells++[dI k]++c.cells) [dI (Xa p s k c).code,.s (dL (Xa p s k c).tells),.s (dMs (Xa p s k c).said)]:=by
 refine Jq7 (vs:=[.b s.up,.b s.frozen,.i s.round,.l (dL s.base),.l (dL s.added),.l (dDs s.done),.i p.n,.l (Jf p.acts),.l (dL p.gives),.l (dL p.start),.i k,.i c.client,.i c.seq,.i c.act,.l (dL c.args)]) L_k4o rfl ?_;obtain⟨hx,hdo,hm⟩:=Wr hso hco;obtain⟨c1,c2,c3,c4⟩:=XS.1 hco;have hg:=(Jc0 hpo).1;have hlt:c.client.toNat<s.done.length:=(Jra.1 hx).1;have hsq : -1≤(JI s c).seq∧(JI s c).seq≤300:=by rcases Ki.1 hdo with h | h <;> omega
 have hdl:(JI s c).tells.length≤2000000:=hs.2.2.2 _ hm;have no:=fun h=>JbM (p:=p) (s:=s) (k:=k) (c:=c) h;have same:=fun h1 h2 h3=>Jdj (p:=p) (s:=s) (k:=k) (c:=c) h1 h2 h3;generalize JI s c=x at *;refine JqO (ds:=dDs s.done) (d:=x.g) (vs:=[.i x.seq,.i x.code,.l (dL x.tells)]) c.client rfl rfl rfl c1.1 (mA1 (f:=Don.g) hx) rfl ?_;simp only[sC,sN];refine JqA s.up rfl (fun a=>JqK (by rw[no (.inl (fun q=>by rw[a] at q;cases q.1))];rfl)) (fun a=>?_);refine JqV (by show (!decide (((dL p.gives).length:Int)=0))=true;rw[dL1,Bool.not_eq_true',decide_eq_false_iff_not];omega) ?_;refine JqA (decide (Int.tmod c.client p.gives.length=k)) (by show (!decide (Int.tmod c.client ((dL p.gives).length:Int)=k))=_;rw[dL1]) (fun b=>JqK (by rw[no (.inl (fun q=>by simp[q.2] at b))];rfl)) (fun b=>?_);have b:Int.tmod c.client p.gives.length=k:=by simpa using b
 refine JqL (c.seq=x.seq) rfl (fun e3=>?_) (fun e3=>absurd hsame e3);rw[same a b e3];refine JqC (vs:=[.i x.code,.l (dL x.tells)]) (Kt x.code x.tells hdl) rfl rfl rfl ?_;simp only[sC,sN];exact Jq3 (QD dI (fun _=>rfl) x.tells) (JqK rfl)
theorem Jmb (p:Pln) (s:Sit) (k:Int) (c:Cal) (hp:QB p) (hs:Qj s) (hc:Yb c) (hpo:Qq p=true) (hso:Q1 p s k=true) (hco:JX p c=true) (hnot : ¬c.seq=(JI s c).seq) :
  Ev L f_k4n (s.cells++p.cells++[dI k]++c.cells) [dI (Xa p s k c).code,.s (dL (Xa p s k c).tells),.s (dMs (Xa p s k c).said),dB (Xa p s k c).site.up,dB (Xa p s k c).site.frozen,dI (Xa p s k c).site.round,.s (dL (Xa p s k c).site.base),.s (dDs (Xa p s k c).site.done),.s (dL (Xa p s k c).site.added)]:=by
 refine Jq7 (vs:=[.b s.up,.b s.frozen,.i s.round,.l (dL s.base),.l (dL s.added),.l (dDs s.done),.i p.n,.l (Jf p.acts),.l (dL p.gives),.l (dL p.start),.i k,.i c.client,.i c.seq,.i c.act,.l (dL c.args)]) L_k4n rfl ?_;obtain⟨hx,hdo,hm⟩:=Wr hso hco;obtain⟨c1,c2,c3,c4⟩:=XS.1 hco;have hg:=(Jc0 hpo).1;have hlt:c.client.toNat<s.done.length:=(Jra.1 hx).1;have hsq : -1≤(JI s c).seq∧(JI s c).seq≤300:=by rcases Ki.1 hdo with h | h <;> omega
 have hdl:(JI s c).tells.length≤2000000:=hs.2.2.2 _ hm;have no:=fun h=>JbM (p:=p) (s:=s) (k:=k) (c:=c) h;have did:=fun h1 h2 h3 h4 h5=>Je3 (p:=p) (s:=s) (k:=k) (c:=c) h1 h2 h3 h4 h5;have want:=fun h1 h2 h3 h4=>Jdq (p:=p) (s:=s) (k:=k) (c:=c) h1 h2 h3 h4;have hal:=Jix p s k c hp hs hc;have hll:=JcA p.acts s.base p.gives k s.added c.act c.args hs.2.1;rw[show KW p.acts s.base p.gives k s.added c.act c.args=YT p s k c from rfl] at hll;have hset :∀r:Jg5,(dDs s.done).set c.client.toNat (.g [dI c.seq,dI r.code,.s (dL r.tells)])=dDs (JdA s c r).done:=fun r=>by simp only[dDs,JdA,List.map_set];rfl
 generalize JI s c=x at *;generalize YT p s k c=r at *;refine JqF (0≤c.client) rfl c1.1 ?_;refine JqF (c.client<(s.done.length:Int)) (by show decide (c.client<((dDs s.done).length:Int))=_;rw[X2]) (by omega) ?_;refine JqO (ds:=dDs s.done) (d:=x.g) (vs:=[.i x.seq,.i x.code,.l (dL x.tells)]) c.client rfl rfl rfl c1.1 (mA1 (f:=Don.g) hx) rfl ?_;simp only[sC,sN];refine JqA s.up rfl (fun a=>JqK (by rw[no (.inl (fun q=>by rw[a] at q;cases q.1))];rfl)) (fun a=>?_);refine JqV (by show (!decide (((dL p.gives).length:Int)=0))=true;rw[dL1,Bool.not_eq_true',decide_eq_false_iff_not];omega) ?_;refine JqA (decide (Int.tmod c.client p.gives.length=k)) (by show (!decide (Int.tmod c.client ((dL p.gives).length:Int)=k))=_;rw[dL1]) (fun b=>JqK (by rw[no (.inl (fun q=>by simp[q.2] at b))];rfl)) (fun b=>?_);have b:Int.tmod c.client p.gives.length=k:=by simpa using b
 refine JqL (c.seq=x.seq) rfl (fun e3=>absurd e3 hnot) (fun e3=>?_);refine JqA (decide (c.seq=x.seq+1)) (by show (!decide (c.seq=i64.wrap (x.seq+1)))=_;rw[w64 (by omega) (by omega)]) (fun e=>JqK (by rw[no (.inr ⟨e3,by simpa using e⟩)];rfl)) (fun e=>?_);have e4:c.seq=x.seq+1:=by simpa using e
 refine JqA s.frozen rfl (fun f=>?_) (fun f=>?_)
 ·refine JqC (vs:=[.i r.code,.l (dL r.tells),.l (dL r.adds),.b r.ok]) hal rfl rfl rfl ?_;simp only[sC,sN];refine Jq3 (QD dI (fun _=>rfl) r.tells) ?_;refine Jq3 (QD dI (fun _=>rfl) r.adds) ?_;refine JqZ r.ok rfl (fun o=>?_) (fun o=>?_)
  ·rw[did a b e4 f o];refine JqC (vs:=[.i r.code,.l (dL r.tells)]) (Kt r.code r.tells hll.1) rfl rfl rfl ?_;simp only[sC,sN];refine Jq3 (QD dI (fun _=>rfl) r.tells) ?_;refine JqF (0≤c.client) rfl c1.1 ?_;refine JqF (c.client<(s.done.length:Int)) (by show decide (c.client<((dDs s.done).length:Int))=_;rw[X2]) (by omega) ?_;refine JqO (ds:=dDs s.done) (d:=x.g) (vs:=[.i x.seq,.i x.code,.l (dL x.tells)]) c.client rfl rfl rfl c1.1 (mA1 (f:=Don.g) hx) rfl (JqK ?_);show [dI r.code,.s (dL r.tells),D.s [],dB s.up,dB s.frozen,dI s.round,.s (dL s.base),.s ((dDs s.done).set c.client.toNat (.g [dI c.seq,dI r.code,.s (dL r.tells)])),.s (dL r.adds)]=_;rw[hset r];rfl
  ·rw[want a b e4 (.inr o)];exact JqC (vs:=[.i c.client,.i c.seq,.i c.act,.l (dL c.args)]) (Vn c hc) rfl rfl rfl (Jq3 (QD dI (fun _=>rfl) c.args) (JqK rfl))
 ·rw[want a b e4 (.inl f)];exact JqC (vs:=[.i c.client,.i c.seq,.i c.act,.l (dL c.args)]) (Vn c hc) rfl rfl rfl (Jq3 (QD dI (fun _=>rfl) c.args) (JqK rfl))
def KX (p:Pln) (s:Sit) (k:Int) (c:Cal):Jis:=if YU p s k&&(Qq p&&JX p c) then Xa p s k c else ⟨⟨false,false,0,[],[],[]⟩,0,[],[]⟩
theorem Jab {p:Pln} {s:Sit} {k:Int} (h:YU p s k=true):Qq p=true∧Q1 p s k=true:=by
 unfold YU at h;simp only[Jq9] at h;exact⟨h.1,h.2.2⟩
theorem Joc (p:Pln) (s:Sit) (k:Int) (c:Cal) (hp:QB p) (hs:Qj s) (hc:Yb c):Ev L f_k22 (p.cells++s.cells++[dI k]++c.cells) (KX p s k c).ds:=by
 refine Jq7 (vs:=[.i p.n,.l (Jf p.acts),.l (dL p.gives),.l (dL p.start),.b s.up,.b s.frozen,.i s.round,.l (dL s.base),.l (dL s.added),.l (dDs s.done),.i k,.i c.client,.i c.seq,.i c.act,.l (dL c.args)]) L_k22 rfl ?_;refine JqC (Jk1 p s k hp hs) rfl rfl rfl ?_;simp only[sC,sN];refine JqA (YU p s k) rfl (fun h=>JqK ?_) (fun h1=>?_)
 ·unfold KX;rw[if_neg (by simp[h])];rfl
 obtain⟨hpo,hso⟩:=Jab h1;refine JqC (Jif p c hp hc) rfl rfl rfl ?_;simp only[sC,sN];refine JqA (Qq p&&JX p c) rfl (fun h=>JqK ?_) (fun h2=>?_)
 ·unfold KX;rw[if_neg (by simp[h])];rfl
 have hco:JX p c=true:=by rw[Jq9] at h2;exact h2.2
 have e:KX p s k c=Xa p s k c:=by unfold KX;rw[if_pos (by rw[h1,h2];rfl)]
 rw[e];have hc0:=Vh hpo;have e1:(UN p.acts).1=Jb p.acts:=by simp[Jb,hc0]
 have e2:(UN p.acts).2=Jh p.acts:=by simp[Jh,hc0]
 have eB:=JeE p.acts hp.1 (U1 hc0).2.1;rw[e1,e2] at eB;refine JqC (vs:=[.l (dLL (Jb p.acts)),.l (dBl (Jh p.acts))]) eB rfl rfl rfl ?_;simp only[sC,sN];have hv:=Jnl p s k c hp hs hc hpo hso hco;generalize Xa p s k c=r at *;exact JqC (vs:=[.b r.site.up,.b r.site.frozen,.i r.site.round,.l (dL r.site.base),.l (dL r.site.added),.l (dDs r.site.done),.i r.code,.l (dL r.tells),.l (dMs r.said)]) hv rfl rfl rfl (JqK rfl)
theorem Jin (p:Pln) (s:Sit) (k:Int) (c:Cal) (hp:QB p) (hs:Qj s) (hc:Yb c):Ev L f_k4p (p.cells++s.cells++[dI k]++c.cells) (KX p s k c).ds:=by
 refine Jq7 (vs:=[.i p.n,.l (Jf p.acts),.l (dL p.gives),.l (dL p.start),.b s.up,.b s.frozen,.i s.round,.l (dL s.base),.l (dL s.added),.l (dDs s.done),.i k,.i c.client,.i c.seq,.i c.act,.l (dL c.args)]) L_k4p rfl ?_;refine JqC (JlL p s k hp hs) rfl rfl rfl ?_;simp only[sC,sN];refine JqA (YU p s k) rfl (fun h=>JqK ?_) (fun h1=>?_)
 ·unfold KX;rw[if_neg (by simp[h])];rfl
 obtain⟨hpo,hso⟩:=Jab h1;refine JqC (Jiu p c hp hc) rfl rfl rfl ?_;simp only[sC,sN];refine JqA (Qq p&&JX p c) rfl (fun h=>JqK ?_) (fun h2=>?_)
 ·unfold KX;rw[if_neg (by simp[h])];rfl
 have hco:JX p c=true:=by rw[Jq9] at h2;exact h2.2
 have e:KX p s k c=Xa p s k c:=by unfold KX;rw[if_pos (by rw[h1,h2];rfl)]
 rw[e];obtain⟨hx,hdo,hm⟩:=Wr hso hco;have c1:=(XS.1 hco).1;have hfa:=JjI p k hs hc;have hA:=fun h=>Jm3 p s k c hs hpo hso hco h;have hO:=fun h=>Jmb p s k c hp hs hc hpo hso hco h;have hfr :∀h:c.seq=(JI s c).seq,(Xa p s k c).site=s∧(Xa p s k c).said=[]:=fun h=>by
  unfold Xa;split
  ·first | exact⟨rfl,rfl⟩ | exact⟨by rw[if_pos h],by rw[if_pos h]⟩
  ·first | exact⟨rfl,rfl⟩ | (rename_i hn;exact absurd h hn) | (split <;> first | exact⟨rfl,rfl⟩ | (rename_i hn;exact absurd h hn))
 generalize Xa p s k c=r at *;generalize JI s c=x at *;refine JqC (vs:=[.b s.up,.b s.frozen,.i s.round,.l (dL s.base),.l (dL s.added),.l (dDs s.done)]) (JfS s hs) rfl rfl rfl ?_;simp only[sC,sN];refine JqO (ds:=dDs s.done) (d:=x.g) (vs:=[.i x.seq,.i x.code,.l (dL x.tells)]) c.client rfl rfl rfl c1.1 (mA1 (f:=Don.g) hx) rfl ?_;simp only[sC,sN];refine JqL (c.seq=x.seq) rfl (fun q=>?_) (fun q=>?_)
 ·obtain⟨q1,q2⟩:=hfr q;have hv:=hA q;refine JqC (vs:=[.i r.code,.l (dL r.tells),.l (dMs r.said)]) hv rfl rfl rfl ?_;simp only[sC,sN];refine Jq3 (show JA (dMs r.said)=true by rw[q2];rfl) (JqK ?_);unfold Jis.ds;rw[q1];rfl
 ·have hv:=hO q;exact JqC (vs:=[.i r.code,.l (dL r.tells),.l (dMs r.said),.b r.site.up,.b r.site.frozen,.i r.site.round,.l (dL r.site.base),.l (dDs r.site.done),.l (dL r.site.added)]) hv rfl rfl rfl (JqK rfl)
theorem Jf1 {α:Type} (w:α→Nat) (N:Nat) (l:List α) (h :∀x∈l,w x≤N):wts w l≤N*l.length:=by
 unfold wts
 induction l with
 | nil=>simp
 | cons x l ih =>
  have h1:=ih fun y hy=>h y (List.mem_cons_of_mem _ hy);have h2:=h x (List.mem_cons_self ..);simp only[Jrh,List.sum_cons,List.length_cons,Nat.mul_succ];omega
theorem Joa {r:Sit} (h:Qj r) (hd:r.done.length≤4):JD r≤20000000:=by
 have:=Jf1 Don.w 2000002 r.done (fun x hx=>by show 2+x.tells.length≤_;have:=h.2.2.2 x hx;omega);have h1:=h.1;have h2:=h.2.1;unfold JD;omega
theorem Jox {x:Msg} (h:Ul x) (hd:x.done.length≤4):Msg.w x≤20000000:=by
 have:=Jf1 Don.w 2000002 x.done (fun y hy=>by show 2+y.tells.length≤_;have:=h.2.2.2.2 y hy;unfold YQ at this;omega);obtain⟨h1,h2,h3,_⟩:=h;unfold Msg.w;omega
theorem Jlq (p:Pln) {s:Sit} (k:Int) {c:Cal} (hs:Qj s) (hc:Yb c):Qj (KX p s k c).site∧(∀m∈(KX p s k c).said,Ul m)∧(KX p s k c).tells.length≤2000000∧(KX p s k c).said.length≤1∧JD (KX p s k c).site≤20000000∧wts Msg.w (KX p s k c).said≤20000000:=by
 unfold KX;split
 ·rename_i h;rw[Jq9,Jq9] at h;obtain⟨hpo,hso⟩:=Jab h.1;have hf:=JjI p k hs hc;have ho:=JoX hpo hso h.2.2;have hn:=JbA hpo;have hd:=(KK.1 (Z4.1 ho.site).2.2.2).1;refine⟨hf.1,hf.2.1,hf.2.2,ho.one,Joa hf.1 (by omega),?_⟩;have hw:=Jf1 Msg.w 20000000 (Xa p s k c).said (fun x hx=>Jox (hf.2.1 x hx) (by
   unfold Xa at hx
   repeat' split at hx
   all_goals first
    | (simp only[Jrr] at hx;subst hx;simp[WC];done)
    | (simp at hx;done)))
  have h1:=ho.one;have:20000000*(Xa p s k c).said.length≤20000000*1:=Nat.mul_le_mul_left _ h1;omega
 ·exact⟨⟨by simp,by simp,by simp,fun d hd=>by simp at hd⟩,fun m h=>by simp at h,by simp,by simp,by simp[JD,wts],by simp[wts]⟩
theorem Jaz (p:Pln) (s:Sit) (k:Int) (c:Cal) (hb:Jij p) (hbs:Jih s) (hbc:JiN c):Ev L f_k5h (p.cells++s.cells++[dI k]++c.cells) [dB true]:=by
 refine Jq7 (vs:=[.i p.n,.l (Jf p.acts),.l (dL p.gives),.l (dL p.start),.b s.up,.b s.frozen,.i s.round,.l (dL s.base),.l (dL s.added),.l (dDs s.done),.i k,.i c.client,.i c.seq,.i c.act,.l (dL c.args)]) L_k5h rfl ?_;refine JqC (Jf9 p 1048576 hb (by omega) (by omega)) rfl rfl rfl ?_;have hr:=J2 (left:=1048576) (n:=YE p) (by omega) (by omega);refine JqL (dec 1048576 (YE p)<0) rfl (fun _=>JqK rfl) (fun h=>?_);have hsz:YE p≤1048576:=by have:=Ji3 h;omega
 have hf:QB p:=Jlc hsz;have hto:=JfV p hf;refine JqC (Jfr s (dec 1048576 (YE p)) hbs (by omega) (by omega)) rfl rfl rfl ?_;simp only[sC,sN];have hrs:=J2 (left:=(dec 1048576 (YE p))) (n:=YN s) (by omega) (by omega);refine JqL (dec (dec 1048576 (YE p)) (YN s)<0) rfl (fun _=>JqK rfl) (fun hss=>?_);refine JqC (JfL c (dec (dec 1048576 (YE p)) (YN s)) hbc (by omega) (by omega)) rfl rfl rfl ?_;simp only[sC,sN];have hrc:=J2 (left:=(dec (dec 1048576 (YE p)) (YN s))) (n:=JbN c) (by omega) (by omega);refine JqL (dec (dec (dec 1048576 (YE p)) (YN s)) (JbN c)<0) rfl (fun _=>JqK rfl) (fun hsc=>?_);have hsz2:YN s≤1048576:=by have:=Ji3 hss;omega
 have hfs:Qj s:=JlN hsz2;have hfc:Yb c:=Jlv (by have:=Ji3 hsc;omega);have hfc':c.args.length≤2000000:=hfc;have htos:=Jgh s hfs;have htoc:=JfN c hfc;have hwp:=Jm2 p;have hws:=JnA s;have hr2:=Jlq p k hfs hfc;have hs:=Joc p s k c hf hfs hfc;have hi:=Jin p s k c hf hfs hfc;obtain⟨es,hmk⟩:=Jdd p hf (by omega);have hms:=Jg2 s (1+XH p) hfs (by omega) (by omega) (by omega);have hmc:Ev L f_k59 [dI c.client,dI c.seq,dI c.act,.s (dL c.args),dI (1+XH p+JD s)] [dI (1+XH p+JD s+c.args.length),.s (dL (cnt (1+XH p+JD s) c.args.length))] :=
  Jq7 (vs:=[.i c.client,.i c.seq,.i c.act,.l (dL c.args),.i (1+XH p+JD s)]) L_k59 rfl (JqC (JK c.args (1+XH p+JD s) hfc (by omega) (by omega)) rfl rfl rfl (JqK rfl))
 generalize hq:KX p s k c=q at *;obtain⟨r,code,tl,ms⟩:=q;simp only[Jis.ds] at hr2 hs hi;obtain⟨hr3,hr4,hr5,hr6,hr7,hr8⟩:=hr2;have heq:=Wv r hr3;have heqr:Ev L f_k4r [dI code,.s (dL tl),dI code,.s (dL tl)] [dB true]:=by have:=Uz code code tl tl hr5;simpa using this
 have heqm:=Jfe ms ⟨by omega,hr4⟩;have heqs:=Wv s hfs;have heqc:=WA c c hfc;rw[decide_eq_true rfl] at heqc;have hmr:=Jcs r hr3 (by omega);have hhr:=Jci r hr3 (by omega);have hmt:=W9 code tl (1+JD r) hr5 (by omega) (by omega);have hht:=JaK code tl.length (1+JD r) hr5 (by omega) (by omega);have hml:=Jc9 ms (1+JD r+tl.length) (by omega) hr4 (by omega) (by omega);have hhm:=JbK ms (1+JD r+tl.length) (by omega) hr4 (by omega) (by omega);have hml2:(JS Msg.w Msg.mk' (1+JD r+tl.length) ms).length=ms.length:=Y7 ..;generalize JS Msg.w Msg.mk' (1+JD r+tl.length) ms=mm at *;generalize hmk2:Uu r=m2 at *;have ht1:m2.base.length=r.base.length:=by rw[←hmk2];simp[Uu,X5]
 have ht2:m2.added.length=r.added.length:=by rw[←hmk2];simp[Uu,X5]
 have ht3:m2.done.length=r.done.length:=by rw[←hmk2];simp[Uu,Y7]
 have hcell:m2.cells=[dB r.up,dB r.frozen,dI r.round,.s (dL m2.base),.s (dL m2.added),.s (dDs m2.done)]:=by rw[←hmk2];rfl
 rw[hcell] at hhr;refine JqC (vs:=[.i p.n,.l (Jf p.acts),.l (dL p.gives),.l (dL p.start)]) hto rfl rfl rfl ?_;simp only[sC,sN];refine JqC (vs:=[.b s.up,.b s.frozen,.i s.round,.l (dL s.base),.l (dL s.added),.l (dDs s.done)]) htos rfl rfl rfl ?_;simp only[sC,sN];refine JqC (vs:=[.i c.client,.i c.seq,.i c.act,.l (dL c.args)]) htoc rfl rfl rfl ?_;simp only[sC,sN];refine JqC (vs:=[.b r.up,.b r.frozen,.i r.round,.l (dL r.base),.l (dL r.added),.l (dDs r.done),.i code,.l (dL tl),.l (dMs ms)]) hs rfl rfl rfl ?_;simp only[sC,sN];refine JqC (vs:=[.i p.n,.l (Jf p.acts),.l (dL p.gives),.l (dL p.start)]) hto rfl rfl rfl ?_;simp only[sC,sN];refine JqC (vs:=[.b s.up,.b s.frozen,.i s.round,.l (dL s.base),.l (dL s.added),.l (dDs s.done)]) htos rfl rfl rfl ?_;simp only[sC,sN];refine JqC (vs:=[.i c.client,.i c.seq,.i c.act,.l (dL c.args)]) htoc rfl rfl rfl ?_;simp only[sC,sN];refine JqC (vs:=[.b r.up,.b r.frozen,.i r.round,.l (dL r.base),.l (dL r.added),.l (dDs r.done),.i code,.l (dL tl),.l (dMs ms)]) hi rfl rfl rfl ?_;simp only[sC,sN];refine Jq3 (QD dI (fun _=>rfl) r.base) ?_;refine Jq3 (QD dI (fun _=>rfl) r.added) ?_;refine JqC heq rfl rfl rfl (JqM rfl ?_);simp only[sC,sN];refine JqC heqr rfl rfl rfl (JqM rfl ?_);simp only[sC,sN];refine JqC heqm rfl rfl rfl (JqM rfl ?_);simp only[sC,sN];refine JqC (vs:=[.i p.n,.l (Jf p.acts),.l (dL p.gives),.l (dL p.start)]) hto rfl rfl rfl ?_;simp only[sC,sN];refine JqC (Je2 p hf) rfl rfl rfl (JqM rfl ?_);simp only[sC,sN];refine JqC (vs:=[.b s.up,.b s.frozen,.i s.round,.l (dL s.base),.l (dL s.added),.l (dDs s.done)]) htos rfl rfl rfl ?_
 simp only[sC,sN];refine JqC heqs rfl rfl rfl (JqM rfl ?_);simp only[sC,sN];refine JqC (vs:=[.i c.client,.i c.seq,.i c.act,.l (dL c.args)]) htoc rfl rfl rfl ?_;simp only[sC,sN];refine JqC heqc rfl rfl rfl (JqM rfl ?_);simp only[sC,sN];refine JqC (vs:=[.i (1+XH p),.l es,.l (dL (cnt (1+X0 p.acts) p.gives.length)),.l (dL (cnt (1+X0 p.acts+p.gives.length) p.start.length))]) hmk rfl rfl rfl ?_;simp only[sC,sN];refine JqC (vs:=[.i (1+XH p+JD s),.l (dL (cnt (1+XH p) s.base.length)),.l (dL (cnt (1+XH p+s.base.length) s.added.length)),.l (dDs (JS Don.w Don.mk' (1+XH p+s.base.length+s.added.length) s.done))]) hms rfl rfl rfl ?_;simp only[sC,sN];refine JqC (vs:=[.i (1+XH p+JD s+c.args.length),.l (dL (cnt (1+XH p+JD s) c.args.length))]) hmc rfl rfl rfl ?_;simp only[sC,sN];refine JqM (by show decide ((1:Int)+XH p+JD s+c.args.length<0)=false;rw[decide_eq_false];omega) ?_;refine JqC heq rfl rfl rfl (JqM rfl ?_);simp only[sC,sN];refine JqC heqr rfl rfl rfl (JqM rfl ?_);simp only[sC,sN];refine JqC heqm rfl rfl rfl (JqM rfl ?_);simp only[sC,sN];refine JqC (vs:=[.i (1+JD r),.l (dL m2.base),.l (dL m2.added),.l (dDs m2.done)]) hmr rfl rfl rfl ?_;simp only[sC,sN];refine JqC (vs:=[.i (1+JD r+tl.length),.l (dL (cnt (1+JD r) tl.length))]) hmt rfl rfl rfl ?_;simp only[sC,sN];refine JqC (vs:=[.i (1+JD r+tl.length+wts Msg.w ms),.l (dMs mm)]) hml rfl rfl rfl ?_;simp only[sC,sN];have c1:decide (((dL r.base).length:Int)=((dL m2.base).length:Int))=true:=by rw[dL1,dL1,ht1];simp
 have c2:decide (((dL r.added).length:Int)=((dL m2.added).length:Int))=true:=by rw[dL1,dL1,ht2];simp
 have c3:decide (((dDs r.done).length:Int)=((dDs m2.done).length:Int))=true:=by simp[dDs,ht3]
 have c5:decide (((dL tl).length:Int)=((dL (cnt (1+JD r) tl.length)).length:Int))=true:=by rw[dL1,dL1,X5];simp
 have c4:decide (((dMs ms).length:Int)=((dMs mm).length:Int))=true:=by simp[dMs,hml2]
 have hneg:decide ((1:Int)+(JD r:Int)<0)=false:=by rw[decide_eq_false];omega
 have hneg1:decide ((1:Int)+(JD r:Int)+(tl.length:Int)<0)=false:=by rw[decide_eq_false];omega
 have hneg2:decide ((1:Int)+(JD r:Int)+(tl.length:Int)+(wts Msg.w ms:Int)<0)=false:=by rw[decide_eq_false];omega
 have hsame:(!decide ((1:Int)+(JD r:Int)+(tl.length:Int)+(wts Msg.w ms:Int)=(1:Int)+(JD r:Int)+(tl.length:Int)+(wts Msg.w ms:Int)))=false:=by simp
 refine JqV c1 (JqV c2 (JqV c3 ?_));refine JqC (vs:=[.i (1+JD r)]) hhr rfl rfl rfl ?_;simp only[sC,sN];refine JqM hneg (JqV c5 ?_);refine JqC (vs:=[.i (1+JD r+tl.length)]) hht rfl rfl rfl ?_;simp only[sC,sN];refine JqM hneg1 (JqV c4 ?_);refine JqC (vs:=[.i (1+JD r+tl.length+wts Msg.w ms)]) hhm rfl rfl rfl ?_;simp only[sC,sN];refine JqM hneg2 (JqM hsame ?_);refine JqC (vs:=[.i p.n,.l (Jf p.acts),.l (dL p.gives),.l (dL p.start)]) hto rfl rfl rfl ?_;simp only[sC,sN];refine JqC (vs:=[.b s.up,.b s.frozen,.i s.round,.l (dL s.base),.l (dL s.added),.l (dDs s.done)]) htos rfl rfl rfl ?_;simp only[sC,sN];refine JqC (vs:=[.i c.client,.i c.seq,.i c.act,.l (dL c.args)]) htoc rfl rfl rfl ?_;simp only[sC,sN];refine JqC (vs:=[.b r.up,.b r.frozen,.i r.round,.l (dL r.base),.l (dL r.added),.l (dDs r.done),.i code,.l (dL tl),.l (dMs ms)]) hi rfl rfl rfl ?_;simp only[sC,sN];refine Jq3 (QD dI (fun _=>rfl) r.base) ?_;refine Jq3 (QD dI (fun _=>rfl) r.added) ?_;refine JqC heq rfl rfl rfl (JqM rfl ?_);simp only[sC,sN];refine JqC heqr rfl rfl rfl (JqM rfl ?_);simp only[sC,sN];refine JqC heqm rfl rfl rfl (JqM rfl ?_);simp only[sC,sN];refine JqV c1 (JqV c2 (JqV c3 ?_));refine JqC (vs:=[.i (1+JD r)]) hhr rfl rfl rfl ?_;simp only[sC,sN];refine JqM hneg (JqV c5 ?_);refine JqC (vs:=[.i (1+JD r+tl.length)]) hht rfl rfl rfl ?_;simp only[sC,sN];refine JqM hneg1 (JqV c4 ?_);refine JqC (vs:=[.i (1+JD r+tl.length+wts Msg.w ms)]) hhm rfl rfl rfl ?_;simp only[sC,sN];refine JqM hneg2 (JqM hsame ?_);exact JqK rfl
theorem WI (dss:List (List D)) (h:Jol [tyPlan,tySit,.i .i64,tyCal] dss) : ∃ ls,Jj [.g [.i .i64,.s,.s,.s],.g [.b,.b,.i .i64,.s,.s,.s],.one (.i .i64),.g [.i .i64,.i .i64,.i .i64,.s]] (JgQ [tyPlan,tySit,.i .i64,tyCal] dss)=some ls∧Ev L f_k5h ls [dB true]:=by
 obtain⟨ds,_,rfl,h1,es,_,rfl,h2,fs,_,rfl,⟨k,rfl⟩,gs,_,rfl,h3,rfl⟩:=h;obtain⟨p,rfl,hp⟩:=JnV h1;obtain⟨s,rfl,hs⟩:=Jpk h2;obtain⟨c,rfl,hc⟩:=Jpx h3;exact⟨_,rfl,Jaz p s k c hp hs hc⟩
end Go.Proofs.YtgpjnnkmmplicaaGreatDoor

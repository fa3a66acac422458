import Derived.Test.YtofcmnglieaoeabGreatDoorPZZB
import Derived.Test.YtofcmnglieaoeabGreatDoorPZR
set_option linter.unusedVariables false
set_option linter.unusedSimpArgs false
/- The program's ClkTick answers as the reference's: over residual programs. -/
namespace Go.Proofs.YtofcmnglieaoeabGreatDoor
open Go Go.Tm
open Go.IntKind (i64)
def Jhi (c:Clk) (i:Nat):Msg:=⟨4,i,0,c.round,⟨0,0,0,[]⟩,c.base,[],c.done⟩
def JpA (c:Clk) (i:Nat):Msg:=⟨2,i,0,c.round,⟨0,0,0,[]⟩,[],[],[]⟩
def Xw (c:Clk) (n:Nat):List Msg:=(List.range n).map (Jhi c)
def YB (c:Clk) (n:Nat):List Msg:=(List.range n).map (JpA c)
theorem JhF (c:Clk) (n:Nat):Xw c (n+1)=Xw c n++[Jhi c n]:=by simp[Xw,List.range_succ]
theorem JjO (c:Clk) (n:Nat):YB c (n+1)=YB c n++[JpA c n]:=by simp[YB,List.range_succ]
theorem Z6 (c:Clk) (n:Nat):(Xw c n).length=n:=by simp[Xw]
theorem Jfu (c:Clk) (n:Nat):(YB c n).length=n:=by simp[YB]
def busy (c:Clk):Bool:=decide (0<c.wants.length)||decide (0<Xy c.got)
def JbN (c:Clk):List Msg:=if c.up then(if busy c then Xw c c.got.length++YB c c.got.length else Xw c c.got.length) else []
theorem Jct (a b:List Msg):dMs (a++b)=dMs a++dMs b:=by simp[dMs]
theorem Xl (a:List Msg):(dMs a).length=a.length:=by simp[dMs]
theorem JnK (c:Clk) (i:Nat):dMs [Jhi c i]=[.g [dI 4,dI i,dI 0,dI c.round,dI 0,dI 0,dI 0,.s [],.s (dL c.base),.s [],.s (dDs c.done)]]:=rfl
theorem Jpb (c:Clk) (i:Nat):dMs [JpA c i]=[.g [dI 2,dI i,dI 0,dI c.round,dI 0,dI 0,dI 0,.s [],.s [],.s [],.s []]]:=rfl
theorem Jl1 (c:Clk) (i:Nat) (hc:Qy c):Ev L f_k2m (c.cells++[dI i]) (Jhi c i).cells:=by
 refine JuA (vs:=[.b c.up,.i c.round,.l (dL c.base),.l (dDs c.done),.l (dCs c.wants),.l (dGs c.got),.i i]) L_k2m rfl ?_;have h1:=hc.b;refine Juj (dL c.base) 2000000 (by rw[dL1];omega) (by omega) rfl ?_;refine Juc (JT c.base) ?_;refine Juj (dL c.base) 2000000 (by rw[dL1];omega) (by omega) rfl ?_;exact Jur (vs:=[.l (dDs c.done)]) (Zd c.done ⟨hc.d,hc.dt⟩) rfl rfl rfl (Jue rfl)
theorem Je4 (p:Pln) (c:Clk) (hp:JV p) (hc:Qy c):Ev L f_k2n (p.cells++c.cells) [.s (dMs (Xw c p.gives.length))]:=by
 refine JuA (vs:=[.i p.n,.l (Jc p.acts),.l (dL p.gives),.l (dL p.start),.b c.up,.i c.round,.l (dL c.base),.l (dDs c.done),.l (dCs c.wants),.l (dGs c.got)]) L_k2n rfl ?_;have hg:=hp.2.1;refine Jt3 p.gives.length (fun i=>[.l (dMs (Xw c i)),.i i]) (fun _=>True) rfl rfl trivial fun i hi _=>?_;simp only[sC,sN];refine JtY i (dL1 p.gives) rfl (fun h=>?_) (fun h=>Juk (Jue ?_))
 ·refine Jur (vs:=[.i 4,.i i,.i 0,.i c.round,.i 0,.i 0,.i 0,.l [],.l (dL c.base),.l [],.l (dDs c.done)]) (Jl1 c i hc) rfl rfl rfl ?_;simp only[sC,sN];refine Jus (dMs (Xw c i)) 2000000 (by rw[Xl,Z6];omega) (by omega) rfl ?_;refine Jt4 (vs:=[.l (dMs (Xw c (i+1))),.i ((i+1:Nat):Int)]) ?_ ⟨h,rfl,trivial⟩;show [V.l (dMs (Xw c i)++[.g [dI 4,dI i,dI 0,dI c.round,dI 0,dI 0,dI 0,.s [],.s (dL c.base),.s [],.s (dDs c.done)]]),V.i (i64.wrap ((i:Int)+1))]=_;rw[wS h (by omega),JhF,Jct,JnK]
 ·rw[show i=p.gives.length by omega];rfl
theorem Jmc (p:Pln) (c:Clk) (hp:JV p) (hc:Qy c) (hl:c.got.length=p.gives.length):Ev L f_k2q (p.cells++c.cells) [.s (dMs (JbN c))]:=by
 refine JuA (vs:=[.i p.n,.l (Jc p.acts),.l (dL p.gives),.l (dL p.start),.b c.up,.i c.round,.l (dL c.base),.l (dDs c.done),.l (dCs c.wants),.l (dGs c.got)]) L_k2q rfl ?_;have hg:=hp.2.1;have hcc:=hc.c;refine Jum c.up rfl (fun a=>Jue (by unfold JbN;rw[if_neg (by simp[a])];rfl)) (fun a=>?_);have ht:=Je4 p c hp hc;have hpl:=Z6 c p.gives.length;have hh:=Jec c hc.g;have et:JbN c=if busy c then Xw c p.gives.length++YB c p.gives.length else Xw c p.gives.length:=by unfold JbN;rw[if_pos a,hl]
 rw[et];clear et;generalize Xw c p.gives.length=ps at *;refine Jur (vs:=[.l (dMs ps)]) ht rfl rfl rfl ?_;simp only[sC,sN];refine Jt3 p.gives.length (fun i=>[.l (dMs (ps++YB c i)),.i i]) (fun i=>i=0∨busy c=true) rfl (by rw[show YB c 0=[] from rfl,List.append_nil];rfl) (.inl rfl) fun i hi hq=>?_;simp only[sC,sN];have hs:dMs (ps++YB c i)++[.g [dI 2,dI i,dI 0,dI c.round,dI 0,dI 0,dI 0,.s [],.s [],.s [],.s []]]=dMs (ps++YB c (i+1)):=by rw[JjO,←List.append_assoc,Jct (ps++YB c i),Jpb]
 have hlen:(dMs (ps++YB c i)).length≤4000000:=by rw[Xl,JuJ,Jfu];omega
 have hend : ¬i<p.gives.length∨busy c=false→[D.s (dMs (ps++YB c i))]=[D.s (dMs (if busy c then ps++YB c p.gives.length else ps))]:=fun q=>by
  by_cases hb:busy c=true
  ·rw[if_pos hb];rcases q with q | q
   ·rw[show i=p.gives.length by omega]
   ·rw[q] at hb;cases hb
  ·rw[if_neg hb];rcases hq with e | e
   ·rw[e,show YB c 0=[] from rfl,List.append_nil]
   ·exact absurd e hb
 generalize dMs (ps++YB c i)=ms at *;refine JtY i (dL1 p.gives) rfl (fun h=>?_) (fun h=>Juk (Jue (hend (.inl h))));have hw:i64.wrap ((i:Int)+1)=((i+1:Nat):Int):=wS h (by omega);refine Jt8 ((0:Int)<(c.wants.length:Int)) (by show decide ((0:Int)<((dCs c.wants).length:Int))=_;rw[Xb]) (fun b=>?_) (fun b=>?_)
 ·have e:busy c=true:=by unfold busy;rw[decide_eq_true (by omega)];rfl
  refine Jus ms 4000000 hlen (by omega) rfl ?_;refine Jt4 ?_ ⟨h,rfl,.inr e⟩;show [V.l (ms++[.g [dI 2,dI i,dI 0,dI c.round,dI 0,dI 0,dI 0,.s [],.s [],.s [],.s []]]),V.i (i64.wrap ((i:Int)+1))]=_;rw[hs,hw]
 ·refine Jur hh rfl rfl rfl ?_;simp only[sC,sN];refine Jt8 ((0:Int)<(Xy c.got:Int)) rfl (fun d=>?_) (fun d=>Juk (Jue (hend (.inr ?_))))
  ·have e:busy c=true:=by unfold busy;rw[decide_eq_true (show 0<Xy c.got by omega),Bool.or_true]
   refine Jus ms 4000000 hlen (by omega) rfl ?_;refine Jt4 ?_ ⟨h,rfl,.inr e⟩;show [V.l (ms++[.g [dI 2,dI i,dI 0,dI c.round,dI 0,dI 0,dI 0,.s [],.s [],.s [],.s []]]),V.i (i64.wrap ((i:Int)+1))]=_;rw[hs,hw]
  ·unfold busy;rw[decide_eq_false (by omega),decide_eq_false (by omega)];rfl
/- What a site tries,by the reference: over residual programs. -/
theorem JeP (x:Msg) (hx:Vx x):Ev L f_k1y x.cells x.cells:=by
 refine JuA (vs:=[.i x.kind,.i x.to,.i x.frm,.i x.round,.i x.call.client,.i x.call.seq,.i x.call.act,.l (dL x.call.args),.l (dL x.vals),.l (dL x.seqs),.l (dDs x.done)]) L_k1y rfl ?_;obtain⟨h1,h2,h3,h4⟩:=hx;refine Jur (vs:=[.i x.call.client,.i x.call.seq,.i x.call.act,.l (dL x.call.args)]) (JZ x.call h1) rfl rfl rfl ?_;simp only[sC,sN];refine Juj (dL x.vals) 2000000 (by rw[dL1];omega) (by omega) rfl ?_;refine Juc (JT x.vals) ?_;refine Juj (dL x.vals) 2000000 (by rw[dL1];omega) (by omega) rfl ?_;refine Juj (dL x.seqs) 2000000 (by rw[dL1];omega) (by omega) rfl ?_;refine Juc (JT x.seqs) ?_;refine Juj (dL x.seqs) 2000000 (by rw[dL1];omega) (by omega) rfl ?_;refine Jur (vs:=[.l (dDs x.done)]) (Zd x.done h4) rfl rfl rfl (Jue rfl)
structure JpD where
 site:Sit
 code:Int
 tells:List Int
 said:List Msg
def Jb4 (c:Cal):Msg:=⟨1,-1,0,0,c,[],[],[]⟩
def J0 (s:Sit) (c:Cal):Don:=s.done.getD c.client.toNat Wb
def K3 (p:Pln) (s:Sit) (k:Int) (c:Cal):Jkx:=JaY p.acts s.base p.gives k s.added c.act c.args
def JiU (s:Sit) (c:Cal) (r:Jkx):Sit:=⟨s.up,s.frozen,s.round,s.base,r.adds,s.done.set c.client.toNat ⟨c.seq,r.code,r.tells⟩⟩
def WX (p:Pln) (s:Sit) (k:Int) (c:Cal):JpD :=
 if s.up=true∧Int.tmod c.client p.gives.length=k then
  if c.seq=(J0 s c).seq then ⟨s,(J0 s c).code,(J0 s c).tells,[]⟩
  else if c.seq=(J0 s c).seq+1 then
   if s.frozen=false∧(K3 p s k c).ok=true then ⟨JiU s c (K3 p s k c),(K3 p s k c).code,(K3 p s k c).tells,[]⟩
   else ⟨s,0,[],[Jb4 c]⟩
  else ⟨s,0,[],[]⟩
 else ⟨s,0,[],[]⟩
def JpD.ds (r:JpD):List D:=r.site.cells++[dI r.code,.s (dL r.tells),.s (dMs r.said)]
theorem Jjz {p:Pln} {s:Sit} {k:Int} {c:Cal} (h : ¬(s.up=true∧Int.tmod c.client p.gives.length=k)∨(c.seq≠(J0 s c).seq∧c.seq≠(J0 s c).seq+1)):WX p s k c=⟨s,0,[],[]⟩:=by
 unfold WX;rcases h with h | ⟨h1,h2⟩
 ·rw[if_neg h]
 ·rw[if_neg h1,if_neg h2];split <;> rfl
theorem Jh9 {p:Pln} {s:Sit} {k:Int} {c:Cal} (h1:s.up=true) (h2:Int.tmod c.client p.gives.length=k) (h3:c.seq=(J0 s c).seq):WX p s k c=⟨s,(J0 s c).code,(J0 s c).tells,[]⟩:=by
 unfold WX;rw[if_pos ⟨h1,h2⟩,if_pos h3]
theorem Jk2 {p:Pln} {s:Sit} {k:Int} {c:Cal} (h1:s.up=true) (h2:Int.tmod c.client p.gives.length=k) (h3:c.seq=(J0 s c).seq+1) (h4:s.frozen=false) (h5:(K3 p s k c).ok=true) :
  WX p s k c=⟨JiU s c (K3 p s k c),(K3 p s k c).code,(K3 p s k c).tells,[]⟩:=by
 unfold WX;rw[if_pos ⟨h1,h2⟩,if_neg (by omega),if_pos h3,if_pos ⟨h4,h5⟩]
theorem Jhw {p:Pln} {s:Sit} {k:Int} {c:Cal} (h1:s.up=true) (h2:Int.tmod c.client p.gives.length=k) (h3:c.seq=(J0 s c).seq+1) (h4:s.frozen=true∨(K3 p s k c).ok=false):WX p s k c=⟨s,0,[],[Jb4 c]⟩:=by
 unfold WX;rw[if_pos ⟨h1,h2⟩,if_neg (by omega),if_pos h3,if_neg (by rintro⟨a,b⟩;rcases h4 with h | h <;> simp_all)]
theorem JI {n:Int} {l:List Don}:J4 n l=true↔(l.length:Int)=n∧∀d∈l,Xj d=true:=by
 unfold J4;rw[JuD,decide_eq_true_eq,JuQ]
theorem Jdn {n:Int} {l:List Don} (h:J4 n l=true) (i:Nat) {d:Don} (hd:Xj d=true):J4 n (l.set i d)=true:=by
 obtain⟨h1,h2⟩:=JI.1 h;refine JI.2 ⟨by rw[List.length_set];exact h1,fun x hx=>?_⟩;rcases Ju2 hx with q | q
 ·exact h2 x q
 ·rw[q];exact hd
theorem Qf {p:Pln} {c:Cal}:Jl p c=true↔(0≤c.client∧c.client≤p.n-1)∧(1≤c.seq∧c.seq≤300)∧(0≤c.act∧c.act≤(p.acts.length:Int)-1)∧Q6 c.args=true:=by
 unfold Jl;simp only[JuD,Jq]
theorem XO {p:Pln} {b:List Int} {k:Int} {a:List Int}:Q4 p b k a=true↔keeps b p.gives (Jb p.acts) k a=true∧Qc (Jj p.acts) a=true:=by
 unfold Q4;rw[JuD]
theorem Qh {p:Pln} {s:Sit} {k:Int}:QW p s k=true↔(0≤s.round∧s.round≤200)∧JR s.base=true∧Q4 p s.base k s.added=true∧J4 p.n s.done=true:=by
 unfold QW;simp only[JuD,Jq]
theorem Jkg {p:Pln} {c:Cal} (h:Jl p c=true):JX p (Jb4 c)=true:=by simp[JX,Jb4,inB,Yw,em,h]
theorem Jae {p:Pln} {s:Sit} {k:Int} {c:Cal} (hp:JL p=true) (hs:QW p s k=true) (hc:Jl p c=true):YR p.acts s.base p.gives k s.added c.act c.args=true:=by
 obtain⟨_,_,h3,_⟩:=Qh.1 hs;obtain⟨_,_,h6,h7⟩:=Qf.1 hc;obtain⟨h8,h9⟩:=XO.1 h3;unfold YR;rw[XH hp,h7,h8,h9,show inB c.act 0 ((p.acts.length:Int)-1)=true from Jq.2 h6];rfl
theorem Jo8 {f:Frm} {v w:List Int} (hf:Std 10000000 f) (hv:JR v=true) (hw:Q6 w=true) : -999999999999≤atF f v w∧atF f v w≤999999999999:=by
 obtain⟨v1,v2⟩:=QI.1 hv;obtain⟨w1,w2⟩:=X1.1 hw;have h1:=Km hf.lc v2 (by omega) (by omega);have h2:=Km hf.ld w2 (by omega) (by omega);have h3:=hf.k;rw[hf.c] at h1;rw[hf.d] at h2;unfold atF;omega
theorem JmE {ps:List Bool} {a b:List Int} (ha:Qc ps a=true) (hb:Qc ps b=true):Qc ps (Qp a b)=true:=by
 unfold Qc Qp at *
 induction ps generalizing a b with
 | nil=>simp
 | cons q ps ih =>
  cases a with
  | nil=>simp
  | cons x a =>
   cases b with
   | nil=>simp
   | cons y b =>
    simp only[List.zip_cons_cons,List.all_cons,List.zipWith_cons_cons,JuD] at ha hb ⊢;refine⟨?_,ih ha.2 hb.2⟩;have h1:=ha.1;have h2:=hb.1;cases q with
    | false=>rfl
    | true =>
     simp only[JuX,Bool.not_not,decide_eq_true_eq] at h1 h2 ⊢;omega
theorem JiZ {p:Pln} {s:Sit} {k:Int} {c:Cal} (hf:YR p.acts s.base p.gives k s.added c.act c.args=true) (h:(K3 p s k c).ok=true) :
  JK (K3 p s k c).code (K3 p s k c).tells=true∧Q4 p s.base k (K3 p s k c).adds=true:=by
 obtain⟨hc,hk,hw,hke,hst⟩:=Ky.1 hf;have hb:JR s.base=true:=by
  obtain⟨h1,_⟩:=ZC (Xv hke);simp only[Qw,JuD] at h1;exact h1.1.1
 have hka:Q4 p s.base k s.added=true:=XO.2 ⟨hke,hst⟩;have key :∀r,r∈Jv (p.acts.getD c.act.toNat [])→∀q,KB s.base p.gives (Jb p.acts) (Jj p.acts) k s.added c.args r=q→q.ok=true→JK q.code q.tells=true∧Q4 p s.base k q.adds=true:=by
  intro r hr q hq hqo;have hrf:=Yf r hr;unfold KB at hq;split at hq
  ·subst hq;exact⟨by simp[JK,inB,JF],hka⟩
  ·split at hq
   ·rename_i h1;rw[JuD] at h1;split at hq
    ·subst hq;exact⟨by simp[JK,inB,JF],hka⟩
    ·split at hq
     ·subst hq;cases hqo
     ·split at hq
      ·rename_i h2;subst hq;refine⟨Yz.2 ⟨by simp,by simp only[atL,JuM];exact hrf.tl,.inl rfl,fun x hx=>?_⟩,XO.2 ⟨h2,JmE hst h1.1⟩⟩;simp only[atL,List.mem_map] at hx;obtain⟨f,hfm,rfl⟩:=hx;exact Jo8 (hrf.t f hfm) hb hw
      ·subst hq;cases hqo
   ·subst hq;cases hqo
 unfold K3 JaY at h ⊢;rw[if_pos hf] at h ⊢;split at h
 ·rename_i r hr;exact key r (List.mem_of_find?_eq_some hr) _ rfl h
 ·cases h
theorem JcB {p:Pln} {s:Sit} {k:Int} {c:Cal} (hs:QW p s k=true) (hc:Jl p c=true):s.done[c.client.toNat]? = some (J0 s c)∧Xj (J0 s c)=true∧J0 s c∈s.done:=by
 obtain⟨h1,h2⟩:=JI.1 (Qh.1 hs).2.2.2;obtain⟨h3,_⟩:=Qf.1 hc;obtain⟨x,hx,hm⟩:=sA1 (l:=s.done) (i:=c.client.toNat) (by omega);have e:J0 s c=x:=Qd hx;rw[e];exact⟨hx,h2 x hm,hm⟩
theorem Yt {d:Don}:Xj d=true↔(d.seq=0∧d.code=0∧d.tells.length=0)∨(1≤d.seq∧d.seq≤300∧JK d.code d.tells=true):=by
 unfold Xj;split
 ·rename_i h;simp only[JuD,decide_eq_true_eq];constructor
  ·rintro⟨a,b⟩;exact .inl ⟨h,a,b⟩
  ·rintro (⟨_,a,b⟩ | ⟨a,_⟩)
   ·exact⟨a,b⟩
   ·omega
 ·rename_i h;simp only[JuD,Jq];constructor
  ·rintro⟨⟨a,b⟩,d⟩;exact .inr ⟨a,b,d⟩
  ·rintro (⟨a,_⟩ | ⟨a,b,d⟩)
   ·exact absurd a h
   ·exact⟨⟨a,b⟩,d⟩
structure JkP (p:Pln) (s:Sit) (k:Int) (c:Cal) (r:JpD):Prop where
 site:QW p r.site k=true
 said :∀m∈r.said,JX p m=true
 one:r.said.length≤1
 res:(r.code=0∧r.tells.length=0)∨JK r.code r.tells=true
 seq:r.code≠0→(J0 r.site c).seq=c.seq
 more:(J0 s c).seq<(J0 r.site c).seq→JK r.code r.tells=true
 len:r.tells.length≤2000000
theorem JqI {p:Pln} {s:Sit} {k:Int} {c:Cal} (hp:JL p=true) (hs:QW p s k=true) (hc:Jl p c=true):JkP p s k c (WX p s k c):=by
 obtain⟨hx,hdo,hm⟩:=JcB hs hc;have hf:=Jae hp hs hc;obtain⟨c1,c2,c3,c4⟩:=Qf.1 hc;obtain⟨s1,s2,s3,s4⟩:=Qh.1 hs;have six :∀{a:Int} {l:List Int},JK a l=true→l.length≤2000000:=fun h=>by have:=(Yz.1 h).2.1;omega
 have no:JkP p s k c ⟨s,0,[],[]⟩:=⟨hs,fun m h=>by simp at h,by simp,.inl ⟨rfl,rfl⟩,fun h=>absurd rfl h,fun h=>absurd h (Int.lt_irrefl _),by simp⟩
 by_cases h1:s.up=true∧Int.tmod c.client p.gives.length=k
 ·by_cases h2:c.seq=(J0 s c).seq
  ·rw[Jh9 h1.1 h1.2 h2];have hr:JK (J0 s c).code (J0 s c).tells=true:=by
    rcases Yt.1 hdo with h | h
    ·omega
    ·exact h.2.2
   exact⟨hs,fun m h=>by simp at h,by simp,.inr hr,fun _=>h2.symm,fun h=>absurd h (Int.lt_irrefl _),six hr⟩
  ·by_cases h3:c.seq=(J0 s c).seq+1
   ·by_cases h4:s.frozen=false∧(K3 p s k c).ok=true
    ·rw[Jk2 h1.1 h1.2 h3 h4.1 h4.2];obtain⟨l1,l2⟩:=JiZ hf h4.2;have hl:c.client.toNat<s.done.length:=(JuE.1 hx).1;have e:J0 (JiU s c (K3 p s k c)) c=⟨c.seq,(K3 p s k c).code,(K3 p s k c).tells⟩:=Qd (by simp only[JiU];exact List.getElem?_set_self hl);refine⟨Qh.2 ⟨s1,s2,l2,Jdn s4 _ (Yt.2 (.inr ⟨c2.1,c2.2,l1⟩))⟩,fun m h=>by simp at h,by simp,.inr l1,fun _=>by rw[e],fun _=>l1,six l1⟩
    ·rw[Jhw h1.1 h1.2 h3 (by cases hfz:s.frozen <;> simp_all)];refine⟨hs,fun m h=>?_,by simp,.inl ⟨rfl,rfl⟩,fun h=>absurd rfl h,fun h=>absurd h (Int.lt_irrefl _),by simp⟩;simp only[JuV] at h;subst h;exact Jkg hc
   ·rw[Jjz (.inr ⟨h2,h3⟩)];exact no
 ·rw[Jjz (.inl h1)];exact no
theorem Jpj (p:Pln) {s:Sit} (k:Int) {c:Cal} (hs:KH s) (hc:YL c):KH (WX p s k c).site∧(∀m∈(WX p s k c).said,Vx m)∧(WX p s k c).tells.length≤2000000:=by
 have hl:=Jhm p.acts s.base p.gives k s.added c.act c.args hs.2.1;have hd:(J0 s c).tells.length≤2000000:=by
  unfold J0;cases h:s.done[c.client.toNat]? with
  | none=>simp[JuG,h,Wb]
  | some x=>rw[Qd h];exact hs.2.2.2 x (JuK h)
 have no:KH s∧(∀m∈([]:List Msg),Vx m)∧([]:List Int).length≤2000000:=⟨hs,fun m h=>by simp at h,by simp⟩;unfold WX;split
 ·split
  ·exact⟨hs,fun m h=>by simp at h,hd⟩
  ·split
   ·split
    ·refine⟨⟨hs.1,hl.2,by simp only[JiU,List.length_set];exact hs.2.2.1,fun d hm=>?_⟩,fun m h=>by simp at h,hl.1⟩;simp only[JiU] at hm;rcases Ju2 hm with q | q
     ·exact hs.2.2.2 d q
     ·rw[q];exact hl.1
    ·refine⟨hs,fun m h=>?_,by simp⟩;simp only[JuV] at h;subst h;exact⟨hc,by simp[Jb4],by simp[Jb4],by simp[Jb4],fun d hd=>by simp[Jb4] at hd⟩
   ·exact no
 ·exact no
theorem JnT (p:Pln) (s:Sit) (k:Int) (c:Cal) (hp:JV p) (hs:KH s) (hc:YL c) (hpo:JL p=true) (hso:QW p s k=true) (hco:Jl p c=true) :
  Ev L f_k2b (p.cells++[.s (dLL (Jb p.acts)),.s (dBl (Jj p.acts))]++s.cells++[dI k]++c.cells) (WX p s k c).ds:=by
 refine JuA (vs:=[.i p.n,.l (Jc p.acts),.l (dL p.gives),.l (dL p.start),.l (dLL (Jb p.acts)),.l (dBl (Jj p.acts)),.b s.up,.b s.frozen,.i s.round,.l (dL s.base),.l (dL s.added),.l (dDs s.done),.i k,.i c.client,.i c.seq,.i c.act,.l (dL c.args)]) L_k2b rfl ?_;obtain⟨hx,hdo,hm⟩:=JcB hso hco;have hfine:=Jae hpo hso hco;obtain⟨c1,c2,c3,c4⟩:=Qf.1 hco;have hg:=(QC hpo).1;have hlt:c.client.toNat<s.done.length:=(JuE.1 hx).1;have hsq : -1≤(J0 s c).seq∧(J0 s c).seq≤300:=by rcases Yt.1 hdo with h | h <;> omega
 have hdl:(J0 s c).tells.length≤2000000:=hs.2.2.2 _ hm;refine Jur (vs:=[.b s.up,.b s.frozen,.i s.round,.l (dL s.base),.l (dL s.added),.l (dDs s.done)]) (Jbt s hs) rfl rfl rfl ?_;simp only[sC,sN];refine Juf (0≤c.client) rfl c1.1 ?_;refine Juf (c.client<(s.done.length:Int)) (by show decide (c.client<((dDs s.done).length:Int))=_;rw[Xn]) (by omega) ?_;refine Jug (ds:=dDs s.done) (d:=(J0 s c).g) (vs:=[.i (J0 s c).seq,.i (J0 s c).code,.l (dL (J0 s c).tells)]) c.client rfl rfl rfl c1.1 (mA1 (f:=Don.g) hx) rfl ?_;simp only[sC,sN];have no:=fun h=>Jjz (p:=p) (s:=s) (k:=k) (c:=c) h;have same:=fun h1 h2 h3=>Jh9 (p:=p) (s:=s) (k:=k) (c:=c) h1 h2 h3;have did:=fun h1 h2 h3 h4 h5=>Jk2 (p:=p) (s:=s) (k:=k) (c:=c) h1 h2 h3 h4 h5;have want:=fun h1 h2 h3 h4=>Jhw (p:=p) (s:=s) (k:=k) (c:=c) h1 h2 h3 h4;have hloc:=Jn6 (as:=p.acts) (b:=s.base) (g:=p.gives) (s:=k) (a:=s.added) (k:=c.act) (w:=c.args) hp.1 hp.2.1 hfine;have hll:=Jhm p.acts s.base p.gives k s.added c.act c.args hs.2.1;have elo:JaY p.acts s.base p.gives k s.added c.act c.args=K3 p s k c:=rfl;rw[elo] at hloc hll;have hset :∀r:Jkx,(dDs s.done).set c.client.toNat (.g [dI c.seq,dI r.code,.s (dL r.tells)])=dDs (JiU s c r).done:=fun r=>by simp only[dDs,JiU,List.map_set];rfl
 generalize J0 s c=x at *;generalize K3 p s k c=r at *;refine Jum s.up rfl (fun a=>Jue (by rw[no (.inl (fun q=>by rw[a] at q;cases q.1))];rfl)) (fun a=>?_);refine Jt5 (by show (!decide (((dL p.gives).length:Int)=0))=true;rw[dL1,Bool.not_eq_true',decide_eq_false_iff_not];omega) ?_;refine Jum (decide (Int.tmod c.client p.gives.length=k)) (by show (!decide (Int.tmod c.client ((dL p.gives).length:Int)=k))=_;rw[dL1]) (fun b=>Jue (by rw[no (.inl (fun q=>by simp[q.2] at b))];rfl)) (fun b=>?_);have b:Int.tmod c.client p.gives.length=k:=by simpa using b
 refine Jt8 (c.seq<x.seq) rfl (fun e=>Jue (by rw[no (.inr ⟨by omega,by omega⟩)];rfl)) (fun e=>?_);refine Jt8 (x.seq+1<c.seq) (by show decide (i64.wrap (x.seq+1)<c.seq)=_;rw[w64 (by omega) (by omega)]) (fun e2=>Jue (by rw[no (.inr ⟨by omega,by omega⟩)];rfl)) (fun e2=>?_);refine Jt8 (c.seq=x.seq) rfl (fun e3=>?_) (fun e3=>?_)
 ·rw[same a b e3];refine Jur (vs:=[.i x.code,.l (dL x.tells)]) (Qb x.code x.tells hdl) rfl rfl rfl (Jue rfl)
 have e4:c.seq=x.seq+1:=by omega
 refine Jum s.frozen rfl (fun f=>?_) (fun f=>?_)
 ·refine Jur (Jb1 p s) rfl rfl rfl ?_;simp only[sC,sN];refine Jur (vs:=[.i r.code,.l (dL r.tells),.l (dL r.adds),.b r.ok]) hloc rfl rfl rfl ?_;simp only[sC,sN];refine Jud r.ok rfl (fun o=>?_) (fun o=>?_)
  ·rw[did a b e4 f o];refine Jur (vs:=[.i r.code,.l (dL r.tells)]) (Qb r.code r.tells hll.1) rfl rfl rfl ?_;simp only[sC,sN];refine Juf (0≤c.client) rfl c1.1 ?_;refine Juf (c.client<(s.done.length:Int)) (by show decide (c.client<((dDs s.done).length:Int))=_;rw[Xn]) (by omega) ?_;refine Jug (ds:=dDs s.done) (d:=x.g) (vs:=[.i x.seq,.i x.code,.l (dL x.tells)]) c.client rfl rfl rfl c1.1 (mA1 (f:=Don.g) hx) rfl (Jue ?_);show [dB s.up,dB s.frozen,dI s.round,.s (dL s.base),.s (dL r.adds),.s ((dDs s.done).set c.client.toNat (.g [dI c.seq,dI r.code,.s (dL r.tells)])),dI r.code,.s (dL r.tells),D.s []]=_;rw[hset r];rfl
  ·rw[want a b e4 (.inr o)];refine Jur (vs:=[.i c.client,.i c.seq,.i c.act,.l (dL c.args)]) (JZ c hc) rfl rfl rfl (Jue rfl)
 ·rw[want a b e4 (.inl f)];refine Jur (vs:=[.i c.client,.i c.seq,.i c.act,.l (dL c.args)]) (JZ c hc) rfl rfl rfl (Jue rfl)
/- What the clerk hears,by the reference: over residual programs. -/
theorem JpE {l:Jg} (h:l.ok=true):Frm.fit l.f:=by
 by_cases h4:l.kind=4
 ·unfold Jg.ok at h;rw[if_neg (by omega),if_neg (by omega),if_neg (by omega)] at h;simp only[JuD,decide_eq_true_eq] at h;exact⟨by omega,by omega⟩
 ·have:=X4 h h4;simp only[Frm.small,JuD,Jp] at this;exact⟨by omega,by omega⟩
theorem Zf {p:Pln} (h:JL p=true):JV p:=by
 have hc:=X5 (XH h);have hg:=QC h;have hs:=(J9 h).2.2.1;refine⟨⟨by omega,fun a ha=>?_⟩,by omega,by omega⟩;obtain⟨h1,h2⟩:=K2 (hc.2.2 a ha);exact⟨by omega,fun l hl=>JpE (h2 l hl)⟩
theorem JkK {d:Don} (h:Xj d=true):YX d:=by
 rcases Yt.1 h with h | h
 ·unfold YX;omega
 ·have:=(Yz.1 h.2.2).2.1;unfold YX;omega
theorem Jc1 {n:Int} {l:List Don} (h:J4 n l=true) (h4:n≤4):Wd YX l :=
 ⟨by have:=(JI.1 h).1;omega,fun d hd=>JkK ((JI.1 h).2 d hd)⟩
theorem Jii {p:Pln} {b:List Int} {k:Int} {a:List Int} (h:Q4 p b k a=true):a.length=3:=VY (XO.1 h).1
theorem V5 {p:Pln} {s:Sit} {k:Int} (hp:JL p=true) (h:QW p s k=true):KH s:=by
 obtain⟨_,h2,h3,h4⟩:=Qh.1 h;have hd:=Jc1 h4 (J9 hp).2.1;have:=(QI.1 h2).1;have:=Jii h3;exact⟨by omega,by omega,hd.1,hd.2⟩
theorem Zw {p:Pln} {c:Cal} (h:Jl p c=true):YL c:=by
 have:=(X1.1 (Qf.1 h).2.2.2).1;unfold YL;omega
theorem UA {n:Int} {l:List Int}:Q5 n l=true↔(l.length:Int)=n∧∀x∈l,0≤x∧x≤300:=by
 unfold Q5;simp only[JuD,decide_eq_true_eq,JuQ,Jq]
theorem JeF {c:Cal} (h:Zo c=true):c.args.length=0:=by
 unfold Zo at h;simp only[JuD,decide_eq_true_eq] at h;exact h.2.2.2
structure Jr3 (p:Pln) (x:Msg):Prop where
 round:0≤x.round∧x.round≤200
 want:x.kind=1→x.to = -1∧Jl p x.call=true
 frz:x.kind=2→0≤x.to∧x.to<p.gives.length
 give:x.kind=3→x.to = -1∧(0≤x.frm∧x.frm<p.gives.length)∧x.vals.length=3∧Q5 p.n x.seqs=true
 pact:x.kind=4→(0≤x.to∧x.to<p.gives.length)∧JR x.vals=true∧J4 p.n x.done=true
 kind:1≤x.kind∧x.kind≤4
 fit:Vx x
theorem Y8 {p:Pln} {k:Int}:Zq p k=true↔0≤k∧k<p.gives.length:=by unfold Zq;rw[Jq];omega
theorem Jcv {x:Msg} {a v s d:Bool} (h:Yw x a v s d=true):(a=false→x.call.args.length=0)∧(v=false→x.vals.length=0)∧(s=false→x.seqs.length=0)∧(d=false→x.done.length=0):=by
 unfold Yw em at h;simp only[JuD,Bool.or_eq_true,decide_eq_true_eq] at h;obtain⟨h1,h2,h3,h4⟩:=h;refine⟨fun e=>?_,fun e=>?_,fun e=>?_,fun e=>?_⟩
 ·subst e;exact JeF (h1.resolve_left (by simp))
 ·subst e;exact h2.resolve_left (by simp)
 ·subst e;exact h3.resolve_left (by simp)
 ·subst e;exact h4.resolve_left (by simp)
theorem UJ {p:Pln} {x:Msg} (hp:JL p=true) (h:JX p x=true):Jr3 p x:=by
 have hn:=J9 hp;have no :∀{l:List Don},l.length=0→Wd YX l:=fun h=>by rw[List.length_eq_zero_iff.1 h];exact⟨by simp,fun d hd=>by simp at hd⟩
 unfold JX at h;rw[JuD,Jq] at h;obtain⟨hr,h⟩:=h;split at h
 ·rename_i k;simp only[JuD,decide_eq_true_eq] at h;obtain⟨h1,h2,h3,h4,h5⟩:=h;have hb:=Jcv h5;exact⟨hr,fun _=>⟨h1,h4⟩,fun e=>by omega,fun e=>by omega,fun e=>by omega,by omega,⟨Zw h4,by have:=hb.2.1 rfl;omega,by have:=hb.2.2.1 rfl;omega,no (hb.2.2.2 rfl)⟩⟩
 split at h
 ·rename_i k1 k;simp only[JuD,decide_eq_true_eq] at h;obtain⟨h1,h2,h5⟩:=h;have hb:=Jcv h5;exact⟨hr,fun e=>by omega,fun _=>Y8.1 h1,fun e=>by omega,fun e=>by omega,by omega,⟨by have:=hb.1 rfl;omega,by have:=hb.2.1 rfl;omega,by have:=hb.2.2.1 rfl;omega,no (hb.2.2.2 rfl)⟩⟩
 split at h
 ·rename_i k1 k2 k;simp only[JuD,decide_eq_true_eq] at h;obtain⟨h1,h2,h3,h4,h5⟩:=h;have hb:=Jcv h5;have hv:=(Jp.1 h3).1;have hq:=(UA.1 h4).1;exact⟨hr,fun e=>by omega,fun e=>by omega,fun _=>⟨h1,Y8.1 h2,by omega,h4⟩,fun e=>by omega,by omega,⟨by have:=hb.1 rfl;omega,by omega,by omega,no (hb.2.2.2 rfl)⟩⟩
 split at h
 ·rename_i k1 k2 k3 k;simp only[JuD,decide_eq_true_eq] at h;obtain⟨h1,h2,h3,h4,h5⟩:=h;have hb:=Jcv h5;have hv:=(QI.1 h3).1;exact⟨hr,fun e=>by omega,fun e=>by omega,fun e=>by omega,fun _=>⟨Y8.1 h1,h3,h4⟩,by omega,⟨by have:=hb.1 rfl;omega,by omega,by have:=hb.2.2.1 rfl;omega,Jc1 h4 hn.2.1⟩⟩
 ·cases h
def Asc (l:List Cal):Prop:=l.Pairwise fun a b=>a.client<b.client
theorem Jfo {p:Pln} {l:List Cal}:JQ l.length (Yh p l)=true↔(∀x∈l,Jl p x=true)∧Asc l:=by
 rw[X6];constructor
 ·intro h;have h1 :∀(j:Nat) (x:Cal),l[j]? = some x→Jl p x=true∧(0<j→(l.getD (j-1) ⟨0,0,0,[]⟩).client<x.client):=fun j x hx=>by
   have:=h j (JuE.1 hx).1;rw[JaS hx,JuD,Bool.or_eq_true,decide_eq_true_eq,decide_eq_true_eq] at this;exact⟨this.1,fun hj=>this.2.resolve_left (by omega)⟩
  refine⟨fun x hx=>?_,?_⟩
  ·obtain⟨j,hj⟩:=List.getElem?_of_mem hx;exact(h1 j x hj).1
  ·have step :∀(d i:Nat) (a b:Cal),l[i]? = some a→l[i+d+1]? = some b→a.client<b.client:=by
    intro d
    induction d with
    | zero =>
     intro i a b ha hb;have:=(h1 _ _ hb).2 (by omega);rw[show i+0+1-1=i by omega,Qd ha] at this;exact this
    | succ d ih =>
     intro i a b ha hb;have hl:=(JuE.1 hb).1;obtain⟨y,hy,_⟩:=sA1 (l:=l) (i:=i+d+1) (by omega);have h2:=ih i a y ha hy;have h3:=(h1 _ _ hb).2 (by omega);rw[show i+(d+1)+1-1=i+d+1 by omega,Qd hy] at h3;omega
   unfold Asc;rw[List.pairwise_iff_getElem];intro i j hi hj hij;exact step (j-i-1) i _ _ (JuO hi) (by rw[show i+(j-i-1)+1=j by omega];exact JuO hj)
 ·rintro⟨h1,h2⟩ j hj;obtain⟨x,hx,hm⟩:=sA1 hj;rw[JaS hx,h1 x hm,JuX,Bool.or_eq_true,decide_eq_true_eq,decide_eq_true_eq]
  by_cases h0:j=0
  ·exact .inl h0
  ·right;obtain⟨y,hy,_⟩:=sA1 (l:=l) (i:=j-1) (by omega);rw[Qd hy];unfold Asc at h2;rw[List.pairwise_iff_getElem] at h2;obtain⟨hi1,rfl⟩:=JuE.1 hx;obtain⟨hi2,rfl⟩:=JuE.1 hy;exact h2 _ _ _ _ (by omega)
theorem JpT {l:List Cal} (h:Asc l) :∀(a b:Int),(∀x∈l,a≤x.client∧x.client≤b)→(l.length:Int)≤b-a+1∨l=[]:=by
 induction l with
 | nil=>intro a b _;exact .inr rfl
 | cons x l ih =>
  intro a b hb;left;rw[Asc,List.pairwise_cons] at h;have hx:=hb x (List.mem_cons_self ..);rcases ih h.2 (x.client+1) b (fun y hy=>⟨by have:=h.1 y hy;omega,(hb y (List.mem_cons_of_mem _ hy)).2⟩) with q | q
  ·simp only[List.length_cons];omega
  ·subst q;simp only[List.length_cons,List.length_nil];omega
theorem VK {p:Pln} {l:List Cal} (hp:JL p=true) (h :∀x∈l,Jl p x=true) (ha:Asc l):l.length≤4:=by
 have hn:=J9 hp;rcases JpT ha 0 (p.n-1) (fun x hx=>(Qf.1 (h x hx)).1) with q | q
 ·omega
 ·subst q;simp
def Q3 (x:Cal):List Cal→List Cal
 | []=>[x]
 | y::l=>if x.client≤y.client then(if y.client=x.client then(if x.seq<y.seq then y::l else x::l) else x::y::l) else y::Q3 x l
theorem Jbm {x z:Cal} {l:List Cal} (h:z∈Q3 x l):z=x∨z∈l:=by
 induction l with
 | nil=>simp only[Q3,JuV] at h;exact .inl h
 | cons y l ih =>
  unfold Q3 at h;split at h
  ·split at h
   ·split at h
    ·exact .inr h
    ·rcases JuW.1 h with q | q
     ·exact .inl q
     ·exact .inr (List.mem_cons_of_mem _ q)
   ·rcases JuW.1 h with q | q
    ·exact .inl q
    ·exact .inr q
  ·rcases JuW.1 h with q | q
   ·exact .inr (by rw[q];exact List.mem_cons_self ..)
   ·rcases ih q with q | q
    ·exact .inl q
    ·exact .inr (List.mem_cons_of_mem _ q)
theorem JmK {x:Cal} {l:List Cal} (h:Asc l):Asc (Q3 x l):=by
 induction l with
 | nil=>simp[Q3,Asc]
 | cons y l ih =>
  rw[Asc,List.pairwise_cons] at h;unfold Q3;split
  ·split
   ·split
    ·exact List.pairwise_cons.2 h
    ·rename_i e _;exact List.pairwise_cons.2 ⟨fun z hz=>by have:=h.1 z hz;omega,h.2⟩
   ·rename_i e1 e2;refine List.pairwise_cons.2 ⟨fun z hz=>?_,List.pairwise_cons.2 h⟩;rcases JuW.1 hz with q | q
    ·subst q;omega
    ·have:=h.1 z q;omega
  ·rename_i e;refine List.pairwise_cons.2 ⟨fun z hz=>?_,ih h.2⟩;rcases Jbm hz with q | q
   ·subst q;omega
   ·exact h.1 z q
theorem Jg9 (l:List Cal) (x:Cal):dCs l++[x.g]=dCs (l++[x]):=by simp[dCs]
theorem Jjy {x y:Cal} {l:List Cal} (h:x.client≤y.client):Q3 x (y::l)=if y.client=x.client then(if x.seq<y.seq then y::l else x::l) else x::y::l:=by rw[Q3,if_pos h]
theorem VN (l : List Cal) (x : Cal) (hl : Wd YL l) (hx : YL x) : Ev L f_k2i ([.s (dCs l)] ++ x.cells) [.s (dCs (Q3 x l))] := by
  refine JuA (vs:=[.l (dCs l),.i x.client,.i x.seq,.i x.act,.l (dL x.args)]) L_k2i rfl ?_
  have hl0:=hl.1
  refine Jui l.length (fun i vs=>∃ (out:List Cal) (b:Bool),vs=[.l (dCs out),.b b,.i i]∧out.length≤i+1∧(if b then out++l.drop i=Q3 x l else out=l.take i∧Q3 x l=l.take i++Q3 x (l.drop i))) rfl ⟨[],false,rfl,by simp,by simp⟩ ?_
  rintro i vs hi ⟨out,b,rfl,hol,hq⟩
  simp only[sC,sN]
  have app :∀y:Cal,dCs out++[.g [dI y.client,dI y.seq,dI y.act,.s (dL y.args)]]=dCs (out++[y]):=fun y=>Jg9 out y
  have app2 :∀y z:Cal,dCs out++[.g [dI y.client,dI y.seq,dI y.act,.s (dL y.args)]]++[.g [dI z.client,dI z.seq,dI z.act,.s (dL z.args)]]=dCs (out++[y,z]):=fun y z=>by simp[dCs,Cal.g,Cal.cells]
  refine JtY i (Xb l) rfl (fun h'=>?_) (fun h'=>Juk ?_)
  · obtain⟨y,hy,hm⟩:=sA1 h'
    have hyf:=hl.2 y hm
    have hdr:l.drop i=y::l.drop (i+1):=XF hy
    have htk:=tS1 hy
    have hw:=wS h' (by omega)
    have ix :∀{r:R} {vs:List V} {n:Nat} {Q:Oc→Prop},n=vs.length→lst (Jn vs) (.v 0)=dCs l→int (Jn vs) (.v 7)=i→WR L r (vs++[.i y.client,.i y.seq,.i y.act,.l (dL y.args)]) Q→WR L (.i (.idx (.v 0) (.v 7) (.g [.i .i64,.i .i64,.i .i64,.s]) n) r) vs Q:=fun hn h0 h7 h =>
      Juo (vs:=[.i y.client,.i y.seq,.i y.act,.l (dL y.args)]) i (mA1 (f:=Cal.g) hy) hn h0 h7 rfl h
    have ca :∀{r:R} {vs:List V} {e:E} {Q:Oc→Prop},lst (Jn vs) (.v 5)=dCs out→WR L r vs Q→WR L (.i (.chk (.cmp .le (.len (.app (.v 5) (.cons e .nil))) (.z 1466015503701))) r) vs Q:=fun h5 h =>
      Jus (dCs out) 2000001 (by rw[Xb];omega) (by omega) h5 h
    have ca2 :∀{r:R} {vs:List V} {e e2:E} {Q:Oc→Prop},lst (Jn vs) (.v 5)=dCs out→WR L r vs Q→WR L (.i (.chk (.cmp .le (.len (.app (.app (.v 5) (.cons e .nil)) (.cons e2 .nil))) (.z 1466015503701))) r) vs Q:=fun {_ vs e _ _} h5 h =>
      Jus (dCs out++[dat (Jn vs) e]) 2000002 (by rw[JuJ,Xb];simp;omega) (by omega) (by show lst (Jn vs) (.v 5)++[dat (Jn vs) e]=_;rw[h5]) h
    cases b with
    | true =>
      refine Juq rfl (ix rfl rfl rfl ?_)
      simp only[sC,sN]
      refine ca rfl ?_
      refine Jt4 (vs:=[.l (dCs (out++[y])),.b true,.i ((i+1:Nat):Int)]) ?_ ⟨h',out++[y],true,rfl,by simp;omega,?_⟩
      · rw[←app y,←hw];rfl
      · simp only[if_true] at hq ⊢
        rw[←hq,hdr];simp
    | false =>
      simp only[JuT,if_false] at hq
      obtain⟨rfl,hq⟩:=hq
      rw[hdr] at hq
      refine Jua rfl (ix rfl rfl rfl ?_)
      simp only[sC,sN]
      refine Jt8 (x.client≤y.client) rfl (fun hle=>?_) (fun hle=>?_)
      · rw[Jjy hle] at hq
        have fin2 :∀o2:List Cal,o2++l.drop (i+1)=Q3 x l→o2.length≤i+2→∃ (o3:List Cal) (b:Bool),[V.l (dCs o2),.b true,.i ((i+1:Nat):Int)]=[V.l (dCs o3),.b b,.i ((i+1:Nat):Int)]∧o3.length≤i+1+1∧(if b then o3++l.drop (i+1)=Q3 x l else o3=l.take (i+1)∧Q3 x l=l.take (i+1)++Q3 x (l.drop (i+1))) :=
          fun o2 h1 h2=>⟨o2,true,rfl,by omega,by simpa using h1⟩
        refine ix rfl rfl rfl ?_
        simp only[sC,sN]
        refine Jt8 (y.client=x.client) rfl (fun he=>?_) (fun he=>?_)
        · rw[if_pos he] at hq
          refine ix rfl rfl rfl ?_
          simp only[sC,sN]
          refine Jt8 (x.seq<y.seq) rfl (fun hs=>?_) (fun hs=>?_)
          · rw[if_pos hs] at hq
            refine ix rfl rfl rfl (ca rfl (ix rfl rfl rfl ?_))
            simp only[sC,sN]
            refine Jua (by show decide (y.client=x.client)=true;exact decide_eq_true he) ?_
            refine Jt4 (vs:=[.l (dCs (l.take i++[y])),.b true,.i ((i+1:Nat):Int)]) ?_ ⟨h',fin2 _ (by rw[hq];simp) (by simp;omega)⟩
            rw[←app y,←hw];rfl
          · rw[if_neg hs] at hq
            refine Jur (vs:=[.i x.client,.i x.seq,.i x.act,.l (dL x.args)]) (JZ x hx) rfl rfl rfl ?_
            simp only[sC,sN]
            refine ca rfl (ix rfl rfl rfl ?_)
            simp only[sC,sN]
            refine Jua (by show decide (y.client=x.client)=true;exact decide_eq_true he) ?_
            refine Jt4 (vs:=[.l (dCs (l.take i++[x])),.b true,.i ((i+1:Nat):Int)]) ?_ ⟨h',fin2 _ (by rw[hq];simp) (by simp;omega)⟩
            rw[←app x,←hw];rfl
        · rw[if_neg he] at hq
          refine Jur (vs:=[.i x.client,.i x.seq,.i x.act,.l (dL x.args)]) (JZ x hx) rfl rfl rfl ?_
          simp only[sC,sN]
          refine ca rfl (ix rfl rfl rfl ?_)
          simp only[sC,sN]
          refine Juq (by show decide (y.client=x.client)=false;exact decide_eq_false he) ?_
          refine ix rfl rfl rfl (ca2 rfl ?_)
          simp only[sC,sN]
          refine Jt4 (vs:=[.l (dCs (l.take i++[x,y])),.b true,.i ((i+1:Nat):Int)]) ?_ ⟨h',fin2 _ (by rw[hq];simp) (by simp;omega)⟩
          rw[←app2 x y,←hw];rfl
      · refine ix rfl rfl rfl (ca rfl ?_)
        simp only[sC,sN]
        refine Jt4 (vs:=[.l (dCs (l.take i++[y])),.b false,.i ((i+1:Nat):Int)]) ?_ ⟨h',l.take i++[y],false,rfl,by simp;omega,?_⟩
        · rw[←app y,←hw];rfl
        · simp only[JuT,if_false]
          rw[htk]
          refine⟨rfl,?_⟩
          rw[hq,Q3,if_neg hle];simp
  · have hd:l.drop i=[]:=List.drop_eq_nil_of_le (by omega)
    cases b with
    | true =>
      simp only[if_true,hd,List.append_nil] at hq
      subst hq
      exact Juq rfl (Jue rfl)
    | false =>
      simp only[JuT,if_false,hd] at hq
      obtain⟨rfl,hq⟩:=hq
      refine Jua rfl (Jur (vs:=[.i x.client,.i x.seq,.i x.act,.l (dL x.args)]) (JZ x hx) rfl rfl rfl ?_)
      simp only[sC,sN]
      refine Jus (dCs (l.take i)) 2000001 (by rw[Xb];omega) (by omega) rfl (Jue ?_)
      show [D.s (dCs (l.take i)++[.g [dI x.client,dI x.seq,dI x.act,.s (dL x.args)]])]=_
      rw[app x,hq];rfl
end Go.Proofs.YtofcmnglieaoeabGreatDoor

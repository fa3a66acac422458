import Derived.Test.YtofcmnglieaoeaaGreatDoorPZZD
import Derived.Test.YtofcmnglieaoeaaGreatDoorPZR
set_option linter.unusedVariables false
set_option linter.unusedSimpArgs false
/- What the clerk hears,by the reference: over residual programs. -/
namespace Go.Proofs.YtofcmnglieaoeaaGreatDoor
open Go Go.Tm
open Go.IntKind (i64)
theorem JpJ {l:Jg} (h:l.ok=true):Frm.fit l.f:=by
 by_cases h4:l.kind=4
 ·unfold Jg.ok at h;rw[if_neg (by omega),if_neg (by omega),if_neg (by omega)] at h;simp only[Jui,decide_eq_true_eq] at h;exact⟨by omega,by omega⟩
 ·have:=X5 h h4;simp only[Frm.small,Jui,Jo] at this;exact⟨by omega,by omega⟩
theorem Yn {p:Pln} (h:JC p=true):JN p:=by
 have hc:=X4 (XH h);have hg:=Qo h;have hs:=(J1 h).2.2.1;refine⟨⟨by omega,fun a ha=>?_⟩,by omega,by omega⟩;obtain⟨h1,h2⟩:=K6 (hc.2.2 a ha);exact⟨by omega,fun l hl=>JpJ (h2 l hl)⟩
theorem JlI {d:Don} (h:Xi d=true):Yr d:=by
 rcases YE.1 h with h | h
 ·unfold Yr;omega
 ·have:=(YB.1 h.2.2).2.1;unfold Yr;omega
theorem Jed {n:Int} {l:List Don} (h:JX n l=true) (h4:n≤4):Wa Yr l :=
 ⟨by have:=(JB.1 h).1;omega,fun d hd=>JlI ((JB.1 h).2 d hd)⟩
theorem JiJ {p:Pln} {b:List Int} {k:Int} {a:List Int} (h:Xz p b k a=true):a.length=3:=VR (XO.1 h).1
theorem Kq {p:Pln} {s:Sit} {k:Int} (hp:JC p=true) (h:J2 p s k=true):Qa s:=by
 obtain⟨_,h2,h3,h4⟩:=Qg.1 h;have hd:=Jed h4 (J1 hp).2.1;have:=(QH.1 h2).1;have:=JiJ h3;exact⟨by omega,by omega,hd.1,hd.2⟩
theorem Zy {p:Pln} {c:Cal} (h:Jq p c=true):Uj c:=by
 have:=(X3.1 (QY.1 h).2.2.2).1;unfold Uj;omega
theorem ZM {n:Int} {l:List Int}:Xm n l=true↔(l.length:Int)=n∧∀x∈l,0≤x∧x≤300:=by
 unfold Xm;simp only[Jui,decide_eq_true_eq,Juv,Jp]
theorem JfI {c:Cal} (h:Xj c=true):c.args.length=0:=by
 unfold Xj at h;simp only[Jui,decide_eq_true_eq] at h;exact h.2.2.2
structure JrP (p:Pln) (x:Msg):Prop where
 round:0≤x.round∧x.round≤200
 want:x.kind=1→x.to = -1∧Jq p x.call=true
 frz:x.kind=2→0≤x.to∧x.to<p.gives.length
 give:x.kind=3→x.to = -1∧(0≤x.frm∧x.frm<p.gives.length)∧x.vals.length=3∧Xm p.n x.seqs=true
 pact:x.kind=4→(0≤x.to∧x.to<p.gives.length)∧JU x.vals=true∧JX p.n x.done=true
 kind:1≤x.kind∧x.kind≤4
 fit:Qd x
theorem Ys {p:Pln} {k:Int}:QS p k=true↔0≤k∧k<p.gives.length:=by unfold QS;rw[Jp];omega
theorem Kn {x:Msg} {a v s d:Bool} (h:XM x a v s d=true):(a=false→x.call.args.length=0)∧(v=false→x.vals.length=0)∧(s=false→x.seqs.length=0)∧(d=false→x.done.length=0):=by
 unfold XM em at h;simp only[Jui,Bool.or_eq_true,decide_eq_true_eq] at h;obtain⟨h1,h2,h3,h4⟩:=h;refine⟨fun e=>?_,fun e=>?_,fun e=>?_,fun e=>?_⟩
 ·subst e;exact JfI (h1.resolve_left (by simp))
 ·subst e;exact h2.resolve_left (by simp)
 ·subst e;exact h3.resolve_left (by simp)
 ·subst e;exact h4.resolve_left (by simp)
theorem Kg {p:Pln} {x:Msg} (hp:JC p=true) (h:Jw p x=true):JrP p x:=by
 have hn:=J1 hp;have no :∀{l:List Don},l.length=0→Wa Yr l:=fun h=>by rw[List.length_eq_zero_iff.1 h];exact⟨by simp,fun d hd=>by simp at hd⟩
 unfold Jw at h;rw[Jui,Jp] at h;obtain⟨hr,h⟩:=h;split at h
 ·rename_i k;simp only[Jui,decide_eq_true_eq] at h;obtain⟨h1,h2,h3,h4,h5⟩:=h;have hb:=Kn h5;exact⟨hr,fun _=>⟨h1,h4⟩,fun e=>by omega,fun e=>by omega,fun e=>by omega,by omega,⟨Zy h4,by have:=hb.2.1 rfl;omega,by have:=hb.2.2.1 rfl;omega,no (hb.2.2.2 rfl)⟩⟩
 split at h
 ·rename_i k1 k;simp only[Jui,decide_eq_true_eq] at h;obtain⟨h1,h2,h5⟩:=h;have hb:=Kn h5;exact⟨hr,fun e=>by omega,fun _=>Ys.1 h1,fun e=>by omega,fun e=>by omega,by omega,⟨by have:=hb.1 rfl;omega,by have:=hb.2.1 rfl;omega,by have:=hb.2.2.1 rfl;omega,no (hb.2.2.2 rfl)⟩⟩
 split at h
 ·rename_i k1 k2 k;simp only[Jui,decide_eq_true_eq] at h;obtain⟨h1,h2,h3,h4,h5⟩:=h;have hb:=Kn h5;have hv:=(Jo.1 h3).1;have hq:=(ZM.1 h4).1;exact⟨hr,fun e=>by omega,fun e=>by omega,fun _=>⟨h1,Ys.1 h2,by omega,h4⟩,fun e=>by omega,by omega,⟨by have:=hb.1 rfl;omega,by omega,by omega,no (hb.2.2.2 rfl)⟩⟩
 split at h
 ·rename_i k1 k2 k3 k;simp only[Jui,decide_eq_true_eq] at h;obtain⟨h1,h2,h3,h4,h5⟩:=h;have hb:=Kn h5;have hv:=(QH.1 h3).1;exact⟨hr,fun e=>by omega,fun e=>by omega,fun e=>by omega,fun _=>⟨Ys.1 h1,h3,h4⟩,by omega,⟨by have:=hb.1 rfl;omega,by omega,by have:=hb.2.2.1 rfl;omega,Jed h4 hn.2.1⟩⟩
 ·cases h
def Asc (l:List Cal):Prop:=l.Pairwise fun a b=>a.client<b.client
theorem Jfl {p:Pln} {l:List Cal}:Q4 l.length (Wk p l)=true↔(∀x∈l,Jq p x=true)∧Asc l:=by
 rw[Zf];constructor
 ·intro h;have h1 :∀(j:Nat) (x:Cal),l[j]? = some x→Jq p x=true∧(0<j→(l.getD (j-1) ⟨0,0,0,[]⟩).client<x.client):=fun j x hx=>by
   have:=h j (Juj.1 hx).1;rw[JdN hx,Jui,Bool.or_eq_true,decide_eq_true_eq,decide_eq_true_eq] at this;exact⟨this.1,fun hj=>this.2.resolve_left (by omega)⟩
  refine⟨fun x hx=>?_,?_⟩
  ·obtain⟨j,hj⟩:=List.getElem?_of_mem hx;exact(h1 j x hj).1
  ·have step :∀(d i:Nat) (a b:Cal),l[i]? = some a→l[i+d+1]? = some b→a.client<b.client:=by
    intro d
    induction d with
    | zero =>
     intro i a b ha hb;have:=(h1 _ _ hb).2 (by omega);rw[show i+0+1-1=i by omega,QM ha] at this;exact this
    | succ d ih =>
     intro i a b ha hb;have hl:=(Juj.1 hb).1;obtain⟨y,hy,_⟩:=sA1 (l:=l) (i:=i+d+1) (by omega);have h2:=ih i a y ha hy;have h3:=(h1 _ _ hb).2 (by omega);rw[show i+(d+1)+1-1=i+d+1 by omega,QM hy] at h3;omega
   unfold Asc;rw[List.pairwise_iff_getElem];intro i j hi hj hij;exact step (j-i-1) i _ _ (Jut hi) (by rw[show i+(j-i-1)+1=j by omega];exact Jut hj)
 ·rintro⟨h1,h2⟩ j hj;obtain⟨x,hx,hm⟩:=sA1 hj;rw[JdN hx,h1 x hm,JuC,Bool.or_eq_true,decide_eq_true_eq,decide_eq_true_eq]
  by_cases h0:j=0
  ·exact .inl h0
  ·right;obtain⟨y,hy,_⟩:=sA1 (l:=l) (i:=j-1) (by omega);rw[QM hy];unfold Asc at h2;rw[List.pairwise_iff_getElem] at h2;obtain⟨hi1,rfl⟩:=Juj.1 hx;obtain⟨hi2,rfl⟩:=Juj.1 hy;exact h2 _ _ _ _ (by omega)
theorem Jpl {l:List Cal} (h:Asc l) :∀(a b:Int),(∀x∈l,a≤x.client∧x.client≤b)→(l.length:Int)≤b-a+1∨l=[]:=by
 induction l with
 | nil=>intro a b _;exact .inr rfl
 | cons x l ih =>
  intro a b hb;left;rw[Asc,List.pairwise_cons] at h;have hx:=hb x (List.mem_cons_self ..);rcases ih h.2 (x.client+1) b (fun y hy=>⟨by have:=h.1 y hy;omega,(hb y (List.mem_cons_of_mem _ hy)).2⟩) with q | q
  ·simp only[List.length_cons];omega
  ·subst q;simp only[List.length_cons,List.length_nil];omega
theorem Jbp {p:Pln} {l:List Cal} (hp:JC p=true) (h :∀x∈l,Jq p x=true) (ha:Asc l):l.length≤4:=by
 have hn:=J1 hp;rcases Jpl ha 0 (p.n-1) (fun x hx=>(QY.1 (h x hx)).1) with q | q
 ·omega
 ·subst q;simp
def YA (x:Cal):List Cal→List Cal
 | []=>[x]
 | y::l=>if x.client≤y.client then(if y.client=x.client then(if x.seq<y.seq then y::l else x::l) else x::y::l) else y::YA x l
theorem Jf8 {x z:Cal} {l:List Cal} (h:z∈YA x l):z=x∨z∈l:=by
 induction l with
 | nil=>simp only[YA,JuA] at h;exact .inl h
 | cons y l ih =>
  unfold YA at h;split at h
  ·split at h
   ·split at h
    ·exact .inr h
    ·rcases JuB.1 h with q | q
     ·exact .inl q
     ·exact .inr (List.mem_cons_of_mem _ q)
   ·rcases JuB.1 h with q | q
    ·exact .inl q
    ·exact .inr q
  ·rcases JuB.1 h with q | q
   ·exact .inr (by rw[q];exact List.mem_cons_self ..)
   ·rcases ih q with q | q
    ·exact .inl q
    ·exact .inr (List.mem_cons_of_mem _ q)
theorem Jmp {x:Cal} {l:List Cal} (h:Asc l):Asc (YA x l):=by
 induction l with
 | nil=>simp[YA,Asc]
 | cons y l ih =>
  rw[Asc,List.pairwise_cons] at h;unfold YA;split
  ·split
   ·split
    ·exact List.pairwise_cons.2 h
    ·rename_i e _;exact List.pairwise_cons.2 ⟨fun z hz=>by have:=h.1 z hz;omega,h.2⟩
   ·rename_i e1 e2;refine List.pairwise_cons.2 ⟨fun z hz=>?_,List.pairwise_cons.2 h⟩;rcases JuB.1 hz with q | q
    ·subst q;omega
    ·have:=h.1 z q;omega
  ·rename_i e;refine List.pairwise_cons.2 ⟨fun z hz=>?_,ih h.2⟩;rcases Jf8 hz with q | q
   ·subst q;omega
   ·exact h.1 z q
theorem JnK (l:List Cal) (x:Cal):dCs l++[x.g]=dCs (l++[x]):=by simp[dCs]
theorem JjL {x y:Cal} {l:List Cal} (h:x.client≤y.client):YA x (y::l)=if y.client=x.client then(if x.seq<y.seq then y::l else x::l) else x::y::l:=by rw[YA,if_pos h]
theorem Jl3 (l:List Cal) (x:Cal) (hl:Wa Uj l) (hx:Uj x):Ev L f_k2i ([.s (dCs l)]++x.cells) [.s (dCs (YA x l))]:=by
 refine Jud (vs:=[.l (dCs l),.i x.client,.i x.seq,.i x.act,.l (dL x.args)]) L_k2i rfl ?_;have hl0:=hl.1;refine JtY l.length (fun i vs=>∃ (out:List Cal) (b:Bool),vs=[.l (dCs out),.b b,.i i]∧out.length≤i+1∧(if b then out++l.drop i=YA x l else out=l.take i∧YA x l=l.take i++YA x (l.drop i))) rfl ⟨[],false,rfl,by simp,by simp⟩ ?_;rintro i vs hi ⟨out,b,rfl,hol,hq⟩;simp only[sC,sN];have app :∀y:Cal,dCs out++[.g [dI y.client,dI y.seq,dI y.act,.s (dL y.args)]]=dCs (out++[y]):=fun y=>JnK out y;have app2 :∀y z:Cal,dCs out++[.g [dI y.client,dI y.seq,dI y.act,.s (dL y.args)]]++[.g [dI z.client,dI z.seq,dI z.act,.s (dL z.args)]]=dCs (out++[y,z]):=fun y z=>by simp[dCs,Cal.g,Cal.cells]
 refine JtN i (Yj l) rfl (fun h'=>?_) (fun h'=>JtX ?_)
 ·obtain⟨y,hy,hm⟩:=sA1 h';have hyf:=hl.2 y hm;have hdr:l.drop i=y::l.drop (i+1):=XF hy;have htk:=tS1 hy;have hw:=wS h' (by omega);have ix :∀{r:R} {vs:List V} {n:Nat} {Q:Oc→Prop},n=vs.length→lst (Jm vs) (.v 0)=dCs l→int (Jm vs) (.v 7)=i→WR L r (vs++[.i y.client,.i y.seq,.i y.act,.l (dL y.args)]) Q→WR L (.i (.idx (.v 0) (.v 7) (.g [.i .i64,.i .i64,.i .i64,.s]) n) r) vs Q:=fun hn h0 h7 h =>
   Jt3 (vs:=[.i y.client,.i y.seq,.i y.act,.l (dL y.args)]) i (mA1 (f:=Cal.g) hy) hn h0 h7 rfl h
  have ca :∀{r:R} {vs:List V} {e:E} {Q:Oc→Prop},lst (Jm vs) (.v 5)=dCs out→WR L r vs Q→WR L (.i (.chk (.cmp .le (.len (.app (.v 5) (.cons e .nil))) (.z 1466015503701))) r) vs Q:=fun h5 h =>
   Juc (dCs out) 2000001 (by rw[Yj];omega) (by omega) h5 h
  have ca2 :∀{r:R} {vs:List V} {e e2:E} {Q:Oc→Prop},lst (Jm vs) (.v 5)=dCs out→WR L r vs Q→WR L (.i (.chk (.cmp .le (.len (.app (.app (.v 5) (.cons e .nil)) (.cons e2 .nil))) (.z 1466015503701))) r) vs Q:=fun {_ vs e _ _} h5 h =>
   Juc (dCs out++[dat (Jm vs) e]) 2000002 (by rw[Juo,Yj];simp;omega) (by omega) (by show lst (Jm vs) (.v 5)++[dat (Jm vs) e]=_;rw[h5]) h
  cases b with
  | true =>
   refine JtG rfl (ix rfl rfl rfl ?_);simp only[sC,sN];refine ca rfl ?_;refine JtH (vs:=[.l (dCs (out++[y])),.b true,.i ((i+1:Nat):Int)]) ?_ ⟨h',out++[y],true,rfl,by simp;omega,?_⟩
   ·rw[←app y,←hw];rfl
   ·simp only[if_true] at hq ⊢;rw[←hq,hdr];simp
  | false =>
   simp only[Juy,if_false] at hq;obtain⟨rfl,hq⟩:=hq;rw[hdr] at hq;refine Jt1 rfl (ix rfl rfl rfl ?_);simp only[sC,sN];refine Jt2 (x.client≤y.client) rfl (fun hle=>?_) (fun hle=>?_)
   ·rw[JjL hle] at hq;have fin2 :∀o2:List Cal,o2++l.drop (i+1)=YA x l→o2.length≤i+2→∃ (o3:List Cal) (b:Bool),[V.l (dCs o2),.b true,.i ((i+1:Nat):Int)]=[V.l (dCs o3),.b b,.i ((i+1:Nat):Int)]∧o3.length≤i+1+1∧(if b then o3++l.drop (i+1)=YA x l else o3=l.take (i+1)∧YA x l=l.take (i+1)++YA x (l.drop (i+1))) :=
     fun o2 h1 h2=>⟨o2,true,rfl,by omega,by simpa using h1⟩
    refine ix rfl rfl rfl ?_;simp only[sC,sN];refine Jt2 (y.client=x.client) rfl (fun he=>?_) (fun he=>?_)
    ·rw[if_pos he] at hq;refine ix rfl rfl rfl ?_;simp only[sC,sN];refine Jt2 (x.seq<y.seq) rfl (fun hs=>?_) (fun hs=>?_)
     ·rw[if_pos hs] at hq;refine ix rfl rfl rfl (ca rfl (ix rfl rfl rfl ?_));simp only[sC,sN];refine Jt1 (by show decide (y.client=x.client)=true;exact decide_eq_true he) ?_;refine JtH (vs:=[.l (dCs (l.take i++[y])),.b true,.i ((i+1:Nat):Int)]) ?_ ⟨h',fin2 _ (by rw[hq];simp) (by simp;omega)⟩;rw[←app y,←hw];rfl
     ·rw[if_neg hs] at hq;refine JtL (vs:=[.i x.client,.i x.seq,.i x.act,.l (dL x.args)]) (J0 x hx) rfl rfl rfl ?_;simp only[sC,sN];refine ca rfl (ix rfl rfl rfl ?_);simp only[sC,sN];refine Jt1 (by show decide (y.client=x.client)=true;exact decide_eq_true he) ?_;refine JtH (vs:=[.l (dCs (l.take i++[x])),.b true,.i ((i+1:Nat):Int)]) ?_ ⟨h',fin2 _ (by rw[hq];simp) (by simp;omega)⟩;rw[←app x,←hw];rfl
    ·rw[if_neg he] at hq;refine JtL (vs:=[.i x.client,.i x.seq,.i x.act,.l (dL x.args)]) (J0 x hx) rfl rfl rfl ?_;simp only[sC,sN];refine ca rfl (ix rfl rfl rfl ?_);simp only[sC,sN];refine JtG (by show decide (y.client=x.client)=false;exact decide_eq_false he) ?_;refine ix rfl rfl rfl (ca2 rfl ?_);simp only[sC,sN];refine JtH (vs:=[.l (dCs (l.take i++[x,y])),.b true,.i ((i+1:Nat):Int)]) ?_ ⟨h',fin2 _ (by rw[hq];simp) (by simp;omega)⟩;rw[←app2 x y,←hw];rfl
   ·refine ix rfl rfl rfl (ca rfl ?_);simp only[sC,sN];refine JtH (vs:=[.l (dCs (l.take i++[y])),.b false,.i ((i+1:Nat):Int)]) ?_ ⟨h',l.take i++[y],false,rfl,by simp;omega,?_⟩
    ·rw[←app y,←hw];rfl
    ·simp only[Juy,if_false];rw[htk];refine⟨rfl,?_⟩;rw[hq,YA,if_neg hle];simp
 ·have hd:l.drop i=[]:=List.drop_eq_nil_of_le (by omega);cases b with
  | true =>
   simp only[if_true,hd,List.append_nil] at hq;subst hq;exact JtG rfl (Jt9 rfl)
  | false =>
   simp only[Juy,if_false,hd] at hq;obtain⟨rfl,hq⟩:=hq;refine Jt1 rfl (JtL (vs:=[.i x.client,.i x.seq,.i x.act,.l (dL x.args)]) (J0 x hx) rfl rfl rfl ?_);simp only[sC,sN];refine Juc (dCs (l.take i)) 2000001 (by rw[Yj];omega) (by omega) rfl (Jt9 ?_);show [D.s (dCs (l.take i)++[.g [dI x.client,dI x.seq,dI x.act,.s (dL x.args)]])]=_;rw[app x,hq];rfl
/- A round's end,by the reference: over residual programs. -/
structure Yg (p:Pln) (c:Clk):Prop where
 round:0≤c.round∧c.round≤200
 base:JU c.base=true
 done:JX p.n c.done=true
 len:c.got.length=p.gives.length
 got :∀j,j<c.got.length→K5 p c.base c.got j=true
 wants :∀x∈c.wants,Jq p x=true
 asc:Asc c.wants
 down:c.up=false→c.wants=[]∧XW c.got=0
theorem Jqt {p:Pln} {c:Clk} (h:Zs p c=true):Yg p c:=by
 unfold Zs at h;simp only[Jui,decide_eq_true_eq,Bool.or_eq_true] at h;obtain⟨h1,h2,h3,⟨h4,h5⟩,h6,h7⟩:=h;obtain⟨w1,w2⟩:=Jfl.1 h6;exact⟨Jp.1 h1,h2,h3,h4,Zf.1 h5,w1,w2,fun e=>by
  rcases h7 with q | q
  ·rw[e] at q;cases q
  ·exact⟨List.length_eq_zero_iff.1 q.1,q.2⟩⟩
theorem Yg.ok {p:Pln} {c:Clk} (h:Yg p c):Zs p c=true:=by
 unfold Zs;simp only[Jui,decide_eq_true_eq,Bool.or_eq_true];refine⟨Jp.2 h.round,h.base,h.done,⟨h.len,Zf.2 h.got⟩,Jfl.2 ⟨h.wants,h.asc⟩,?_⟩;cases e:c.up with
 | true=>exact .inl rfl
 | false=>exact .inr ⟨by rw[(h.down e).1];rfl,(h.down e).2⟩
theorem Jke {p:Pln} {b:List Int} {l:List Got} {j:Nat} {g:Got} (h:K5 p b l j=true) (hg:l[j]? = some g):(g.has=true→Xz p b j g.added=true∧Xm p.n g.seqs=true)∧(g.has=false→g.added.length=0∧g.seqs.length=0):=by
 unfold K5 at h;rw[QM hg] at h;cases e:g.has with
 | true=>rw[e] at h;simp only[if_true,Jui] at h;exact⟨fun _=>h,fun q=>Bool.noConfusion q⟩
 | false=>rw[e] at h;simp only[Juy,if_false,emp,Jui,decide_eq_true_eq] at h;exact⟨fun q=>Bool.noConfusion q,fun _=>h⟩
theorem Ky {p:Pln} {c:Clk} (hp:JC p=true) (h:Yg p c):KH c:=by
 have hn:=J1 hp;have hg:=Qo hp;have hd:=Jed h.done hn.2.1;have hl:=h.len;refine⟨by have:=(QH.1 h.base).1;omega,hd.1,fun d hm=>hd.2 d hm,by have:=Jbp hp h.wants h.asc;omega,fun d hm=>Zy (h.wants d hm),by omega,fun g hm=>?_⟩;obtain⟨j,hj⟩:=List.getElem?_of_mem hm;have hi:=Jke (h.got j (Juj.1 hj).1) hj;cases e:g.has with
 | true =>
  obtain⟨a,b⟩:=hi.1 e;have:=JiJ a;have:=(ZM.1 b).1;omega
 | false=>have:=hi.2 e;omega
def Xg (b:List Int) (l:List Got):List Int:=l.foldl (fun v g=>if g.has then Qn v g.added else v) b
def dRr (l:List (Int×List Int)):List D:=l.map fun x=> .g [dI x.1,.s (dL x.2)]
structure JaK where
 done:List Don
 calls:List Cal
 list:List (Int×List Int)
 vals:List Int
def Wm (p:Pln) (c:Clk) (w:Cal):Int:=(c.got.getD (Int.tmod w.client p.gives.length).toNat X0).seqs.getD w.client.toNat 0
def Zn (p:Pln) (r:JaK) (w:Cal):Res:=ZP (p.acts.getD w.act.toNat []) r.vals w.args
def Jdf (p:Pln) (r:JaK) (w:Cal):JaK:=⟨r.done.set w.client.toNat ⟨w.seq,(Zn p r w).code,(Zn p r w).tells⟩,r.calls++[w],r.list++[((Zn p r w).code,(Zn p r w).tells)],(Zn p r w).is⟩
def Vr (p:Pln) (c:Clk) (r:JaK) (w:Cal):JaK:=if w.seq=Wm p c w+1 then Jdf p r w else r
def JS (p:Pln) (c:Clk) (l:List Cal):JaK:=l.foldl (Vr p c) ⟨c.done,[],[],Xg c.base c.got⟩
theorem Jcn (p:Pln) (c:Clk) {l:List Cal} {i:Nat} {x:Cal} (h:l[i]? = some x):JS p c (l.take (i+1))=Vr p c (JS p c (l.take i)) x:=by
 rw[tS1 h];simp[JS]
def ZO (p:Pln) (c:Clk):Bool:=decide (XW c.got=p.gives.length)&&(decide (c.round≠200)&&JU (Xg c.base c.got))
structure Jlm where
 c:Clk
 calls:List Cal
 list:List (Int×List Int)
def JbW (p:Pln) (c:Clk):Jlm :=
 if ZO p c then ⟨⟨c.up,c.round+1,(JS p c c.wants).vals,(JS p c c.wants).done,[],List.replicate p.gives.length X0⟩,(JS p c c.wants).calls,(JS p c c.wants).list⟩ else ⟨c,[],[]⟩
def Jlm.ds (r:Jlm):List D:=r.c.cells++[.s (dCs r.calls),.s (dRr r.list)]
theorem Jk2 {p:Pln} {c:Clk} (h:ZO p c=false):JbW p c=⟨c,[],[]⟩:=by unfold JbW;rw[h];rfl
theorem Jh1 {p:Pln} {c:Clk} (h:ZO p c=true):JbW p c=⟨⟨c.up,c.round+1,(JS p c c.wants).vals,(JS p c c.wants).done,[],List.replicate p.gives.length X0⟩,(JS p c c.wants).calls,(JS p c c.wants).list⟩:=by unfold JbW;rw[if_pos h]
structure Jap (p:Pln) (i:Nat) (r:JaK):Prop where
 done:JX p.n r.done=true
 vals:JU r.vals=true
 calls :∀x∈r.calls,Jq p x=true
 list :∀x∈r.list,JL x.1 x.2=true
 cl:r.calls.length≤i
 ll:r.list.length=r.calls.length
theorem run_ok {p:Pln} {r:JaK} {w:Cal} (hp:JC p=true) (hv:JU r.vals=true) (hw:Jq p w=true):JU (Zn p r w).is=true∧JL (Zn p r w).code (Zn p r w).tells=true∧(Zn p r w).code≠0:=by
 obtain⟨_,_,h3,h4⟩:=QY.1 hw;obtain⟨hm,_⟩:=Jav (as:=p.acts) h3.1 (by omega);have hf:=Ji5 ((X4 (XH hp)).2.2 _ hm) hv h4;unfold Zn;generalize ZP (p.acts.getD w.act.toNat []) r.vals w.args=R at *;rcases hf with ⟨a,b,c,d⟩ | ⟨a,b,c⟩
 ·exact⟨b,YB.2 ⟨by omega,c,.inl a,d⟩,by omega⟩
 ·exact⟨by rw[a];exact hv,YB.2 ⟨by omega,by rw[b];simp,.inr b,by rw[b];intro x hx;simp at hx⟩,by omega⟩
theorem Jap.step {p:Pln} {c:Clk} {i:Nat} {r:JaK} {w:Cal} (hp:JC p=true) (h:Jap p i r) (hw:Jq p w=true):Jap p (i+1) (Vr p c r w):=by
 unfold Vr;split
 ·obtain⟨r1,r2,r3⟩:=run_ok hp h.vals hw;have hs:=(QY.1 hw).2.1;refine⟨Jdo h.done _ (YE.2 (.inr ⟨hs.1,hs.2,r2⟩)),r1,fun x hx=>?_,fun x hx=>?_,by simp only[Jdf,Juo,List.length_singleton];have:=h.cl;omega,by simp only[Jdf,Juo,List.length_singleton];have:=h.ll;omega⟩
  ·rcases Jun.1 hx with q | q
   ·exact h.calls x q
   ·simp only[JuA] at q;subst q;exact hw
  ·rcases Jun.1 hx with q | q
   ·exact h.list x q
   ·simp only[JuA] at q;subst q;exact r2
 ·exact⟨h.done,h.vals,h.calls,h.list,by have:=h.cl;omega,h.ll⟩
theorem JbZ {p:Pln} {c:Clk} (hp:JC p=true) (hc:Yg p c) (hv:JU (Xg c.base c.got)=true) :∀i,i≤c.wants.length→Jap p i (JS p c (c.wants.take i)):=by
 intro i
 induction i with
 | zero=>intro _;exact⟨hc.done,hv,fun x hx=>by simp[JS] at hx,fun x hx=>by simp[JS] at hx,by simp[JS],by simp[JS]⟩
 | succ i ih =>
  intro hi;obtain⟨x,hx,hm⟩:=sA1 (l:=c.wants) (i:=i) (by omega);rw[Jcn p c hx];exact(ih (by omega)).step hp (hc.wants x hm)
theorem JhS (p:Pln) (b:List Int) (n j:Nat):K5 p b (List.replicate n X0) j=true:=by
 unfold K5;have:(List.replicate n X0).getD j X0=X0:=by
  rw[Jul,List.getElem?_replicate];split <;> rfl
 rw[this];rfl
theorem Ji8 (n:Nat):XW (List.replicate n X0)=0:=by
 unfold XW;rw[List.length_eq_zero_iff,List.filter_eq_nil_iff];intro x hx;rw[(List.mem_replicate.1 hx).2];simp[X0]
structure Jq0 (p:Pln) (c:Clk) (r:Jlm):Prop where
 c:Yg p r.c
 calls :∀x∈r.calls,Jq p x=true
 list :∀x∈r.list,JL x.1 x.2=true
 len:r.list.length=r.calls.length
 four:r.calls.length≤4
theorem JpF {p:Pln} {c:Clk} (hp:JC p=true) (hc:Yg p c):Jq0 p c (JbW p c):=by
 cases h:ZO p c with
 | false=>rw[Jk2 h];exact⟨hc,fun x hx=>by simp at hx,fun x hx=>by simp at hx,rfl,by simp⟩
 | true =>
  rw[Jh1 h];unfold ZO at h;simp only[Jui,decide_eq_true_eq] at h;obtain⟨h1,h2,h3⟩:=h;have hf:=JbZ hp hc h3 c.wants.length (Nat.le_refl _);rw[List.take_length] at hf;have hw:=Jbp hp hc.wants hc.asc;have hr:=hc.round;exact⟨⟨by show 0≤c.round+1∧c.round+1≤200;omega,hf.vals,hf.done,by simp,fun j _=>JhS ..,fun x hx=>by simp at hx,List.Pairwise.nil,fun _=>⟨rfl,Ji8 _⟩⟩,hf.calls,hf.list,hf.ll,by have:=hf.cl;show (JS p c c.wants).calls.length≤4;omega⟩
theorem Jhs {b:List Int} {l:List Got} {i:Nat} {x:Got} (h:l[i]? = some x):Xg b (l.take (i+1))=if x.has then Qn (Xg b (l.take i)) x.added else Xg b (l.take i):=by
 rw[tS1 h];simp[Xg]
theorem Jq2 {p:Pln} {c:Clk} {x:Cal} (hp:JC p=true) (hc:Yg p c) (hall:XW c.got=p.gives.length) (hx:Jq p x=true) :
  ∃ g:Got,(0≤Int.tmod x.client p.gives.length)∧c.got[(Int.tmod x.client p.gives.length).toNat]? = some g∧g.seqs[x.client.toNat]? = some (Wm p c x)∧(0≤Wm p c x∧Wm p c x≤300):=by
 have hg:=Qo hp;obtain⟨h1,_⟩:=QY.1 hx;have t0:0≤Int.tmod x.client p.gives.length:=Int.tmod_nonneg _ h1.1;have t1:Int.tmod x.client p.gives.length<p.gives.length:=Int.tmod_lt_of_pos _ (by omega);obtain⟨g,hgg,hm⟩:=sA1 (l:=c.got) (i:=(Int.tmod x.client p.gives.length).toNat) (by have:=hc.len;omega);have hhas:g.has=true:=by
  have:=Jn0 c.got;rw[hall,←hc.len,decide_eq_true rfl,Juv] at this;exact this g hm
 obtain⟨_,hsq⟩:=(Jke (hc.got _ (Juj.1 hgg).1) hgg).1 hhas;obtain⟨q1,q2⟩:=ZM.1 hsq;obtain⟨v,hv,hvm⟩:=sA1 (l:=g.seqs) (i:=x.client.toNat) (by omega);have e:Wm p c x=v:=by unfold Wm;rw[QM hgg,QM hv]
 rw[e];exact⟨g,t0,hgg,hv,q2 v hvm⟩
theorem JlZ (p:Pln) (c:Clk) (hp:JC p=true) (hc:Yg p c):Ev L f_k2l (p.cells++c.cells) (JbW p c).ds:=by
 refine Jud (vs:=[.i p.n,.l (Je p.acts),.l (dL p.gives),.l (dL p.start),.b c.up,.i c.round,.l (dL c.base),.l (dDs c.done),.l (dCs c.wants),.l (dGs c.got)]) L_k2l rfl ?_;have hpf:=Yn hp;have hcf:=Ky hp hc;have hg:=Qo hp;have hn:=J1 hp;have hb:=QH.1 hc.base;have hw4:=Jbp hp hc.wants hc.asc;refine JtL (vs:=[.b c.up,.i c.round,.l (dL c.base),.l (dDs c.done),.l (dCs c.wants),.l (dGs c.got)]) (V0 c hcf) rfl rfl rfl ?_;simp only[sC,sN];refine JtM (dL c.base) 2000000 (by rw[dL1];omega) (by omega) rfl ?_;refine JtS (JR c.base) ?_;refine JtM (dL c.base) 2000000 (by rw[dL1];omega) (by omega) rfl ?_;refine Jt5 c.got.length (fun i=>[.l (dL (Xg c.base (c.got.take i))),.i i]) (fun i=>(Xg c.base (c.got.take i)).length=3∧Lim (10000+20000*(i:Int)) (Xg c.base (c.got.take i))) rfl rfl ⟨by simp[Xg];omega,by simpa[Xg] using hb.2⟩ fun i hi hq=>?_;simp only[sC,sN];refine JtN i (Ul c.got) rfl (fun h'=>?_) (fun h'=>JtX ?_)
 ·obtain⟨x,hx,hm⟩:=sA1 h';have hs:=Jhs (b:=c.base) hx;have hin:=Jke (hc.got i h') hx;refine Jt3 (vs:=[.b x.has,.l (dL x.added),.l (dL x.seqs)]) i (mA1 (f:=Got.g) hx) rfl rfl rfl rfl ?_;simp only[sC,sN];refine Jua x.has rfl (fun hh=>?_) (fun hh=>?_)
  ·have hk:=XO.1 (hin.1 hh).1;have ha:=(Zx (Xu hk.1)).2.2.2.2.2.1;refine Jt3 (vs:=[.b x.has,.l (dL x.added),.l (dL x.seqs)]) i (mA1 (f:=Got.g) hx) rfl rfl rfl rfl ?_;simp only[sC,sN];have hl3:=hc.len;refine JtL (vs:=[.l (dL (Qn (Xg c.base (c.got.take i)) x.added))]) (Jde hq.1 ha.1 (hq.2.mono (by omega)) (ha.2.mono (by omega))) rfl rfl rfl ?_;rw[hh] at hs;simp only[if_true] at hs;refine JtH (vs:=[.l (dL (Xg c.base (c.got.take (i+1)))),.i ((i+1:Nat):Int)]) ?_ ⟨h',rfl,?_⟩
   ·rw[hs,←wS h' (by omega)];rfl
   ·show (Xg c.base (c.got.take (i+1))).length=3∧Lim (10000+20000*((i+1:Nat):Int)) (Xg c.base (c.got.take (i+1)));rw[hs];refine⟨by rw[ZU (by omega)];exact hq.1,?_⟩;have:=Jir hq.2 ha.2;rw[show (10000+20000*(i:Int))+20000=10000+20000*((i+1:Nat):Int) by omega] at this;exact this
  ·rw[hh] at hs;simp only[Juy,if_false] at hs;have hl3:=hc.len;refine JtH (vs:=[.l (dL (Xg c.base (c.got.take (i+1)))),.i ((i+1:Nat):Int)]) ?_ ⟨h',rfl,?_⟩
   ·rw[hs,←wS h' (by omega)];rfl
   ·show (Xg c.base (c.got.take (i+1))).length=3∧Lim (10000+20000*((i+1:Nat):Int)) (Xg c.base (c.got.take (i+1)));rw[hs];exact⟨hq.1,hq.2.mono (by omega)⟩
 rw[tA1 h'] at hq ⊢;have hq3:=hq.1;clear hq h' hi;have hhn:=Jlo c.got;have hl:=hc.len;refine JtL (JeC c hcf.g) rfl rfl rfl ?_;simp only[sC,sN];have bad :∀q,ZO p c=false→q=c.cells++[D.s [],D.s []]→q=(JbW p c).ds:=fun q h e=>by rw[Jk2 h,e];rfl
 refine Jt2 ((XW c.got:Int)<(p.gives.length:Int)) (by show decide ((XW c.got:Int)<((dL p.gives).length:Int))=_;rw[dL1]) (fun h=>Jt9 (bad _ (by unfold ZO;rw[decide_eq_false (show ¬XW c.got=p.gives.length by omega)];rfl) rfl)) (fun h=>?_);have hall:XW c.got=p.gives.length:=by omega
 refine Jt2 (c.round=200) rfl (fun h=>Jt9 (bad _ (by unfold ZO;rw[h];simp) rfl)) (fun h2=>?_);refine JtL (Y2 (Xg c.base c.got) (by rw[hq3];omega)) rfl rfl rfl ?_;simp only[sC,sN];refine JtI (JU (Xg c.base c.got)) rfl (fun h=>Jt9 (bad _ (by unfold ZO;rw[h];simp) rfl)) (fun h3=>?_);have hgo:ZO p c=true:=by unfold ZO;rw[hall,h3,decide_eq_true rfl,decide_eq_true h2];rfl
 rw[Jh1 hgo];refine Jt5 c.wants.length (fun i=>[.l (dDs (JS p c (c.wants.take i)).done),.l (dCs (JS p c (c.wants.take i)).calls),.l (dRr (JS p c (c.wants.take i)).list),.l (dL (JS p c (c.wants.take i)).vals),.i i]) (fun _=>True) rfl rfl trivial fun i hi _=>?_;simp only[sC,sN];have hf:=JbZ hp hc h3 i hi;refine JtN i (Yj c.wants) rfl (fun h'=>?_) (fun h'=>JtX ?_)
 ·obtain⟨x,hx,hm⟩:=sA1 h';have hs:=Jcn p c hx;have hxo:=hc.wants x hm;obtain⟨g,t0,hgg,hsq,hsr⟩:=Jq2 hp hc hall hxo;obtain⟨c1,c2,c3,c4⟩:=QY.1 hxo;refine Jt3 (vs:=[.i x.client,.i x.seq,.i x.act,.l (dL x.args)]) i (mA1 (f:=Cal.g) hx) rfl rfl rfl rfl ?_;simp only[sC,sN];refine Jt0 (by show (!decide (((dL p.gives).length:Int)=0))=true;rw[dL1,Bool.not_eq_true',decide_eq_false_iff_not];omega) ?_;refine JtJ (ds:=dGs c.got) (d:=g.g) (vs:=[.b g.has,.l (dL g.added),.l (dL g.seqs)]) (Int.tmod x.client p.gives.length) rfl rfl (by show Int.tmod x.client ((dL p.gives).length:Int)=_;rw[dL1]) t0 (mA1 (f:=Got.g) hgg) rfl ?_;simp only[sC,sN];refine JtJ (ds:=dL g.seqs) (d:=dI (Wm p c x)) (vs:=[.i (Wm p c x)]) x.client rfl rfl rfl c1.1 (mA1 (f:=dI) hsq) rfl ?_;simp only[sC,sN];have hstep:Vr p c (JS p c (c.wants.take i)) x=if x.seq=Wm p c x+1 then Jdf p (JS p c (c.wants.take i)) x else JS p c (c.wants.take i):=rfl;rw[hstep] at hs;generalize JS p c (c.wants.take i)=r at *;generalize Wm p c x=sq at *;have hw:i64.wrap ((i:Int)+1)=((i+1:Nat):Int):=wS h' (by omega);refine Jt2 (x.seq=sq+1) (by show decide (x.seq=i64.wrap (sq+1))=_;rw[w64 (by omega) (by omega)]) (fun he=>?_) (fun he=>?_)
  ·rw[if_pos he] at hs;obtain⟨hma,hka⟩:=Jav (as:=p.acts) c3.1 (by omega);obtain⟨r1,r2,r3⟩:=run_ok hp hf.vals hxo;have hrun:=Jj8 (p.acts.getD x.act.toNat []) r.vals x.args (hpf.1.2 _ hma) (by have:=(QH.1 hf.vals).1;omega) (by have:=(X3.1 c4).1;omega);have ero:ZP (p.acts.getD x.act.toNat []) r.vals x.args=Zn p r x:=rfl;rw[ero] at hrun;have hdl:Jdf p r x=⟨r.done.set x.client.toNat ⟨x.seq,(Zn p r x).code,(Zn p r x).tells⟩,r.calls++[x],r.list++[((Zn p r x).code,(Zn p r x).tells)],(Zn p r x).is⟩:=rfl;rw[hdl] at hs;generalize Zn p r x=R at *;have htl:R.tells.length≤2000000:=by have:=(YB.1 r2).2.1;omega
   refine JtJ (ds:=Je p.acts) (d:= .s (Jk (p.acts.getD x.act.toNat []))) (vs:=[.l (Jk (p.acts.getD x.act.toNat []))]) x.act rfl rfl rfl c3.1 (mA1 (f:=fun a=>D.s (Jk a)) hka) rfl ?_;simp only[sC,sN];refine JtL (vs:=[.i R.code,.l (dL R.tells),.l (dL R.is)]) hrun rfl rfl rfl ?_;simp only[sC,sN];refine JtL (vs:=[.i R.code,.l (dL R.tells)]) (Qf R.code R.tells htl) rfl rfl rfl ?_;simp only[sC,sN];obtain⟨d1,d2⟩:=JB.1 hf.done;obtain⟨y,hy,hym⟩:=sA1 (l:=r.done) (i:=x.client.toNat) (by omega);refine JtF (0≤x.client) rfl c1.1 ?_;refine JtF (x.client<(r.done.length:Int)) (by show decide (x.client<((dDs r.done).length:Int))=_;rw[Qv]) (by omega) ?_;refine JtJ (ds:=dDs r.done) (d:=y.g) (vs:=[.i y.seq,.i y.code,.l (dL y.tells)]) x.client rfl rfl rfl c1.1 (mA1 (f:=Don.g) hy) rfl ?_;simp only[sC,sN];refine JtL (vs:=[.i x.client,.i x.seq,.i x.act,.l (dL x.args)]) (J0 x (Zy hxo)) rfl rfl rfl ?_;simp only[sC,sN];have hcl:=hf.cl;have hll:=hf.ll;refine Juc (dCs r.calls) 2000000 (by rw[Yj];omega) (by omega) rfl ?_;refine JtL (vs:=[.i R.code,.l (dL R.tells)]) (Qf R.code R.tells htl) rfl rfl rfl ?_;simp only[sC,sN];refine Juc (dRr r.list) 2000000 (by rw[show (dRr r.list).length=r.list.length from Jur ..];omega) (by omega) rfl ?_;refine JtH (vs:=[.l (dDs (JS p c (c.wants.take (i+1))).done),.l (dCs (JS p c (c.wants.take (i+1))).calls),.l (dRr (JS p c (c.wants.take (i+1))).list),.l (dL (JS p c (c.wants.take (i+1))).vals),.i ((i+1:Nat):Int)]) ?_ ⟨h',rfl,trivial⟩;rw[hs];show [V.l ((dDs r.done).set x.client.toNat (.g [dI x.seq,dI R.code,.s (dL R.tells)])),V.l (dCs r.calls++[.g [dI x.client,dI x.seq,dI x.act,.s (dL x.args)]]),V.l (dRr r.list++[.g [dI R.code,.s (dL R.tells)]]),V.l (dL R.is),V.i (i64.wrap ((i:Int)+1))]=_
   rw[hw];simp only[dDs,dCs,dRr,List.map_set,List.map_append,Juq,List.map_nil];rfl
  ·rw[if_neg he] at hs;refine JtH (vs:=[.l (dDs (JS p c (c.wants.take (i+1))).done),.l (dCs (JS p c (c.wants.take (i+1))).calls),.l (dRr (JS p c (c.wants.take (i+1))).list),.l (dL (JS p c (c.wants.take (i+1))).vals),.i ((i+1:Nat):Int)]) ?_ ⟨h',rfl,trivial⟩;rw[hs];show [V.l (dDs r.done),V.l (dCs r.calls),V.l (dRr r.list),V.l (dL r.vals),V.i (i64.wrap ((i:Int)+1))]=_;rw[hw]
 ·rw[tA1 h'] at hf ⊢;have hr:=hc.round;refine JtL (Jba p hpf.2.1) rfl rfl rfl (Jt9 ?_);generalize JS p c c.wants=r at *;show [dB c.up,dI (i64.wrap (c.round+1)),.s (dL r.vals),.s (dDs r.done),.s [],.s (dGs (List.replicate p.gives.length X0)),.s (dCs r.calls),D.s (dRr r.list)]=_;rw[w64 (by omega) (by omega)];rfl
/- What is heard,where all is ok,by the reference: over residual programs. -/
theorem Jb5 {p:Pln} {b:List Int} {k:Int} (h:JC p=true) (hb:JU b=true) (hk:0≤k∧k<p.gives.length):Xz p b k [0,0,0]=true:=by
 have ht:Qr b p.gives=true:=by
  have:=(J1 h).2.2.2;unfold Qr at this ⊢;simp only[Jui] at this ⊢;exact⟨⟨hb,this.1.2⟩,this.2⟩
 refine XO.2 ⟨JhO (Jme p.acts) ht hk,?_⟩;unfold Qe;rw[Juv];rintro⟨x,q⟩ hq;have hx:x∈[(0:Int),0,0]:=(List.of_mem_zip hq).1;have:x=0:=by simpa using hx
 subst this;simp
theorem Jdg {x:Msg} {a v s d:Bool} (h1:a=true∨x.call=⟨0,0,0,[]⟩) (h2:v=true∨x.vals=[]) (h3:s=true∨x.seqs=[]) (h4:d=true∨x.done=[]):XM x a v s d=true:=by
 unfold XM em;simp only[Jui,Bool.or_eq_true,decide_eq_true_eq];exact⟨h1.imp_right fun e=>by rw[e];rfl,h2.imp_right fun e=>by rw[e];rfl,h3.imp_right fun e=>by rw[e];rfl,h4.imp_right fun e=>by rw[e];rfl⟩
theorem Jma {p:Pln} {x:Msg} (hr:0≤x.round∧x.round≤200) (h:x.kind=2) (ht:0≤x.to∧x.to<p.gives.length) (hf:x.frm=0) (hb:XM x false false false false=true):Jw p x=true:=by
 unfold Jw;rw[Jp.2 hr,if_neg (by omega),if_pos h,Ys.2 ht,hf,hb];rfl
theorem Jkc {p:Pln} {x:Msg} (hr:0≤x.round∧x.round≤200) (h:x.kind=3) (ht:x.to = -1) (hf:0≤x.frm∧x.frm<p.gives.length) (hv:JG 3 20000 x.vals=true) (hs:Xm p.n x.seqs=true) (hb:XM x false true true false=true):Jw p x=true:=by
 unfold Jw;rw[Jp.2 hr,if_neg (by omega),if_neg (by omega),if_pos h,Ys.2 hf,ht,hv,hs,hb];rfl
theorem Jki {p:Pln} {x:Msg} (hr:0≤x.round∧x.round≤200) (h:x.kind=4) (ht:0≤x.to∧x.to<p.gives.length) (hf:x.frm=0) (hv:JU x.vals=true) (hd:JX p.n x.done=true) (hb:XM x false true false true=true):Jw p x=true:=by
 unfold Jw;rw[Jp.2 hr,if_neg (by omega),if_neg (by omega),if_neg (by omega),if_pos h,Ys.2 ht,hf,hv,hd,hb];rfl
theorem JlL {p:Pln} {s:Sit} {k:Int} (hs:J2 p s k=true) (hk:0≤k∧k<p.gives.length):Jw p (JJ s k)=true:=by
 obtain⟨h1,h2,h3,h4⟩:=Qg.1 hs;have ha:=(Zx (Xu (XO.1 h3).1)).2.2.2.1;obtain⟨d1,d2⟩:=JB.1 h4;refine Jkc h1 rfl rfl hk ha (ZM.2 ⟨by simp only[JJ,QV,Jur];exact d1,fun x hx=>?_⟩) (Jdg (.inr rfl) (.inl rfl) (.inl rfl) (.inr rfl));simp only[JJ,QV,List.mem_map] at hx;obtain⟨d,hd,rfl⟩:=hx;rcases YE.1 (d2 d hd) with q | q <;> omega
theorem JpL {p:Pln} {s:Sit} {k:Int} {m:Msg} (hp:JC p=true) (hs:J2 p s k=true) (hk:0≤k∧k<p.gives.length) (hm:Jw p m=true) :
  J2 p (Xv p s k m) k=true∧(∀x∈Xw s k m,Jw p x=true)∧(Xw s k m).length≤1:=by
 have hi:=Kg hp hm;obtain⟨s1,s2,s3,s4⟩:=Qg.1 hs;refine⟨?_,?_,?_⟩
 ·unfold Xv;split
  ·split
   ·exact Qg.2 ⟨s1,s2,s3,s4⟩
   ·split
    ·rename_i h4;obtain⟨p1,p2,p3⟩:=hi.pact h4.1;refine Qg.2 ⟨hi.round,p2,Jb5 hp p2 hk,JB.2 ⟨by rw[ZK];exact(JB.1 s4).1,fun d hd=>?_⟩⟩;rcases JeW (by have:=(JB.1 s4).1;have:=(JB.1 p3).1;omega) hd with q | q
     ·exact(JB.1 s4).2 d q
     ·exact(JB.1 p3).2 d q
    ·exact hs
  ·exact hs
 ·unfold Xw;split
  ·intro x hx;simp only[JuA] at hx;subst hx;exact JlL hs hk
  ·intro x hx;simp at hx
 ·unfold Xw;split <;> simp
theorem Jp3 {p:Pln} {c:Clk} (hc:Yg p c) {i:Nat} (hi:i<p.gives.length):Jw p (Jjn c i)=true :=
 Jki hc.round rfl (by show (0:Int)≤(i:Int)∧(i:Int)<(p.gives.length:Int);omega) rfl hc.base hc.done (Jdg (.inr rfl) (.inl rfl) (.inr rfl) (.inl rfl))
theorem Jqu {p:Pln} {c:Clk} (hc:Yg p c) {i:Nat} (hi:i<p.gives.length):Jw p (Jpr c i)=true :=
 Jma hc.round rfl (by show (0:Int)≤(i:Int)∧(i:Int)<(p.gives.length:Int);omega) rfl (Jdg (.inr rfl) (.inr rfl) (.inr rfl) (.inr rfl))
theorem Jee {p:Pln} {c:Clk} (hc:Yg p c) {n:Nat} (hn:n≤p.gives.length) :∀x∈Xx c n,Jw p x=true:=by
 intro x hx;simp only[Xx,List.mem_map,List.mem_range] at hx;obtain⟨i,hi,rfl⟩:=hx;exact Jp3 hc (by omega)
theorem Jpk {p:Pln} {c:Clk} (hc:Yg p c):(∀x∈JbL c,Jw p x=true)∧(JbL c).length≤2*p.gives.length:=by
 have hl:=hc.len;have hf :∀x∈YW c c.got.length,Jw p x=true:=fun x hx=>by
  simp only[YW,List.mem_map,List.mem_range] at hx;obtain⟨i,hi,rfl⟩:=hx;exact Jqu hc (by omega)
 unfold JbL;split
 ·split
  ·refine⟨fun x hx=>?_,by rw[Juo,Z5,Jff];omega⟩;rcases Jun.1 hx with q | q
   ·exact Jee hc (by omega) x q
   ·exact hf x q
  ·exact⟨Jee hc (by omega),by rw[Z5];omega⟩
 ·exact⟨fun x hx=>by simp at hx,by simp⟩
theorem Jp5 {p:Pln} {c:Clk} (hc:Yg p c) (u:Bool):Yg p (Kr c u):=by
 unfold Kr;split
 ·exact hc
 ·exact⟨hc.round,hc.base,hc.done,by show (List.replicate c.got.length X0).length=_;rw[List.length_replicate];exact hc.len,fun j _=>JhS ..,fun x hx=>by simp at hx,List.Pairwise.nil,fun _=>⟨rfl,Ji8 _⟩⟩
structure JkD (p:Pln) (c:Clk) (ms:List Msg) (cs:List Cal) (ls:List (Int×List Int)):Prop where
 c:Yg p c
 hm :∀x∈ms,Jw p x=true
 hc :∀x∈cs,Jq p x=true
 hl :∀x∈ls,JL x.1 x.2=true
 len:ls.length=cs.length
 four:cs.length≤4
 three:ms.length≤3
theorem JmW (p:Pln) (c:Clk) (m:Msg) (hp:JC p=true) (hc:Yg p c) (hm:Jw p m=true) :
  ∃ c' ms cs ls,Ev L f_k2o (p.cells++[.s (dLL (Jb p.acts)),.s (dBl (Jj p.acts))]++c.cells++m.cells) (c'.cells++[.s (dMs ms),.s (dCs cs),.s (dRr ls)])∧JkD p c' ms cs ls:=by
 have key : ∃ ds,Ev L f_k2o (p.cells++[.s (dLL (Jb p.acts)),.s (dBl (Jj p.acts))]++c.cells++m.cells) ds∧∃ c' ms cs ls,ds=c'.cells++[.s (dMs ms),.s (dCs cs),.s (dRr ls)]∧JkD p c' ms cs ls:=by
  refine Jue (vs:=[.i p.n,.l (Je p.acts),.l (dL p.gives),.l (dL p.start),.l (dLL (Jb p.acts)),.l (dBl (Jj p.acts)),.b c.up,.i c.round,.l (dL c.base),.l (dDs c.done),.l (dCs c.wants),.l (dGs c.got),.i m.kind,.i m.to,.i m.frm,.i m.round,.i m.call.client,.i m.call.seq,.i m.call.act,.l (dL m.call.args),.l (dL m.vals),.l (dL m.seqs),.l (dDs m.done)]) L_k2o rfl ?_;have hpf:=Yn hp;have hcf:=Ky hp hc;have hi:=Kg hp hm;have hfm:=hi.fit;have hca:=XH hp;have hl:=hc.len;have hps:fitLL (Jb p.acts):=(Xc p.acts).fitLL (by omega);have same : ∃ c' ms cs ls,c.cells++[D.s [],D.s [],D.s []]=c'.cells++[.s (dMs ms),.s (dCs cs),.s (dRr ls)]∧JkD p c' ms cs ls :=
   ⟨c,[],[],[],rfl,hc,fun x h=>by simp at h,fun x h=>by simp at h,fun x h=>by simp at h,rfl,by simp,by simp⟩
  refine JtL (vs:=[.b c.up,.i c.round,.l (dL c.base),.l (dDs c.done),.l (dCs c.wants),.l (dGs c.got)]) (V0 c hcf) rfl rfl rfl ?_;simp only[sC,sN];refine JtI c.up rfl (fun _=>Jt9 same) (fun a=>?_);refine JtI (decide (m.to = -1)) rfl (fun _=>Jt9 same) (fun b=>?_);have b:m.to = -1:=by simpa using b
  refine Jt2 (m.kind=1) rfl (fun d=>?_) (fun d=>?_)
  ·have hw:=(hi.want d).2;refine JtL (vs:=[.l (dCs (YA m.call c.wants))]) (Jl3 c.wants m.call ⟨hcf.c,hcf.ct⟩ hfm.1) rfl rfl rfl (Jt9 ?_);refine⟨⟨c.up,c.round,c.base,c.done,YA m.call c.wants,c.got⟩,[],[],[],rfl,⟨hc.round,hc.base,hc.done,hc.len,hc.got,fun x hx=>?_,Jmp hc.asc,fun e=>by rw[a] at e;cases e⟩,fun x h=>by simp at h,fun x h=>by simp at h,fun x h=>by simp at h,rfl,by simp,by simp⟩;rcases Jf8 hx with q | q
   ·rw[q];exact hw
   ·exact hc.wants x q
  have hk3:m.kind=3:=by
   have:=hi.kind;have h2:=hi.frz;have h4:=hi.pact;rcases (by omega:m.kind=2∨m.kind=3∨m.kind=4) with q | q | q
   ·have:=h2 q;omega
   ·exact q
   ·have:=(h4 q).1;omega
  obtain⟨_,g2,g3,g4⟩:=hi.give hk3;refine JtI (decide (m.round=c.round)) rfl (fun _=>Jt9 same) (fun e=>?_);refine JtL (Zw c.base p.gives (Jb p.acts) m.frm m.vals hcf.b hpf.2.1 hps (by omega)) rfl rfl rfl ?_;simp only[sC,sN];refine JtI (keeps c.base p.gives (Jb p.acts) m.frm m.vals) rfl (fun _=>Jt9 same) (fun k1=>?_);refine JtL (WH (Jj p.acts) m.vals (UX hca) g3) rfl rfl rfl ?_;simp only[sC,sN];refine JtI (Qe (Jj p.acts) m.vals) rfl (fun _=>Jt9 same) (fun k2=>?_);refine JtM (dL m.vals) 2000000 (by rw[dL1];omega) (by omega) rfl ?_;refine JtS (JR m.vals) ?_;refine JtM (dL m.vals) 2000000 (by rw[dL1];omega) (by omega) rfl ?_;have hq:=hfm.2.2.1;refine JtM (dL m.seqs) 2000000 (by rw[dL1];omega) (by omega) rfl ?_;refine JtS (JR m.seqs) ?_;refine JtM (dL m.seqs) 2000000 (by rw[dL1];omega) (by omega) rfl ?_;obtain⟨y,hy,hym⟩:=sA1 (l:=c.got) (i:=m.frm.toNat) (by omega);refine JtF (0≤m.frm) rfl g2.1 ?_;refine JtF (m.frm<(c.got.length:Int)) (by show decide (m.frm<((dGs c.got).length:Int))=_;rw[Ul]) (by omega) ?_;refine JtJ (ds:=dGs c.got) (d:=y.g) (vs:=[.b y.has,.l (dL y.added),.l (dL y.seqs)]) m.frm rfl rfl rfl g2.1 (mA1 (f:=Got.g) hy) rfl ?_;simp only[sC,sN];have hc2:Yg p ⟨c.up,c.round,c.base,c.done,c.wants,c.got.set m.frm.toNat ⟨true,m.vals,m.seqs⟩⟩:=by
   refine⟨hc.round,hc.base,hc.done,by show (c.got.set m.frm.toNat _).length=_;rw[List.length_set];exact hl,fun j hj=>?_,hc.wants,hc.asc,fun q=>by rw[a] at q;cases q⟩;have hj:j<c.got.length:=by have:j<(c.got.set m.frm.toNat ⟨true,m.vals,m.seqs⟩).length:=hj;rwa [List.length_set] at this
   show K5 p c.base (c.got.set m.frm.toNat ⟨true,m.vals,m.seqs⟩) j=true
   by_cases hij:m.frm.toNat=j
   ·have hgj:(c.got.set m.frm.toNat ⟨true,m.vals,m.seqs⟩)[j]? = some ⟨true,m.vals,m.seqs⟩:=by rw[hij,List.getElem?_set_self hj]
    unfold K5;rw[QM hgj];simp only[if_true,Jui];exact⟨XO.2 ⟨by rw[show ((j:Nat):Int)=m.frm by omega];exact k1,k2⟩,g4⟩
   ·have:=hc.got j hj;unfold K5 at this ⊢;rw[Jul,List.getElem?_set_ne hij,←Jul];exact this
  have hfo:=JpF hp hc2;have hev:=JlZ p _ hp hc2;have hset:(dGs c.got).set m.frm.toNat (.g [dB true,.s (dL m.vals),.s (dL m.seqs)])=dGs (c.got.set m.frm.toNat ⟨true,m.vals,m.seqs⟩):=by simp only[dGs,List.map_set];rfl
  have harg:p.cells++(Clk.mk c.up c.round c.base c.done c.wants (c.got.set m.frm.toNat ⟨true,m.vals,m.seqs⟩)).cells=[dI p.n,.s (Je p.acts),.s (dL p.gives),.s (dL p.start),dB c.up,dI c.round,.s (dL c.base),.s (dDs c.done),.s (dCs c.wants),D.s ((dGs c.got).set m.frm.toNat (.g [dB true,.s (dL m.vals),.s (dL m.seqs)]))]:=by rw[hset];rfl
  rw[harg] at hev;generalize JbW p ⟨c.up,c.round,c.base,c.done,c.wants,c.got.set m.frm.toNat ⟨true,m.vals,m.seqs⟩⟩=r at *;refine JtL (vs:=[.b r.c.up,.i r.c.round,.l (dL r.c.base),.l (dDs r.c.done),.l (dCs r.c.wants),.l (dGs r.c.got),.l (dCs r.calls),.l (dRr r.list)]) hev rfl rfl rfl ?_;simp only[sC,sN];refine Jua (decide (r.c.round=c.round)) rfl (fun _=>Jt9 ?_) (fun _=>?_)
  ·exact⟨r.c,[],r.calls,r.list,rfl,hfo.c,fun x h=>by simp at h,hfo.calls,hfo.list,hfo.len,hfo.four,by simp⟩
  ·refine JtL (vs:=[.l (dMs (Xx r.c p.gives.length))]) (Jfe p r.c hpf (Ky hp hfo.c)) rfl rfl rfl (Jt9 ?_);have hg:=Qo hp;exact⟨r.c,Xx r.c p.gives.length,r.calls,r.list,rfl,hfo.c,Jee hfo.c (Nat.le_refl _),hfo.calls,hfo.list,hfo.len,hfo.four,by rw[Z5];omega⟩
 obtain⟨ds,e,c',ms,cs,ls,rfl,h⟩:=key;exact⟨c',ms,cs,ls,e,h⟩
end Go.Proofs.YtofcmnglieaoeaaGreatDoor

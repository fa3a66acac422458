import Derived.Test.YtofcmnglieaoeaaGreatDoorPZZD
import Derived.Test.YtofcmnglieaoeaaGreatDoorPZR
set_option linter.unusedVariables false
set_option linter.unusedSimpArgs false
/- What the clerk hears,by the reference: over residual programs. -/
namespace Go.Proofs.YtofcmnglieaoeaaGreatDoor
open Go Go.Tm
open Go.IntKind (i64)
theorem JpE {l:Jg} (h:l.ok=true):Frm.fit l.f:=by
 by_cases h4:l.kind=4
 ·unfold Jg.ok at h;rw[if_neg (by omega),if_neg (by omega),if_neg (by omega)] at h;simp only[Jus,decide_eq_true_eq] at h;exact⟨by omega,by omega⟩
 ·have:=X1 h h4;simp only[Frm.small,Jus,Jo] at this;exact⟨by omega,by omega⟩
theorem Yn {p:Pln} (h:JC p=true):JO p:=by
 have hc:=X0 (XE h);have hg:=Qo h;have hs:=(J1 h).2.2.1;refine⟨⟨by omega,fun a ha=>?_⟩,by omega,by omega⟩;obtain⟨h1,h2⟩:=KT (hc.2.2 a ha);exact⟨by omega,fun l hl=>JpE (h2 l hl)⟩
theorem Jlr {d:Don} (h:Xj d=true):Yr d:=by
 rcases YA.1 h with h | h
 ·unfold Yr;omega
 ·have:=(YD.1 h.2.2).2.1;unfold Yr;omega
theorem Jel {n:Int} {l:List Don} (h:JZ n l=true) (h4:n≤4):Wb Yr l :=
 ⟨by have:=(JA.1 h).1;omega,fun d hd=>Jlr ((JA.1 h).2 d hd)⟩
theorem Jh7 {p:Pln} {b:List Int} {k:Int} {a:List Int} (h:Xw p b k a=true):a.length=3:=VL (XN.1 h).1
theorem Kq {p:Pln} {s:Sit} {k:Int} (hp:JC p=true) (h:J4 p s k=true):Qq s:=by
 obtain⟨_,h2,h3,h4⟩:=Qf.1 h;have hd:=Jel h4 (J1 hp).2.1;have:=(QF.1 h2).1;have:=Jh7 h3;exact⟨by omega,by omega,hd.1,hd.2⟩
theorem Zv {p:Pln} {c:Cal} (h:Jq p c=true):UB c:=by
 have:=(X3.1 (QV.1 h).2.2.2).1;unfold UB;omega
theorem Z0 {n:Int} {l:List Int}:Xr n l=true↔(l.length:Int)=n∧∀x∈l,0≤x∧x≤300:=by
 unfold Xr;simp only[Jus,decide_eq_true_eq,JuF,Jp]
theorem JeV {c:Cal} (h:Xi c=true):c.args.length=0:=by
 unfold Xi at h;simp only[Jus,decide_eq_true_eq] at h;exact h.2.2.2
structure Jrt (p:Pln) (x:Msg):Prop where
 round:0≤x.round∧x.round≤200
 want:x.kind=1→x.to = -1∧Jq p x.call=true
 frz:x.kind=2→0≤x.to∧x.to<p.gives.length
 give:x.kind=3→x.to = -1∧(0≤x.frm∧x.frm<p.gives.length)∧x.vals.length=3∧Xr p.n x.seqs=true
 pact:x.kind=4→(0≤x.to∧x.to<p.gives.length)∧JU x.vals=true∧JZ p.n x.done=true
 kind:1≤x.kind∧x.kind≤4
 fit:Qp x
theorem Yt {p:Pln} {k:Int}:QS p k=true↔0≤k∧k<p.gives.length:=by unfold QS;rw[Jp];omega
theorem Kt {x:Msg} {a v s d:Bool} (h:XM x a v s d=true):(a=false→x.call.args.length=0)∧(v=false→x.vals.length=0)∧(s=false→x.seqs.length=0)∧(d=false→x.done.length=0):=by
 unfold XM em at h;simp only[Jus,Bool.or_eq_true,decide_eq_true_eq] at h;obtain⟨h1,h2,h3,h4⟩:=h;refine⟨fun e=>?_,fun e=>?_,fun e=>?_,fun e=>?_⟩
 ·subst e;exact JeV (h1.resolve_left (by simp))
 ·subst e;exact h2.resolve_left (by simp)
 ·subst e;exact h3.resolve_left (by simp)
 ·subst e;exact h4.resolve_left (by simp)
theorem KH {p:Pln} {x:Msg} (hp:JC p=true) (h:Jv p x=true):Jrt p x:=by
 have hn:=J1 hp;have no :∀{l:List Don},l.length=0→Wb Yr l:=fun h=>by rw[List.length_eq_zero_iff.1 h];exact⟨by simp,fun d hd=>by simp at hd⟩
 unfold Jv at h;rw[Jus,Jp] at h;obtain⟨hr,h⟩:=h;split at h
 ·rename_i k;simp only[Jus,decide_eq_true_eq] at h;obtain⟨h1,h2,h3,h4,h5⟩:=h;have hb:=Kt h5;exact⟨hr,fun _=>⟨h1,h4⟩,fun e=>by omega,fun e=>by omega,fun e=>by omega,by omega,⟨Zv h4,by have:=hb.2.1 rfl;omega,by have:=hb.2.2.1 rfl;omega,no (hb.2.2.2 rfl)⟩⟩
 split at h
 ·rename_i k1 k;simp only[Jus,decide_eq_true_eq] at h;obtain⟨h1,h2,h5⟩:=h;have hb:=Kt h5;exact⟨hr,fun e=>by omega,fun _=>Yt.1 h1,fun e=>by omega,fun e=>by omega,by omega,⟨by have:=hb.1 rfl;omega,by have:=hb.2.1 rfl;omega,by have:=hb.2.2.1 rfl;omega,no (hb.2.2.2 rfl)⟩⟩
 split at h
 ·rename_i k1 k2 k;simp only[Jus,decide_eq_true_eq] at h;obtain⟨h1,h2,h3,h4,h5⟩:=h;have hb:=Kt h5;have hv:=(Jo.1 h3).1;have hq:=(Z0.1 h4).1;exact⟨hr,fun e=>by omega,fun e=>by omega,fun _=>⟨h1,Yt.1 h2,by omega,h4⟩,fun e=>by omega,by omega,⟨by have:=hb.1 rfl;omega,by omega,by omega,no (hb.2.2.2 rfl)⟩⟩
 split at h
 ·rename_i k1 k2 k3 k;simp only[Jus,decide_eq_true_eq] at h;obtain⟨h1,h2,h3,h4,h5⟩:=h;have hb:=Kt h5;have hv:=(QF.1 h3).1;exact⟨hr,fun e=>by omega,fun e=>by omega,fun e=>by omega,fun _=>⟨Yt.1 h1,h3,h4⟩,by omega,⟨by have:=hb.1 rfl;omega,by omega,by have:=hb.2.2.1 rfl;omega,Jel h4 hn.2.1⟩⟩
 ·cases h
def Asc (l:List Cal):Prop:=l.Pairwise fun a b=>a.client<b.client
theorem Jfh {p:Pln} {l:List Cal}:Q3 l.length (Wf p l)=true↔(∀x∈l,Jq p x=true)∧Asc l:=by
 rw[Y6];constructor
 ·intro h;have h1 :∀(j:Nat) (x:Cal),l[j]? = some x→Jq p x=true∧(0<j→(l.getD (j-1) ⟨0,0,0,[]⟩).client<x.client):=fun j x hx=>by
   have:=h j (Jut.1 hx).1;rw[Jdq hx,Jus,Bool.or_eq_true,decide_eq_true_eq,decide_eq_true_eq] at this;exact⟨this.1,fun hj=>this.2.resolve_left (by omega)⟩
  refine⟨fun x hx=>?_,?_⟩
  ·obtain⟨j,hj⟩:=List.getElem?_of_mem hx;exact(h1 j x hj).1
  ·have step :∀(d i:Nat) (a b:Cal),l[i]? = some a→l[i+d+1]? = some b→a.client<b.client:=by
    intro d
    induction d with
    | zero =>
     intro i a b ha hb;have:=(h1 _ _ hb).2 (by omega);rw[show i+0+1-1=i by omega,QJ ha] at this;exact this
    | succ d ih =>
     intro i a b ha hb;have hl:=(Jut.1 hb).1;obtain⟨y,hy,_⟩:=sA1 (l:=l) (i:=i+d+1) (by omega);have h2:=ih i a y ha hy;have h3:=(h1 _ _ hb).2 (by omega);rw[show i+(d+1)+1-1=i+d+1 by omega,QJ hy] at h3;omega
   unfold Asc;rw[List.pairwise_iff_getElem];intro i j hi hj hij;exact step (j-i-1) i _ _ (JuD hi) (by rw[show i+(j-i-1)+1=j by omega];exact JuD hj)
 ·rintro⟨h1,h2⟩ j hj;obtain⟨x,hx,hm⟩:=sA1 hj;rw[Jdq hx,h1 x hm,JuM,Bool.or_eq_true,decide_eq_true_eq,decide_eq_true_eq]
  by_cases h0:j=0
  ·exact .inl h0
  ·right;obtain⟨y,hy,_⟩:=sA1 (l:=l) (i:=j-1) (by omega);rw[QJ hy];unfold Asc at h2;rw[List.pairwise_iff_getElem] at h2;obtain⟨hi1,rfl⟩:=Jut.1 hx;obtain⟨hi2,rfl⟩:=Jut.1 hy;exact h2 _ _ _ _ (by omega)
theorem Jp9 {l:List Cal} (h:Asc l) :∀(a b:Int),(∀x∈l,a≤x.client∧x.client≤b)→(l.length:Int)≤b-a+1∨l=[]:=by
 induction l with
 | nil=>intro a b _;exact .inr rfl
 | cons x l ih =>
  intro a b hb;left;rw[Asc,List.pairwise_cons] at h;have hx:=hb x (List.mem_cons_self ..);rcases ih h.2 (x.client+1) b (fun y hy=>⟨by have:=h.1 y hy;omega,(hb y (List.mem_cons_of_mem _ hy)).2⟩) with q | q
  ·simp only[List.length_cons];omega
  ·subst q;simp only[List.length_cons,List.length_nil];omega
theorem Jbx {p:Pln} {l:List Cal} (hp:JC p=true) (h :∀x∈l,Jq p x=true) (ha:Asc l):l.length≤4:=by
 have hn:=J1 hp;rcases Jp9 ha 0 (p.n-1) (fun x hx=>(QV.1 (h x hx)).1) with q | q
 ·omega
 ·subst q;simp
def Yy (x:Cal):List Cal→List Cal
 | []=>[x]
 | y::l=>if x.client≤y.client then(if y.client=x.client then(if x.seq<y.seq then y::l else x::l) else x::y::l) else y::Yy x l
theorem Jfi {x z:Cal} {l:List Cal} (h:z∈Yy x l):z=x∨z∈l:=by
 induction l with
 | nil=>simp only[Yy,JuK] at h;exact .inl h
 | cons y l ih =>
  unfold Yy at h;split at h
  ·split at h
   ·split at h
    ·exact .inr h
    ·rcases JuL.1 h with q | q
     ·exact .inl q
     ·exact .inr (List.mem_cons_of_mem _ q)
   ·rcases JuL.1 h with q | q
    ·exact .inl q
    ·exact .inr q
  ·rcases JuL.1 h with q | q
   ·exact .inr (by rw[q];exact List.mem_cons_self ..)
   ·rcases ih q with q | q
    ·exact .inl q
    ·exact .inr (List.mem_cons_of_mem _ q)
theorem JmS {x:Cal} {l:List Cal} (h:Asc l):Asc (Yy x l):=by
 induction l with
 | nil=>simp[Yy,Asc]
 | cons y l ih =>
  rw[Asc,List.pairwise_cons] at h;unfold Yy;split
  ·split
   ·split
    ·exact List.pairwise_cons.2 h
    ·rename_i e _;exact List.pairwise_cons.2 ⟨fun z hz=>by have:=h.1 z hz;omega,h.2⟩
   ·rename_i e1 e2;refine List.pairwise_cons.2 ⟨fun z hz=>?_,List.pairwise_cons.2 h⟩;rcases JuL.1 hz with q | q
    ·subst q;omega
    ·have:=h.1 z q;omega
  ·rename_i e;refine List.pairwise_cons.2 ⟨fun z hz=>?_,ih h.2⟩;rcases Jfi hz with q | q
   ·subst q;omega
   ·exact h.1 z q
theorem JnF (l:List Cal) (x:Cal):dCs l++[x.g]=dCs (l++[x]):=by simp[dCs]
theorem JjG {x y:Cal} {l:List Cal} (h:x.client≤y.client):Yy x (y::l)=if y.client=x.client then(if x.seq<y.seq then y::l else x::l) else x::y::l:=by rw[Yy,if_pos h]
theorem JmG (l:List Cal) (x:Cal) (hl:Wb UB l) (hx:UB x):Ev L f_k2i ([.s (dCs l)]++x.cells) [.s (dCs (Yy x l))]:=by
 refine Juq (vs:=[.l (dCs l),.i x.client,.i x.seq,.i x.act,.l (dL x.args)]) L_k2i rfl ?_;have hl0:=hl.1;refine Jum l.length (fun i vs=>∃ (out:List Cal) (b:Bool),vs=[.l (dCs out),.b b,.i i]∧out.length≤i+1∧(if b then out++l.drop i=Yy x l else out=l.take i∧Yy x l=l.take i++Yy x (l.drop i))) rfl ⟨[],false,rfl,by simp,by simp⟩ ?_;rintro i vs hi ⟨out,b,rfl,hol,hq⟩;simp only[sC,sN];have app :∀y:Cal,dCs out++[.g [dI y.client,dI y.seq,dI y.act,.s (dL y.args)]]=dCs (out++[y]):=fun y=>JnF out y;have app2 :∀y z:Cal,dCs out++[.g [dI y.client,dI y.seq,dI y.act,.s (dL y.args)]]++[.g [dI z.client,dI z.seq,dI z.act,.s (dL z.args)]]=dCs (out++[y,z]):=fun y z=>by simp[dCs,Cal.g,Cal.cells]
 refine Jub i (Yk l) rfl (fun h'=>?_) (fun h'=>Juj ?_)
 ·obtain⟨y,hy,hm⟩:=sA1 h';have hyf:=hl.2 y hm;have hdr:l.drop i=y::l.drop (i+1):=XD hy;have htk:=tS1 hy;have hw:=wS h' (by omega);have ix :∀{r:R} {vs:List V} {n:Nat} {Q:Oc→Prop},n=vs.length→lst (Jm vs) (.v 0)=dCs l→int (Jm vs) (.v 7)=i→WR L r (vs++[.i y.client,.i y.seq,.i y.act,.l (dL y.args)]) Q→WR L (.i (.idx (.v 0) (.v 7) (.g [.i .i64,.i .i64,.i .i64,.s]) n) r) vs Q:=fun hn h0 h7 h =>
   JtX (vs:=[.i y.client,.i y.seq,.i y.act,.l (dL y.args)]) i (mA1 (f:=Cal.g) hy) hn h0 h7 rfl h
  have ca :∀{r:R} {vs:List V} {e:E} {Q:Oc→Prop},lst (Jm vs) (.v 5)=dCs out→WR L r vs Q→WR L (.i (.chk (.cmp .le (.len (.app (.v 5) (.cons e .nil))) (.z 1466015503701))) r) vs Q:=fun h5 h =>
   JtN (dCs out) 2000001 (by rw[Yk];omega) (by omega) h5 h
  have ca2 :∀{r:R} {vs:List V} {e e2:E} {Q:Oc→Prop},lst (Jm vs) (.v 5)=dCs out→WR L r vs Q→WR L (.i (.chk (.cmp .le (.len (.app (.app (.v 5) (.cons e .nil)) (.cons e2 .nil))) (.z 1466015503701))) r) vs Q:=fun {_ vs e _ _} h5 h =>
   JtN (dCs out++[dat (Jm vs) e]) 2000002 (by rw[Juy,Yk];simp;omega) (by omega) (by show lst (Jm vs) (.v 5)++[dat (Jm vs) e]=_;rw[h5]) h
  cases b with
  | true =>
   refine JtO rfl (ix rfl rfl rfl ?_);simp only[sC,sN];refine ca rfl ?_;refine Juk (vs:=[.l (dCs (out++[y])),.b true,.i ((i+1:Nat):Int)]) ?_ ⟨h',out++[y],true,rfl,by simp;omega,?_⟩
   ·rw[←app y,←hw];rfl
   ·simp only[if_true] at hq ⊢;rw[←hq,hdr];simp
  | false =>
   simp only[JuI,if_false] at hq;obtain⟨rfl,hq⟩:=hq;rw[hdr] at hq;refine Juf rfl (ix rfl rfl rfl ?_);simp only[sC,sN];refine Jue (x.client≤y.client) rfl (fun hle=>?_) (fun hle=>?_)
   ·rw[JjG hle] at hq;have fin2 :∀o2:List Cal,o2++l.drop (i+1)=Yy x l→o2.length≤i+2→∃ (o3:List Cal) (b:Bool),[V.l (dCs o2),.b true,.i ((i+1:Nat):Int)]=[V.l (dCs o3),.b b,.i ((i+1:Nat):Int)]∧o3.length≤i+1+1∧(if b then o3++l.drop (i+1)=Yy x l else o3=l.take (i+1)∧Yy x l=l.take (i+1)++Yy x (l.drop (i+1))) :=
     fun o2 h1 h2=>⟨o2,true,rfl,by omega,by simpa using h1⟩
    refine ix rfl rfl rfl ?_;simp only[sC,sN];refine Jue (y.client=x.client) rfl (fun he=>?_) (fun he=>?_)
    ·rw[if_pos he] at hq;refine ix rfl rfl rfl ?_;simp only[sC,sN];refine Jue (x.seq<y.seq) rfl (fun hs=>?_) (fun hs=>?_)
     ·rw[if_pos hs] at hq;refine ix rfl rfl rfl (ca rfl (ix rfl rfl rfl ?_));simp only[sC,sN];refine Juf (by show decide (y.client=x.client)=true;exact decide_eq_true he) ?_;refine Juk (vs:=[.l (dCs (l.take i++[y])),.b true,.i ((i+1:Nat):Int)]) ?_ ⟨h',fin2 _ (by rw[hq];simp) (by simp;omega)⟩;rw[←app y,←hw];rfl
     ·rw[if_neg hs] at hq;refine Jua (vs:=[.i x.client,.i x.seq,.i x.act,.l (dL x.args)]) (JX x hx) rfl rfl rfl ?_;simp only[sC,sN];refine ca rfl (ix rfl rfl rfl ?_);simp only[sC,sN];refine Juf (by show decide (y.client=x.client)=true;exact decide_eq_true he) ?_;refine Juk (vs:=[.l (dCs (l.take i++[x])),.b true,.i ((i+1:Nat):Int)]) ?_ ⟨h',fin2 _ (by rw[hq];simp) (by simp;omega)⟩;rw[←app x,←hw];rfl
    ·rw[if_neg he] at hq;refine Jua (vs:=[.i x.client,.i x.seq,.i x.act,.l (dL x.args)]) (JX x hx) rfl rfl rfl ?_;simp only[sC,sN];refine ca rfl (ix rfl rfl rfl ?_);simp only[sC,sN];refine JtO (by show decide (y.client=x.client)=false;exact decide_eq_false he) ?_;refine ix rfl rfl rfl (ca2 rfl ?_);simp only[sC,sN];refine Juk (vs:=[.l (dCs (l.take i++[x,y])),.b true,.i ((i+1:Nat):Int)]) ?_ ⟨h',fin2 _ (by rw[hq];simp) (by simp;omega)⟩;rw[←app2 x y,←hw];rfl
   ·refine ix rfl rfl rfl (ca rfl ?_);simp only[sC,sN];refine Juk (vs:=[.l (dCs (l.take i++[y])),.b false,.i ((i+1:Nat):Int)]) ?_ ⟨h',l.take i++[y],false,rfl,by simp;omega,?_⟩
    ·rw[←app y,←hw];rfl
    ·simp only[JuI,if_false];rw[htk];refine⟨rfl,?_⟩;rw[hq,Yy,if_neg hle];simp
 ·have hd:l.drop i=[]:=List.drop_eq_nil_of_le (by omega);cases b with
  | true =>
   simp only[if_true,hd,List.append_nil] at hq;subst hq;exact JtO rfl (JtU rfl)
  | false =>
   simp only[JuI,if_false,hd] at hq;obtain⟨rfl,hq⟩:=hq;refine Juf rfl (Jua (vs:=[.i x.client,.i x.seq,.i x.act,.l (dL x.args)]) (JX x hx) rfl rfl rfl ?_);simp only[sC,sN];refine JtN (dCs (l.take i)) 2000001 (by rw[Yk];omega) (by omega) rfl (JtU ?_);show [D.s (dCs (l.take i)++[.g [dI x.client,dI x.seq,dI x.act,.s (dL x.args)]])]=_;rw[app x,hq];rfl
/- A round's end,by the reference: over residual programs. -/
structure Ye (p:Pln) (c:Clk):Prop where
 round:0≤c.round∧c.round≤200
 base:JU c.base=true
 done:JZ p.n c.done=true
 len:c.got.length=p.gives.length
 got :∀j,j<c.got.length→Uf p c.base c.got j=true
 wants :∀x∈c.wants,Jq p x=true
 asc:Asc c.wants
 down:c.up=false→c.wants=[]∧XZ c.got=0
theorem Jqw {p:Pln} {c:Clk} (h:Zt p c=true):Ye p c:=by
 unfold Zt at h;simp only[Jus,decide_eq_true_eq,Bool.or_eq_true] at h;obtain⟨h1,h2,h3,⟨h4,h5⟩,h6,h7⟩:=h;obtain⟨w1,w2⟩:=Jfh.1 h6;exact⟨Jp.1 h1,h2,h3,h4,Y6.1 h5,w1,w2,fun e=>by
  rcases h7 with q | q
  ·rw[e] at q;cases q
  ·exact⟨List.length_eq_zero_iff.1 q.1,q.2⟩⟩
theorem Ye.ok {p:Pln} {c:Clk} (h:Ye p c):Zt p c=true:=by
 unfold Zt;simp only[Jus,decide_eq_true_eq,Bool.or_eq_true];refine⟨Jp.2 h.round,h.base,h.done,⟨h.len,Y6.2 h.got⟩,Jfh.2 ⟨h.wants,h.asc⟩,?_⟩;cases e:c.up with
 | true=>exact .inl rfl
 | false=>exact .inr ⟨by rw[(h.down e).1];rfl,(h.down e).2⟩
theorem JkD {p:Pln} {b:List Int} {l:List Got} {j:Nat} {g:Got} (h:Uf p b l j=true) (hg:l[j]? = some g):(g.has=true→Xw p b j g.added=true∧Xr p.n g.seqs=true)∧(g.has=false→g.added.length=0∧g.seqs.length=0):=by
 unfold Uf at h;rw[QJ hg] at h;cases e:g.has with
 | true=>rw[e] at h;simp only[if_true,Jus] at h;exact⟨fun _=>h,fun q=>Bool.noConfusion q⟩
 | false=>rw[e] at h;simp only[JuI,if_false,emp,Jus,decide_eq_true_eq] at h;exact⟨fun q=>Bool.noConfusion q,fun _=>h⟩
theorem KA {p:Pln} {c:Clk} (hp:JC p=true) (h:Ye p c):KM c:=by
 have hn:=J1 hp;have hg:=Qo hp;have hd:=Jel h.done hn.2.1;have hl:=h.len;refine⟨by have:=(QF.1 h.base).1;omega,hd.1,fun d hm=>hd.2 d hm,by have:=Jbx hp h.wants h.asc;omega,fun d hm=>Zv (h.wants d hm),by omega,fun g hm=>?_⟩;obtain⟨j,hj⟩:=List.getElem?_of_mem hm;have hi:=JkD (h.got j (Jut.1 hj).1) hj;cases e:g.has with
 | true =>
  obtain⟨a,b⟩:=hi.1 e;have:=Jh7 a;have:=(Z0.1 b).1;omega
 | false=>have:=hi.2 e;omega
def Xg (b:List Int) (l:List Got):List Int:=l.foldl (fun v g=>if g.has then Qm v g.added else v) b
def dRr (l:List (Int×List Int)):List D:=l.map fun x=> .g [dI x.1,.s (dL x.2)]
structure Jav where
 done:List Don
 calls:List Cal
 list:List (Int×List Int)
 vals:List Int
def Wi (p:Pln) (c:Clk) (w:Cal):Int:=(c.got.getD (Int.tmod w.client p.gives.length).toNat X2).seqs.getD w.client.toNat 0
def Zn (p:Pln) (r:Jav) (w:Cal):Res:=Z8 (p.acts.getD w.act.toNat []) r.vals w.args
def Jdw (p:Pln) (r:Jav) (w:Cal):Jav:=⟨r.done.set w.client.toNat ⟨w.seq,(Zn p r w).code,(Zn p r w).tells⟩,r.calls++[w],r.list++[((Zn p r w).code,(Zn p r w).tells)],(Zn p r w).is⟩
def U7 (p:Pln) (c:Clk) (r:Jav) (w:Cal):Jav:=if w.seq=Wi p c w+1 then Jdw p r w else r
def JS (p:Pln) (c:Clk) (l:List Cal):Jav:=l.foldl (U7 p c) ⟨c.done,[],[],Xg c.base c.got⟩
theorem JbH (p:Pln) (c:Clk) {l:List Cal} {i:Nat} {x:Cal} (h:l[i]? = some x):JS p c (l.take (i+1))=U7 p c (JS p c (l.take i)) x:=by
 rw[tS1 h];simp[JS]
def Z2 (p:Pln) (c:Clk):Bool:=decide (XZ c.got=p.gives.length)&&(decide (c.round≠200)&&JU (Xg c.base c.got))
structure JlD where
 c:Clk
 calls:List Cal
 list:List (Int×List Int)
def JbI (p:Pln) (c:Clk):JlD :=
 if Z2 p c then ⟨⟨c.up,c.round+1,(JS p c c.wants).vals,(JS p c c.wants).done,[],List.replicate p.gives.length X2⟩,(JS p c c.wants).calls,(JS p c c.wants).list⟩ else ⟨c,[],[]⟩
def JlD.ds (r:JlD):List D:=r.c.cells++[.s (dCs r.calls),.s (dRr r.list)]
theorem Jlj {p:Pln} {c:Clk} (h:Z2 p c=false):JbI p c=⟨c,[],[]⟩:=by unfold JbI;rw[h];rfl
theorem Jik {p:Pln} {c:Clk} (h:Z2 p c=true):JbI p c=⟨⟨c.up,c.round+1,(JS p c c.wants).vals,(JS p c c.wants).done,[],List.replicate p.gives.length X2⟩,(JS p c c.wants).calls,(JS p c c.wants).list⟩:=by unfold JbI;rw[if_pos h]
structure JaL (p:Pln) (i:Nat) (r:Jav):Prop where
 done:JZ p.n r.done=true
 vals:JU r.vals=true
 calls :∀x∈r.calls,Jq p x=true
 list :∀x∈r.list,JK x.1 x.2=true
 cl:r.calls.length≤i
 ll:r.list.length=r.calls.length
theorem run_ok {p:Pln} {r:Jav} {w:Cal} (hp:JC p=true) (hv:JU r.vals=true) (hw:Jq p w=true):JU (Zn p r w).is=true∧JK (Zn p r w).code (Zn p r w).tells=true∧(Zn p r w).code≠0:=by
 obtain⟨_,_,h3,h4⟩:=QV.1 hw;obtain⟨hm,_⟩:=Jah (as:=p.acts) h3.1 (by omega);have hf:=JiW ((X0 (XE hp)).2.2 _ hm) hv h4;unfold Zn;generalize Z8 (p.acts.getD w.act.toNat []) r.vals w.args=R at *;rcases hf with ⟨a,b,c,d⟩ | ⟨a,b,c⟩
 ·exact⟨b,YD.2 ⟨by omega,c,.inl a,d⟩,by omega⟩
 ·exact⟨by rw[a];exact hv,YD.2 ⟨by omega,by rw[b];simp,.inr b,by rw[b];intro x hx;simp at hx⟩,by omega⟩
theorem JaL.step {p:Pln} {c:Clk} {i:Nat} {r:Jav} {w:Cal} (hp:JC p=true) (h:JaL p i r) (hw:Jq p w=true):JaL p (i+1) (U7 p c r w):=by
 unfold U7;split
 ·obtain⟨r1,r2,r3⟩:=run_ok hp h.vals hw;have hs:=(QV.1 hw).2.1;refine⟨Jdh h.done _ (YA.2 (.inr ⟨hs.1,hs.2,r2⟩)),r1,fun x hx=>?_,fun x hx=>?_,by simp only[Jdw,Juy,List.length_singleton];have:=h.cl;omega,by simp only[Jdw,Juy,List.length_singleton];have:=h.ll;omega⟩
  ·rcases Jux.1 hx with q | q
   ·exact h.calls x q
   ·simp only[JuK] at q;subst q;exact hw
  ·rcases Jux.1 hx with q | q
   ·exact h.list x q
   ·simp only[JuK] at q;subst q;exact r2
 ·exact⟨h.done,h.vals,h.calls,h.list,by have:=h.cl;omega,h.ll⟩
theorem Jb6 {p:Pln} {c:Clk} (hp:JC p=true) (hc:Ye p c) (hv:JU (Xg c.base c.got)=true) :∀i,i≤c.wants.length→JaL p i (JS p c (c.wants.take i)):=by
 intro i
 induction i with
 | zero=>intro _;exact⟨hc.done,hv,fun x hx=>by simp[JS] at hx,fun x hx=>by simp[JS] at hx,by simp[JS],by simp[JS]⟩
 | succ i ih =>
  intro hi;obtain⟨x,hx,hm⟩:=sA1 (l:=c.wants) (i:=i) (by omega);rw[JbH p c hx];exact(ih (by omega)).step hp (hc.wants x hm)
theorem Ji8 (p:Pln) (b:List Int) (n j:Nat):Uf p b (List.replicate n X2) j=true:=by
 unfold Uf;have:(List.replicate n X2).getD j X2=X2:=by
  rw[Juv,List.getElem?_replicate];split <;> rfl
 rw[this];rfl
theorem JiK (n:Nat):XZ (List.replicate n X2)=0:=by
 unfold XZ;rw[List.length_eq_zero_iff,List.filter_eq_nil_iff];intro x hx;rw[(List.mem_replicate.1 hx).2];simp[X2]
structure Jrd (p:Pln) (c:Clk) (r:JlD):Prop where
 c:Ye p r.c
 calls :∀x∈r.calls,Jq p x=true
 list :∀x∈r.list,JK x.1 x.2=true
 len:r.list.length=r.calls.length
 four:r.calls.length≤4
theorem Jqa {p:Pln} {c:Clk} (hp:JC p=true) (hc:Ye p c):Jrd p c (JbI p c):=by
 cases h:Z2 p c with
 | false=>rw[Jlj h];exact⟨hc,fun x hx=>by simp at hx,fun x hx=>by simp at hx,rfl,by simp⟩
 | true =>
  rw[Jik h];unfold Z2 at h;simp only[Jus,decide_eq_true_eq] at h;obtain⟨h1,h2,h3⟩:=h;have hf:=Jb6 hp hc h3 c.wants.length (Nat.le_refl _);rw[List.take_length] at hf;have hw:=Jbx hp hc.wants hc.asc;have hr:=hc.round;exact⟨⟨by show 0≤c.round+1∧c.round+1≤200;omega,hf.vals,hf.done,by simp,fun j _=>Ji8 ..,fun x hx=>by simp at hx,List.Pairwise.nil,fun _=>⟨rfl,JiK _⟩⟩,hf.calls,hf.list,hf.ll,by have:=hf.cl;show (JS p c c.wants).calls.length≤4;omega⟩
theorem Ji2 {b:List Int} {l:List Got} {i:Nat} {x:Got} (h:l[i]? = some x):Xg b (l.take (i+1))=if x.has then Qm (Xg b (l.take i)) x.added else Xg b (l.take i):=by
 rw[tS1 h];simp[Xg]
theorem Jqs {p:Pln} {c:Clk} {x:Cal} (hp:JC p=true) (hc:Ye p c) (hall:XZ c.got=p.gives.length) (hx:Jq p x=true) :
  ∃ g:Got,(0≤Int.tmod x.client p.gives.length)∧c.got[(Int.tmod x.client p.gives.length).toNat]? = some g∧g.seqs[x.client.toNat]? = some (Wi p c x)∧(0≤Wi p c x∧Wi p c x≤300):=by
 have hg:=Qo hp;obtain⟨h1,_⟩:=QV.1 hx;have t0:0≤Int.tmod x.client p.gives.length:=Int.tmod_nonneg _ h1.1;have t1:Int.tmod x.client p.gives.length<p.gives.length:=Int.tmod_lt_of_pos _ (by omega);obtain⟨g,hgg,hm⟩:=sA1 (l:=c.got) (i:=(Int.tmod x.client p.gives.length).toNat) (by have:=hc.len;omega);have hhas:g.has=true:=by
  have:=Joj c.got;rw[hall,←hc.len,decide_eq_true rfl,JuF] at this;exact this g hm
 obtain⟨_,hsq⟩:=(JkD (hc.got _ (Jut.1 hgg).1) hgg).1 hhas;obtain⟨q1,q2⟩:=Z0.1 hsq;obtain⟨v,hv,hvm⟩:=sA1 (l:=g.seqs) (i:=x.client.toNat) (by omega);have e:Wi p c x=v:=by unfold Wi;rw[QJ hgg,QJ hv]
 rw[e];exact⟨g,t0,hgg,hv,q2 v hvm⟩
theorem Jl6 (p:Pln) (c:Clk) (hp:JC p=true) (hc:Ye p c):Ev L f_k2l (p.cells++c.cells) (JbI p c).ds:=by
 refine Juq (vs:=[.i p.n,.l (Je p.acts),.l (dL p.gives),.l (dL p.start),.b c.up,.i c.round,.l (dL c.base),.l (dDs c.done),.l (dCs c.wants),.l (dGs c.got)]) L_k2l rfl ?_;have hpf:=Yn hp;have hcf:=KA hp hc;have hg:=Qo hp;have hn:=J1 hp;have hb:=QF.1 hc.base;have hw4:=Jbx hp hc.wants hc.asc;refine Jua (vs:=[.b c.up,.i c.round,.l (dL c.base),.l (dDs c.done),.l (dCs c.wants),.l (dGs c.got)]) (VP c hcf) rfl rfl rfl ?_;simp only[sC,sN];refine JtV (dL c.base) 2000000 (by rw[dL1];omega) (by omega) rfl ?_;refine Jt0 (JR c.base) ?_;refine JtV (dL c.base) 2000000 (by rw[dL1];omega) (by omega) rfl ?_;refine Jt7 c.got.length (fun i=>[.l (dL (Xg c.base (c.got.take i))),.i i]) (fun i=>(Xg c.base (c.got.take i)).length=3∧Lim (10000+20000*(i:Int)) (Xg c.base (c.got.take i))) rfl rfl ⟨by simp[Xg];omega,by simpa[Xg] using hb.2⟩ fun i hi hq=>?_;simp only[sC,sN];refine Jub i (Uw c.got) rfl (fun h'=>?_) (fun h'=>Juj ?_)
 ·obtain⟨x,hx,hm⟩:=sA1 h';have hs:=Ji2 (b:=c.base) hx;have hin:=JkD (hc.got i h') hx;refine JtX (vs:=[.b x.has,.l (dL x.added),.l (dL x.seqs)]) i (mA1 (f:=Got.g) hx) rfl rfl rfl rfl ?_;simp only[sC,sN];refine Jt4 x.has rfl (fun hh=>?_) (fun hh=>?_)
  ·have hk:=XN.1 (hin.1 hh).1;have ha:=(ZE (Xt hk.1)).2.2.2.2.2.1;refine JtX (vs:=[.b x.has,.l (dL x.added),.l (dL x.seqs)]) i (mA1 (f:=Got.g) hx) rfl rfl rfl rfl ?_;simp only[sC,sN];have hl3:=hc.len;refine Jua (vs:=[.l (dL (Qm (Xg c.base (c.got.take i)) x.added))]) (Jda hq.1 ha.1 (hq.2.mono (by omega)) (ha.2.mono (by omega))) rfl rfl rfl ?_;rw[hh] at hs;simp only[if_true] at hs;refine Juk (vs:=[.l (dL (Xg c.base (c.got.take (i+1)))),.i ((i+1:Nat):Int)]) ?_ ⟨h',rfl,?_⟩
   ·rw[hs,←wS h' (by omega)];rfl
   ·show (Xg c.base (c.got.take (i+1))).length=3∧Lim (10000+20000*((i+1:Nat):Int)) (Xg c.base (c.got.take (i+1)));rw[hs];refine⟨by rw[Z5 (by omega)];exact hq.1,?_⟩;have:=Jii hq.2 ha.2;rw[show (10000+20000*(i:Int))+20000=10000+20000*((i+1:Nat):Int) by omega] at this;exact this
  ·rw[hh] at hs;simp only[JuI,if_false] at hs;have hl3:=hc.len;refine Juk (vs:=[.l (dL (Xg c.base (c.got.take (i+1)))),.i ((i+1:Nat):Int)]) ?_ ⟨h',rfl,?_⟩
   ·rw[hs,←wS h' (by omega)];rfl
   ·show (Xg c.base (c.got.take (i+1))).length=3∧Lim (10000+20000*((i+1:Nat):Int)) (Xg c.base (c.got.take (i+1)));rw[hs];exact⟨hq.1,hq.2.mono (by omega)⟩
 rw[tA1 h'] at hq ⊢;have hq3:=hq.1;clear hq h' hi;have hhn:=Jk4 c.got;have hl:=hc.len;refine Jua (JcV c hcf.g) rfl rfl rfl ?_;simp only[sC,sN];have bad :∀q,Z2 p c=false→q=c.cells++[D.s [],D.s []]→q=(JbI p c).ds:=fun q h e=>by rw[Jlj h,e];rfl
 refine Jue ((XZ c.got:Int)<(p.gives.length:Int)) (by show decide ((XZ c.got:Int)<((dL p.gives).length:Int))=_;rw[dL1]) (fun h=>JtU (bad _ (by unfold Z2;rw[decide_eq_false (show ¬XZ c.got=p.gives.length by omega)];rfl) rfl)) (fun h=>?_);have hall:XZ c.got=p.gives.length:=by omega
 refine Jue (c.round=200) rfl (fun h=>JtU (bad _ (by unfold Z2;rw[h];simp) rfl)) (fun h2=>?_);refine Jua (Y4 (Xg c.base c.got) (by rw[hq3];omega)) rfl rfl rfl ?_;simp only[sC,sN];refine JtQ (JU (Xg c.base c.got)) rfl (fun h=>JtU (bad _ (by unfold Z2;rw[h];simp) rfl)) (fun h3=>?_);have hgo:Z2 p c=true:=by unfold Z2;rw[hall,h3,decide_eq_true rfl,decide_eq_true h2];rfl
 rw[Jik hgo];refine Jt7 c.wants.length (fun i=>[.l (dDs (JS p c (c.wants.take i)).done),.l (dCs (JS p c (c.wants.take i)).calls),.l (dRr (JS p c (c.wants.take i)).list),.l (dL (JS p c (c.wants.take i)).vals),.i i]) (fun _=>True) rfl rfl trivial fun i hi _=>?_;simp only[sC,sN];have hf:=Jb6 hp hc h3 i hi;refine Jub i (Yk c.wants) rfl (fun h'=>?_) (fun h'=>Juj ?_)
 ·obtain⟨x,hx,hm⟩:=sA1 h';have hs:=JbH p c hx;have hxo:=hc.wants x hm;obtain⟨g,t0,hgg,hsq,hsr⟩:=Jqs hp hc hall hxo;obtain⟨c1,c2,c3,c4⟩:=QV.1 hxo;refine JtX (vs:=[.i x.client,.i x.seq,.i x.act,.l (dL x.args)]) i (mA1 (f:=Cal.g) hx) rfl rfl rfl rfl ?_;simp only[sC,sN];refine Jui (by show (!decide (((dL p.gives).length:Int)=0))=true;rw[dL1,Bool.not_eq_true',decide_eq_false_iff_not];omega) ?_;refine Jt5 (ds:=dGs c.got) (d:=g.g) (vs:=[.b g.has,.l (dL g.added),.l (dL g.seqs)]) (Int.tmod x.client p.gives.length) rfl rfl (by show Int.tmod x.client ((dL p.gives).length:Int)=_;rw[dL1]) t0 (mA1 (f:=Got.g) hgg) rfl ?_;simp only[sC,sN];refine Jt5 (ds:=dL g.seqs) (d:=dI (Wi p c x)) (vs:=[.i (Wi p c x)]) x.client rfl rfl rfl c1.1 (mA1 (f:=dI) hsq) rfl ?_;simp only[sC,sN];have hstep:U7 p c (JS p c (c.wants.take i)) x=if x.seq=Wi p c x+1 then Jdw p (JS p c (c.wants.take i)) x else JS p c (c.wants.take i):=rfl;rw[hstep] at hs;generalize JS p c (c.wants.take i)=r at *;generalize Wi p c x=sq at *;have hw:i64.wrap ((i:Int)+1)=((i+1:Nat):Int):=wS h' (by omega);refine Jue (x.seq=sq+1) (by show decide (x.seq=i64.wrap (sq+1))=_;rw[w64 (by omega) (by omega)]) (fun he=>?_) (fun he=>?_)
  ·rw[if_pos he] at hs;obtain⟨hma,hka⟩:=Jah (as:=p.acts) c3.1 (by omega);obtain⟨r1,r2,r3⟩:=run_ok hp hf.vals hxo;have hrun:=JjJ (p.acts.getD x.act.toNat []) r.vals x.args (hpf.1.2 _ hma) (by have:=(QF.1 hf.vals).1;omega) (by have:=(X3.1 c4).1;omega);have ero:Z8 (p.acts.getD x.act.toNat []) r.vals x.args=Zn p r x:=rfl;rw[ero] at hrun;have hdl:Jdw p r x=⟨r.done.set x.client.toNat ⟨x.seq,(Zn p r x).code,(Zn p r x).tells⟩,r.calls++[x],r.list++[((Zn p r x).code,(Zn p r x).tells)],(Zn p r x).is⟩:=rfl;rw[hdl] at hs;generalize Zn p r x=R at *;have htl:R.tells.length≤2000000:=by have:=(YD.1 r2).2.1;omega
   refine Jt5 (ds:=Je p.acts) (d:= .s (Jk (p.acts.getD x.act.toNat []))) (vs:=[.l (Jk (p.acts.getD x.act.toNat []))]) x.act rfl rfl rfl c3.1 (mA1 (f:=fun a=>D.s (Jk a)) hka) rfl ?_;simp only[sC,sN];refine Jua (vs:=[.i R.code,.l (dL R.tells),.l (dL R.is)]) hrun rfl rfl rfl ?_;simp only[sC,sN];refine Jua (vs:=[.i R.code,.l (dL R.tells)]) (Qe R.code R.tells htl) rfl rfl rfl ?_;simp only[sC,sN];obtain⟨d1,d2⟩:=JA.1 hf.done;obtain⟨y,hy,hym⟩:=sA1 (l:=r.done) (i:=x.client.toNat) (by omega);refine JtY (0≤x.client) rfl c1.1 ?_;refine JtY (x.client<(r.done.length:Int)) (by show decide (x.client<((dDs r.done).length:Int))=_;rw[Qk]) (by omega) ?_;refine Jt5 (ds:=dDs r.done) (d:=y.g) (vs:=[.i y.seq,.i y.code,.l (dL y.tells)]) x.client rfl rfl rfl c1.1 (mA1 (f:=Don.g) hy) rfl ?_;simp only[sC,sN];refine Jua (vs:=[.i x.client,.i x.seq,.i x.act,.l (dL x.args)]) (JX x (Zv hxo)) rfl rfl rfl ?_;simp only[sC,sN];have hcl:=hf.cl;have hll:=hf.ll;refine JtN (dCs r.calls) 2000000 (by rw[Yk];omega) (by omega) rfl ?_;refine Jua (vs:=[.i R.code,.l (dL R.tells)]) (Qe R.code R.tells htl) rfl rfl rfl ?_;simp only[sC,sN];refine JtN (dRr r.list) 2000000 (by rw[show (dRr r.list).length=r.list.length from JuB ..];omega) (by omega) rfl ?_;refine Juk (vs:=[.l (dDs (JS p c (c.wants.take (i+1))).done),.l (dCs (JS p c (c.wants.take (i+1))).calls),.l (dRr (JS p c (c.wants.take (i+1))).list),.l (dL (JS p c (c.wants.take (i+1))).vals),.i ((i+1:Nat):Int)]) ?_ ⟨h',rfl,trivial⟩;rw[hs];show [V.l ((dDs r.done).set x.client.toNat (.g [dI x.seq,dI R.code,.s (dL R.tells)])),V.l (dCs r.calls++[.g [dI x.client,dI x.seq,dI x.act,.s (dL x.args)]]),V.l (dRr r.list++[.g [dI R.code,.s (dL R.tells)]]),V.l (dL R.is),V.i (i64.wrap ((i:Int)+1))]=_
   rw[hw];simp only[dDs,dCs,dRr,List.map_set,List.map_append,JuA,List.map_nil];rfl
  ·rw[if_neg he] at hs;refine Juk (vs:=[.l (dDs (JS p c (c.wants.take (i+1))).done),.l (dCs (JS p c (c.wants.take (i+1))).calls),.l (dRr (JS p c (c.wants.take (i+1))).list),.l (dL (JS p c (c.wants.take (i+1))).vals),.i ((i+1:Nat):Int)]) ?_ ⟨h',rfl,trivial⟩;rw[hs];show [V.l (dDs r.done),V.l (dCs r.calls),V.l (dRr r.list),V.l (dL r.vals),V.i (i64.wrap ((i:Int)+1))]=_;rw[hw]
 ·rw[tA1 h'] at hf ⊢;have hr:=hc.round;refine Jua (Jbn p hpf.2.1) rfl rfl rfl (JtU ?_);generalize JS p c c.wants=r at *;show [dB c.up,dI (i64.wrap (c.round+1)),.s (dL r.vals),.s (dDs r.done),.s [],.s (dGs (List.replicate p.gives.length X2)),.s (dCs r.calls),D.s (dRr r.list)]=_;rw[w64 (by omega) (by omega)];rfl
/- What is heard,where all is ok,by the reference: over residual programs. -/
theorem Jb5 {p:Pln} {b:List Int} {k:Int} (h:JC p=true) (hb:JU b=true) (hk:0≤k∧k<p.gives.length):Xw p b k [0,0,0]=true:=by
 have ht:Qu b p.gives=true:=by
  have:=(J1 h).2.2.2;unfold Qu at this ⊢;simp only[Jus] at this ⊢;exact⟨⟨hb,this.1.2⟩,this.2⟩
 refine XN.2 ⟨Jjc (JmP p.acts) ht hk,?_⟩;unfold Qd;rw[JuF];rintro⟨x,q⟩ hq;have hx:x∈[(0:Int),0,0]:=(List.of_mem_zip hq).1;have:x=0:=by simpa using hx
 subst this;simp
theorem Jc4 {x:Msg} {a v s d:Bool} (h1:a=true∨x.call=⟨0,0,0,[]⟩) (h2:v=true∨x.vals=[]) (h3:s=true∨x.seqs=[]) (h4:d=true∨x.done=[]):XM x a v s d=true:=by
 unfold XM em;simp only[Jus,Bool.or_eq_true,decide_eq_true_eq];exact⟨h1.imp_right fun e=>by rw[e];rfl,h2.imp_right fun e=>by rw[e];rfl,h3.imp_right fun e=>by rw[e];rfl,h4.imp_right fun e=>by rw[e];rfl⟩
theorem JlX {p:Pln} {x:Msg} (hr:0≤x.round∧x.round≤200) (h:x.kind=2) (ht:0≤x.to∧x.to<p.gives.length) (hf:x.frm=0) (hb:XM x false false false false=true):Jv p x=true:=by
 unfold Jv;rw[Jp.2 hr,if_neg (by omega),if_pos h,Yt.2 ht,hf,hb];rfl
theorem Jjr {p:Pln} {x:Msg} (hr:0≤x.round∧x.round≤200) (h:x.kind=3) (ht:x.to = -1) (hf:0≤x.frm∧x.frm<p.gives.length) (hv:JH 3 20000 x.vals=true) (hs:Xr p.n x.seqs=true) (hb:XM x false true true false=true):Jv p x=true:=by
 unfold Jv;rw[Jp.2 hr,if_neg (by omega),if_neg (by omega),if_pos h,Yt.2 hf,ht,hv,hs,hb];rfl
theorem Jjo {p:Pln} {x:Msg} (hr:0≤x.round∧x.round≤200) (h:x.kind=4) (ht:0≤x.to∧x.to<p.gives.length) (hf:x.frm=0) (hv:JU x.vals=true) (hd:JZ p.n x.done=true) (hb:XM x false true false true=true):Jv p x=true:=by
 unfold Jv;rw[Jp.2 hr,if_neg (by omega),if_neg (by omega),if_neg (by omega),if_pos h,Yt.2 ht,hf,hv,hd,hb];rfl
theorem Jp8 {p:Pln} {s:Sit} {k:Int} (hs:J4 p s k=true) (hk:0≤k∧k<p.gives.length):Jv p (XH s k)=true:=by
 obtain⟨h1,h2,h3,h4⟩:=Qf.1 hs;have ha:=(ZE (Xt (XN.1 h3).1)).2.2.2.1;obtain⟨d1,d2⟩:=JA.1 h4;refine Jjr h1 rfl rfl hk ha (Z0.2 ⟨by simp only[XH,Xq,JuB];exact d1,fun x hx=>?_⟩) (Jc4 (.inr rfl) (.inl rfl) (.inl rfl) (.inr rfl));simp only[XH,Xq,List.mem_map] at hx;obtain⟨d,hd,rfl⟩:=hx;rcases YA.1 (d2 d hd) with q | q <;> omega
theorem Jk5 {p:Pln} {s:Sit} {k:Int} {m:Msg} (hp:JC p=true) (hs:J4 p s k=true) (hk:0≤k∧k<p.gives.length) (hm:Jv p m=true) :
  J4 p (J3 p s k m) k=true∧(∀x∈XJ s k m,Jv p x=true)∧(XJ s k m).length≤1:=by
 have hi:=KH hp hm;obtain⟨s1,s2,s3,s4⟩:=Qf.1 hs;refine⟨?_,?_,?_⟩
 ·unfold J3;split
  ·split
   ·exact Qf.2 ⟨s1,s2,s3,s4⟩
   ·split
    ·rename_i h4;obtain⟨p1,p2,p3⟩:=hi.pact h4.1;refine Qf.2 ⟨hi.round,p2,Jb5 hp p2 hk,JA.2 ⟨by rw[ZH];exact(JA.1 s4).1,fun d hd=>?_⟩⟩;rcases JeU (by have:=(JA.1 s4).1;have:=(JA.1 p3).1;omega) hd with q | q
     ·exact(JA.1 s4).2 d q
     ·exact(JA.1 p3).2 d q
    ·exact hs
  ·exact hs
 ·unfold XJ;split
  ·intro x hx;simp only[JuK] at hx;subst hx;exact Jp8 hs hk
  ·intro x hx;simp at hx
 ·unfold XJ;split <;> simp
theorem Jpj {p:Pln} {c:Clk} (hc:Ye p c) {i:Nat} (hi:i<p.gives.length):Jv p (Jhv c i)=true :=
 Jjo hc.round rfl (by show (0:Int)≤(i:Int)∧(i:Int)<(p.gives.length:Int);omega) rfl hc.base hc.done (Jc4 (.inr rfl) (.inl rfl) (.inr rfl) (.inl rfl))
theorem Jq9 {p:Pln} {c:Clk} (hc:Ye p c) {i:Nat} (hi:i<p.gives.length):Jv p (JpT c i)=true :=
 JlX hc.round rfl (by show (0:Int)≤(i:Int)∧(i:Int)<(p.gives.length:Int);omega) rfl (Jc4 (.inr rfl) (.inr rfl) (.inr rfl) (.inr rfl))
theorem Jea {p:Pln} {c:Clk} (hc:Ye p c) {n:Nat} (hn:n≤p.gives.length) :∀x∈Xy c n,Jv p x=true:=by
 intro x hx;simp only[Xy,List.mem_map,List.mem_range] at hx;obtain⟨i,hi,rfl⟩:=hx;exact Jpj hc (by omega)
theorem Jpz {p:Pln} {c:Clk} (hc:Ye p c):(∀x∈JbW c,Jv p x=true)∧(JbW c).length≤2*p.gives.length:=by
 have hl:=hc.len;have hf :∀x∈YN c c.got.length,Jv p x=true:=fun x hx=>by
  simp only[YN,List.mem_map,List.mem_range] at hx;obtain⟨i,hi,rfl⟩:=hx;exact Jq9 hc (by omega)
 unfold JbW;split
 ·split
  ·refine⟨fun x hx=>?_,by rw[Juy,Kf,Jfe];omega⟩;rcases Jux.1 hx with q | q
   ·exact Jea hc (by omega) x q
   ·exact hf x q
  ·exact⟨Jea hc (by omega),by rw[Kf];omega⟩
 ·exact⟨fun x hx=>by simp at hx,by simp⟩
theorem Jp4 {p:Pln} {c:Clk} (hc:Ye p c) (u:Bool):Ye p (Ko c u):=by
 unfold Ko;split
 ·exact hc
 ·exact⟨hc.round,hc.base,hc.done,by show (List.replicate c.got.length X2).length=_;rw[List.length_replicate];exact hc.len,fun j _=>Ji8 ..,fun x hx=>by simp at hx,List.Pairwise.nil,fun _=>⟨rfl,JiK _⟩⟩
structure JjP (p:Pln) (c:Clk) (ms:List Msg) (cs:List Cal) (ls:List (Int×List Int)):Prop where
 c:Ye p c
 hm :∀x∈ms,Jv p x=true
 hc :∀x∈cs,Jq p x=true
 hl :∀x∈ls,JK x.1 x.2=true
 len:ls.length=cs.length
 four:cs.length≤4
 three:ms.length≤3
theorem Jmv (p:Pln) (c:Clk) (m:Msg) (hp:JC p=true) (hc:Ye p c) (hm:Jv p m=true) :
  ∃ c' ms cs ls,Ev L f_k2o (p.cells++[.s (dLL (Jb p.acts)),.s (dBl (Jj p.acts))]++c.cells++m.cells) (c'.cells++[.s (dMs ms),.s (dCs cs),.s (dRr ls)])∧JjP p c' ms cs ls:=by
 have key : ∃ ds,Ev L f_k2o (p.cells++[.s (dLL (Jb p.acts)),.s (dBl (Jj p.acts))]++c.cells++m.cells) ds∧∃ c' ms cs ls,ds=c'.cells++[.s (dMs ms),.s (dCs cs),.s (dRr ls)]∧JjP p c' ms cs ls:=by
  refine Juo (vs:=[.i p.n,.l (Je p.acts),.l (dL p.gives),.l (dL p.start),.l (dLL (Jb p.acts)),.l (dBl (Jj p.acts)),.b c.up,.i c.round,.l (dL c.base),.l (dDs c.done),.l (dCs c.wants),.l (dGs c.got),.i m.kind,.i m.to,.i m.frm,.i m.round,.i m.call.client,.i m.call.seq,.i m.call.act,.l (dL m.call.args),.l (dL m.vals),.l (dL m.seqs),.l (dDs m.done)]) L_k2o rfl ?_;have hpf:=Yn hp;have hcf:=KA hp hc;have hi:=KH hp hm;have hfm:=hi.fit;have hca:=XE hp;have hl:=hc.len;have hps:fitLL (Jb p.acts):=(Q9 p.acts).fitLL (by omega);have same : ∃ c' ms cs ls,c.cells++[D.s [],D.s [],D.s []]=c'.cells++[.s (dMs ms),.s (dCs cs),.s (dRr ls)]∧JjP p c' ms cs ls :=
   ⟨c,[],[],[],rfl,hc,fun x h=>by simp at h,fun x h=>by simp at h,fun x h=>by simp at h,rfl,by simp,by simp⟩
  refine Jua (vs:=[.b c.up,.i c.round,.l (dL c.base),.l (dDs c.done),.l (dCs c.wants),.l (dGs c.got)]) (VP c hcf) rfl rfl rfl ?_;simp only[sC,sN];refine JtQ c.up rfl (fun _=>JtU same) (fun a=>?_);refine JtQ (decide (m.to = -1)) rfl (fun _=>JtU same) (fun b=>?_);have b:m.to = -1:=by simpa using b
  refine Jue (m.kind=1) rfl (fun d=>?_) (fun d=>?_)
  ·have hw:=(hi.want d).2;refine Jua (vs:=[.l (dCs (Yy m.call c.wants))]) (JmG c.wants m.call ⟨hcf.c,hcf.ct⟩ hfm.1) rfl rfl rfl (JtU ?_);refine⟨⟨c.up,c.round,c.base,c.done,Yy m.call c.wants,c.got⟩,[],[],[],rfl,⟨hc.round,hc.base,hc.done,hc.len,hc.got,fun x hx=>?_,JmS hc.asc,fun e=>by rw[a] at e;cases e⟩,fun x h=>by simp at h,fun x h=>by simp at h,fun x h=>by simp at h,rfl,by simp,by simp⟩;rcases Jfi hx with q | q
   ·rw[q];exact hw
   ·exact hc.wants x q
  have hk3:m.kind=3:=by
   have:=hi.kind;have h2:=hi.frz;have h4:=hi.pact;rcases (by omega:m.kind=2∨m.kind=3∨m.kind=4) with q | q | q
   ·have:=h2 q;omega
   ·exact q
   ·have:=(h4 q).1;omega
  obtain⟨_,g2,g3,g4⟩:=hi.give hk3;refine JtQ (decide (m.round=c.round)) rfl (fun _=>JtU same) (fun e=>?_);refine Jua (Zu c.base p.gives (Jb p.acts) m.frm m.vals hcf.b hpf.2.1 hps (by omega)) rfl rfl rfl ?_;simp only[sC,sN];refine JtQ (keeps c.base p.gives (Jb p.acts) m.frm m.vals) rfl (fun _=>JtU same) (fun k1=>?_);refine Jua (WG (Jj p.acts) m.vals (Ve hca) g3) rfl rfl rfl ?_;simp only[sC,sN];refine JtQ (Qd (Jj p.acts) m.vals) rfl (fun _=>JtU same) (fun k2=>?_);refine JtV (dL m.vals) 2000000 (by rw[dL1];omega) (by omega) rfl ?_;refine Jt0 (JR m.vals) ?_;refine JtV (dL m.vals) 2000000 (by rw[dL1];omega) (by omega) rfl ?_;have hq:=hfm.2.2.1;refine JtV (dL m.seqs) 2000000 (by rw[dL1];omega) (by omega) rfl ?_;refine Jt0 (JR m.seqs) ?_;refine JtV (dL m.seqs) 2000000 (by rw[dL1];omega) (by omega) rfl ?_;obtain⟨y,hy,hym⟩:=sA1 (l:=c.got) (i:=m.frm.toNat) (by omega);refine JtY (0≤m.frm) rfl g2.1 ?_;refine JtY (m.frm<(c.got.length:Int)) (by show decide (m.frm<((dGs c.got).length:Int))=_;rw[Uw]) (by omega) ?_;refine Jt5 (ds:=dGs c.got) (d:=y.g) (vs:=[.b y.has,.l (dL y.added),.l (dL y.seqs)]) m.frm rfl rfl rfl g2.1 (mA1 (f:=Got.g) hy) rfl ?_;simp only[sC,sN];have hc2:Ye p ⟨c.up,c.round,c.base,c.done,c.wants,c.got.set m.frm.toNat ⟨true,m.vals,m.seqs⟩⟩:=by
   refine⟨hc.round,hc.base,hc.done,by show (c.got.set m.frm.toNat _).length=_;rw[List.length_set];exact hl,fun j hj=>?_,hc.wants,hc.asc,fun q=>by rw[a] at q;cases q⟩;have hj:j<c.got.length:=by have:j<(c.got.set m.frm.toNat ⟨true,m.vals,m.seqs⟩).length:=hj;rwa [List.length_set] at this
   show Uf p c.base (c.got.set m.frm.toNat ⟨true,m.vals,m.seqs⟩) j=true
   by_cases hij:m.frm.toNat=j
   ·have hgj:(c.got.set m.frm.toNat ⟨true,m.vals,m.seqs⟩)[j]? = some ⟨true,m.vals,m.seqs⟩:=by rw[hij,List.getElem?_set_self hj]
    unfold Uf;rw[QJ hgj];simp only[if_true,Jus];exact⟨XN.2 ⟨by rw[show ((j:Nat):Int)=m.frm by omega];exact k1,k2⟩,g4⟩
   ·have:=hc.got j hj;unfold Uf at this ⊢;rw[Juv,List.getElem?_set_ne hij,←Juv];exact this
  have hfo:=Jqa hp hc2;have hev:=Jl6 p _ hp hc2;have hset:(dGs c.got).set m.frm.toNat (.g [dB true,.s (dL m.vals),.s (dL m.seqs)])=dGs (c.got.set m.frm.toNat ⟨true,m.vals,m.seqs⟩):=by simp only[dGs,List.map_set];rfl
  have harg:p.cells++(Clk.mk c.up c.round c.base c.done c.wants (c.got.set m.frm.toNat ⟨true,m.vals,m.seqs⟩)).cells=[dI p.n,.s (Je p.acts),.s (dL p.gives),.s (dL p.start),dB c.up,dI c.round,.s (dL c.base),.s (dDs c.done),.s (dCs c.wants),D.s ((dGs c.got).set m.frm.toNat (.g [dB true,.s (dL m.vals),.s (dL m.seqs)]))]:=by rw[hset];rfl
  rw[harg] at hev;generalize JbI p ⟨c.up,c.round,c.base,c.done,c.wants,c.got.set m.frm.toNat ⟨true,m.vals,m.seqs⟩⟩=r at *;refine Jua (vs:=[.b r.c.up,.i r.c.round,.l (dL r.c.base),.l (dDs r.c.done),.l (dCs r.c.wants),.l (dGs r.c.got),.l (dCs r.calls),.l (dRr r.list)]) hev rfl rfl rfl ?_;simp only[sC,sN];refine Jt4 (decide (r.c.round=c.round)) rfl (fun _=>JtU ?_) (fun _=>?_)
  ·exact⟨r.c,[],r.calls,r.list,rfl,hfo.c,fun x h=>by simp at h,hfo.calls,hfo.list,hfo.len,hfo.four,by simp⟩
  ·refine Jua (vs:=[.l (dMs (Xy r.c p.gives.length))]) (JeX p r.c hpf (KA hp hfo.c)) rfl rfl rfl (JtU ?_);have hg:=Qo hp;exact⟨r.c,Xy r.c p.gives.length,r.calls,r.list,rfl,hfo.c,Jea hfo.c (Nat.le_refl _),hfo.calls,hfo.list,hfo.len,hfo.four,by rw[Kf];omega⟩
 obtain⟨ds,e,c',ms,cs,ls,rfl,h⟩:=key;exact⟨c',ms,cs,ls,e,h⟩
end Go.Proofs.YtofcmnglieaoeaaGreatDoor

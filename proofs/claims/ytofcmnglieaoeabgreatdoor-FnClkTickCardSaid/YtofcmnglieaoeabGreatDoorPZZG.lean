import Derived.Test.YtofcmnglieaoeabGreatDoorPZZD
import Derived.Test.YtofcmnglieaoeabGreatDoorPZR
set_option linter.unusedVariables false
set_option linter.unusedSimpArgs false
/- What the clerk hears,by the reference: over residual programs. -/
namespace Go.Proofs.YtofcmnglieaoeabGreatDoor
open Go Go.Tm
open Go.IntKind (i64)
theorem Jpv {l:Jg} (h:l.ok=true):Frm.fit l.f:=by
 by_cases h4:l.kind=4
 ·unfold Jg.ok at h;rw[if_neg (by omega),if_neg (by omega),if_neg (by omega)] at h;simp only[JuR,decide_eq_true_eq] at h;exact⟨by omega,by omega⟩
 ·have:=X5 h h4;simp only[Frm.small,JuR,Jp] at this;exact⟨by omega,by omega⟩
theorem Zk {p:Pln} (h:JE p=true):JR p:=by
 have hc:=X7 (XI h);have hg:=Qg h;have hs:=(J2 h).2.2.1;refine⟨⟨by omega,fun a ha=>?_⟩,by omega,by omega⟩;obtain⟨h1,h2⟩:=KM (hc.2.2 a ha);exact⟨by omega,fun l hl=>Jpv (h2 l hl)⟩
theorem Jlp {d:Don} (h:Xo d=true):YZ d:=by
 rcases Yy.1 h with h | h
 ·unfold YZ;omega
 ·have:=(Yz.1 h.2.2).2.1;unfold YZ;omega
theorem Jc8 {n:Int} {l:List Don} (h:JX n l=true) (h4:n≤4):UN YZ l :=
 ⟨by have:=(JK.1 h).1;omega,fun d hd=>Jlp ((JK.1 h).2 d hd)⟩
theorem Jjc {p:Pln} {b:List Int} {k:Int} {a:List Int} (h:Q9 p b k a=true):a.length=3:=VT (XY.1 h).1
theorem Wa {p:Pln} {s:Sit} {k:Int} (hp:JE p=true) (h:Q3 p s k=true):KF s:=by
 obtain⟨_,h2,h3,h4⟩:=Qk.1 h;have hd:=Jc8 h4 (J2 hp).2.1;have:=(QL.1 h2).1;have:=Jjc h3;exact⟨by omega,by omega,hd.1,hd.2⟩
theorem ZC {p:Pln} {c:Cal} (h:Jl p c=true):YS c:=by
 have:=(Ya.1 (Qf.1 h).2.2.2).1;unfold YS;omega
theorem Uo {n:Int} {l:List Int}:QO n l=true↔(l.length:Int)=n∧∀x∈l,0≤x∧x≤300:=by
 unfold QO;simp only[JuR,decide_eq_true_eq,Ju4,Jq]
theorem JeL {c:Cal} (h:Xp c=true):c.args.length=0:=by
 unfold Xp at h;simp only[JuR,decide_eq_true_eq] at h;exact h.2.2.2
structure JrP (p:Pln) (x:Msg):Prop where
 round:0≤x.round∧x.round≤200
 want:x.kind=1→x.to = -1∧Jl p x.call=true
 frz:x.kind=2→0≤x.to∧x.to<p.gives.length
 give:x.kind=3→x.to = -1∧(0≤x.frm∧x.frm<p.gives.length)∧x.vals.length=3∧QO p.n x.seqs=true
 pact:x.kind=4→(0≤x.to∧x.to<p.gives.length)∧JS x.vals=true∧JX p.n x.done=true
 kind:1≤x.kind∧x.kind≤4
 fit:Zb x
theorem Zd {p:Pln} {k:Int}:XK p k=true↔0≤k∧k<p.gives.length:=by unfold XK;rw[Jq];omega
theorem Jcv {x:Msg} {a v s d:Bool} (h:XO x a v s d=true):(a=false→x.call.args.length=0)∧(v=false→x.vals.length=0)∧(s=false→x.seqs.length=0)∧(d=false→x.done.length=0):=by
 unfold XO em at h;simp only[JuR,Bool.or_eq_true,decide_eq_true_eq] at h;obtain⟨h1,h2,h3,h4⟩:=h;refine⟨fun e=>?_,fun e=>?_,fun e=>?_,fun e=>?_⟩
 ·subst e;exact JeL (h1.resolve_left (by simp))
 ·subst e;exact h2.resolve_left (by simp)
 ·subst e;exact h3.resolve_left (by simp)
 ·subst e;exact h4.resolve_left (by simp)
theorem Ul {p:Pln} {x:Msg} (hp:JE p=true) (h:JC p x=true):JrP p x:=by
 have hn:=J2 hp;have no :∀{l:List Don},l.length=0→UN YZ l:=fun h=>by rw[List.length_eq_zero_iff.1 h];exact⟨by simp,fun d hd=>by simp at hd⟩
 unfold JC at h;rw[JuR,Jq] at h;obtain⟨hr,h⟩:=h;split at h
 ·rename_i k;simp only[JuR,decide_eq_true_eq] at h;obtain⟨h1,h2,h3,h4,h5⟩:=h;have hb:=Jcv h5;exact⟨hr,fun _=>⟨h1,h4⟩,fun e=>by omega,fun e=>by omega,fun e=>by omega,by omega,⟨ZC h4,by have:=hb.2.1 rfl;omega,by have:=hb.2.2.1 rfl;omega,no (hb.2.2.2 rfl)⟩⟩
 split at h
 ·rename_i k1 k;simp only[JuR,decide_eq_true_eq] at h;obtain⟨h1,h2,h5⟩:=h;have hb:=Jcv h5;exact⟨hr,fun e=>by omega,fun _=>Zd.1 h1,fun e=>by omega,fun e=>by omega,by omega,⟨by have:=hb.1 rfl;omega,by have:=hb.2.1 rfl;omega,by have:=hb.2.2.1 rfl;omega,no (hb.2.2.2 rfl)⟩⟩
 split at h
 ·rename_i k1 k2 k;simp only[JuR,decide_eq_true_eq] at h;obtain⟨h1,h2,h3,h4,h5⟩:=h;have hb:=Jcv h5;have hv:=(Jp.1 h3).1;have hq:=(Uo.1 h4).1;exact⟨hr,fun e=>by omega,fun e=>by omega,fun _=>⟨h1,Zd.1 h2,by omega,h4⟩,fun e=>by omega,by omega,⟨by have:=hb.1 rfl;omega,by omega,by omega,no (hb.2.2.2 rfl)⟩⟩
 split at h
 ·rename_i k1 k2 k3 k;simp only[JuR,decide_eq_true_eq] at h;obtain⟨h1,h2,h3,h4,h5⟩:=h;have hb:=Jcv h5;have hv:=(QL.1 h3).1;exact⟨hr,fun e=>by omega,fun e=>by omega,fun e=>by omega,fun _=>⟨Zd.1 h1,h3,h4⟩,by omega,⟨by have:=hb.1 rfl;omega,by omega,by have:=hb.2.2.1 rfl;omega,Jc8 h4 hn.2.1⟩⟩
 ·cases h
def Asc (l:List Cal):Prop:=l.Pairwise fun a b=>a.client<b.client
theorem JfI {p:Pln} {l:List Cal}:JT l.length (Yk p l)=true↔(∀x∈l,Jl p x=true)∧Asc l:=by
 rw[X9];constructor
 ·intro h;have h1 :∀(j:Nat) (x:Cal),l[j]? = some x→Jl p x=true∧(0<j→(l.getD (j-1) ⟨0,0,0,[]⟩).client<x.client):=fun j x hx=>by
   have:=h j (JuS.1 hx).1;rw[Jaw hx,JuR,Bool.or_eq_true,decide_eq_true_eq,decide_eq_true_eq] at this;exact⟨this.1,fun hj=>this.2.resolve_left (by omega)⟩
  refine⟨fun x hx=>?_,?_⟩
  ·obtain⟨j,hj⟩:=List.getElem?_of_mem hx;exact(h1 j x hj).1
  ·have step :∀(d i:Nat) (a b:Cal),l[i]? = some a→l[i+d+1]? = some b→a.client<b.client:=by
    intro d
    induction d with
    | zero =>
     intro i a b ha hb;have:=(h1 _ _ hb).2 (by omega);rw[show i+0+1-1=i by omega,Qi ha] at this;exact this
    | succ d ih =>
     intro i a b ha hb;have hl:=(JuS.1 hb).1;obtain⟨y,hy,_⟩:=sA1 (l:=l) (i:=i+d+1) (by omega);have h2:=ih i a y ha hy;have h3:=(h1 _ _ hb).2 (by omega);rw[show i+(d+1)+1-1=i+d+1 by omega,Qi hy] at h3;omega
   unfold Asc;rw[List.pairwise_iff_getElem];intro i j hi hj hij;exact step (j-i-1) i _ _ (Ju2 hi) (by rw[show i+(j-i-1)+1=j by omega];exact Ju2 hj)
 ·rintro⟨h1,h2⟩ j hj;obtain⟨x,hx,hm⟩:=sA1 hj;rw[Jaw hx,h1 x hm,Jvb,Bool.or_eq_true,decide_eq_true_eq,decide_eq_true_eq]
  by_cases h0:j=0
  ·exact .inl h0
  ·right;obtain⟨y,hy,_⟩:=sA1 (l:=l) (i:=j-1) (by omega);rw[Qi hy];unfold Asc at h2;rw[List.pairwise_iff_getElem] at h2;obtain⟨hi1,rfl⟩:=JuS.1 hx;obtain⟨hi2,rfl⟩:=JuS.1 hy;exact h2 _ _ _ _ (by omega)
theorem Jp1 {l:List Cal} (h:Asc l) :∀(a b:Int),(∀x∈l,a≤x.client∧x.client≤b)→(l.length:Int)≤b-a+1∨l=[]:=by
 induction l with
 | nil=>intro a b _;exact .inr rfl
 | cons x l ih =>
  intro a b hb;left;rw[Asc,List.pairwise_cons] at h;have hx:=hb x (List.mem_cons_self ..);rcases ih h.2 (x.client+1) b (fun y hy=>⟨by have:=h.1 y hy;omega,(hb y (List.mem_cons_of_mem _ hy)).2⟩) with q | q
  ·simp only[List.length_cons];omega
  ·subst q;simp only[List.length_cons,List.length_nil];omega
theorem KU {p:Pln} {l:List Cal} (hp:JE p=true) (h :∀x∈l,Jl p x=true) (ha:Asc l):l.length≤4:=by
 have hn:=J2 hp;rcases Jp1 ha 0 (p.n-1) (fun x hx=>(Qf.1 (h x hx)).1) with q | q
 ·omega
 ·subst q;simp
def Q8 (x:Cal):List Cal→List Cal
 | []=>[x]
 | y::l=>if x.client≤y.client then(if y.client=x.client then(if x.seq<y.seq then y::l else x::l) else x::y::l) else y::Q8 x l
theorem Ja3 {x z:Cal} {l:List Cal} (h:z∈Q8 x l):z=x∨z∈l:=by
 induction l with
 | nil=>simp only[Q8,Ju9] at h;exact .inl h
 | cons y l ih =>
  unfold Q8 at h;split at h
  ·split at h
   ·split at h
    ·exact .inr h
    ·rcases Jva.1 h with q | q
     ·exact .inl q
     ·exact .inr (List.mem_cons_of_mem _ q)
   ·rcases Jva.1 h with q | q
    ·exact .inl q
    ·exact .inr q
  ·rcases Jva.1 h with q | q
   ·exact .inr (by rw[q];exact List.mem_cons_self ..)
   ·rcases ih q with q | q
    ·exact .inl q
    ·exact .inr (List.mem_cons_of_mem _ q)
theorem JlN {x:Cal} {l:List Cal} (h:Asc l):Asc (Q8 x l):=by
 induction l with
 | nil=>simp[Q8,Asc]
 | cons y l ih =>
  rw[Asc,List.pairwise_cons] at h;unfold Q8;split
  ·split
   ·split
    ·exact List.pairwise_cons.2 h
    ·rename_i e _;exact List.pairwise_cons.2 ⟨fun z hz=>by have:=h.1 z hz;omega,h.2⟩
   ·rename_i e1 e2;refine List.pairwise_cons.2 ⟨fun z hz=>?_,List.pairwise_cons.2 h⟩;rcases Jva.1 hz with q | q
    ·subst q;omega
    ·have:=h.1 z q;omega
  ·rename_i e;refine List.pairwise_cons.2 ⟨fun z hz=>?_,ih h.2⟩;rcases Ja3 hz with q | q
   ·subst q;omega
   ·exact h.1 z q
theorem Ji5 (l:List Cal) (x:Cal):dCs l++[x.g]=dCs (l++[x]):=by simp[dCs]
theorem Jky {x y:Cal} {l:List Cal} (h:x.client≤y.client):Q8 x (y::l)=if y.client=x.client then(if x.seq<y.seq then y::l else x::l) else x::y::l:=by rw[Q8,if_pos h]
theorem VN (l : List Cal) (x : Cal) (hl : UN YS l) (hx : YS x) : Ev L f_k2i ([.s (dCs l)] ++ x.cells) [.s (dCs (Q8 x l))] := by
  refine JuM (vs:=[.l (dCs l),.i x.client,.i x.seq,.i x.act,.l (dL x.args)]) L_k2i rfl ?_
  have hl0:=hl.1
  refine Juw l.length (fun i vs=>∃ (out:List Cal) (b:Bool),vs=[.l (dCs out),.b b,.i i]∧out.length≤i+1∧(if b then out++l.drop i=Q8 x l else out=l.take i∧Q8 x l=l.take i++Q8 x (l.drop i))) rfl ⟨[],false,rfl,by simp,by simp⟩ ?_
  rintro i vs hi ⟨out,b,rfl,hol,hq⟩
  simp only[sC,sN]
  have app :∀y:Cal,dCs out++[.g [dI y.client,dI y.seq,dI y.act,.s (dL y.args)]]=dCs (out++[y]):=fun y=>Ji5 out y
  have app2 :∀y z:Cal,dCs out++[.g [dI y.client,dI y.seq,dI y.act,.s (dL y.args)]]++[.g [dI z.client,dI z.seq,dI z.act,.s (dL z.args)]]=dCs (out++[y,z]):=fun y z=>by simp[dCs,Cal.g,Cal.cells]
  refine JuF i (Xr l) rfl (fun h'=>?_) (fun h'=>JuJ ?_)
  · obtain⟨y,hy,hm⟩:=sA1 h'
    have hyf:=hl.2 y hm
    have hdr:l.drop i=y::l.drop (i+1):=XH hy
    have htk:=tS1 hy
    have hw:=wS h' (by omega)
    have ix :∀{r:R} {vs:List V} {n:Nat} {Q:Oc→Prop},n=vs.length→lst (Jn vs) (.v 0)=dCs l→int (Jn vs) (.v 7)=i→WR L r (vs++[.i y.client,.i y.seq,.i y.act,.l (dL y.args)]) Q→WR L (.i (.idx (.v 0) (.v 7) (.g [.i .i64,.i .i64,.i .i64,.s]) n) r) vs Q:=fun hn h0 h7 h =>
      Jud (vs:=[.i y.client,.i y.seq,.i y.act,.l (dL y.args)]) i (mA1 (f:=Cal.g) hy) hn h0 h7 rfl h
    have ca :∀{r:R} {vs:List V} {e:E} {Q:Oc→Prop},lst (Jn vs) (.v 5)=dCs out→WR L r vs Q→WR L (.i (.chk (.cmp .le (.len (.app (.v 5) (.cons e .nil))) (.z 1466015503701))) r) vs Q:=fun h5 h =>
      Jug (dCs out) 2000001 (by rw[Xr];omega) (by omega) h5 h
    have ca2 :∀{r:R} {vs:List V} {e e2:E} {Q:Oc→Prop},lst (Jn vs) (.v 5)=dCs out→WR L r vs Q→WR L (.i (.chk (.cmp .le (.len (.app (.app (.v 5) (.cons e .nil)) (.cons e2 .nil))) (.z 1466015503701))) r) vs Q:=fun {_ vs e _ _} h5 h =>
      Jug (dCs out++[dat (Jn vs) e]) 2000002 (by rw[JuX,Xr];simp;omega) (by omega) (by show lst (Jn vs) (.v 5)++[dat (Jn vs) e]=_;rw[h5]) h
    cases b with
    | true =>
      refine Jul rfl (ix rfl rfl rfl ?_)
      simp only[sC,sN]
      refine ca rfl ?_
      refine JuK (vs:=[.l (dCs (out++[y])),.b true,.i ((i+1:Nat):Int)]) ?_ ⟨h',out++[y],true,rfl,by simp;omega,?_⟩
      · rw[←app y,←hw];rfl
      · simp only[if_true] at hq ⊢
        rw[←hq,hdr];simp
    | false =>
      simp only[Ju7,if_false] at hq
      obtain⟨rfl,hq⟩:=hq
      rw[hdr] at hq
      refine Jur rfl (ix rfl rfl rfl ?_)
      simp only[sC,sN]
      refine JuB (x.client≤y.client) rfl (fun hle=>?_) (fun hle=>?_)
      · rw[Jky hle] at hq
        have fin2 :∀o2:List Cal,o2++l.drop (i+1)=Q8 x l→o2.length≤i+2→∃ (o3:List Cal) (b:Bool),[V.l (dCs o2),.b true,.i ((i+1:Nat):Int)]=[V.l (dCs o3),.b b,.i ((i+1:Nat):Int)]∧o3.length≤i+1+1∧(if b then o3++l.drop (i+1)=Q8 x l else o3=l.take (i+1)∧Q8 x l=l.take (i+1)++Q8 x (l.drop (i+1))) :=
          fun o2 h1 h2=>⟨o2,true,rfl,by omega,by simpa using h1⟩
        refine ix rfl rfl rfl ?_
        simp only[sC,sN]
        refine JuB (y.client=x.client) rfl (fun he=>?_) (fun he=>?_)
        · rw[if_pos he] at hq
          refine ix rfl rfl rfl ?_
          simp only[sC,sN]
          refine JuB (x.seq<y.seq) rfl (fun hs=>?_) (fun hs=>?_)
          · rw[if_pos hs] at hq
            refine ix rfl rfl rfl (ca rfl (ix rfl rfl rfl ?_))
            simp only[sC,sN]
            refine Jur (by show decide (y.client=x.client)=true;exact decide_eq_true he) ?_
            refine JuK (vs:=[.l (dCs (l.take i++[y])),.b true,.i ((i+1:Nat):Int)]) ?_ ⟨h',fin2 _ (by rw[hq];simp) (by simp;omega)⟩
            rw[←app y,←hw];rfl
          · rw[if_neg hs] at hq
            refine Juc (vs:=[.i x.client,.i x.seq,.i x.act,.l (dL x.args)]) (J0 x hx) rfl rfl rfl ?_
            simp only[sC,sN]
            refine ca rfl (ix rfl rfl rfl ?_)
            simp only[sC,sN]
            refine Jur (by show decide (y.client=x.client)=true;exact decide_eq_true he) ?_
            refine JuK (vs:=[.l (dCs (l.take i++[x])),.b true,.i ((i+1:Nat):Int)]) ?_ ⟨h',fin2 _ (by rw[hq];simp) (by simp;omega)⟩
            rw[←app x,←hw];rfl
        · rw[if_neg he] at hq
          refine Juc (vs:=[.i x.client,.i x.seq,.i x.act,.l (dL x.args)]) (J0 x hx) rfl rfl rfl ?_
          simp only[sC,sN]
          refine ca rfl (ix rfl rfl rfl ?_)
          simp only[sC,sN]
          refine Jul (by show decide (y.client=x.client)=false;exact decide_eq_false he) ?_
          refine ix rfl rfl rfl (ca2 rfl ?_)
          simp only[sC,sN]
          refine JuK (vs:=[.l (dCs (l.take i++[x,y])),.b true,.i ((i+1:Nat):Int)]) ?_ ⟨h',fin2 _ (by rw[hq];simp) (by simp;omega)⟩
          rw[←app2 x y,←hw];rfl
      · refine ix rfl rfl rfl (ca rfl ?_)
        simp only[sC,sN]
        refine JuK (vs:=[.l (dCs (l.take i++[y])),.b false,.i ((i+1:Nat):Int)]) ?_ ⟨h',l.take i++[y],false,rfl,by simp;omega,?_⟩
        · rw[←app y,←hw];rfl
        · simp only[Ju7,if_false]
          rw[htk]
          refine⟨rfl,?_⟩
          rw[hq,Q8,if_neg hle];simp
  · have hd:l.drop i=[]:=List.drop_eq_nil_of_le (by omega)
    cases b with
    | true =>
      simp only[if_true,hd,List.append_nil] at hq
      subst hq
      exact Jul rfl (JuC rfl)
    | false =>
      simp only[Ju7,if_false,hd] at hq
      obtain⟨rfl,hq⟩:=hq
      refine Jur rfl (Juc (vs:=[.i x.client,.i x.seq,.i x.act,.l (dL x.args)]) (J0 x hx) rfl rfl rfl ?_)
      simp only[sC,sN]
      refine Jug (dCs (l.take i)) 2000001 (by rw[Xr];omega) (by omega) rfl (JuC ?_)
      show [D.s (dCs (l.take i)++[.g [dI x.client,dI x.seq,dI x.act,.s (dL x.args)]])]=_
      rw[app x,hq];rfl
/- A round's end,by the reference: over residual programs. -/
structure XR (p:Pln) (c:Clk):Prop where
 round:0≤c.round∧c.round≤200
 base:JS c.base=true
 done:JX p.n c.done=true
 len:c.got.length=p.gives.length
 got :∀j,j<c.got.length→YX p c.base c.got j=true
 wants :∀x∈c.wants,Jl p x=true
 asc:Asc c.wants
 down:c.up=false→c.wants=[]∧Xf c.got=0
theorem JoA {p:Pln} {c:Clk} (h:Yd p c=true):XR p c:=by
 unfold Yd at h;simp only[JuR,decide_eq_true_eq,Bool.or_eq_true] at h;obtain⟨h1,h2,h3,⟨h4,h5⟩,h6,h7⟩:=h;obtain⟨w1,w2⟩:=JfI.1 h6;exact⟨Jq.1 h1,h2,h3,h4,X9.1 h5,w1,w2,fun e=>by
  rcases h7 with q | q
  ·rw[e] at q;cases q
  ·exact⟨List.length_eq_zero_iff.1 q.1,q.2⟩⟩
theorem XR.ok {p:Pln} {c:Clk} (h:XR p c):Yd p c=true:=by
 unfold Yd;simp only[JuR,decide_eq_true_eq,Bool.or_eq_true];refine⟨Jq.2 h.round,h.base,h.done,⟨h.len,X9.2 h.got⟩,JfI.2 ⟨h.wants,h.asc⟩,?_⟩;cases e:c.up with
 | true=>exact .inl rfl
 | false=>exact .inr ⟨by rw[(h.down e).1];rfl,(h.down e).2⟩
theorem JjT {p:Pln} {b:List Int} {l:List Got} {j:Nat} {g:Got} (h:YX p b l j=true) (hg:l[j]? = some g):(g.has=true→Q9 p b j g.added=true∧QO p.n g.seqs=true)∧(g.has=false→g.added.length=0∧g.seqs.length=0):=by
 unfold YX at h;rw[Qi hg] at h;cases e:g.has with
 | true=>rw[e] at h;simp only[if_true,JuR] at h;exact⟨fun _=>h,fun q=>Bool.noConfusion q⟩
 | false=>rw[e] at h;simp only[Ju7,if_false,emp,JuR,decide_eq_true_eq] at h;exact⟨fun q=>Bool.noConfusion q,fun _=>h⟩
theorem UH {p:Pln} {c:Clk} (hp:JE p=true) (h:XR p c):QV c:=by
 have hn:=J2 hp;have hg:=Qg hp;have hd:=Jc8 h.done hn.2.1;have hl:=h.len;refine⟨by have:=(QL.1 h.base).1;omega,hd.1,fun d hm=>hd.2 d hm,by have:=KU hp h.wants h.asc;omega,fun d hm=>ZC (h.wants d hm),by omega,fun g hm=>?_⟩;obtain⟨j,hj⟩:=List.getElem?_of_mem hm;have hi:=JjT (h.got j (JuS.1 hj).1) hj;cases e:g.has with
 | true =>
  obtain⟨a,b⟩:=hi.1 e;have:=Jjc a;have:=(Uo.1 b).1;omega
 | false=>have:=hi.2 e;omega
def Xm (b:List Int) (l:List Got):List Int:=l.foldl (fun v g=>if g.has then Qq v g.added else v) b
def dRr (l:List (Int×List Int)):List D:=l.map fun x=> .g [dI x.1,.s (dL x.2)]
structure JaG where
 done:List Don
 calls:List Cal
 list:List (Int×List Int)
 vals:List Int
def Wr (p:Pln) (c:Clk) (w:Cal):Int:=(c.got.getD (Int.tmod w.client p.gives.length).toNat Q7).seqs.getD w.client.toNat 0
def Zp (p:Pln) (r:JaG) (w:Cal):Res:=ZY (p.acts.getD w.act.toNat []) r.vals w.args
def Jdr (p:Pln) (r:JaG) (w:Cal):JaG:=⟨r.done.set w.client.toNat ⟨w.seq,(Zp p r w).code,(Zp p r w).tells⟩,r.calls++[w],r.list++[((Zp p r w).code,(Zp p r w).tells)],(Zp p r w).is⟩
def Vu (p:Pln) (c:Clk) (r:JaG) (w:Cal):JaG:=if w.seq=Wr p c w+1 then Jdr p r w else r
def JW (p:Pln) (c:Clk) (l:List Cal):JaG:=l.foldl (Vu p c) ⟨c.done,[],[],Xm c.base c.got⟩
theorem Jch (p:Pln) (c:Clk) {l:List Cal} {i:Nat} {x:Cal} (h:l[i]? = some x):JW p c (l.take (i+1))=Vu p c (JW p c (l.take i)) x:=by
 rw[tS1 h];simp[JW]
def Ki (p:Pln) (c:Clk):Bool:=decide (Xf c.got=p.gives.length)&&(decide (c.round≠200)&&JS (Xm c.base c.got))
structure Jlf where
 c:Clk
 calls:List Cal
 list:List (Int×List Int)
def Jca (p:Pln) (c:Clk):Jlf :=
 if Ki p c then ⟨⟨c.up,c.round+1,(JW p c c.wants).vals,(JW p c c.wants).done,[],List.replicate p.gives.length Q7⟩,(JW p c c.wants).calls,(JW p c c.wants).list⟩ else ⟨c,[],[]⟩
def Jlf.ds (r:Jlf):List D:=r.c.cells++[.s (dCs r.calls),.s (dRr r.list)]
theorem Jlu {p:Pln} {c:Clk} (h:Ki p c=false):Jca p c=⟨c,[],[]⟩:=by unfold Jca;rw[h];rfl
theorem Jja {p:Pln} {c:Clk} (h:Ki p c=true):Jca p c=⟨⟨c.up,c.round+1,(JW p c c.wants).vals,(JW p c c.wants).done,[],List.replicate p.gives.length Q7⟩,(JW p c c.wants).calls,(JW p c c.wants).list⟩:=by unfold Jca;rw[if_pos h]
structure JaK (p:Pln) (i:Nat) (r:JaG):Prop where
 done:JX p.n r.done=true
 vals:JS r.vals=true
 calls :∀x∈r.calls,Jl p x=true
 list :∀x∈r.list,JM x.1 x.2=true
 cl:r.calls.length≤i
 ll:r.list.length=r.calls.length
theorem run_ok {p:Pln} {r:JaG} {w:Cal} (hp:JE p=true) (hv:JS r.vals=true) (hw:Jl p w=true):JS (Zp p r w).is=true∧JM (Zp p r w).code (Zp p r w).tells=true∧(Zp p r w).code≠0:=by
 obtain⟨_,_,h3,h4⟩:=Qf.1 hw;obtain⟨hm,_⟩:=Jaq (as:=p.acts) h3.1 (by omega);have hf:=JiW ((X7 (XI hp)).2.2 _ hm) hv h4;unfold Zp;generalize ZY (p.acts.getD w.act.toNat []) r.vals w.args=R at *;rcases hf with ⟨a,b,c,d⟩ | ⟨a,b,c⟩
 ·exact⟨b,Yz.2 ⟨by omega,c,.inl a,d⟩,by omega⟩
 ·exact⟨by rw[a];exact hv,Yz.2 ⟨by omega,by rw[b];simp,.inr b,by rw[b];intro x hx;simp at hx⟩,by omega⟩
theorem JaK.step {p:Pln} {c:Clk} {i:Nat} {r:JaG} {w:Cal} (hp:JE p=true) (h:JaK p i r) (hw:Jl p w=true):JaK p (i+1) (Vu p c r w):=by
 unfold Vu;split
 ·obtain⟨r1,r2,r3⟩:=run_ok hp h.vals hw;have hs:=(Qf.1 hw).2.1;refine⟨JcL h.done _ (Yy.2 (.inr ⟨hs.1,hs.2,r2⟩)),r1,fun x hx=>?_,fun x hx=>?_,by simp only[Jdr,JuX,List.length_singleton];have:=h.cl;omega,by simp only[Jdr,JuX,List.length_singleton];have:=h.ll;omega⟩
  ·rcases JuW.1 hx with q | q
   ·exact h.calls x q
   ·simp only[Ju9] at q;subst q;exact hw
  ·rcases JuW.1 hx with q | q
   ·exact h.list x q
   ·simp only[Ju9] at q;subst q;exact r2
 ·exact⟨h.done,h.vals,h.calls,h.list,by have:=h.cl;omega,h.ll⟩
theorem Jcf {p:Pln} {c:Clk} (hp:JE p=true) (hc:XR p c) (hv:JS (Xm c.base c.got)=true) :∀i,i≤c.wants.length→JaK p i (JW p c (c.wants.take i)):=by
 intro i
 induction i with
 | zero=>intro _;exact⟨hc.done,hv,fun x hx=>by simp[JW] at hx,fun x hx=>by simp[JW] at hx,by simp[JW],by simp[JW]⟩
 | succ i ih =>
  intro hi;obtain⟨x,hx,hm⟩:=sA1 (l:=c.wants) (i:=i) (by omega);rw[Jch p c hx];exact(ih (by omega)).step hp (hc.wants x hm)
theorem JhF (p:Pln) (b:List Int) (n j:Nat):YX p b (List.replicate n Q7) j=true:=by
 unfold YX;have:(List.replicate n Q7).getD j Q7=Q7:=by
  rw[JuU,List.getElem?_replicate];split <;> rfl
 rw[this];rfl
theorem JhG (n:Nat):Xf (List.replicate n Q7)=0:=by
 unfold Xf;rw[List.length_eq_zero_iff,List.filter_eq_nil_iff];intro x hx;rw[(List.mem_replicate.1 hx).2];simp[Q7]
structure JqN (p:Pln) (c:Clk) (r:Jlf):Prop where
 c:XR p r.c
 calls :∀x∈r.calls,Jl p x=true
 list :∀x∈r.list,JM x.1 x.2=true
 len:r.list.length=r.calls.length
 four:r.calls.length≤4
theorem Jp9 {p:Pln} {c:Clk} (hp:JE p=true) (hc:XR p c):JqN p c (Jca p c):=by
 cases h:Ki p c with
 | false=>rw[Jlu h];exact⟨hc,fun x hx=>by simp at hx,fun x hx=>by simp at hx,rfl,by simp⟩
 | true =>
  rw[Jja h];unfold Ki at h;simp only[JuR,decide_eq_true_eq] at h;obtain⟨h1,h2,h3⟩:=h;have hf:=Jcf hp hc h3 c.wants.length (Nat.le_refl _);rw[List.take_length] at hf;have hw:=KU hp hc.wants hc.asc;have hr:=hc.round;exact⟨⟨by show 0≤c.round+1∧c.round+1≤200;omega,hf.vals,hf.done,by simp,fun j _=>JhF ..,fun x hx=>by simp at hx,List.Pairwise.nil,fun _=>⟨rfl,JhG _⟩⟩,hf.calls,hf.list,hf.ll,by have:=hf.cl;show (JW p c c.wants).calls.length≤4;omega⟩
theorem JiI {b:List Int} {l:List Got} {i:Nat} {x:Got} (h:l[i]? = some x):Xm b (l.take (i+1))=if x.has then Qq (Xm b (l.take i)) x.added else Xm b (l.take i):=by
 rw[tS1 h];simp[Xm]
theorem Jq2 {p:Pln} {c:Clk} {x:Cal} (hp:JE p=true) (hc:XR p c) (hall:Xf c.got=p.gives.length) (hx:Jl p x=true) :
  ∃ g:Got,(0≤Int.tmod x.client p.gives.length)∧c.got[(Int.tmod x.client p.gives.length).toNat]? = some g∧g.seqs[x.client.toNat]? = some (Wr p c x)∧(0≤Wr p c x∧Wr p c x≤300):=by
 have hg:=Qg hp;obtain⟨h1,_⟩:=Qf.1 hx;have t0:0≤Int.tmod x.client p.gives.length:=Int.tmod_nonneg _ h1.1;have t1:Int.tmod x.client p.gives.length<p.gives.length:=Int.tmod_lt_of_pos _ (by omega);obtain⟨g,hgg,hm⟩:=sA1 (l:=c.got) (i:=(Int.tmod x.client p.gives.length).toNat) (by have:=hc.len;omega);have hhas:g.has=true:=by
  have:=Jnr c.got;rw[hall,←hc.len,decide_eq_true rfl,Ju4] at this;exact this g hm
 obtain⟨_,hsq⟩:=(JjT (hc.got _ (JuS.1 hgg).1) hgg).1 hhas;obtain⟨q1,q2⟩:=Uo.1 hsq;obtain⟨v,hv,hvm⟩:=sA1 (l:=g.seqs) (i:=x.client.toNat) (by omega);have e:Wr p c x=v:=by unfold Wr;rw[Qi hgg,Qi hv]
 rw[e];exact⟨g,t0,hgg,hv,q2 v hvm⟩
theorem JlX (p:Pln) (c:Clk) (hp:JE p=true) (hc:XR p c):Ev L f_k2l (p.cells++c.cells) (Jca p c).ds:=by
 refine JuM (vs:=[.i p.n,.l (Jc p.acts),.l (dL p.gives),.l (dL p.start),.b c.up,.i c.round,.l (dL c.base),.l (dDs c.done),.l (dCs c.wants),.l (dGs c.got)]) L_k2l rfl ?_;have hpf:=Zk hp;have hcf:=UH hp hc;have hg:=Qg hp;have hn:=J2 hp;have hb:=QL.1 hc.base;have hw4:=KU hp hc.wants hc.asc;refine Juc (vs:=[.b c.up,.i c.round,.l (dL c.base),.l (dDs c.done),.l (dCs c.wants),.l (dGs c.got)]) (ZH c hcf) rfl rfl rfl ?_;simp only[sC,sN];refine Jue (dL c.base) 2000000 (by rw[dL1];omega) (by omega) rfl ?_;refine Juu (JV c.base) ?_;refine Jue (dL c.base) 2000000 (by rw[dL1];omega) (by omega) rfl ?_;refine Jut c.got.length (fun i=>[.l (dL (Xm c.base (c.got.take i))),.i i]) (fun i=>(Xm c.base (c.got.take i)).length=3∧Lim (10000+20000*(i:Int)) (Xm c.base (c.got.take i))) rfl rfl ⟨by simp[Xm];omega,by simpa[Xm] using hb.2⟩ fun i hi hq=>?_;simp only[sC,sN];refine JuF i (XC c.got) rfl (fun h'=>?_) (fun h'=>JuJ ?_)
 ·obtain⟨x,hx,hm⟩:=sA1 h';have hs:=JiI (b:=c.base) hx;have hin:=JjT (hc.got i h') hx;refine Jud (vs:=[.b x.has,.l (dL x.added),.l (dL x.seqs)]) i (mA1 (f:=Got.g) hx) rfl rfl rfl rfl ?_;simp only[sC,sN];refine Jup x.has rfl (fun hh=>?_) (fun hh=>?_)
  ·have hk:=XY.1 (hin.1 hh).1;have ha:=(ZB (Xy hk.1)).2.2.2.2.2.1;refine Jud (vs:=[.b x.has,.l (dL x.added),.l (dL x.seqs)]) i (mA1 (f:=Got.g) hx) rfl rfl rfl rfl ?_;simp only[sC,sN];have hl3:=hc.len;refine Juc (vs:=[.l (dL (Qq (Xm c.base (c.got.take i)) x.added))]) (Jdl hq.1 ha.1 (hq.2.mono (by omega)) (ha.2.mono (by omega))) rfl rfl rfl ?_;rw[hh] at hs;simp only[if_true] at hs;refine JuK (vs:=[.l (dL (Xm c.base (c.got.take (i+1)))),.i ((i+1:Nat):Int)]) ?_ ⟨h',rfl,?_⟩
   ·rw[hs,←wS h' (by omega)];rfl
   ·show (Xm c.base (c.got.take (i+1))).length=3∧Lim (10000+20000*((i+1:Nat):Int)) (Xm c.base (c.got.take (i+1)));rw[hs];refine⟨by rw[Kc (by omega)];exact hq.1,?_⟩;have:=Ji1 hq.2 ha.2;rw[show (10000+20000*(i:Int))+20000=10000+20000*((i+1:Nat):Int) by omega] at this;exact this
  ·rw[hh] at hs;simp only[Ju7,if_false] at hs;have hl3:=hc.len;refine JuK (vs:=[.l (dL (Xm c.base (c.got.take (i+1)))),.i ((i+1:Nat):Int)]) ?_ ⟨h',rfl,?_⟩
   ·rw[hs,←wS h' (by omega)];rfl
   ·show (Xm c.base (c.got.take (i+1))).length=3∧Lim (10000+20000*((i+1:Nat):Int)) (Xm c.base (c.got.take (i+1)));rw[hs];exact⟨hq.1,hq.2.mono (by omega)⟩
 rw[tA1 h'] at hq ⊢;have hq3:=hq.1;clear hq h' hi;have hhn:=Jla c.got;have hl:=hc.len;refine Juc (Jev c hcf.g) rfl rfl rfl ?_;simp only[sC,sN];have bad :∀q,Ki p c=false→q=c.cells++[D.s [],D.s []]→q=(Jca p c).ds:=fun q h e=>by rw[Jlu h,e];rfl
 refine JuB ((Xf c.got:Int)<(p.gives.length:Int)) (by show decide ((Xf c.got:Int)<((dL p.gives).length:Int))=_;rw[dL1]) (fun h=>JuC (bad _ (by unfold Ki;rw[decide_eq_false (show ¬Xf c.got=p.gives.length by omega)];rfl) rfl)) (fun h=>?_);have hall:Xf c.got=p.gives.length:=by omega
 refine JuB (c.round=200) rfl (fun h=>JuC (bad _ (by unfold Ki;rw[h];simp) rfl)) (fun h2=>?_);refine Juc (Y6 (Xm c.base c.got) (by rw[hq3];omega)) rfl rfl rfl ?_;simp only[sC,sN];refine JuE (JS (Xm c.base c.got)) rfl (fun h=>JuC (bad _ (by unfold Ki;rw[h];simp) rfl)) (fun h3=>?_);have hgo:Ki p c=true:=by unfold Ki;rw[hall,h3,decide_eq_true rfl,decide_eq_true h2];rfl
 rw[Jja hgo];refine Jut c.wants.length (fun i=>[.l (dDs (JW p c (c.wants.take i)).done),.l (dCs (JW p c (c.wants.take i)).calls),.l (dRr (JW p c (c.wants.take i)).list),.l (dL (JW p c (c.wants.take i)).vals),.i i]) (fun _=>True) rfl rfl trivial fun i hi _=>?_;simp only[sC,sN];have hf:=Jcf hp hc h3 i hi;refine JuF i (Xr c.wants) rfl (fun h'=>?_) (fun h'=>JuJ ?_)
 ·obtain⟨x,hx,hm⟩:=sA1 h';have hs:=Jch p c hx;have hxo:=hc.wants x hm;obtain⟨g,t0,hgg,hsq,hsr⟩:=Jq2 hp hc hall hxo;obtain⟨c1,c2,c3,c4⟩:=Qf.1 hxo;refine Jud (vs:=[.i x.client,.i x.seq,.i x.act,.l (dL x.args)]) i (mA1 (f:=Cal.g) hx) rfl rfl rfl rfl ?_;simp only[sC,sN];refine Jun (by show (!decide (((dL p.gives).length:Int)=0))=true;rw[dL1,Bool.not_eq_true',decide_eq_false_iff_not];omega) ?_;refine Jui (ds:=dGs c.got) (d:=g.g) (vs:=[.b g.has,.l (dL g.added),.l (dL g.seqs)]) (Int.tmod x.client p.gives.length) rfl rfl (by show Int.tmod x.client ((dL p.gives).length:Int)=_;rw[dL1]) t0 (mA1 (f:=Got.g) hgg) rfl ?_;simp only[sC,sN];refine Jui (ds:=dL g.seqs) (d:=dI (Wr p c x)) (vs:=[.i (Wr p c x)]) x.client rfl rfl rfl c1.1 (mA1 (f:=dI) hsq) rfl ?_;simp only[sC,sN];have hstep:Vu p c (JW p c (c.wants.take i)) x=if x.seq=Wr p c x+1 then Jdr p (JW p c (c.wants.take i)) x else JW p c (c.wants.take i):=rfl;rw[hstep] at hs;generalize JW p c (c.wants.take i)=r at *;generalize Wr p c x=sq at *;have hw:i64.wrap ((i:Int)+1)=((i+1:Nat):Int):=wS h' (by omega);refine JuB (x.seq=sq+1) (by show decide (x.seq=i64.wrap (sq+1))=_;rw[w64 (by omega) (by omega)]) (fun he=>?_) (fun he=>?_)
  ·rw[if_pos he] at hs;obtain⟨hma,hka⟩:=Jaq (as:=p.acts) c3.1 (by omega);obtain⟨r1,r2,r3⟩:=run_ok hp hf.vals hxo;have hrun:=Jjt (p.acts.getD x.act.toNat []) r.vals x.args (hpf.1.2 _ hma) (by have:=(QL.1 hf.vals).1;omega) (by have:=(Ya.1 c4).1;omega);have ero:ZY (p.acts.getD x.act.toNat []) r.vals x.args=Zp p r x:=rfl;rw[ero] at hrun;have hdl:Jdr p r x=⟨r.done.set x.client.toNat ⟨x.seq,(Zp p r x).code,(Zp p r x).tells⟩,r.calls++[x],r.list++[((Zp p r x).code,(Zp p r x).tells)],(Zp p r x).is⟩:=rfl;rw[hdl] at hs;generalize Zp p r x=R at *;have htl:R.tells.length≤2000000:=by have:=(Yz.1 r2).2.1;omega
   refine Jui (ds:=Jc p.acts) (d:= .s (Jk (p.acts.getD x.act.toNat []))) (vs:=[.l (Jk (p.acts.getD x.act.toNat []))]) x.act rfl rfl rfl c3.1 (mA1 (f:=fun a=>D.s (Jk a)) hka) rfl ?_;simp only[sC,sN];refine Juc (vs:=[.i R.code,.l (dL R.tells),.l (dL R.is)]) hrun rfl rfl rfl ?_;simp only[sC,sN];refine Juc (vs:=[.i R.code,.l (dL R.tells)]) (Qc R.code R.tells htl) rfl rfl rfl ?_;simp only[sC,sN];obtain⟨d1,d2⟩:=JK.1 hf.done;obtain⟨y,hy,hym⟩:=sA1 (l:=r.done) (i:=x.client.toNat) (by omega);refine Juz (0≤x.client) rfl c1.1 ?_;refine Juz (x.client<(r.done.length:Int)) (by show decide (x.client<((dDs r.done).length:Int))=_;rw[Xj]) (by omega) ?_;refine Jui (ds:=dDs r.done) (d:=y.g) (vs:=[.i y.seq,.i y.code,.l (dL y.tells)]) x.client rfl rfl rfl c1.1 (mA1 (f:=Don.g) hy) rfl ?_;simp only[sC,sN];refine Juc (vs:=[.i x.client,.i x.seq,.i x.act,.l (dL x.args)]) (J0 x (ZC hxo)) rfl rfl rfl ?_;simp only[sC,sN];have hcl:=hf.cl;have hll:=hf.ll;refine Jug (dCs r.calls) 2000000 (by rw[Xr];omega) (by omega) rfl ?_;refine Juc (vs:=[.i R.code,.l (dL R.tells)]) (Qc R.code R.tells htl) rfl rfl rfl ?_;simp only[sC,sN];refine Jug (dRr r.list) 2000000 (by rw[show (dRr r.list).length=r.list.length from Ju0 ..];omega) (by omega) rfl ?_;refine JuK (vs:=[.l (dDs (JW p c (c.wants.take (i+1))).done),.l (dCs (JW p c (c.wants.take (i+1))).calls),.l (dRr (JW p c (c.wants.take (i+1))).list),.l (dL (JW p c (c.wants.take (i+1))).vals),.i ((i+1:Nat):Int)]) ?_ ⟨h',rfl,trivial⟩;rw[hs];show [V.l ((dDs r.done).set x.client.toNat (.g [dI x.seq,dI R.code,.s (dL R.tells)])),V.l (dCs r.calls++[.g [dI x.client,dI x.seq,dI x.act,.s (dL x.args)]]),V.l (dRr r.list++[.g [dI R.code,.s (dL R.tells)]]),V.l (dL R.is),V.i (i64.wrap ((i:Int)+1))]=_
   rw[hw];simp only[dDs,dCs,dRr,List.map_set,List.map_append,JuZ,List.map_nil];rfl
  ·rw[if_neg he] at hs;refine JuK (vs:=[.l (dDs (JW p c (c.wants.take (i+1))).done),.l (dCs (JW p c (c.wants.take (i+1))).calls),.l (dRr (JW p c (c.wants.take (i+1))).list),.l (dL (JW p c (c.wants.take (i+1))).vals),.i ((i+1:Nat):Int)]) ?_ ⟨h',rfl,trivial⟩;rw[hs];show [V.l (dDs r.done),V.l (dCs r.calls),V.l (dRr r.list),V.l (dL r.vals),V.i (i64.wrap ((i:Int)+1))]=_;rw[hw]
 ·rw[tA1 h'] at hf ⊢;have hr:=hc.round;refine Juc (Jbi p hpf.2.1) rfl rfl rfl (JuC ?_);generalize JW p c c.wants=r at *;show [dB c.up,dI (i64.wrap (c.round+1)),.s (dL r.vals),.s (dDs r.done),.s [],.s (dGs (List.replicate p.gives.length Q7)),.s (dCs r.calls),D.s (dRr r.list)]=_;rw[w64 (by omega) (by omega)];rfl
/- What is heard,where all is ok,by the reference: over residual programs. -/
theorem Jce {p:Pln} {b:List Int} {k:Int} (h:JE p=true) (hb:JS b=true) (hk:0≤k∧k<p.gives.length):Q9 p b k [0,0,0]=true:=by
 have ht:Qw b p.gives=true:=by
  have:=(J2 h).2.2.2;unfold Qw at this ⊢;simp only[JuR] at this ⊢;exact⟨⟨hb,this.1.2⟩,this.2⟩
 refine XY.2 ⟨JiJ (Jmj p.acts) ht hk,?_⟩;unfold Qj;rw[Ju4];rintro⟨x,q⟩ hq;have hx:x∈[(0:Int),0,0]:=(List.of_mem_zip hq).1;have:x=0:=by simpa using hx
 subst this;simp
theorem Jc0 {x:Msg} {a v s d:Bool} (h1:a=true∨x.call=⟨0,0,0,[]⟩) (h2:v=true∨x.vals=[]) (h3:s=true∨x.seqs=[]) (h4:d=true∨x.done=[]):XO x a v s d=true:=by
 unfold XO em;simp only[JuR,Bool.or_eq_true,decide_eq_true_eq];exact⟨h1.imp_right fun e=>by rw[e];rfl,h2.imp_right fun e=>by rw[e];rfl,h3.imp_right fun e=>by rw[e];rfl,h4.imp_right fun e=>by rw[e];rfl⟩
theorem Jm2 {p:Pln} {x:Msg} (hr:0≤x.round∧x.round≤200) (h:x.kind=2) (ht:0≤x.to∧x.to<p.gives.length) (hf:x.frm=0) (hb:XO x false false false false=true):JC p x=true:=by
 unfold JC;rw[Jq.2 hr,if_neg (by omega),if_pos h,Zd.2 ht,hf,hb];rfl
theorem Jku {p:Pln} {x:Msg} (hr:0≤x.round∧x.round≤200) (h:x.kind=3) (ht:x.to = -1) (hf:0≤x.frm∧x.frm<p.gives.length) (hv:JJ 3 20000 x.vals=true) (hs:QO p.n x.seqs=true) (hb:XO x false true true false=true):JC p x=true:=by
 unfold JC;rw[Jq.2 hr,if_neg (by omega),if_neg (by omega),if_pos h,Zd.2 hf,ht,hv,hs,hb];rfl
theorem JkE {p:Pln} {x:Msg} (hr:0≤x.round∧x.round≤200) (h:x.kind=4) (ht:0≤x.to∧x.to<p.gives.length) (hf:x.frm=0) (hv:JS x.vals=true) (hd:JX p.n x.done=true) (hb:XO x false true false true=true):JC p x=true:=by
 unfold JC;rw[Jq.2 hr,if_neg (by omega),if_neg (by omega),if_neg (by omega),if_pos h,Zd.2 ht,hf,hv,hd,hb];rfl
theorem Jpn {p:Pln} {s:Sit} {k:Int} (hs:Q3 p s k=true) (hk:0≤k∧k<p.gives.length):JC p (Jfz s k)=true:=by
 obtain⟨h1,h2,h3,h4⟩:=Qk.1 hs;have ha:=(ZB (Xy (XY.1 h3).1)).2.2.2.1;obtain⟨d1,d2⟩:=JK.1 h4;refine Jku h1 rfl rfl hk ha (Uo.2 ⟨by simp only[Jfz,Ka,Ju0];exact d1,fun x hx=>?_⟩) (Jc0 (.inr rfl) (.inl rfl) (.inl rfl) (.inr rfl));simp only[Jfz,Ka,List.mem_map] at hx;obtain⟨d,hd,rfl⟩:=hx;rcases Yy.1 (d2 d hd) with q | q <;> omega
theorem Jp2 {p:Pln} {s:Sit} {k:Int} {m:Msg} (hp:JE p=true) (hs:Q3 p s k=true) (hk:0≤k∧k<p.gives.length) (hm:JC p m=true) :
  Q3 p (U4 p s k m) k=true∧(∀x∈K4 s k m,JC p x=true)∧(K4 s k m).length≤1:=by
 have hi:=Ul hp hm;obtain⟨s1,s2,s3,s4⟩:=Qk.1 hs;refine⟨?_,?_,?_⟩
 ·unfold U4;split
  ·split
   ·exact Qk.2 ⟨s1,s2,s3,s4⟩
   ·split
    ·rename_i h4;obtain⟨p1,p2,p3⟩:=hi.pact h4.1;refine Qk.2 ⟨hi.round,p2,Jce hp p2 hk,JK.2 ⟨by rw[K6];exact(JK.1 s4).1,fun d hd=>?_⟩⟩;rcases Jm5 (by have:=(JK.1 s4).1;have:=(JK.1 p3).1;omega) hd with q | q
     ·exact(JK.1 s4).2 d q
     ·exact(JK.1 p3).2 d q
    ·exact hs
  ·exact hs
 ·unfold K4;split
  ·intro x hx;simp only[Ju9] at hx;subst hx;exact Jpn hs hk
  ·intro x hx;simp at hx
 ·unfold K4;split <;> simp
theorem Jpm {p:Pln} {c:Clk} (hc:XR p c) {i:Nat} (hi:i<p.gives.length):JC p (JdL c i)=true :=
 JkE hc.round rfl (by show (0:Int)≤(i:Int)∧(i:Int)<(p.gives.length:Int);omega) rfl hc.base hc.done (Jc0 (.inr rfl) (.inl rfl) (.inr rfl) (.inl rfl))
theorem Jq1 {p:Pln} {c:Clk} (hc:XR p c) {i:Nat} (hi:i<p.gives.length):JC p (JoG c i)=true :=
 Jm2 hc.round rfl (by show (0:Int)≤(i:Int)∧(i:Int)<(p.gives.length:Int);omega) rfl (Jc0 (.inr rfl) (.inr rfl) (.inr rfl) (.inr rfl))
theorem Jeh {p:Pln} {c:Clk} (hc:XR p c) {n:Nat} (hn:n≤p.gives.length) :∀x∈J6 c n,JC p x=true:=by
 intro x hx;simp only[J6,List.mem_map,List.mem_range] at hx;obtain⟨i,hi,rfl⟩:=hx;exact Jpm hc (by omega)
theorem Jg8 {p:Pln} {c:Clk} (hc:XR p c):(∀x∈Yc c,JC p x=true)∧(Yc c).length≤2*p.gives.length:=by
 have hl:=hc.len;have hf :∀x∈QB c c.got.length,JC p x=true:=fun x hx=>by
  simp only[QB,List.mem_map,List.mem_range] at hx;obtain⟨i,hi,rfl⟩:=hx;exact Jq1 hc (by omega)
 unfold Yc;split
 ·split
  ·refine⟨fun x hx=>?_,by rw[JuX,Qh,ZK];omega⟩;rcases JuW.1 hx with q | q
   ·exact Jeh hc (by omega) x q
   ·exact hf x q
  ·exact⟨Jeh hc (by omega),by rw[Qh];omega⟩
 ·exact⟨fun x hx=>by simp at hx,by simp⟩
theorem JpB {p:Pln} {c:Clk} (hc:XR p c) (u:Bool):XR p (Kx c u):=by
 unfold Kx;split
 ·exact hc
 ·exact⟨hc.round,hc.base,hc.done,by show (List.replicate c.got.length Q7).length=_;rw[List.length_replicate];exact hc.len,fun j _=>JhF ..,fun x hx=>by simp at hx,List.Pairwise.nil,fun _=>⟨rfl,JhG _⟩⟩
structure Jj8 (p:Pln) (c:Clk) (ms:List Msg) (cs:List Cal) (ls:List (Int×List Int)):Prop where
 c:XR p c
 hm :∀x∈ms,JC p x=true
 hc :∀x∈cs,Jl p x=true
 hl :∀x∈ls,JM x.1 x.2=true
 len:ls.length=cs.length
 four:cs.length≤4
 three:ms.length≤3
theorem JlY (p:Pln) (c:Clk) (m:Msg) (hp:JE p=true) (hc:XR p c) (hm:JC p m=true) :
  ∃ c' ms cs ls,Ev L f_k2o (p.cells++[.s (dLL (Jb p.acts)),.s (dBl (Jj p.acts))]++c.cells++m.cells) (c'.cells++[.s (dMs ms),.s (dCs cs),.s (dRr ls)])∧Jj8 p c' ms cs ls:=by
 have key : ∃ ds,Ev L f_k2o (p.cells++[.s (dLL (Jb p.acts)),.s (dBl (Jj p.acts))]++c.cells++m.cells) ds∧∃ c' ms cs ls,ds=c'.cells++[.s (dMs ms),.s (dCs cs),.s (dRr ls)]∧Jj8 p c' ms cs ls:=by
  refine JuO (vs:=[.i p.n,.l (Jc p.acts),.l (dL p.gives),.l (dL p.start),.l (dLL (Jb p.acts)),.l (dBl (Jj p.acts)),.b c.up,.i c.round,.l (dL c.base),.l (dDs c.done),.l (dCs c.wants),.l (dGs c.got),.i m.kind,.i m.to,.i m.frm,.i m.round,.i m.call.client,.i m.call.seq,.i m.call.act,.l (dL m.call.args),.l (dL m.vals),.l (dL m.seqs),.l (dDs m.done)]) L_k2o rfl ?_;have hpf:=Zk hp;have hcf:=UH hp hc;have hi:=Ul hp hm;have hfm:=hi.fit;have hca:=XI hp;have hl:=hc.len;have hps:fitLL (Jb p.acts):=(Xh p.acts).fitLL (by omega);have same : ∃ c' ms cs ls,c.cells++[D.s [],D.s [],D.s []]=c'.cells++[.s (dMs ms),.s (dCs cs),.s (dRr ls)]∧Jj8 p c' ms cs ls :=
   ⟨c,[],[],[],rfl,hc,fun x h=>by simp at h,fun x h=>by simp at h,fun x h=>by simp at h,rfl,by simp,by simp⟩
  refine Juc (vs:=[.b c.up,.i c.round,.l (dL c.base),.l (dDs c.done),.l (dCs c.wants),.l (dGs c.got)]) (ZH c hcf) rfl rfl rfl ?_;simp only[sC,sN];refine JuE c.up rfl (fun _=>JuC same) (fun a=>?_);refine JuE (decide (m.to = -1)) rfl (fun _=>JuC same) (fun b=>?_);have b:m.to = -1:=by simpa using b
  refine JuB (m.kind=1) rfl (fun d=>?_) (fun d=>?_)
  ·have hw:=(hi.want d).2;refine Juc (vs:=[.l (dCs (Q8 m.call c.wants))]) (VN c.wants m.call ⟨hcf.c,hcf.ct⟩ hfm.1) rfl rfl rfl (JuC ?_);refine⟨⟨c.up,c.round,c.base,c.done,Q8 m.call c.wants,c.got⟩,[],[],[],rfl,⟨hc.round,hc.base,hc.done,hc.len,hc.got,fun x hx=>?_,JlN hc.asc,fun e=>by rw[a] at e;cases e⟩,fun x h=>by simp at h,fun x h=>by simp at h,fun x h=>by simp at h,rfl,by simp,by simp⟩;rcases Ja3 hx with q | q
   ·rw[q];exact hw
   ·exact hc.wants x q
  have hk3:m.kind=3:=by
   have:=hi.kind;have h2:=hi.frz;have h4:=hi.pact;rcases (by omega:m.kind=2∨m.kind=3∨m.kind=4) with q | q | q
   ·have:=h2 q;omega
   ·exact q
   ·have:=(h4 q).1;omega
  obtain⟨_,g2,g3,g4⟩:=hi.give hk3;refine JuE (decide (m.round=c.round)) rfl (fun _=>JuC same) (fun e=>?_);refine Juc (ZD c.base p.gives (Jb p.acts) m.frm m.vals hcf.b hpf.2.1 hps (by omega)) rfl rfl rfl ?_;simp only[sC,sN];refine JuE (keeps c.base p.gives (Jb p.acts) m.frm m.vals) rfl (fun _=>JuC same) (fun k1=>?_);refine Juc (WH (Jj p.acts) m.vals (VF hca) g3) rfl rfl rfl ?_;simp only[sC,sN];refine JuE (Qj (Jj p.acts) m.vals) rfl (fun _=>JuC same) (fun k2=>?_);refine Jue (dL m.vals) 2000000 (by rw[dL1];omega) (by omega) rfl ?_;refine Juu (JV m.vals) ?_;refine Jue (dL m.vals) 2000000 (by rw[dL1];omega) (by omega) rfl ?_;have hq:=hfm.2.2.1;refine Jue (dL m.seqs) 2000000 (by rw[dL1];omega) (by omega) rfl ?_;refine Juu (JV m.seqs) ?_;refine Jue (dL m.seqs) 2000000 (by rw[dL1];omega) (by omega) rfl ?_;obtain⟨y,hy,hym⟩:=sA1 (l:=c.got) (i:=m.frm.toNat) (by omega);refine Juz (0≤m.frm) rfl g2.1 ?_;refine Juz (m.frm<(c.got.length:Int)) (by show decide (m.frm<((dGs c.got).length:Int))=_;rw[XC]) (by omega) ?_;refine Jui (ds:=dGs c.got) (d:=y.g) (vs:=[.b y.has,.l (dL y.added),.l (dL y.seqs)]) m.frm rfl rfl rfl g2.1 (mA1 (f:=Got.g) hy) rfl ?_;simp only[sC,sN];have hc2:XR p ⟨c.up,c.round,c.base,c.done,c.wants,c.got.set m.frm.toNat ⟨true,m.vals,m.seqs⟩⟩:=by
   refine⟨hc.round,hc.base,hc.done,by show (c.got.set m.frm.toNat _).length=_;rw[List.length_set];exact hl,fun j hj=>?_,hc.wants,hc.asc,fun q=>by rw[a] at q;cases q⟩;have hj:j<c.got.length:=by have:j<(c.got.set m.frm.toNat ⟨true,m.vals,m.seqs⟩).length:=hj;rwa [List.length_set] at this
   show YX p c.base (c.got.set m.frm.toNat ⟨true,m.vals,m.seqs⟩) j=true
   by_cases hij:m.frm.toNat=j
   ·have hgj:(c.got.set m.frm.toNat ⟨true,m.vals,m.seqs⟩)[j]? = some ⟨true,m.vals,m.seqs⟩:=by rw[hij,List.getElem?_set_self hj]
    unfold YX;rw[Qi hgj];simp only[if_true,JuR];exact⟨XY.2 ⟨by rw[show ((j:Nat):Int)=m.frm by omega];exact k1,k2⟩,g4⟩
   ·have:=hc.got j hj;unfold YX at this ⊢;rw[JuU,List.getElem?_set_ne hij,←JuU];exact this
  have hfo:=Jp9 hp hc2;have hev:=JlX p _ hp hc2;have hset:(dGs c.got).set m.frm.toNat (.g [dB true,.s (dL m.vals),.s (dL m.seqs)])=dGs (c.got.set m.frm.toNat ⟨true,m.vals,m.seqs⟩):=by simp only[dGs,List.map_set];rfl
  have harg:p.cells++(Clk.mk c.up c.round c.base c.done c.wants (c.got.set m.frm.toNat ⟨true,m.vals,m.seqs⟩)).cells=[dI p.n,.s (Jc p.acts),.s (dL p.gives),.s (dL p.start),dB c.up,dI c.round,.s (dL c.base),.s (dDs c.done),.s (dCs c.wants),D.s ((dGs c.got).set m.frm.toNat (.g [dB true,.s (dL m.vals),.s (dL m.seqs)]))]:=by rw[hset];rfl
  rw[harg] at hev;generalize Jca p ⟨c.up,c.round,c.base,c.done,c.wants,c.got.set m.frm.toNat ⟨true,m.vals,m.seqs⟩⟩=r at *;refine Juc (vs:=[.b r.c.up,.i r.c.round,.l (dL r.c.base),.l (dDs r.c.done),.l (dCs r.c.wants),.l (dGs r.c.got),.l (dCs r.calls),.l (dRr r.list)]) hev rfl rfl rfl ?_;simp only[sC,sN];refine Jup (decide (r.c.round=c.round)) rfl (fun _=>JuC ?_) (fun _=>?_)
  ·exact⟨r.c,[],r.calls,r.list,rfl,hfo.c,fun x h=>by simp at h,hfo.calls,hfo.list,hfo.len,hfo.four,by simp⟩
  ·refine Juc (vs:=[.l (dMs (J6 r.c p.gives.length))]) (Je5 p r.c hpf (UH hp hfo.c)) rfl rfl rfl (JuC ?_);have hg:=Qg hp;exact⟨r.c,J6 r.c p.gives.length,r.calls,r.list,rfl,hfo.c,Jeh hfo.c (Nat.le_refl _),hfo.calls,hfo.list,hfo.len,hfo.four,by rw[Qh];omega⟩
 obtain⟨ds,e,c',ms,cs,ls,rfl,h⟩:=key;exact⟨c',ms,cs,ls,e,h⟩
end Go.Proofs.YtofcmnglieaoeabGreatDoor

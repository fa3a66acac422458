import Derived.Test.YtdmjmcegcpdenaaGreatDoorPZR
set_option linter.unusedVariables false
set_option linter.unusedSimpArgs false
/- Results,calls,what was done,messages: which of them are ok. -/
namespace Go.Proofs.YtdmjmcegcpdenaaGreatDoor
open Go Go.Tm
theorem Jg3 (n:Int) (h0 : -999999999999≤n) (h1:n≤999999999999):Ev L f_k1a [dI n] [QU (Lib.itoa n)]:=by
 refine Jti L_k1a ?_
 show (Jb8 (dI n)).map _=_
 rw[show Jb8 (dI n)=some n by show (if _ then some n else none)=_;rw[if_pos (by omega)]]
 rfl
theorem JjC {t:List Int} {i:Nat} {x:Int} (h:t[i]? = some x):Ql (t.take (i+1))=Ql (t.take i)++[32]++Lib.itoa x:=by
 unfold Ql
 rw[tS1 h,List.flatMap_append]
 simp only[List.flatMap_cons,List.flatMap_nil,List.append_nil,List.append_assoc,List.singleton_append]
theorem JiK (c:Int) (t:List Int) (ht:t.length≤2000000):Ev L f_k1b [dI c,.s (dL t)] [QU (KM c t)]:=by
 refine Jtg (vs:=[.i c,.l (dL t)]) L_k1b rfl ?_
 have no:JI c t=false→([QU []]:List D)=[QU (KM c t)]:=fun h=>by simp[KM,h]
 refine JsZ (JL c 1 3) rfl rfl rfl ?_
 refine Jte (inB c 1 3) rfl (fun h=>JsN (no (by simp[JI,h]))) (fun h1=>?_)
 obtain⟨w1,_,w3⟩:=JgE h1
 have hidx:(Qg.map QU)[c.toNat]? = some (QU (Qg.getD c.toNat [])):=by rw[List.getElem?_map,w1];rfl
 have hc0:0≤c:=by unfold inB at h1;simp only[Bool.and_eq_true,decide_eq_true_eq] at h1;omega
 have hc4:c<4:=by unfold inB at h1;simp only[Bool.and_eq_true,decide_eq_true_eq] at h1;omega
 have hal:=Xh t t.length 999999999999 ht (by omega) (by omega)
 have six:6<t.length→JI c t=false:=fun h=>by simp only[JI,show ¬t.length≤6 by omega,decide_false,Bool.false_and,Bool.and_false]
 have ok:t.length≤6→(c=1∨t=[])→JD t.length 999999999999 t=true→JI c t=true:=fun h2 h3 h4=>Yo.2 ⟨by unfold inB at h1;simp only[Bool.and_eq_true,decide_eq_true_eq] at h1;omega,h2,h3,(Jo.1 h4).2⟩
 refine Jte (decide (c=1)) rfl (fun h3=>?_) (fun h3=>?_)
 ·refine JsI (0<((dL t).length:Int)) rfl (fun h=>JsN (no ?_)) (fun h4=>?_)
  ·rw[dL1] at h
   have:t.isEmpty=false:=by cases t with
    | nil=>simp at h
    | cons x t=>rfl
   simp only[JI,h3,this,Bool.or_false,Bool.false_and,Bool.and_false]
  rw[dL1] at h4
  have h4:t=[]:=List.length_eq_zero_iff.1 (by omega)
  refine JsI (6<((dL t).length:Int)) rfl (fun h=>JsN (no (six (by rw[dL1] at h;omega)))) (fun h2=>?_)
  rw[dL1] at h2
  refine JsZ hal rfl (by show [D.s (dL t),dI ((dL t).length:Int),dI 999999999999]=_;rw[dL1]) rfl ?_
  refine Jte (JD t.length 999999999999 t) rfl (fun h=>JsN (no (by simp only[JI,h,Bool.and_false]))) (fun h5=>?_)
  have hok:=ok (by omega) (.inr h4) h5
  have hl:=(Jo.1 h5).2
  have e:QU (KM c t)=QU (Qg.getD c.toNat []++Ql t):=by simp only[KM,hok,if_true]
  rw[e]
  refine Js4 (0≤c) rfl hc0 (Js4 (c<4) rfl hc4 ?_)
  refine Jtd (ds:=Qg.map QU) c rfl rfl rfl hc0 hidx rfl ?_
  subst h4
  refine Jta (fun _ vs=>vs=[.d (QU (Qg.getD c.toNat [])),.i 0]) rfl 0 rfl ?_
  rintro m _ rfl
  refine JsO rfl (JsS (JsN ?_))
  show [QU (Qg.getD c.toNat [])]=[QU (Qg.getD c.toNat []++Ql [])]
  rw[show Ql []=[] from rfl,List.append_nil]
 ·refine JsI (6<((dL t).length:Int)) rfl (fun h=>JsN (no (six (by rw[dL1] at h;omega)))) (fun h2=>?_)
  rw[dL1] at h2
  refine JsZ hal rfl (by show [D.s (dL t),dI ((dL t).length:Int),dI 999999999999]=_;rw[dL1]) rfl ?_
  refine Jte (JD t.length 999999999999 t) rfl (fun h=>JsN (no (by simp only[JI,h,Bool.and_false]))) (fun h5=>?_)
  have hok:=ok (by omega) (.inl (by simpa using h3)) h5
  have hl:=(Jo.1 h5).2
  have e:QU (KM c t)=QU (Qg.getD c.toNat []++Ql t):=by simp only[KM,hok,if_true]
  rw[e]
  refine Js4 (0≤c) rfl hc0 (Js4 (c<4) rfl hc4 ?_)
  refine Jtd (ds:=Qg.map QU) c rfl rfl rfl hc0 hidx rfl ?_
  generalize Qg.getD c.toNat []=wd at *
  refine Js2 t.length (fun i=>[.d (QU (wd++Ql (t.take i))),.i i]) (fun _=>True) rfl ?_ trivial fun i hi _=>?_
  ·show [V.d (QU wd),V.i 0]=_
   rw[List.take_zero,show Ql []=[] from rfl,List.append_nil];rfl
  simp only[sC,sN]
  refine JsY i (dL1 t) rfl (fun h=>?_) (fun h=>JsS (JsN ?_))
  ·obtain⟨x,hx,hm⟩:=sA1 h
   have hxb:=hl x hm
   have hj:=Jdk (t.take i) fun m hm=>hl m (List.mem_of_mem_take hm)
   rw[List.length_take,Nat.min_eq_left (by omega)] at hj
   have hxl:=Lib.itoa_length_le x (by omega) (by omega)
   refine JsJ rfl (Jci (a:=wd++Ql (t.take i)) (b:=[32]) (by simp;omega)) rfl ?_
   refine Js9 i (mA1 (f:=dI) hx) rfl rfl rfl rfl ?_
   refine JsZ (Jg3 x (by omega) (by omega)) rfl rfl rfl ?_
   refine JsJ rfl (Jci (a:=wd++Ql (t.take i)++[32]) (b:=Lib.itoa x) (by simp;omega)) rfl ?_
   refine Js3 (vs:=[.d (QU (wd++Ql (t.take (i+1)))),.i ((i+1:Nat):Int)]) ?_ ⟨h,rfl,trivial⟩
   show [V.d (QU (wd++Ql (t.take i)++[32]++Lib.itoa x)),V.i (IntKind.i64.wrap ((i:Int)+1))]=_
   rw[wS h (by omega),JjC hx]
   simp only[List.append_assoc]
  ·show [QU (wd++Ql (t.take i))]=_
   rw[tA1 h]
theorem Ja8 (c:Int) (t:List Int) (ht:t.length≤2000000):Ev L f_k1c [dI c,.s (dL t)] [dB (JI c t)]:=by
 refine Jtg (vs:=[.i c,.l (dL t)]) L_k1c rfl ?_
 refine JsZ (JiK c t ht) rfl rfl rfl ?_
 refine JsJ rfl (Jlf (KM c t) []) rfl (JsN ?_)
 show [dB (!(KM c t == []))]=_
 rw[JcA,Bool.not_not]
def Jw (p:Pln) (c:Cal):Bool:=inB c.client 0 (p.n-1)&&(inB c.seq 1 300&&(inB c.act 0 ((p.acts.length:Int)-1)&&Xj c.args))
theorem JdF {n:Nat} (h:n≤2000000):IntKind.i64.wrap ((n:Int)-1)=(n:Int)-1:=w64 (by omega) (by omega)
theorem Zw (p:Pln) (c:Cal) (hp:JT p) (h1:1≤p.n) (h2:p.n≤4) (hc:UX c):Ev L f_k19 (p.cells++c.cells) [dB (Jw p c)]:=by
 refine Jtg (vs:=[.i p.n,.l (Jd p.acts),.l (dL p.gives),.l (dL p.start),.i c.client,.i c.seq,.i c.act,.l (dL c.args)]) L_k19 rfl ?_
 have w1:IntKind.i64.wrap (p.n-1)=p.n-1:=w64 (by omega) (by omega)
 have w2:IntKind.i64.wrap (((Jd p.acts).length:Int)-1)=(p.acts.length:Int)-1:=by rw[JM];exact JdF hp.1.1
 refine JsZ (JL c.client 0 (p.n-1)) rfl (by show [dI c.client,dI 0,dI (IntKind.i64.wrap (p.n-1))]=_;rw[w1]) rfl ?_
 refine JsW (inB c.client 0 (p.n-1)) rfl (fun a=>?_) (fun a=>JsN (by show [dB false]=_;simp[Jw,a]))
 refine JsZ (JL c.seq 1 300) rfl rfl rfl ?_
 refine JsW (inB c.seq 1 300) rfl (fun b=>?_) (fun b=>JsN (by show [dB false]=_;simp[Jw,b]))
 refine JsZ (JL c.act 0 ((p.acts.length:Int)-1)) rfl (by show [dI c.act,dI 0,dI (IntKind.i64.wrap (((Jd p.acts).length:Int)-1))]=_;rw[w2]) rfl ?_
 refine JsW (inB c.act 0 ((p.acts.length:Int)-1)) rfl (fun d=>?_) (fun d=>JsN (by show [dB false]=_;simp[Jw,d]))
 refine JsZ (Jjk c.args hc) rfl rfl rfl (JsN ?_)
 show [dB (Xj c.args)]=_
 simp[Jw,a,b,d]
theorem Jl3 (p:Pln) (k:Int) (hp:JT p):Ev L f_k4l (p.cells++[dI k]) [dB (inB k 0 ((p.gives.length:Int)-1))]:=by
 refine Jtg (vs:=[.i p.n,.l (Jd p.acts),.l (dL p.gives),.l (dL p.start),.i k]) L_k4l rfl ?_
 have w1:IntKind.i64.wrap (((dL p.gives).length:Int)-1)=(p.gives.length:Int)-1:=by rw[dL1];exact JdF hp.2.1
 exact JsZ (Y7 k 0 ((p.gives.length:Int)-1)) rfl (by show [dI k,dI 0,dI (IntKind.i64.wrap (((dL p.gives).length:Int)-1))]=_;rw[w1]) rfl (JsN rfl)
theorem Ul (n:Nat) {m:Nat} (h:m=n):decide ((m:Int)=0)=decide (n=0):=by subst h;simp
def Y4 (c:Cal):Bool:=decide (c.client=0)&&(decide (c.seq=0)&&(decide (c.act=0)&&decide (c.args.length=0)))
def Xa (d:Don):Bool:=if d.seq=0 then decide (d.code=0)&&decide (d.tells.length=0) else inB d.seq 1 300&&JI d.code d.tells
def Qc (n:Int) (l:List Don):Bool:=decide ((l.length:Int)=n)&&l.all Xa
def Yf (n:Int) (l:List Int):Bool:=decide ((l.length:Int)=n)&&l.all fun x=>inB x 0 300
theorem Q2 (l:List Don):(dDs l).length=l.length:=by simp[dDs]
theorem Je6 (p:Pln) (l:List Int) (hl:l.length≤2000000):Ev L f_k1n (p.cells++[.s (dL l)]) [dB (Yf p.n l)]:=by
 refine Jtg (vs:=[.i p.n,.l (Jd p.acts),.l (dL p.gives),.l (dL p.start),.l (dL l)]) L_k1n rfl ?_
 refine Jte (decide ((l.length:Int)=p.n)) (by show (!decide (((dL l).length:Int)=p.n))=_;rw[dL1]) (fun h=>JsN (by show [dB false]=_;simp only[Yf,h,Bool.false_and])) (fun h=>?_)
 refine Js2 l.length (fun i=>[.i i]) (fun i=>((l.take i).all fun x=>inB x 0 300)=true) rfl rfl rfl fun i hi hq=>?_
 simp only[sC,sN]
 refine JsY i (dL1 l) rfl (fun h'=>?_) (fun h'=>JsS (JsN ?_))
 ·obtain⟨x,hx,_⟩:=sA1 h'
  refine Js9 i (mA1 (f:=dI) hx) rfl rfl rfl rfl ?_
  refine JsZ (JL x 0 300) rfl rfl rfl ?_
  refine Jte (inB x 0 300) rfl (fun b=>JsS (JsN ?_)) (fun b=>Js3 (vs:=[.i ((i+1:Nat):Int)]) (by rw[←wS h' (by omega)];rfl) ⟨h',rfl,by show ((l.take (i+1)).all fun x=>inB x 0 300)=true;rw[tS1 hx,List.all_append,hq];simp[b]⟩)
  show [dB false]=_
  have:(l.all fun x=>inB x 0 300)=false:=by rw[←List.take_append_drop i l,List.all_append,Xt hx];simp[b]
  simp[Yf,this]
 ·show [dB true]=_
  rw[tA1 h'] at hq
  simp[Yf,h,hq]
theorem Jb3 {d:Don} (hs:inB d.seq 0 300=true):Xa d=if decide (d.seq=0)=decide (d.code=0) then(if d.seq=0 then decide (d.tells.length=0) else JI d.code d.tells) else false:=by
 unfold Xa
 by_cases h:d.seq=0
 ·rw[if_pos h,if_pos h]
  by_cases h2:d.code=0 <;> simp[h,h2]
 ·rw[if_neg h,if_neg h]
  have hin:inB d.seq 1 300=true:=by unfold inB at hs ⊢;simp only[Bool.and_eq_true,decide_eq_true_eq] at hs ⊢;omega
  by_cases h2:d.code=0
  ·have:JI d.code d.tells=false:=by unfold JI inB;simp[h2]
   simp[h,h2,this,JI,inB]
  ·simp[h,h2,hin]
theorem JaQ (p:Pln) (l:List Don) (hl:Wm Yd l):Ev L f_k1j (p.cells++[.s (dDs l)]) [dB (Qc p.n l)]:=by
 refine Jtg (vs:=[.i p.n,.l (Jd p.acts),.l (dL p.gives),.l (dL p.start),.l (dDs l)]) L_k1j rfl ?_
 have hl0:=hl.1
 refine Jte (decide ((l.length:Int)=p.n)) (by show (!decide (((dDs l).length:Int)=p.n))=_;rw[Q2]) (fun h=>JsN (by show [dB false]=_;simp only[Qc,h,Bool.false_and])) (fun h=>?_)
 refine Js2 l.length (fun i=>[.i i]) (fun i=>((l.take i).all Xa)=true) rfl rfl rfl fun i hi hq=>?_
 simp only[sC,sN]
 refine JsY i (Q2 l) rfl (fun h'=>?_) (fun h'=>JsS (JsN ?_))
 ·obtain⟨x,hx,hm⟩:=sA1 h'
  have hg:(dDs l)[i]? = some x.g:=mA1 (f:=Don.g) hx
  have bad:Xa x=false→[dB false]=[dB (Qc p.n l)]:=fun hb=>by
   have:l.all Xa=false:=by rw[←List.take_append_drop i l,List.all_append,Xt hx];simp[hb]
   simp[Qc,this]
  have good:Xa x=true→((l.take (i+1)).all Xa)=true:=fun hb=>by rw[tS1 hx,List.all_append,hq];simp[hb]
  have nx:[V.i (IntKind.i64.wrap ((i:Int)+1))]=[V.i ((i+1:Nat):Int)]:=by rw[wS h' (by omega)]
  refine Js9 (vs:=[.i x.seq,.i x.code,.l (dL x.tells)]) i hg rfl rfl rfl rfl ?_
  refine JsZ (JL x.seq 0 300) rfl rfl rfl ?_
  simp only[sC,sN]
  refine Jte (inB x.seq 0 300) rfl (fun b=>JsS (JsN (bad ?_))) (fun b=>?_)
  ·unfold Xa
   rw[if_neg (by intro e;rw[e] at b;simp[inB] at b)]
   have:inB x.seq 1 300=false:=by
    unfold inB at b ⊢
    simp only[Bool.and_eq_false_iff,decide_eq_false_iff_not] at b ⊢
    omega
   simp[this]
  have hc:=Jb3 b
  refine Js9 (vs:=[.i x.seq,.i x.code,.l (dL x.tells)]) i hg rfl rfl rfl rfl ?_
  refine Js9 (vs:=[.i x.seq,.i x.code,.l (dL x.tells)]) i hg rfl rfl rfl rfl ?_
  simp only[sC,sN]
  refine Jte (decide (x.seq=0) == decide (x.code=0)) rfl (fun e=>JsS (JsN (bad ?_))) (fun e=>?_)
  ·rw[hc,if_neg (by simpa using e)]
  rw[if_pos (by simpa using e)] at hc
  refine Js9 (vs:=[.i x.seq,.i x.code,.l (dL x.tells)]) i hg rfl rfl rfl rfl ?_
  simp only[sC,sN]
  refine JsI (x.seq=0) rfl (fun h0=>?_) (fun h0=>?_)
  ·rw[if_pos h0] at hc
   refine Js9 (vs:=[.i x.seq,.i x.code,.l (dL x.tells)]) i hg rfl rfl rfl rfl ?_
   simp only[sC,sN]
   refine JsI (0<((dL x.tells).length:Int)) rfl (fun ht=>JsS (JsN (bad ?_))) (fun ht=>?_)
   ·rw[dL1] at ht
    rw[hc];exact decide_eq_false (by omega)
   refine Js9 (vs:=[.i x.seq,.i x.code,.l (dL x.tells)]) i hg rfl rfl rfl rfl ?_
   simp only[sC,sN]
   refine JsO (by show decide ((0:Int)<x.seq)=false;rw[h0];rfl) ?_
   exact Js3 nx ⟨h',rfl,good (by rw[dL1] at ht;rw[hc];exact decide_eq_true (by omega))⟩
  ·rw[if_neg h0] at hc
   have hpos:0<x.seq:=by unfold inB at b;simp only[Bool.and_eq_true,decide_eq_true_eq] at b;omega
   refine Js9 (vs:=[.i x.seq,.i x.code,.l (dL x.tells)]) i hg rfl rfl rfl rfl ?_
   simp only[sC,sN]
   refine JsP (by show decide ((0:Int)<x.seq)=true;simpa using hpos) ?_
   refine Js9 (vs:=[.i x.seq,.i x.code,.l (dL x.tells)]) i hg rfl rfl rfl rfl ?_
   refine JsZ (Ja8 x.code x.tells (hl.2 x hm)) rfl rfl rfl ?_
   exact Jte (JI x.code x.tells) rfl (fun e=>JsS (JsN (bad (by rw[hc,e])))) (fun e=>Js3 nx ⟨h',rfl,good (by rw[hc,e])⟩)
 ·show [dB true]=_
  rw[tA1 h'] at hq
  simp[Qc,h,hq]
theorem Jnh (d:Don) (hd:Yd d):Ev L f_k53 d.cells [dB (Xa d)]:=by
 refine Jtg (vs:=[.i d.seq,.i d.code,.l (dL d.tells)]) L_k53 rfl ?_
 refine JsI (d.seq=0) rfl (fun h=>?_) (fun h=>?_)
 ·refine JsZ (ds:=[dB (decide (d.code=0)&&decide (d.tells.length=0))]) (Jtg (vs:=[.i d.code,.l (dL d.tells)]) L_k4y rfl ?_) rfl rfl rfl (JsN (by rw[Xa,if_pos h];rfl))
  refine JsI (d.code=0) rfl (fun a=>JsN ?_) (fun a=>JsN (by show [dB false]=_;simp[a]))
  show [dB (decide (((dL d.tells).length:Int)=0))]=_
  rw[Ul d.tells.length (dL1 _)]
  simp[a]
 ·refine JsZ (Y7 d.seq 1 300) rfl rfl rfl ?_
  refine JsW (inB d.seq 1 300) rfl (fun a=>?_) (fun a=>JsN (by show [dB false]=_;simp[Xa,h,a]))
  refine JsZ (JmR d.code d.tells hd) rfl rfl rfl (JsN ?_)
  show [dB (JI d.code d.tells)]=_
  simp[Xa,h,a]
theorem Jh6 (d:Don) (hd:Yd d):Ev L f_k54 d.cells [dB (!Xa d)] :=
 Jtg (vs:=[.i d.seq,.i d.code,.l (dL d.tells)]) L_k54 rfl (JsZ (Jnh d hd) rfl rfl rfl (JsN rfl))
theorem Jlv (q:Don→Bool) (l:List Don) {fn:FuncId} {caps:List D} (hlen:l.length≤2000000) (hcap:Xv (.f fn caps) = .f fn caps) (har:arT L fn=some ([some 3]++caps.map fun _=>none))
  (hc :∀x∈l,Ev L fn (x.cells++caps.map D.norm) [dB (q x)]):Ev L f_k4x [.s (dDs l),.f fn caps] [dB (l.any q)] :=
 Za (g := f_k4w) L_k4x rfl hcap
   (ZG (sh:= .g [.i .i64,.i .i64,.s]) (as:=[(.vi .i64 (.v 3)),(.vi .i64 (.v 4)),(.s (.v 5))]) (ar:=[some 3]) (k:=6) Don.g q Don.cells (fun x=>[.i x.seq,.i x.code,.l (dL x.tells)]) l
     L_k4w rfl hlen hcap (fun _ _=>rfl) (fun _ _=>rfl) (fun _ _ _ _=>rfl) har hc)
theorem Jlt (p:Pln) (l:List Don) (hl:Wm Yd l):Ev L f_k55 (p.cells++[.s (dDs l)]) [dB (Qc p.n l)]:=by
 refine Jtg (vs:=[.i p.n,.l (Jd p.acts),.l (dL p.gives),.l (dL p.start),.l (dDs l)]) L_k55 rfl ?_
 refine JsI ((l.length:Int)=p.n) (by show decide (((dDs l).length:Int)=p.n)=_;rw[Q2]) (fun h=>?_) (fun h=>JsN (by show [dB false]=_;simp[Qc,h]))
 refine JsZ (Jlv (fun d=>!Xa d) l (fn:=f_k54) (caps:=[]) hl.1 rfl rfl fun x hx=>by simpa using Jh6 x (hl.2 x hx)) rfl rfl rfl (JsN ?_)
 show [dB (!(l.any fun d=>!Xa d))]=_
 rw[VJ];simp[Qc,h]
/- The program's MsgOk answers as the reference's: over residual programs. -/
def em (n:Nat):Bool:=decide (n=0)
def Yk (x:Msg) (c v s d:Bool):Bool:=(c||Y4 x.call)&&((v||em x.vals.length)&&((s||em x.seqs.length)&&(d||em x.done.length)))
theorem VL (x:Msg) (c v s d:Bool):Ev L f_k1m (x.cells++[dB c,dB v,dB s,dB d]) [dB (Yk x c v s d)]:=by
 refine Jtg (vs:=[.i x.kind,.i x.to,.i x.frm,.i x.round,.i x.call.client,.i x.call.seq,.i x.call.act,.l (dL x.call.args),.l (dL x.vals),.l (dL x.seqs),.l (dDs x.done),.b c,.b v,.b s,.b d]) L_k1m rfl ?_
 have ea:decide (((dL x.call.args).length:Int)=0)=em x.call.args.length:=Ul _ (dL1 _)
 have ev:decide (((dL x.vals).length:Int)=0)=em x.vals.length:=Ul _ (dL1 _)
 have es:decide (((dL x.seqs).length:Int)=0)=em x.seqs.length:=Ul _ (dL1 _)
 have ed:decide (((dDs x.done).length:Int)=0)=em x.done.length:=Ul _ (Q2 _)
 have hn:Y4 x.call=(decide (x.call.client=0)&&(decide (x.call.seq=0)&&(decide (x.call.act=0)&&em x.call.args.length))):=rfl
 have fin :∀b,b=Yk x c v s d→[dB b]=[dB (Yk x c v s d)]:=fun b h=>by rw[h]
 have ed2:([dB (decide (((dDs x.done).length:Int)=0))]:List D)=[dB (em x.done.length)]:=by rw[ed]
 unfold Yk at fin ⊢
 rw[hn] at fin ⊢
 generalize em x.call.args.length=ba at *
 generalize em x.vals.length=bv at *
 generalize em x.seqs.length=bs at *
 generalize em x.done.length=bd at *
 clear hn
 generalize hb1:decide (x.call.client=0)=b1 at *
 generalize hb2:decide (x.call.seq=0)=b2 at *
 generalize hb3:decide (x.call.act=0)=b3 at *
 repeat' (first
  | exact JsN (fin true (by simp only[*,Bool.and_true,Bool.or_true,Bool.true_or,Bool.and_self,Bool.or_self]))
  | exact JsN (fin false (by simp only[*,Bool.and_false,Bool.false_and,Bool.or_self,Bool.or_false,Bool.false_or,Bool.true_and,Bool.and_true,Bool.true_or,Bool.or_true,Bool.and_self]))
  | exact JsN (ed2.trans (fin _ (by simp only[*,Bool.or_self,Bool.or_false,Bool.false_or,Bool.true_and,Bool.and_true,Bool.true_or,Bool.or_true,Bool.and_self])))
  | refine JsW c rfl (fun h=>?_) (fun h=>?_)
  | refine JsW v rfl (fun h=>?_) (fun h=>?_)
  | refine JsW s rfl (fun h=>?_) (fun h=>?_)
  | refine JsW d rfl (fun h=>?_) (fun h=>?_)
  | refine JsW ba ea (fun h=>?_) (fun h=>?_)
  | refine JsW bv ev (fun h=>?_) (fun h=>?_)
  | refine JsW bs es (fun h=>?_) (fun h=>?_)
  | refine JsW b1 hb1 (fun h=>?_) (fun h=>?_)
  | refine JsW b2 hb2 (fun h=>?_) (fun h=>?_)
  | refine JsW b3 hb3 (fun h=>?_) (fun h=>?_))
def XH (p:Pln) (k:Int):Bool:=inB k 0 ((p.gives.length:Int)-1)
def JS (p:Pln) (x:Msg):Bool:=inB x.round 0 200&&(
 if x.kind=1 then decide (x.to = -1)&&(decide (x.frm=0)&&(decide (x.round=0)&&(Jw p x.call&&Yk x true false false false)))
 else if x.kind=2 then XH p x.to&&(decide (x.frm=0)&&Yk x false false false false)
 else if x.kind=3 then decide (x.to = -1)&&(XH p x.frm&&(JD 3 20000 x.vals&&(Yf p.n x.seqs&&Yk x false true true false)))
 else if x.kind=4 then XH p x.to&&(decide (x.frm=0)&&(JW x.vals&&(Qc p.n x.done&&Yk x false true false true)))
 else false)
theorem WY (p:Pln) (k:Int) (hp:JT p):Ev L f_k7 [dI k,dI 0,dI (IntKind.i64.wrap (((dL p.gives).length:Int)-1))] [dB (XH p k)]:=by
 rw[dL1,JdF hp.2.1]
 exact JL k 0 _
theorem JpK (p:Pln) (x:Msg) (hp:JT p) (h1:1≤p.n) (h2:p.n≤4) (hx:Ux x):Ev L f_k1o (p.cells++x.cells) [dB (JS p x)]:=by
 refine Jtg (vs:=[.i p.n,.l (Jd p.acts),.l (dL p.gives),.l (dL p.start),.i x.kind,.i x.to,.i x.frm,.i x.round,.i x.call.client,.i x.call.seq,.i x.call.act,.l (dL x.call.args),.l (dL x.vals),.l (dL x.seqs),.l (dDs x.done)]) L_k1o rfl ?_
 refine JsZ (JL x.round 0 200) rfl rfl rfl ?_
 refine Jte (inB x.round 0 200) rfl (fun a=>JsN (by show [dB false]=_;simp[JS,a])) (fun a=>?_)
 refine JsI (x.kind=1) rfl (fun k1=>?_) (fun k1=>?_)
 ·have e:JS p x=(decide (x.to = -1)&&(decide (x.frm=0)&&(decide (x.round=0)&&(Jw p x.call&&Yk x true false false false)))):=by unfold JS;rw[if_pos k1,a,Bool.true_and]
  rw[e]
  refine JsW (decide (x.to = -1)) rfl (fun b=>?_) (fun b=>JsN (by show [dB false]=_;simp[b]))
  refine JsW (decide (x.frm=0)) rfl (fun c=>?_) (fun b=>JsN (by show [dB false]=_;simp[b]))
  refine JsW (decide (x.round=0)) rfl (fun d=>?_) (fun b=>JsN (by show [dB false]=_;simp[b]))
  refine JsZ (Zw p x.call hp h1 h2 hx.1) rfl rfl rfl ?_
  refine JsW (Jw p x.call) rfl (fun f=>?_) (fun b=>JsN (by show [dB false]=_;simp[b]))
  refine JsZ (VL x true false false false) rfl rfl rfl (JsN ?_)
  rw[b,c,d,f];rfl
 refine JsI (x.kind=2) rfl (fun k2=>?_) (fun k2=>?_)
 ·have e:JS p x=(XH p x.to&&(decide (x.frm=0)&&Yk x false false false false)):=by unfold JS;rw[if_neg k1,if_pos k2,a,Bool.true_and]
  rw[e]
  refine JsZ (WY p x.to hp) rfl rfl rfl ?_
  refine JsW (XH p x.to) rfl (fun b=>?_) (fun b=>JsN (by show [dB false]=_;simp[b]))
  refine JsW (decide (x.frm=0)) rfl (fun c=>?_) (fun b=>JsN (by show [dB false]=_;simp[b]))
  refine JsZ (VL x false false false false) rfl rfl rfl (JsN ?_)
  rw[b,c];rfl
 refine JsI (x.kind=3) rfl (fun k3=>?_) (fun k3=>?_)
 ·have e:JS p x=(decide (x.to = -1)&&(XH p x.frm&&(JD 3 20000 x.vals&&(Yf p.n x.seqs&&Yk x false true true false)))):=by unfold JS;rw[if_neg k1,if_neg k2,if_pos k3,a,Bool.true_and]
  rw[e]
  refine JsW (decide (x.to = -1)) rfl (fun b=>?_) (fun b=>JsN (by show [dB false]=_;simp[b]))
  refine JsZ (WY p x.frm hp) rfl rfl rfl ?_
  refine JsW (XH p x.frm) rfl (fun c=>?_) (fun b=>JsN (by show [dB false]=_;simp[b]))
  refine JsZ (Xh x.vals 3 20000 hx.2.1 (by omega) (by omega)) rfl rfl rfl ?_
  refine JsW (JD 3 20000 x.vals) rfl (fun d=>?_) (fun b=>JsN (by show [dB false]=_;simp[b]))
  refine JsZ (Je6 p x.seqs hx.2.2.1) rfl rfl rfl ?_
  refine JsW (Yf p.n x.seqs) rfl (fun f=>?_) (fun b=>JsN (by show [dB false]=_;simp[b]))
  refine JsZ (VL x false true true false) rfl rfl rfl (JsN ?_)
  rw[b,c,d,f];rfl
 refine JsI (x.kind=4) rfl (fun k4=>?_) (fun k4=>JsN (by show [dB false]=_;simp[JS,k1,k2,k3,k4]))
 have e:JS p x=(XH p x.to&&(decide (x.frm=0)&&(JW x.vals&&(Qc p.n x.done&&Yk x false true false true)))):=by unfold JS;rw[if_neg k1,if_neg k2,if_neg k3,if_pos k4,a,Bool.true_and]
 rw[e]
 refine JsZ (WY p x.to hp) rfl rfl rfl ?_
 refine JsW (XH p x.to) rfl (fun b=>?_) (fun b=>JsN (by show [dB false]=_;simp[b]))
 refine JsW (decide (x.frm=0)) rfl (fun c=>?_) (fun b=>JsN (by show [dB false]=_;simp[b]))
 refine JsZ (YV x.vals hx.2.1) rfl rfl rfl ?_
 refine JsW (JW x.vals) rfl (fun d=>?_) (fun b=>JsN (by show [dB false]=_;simp[b]))
 refine JsZ (JaQ p x.done hx.2.2.2) rfl rfl rfl ?_
 refine JsW (Qc p.n x.done) rfl (fun f=>?_) (fun b=>JsN (by show [dB false]=_;simp[b]))
 refine JsZ (VL x false true false true) rfl rfl rfl (JsN ?_)
 rw[b,c,d,f];rfl
/- The program's SitOk and SitFree answer as the reference's: over residual programs. -/
theorem Xr {p:Pln} (h:JH p=true):Qj p.acts=true:=by
 simp only[JH,Bool.and_eq_true] at h
 exact h.2.1
def Xl (p:Pln) (b:List Int) (k:Int) (a:List Int):Bool:=keeps b p.gives (Jb p.acts) k a&&J5 (Jj p.acts) a
def J4 (p:Pln) (s:Sit) (k:Int):Bool:=inB s.round 0 200&&(JW s.base&&(Xl p s.base k s.added&&Qc p.n s.done))
def Yy (p:Pln) (s:Sit) (k:Int):Bool:=JH p&&(XH p k&&J4 p s k)
theorem JbM (p:Pln) (s:Sit):Ev L f_k1e (p.cells++s.cells) [.s (dL s.base),.s (dL p.gives)] :=
 Jtg (vs:=[.i p.n,.l (Jd p.acts),.l (dL p.gives),.l (dL p.start),.b s.up,.b s.frozen,.i s.round,.l (dL s.base),.l (dL s.added),.l (dDs s.done)]) L_k1e rfl (JsN rfl)
theorem JkG (p:Pln) (s:Sit) (k:Int) (hp:JT p) (hs:QB s) (hc:Qj p.acts=true) :
  Ev L f_k1k (p.cells++[.s (dLL (Jb p.acts)),.s (dBl (Jj p.acts))]++s.cells++[dI k]) [dB (J4 p s k)]:=by
 refine Jtg (vs:=[.i p.n,.l (Jd p.acts),.l (dL p.gives),.l (dL p.start),.l (dLL (Jb p.acts)),.l (dBl (Jj p.acts)),.b s.up,.b s.frozen,.i s.round,.l (dL s.base),.l (dL s.added),.l (dDs s.done),.i k]) L_k1k rfl ?_
 have hps:fitLL (Jb p.acts):=(Q6 p.acts).fitLL (by omega)
 refine JsZ (JL s.round 0 200) rfl rfl rfl ?_
 refine JsW (inB s.round 0 200) rfl (fun a=>?_) (fun b=>JsN (by show [dB false]=_;simp[J4,b]))
 refine JsZ (YV s.base hs.1) rfl rfl rfl ?_
 refine JsW (JW s.base) rfl (fun d=>?_) (fun b=>JsN (by show [dB false]=_;simp[J4,b]))
 refine JsZ (JbM p s) rfl rfl rfl ?_
 refine JsZ (Zr s.base p.gives (Jb p.acts) k s.added hs.1 hp.2.1 hps hs.2.1) rfl rfl rfl ?_
 simp only[sC,sN]
 refine JsW (keeps s.base p.gives (Jb p.acts) k s.added) rfl (fun e=>?_) (fun b=>JsN (by show [dB false]=_;simp[J4,Xl,b]))
 refine JsZ (WN (Jj p.acts) s.added (UF hc) (VZ e)) rfl rfl rfl ?_
 simp only[sC,sN]
 refine JsW (J5 (Jj p.acts) s.added) rfl (fun f=>?_) (fun b=>JsN (by show [dB false]=_;simp[J4,Xl,b]))
 refine JsZ (JaQ p s.done ⟨hs.2.2.1,hs.2.2.2⟩) rfl rfl rfl (JsN ?_)
 show [dB (Qc p.n s.done)]=_
 simp[J4,Xl,a,d,e,f]
theorem JeP (p:Pln) (s:Sit) (k:Int) (hp:JT p) (hs:QB s):Ev L f_k5c (p.cells++s.cells++[dI k]) [dB (Yy p s k)]:=by
 refine Jtg (vs:=[.i p.n,.l (Jd p.acts),.l (dL p.gives),.l (dL p.start),.b s.up,.b s.frozen,.i s.round,.l (dL s.base),.l (dL s.added),.l (dDs s.done),.i k]) L_k5c rfl ?_
 refine JsZ (KV p hp) rfl rfl rfl ?_
 refine Jte (JH p) rfl (fun b=>JsN (by show [dB false]=_;simp[Yy,b])) (fun a=>?_)
 refine JsZ (WY p k hp) rfl rfl rfl ?_
 refine Jte (XH p k) rfl (fun b=>JsN (by show [dB false]=_;simp[Yy,b])) (fun d=>?_)
 have hc:=Xr a
 have e1:(U3 p.acts).1=Jb p.acts:=by simp[Jb,hc]
 have e2:(U3 p.acts).2=Jj p.acts:=by simp[Jj,hc]
 have eB:=Jfe p.acts hp.1 (XT hc).2.1
 rw[e1,e2] at eB
 refine JsZ eB rfl rfl rfl ?_
 simp only[sC,sN]
 refine JsZ (JkG p s k hp hs hc) rfl rfl rfl (JsN ?_)
 show [dB (J4 p s k)]=_
 simp[Yy,a,d]
theorem Jmi (p:Pln) (s:Sit) (k:Int) (hp:JT p) (hs:QB s) (hc:Qj p.acts=true) :
  Ev L f_k56 (p.cells++[.s (Jd p.acts),.s (dLL (Jb p.acts)),.s (dBl (Jj p.acts))]++s.cells++[dI k]) [dB (XH p k&&J4 p s k)]:=by
 refine Jtg (vs:=[.i p.n,.l (Jd p.acts),.l (dL p.gives),.l (dL p.start),.l (Jd p.acts),.l (dLL (Jb p.acts)),.l (dBl (Jj p.acts)),.b s.up,.b s.frozen,.i s.round,.l (dL s.base),.l (dL s.added),.l (dDs s.done),.i k]) L_k56 rfl ?_
 have hps:fitLL (Jb p.acts):=(Q6 p.acts).fitLL (by omega)
 refine JsZ (Jl3 p k hp) rfl rfl rfl ?_
 refine JsW (XH p k) rfl (fun g=>?_) (fun b=>JsN (by show [dB false]=_;simp[J4,b]))
 refine JsZ (Y7 s.round 0 200) rfl rfl rfl ?_
 refine JsW (inB s.round 0 200) rfl (fun a=>?_) (fun b=>JsN (by show [dB false]=_;simp[J4,b]))
 refine JsZ (Jio s.base hs.1) rfl rfl rfl ?_
 refine JsW (JW s.base) rfl (fun d=>?_) (fun b=>JsN (by show [dB false]=_;simp[J4,b]))
 refine JsZ (Jeg p s.base) rfl rfl rfl ?_
 refine JsZ (Jmq p.acts (Jb p.acts) (Jj p.acts) s.base p.gives k s.added (UF hc) hs.1 hp.2.1 hps hs.2.1) rfl rfl rfl ?_
 simp only[sC,sN]
 refine JsW (Xl p s.base k s.added) rfl (fun e=>?_) (fun b=>JsN (by show [dB false]=_;simp[J4,b]))
 refine JsZ (Jlt p s.done ⟨hs.2.2.1,hs.2.2.2⟩) rfl rfl rfl (JsN ?_)
 show [dB (Qc p.n s.done)]=_
 simp[J4,g,a,d,e]
theorem Jbr (p:Pln) (s:Sit) (k:Int) (hp:JT p) (hs:QB s):Ev L f_k57 (p.cells++s.cells++[dI k]) [dB (Yy p s k)]:=by
 refine Jtg (vs:=[.i p.n,.l (Jd p.acts),.l (dL p.gives),.l (dL p.start),.b s.up,.b s.frozen,.i s.round,.l (dL s.base),.l (dL s.added),.l (dDs s.done),.i k]) L_k57 rfl ?_
 refine JsZ (JlK p hp) rfl rfl rfl ?_
 refine JsW (JH p) rfl (fun a=>?_) (fun b=>JsN (by show [dB false]=_;simp[Yy,b]))
 have hc:=Xr a
 refine JsZ (Jkc p.acts hp.1) rfl rfl rfl ?_
 simp only[sC,sN]
 refine JsZ (Jmi p s k hp hs hc) rfl rfl rfl (JsN ?_)
 show [dB (XH p k&&J4 p s k)]=_
 simp[Yy,a]
/- The program's ClkOk and ClkReady answer as the reference's: over residual programs. -/
def emp (g:Got):Bool:=decide (g.added.length=0)&&decide (g.seqs.length=0)
def KY (p:Pln) (b:List Int) (l:List Got) (j:Nat):Bool :=
 if(l.getD j XP).has then Xl p b j (l.getD j XP).added&&Yf p.n (l.getD j XP).seqs else emp (l.getD j XP)
def Wb (p:Pln) (l:List Cal) (j:Nat):Bool:=Jw p (l.getD j ⟨0,0,0,[]⟩)&&(decide (j=0)||decide ((l.getD (j-1) ⟨0,0,0,[]⟩).client<(l.getD j ⟨0,0,0,[]⟩).client))
def XJ (l:List Got):Nat:=(l.filter fun g=>g.has).length
def QV (n:Nat) (f:Nat→Bool):Bool:=(List.range n).all f
theorem Ud (n:Nat) (f:Nat→Bool):QV (n+1) f=(QV n f&&f n):=by simp[QV,List.range_succ]
theorem Y0 {n:Nat} {f:Nat→Bool}:QV n f=true↔∀j,j<n→f j=true:=by simp[QV]
theorem Jag {n i:Nat} {f:Nat→Bool} (h:i<n) (hf:f i=false):QV n f=false:=by
 cases e:QV n f with
 | false=>rfl
 | true=>rw[Y0.1 e i h] at hf;cases hf
def Zf (p:Pln) (c:Clk):Bool:=inB c.round 0 200&&(JW c.base&&(Qc p.n c.done&&((decide (c.got.length=p.gives.length)&&QV c.got.length (KY p c.base c.got)) &&
 (QV c.wants.length (Wb p c.wants)&&(c.up||(decide (c.wants.length=0)&&decide (XJ c.got=0)))))))
def JdP (p:Pln) (c:Clk):Bool:=JH p&&Zf p c
theorem Ug (l:List Got):(dGs l).length=l.length:=by simp[dGs]
theorem X8 (l:List Cal):(dCs l).length=l.length:=by simp[dCs]
theorem QG {α:Type} {l:List α} {i:Nat} {x d:α} (h:l[i]? = some x):l.getD i d=x:=by simp[List.getD_eq_getElem?_getD,h]
theorem JmU (p:Pln) (c:Clk) (hp:JT p) (hk:Um c) (hc:Qj p.acts=true) :
  Ev L f_k1p (p.cells++[.s (dLL (Jb p.acts)),.s (dBl (Jj p.acts))]++c.cells) [dB (decide (c.got.length=p.gives.length)&&QV c.got.length (KY p c.base c.got))]:=by
 refine Jtg (vs:=[.i p.n,.l (Jd p.acts),.l (dL p.gives),.l (dL p.start),.l (dLL (Jb p.acts)),.l (dBl (Jj p.acts)),.b c.up,.i c.round,.l (dL c.base),.l (dDs c.done),.l (dCs c.wants),.l (dGs c.got)]) L_k1p rfl ?_
 have hps:fitLL (Jb p.acts):=(Q6 p.acts).fitLL (by omega)
 have hgl:=hk.g
 refine Jte (decide (c.got.length=p.gives.length)) ?_ (fun b=>JsN (by show [dB false]=_;simp only[b,Bool.false_and])) (fun a=>?_)
 ·show (!decide (((dGs c.got).length:Int)=((dL p.gives).length:Int)))=_
  rw[Ug,dL1];simp[Int.ofNat_inj]
 rw[a,Bool.true_and]
 refine Js2 c.got.length (fun i=>[.i i]) (fun i=>QV i (KY p c.base c.got)=true) rfl rfl rfl fun i hi hq=>?_
 simp only[sC,sN]
 refine JsY i (Ug c.got) rfl (fun h'=>?_) (fun h'=>JsS (JsN ?_))
 ·obtain⟨x,hx,hm⟩:=sA1 h'
  have hxf:=hk.gt x hm
  have hD:=QG (d:=XP) hx
  have hgs:KY p c.base c.got i=if x.has then Xl p c.base i x.added&&Yf p.n x.seqs else emp x:=by unfold KY;rw[hD]
  have bad:KY p c.base c.got i=false→[dB false]=[dB (QV c.got.length (KY p c.base c.got))]:=fun h=>by rw[Jag h' h]
  have good:KY p c.base c.got i=true→QV (i+1) (KY p c.base c.got)=true:=fun h=>by rw[Ud,hq,h];rfl
  have nx:[V.i (IntKind.i64.wrap ((i:Int)+1))]=[V.i ((i+1:Nat):Int)]:=by rw[wS h' (by omega)]
  refine Js9 (vs:=[.b x.has,.l (dL x.added),.l (dL x.seqs)]) i (mA1 (f:=Got.g) hx) rfl rfl rfl rfl ?_
  simp only[sC,sN]
  refine Jte x.has rfl (fun hn=>?_) (fun hh=>?_)
  ·rw[hn] at hgs
   have hw:IntKind.i64.wrap (((dL x.added).length:Int)+((dL x.seqs).length:Int))=(x.added.length:Int)+x.seqs.length:=by rw[dL1,dL1];exact w64 (by omega) (by omega)
   refine JsI ((0:Int)<(x.added.length:Int)+x.seqs.length) (by show decide ((0:Int)<IntKind.i64.wrap (((dL x.added).length:Int)+((dL x.seqs).length:Int)))=_;rw[hw]) (fun h0=>JsS (JsN (bad ?_))) (fun h0=>?_)
   ·rw[hgs];simp only[Bool.false_eq_true,if_false,emp,Bool.and_eq_false_iff,decide_eq_false_iff_not];omega
   refine JsO (by show x.has=false;exact hn) (Js3 nx ⟨h',rfl,good ?_⟩)
   rw[hgs];simp only[Bool.false_eq_true,if_false,emp,Bool.and_eq_true,decide_eq_true_eq];omega
  ·rw[hh] at hgs
   simp only[if_true] at hgs
   refine JsP (by show x.has=true;exact hh) ?_
   refine JsZ (Zr c.base p.gives (Jb p.acts) i x.added hk.b hp.2.1 hps hxf.1) rfl rfl rfl ?_
   simp only[sC,sN]
   refine Jte (keeps c.base p.gives (Jb p.acts) i x.added) rfl (fun e=>JsS (JsN (bad (by rw[hgs,Xl,e];rfl)))) (fun e=>?_)
   refine JsZ (WN (Jj p.acts) x.added (UF hc) (VZ e)) rfl rfl rfl ?_
   simp only[sC,sN]
   refine Jte (J5 (Jj p.acts) x.added) rfl (fun f=>JsS (JsN (bad (by rw[hgs,Xl,e,f];rfl)))) (fun f=>?_)
   refine JsZ (Je6 p x.seqs hxf.2) rfl rfl rfl ?_
   simp only[sC,sN]
   exact Jte (Yf p.n x.seqs) rfl (fun g=>JsS (JsN (bad (by rw[hgs,g,Bool.and_false])))) (fun g=>Js3 nx ⟨h',rfl,good (by rw[hgs,Xl,e,f,g];rfl)⟩)
 ·show [dB true]=_
  rw[show i=c.got.length by omega] at hq
  rw[hq]
theorem JmD {l:List Got} {i:Nat} {x:Got} (h:l[i]? = some x):XJ (l.take (i+1))=XJ (l.take i)+(if x.has then 1 else 0):=by
 unfold XJ
 rw[tS1 h,List.filter_append,List.length_append]
 cases hx:x.has <;> simp[hx]
theorem Jkw (l:List Got):XJ l≤l.length:=List.length_filter_le _ _
theorem Jee (c:Clk) (hk:c.got.length≤2000000):Ev L f_k1q c.cells [dI (XJ c.got)]:=by
 refine Jtg (vs:=[.b c.up,.i c.round,.l (dL c.base),.l (dDs c.done),.l (dCs c.wants),.l (dGs c.got)]) L_k1q rfl ?_
 refine Js2 c.got.length (fun i=>[.i (XJ (c.got.take i)),.i i]) (fun _=>True) rfl rfl trivial fun i hi _=>?_
 simp only[sC,sN]
 refine JsY i (Ug c.got) rfl (fun h'=>?_) (fun h'=>JsS (JsN ?_))
 ·obtain⟨x,hx,hm⟩:=sA1 h'
  have hs:=JmD hx
  have hle:=Jkw (c.got.take i)
  rw[List.length_take] at hle
  refine Js9 (vs:=[.b x.has,.l (dL x.added),.l (dL x.seqs)]) i (mA1 (f:=Got.g) hx) rfl rfl rfl rfl ?_
  simp only[sC,sN]
  refine JsW x.has rfl (fun hh=>?_) (fun hh=>?_)
  ·refine Js3 (vs:=[.i ((XJ (c.got.take (i+1)):Nat):Int),.i ((i+1:Nat):Int)]) ?_ ⟨h',rfl,trivial⟩
   show [V.i (IntKind.i64.wrap ((XJ (c.got.take i):Int)+1)),V.i (IntKind.i64.wrap ((i:Int)+1))]=_
   rw[wS h' (by omega),w64 (by omega) (by omega),hs,hh];rfl
  ·refine Js3 (vs:=[.i ((XJ (c.got.take (i+1)):Nat):Int),.i ((i+1:Nat):Int)]) ?_ ⟨h',rfl,trivial⟩
   show [V.i (XJ (c.got.take i):Int),V.i (IntKind.i64.wrap ((i:Int)+1))]=_
   rw[wS h' (by omega),hs,hh];rfl
 ·show [dI (XJ (c.got.take i))]=_
  rw[tA1 h']
theorem Jed {p:Pln} {l:List Cal} {i:Nat} {x:Cal} (h:l[i]? = some x):Wb p l i=(Jw p x&&(decide (i=0)||decide ((l.getD (i-1) ⟨0,0,0,[]⟩).client<x.client))):=by
 unfold Wb;rw[QG h]
theorem Jps (p:Pln) (c:Clk) (hp:JT p) (hk:Um c) (h1:1≤p.n) (h2:p.n≤4) (hc:Qj p.acts=true) :
  Ev L f_k1r (p.cells++[.s (dLL (Jb p.acts)),.s (dBl (Jj p.acts))]++c.cells) [dB (Zf p c)]:=by
 refine Jtg (vs:=[.i p.n,.l (Jd p.acts),.l (dL p.gives),.l (dL p.start),.l (dLL (Jb p.acts)),.l (dBl (Jj p.acts)),.b c.up,.i c.round,.l (dL c.base),.l (dDs c.done),.l (dCs c.wants),.l (dGs c.got)]) L_k1r rfl ?_
 have hwl:=hk.c
 refine JsZ (JL c.round 0 200) rfl rfl rfl ?_
 refine Jte (inB c.round 0 200) rfl (fun b=>JsN (by show [dB false]=_;simp only[Zf,b,Bool.false_and,Bool.and_false])) (fun a1=>?_)
 refine JsZ (YV c.base hk.b) rfl rfl rfl ?_
 refine Jte (JW c.base) rfl (fun b=>JsN (by show [dB false]=_;simp only[Zf,b,Bool.false_and,Bool.and_false])) (fun a2=>?_)
 refine JsZ (JaQ p c.done ⟨hk.d,hk.dt⟩) rfl rfl rfl ?_
 refine Jte (Qc p.n c.done) rfl (fun b=>JsN (by show [dB false]=_;simp only[Zf,b,Bool.false_and,Bool.and_false])) (fun a3=>?_)
 refine JsZ (JmU p c hp hk hc) rfl rfl rfl ?_
 refine Jte (decide (c.got.length=p.gives.length)&&QV c.got.length (KY p c.base c.got)) rfl (fun b=>JsN (by show [dB false]=_;simp only[Zf,b,Bool.false_and,Bool.and_false])) (fun a4=>?_)
 have e:Zf p c=(QV c.wants.length (Wb p c.wants)&&(c.up||(decide (c.wants.length=0)&&decide (XJ c.got=0)))):=by
  unfold Zf;rw[a1,a2,a3,a4];simp only[Bool.true_and]
 rw[e]
 simp only[sC,sN]
 refine Js2 c.wants.length (fun i=>[.i i]) (fun i=>QV i (Wb p c.wants)=true) rfl rfl rfl fun i hi hq=>?_
 simp only[sC,sN]
 refine JsY i (X8 c.wants) rfl (fun h'=>?_) (fun h'=>JsS ?_)
 ·obtain⟨x,hx,hm⟩:=sA1 h'
  have hwi:=Jed (p:=p) hx
  have bad:Wb p c.wants i=false→[dB false]=[dB (QV c.wants.length (Wb p c.wants)&&(c.up||(decide (c.wants.length=0)&&decide (XJ c.got=0))))]:=fun h=>by rw[Jag h' h];rfl
  have good:Wb p c.wants i=true→QV (i+1) (Wb p c.wants)=true:=fun h=>by rw[Ud,hq,h];rfl
  have nx:[V.i (IntKind.i64.wrap ((i:Int)+1))]=[V.i ((i+1:Nat):Int)]:=by rw[wS h' (by omega)]
  refine Js9 (vs:=[.i x.client,.i x.seq,.i x.act,.l (dL x.args)]) i (mA1 (f:=Cal.g) hx) rfl rfl rfl rfl ?_
  simp only[sC,sN]
  refine JsZ (Zw p x hp h1 h2 (hk.ct x hm)) rfl rfl rfl ?_
  simp only[sC,sN]
  refine Jte (Jw p x) rfl (fun b=>JsS (JsN (bad (by rw[hwi,b];rfl)))) (fun b=>?_)
  rw[b,Bool.true_and] at hwi
  refine JsI ((0:Int)<(i:Int)) rfl (fun h0=>?_) (fun h0=>Js3 nx ⟨h',rfl,good (by rw[hwi,decide_eq_true (show i=0 by omega)];rfl)⟩)
  obtain⟨y,hy,_⟩:=sA1 (show i-1<c.wants.length by omega)
  rw[QG hy,decide_eq_false (show ¬i=0 by omega),Bool.false_or] at hwi
  refine Js9 (vs:=[.i y.client,.i y.seq,.i y.act,.l (dL y.args)]) (i-1) (mA1 (f:=Cal.g) hy) rfl rfl ?_ rfl ?_
  ·show IntKind.i64.wrap ((i:Int)-1)=((i-1:Nat):Int)
   rw[w64 (by omega) (by omega)];omega
  refine Js9 (vs:=[.i x.client,.i x.seq,.i x.act,.l (dL x.args)]) i (mA1 (f:=Cal.g) hx) rfl rfl rfl rfl ?_
  simp only[sC,sN]
  exact JsI (x.client≤y.client) rfl (fun g=>JsS (JsN (bad (by rw[hwi];exact decide_eq_false (by omega))))) (fun g=>Js3 nx ⟨h',rfl,good (by rw[hwi];exact decide_eq_true (by omega))⟩)
 ·rw[show i=c.wants.length by omega] at hq
  rw[hq,Bool.true_and]
  refine JsW c.up rfl (fun u=>JsN (by show [dB true]=_;rw[u];rfl)) (fun u=>?_)
  rw[show (c.up||(decide (c.wants.length=0)&&decide (XJ c.got=0)))=(decide (c.wants.length=0)&&decide (XJ c.got=0)) by rw[u,Bool.false_or]]
  refine JsW (decide (c.wants.length=0)) (by show decide (((dCs c.wants).length:Int)=0)=_;exact Ul _ (X8 _)) (fun w=>?_) (fun w=>JsN (by show [dB false]=_;rw[w];rfl))
  refine JsZ (Jee c hk.g) rfl rfl rfl (JsN ?_)
  show [dB (decide ((XJ c.got:Int)=0))]=_
  rw[w,Ul _ rfl];rfl
def JiF (p:Pln) (c:Clk):Bool:=JdP p c&&decide (XJ c.got=p.gives.length)
theorem Jnm (l:List Got):(l.all fun g=>g.has)=decide (XJ l=l.length):=by
 rw[Bool.eq_iff_iff,decide_eq_true_eq]
 unfold XJ
 rw[List.length_filter_eq_length_iff]
 simp
/- The program's SitFall answers as the reference's: over residual programs. -/
theorem J8 (c:Int) (l:List Int) (hl:l.length≤2000000):Ev L f_k1t [dI c,.s (dL l)] [dI c,.s (dL l)]:=by
 refine Jtg (vs:=[.i c,.l (dL l)]) L_k1t rfl ?_
 refine Js6 (dL l) 2000000 (by rw[dL1];omega) (by omega) rfl ?_
 refine JsU (JO l) ?_
 exact Js6 (dL l) 2000000 (by rw[dL1];omega) (by omega) rfl (JsN rfl)
theorem Y3 (l:List Don) (hl:Wm Yd l):Ev L f_k1u [.s (dDs l)] [.s (dDs l)]:=by
 refine Jtg (vs:=[.l (dDs l)]) L_k1u rfl ?_
 have hl0:=hl.1
 refine Js2 l.length (fun i=>[.l (dDs (l.take i)),.i i]) (fun _=>True) rfl rfl trivial fun i hi _=>?_
 simp only[sC,sN]
 refine JsY i (Q2 l) rfl (fun h=>?_) (fun h=>JsS (JsN ?_))
 ·obtain⟨x,hx,hm⟩:=sA1 h
  have hg:(dDs l)[i]? = some x.g:=mA1 (f:=Don.g) hx
  refine Js9 (vs:=[.i x.seq,.i x.code,.l (dL x.tells)]) i hg rfl rfl rfl rfl ?_
  refine Js9 (vs:=[.i x.seq,.i x.code,.l (dL x.tells)]) i hg rfl rfl rfl rfl ?_
  refine JsZ (vs:=[.i x.code,.l (dL x.tells)]) (J8 x.code x.tells (hl.2 x hm)) rfl rfl rfl ?_
  simp only[sC,sN]
  refine JsX (dDs (l.take i)) 2000000 (by rw[Q2,List.length_take];omega) (by omega) rfl ?_
  refine Js3 (vs:=[.l (dDs (l.take (i+1))),.i ((i+1:Nat):Int)]) ?_ ⟨h,rfl,trivial⟩
  show [V.l (dDs (l.take i)++[x.g]),V.i (IntKind.i64.wrap ((i:Int)+1))]=_
  rw[wS h (by omega),tS1 hx]
  simp only[dDs,List.map_append,List.map_cons,List.map_nil]
 ·show [D.s (dDs (l.take i))]=_
  rw[tA1 h]
theorem KT (s:Sit) (hs:QB s):Ev L f_k1x s.cells s.cells:=by
 refine Jtg (vs:=[.b s.up,.b s.frozen,.i s.round,.l (dL s.base),.l (dL s.added),.l (dDs s.done)]) L_k1x rfl ?_
 have h1:=hs.1
 have h2:=hs.2.1
 refine Js6 (dL s.base) 2000000 (by rw[dL1];omega) (by omega) rfl ?_
 refine JsU (JO s.base) ?_
 refine Js6 (dL s.base) 2000000 (by rw[dL1];omega) (by omega) rfl ?_
 refine Js6 (dL s.added) 2000000 (by rw[dL1];omega) (by omega) rfl ?_
 refine JsU (JO s.added) ?_
 refine Js6 (dL s.added) 2000000 (by rw[dL1];omega) (by omega) rfl ?_
 exact JsZ (vs:=[.l (dDs s.done)]) (Y3 s.done ⟨hs.2.2.1,hs.2.2.2⟩) rfl rfl rfl (JsN rfl)
theorem Jgj (c:Int) (l:List Int) (hl:l.length≤2000000):Ev L f_k58 [dI c,.s (dL l)] [dI c,.s (dL l)] :=
 Jtg (vs:=[.i c,.l (dL l)]) L_k58 rfl (JsZ (vs:=[.l (dL l)]) (Zy l hl) rfl rfl rfl (JsN rfl))
theorem Jnx (l:List Don) (hl:Wm Yd l):Ev L f_k59 [.s (dDs l)] [.s (dDs l)]:=by
 refine Jtg (vs:=[.l (dDs l)]) L_k59 rfl ?_
 have hl0:=hl.1
 refine Js2 l.length (fun i=>[.l (dDs (l.take i)),.i i]) (fun _=>True) rfl rfl trivial fun i hi _=>?_
 simp only[sC,sN]
 refine JsY i (Q2 l) rfl (fun h=>?_) (fun h=>JsS (JsN ?_))
 ·obtain⟨x,hx,hm⟩:=sA1 h
  have hg:(dDs l)[i]? = some x.g:=mA1 (f:=Don.g) hx
  refine Js9 (vs:=[.i x.seq,.i x.code,.l (dL x.tells)]) i hg rfl rfl rfl rfl ?_
  refine JsZ (vs:=[.i x.code,.l (dL x.tells)]) (Jgj x.code x.tells (hl.2 x hm)) rfl rfl rfl ?_
  simp only[sC,sN]
  refine Jtb (Jfy dI (fun _=>rfl) x.tells) ?_
  refine JsX (dDs (l.take i)) 2000000 (by rw[Q2,List.length_take];omega) (by omega) rfl ?_
  refine Js3 (vs:=[.l (dDs (l.take (i+1))),.i ((i+1:Nat):Int)]) ?_ ⟨h,rfl,trivial⟩
  show [V.l (dDs (l.take i)++[x.g]),V.i (IntKind.i64.wrap ((i:Int)+1))]=_
  rw[wS h (by omega),tS1 hx]
  simp only[dDs,List.map_append,List.map_cons,List.map_nil]
 ·show [D.s (dDs (l.take i))]=_
  rw[tA1 h]
theorem Jf7 (s:Sit) (hs:QB s):Ev L f_k5a s.cells s.cells:=by
 refine Jtg (vs:=[.b s.up,.b s.frozen,.i s.round,.l (dL s.base),.l (dL s.added),.l (dDs s.done)]) L_k5a rfl ?_
 refine JsZ (vs:=[.l (dL s.base)]) (Zy s.base hs.1) rfl rfl rfl ?_
 refine JsZ (vs:=[.l (dL s.added)]) (Zy s.added hs.2.1) rfl rfl rfl ?_
 exact JsZ (vs:=[.l (dDs s.done)]) (Jnx s.done ⟨hs.2.2.1,hs.2.2.2⟩) rfl rfl rfl (JsN rfl)
def Q4 (p:Pln) (s:Sit) (k:Int) (up:Bool):Sit:=if Yy p s k then ⟨up,s.frozen,s.round,s.base,s.added,s.done⟩ else ⟨false,false,0,[],[],[]⟩
theorem Jih (p:Pln) (s:Sit) (k:Int) (u:Bool) (hp:JT p) (hs:QB s):Ev L f_k5d (p.cells++s.cells++[dI k,dB u]) (Q4 p s k u).cells:=by
 refine Jtg (vs:=[.i p.n,.l (Jd p.acts),.l (dL p.gives),.l (dL p.start),.b s.up,.b s.frozen,.i s.round,.l (dL s.base),.l (dL s.added),.l (dDs s.done),.i k,.b u]) L_k5d rfl ?_
 refine JsZ (JeP p s k hp hs) rfl rfl rfl ?_
 refine Jte (Yy p s k) rfl (fun h=>JsN ?_) (fun h=>?_)
 ·show _=(Q4 p s k u).cells
  unfold Q4;rw[if_neg (by simp[h])];rfl
 refine JsZ (vs:=[.b s.up,.b s.frozen,.i s.round,.l (dL s.base),.l (dL s.added),.l (dDs s.done)]) (KT s hs) rfl rfl rfl (JsN ?_)
 show _=(Q4 p s k u).cells
 unfold Q4;rw[if_pos h];rfl
theorem JbI (p:Pln) (s:Sit) (k:Int) (u:Bool) (hp:JT p) (hs:QB s):Ev L f_k5b (p.cells++s.cells++[dI k,dB u]) (Q4 p s k u).cells:=by
 refine Jtg (vs:=[.i p.n,.l (Jd p.acts),.l (dL p.gives),.l (dL p.start),.b s.up,.b s.frozen,.i s.round,.l (dL s.base),.l (dL s.added),.l (dDs s.done),.i k,.b u]) L_k5b rfl ?_
 refine JsZ (Jbr p s k hp hs) rfl rfl rfl ?_
 refine Jte (Yy p s k) rfl (fun h=>JsN ?_) (fun h=>?_)
 ·show _=(Q4 p s k u).cells
  unfold Q4;rw[if_neg (by simp[h])];rfl
 refine JsZ (vs:=[.b s.up,.b s.frozen,.i s.round,.l (dL s.base),.l (dL s.added),.l (dDs s.done)]) (Jf7 s hs) rfl rfl rfl (JsN ?_)
 show _=(Q4 p s k u).cells
 unfold Q4;rw[if_pos h];rfl
theorem Jhn (p:Pln) {s:Sit} (k:Int) (u:Bool) (hs:QB s):QB (Q4 p s k u):=by
 unfold Q4
 split
 ·exact hs
 ·exact⟨by simp,by simp,by simp,fun d hd=>by simp at hd⟩
end Go.Proofs.YtdmjmcegcpdenaaGreatDoor

import Derived.Test.YtofcmnglieaoeabGreatDoorPZU
import Derived.Test.YtofcmnglieaoeabGreatDoorPY
import Derived.Test.YtofcmnglieaoeabGreatDoorTd
import Derived.Test.YtofcmnglieaoeabGreatDoorPZR
set_option linter.unusedVariables false
set_option linter.unusedSimpArgs false
/- The program's ClkOk and ClkReady answer as the reference's: over residual programs. -/
namespace Go.Proofs.YtofcmnglieaoeabGreatDoor
open Go Go.Tm
open Go.IntKind (i64)
def emp (g:Got):Bool:=decide (g.added.length=0)&&decide (g.seqs.length=0)
def YX (p:Pln) (b:List Int) (l:List Got) (j:Nat):Bool :=
 if(l.getD j Q7).has then Q9 p b j (l.getD j Q7).added&&QO p.n (l.getD j Q7).seqs else emp (l.getD j Q7)
def Yk (p:Pln) (l:List Cal) (j:Nat):Bool:=Jl p (l.getD j ⟨0,0,0,[]⟩)&&(decide (j=0)||decide ((l.getD (j-1) ⟨0,0,0,[]⟩).client<(l.getD j ⟨0,0,0,[]⟩).client))
def Xf (l:List Got):Nat:=(l.filter fun g=>g.has).length
def JT (n:Nat) (f:Nat→Bool):Bool:=(List.range n).all f
theorem Zh (n:Nat) (f:Nat→Bool):JT (n+1) f=(JT n f&&f n):=by simp[JT,List.range_succ]
theorem X9 {n:Nat} {f:Nat→Bool}:JT n f=true↔∀j,j<n→f j=true:=by simp[JT]
theorem Z1 {n i:Nat} {f:Nat→Bool} (h:i<n) (hf:f i=false):JT n f=false:=by
 cases e:JT n f with
 | false=>rfl
 | true=>rw[X9.1 e i h] at hf;cases hf
def Yd (p:Pln) (c:Clk):Bool:=inB c.round 0 200&&(JS c.base&&(JX p.n c.done&&((decide (c.got.length=p.gives.length)&&JT c.got.length (YX p c.base c.got)) &&
 (JT c.wants.length (Yk p c.wants)&&(c.up||(decide (c.wants.length=0)&&decide (Xf c.got=0)))))))
def QY (p:Pln) (c:Clk):Bool:=JE p&&Yd p c
theorem XC (l:List Got):(dGs l).length=l.length:=by simp[dGs]
theorem Xr (l:List Cal):(dCs l).length=l.length:=by simp[dCs]
theorem Qi {α:Type} {l:List α} {i:Nat} {x d:α} (h:l[i]? = some x):l.getD i d=x:=by simp[JuU,h]
theorem JnQ (p:Pln) (c:Clk) (hp:JR p) (hk:QV c) (hc:Qv p.acts=true) :
  Ev L f_k1p (p.cells++[.s (dLL (Jb p.acts)),.s (dBl (Jj p.acts))]++c.cells) [dB (decide (c.got.length=p.gives.length)&&JT c.got.length (YX p c.base c.got))]:=by
 refine JuM (vs:=[.i p.n,.l (Jc p.acts),.l (dL p.gives),.l (dL p.start),.l (dLL (Jb p.acts)),.l (dBl (Jj p.acts)),.b c.up,.i c.round,.l (dL c.base),.l (dDs c.done),.l (dCs c.wants),.l (dGs c.got)]) L_k1p rfl ?_;have hps:fitLL (Jb p.acts):=(Xh p.acts).fitLL (by omega);have hgl:=hk.g;refine JuE (decide (c.got.length=p.gives.length)) ?_ (fun b=>JuC (by show [dB false]=_;simp only[b,Bool.false_and])) (fun a=>?_)
 ·show (!decide (((dGs c.got).length:Int)=((dL p.gives).length:Int)))=_;rw[XC,dL1];simp[Int.ofNat_inj]
 rw[a,Jvb];refine Jut c.got.length (fun i=>[.i i]) (fun i=>JT i (YX p c.base c.got)=true) rfl rfl rfl fun i hi hq=>?_;simp only[sC,sN];refine JuF i (XC c.got) rfl (fun h'=>?_) (fun h'=>JuJ (JuC ?_))
 ·obtain⟨x,hx,hm⟩:=sA1 h';have hxf:=hk.gt x hm;have hD:=Qi (d:=Q7) hx;have hgs:YX p c.base c.got i=if x.has then Q9 p c.base i x.added&&QO p.n x.seqs else emp x:=by unfold YX;rw[hD]
  have bad:YX p c.base c.got i=false→[dB false]=[dB (JT c.got.length (YX p c.base c.got))]:=fun h=>by rw[Z1 h' h]
  have good:YX p c.base c.got i=true→JT (i+1) (YX p c.base c.got)=true:=fun h=>by rw[Zh,hq,h];rfl
  have nx:[V.i (i64.wrap ((i:Int)+1))]=[V.i ((i+1:Nat):Int)]:=by rw[wS h' (by omega)]
  refine Jud (vs:=[.b x.has,.l (dL x.added),.l (dL x.seqs)]) i (mA1 (f:=Got.g) hx) rfl rfl rfl rfl ?_;simp only[sC,sN];refine JuE x.has rfl (fun hn=>?_) (fun hh=>?_)
  ·rw[hn] at hgs;have hw:i64.wrap (((dL x.added).length:Int)+((dL x.seqs).length:Int))=(x.added.length:Int)+x.seqs.length:=by rw[dL1,dL1];exact w64 (by omega) (by omega)
   refine JuB ((0:Int)<(x.added.length:Int)+x.seqs.length) (by show decide ((0:Int)<i64.wrap (((dL x.added).length:Int)+((dL x.seqs).length:Int)))=_;rw[hw]) (fun h0=>JuJ (JuC (bad ?_))) (fun h0=>?_)
   ·rw[hgs];simp only[Ju7,if_false,emp,Bool.and_eq_false_iff,decide_eq_false_iff_not];omega
   refine Jul (by show x.has=false;exact hn) (JuK nx ⟨h',rfl,good ?_⟩);rw[hgs];simp only[Ju7,if_false,emp,JuR,decide_eq_true_eq];omega
  ·rw[hh] at hgs;simp only[if_true] at hgs;refine Jur (by show x.has=true;exact hh) ?_;refine Juc (ZD c.base p.gives (Jb p.acts) i x.added hk.b hp.2.1 hps hxf.1) rfl rfl rfl ?_;simp only[sC,sN];refine JuE (keeps c.base p.gives (Jb p.acts) i x.added) rfl (fun e=>JuJ (JuC (bad (by rw[hgs,Q9,e];rfl)))) (fun e=>?_);refine Juc (WH (Jj p.acts) x.added (VF hc) (VT e)) rfl rfl rfl ?_;simp only[sC,sN];refine JuE (Qj (Jj p.acts) x.added) rfl (fun f=>JuJ (JuC (bad (by rw[hgs,Q9,e,f];rfl)))) (fun f=>?_);refine Juc (JeM p x.seqs hxf.2) rfl rfl rfl ?_;simp only[sC,sN];exact JuE (QO p.n x.seqs) rfl (fun g=>JuJ (JuC (bad (by rw[hgs,g,Bool.and_false])))) (fun g=>JuK nx ⟨h',rfl,good (by rw[hgs,Q9,e,f,g];rfl)⟩)
 ·show [dB true]=_;rw[show i=c.got.length by omega] at hq;rw[hq]
theorem Jml {l:List Got} {i:Nat} {x:Got} (h:l[i]? = some x):Xf (l.take (i+1))=Xf (l.take i)+(if x.has then 1 else 0):=by
 unfold Xf;rw[tS1 h,List.filter_append,JuX];cases hx:x.has <;> simp[hx]
theorem Jla (l:List Got):Xf l≤l.length:=List.length_filter_le _ _
theorem Jev (c:Clk) (hk:c.got.length≤2000000):Ev L f_k1q c.cells [dI (Xf c.got)]:=by
 refine JuM (vs:=[.b c.up,.i c.round,.l (dL c.base),.l (dDs c.done),.l (dCs c.wants),.l (dGs c.got)]) L_k1q rfl ?_;refine Jut c.got.length (fun i=>[.i (Xf (c.got.take i)),.i i]) (fun _=>True) rfl rfl trivial fun i hi _=>?_;simp only[sC,sN];refine JuF i (XC c.got) rfl (fun h'=>?_) (fun h'=>JuJ (JuC ?_))
 ·obtain⟨x,hx,hm⟩:=sA1 h';have hs:=Jml hx;have hle:=Jla (c.got.take i);rw[Ju6] at hle;refine Jud (vs:=[.b x.has,.l (dL x.added),.l (dL x.seqs)]) i (mA1 (f:=Got.g) hx) rfl rfl rfl rfl ?_;simp only[sC,sN];refine Jup x.has rfl (fun hh=>?_) (fun hh=>?_)
  ·refine JuK (vs:=[.i ((Xf (c.got.take (i+1)):Nat):Int),.i ((i+1:Nat):Int)]) ?_ ⟨h',rfl,trivial⟩;show [V.i (i64.wrap ((Xf (c.got.take i):Int)+1)),V.i (i64.wrap ((i:Int)+1))]=_;rw[wS h' (by omega),w64 (by omega) (by omega),hs,hh];rfl
  ·refine JuK (vs:=[.i ((Xf (c.got.take (i+1)):Nat):Int),.i ((i+1:Nat):Int)]) ?_ ⟨h',rfl,trivial⟩;show [V.i (Xf (c.got.take i):Int),V.i (i64.wrap ((i:Int)+1))]=_;rw[wS h' (by omega),hs,hh];rfl
 ·show [dI (Xf (c.got.take i))]=_;rw[tA1 h']
theorem Jaw {p:Pln} {l:List Cal} {i:Nat} {x:Cal} (h:l[i]? = some x):Yk p l i=(Jl p x&&(decide (i=0)||decide ((l.getD (i-1) ⟨0,0,0,[]⟩).client<x.client))):=by
 unfold Yk;rw[Qi h]
theorem JkP (p:Pln) (c:Clk) (hp:JR p) (hk:QV c) (h1:1≤p.n) (h2:p.n≤4) (hc:Qv p.acts=true) :
  Ev L f_k1r (p.cells++[.s (dLL (Jb p.acts)),.s (dBl (Jj p.acts))]++c.cells) [dB (Yd p c)]:=by
 refine JuM (vs:=[.i p.n,.l (Jc p.acts),.l (dL p.gives),.l (dL p.start),.l (dLL (Jb p.acts)),.l (dBl (Jj p.acts)),.b c.up,.i c.round,.l (dL c.base),.l (dDs c.done),.l (dCs c.wants),.l (dGs c.got)]) L_k1r rfl ?_;have hwl:=hk.c;refine Juc (JQ c.round 0 200) rfl rfl rfl ?_;refine JuE (inB c.round 0 200) rfl (fun b=>JuC (by show [dB false]=_;simp only[Yd,b,Bool.false_and,Bool.and_false])) (fun a1=>?_);refine Juc (Y6 c.base hk.b) rfl rfl rfl ?_;refine JuE (JS c.base) rfl (fun b=>JuC (by show [dB false]=_;simp only[Yd,b,Bool.false_and,Bool.and_false])) (fun a2=>?_);refine Juc (Jbd p c.done ⟨hk.d,hk.dt⟩) rfl rfl rfl ?_;refine JuE (JX p.n c.done) rfl (fun b=>JuC (by show [dB false]=_;simp only[Yd,b,Bool.false_and,Bool.and_false])) (fun a3=>?_);refine Juc (JnQ p c hp hk hc) rfl rfl rfl ?_;refine JuE (decide (c.got.length=p.gives.length)&&JT c.got.length (YX p c.base c.got)) rfl (fun b=>JuC (by show [dB false]=_;simp only[Yd,b,Bool.false_and,Bool.and_false])) (fun a4=>?_);have e:Yd p c=(JT c.wants.length (Yk p c.wants)&&(c.up||(decide (c.wants.length=0)&&decide (Xf c.got=0)))):=by
  unfold Yd;rw[a1,a2,a3,a4];simp only[Jvb]
 rw[e];simp only[sC,sN];refine Jut c.wants.length (fun i=>[.i i]) (fun i=>JT i (Yk p c.wants)=true) rfl rfl rfl fun i hi hq=>?_;simp only[sC,sN];refine JuF i (Xr c.wants) rfl (fun h'=>?_) (fun h'=>JuJ ?_)
 ·obtain⟨x,hx,hm⟩:=sA1 h';have hwi:=Jaw (p:=p) hx;have bad:Yk p c.wants i=false→[dB false]=[dB (JT c.wants.length (Yk p c.wants)&&(c.up||(decide (c.wants.length=0)&&decide (Xf c.got=0))))]:=fun h=>by rw[Z1 h' h];rfl
  have good:Yk p c.wants i=true→JT (i+1) (Yk p c.wants)=true:=fun h=>by rw[Zh,hq,h];rfl
  have nx:[V.i (i64.wrap ((i:Int)+1))]=[V.i ((i+1:Nat):Int)]:=by rw[wS h' (by omega)]
  refine Jud (vs:=[.i x.client,.i x.seq,.i x.act,.l (dL x.args)]) i (mA1 (f:=Cal.g) hx) rfl rfl rfl rfl ?_;simp only[sC,sN];refine Juc (Qu p x hp h1 h2 (hk.ct x hm)) rfl rfl rfl ?_;simp only[sC,sN];refine JuE (Jl p x) rfl (fun b=>JuJ (JuC (bad (by rw[hwi,b];rfl)))) (fun b=>?_);rw[b,Jvb] at hwi;refine JuB ((0:Int)<(i:Int)) rfl (fun h0=>?_) (fun h0=>JuK nx ⟨h',rfl,good (by rw[hwi,decide_eq_true (show i=0 by omega)];rfl)⟩);obtain⟨y,hy,_⟩:=sA1 (show i-1<c.wants.length by omega);rw[Qi hy,decide_eq_false (show ¬i=0 by omega),Bool.false_or] at hwi;refine Jud (vs:=[.i y.client,.i y.seq,.i y.act,.l (dL y.args)]) (i-1) (mA1 (f:=Cal.g) hy) rfl rfl ?_ rfl ?_
  ·show i64.wrap ((i:Int)-1)=((i-1:Nat):Int);rw[w64 (by omega) (by omega)];omega
  refine Jud (vs:=[.i x.client,.i x.seq,.i x.act,.l (dL x.args)]) i (mA1 (f:=Cal.g) hx) rfl rfl rfl rfl ?_;simp only[sC,sN];exact JuB (x.client≤y.client) rfl (fun g=>JuJ (JuC (bad (by rw[hwi];exact decide_eq_false (by omega))))) (fun g=>JuK nx ⟨h',rfl,good (by rw[hwi];exact decide_eq_true (by omega))⟩)
 ·rw[show i=c.wants.length by omega] at hq;rw[hq,Jvb];refine Jup c.up rfl (fun u=>JuC (by show [dB true]=_;rw[u];rfl)) (fun u=>?_);rw[show (c.up||(decide (c.wants.length=0)&&decide (Xf c.got=0)))=(decide (c.wants.length=0)&&decide (Xf c.got=0)) by rw[u,Bool.false_or]];refine Jup (decide (c.wants.length=0)) (by show decide (((dCs c.wants).length:Int)=0)=_;exact Yx _ (Xr _)) (fun w=>?_) (fun w=>JuC (by show [dB false]=_;rw[w];rfl));refine Juc (Jev c hk.g) rfl rfl rfl (JuC ?_);show [dB (decide ((Xf c.got:Int)=0))]=_;rw[w,Yx _ rfl];rfl
theorem JeV (p:Pln) (c:Clk) (hp:JR p) (hk:QV c):Ev L f_k5m (p.cells++c.cells) [dB (QY p c)]:=by
 refine JuM (vs:=[.i p.n,.l (Jc p.acts),.l (dL p.gives),.l (dL p.start),.b c.up,.i c.round,.l (dL c.base),.l (dDs c.done),.l (dCs c.wants),.l (dGs c.got)]) L_k5m rfl ?_;refine Juc (KR p hp) rfl rfl rfl ?_;refine JuE (JE p) rfl (fun b=>JuC (by show [dB false]=_;simp only[QY,b,Bool.false_and,Bool.and_false])) (fun a=>?_);obtain⟨n1,n2,_⟩:=J2 a;have hc:=XI a;have e1:(UT p.acts).1=Jb p.acts:=by simp[Jb,hc]
 have e2:(UT p.acts).2=Jj p.acts:=by simp[Jj,hc]
 have eB:=Jfh p.acts hp.1 (X7 hc).2.1;rw[e1,e2] at eB;refine Juc eB rfl rfl rfl ?_;simp only[sC,sN];refine Juc (JkP p c hp hk n1 n2 hc) rfl rfl rfl (JuC ?_);show [dB (Yd p c)]=_;simp only[QY,a,Jvb]
theorem Jka (x:Got):Ev L f_k5a x.cells [dB (!x.has&&emp x)]:=by
 refine JuM (vs:=[.b x.has,.l (dL x.added),.l (dL x.seqs)]) L_k5a rfl ?_;refine JuE x.has rfl (fun a=>?_) (fun a=>JuC (by show [dB false]=_;rw[a];rfl));refine Jup (decide (x.added.length=0)) (Yx _ (dL1 _)) (fun b=>JuC ?_) (fun b=>JuC (by show [dB false]=_;rw[emp,b];simp));show [dB (decide (((dL x.seqs).length:Int)=0))]=_;rw[Yx _ (dL1 _),a,emp,b];simp
def Va (p:Pln) (b:List Int) (up:Bool) (l:List Got) (j:Nat):Bool :=
 (up&&((l.getD j Q7).has&&(Q9 p b j (l.getD j Q7).added&&QO p.n (l.getD j Q7).seqs)))||(!(l.getD j Q7).has&&emp (l.getD j Q7))
theorem JpD (p:Pln) (b:List Int) (l:List Got) (j:Nat):Va p b true l j=YX p b l j:=by
 unfold Va YX;cases (l.getD j Q7).has <;> simp
theorem JmS (p:Pln) (b:List Int) (l:List Got):JT l.length (Va p b false l)=(JT l.length (YX p b l)&&decide (Xf l=0)):=by
 rw[Bool.eq_iff_iff,JuR,X9,X9,decide_eq_true_eq];have hn:Xf l=0↔∀j,j<l.length→(l.getD j Q7).has=false:=by
  unfold Xf;rw[List.length_eq_zero_iff,List.filter_eq_nil_iff];constructor
  ·intro h j hj;obtain⟨x,hx,hm⟩:=sA1 hj;rw[Qi hx];simpa using h x hm
  ·intro h x hx;obtain⟨j,hj,e⟩:=List.getElem_of_mem hx;have:=h j hj;rw[Qi (x:=x) (by rw[Ju2 hj,e])] at this;simp[this]
 rw[hn];constructor
 ·intro h;have h0 :∀j,j<l.length→(l.getD j Q7).has=false:=fun j hj=>by
   have:=h j hj;unfold Va at this;cases hh:(l.getD j Q7).has with
   | false=>rfl
   | true=>rw[hh] at this;simp at this
  refine⟨fun j hj=>?_,h0⟩;have:=h j hj;unfold Va at this;unfold YX;rw[h0 j hj] at this ⊢;simpa using this
 ·rintro⟨h,h0⟩ j hj;have:=h j hj;unfold YX at this;unfold Va;rw[h0 j hj] at this ⊢;simpa using this
theorem JnO (p:Pln) (c:Clk):Yd p c=(inB c.round 0 200&&(JS c.base&&(JX p.n c.done&&(decide (c.got.length=p.gives.length) &&
  (JT c.wants.length (fun j=>Yk p c.wants j&&c.up)&&JT c.got.length (Va p c.base c.up c.got)))))):=by
 unfold Yd;cases hu:c.up with
 | true =>
  have e:Va p c.base true c.got=YX p c.base c.got:=funext fun j=>JpD p c.base c.got j;have e2:(fun j=>Yk p c.wants j&&true)=Yk p c.wants:=funext fun j=>Bool.and_true _;rw[e,e2,Bool.true_or,Bool.and_true];cases inB c.round 0 200 <;> cases JS c.base <;> cases JX p.n c.done <;> cases decide (c.got.length=p.gives.length) <;> cases JT c.got.length (YX p c.base c.got) <;> cases JT c.wants.length (Yk p c.wants) <;> rfl
 | false =>
  rw[JmS];have e2:JT c.wants.length (fun j=>Yk p c.wants j&&false)=decide (c.wants.length=0):=by
   cases hl:c.wants.length with
   | zero=>rfl
   | succ n=>rw[Z1 (i:=0) (by omega) (Bool.and_false _)];simp
  rw[e2,Bool.false_or];cases hl:decide (c.wants.length=0) with
  | false=>simp
  | true =>
   have h0:c.wants.length=0:=by simpa using hl
   rw[h0];have:JT 0 (Yk p c.wants)=true:=rfl;rw[this];cases inB c.round 0 200 <;> cases JS c.base <;> cases JX p.n c.done <;> cases decide (c.got.length=p.gives.length) <;> cases JT c.got.length (YX p c.base c.got) <;> cases decide (Xf c.got=0) <;> rfl
theorem Jkz (p:Pln) (c:Clk) (hp:JR p) (hk:QV c) (h1:1≤p.n) (h2:p.n≤4) (hc:Qv p.acts=true) :
  Ev L f_k5b (p.cells++[.s (Jc p.acts),.s (dLL (Jb p.acts)),.s (dBl (Jj p.acts))]++c.cells) [dB (Yd p c)]:=by
 refine JuM (vs:=[.i p.n,.l (Jc p.acts),.l (dL p.gives),.l (dL p.start),.l (Jc p.acts),.l (dLL (Jb p.acts)),.l (dBl (Jj p.acts)),.b c.up,.i c.round,.l (dL c.base),.l (dDs c.done),.l (dCs c.wants),.l (dGs c.got)]) L_k5b rfl ?_;have hps:fitLL (Jb p.acts):=(Xh p.acts).fitLL (by omega);have hwl:=hk.c;have hgl:=hk.g;rw[JnO];refine Juc (Ye c.round 0 200) rfl rfl rfl ?_;refine JuE (inB c.round 0 200) rfl (fun b=>JuC (by show [dB false]=_;rw[b];rfl)) (fun a1=>?_);refine Juc (Jdm c.base hk.b) rfl rfl rfl ?_;refine JuE (JS c.base) rfl (fun b=>JuC (by show [dB false]=_;rw[b,Bool.false_and,Bool.and_false])) (fun a2=>?_);refine Juc (JeR p c.done ⟨hk.d,hk.dt⟩) rfl rfl rfl ?_;refine JuE (JX p.n c.done) rfl (fun b=>JuC (by show [dB false]=_;rw[b,Bool.false_and,Bool.and_false,Bool.and_false])) (fun a3=>?_);refine JuE (decide (c.got.length=p.gives.length)) ?_ (fun b=>JuC (by show [dB false]=_;rw[b,Bool.false_and,Bool.and_false,Bool.and_false,Bool.and_false])) (fun a4=>?_)
 ·show (!decide (((dGs c.got).length:Int)=((dL p.gives).length:Int)))=_;rw[XC,dL1];simp[Int.ofNat_inj]
 rw[a1,a2,a3,a4];simp only[Jvb];generalize hB:JT c.wants.length (fun j=>Yk p c.wants j&&c.up)=B;simp only[sC,sN];refine Jut c.wants.length (fun i=>[.i i]) (fun i=>JT i (fun j=>Yk p c.wants j&&c.up)=true) rfl rfl rfl fun i hi hq=>?_;simp only[sC,sN];refine JuF i (Xr c.wants) rfl (fun h'=>?_) (fun h'=>JuJ ?_)
 ·obtain⟨x,hx,hm⟩:=sA1 h';have hwi:=Jaw (p:=p) hx;have bad:(Yk p c.wants i&&c.up)=false→[dB false]=[dB (B&&JT c.got.length (Va p c.base c.up c.got))]:=fun h=>by rw[←hB,Z1 h' h];rfl
  have good:(Yk p c.wants i&&c.up)=true→JT (i+1) (fun j=>Yk p c.wants j&&c.up)=true:=fun h=>by rw[Zh,hq,h];rfl
  have nx:[V.i (i64.wrap ((i:Int)+1))]=[V.i ((i+1:Nat):Int)]:=by rw[wS h' (by omega)]
  refine Jud (vs:=[.i x.client,.i x.seq,.i x.act,.l (dL x.args)]) i (mA1 (f:=Cal.g) hx) rfl rfl rfl rfl ?_;simp only[sC,sN];refine Juc (Jfi p x hp h1 h2 (hk.ct x hm)) rfl rfl rfl ?_;simp only[sC,sN];refine JuE (Jl p x) rfl (fun b=>JuJ (JuC (bad (by rw[hwi,b];rfl)))) (fun b=>?_);rw[b,Jvb] at hwi;refine JuB ((0:Int)<(i:Int)) rfl (fun h0=>?_) (fun h0=>?_)
  ·obtain⟨y,hy,_⟩:=sA1 (show i-1<c.wants.length by omega);rw[Qi hy,decide_eq_false (show ¬i=0 by omega),Bool.false_or] at hwi;refine Jud (vs:=[.i y.client,.i y.seq,.i y.act,.l (dL y.args)]) (i-1) (mA1 (f:=Cal.g) hy) rfl rfl ?_ rfl ?_
   ·show i64.wrap ((i:Int)-1)=((i-1:Nat):Int);rw[w64 (by omega) (by omega)];omega
   simp only[sC,sN];refine JuB (x.client≤y.client) rfl (fun g=>JuJ (JuC (bad (by rw[hwi,decide_eq_false (by omega)];rfl)))) (fun g=>?_);exact JuE c.up rfl (fun u=>JuJ (JuC (bad (by rw[u,Bool.and_false])))) (fun u=>JuK nx ⟨h',rfl,good (by rw[hwi,u,decide_eq_true (by omega)];rfl)⟩)
  ·exact JuE c.up rfl (fun u=>JuJ (JuC (bad (by rw[u,Bool.and_false])))) (fun u=>JuK nx ⟨h',rfl,good (by rw[hwi,u,decide_eq_true (show i=0 by omega)];rfl)⟩)
 ·rw[show i=c.wants.length by omega] at hq;rw[hB] at hq;rw[hq,Jvb];clear hB hq h' hi;refine Jut c.got.length (fun i=>[.i i]) (fun i=>JT i (Va p c.base c.up c.got)=true) rfl rfl rfl fun i hi hq=>?_;simp only[sC,sN];refine JuF i (XC c.got) rfl (fun h'=>?_) (fun h'=>JuJ (JuC ?_))
  ·obtain⟨x,hx,hm⟩:=sA1 h';have hxf:=hk.gt x hm;have hgi:Va p c.base c.up c.got i=((c.up&&(x.has&&(Q9 p c.base i x.added&&QO p.n x.seqs)))||(!x.has&&emp x)):=by unfold Va;rw[Qi hx]
   have bad:Va p c.base c.up c.got i=false→[dB false]=[dB (JT c.got.length (Va p c.base c.up c.got))]:=fun h=>by rw[Z1 h' h]
   have good:Va p c.base c.up c.got i=true→JT (i+1) (Va p c.base c.up c.got)=true:=fun h=>by rw[Zh,hq,h];rfl
   have nx:[V.i (i64.wrap ((i:Int)+1))]=[V.i ((i+1:Nat):Int)]:=by rw[wS h' (by omega)]
   have hno:=Jka x;have last:(c.up&&(x.has&&(Q9 p c.base i x.added&&QO p.n x.seqs)))=false→Va p c.base c.up c.got i=(!x.has&&emp x):=fun h=>by rw[hgi,h,Bool.false_or]
   refine Jud (vs:=[.b x.has,.l (dL x.added),.l (dL x.seqs)]) i (mA1 (f:=Got.g) hx) rfl rfl rfl rfl ?_;simp only[sC,sN];refine Jup c.up rfl (fun u=>?_) (fun u=>?_)
   ·refine Jup x.has rfl (fun hh=>?_) (fun hh=>?_)
    ·refine Juc (JdB p c.base) rfl rfl rfl ?_;refine Juc (Jm6 p.acts (Jb p.acts) (Jj p.acts) c.base p.gives i x.added (VF hc) hk.b hp.2.1 hps hxf.1) rfl rfl rfl ?_;simp only[sC,sN];refine Jup (Q9 p c.base i x.added) rfl (fun e=>?_) (fun e=>?_)
     ·refine Juc (Je1 p x.seqs hxf.2) rfl rfl rfl ?_;simp only[sC,sN];refine JuE (QO p.n x.seqs) rfl (fun f=>?_) (fun f=>JuK nx ⟨h',rfl,good (by rw[hgi,u,hh,e,f];rfl)⟩);refine Juc hno rfl rfl rfl ?_;exact JuE (!x.has&&emp x) rfl (fun g=>JuJ (JuC (bad (by rw[last (by simp[f])];exact g)))) (fun g=>JuK nx ⟨h',rfl,good (by rw[last (by simp[f])];exact g)⟩)
     ·refine Juc hno rfl rfl rfl ?_;exact JuE (!x.has&&emp x) rfl (fun g=>JuJ (JuC (bad (by rw[last (by simp[e])];exact g)))) (fun g=>JuK nx ⟨h',rfl,good (by rw[last (by simp[e])];exact g)⟩)
    ·refine Juc hno rfl rfl rfl ?_;exact JuE (!x.has&&emp x) rfl (fun g=>JuJ (JuC (bad (by rw[last (by simp[hh])];exact g)))) (fun g=>JuK nx ⟨h',rfl,good (by rw[last (by simp[hh])];exact g)⟩)
   ·refine Juc hno rfl rfl rfl ?_;exact JuE (!x.has&&emp x) rfl (fun g=>JuJ (JuC (bad (by rw[last (by simp[u])];exact g)))) (fun g=>JuK nx ⟨h',rfl,good (by rw[last (by simp[u])];exact g)⟩)
  ·show [dB true]=_;rw[show i=c.got.length by omega] at hq;rw[hq]
theorem Jl4 (p:Pln) (c:Clk) (hp:JR p) (hk:QV c):Ev L f_k5c (p.cells++c.cells) [dB (QY p c)]:=by
 refine JuM (vs:=[.i p.n,.l (Jc p.acts),.l (dL p.gives),.l (dL p.start),.b c.up,.i c.round,.l (dL c.base),.l (dDs c.done),.l (dCs c.wants),.l (dGs c.got)]) L_k5c rfl ?_;refine Juc (JfT p hp) rfl rfl rfl ?_;refine Jup (JE p) rfl (fun a=>?_) (fun b=>JuC (by show [dB false]=_;simp only[QY,b,Bool.false_and,Bool.and_false]));obtain⟨n1,n2,_⟩:=J2 a;have hc:=XI a;refine Juc (JjE p.acts hp.1) rfl rfl rfl ?_;simp only[sC,sN];refine Juc (Jkz p c hp hk n1 n2 hc) rfl rfl rfl (JuC ?_);show [dB (Yd p c)]=_;simp only[QY,a,Jvb]
def Jjd (p:Pln) (c:Clk):Bool:=QY p c&&decide (Xf c.got=p.gives.length)
theorem JmZ {p:Pln} {c:Clk} (h:QY p c=true):c.got.length=p.gives.length:=by
 simp only[QY,Yd,JuR,decide_eq_true_eq] at h;exact h.2.2.2.2.1.1
theorem Jnr (l:List Got):(l.all fun g=>g.has)=decide (Xf l=l.length):=by
 rw[Bool.eq_iff_iff,decide_eq_true_eq];unfold Xf;rw[List.length_filter_eq_length_iff];simp
theorem JmU (q:Got→Bool) (l:List Got) {fn:FuncId} {caps:List D} (hlen:l.length≤2000000) (hcap:XF (.f fn caps) = .f fn caps) (har:arT L fn=some ([some 3]++caps.map fun _=>none))
  (hc :∀x∈l,Ev L fn (x.cells++caps.map D.norm) [dB (q x)]):Ev L f_k5h [.s (dGs l),.f fn caps] [dB (l.any q)] :=
 YA (g := f_k5g) L_k5h rfl hcap
   (Y5 (sh:= .g [.b,.s,.s]) (as:=[(.vb (.v 3)),(.s (.v 4)),(.s (.v 5))]) (ar:=[some 3]) (k:=6) Got.g q Got.cells (fun x=>[.b x.has,.l (dL x.added),.l (dL x.seqs)]) l
     L_k5g rfl hlen hcap (fun _ _=>rfl) (fun _ _=>rfl) (fun _ _ _ _=>rfl) har hc)
/- The program's SitFall answers as the reference's: over residual programs. -/
theorem Qc (c:Int) (l:List Int) (hl:l.length≤2000000):Ev L f_k1t [dI c,.s (dL l)] [dI c,.s (dL l)]:=by
 refine JuM (vs:=[.i c,.l (dL l)]) L_k1t rfl ?_;refine Jue (dL l) 2000000 (by rw[dL1];omega) (by omega) rfl ?_;refine Juu (JV l) ?_;exact Jue (dL l) 2000000 (by rw[dL1];omega) (by omega) rfl (JuC rfl)
theorem Zj (l:List Don) (hl:UN YZ l):Ev L f_k1u [.s (dDs l)] [.s (dDs l)]:=by
 refine JuM (vs:=[.l (dDs l)]) L_k1u rfl ?_;have hl0:=hl.1;refine Jut l.length (fun i=>[.l (dDs (l.take i)),.i i]) (fun _=>True) rfl rfl trivial fun i hi _=>?_;simp only[sC,sN];refine JuF i (Xj l) rfl (fun h=>?_) (fun h=>JuJ (JuC ?_))
 ·obtain⟨x,hx,hm⟩:=sA1 h;have hg:(dDs l)[i]? = some x.g:=mA1 (f:=Don.g) hx;refine Jud (vs:=[.i x.seq,.i x.code,.l (dL x.tells)]) i hg rfl rfl rfl rfl ?_;refine Jud (vs:=[.i x.seq,.i x.code,.l (dL x.tells)]) i hg rfl rfl rfl rfl ?_;refine Juc (vs:=[.i x.code,.l (dL x.tells)]) (Qc x.code x.tells (hl.2 x hm)) rfl rfl rfl ?_;simp only[sC,sN];refine Jug (dDs (l.take i)) 2000000 (by rw[Xj,Ju6];omega) (by omega) rfl ?_;refine JuK (vs:=[.l (dDs (l.take (i+1))),.i ((i+1:Nat):Int)]) ?_ ⟨h,rfl,trivial⟩;show [V.l (dDs (l.take i)++[x.g]),V.i (i64.wrap ((i:Int)+1))]=_;rw[wS h (by omega),tS1 hx];simp only[dDs,List.map_append,JuZ,List.map_nil]
 ·show [D.s (dDs (l.take i))]=_;rw[tA1 h]
theorem Ja1 (s:Sit) (hs:KF s):Ev L f_k1x s.cells s.cells:=by
 refine JuM (vs:=[.b s.up,.b s.frozen,.i s.round,.l (dL s.base),.l (dL s.added),.l (dDs s.done)]) L_k1x rfl ?_;have h1:=hs.1;have h2:=hs.2.1;refine Jue (dL s.base) 2000000 (by rw[dL1];omega) (by omega) rfl ?_;refine Juu (JV s.base) ?_;refine Jue (dL s.base) 2000000 (by rw[dL1];omega) (by omega) rfl ?_;refine Jue (dL s.added) 2000000 (by rw[dL1];omega) (by omega) rfl ?_;refine Juu (JV s.added) ?_;refine Jue (dL s.added) 2000000 (by rw[dL1];omega) (by omega) rfl ?_;exact Juc (vs:=[.l (dDs s.done)]) (Zj s.done ⟨hs.2.2.1,hs.2.2.2⟩) rfl rfl rfl (JuC rfl)
theorem Jgw (c:Int) (l:List Int) (hl:l.length≤2000000):Ev L f_k5d [dI c,.s (dL l)] [dI c,.s (dL l)] :=
 JuM (vs:=[.i c,.l (dL l)]) L_k5d rfl (Juc (vs:=[.l (dL l)]) (KL l hl) rfl rfl rfl (JuC rfl))
theorem JoU (l:List Don) (hl:UN YZ l):Ev L f_k5e [.s (dDs l)] [.s (dDs l)]:=by
 refine JuM (vs:=[.l (dDs l)]) L_k5e rfl ?_;have hl0:=hl.1;refine Jut l.length (fun i=>[.l (dDs (l.take i)),.i i]) (fun _=>True) rfl rfl trivial fun i hi _=>?_;simp only[sC,sN];refine JuF i (Xj l) rfl (fun h=>?_) (fun h=>JuJ (JuC ?_))
 ·obtain⟨x,hx,hm⟩:=sA1 h;have hg:(dDs l)[i]? = some x.g:=mA1 (f:=Don.g) hx;refine Jud (vs:=[.i x.seq,.i x.code,.l (dL x.tells)]) i hg rfl rfl rfl rfl ?_;refine Juc (vs:=[.i x.code,.l (dL x.tells)]) (Jgw x.code x.tells (hl.2 x hm)) rfl rfl rfl ?_;simp only[sC,sN];refine Jus (Jbv dI (fun _=>rfl) x.tells) ?_;refine Jug (dDs (l.take i)) 2000000 (by rw[Xj,Ju6];omega) (by omega) rfl ?_;refine JuK (vs:=[.l (dDs (l.take (i+1))),.i ((i+1:Nat):Int)]) ?_ ⟨h,rfl,trivial⟩;show [V.l (dDs (l.take i)++[x.g]),V.i (i64.wrap ((i:Int)+1))]=_;rw[wS h (by omega),tS1 hx];simp only[dDs,List.map_append,JuZ,List.map_nil]
 ·show [D.s (dDs (l.take i))]=_;rw[tA1 h]
/- In the beginning all are alike: over residual programs. -/
theorem JdW {bs:List Int} {p:Int} (hr:Rdr bs p) (hf:p≤999999900000) :
  ∃ (l:Pln) (q:Int),Ev L f_ke [.s (Ja bs),dI p] (l.cells++[.s (Ja bs),dI q])∧p≤q∧q≤p+2000∧Un l.acts∧l.gives.length≤3∧l.start.length=3∧JE l=true:=by
 have key : ∃ ds,Ev L f_ke [.s (Ja bs),dI p] ds∧∃ (l:Pln) (q:Int),ds=l.cells++[.s (Ja bs),dI q]∧p≤q∧q≤p+2000∧Un l.acts∧l.gives.length≤3∧l.start.length=3∧JE l=true:=by
  refine JuO (vs:=[.l (Ja bs),.i p]) L_ke rfl ?_;refine Je 4 hr (by omega) (by omega) rfl rfl fun u hu0 hu1=>?_;obtain⟨as,q,he,q1,q2,hs,has1⟩:=Jdq (hr.go (q:=p+1) (by omega) (by omega)) (by omega);have ht:Un as:=⟨by have:=hs.1;omega,fun a ha=>(hs.2 a ha).thin⟩;refine Juc he rfl rfl rfl ?_;refine Je 3 (hr.go (q:=q) (by omega) (by omega)) (by omega) (by omega) rfl rfl fun w hw0 hw1=>?_;simp only[sC,sN];refine Juh (fun m vs=>∃ (gs:List Int) (k o:Int),vs=[.l (dL gs),.i k,.i o,.l (Ja bs)]∧q≤o∧o+k≤q+10∧0≤k∧k≤3∧(m:Int)=k∧(gs.length:Int)+k=1+w∧∀z∈gs,0≤z∧z≤50) rfl (1+w).toNat
   ⟨[],1+w,q+1,?_,by omega,by omega,by omega,by omega,by omega,by simp,fun z hz=>by simp at hz⟩ ?_
  ·show [V.l [],V.i (i64.wrap (1+w)),V.i (q+1),V.l (Ja bs)]=_;rw[w64 (by omega) (by omega)];rfl
  rintro m _ ⟨gs,k,o,rfl,o1,o2,k0,k3,hm,hl,hgs⟩;simp only[sC,sN];refine JuB (0<k) rfl (fun h=>?_) (fun h=>JuJ ?_)
  ·refine Je 5 (hr.go (q:=o) (by omega) (by omega)) (by omega) (by omega) rfl rfl fun x hx0 hx1=>?_;simp only[sC,sN];refine Juz (0≤x) rfl hx0 ?_;refine Juz (x<5) rfl hx1 ?_;refine Jui (ds:=dL [0,3,9,20,50]) x rfl rfl rfl hx0 (J1 hx0 hx1) rfl ?_;have hy:0≤([0,3,9,20,50]:List Int).getD x.toNat 0∧([0,3,9,20,50]:List Int).getD x.toNat 0≤50:=by rcases (by omega:x=0∨x=1∨x=2∨x=3∨x=4) with q | q | q | q | q <;> subst q <;> decide
   generalize ([0,3,9,20,50]:List Int).getD x.toNat 0=y at *;refine Jug (dL gs) 10 (by rw[dL1];omega) (by omega) rfl ?_;refine JuK (vs:=[.l (dL (gs++[y])),.i (k-1),.i (o+1),.l (Ja bs)]) ?_ ⟨m-1,by omega,gs++[y],k-1,o+1,rfl,by omega,by omega,by omega,by omega,by omega,by simp;omega,fun z hz=>by
    rcases JuW.1 hz with q | q
    ·exact hgs z q
    ·simp only[Ju9] at q;rw[q];exact hy⟩
   show [V.l (dL gs++[dI y]),V.i (i64.wrap (k-1)),V.i (o+1),V.l (Ja bs)]=_;rw[XP,w64 (by omega) (by omega)]
  refine Juh (fun m vs=>∃ (ss:List Int) (r:Int),vs=[.l (dL ss),.i (ss.length:Int),.i r,.l (Ja bs)]∧o≤r∧r≤o+ss.length∧ss.length≤3∧m=3-ss.length∧Lim 1000 ss) rfl 3
   ⟨[],o,rfl,by omega,by simp,by simp,by simp,fun z hz=>by simp at hz⟩ ?_
  rintro m _ ⟨ss,r,rfl,r1,r2,hs3,hm3,hss⟩;simp only[sC,sN];refine JuB ((ss.length:Int)<3) rfl (fun h3=>?_) (fun h3=>JuJ (JuC ⟨⟨1+u,as,gs,ss⟩,r,?_,by omega,by omega,ht,?_,?_,?_⟩))
  ·refine Je 6 (hr.go (q:=r) (by omega) (by omega)) (by omega) (by omega) rfl rfl fun x hx0 hx1=>?_;simp only[sC,sN];refine Juz (0≤x) rfl hx0 ?_;refine Juz (x<6) rfl hx1 ?_;refine Jui (ds:=dL [0,5,20,60,200,-8]) x rfl rfl rfl hx0 (J1 hx0 hx1) rfl ?_;have hy : -1000≤([0,5,20,60,200,-8]:List Int).getD x.toNat 0∧([0,5,20,60,200,-8]:List Int).getD x.toNat 0≤1000:=by rcases (by omega:x=0∨x=1∨x=2∨x=3∨x=4∨x=5) with q | q | q | q | q | q <;> subst q <;> decide
   generalize ([0,5,20,60,200,-8]:List Int).getD x.toNat 0=y at *;refine Jug (dL ss) 10 (by rw[dL1];omega) (by omega) rfl ?_;refine JuK (vs:=[.l (dL (ss++[y])),.i ((ss++[y]).length:Int),.i (r+1),.l (Ja bs)]) ?_ ⟨m-1,by omega,ss++[y],r+1,rfl,by omega,by simp;omega,by simp;omega,by simp;omega,hss.snoc hy⟩;show [V.l (dL ss++[dI y]),V.i (i64.wrap ((ss.length:Int)+1)),V.i (r+1),V.l (Ja bs)]=_;rw[XP,w64 (by omega) (by omega)];simp
  ·show [dI (i64.wrap (1+u)),D.s (Jc as),D.s (dL gs),D.s (dL ss),D.s (Ja bs),dI r]=_;rw[w64 (by omega) (by omega)];rfl
  ·show gs.length≤3;omega
  ·show ss.length=3;omega
  ·have ho :∀a∈as,Qy a=true:=fun a ha=>(hs.2 a ha).2.2;have hl4:=hs.1;unfold JE Qw Qv;simp only[JuR,Ju4,Jq];exact⟨by omega,⟨by omega,ho⟩,Jp.2 ⟨by omega,hss⟩,⟨QL.2 ⟨by omega,hss.mono (by omega)⟩,by omega⟩,hgs⟩
 obtain⟨ds,e1,l,q,rfl,e2⟩:=key;exact⟨l,q,e1,e2⟩
theorem Jn0 (a b:List Int):dL a++dL b=dL (a++b):=by simp[dL]
theorem JA {bs:List Int} {p n:Int} (hr:Rdr bs p) (hf:p≤999999800000) (n1:1≤n) (n2:n≤2000000) :
  ∃ (l:Pln) (q:Int),Ev L f_k31 [.s (Ja bs),dI p,dI n] (l.cells++[.s (Ja bs),dI q])∧p≤q∧q≤p+5000∧JR l:=by
 have key : ∃ ds,Ev L f_k31 [.s (Ja bs),dI p,dI n] ds∧∃ (l:Pln) (q:Int),ds=l.cells++[.s (Ja bs),dI q]∧p≤q∧q≤p+5000∧JR l:=by
  refine JuO (vs:=[.l (Ja bs),.i p,.i n]) L_k31 rfl ?_;obtain⟨l,q,he,q1,q2,ha,hg,hs,_⟩:=JdW hr (by omega);have hfit:JR l:=⟨ha.fit,by omega,by omega⟩;refine Juc (vs:=[.i l.n,.l (Jc l.acts),.l (dL l.gives),.l (dL l.start),.l (Ja bs),.i q]) he rfl rfl rfl ?_;simp only[sC,sN];refine Je n (hr.go (q:=q) (by omega) (by omega)) n1 n2 rfl rfl fun u hu0 hu1=>?_;simp only[sC,sN];refine JuB (0<u) rfl (fun _=>JuC ⟨l,q+1,rfl,by omega,by omega,hfit⟩) (fun _=>?_);refine Je 5 (hr.go (q:=q+1) (by omega) (by omega)) (by omega) (by omega) rfl rfl fun v hv0 hv1=>?_;simp only[sC,sN];refine JuB (v=0) rfl (fun _=>?_) (fun _=>?_)
  ·refine Je 3 (hr.go (q:=q+1+1) (by omega) (by omega)) (by omega) (by omega) rfl rfl fun x hx0 hx1=>?_;simp only[sC,sN];refine Juz (0≤x) rfl hx0 ?_;refine Juz (x<3) rfl hx1 ?_;refine Jui (ds:=dL [0,5,-1]) x rfl rfl rfl hx0 (J1 hx0 hx1) rfl ?_;exact JuC ⟨⟨([0,5,-1]:List Int).getD x.toNat 0,l.acts,l.gives,l.start⟩,q+1+1+1,rfl,by omega,by omega,hfit⟩
  refine JuB (v=1) rfl (fun _=>?_) (fun _=>?_)
  ·obtain⟨as,o,ea,o1,o2,hth⟩:=JeA (hr.go (q:=q+1+1) (by omega) (by omega)) (by omega) (n:=1) (by omega) (by omega);refine Juc ea rfl rfl rfl ?_;simp only[sC,sN];exact JuC ⟨⟨l.n,as,l.gives,l.start⟩,o,rfl,by omega,by omega,⟨hth.fit,hfit.2⟩⟩
  refine JuB (v=2) rfl (fun _=>?_) (fun _=>?_)
  ·refine Je 4 (hr.go (q:=q+1+1) (by omega) (by omega)) (by omega) (by omega) rfl rfl fun x hx0 hx1=>?_;simp only[sC,sN];refine Juz (0≤x) rfl hx0 ?_;refine Juz (x<4) rfl hx1 ?_;refine Jui (ds:=dL [-1,51,3,3]) x rfl rfl rfl hx0 (J1 hx0 hx1) rfl ?_;generalize ([-1,51,3,3]:List Int).getD x.toNat 0=y;refine Jue (dL (l.gives++[y,4,4])) 100 (by rw[dL1];simp;omega) (by omega) (Jn0 l.gives [y,4,4]) ?_;refine JuC ⟨⟨l.n,l.acts,l.gives++[y,4,4],l.start⟩,q+1+1+1,?_,by omega,by omega,⟨hfit.1,by simp;omega,hfit.2.2⟩⟩;show [dI l.n,D.s (Jc l.acts),D.s (dL l.gives++dL [y,4,4]),D.s (dL l.start),D.s (Ja bs),dI (q+1+1+1)]=_;rw[Jn0];rfl
  refine JuB (v=3) rfl (fun _=>?_) (fun _=>?_)
  ·refine Je 3 (hr.go (q:=q+1+1) (by omega) (by omega)) (by omega) (by omega) rfl rfl fun x hx0 hx1=>?_;simp only[sC,sN];refine Juz (0≤x) rfl hx0 ?_;refine Juz (x<3) rfl hx1 ?_;refine Jui (ds:=dL [1001,-1000,1000]) x rfl rfl rfl hx0 (J1 hx0 hx1) rfl ?_;generalize ([1001,-1000,1000]:List Int).getD x.toNat 0=y;obtain⟨z,hz,_⟩:=sA1 (show 0<l.start.length by omega);refine Juz ((0:Int)<((dL l.start).length:Int)) rfl (by rw[dL1];omega) ?_;refine Jud 0 (mA1 (f:=dI) hz) rfl rfl rfl rfl ?_;refine JuC ⟨⟨l.n,l.acts,l.gives,l.start.set 0 y⟩,q+1+1+1,?_,by omega,by omega,⟨hfit.1,hfit.2.1,by simp;omega⟩⟩;show [dI l.n,D.s (Jc l.acts),D.s (dL l.gives),D.s ((dL l.start).set (0:Int).toNat (dI y)),D.s (Ja bs),dI (q+1+1+1)]=_;rw[QR];rfl
  ·refine Juz ((2:Int)≤((dL l.start).length:Int)) rfl (by rw[dL1];omega) ?_;refine JuC ⟨⟨l.n,l.acts,l.gives,l.start.take 2⟩,q+1+1,?_,by omega,by omega,⟨hfit.1,hfit.2.1,by simp;omega⟩⟩;show [dI l.n,D.s (Jc l.acts),D.s (dL l.gives),D.s ((dL l.start).take (2:Int).toNat),D.s (Ja bs),dI (q+1+1)]=_;rw[show ((2:Int).toNat)=2 from rfl,V3];rfl
 obtain⟨ds,e1,l,q,rfl,e2⟩:=key;exact⟨l,q,e1,e2⟩
theorem Kl (l:List Int) (hl:l.length≤2000000):Ev L f_k5o [.s (dL l),.s (dL l)] [dB true]:=by
 have h:=Jfp l l hl
 rwa [decide_eq_true rfl] at h
theorem JhD (l:List Don) (hl:UN YZ l):Ev L f_k5r [.s (dDs l),.s (dDs l)] [dB true]:=by
 refine JuM (vs:=[.l (dDs l),.l (dDs l)]) L_k5r rfl ?_;have hl0:=hl.1;refine Jul (by show (!decide (((dDs l).length:Int)=((dDs l).length:Int)))=false;simp) ?_;refine Jut l.length (fun i=>[.i i]) (fun _=>True) rfl rfl trivial fun i hi _=>?_;simp only[sC,sN];refine JuF i (Xj l) rfl (fun h=>?_) (fun h=>JuJ (JuC rfl));obtain⟨x,hx,hm⟩:=sA1 h;have hg:(dDs l)[i]? = some x.g:=mA1 (f:=Don.g) hx;have hco:=JoR x.code x.code x.tells x.tells (hl.2 x hm);rw[decide_eq_true rfl,decide_eq_true rfl] at hco;refine Jud (vs:=[.i x.seq,.i x.code,.l (dL x.tells)]) i hg rfl rfl rfl rfl ?_;refine Jud (vs:=[.i x.seq,.i x.code,.l (dL x.tells)]) i hg rfl rfl rfl rfl ?_;simp only[sC,sN];refine Jul (by show (!decide (x.seq=x.seq))=false;simp) ?_;refine Jud (vs:=[.i x.seq,.i x.code,.l (dL x.tells)]) i hg rfl rfl rfl rfl ?_;refine Jud (vs:=[.i x.seq,.i x.code,.l (dL x.tells)]) i hg rfl rfl rfl rfl ?_;simp only[sC,sN];refine Juc hco rfl rfl rfl (Jul rfl ?_);exact JuK (vs:=[.i ((i+1:Nat):Int)]) (by rw[←wS h (by omega)];rfl) ⟨h,rfl,trivial⟩
theorem Jd3 {n:Int} (h0:0≤n):JX n (List.replicate n.toNat We)=true:=by
 unfold JX;rw[JuR];refine⟨by simp;omega,?_⟩;rw[Ju4];intro d hd;rw[(List.mem_replicate.1 hd).2];rfl
theorem Jmj (as:List (List Jg)):QS (Jb as)=true:=by
 unfold QS;rw[Ju4];intro p hp;have:=(Xh as).each p hp;exact Jp.2 ⟨by omega,this.2⟩
theorem JbM {p:Pln} (h:JE p=true):JS p.start=true:=by
 simp only[JE,JuR,Jp] at h;have:=h.2.2.1;have hl:Lim 1000 p.start:=this.2;exact QL.2 ⟨by omega,hl.mono (by omega)⟩
theorem Qg {p:Pln} (h:JE p=true):1≤p.gives.length∧p.gives.length≤3:=by
 have:=(J2 h).2.2.2;simp only[Qw,JuR,Jq] at this;omega
theorem Jl8 {p:Pln} (h:JE p=true):QY p (X2 p)=true∧Jjd p (X2 p)=false:=by
 obtain⟨n1,n2,h3,_⟩:=J2 h;have hg:=Qg h;have hs:X2 p=⟨true,0,p.start,List.replicate p.n.toNat We,[],List.replicate p.gives.length Q7⟩:=by unfold X2;rw[if_pos h]
 have hgot :∀j,YX p p.start (List.replicate p.gives.length Q7) j=true:=fun j=>by
  unfold YX;have:(List.replicate p.gives.length Q7).getD j Q7=Q7:=by
   rw[JuU,List.getElem?_replicate];split <;> rfl
  rw[this];rfl
 have hh:Xf (List.replicate p.gives.length Q7)=0:=by
  unfold Xf;rw[List.length_eq_zero_iff,List.filter_eq_nil_iff];intro x hx;rw[(List.mem_replicate.1 hx).2];simp[Q7]
 have hok:QY p (X2 p)=true:=by
  rw[hs];unfold QY Yd;rw[h,JbM h,Jd3 (by omega),X9.2 fun j _=>hgot j];simp[inB,JT]
 refine⟨hok,?_⟩;unfold Jjd;rw[hok,hs];show (true&&decide (Xf (List.replicate p.gives.length Q7)=p.gives.length))=false;rw[hh,Jvb];exact decide_eq_false (by omega)
/- Worlds: sizes,copies,comparisons; which of them are ok: over residual programs. -/
structure Vd where
 call:Cal
 code:Int
 tells:List Int
 deriving DecidableEq
abbrev dSt (l:List Sit):List D:=l.map Sit.g
abbrev dCn (l:List Con):List D:=l.map Con.g
abbrev dMs (l:List Msg):List D:=l.map Msg.g
def Vd.cells (x:Vd):List D:=[dI x.call.client,dI x.call.seq,dI x.call.act,.s (dL x.call.args),dI x.code,.s (dL x.tells)]
def Vd.g (x:Vd):D:= .g x.cells
abbrev dLg (l:List Vd):List D:=l.map Vd.g
def Jk8 (x:Vd):Prop:=x.call.args.length≤2000000∧x.tells.length≤2000000
structure Wrl where
 p:Pln
 sites:List Sit
 c:Clk
 cons:List Con
 net:List Msg
 log:List Vd
def Wrl.cells (w:Wrl):List D:=w.p.cells++[.s (dSt w.sites)]++w.c.cells++[.s (dCn w.cons),.s (dMs w.net),.s (dLg w.log)]
structure Jkm (w:Wrl):Prop where
 p:JR w.p
 s:UN KF w.sites
 c:QV w.c
 n:UN Jjx w.cons
 m:UN Zb w.net
 l:UN Jk8 w.log
def XQ (p:Pln) (k:Int) (x:Con):Bool:=Xo ⟨x.seq,x.code,x.tells⟩&&(if x.busy then Jl p x.call&&(decide (x.call.client=k)&&decide (x.call.seq=x.seq+1)) else Xp x.call)
theorem Jf9 (p:Pln) (x:Con) (k:Int) (hp:JR p) (h1:1≤p.n) (h2:p.n≤4) (hx:Jjx x):Ev L f_k1l (p.cells++x.cells++[dI k]) [dB (XQ p k x)]:=by
 refine JuM (vs:=[.i p.n,.l (Jc p.acts),.l (dL p.gives),.l (dL p.start),.i x.seq,.b x.busy,.i x.call.client,.i x.call.seq,.i x.call.act,.l (dL x.call.args),.i x.code,.l (dL x.tells),.i k]) L_k1l rfl ?_;have bad:Xo ⟨x.seq,x.code,x.tells⟩=false→[dB false]=[dB (XQ p k x)]:=fun h=>by unfold XQ;rw[h];rfl
 refine Juc (JQ x.seq 0 300) rfl rfl rfl ?_;simp only[sC,sN];refine JuE (inB x.seq 0 300) rfl (fun b=>JuC (bad ?_)) (fun b=>?_)
 ·unfold Xo;rw[if_neg (by intro e;have e:x.seq=0:=e;rw[e] at b;simp[inB] at b)];have:inB x.seq 1 300=false:=by
   unfold inB at b ⊢;simp only[Bool.and_eq_false_iff,decide_eq_false_iff_not] at b ⊢;omega
  show (inB x.seq 1 300&&_)=false;rw[this];rfl
 have hc:Xo ⟨x.seq,x.code,x.tells⟩=if decide (x.seq=0)=decide (x.code=0) then(if x.seq=0 then decide (x.tells.length=0) else JM x.code x.tells) else false:=Jb5 (d:=⟨x.seq,x.code,x.tells⟩) b;have hsq:0≤x.seq∧x.seq≤300:=by unfold inB at b;simp only[JuR,decide_eq_true_eq] at b;exact b
 refine JuE (decide (x.seq=0) == decide (x.code=0)) rfl (fun e=>JuC (bad (by rw[hc,if_neg (by simpa using e)]))) (fun e=>?_);rw[if_pos (by simpa using e)] at hc;have hv:Xo ⟨x.seq,x.code,x.tells⟩=true→XQ p k x=(if x.busy then Jl p x.call&&(decide (x.call.client=k)&&decide (x.call.seq=x.seq+1)) else Xp x.call):=fun h=>by unfold XQ;rw[h];rfl
 refine JuB (x.seq=0) rfl (fun h0=>?_) (fun h0=>?_)
 ·rw[if_pos h0] at hc;refine JuB (0<((dL x.tells).length:Int)) rfl (fun ht=>JuC (bad ?_)) (fun ht=>?_)
  ·rw[dL1] at ht;rw[hc];exact decide_eq_false (by omega)
  have hv:=hv (by rw[dL1] at ht;rw[hc];exact decide_eq_true (by omega));refine Jul (by show decide ((0:Int)<x.seq)=false;rw[h0];rfl) ?_;refine JuE x.busy rfl (fun u=>?_) (fun u=>?_)
  ·have hv2:XQ p k x=Xp x.call:=by rw[hv,u];rfl
   rw[hv2];refine JuB (x.call.client=0) rfl (fun a=>?_) (fun a=>JuC (by show [dB false]=_;simp[Xp,a]));refine JuB (x.call.seq=0) rfl (fun b=>?_) (fun b=>JuC (by show [dB false]=_;simp[Xp,b]));refine JuB (x.call.act=0) rfl (fun d=>JuC ?_) (fun d=>JuC (by show [dB false]=_;simp[Xp,d]));show [dB (decide (((dL x.call.args).length:Int)=0))]=_;rw[Yx _ (dL1 _)];simp[Xp,a,b,d]
  ·have hv2:XQ p k x=(Jl p x.call&&(decide (x.call.client=k)&&decide (x.call.seq=x.seq+1))):=by rw[hv,u];rfl
   rw[hv2];refine Juc (Qu p x.call hp h1 h2 hx.1) rfl rfl rfl ?_;simp only[sC,sN];refine Jup (Jl p x.call) rfl (fun a=>?_) (fun a=>JuC (by show [dB false]=_;rw[a];rfl));refine JuB (x.call.client=k) rfl (fun b=>JuC ?_) (fun b=>JuC (by show [dB false]=_;simp[b]));show [dB (decide (x.call.seq=i64.wrap (x.seq+1)))]=_;rw[w64 (by omega) (by omega),a,decide_eq_true b];rfl
 ·rw[if_neg h0] at hc;refine Jur (by show decide ((0:Int)<x.seq)=true;simp;omega) ?_;refine Juc (Jbz x.code x.tells hx.2) rfl rfl rfl ?_;simp only[sC,sN];refine JuE (JM x.code x.tells) rfl (fun e=>JuC (bad (by rw[hc,e]))) (fun e=>?_);have hv:=hv (by rw[hc,e]);refine JuE x.busy rfl (fun u=>?_) (fun u=>?_)
  ·have hv2:XQ p k x=Xp x.call:=by rw[hv,u];rfl
   rw[hv2];refine JuB (x.call.client=0) rfl (fun a=>?_) (fun a=>JuC (by show [dB false]=_;simp[Xp,a]));refine JuB (x.call.seq=0) rfl (fun b=>?_) (fun b=>JuC (by show [dB false]=_;simp[Xp,b]));refine JuB (x.call.act=0) rfl (fun d=>JuC ?_) (fun d=>JuC (by show [dB false]=_;simp[Xp,d]));show [dB (decide (((dL x.call.args).length:Int)=0))]=_;rw[Yx _ (dL1 _)];simp[Xp,a,b,d]
  ·have hv2:XQ p k x=(Jl p x.call&&(decide (x.call.client=k)&&decide (x.call.seq=x.seq+1))):=by rw[hv,u];rfl
   rw[hv2];refine Juc (Qu p x.call hp h1 h2 hx.1) rfl rfl rfl ?_;simp only[sC,sN];refine Jup (Jl p x.call) rfl (fun a=>?_) (fun a=>JuC (by show [dB false]=_;rw[a];rfl));refine JuB (x.call.client=k) rfl (fun b=>JuC ?_) (fun b=>JuC (by show [dB false]=_;simp[b]));show [dB (decide (x.call.seq=i64.wrap (x.seq+1)))]=_;rw[w64 (by omega) (by omega),a,decide_eq_true b];rfl
def YU (p:Pln) (x:Vd):Bool:=Jl p x.call&&JM x.code x.tells
def Jdn (p:Pln) (l:List Vd):Bool:=decide (l.length≤100)&&l.all (YU p)
theorem Jm8 (p:Pln) (l:List Vd) (hp:JR p) (h1:1≤p.n) (h2:p.n≤4) (hl:UN Jk8 l):Ev L f_k1d (p.cells++[.s (dLg l)]) [dB (Jdn p l)]:=by
 refine JuM (vs:=[.i p.n,.l (Jc p.acts),.l (dL p.gives),.l (dL p.start),.l (dLg l)]) L_k1d rfl ?_;have hlen:(dLg l).length=l.length:=by simp[dLg]
 have hl0:=hl.1;refine JuB ((100:Int)<(l.length:Int)) (by show decide ((100:Int)<((dLg l).length:Int))=_;rw[hlen]) (fun h=>JuC (by show [dB false]=_;unfold Jdn;rw[decide_eq_false (by omega)];rfl)) (fun h=>?_);have hv:Jdn p l=l.all (YU p):=by unfold Jdn;rw[decide_eq_true (by omega),Jvb]
 rw[hv];refine Jut l.length (fun i=>[.i i]) (fun i=>((l.take i).all (YU p))=true) rfl rfl rfl fun i hi hq=>?_;simp only[sC,sN];refine JuF i hlen rfl (fun h'=>?_) (fun h'=>JuJ (JuC ?_))
 ·obtain⟨x,hx,hm⟩:=sA1 h';have hf:=hl.2 x hm;have bad:YU p x=false→[dB false]=[dB (l.all (YU p))]:=fun hb=>by
   have:l.all (YU p)=false:=by rw[←List.take_append_drop i l,List.all_append,XH hx];simp[hb]
   rw[this]
  have good:YU p x=true→((l.take (i+1)).all (YU p))=true:=fun hb=>by rw[tS1 hx,List.all_append,hq];simp[hb]
  refine Jud (vs:=[.i x.call.client,.i x.call.seq,.i x.call.act,.l (dL x.call.args),.i x.code,.l (dL x.tells)]) i (mA1 (f:=Vd.g) hx) rfl rfl rfl rfl ?_;simp only[sC,sN];refine Juc (Qu p x.call hp h1 h2 hf.1) rfl rfl rfl ?_;simp only[sC,sN];refine JuE (Jl p x.call) rfl (fun a=>JuJ (JuC (bad (by unfold YU;rw[a];rfl)))) (fun a=>?_);refine Jud (vs:=[.i x.call.client,.i x.call.seq,.i x.call.act,.l (dL x.call.args),.i x.code,.l (dL x.tells)]) i (mA1 (f:=Vd.g) hx) rfl rfl rfl rfl ?_;simp only[sC,sN];refine Juc (Jbz x.code x.tells hf.2) rfl rfl rfl ?_;simp only[sC,sN];exact JuE (JM x.code x.tells) rfl (fun b=>JuJ (JuC (bad (by unfold YU;rw[a,b];rfl)))) (fun b=>JuK (vs:=[.i ((i+1:Nat):Int)]) (by rw[←wS h' (by omega)];rfl) ⟨h',rfl,good (by unfold YU;rw[a,b];rfl)⟩)
 ·show [dB true]=_;rw[tA1 h'] at hq;rw[hq]
def JmJ:Con:=⟨0,false,⟨0,0,0,[]⟩,0,[]⟩
def JmR:Sit:=⟨false,false,0,[],[],[]⟩
def UY (w:Wrl):Bool:=decide (w.sites.length=w.p.gives.length)&&(decide ((w.cons.length:Int)=w.p.n)&&(decide (w.net.length≤30)&&(Jdn w.p w.log &&
 (JT w.sites.length (fun j=>Q3 w.p (w.sites.getD j JmR) j)&&(JT w.cons.length (fun j=>XQ w.p j (w.cons.getD j JmJ))&&(w.net.all (JC w.p)&&Yd w.p w.c))))))
theorem Joo (w:Wrl) (hf:Jkm w) (h1:1≤w.p.n) (h2:w.p.n≤4) (hc:Qv w.p.acts=true):Ev L f_k1s (w.cells++[.s (dLL (Jb w.p.acts)),.s (dBl (Jj w.p.acts))]) [dB (UY w)]:=by
 refine JuM (vs:=[.i w.p.n,.l (Jc w.p.acts),.l (dL w.p.gives),.l (dL w.p.start),.l (dSt w.sites),.b w.c.up,.i w.c.round,.l (dL w.c.base),.l (dDs w.c.done),.l (dCs w.c.wants),.l (dGs w.c.got),.l (dCn w.cons),.l (dMs w.net),.l (dLg w.log),.l (dLL (Jb w.p.acts)),.l (dBl (Jj w.p.acts))]) L_k1s rfl ?_;obtain⟨fp,fs,fc,fn,fm,fl⟩:=hf;have s0:=fs.1;have n0:=fn.1;have m0:=fm.1;refine JuE (decide (w.sites.length=w.p.gives.length)) (by show (!decide (((dSt w.sites).length:Int)=((dL w.p.gives).length:Int)))=_;rw[dL1,show (dSt w.sites).length=w.sites.length from Ju0 ..];simp[Int.ofNat_inj]) (fun b=>JuC (by show [dB false]=_;unfold UY;rw[b];simp)) (fun a1=>?_);refine JuE (decide ((w.cons.length:Int)=w.p.n)) (by show (!decide (((dCn w.cons).length:Int)=w.p.n))=_;rw[show (dCn w.cons).length=w.cons.length from Ju0 ..]) (fun b=>JuC (by show [dB false]=_;unfold UY;rw[b];simp)) (fun a2=>?_);refine JuB ((30:Int)<(w.net.length:Int)) (by show decide ((30:Int)<((dMs w.net).length:Int))=_;rw[show (dMs w.net).length=w.net.length from Ju0 ..]) (fun h=>JuC (by show [dB false]=_;unfold UY;rw[decide_eq_false (show ¬w.net.length≤30 by omega)];simp)) (fun h30=>?_);refine Juc (Jm8 w.p w.log fp h1 h2 fl) rfl rfl rfl ?_;simp only[sC,sN];refine JuE (Jdn w.p w.log) rfl (fun b=>JuC (by show [dB false]=_;unfold UY;rw[b];simp)) (fun a3=>?_);have e:UY w=(JT w.sites.length (fun j=>Q3 w.p (w.sites.getD j JmR) j)&&(JT w.cons.length (fun j=>XQ w.p j (w.cons.getD j JmJ))&&(w.net.all (JC w.p)&&Yd w.p w.c))):=by unfold UY;rw[a1,a2,a3,decide_eq_true (show w.net.length≤30 by omega)];simp only[Jvb]
 rw[e];refine Jut w.sites.length (fun i=>[.i i]) (fun i=>JT i (fun j=>Q3 w.p (w.sites.getD j JmR) j)=true) rfl rfl rfl fun i hi hq=>?_;simp only[sC,sN];refine JuF i (Ju0 (f:=Sit.g) (as:=w.sites)) rfl (fun h'=>?_) (fun h'=>JuJ ?_)
 ·obtain⟨x,hx,hm⟩:=sA1 h';have hfi:Q3 w.p (w.sites.getD i JmR) i=Q3 w.p x i:=by rw[Qi hx]
  have bad:Q3 w.p x i=false→∀B:Bool,[dB false]=[dB (JT w.sites.length (fun j=>Q3 w.p (w.sites.getD j JmR) j)&&B)]:=fun h B=>by rw[Z1 h' (hfi.trans h)];rfl
  have good:Q3 w.p x i=true→JT (i+1) (fun j=>Q3 w.p (w.sites.getD j JmR) j)=true:=fun h=>by rw[Zh,hq,hfi,h];rfl
  refine Jud (vs:=[.b x.up,.b x.frozen,.i x.round,.l (dL x.base),.l (dL x.added),.l (dDs x.done)]) i (mA1 (f:=Sit.g) hx) rfl rfl rfl rfl ?_;simp only[sC,sN];refine Juc (Jpx w.p x i fp (fs.2 x hm) hc) rfl rfl rfl ?_;simp only[sC,sN];exact JuE (Q3 w.p x i) rfl (fun e=>JuJ (JuC (bad e _))) (fun e=>JuK (vs:=[.i ((i+1:Nat):Int)]) (by rw[←wS h' (by omega)];rfl) ⟨h',rfl,good e⟩)
 rw[show i=w.sites.length by omega] at hq;rw[hq,Jvb];clear hq h' hi;refine Jut w.cons.length (fun i=>[.i i]) (fun i=>JT i (fun j=>XQ w.p j (w.cons.getD j JmJ))=true) rfl rfl rfl fun i hi hq=>?_;simp only[sC,sN];refine JuF i (Ju0 (f:=Con.g) (as:=w.cons)) rfl (fun h'=>?_) (fun h'=>JuJ ?_)
 ·obtain⟨x,hx,hm⟩:=sA1 h';have hfi:XQ w.p i (w.cons.getD i JmJ)=XQ w.p i x:=by rw[Qi hx]
  have bad:XQ w.p i x=false→∀B:Bool,[dB false]=[dB (JT w.cons.length (fun j=>XQ w.p j (w.cons.getD j JmJ))&&B)]:=fun h B=>by rw[Z1 h' (hfi.trans h)];rfl
  have good:XQ w.p i x=true→JT (i+1) (fun j=>XQ w.p j (w.cons.getD j JmJ))=true:=fun h=>by rw[Zh,hq,hfi,h];rfl
  refine Jud (vs:=[.i x.seq,.b x.busy,.i x.call.client,.i x.call.seq,.i x.call.act,.l (dL x.call.args),.i x.code,.l (dL x.tells)]) i (mA1 (f:=Con.g) hx) rfl rfl rfl rfl ?_;simp only[sC,sN];refine Juc (Jf9 w.p x i fp h1 h2 (fn.2 x hm)) rfl rfl rfl ?_;simp only[sC,sN];exact JuE (XQ w.p i x) rfl (fun e=>JuJ (JuC (bad e _))) (fun e=>JuK (vs:=[.i ((i+1:Nat):Int)]) (by rw[←wS h' (by omega)];rfl) ⟨h',rfl,good e⟩)
 rw[show i=w.cons.length by omega] at hq;rw[hq,Jvb];clear hq h' hi;refine Jut w.net.length (fun i=>[.i i]) (fun i=>((w.net.take i).all (JC w.p))=true) rfl rfl rfl fun i hi hq=>?_;simp only[sC,sN];refine JuF i (Ju0 (f:=Msg.g) (as:=w.net)) rfl (fun h'=>?_) (fun h'=>JuJ ?_)
 ·obtain⟨x,hx,hm⟩:=sA1 h';have bad:JC w.p x=false→[dB false]=[dB (w.net.all (JC w.p)&&Yd w.p w.c)]:=fun hb=>by
   have:w.net.all (JC w.p)=false:=by rw[←List.take_append_drop i w.net,List.all_append,XH hx];simp[hb]
   rw[this];rfl
  have good:JC w.p x=true→((w.net.take (i+1)).all (JC w.p))=true:=fun hb=>by rw[tS1 hx,List.all_append,hq];simp[hb]
  refine Jud (vs:=[.i x.kind,.i x.to,.i x.frm,.i x.round,.i x.call.client,.i x.call.seq,.i x.call.act,.l (dL x.call.args),.l (dL x.vals),.l (dL x.seqs),.l (dDs x.done)]) i (mA1 (f:=Msg.g) hx) rfl rfl rfl rfl ?_;simp only[sC,sN];refine Juc (JpH w.p x fp h1 h2 (fm.2 x hm)) rfl rfl rfl ?_;simp only[sC,sN];exact JuE (JC w.p x) rfl (fun e=>JuJ (JuC (bad e))) (fun e=>JuK (vs:=[.i ((i+1:Nat):Int)]) (by rw[←wS h' (by omega)];rfl) ⟨h',rfl,good e⟩)
 rw[tA1 h'] at hq;rw[hq,Jvb];exact Juc (JkP w.p w.c fp fc h1 h2 hc) rfl rfl rfl (JuC rfl)
/- Marks,and what is held,of lists of messages: over residual programs. Printed by wip/tools/pzz.py. -/
def Msg.w (x:Msg):Nat:=7+x.call.args.length+x.vals.length+x.seqs.length+wts Don.w x.done
end Go.Proofs.YtofcmnglieaoeabGreatDoor

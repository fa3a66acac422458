import Derived.Test.YtgpjnnkmmplicabGreatDoorPZU
import Derived.Test.YtgpjnnkmmplicabGreatDoorPS
import Derived.Test.YtgpjnnkmmplicabGreatDoorTe
import Derived.Test.YtgpjnnkmmplicabGreatDoorPZQ
import Derived.Test.YtgpjnnkmmplicabGreatDoorPZF
set_option linter.unusedVariables false
set_option linter.unusedSimpArgs false
/- The program's ClkOk and ClkReady answer as the reference's: over residual programs. -/
namespace Go.Proofs.YtgpjnnkmmplicabGreatDoor
open Go Go.Tm
open Go.IntKind (i64)
def emp (g:Got):Bool:=decide (g.added.length=0)&&decide (g.seqs.length=0)
def ZP (p:Pln) (b:List Int) (l:List Got) (j:Nat):Bool :=
 if(l.getD j Xf).has then YE p b j (l.getD j Xf).added&&Xq p.n (l.getD j Xf).seqs else emp (l.getD j Xf)
def XO (p:Pln) (l:List Cal) (j:Nat):Bool:=Qf p (l.getD j ⟨0,0,0,[]⟩)&&(decide (j=0)||decide ((l.getD (j-1) ⟨0,0,0,[]⟩).client<(l.getD j ⟨0,0,0,[]⟩).client))
def QQ (l:List Got):Nat:=(l.filter fun g=>g.has).length
def J9 (n:Nat) (f:Nat→Bool):Bool:=(List.range n).all f
theorem K3 (n:Nat) (f:Nat→Bool):J9 (n+1) f=(J9 n f&&f n):=by simp[J9,List.range_succ]
theorem Zm {n:Nat} {f:Nat→Bool}:J9 n f=true↔∀j,j<n→f j=true:=by simp[J9]
theorem Vk {n i:Nat} {f:Nat→Bool} (h:i<n) (hf:f i=false):J9 n f=false:=by
 cases e:J9 n f with
 | false=>rfl
 | true=>rw[Zm.1 e i h] at hf;cases hf
def Y1 (p:Pln) (c:Clk):Bool:=inB c.round 0 200&&(J3 c.base&&(QG p.n c.done&&((decide (c.got.length=p.gives.length)&&J9 c.got.length (ZP p c.base c.got)) &&
 (J9 c.wants.length (XO p c.wants)&&(c.up||(decide (c.wants.length=0)&&decide (QQ c.got=0)))))))
def ZF (p:Pln) (c:Clk):Bool:=Qt p&&Y1 p c
theorem XD (l:List Got):(dGs l).length=l.length:=by simp[dGs]
theorem Yq (l:List Cal):(dCs l).length=l.length:=by simp[dCs]
theorem Xw {α:Type} {l:List α} {i:Nat} {x d:α} (h:l[i]? = some x):l.getD i d=x:=by simp[JrH,h]
theorem Jn1 (p:Pln) (c:Clk) (hp:Xt p) (hk:QV c) (hc:QK p.acts=true) :
  Ev L f_k1p (p.cells++[.s (dLL (Jg p.acts)),.s (dBl (JT p.acts))]++c.cells) [dB (decide (c.got.length=p.gives.length)&&J9 c.got.length (ZP p c.base c.got))]:=by
 refine JrA (vs:=[.i p.n,.l (Jf p.acts),.l (dL p.gives),.l (dL p.start),.l (dLL (Jg p.acts)),.l (dBl (JT p.acts)),.b c.up,.i c.round,.l (dL c.base),.l (dDs c.done),.l (dCs c.wants),.l (dGs c.got)]) L_k1p rfl ?_;have hps:fitLL (Jg p.acts):=(Jar p.acts).fitLL (by omega);have hgl:=hk.g;refine Jrm (decide (c.got.length=p.gives.length)) ?_ (fun b=>JqZ (by show [dB false]=_;simp only[b,Bool.false_and])) (fun a=>?_)
 ·show (!decide (((dGs c.got).length:Int)=((dL p.gives).length:Int)))=_;rw[XD,dL1];simp[Int.ofNat_inj]
 rw[a,JrY];refine Jq0 c.got.length (fun i=>[.i i]) (fun i=>J9 i (ZP p c.base c.got)=true) rfl rfl rfl fun i hi hq=>?_;simp only[sC,sN];refine Jru i (XD c.got) rfl (fun h'=>?_) (fun h'=>Jrg (JqZ ?_))
 ·obtain⟨x,hx,hm⟩:=sA1 h';have hxf:=hk.gt x hm;have hD:=Xw (d:=Xf) hx;have hgs:ZP p c.base c.got i=if x.has then YE p c.base i x.added&&Xq p.n x.seqs else emp x:=by unfold ZP;rw[hD]
  have bad:ZP p c.base c.got i=false→[dB false]=[dB (J9 c.got.length (ZP p c.base c.got))]:=fun h=>by rw[Vk h' h]
  have good:ZP p c.base c.got i=true→J9 (i+1) (ZP p c.base c.got)=true:=fun h=>by rw[K3,hq,h];rfl
  have nx:[V.i (i64.wrap ((i:Int)+1))]=[V.i ((i+1:Nat):Int)]:=by rw[wS h' (by omega)]
  refine Jrd (vs:=[.b x.has,.l (dL x.added),.l (dL x.seqs)]) i (mA1 (f:=Got.g) hx) rfl rfl rfl rfl ?_;simp only[sC,sN];refine Jrm x.has rfl (fun hn=>?_) (fun hh=>?_)
  ·rw[hn] at hgs;have hw:i64.wrap (((dL x.added).length:Int)+((dL x.seqs).length:Int))=(x.added.length:Int)+x.seqs.length:=by rw[dL1,dL1];exact w64 (by omega) (by omega)
   refine Jrx ((0:Int)<(x.added.length:Int)+x.seqs.length) (by show decide ((0:Int)<i64.wrap (((dL x.added).length:Int)+((dL x.seqs).length:Int)))=_;rw[hw]) (fun h0=>Jrg (JqZ (bad ?_))) (fun h0=>?_)
   ·rw[hgs];simp only[JrU,if_false,emp,Bool.and_eq_false_iff,decide_eq_false_iff_not];omega
   refine Jra (by show x.has=false;exact hn) (Jrq nx ⟨h',rfl,good ?_⟩);rw[hgs];simp only[JrU,if_false,emp,JrE,decide_eq_true_eq];omega
  ·rw[hh] at hgs;simp only[if_true] at hgs;refine Jrj (by show x.has=true;exact hh) ?_;refine Jrw (JfZ c.base p.gives (Jg p.acts) i x.added hk.b hp.2.1 hps hxf.1) rfl rfl rfl ?_;simp only[sC,sN];refine Jrm (keeps c.base p.gives (Jg p.acts) i x.added) rfl (fun e=>Jrg (JqZ (bad (by rw[hgs,YE,e];rfl)))) (fun e=>?_);refine Jrw (Ji7 (JT p.acts) x.added (Jh8 hc) (Jba e)) rfl rfl rfl ?_;simp only[sC,sN];refine Jrm (YB (JT p.acts) x.added) rfl (fun f=>Jrg (JqZ (bad (by rw[hgs,YE,e,f];rfl)))) (fun f=>?_);refine Jrw (Jl6 p x.seqs hxf.2) rfl rfl rfl ?_;simp only[sC,sN];exact Jrm (Xq p.n x.seqs) rfl (fun g=>Jrg (JqZ (bad (by rw[hgs,g,Bool.and_false])))) (fun g=>Jrq nx ⟨h',rfl,good (by rw[hgs,YE,e,f,g];rfl)⟩)
 ·show [dB true]=_;rw[show i=c.got.length by omega] at hq;rw[hq]
theorem Jlv {l:List Got} {i:Nat} {x:Got} (h:l[i]? = some x):QQ (l.take (i+1))=QQ (l.take i)+(if x.has then 1 else 0):=by
 unfold QQ;rw[tS1 h,List.filter_append,JrK];cases hx:x.has <;> simp[hx]
theorem JjR (l:List Got):QQ l≤l.length:=List.length_filter_le _ _
theorem Jig (c:Clk) (hk:c.got.length≤2000000):Ev L f_k1s c.cells [dI (QQ c.got)]:=by
 refine JrA (vs:=[.b c.up,.i c.round,.l (dL c.base),.l (dDs c.done),.l (dCs c.wants),.l (dGs c.got)]) L_k1s rfl ?_;refine Jq0 c.got.length (fun i=>[.i (QQ (c.got.take i)),.i i]) (fun _=>True) rfl rfl trivial fun i hi _=>?_;simp only[sC,sN];refine Jru i (XD c.got) rfl (fun h'=>?_) (fun h'=>Jrg (JqZ ?_))
 ·obtain⟨x,hx,hm⟩:=sA1 h';have hs:=Jlv hx;have hle:=JjR (c.got.take i);rw[JrT] at hle;refine Jrd (vs:=[.b x.has,.l (dL x.added),.l (dL x.seqs)]) i (mA1 (f:=Got.g) hx) rfl rfl rfl rfl ?_;simp only[sC,sN];refine Jq5 x.has rfl (fun hh=>?_) (fun hh=>?_)
  ·refine Jrq (vs:=[.i ((QQ (c.got.take (i+1)):Nat):Int),.i ((i+1:Nat):Int)]) ?_ ⟨h',rfl,trivial⟩;show [V.i (i64.wrap ((QQ (c.got.take i):Int)+1)),V.i (i64.wrap ((i:Int)+1))]=_;rw[wS h' (by omega),w64 (by omega) (by omega),hs,hh];rfl
  ·refine Jrq (vs:=[.i ((QQ (c.got.take (i+1)):Nat):Int),.i ((i+1:Nat):Int)]) ?_ ⟨h',rfl,trivial⟩;show [V.i (QQ (c.got.take i):Int),V.i (i64.wrap ((i:Int)+1))]=_;rw[wS h' (by omega),hs,hh];rfl
 ·show [dI (QQ (c.got.take i))]=_;rw[tA1 h']
theorem WO {p:Pln} {l:List Cal} {i:Nat} {x:Cal} (h:l[i]? = some x):XO p l i=(Qf p x&&(decide (i=0)||decide ((l.getD (i-1) ⟨0,0,0,[]⟩).client<x.client))):=by
 unfold XO;rw[Xw h]
theorem Jpi (p:Pln) (c:Clk) (hp:Xt p) (hk:QV c) (h1:1≤p.n) (h2:p.n≤4) (hc:QK p.acts=true) :
  Ev L f_k1t (p.cells++[.s (dLL (Jg p.acts)),.s (dBl (JT p.acts))]++c.cells) [dB (Y1 p c)]:=by
 refine JrA (vs:=[.i p.n,.l (Jf p.acts),.l (dL p.gives),.l (dL p.start),.l (dLL (Jg p.acts)),.l (dBl (JT p.acts)),.b c.up,.i c.round,.l (dL c.base),.l (dDs c.done),.l (dCs c.wants),.l (dGs c.got)]) L_k1t rfl ?_;have hwl:=hk.c;refine Jrw (Qn c.round 0 200) rfl rfl rfl ?_;refine Jrm (inB c.round 0 200) rfl (fun b=>JqZ (by show [dB false]=_;simp only[Y1,b,Bool.false_and,Bool.and_false])) (fun a1=>?_);refine Jrw (Kv c.base hk.b) rfl rfl rfl ?_;refine Jrm (J3 c.base) rfl (fun b=>JqZ (by show [dB false]=_;simp only[Y1,b,Bool.false_and,Bool.and_false])) (fun a2=>?_);refine Jrw (Jly p c.done ⟨hk.d,hk.dt⟩) rfl rfl rfl ?_;refine Jrm (QG p.n c.done) rfl (fun b=>JqZ (by show [dB false]=_;simp only[Y1,b,Bool.false_and,Bool.and_false])) (fun a3=>?_);refine Jrw (Jn1 p c hp hk hc) rfl rfl rfl ?_;refine Jrm (decide (c.got.length=p.gives.length)&&J9 c.got.length (ZP p c.base c.got)) rfl (fun b=>JqZ (by show [dB false]=_;simp only[Y1,b,Bool.false_and,Bool.and_false])) (fun a4=>?_);have e:Y1 p c=(J9 c.wants.length (XO p c.wants)&&(c.up||(decide (c.wants.length=0)&&decide (QQ c.got=0)))):=by
  unfold Y1;rw[a1,a2,a3,a4];simp only[JrY]
 rw[e];simp only[sC,sN];refine Jq0 c.wants.length (fun i=>[.i i]) (fun i=>J9 i (XO p c.wants)=true) rfl rfl rfl fun i hi hq=>?_;simp only[sC,sN];refine Jru i (Yq c.wants) rfl (fun h'=>?_) (fun h'=>Jrg ?_)
 ·obtain⟨x,hx,hm⟩:=sA1 h';have hwi:=WO (p:=p) hx;have bad:XO p c.wants i=false→[dB false]=[dB (J9 c.wants.length (XO p c.wants)&&(c.up||(decide (c.wants.length=0)&&decide (QQ c.got=0))))]:=fun h=>by rw[Vk h' h];rfl
  have good:XO p c.wants i=true→J9 (i+1) (XO p c.wants)=true:=fun h=>by rw[K3,hq,h];rfl
  have nx:[V.i (i64.wrap ((i:Int)+1))]=[V.i ((i+1:Nat):Int)]:=by rw[wS h' (by omega)]
  refine Jrd (vs:=[.i x.client,.i x.seq,.i x.act,.l (dL x.args)]) i (mA1 (f:=Cal.g) hx) rfl rfl rfl rfl ?_;simp only[sC,sN];refine Jrw (Jlx p x hp h1 h2 (hk.ct x hm)) rfl rfl rfl ?_;simp only[sC,sN];refine Jrm (Qf p x) rfl (fun b=>Jrg (JqZ (bad (by rw[hwi,b];rfl)))) (fun b=>?_);rw[b,JrY] at hwi;refine Jrx ((0:Int)<(i:Int)) rfl (fun h0=>?_) (fun h0=>Jrq nx ⟨h',rfl,good (by rw[hwi,decide_eq_true (show i=0 by omega)];rfl)⟩);obtain⟨y,hy,_⟩:=sA1 (show i-1<c.wants.length by omega);rw[Xw hy,decide_eq_false (show ¬i=0 by omega),Bool.false_or] at hwi;refine Jrd (vs:=[.i y.client,.i y.seq,.i y.act,.l (dL y.args)]) (i-1) (mA1 (f:=Cal.g) hy) rfl rfl ?_ rfl ?_
  ·show i64.wrap ((i:Int)-1)=((i-1:Nat):Int);rw[w64 (by omega) (by omega)];omega
  refine Jrd (vs:=[.i x.client,.i x.seq,.i x.act,.l (dL x.args)]) i (mA1 (f:=Cal.g) hx) rfl rfl rfl rfl ?_;simp only[sC,sN];exact Jrx (x.client≤y.client) rfl (fun g=>Jrg (JqZ (bad (by rw[hwi];exact decide_eq_false (by omega))))) (fun g=>Jrq nx ⟨h',rfl,good (by rw[hwi];exact decide_eq_true (by omega))⟩)
 ·rw[show i=c.wants.length by omega] at hq;rw[hq,JrY];refine Jq5 c.up rfl (fun u=>JqZ (by show [dB true]=_;rw[u];rfl)) (fun u=>?_);rw[show (c.up||(decide (c.wants.length=0)&&decide (QQ c.got=0)))=(decide (c.wants.length=0)&&decide (QQ c.got=0)) by rw[u,Bool.false_or]];refine Jq5 (decide (c.wants.length=0)) (by show decide (((dCs c.wants).length:Int)=0)=_;exact JcE _ (Yq _)) (fun w=>?_) (fun w=>JqZ (by show [dB false]=_;rw[w];rfl));refine Jrw (Jig c hk.g) rfl rfl rfl (JqZ ?_);show [dB (decide ((QQ c.got:Int)=0))]=_;rw[w,JcE _ rfl];rfl
theorem Jmc (p:Pln) (c:Clk) (hp:Xt p) (hk:QV c):Ev L f_k1u (p.cells++c.cells) [dB (ZF p c)]:=by
 refine JrA (vs:=[.i p.n,.l (Jf p.acts),.l (dL p.gives),.l (dL p.start),.b c.up,.i c.round,.l (dL c.base),.l (dDs c.done),.l (dCs c.wants),.l (dGs c.got)]) L_k1u rfl ?_;refine Jrw (Jmq p hp) rfl rfl rfl ?_;refine Jrm (Qt p) rfl (fun b=>JqZ (by show [dB false]=_;simp only[ZF,b,Bool.false_and,Bool.and_false])) (fun a=>?_);obtain⟨n1,n2,_⟩:=YQ a;have hc:=VJ a;have e1:(Wk p.acts).1=Jg p.acts:=by simp[Jg,hc]
 have e2:(Wk p.acts).2=JT p.acts:=by simp[JT,hc]
 have eB:=JlO p.acts hp.1 (KM hc).2.1;rw[e1,e2] at eB;refine Jrw eB rfl rfl rfl ?_;simp only[sC,sN];refine Jrw (Jpi p c hp hk n1 n2 hc) rfl rfl rfl (JqZ ?_);show [dB (Y1 p c)]=_;simp only[ZF,a,JrY]
theorem Jja (x:Got):Ev L f_k49 x.cells [dB (!x.has&&emp x)]:=by
 refine JrA (vs:=[.b x.has,.l (dL x.added),.l (dL x.seqs)]) L_k49 rfl ?_;refine Jrm x.has rfl (fun a=>?_) (fun a=>JqZ (by show [dB false]=_;rw[a];rfl));refine Jq5 (decide (x.added.length=0)) (JcE _ (dL1 _)) (fun b=>JqZ ?_) (fun b=>JqZ (by show [dB false]=_;rw[emp,b];simp));show [dB (decide (((dL x.seqs).length:Int)=0))]=_;rw[JcE _ (dL1 _),a,emp,b];simp
def Vj (p:Pln) (b:List Int) (up:Bool) (l:List Got) (j:Nat):Bool :=
 (up&&((l.getD j Xf).has&&(YE p b j (l.getD j Xf).added&&Xq p.n (l.getD j Xf).seqs)))||(!(l.getD j Xf).has&&emp (l.getD j Xf))
theorem Jo2 (p:Pln) (b:List Int) (l:List Got) (j:Nat):Vj p b true l j=ZP p b l j:=by
 unfold Vj ZP;cases (l.getD j Xf).has <;> simp
theorem JlI (p:Pln) (b:List Int) (l:List Got):J9 l.length (Vj p b false l)=(J9 l.length (ZP p b l)&&decide (QQ l=0)):=by
 rw[Bool.eq_iff_iff,JrE,Zm,Zm,decide_eq_true_eq];have hn:QQ l=0↔∀j,j<l.length→(l.getD j Xf).has=false:=by
  unfold QQ;rw[List.length_eq_zero_iff,List.filter_eq_nil_iff];constructor
  ·intro h j hj;obtain⟨x,hx,hm⟩:=sA1 hj;rw[Xw hx];simpa using h x hm
  ·intro h x hx;obtain⟨j,hj,e⟩:=List.getElem_of_mem hx;have:=h j hj;rw[Xw (x:=x) (by rw[JrP hj,e])] at this;simp[this]
 rw[hn];constructor
 ·intro h;have h0 :∀j,j<l.length→(l.getD j Xf).has=false:=fun j hj=>by
   have:=h j hj;unfold Vj at this;cases hh:(l.getD j Xf).has with
   | false=>rfl
   | true=>rw[hh] at this;simp at this
  refine⟨fun j hj=>?_,h0⟩;have:=h j hj;unfold Vj at this;unfold ZP;rw[h0 j hj] at this ⊢;simpa using this
 ·rintro⟨h,h0⟩ j hj;have:=h j hj;unfold ZP at this;unfold Vj;rw[h0 j hj] at this ⊢;simpa using this
theorem JmA (p:Pln) (c:Clk):Y1 p c=(inB c.round 0 200&&(J3 c.base&&(QG p.n c.done&&(decide (c.got.length=p.gives.length) &&
  (J9 c.wants.length (fun j=>XO p c.wants j&&c.up)&&J9 c.got.length (Vj p c.base c.up c.got)))))):=by
 unfold Y1;cases hu:c.up with
 | true =>
  have e:Vj p c.base true c.got=ZP p c.base c.got:=funext fun j=>Jo2 p c.base c.got j;have e2:(fun j=>XO p c.wants j&&true)=XO p c.wants:=funext fun j=>Bool.and_true _;rw[e,e2,Bool.true_or,Bool.and_true];cases inB c.round 0 200 <;> cases J3 c.base <;> cases QG p.n c.done <;> cases decide (c.got.length=p.gives.length) <;> cases J9 c.got.length (ZP p c.base c.got) <;> cases J9 c.wants.length (XO p c.wants) <;> rfl
 | false =>
  rw[JlI];have e2:J9 c.wants.length (fun j=>XO p c.wants j&&false)=decide (c.wants.length=0):=by
   cases hl:c.wants.length with
   | zero=>rfl
   | succ n=>rw[Vk (i:=0) (by omega) (Bool.and_false _)];simp
  rw[e2,Bool.false_or];cases hl:decide (c.wants.length=0) with
  | false=>simp
  | true =>
   have h0:c.wants.length=0:=by simpa using hl
   rw[h0];have:J9 0 (XO p c.wants)=true:=rfl;rw[this];cases inB c.round 0 200 <;> cases J3 c.base <;> cases QG p.n c.done <;> cases decide (c.got.length=p.gives.length) <;> cases J9 c.got.length (ZP p c.base c.got) <;> cases decide (QQ c.got=0) <;> rfl
theorem Jje (p:Pln) (c:Clk) (hp:Xt p) (hk:QV c) (h1:1≤p.n) (h2:p.n≤4) (hc:QK p.acts=true) :
  Ev L f_k4a (p.cells++[.s (Jf p.acts),.s (dLL (Jg p.acts)),.s (dBl (JT p.acts))]++c.cells) [dB (Y1 p c)]:=by
 refine JrA (vs:=[.i p.n,.l (Jf p.acts),.l (dL p.gives),.l (dL p.start),.l (Jf p.acts),.l (dLL (Jg p.acts)),.l (dBl (JT p.acts)),.b c.up,.i c.round,.l (dL c.base),.l (dDs c.done),.l (dCs c.wants),.l (dGs c.got)]) L_k4a rfl ?_;have hps:fitLL (Jg p.acts):=(Jar p.acts).fitLL (by omega);have hwl:=hk.c;have hgl:=hk.g;rw[JmA];refine Jrw (X2 c.round 0 200) rfl rfl rfl ?_;refine Jrm (inB c.round 0 200) rfl (fun b=>JqZ (by show [dB false]=_;rw[b];rfl)) (fun a1=>?_);refine Jrw (KJ c.base hk.b) rfl rfl rfl ?_;refine Jrm (J3 c.base) rfl (fun b=>JqZ (by show [dB false]=_;rw[b,Bool.false_and,Bool.and_false])) (fun a2=>?_);refine Jrw (Jmg p c.done ⟨hk.d,hk.dt⟩) rfl rfl rfl ?_;refine Jrm (QG p.n c.done) rfl (fun b=>JqZ (by show [dB false]=_;rw[b,Bool.false_and,Bool.and_false,Bool.and_false])) (fun a3=>?_);refine Jrm (decide (c.got.length=p.gives.length)) ?_ (fun b=>JqZ (by show [dB false]=_;rw[b,Bool.false_and,Bool.and_false,Bool.and_false,Bool.and_false])) (fun a4=>?_)
 ·show (!decide (((dGs c.got).length:Int)=((dL p.gives).length:Int)))=_;rw[XD,dL1];simp[Int.ofNat_inj]
 rw[a1,a2,a3,a4];simp only[JrY];generalize hB:J9 c.wants.length (fun j=>XO p c.wants j&&c.up)=B;simp only[sC,sN];refine Jq0 c.wants.length (fun i=>[.i i]) (fun i=>J9 i (fun j=>XO p c.wants j&&c.up)=true) rfl rfl rfl fun i hi hq=>?_;simp only[sC,sN];refine Jru i (Yq c.wants) rfl (fun h'=>?_) (fun h'=>Jrg ?_)
 ·obtain⟨x,hx,hm⟩:=sA1 h';have hwi:=WO (p:=p) hx;have bad:(XO p c.wants i&&c.up)=false→[dB false]=[dB (B&&J9 c.got.length (Vj p c.base c.up c.got))]:=fun h=>by rw[←hB,Vk h' h];rfl
  have good:(XO p c.wants i&&c.up)=true→J9 (i+1) (fun j=>XO p c.wants j&&c.up)=true:=fun h=>by rw[K3,hq,h];rfl
  have nx:[V.i (i64.wrap ((i:Int)+1))]=[V.i ((i+1:Nat):Int)]:=by rw[wS h' (by omega)]
  refine Jrd (vs:=[.i x.client,.i x.seq,.i x.act,.l (dL x.args)]) i (mA1 (f:=Cal.g) hx) rfl rfl rfl rfl ?_;simp only[sC,sN];refine Jrw (Jlt p x hp h1 h2 (hk.ct x hm)) rfl rfl rfl ?_;simp only[sC,sN];refine Jrm (Qf p x) rfl (fun b=>Jrg (JqZ (bad (by rw[hwi,b];rfl)))) (fun b=>?_);rw[b,JrY] at hwi;refine Jrx ((0:Int)<(i:Int)) rfl (fun h0=>?_) (fun h0=>?_)
  ·obtain⟨y,hy,_⟩:=sA1 (show i-1<c.wants.length by omega);rw[Xw hy,decide_eq_false (show ¬i=0 by omega),Bool.false_or] at hwi;refine Jrd (vs:=[.i y.client,.i y.seq,.i y.act,.l (dL y.args)]) (i-1) (mA1 (f:=Cal.g) hy) rfl rfl ?_ rfl ?_
   ·show i64.wrap ((i:Int)-1)=((i-1:Nat):Int);rw[w64 (by omega) (by omega)];omega
   simp only[sC,sN];refine Jrx (x.client≤y.client) rfl (fun g=>Jrg (JqZ (bad (by rw[hwi,decide_eq_false (by omega)];rfl)))) (fun g=>?_);exact Jrm c.up rfl (fun u=>Jrg (JqZ (bad (by rw[u,Bool.and_false])))) (fun u=>Jrq nx ⟨h',rfl,good (by rw[hwi,u,decide_eq_true (by omega)];rfl)⟩)
  ·exact Jrm c.up rfl (fun u=>Jrg (JqZ (bad (by rw[u,Bool.and_false])))) (fun u=>Jrq nx ⟨h',rfl,good (by rw[hwi,u,decide_eq_true (show i=0 by omega)];rfl)⟩)
 ·rw[show i=c.wants.length by omega] at hq;rw[hB] at hq;rw[hq,JrY];clear hB hq h' hi;refine Jq0 c.got.length (fun i=>[.i i]) (fun i=>J9 i (Vj p c.base c.up c.got)=true) rfl rfl rfl fun i hi hq=>?_;simp only[sC,sN];refine Jru i (XD c.got) rfl (fun h'=>?_) (fun h'=>Jrg (JqZ ?_))
  ·obtain⟨x,hx,hm⟩:=sA1 h';have hxf:=hk.gt x hm;have hgi:Vj p c.base c.up c.got i=((c.up&&(x.has&&(YE p c.base i x.added&&Xq p.n x.seqs)))||(!x.has&&emp x)):=by unfold Vj;rw[Xw hx]
   have bad:Vj p c.base c.up c.got i=false→[dB false]=[dB (J9 c.got.length (Vj p c.base c.up c.got))]:=fun h=>by rw[Vk h' h]
   have good:Vj p c.base c.up c.got i=true→J9 (i+1) (Vj p c.base c.up c.got)=true:=fun h=>by rw[K3,hq,h];rfl
   have nx:[V.i (i64.wrap ((i:Int)+1))]=[V.i ((i+1:Nat):Int)]:=by rw[wS h' (by omega)]
   have hno:=Jja x;have last:(c.up&&(x.has&&(YE p c.base i x.added&&Xq p.n x.seqs)))=false→Vj p c.base c.up c.got i=(!x.has&&emp x):=fun h=>by rw[hgi,h,Bool.false_or]
   refine Jrd (vs:=[.b x.has,.l (dL x.added),.l (dL x.seqs)]) i (mA1 (f:=Got.g) hx) rfl rfl rfl rfl ?_;simp only[sC,sN];refine Jq5 c.up rfl (fun u=>?_) (fun u=>?_)
   ·refine Jq5 x.has rfl (fun hh=>?_) (fun hh=>?_)
    ·refine Jrw (Jcj p c.base) rfl rfl rfl ?_;refine Jrw (Jlw p.acts (Jg p.acts) (JT p.acts) c.base p.gives i x.added (Jh8 hc) hk.b hp.2.1 hps hxf.1) rfl rfl rfl ?_;simp only[sC,sN];refine Jq5 (YE p c.base i x.added) rfl (fun e=>?_) (fun e=>?_)
     ·refine Jrw (Jme p x.seqs hxf.2) rfl rfl rfl ?_;simp only[sC,sN];refine Jrm (Xq p.n x.seqs) rfl (fun f=>?_) (fun f=>Jrq nx ⟨h',rfl,good (by rw[hgi,u,hh,e,f];rfl)⟩);refine Jrw hno rfl rfl rfl ?_;exact Jrm (!x.has&&emp x) rfl (fun g=>Jrg (JqZ (bad (by rw[last (by simp[f])];exact g)))) (fun g=>Jrq nx ⟨h',rfl,good (by rw[last (by simp[f])];exact g)⟩)
     ·refine Jrw hno rfl rfl rfl ?_;exact Jrm (!x.has&&emp x) rfl (fun g=>Jrg (JqZ (bad (by rw[last (by simp[e])];exact g)))) (fun g=>Jrq nx ⟨h',rfl,good (by rw[last (by simp[e])];exact g)⟩)
    ·refine Jrw hno rfl rfl rfl ?_;exact Jrm (!x.has&&emp x) rfl (fun g=>Jrg (JqZ (bad (by rw[last (by simp[hh])];exact g)))) (fun g=>Jrq nx ⟨h',rfl,good (by rw[last (by simp[hh])];exact g)⟩)
   ·refine Jrw hno rfl rfl rfl ?_;exact Jrm (!x.has&&emp x) rfl (fun g=>Jrg (JqZ (bad (by rw[last (by simp[u])];exact g)))) (fun g=>Jrq nx ⟨h',rfl,good (by rw[last (by simp[u])];exact g)⟩)
  ·show [dB true]=_;rw[show i=c.got.length by omega] at hq;rw[hq]
theorem Jlf (p:Pln) (c:Clk) (hp:Xt p) (hk:QV c):Ev L f_k4b (p.cells++c.cells) [dB (ZF p c)]:=by
 refine JrA (vs:=[.i p.n,.l (Jf p.acts),.l (dL p.gives),.l (dL p.start),.b c.up,.i c.round,.l (dL c.base),.l (dDs c.done),.l (dCs c.wants),.l (dGs c.got)]) L_k4b rfl ?_;refine Jrw (Jk7 p hp) rfl rfl rfl ?_;refine Jq5 (Qt p) rfl (fun a=>?_) (fun b=>JqZ (by show [dB false]=_;simp only[ZF,b,Bool.false_and,Bool.and_false]));obtain⟨n1,n2,_⟩:=YQ a;have hc:=VJ a;refine Jrw (JiL p.acts hp.1) rfl rfl rfl ?_;simp only[sC,sN];refine Jrw (Jje p c hp hk n1 n2 hc) rfl rfl rfl (JqZ ?_);show [dB (Y1 p c)]=_;simp only[ZF,a,JrY]
theorem JcR (l:List Got):(l.all fun g=>g.has)=decide (QQ l=l.length):=by
 rw[Bool.eq_iff_iff,decide_eq_true_eq];unfold QQ;rw[List.length_filter_eq_length_iff];simp
theorem Jk5 (q:Got→Bool) (l:List Got) {fn:FuncId} {caps:List D} (hlen:l.length≤2000000) (hcap:QY (.f fn caps) = .f fn caps) (har:arT L fn=some ([some 3]++caps.map fun _=>none))
  (hc :∀x∈l,Ev L fn (x.cells++caps.map D.norm) [dB (q x)]):Ev L f_k4i [.s (dGs l),.f fn caps] [dB (l.any q)] :=
 X5 (g := f_k4h) L_k4i rfl hcap
   (YM (sh:= .g [.b,.s,.s]) (as:=[(.vb (.v 3)),(.s (.v 4)),(.s (.v 5))]) (ar:=[some 3]) (k:=6) Got.g q Got.cells (fun x=>[.b x.has,.l (dL x.added),.l (dL x.seqs)]) l
     L_k4h rfl hlen hcap (fun _ _=>rfl) (fun _ _=>rfl) (fun _ _ _ _=>rfl) har hc)
theorem Ji8 (x:Got):Ev L f_k4j x.cells [dB (!x.has)] :=
 JrA (vs:=[.b x.has,.l (dL x.added),.l (dL x.seqs)]) L_k4j rfl (JqZ rfl)
/- The program's SitFall answers as the reference's: over residual programs. -/
theorem Uj (c:Int) (l:List Int) (hl:l.length≤2000000):Ev L f_k1v [dI c,.s (dL l)] [dI c,.s (dL l)]:=by
 refine JrA (vs:=[.i c,.l (dL l)]) L_k1v rfl ?_;refine Jre (dL l) 2000000 (by rw[dL1];omega) (by omega) rfl ?_;refine Jro (Yl l) ?_;exact Jre (dL l) 2000000 (by rw[dL1];omega) (by omega) rfl (JqZ rfl)
theorem JdU (l:List Don) (hl:Jf8 Yn l):Ev L f_k1w [.s (dDs l)] [.s (dDs l)]:=by
 refine JrA (vs:=[.l (dDs l)]) L_k1w rfl ?_;have hl0:=hl.1;refine Jq0 l.length (fun i=>[.l (dDs (l.take i)),.i i]) (fun _=>True) rfl rfl trivial fun i hi _=>?_;simp only[sC,sN];refine Jru i (Zf l) rfl (fun h=>?_) (fun h=>Jrg (JqZ ?_))
 ·obtain⟨x,hx,hm⟩:=sA1 h;have hg:(dDs l)[i]? = some x.g:=mA1 (f:=Don.g) hx;refine Jrd (vs:=[.i x.seq,.i x.code,.l (dL x.tells)]) i hg rfl rfl rfl rfl ?_;refine Jrd (vs:=[.i x.seq,.i x.code,.l (dL x.tells)]) i hg rfl rfl rfl rfl ?_;refine Jrw (vs:=[.i x.code,.l (dL x.tells)]) (Uj x.code x.tells (hl.2 x hm)) rfl rfl rfl ?_;simp only[sC,sN];refine Jrk (dDs (l.take i)) 2000000 (by rw[Zf,JrT];omega) (by omega) rfl ?_;refine Jrq (vs:=[.l (dDs (l.take (i+1))),.i ((i+1:Nat):Int)]) ?_ ⟨h,rfl,trivial⟩;show [V.l (dDs (l.take i)++[x.g]),V.i (i64.wrap ((i:Int)+1))]=_;rw[wS h (by omega),tS1 hx];simp only[dDs,List.map_append,JrM,List.map_nil]
 ·show [D.s (dDs (l.take i))]=_;rw[tA1 h]
theorem WS (c:Int) (l:List Int) (hl:l.length≤2000000):Ev L f_k4d [dI c,.s (dL l)] [dI c,.s (dL l)] :=
 JrA (vs:=[.i c,.l (dL l)]) L_k4d rfl (Jrw (vs:=[.l (dL l)]) (J0 l hl) rfl rfl rfl (JqZ rfl))
theorem JmU (l:List Don) (hl:Jf8 Yn l):Ev L f_k4e [.s (dDs l)] [.s (dDs l)]:=by
 refine JrA (vs:=[.l (dDs l)]) L_k4e rfl ?_;have hl0:=hl.1;refine Jq0 l.length (fun i=>[.l (dDs (l.take i)),.i i]) (fun _=>True) rfl rfl trivial fun i hi _=>?_;simp only[sC,sN];refine Jru i (Zf l) rfl (fun h=>?_) (fun h=>Jrg (JqZ ?_))
 ·obtain⟨x,hx,hm⟩:=sA1 h;have hg:(dDs l)[i]? = some x.g:=mA1 (f:=Don.g) hx;refine Jrd (vs:=[.i x.seq,.i x.code,.l (dL x.tells)]) i hg rfl rfl rfl rfl ?_;refine Jrw (vs:=[.i x.code,.l (dL x.tells)]) (WS x.code x.tells (hl.2 x hm)) rfl rfl rfl ?_;simp only[sC,sN]
  try refine Jri (Q6 dI (fun _=>rfl) x.tells) ?_
  refine Jrk (dDs (l.take i)) 2000000 (by rw[Zf,JrT];omega) (by omega) rfl ?_;refine Jrq (vs:=[.l (dDs (l.take (i+1))),.i ((i+1:Nat):Int)]) ?_ ⟨h,rfl,trivial⟩;show [V.l (dDs (l.take i)++[x.g]),V.i (i64.wrap ((i:Int)+1))]=_;rw[wS h (by omega),tS1 hx];simp only[dDs,List.map_append,JrM,List.map_nil]
 ·show [D.s (dDs (l.take i))]=_;rw[tA1 h]
/- In the beginning all are alike: over residual programs. -/
theorem Zx {p:Pln} (h:Qt p=true):1≤p.gives.length∧p.gives.length≤3:=by
 have:=(YQ h).2.2.2;simp only[QL,JrE,JG] at this;omega
/- Worlds: sizes,copies,comparisons; which of them are ok: over residual programs. -/
structure JiT where
 call:Cal
 code:Int
 tells:List Int
 deriving DecidableEq
abbrev dSt (l:List Sit):List D:=l.map Sit.g
abbrev dCn (l:List Con):List D:=l.map Con.g
abbrev dMs (l:List Msg):List D:=l.map Msg.g
def JiT.cells (x:JiT):List D:=[dI x.call.client,dI x.call.seq,dI x.call.act,.s (dL x.call.args),dI x.code,.s (dL x.tells)]
def JiT.g (x:JiT):D:= .g x.cells
abbrev dLg (l:List JiT):List D:=l.map JiT.g
structure Wrl where
 p:Pln
 sites:List Sit
 c:Clk
 cons:List Con
 net:List Msg
 log:List JiT
def Wrl.cells (w:Wrl):List D:=w.p.cells++[.s (dSt w.sites)]++w.c.cells++[.s (dCn w.cons),.s (dMs w.net),.s (dLg w.log)]
/- Marks,and what is held,of lists of messages: over residual programs. Printed by wip/tools/pzz.py. -/
def Msg.w (x:Msg):Nat:=7+x.call.args.length+x.vals.length+x.seqs.length+wts Don.w x.done
def Msg.mk' (q:Int) (x:Msg):Msg:=⟨q,q+1,q+1+1,q+1+1+1,⟨q+1+1+1+1,q+1+1+1+1+1,q+1+1+1+1+1+1,cnt (q+1+1+1+1+1+1+1) x.call.args.length⟩,
 cnt (q+1+1+1+1+1+1+1+x.call.args.length) x.vals.length,cnt (q+1+1+1+1+1+1+1+x.call.args.length+x.vals.length) x.seqs.length,
 JY Don.w Don.mk' (q+1+1+1+1+1+1+1+x.call.args.length+x.vals.length+x.seqs.length) x.done⟩
/- The program's ClkFall answers as the reference's: over residual programs. -/
theorem V8 (x:Cal) (h:x.args.length≤2000000):Ev L f_k1x x.cells x.cells:=by
 refine JrA (vs:=[.i x.client,.i x.seq,.i x.act,.l (dL x.args)]) L_k1x rfl ?_;refine Jre (dL x.args) 2000000 (by rw[dL1];omega) (by omega) rfl ?_;refine Jro (Yl x.args) ?_;exact Jre (dL x.args) 2000000 (by rw[dL1];omega) (by omega) rfl (JqZ rfl)
theorem VW (x:Cal) (h:x.args.length≤2000000):Ev L f_k4c x.cells x.cells :=
 JrA (vs:=[.i x.client,.i x.seq,.i x.act,.l (dL x.args)]) L_k4c rfl (Jrw (vs:=[.l (dL x.args)]) (J0 x.args h) rfl rfl rfl (JqZ rfl))
theorem Jlc (c:Clk) (hc:QV c):Ev L f_k1y c.cells c.cells:=by
 refine JrA (vs:=[.b c.up,.i c.round,.l (dL c.base),.l (dDs c.done),.l (dCs c.wants),.l (dGs c.got)]) L_k1y rfl ?_;have h1:=hc.b;have h2:=hc.c;have h3:=hc.g;refine Jre (dL c.base) 2000000 (by rw[dL1];omega) (by omega) rfl ?_;refine Jro (Yl c.base) ?_;refine Jre (dL c.base) 2000000 (by rw[dL1];omega) (by omega) rfl ?_;refine Jrw (vs:=[.l (dDs c.done)]) (JdU c.done ⟨hc.d,hc.dt⟩) rfl rfl rfl ?_;simp only[sC,sN];refine Jq0 c.wants.length (fun i=>[.l (dCs (c.wants.take i)),.i i]) (fun _=>True) rfl rfl trivial fun i hi _=>?_;simp only[sC,sN];refine Jru i (Yq c.wants) rfl (fun h=>?_) (fun h=>Jrg ?_)
 ·obtain⟨x,hx,hm⟩:=sA1 h;refine Jrd (vs:=[.i x.client,.i x.seq,.i x.act,.l (dL x.args)]) i (mA1 (f:=Cal.g) hx) rfl rfl rfl rfl ?_;simp only[sC,sN];refine Jrw (vs:=[.i x.client,.i x.seq,.i x.act,.l (dL x.args)]) (V8 x (hc.ct x hm)) rfl rfl rfl ?_;simp only[sC,sN];refine Jrk (dCs (c.wants.take i)) 2000000 (by rw[Yq,JrT];omega) (by omega) rfl ?_;refine Jrq (vs:=[.l (dCs (c.wants.take (i+1))),.i ((i+1:Nat):Int)]) ?_ ⟨h,rfl,trivial⟩;show [V.l (dCs (c.wants.take i)++[x.g]),V.i (i64.wrap ((i:Int)+1))]=_;rw[wS h (by omega),tS1 hx];simp only[dCs,List.map_append,JrM,List.map_nil]
 rw[tA1 h];refine Jq0 c.got.length (fun i=>[.l (dGs (c.got.take i)),.i i]) (fun _=>True) rfl rfl trivial fun j hj _=>?_;simp only[sC,sN];refine Jru j (XD c.got) rfl (fun h=>?_) (fun h=>Jrg (JqZ ?_))
 ·obtain⟨x,hx,hm⟩:=sA1 h;have hg:(dGs c.got)[j]? = some x.g:=mA1 (f:=Got.g) hx;have hx1:=hc.gt x hm;have ha:(dL x.added).length≤2000000:=by rw[dL1];exact hx1.1
  have hs:(dL x.seqs).length≤2000000:=by rw[dL1];exact hx1.2
  refine Jrd (vs:=[.b x.has,.l (dL x.added),.l (dL x.seqs)]) j hg rfl rfl rfl rfl ?_;simp only[sC,sN];refine Jrd (vs:=[.b x.has,.l (dL x.added),.l (dL x.seqs)]) j hg rfl rfl rfl rfl ?_;simp only[sC,sN];refine Jre (dL x.added) 2000000 ha (by omega) rfl ?_;refine Jro (Yl x.added) ?_;refine Jre (dL x.added) 2000000 ha (by omega) rfl ?_;refine Jrd (vs:=[.b x.has,.l (dL x.added),.l (dL x.seqs)]) j hg rfl rfl rfl rfl ?_;simp only[sC,sN];refine Jre (dL x.seqs) 2000000 hs (by omega) rfl ?_;refine Jro (Yl x.seqs) ?_;refine Jre (dL x.seqs) 2000000 hs (by omega) rfl ?_;refine Jrk (dGs (c.got.take j)) 2000000 (by rw[XD,JrT];omega) (by omega) rfl ?_;refine Jrq (vs:=[.l (dGs (c.got.take (j+1))),.i ((j+1:Nat):Int)]) ?_ ⟨h,rfl,trivial⟩;show [V.l (dGs (c.got.take j)++[x.g]),V.i (i64.wrap ((j:Int)+1))]=_;rw[wS h (by omega),tS1 hx];simp only[dGs,List.map_append,JrM,List.map_nil]
 ·rw[tA1 h];rfl
theorem JfM (c:Clk) (hc:QV c):Ev L f_k4f c.cells c.cells:=by
 refine JrA (vs:=[.b c.up,.i c.round,.l (dL c.base),.l (dDs c.done),.l (dCs c.wants),.l (dGs c.got)]) L_k4f rfl ?_;have h2:=hc.c;have h3:=hc.g;refine Jq0 c.wants.length (fun i=>[.l (dCs (c.wants.take i)),.i i]) (fun _=>True) rfl rfl trivial fun i hi _=>?_;simp only[sC,sN];refine Jru i (Yq c.wants) rfl (fun h=>?_) (fun h=>Jrg ?_)
 ·obtain⟨x,hx,hm⟩:=sA1 h;refine Jrd (vs:=[.i x.client,.i x.seq,.i x.act,.l (dL x.args)]) i (mA1 (f:=Cal.g) hx) rfl rfl rfl rfl ?_;simp only[sC,sN];refine Jrw (vs:=[.i x.client,.i x.seq,.i x.act,.l (dL x.args)]) (VW x (hc.ct x hm)) rfl rfl rfl ?_;simp only[sC,sN]
  try refine Jri (Q6 dI (fun _=>rfl) x.args) ?_
  refine Jrk (dCs (c.wants.take i)) 2000000 (by rw[Yq,JrT];omega) (by omega) rfl ?_;refine Jrq (vs:=[.l (dCs (c.wants.take (i+1))),.i ((i+1:Nat):Int)]) ?_ ⟨h,rfl,trivial⟩;show [V.l (dCs (c.wants.take i)++[x.g]),V.i (i64.wrap ((i:Int)+1))]=_;rw[wS h (by omega),tS1 hx];simp only[dCs,List.map_append,JrM,List.map_nil]
 rw[tA1 h];refine Jq0 c.got.length (fun i=>[.l (dGs (c.got.take i)),.i i]) (fun _=>True) rfl rfl trivial fun j hj _=>?_;simp only[sC,sN];refine Jru j (XD c.got) rfl (fun h=>?_) (fun h=>Jrg ?_)
 ·obtain⟨x,hx,hm⟩:=sA1 h;have hx1:=hc.gt x hm;refine Jrd (vs:=[.b x.has,.l (dL x.added),.l (dL x.seqs)]) j (mA1 (f:=Got.g) hx) rfl rfl rfl rfl ?_;simp only[sC,sN];refine Jrw (vs:=[.l (dL x.added)]) (J0 x.added hx1.1) rfl rfl rfl ?_;refine Jrw (vs:=[.l (dL x.seqs)]) (J0 x.seqs hx1.2) rfl rfl rfl ?_;simp only[sC,sN]
  try refine Jri (Q6 dI (fun _=>rfl) x.added) ?_
  try refine Jri (Q6 dI (fun _=>rfl) x.seqs) ?_
  refine Jrk (dGs (c.got.take j)) 2000000 (by rw[XD,JrT];omega) (by omega) rfl ?_;refine Jrq (vs:=[.l (dGs (c.got.take (j+1))),.i ((j+1:Nat):Int)]) ?_ ⟨h,rfl,trivial⟩;show [V.l (dGs (c.got.take j)++[x.g]),V.i (i64.wrap ((j:Int)+1))]=_;rw[wS h (by omega),tS1 hx];simp only[dGs,List.map_append,JrM,List.map_nil]
 rw[tA1 h];refine Jrw (vs:=[.l (dL c.base)]) (J0 c.base hc.b) rfl rfl rfl ?_;exact Jrw (vs:=[.l (dDs c.done)]) (JmU c.done ⟨hc.d,hc.dt⟩) rfl rfl rfl (JqZ rfl)
theorem Jma (c:Clk) (hg:c.got.length≤2000000):Ev L f_k4o c.cells (Clk.cells ⟨c.up,c.round,c.base,c.done,[],List.replicate c.got.length Xf⟩):=by
 refine JrA (vs:=[.b c.up,.i c.round,.l (dL c.base),.l (dDs c.done),.l (dCs c.wants),.l (dGs c.got)]) L_k4o rfl ?_;refine Jrs (by show decide ((0:Int)≤((dGs c.got).length:Int))=true;simp) ?_;refine Jre (dGs c.got) 2000000 (by rw[XD];exact hg) (by omega) rfl ?_;refine JqZ ?_;show [_,_,_,_,_,D.s (List.replicate ((dGs c.got).length:Int).toNat (Got.g Xf))]=_;unfold Clk.cells dCs dGs;rw[List.map_replicate,JrN,Int.toNat_natCast];rfl
theorem JiS {α:Type} (w s:α→Nat) (k:Nat) (h :∀x,w x≤k+k*s x) (l:List α):wts w l≤k*szL s l:=by
 unfold wts szL
 induction l with
 | nil=>simp
 | cons x l ih =>
  simp only[JrM,List.sum_cons,List.length_cons] at ih ⊢;have:=h x;rw[Nat.mul_add] at ih ⊢;rw[Nat.mul_add k (s x),Nat.mul_succ];omega
theorem Jnm (c:Clk):JD c≤3*Y6 c:=by
 have h1:=JiS Don.w Qk 3 (fun x=>by show 2+x.tells.length≤_;unfold Qk;omega) c.done;have h2:=JiS Cal.w Qy 3 (fun x=>by show 3+x.args.length≤_;unfold Qy;omega) c.wants;have h3:=JiS Got.w QD 3 (fun x=>by show 1+x.added.length+x.seqs.length≤_;unfold QD;omega) c.got;unfold JD Y6;omega
/- The program's ClkTick answers as the reference's: over residual programs. -/
def busy (c:Clk):Bool:=decide (0<c.wants.length)||decide (0<QQ c.got)
/- What a site tries,by the reference: over residual programs. -/
structure TryR where
 site:Sit
 code:Int
 tells:List Int
 said:List Msg
def TryR.ds (r:TryR):List D:=r.site.cells++[dI r.code,.s (dL r.tells),.s (dMs r.said)]
theorem XT {n:Int} {l:List Don}:QG n l=true↔(l.length:Int)=n∧∀d∈l,XM d=true:=by
 unfold QG;rw[JrE,decide_eq_true_eq,JrR]
theorem JjF {n:Int} {l:List Don} (h:QG n l=true) (i:Nat) {d:Don} (hd:XM d=true):QG n (l.set i d)=true:=by
 obtain⟨h1,h2⟩:=XT.1 h;refine XT.2 ⟨by rw[List.length_set];exact h1,fun x hx=>?_⟩;rcases Jr3 hx with q | q
 ·exact h2 x q
 ·rw[q];exact hd
theorem XU {p:Pln} {c:Cal}:Qf p c=true↔(0≤c.client∧c.client≤p.n-1)∧(1≤c.seq∧c.seq≤300)∧(0≤c.act∧c.act≤(p.acts.length:Int)-1)∧XN c.args=true:=by
 unfold Qf;simp only[JrE,JG]
theorem K0 {p:Pln} {b:List Int} {k:Int} {a:List Int}:YE p b k a=true↔keeps b p.gives (Jg p.acts) k a=true∧YB (JT p.acts) a=true:=by
 unfold YE;rw[JrE]
theorem JeQ {d:Don}:XM d=true↔(d.seq=0∧d.code=0∧d.tells.length=0)∨(1≤d.seq∧d.seq≤300∧J5 d.code d.tells=true):=by
 unfold XM;split
 ·rename_i h;simp only[JrE,decide_eq_true_eq];constructor
  ·rintro⟨a,b⟩;exact .inl ⟨h,a,b⟩
  ·rintro (⟨_,a,b⟩ | ⟨a,_⟩)
   ·exact⟨a,b⟩
   ·omega
 ·rename_i h;simp only[JrE,JG];constructor
  ·rintro⟨⟨a,b⟩,d⟩;exact .inr ⟨a,b,d⟩
  ·rintro (⟨a,_⟩ | ⟨a,b,d⟩)
   ·exact absurd a h
   ·exact⟨⟨a,b⟩,d⟩
/- What the clerk hears,by the reference: over residual programs. -/
theorem Jpd {l:Jc} (h:l.ok=true):Frm.fit l.f:=by
 by_cases h4:l.kind=4
 ·unfold Jc.ok at h;rw[if_neg (by omega),if_neg (by omega),if_neg (by omega)] at h;simp only[JrE,decide_eq_true_eq] at h;exact⟨by omega,by omega⟩
 ·have:=QS h h4;simp only[Frm.small,JrE,JB] at this;exact⟨by omega,by omega⟩
theorem JgB {p:Pln} (h:Qt p=true):Xt p:=by
 have hc:=KM (VJ h);have hg:=Zx h;have hs:=(YQ h).2.2.1;refine⟨⟨by omega,fun a ha=>?_⟩,by omega,by omega⟩;obtain⟨h1,h2⟩:=ZK (hc.2.2 a ha);exact⟨by omega,fun l hl=>Jpd (h2 l hl)⟩
theorem Jpk {d:Don} (h:XM d=true):Yn d:=by
 rcases JeQ.1 h with h | h
 ·unfold Yn;omega
 ·have:=(YF.1 h.2.2).2.1;unfold Yn;omega
theorem JmS {n:Int} {l:List Don} (h:QG n l=true) (h4:n≤4):Jf8 Yn l :=
 ⟨by have:=(XT.1 h).1;omega,fun d hd=>Jpk ((XT.1 h).2 d hd)⟩
theorem Jno {p:Pln} {b:List Int} {k:Int} {a:List Int} (h:YE p b k a=true):a.length=3:=Jba (K0.1 h).1
theorem Jb4 {p:Pln} {c:Cal} (h:Qf p c=true):UV c:=by
 have:=(X9.1 (XU.1 h).2.2.2).1;unfold UV;omega
theorem Jcd {n:Int} {l:List Int}:Xq n l=true↔(l.length:Int)=n∧∀x∈l,0≤x∧x≤300:=by
 unfold Xq;simp only[JrE,decide_eq_true_eq,JrR,JG]
def Asc (l:List Cal):Prop:=l.Pairwise fun a b=>a.client<b.client
theorem JeF {p:Pln} {l:List Cal}:J9 l.length (XO p l)=true↔(∀x∈l,Qf p x=true)∧Asc l:=by
 rw[Zm];constructor
 ·intro h;have h1 :∀(j:Nat) (x:Cal),l[j]? = some x→Qf p x=true∧(0<j→(l.getD (j-1) ⟨0,0,0,[]⟩).client<x.client):=fun j x hx=>by
   have:=h j (JrF.1 hx).1;rw[WO hx,JrE,Bool.or_eq_true,decide_eq_true_eq,decide_eq_true_eq] at this;exact⟨this.1,fun hj=>this.2.resolve_left (by omega)⟩
  refine⟨fun x hx=>?_,?_⟩
  ·obtain⟨j,hj⟩:=List.getElem?_of_mem hx;exact(h1 j x hj).1
  ·have step :∀(d i:Nat) (a b:Cal),l[i]? = some a→l[i+d+1]? = some b→a.client<b.client:=by
    intro d
    induction d with
    | zero =>
     intro i a b ha hb;have:=(h1 _ _ hb).2 (by omega);rw[show i+0+1-1=i by omega,Xw ha] at this;exact this
    | succ d ih =>
     intro i a b ha hb;have hl:=(JrF.1 hb).1;obtain⟨y,hy,_⟩:=sA1 (l:=l) (i:=i+d+1) (by omega);have h2:=ih i a y ha hy;have h3:=(h1 _ _ hb).2 (by omega);rw[show i+(d+1)+1-1=i+d+1 by omega,Xw hy] at h3;omega
   unfold Asc;rw[List.pairwise_iff_getElem];intro i j hi hj hij;exact step (j-i-1) i _ _ (JrP hi) (by rw[show i+(j-i-1)+1=j by omega];exact JrP hj)
 ·rintro⟨h1,h2⟩ j hj;obtain⟨x,hx,hm⟩:=sA1 hj;rw[WO hx,h1 x hm,JrY,Bool.or_eq_true,decide_eq_true_eq,decide_eq_true_eq]
  by_cases h0:j=0
  ·exact .inl h0
  ·right;obtain⟨y,hy,_⟩:=sA1 (l:=l) (i:=j-1) (by omega);rw[Xw hy];unfold Asc at h2;rw[List.pairwise_iff_getElem] at h2;obtain⟨hi1,rfl⟩:=JrF.1 hx;obtain⟨hi2,rfl⟩:=JrF.1 hy;exact h2 _ _ _ _ (by omega)
theorem Jpa {l:List Cal} (h:Asc l) :∀(a b:Int),(∀x∈l,a≤x.client∧x.client≤b)→(l.length:Int)≤b-a+1∨l=[]:=by
 induction l with
 | nil=>intro a b _;exact .inr rfl
 | cons x l ih =>
  intro a b hb;left;rw[Asc,List.pairwise_cons] at h;have hx:=hb x (List.mem_cons_self ..);rcases ih h.2 (x.client+1) b (fun y hy=>⟨by have:=h.1 y hy;omega,(hb y (List.mem_cons_of_mem _ hy)).2⟩) with q | q
  ·simp only[List.length_cons];omega
  ·subst q;simp only[List.length_cons,List.length_nil];omega
theorem Zi {p:Pln} {l:List Cal} (hp:Qt p=true) (h :∀x∈l,Qf p x=true) (ha:Asc l):l.length≤4:=by
 have hn:=YQ hp;rcases Jpa ha 0 (p.n-1) (fun x hx=>(XU.1 (h x hx)).1) with q | q
 ·omega
 ·subst q;simp
end Go.Proofs.YtgpjnnkmmplicabGreatDoor

import Derived.Test.YtngcnclchcahlabGreatDoorPZU
import Derived.Test.YtngcnclchcahlabGreatDoorPV
import Derived.Test.YtngcnclchcahlabGreatDoorTd
set_option linter.unusedVariables false
set_option linter.unusedSimpArgs false
/- The program's ClkOk and ClkReady answer as the reference's: over residual programs. -/
namespace Go.Proofs.YtngcnclchcahlabGreatDoor
open Go Go.Tm
open Go.IntKind (i64)
def emp (g:Got):Bool:=decide (g.added.length=0)&&decide (g.seqs.length=0)
def Y3 (p:Pln) (b:List Int) (l:List Got) (j:Nat):Bool :=
 if(l.getD j QQ).has then Xa p b j (l.getD j QQ).added&&Xb p.n (l.getD j QQ).seqs else emp (l.getD j QQ)
def Yq (p:Pln) (l:List Cal) (j:Nat):Bool:=Jm p (l.getD j ⟨0,0,0,[]⟩)&&(decide (j=0)||decide ((l.getD (j-1) ⟨0,0,0,[]⟩).client<(l.getD j ⟨0,0,0,[]⟩).client))
def Xn (l:List Got):Nat:=(l.filter fun g=>g.has).length
def JU (n:Nat) (f:Nat→Bool):Bool:=(List.range n).all f
theorem Ze (n:Nat) (f:Nat→Bool):JU (n+1) f=(JU n f&&f n):=by simp[JU,List.range_succ]
theorem Yd {n:Nat} {f:Nat→Bool}:JU n f=true↔∀j,j<n→f j=true:=by simp[JU]
theorem Ke {n i:Nat} {f:Nat→Bool} (h:i<n) (hf:f i=false):JU n f=false:=by
 cases e:JU n f with
 | false=>rfl
 | true=>rw[Yd.1 e i h] at hf;cases hf
def Yn (p:Pln) (c:Clk):Bool:=inB c.round 0 200&&(JQ c.base&&(J7 p.n c.done&&((decide (c.got.length=p.gives.length)&&JU c.got.length (Y3 p c.base c.got)) &&
 (JU c.wants.length (Yq p c.wants)&&(c.up||(decide (c.wants.length=0)&&decide (Xn c.got=0)))))))
def XR (p:Pln) (c:Clk):Bool:=JJ p&&Yn p c
theorem Xc (l:List Got):(dGs l).length=l.length:=by simp[dGs]
theorem Qq (l:List Cal):(dCs l).length=l.length:=by simp[dCs]
theorem Qj {α:Type} {l:List α} {i:Nat} {x d:α} (h:l[i]? = some x):l.getD i d=x:=by simp[Ju3,h]
theorem JoL (p:Pln) (c:Clk) (hp:JY p) (hk:QP c) (hc:Qx p.acts=true) :
  Ev L f_k1p (p.cells++[.s (dLL (Jb p.acts)),.s (dBl (Jj p.acts))]++c.cells) [dB (decide (c.got.length=p.gives.length)&&JU c.got.length (Y3 p c.base c.got))]:=by
 refine JuV (vs:=[.i p.n,.l (Jd p.acts),.l (dL p.gives),.l (dL p.start),.l (dLL (Jb p.acts)),.l (dBl (Jj p.acts)),.b c.up,.i c.round,.l (dL c.base),.l (dDs c.done),.l (dCs c.wants),.l (dGs c.got)]) L_k1p rfl ?_;have hps:fitLL (Jb p.acts):=(Xi p.acts).fitLL (by omega);have hgl:=hk.g;refine JuL (decide (c.got.length=p.gives.length)) ?_ (fun b=>Jun (by show [dB false]=_;simp only[b,Bool.false_and])) (fun a=>?_)
 ·show (!decide (((dGs c.got).length:Int)=((dL p.gives).length:Int)))=_;rw[Xc,dL1];simp[Int.ofNat_inj]
 rw[a,Jvk];refine Juu c.got.length (fun i=>[.i i]) (fun i=>JU i (Y3 p c.base c.got)=true) rfl rfl rfl fun i hi hq=>?_;simp only[sC,sN];refine JuG i (Xc c.got) rfl (fun h'=>?_) (fun h'=>Juk (Jun ?_))
 ·obtain⟨x,hx,hm⟩:=sA1 h';have hxf:=hk.gt x hm;have hD:=Qj (d:=QQ) hx;have hgs:Y3 p c.base c.got i=if x.has then Xa p c.base i x.added&&Xb p.n x.seqs else emp x:=by unfold Y3;rw[hD]
  have bad:Y3 p c.base c.got i=false→[dB false]=[dB (JU c.got.length (Y3 p c.base c.got))]:=fun h=>by rw[Ke h' h]
  have good:Y3 p c.base c.got i=true→JU (i+1) (Y3 p c.base c.got)=true:=fun h=>by rw[Ze,hq,h];rfl
  have nx:[V.i (i64.wrap ((i:Int)+1))]=[V.i ((i+1:Nat):Int)]:=by rw[wS h' (by omega)]
  refine JuF (vs:=[.b x.has,.l (dL x.added),.l (dL x.seqs)]) i (mA1 (f:=Got.g) hx) rfl rfl rfl rfl ?_;simp only[sC,sN];refine JuL x.has rfl (fun hn=>?_) (fun hh=>?_)
  ·rw[hn] at hgs;have hw:i64.wrap (((dL x.added).length:Int)+((dL x.seqs).length:Int))=(x.added.length:Int)+x.seqs.length:=by rw[dL1,dL1];exact w64 (by omega) (by omega)
   refine JuB ((0:Int)<(x.added.length:Int)+x.seqs.length) (by show decide ((0:Int)<i64.wrap (((dL x.added).length:Int)+((dL x.seqs).length:Int)))=_;rw[hw]) (fun h0=>Juk (Jun (bad ?_))) (fun h0=>?_)
   ·rw[hgs];simp only[Jvg,if_false,emp,Bool.and_eq_false_iff,decide_eq_false_iff_not];omega
   refine JuN (by show x.has=false;exact hn) (JuC nx ⟨h',rfl,good ?_⟩);rw[hgs];simp only[Jvg,if_false,emp,Ju0,decide_eq_true_eq];omega
  ·rw[hh] at hgs;simp only[if_true] at hgs;refine JuK (by show x.has=true;exact hh) ?_;refine Jup (ZQ c.base p.gives (Jb p.acts) i x.added hk.b hp.2.1 hps hxf.1) rfl rfl rfl ?_;simp only[sC,sN];refine JuL (keeps c.base p.gives (Jb p.acts) i x.added) rfl (fun e=>Juk (Jun (bad (by rw[hgs,Xa,e];rfl)))) (fun e=>?_);refine Jup (WY (Jj p.acts) x.added (VK hc) (Wi e)) rfl rfl rfl ?_;simp only[sC,sN];refine JuL (Qi (Jj p.acts) x.added) rfl (fun f=>Juk (Jun (bad (by rw[hgs,Xa,e,f];rfl)))) (fun f=>?_);refine Jup (Jft p x.seqs hxf.2) rfl rfl rfl ?_;simp only[sC,sN];exact JuL (Xb p.n x.seqs) rfl (fun g=>Juk (Jun (bad (by rw[hgs,g,Bool.and_false])))) (fun g=>JuC nx ⟨h',rfl,good (by rw[hgs,Xa,e,f,g];rfl)⟩)
 ·show [dB true]=_;rw[show i=c.got.length by omega] at hq;rw[hq]
theorem Jm3 {l:List Got} {i:Nat} {x:Got} (h:l[i]? = some x):Xn (l.take (i+1))=Xn (l.take i)+(if x.has then 1 else 0):=by
 unfold Xn;rw[tS1 h,List.filter_append,Ju6];cases hx:x.has <;> simp[hx]
theorem JkY (l:List Got):Xn l≤l.length:=List.length_filter_le _ _
theorem JcW (c:Clk) (hk:c.got.length≤2000000):Ev L f_k1q c.cells [dI (Xn c.got)]:=by
 refine JuV (vs:=[.b c.up,.i c.round,.l (dL c.base),.l (dDs c.done),.l (dCs c.wants),.l (dGs c.got)]) L_k1q rfl ?_;refine Juu c.got.length (fun i=>[.i (Xn (c.got.take i)),.i i]) (fun _=>True) rfl rfl trivial fun i hi _=>?_;simp only[sC,sN];refine JuG i (Xc c.got) rfl (fun h'=>?_) (fun h'=>Juk (Jun ?_))
 ·obtain⟨x,hx,hm⟩:=sA1 h';have hs:=Jm3 hx;have hle:=JkY (c.got.take i);rw[Jvf] at hle;refine JuF (vs:=[.b x.has,.l (dL x.added),.l (dL x.seqs)]) i (mA1 (f:=Got.g) hx) rfl rfl rfl rfl ?_;simp only[sC,sN];refine JuU x.has rfl (fun hh=>?_) (fun hh=>?_)
  ·refine JuC (vs:=[.i ((Xn (c.got.take (i+1)):Nat):Int),.i ((i+1:Nat):Int)]) ?_ ⟨h',rfl,trivial⟩;show [V.i (i64.wrap ((Xn (c.got.take i):Int)+1)),V.i (i64.wrap ((i:Int)+1))]=_;rw[wS h' (by omega),w64 (by omega) (by omega),hs,hh];rfl
  ·refine JuC (vs:=[.i ((Xn (c.got.take (i+1)):Nat):Int),.i ((i+1:Nat):Int)]) ?_ ⟨h',rfl,trivial⟩;show [V.i (Xn (c.got.take i):Int),V.i (i64.wrap ((i:Int)+1))]=_;rw[wS h' (by omega),hs,hh];rfl
 ·show [dI (Xn (c.got.take i))]=_;rw[tA1 h']
theorem Jam {p:Pln} {l:List Cal} {i:Nat} {x:Cal} (h:l[i]? = some x):Yq p l i=(Jm p x&&(decide (i=0)||decide ((l.getD (i-1) ⟨0,0,0,[]⟩).client<x.client))):=by
 unfold Yq;rw[Qj h]
theorem Jlz (p:Pln) (c:Clk) (hp:JY p) (hk:QP c) (h1:1≤p.n) (h2:p.n≤4) (hc:Qx p.acts=true) :
  Ev L f_k1r (p.cells++[.s (dLL (Jb p.acts)),.s (dBl (Jj p.acts))]++c.cells) [dB (Yn p c)]:=by
 refine JuV (vs:=[.i p.n,.l (Jd p.acts),.l (dL p.gives),.l (dL p.start),.l (dLL (Jb p.acts)),.l (dBl (Jj p.acts)),.b c.up,.i c.round,.l (dL c.base),.l (dDs c.done),.l (dCs c.wants),.l (dGs c.got)]) L_k1r rfl ?_;have hwl:=hk.c;refine Jup (JT c.round 0 200) rfl rfl rfl ?_;refine JuL (inB c.round 0 200) rfl (fun b=>Jun (by show [dB false]=_;simp only[Yn,b,Bool.false_and,Bool.and_false])) (fun a1=>?_);refine Jup (Zd c.base hk.b) rfl rfl rfl ?_;refine JuL (JQ c.base) rfl (fun b=>Jun (by show [dB false]=_;simp only[Yn,b,Bool.false_and,Bool.and_false])) (fun a2=>?_);refine Jup (Jbn p c.done ⟨hk.d,hk.dt⟩) rfl rfl rfl ?_;refine JuL (J7 p.n c.done) rfl (fun b=>Jun (by show [dB false]=_;simp only[Yn,b,Bool.false_and,Bool.and_false])) (fun a3=>?_);refine Jup (JoL p c hp hk hc) rfl rfl rfl ?_;refine JuL (decide (c.got.length=p.gives.length)&&JU c.got.length (Y3 p c.base c.got)) rfl (fun b=>Jun (by show [dB false]=_;simp only[Yn,b,Bool.false_and,Bool.and_false])) (fun a4=>?_);have e:Yn p c=(JU c.wants.length (Yq p c.wants)&&(c.up||(decide (c.wants.length=0)&&decide (Xn c.got=0)))):=by
  unfold Yn;rw[a1,a2,a3,a4];simp only[Jvk]
 rw[e];simp only[sC,sN];refine Juu c.wants.length (fun i=>[.i i]) (fun i=>JU i (Yq p c.wants)=true) rfl rfl rfl fun i hi hq=>?_;simp only[sC,sN];refine JuG i (Qq c.wants) rfl (fun h'=>?_) (fun h'=>Juk ?_)
 ·obtain⟨x,hx,hm⟩:=sA1 h';have hwi:=Jam (p:=p) hx;have bad:Yq p c.wants i=false→[dB false]=[dB (JU c.wants.length (Yq p c.wants)&&(c.up||(decide (c.wants.length=0)&&decide (Xn c.got=0))))]:=fun h=>by rw[Ke h' h];rfl
  have good:Yq p c.wants i=true→JU (i+1) (Yq p c.wants)=true:=fun h=>by rw[Ze,hq,h];rfl
  have nx:[V.i (i64.wrap ((i:Int)+1))]=[V.i ((i+1:Nat):Int)]:=by rw[wS h' (by omega)]
  refine JuF (vs:=[.i x.client,.i x.seq,.i x.act,.l (dL x.args)]) i (mA1 (f:=Cal.g) hx) rfl rfl rfl rfl ?_;simp only[sC,sN];refine Jup (Qu p x hp h1 h2 (hk.ct x hm)) rfl rfl rfl ?_;simp only[sC,sN];refine JuL (Jm p x) rfl (fun b=>Juk (Jun (bad (by rw[hwi,b];rfl)))) (fun b=>?_);rw[b,Jvk] at hwi;refine JuB ((0:Int)<(i:Int)) rfl (fun h0=>?_) (fun h0=>JuC nx ⟨h',rfl,good (by rw[hwi,decide_eq_true (show i=0 by omega)];rfl)⟩);obtain⟨y,hy,_⟩:=sA1 (show i-1<c.wants.length by omega);rw[Qj hy,decide_eq_false (show ¬i=0 by omega),Bool.false_or] at hwi;refine JuF (vs:=[.i y.client,.i y.seq,.i y.act,.l (dL y.args)]) (i-1) (mA1 (f:=Cal.g) hy) rfl rfl ?_ rfl ?_
  ·show i64.wrap ((i:Int)-1)=((i-1:Nat):Int);rw[w64 (by omega) (by omega)];omega
  refine JuF (vs:=[.i x.client,.i x.seq,.i x.act,.l (dL x.args)]) i (mA1 (f:=Cal.g) hx) rfl rfl rfl rfl ?_;simp only[sC,sN];exact JuB (x.client≤y.client) rfl (fun g=>Juk (Jun (bad (by rw[hwi];exact decide_eq_false (by omega))))) (fun g=>JuC nx ⟨h',rfl,good (by rw[hwi];exact decide_eq_true (by omega))⟩)
 ·rw[show i=c.wants.length by omega] at hq;rw[hq,Jvk];refine JuU c.up rfl (fun u=>Jun (by show [dB true]=_;rw[u];rfl)) (fun u=>?_);rw[show (c.up||(decide (c.wants.length=0)&&decide (Xn c.got=0)))=(decide (c.wants.length=0)&&decide (Xn c.got=0)) by rw[u,Bool.false_or]];refine JuU (decide (c.wants.length=0)) (by show decide (((dCs c.wants).length:Int)=0)=_;exact Kb _ (Qq _)) (fun w=>?_) (fun w=>Jun (by show [dB false]=_;rw[w];rfl));refine Jup (JcW c hk.g) rfl rfl rfl (Jun ?_);show [dB (decide ((Xn c.got:Int)=0))]=_;rw[w,Kb _ rfl];rfl
theorem JfK (p:Pln) (c:Clk) (hp:JY p) (hk:QP c):Ev L f_k5r (p.cells++c.cells) [dB (XR p c)]:=by
 refine JuV (vs:=[.i p.n,.l (Jd p.acts),.l (dL p.gives),.l (dL p.start),.b c.up,.i c.round,.l (dL c.base),.l (dDs c.done),.l (dCs c.wants),.l (dGs c.got)]) L_k5r rfl ?_;refine Jup (Uk p hp) rfl rfl rfl ?_;refine JuL (JJ p) rfl (fun b=>Jun (by show [dB false]=_;simp only[XR,b,Bool.false_and,Bool.and_false])) (fun a=>?_);obtain⟨n1,n2,_⟩:=JZ a;have hc:=XN a;have e1:(U2 p.acts).1=Jb p.acts:=by simp[Jb,hc]
 have e2:(U2 p.acts).2=Jj p.acts:=by simp[Jj,hc]
 have eB:=JfE p.acts hp.1 (Ya hc).2.1;rw[e1,e2] at eB;refine Jup eB rfl rfl rfl ?_;simp only[sC,sN];refine Jup (Jlz p c hp hk n1 n2 hc) rfl rfl rfl (Jun ?_);show [dB (Yn p c)]=_;simp only[XR,a,Jvk]
theorem JjQ (x:Got):Ev L f_k5a x.cells [dB (!x.has&&emp x)]:=by
 refine JuV (vs:=[.b x.has,.l (dL x.added),.l (dL x.seqs)]) L_k5a rfl ?_;refine JuL x.has rfl (fun a=>?_) (fun a=>Jun (by show [dB false]=_;rw[a];rfl));refine JuU (decide (x.added.length=0)) (Kb _ (dL1 _)) (fun b=>Jun ?_) (fun b=>Jun (by show [dB false]=_;rw[emp,b];simp));show [dB (decide (((dL x.seqs).length:Int)=0))]=_;rw[Kb _ (dL1 _),a,emp,b];simp
def VG (p:Pln) (b:List Int) (up:Bool) (l:List Got) (j:Nat):Bool :=
 (up&&((l.getD j QQ).has&&(Xa p b j (l.getD j QQ).added&&Xb p.n (l.getD j QQ).seqs)))||(!(l.getD j QQ).has&&emp (l.getD j QQ))
theorem JpJ (p:Pln) (b:List Int) (l:List Got) (j:Nat):VG p b true l j=Y3 p b l j:=by
 unfold VG Y3;cases (l.getD j QQ).has <;> simp
theorem JlZ (p:Pln) (b:List Int) (l:List Got):JU l.length (VG p b false l)=(JU l.length (Y3 p b l)&&decide (Xn l=0)):=by
 rw[Bool.eq_iff_iff,Ju0,Yd,Yd,decide_eq_true_eq];have hn:Xn l=0↔∀j,j<l.length→(l.getD j QQ).has=false:=by
  unfold Xn;rw[List.length_eq_zero_iff,List.filter_eq_nil_iff];constructor
  ·intro h j hj;obtain⟨x,hx,hm⟩:=sA1 hj;rw[Qj hx];simpa using h x hm
  ·intro h x hx;obtain⟨j,hj,e⟩:=List.getElem_of_mem hx;have:=h j hj;rw[Qj (x:=x) (by rw[Jvb hj,e])] at this;simp[this]
 rw[hn];constructor
 ·intro h;have h0 :∀j,j<l.length→(l.getD j QQ).has=false:=fun j hj=>by
   have:=h j hj;unfold VG at this;cases hh:(l.getD j QQ).has with
   | false=>rfl
   | true=>rw[hh] at this;simp at this
  refine⟨fun j hj=>?_,h0⟩;have:=h j hj;unfold VG at this;unfold Y3;rw[h0 j hj] at this ⊢;simpa using this
 ·rintro⟨h,h0⟩ j hj;have:=h j hj;unfold Y3 at this;unfold VG;rw[h0 j hj] at this ⊢;simpa using this
theorem JnE (p:Pln) (c:Clk):Yn p c=(inB c.round 0 200&&(JQ c.base&&(J7 p.n c.done&&(decide (c.got.length=p.gives.length) &&
  (JU c.wants.length (fun j=>Yq p c.wants j&&c.up)&&JU c.got.length (VG p c.base c.up c.got)))))):=by
 unfold Yn;cases hu:c.up with
 | true =>
  have e:VG p c.base true c.got=Y3 p c.base c.got:=funext fun j=>JpJ p c.base c.got j;have e2:(fun j=>Yq p c.wants j&&true)=Yq p c.wants:=funext fun j=>Bool.and_true _;rw[e,e2,Bool.true_or,Bool.and_true];cases inB c.round 0 200 <;> cases JQ c.base <;> cases J7 p.n c.done <;> cases decide (c.got.length=p.gives.length) <;> cases JU c.got.length (Y3 p c.base c.got) <;> cases JU c.wants.length (Yq p c.wants) <;> rfl
 | false =>
  rw[JlZ];have e2:JU c.wants.length (fun j=>Yq p c.wants j&&false)=decide (c.wants.length=0):=by
   cases hl:c.wants.length with
   | zero=>rfl
   | succ n=>rw[Ke (i:=0) (by omega) (Bool.and_false _)];simp
  rw[e2,Bool.false_or];cases hl:decide (c.wants.length=0) with
  | false=>simp
  | true =>
   have h0:c.wants.length=0:=by simpa using hl
   rw[h0];have:JU 0 (Yq p c.wants)=true:=rfl;rw[this];cases inB c.round 0 200 <;> cases JQ c.base <;> cases J7 p.n c.done <;> cases decide (c.got.length=p.gives.length) <;> cases JU c.got.length (Y3 p c.base c.got) <;> cases decide (Xn c.got=0) <;> rfl
theorem Jjz (p:Pln) (c:Clk) (hp:JY p) (hk:QP c) (h1:1≤p.n) (h2:p.n≤4) (hc:Qx p.acts=true) :
  Ev L f_k5b (p.cells++[.s (Jd p.acts),.s (dLL (Jb p.acts)),.s (dBl (Jj p.acts))]++c.cells) [dB (Yn p c)]:=by
 refine JuV (vs:=[.i p.n,.l (Jd p.acts),.l (dL p.gives),.l (dL p.start),.l (Jd p.acts),.l (dLL (Jb p.acts)),.l (dBl (Jj p.acts)),.b c.up,.i c.round,.l (dL c.base),.l (dDs c.done),.l (dCs c.wants),.l (dGs c.got)]) L_k5b rfl ?_;have hps:fitLL (Jb p.acts):=(Xi p.acts).fitLL (by omega);have hwl:=hk.c;have hgl:=hk.g;rw[JnE];refine Jup (YL c.round 0 200) rfl rfl rfl ?_;refine JuL (inB c.round 0 200) rfl (fun b=>Jun (by show [dB false]=_;rw[b];rfl)) (fun a1=>?_);refine Jup (VR c.base hk.b) rfl rfl rfl ?_;refine JuL (JQ c.base) rfl (fun b=>Jun (by show [dB false]=_;rw[b,Bool.false_and,Bool.and_false])) (fun a2=>?_);refine Jup (Jng p c.done ⟨hk.d,hk.dt⟩) rfl rfl rfl ?_;refine JuL (J7 p.n c.done) rfl (fun b=>Jun (by show [dB false]=_;rw[b,Bool.false_and,Bool.and_false,Bool.and_false])) (fun a3=>?_);refine JuL (decide (c.got.length=p.gives.length)) ?_ (fun b=>Jun (by show [dB false]=_;rw[b,Bool.false_and,Bool.and_false,Bool.and_false,Bool.and_false])) (fun a4=>?_)
 ·show (!decide (((dGs c.got).length:Int)=((dL p.gives).length:Int)))=_;rw[Xc,dL1];simp[Int.ofNat_inj]
 rw[a1,a2,a3,a4];simp only[Jvk];generalize hB:JU c.wants.length (fun j=>Yq p c.wants j&&c.up)=B;simp only[sC,sN];refine Juu c.wants.length (fun i=>[.i i]) (fun i=>JU i (fun j=>Yq p c.wants j&&c.up)=true) rfl rfl rfl fun i hi hq=>?_;simp only[sC,sN];refine JuG i (Qq c.wants) rfl (fun h'=>?_) (fun h'=>Juk ?_)
 ·obtain⟨x,hx,hm⟩:=sA1 h';have hwi:=Jam (p:=p) hx;have bad:(Yq p c.wants i&&c.up)=false→[dB false]=[dB (B&&JU c.got.length (VG p c.base c.up c.got))]:=fun h=>by rw[←hB,Ke h' h];rfl
  have good:(Yq p c.wants i&&c.up)=true→JU (i+1) (fun j=>Yq p c.wants j&&c.up)=true:=fun h=>by rw[Ze,hq,h];rfl
  have nx:[V.i (i64.wrap ((i:Int)+1))]=[V.i ((i+1:Nat):Int)]:=by rw[wS h' (by omega)]
  refine JuF (vs:=[.i x.client,.i x.seq,.i x.act,.l (dL x.args)]) i (mA1 (f:=Cal.g) hx) rfl rfl rfl rfl ?_;simp only[sC,sN];refine Jup (Jmt p x hp h1 h2 (hk.ct x hm)) rfl rfl rfl ?_;simp only[sC,sN];refine JuL (Jm p x) rfl (fun b=>Juk (Jun (bad (by rw[hwi,b];rfl)))) (fun b=>?_);rw[b,Jvk] at hwi;refine JuB ((0:Int)<(i:Int)) rfl (fun h0=>?_) (fun h0=>?_)
  ·obtain⟨y,hy,_⟩:=sA1 (show i-1<c.wants.length by omega);rw[Qj hy,decide_eq_false (show ¬i=0 by omega),Bool.false_or] at hwi;refine JuF (vs:=[.i y.client,.i y.seq,.i y.act,.l (dL y.args)]) (i-1) (mA1 (f:=Cal.g) hy) rfl rfl ?_ rfl ?_
   ·show i64.wrap ((i:Int)-1)=((i-1:Nat):Int);rw[w64 (by omega) (by omega)];omega
   simp only[sC,sN];refine JuB (x.client≤y.client) rfl (fun g=>Juk (Jun (bad (by rw[hwi,decide_eq_false (by omega)];rfl)))) (fun g=>?_);exact JuL c.up rfl (fun u=>Juk (Jun (bad (by rw[u,Bool.and_false])))) (fun u=>JuC nx ⟨h',rfl,good (by rw[hwi,u,decide_eq_true (by omega)];rfl)⟩)
  ·exact JuL c.up rfl (fun u=>Juk (Jun (bad (by rw[u,Bool.and_false])))) (fun u=>JuC nx ⟨h',rfl,good (by rw[hwi,u,decide_eq_true (show i=0 by omega)];rfl)⟩)
 ·rw[show i=c.wants.length by omega] at hq;rw[hB] at hq;rw[hq,Jvk];clear hB hq h' hi;refine Juu c.got.length (fun i=>[.i i]) (fun i=>JU i (VG p c.base c.up c.got)=true) rfl rfl rfl fun i hi hq=>?_;simp only[sC,sN];refine JuG i (Xc c.got) rfl (fun h'=>?_) (fun h'=>Juk (Jun ?_))
  ·obtain⟨x,hx,hm⟩:=sA1 h';have hxf:=hk.gt x hm;have hgi:VG p c.base c.up c.got i=((c.up&&(x.has&&(Xa p c.base i x.added&&Xb p.n x.seqs)))||(!x.has&&emp x)):=by unfold VG;rw[Qj hx]
   have bad:VG p c.base c.up c.got i=false→[dB false]=[dB (JU c.got.length (VG p c.base c.up c.got))]:=fun h=>by rw[Ke h' h]
   have good:VG p c.base c.up c.got i=true→JU (i+1) (VG p c.base c.up c.got)=true:=fun h=>by rw[Ze,hq,h];rfl
   have nx:[V.i (i64.wrap ((i:Int)+1))]=[V.i ((i+1:Nat):Int)]:=by rw[wS h' (by omega)]
   have hno:=JjQ x;have last:(c.up&&(x.has&&(Xa p c.base i x.added&&Xb p.n x.seqs)))=false→VG p c.base c.up c.got i=(!x.has&&emp x):=fun h=>by rw[hgi,h,Bool.false_or]
   refine JuF (vs:=[.b x.has,.l (dL x.added),.l (dL x.seqs)]) i (mA1 (f:=Got.g) hx) rfl rfl rfl rfl ?_;simp only[sC,sN];refine JuU c.up rfl (fun u=>?_) (fun u=>?_)
   ·refine JuU x.has rfl (fun hh=>?_) (fun hh=>?_)
    ·refine Jup (Jd2 p c.base) rfl rfl rfl ?_;refine Jup (JmM p.acts (Jb p.acts) (Jj p.acts) c.base p.gives i x.added (VK hc) hk.b hp.2.1 hps hxf.1) rfl rfl rfl ?_;simp only[sC,sN];refine JuU (Xa p c.base i x.added) rfl (fun e=>?_) (fun e=>?_)
     ·refine Jup (Jl7 p x.seqs hxf.2) rfl rfl rfl ?_;simp only[sC,sN];refine JuL (Xb p.n x.seqs) rfl (fun f=>?_) (fun f=>JuC nx ⟨h',rfl,good (by rw[hgi,u,hh,e,f];rfl)⟩);refine Jup hno rfl rfl rfl ?_;exact JuL (!x.has&&emp x) rfl (fun g=>Juk (Jun (bad (by rw[last (by simp[f])];exact g)))) (fun g=>JuC nx ⟨h',rfl,good (by rw[last (by simp[f])];exact g)⟩)
     ·refine Jup hno rfl rfl rfl ?_;exact JuL (!x.has&&emp x) rfl (fun g=>Juk (Jun (bad (by rw[last (by simp[e])];exact g)))) (fun g=>JuC nx ⟨h',rfl,good (by rw[last (by simp[e])];exact g)⟩)
    ·refine Jup hno rfl rfl rfl ?_;exact JuL (!x.has&&emp x) rfl (fun g=>Juk (Jun (bad (by rw[last (by simp[hh])];exact g)))) (fun g=>JuC nx ⟨h',rfl,good (by rw[last (by simp[hh])];exact g)⟩)
   ·refine Jup hno rfl rfl rfl ?_;exact JuL (!x.has&&emp x) rfl (fun g=>Juk (Jun (bad (by rw[last (by simp[u])];exact g)))) (fun g=>JuC nx ⟨h',rfl,good (by rw[last (by simp[u])];exact g)⟩)
  ·show [dB true]=_;rw[show i=c.got.length by omega] at hq;rw[hq]
theorem Jl5 (p:Pln) (c:Clk) (hp:JY p) (hk:QP c):Ev L f_k5c (p.cells++c.cells) [dB (XR p c)]:=by
 refine JuV (vs:=[.i p.n,.l (Jd p.acts),.l (dL p.gives),.l (dL p.start),.b c.up,.i c.round,.l (dL c.base),.l (dDs c.done),.l (dCs c.wants),.l (dGs c.got)]) L_k5c rfl ?_;refine Jup (JfG p hp) rfl rfl rfl ?_;refine JuU (JJ p) rfl (fun a=>?_) (fun b=>Jun (by show [dB false]=_;simp only[XR,b,Bool.false_and,Bool.and_false]));obtain⟨n1,n2,_⟩:=JZ a;have hc:=XN a;refine Jup (Jj8 p.acts hp.1) rfl rfl rfl ?_;simp only[sC,sN];refine Jup (Jjz p c hp hk n1 n2 hc) rfl rfl rfl (Jun ?_);show [dB (Yn p c)]=_;simp only[XR,a,Jvk]
def JhQ (p:Pln) (c:Clk):Bool:=XR p c&&decide (Xn c.got=p.gives.length)
theorem Ji2 (l:List Got):(l.all fun g=>g.has)=decide (Xn l=l.length):=by
 rw[Bool.eq_iff_iff,decide_eq_true_eq];unfold Xn;rw[List.length_filter_eq_length_iff];simp
theorem Jmc (q:Got→Bool) (l:List Got) {fn:FuncId} {caps:List D} (hlen:l.length≤2000000) (hcap:XM (.f fn caps) = .f fn caps) (har:arT L fn=some ([some 3]++caps.map fun _=>none))
  (hc :∀x∈l,Ev L fn (x.cells++caps.map D.norm) [dB (q x)]):Ev L f_k5j [.s (dGs l),.f fn caps] [dB (l.any q)] :=
 YK (g := f_k5i) L_k5j rfl hcap
   (Zn (sh:= .g [.b,.s,.s]) (as:=[(.vb (.v 3)),(.s (.v 4)),(.s (.v 5))]) (ar:=[some 3]) (k:=6) Got.g q Got.cells (fun x=>[.b x.has,.l (dL x.added),.l (dL x.seqs)]) l
     L_k5i rfl hlen hcap (fun _ _=>rfl) (fun _ _=>rfl) (fun _ _ _ _=>rfl) har hc)
theorem JjY (x:Got):Ev L f_k5k x.cells [dB (!x.has)] :=
 JuV (vs:=[.b x.has,.l (dL x.added),.l (dL x.seqs)]) L_k5k rfl (Jun rfl)
/- The program's SitFall answers as the reference's: over residual programs. -/
theorem Qk (c:Int) (l:List Int) (hl:l.length≤2000000):Ev L f_k1t [dI c,.s (dL l)] [dI c,.s (dL l)]:=by
 refine JuV (vs:=[.i c,.l (dL l)]) L_k1t rfl ?_;refine Juv (dL l) 2000000 (by rw[dL1];omega) (by omega) rfl ?_;refine JuT (JW l) ?_;exact Juv (dL l) 2000000 (by rw[dL1];omega) (by omega) rfl (Jun rfl)
theorem Zp (l:List Don) (hl:Wq Za l):Ev L f_k1u [.s (dDs l)] [.s (dDs l)]:=by
 refine JuV (vs:=[.l (dDs l)]) L_k1u rfl ?_;have hl0:=hl.1;refine Juu l.length (fun i=>[.l (dDs (l.take i)),.i i]) (fun _=>True) rfl rfl trivial fun i hi _=>?_;simp only[sC,sN];refine JuG i (Qz l) rfl (fun h=>?_) (fun h=>Juk (Jun ?_))
 ·obtain⟨x,hx,hm⟩:=sA1 h;have hg:(dDs l)[i]? = some x.g:=mA1 (f:=Don.g) hx;refine JuF (vs:=[.i x.seq,.i x.code,.l (dL x.tells)]) i hg rfl rfl rfl rfl ?_;refine JuF (vs:=[.i x.seq,.i x.code,.l (dL x.tells)]) i hg rfl rfl rfl rfl ?_;refine Jup (vs:=[.i x.code,.l (dL x.tells)]) (Qk x.code x.tells (hl.2 x hm)) rfl rfl rfl ?_;simp only[sC,sN];refine JuR (dDs (l.take i)) 2000000 (by rw[Qz,Jvf];omega) (by omega) rfl ?_;refine JuC (vs:=[.l (dDs (l.take (i+1))),.i ((i+1:Nat):Int)]) ?_ ⟨h,rfl,trivial⟩;show [V.l (dDs (l.take i)++[x.g]),V.i (i64.wrap ((i:Int)+1))]=_;rw[wS h (by omega),tS1 hx];simp only[dDs,List.map_append,Ju8,List.map_nil]
 ·show [D.s (dDs (l.take i))]=_;rw[tA1 h]
theorem Jbp (s:Sit) (hs:KN s):Ev L f_k1x s.cells s.cells:=by
 refine JuV (vs:=[.b s.up,.b s.frozen,.i s.round,.l (dL s.base),.l (dL s.added),.l (dDs s.done)]) L_k1x rfl ?_;have h1:=hs.1;have h2:=hs.2.1;refine Juv (dL s.base) 2000000 (by rw[dL1];omega) (by omega) rfl ?_;refine JuT (JW s.base) ?_;refine Juv (dL s.base) 2000000 (by rw[dL1];omega) (by omega) rfl ?_;refine Juv (dL s.added) 2000000 (by rw[dL1];omega) (by omega) rfl ?_;refine JuT (JW s.added) ?_;refine Juv (dL s.added) 2000000 (by rw[dL1];omega) (by omega) rfl ?_;exact Jup (vs:=[.l (dDs s.done)]) (Zp s.done ⟨hs.2.2.1,hs.2.2.2⟩) rfl rfl rfl (Jun rfl)
theorem JaJ (c:Int) (l:List Int) (hl:l.length≤2000000):Ev L f_k5e [dI c,.s (dL l)] [dI c,.s (dL l)] :=
 JuV (vs:=[.i c,.l (dL l)]) L_k5e rfl (Jup (vs:=[.l (dL l)]) (QK l hl) rfl rfl rfl (Jun rfl))
theorem Jpd (l:List Don) (hl:Wq Za l):Ev L f_k5f [.s (dDs l)] [.s (dDs l)]:=by
 refine JuV (vs:=[.l (dDs l)]) L_k5f rfl ?_;have hl0:=hl.1;refine Juu l.length (fun i=>[.l (dDs (l.take i)),.i i]) (fun _=>True) rfl rfl trivial fun i hi _=>?_;simp only[sC,sN];refine JuG i (Qz l) rfl (fun h=>?_) (fun h=>Juk (Jun ?_))
 ·obtain⟨x,hx,hm⟩:=sA1 h;have hg:(dDs l)[i]? = some x.g:=mA1 (f:=Don.g) hx;refine JuF (vs:=[.i x.seq,.i x.code,.l (dL x.tells)]) i hg rfl rfl rfl rfl ?_;refine Jup (vs:=[.i x.code,.l (dL x.tells)]) (JaJ x.code x.tells (hl.2 x hm)) rfl rfl rfl ?_;simp only[sC,sN]
  try refine JuI (K0 dI (fun _=>rfl) x.tells) ?_
  refine JuR (dDs (l.take i)) 2000000 (by rw[Qz,Jvf];omega) (by omega) rfl ?_;refine JuC (vs:=[.l (dDs (l.take (i+1))),.i ((i+1:Nat):Int)]) ?_ ⟨h,rfl,trivial⟩;show [V.l (dDs (l.take i)++[x.g]),V.i (i64.wrap ((i:Int)+1))]=_;rw[wS h (by omega),tS1 hx];simp only[dDs,List.map_append,Ju8,List.map_nil]
 ·show [D.s (dDs (l.take i))]=_;rw[tA1 h]
/- In the beginning all are alike: over residual programs. -/
theorem Jdy {bs:List Int} {p:Int} (hr:Rdr bs p) (hf:p≤999999900000) :
  ∃ (l:Pln) (q:Int),Ev L f_ke [.s (Ja bs),dI p] (l.cells++[.s (Ja bs),dI q])∧p≤q∧q≤p+2000∧UN l.acts∧l.gives.length≤3∧l.start.length=3∧JJ l=true:=by
 have key : ∃ ds,Ev L f_ke [.s (Ja bs),dI p] ds∧∃ (l:Pln) (q:Int),ds=l.cells++[.s (Ja bs),dI q]∧p≤q∧q≤p+2000∧UN l.acts∧l.gives.length≤3∧l.start.length=3∧JJ l=true:=by
  refine JuY (vs:=[.l (Ja bs),.i p]) L_ke rfl ?_;refine Je 4 hr (by omega) (by omega) rfl rfl fun u hu0 hu1=>?_;obtain⟨as,q,he,q1,q2,hs,has1⟩:=Jdn (hr.go (q:=p+1) (by omega) (by omega)) (by omega);have ht:UN as:=⟨by have:=hs.1;omega,fun a ha=>(hs.2 a ha).thin⟩;refine Jup he rfl rfl rfl ?_;refine Je 3 (hr.go (q:=q) (by omega) (by omega)) (by omega) (by omega) rfl rfl fun w hw0 hw1=>?_;simp only[sC,sN];refine JuQ (fun m vs=>∃ (gs:List Int) (k o:Int),vs=[.l (dL gs),.i k,.i o,.l (Ja bs)]∧q≤o∧o+k≤q+10∧0≤k∧k≤3∧(m:Int)=k∧(gs.length:Int)+k=1+w∧∀z∈gs,0≤z∧z≤50) rfl (1+w).toNat
   ⟨[],1+w,q+1,?_,by omega,by omega,by omega,by omega,by omega,by simp,fun z hz=>by simp at hz⟩ ?_
  ·show [V.l [],V.i (i64.wrap (1+w)),V.i (q+1),V.l (Ja bs)]=_;rw[w64 (by omega) (by omega)];rfl
  rintro m _ ⟨gs,k,o,rfl,o1,o2,k0,k3,hm,hl,hgs⟩;simp only[sC,sN];refine JuB (0<k) rfl (fun h=>?_) (fun h=>Juk ?_)
  ·refine Je 5 (hr.go (q:=o) (by omega) (by omega)) (by omega) (by omega) rfl rfl fun x hx0 hx1=>?_;simp only[sC,sN];refine JuE (0≤x) rfl hx0 ?_;refine JuE (x<5) rfl hx1 ?_;refine Juz (ds:=dL [0,3,9,20,50]) x rfl rfl rfl hx0 (J1 hx0 hx1) rfl ?_;have hy:0≤([0,3,9,20,50]:List Int).getD x.toNat 0∧([0,3,9,20,50]:List Int).getD x.toNat 0≤50:=by rcases (by omega:x=0∨x=1∨x=2∨x=3∨x=4) with q | q | q | q | q <;> subst q <;> decide
   generalize ([0,3,9,20,50]:List Int).getD x.toNat 0=y at *;refine JuR (dL gs) 10 (by rw[dL1];omega) (by omega) rfl ?_;refine JuC (vs:=[.l (dL (gs++[y])),.i (k-1),.i (o+1),.l (Ja bs)]) ?_ ⟨m-1,by omega,gs++[y],k-1,o+1,rfl,by omega,by omega,by omega,by omega,by omega,by simp;omega,fun z hz=>by
    rcases Ju5.1 hz with q | q
    ·exact hgs z q
    ·simp only[Jvi] at q;rw[q];exact hy⟩
   show [V.l (dL gs++[dI y]),V.i (i64.wrap (k-1)),V.i (o+1),V.l (Ja bs)]=_;rw[XI,w64 (by omega) (by omega)]
  refine JuQ (fun m vs=>∃ (ss:List Int) (r:Int),vs=[.l (dL ss),.i (ss.length:Int),.i r,.l (Ja bs)]∧o≤r∧r≤o+ss.length∧ss.length≤3∧m=3-ss.length∧Lim 1000 ss) rfl 3
   ⟨[],o,rfl,by omega,by simp,by simp,by simp,fun z hz=>by simp at hz⟩ ?_
  rintro m _ ⟨ss,r,rfl,r1,r2,hs3,hm3,hss⟩;simp only[sC,sN];refine JuB ((ss.length:Int)<3) rfl (fun h3=>?_) (fun h3=>Juk (Jun ⟨⟨1+u,as,gs,ss⟩,r,?_,by omega,by omega,ht,?_,?_,?_⟩))
  ·refine Je 6 (hr.go (q:=r) (by omega) (by omega)) (by omega) (by omega) rfl rfl fun x hx0 hx1=>?_;simp only[sC,sN];refine JuE (0≤x) rfl hx0 ?_;refine JuE (x<6) rfl hx1 ?_;refine Juz (ds:=dL [0,5,20,60,200,-8]) x rfl rfl rfl hx0 (J1 hx0 hx1) rfl ?_;have hy : -1000≤([0,5,20,60,200,-8]:List Int).getD x.toNat 0∧([0,5,20,60,200,-8]:List Int).getD x.toNat 0≤1000:=by rcases (by omega:x=0∨x=1∨x=2∨x=3∨x=4∨x=5) with q | q | q | q | q | q <;> subst q <;> decide
   generalize ([0,5,20,60,200,-8]:List Int).getD x.toNat 0=y at *;refine JuR (dL ss) 10 (by rw[dL1];omega) (by omega) rfl ?_;refine JuC (vs:=[.l (dL (ss++[y])),.i ((ss++[y]).length:Int),.i (r+1),.l (Ja bs)]) ?_ ⟨m-1,by omega,ss++[y],r+1,rfl,by omega,by simp;omega,by simp;omega,by simp;omega,hss.snoc hy⟩;show [V.l (dL ss++[dI y]),V.i (i64.wrap ((ss.length:Int)+1)),V.i (r+1),V.l (Ja bs)]=_;rw[XI,w64 (by omega) (by omega)];simp
  ·show [dI (i64.wrap (1+u)),D.s (Jd as),D.s (dL gs),D.s (dL ss),D.s (Ja bs),dI r]=_;rw[w64 (by omega) (by omega)];rfl
  ·show gs.length≤3;omega
  ·show ss.length=3;omega
  ·have ho :∀a∈as,Qo a=true:=fun a ha=>(hs.2 a ha).2.2;have hl4:=hs.1;unfold JJ Qw Qx;simp only[Ju0,Jvd,Jr];exact⟨by omega,⟨by omega,ho⟩,Jq.2 ⟨by omega,hss⟩,⟨Qd.2 ⟨by omega,hss.mono (by omega)⟩,by omega⟩,hgs⟩
 obtain⟨ds,e1,l,q,rfl,e2⟩:=key;exact⟨l,q,e1,e2⟩
theorem Jox (a b:List Int):dL a++dL b=dL (a++b):=by simp[dL]
theorem JD {bs:List Int} {p n:Int} (hr:Rdr bs p) (hf:p≤999999800000) (n1:1≤n) (n2:n≤2000000) :
  ∃ (l:Pln) (q:Int),Ev L f_k31 [.s (Ja bs),dI p,dI n] (l.cells++[.s (Ja bs),dI q])∧p≤q∧q≤p+5000∧JY l:=by
 have key : ∃ ds,Ev L f_k31 [.s (Ja bs),dI p,dI n] ds∧∃ (l:Pln) (q:Int),ds=l.cells++[.s (Ja bs),dI q]∧p≤q∧q≤p+5000∧JY l:=by
  refine JuY (vs:=[.l (Ja bs),.i p,.i n]) L_k31 rfl ?_;obtain⟨l,q,he,q1,q2,ha,hg,hs,_⟩:=Jdy hr (by omega);have hfit:JY l:=⟨ha.fit,by omega,by omega⟩;refine Jup (vs:=[.i l.n,.l (Jd l.acts),.l (dL l.gives),.l (dL l.start),.l (Ja bs),.i q]) he rfl rfl rfl ?_;simp only[sC,sN];refine Je n (hr.go (q:=q) (by omega) (by omega)) n1 n2 rfl rfl fun u hu0 hu1=>?_;simp only[sC,sN];refine JuB (0<u) rfl (fun _=>Jun ⟨l,q+1,rfl,by omega,by omega,hfit⟩) (fun _=>?_);refine Je 5 (hr.go (q:=q+1) (by omega) (by omega)) (by omega) (by omega) rfl rfl fun v hv0 hv1=>?_;simp only[sC,sN];refine JuB (v=0) rfl (fun _=>?_) (fun _=>?_)
  ·refine Je 3 (hr.go (q:=q+1+1) (by omega) (by omega)) (by omega) (by omega) rfl rfl fun x hx0 hx1=>?_;simp only[sC,sN];refine JuE (0≤x) rfl hx0 ?_;refine JuE (x<3) rfl hx1 ?_;refine Juz (ds:=dL [0,5,-1]) x rfl rfl rfl hx0 (J1 hx0 hx1) rfl ?_;exact Jun ⟨⟨([0,5,-1]:List Int).getD x.toNat 0,l.acts,l.gives,l.start⟩,q+1+1+1,rfl,by omega,by omega,hfit⟩
  refine JuB (v=1) rfl (fun _=>?_) (fun _=>?_)
  ·obtain⟨as,o,ea,o1,o2,hth⟩:=JeS (hr.go (q:=q+1+1) (by omega) (by omega)) (by omega) (n:=1) (by omega) (by omega);refine Jup ea rfl rfl rfl ?_;simp only[sC,sN];exact Jun ⟨⟨l.n,as,l.gives,l.start⟩,o,rfl,by omega,by omega,⟨hth.fit,hfit.2⟩⟩
  refine JuB (v=2) rfl (fun _=>?_) (fun _=>?_)
  ·refine Je 4 (hr.go (q:=q+1+1) (by omega) (by omega)) (by omega) (by omega) rfl rfl fun x hx0 hx1=>?_;simp only[sC,sN];refine JuE (0≤x) rfl hx0 ?_;refine JuE (x<4) rfl hx1 ?_;refine Juz (ds:=dL [-1,51,3,3]) x rfl rfl rfl hx0 (J1 hx0 hx1) rfl ?_;generalize ([-1,51,3,3]:List Int).getD x.toNat 0=y;refine Juv (dL (l.gives++[y,4,4])) 100 (by rw[dL1];simp;omega) (by omega) (Jox l.gives [y,4,4]) ?_;refine Jun ⟨⟨l.n,l.acts,l.gives++[y,4,4],l.start⟩,q+1+1+1,?_,by omega,by omega,⟨hfit.1,by simp;omega,hfit.2.2⟩⟩;show [dI l.n,D.s (Jd l.acts),D.s (dL l.gives++dL [y,4,4]),D.s (dL l.start),D.s (Ja bs),dI (q+1+1+1)]=_;rw[Jox];rfl
  refine JuB (v=3) rfl (fun _=>?_) (fun _=>?_)
  ·refine Je 3 (hr.go (q:=q+1+1) (by omega) (by omega)) (by omega) (by omega) rfl rfl fun x hx0 hx1=>?_;simp only[sC,sN];refine JuE (0≤x) rfl hx0 ?_;refine JuE (x<3) rfl hx1 ?_;refine Juz (ds:=dL [1001,-1000,1000]) x rfl rfl rfl hx0 (J1 hx0 hx1) rfl ?_;generalize ([1001,-1000,1000]:List Int).getD x.toNat 0=y;obtain⟨z,hz,_⟩:=sA1 (show 0<l.start.length by omega);refine JuE ((0:Int)<((dL l.start).length:Int)) rfl (by rw[dL1];omega) ?_;refine JuF 0 (mA1 (f:=dI) hz) rfl rfl rfl rfl ?_;refine Jun ⟨⟨l.n,l.acts,l.gives,l.start.set 0 y⟩,q+1+1+1,?_,by omega,by omega,⟨hfit.1,hfit.2.1,by simp;omega⟩⟩;show [dI l.n,D.s (Jd l.acts),D.s (dL l.gives),D.s ((dL l.start).set (0:Int).toNat (dI y)),D.s (Ja bs),dI (q+1+1+1)]=_;rw[QC];rfl
  ·refine JuE ((2:Int)≤((dL l.start).length:Int)) rfl (by rw[dL1];omega) ?_;refine Jun ⟨⟨l.n,l.acts,l.gives,l.start.take 2⟩,q+1+1,?_,by omega,by omega,⟨hfit.1,hfit.2.1,by simp;omega⟩⟩;show [dI l.n,D.s (Jd l.acts),D.s (dL l.gives),D.s ((dL l.start).take (2:Int).toNat),D.s (Ja bs),dI (q+1+1)]=_;rw[show ((2:Int).toNat)=2 from rfl,V6];rfl
 obtain⟨ds,e1,l,q,rfl,e2⟩:=key;exact⟨l,q,e1,e2⟩
theorem Zt (l:List Int) (hl:l.length≤2000000):Ev L f_k5t [.s (dL l),.s (dL l)] [dB true]:=by
 have h:=Je6 l l hl
 rwa [decide_eq_true rfl] at h
theorem JiL (l:List Don) (hl:Wq Za l):Ev L f_k5v [.s (dDs l),.s (dDs l)] [dB true]:=by
 refine JuV (vs:=[.l (dDs l),.l (dDs l)]) L_k5v rfl ?_;have hl0:=hl.1;refine JuN (by show (!decide (((dDs l).length:Int)=((dDs l).length:Int)))=false;simp) ?_;refine Juu l.length (fun i=>[.i i]) (fun _=>True) rfl rfl trivial fun i hi _=>?_;simp only[sC,sN];refine JuG i (Qz l) rfl (fun h=>?_) (fun h=>Juk (Jun rfl));obtain⟨x,hx,hm⟩:=sA1 h;have hg:(dDs l)[i]? = some x.g:=mA1 (f:=Don.g) hx;have hco:=JiE x.code x.code x.tells x.tells (hl.2 x hm);rw[decide_eq_true rfl,decide_eq_true rfl] at hco;refine JuF (vs:=[.i x.seq,.i x.code,.l (dL x.tells)]) i hg rfl rfl rfl rfl ?_;refine JuF (vs:=[.i x.seq,.i x.code,.l (dL x.tells)]) i hg rfl rfl rfl rfl ?_;simp only[sC,sN];refine JuN (by show (!decide (x.seq=x.seq))=false;simp) ?_;refine JuF (vs:=[.i x.seq,.i x.code,.l (dL x.tells)]) i hg rfl rfl rfl rfl ?_;refine JuF (vs:=[.i x.seq,.i x.code,.l (dL x.tells)]) i hg rfl rfl rfl rfl ?_;simp only[sC,sN];refine Jup hco rfl rfl rfl (JuN rfl ?_);exact JuC (vs:=[.i ((i+1:Nat):Int)]) (by rw[←wS h (by omega)];rfl) ⟨h,rfl,trivial⟩
theorem Jak (l:List Cal) (hl:l.length≤2000000) (ht :∀d∈l,d.args.length≤2000000):Ev L f_k5x [.s (dCs l),.s (dCs l)] [dB true]:=by
 refine JuV (vs:=[.l (dCs l),.l (dCs l)]) L_k5x rfl ?_;refine JuN (by show (!decide (((dCs l).length:Int)=((dCs l).length:Int)))=false;simp) ?_;refine Juu l.length (fun i=>[.i i]) (fun _=>True) rfl rfl trivial fun i hi _=>?_;simp only[sC,sN];refine JuG i (Qq l) rfl (fun h=>?_) (fun h=>Juk (Jun rfl));obtain⟨x,hx,hm⟩:=sA1 h;have hg:(dCs l)[i]? = some x.g:=mA1 (f:=Cal.g) hx;have hco:Ev L f_k5w (x.cells++x.cells) [dB true]:=by
  refine JuV (vs:=[.i x.client,.i x.seq,.i x.act,.l (dL x.args),.i x.client,.i x.seq,.i x.act,.l (dL x.args)]) L_k5w rfl ?_;refine JuK (by show decide (x.client=x.client)=true;simp) ?_;refine JuK (by show decide (x.seq=x.seq)=true;simp) ?_;refine JuK (by show decide (x.act=x.act)=true;simp) ?_;exact Jup (Zt x.args (ht x hm)) rfl rfl rfl (Jun rfl)
 refine JuF (vs:=[.i x.client,.i x.seq,.i x.act,.l (dL x.args)]) i hg rfl rfl rfl rfl ?_;refine JuF (vs:=[.i x.client,.i x.seq,.i x.act,.l (dL x.args)]) i hg rfl rfl rfl rfl ?_;simp only[sC,sN];refine Jup hco rfl rfl rfl (JuN rfl ?_);exact JuC (vs:=[.i ((i+1:Nat):Int)]) (by rw[←wS h (by omega)];rfl) ⟨h,rfl,trivial⟩
theorem Jgl (c:Clk) (hk:QP c):Ev L f_k5y (c.cells++c.cells) [dB true]:=by
 refine JuV (vs:=[.b c.up,.i c.round,.l (dL c.base),.l (dDs c.done),.l (dCs c.wants),.l (dGs c.got),.b c.up,.i c.round,.l (dL c.base),.l (dDs c.done),.l (dCs c.wants),.l (dGs c.got)]) L_k5y rfl ?_;have hgl:=hk.g;refine JuN (by show (!(c.up == c.up))=false;simp) ?_;refine JuN (by show (!decide (c.round=c.round))=false;simp) ?_;refine Jup (Zt c.base hk.b) rfl rfl rfl (JuN rfl ?_);refine Jup (JiL c.done ⟨hk.d,hk.dt⟩) rfl rfl rfl (JuN rfl ?_);refine Jup (Jak c.wants hk.c hk.ct) rfl rfl rfl (JuN rfl ?_);refine JuN (by show (!decide (((dGs c.got).length:Int)=((dGs c.got).length:Int)))=false;simp) ?_;simp only[sC,sN];refine Juu c.got.length (fun i=>[.i i]) (fun _=>True) rfl rfl trivial fun i hi _=>?_;simp only[sC,sN];refine JuG i (Xc c.got) rfl (fun h=>?_) (fun h=>Juk (Jun rfl));obtain⟨x,hx,hm⟩:=sA1 h;have hg:(dGs c.got)[i]? = some x.g:=mA1 (f:=Got.g) hx;have hxf:=hk.gt x hm;refine JuF (vs:=[.b x.has,.l (dL x.added),.l (dL x.seqs)]) i hg rfl rfl rfl rfl ?_;refine JuF (vs:=[.b x.has,.l (dL x.added),.l (dL x.seqs)]) i hg rfl rfl rfl rfl ?_;simp only[sC,sN];refine JuN (by show (!(x.has == x.has))=false;simp) ?_;refine JuF (vs:=[.b x.has,.l (dL x.added),.l (dL x.seqs)]) i hg rfl rfl rfl rfl ?_;refine JuF (vs:=[.b x.has,.l (dL x.added),.l (dL x.seqs)]) i hg rfl rfl rfl rfl ?_;simp only[sC,sN];refine Jup (Zt x.added hxf.1) rfl rfl rfl (JuN rfl ?_);simp only[sC,sN];refine JuF (vs:=[.b x.has,.l (dL x.added),.l (dL x.seqs)]) i hg rfl rfl rfl rfl ?_;refine JuF (vs:=[.b x.has,.l (dL x.added),.l (dL x.seqs)]) i hg rfl rfl rfl rfl ?_
 simp only[sC,sN];refine Jup (Zt x.seqs hxf.2) rfl rfl rfl (JuN rfl ?_);exact JuC (vs:=[.i ((i+1:Nat):Int)]) (by rw[←wS h (by omega)];rfl) ⟨h,rfl,trivial⟩
theorem JcU {n:Int} (h0:0≤n):J7 n (List.replicate n.toNat Wr)=true:=by
 unfold J7;rw[Ju0];refine⟨by simp;omega,?_⟩;rw[Jvd];intro d hd;rw[(List.mem_replicate.1 hd).2];rfl
theorem Jnj (as:List (List Jg)):QW (Jb as)=true:=by
 unfold QW;rw[Jvd];intro p hp;have:=(Xi as).each p hp;exact Jq.2 ⟨by omega,this.2⟩
theorem Jcb {p:Pln} (h:JJ p=true):JQ p.start=true:=by
 simp only[JJ,Ju0,Jq] at h;have:=h.2.2.1;have hl:Lim 1000 p.start:=this.2;exact Qd.2 ⟨by omega,hl.mono (by omega)⟩
theorem Qa {p:Pln} (h:JJ p=true):1≤p.gives.length∧p.gives.length≤3:=by
 have:=(JZ h).2.2.2;simp only[Qw,Ju0,Jr] at this;omega
theorem Jl9 {p:Pln} (h:JJ p=true):XR p (X5 p)=true∧JhQ p (X5 p)=false:=by
 obtain⟨n1,n2,h3,_⟩:=JZ h;have hg:=Qa h;have hs:X5 p=⟨true,0,p.start,List.replicate p.n.toNat Wr,[],List.replicate p.gives.length QQ⟩:=by unfold X5;rw[if_pos h]
 have hgot :∀j,Y3 p p.start (List.replicate p.gives.length QQ) j=true:=fun j=>by
  unfold Y3;have:(List.replicate p.gives.length QQ).getD j QQ=QQ:=by
   rw[Ju3,List.getElem?_replicate];split <;> rfl
  rw[this];rfl
 have hh:Xn (List.replicate p.gives.length QQ)=0:=by
  unfold Xn;rw[List.length_eq_zero_iff,List.filter_eq_nil_iff];intro x hx;rw[(List.mem_replicate.1 hx).2];simp[QQ]
 have hok:XR p (X5 p)=true:=by
  rw[hs];unfold XR Yn;rw[h,Jcb h,JcU (by omega),Yd.2 fun j _=>hgot j];simp[inB,JU]
 refine⟨hok,?_⟩;unfold JhQ;rw[hok,hs];show (true&&decide (Xn (List.replicate p.gives.length QQ)=p.gives.length))=false;rw[hh,Jvk];exact decide_eq_false (by omega)
end Go.Proofs.YtngcnclchcahlabGreatDoor

import Derived.Test.YtngcnclchcahlaaGreatDoorPZU
import Derived.Test.YtngcnclchcahlaaGreatDoorPV
import Derived.Test.YtngcnclchcahlaaGreatDoorTd
import Derived.Test.YtngcnclchcahlaaGreatDoorPZN
set_option linter.unusedVariables false
set_option linter.unusedSimpArgs false
/- The program's ClkOk and ClkReady answer as the reference's: over residual programs. -/
namespace Go.Proofs.YtngcnclchcahlaaGreatDoor
open Go Go.Tm
open Go.IntKind (i64)
def emp (g:Got):Bool:=decide (g.added.length=0)&&decide (g.seqs.length=0)
def K5 (p:Pln) (b:List Int) (l:List Got) (j:Nat):Bool :=
 if(l.getD j X5).has then Xp p b j (l.getD j X5).added&&Ym p.n (l.getD j X5).seqs else emp (l.getD j X5)
def Wm (p:Pln) (l:List Cal) (j:Nat):Bool:=Jk p (l.getD j ⟨0,0,0,[]⟩)&&(decide (j=0)||decide ((l.getD (j-1) ⟨0,0,0,[]⟩).client<(l.getD j ⟨0,0,0,[]⟩).client))
def XO (l:List Got):Nat:=(l.filter fun g=>g.has).length
def Q4 (n:Nat) (f:Nat→Bool):Bool:=(List.range n).all f
theorem Uw (n:Nat) (f:Nat→Bool):Q4 (n+1) f=(Q4 n f&&f n):=by simp[Q4,List.range_succ]
theorem Y1 {n:Nat} {f:Nat→Bool}:Q4 n f=true↔∀j,j<n→f j=true:=by simp[Q4]
theorem Jag {n i:Nat} {f:Nat→Bool} (h:i<n) (hf:f i=false):Q4 n f=false:=by
 cases e:Q4 n f with
 | false=>rfl
 | true=>rw[Y1.1 e i h] at hf;cases hf
def Zv (p:Pln) (c:Clk):Bool:=inB c.round 0 200&&(JY c.base&&(Qi p.n c.done&&((decide (c.got.length=p.gives.length)&&Q4 c.got.length (K5 p c.base c.got)) &&
 (Q4 c.wants.length (Wm p c.wants)&&(c.up||(decide (c.wants.length=0)&&decide (XO c.got=0)))))))
def JdX (p:Pln) (c:Clk):Bool:=Jt p&&Zv p c
theorem Ur (l:List Got):(dGs l).length=l.length:=by simp[dGs]
theorem Yj (l:List Cal):(dCs l).length=l.length:=by simp[dCs]
theorem QA {α:Type} {l:List α} {i:Nat} {x d:α} (h:l[i]? = some x):l.getD i d=x:=by simp[Juc,h]
theorem JnG (p:Pln) (c:Clk) (hp:JM p) (hk:Up c) (hc:Qk p.acts=true) :
  Ev L f_k1p (p.cells++[.s (dLL (Jb p.acts)),.s (dBl (Jh p.acts))]++c.cells) [dB (decide (c.got.length=p.gives.length)&&Q4 c.got.length (K5 p c.base c.got))]:=by
 refine Jt7 (vs:=[.i p.n,.l (Jd p.acts),.l (dL p.gives),.l (dL p.start),.l (dLL (Jb p.acts)),.l (dBl (Jh p.acts)),.b c.up,.i c.round,.l (dL c.base),.l (dDs c.done),.l (dCs c.wants),.l (dGs c.got)]) L_k1p rfl ?_;have hps:fitLL (Jb p.acts):=(QM p.acts).fitLL (by omega);have hgl:=hk.g;refine Jt1 (decide (c.got.length=p.gives.length)) ?_ (fun b=>Jt0 (by show [dB false]=_;simp only[b,Bool.false_and])) (fun a=>?_)
 ·show (!decide (((dGs c.got).length:Int)=((dL p.gives).length:Int)))=_;rw[Ur,dL1];simp[Int.ofNat_inj]
 rw[a,Jut];refine Jtt c.got.length (fun i=>[.i i]) (fun i=>Q4 i (K5 p c.base c.got)=true) rfl rfl rfl fun i hi hq=>?_;simp only[sC,sN];refine JtT i (Ur c.got) rfl (fun h'=>?_) (fun h'=>JtA (Jt0 ?_))
 ·obtain⟨x,hx,hm⟩:=sA1 h';have hxf:=hk.gt x hm;have hD:=QA (d:=X5) hx;have hgs:K5 p c.base c.got i=if x.has then Xp p c.base i x.added&&Ym p.n x.seqs else emp x:=by unfold K5;rw[hD]
  have bad:K5 p c.base c.got i=false→[dB false]=[dB (Q4 c.got.length (K5 p c.base c.got))]:=fun h=>by rw[Jag h' h]
  have good:K5 p c.base c.got i=true→Q4 (i+1) (K5 p c.base c.got)=true:=fun h=>by rw[Uw,hq,h];rfl
  have nx:[V.i (i64.wrap ((i:Int)+1))]=[V.i ((i+1:Nat):Int)]:=by rw[wS h' (by omega)]
  refine JtY (vs:=[.b x.has,.l (dL x.added),.l (dL x.seqs)]) i (mA1 (f:=Got.g) hx) rfl rfl rfl rfl ?_;simp only[sC,sN];refine Jt1 x.has rfl (fun hn=>?_) (fun hh=>?_)
  ·rw[hn] at hgs;have hw:i64.wrap (((dL x.added).length:Int)+((dL x.seqs).length:Int))=(x.added.length:Int)+x.seqs.length:=by rw[dL1,dL1];exact w64 (by omega) (by omega)
   refine Jty ((0:Int)<(x.added.length:Int)+x.seqs.length) (by show decide ((0:Int)<i64.wrap (((dL x.added).length:Int)+((dL x.seqs).length:Int)))=_;rw[hw]) (fun h0=>JtA (Jt0 (bad ?_))) (fun h0=>?_)
   ·rw[hgs];simp only[Jup,if_false,emp,Bool.and_eq_false_iff,decide_eq_false_iff_not];omega
   refine JtN (by show x.has=false;exact hn) (JtK nx ⟨h',rfl,good ?_⟩);rw[hgs];simp only[Jup,if_false,emp,Jt9,decide_eq_true_eq];omega
  ·rw[hh] at hgs;simp only[if_true] at hgs;refine JtZ (by show x.has=true;exact hh) ?_;refine JtE (ZF c.base p.gives (Jb p.acts) i x.added hk.b hp.2.1 hps hxf.1) rfl rfl rfl ?_;simp only[sC,sN];refine Jt1 (keeps c.base p.gives (Jb p.acts) i x.added) rfl (fun e=>JtA (Jt0 (bad (by rw[hgs,Xp,e];rfl)))) (fun e=>?_);refine JtE (WL (Jh p.acts) x.added (KX hc) (VN e)) rfl rfl rfl ?_;simp only[sC,sN];refine Jt1 (J5 (Jh p.acts) x.added) rfl (fun f=>JtA (Jt0 (bad (by rw[hgs,Xp,e,f];rfl)))) (fun f=>?_);refine JtE (Jf5 p x.seqs hxf.2) rfl rfl rfl ?_;simp only[sC,sN];exact Jt1 (Ym p.n x.seqs) rfl (fun g=>JtA (Jt0 (bad (by rw[hgs,g,Bool.and_false])))) (fun g=>JtK nx ⟨h',rfl,good (by rw[hgs,Xp,e,f,g];rfl)⟩)
 ·show [dB true]=_;rw[show i=c.got.length by omega] at hq;rw[hq]
theorem JmM {l:List Got} {i:Nat} {x:Got} (h:l[i]? = some x):XO (l.take (i+1))=XO (l.take i)+(if x.has then 1 else 0):=by
 unfold XO;rw[tS1 h,List.filter_append,Juf];cases hx:x.has <;> simp[hx]
theorem Jlf (l:List Got):XO l≤l.length:=List.length_filter_le _ _
theorem Jde (c:Clk) (hk:c.got.length≤2000000):Ev L f_k1q c.cells [dI (XO c.got)]:=by
 refine Jt7 (vs:=[.b c.up,.i c.round,.l (dL c.base),.l (dDs c.done),.l (dCs c.wants),.l (dGs c.got)]) L_k1q rfl ?_;refine Jtt c.got.length (fun i=>[.i (XO (c.got.take i)),.i i]) (fun _=>True) rfl rfl trivial fun i hi _=>?_;simp only[sC,sN];refine JtT i (Ur c.got) rfl (fun h'=>?_) (fun h'=>JtA (Jt0 ?_))
 ·obtain⟨x,hx,hm⟩:=sA1 h';have hs:=JmM hx;have hle:=Jlf (c.got.take i);rw[Juo] at hle;refine JtY (vs:=[.b x.has,.l (dL x.added),.l (dL x.seqs)]) i (mA1 (f:=Got.g) hx) rfl rfl rfl rfl ?_;simp only[sC,sN];refine JtG x.has rfl (fun hh=>?_) (fun hh=>?_)
  ·refine JtK (vs:=[.i ((XO (c.got.take (i+1)):Nat):Int),.i ((i+1:Nat):Int)]) ?_ ⟨h',rfl,trivial⟩;show [V.i (i64.wrap ((XO (c.got.take i):Int)+1)),V.i (i64.wrap ((i:Int)+1))]=_;rw[wS h' (by omega),w64 (by omega) (by omega),hs,hh];rfl
  ·refine JtK (vs:=[.i ((XO (c.got.take (i+1)):Nat):Int),.i ((i+1:Nat):Int)]) ?_ ⟨h',rfl,trivial⟩;show [V.i (XO (c.got.take i):Int),V.i (i64.wrap ((i:Int)+1))]=_;rw[wS h' (by omega),hs,hh];rfl
 ·show [dI (XO (c.got.take i))]=_;rw[tA1 h']
theorem JdL {p:Pln} {l:List Cal} {i:Nat} {x:Cal} (h:l[i]? = some x):Wm p l i=(Jk p x&&(decide (i=0)||decide ((l.getD (i-1) ⟨0,0,0,[]⟩).client<x.client))):=by
 unfold Wm;rw[QA h]
theorem JpP (p:Pln) (c:Clk) (hp:JM p) (hk:Up c) (h1:1≤p.n) (h2:p.n≤4) (hc:Qk p.acts=true) :
  Ev L f_k1r (p.cells++[.s (dLL (Jb p.acts)),.s (dBl (Jh p.acts))]++c.cells) [dB (Zv p c)]:=by
 refine Jt7 (vs:=[.i p.n,.l (Jd p.acts),.l (dL p.gives),.l (dL p.start),.l (dLL (Jb p.acts)),.l (dBl (Jh p.acts)),.b c.up,.i c.round,.l (dL c.base),.l (dDs c.done),.l (dCs c.wants),.l (dGs c.got)]) L_k1r rfl ?_;have hwl:=hk.c;refine JtE (JP c.round 0 200) rfl rfl rfl ?_;refine Jt1 (inB c.round 0 200) rfl (fun b=>Jt0 (by show [dB false]=_;simp only[Zv,b,Bool.false_and,Bool.and_false])) (fun a1=>?_);refine JtE (YV c.base hk.b) rfl rfl rfl ?_;refine Jt1 (JY c.base) rfl (fun b=>Jt0 (by show [dB false]=_;simp only[Zv,b,Bool.false_and,Bool.and_false])) (fun a2=>?_);refine JtE (Jbe p c.done ⟨hk.d,hk.dt⟩) rfl rfl rfl ?_;refine Jt1 (Qi p.n c.done) rfl (fun b=>Jt0 (by show [dB false]=_;simp only[Zv,b,Bool.false_and,Bool.and_false])) (fun a3=>?_);refine JtE (JnG p c hp hk hc) rfl rfl rfl ?_;refine Jt1 (decide (c.got.length=p.gives.length)&&Q4 c.got.length (K5 p c.base c.got)) rfl (fun b=>Jt0 (by show [dB false]=_;simp only[Zv,b,Bool.false_and,Bool.and_false])) (fun a4=>?_);have e:Zv p c=(Q4 c.wants.length (Wm p c.wants)&&(c.up||(decide (c.wants.length=0)&&decide (XO c.got=0)))):=by
  unfold Zv;rw[a1,a2,a3,a4];simp only[Jut]
 rw[e];simp only[sC,sN];refine Jtt c.wants.length (fun i=>[.i i]) (fun i=>Q4 i (Wm p c.wants)=true) rfl rfl rfl fun i hi hq=>?_;simp only[sC,sN];refine JtT i (Yj c.wants) rfl (fun h'=>?_) (fun h'=>JtA ?_)
 ·obtain⟨x,hx,hm⟩:=sA1 h';have hwi:=JdL (p:=p) hx;have bad:Wm p c.wants i=false→[dB false]=[dB (Q4 c.wants.length (Wm p c.wants)&&(c.up||(decide (c.wants.length=0)&&decide (XO c.got=0))))]:=fun h=>by rw[Jag h' h];rfl
  have good:Wm p c.wants i=true→Q4 (i+1) (Wm p c.wants)=true:=fun h=>by rw[Uw,hq,h];rfl
  have nx:[V.i (i64.wrap ((i:Int)+1))]=[V.i ((i+1:Nat):Int)]:=by rw[wS h' (by omega)]
  refine JtY (vs:=[.i x.client,.i x.seq,.i x.act,.l (dL x.args)]) i (mA1 (f:=Cal.g) hx) rfl rfl rfl rfl ?_;simp only[sC,sN];refine JtE (Y3 p x hp h1 h2 (hk.ct x hm)) rfl rfl rfl ?_;simp only[sC,sN];refine Jt1 (Jk p x) rfl (fun b=>JtA (Jt0 (bad (by rw[hwi,b];rfl)))) (fun b=>?_);rw[b,Jut] at hwi;refine Jty ((0:Int)<(i:Int)) rfl (fun h0=>?_) (fun h0=>JtK nx ⟨h',rfl,good (by rw[hwi,decide_eq_true (show i=0 by omega)];rfl)⟩);obtain⟨y,hy,_⟩:=sA1 (show i-1<c.wants.length by omega);rw[QA hy,decide_eq_false (show ¬i=0 by omega),Bool.false_or] at hwi;refine JtY (vs:=[.i y.client,.i y.seq,.i y.act,.l (dL y.args)]) (i-1) (mA1 (f:=Cal.g) hy) rfl rfl ?_ rfl ?_
  ·show i64.wrap ((i:Int)-1)=((i-1:Nat):Int);rw[w64 (by omega) (by omega)];omega
  refine JtY (vs:=[.i x.client,.i x.seq,.i x.act,.l (dL x.args)]) i (mA1 (f:=Cal.g) hx) rfl rfl rfl rfl ?_;simp only[sC,sN];exact Jty (x.client≤y.client) rfl (fun g=>JtA (Jt0 (bad (by rw[hwi];exact decide_eq_false (by omega))))) (fun g=>JtK nx ⟨h',rfl,good (by rw[hwi];exact decide_eq_true (by omega))⟩)
 ·rw[show i=c.wants.length by omega] at hq;rw[hq,Jut];refine JtG c.up rfl (fun u=>Jt0 (by show [dB true]=_;rw[u];rfl)) (fun u=>?_);rw[show (c.up||(decide (c.wants.length=0)&&decide (XO c.got=0)))=(decide (c.wants.length=0)&&decide (XO c.got=0)) by rw[u,Bool.false_or]];refine JtG (decide (c.wants.length=0)) (by show decide (((dCs c.wants).length:Int)=0)=_;exact UC _ (Yj _)) (fun w=>?_) (fun w=>Jt0 (by show [dB false]=_;rw[w];rfl));refine JtE (Jde c hk.g) rfl rfl rfl (Jt0 ?_);show [dB (decide ((XO c.got:Int)=0))]=_;rw[w,UC _ rfl];rfl
def Ji9 (p:Pln) (c:Clk):Bool:=JdX p c&&decide (XO c.got=p.gives.length)
theorem JnR (l:List Got):(l.all fun g=>g.has)=decide (XO l=l.length):=by
 rw[Bool.eq_iff_iff,decide_eq_true_eq];unfold XO;rw[List.length_filter_eq_length_iff];simp
/- The program's SitFall answers as the reference's: over residual programs. -/
theorem Qe (c:Int) (l:List Int) (hl:l.length≤2000000):Ev L f_k1t [dI c,.s (dL l)] [dI c,.s (dL l)]:=by
 refine Jt7 (vs:=[.i c,.l (dL l)]) L_k1t rfl ?_;refine Jtv (dL l) 2000000 (by rw[dL1];omega) (by omega) rfl ?_;refine JtH (JS l) ?_;exact Jtv (dL l) 2000000 (by rw[dL1];omega) (by omega) rfl (Jt0 rfl)
theorem Ze (l:List Don) (hl:Wj Yn l):Ev L f_k1u [.s (dDs l)] [.s (dDs l)]:=by
 refine Jt7 (vs:=[.l (dDs l)]) L_k1u rfl ?_;have hl0:=hl.1;refine Jtt l.length (fun i=>[.l (dDs (l.take i)),.i i]) (fun _=>True) rfl rfl trivial fun i hi _=>?_;simp only[sC,sN];refine JtT i (QC l) rfl (fun h=>?_) (fun h=>JtA (Jt0 ?_))
 ·obtain⟨x,hx,hm⟩:=sA1 h;have hg:(dDs l)[i]? = some x.g:=mA1 (f:=Don.g) hx;refine JtY (vs:=[.i x.seq,.i x.code,.l (dL x.tells)]) i hg rfl rfl rfl rfl ?_;refine JtY (vs:=[.i x.seq,.i x.code,.l (dL x.tells)]) i hg rfl rfl rfl rfl ?_;refine JtE (vs:=[.i x.code,.l (dL x.tells)]) (Qe x.code x.tells (hl.2 x hm)) rfl rfl rfl ?_;simp only[sC,sN];refine JtR (dDs (l.take i)) 2000000 (by rw[QC,Juo];omega) (by omega) rfl ?_;refine JtK (vs:=[.l (dDs (l.take (i+1))),.i ((i+1:Nat):Int)]) ?_ ⟨h,rfl,trivial⟩;show [V.l (dDs (l.take i)++[x.g]),V.i (i64.wrap ((i:Int)+1))]=_;rw[wS h (by omega),tS1 hx];simp only[dDs,List.map_append,Juh,List.map_nil]
 ·show [D.s (dDs (l.take i))]=_;rw[tA1 h]
theorem VT (s:Sit) (hs:Qu s):Ev L f_k1x s.cells s.cells:=by
 refine Jt7 (vs:=[.b s.up,.b s.frozen,.i s.round,.l (dL s.base),.l (dL s.added),.l (dDs s.done)]) L_k1x rfl ?_;have h1:=hs.1;have h2:=hs.2.1;refine Jtv (dL s.base) 2000000 (by rw[dL1];omega) (by omega) rfl ?_;refine JtH (JS s.base) ?_;refine Jtv (dL s.base) 2000000 (by rw[dL1];omega) (by omega) rfl ?_;refine Jtv (dL s.added) 2000000 (by rw[dL1];omega) (by omega) rfl ?_;refine JtH (JS s.added) ?_;refine Jtv (dL s.added) 2000000 (by rw[dL1];omega) (by omega) rfl ?_;exact JtE (vs:=[.l (dDs s.done)]) (Ze s.done ⟨hs.2.2.1,hs.2.2.2⟩) rfl rfl rfl (Jt0 rfl)
theorem Un (c:Int) (l:List Int) (hl:l.length≤2000000):Ev L f_k5e [dI c,.s (dL l)] [dI c,.s (dL l)] :=
 Jt7 (vs:=[.i c,.l (dL l)]) L_k5e rfl (JtE (vs:=[.l (dL l)]) (X6 l hl) rfl rfl rfl (Jt0 rfl))
theorem Joq (l:List Don) (hl:Wj Yn l):Ev L f_k5f [.s (dDs l)] [.s (dDs l)]:=by
 refine Jt7 (vs:=[.l (dDs l)]) L_k5f rfl ?_;have hl0:=hl.1;refine Jtt l.length (fun i=>[.l (dDs (l.take i)),.i i]) (fun _=>True) rfl rfl trivial fun i hi _=>?_;simp only[sC,sN];refine JtT i (QC l) rfl (fun h=>?_) (fun h=>JtA (Jt0 ?_))
 ·obtain⟨x,hx,hm⟩:=sA1 h;have hg:(dDs l)[i]? = some x.g:=mA1 (f:=Don.g) hx;refine JtY (vs:=[.i x.seq,.i x.code,.l (dL x.tells)]) i hg rfl rfl rfl rfl ?_;refine JtE (vs:=[.i x.code,.l (dL x.tells)]) (Un x.code x.tells (hl.2 x hm)) rfl rfl rfl ?_;simp only[sC,sN]
  try refine JtC (Jfe dI (fun _=>rfl) x.tells) ?_
  refine JtR (dDs (l.take i)) 2000000 (by rw[QC,Juo];omega) (by omega) rfl ?_;refine JtK (vs:=[.l (dDs (l.take (i+1))),.i ((i+1:Nat):Int)]) ?_ ⟨h,rfl,trivial⟩;show [V.l (dDs (l.take i)++[x.g]),V.i (i64.wrap ((i:Int)+1))]=_;rw[wS h (by omega),tS1 hx];simp only[dDs,List.map_append,Juh,List.map_nil]
 ·show [D.s (dDs (l.take i))]=_;rw[tA1 h]
theorem JgK (s:Sit) (hs:Qu s):Ev L f_k5g s.cells s.cells:=by
 refine Jt7 (vs:=[.b s.up,.b s.frozen,.i s.round,.l (dL s.base),.l (dL s.added),.l (dDs s.done)]) L_k5g rfl ?_;refine JtE (vs:=[.l (dL s.base)]) (X6 s.base hs.1) rfl rfl rfl ?_;refine JtE (vs:=[.l (dL s.added)]) (X6 s.added hs.2.1) rfl rfl rfl ?_;exact JtE (vs:=[.l (dDs s.done)]) (Joq s.done ⟨hs.2.2.1,hs.2.2.2⟩) rfl rfl rfl (Jt0 rfl)
/- In the beginning all are alike: over residual programs. -/
theorem Jem {bs:List Int} {p:Int} (hr:Rdr bs p) (hf:p≤999999900000) :
  ∃ (l:Pln) (q:Int),Ev L f_ke [.s (Ja bs),dI p] (l.cells++[.s (Ja bs),dI q])∧p≤q∧q≤p+2000∧UA l.acts∧l.gives.length≤3∧l.start.length=3∧Jt l=true:=by
 have key : ∃ ds,Ev L f_ke [.s (Ja bs),dI p] ds∧∃ (l:Pln) (q:Int),ds=l.cells++[.s (Ja bs),dI q]∧p≤q∧q≤p+2000∧UA l.acts∧l.gives.length≤3∧l.start.length=3∧Jt l=true:=by
  refine Jt4 (vs:=[.l (Ja bs),.i p]) L_ke rfl ?_;refine Je 4 hr (by omega) (by omega) rfl rfl fun u hu0 hu1=>?_;obtain⟨as,q,he,q1,q2,hs,has1⟩:=Jdi (hr.go (q:=p+1) (by omega) (by omega)) (by omega);have ht:UA as:=⟨by have:=hs.1;omega,fun a ha=>(hs.2 a ha).thin⟩;refine JtE he rfl rfl rfl ?_;refine Je 3 (hr.go (q:=q) (by omega) (by omega)) (by omega) (by omega) rfl rfl fun w hw0 hw1=>?_;simp only[sC,sN];refine JtL (fun m vs=>∃ (gs:List Int) (k o:Int),vs=[.l (dL gs),.i k,.i o,.l (Ja bs)]∧q≤o∧o+k≤q+10∧0≤k∧k≤3∧(m:Int)=k∧(gs.length:Int)+k=1+w∧∀z∈gs,0≤z∧z≤50) rfl (1+w).toNat
   ⟨[],1+w,q+1,?_,by omega,by omega,by omega,by omega,by omega,by simp,fun z hz=>by simp at hz⟩ ?_
  ·show [V.l [],V.i (i64.wrap (1+w)),V.i (q+1),V.l (Ja bs)]=_;rw[w64 (by omega) (by omega)];rfl
  rintro m _ ⟨gs,k,o,rfl,o1,o2,k0,k3,hm,hl,hgs⟩;simp only[sC,sN];refine Jty (0<k) rfl (fun h=>?_) (fun h=>JtA ?_)
  ·refine Je 5 (hr.go (q:=o) (by omega) (by omega)) (by omega) (by omega) rfl rfl fun x hx0 hx1=>?_;simp only[sC,sN];refine JtP (0≤x) rfl hx0 ?_;refine JtP (x<5) rfl hx1 ?_;refine JtJ (ds:=dL [0,3,9,20,50]) x rfl rfl rfl hx0 (J1 hx0 hx1) rfl ?_;have hy:0≤([0,3,9,20,50]:List Int).getD x.toNat 0∧([0,3,9,20,50]:List Int).getD x.toNat 0≤50:=by rcases (by omega:x=0∨x=1∨x=2∨x=3∨x=4) with q | q | q | q | q <;> subst q <;> decide
   generalize ([0,3,9,20,50]:List Int).getD x.toNat 0=y at *;refine JtR (dL gs) 10 (by rw[dL1];omega) (by omega) rfl ?_;refine JtK (vs:=[.l (dL (gs++[y])),.i (k-1),.i (o+1),.l (Ja bs)]) ?_ ⟨m-1,by omega,gs++[y],k-1,o+1,rfl,by omega,by omega,by omega,by omega,by omega,by simp;omega,fun z hz=>by
    rcases Jue.1 hz with q | q
    ·exact hgs z q
    ·simp only[Jur] at q;rw[q];exact hy⟩
   show [V.l (dL gs++[dI y]),V.i (i64.wrap (k-1)),V.i (o+1),V.l (Ja bs)]=_;rw[Q8,w64 (by omega) (by omega)]
  refine JtL (fun m vs=>∃ (ss:List Int) (r:Int),vs=[.l (dL ss),.i (ss.length:Int),.i r,.l (Ja bs)]∧o≤r∧r≤o+ss.length∧ss.length≤3∧m=3-ss.length∧Lim 1000 ss) rfl 3
   ⟨[],o,rfl,by omega,by simp,by simp,by simp,fun z hz=>by simp at hz⟩ ?_
  rintro m _ ⟨ss,r,rfl,r1,r2,hs3,hm3,hss⟩;simp only[sC,sN];refine Jty ((ss.length:Int)<3) rfl (fun h3=>?_) (fun h3=>JtA (Jt0 ⟨⟨1+u,as,gs,ss⟩,r,?_,by omega,by omega,ht,?_,?_,?_⟩))
  ·refine Je 6 (hr.go (q:=r) (by omega) (by omega)) (by omega) (by omega) rfl rfl fun x hx0 hx1=>?_;simp only[sC,sN];refine JtP (0≤x) rfl hx0 ?_;refine JtP (x<6) rfl hx1 ?_;refine JtJ (ds:=dL [0,5,20,60,200,-8]) x rfl rfl rfl hx0 (J1 hx0 hx1) rfl ?_;have hy : -1000≤([0,5,20,60,200,-8]:List Int).getD x.toNat 0∧([0,5,20,60,200,-8]:List Int).getD x.toNat 0≤1000:=by rcases (by omega:x=0∨x=1∨x=2∨x=3∨x=4∨x=5) with q | q | q | q | q | q <;> subst q <;> decide
   generalize ([0,5,20,60,200,-8]:List Int).getD x.toNat 0=y at *;refine JtR (dL ss) 10 (by rw[dL1];omega) (by omega) rfl ?_;refine JtK (vs:=[.l (dL (ss++[y])),.i ((ss++[y]).length:Int),.i (r+1),.l (Ja bs)]) ?_ ⟨m-1,by omega,ss++[y],r+1,rfl,by omega,by simp;omega,by simp;omega,by simp;omega,hss.snoc hy⟩;show [V.l (dL ss++[dI y]),V.i (i64.wrap ((ss.length:Int)+1)),V.i (r+1),V.l (Ja bs)]=_;rw[Q8,w64 (by omega) (by omega)];simp
  ·show [dI (i64.wrap (1+u)),D.s (Jd as),D.s (dL gs),D.s (dL ss),D.s (Ja bs),dI r]=_;rw[w64 (by omega) (by omega)];rfl
  ·show gs.length≤3;omega
  ·show ss.length=3;omega
  ·have ho :∀a∈as,Qp a=true:=fun a ha=>(hs.2 a ha).2.2;have hl4:=hs.1;unfold Jt Qr Qk;simp only[Jt9,Jum,Jr];exact⟨by omega,⟨by omega,ho⟩,Jo.2 ⟨by omega,hss⟩,⟨Qg.2 ⟨by omega,hss.mono (by omega)⟩,by omega⟩,hgs⟩
 obtain⟨ds,e1,l,q,rfl,e2⟩:=key;exact⟨l,q,e1,e2⟩
theorem JnQ (a b:List Int):dL a++dL b=dL (a++b):=by simp[dL]
theorem JeQ {bs:List Int} {p n:Int} (hr:Rdr bs p) (hf:p≤999999800000) (n1:1≤n) (n2:n≤2000000) :
  ∃ (l:Pln) (q:Int),Ev L f_k30 [.s (Ja bs),dI p,dI n] (l.cells++[.s (Ja bs),dI q])∧p≤q∧q≤p+5000∧JM l:=by
 have key : ∃ ds,Ev L f_k30 [.s (Ja bs),dI p,dI n] ds∧∃ (l:Pln) (q:Int),ds=l.cells++[.s (Ja bs),dI q]∧p≤q∧q≤p+5000∧JM l:=by
  refine Jt4 (vs:=[.l (Ja bs),.i p,.i n]) L_k30 rfl ?_;obtain⟨l,q,he,q1,q2,ha,hg,hs,_⟩:=Jem hr (by omega);have hfit:JM l:=⟨ha.fit,by omega,by omega⟩;refine JtE (vs:=[.i l.n,.l (Jd l.acts),.l (dL l.gives),.l (dL l.start),.l (Ja bs),.i q]) he rfl rfl rfl ?_;simp only[sC,sN];refine Je n (hr.go (q:=q) (by omega) (by omega)) n1 n2 rfl rfl fun u hu0 hu1=>?_;simp only[sC,sN];refine Jty (0<u) rfl (fun _=>Jt0 ⟨l,q+1,rfl,by omega,by omega,hfit⟩) (fun _=>?_);refine Je 5 (hr.go (q:=q+1) (by omega) (by omega)) (by omega) (by omega) rfl rfl fun v hv0 hv1=>?_;simp only[sC,sN];refine Jty (v=0) rfl (fun _=>?_) (fun _=>?_)
  ·refine Je 3 (hr.go (q:=q+1+1) (by omega) (by omega)) (by omega) (by omega) rfl rfl fun x hx0 hx1=>?_;simp only[sC,sN];refine JtP (0≤x) rfl hx0 ?_;refine JtP (x<3) rfl hx1 ?_;refine JtJ (ds:=dL [0,5,-1]) x rfl rfl rfl hx0 (J1 hx0 hx1) rfl ?_;exact Jt0 ⟨⟨([0,5,-1]:List Int).getD x.toNat 0,l.acts,l.gives,l.start⟩,q+1+1+1,rfl,by omega,by omega,hfit⟩
  refine Jty (v=1) rfl (fun _=>?_) (fun _=>?_)
  ·obtain⟨as,o,ea,o1,o2,hth⟩:=JeI (hr.go (q:=q+1+1) (by omega) (by omega)) (by omega) (n:=1) (by omega) (by omega);refine JtE ea rfl rfl rfl ?_;simp only[sC,sN];exact Jt0 ⟨⟨l.n,as,l.gives,l.start⟩,o,rfl,by omega,by omega,⟨hth.fit,hfit.2⟩⟩
  refine Jty (v=2) rfl (fun _=>?_) (fun _=>?_)
  ·refine Je 4 (hr.go (q:=q+1+1) (by omega) (by omega)) (by omega) (by omega) rfl rfl fun x hx0 hx1=>?_;simp only[sC,sN];refine JtP (0≤x) rfl hx0 ?_;refine JtP (x<4) rfl hx1 ?_;refine JtJ (ds:=dL [-1,51,3,3]) x rfl rfl rfl hx0 (J1 hx0 hx1) rfl ?_;generalize ([-1,51,3,3]:List Int).getD x.toNat 0=y;refine Jtv (dL (l.gives++[y,4,4])) 100 (by rw[dL1];simp;omega) (by omega) (JnQ l.gives [y,4,4]) ?_;refine Jt0 ⟨⟨l.n,l.acts,l.gives++[y,4,4],l.start⟩,q+1+1+1,?_,by omega,by omega,⟨hfit.1,by simp;omega,hfit.2.2⟩⟩;show [dI l.n,D.s (Jd l.acts),D.s (dL l.gives++dL [y,4,4]),D.s (dL l.start),D.s (Ja bs),dI (q+1+1+1)]=_;rw[JnQ];rfl
  refine Jty (v=3) rfl (fun _=>?_) (fun _=>?_)
  ·refine Je 3 (hr.go (q:=q+1+1) (by omega) (by omega)) (by omega) (by omega) rfl rfl fun x hx0 hx1=>?_;simp only[sC,sN];refine JtP (0≤x) rfl hx0 ?_;refine JtP (x<3) rfl hx1 ?_;refine JtJ (ds:=dL [1001,-1000,1000]) x rfl rfl rfl hx0 (J1 hx0 hx1) rfl ?_;generalize ([1001,-1000,1000]:List Int).getD x.toNat 0=y;obtain⟨z,hz,_⟩:=sA1 (show 0<l.start.length by omega);refine JtP ((0:Int)<((dL l.start).length:Int)) rfl (by rw[dL1];omega) ?_;refine JtY 0 (mA1 (f:=dI) hz) rfl rfl rfl rfl ?_;refine Jt0 ⟨⟨l.n,l.acts,l.gives,l.start.set 0 y⟩,q+1+1+1,?_,by omega,by omega,⟨hfit.1,hfit.2.1,by simp;omega⟩⟩;show [dI l.n,D.s (Jd l.acts),D.s (dL l.gives),D.s ((dL l.start).set (0:Int).toNat (dI y)),D.s (Ja bs),dI (q+1+1+1)]=_;rw[QH];rfl
  ·refine JtP ((2:Int)≤((dL l.start).length:Int)) rfl (by rw[dL1];omega) ?_;refine Jt0 ⟨⟨l.n,l.acts,l.gives,l.start.take 2⟩,q+1+1,?_,by omega,by omega,⟨hfit.1,hfit.2.1,by simp;omega⟩⟩;show [dI l.n,D.s (Jd l.acts),D.s (dL l.gives),D.s ((dL l.start).take (2:Int).toNat),D.s (Ja bs),dI (q+1+1)]=_;rw[show ((2:Int).toNat)=2 from rfl,VO];rfl
 obtain⟨ds,e1,l,q,rfl,e2⟩:=key;exact⟨l,q,e1,e2⟩
theorem Zi (l:List Int) (hl:l.length≤2000000):Ev L f_k5x [.s (dL l),.s (dL l)] [dB true]:=by
 have h:=Jf1 l l hl
 rwa [decide_eq_true rfl] at h
theorem JbP (l:List Don) (hl:Wj Yn l):Ev L f_k5z [.s (dDs l),.s (dDs l)] [dB true]:=by
 refine Jt7 (vs:=[.l (dDs l),.l (dDs l)]) L_k5z rfl ?_;have hl0:=hl.1;refine JtN (by show (!decide (((dDs l).length:Int)=((dDs l).length:Int)))=false;simp) ?_;refine Jtt l.length (fun i=>[.i i]) (fun _=>True) rfl rfl trivial fun i hi _=>?_;simp only[sC,sN];refine JtT i (QC l) rfl (fun h=>?_) (fun h=>JtA (Jt0 rfl));obtain⟨x,hx,hm⟩:=sA1 h;have hg:(dDs l)[i]? = some x.g:=mA1 (f:=Don.g) hx;have hco:=Jhv x.code x.code x.tells x.tells (hl.2 x hm);rw[decide_eq_true rfl,decide_eq_true rfl] at hco;refine JtY (vs:=[.i x.seq,.i x.code,.l (dL x.tells)]) i hg rfl rfl rfl rfl ?_;refine JtY (vs:=[.i x.seq,.i x.code,.l (dL x.tells)]) i hg rfl rfl rfl rfl ?_;simp only[sC,sN];refine JtN (by show (!decide (x.seq=x.seq))=false;simp) ?_;refine JtY (vs:=[.i x.seq,.i x.code,.l (dL x.tells)]) i hg rfl rfl rfl rfl ?_;refine JtY (vs:=[.i x.seq,.i x.code,.l (dL x.tells)]) i hg rfl rfl rfl rfl ?_;simp only[sC,sN];refine JtE hco rfl rfl rfl (JtN rfl ?_);exact JtK (vs:=[.i ((i+1:Nat):Int)]) (by rw[←wS h (by omega)];rfl) ⟨h,rfl,trivial⟩
theorem Jin (s:Sit) (hs:Qu s):Ev L f_k60 (s.cells++s.cells) [dB true]:=by
 refine Jt7 (vs:=[.b s.up,.b s.frozen,.i s.round,.l (dL s.base),.l (dL s.added),.l (dDs s.done),.b s.up,.b s.frozen,.i s.round,.l (dL s.base),.l (dL s.added),.l (dDs s.done)]) L_k60 rfl ?_;refine JtZ (by show (s.up == s.up)=true;simp) ?_;refine JtZ (by show (s.frozen == s.frozen)=true;simp) ?_;refine JtZ (by show decide (s.round=s.round)=true;simp) ?_;refine JtE (Zi s.base hs.1) rfl rfl rfl (JtZ rfl ?_);refine JtE (Zi s.added hs.2.1) rfl rfl rfl (JtZ rfl ?_);exact JtE (JbP s.done ⟨hs.2.2.1,hs.2.2.2⟩) rfl rfl rfl (Jt0 rfl)
theorem JdQ {n:Int} (h0:0≤n):Qi n (List.replicate n.toNat Wh)=true:=by
 unfold Qi;rw[Jt9];refine⟨by simp;omega,?_⟩;rw[Jum];intro d hd;rw[(List.mem_replicate.1 hd).2];rfl
theorem JmH (as:List (List Jg)):QL (Jb as)=true:=by
 unfold QL;rw[Jum];intro p hp;have:=(QM as).each p hp;exact Jo.2 ⟨by omega,this.2⟩
theorem Jb8 {p:Pln} (h:Jt p=true):JY p.start=true:=by
 simp only[Jt,Jt9,Jo] at h;have:=h.2.2.1;have hl:Lim 1000 p.start:=this.2;exact Qg.2 ⟨by omega,hl.mono (by omega)⟩
theorem Qm {p:Pln} (h:Jt p=true):1≤p.gives.length∧p.gives.length≤3:=by
 have:=(Qb h).2.2.2;simp only[Qr,Jt9,Jr] at this;omega
theorem JmD {p:Pln} (h:Jt p=true):JdX p (XF p)=true∧Ji9 p (XF p)=false:=by
 obtain⟨n1,n2,h3,_⟩:=Qb h;have hg:=Qm h;have hs:XF p=⟨true,0,p.start,List.replicate p.n.toNat Wh,[],List.replicate p.gives.length X5⟩:=by unfold XF;rw[if_pos h]
 have hgot :∀j,K5 p p.start (List.replicate p.gives.length X5) j=true:=fun j=>by
  unfold K5;have:(List.replicate p.gives.length X5).getD j X5=X5:=by
   rw[Juc,List.getElem?_replicate];split <;> rfl
  rw[this];rfl
 have hh:XO (List.replicate p.gives.length X5)=0:=by
  unfold XO;rw[List.length_eq_zero_iff,List.filter_eq_nil_iff];intro x hx;rw[(List.mem_replicate.1 hx).2];simp[X5]
 have hok:JdX p (XF p)=true:=by
  rw[hs];unfold JdX Zv;rw[h,Jb8 h,JdQ (by omega),Y1.2 fun j _=>hgot j];simp[inB,Q4]
 refine⟨hok,?_⟩;unfold Ji9;rw[hok,hs];show (true&&decide (XO (List.replicate p.gives.length X5)=p.gives.length))=false;rw[hh,Jut];exact decide_eq_false (by omega)
/- Worlds: sizes,copies,comparisons; which of them are ok: over residual programs. -/
structure Vj where
 call:Cal
 code:Int
 tells:List Int
 deriving DecidableEq
abbrev dSt (l:List Sit):List D:=l.map Sit.g
abbrev dCn (l:List Con):List D:=l.map Con.g
abbrev dMs (l:List Msg):List D:=l.map Msg.g
def Vj.cells (x:Vj):List D:=[dI x.call.client,dI x.call.seq,dI x.call.act,.s (dL x.call.args),dI x.code,.s (dL x.tells)]
def Vj.g (x:Vj):D:= .g x.cells
abbrev dLg (l:List Vj):List D:=l.map Vj.g
def Jk3 (x:Vj):Prop:=x.call.args.length≤2000000∧x.tells.length≤2000000
structure Wrl where
 p:Pln
 sites:List Sit
 c:Clk
 cons:List Con
 net:List Msg
 log:List Vj
def Wrl.cells (w:Wrl):List D:=w.p.cells++[.s (dSt w.sites)]++w.c.cells++[.s (dCn w.cons),.s (dMs w.net),.s (dLg w.log)]
structure JjJ (w:Wrl):Prop where
 p:JM w.p
 s:Wj Qu w.sites
 c:Up w.c
 n:Wj JjK w.cons
 m:Wj ZP w.net
 l:Wj Jk3 w.log
def XE (p:Pln) (k:Int) (x:Con):Bool:=Xf ⟨x.seq,x.code,x.tells⟩&&(if x.busy then Jk p x.call&&(decide (x.call.client=k)&&decide (x.call.seq=x.seq+1)) else Zg x.call)
theorem JgU (p:Pln) (x:Con) (k:Int) (hp:JM p) (h1:1≤p.n) (h2:p.n≤4) (hx:JjK x):Ev L f_k1l (p.cells++x.cells++[dI k]) [dB (XE p k x)]:=by
 refine Jt7 (vs:=[.i p.n,.l (Jd p.acts),.l (dL p.gives),.l (dL p.start),.i x.seq,.b x.busy,.i x.call.client,.i x.call.seq,.i x.call.act,.l (dL x.call.args),.i x.code,.l (dL x.tells),.i k]) L_k1l rfl ?_;have bad:Xf ⟨x.seq,x.code,x.tells⟩=false→[dB false]=[dB (XE p k x)]:=fun h=>by unfold XE;rw[h];rfl
 refine JtE (JP x.seq 0 300) rfl rfl rfl ?_;simp only[sC,sN];refine Jt1 (inB x.seq 0 300) rfl (fun b=>Jt0 (bad ?_)) (fun b=>?_)
 ·unfold Xf;rw[if_neg (by intro e;have e:x.seq=0:=e;rw[e] at b;simp[inB] at b)];have:inB x.seq 1 300=false:=by
   unfold inB at b ⊢;simp only[Bool.and_eq_false_iff,decide_eq_false_iff_not] at b ⊢;omega
  show (inB x.seq 1 300&&_)=false;rw[this];rfl
 have hc:Xf ⟨x.seq,x.code,x.tells⟩=if decide (x.seq=0)=decide (x.code=0) then(if x.seq=0 then decide (x.tells.length=0) else JL x.code x.tells) else false:=JbX (d:=⟨x.seq,x.code,x.tells⟩) b;have hsq:0≤x.seq∧x.seq≤300:=by unfold inB at b;simp only[Jt9,decide_eq_true_eq] at b;exact b
 refine Jt1 (decide (x.seq=0) == decide (x.code=0)) rfl (fun e=>Jt0 (bad (by rw[hc,if_neg (by simpa using e)]))) (fun e=>?_);rw[if_pos (by simpa using e)] at hc;have hv:Xf ⟨x.seq,x.code,x.tells⟩=true→XE p k x=(if x.busy then Jk p x.call&&(decide (x.call.client=k)&&decide (x.call.seq=x.seq+1)) else Zg x.call):=fun h=>by unfold XE;rw[h];rfl
 refine Jty (x.seq=0) rfl (fun h0=>?_) (fun h0=>?_)
 ·rw[if_pos h0] at hc;refine Jty (0<((dL x.tells).length:Int)) rfl (fun ht=>Jt0 (bad ?_)) (fun ht=>?_)
  ·rw[dL1] at ht;rw[hc];exact decide_eq_false (by omega)
  have hv:=hv (by rw[dL1] at ht;rw[hc];exact decide_eq_true (by omega));refine JtN (by show decide ((0:Int)<x.seq)=false;rw[h0];rfl) ?_;refine Jt1 x.busy rfl (fun u=>?_) (fun u=>?_)
  ·have hv2:XE p k x=Zg x.call:=by rw[hv,u];rfl
   rw[hv2];refine Jty (x.call.client=0) rfl (fun a=>?_) (fun a=>Jt0 (by show [dB false]=_;simp[Zg,a]));refine Jty (x.call.seq=0) rfl (fun b=>?_) (fun b=>Jt0 (by show [dB false]=_;simp[Zg,b]));refine Jty (x.call.act=0) rfl (fun d=>Jt0 ?_) (fun d=>Jt0 (by show [dB false]=_;simp[Zg,d]));show [dB (decide (((dL x.call.args).length:Int)=0))]=_;rw[UC _ (dL1 _)];simp[Zg,a,b,d]
  ·have hv2:XE p k x=(Jk p x.call&&(decide (x.call.client=k)&&decide (x.call.seq=x.seq+1))):=by rw[hv,u];rfl
   rw[hv2];refine JtE (Y3 p x.call hp h1 h2 hx.1) rfl rfl rfl ?_;simp only[sC,sN];refine JtG (Jk p x.call) rfl (fun a=>?_) (fun a=>Jt0 (by show [dB false]=_;rw[a];rfl));refine Jty (x.call.client=k) rfl (fun b=>Jt0 ?_) (fun b=>Jt0 (by show [dB false]=_;simp[b]));show [dB (decide (x.call.seq=i64.wrap (x.seq+1)))]=_;rw[w64 (by omega) (by omega),a,decide_eq_true b];rfl
 ·rw[if_neg h0] at hc;refine JtZ (by show decide ((0:Int)<x.seq)=true;simp;omega) ?_;refine JtE (Jbc x.code x.tells hx.2) rfl rfl rfl ?_;simp only[sC,sN];refine Jt1 (JL x.code x.tells) rfl (fun e=>Jt0 (bad (by rw[hc,e]))) (fun e=>?_);have hv:=hv (by rw[hc,e]);refine Jt1 x.busy rfl (fun u=>?_) (fun u=>?_)
  ·have hv2:XE p k x=Zg x.call:=by rw[hv,u];rfl
   rw[hv2];refine Jty (x.call.client=0) rfl (fun a=>?_) (fun a=>Jt0 (by show [dB false]=_;simp[Zg,a]));refine Jty (x.call.seq=0) rfl (fun b=>?_) (fun b=>Jt0 (by show [dB false]=_;simp[Zg,b]));refine Jty (x.call.act=0) rfl (fun d=>Jt0 ?_) (fun d=>Jt0 (by show [dB false]=_;simp[Zg,d]));show [dB (decide (((dL x.call.args).length:Int)=0))]=_;rw[UC _ (dL1 _)];simp[Zg,a,b,d]
  ·have hv2:XE p k x=(Jk p x.call&&(decide (x.call.client=k)&&decide (x.call.seq=x.seq+1))):=by rw[hv,u];rfl
   rw[hv2];refine JtE (Y3 p x.call hp h1 h2 hx.1) rfl rfl rfl ?_;simp only[sC,sN];refine JtG (Jk p x.call) rfl (fun a=>?_) (fun a=>Jt0 (by show [dB false]=_;rw[a];rfl));refine Jty (x.call.client=k) rfl (fun b=>Jt0 ?_) (fun b=>Jt0 (by show [dB false]=_;simp[b]));show [dB (decide (x.call.seq=i64.wrap (x.seq+1)))]=_;rw[w64 (by omega) (by omega),a,decide_eq_true b];rfl
def YH (p:Pln) (x:Vj):Bool:=Jk p x.call&&JL x.code x.tells
def Jeq (p:Pln) (l:List Vj):Bool:=decide (l.length≤100)&&l.all (YH p)
theorem JlX (p:Pln) (l:List Vj) (hp:JM p) (h1:1≤p.n) (h2:p.n≤4) (hl:Wj Jk3 l):Ev L f_k1d (p.cells++[.s (dLg l)]) [dB (Jeq p l)]:=by
 refine Jt7 (vs:=[.i p.n,.l (Jd p.acts),.l (dL p.gives),.l (dL p.start),.l (dLg l)]) L_k1d rfl ?_;have hlen:(dLg l).length=l.length:=by simp[dLg]
 have hl0:=hl.1;refine Jty ((100:Int)<(l.length:Int)) (by show decide ((100:Int)<((dLg l).length:Int))=_;rw[hlen]) (fun h=>Jt0 (by show [dB false]=_;unfold Jeq;rw[decide_eq_false (by omega)];rfl)) (fun h=>?_);have hv:Jeq p l=l.all (YH p):=by unfold Jeq;rw[decide_eq_true (by omega),Jut]
 rw[hv];refine Jtt l.length (fun i=>[.i i]) (fun i=>((l.take i).all (YH p))=true) rfl rfl rfl fun i hi hq=>?_;simp only[sC,sN];refine JtT i hlen rfl (fun h'=>?_) (fun h'=>JtA (Jt0 ?_))
 ·obtain⟨x,hx,hm⟩:=sA1 h';have hf:=hl.2 x hm;have bad:YH p x=false→[dB false]=[dB (l.all (YH p))]:=fun hb=>by
   have:l.all (YH p)=false:=by rw[←List.take_append_drop i l,List.all_append,Xx hx];simp[hb]
   rw[this]
  have good:YH p x=true→((l.take (i+1)).all (YH p))=true:=fun hb=>by rw[tS1 hx,List.all_append,hq];simp[hb]
  refine JtY (vs:=[.i x.call.client,.i x.call.seq,.i x.call.act,.l (dL x.call.args),.i x.code,.l (dL x.tells)]) i (mA1 (f:=Vj.g) hx) rfl rfl rfl rfl ?_;simp only[sC,sN];refine JtE (Y3 p x.call hp h1 h2 hf.1) rfl rfl rfl ?_;simp only[sC,sN];refine Jt1 (Jk p x.call) rfl (fun a=>JtA (Jt0 (bad (by unfold YH;rw[a];rfl)))) (fun a=>?_);refine JtY (vs:=[.i x.call.client,.i x.call.seq,.i x.call.act,.l (dL x.call.args),.i x.code,.l (dL x.tells)]) i (mA1 (f:=Vj.g) hx) rfl rfl rfl rfl ?_;simp only[sC,sN];refine JtE (Jbc x.code x.tells hf.2) rfl rfl rfl ?_;simp only[sC,sN];exact Jt1 (JL x.code x.tells) rfl (fun b=>JtA (Jt0 (bad (by unfold YH;rw[a,b];rfl)))) (fun b=>JtK (vs:=[.i ((i+1:Nat):Int)]) (by rw[←wS h' (by omega)];rfl) ⟨h',rfl,good (by unfold YH;rw[a,b];rfl)⟩)
 ·show [dB true]=_;rw[tA1 h'] at hq;rw[hq]
def JmA:Con:=⟨0,false,⟨0,0,0,[]⟩,0,[]⟩
def JmJ:Sit:=⟨false,false,0,[],[],[]⟩
def Vl (w:Wrl):Bool:=decide (w.sites.length=w.p.gives.length)&&(decide ((w.cons.length:Int)=w.p.n)&&(decide (w.net.length≤30)&&(Jeq w.p w.log &&
 (Q4 w.sites.length (fun j=>JW w.p (w.sites.getD j JmJ) j)&&(Q4 w.cons.length (fun j=>XE w.p j (w.cons.getD j JmA))&&(w.net.all (JV w.p)&&Zv w.p w.c))))))
theorem JoO (w:Wrl) (hf:JjJ w) (h1:1≤w.p.n) (h2:w.p.n≤4) (hc:Qk w.p.acts=true):Ev L f_k1s (w.cells++[.s (dLL (Jb w.p.acts)),.s (dBl (Jh w.p.acts))]) [dB (Vl w)]:=by
 refine Jt7 (vs:=[.i w.p.n,.l (Jd w.p.acts),.l (dL w.p.gives),.l (dL w.p.start),.l (dSt w.sites),.b w.c.up,.i w.c.round,.l (dL w.c.base),.l (dDs w.c.done),.l (dCs w.c.wants),.l (dGs w.c.got),.l (dCn w.cons),.l (dMs w.net),.l (dLg w.log),.l (dLL (Jb w.p.acts)),.l (dBl (Jh w.p.acts))]) L_k1s rfl ?_;obtain⟨fp,fs,fc,fn,fm,fl⟩:=hf;have s0:=fs.1;have n0:=fn.1;have m0:=fm.1;refine Jt1 (decide (w.sites.length=w.p.gives.length)) (by show (!decide (((dSt w.sites).length:Int)=((dL w.p.gives).length:Int)))=_;rw[dL1,show (dSt w.sites).length=w.sites.length from Jui ..];simp[Int.ofNat_inj]) (fun b=>Jt0 (by show [dB false]=_;unfold Vl;rw[b];simp)) (fun a1=>?_);refine Jt1 (decide ((w.cons.length:Int)=w.p.n)) (by show (!decide (((dCn w.cons).length:Int)=w.p.n))=_;rw[show (dCn w.cons).length=w.cons.length from Jui ..]) (fun b=>Jt0 (by show [dB false]=_;unfold Vl;rw[b];simp)) (fun a2=>?_);refine Jty ((30:Int)<(w.net.length:Int)) (by show decide ((30:Int)<((dMs w.net).length:Int))=_;rw[show (dMs w.net).length=w.net.length from Jui ..]) (fun h=>Jt0 (by show [dB false]=_;unfold Vl;rw[decide_eq_false (show ¬w.net.length≤30 by omega)];simp)) (fun h30=>?_);refine JtE (JlX w.p w.log fp h1 h2 fl) rfl rfl rfl ?_;simp only[sC,sN];refine Jt1 (Jeq w.p w.log) rfl (fun b=>Jt0 (by show [dB false]=_;unfold Vl;rw[b];simp)) (fun a3=>?_);have e:Vl w=(Q4 w.sites.length (fun j=>JW w.p (w.sites.getD j JmJ) j)&&(Q4 w.cons.length (fun j=>XE w.p j (w.cons.getD j JmA))&&(w.net.all (JV w.p)&&Zv w.p w.c))):=by unfold Vl;rw[a1,a2,a3,decide_eq_true (show w.net.length≤30 by omega)];simp only[Jut]
 rw[e];refine Jtt w.sites.length (fun i=>[.i i]) (fun i=>Q4 i (fun j=>JW w.p (w.sites.getD j JmJ) j)=true) rfl rfl rfl fun i hi hq=>?_;simp only[sC,sN];refine JtT i (Jui (f:=Sit.g) (as:=w.sites)) rfl (fun h'=>?_) (fun h'=>JtA ?_)
 ·obtain⟨x,hx,hm⟩:=sA1 h';have hfi:JW w.p (w.sites.getD i JmJ) i=JW w.p x i:=by rw[QA hx]
  have bad:JW w.p x i=false→∀B:Bool,[dB false]=[dB (Q4 w.sites.length (fun j=>JW w.p (w.sites.getD j JmJ) j)&&B)]:=fun h B=>by rw[Jag h' (hfi.trans h)];rfl
  have good:JW w.p x i=true→Q4 (i+1) (fun j=>JW w.p (w.sites.getD j JmJ) j)=true:=fun h=>by rw[Uw,hq,hfi,h];rfl
  refine JtY (vs:=[.b x.up,.b x.frozen,.i x.round,.l (dL x.base),.l (dL x.added),.l (dDs x.done)]) i (mA1 (f:=Sit.g) hx) rfl rfl rfl rfl ?_;simp only[sC,sN];refine JtE (JkV w.p x i fp (fs.2 x hm) hc) rfl rfl rfl ?_;simp only[sC,sN];exact Jt1 (JW w.p x i) rfl (fun e=>JtA (Jt0 (bad e _))) (fun e=>JtK (vs:=[.i ((i+1:Nat):Int)]) (by rw[←wS h' (by omega)];rfl) ⟨h',rfl,good e⟩)
 rw[show i=w.sites.length by omega] at hq;rw[hq,Jut];clear hq h' hi;refine Jtt w.cons.length (fun i=>[.i i]) (fun i=>Q4 i (fun j=>XE w.p j (w.cons.getD j JmA))=true) rfl rfl rfl fun i hi hq=>?_;simp only[sC,sN];refine JtT i (Jui (f:=Con.g) (as:=w.cons)) rfl (fun h'=>?_) (fun h'=>JtA ?_)
 ·obtain⟨x,hx,hm⟩:=sA1 h';have hfi:XE w.p i (w.cons.getD i JmA)=XE w.p i x:=by rw[QA hx]
  have bad:XE w.p i x=false→∀B:Bool,[dB false]=[dB (Q4 w.cons.length (fun j=>XE w.p j (w.cons.getD j JmA))&&B)]:=fun h B=>by rw[Jag h' (hfi.trans h)];rfl
  have good:XE w.p i x=true→Q4 (i+1) (fun j=>XE w.p j (w.cons.getD j JmA))=true:=fun h=>by rw[Uw,hq,hfi,h];rfl
  refine JtY (vs:=[.i x.seq,.b x.busy,.i x.call.client,.i x.call.seq,.i x.call.act,.l (dL x.call.args),.i x.code,.l (dL x.tells)]) i (mA1 (f:=Con.g) hx) rfl rfl rfl rfl ?_;simp only[sC,sN];refine JtE (JgU w.p x i fp h1 h2 (fn.2 x hm)) rfl rfl rfl ?_;simp only[sC,sN];exact Jt1 (XE w.p i x) rfl (fun e=>JtA (Jt0 (bad e _))) (fun e=>JtK (vs:=[.i ((i+1:Nat):Int)]) (by rw[←wS h' (by omega)];rfl) ⟨h',rfl,good e⟩)
 rw[show i=w.cons.length by omega] at hq;rw[hq,Jut];clear hq h' hi;refine Jtt w.net.length (fun i=>[.i i]) (fun i=>((w.net.take i).all (JV w.p))=true) rfl rfl rfl fun i hi hq=>?_;simp only[sC,sN];refine JtT i (Jui (f:=Msg.g) (as:=w.net)) rfl (fun h'=>?_) (fun h'=>JtA ?_)
 ·obtain⟨x,hx,hm⟩:=sA1 h';have bad:JV w.p x=false→[dB false]=[dB (w.net.all (JV w.p)&&Zv w.p w.c)]:=fun hb=>by
   have:w.net.all (JV w.p)=false:=by rw[←List.take_append_drop i w.net,List.all_append,Xx hx];simp[hb]
   rw[this];rfl
  have good:JV w.p x=true→((w.net.take (i+1)).all (JV w.p))=true:=fun hb=>by rw[tS1 hx,List.all_append,hq];simp[hb]
  refine JtY (vs:=[.i x.kind,.i x.to,.i x.frm,.i x.round,.i x.call.client,.i x.call.seq,.i x.call.act,.l (dL x.call.args),.l (dL x.vals),.l (dL x.seqs),.l (dDs x.done)]) i (mA1 (f:=Msg.g) hx) rfl rfl rfl rfl ?_;simp only[sC,sN];refine JtE (Jpr w.p x fp h1 h2 (fm.2 x hm)) rfl rfl rfl ?_;simp only[sC,sN];exact Jt1 (JV w.p x) rfl (fun e=>JtA (Jt0 (bad e))) (fun e=>JtK (vs:=[.i ((i+1:Nat):Int)]) (by rw[←wS h' (by omega)];rfl) ⟨h',rfl,good e⟩)
 rw[tA1 h'] at hq;rw[hq,Jut];exact JtE (JpP w.p w.c fp fc h1 h2 hc) rfl rfl rfl (Jt0 rfl)
/- Marks,and what is held,of lists of messages: over residual programs. Printed by wip/tools/pzz.py. -/
def Msg.w (x:Msg):Nat:=7+x.call.args.length+x.vals.length+x.seqs.length+wts Don.w x.done
/- The program's ClkFall answers as the reference's: over residual programs. -/
theorem JZ (x:Cal) (h:x.args.length≤2000000):Ev L f_k1v x.cells x.cells:=by
 refine Jt7 (vs:=[.i x.client,.i x.seq,.i x.act,.l (dL x.args)]) L_k1v rfl ?_;refine Jtv (dL x.args) 2000000 (by rw[dL1];omega) (by omega) rfl ?_;refine JtH (JS x.args) ?_;exact Jtv (dL x.args) 2000000 (by rw[dL1];omega) (by omega) rfl (Jt0 rfl)
theorem Wl (x:Cal) (h:x.args.length≤2000000):Ev L f_k5r x.cells x.cells :=
 Jt7 (vs:=[.i x.client,.i x.seq,.i x.act,.l (dL x.args)]) L_k5r rfl (JtE (vs:=[.l (dL x.args)]) (X6 x.args h) rfl rfl rfl (Jt0 rfl))
theorem VZ (c:Clk) (hc:Up c):Ev L f_k1w c.cells c.cells:=by
 refine Jt7 (vs:=[.b c.up,.i c.round,.l (dL c.base),.l (dDs c.done),.l (dCs c.wants),.l (dGs c.got)]) L_k1w rfl ?_;have h1:=hc.b;have h2:=hc.c;have h3:=hc.g;refine Jtv (dL c.base) 2000000 (by rw[dL1];omega) (by omega) rfl ?_;refine JtH (JS c.base) ?_;refine Jtv (dL c.base) 2000000 (by rw[dL1];omega) (by omega) rfl ?_;refine JtE (vs:=[.l (dDs c.done)]) (Ze c.done ⟨hc.d,hc.dt⟩) rfl rfl rfl ?_;simp only[sC,sN];refine Jtt c.wants.length (fun i=>[.l (dCs (c.wants.take i)),.i i]) (fun _=>True) rfl rfl trivial fun i hi _=>?_;simp only[sC,sN];refine JtT i (Yj c.wants) rfl (fun h=>?_) (fun h=>JtA ?_)
 ·obtain⟨x,hx,hm⟩:=sA1 h;refine JtY (vs:=[.i x.client,.i x.seq,.i x.act,.l (dL x.args)]) i (mA1 (f:=Cal.g) hx) rfl rfl rfl rfl ?_;simp only[sC,sN];refine JtE (vs:=[.i x.client,.i x.seq,.i x.act,.l (dL x.args)]) (JZ x (hc.ct x hm)) rfl rfl rfl ?_;simp only[sC,sN];refine JtR (dCs (c.wants.take i)) 2000000 (by rw[Yj,Juo];omega) (by omega) rfl ?_;refine JtK (vs:=[.l (dCs (c.wants.take (i+1))),.i ((i+1:Nat):Int)]) ?_ ⟨h,rfl,trivial⟩;show [V.l (dCs (c.wants.take i)++[x.g]),V.i (i64.wrap ((i:Int)+1))]=_;rw[wS h (by omega),tS1 hx];simp only[dCs,List.map_append,Juh,List.map_nil]
 rw[tA1 h];refine Jtt c.got.length (fun i=>[.l (dGs (c.got.take i)),.i i]) (fun _=>True) rfl rfl trivial fun j hj _=>?_;simp only[sC,sN];refine JtT j (Ur c.got) rfl (fun h=>?_) (fun h=>JtA (Jt0 ?_))
 ·obtain⟨x,hx,hm⟩:=sA1 h;have hg:(dGs c.got)[j]? = some x.g:=mA1 (f:=Got.g) hx;have hx1:=hc.gt x hm;have ha:(dL x.added).length≤2000000:=by rw[dL1];exact hx1.1
  have hs:(dL x.seqs).length≤2000000:=by rw[dL1];exact hx1.2
  refine JtY (vs:=[.b x.has,.l (dL x.added),.l (dL x.seqs)]) j hg rfl rfl rfl rfl ?_;simp only[sC,sN];refine JtY (vs:=[.b x.has,.l (dL x.added),.l (dL x.seqs)]) j hg rfl rfl rfl rfl ?_;simp only[sC,sN];refine Jtv (dL x.added) 2000000 ha (by omega) rfl ?_;refine JtH (JS x.added) ?_;refine Jtv (dL x.added) 2000000 ha (by omega) rfl ?_;refine JtY (vs:=[.b x.has,.l (dL x.added),.l (dL x.seqs)]) j hg rfl rfl rfl rfl ?_;simp only[sC,sN];refine Jtv (dL x.seqs) 2000000 hs (by omega) rfl ?_;refine JtH (JS x.seqs) ?_;refine Jtv (dL x.seqs) 2000000 hs (by omega) rfl ?_;refine JtR (dGs (c.got.take j)) 2000000 (by rw[Ur,Juo];omega) (by omega) rfl ?_;refine JtK (vs:=[.l (dGs (c.got.take (j+1))),.i ((j+1:Nat):Int)]) ?_ ⟨h,rfl,trivial⟩;show [V.l (dGs (c.got.take j)++[x.g]),V.i (i64.wrap ((j:Int)+1))]=_;rw[wS h (by omega),tS1 hx];simp only[dGs,List.map_append,Juh,List.map_nil]
 ·rw[tA1 h];rfl
def Ky (c:Clk) (u:Bool):Clk:=if c.up=u then c else ⟨u,c.round,c.base,c.done,[],List.replicate c.got.length X5⟩
theorem Jmu (p:Pln) (c:Clk) (u:Bool) (hp:JM p) (hc:Up c) (hl:c.got.length=p.gives.length):Ev L f_k2s (p.cells++c.cells++[dB u]) (Ky c u).cells:=by
 refine Jt7 (vs:=[.i p.n,.l (Jd p.acts),.l (dL p.gives),.l (dL p.start),.b c.up,.i c.round,.l (dL c.base),.l (dDs c.done),.l (dCs c.wants),.l (dGs c.got),.b u]) L_k2s rfl ?_;refine JtE (vs:=[.b c.up,.i c.round,.l (dL c.base),.l (dDs c.done),.l (dCs c.wants),.l (dGs c.got)]) (VZ c hc) rfl rfl rfl ?_;simp only[sC,sN];refine Jt1 (u == c.up) rfl (fun h=>?_) (fun h=>Jt0 ?_)
 ·refine JtE (Jby p hp.2.1) rfl rfl rfl (Jt0 ?_);have h : ¬c.up=u:=fun e=>by rw[e] at h;simp at h
  show _=(Ky c u).cells;unfold Ky;rw[if_neg h,hl];rfl
 ·have h:u=c.up:=by simpa using h
  show _=(Ky c u).cells;unfold Ky;rw[if_pos h.symm,h];rfl
end Go.Proofs.YtngcnclchcahlaaGreatDoor

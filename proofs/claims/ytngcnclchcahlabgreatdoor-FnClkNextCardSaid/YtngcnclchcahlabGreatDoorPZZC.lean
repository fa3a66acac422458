import Derived.Test.YtngcnclchcahlabGreatDoorPZX
import Derived.Test.YtngcnclchcahlabGreatDoorPZP
import Derived.Test.YtngcnclchcahlabGreatDoorPZU
set_option linter.unusedVariables false
set_option linter.unusedSimpArgs false
/- Worlds: sizes,copies,comparisons; which of them are ok: over residual programs. -/
namespace Go.Proofs.YtngcnclchcahlabGreatDoor
open Go Go.Tm
open Go.IntKind (i64)
structure VL where
 call:Cal
 code:Int
 tells:List Int
 deriving DecidableEq
abbrev dSt (l:List Sit):List D:=l.map Sit.g
abbrev dCn (l:List Con):List D:=l.map Con.g
abbrev dMs (l:List Msg):List D:=l.map Msg.g
def VL.cells (x:VL):List D:=[dI x.call.client,dI x.call.seq,dI x.call.act,.s (dL x.call.args),dI x.code,.s (dL x.tells)]
def VL.g (x:VL):D:= .g x.cells
abbrev dLg (l:List VL):List D:=l.map VL.g
def JlK (x:VL):Prop:=x.call.args.length≤2000000∧x.tells.length≤2000000
structure Wrl where
 p:Pln
 sites:List Sit
 c:Clk
 cons:List Con
 net:List Msg
 log:List VL
def Wrl.cells (w:Wrl):List D:=w.p.cells++[.s (dSt w.sites)]++w.c.cells++[.s (dCn w.cons),.s (dMs w.net),.s (dLg w.log)]
structure Jj7 (w:Wrl):Prop where
 p:JY w.p
 s:Wq KN w.sites
 c:QP w.c
 n:Wq JjJ w.cons
 m:Wq Vn w.net
 l:Wq JlK w.log
def XT (p:Pln) (k:Int) (x:Con):Bool:=Xq ⟨x.seq,x.code,x.tells⟩&&(if x.busy then Jm p x.call&&(decide (x.call.client=k)&&decide (x.call.seq=x.seq+1)) else Zs x.call)
theorem JgT (p:Pln) (x:Con) (k:Int) (hp:JY p) (h1:1≤p.n) (h2:p.n≤4) (hx:JjJ x):Ev L f_k1l (p.cells++x.cells++[dI k]) [dB (XT p k x)]:=by
 refine JuV (vs:=[.i p.n,.l (Jd p.acts),.l (dL p.gives),.l (dL p.start),.i x.seq,.b x.busy,.i x.call.client,.i x.call.seq,.i x.call.act,.l (dL x.call.args),.i x.code,.l (dL x.tells),.i k]) L_k1l rfl ?_;have bad:Xq ⟨x.seq,x.code,x.tells⟩=false→[dB false]=[dB (XT p k x)]:=fun h=>by unfold XT;rw[h];rfl
 refine Jup (JT x.seq 0 300) rfl rfl rfl ?_;simp only[sC,sN];refine JuL (inB x.seq 0 300) rfl (fun b=>Jun (bad ?_)) (fun b=>?_)
 ·unfold Xq;rw[if_neg (by intro e;have e:x.seq=0:=e;rw[e] at b;simp[inB] at b)];have:inB x.seq 1 300=false:=by
   unfold inB at b ⊢;simp only[Bool.and_eq_false_iff,decide_eq_false_iff_not] at b ⊢;omega
  show (inB x.seq 1 300&&_)=false;rw[this];rfl
 have hc:Xq ⟨x.seq,x.code,x.tells⟩=if decide (x.seq=0)=decide (x.code=0) then(if x.seq=0 then decide (x.tells.length=0) else JO x.code x.tells) else false:=Jci (d:=⟨x.seq,x.code,x.tells⟩) b;have hsq:0≤x.seq∧x.seq≤300:=by unfold inB at b;simp only[Ju0,decide_eq_true_eq] at b;exact b
 refine JuL (decide (x.seq=0) == decide (x.code=0)) rfl (fun e=>Jun (bad (by rw[hc,if_neg (by simpa using e)]))) (fun e=>?_);rw[if_pos (by simpa using e)] at hc;have hv:Xq ⟨x.seq,x.code,x.tells⟩=true→XT p k x=(if x.busy then Jm p x.call&&(decide (x.call.client=k)&&decide (x.call.seq=x.seq+1)) else Zs x.call):=fun h=>by unfold XT;rw[h];rfl
 refine JuB (x.seq=0) rfl (fun h0=>?_) (fun h0=>?_)
 ·rw[if_pos h0] at hc;refine JuB (0<((dL x.tells).length:Int)) rfl (fun ht=>Jun (bad ?_)) (fun ht=>?_)
  ·rw[dL1] at ht;rw[hc];exact decide_eq_false (by omega)
  have hv:=hv (by rw[dL1] at ht;rw[hc];exact decide_eq_true (by omega));refine JuN (by show decide ((0:Int)<x.seq)=false;rw[h0];rfl) ?_;refine JuL x.busy rfl (fun u=>?_) (fun u=>?_)
  ·have hv2:XT p k x=Zs x.call:=by rw[hv,u];rfl
   rw[hv2];refine JuB (x.call.client=0) rfl (fun a=>?_) (fun a=>Jun (by show [dB false]=_;simp[Zs,a]));refine JuB (x.call.seq=0) rfl (fun b=>?_) (fun b=>Jun (by show [dB false]=_;simp[Zs,b]));refine JuB (x.call.act=0) rfl (fun d=>Jun ?_) (fun d=>Jun (by show [dB false]=_;simp[Zs,d]));show [dB (decide (((dL x.call.args).length:Int)=0))]=_;rw[Kb _ (dL1 _)];simp[Zs,a,b,d]
  ·have hv2:XT p k x=(Jm p x.call&&(decide (x.call.client=k)&&decide (x.call.seq=x.seq+1))):=by rw[hv,u];rfl
   rw[hv2];refine Jup (Qu p x.call hp h1 h2 hx.1) rfl rfl rfl ?_;simp only[sC,sN];refine JuU (Jm p x.call) rfl (fun a=>?_) (fun a=>Jun (by show [dB false]=_;rw[a];rfl));refine JuB (x.call.client=k) rfl (fun b=>Jun ?_) (fun b=>Jun (by show [dB false]=_;simp[b]));show [dB (decide (x.call.seq=i64.wrap (x.seq+1)))]=_;rw[w64 (by omega) (by omega),a,decide_eq_true b];rfl
 ·rw[if_neg h0] at hc;refine JuK (by show decide ((0:Int)<x.seq)=true;simp;omega) ?_;refine Jup (Ja9 x.code x.tells hx.2) rfl rfl rfl ?_;simp only[sC,sN];refine JuL (JO x.code x.tells) rfl (fun e=>Jun (bad (by rw[hc,e]))) (fun e=>?_);have hv:=hv (by rw[hc,e]);refine JuL x.busy rfl (fun u=>?_) (fun u=>?_)
  ·have hv2:XT p k x=Zs x.call:=by rw[hv,u];rfl
   rw[hv2];refine JuB (x.call.client=0) rfl (fun a=>?_) (fun a=>Jun (by show [dB false]=_;simp[Zs,a]));refine JuB (x.call.seq=0) rfl (fun b=>?_) (fun b=>Jun (by show [dB false]=_;simp[Zs,b]));refine JuB (x.call.act=0) rfl (fun d=>Jun ?_) (fun d=>Jun (by show [dB false]=_;simp[Zs,d]));show [dB (decide (((dL x.call.args).length:Int)=0))]=_;rw[Kb _ (dL1 _)];simp[Zs,a,b,d]
  ·have hv2:XT p k x=(Jm p x.call&&(decide (x.call.client=k)&&decide (x.call.seq=x.seq+1))):=by rw[hv,u];rfl
   rw[hv2];refine Jup (Qu p x.call hp h1 h2 hx.1) rfl rfl rfl ?_;simp only[sC,sN];refine JuU (Jm p x.call) rfl (fun a=>?_) (fun a=>Jun (by show [dB false]=_;rw[a];rfl));refine JuB (x.call.client=k) rfl (fun b=>Jun ?_) (fun b=>Jun (by show [dB false]=_;simp[b]));show [dB (decide (x.call.seq=i64.wrap (x.seq+1)))]=_;rw[w64 (by omega) (by omega),a,decide_eq_true b];rfl
def YV (p:Pln) (x:VL):Bool:=Jm p x.call&&JO x.code x.tells
def Jdp (p:Pln) (l:List VL):Bool:=decide (l.length≤100)&&l.all (YV p)
theorem Jmn (p:Pln) (l:List VL) (hp:JY p) (h1:1≤p.n) (h2:p.n≤4) (hl:Wq JlK l):Ev L f_k1d (p.cells++[.s (dLg l)]) [dB (Jdp p l)]:=by
 refine JuV (vs:=[.i p.n,.l (Jd p.acts),.l (dL p.gives),.l (dL p.start),.l (dLg l)]) L_k1d rfl ?_;have hlen:(dLg l).length=l.length:=by simp[dLg]
 have hl0:=hl.1;refine JuB ((100:Int)<(l.length:Int)) (by show decide ((100:Int)<((dLg l).length:Int))=_;rw[hlen]) (fun h=>Jun (by show [dB false]=_;unfold Jdp;rw[decide_eq_false (by omega)];rfl)) (fun h=>?_);have hv:Jdp p l=l.all (YV p):=by unfold Jdp;rw[decide_eq_true (by omega),Jvk]
 rw[hv];refine Juu l.length (fun i=>[.i i]) (fun i=>((l.take i).all (YV p))=true) rfl rfl rfl fun i hi hq=>?_;simp only[sC,sN];refine JuG i hlen rfl (fun h'=>?_) (fun h'=>Juk (Jun ?_))
 ·obtain⟨x,hx,hm⟩:=sA1 h';have hf:=hl.2 x hm;have bad:YV p x=false→[dB false]=[dB (l.all (YV p))]:=fun hb=>by
   have:l.all (YV p)=false:=by rw[←List.take_append_drop i l,List.all_append,Xw hx];simp[hb]
   rw[this]
  have good:YV p x=true→((l.take (i+1)).all (YV p))=true:=fun hb=>by rw[tS1 hx,List.all_append,hq];simp[hb]
  refine JuF (vs:=[.i x.call.client,.i x.call.seq,.i x.call.act,.l (dL x.call.args),.i x.code,.l (dL x.tells)]) i (mA1 (f:=VL.g) hx) rfl rfl rfl rfl ?_;simp only[sC,sN];refine Jup (Qu p x.call hp h1 h2 hf.1) rfl rfl rfl ?_;simp only[sC,sN];refine JuL (Jm p x.call) rfl (fun a=>Juk (Jun (bad (by unfold YV;rw[a];rfl)))) (fun a=>?_);refine JuF (vs:=[.i x.call.client,.i x.call.seq,.i x.call.act,.l (dL x.call.args),.i x.code,.l (dL x.tells)]) i (mA1 (f:=VL.g) hx) rfl rfl rfl rfl ?_;simp only[sC,sN];refine Jup (Ja9 x.code x.tells hf.2) rfl rfl rfl ?_;simp only[sC,sN];exact JuL (JO x.code x.tells) rfl (fun b=>Juk (Jun (bad (by unfold YV;rw[a,b];rfl)))) (fun b=>JuC (vs:=[.i ((i+1:Nat):Int)]) (by rw[←wS h' (by omega)];rfl) ⟨h',rfl,good (by unfold YV;rw[a,b];rfl)⟩)
 ·show [dB true]=_;rw[tA1 h'] at hq;rw[hq]
def Jnc:Con:=⟨0,false,⟨0,0,0,[]⟩,0,[]⟩
def JmO:Sit:=⟨false,false,0,[],[],[]⟩
def U5 (w:Wrl):Bool:=decide (w.sites.length=w.p.gives.length)&&(decide ((w.cons.length:Int)=w.p.n)&&(decide (w.net.length≤30)&&(Jdp w.p w.log &&
 (JU w.sites.length (fun j=>QZ w.p (w.sites.getD j JmO) j)&&(JU w.cons.length (fun j=>XT w.p j (w.cons.getD j Jnc))&&(w.net.all (J0 w.p)&&Yn w.p w.c))))))
theorem Jpk (w:Wrl) (hf:Jj7 w) (h1:1≤w.p.n) (h2:w.p.n≤4) (hc:Qx w.p.acts=true):Ev L f_k1s (w.cells++[.s (dLL (Jb w.p.acts)),.s (dBl (Jj w.p.acts))]) [dB (U5 w)]:=by
 refine JuV (vs:=[.i w.p.n,.l (Jd w.p.acts),.l (dL w.p.gives),.l (dL w.p.start),.l (dSt w.sites),.b w.c.up,.i w.c.round,.l (dL w.c.base),.l (dDs w.c.done),.l (dCs w.c.wants),.l (dGs w.c.got),.l (dCn w.cons),.l (dMs w.net),.l (dLg w.log),.l (dLL (Jb w.p.acts)),.l (dBl (Jj w.p.acts))]) L_k1s rfl ?_;obtain⟨fp,fs,fc,fn,fm,fl⟩:=hf;have s0:=fs.1;have n0:=fn.1;have m0:=fm.1;refine JuL (decide (w.sites.length=w.p.gives.length)) (by show (!decide (((dSt w.sites).length:Int)=((dL w.p.gives).length:Int)))=_;rw[dL1,show (dSt w.sites).length=w.sites.length from Ju9 ..];simp[Int.ofNat_inj]) (fun b=>Jun (by show [dB false]=_;unfold U5;rw[b];simp)) (fun a1=>?_);refine JuL (decide ((w.cons.length:Int)=w.p.n)) (by show (!decide (((dCn w.cons).length:Int)=w.p.n))=_;rw[show (dCn w.cons).length=w.cons.length from Ju9 ..]) (fun b=>Jun (by show [dB false]=_;unfold U5;rw[b];simp)) (fun a2=>?_);refine JuB ((30:Int)<(w.net.length:Int)) (by show decide ((30:Int)<((dMs w.net).length:Int))=_;rw[show (dMs w.net).length=w.net.length from Ju9 ..]) (fun h=>Jun (by show [dB false]=_;unfold U5;rw[decide_eq_false (show ¬w.net.length≤30 by omega)];simp)) (fun h30=>?_);refine Jup (Jmn w.p w.log fp h1 h2 fl) rfl rfl rfl ?_;simp only[sC,sN];refine JuL (Jdp w.p w.log) rfl (fun b=>Jun (by show [dB false]=_;unfold U5;rw[b];simp)) (fun a3=>?_);have e:U5 w=(JU w.sites.length (fun j=>QZ w.p (w.sites.getD j JmO) j)&&(JU w.cons.length (fun j=>XT w.p j (w.cons.getD j Jnc))&&(w.net.all (J0 w.p)&&Yn w.p w.c))):=by unfold U5;rw[a1,a2,a3,decide_eq_true (show w.net.length≤30 by omega)];simp only[Jvk]
 rw[e];refine Juu w.sites.length (fun i=>[.i i]) (fun i=>JU i (fun j=>QZ w.p (w.sites.getD j JmO) j)=true) rfl rfl rfl fun i hi hq=>?_;simp only[sC,sN];refine JuG i (Ju9 (f:=Sit.g) (as:=w.sites)) rfl (fun h'=>?_) (fun h'=>Juk ?_)
 ·obtain⟨x,hx,hm⟩:=sA1 h';have hfi:QZ w.p (w.sites.getD i JmO) i=QZ w.p x i:=by rw[Qj hx]
  have bad:QZ w.p x i=false→∀B:Bool,[dB false]=[dB (JU w.sites.length (fun j=>QZ w.p (w.sites.getD j JmO) j)&&B)]:=fun h B=>by rw[Ke h' (hfi.trans h)];rfl
  have good:QZ w.p x i=true→JU (i+1) (fun j=>QZ w.p (w.sites.getD j JmO) j)=true:=fun h=>by rw[Ze,hq,hfi,h];rfl
  refine JuF (vs:=[.b x.up,.b x.frozen,.i x.round,.l (dL x.base),.l (dL x.added),.l (dDs x.done)]) i (mA1 (f:=Sit.g) hx) rfl rfl rfl rfl ?_;simp only[sC,sN];refine Jup (JpF w.p x i fp (fs.2 x hm) hc) rfl rfl rfl ?_;simp only[sC,sN];exact JuL (QZ w.p x i) rfl (fun e=>Juk (Jun (bad e _))) (fun e=>JuC (vs:=[.i ((i+1:Nat):Int)]) (by rw[←wS h' (by omega)];rfl) ⟨h',rfl,good e⟩)
 rw[show i=w.sites.length by omega] at hq;rw[hq,Jvk];clear hq h' hi;refine Juu w.cons.length (fun i=>[.i i]) (fun i=>JU i (fun j=>XT w.p j (w.cons.getD j Jnc))=true) rfl rfl rfl fun i hi hq=>?_;simp only[sC,sN];refine JuG i (Ju9 (f:=Con.g) (as:=w.cons)) rfl (fun h'=>?_) (fun h'=>Juk ?_)
 ·obtain⟨x,hx,hm⟩:=sA1 h';have hfi:XT w.p i (w.cons.getD i Jnc)=XT w.p i x:=by rw[Qj hx]
  have bad:XT w.p i x=false→∀B:Bool,[dB false]=[dB (JU w.cons.length (fun j=>XT w.p j (w.cons.getD j Jnc))&&B)]:=fun h B=>by rw[Ke h' (hfi.trans h)];rfl
  have good:XT w.p i x=true→JU (i+1) (fun j=>XT w.p j (w.cons.getD j Jnc))=true:=fun h=>by rw[Ze,hq,hfi,h];rfl
  refine JuF (vs:=[.i x.seq,.b x.busy,.i x.call.client,.i x.call.seq,.i x.call.act,.l (dL x.call.args),.i x.code,.l (dL x.tells)]) i (mA1 (f:=Con.g) hx) rfl rfl rfl rfl ?_;simp only[sC,sN];refine Jup (JgT w.p x i fp h1 h2 (fn.2 x hm)) rfl rfl rfl ?_;simp only[sC,sN];exact JuL (XT w.p i x) rfl (fun e=>Juk (Jun (bad e _))) (fun e=>JuC (vs:=[.i ((i+1:Nat):Int)]) (by rw[←wS h' (by omega)];rfl) ⟨h',rfl,good e⟩)
 rw[show i=w.cons.length by omega] at hq;rw[hq,Jvk];clear hq h' hi;refine Juu w.net.length (fun i=>[.i i]) (fun i=>((w.net.take i).all (J0 w.p))=true) rfl rfl rfl fun i hi hq=>?_;simp only[sC,sN];refine JuG i (Ju9 (f:=Msg.g) (as:=w.net)) rfl (fun h'=>?_) (fun h'=>Juk ?_)
 ·obtain⟨x,hx,hm⟩:=sA1 h';have bad:J0 w.p x=false→[dB false]=[dB (w.net.all (J0 w.p)&&Yn w.p w.c)]:=fun hb=>by
   have:w.net.all (J0 w.p)=false:=by rw[←List.take_append_drop i w.net,List.all_append,Xw hx];simp[hb]
   rw[this];rfl
  have good:J0 w.p x=true→((w.net.take (i+1)).all (J0 w.p))=true:=fun hb=>by rw[tS1 hx,List.all_append,hq];simp[hb]
  refine JuF (vs:=[.i x.kind,.i x.to,.i x.frm,.i x.round,.i x.call.client,.i x.call.seq,.i x.call.act,.l (dL x.call.args),.l (dL x.vals),.l (dL x.seqs),.l (dDs x.done)]) i (mA1 (f:=Msg.g) hx) rfl rfl rfl rfl ?_;simp only[sC,sN];refine Jup (JpK w.p x fp h1 h2 (fm.2 x hm)) rfl rfl rfl ?_;simp only[sC,sN];exact JuL (J0 w.p x) rfl (fun e=>Juk (Jun (bad e))) (fun e=>JuC (vs:=[.i ((i+1:Nat):Int)]) (by rw[←wS h' (by omega)];rfl) ⟨h',rfl,good e⟩)
 rw[tA1 h'] at hq;rw[hq,Jvk];exact Jup (Jlz w.p w.c fp fc h1 h2 hc) rfl rfl rfl (Jun rfl)
/- Marks,and what is held,of lists of messages: over residual programs. Printed by wip/tools/pzz.py. -/
def Msg.w (x:Msg):Nat:=7+x.call.args.length+x.vals.length+x.seqs.length+wts Don.w x.done
/- The program's ClkFall answers as the reference's: over residual programs. -/
theorem J2 (x:Cal) (h:x.args.length≤2000000):Ev L f_k1v x.cells x.cells:=by
 refine JuV (vs:=[.i x.client,.i x.seq,.i x.act,.l (dL x.args)]) L_k1v rfl ?_;refine Juv (dL x.args) 2000000 (by rw[dL1];omega) (by omega) rfl ?_;refine JuT (JW x.args) ?_;exact Juv (dL x.args) 2000000 (by rw[dL1];omega) (by omega) rfl (Jun rfl)
theorem Ww (x:Cal) (h:x.args.length≤2000000):Ev L f_k5d x.cells x.cells :=
 JuV (vs:=[.i x.client,.i x.seq,.i x.act,.l (dL x.args)]) L_k5d rfl (Jup (vs:=[.l (dL x.args)]) (QK x.args h) rfl rfl rfl (Jun rfl))
theorem ZV (c:Clk) (hc:QP c):Ev L f_k1w c.cells c.cells:=by
 refine JuV (vs:=[.b c.up,.i c.round,.l (dL c.base),.l (dDs c.done),.l (dCs c.wants),.l (dGs c.got)]) L_k1w rfl ?_;have h1:=hc.b;have h2:=hc.c;have h3:=hc.g;refine Juv (dL c.base) 2000000 (by rw[dL1];omega) (by omega) rfl ?_;refine JuT (JW c.base) ?_;refine Juv (dL c.base) 2000000 (by rw[dL1];omega) (by omega) rfl ?_;refine Jup (vs:=[.l (dDs c.done)]) (Zp c.done ⟨hc.d,hc.dt⟩) rfl rfl rfl ?_;simp only[sC,sN];refine Juu c.wants.length (fun i=>[.l (dCs (c.wants.take i)),.i i]) (fun _=>True) rfl rfl trivial fun i hi _=>?_;simp only[sC,sN];refine JuG i (Qq c.wants) rfl (fun h=>?_) (fun h=>Juk ?_)
 ·obtain⟨x,hx,hm⟩:=sA1 h;refine JuF (vs:=[.i x.client,.i x.seq,.i x.act,.l (dL x.args)]) i (mA1 (f:=Cal.g) hx) rfl rfl rfl rfl ?_;simp only[sC,sN];refine Jup (vs:=[.i x.client,.i x.seq,.i x.act,.l (dL x.args)]) (J2 x (hc.ct x hm)) rfl rfl rfl ?_;simp only[sC,sN];refine JuR (dCs (c.wants.take i)) 2000000 (by rw[Qq,Jvf];omega) (by omega) rfl ?_;refine JuC (vs:=[.l (dCs (c.wants.take (i+1))),.i ((i+1:Nat):Int)]) ?_ ⟨h,rfl,trivial⟩;show [V.l (dCs (c.wants.take i)++[x.g]),V.i (i64.wrap ((i:Int)+1))]=_;rw[wS h (by omega),tS1 hx];simp only[dCs,List.map_append,Ju8,List.map_nil]
 rw[tA1 h];refine Juu c.got.length (fun i=>[.l (dGs (c.got.take i)),.i i]) (fun _=>True) rfl rfl trivial fun j hj _=>?_;simp only[sC,sN];refine JuG j (Xc c.got) rfl (fun h=>?_) (fun h=>Juk (Jun ?_))
 ·obtain⟨x,hx,hm⟩:=sA1 h;have hg:(dGs c.got)[j]? = some x.g:=mA1 (f:=Got.g) hx;have hx1:=hc.gt x hm;have ha:(dL x.added).length≤2000000:=by rw[dL1];exact hx1.1
  have hs:(dL x.seqs).length≤2000000:=by rw[dL1];exact hx1.2
  refine JuF (vs:=[.b x.has,.l (dL x.added),.l (dL x.seqs)]) j hg rfl rfl rfl rfl ?_;simp only[sC,sN];refine JuF (vs:=[.b x.has,.l (dL x.added),.l (dL x.seqs)]) j hg rfl rfl rfl rfl ?_;simp only[sC,sN];refine Juv (dL x.added) 2000000 ha (by omega) rfl ?_;refine JuT (JW x.added) ?_;refine Juv (dL x.added) 2000000 ha (by omega) rfl ?_;refine JuF (vs:=[.b x.has,.l (dL x.added),.l (dL x.seqs)]) j hg rfl rfl rfl rfl ?_;simp only[sC,sN];refine Juv (dL x.seqs) 2000000 hs (by omega) rfl ?_;refine JuT (JW x.seqs) ?_;refine Juv (dL x.seqs) 2000000 hs (by omega) rfl ?_;refine JuR (dGs (c.got.take j)) 2000000 (by rw[Xc,Jvf];omega) (by omega) rfl ?_;refine JuC (vs:=[.l (dGs (c.got.take (j+1))),.i ((j+1:Nat):Int)]) ?_ ⟨h,rfl,trivial⟩;show [V.l (dGs (c.got.take j)++[x.g]),V.i (i64.wrap ((j:Int)+1))]=_;rw[wS h (by omega),tS1 hx];simp only[dGs,List.map_append,Ju8,List.map_nil]
 ·rw[tA1 h];rfl
theorem Jgb (c:Clk) (hc:QP c):Ev L f_k5g c.cells c.cells:=by
 refine JuV (vs:=[.b c.up,.i c.round,.l (dL c.base),.l (dDs c.done),.l (dCs c.wants),.l (dGs c.got)]) L_k5g rfl ?_;have h2:=hc.c;have h3:=hc.g;refine Juu c.wants.length (fun i=>[.l (dCs (c.wants.take i)),.i i]) (fun _=>True) rfl rfl trivial fun i hi _=>?_;simp only[sC,sN];refine JuG i (Qq c.wants) rfl (fun h=>?_) (fun h=>Juk ?_)
 ·obtain⟨x,hx,hm⟩:=sA1 h;refine JuF (vs:=[.i x.client,.i x.seq,.i x.act,.l (dL x.args)]) i (mA1 (f:=Cal.g) hx) rfl rfl rfl rfl ?_;simp only[sC,sN];refine Jup (vs:=[.i x.client,.i x.seq,.i x.act,.l (dL x.args)]) (Ww x (hc.ct x hm)) rfl rfl rfl ?_;simp only[sC,sN]
  try refine JuI (K0 dI (fun _=>rfl) x.args) ?_
  refine JuR (dCs (c.wants.take i)) 2000000 (by rw[Qq,Jvf];omega) (by omega) rfl ?_;refine JuC (vs:=[.l (dCs (c.wants.take (i+1))),.i ((i+1:Nat):Int)]) ?_ ⟨h,rfl,trivial⟩;show [V.l (dCs (c.wants.take i)++[x.g]),V.i (i64.wrap ((i:Int)+1))]=_;rw[wS h (by omega),tS1 hx];simp only[dCs,List.map_append,Ju8,List.map_nil]
 rw[tA1 h];refine Juu c.got.length (fun i=>[.l (dGs (c.got.take i)),.i i]) (fun _=>True) rfl rfl trivial fun j hj _=>?_;simp only[sC,sN];refine JuG j (Xc c.got) rfl (fun h=>?_) (fun h=>Juk ?_)
 ·obtain⟨x,hx,hm⟩:=sA1 h;have hx1:=hc.gt x hm;refine JuF (vs:=[.b x.has,.l (dL x.added),.l (dL x.seqs)]) j (mA1 (f:=Got.g) hx) rfl rfl rfl rfl ?_;simp only[sC,sN];refine Jup (vs:=[.l (dL x.added)]) (QK x.added hx1.1) rfl rfl rfl ?_;refine Jup (vs:=[.l (dL x.seqs)]) (QK x.seqs hx1.2) rfl rfl rfl ?_;simp only[sC,sN]
  try refine JuI (K0 dI (fun _=>rfl) x.added) ?_
  try refine JuI (K0 dI (fun _=>rfl) x.seqs) ?_
  refine JuR (dGs (c.got.take j)) 2000000 (by rw[Xc,Jvf];omega) (by omega) rfl ?_;refine JuC (vs:=[.l (dGs (c.got.take (j+1))),.i ((j+1:Nat):Int)]) ?_ ⟨h,rfl,trivial⟩;show [V.l (dGs (c.got.take j)++[x.g]),V.i (i64.wrap ((j:Int)+1))]=_;rw[wS h (by omega),tS1 hx];simp only[dGs,List.map_append,Ju8,List.map_nil]
 rw[tA1 h];refine Jup (vs:=[.l (dL c.base)]) (QK c.base hc.b) rfl rfl rfl ?_;exact Jup (vs:=[.l (dDs c.done)]) (Jpd c.done ⟨hc.d,hc.dt⟩) rfl rfl rfl (Jun rfl)
def KI (c:Clk) (u:Bool):Clk:=if c.up=u then c else ⟨u,c.round,c.base,c.done,[],List.replicate c.got.length QQ⟩
theorem Jl2 (p:Pln) (c:Clk) (u:Bool) (hp:JY p) (hc:QP c) (hl:c.got.length=p.gives.length):Ev L f_k2s (p.cells++c.cells++[dB u]) (KI c u).cells:=by
 refine JuV (vs:=[.i p.n,.l (Jd p.acts),.l (dL p.gives),.l (dL p.start),.b c.up,.i c.round,.l (dL c.base),.l (dDs c.done),.l (dCs c.wants),.l (dGs c.got),.b u]) L_k2s rfl ?_;refine Jup (vs:=[.b c.up,.i c.round,.l (dL c.base),.l (dDs c.done),.l (dCs c.wants),.l (dGs c.got)]) (ZV c hc) rfl rfl rfl ?_;simp only[sC,sN];refine JuL (u == c.up) rfl (fun h=>?_) (fun h=>Jun ?_)
 ·refine Jup (Jbe p hp.2.1) rfl rfl rfl (Jun ?_);have h : ¬c.up=u:=fun e=>by rw[e] at h;simp at h
  show _=(KI c u).cells;unfold KI;rw[if_neg h,hl];rfl
 ·have h:u=c.up:=by simpa using h
  show _=(KI c u).cells;unfold KI;rw[if_pos h.symm,h];rfl
/- The program's SitHear answers as the reference's: over residual programs. -/
def UQ (g:Nat) (k:Int) (i:Nat) (x y:Don):Don:=if Int.tmod (i:Int) (g:Int)=k∧x.seq<y.seq then y else x
def XY (g:Nat) (k:Int) (sd md:List Don) (n:Nat):List Don:=sd.mapIdx fun j x=>if j<n then UQ g k j x (md.getD j Wr) else x
theorem K9 (g:Nat) (k:Int) (sd md:List Don) (n:Nat):(XY g k sd md n).length=sd.length:=by simp[XY]
theorem JpN (g:Nat) (k:Int) (sd md:List Don):XY g k sd md 0=sd:=by
 apply List.ext_getElem?;intro j;simp only[XY,List.getElem?_mapIdx];cases sd[j]? <;> simp
theorem Jif {g:Nat} {k:Int} {sd md:List Don} {i:Nat} {x:Don} (h:sd[i]? = some x):(XY g k sd md i)[i]? = some x:=by
 simp[XY,List.getElem?_mapIdx,h]
theorem Jfm {g:Nat} {k:Int} {sd md:List Don} {i:Nat} {x y:Don} (h:sd[i]? = some x) (hy:md[i]? = some y):(XY g k sd md i).set i (UQ g k i x y)=XY g k sd md (i+1):=by
 apply List.ext_getElem?;intro j;have hl:i<sd.length:=(Ju1.1 h).1
 by_cases hj:i=j
 ·subst hj;rw[List.getElem?_set_self (by rw[K9];exact hl)];have e:md.getD i Wr=y:=Qj hy;simp only[XY,List.getElem?_mapIdx,h,Ju2,e,show i<i+1 by omega,if_true]
 ·rw[List.getElem?_set_ne hj];simp only[XY,List.getElem?_mapIdx];cases sd[j]? with
  | none=>rfl
  | some z =>
   simp only[Ju2]
   by_cases h1:j<i
   ·rw[if_pos h1,if_pos (show j<i+1 by omega)]
   ·rw[if_neg h1,if_neg (show ¬j<i+1 by omega)]
theorem JkF {g:Nat} {k:Int} {sd md:List Don} {i:Nat} {x y:Don} (h:sd[i]? = some x) (hy:md[i]? = some y) (hp : ¬(Int.tmod (i:Int) (g:Int)=k∧x.seq<y.seq)):XY g k sd md i=XY g k sd md (i+1):=by
 rw[←Jfm h hy];have e:UQ g k i x y=x:=by unfold UQ;rw[if_neg hp]
 rw[e];apply List.ext_getElem?;intro j;have hl:i<sd.length:=(Ju1.1 h).1
 by_cases hj:i=j
 ·subst hj;rw[List.getElem?_set_self (by rw[K9];exact hl)];exact Jif h
 ·rw[List.getElem?_set_ne hj]
theorem JlT {g:Nat} {k:Int} {sd md:List Don} {n:Nat} (hl:md.length=sd.length) {d:Don} (h:d∈XY g k sd md n):d∈sd∨d∈md:=by
 obtain⟨j,hj⟩:=List.getElem?_of_mem h;simp only[XY,List.getElem?_mapIdx] at hj;cases hx:sd[j]? with
 | none=>rw[hx] at hj;simp at hj
 | some x =>
  have hjl:j<md.length:=by rw[hl];exact(Ju1.1 hx).1
  have hyy:md[j]? = some md[j]:=Jvb hjl;rw[hx] at hj;simp only[Ju2,JuZ,Qj hyy] at hj;have mx:x∈sd:=Ju7 hx;have my:md[j]∈md:=List.getElem_mem hjl;split at hj
  ·unfold UQ at hj;split at hj
   ·subst hj;exact .inr my
   ·subst hj;exact .inl mx
  ·subst hj;exact .inl mx
def Ka (l:List Don):List Int:=l.map fun d=>d.seq
def Je9 (s:Sit) (k:Int):Msg:=⟨3,-1,k,s.round,⟨0,0,0,[]⟩,s.added,Ka s.done,[]⟩
def UX (p:Pln) (s:Sit) (k:Int) (m:Msg):Sit :=
 if s.up=true∧m.to=k then
  if m.kind=2∧m.round=s.round then ⟨s.up,true,s.round,s.base,s.added,s.done⟩
  else if m.kind=4∧s.round<m.round then ⟨s.up,false,m.round,m.vals,[0,0,0],XY p.gives.length k s.done m.done s.done.length⟩
  else s
 else s
def KT (s:Sit) (k:Int) (m:Msg):List Msg:=if s.up=true∧m.to=k∧m.kind=2∧m.round=s.round then [Je9 s k] else []
theorem Jc4 (s:Sit) (k:Int) (hs:KN s):Ev L f_k2g (s.cells++[dI k]) (Je9 s k).cells:=by
 refine JuV (vs:=[.b s.up,.b s.frozen,.i s.round,.l (dL s.base),.l (dL s.added),.l (dDs s.done),.i k]) L_k2g rfl ?_;have h2:=hs.2.1;have h3:=hs.2.2.1;refine Juv (dL s.added) 2000000 (by rw[dL1];omega) (by omega) rfl ?_;refine JuT (JW s.added) ?_;refine Juv (dL s.added) 2000000 (by rw[dL1];omega) (by omega) rfl ?_;refine Juu s.done.length (fun i=>[.l (dL (Ka (s.done.take i))),.i i]) (fun _=>True) rfl rfl trivial fun i hi _=>?_;simp only[sC,sN];refine JuG i (Qz s.done) rfl (fun h=>?_) (fun h=>Juk (Jun ?_))
 ·obtain⟨x,hx,hm⟩:=sA1 h;refine JuF (vs:=[.i x.seq,.i x.code,.l (dL x.tells)]) i (mA1 (f:=Don.g) hx) rfl rfl rfl rfl ?_;simp only[sC,sN];refine JuR (dL (Ka (s.done.take i))) 2000000 (by rw[dL1];simp only[Ka,Ju9,Jvf];omega) (by omega) rfl ?_;refine JuC (vs:=[.l (dL (Ka (s.done.take (i+1)))),.i ((i+1:Nat):Int)]) ?_ ⟨h,rfl,trivial⟩;show [V.l (dL (Ka (s.done.take i))++[dI x.seq]),V.i (i64.wrap ((i:Int)+1))]=_;rw[wS h (by omega),tS1 hx];simp only[dL,Ka,List.map_append,Ju8,List.map_nil]
 ·rw[tA1 h];rfl
theorem Jha {p:Pln} {s:Sit} {k:Int} {m:Msg} (h : ¬(s.up=true∧m.to=k)∨(¬(m.kind=2∧m.round=s.round)∧¬(m.kind=4∧s.round<m.round))):UX p s k m=s∧KT s k m=[]:=by
 unfold UX KT;rcases h with h | ⟨h1,h2⟩
 ·rw[if_neg h,if_neg (fun q=>h ⟨q.1,q.2.1⟩)];exact⟨rfl,rfl⟩
 ·have h3 : ¬(s.up=true∧m.to=k∧m.kind=2∧m.round=s.round):=fun q=>h1 q.2.2;rw[if_neg h1,if_neg h2,if_neg h3];simp
theorem JqK {p:Pln} {s:Sit} {k:Int} {m:Msg} (h1:s.up=true) (h2:m.to=k) (h3:m.kind=2) (h4:m.round=s.round):UX p s k m=⟨s.up,true,s.round,s.base,s.added,s.done⟩∧KT s k m=[Je9 s k]:=by
 unfold UX KT;rw[if_pos ⟨h1,h2⟩,if_pos ⟨h3,h4⟩,if_pos ⟨h1,h2,h3,h4⟩];exact⟨rfl,rfl⟩
theorem Jq9 {p:Pln} {s:Sit} {k:Int} {m:Msg} (h1:s.up=true) (h2:m.to=k) (h3:m.kind=4) (h4:s.round<m.round):UX p s k m=⟨s.up,false,m.round,m.vals,[0,0,0],XY p.gives.length k s.done m.done s.done.length⟩∧KT s k m=[]:=by
 unfold UX KT;rw[if_pos ⟨h1,h2⟩,if_neg (fun q=>by omega),if_pos ⟨h3,h4⟩,if_neg (fun q=>by omega)];exact⟨rfl,rfl⟩
theorem Jib {α:Type} {l:List α} {i:Nat} {x:α} (h:l[i]? = some x):l.set i x=l:=by
 apply List.ext_getElem?;intro j;have hl:i<l.length:=(Ju1.1 h).1
 by_cases hj:i=j
 ·subst hj;rw[List.getElem?_set_self hl,h]
 ·rw[List.getElem?_set_ne hj]
theorem Jmf (p:Pln) (s:Sit) (k:Int) (m:Msg) (hs:KN s) (hm:Vn m) (hg:0<p.gives.length) (hdone:m.kind=4→m.done.length=s.done.length) :
  Ev L f_k2h (p.cells++s.cells++[dI k]++m.cells) ((UX p s k m).cells++[.s (dMs (KT s k m))]):=by
 refine JuV (vs:=[.i p.n,.l (Jd p.acts),.l (dL p.gives),.l (dL p.start),.b s.up,.b s.frozen,.i s.round,.l (dL s.base),.l (dL s.added),.l (dDs s.done),.i k,.i m.kind,.i m.to,.i m.frm,.i m.round,.i m.call.client,.i m.call.seq,.i m.call.act,.l (dL m.call.args),.l (dL m.vals),.l (dL m.seqs),.l (dDs m.done)]) L_k2h rfl ?_;refine Jup (vs:=[.b s.up,.b s.frozen,.i s.round,.l (dL s.base),.l (dL s.added),.l (dDs s.done)]) (Jbp s hs) rfl rfl rfl ?_;simp only[sC,sN];refine JuL s.up rfl (fun a=>Jun (by obtain⟨e1,e2⟩:=Jha (p:=p) (s:=s) (k:=k) (m:=m) (by exact .inl (fun q=>by rw[a] at q;cases q.1));rw[e1,e2];rfl)) (fun a=>?_);refine JuL (decide (m.to=k)) rfl (fun b=>Jun (by obtain⟨e1,e2⟩:=Jha (p:=p) (s:=s) (k:=k) (m:=m) (by exact .inl (fun q=>by simp[q.2] at b));rw[e1,e2];rfl)) (fun b=>?_);have b:m.to=k:=by simpa using b
 have hno :∀q:(¬(m.kind=2∧m.round=s.round)∧¬(m.kind=4∧s.round<m.round)),UX p s k m=s∧KT s k m=[]:=fun q=>Jha (.inr q);refine JuB (m.kind=2) rfl (fun d=>?_) (fun d=>?_)
 ·refine JuB (m.round=s.round) rfl (fun e=>?_) (fun e=>?_)
  ·obtain⟨e1,e2⟩:=JqK (p:=p) (s:=s) (k:=k) (m:=m) a b d e;rw[e1,e2];have hv:=Jc4 ⟨s.up,true,s.round,s.base,s.added,s.done⟩ k hs;refine Jup (vs:=[.i 3,.i (-1),.i k,.i s.round,.i 0,.i 0,.i 0,.l (dL []),.l (dL s.added),.l (dL (Ka s.done)),.l (dDs [])]) hv rfl rfl rfl (Jun ?_);rfl
  ·refine JuB (m.kind=4) rfl (fun f=>absurd f (by omega)) (fun f=>Jun ?_);obtain⟨e1,e2⟩:=hno ⟨fun q=>e q.2,fun q=>f q.1⟩;rw[e1,e2];rfl
 ·refine JuB (m.kind=4) rfl (fun f=>?_) (fun f=>Jun ?_)
  ·refine JuB (s.round<m.round) rfl (fun e=>?_) (fun e=>Jun ?_)
   ·obtain⟨e1,e2⟩:=Jq9 (p:=p) (s:=s) (k:=k) (m:=m) a b f e;rw[e1,e2];have hd:=hdone f;have hsl:=hs.2.2.1;have hvl:(dL m.vals).length≤2000000:=by rw[dL1];exact hm.2.1
    refine Juv (dL m.vals) 2000000 hvl (by omega) rfl ?_;refine JuT (JW m.vals) ?_;refine Juv (dL m.vals) 2000000 hvl (by omega) rfl ?_;refine Juu s.done.length (fun i=>[.l (dDs (XY p.gives.length k s.done m.done i)),.i i]) (fun _=>True) rfl (by rw[JpN];rfl) trivial fun i hi _=>?_;simp only[sC,sN];refine JuG i (show (dDs (XY p.gives.length k s.done m.done i)).length=s.done.length by rw[Qz,K9]) rfl (fun h=>?_) (fun h=>Juk (Jun ?_))
    ·obtain⟨x,hx,hxm⟩:=sA1 h;obtain⟨y,hy,hym⟩:=sA1 (l:=m.done) (i:=i) (by omega);have hyg:(dDs m.done)[i]? = some y.g:=mA1 (f:=Don.g) hy;have hxg:(dDs (XY p.gives.length k s.done m.done i))[i]? = some x.g:=mA1 (f:=Don.g) (Jif hx);have hlt:i<(dDs (XY p.gives.length k s.done m.done i)).length:=by rw[Qz,K9];exact h
     have hset:=Jfm (g:=p.gives.length) (k:=k) hx hy;have hsame:=JkF (g:=p.gives.length) (k:=k) hx hy;have hsd:(dDs (XY p.gives.length k s.done m.done i)).set i (UQ p.gives.length k i x y).g=dDs (XY p.gives.length k s.done m.done (i+1)):=by rw[←hset];simp only[dDs,List.map_set]
     refine JuF (vs:=[.i y.seq,.i y.code,.l (dL y.tells)]) i hyg rfl rfl rfl rfl ?_;simp only[sC,sN];generalize dDs (XY p.gives.length k s.done m.done i)=es at *;refine JuP (vs:=[.i x.seq,.i x.code,.l (dL x.tells)]) (ds:=es) i hxg rfl rfl rfl rfl rfl rfl ?_;simp only[sC,sN];have hw:i64.wrap ((i:Int)+1)=((i+1:Nat):Int):=wS h (by omega);refine JuB (x.seq<y.seq) rfl (fun u=>?_) (fun u=>?_)
     ·refine Juo (by show (!decide (((dL p.gives).length:Int)=0))=true;rw[dL1,Bool.not_eq_true',decide_eq_false_iff_not];omega) ?_;refine JuB (Int.tmod (i:Int) (p.gives.length:Int)=k) (by show decide (Int.tmod (i:Int) ((dL p.gives).length:Int)=k)=_;rw[dL1]) (fun v=>?_) (fun v=>?_)
      ·refine JuF (vs:=[.i y.seq,.i y.code,.l (dL y.tells)]) i hyg rfl rfl rfl rfl ?_;simp only[sC,sN];refine JuF (vs:=[.i y.seq,.i y.code,.l (dL y.tells)]) i hyg rfl rfl rfl rfl ?_;simp only[sC,sN];refine Jup (vs:=[.i y.code,.l (dL y.tells)]) (Qk y.code y.tells (hm.2.2.2.2 y hym)) rfl rfl rfl ?_;simp only[sC,sN];refine JuP (vs:=[.i x.seq,.i x.code,.l (dL x.tells)]) (ds:=es) i hxg rfl rfl rfl rfl rfl rfl ?_;refine JuC ?_ ⟨h,rfl,trivial⟩;have e5:UQ p.gives.length k i x y=y:=by unfold UQ;rw[if_pos ⟨v,u⟩]
       rw[e5] at hsd;show [V.l (es.set i y.g),V.i (i64.wrap ((i:Int)+1))]=_;rw[hsd,hw]
      ·refine JuC ?_ ⟨h,rfl,trivial⟩;show [V.l es,V.i (i64.wrap ((i:Int)+1))]=_;have e5:UQ p.gives.length k i x y=x:=by unfold UQ;rw[if_neg (fun q=>v q.1)]
       rw[e5,Jib hxg] at hsd;rw[hsd,hw]
     ·refine JuC ?_ ⟨h,rfl,trivial⟩;show [V.l es,V.i (i64.wrap ((i:Int)+1))]=_;have e5:UQ p.gives.length k i x y=x:=by unfold UQ;rw[if_neg (fun q=>u q.2)]
      rw[e5,Jib hxg] at hsd;rw[hsd,hw]
    ·rw[show i=s.done.length by omega];rfl
   ·obtain⟨e1,e2⟩:=hno ⟨fun q=>d q.1,fun q=>e q.2⟩;rw[e1,e2];rfl
  ·obtain⟨e1,e2⟩:=hno ⟨fun q=>d q.1,fun q=>f q.1⟩;rw[e1,e2];rfl
/- The program's ClkTick answers as the reference's: over residual programs. -/
def Jia (c:Clk) (i:Nat):Msg:=⟨4,i,0,c.round,⟨0,0,0,[]⟩,c.base,[],c.done⟩
def JpW (c:Clk) (i:Nat):Msg:=⟨2,i,0,c.round,⟨0,0,0,[]⟩,[],[],[]⟩
def XE (c:Clk) (n:Nat):List Msg:=(List.range n).map (Jia c)
def YQ (c:Clk) (n:Nat):List Msg:=(List.range n).map (JpW c)
theorem Jhr (c:Clk) (n:Nat):XE c (n+1)=XE c n++[Jia c n]:=by simp[XE,List.range_succ]
theorem Jkt (c:Clk) (n:Nat):YQ c (n+1)=YQ c n++[JpW c n]:=by simp[YQ,List.range_succ]
theorem ZX (c:Clk) (n:Nat):(XE c n).length=n:=by simp[XE]
theorem JfQ (c:Clk) (n:Nat):(YQ c n).length=n:=by simp[YQ]
def busy (c:Clk):Bool:=decide (0<c.wants.length)||decide (0<Xn c.got)
def Jcm (c:Clk):List Msg:=if c.up then(if busy c then XE c c.got.length++YQ c c.got.length else XE c c.got.length) else []
theorem JcH (a b:List Msg):dMs (a++b)=dMs a++dMs b:=by simp[dMs]
theorem Xr (a:List Msg):(dMs a).length=a.length:=by simp[dMs]
theorem Jnp (c:Clk) (i:Nat):dMs [Jia c i]=[.g [dI 4,dI i,dI 0,dI c.round,dI 0,dI 0,dI 0,.s [],.s (dL c.base),.s [],.s (dDs c.done)]]:=rfl
theorem Jqb (c:Clk) (i:Nat):dMs [JpW c i]=[.g [dI 2,dI i,dI 0,dI c.round,dI 0,dI 0,dI 0,.s [],.s [],.s [],.s []]]:=rfl
theorem Jl0 (c:Clk) (i:Nat) (hc:QP c):Ev L f_k2m (c.cells++[dI i]) (Jia c i).cells:=by
 refine JuV (vs:=[.b c.up,.i c.round,.l (dL c.base),.l (dDs c.done),.l (dCs c.wants),.l (dGs c.got),.i i]) L_k2m rfl ?_;have h1:=hc.b;refine Juv (dL c.base) 2000000 (by rw[dL1];omega) (by omega) rfl ?_;refine JuT (JW c.base) ?_;refine Juv (dL c.base) 2000000 (by rw[dL1];omega) (by omega) rfl ?_;exact Jup (vs:=[.l (dDs c.done)]) (Zp c.done ⟨hc.d,hc.dt⟩) rfl rfl rfl (Jun rfl)
theorem JfY (p:Pln) (c:Clk) (hp:JY p) (hc:QP c):Ev L f_k2n (p.cells++c.cells) [.s (dMs (XE c p.gives.length))]:=by
 refine JuV (vs:=[.i p.n,.l (Jd p.acts),.l (dL p.gives),.l (dL p.start),.b c.up,.i c.round,.l (dL c.base),.l (dDs c.done),.l (dCs c.wants),.l (dGs c.got)]) L_k2n rfl ?_;have hg:=hp.2.1;refine Juu p.gives.length (fun i=>[.l (dMs (XE c i)),.i i]) (fun _=>True) rfl rfl trivial fun i hi _=>?_;simp only[sC,sN];refine JuG i (dL1 p.gives) rfl (fun h=>?_) (fun h=>Juk (Jun ?_))
 ·refine Jup (vs:=[.i 4,.i i,.i 0,.i c.round,.i 0,.i 0,.i 0,.l [],.l (dL c.base),.l [],.l (dDs c.done)]) (Jl0 c i hc) rfl rfl rfl ?_;simp only[sC,sN];refine JuR (dMs (XE c i)) 2000000 (by rw[Xr,ZX];omega) (by omega) rfl ?_;refine JuC (vs:=[.l (dMs (XE c (i+1))),.i ((i+1:Nat):Int)]) ?_ ⟨h,rfl,trivial⟩;show [V.l (dMs (XE c i)++[.g [dI 4,dI i,dI 0,dI c.round,dI 0,dI 0,dI 0,.s [],.s (dL c.base),.s [],.s (dDs c.done)]]),V.i (i64.wrap ((i:Int)+1))]=_;rw[wS h (by omega),Jhr,JcH,Jnp]
 ·rw[show i=p.gives.length by omega];rfl
theorem JmF (p:Pln) (c:Clk) (hp:JY p) (hc:QP c) (hl:c.got.length=p.gives.length):Ev L f_k2q (p.cells++c.cells) [.s (dMs (Jcm c))]:=by
 refine JuV (vs:=[.i p.n,.l (Jd p.acts),.l (dL p.gives),.l (dL p.start),.b c.up,.i c.round,.l (dL c.base),.l (dDs c.done),.l (dCs c.wants),.l (dGs c.got)]) L_k2q rfl ?_;have hg:=hp.2.1;have hcc:=hc.c;refine JuL c.up rfl (fun a=>Jun (by unfold Jcm;rw[if_neg (by simp[a])];rfl)) (fun a=>?_);have ht:=JfY p c hp hc;have hpl:=ZX c p.gives.length;have hh:=JcW c hc.g;have et:Jcm c=if busy c then XE c p.gives.length++YQ c p.gives.length else XE c p.gives.length:=by unfold Jcm;rw[if_pos a,hl]
 rw[et];clear et;generalize XE c p.gives.length=ps at *;refine Jup (vs:=[.l (dMs ps)]) ht rfl rfl rfl ?_;simp only[sC,sN];refine Juu p.gives.length (fun i=>[.l (dMs (ps++YQ c i)),.i i]) (fun i=>i=0∨busy c=true) rfl (by rw[show YQ c 0=[] from rfl,List.append_nil];rfl) (.inl rfl) fun i hi hq=>?_;simp only[sC,sN];have hs:dMs (ps++YQ c i)++[.g [dI 2,dI i,dI 0,dI c.round,dI 0,dI 0,dI 0,.s [],.s [],.s [],.s []]]=dMs (ps++YQ c (i+1)):=by rw[Jkt,←List.append_assoc,JcH (ps++YQ c i),Jqb]
 have hlen:(dMs (ps++YQ c i)).length≤4000000:=by rw[Xr,Ju6,JfQ];omega
 have hend : ¬i<p.gives.length∨busy c=false→[D.s (dMs (ps++YQ c i))]=[D.s (dMs (if busy c then ps++YQ c p.gives.length else ps))]:=fun q=>by
  by_cases hb:busy c=true
  ·rw[if_pos hb];rcases q with q | q
   ·rw[show i=p.gives.length by omega]
   ·rw[q] at hb;cases hb
  ·rw[if_neg hb];rcases hq with e | e
   ·rw[e,show YQ c 0=[] from rfl,List.append_nil]
   ·exact absurd e hb
 generalize dMs (ps++YQ c i)=ms at *;refine JuG i (dL1 p.gives) rfl (fun h=>?_) (fun h=>Juk (Jun (hend (.inl h))));have hw:i64.wrap ((i:Int)+1)=((i+1:Nat):Int):=wS h (by omega);refine JuB ((0:Int)<(c.wants.length:Int)) (by show decide ((0:Int)<((dCs c.wants).length:Int))=_;rw[Qq]) (fun b=>?_) (fun b=>?_)
 ·have e:busy c=true:=by unfold busy;rw[decide_eq_true (by omega)];rfl
  refine JuR ms 4000000 hlen (by omega) rfl ?_;refine JuC ?_ ⟨h,rfl,.inr e⟩;show [V.l (ms++[.g [dI 2,dI i,dI 0,dI c.round,dI 0,dI 0,dI 0,.s [],.s [],.s [],.s []]]),V.i (i64.wrap ((i:Int)+1))]=_;rw[hs,hw]
 ·refine Jup hh rfl rfl rfl ?_;simp only[sC,sN];refine JuB ((0:Int)<(Xn c.got:Int)) rfl (fun d=>?_) (fun d=>Juk (Jun (hend (.inr ?_))))
  ·have e:busy c=true:=by unfold busy;rw[decide_eq_true (show 0<Xn c.got by omega),Bool.or_true]
   refine JuR ms 4000000 hlen (by omega) rfl ?_;refine JuC ?_ ⟨h,rfl,.inr e⟩;show [V.l (ms++[.g [dI 2,dI i,dI 0,dI c.round,dI 0,dI 0,dI 0,.s [],.s [],.s [],.s []]]),V.i (i64.wrap ((i:Int)+1))]=_;rw[hs,hw]
  ·unfold busy;rw[decide_eq_false (by omega),decide_eq_false (by omega)];rfl
end Go.Proofs.YtngcnclchcahlabGreatDoor

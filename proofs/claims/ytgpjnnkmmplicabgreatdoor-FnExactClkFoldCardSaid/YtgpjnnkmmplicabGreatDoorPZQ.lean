import Derived.Test.YtgpjnnkmmplicabGreatDoorPZF
import Derived.Test.YtgpjnnkmmplicabGreatDoorPN
import Derived.Test.YtgpjnnkmmplicabGreatDoorTd
import Derived.Laws.Strings
import Derived.Lib.ItoaLen
set_option linter.unusedVariables false
set_option linter.unusedSimpArgs false
/- The program's SitNew and ClkNew answer as the reference's: over residual programs. -/
namespace Go.Proofs.YtgpjnnkmmplicabGreatDoor
open Go Go.Tm
open Go.IntKind (i64)
structure Pln where
 n:Int
 acts:List (List Jc)
 gives:List Int
 start:List Int
 deriving DecidableEq
def Pln.cells (p:Pln):List D:=[dI p.n,.s (Jf p.acts),.s (dL p.gives),.s (dL p.start)]
def Xt (p:Pln):Prop:=Xb p.acts∧p.gives.length≤2000000∧p.start.length≤2000000
def JjG (p:Pln):Prop:=Jon p.acts∧p.gives.length≤9223372036854775807∧p.start.length≤9223372036854775807
def ZV (p:Pln):Nat:=Ut p.acts+p.gives.length+p.start.length
def Uk (p:Pln):Nat:=Yd p.acts+p.gives.length+p.start.length
theorem Jlj {p:Pln} (h:ZV p≤1048576):Xt p:=by
 unfold ZV at h;exact⟨Jjc (by omega),by omega,by omega⟩
theorem Jfk (p:Pln) (hp:Xt p):Ev L f_kj p.cells p.cells:=by
 refine JrA (vs:=[.i p.n,.l (Jf p.acts),.l (dL p.gives),.l (dL p.start)]) L_kj rfl ?_;refine Jrw (Jcz p.acts hp.1) rfl rfl rfl ?_;refine Jrw (XC p.gives hp.2.1) rfl rfl rfl ?_;refine Jrw (XC p.start hp.2.2) rfl rfl rfl ?_;exact JqZ rfl
theorem JfH (p:Pln) (hp:Xt p):Ev L f_k57 (p.cells++p.cells) [dB true]:=by
 refine JrA (vs:=[.i p.n,.l (Jf p.acts),.l (dL p.gives),.l (dL p.start),.i p.n,.l (Jf p.acts),.l (dL p.gives),.l (dL p.start)]) L_k57 rfl ?_;have h1:=JcK p.acts p.acts hp.1;have h2:=Xv p.gives p.gives hp.2.1;have h3:=Xv p.start p.start hp.2.2;rw[decide_eq_true rfl] at h1 h2 h3;refine Jra (by show (!decide (p.n=p.n))=false;simp) ?_;refine Jrw h1 rfl rfl rfl (Jra rfl ?_);refine Jrw h2 rfl rfl rfl (Jra rfl ?_);exact Jrw h3 rfl rfl rfl (Jra rfl (JqZ rfl))
theorem Jgo (p:Pln) (left:Int) (hp:JjG p) (h0:0≤left) (h1:left≤1048576):Ev L f_k5 (p.cells++[dI left]) [dI (dec left (ZV p))]:=by
 refine JrA (vs:=[.i p.n,.l (Jf p.acts),.l (dL p.gives),.l (dL p.start),.i left]) L_k5 rfl ?_;refine Jrw (JcO p.acts left hp.1 h0 h1) rfl rfl rfl ?_;have hr:=JH (n:=Ut p.acts) h0 h1;refine Jrx (dec left (Ut p.acts)<0) rfl (fun h=>JqZ ?_) (fun h=>?_)
 ·show [dI (-1)]=_;rw[ZV,Nat.add_assoc,Y2 h h0]
 refine Jrw (XA p.gives (dec left (Ut p.acts)) hp.2.1 (by omega) (by omega)) rfl rfl rfl ?_;have hr2:=JH (n:=Ut p.acts+p.gives.length) h0 h1;rw[Xz h];refine Jrx (dec left (Ut p.acts+p.gives.length)<0) rfl (fun h=>JqZ ?_) (fun h=>?_)
 ·show [dI (-1)]=_;rw[ZV,Y2 h h0]
 refine Jrw (XA p.start (dec left (Ut p.acts+p.gives.length)) hp.2.2 (by omega) (by omega)) rfl rfl rfl ?_;rw[Xz h];have hr3:=JH (n:=Ut p.acts+p.gives.length+p.start.length) h0 h1;refine Jrx (dec left (Ut p.acts+p.gives.length+p.start.length)<0) rfl (fun h=>JqZ ?_) (fun h=>JqZ rfl);show [dI (-1)]=_;rw[ZV,show dec left (Ut p.acts+p.gives.length+p.start.length) = -1 by omega]
theorem JcU (p:Pln) (hp:Xt p) (hw:Uk p≤10000000000) : ∃ es,Ev L f_k5b (p.cells++[dI 1]) [dI (1+Uk p),.s es,.s (dL (cnt (1+Yd p.acts) p.gives.length)),.s (dL (cnt (1+Yd p.acts+p.gives.length) p.start.length))]:=by
 unfold Uk at hw;obtain⟨ds,hmk,es,rfl,hes⟩:=Jbf p.acts hp.1 1 (by omega) (by omega);refine⟨es,JrA (vs:=[.i p.n,.l (Jf p.acts),.l (dL p.gives),.l (dL p.start),.i 1]) L_k5b rfl ?_⟩;refine Jrw (vs:=[.i (1+Yd p.acts),.l es]) hmk rfl rfl rfl ?_;refine Jrw (vs:=[.i (1+Yd p.acts+p.gives.length),.l (dL (cnt (1+Yd p.acts) p.gives.length))]) (Qg p.gives (1+Yd p.acts) hp.2.1 (by omega) (by omega)) rfl rfl rfl ?_;refine Jrw (vs:=[.i (1+Yd p.acts+p.gives.length+p.start.length),.l (dL (cnt (1+Yd p.acts+p.gives.length) p.start.length))]) (Qg p.start (1+Yd p.acts+p.gives.length) hp.2.2 (by omega) (by omega)) rfl rfl rfl ?_;refine JqZ ?_;show [dI (1+Yd p.acts+p.gives.length+p.start.length),D.s es,_,_]=_;rw[show (1:Int)+Yd p.acts+p.gives.length+p.start.length=1+Uk p by unfold Uk;push_cast;omega];rfl
def Qt (p:Pln):Bool:=inB p.n 1 4&&(QK p.acts&&(JE 3 1000 p.start&&QL p.start p.gives))
theorem Jmq (p:Pln) (hp:Xt p):Ev L f_k10 p.cells [dB (Qt p)]:=by
 refine JrA (vs:=[.i p.n,.l (Jf p.acts),.l (dL p.gives),.l (dL p.start)]) L_k10 rfl ?_;refine Jrw (Qn p.n 1 4) rfl rfl rfl ?_;refine Jq5 (inB p.n 1 4) rfl (fun h1=>?_) (fun h1=>JqZ (by show [dB false]=_;simp[Qt,h1]));refine Jrw (JnW p.acts hp.1) rfl rfl rfl ?_;refine Jq5 (QK p.acts) rfl (fun h2=>?_) (fun h2=>JqZ (by show [dB false]=_;simp[Qt,h2]));refine Jrw (XL p.start 3 1000 hp.2.2 (by omega) (by omega)) rfl rfl rfl ?_;refine Jq5 (JE 3 1000 p.start) rfl (fun h3=>?_) (fun h3=>JqZ (by show [dB false]=_;simp[Qt,h3]));refine Jrw (Jff p.start p.gives hp.2.2 hp.2.1) rfl rfl rfl (JqZ ?_);show [dB (QL p.start p.gives)]=_;simp[Qt,h1,h2,h3]
theorem Jcj (p:Pln) (b:List Int):Ev L f_k2k (p.cells++[.s (dL b)]) [.s (dL b),.s (dL p.gives)] :=
 JrA (vs:=[.i p.n,.l (Jf p.acts),.l (dL p.gives),.l (dL p.start),.l (dL b)]) L_k2k rfl (JqZ rfl)
theorem Jk7 (p:Pln) (hp:Xt p):Ev L f_k2o p.cells [dB (Qt p)]:=by
 refine JrA (vs:=[.i p.n,.l (Jf p.acts),.l (dL p.gives),.l (dL p.start)]) L_k2o rfl ?_;refine Jrw (X2 p.n 1 4) rfl rfl rfl ?_;refine Jq5 (inB p.n 1 4) rfl (fun h1=>?_) (fun h1=>JqZ (by show [dB false]=_;simp[Qt,h1]));refine Jrw (JaI p.acts hp.1) rfl rfl rfl ?_;refine Jq5 (QK p.acts) rfl (fun h2=>?_) (fun h2=>JqZ (by show [dB false]=_;simp[Qt,h2]));refine Jrw (Q4 p.start 3 1000 hp.2.2 (by omega) (by omega)) rfl rfl rfl ?_;refine Jq5 (JE 3 1000 p.start) rfl (fun h3=>?_) (fun h3=>JqZ (by show [dB false]=_;simp[Qt,h3]));refine Jrw (Jcj p p.start) rfl rfl rfl ?_;refine Jrw (JgV p.start p.gives hp.2.2 hp.2.1) rfl rfl rfl (JqZ ?_);show [dB (QL p.start p.gives)]=_;simp[Qt,h1,h2,h3]
theorem US (a b:Int) (c d:List Int) (hl:c.length≤2000000):Ev L f_k4u [dI a,.s (dL c),dI b,.s (dL d)] [dB (decide (a=b)&&decide (c=d))]:=by
 refine JrA (vs:=[.i a,.l (dL c),.i b,.l (dL d)]) L_k4u rfl ?_;refine Jrm (decide (a=b)) rfl (fun h=>JqZ (by show [dB false]=_;rw[h];rfl)) (fun h=>?_);refine Jrw (Xv c d hl) rfl rfl rfl ?_;refine Jrm (decide (c=d)) rfl (fun h2=>JqZ (by show [dB false]=_;rw[h,h2];rfl)) (fun h2=>JqZ (by show [dB true]=_;rw[h,h2];rfl))
theorem Jgn (a b:Don) (hl:a.tells.length≤2000000):Ev L f_k4v (a.cells++b.cells) [dB (decide (a=b))]:=by
 refine JrA (vs:=[.i a.seq,.i a.code,.l (dL a.tells),.i b.seq,.i b.code,.l (dL b.tells)]) L_k4v rfl ?_;have e:decide (a=b)=(decide (a.seq=b.seq)&&(decide (a.code=b.code)&&decide (a.tells=b.tells))):=by
  obtain⟨a1,a2,a3⟩:=a;obtain⟨b1,b2,b3⟩:=b;simp only[Don.mk.injEq]
  by_cases h1:a1=b1 <;> by_cases h2:a2=b2 <;> by_cases h3:a3=b3 <;> simp[h1,h2,h3]
 rw[e];refine Jrm (decide (a.seq=b.seq)) rfl (fun h=>JqZ (by show [dB false]=_;rw[h];rfl)) (fun h=>?_);refine Jrw (US a.code b.code a.tells b.tells hl) rfl rfl rfl ?_;refine Jrm (decide (a.code=b.code)&&decide (a.tells=b.tells)) rfl (fun h2=>JqZ (by show [dB false]=_;rw[h,h2];rfl)) (fun h2=>JqZ (by show [dB true]=_;rw[h,h2];rfl))
theorem JdX (a b:List Don) (hl:a.length≤2000000) (ht :∀d∈a,d.tells.length≤2000000):Ev L f_k4w [.s (dDs a),.s (dDs b)] [dB (decide (a=b))] :=
 KC (g:=f_k4v) (sh:= .g [.i .i64,.i .i64,.s]) (as:=[(.vi .i64 (.v 3)),(.vi .i64 (.v 4)),(.s (.v 5)),(.vi .i64 (.v 6)),(.vi .i64 (.v 7)),(.s (.v 8))]) (k1:=6) (k2:=9)
  Don.g (fun x=>[.i x.seq,.i x.code,.l (dL x.tells)]) Don.cells a b
  L_k4w rfl (fun _=>rfl) (fun _=>rfl) (fun _=>rfl) (fun _ _ _ _ _=>rfl) (fun x hx y=>Jgn x y (ht x hx)) hl
theorem Um (l:List Don) (k:Int) (hl:l.length≤2000000) (ht :∀d∈l,d.tells.length≤2000000) (h0:0≤k) (h1:k+wts Don.w l≤1000000000000) :
  Ev L f_k5c [.s (dDs l),dI k] [dI (k+wts Don.w l),.s (dDs (JY Don.w Don.mk' k l))] :=
 Z2 Don.g Don.w Don.mk' l k L_k5c rfl h0 h1 hl fun v0 v1 es i x q hx hxi hi hq0 hq1=>by
  have hil:i<es.length:=(JrF.1 hxi).1;have hxt:=ht x hx;have hw:x.w=2+x.tells.length:=rfl;have e1:i64.wrap (q+1)=q+1:=w64 (by omega) (by omega);have e2:i64.wrap (q+1+1)=q+1+1:=w64 (by omega) (by omega);refine Jrc (vs:=[.i x.seq,.i x.code,.l (dL x.tells)]) (ds:=es) i hxi rfl rfl rfl rfl rfl rfl ?_;simp only[sC,sN];generalize hes1:es.set i (.g [dI q,dI x.code,.s (dL x.tells)])=es1;have hl1:es1.length=es.length:=by rw[←hes1];simp
  refine Jrc (vs:=[.i q,.i x.code,.l (dL x.tells)]) (ds:=es1) (d:= .g [dI q,dI x.code,.s (dL x.tells)]) i (by rw[←hes1];exact YC _ hil) rfl (by rw[hl1];rfl) rfl (by rw[←hes1];rfl) rfl rfl ?_;simp only[sC,sN];generalize hes2:es1.set i (.g [dI q,dI (q+1),.s (dL x.tells)])=es2;have hl2:es2.length=es.length:=by rw[←hes2];simp[hl1]
  have hes2':es2=(es.set i (.g [dI q,dI x.code,.s (dL x.tells)])).set i (.g [dI q,dI (i64.wrap (q+1)),.s (dL x.tells)]):=by rw[e1,hes1,hes2]
  refine Jrc (vs:=[.i q,.i (q+1),.l (dL x.tells)]) (ds:=es2) (d:= .g [dI q,dI (q+1),.s (dL x.tells)]) i (by rw[←hes2];exact YC _ (by omega)) rfl (by rw[hl2];rfl) rfl (by rw[hes2'];rfl) rfl rfl ?_;simp only[sC,sN];refine Jrw (vs:=[.i (q+1+1+x.tells.length),.l (dL (cnt (q+1+1) x.tells.length))]) (Qg x.tells (q+1+1) hxt (by omega) (by omega)) rfl ?_ rfl ?_
  ·show [D.s (dL x.tells),dI (i64.wrap (i64.wrap (q+1)+1))]=_;rw[e1,e2]
  simp only[sC,sN];refine Jrs ?_ ?_
  ·show decide (((dL (cnt (q+1+1) x.tells.length)).length:Int)=((dL x.tells).length:Int))=true;rw[dL1,dL1,YR];simp
  refine Jrq ?_ rfl;show [V.l (((es.set i (.g [dI q,dI x.code,.s (dL x.tells)])).set i (.g [dI q,dI (i64.wrap (q+1)),.s (dL x.tells)])).set i (.g [dI q,dI (q+1),.s (dL (cnt (q+1+1) x.tells.length))])),V.i (q+1+1+x.tells.length),V.i (i64.wrap ((i:Int)+1))]=_;rw[wS' (by omega),List.set_set,List.set_set,show q+1+1+(x.tells.length:Int)=q+(x.w:Nat) by rw[hw];push_cast;omega];rfl
theorem JbN (l:List Don) (k:Int) (hl:l.length≤2000000) (ht :∀d∈l,d.tells.length≤2000000) (h0:0≤k) (h1:k+wts Don.w l≤1000000000000) :
  Ev L f_k5i [.s (dDs (JY Don.w Don.mk' k l)),dI k] [dI (k+wts Don.w l)] :=
 ZZ Don.g Don.w Don.mk' l k L_k5i rfl h0 h1 hl fun v1 es i x q hx hxi hi hq0 hq1=>by
  have hxt:=ht x hx;have hw:x.w=2+x.tells.length:=rfl;have e1:i64.wrap (q+1)=q+1:=w64 (by omega) (by omega);have e2:i64.wrap (q+1+1)=q+1+1:=w64 (by omega) (by omega);refine Jrd (vs:=[.i q,.i (q+1),.l (dL (cnt (q+1+1) x.tells.length))]) i hxi rfl rfl rfl rfl ?_;refine Jra (by show (!decide (q=q))=false;simp) ?_;refine Jrd (vs:=[.i q,.i (q+1),.l (dL (cnt (q+1+1) x.tells.length))]) i hxi rfl rfl rfl rfl ?_;refine Jra (by show (!decide (q+1=i64.wrap (q+1)))=false;rw[e1];simp) ?_;refine Jrd (vs:=[.i q,.i (q+1),.l (dL (cnt (q+1+1) x.tells.length))]) i hxi rfl rfl rfl rfl ?_;simp only[sC,sN];refine Jrw (vs:=[.i (q+1+1+x.tells.length)]) (X6 (q+1+1) x.tells.length hxt (by omega) (by omega)) rfl ?_ rfl ?_
  ·show [D.s (dL (cnt (q+1+1) x.tells.length)),dI (i64.wrap (i64.wrap (q+1)+1))]=_;rw[e1,e2]
  simp only[sC,sN];refine Jra (by show decide (q+1+1+(x.tells.length:Int)<0)=false;rw[decide_eq_false];omega) ?_;refine Jrq ?_ rfl;show [V.i (q+1+1+x.tells.length),V.i (i64.wrap ((i:Int)+1))]=_;rw[wS' (by omega),show q+1+1+(x.tells.length:Int)=q+(x.w:Nat) by rw[hw];push_cast;omega]
structure Sit where
 up:Bool
 frozen:Bool
 round:Int
 base:List Int
 added:List Int
 done:List Don
 deriving DecidableEq
def Sit.cells (s:Sit):List D:=[dB s.up,dB s.frozen,dI s.round,.s (dL s.base),.s (dL s.added),.s (dDs s.done)]
theorem YQ {p:Pln} (h:Qt p=true):1≤p.n∧p.n≤4∧p.start.length=3∧QL p.start p.gives=true:=by
 simp only[Qt,JrE,JG,JB] at h;obtain⟨⟨h1,h2⟩,_,⟨h3,_⟩,h4⟩:=h;exact⟨h1,h2,by omega,h4⟩
theorem Jnb (p:Pln):Uk p≤4*ZV p:=by
 have:=JkG p.acts;unfold Uk ZV;omega
abbrev tyPlan:Ty:= .st [.i .i64,.sl (.sl Jgz),Kg,Kg]
theorem JoM {ds:List D} (h:Us tyPlan ds) : ∃ p:Pln,ds=p.cells∧JjG p:=by
 obtain⟨_,_,rfl,⟨n,rfl⟩,_,_,rfl,h1,_,_,rfl,h2,_,_,rfl,h3,rfl⟩:=h;obtain⟨as,rfl,ha⟩:=JoP h1;obtain⟨g,rfl,hg⟩:=Y9 h2;obtain⟨s,rfl,hs⟩:=Y9 h3;exact⟨⟨n,as,g,s⟩,rfl,ha,hg,hs⟩
/- The program's ClkNew answers as the reference's: over residual programs. -/
theorem Jhi (a b:Got) (hl:a.added.length≤2000000) (hl2:a.seqs.length≤2000000):Ev L f_k4z (a.cells++b.cells) [dB (decide (a=b))]:=by
 refine JrA (vs:=[.b a.has,.l (dL a.added),.l (dL a.seqs),.b b.has,.l (dL b.added),.l (dL b.seqs)]) L_k4z rfl ?_;have e:decide (a=b)=(decide (a.has=b.has)&&(decide (a.added=b.added)&&decide (a.seqs=b.seqs))):=by
  obtain⟨a1,a2,a3⟩:=a;obtain⟨b1,b2,b3⟩:=b;simp only[Got.mk.injEq]
  by_cases h1:a1=b1 <;> by_cases h2:a2=b2 <;> by_cases h3:a3=b3 <;> simp[h1,h2,h3]
 rw[e];refine Jrm (decide (a.has=b.has)) (by show (!(a.has == b.has))=_;cases a.has <;> cases b.has <;> rfl) (fun h=>JqZ (by show [dB false]=_;rw[h];rfl)) (fun h=>?_);refine Jrw (Xv a.added b.added hl) rfl rfl rfl ?_;refine Jrm (decide (a.added=b.added)) rfl (fun h2=>JqZ (by show [dB false]=_;rw[h,h2];rfl)) (fun h2=>?_);refine Jrw (Xv a.seqs b.seqs hl2) rfl rfl rfl ?_;refine Jrm (decide (a.seqs=b.seqs)) rfl (fun h3=>JqZ (by show [dB false]=_;rw[h,h2,h3];rfl)) (fun h3=>JqZ (by show [dB true]=_;rw[h,h2,h3];rfl))
theorem Jfp (a b:List Got) (hl:a.length≤2000000) (ht :∀d∈a,d.added.length≤2000000∧d.seqs.length≤2000000):Ev L f_k50 [.s (dGs a),.s (dGs b)] [dB (decide (a=b))] :=
 KC (g:=f_k4z) (sh:= .g [.b,.s,.s]) (as:=[(.vb (.v 3)),(.s (.v 4)),(.s (.v 5)),(.vb (.v 6)),(.s (.v 7)),(.s (.v 8))]) (k1:=6) (k2:=9)
  Got.g (fun x=>[.b x.has,.l (dL x.added),.l (dL x.seqs)]) Got.cells a b
  L_k50 rfl (fun _=>rfl) (fun _=>rfl) (fun _=>rfl) (fun _ _ _ _ _=>rfl) (fun x hx y=>Jhi x y (ht x hx).1 (ht x hx).2) hl
theorem JgE (a b:Cal) (hl:a.args.length≤2000000):Ev L f_k4x (a.cells++b.cells) [dB (decide (a=b))]:=by
 refine JrA (vs:=[.i a.client,.i a.seq,.i a.act,.l (dL a.args),.i b.client,.i b.seq,.i b.act,.l (dL b.args)]) L_k4x rfl ?_;have e:decide (a=b)=(decide (a.client=b.client)&&(decide (a.seq=b.seq)&&(decide (a.act=b.act)&&decide (a.args=b.args)))):=by
  obtain⟨a1,a2,a3,a4⟩:=a;obtain⟨b1,b2,b3,b4⟩:=b;simp only[Cal.mk.injEq]
  by_cases h1:a1=b1 <;> by_cases h2:a2=b2 <;> by_cases h3:a3=b3 <;> by_cases h4:a4=b4 <;> simp[h1,h2,h3,h4]
 rw[e];refine Jrm (decide (a.client=b.client)) rfl (fun h=>JqZ (by show [dB false]=_;rw[h];rfl)) (fun h=>?_);refine Jrm (decide (a.seq=b.seq)) rfl (fun h2=>JqZ (by show [dB false]=_;rw[h,h2];rfl)) (fun h2=>?_);refine Jrm (decide (a.act=b.act)) rfl (fun h3=>JqZ (by show [dB false]=_;rw[h,h2,h3];rfl)) (fun h3=>?_);refine Jrw (Xv a.args b.args hl) rfl rfl rfl ?_;refine Jrm (decide (a.args=b.args)) rfl (fun h4=>JqZ (by show [dB false]=_;rw[h,h2,h3,h4];rfl)) (fun h4=>JqZ (by show [dB true]=_;rw[h,h2,h3,h4];rfl))
theorem V5 (a b:List Cal) (hl:a.length≤2000000) (ht :∀d∈a,d.args.length≤2000000):Ev L f_k4y [.s (dCs a),.s (dCs b)] [dB (decide (a=b))] :=
 KC (g:=f_k4x) (sh:= .g [.i .i64,.i .i64,.i .i64,.s]) (as:=[(.vi .i64 (.v 3)),(.vi .i64 (.v 4)),(.vi .i64 (.v 5)),(.s (.v 6)),(.vi .i64 (.v 7)),(.vi .i64 (.v 8)),(.vi .i64 (.v 9)),(.s (.v 10))]) (k1:=7) (k2:=11)
  Cal.g (fun x=>[.i x.client,.i x.seq,.i x.act,.l (dL x.args)]) Cal.cells a b
  L_k4y rfl (fun _=>rfl) (fun _=>rfl) (fun _=>rfl) (fun _ _ _ _ _=>rfl) (fun x hx y=>JgE x y (ht x hx)) hl
theorem Y4 (l:List Cal) (k:Int) (hl:l.length≤2000000) (ht :∀d∈l,d.args.length≤2000000) (h0:0≤k) (h1:k+wts Cal.w l≤1000000000000) :
  Ev L f_k5d [.s (dCs l),dI k] [dI (k+wts Cal.w l),.s (dCs (JY Cal.w Cal.mk' k l))] :=
 Z2 Cal.g Cal.w Cal.mk' l k L_k5d rfl h0 h1 hl fun v0 v1 es i x q hx hxi hi hq0 hq1=>by
  have hil:i<es.length:=(JrF.1 hxi).1;have hxt:=ht x hx;have hw:x.w=3+x.args.length:=rfl;have e1:i64.wrap (q+1)=q+1:=w64 (by omega) (by omega);have e2:i64.wrap (q+1+1)=q+1+1:=w64 (by omega) (by omega);have e3:i64.wrap (q+1+1+1)=q+1+1+1:=w64 (by omega) (by omega);refine Jrc (vs:=[.i x.client,.i x.seq,.i x.act,.l (dL x.args)]) (ds:=es) i hxi rfl rfl rfl rfl rfl rfl ?_;simp only[sC,sN];generalize hes1:es.set i (.g [dI q,dI x.seq,dI x.act,.s (dL x.args)])=es1;have hl1:es1.length=es.length:=by rw[←hes1];simp
  refine Jrc (vs:=[.i q,.i x.seq,.i x.act,.l (dL x.args)]) (ds:=es1) (d:= .g [dI q,dI x.seq,dI x.act,.s (dL x.args)]) i (by rw[←hes1];exact YC _ hil) rfl (by rw[hl1];rfl) rfl (by rw[←hes1];rfl) rfl rfl ?_;simp only[sC,sN];generalize hes2:es1.set i (.g [dI q,dI (q+1),dI x.act,.s (dL x.args)])=es2;have hl2:es2.length=es.length:=by rw[←hes2];simp[hl1]
  have hes2':es2=(es.set i (.g [dI q,dI x.seq,dI x.act,.s (dL x.args)])).set i (.g [dI q,dI (i64.wrap (q+1)),dI x.act,.s (dL x.args)]):=by rw[e1,hes1,hes2]
  refine Jrc (vs:=[.i q,.i (q+1),.i x.act,.l (dL x.args)]) (ds:=es2) (d:= .g [dI q,dI (q+1),dI x.act,.s (dL x.args)]) i (by rw[←hes2];exact YC _ (by omega)) rfl (by rw[hl2];rfl) rfl (by rw[hes2'];rfl) rfl rfl ?_;simp only[sC,sN];generalize hes3:es2.set i (.g [dI q,dI (q+1),dI (q+1+1),.s (dL x.args)])=es3;have hl3:es3.length=es.length:=by rw[←hes3];simp[hl2]
  have hes3':es3=((es.set i (.g [dI q,dI x.seq,dI x.act,.s (dL x.args)])).set i (.g [dI q,dI (i64.wrap (q+1)),dI x.act,.s (dL x.args)])).set i (.g [dI q,dI (q+1),dI (i64.wrap (i64.wrap (q+1)+1)),.s (dL x.args)]):=by rw[e1,e2,hes1,hes2,hes3]
  refine Jrc (vs:=[.i q,.i (q+1),.i (q+1+1),.l (dL x.args)]) (ds:=es3) (d:= .g [dI q,dI (q+1),dI (q+1+1),.s (dL x.args)]) i (by rw[←hes3];exact YC _ (by omega)) rfl (by rw[hl3];rfl) rfl (by rw[hes3'];rfl) rfl rfl ?_;simp only[sC,sN];refine Jrw (vs:=[.i (q+1+1+1+x.args.length),.l (dL (cnt (q+1+1+1) x.args.length))]) (Qg x.args (q+1+1+1) hxt (by omega) (by omega)) rfl ?_ rfl ?_
  ·show [D.s (dL x.args),dI (i64.wrap (i64.wrap (i64.wrap (q+1)+1)+1))]=_;rw[e1,e2,e3]
  simp only[sC,sN];refine Jrs ?_ ?_
  ·show decide (((dL (cnt (q+1+1+1) x.args.length)).length:Int)=((dL x.args).length:Int))=true;rw[dL1,dL1,YR];simp
  refine Jrq ?_ rfl;show [V.l ((((es.set i (.g [dI q,dI x.seq,dI x.act,.s (dL x.args)])).set i (.g [dI q,dI (i64.wrap (q+1)),dI x.act,.s (dL x.args)])).set i (.g [dI q,dI (q+1),dI (i64.wrap (i64.wrap (q+1)+1)),.s (dL x.args)])).set i (.g [dI q,dI (q+1),dI (q+1+1),.s (dL (cnt (q+1+1+1) x.args.length))])),V.i (q+1+1+1+x.args.length),V.i (i64.wrap ((i:Int)+1))]=_;rw[wS' (by omega),List.set_set,List.set_set,List.set_set,show q+1+1+1+(x.args.length:Int)=q+(x.w:Nat) by rw[hw];push_cast;omega];rfl
theorem Uq (l:List Cal) (k:Int) (hl:l.length≤2000000) (ht :∀d∈l,d.args.length≤2000000) (h0:0≤k) (h1:k+wts Cal.w l≤1000000000000) :
  Ev L f_k5j [.s (dCs (JY Cal.w Cal.mk' k l)),dI k] [dI (k+wts Cal.w l)] :=
 ZZ Cal.g Cal.w Cal.mk' l k L_k5j rfl h0 h1 hl fun v1 es i x q hx hxi hi hq0 hq1=>by
  have hxt:=ht x hx;have hw:x.w=3+x.args.length:=rfl;have e1:i64.wrap (q+1)=q+1:=w64 (by omega) (by omega);have e2:i64.wrap (q+1+1)=q+1+1:=w64 (by omega) (by omega);have e3:i64.wrap (q+1+1+1)=q+1+1+1:=w64 (by omega) (by omega);refine Jrd (vs:=[.i q,.i (q+1),.i (q+1+1),.l (dL (cnt (q+1+1+1) x.args.length))]) i hxi rfl rfl rfl rfl ?_;refine Jra (by show (!decide (q=q))=false;simp) ?_;refine Jrd (vs:=[.i q,.i (q+1),.i (q+1+1),.l (dL (cnt (q+1+1+1) x.args.length))]) i hxi rfl rfl rfl rfl ?_;refine Jra (by show (!decide (q+1=i64.wrap (q+1)))=false;rw[e1];simp) ?_;refine Jrd (vs:=[.i q,.i (q+1),.i (q+1+1),.l (dL (cnt (q+1+1+1) x.args.length))]) i hxi rfl rfl rfl rfl ?_;refine Jra (by show (!decide (q+1+1=i64.wrap (i64.wrap (q+1)+1)))=false;rw[e1,e2];simp) ?_;refine Jrd (vs:=[.i q,.i (q+1),.i (q+1+1),.l (dL (cnt (q+1+1+1) x.args.length))]) i hxi rfl rfl rfl rfl ?_;simp only[sC,sN];refine Jrw (vs:=[.i (q+1+1+1+x.args.length)]) (X6 (q+1+1+1) x.args.length hxt (by omega) (by omega)) rfl ?_ rfl ?_
  ·show [D.s (dL (cnt (q+1+1+1) x.args.length)),dI (i64.wrap (i64.wrap (i64.wrap (q+1)+1)+1))]=_;rw[e1,e2,e3]
  simp only[sC,sN];refine Jra (by show decide (q+1+1+1+(x.args.length:Int)<0)=false;rw[decide_eq_false];omega) ?_;refine Jrq ?_ rfl;show [V.i (q+1+1+1+x.args.length),V.i (i64.wrap ((i:Int)+1))]=_;rw[wS' (by omega),show q+1+1+1+(x.args.length:Int)=q+(x.w:Nat) by rw[hw];push_cast;omega]
theorem Vl (l:List Got) (k:Int) (hl:l.length≤2000000) (ht :∀d∈l,d.added.length≤2000000∧d.seqs.length≤2000000) (h0:0≤k) (h1:k+wts Got.w l≤1000000000000) :
  Ev L f_k5e [.s (dGs l),dI k] [dI (k+wts Got.w l),.s (dGs (JY Got.w Got.mk' k l))] :=
 Z2 Got.g Got.w Got.mk' l k L_k5e rfl h0 h1 hl fun v0 v1 es i x q hx hxi hi hq0 hq1=>by
  have hil:i<es.length:=(JrF.1 hxi).1;obtain⟨hx1,hx2⟩:=ht x hx;have hw:x.w=1+x.added.length+x.seqs.length:=rfl;have e1:i64.wrap (q+1)=q+1:=w64 (by omega) (by omega);generalize hB:decide (q.tmod 3=0)=B;refine Jrs rfl ?_;refine Jrc (vs:=[.b x.has,.l (dL x.added),.l (dL x.seqs)]) (ds:=es) i hxi rfl rfl rfl rfl rfl rfl ?_;simp only[sC,sN];generalize hes1:es.set i (.g [dB B,.s (dL x.added),.s (dL x.seqs)])=es1;have hl1:es1.length=es.length:=by rw[←hes1];simp
  have hes1':es1=es.set i (.g [dB (decide (q.tmod 3=0)),.s (dL x.added),.s (dL x.seqs)]):=by rw[hB,hes1]
  refine Jrc (vs:=[.b B,.l (dL x.added),.l (dL x.seqs)]) (ds:=es1) (d:= .g [dB B,.s (dL x.added),.s (dL x.seqs)]) i (by rw[←hes1];exact YC _ hil) rfl (by rw[hl1];rfl) rfl (by rw[hes1'];rfl) rfl rfl ?_;simp only[sC,sN];refine Jrw (vs:=[.i (q+1+x.added.length),.l (dL (cnt (q+1) x.added.length))]) (Qg x.added (q+1) hx1 (by omega) (by omega)) rfl ?_ rfl ?_
  ·show [D.s (dL x.added),dI (i64.wrap (q+1))]=_;rw[e1]
  simp only[sC,sN];refine Jrs ?_ ?_
  ·show decide (((dL (cnt (q+1) x.added.length)).length:Int)=((dL x.added).length:Int))=true;rw[dL1,dL1,YR];simp
  generalize hes2:es1.set i (.g [dB B,.s (dL (cnt (q+1) x.added.length)),.s (dL x.seqs)])=es2;have hl2:es2.length=es.length:=by rw[←hes2];simp[hl1]
  refine Jrc (vs:=[.b B,.l (dL (cnt (q+1) x.added.length)),.l (dL x.seqs)]) (ds:=es2) (d:= .g [dB B,.s (dL (cnt (q+1) x.added.length)),.s (dL x.seqs)]) i (by rw[←hes2];exact YC _ (by omega)) rfl (by rw[hl2];rfl) rfl (by rw[←hes2,hes1'];rfl) rfl rfl ?_;simp only[sC,sN];refine Jrw (vs:=[.i (q+1+x.added.length+x.seqs.length),.l (dL (cnt (q+1+x.added.length) x.seqs.length))]) (Qg x.seqs (q+1+x.added.length) hx2 (by omega) (by omega)) rfl rfl rfl ?_;simp only[sC,sN];refine Jrs ?_ ?_
  ·show decide (((dL (cnt (q+1+x.added.length) x.seqs.length)).length:Int)=((dL x.seqs).length:Int))=true;rw[dL1,dL1,YR];simp
  refine Jrq ?_ rfl;show [V.l (((es.set i (.g [dB (decide (q.tmod 3=0)),.s (dL x.added),.s (dL x.seqs)])).set i (.g [dB B,.s (dL (cnt (q+1) x.added.length)),.s (dL x.seqs)])).set i (.g [dB B,.s (dL (cnt (q+1) x.added.length)),.s (dL (cnt (q+1+x.added.length) x.seqs.length))])),V.i (q+1+x.added.length+x.seqs.length),V.i (i64.wrap ((i:Int)+1))]=_;rw[wS' (by omega),List.set_set,List.set_set,show q+1+(x.added.length:Int)+x.seqs.length=q+(x.w:Nat) by rw[hw];push_cast;omega,←hB];rfl
theorem Jdk (l:List Got) (k:Int) (hl:l.length≤2000000) (ht :∀d∈l,d.added.length≤2000000∧d.seqs.length≤2000000) (h0:0≤k) (h1:k+wts Got.w l≤1000000000000) :
  Ev L f_k5k [.s (dGs (JY Got.w Got.mk' k l)),dI k] [dI (k+wts Got.w l)] :=
 ZZ Got.g Got.w Got.mk' l k L_k5k rfl h0 h1 hl fun v1 es i x q hx hxi hi hq0 hq1=>by
  obtain⟨hx1,hx2⟩:=ht x hx;have hw:x.w=1+x.added.length+x.seqs.length:=rfl;have e1:i64.wrap (q+1)=q+1:=w64 (by omega) (by omega);refine Jrd (vs:=[.b (decide (q.tmod 3=0)),.l (dL (cnt (q+1) x.added.length)),.l (dL (cnt (q+1+x.added.length) x.seqs.length))]) i hxi rfl rfl rfl rfl ?_;refine Jrs rfl ?_;refine Jra (by show (!(decide (q.tmod 3=0) == decide (q.tmod 3=0)))=false;simp) ?_;refine Jrd (vs:=[.b (decide (q.tmod 3=0)),.l (dL (cnt (q+1) x.added.length)),.l (dL (cnt (q+1+x.added.length) x.seqs.length))]) i hxi rfl rfl rfl rfl ?_;simp only[sC,sN];refine Jrw (vs:=[.i (q+1+x.added.length)]) (X6 (q+1) x.added.length hx1 (by omega) (by omega)) rfl ?_ rfl ?_
  ·show [D.s (dL (cnt (q+1) x.added.length)),dI (i64.wrap (q+1))]=_;rw[e1]
  simp only[sC,sN];refine Jra (by show decide (q+1+(x.added.length:Int)<0)=false;rw[decide_eq_false];omega) ?_;refine Jrd (vs:=[.b (decide (q.tmod 3=0)),.l (dL (cnt (q+1) x.added.length)),.l (dL (cnt (q+1+x.added.length) x.seqs.length))]) i hxi rfl rfl rfl rfl ?_;simp only[sC,sN];refine Jrw (vs:=[.i (q+1+x.added.length+x.seqs.length)]) (X6 (q+1+x.added.length) x.seqs.length hx2 (by omega) (by omega)) rfl rfl rfl ?_;simp only[sC,sN];refine Jra (by show decide (q+1+(x.added.length:Int)+x.seqs.length<0)=false;rw[decide_eq_false];omega) ?_;refine Jrq ?_ rfl;show [V.i (q+1+x.added.length+x.seqs.length),V.i (i64.wrap ((i:Int)+1))]=_;rw[wS' (by omega),show q+1+(x.added.length:Int)+x.seqs.length=q+(x.w:Nat) by rw[hw];push_cast;omega]
structure Clk where
 up:Bool
 round:Int
 base:List Int
 done:List Don
 wants:List Cal
 got:List Got
 deriving DecidableEq
def Clk.cells (s:Clk):List D:=[dB s.up,dI s.round,.s (dL s.base),.s (dDs s.done),.s (dCs s.wants),.s (dGs s.got)]
structure QV (s:Clk):Prop where
 b:s.base.length≤2000000
 d:s.done.length≤2000000
 dt :∀d∈s.done,d.tells.length≤2000000
 c:s.wants.length≤2000000
 ct :∀d∈s.wants,d.args.length≤2000000
 g:s.got.length≤2000000
 gt :∀d∈s.got,d.added.length≤2000000∧d.seqs.length≤2000000
def JD (s:Clk):Nat:=s.base.length+wts Don.w s.done+wts Cal.w s.wants+wts Got.w s.got
def ZS (s:Clk):Clk:=⟨s.up,s.round,cnt 1 s.base.length,JY Don.w Don.mk' (1+s.base.length) s.done,JY Cal.w Cal.mk' (1+s.base.length+wts Don.w s.done) s.wants,JY Got.w Got.mk' (1+s.base.length+wts Don.w s.done+wts Cal.w s.wants) s.got⟩
theorem VZ (s:Clk) (hs:QV s):Ev L f_k51 (s.cells++s.cells) [dB true]:=by
 refine JrA (vs:=[.b s.up,.i s.round,.l (dL s.base),.l (dDs s.done),.l (dCs s.wants),.l (dGs s.got),.b s.up,.i s.round,.l (dL s.base),.l (dDs s.done),.l (dCs s.wants),.l (dGs s.got)]) L_k51 rfl ?_;have h1:=Xv s.base s.base hs.b;have h2:=JdX s.done s.done hs.d hs.dt;have h3:=V5 s.wants s.wants hs.c hs.ct;have h4:=Jfp s.got s.got hs.g hs.gt;rw[decide_eq_true rfl] at h1 h2 h3 h4;refine Jra (by show (!(s.up == s.up))=false;simp) ?_;refine Jra (by show (!decide (s.round=s.round))=false;simp) ?_;refine Jrw h1 rfl rfl rfl (Jra rfl ?_);refine Jrw h2 rfl rfl rfl (Jra rfl ?_);refine Jrw h3 rfl rfl rfl (Jra rfl ?_);exact Jrw h4 rfl rfl rfl (Jra rfl (JqZ rfl))
theorem JbU (s:Clk) (hs:QV s) (hw:JD s≤10000000000):Ev L f_k5f (s.cells++[dI 1]) [dI (1+JD s),.s (dL (ZS s).base),.s (dDs (ZS s).done),.s (dCs (ZS s).wants),.s (dGs (ZS s).got)]:=by
 unfold JD at hw;refine JrA (vs:=[.b s.up,.i s.round,.l (dL s.base),.l (dDs s.done),.l (dCs s.wants),.l (dGs s.got),.i 1]) L_k5f rfl ?_;refine Jrw (Qg s.base 1 hs.b (by omega) (by omega)) rfl rfl rfl ?_;refine Jrw (Um s.done (1+s.base.length) hs.d hs.dt (by omega) (by omega)) rfl rfl rfl ?_;refine Jrw (Y4 s.wants (1+s.base.length+wts Don.w s.done) hs.c hs.ct (by omega) (by omega)) rfl rfl rfl ?_;refine Jrw (Vl s.got (1+s.base.length+wts Don.w s.done+wts Cal.w s.wants) hs.g hs.gt (by omega) (by omega)) rfl rfl rfl ?_;refine JqZ ?_;show [dI (1+s.base.length+wts Don.w s.done+wts Cal.w s.wants+wts Got.w s.got),_,_,_,_]=_;rw[show (1:Int)+s.base.length+wts Don.w s.done+wts Cal.w s.wants+wts Got.w s.got=1+JD s by unfold JD;push_cast;omega];rfl
theorem JbL (s:Clk) (hs:QV s) (hw:JD s≤10000000000):Ev L f_k5l ((ZS s).cells++[dI 1]) [dI (1+JD s)]:=by
 unfold JD at hw;refine JrA (vs:=[.b s.up,.i s.round,.l (dL (ZS s).base),.l (dDs (ZS s).done),.l (dCs (ZS s).wants),.l (dGs (ZS s).got),.i 1]) L_k5l rfl ?_;refine Jrw (X6 1 s.base.length hs.b (by omega) (by omega)) rfl rfl rfl ?_;refine Jra (by show decide (1+(s.base.length:Int)<0)=false;rw[decide_eq_false];omega) ?_;refine Jrw (JbN s.done (1+s.base.length) hs.d hs.dt (by omega) (by omega)) rfl rfl rfl ?_;refine Jra (by show decide (1+(s.base.length:Int)+wts Don.w s.done<0)=false;rw[decide_eq_false];omega) ?_;refine Jrw (Uq s.wants (1+s.base.length+wts Don.w s.done) hs.c hs.ct (by omega) (by omega)) rfl rfl rfl ?_;refine Jra (by show decide (1+(s.base.length:Int)+wts Don.w s.done+wts Cal.w s.wants<0)=false;rw[decide_eq_false];omega) ?_;refine Jrw (Jdk s.got (1+s.base.length+wts Don.w s.done+wts Cal.w s.wants) hs.g hs.gt (by omega) (by omega)) rfl rfl rfl ?_;refine Jra (by show decide (1+(s.base.length:Int)+wts Don.w s.done+wts Cal.w s.wants+wts Got.w s.got<0)=false;rw[decide_eq_false];omega) (JqZ ?_);show [dI (1+s.base.length+wts Don.w s.done+wts Cal.w s.wants+wts Got.w s.got)]=_;rw[show (1:Int)+s.base.length+wts Don.w s.done+wts Cal.w s.wants+wts Got.w s.got=1+JD s by unfold JD;push_cast;omega]
def Xf:Got:=⟨false,[],[]⟩
theorem Jlo (p:Pln) (hg:p.gives.length≤2000000):Ev L f_k23 p.cells [.s (dGs (List.replicate p.gives.length Xf))]:=by
 refine JrA (vs:=[.i p.n,.l (Jf p.acts),.l (dL p.gives),.l (dL p.start)]) L_k23 rfl ?_;refine Jq0 p.gives.length (fun i=>[.l (dGs (List.replicate i Xf)),.i i]) (fun _=>True) rfl rfl trivial fun i hi _=>?_;simp only[sC,sN];have hl:(dGs (List.replicate i Xf)).length=i:=by simp[dGs]
 refine Jru i (dL1 p.gives) rfl (fun h=>?_) (fun h=>Jrg (JqZ ?_))
 ·refine Jrk (dGs (List.replicate i Xf)) 2000000 (by omega) (by omega) rfl ?_;refine Jrq (vs:=[.l (dGs (List.replicate (i+1) Xf)),.i ((i+1:Nat):Int)]) ?_ ⟨h,rfl,trivial⟩;show [V.l (dGs (List.replicate i Xf)++[Got.g Xf]),V.i (i64.wrap ((i:Int)+1))]=_;rw[wS h (by omega),List.replicate_succ'];simp[dGs]
 ·show [D.s (dGs (List.replicate i Xf))]=_;rw[show i=p.gives.length by omega]
/- The program's LocTry answers as the reference's: over residual programs. -/
end Go.Proofs.YtgpjnnkmmplicabGreatDoor
/- Marks,and what is held,of plans,sites and clients: over residual programs. Printed by wip/tools/pzl.py. -/
namespace Go.Proofs.YtgpjnnkmmplicabGreatDoor
open Go Go.Tm
open Go.IntKind (i64)
def Sit.w (s:Sit):Nat:=3+s.base.length+s.added.length+wts Don.w s.done
def Sit.mk' (q:Int) (s:Sit):Sit:=⟨decide (q.tmod 3=0),decide ((q+1).tmod 3=0),q+1+1,cnt (q+1+1+1) s.base.length,cnt (q+1+1+1+s.base.length) s.added.length,
 JY Don.w Don.mk' (q+1+1+1+s.base.length+s.added.length) s.done⟩
def Sit.g (s:Sit):D:= .g s.cells
structure Con where
 seq:Int
 busy:Bool
 call:Cal
 code:Int
 tells:List Int
 deriving DecidableEq
def Con.cells (s:Con):List D:=[dI s.seq,dB s.busy,dI s.call.client,dI s.call.seq,dI s.call.act,.s (dL s.call.args),dI s.code,.s (dL s.tells)]
def Con.g (s:Con):D:= .g s.cells
def Con.w (s:Con):Nat:=6+s.call.args.length+s.tells.length
def Con.mk' (q:Int) (s:Con):Con:=⟨q,decide ((q+1).tmod 3=0),⟨q+1+1,q+1+1+1,q+1+1+1+1,cnt (q+1+1+1+1+1) s.call.args.length⟩,q+1+1+1+1+1+s.call.args.length,
 cnt (q+1+1+1+1+1+s.call.args.length+1) s.tells.length⟩
/- The program's WldNew answers as the reference's: over residual programs. -/
def JnS (q:Int) (s:Clk):Clk:=⟨s.up,s.round,cnt q s.base.length,JY Don.w Don.mk' (q+s.base.length) s.done,JY Cal.w Cal.mk' (q+s.base.length+wts Don.w s.done) s.wants,JY Got.w Got.mk' (q+s.base.length+wts Don.w s.done+wts Cal.w s.wants) s.got⟩
theorem Jeb (s:Clk) (hs:QV s) (k:Int) (h0:0≤k) (hw:k+JD s≤1000000000000):Ev L f_k5f (s.cells++[dI k]) [dI (k+JD s),.s (dL (JnS k s).base),.s (dDs (JnS k s).done),.s (dCs (JnS k s).wants),.s (dGs (JnS k s).got)]:=by
 unfold JD at hw;refine JrA (vs:=[.b s.up,.i s.round,.l (dL s.base),.l (dDs s.done),.l (dCs s.wants),.l (dGs s.got),.i k]) L_k5f rfl ?_;refine Jrw (Qg s.base k hs.b (by omega) (by omega)) rfl rfl rfl ?_;refine Jrw (Um s.done (k+s.base.length) hs.d hs.dt (by omega) (by omega)) rfl rfl rfl ?_;refine Jrw (Y4 s.wants (k+s.base.length+wts Don.w s.done) hs.c hs.ct (by omega) (by omega)) rfl rfl rfl ?_;refine Jrw (Vl s.got (k+s.base.length+wts Don.w s.done+wts Cal.w s.wants) hs.g hs.gt (by omega) (by omega)) rfl rfl rfl ?_;refine JqZ ?_;show [dI (k+s.base.length+wts Don.w s.done+wts Cal.w s.wants+wts Got.w s.got),_,_,_,_]=_;rw[show k+s.base.length+wts Don.w s.done+wts Cal.w s.wants+wts Got.w s.got=k+JD s by unfold JD;push_cast;omega];rfl
/- Results as texts: which of them are ok. -/
def J5 (c:Int) (t:List Int):Bool:=inB c 1 3&&(decide (t.length≤6)&&((decide (c=1)||t.isEmpty)&&JE t.length 999999999999 t))
theorem YF {c:Int} {t:List Int}:J5 c t=true↔(1≤c∧c≤3)∧t.length≤6∧(c=1∨t=[])∧Lim 999999999999 t:=by
 unfold J5 inB;simp only[JrE,Bool.or_eq_true,decide_eq_true_eq,List.isEmpty_iff,JB];exact⟨fun h=>⟨h.1,h.2.1,h.2.2.1,h.2.2.2.2⟩,fun h=>⟨h.1,h.2.1,h.2.2.1,trivial,h.2.2.2⟩⟩
def J1:List (List UInt8):=[[],[100,111,110,101],[115,116,111,112,112,101,100],[111,118,101,114]]
def KP (c:Int) (t:List Int):List UInt8:=if J5 c t then J1.getD c.toNat []++J4 t else []
theorem Jp1 (a b:List UInt8):(⟨a.toArray⟩:ByteArray)++⟨b.toArray⟩=⟨(a++b).toArray⟩:=by
 apply ByteArray.ext;simp
theorem Jb5 {a b:List UInt8} (h:a.length+b.length≤1000000):ZC .cat [Qx a,Qx b]=some (Qx (a++b)):=by
 show (if(⟨a.toArray⟩:ByteArray).size+(⟨b.toArray⟩:ByteArray).size≤2 ^ 62 then some (D.v (.string ((⟨a.toArray⟩:ByteArray)++⟨b.toArray⟩))) else none)=_;rw[if_pos,Jp1]
 ·rfl
 show a.toArray.size+b.toArray.size≤2 ^ 62;simp only[List.size_toArray];omega
theorem Jkn (a b:List UInt8):ZC .seq [Qx a,Qx b]=some (dB (a == b)):=by
 show some (D.v (.bool ((⟨a.toArray⟩:ByteArray).toList == (⟨b.toArray⟩:ByteArray).toList)))=_;rw[ByteArray.toList_mk,ByteArray.toList_mk]
theorem JcW (t:List Int) (hl:Lim 999999999999 t):(J4 t).length≤22*t.length:=by
 induction t with
 | nil=>simp[J4]
 | cons n l ih =>
  have h1:=hl n (by simp);have h2:=Lib.itoa_length_le n (by omega) (by omega);have h3:=ih fun m hm=>hl m (by simp[hm]);simp only[J4,List.flatMap_cons,JrK,List.length_cons] at h3 ⊢;omega
theorem Jfq {c:Int} (h:inB c 1 3=true):J1[c.toNat]? = some (J1.getD c.toNat [])∧J1.getD c.toNat []≠[]∧(J1.getD c.toNat []).length≤7:=by
 unfold inB at h;simp only[JrE,decide_eq_true_eq] at h;rcases (show c=1∨c=2∨c=3 by omega) with rfl | rfl | rfl <;> exact⟨rfl,by decide,by decide⟩
theorem Jcq (c:Int) (t:List Int):(KP c t == []) = !J5 c t:=by
 unfold KP;split
 ·rename_i h;have hin:inB c 1 3=true:=by unfold J5 at h;simp only[JrE] at h;exact h.1
  have:=(Jfq hin).2.1;rw[h];have h2:J1.getD c.toNat []++J4 t≠[]:=fun e=>this (List.append_eq_nil_iff.1 e).1;generalize J1.getD c.toNat []++J4 t=l at h2;cases l with
  | nil=>exact absurd rfl h2
  | cons x l=>rfl
 ·rename_i h;simp[h]
theorem Jes (t:List Int) (h6:t.length≤6) (hl:Lim 999999999999 t):Ev L f_k3o [.s (dL t)] [Qx (J4 t)]:=by
 refine JrC L_k3o ?_;show (if(dL t).length≤4096 then((dL t).mapM JbO).map fun l=>[Qx (J4 l)] else none)=_;have e:(dL t).mapM JbO=some t:=Jbm fun n hn=>by have:=hl n hn;omega
 rw[if_pos (by rw[dL1];omega),e];rfl
theorem Jaw:Ev L f_k3n [] [.s (J1.map Qx)] :=
 JrA (vs:=[]) L_k3n rfl (JqZ rfl)
theorem Jhs (c:Int) (t:List Int) (ht:t.length≤2000000):Ev L f_k3p [dI c,.s (dL t)] [Qx (KP c t)]:=by
 refine JrA (vs:=[.i c,.l (dL t)]) L_k3p rfl ?_;have no:J5 c t=false→([Qx []]:List D)=[Qx (KP c t)]:=fun h=>by simp[KP,h]
 refine Jrw (X2 c 1 3) rfl rfl rfl ?_;refine Jrm (inB c 1 3) rfl (fun h=>JqZ (no (by simp[J5,h]))) (fun h1=>?_);refine Jrx (6<((dL t).length:Int)) rfl (fun h=>JqZ (no ?_)) (fun h2=>?_)
 ·rw[dL1] at h;simp only[J5,show ¬t.length≤6 by omega,decide_false,Bool.false_and,Bool.and_false]
 rw[dL1] at h2;obtain⟨w1,_,w3⟩:=Jfq h1;have hidx:(J1.map Qx)[c.toNat]? = some (Qx (J1.getD c.toNat [])):=by rw[JrZ,w1];rfl
 have hc0:0≤c:=by unfold inB at h1;simp only[JrE,decide_eq_true_eq] at h1;omega
 have hc4:c<((J1.map Qx).length:Int):=by unfold inB at h1;simp only[JrE,decide_eq_true_eq] at h1;show c<4;omega
 have hwn:=Q4 t t.length 999999999999 ht (by omega) (by omega);refine Jrm (decide (c=1)) rfl (fun h3=>?_) (fun h3=>?_)
 ·refine Jrx (0<((dL t).length:Int)) rfl (fun h=>JqZ (no ?_)) (fun h4=>?_)
  ·rw[dL1] at h;have:t.isEmpty=false:=by cases t with
    | nil=>simp at h
    | cons x t=>rfl
   simp only[J5,h3,this,Bool.or_false,Bool.false_and,Bool.and_false]
  ·rw[dL1] at h4;have h4:t=[]:=List.length_eq_zero_iff.1 (by omega);refine Jrw hwn rfl (by show [D.s (dL t),dI ((dL t).length:Int),dI 999999999999]=_;rw[dL1]) rfl ?_;refine Jrm (JE t.length 999999999999 t) rfl (fun h=>JqZ (no (by simp only[J5,h,Bool.and_false]))) (fun h5=>?_);have hl:=(JB.1 h5).2;have hj:=JcW t hl;have hok:J5 c t=true:=by simp only[J5,h1,h5,h4,List.length_nil,List.isEmpty_nil,Bool.or_true,JrY];simp[JE]
   have e:Qx (KP c t)=Qx (J1.getD c.toNat []++J4 t):=by simp only[KP,hok,if_true]
   rw[e];refine Jrw Jaw rfl rfl rfl ?_;refine Jq7 (0≤c) rfl hc0 (Jq7 (c<((J1.map Qx).length:Int)) rfl hc4 ?_);refine Jq9 (ds:=J1.map Qx) c rfl rfl rfl hc0 hidx rfl ?_;refine Jrw (Jes t (by omega) hl) rfl rfl rfl ?_;refine Jrl rfl (Jb5 (by omega)) rfl (JqZ rfl)
 ·refine Jrw hwn rfl (by show [D.s (dL t),dI ((dL t).length:Int),dI 999999999999]=_;rw[dL1]) rfl ?_;refine Jrm (JE t.length 999999999999 t) rfl (fun h=>JqZ (no (by simp only[J5,h,Bool.and_false]))) (fun h5=>?_);have hl:=(JB.1 h5).2;have hj:=JcW t hl;have hok:J5 c t=true:=by simp only[J5,h1,h5,h3,Bool.true_or,JrY,Bool.and_true];simp;omega
  have e:Qx (KP c t)=Qx (J1.getD c.toNat []++J4 t):=by simp only[KP,hok,if_true]
  rw[e];refine Jrw Jaw rfl rfl rfl ?_;refine Jq7 (0≤c) rfl hc0 (Jq7 (c<((J1.map Qx).length:Int)) rfl hc4 ?_);refine Jq9 (ds:=J1.map Qx) c rfl rfl rfl hc0 hidx rfl ?_;refine Jrw (Jes t (by omega) hl) rfl rfl rfl ?_;refine Jrl rfl (Jb5 (by omega)) rfl (JqZ rfl)
theorem Jle (c:Int) (t:List Int) (ht:t.length≤2000000):Ev L f_k3q [dI c,.s (dL t)] [dB (J5 c t)]:=by
 refine JrA (vs:=[.i c,.l (dL t)]) L_k3q rfl ?_;refine Jrw (Jhs c t ht) rfl rfl rfl ?_;refine Jrl rfl (Jkn (KP c t) []) rfl (JqZ ?_);show [dB (!(KP c t == []))]=_;rw[Jcq,Bool.not_not]
/- What does not come to its end turns nothing: over residual programs. -/
theorem JnE (v x t:List Int) (hv:v.length≤2000000) (hx:x.length≤2000000):Ev L f_k21 [.s (dL v),.s (dL x),.s (dL t)] (Res.ds (Je6 v x t)):=by
 refine JrA (vs:=[.l (dL v),.l (dL x),.l (dL t)]) L_k21 rfl ?_;refine Jrw (Kv x hx) rfl rfl rfl ?_;unfold Je6;refine Jrm (J3 x) rfl (fun h=>?_) (fun h=>JqZ ?_)
 ·rw[h,if_neg (by simp)];refine Jre (dL v) 2000000 (by rw[dL1];omega) (by omega) rfl ?_;refine Jro (Yl v) ?_;refine Jre (dL v) 2000000 (by rw[dL1];omega) (by omega) rfl (JqZ rfl)
 ·rw[h];rfl
theorem Jjh (a:List Jc) (v w:List Int) (ha:Ym a) (hv:v.length≤2000000) (hw:w.length≤2000000):Ev L f_k22 [.s (Ji a),.s (dL v),.s (dL w)] (Res.ds (Xo a v w)):=by
 refine JrA (vs:=[.l (Ji a),.l (dL v),.l (dL w)]) L_k22 rfl ?_;have none:(Qh a&&(J3 v&&XN w))=false→Xo a v w=⟨0,[],[]⟩:=fun h=>by simp[Xo,h]
 refine Jrw (JcN a ha) rfl rfl rfl ?_;refine Jrm (Qh a) rfl (fun h=>JqZ ?_) (fun h=>?_)
 ·rw[none (by simp[h])];rfl
 refine Jrw (Kv v hv) rfl rfl rfl ?_;refine Jrm (J3 v) rfl (fun h2=>JqZ ?_) (fun h2=>?_)
 ·rw[none (by simp[h2])];rfl
 refine Jrw (JnK w hw) rfl rfl rfl ?_;refine Jrm (XN w) rfl (fun h3=>JqZ ?_) (fun h3=>?_)
 ·rw[none (by simp[h3])];rfl
 have hrun:Xo a v w=run v w a v []:=by simp[Xo,h,h2,h3]
 rw[hrun];obtain⟨v1,v2⟩:=Q3.1 h2;obtain⟨w1,w2⟩:=X9.1 h3;obtain⟨a1,a2⟩:=ZK h;refine Jre (dL v) 2000000 (by rw[dL1];omega) (by omega) rfl ?_;refine Jro (Yl v) ?_;refine Jre (dL v) 2000000 (by rw[dL1];omega) (by omega) rfl ?_;simp only[sC,sN];refine Jrr (fun m vs=>∃ (i:Int) (x t:List Int) (j:Nat),vs=[.l (dL t),.l (dL x),.i i]∧0≤i∧i≤20∧m=a.length-i.toNat∧(j:Int)≤i∧j≤6∧x.length=3∧Lim (XB j) x∧t.length≤j∧run v w (a.drop i.toNat) x t=run v w a v []) rfl a.length
  ⟨0,v,[],0,rfl,by omega,by omega,by simp,by omega,by omega,v1,v2,by simp,by simp⟩ ?_
 rintro m _ ⟨i,x,t,j,rfl,i0,i20,hm,hji,hj6,hx,hl,ht,hr⟩;rw[←hr];clear hr;simp only[sC,sN];have hX0:=Jc6 j;have hXl:=Jnp hj6;refine Jrx (i<((Ji a).length:Int)) rfl (fun hi=>?_) (fun hi=>?_)
 ·rw[JU] at hi;obtain⟨l,hla,hd⟩:=Vm i0 hi;have hok:=a2 l (JrL hla);have hdr:=Ya hla;have hs1:(i+1).toNat=i.toNat+1:=by omega
  refine Jq9 (ds:=Ji a) i rfl rfl rfl i0 hd rfl ?_;simp only[sC,sN];have hlx:Lim 2000000000 x:=hl.mono hXl;have hrn : ¬l.kind=4→run v w (a.drop i.toNat) x t=if l.kind=1 then(if atF l.f x w<0 then run v w (a.drop (i+l.skip+1).toNat) x t else run v w (a.drop (i+1).toNat) x t)
    else if l.kind=2 then run v w (a.drop (i+1).toNat) (x.set l.pot.toNat (x.getD l.pot.toNat 0+atF l.f x w)) t else run v w (a.drop (i+1).toNat) x (t++[atF l.f x w]):=fun h4=>by
   rw[hdr,run,if_neg h4,hs1]
   by_cases h1:l.kind=1
   ·have hsk:=VG hok h1;rw[if_pos h1,if_pos h1,List.drop_drop,show i.toNat+1+l.skip.toNat=(i+l.skip+1).toNat by omega]
   ·rw[if_neg h1,if_neg h1]
  have hat:=fun h4 : ¬l.kind=4=>JpP (VT.small (QS hok h4) hx hlx h3);have hb:=fun h4 : ¬l.kind=4=>Jc8 (QS hok h4) hl w2 hX0;refine Jrx (l.kind=1) rfl (fun h1=>?_) (fun h1=>?_)
  ·have h4 : ¬l.kind=4:=by omega
   have hat:=hat h4;rw[hrn h4,if_pos h1];have hsk:=VG hok h1;refine Jrw hat rfl rfl rfl ?_;simp only[sC,sN];generalize atF l.f x w=n at *;refine Jrx (n<0) rfl (fun hn=>?_) (fun hn=>?_)
   ·rw[if_pos hn];refine Jrq (vs:=[.l (dL t),.l (dL x),.i (i+l.skip+1)]) ?_ ⟨a.length-(i+l.skip+1).toNat,by omega,i+l.skip+1,x,t,j,rfl,by omega,by omega,rfl,by omega,by omega,hx,hl,ht,rfl⟩;show [V.l (dL t),V.l (dL x),V.i (i64.wrap (i64.wrap (i+l.skip)+1))]=_;rw[w64 (n:=i+l.skip) (by omega) (by omega),w64 (by omega) (by omega)]
   ·rw[if_neg hn];refine Jrq (vs:=[.l (dL t),.l (dL x),.i (i+1)]) ?_ ⟨a.length-(i+1).toNat,by omega,i+1,x,t,j,rfl,by omega,by omega,rfl,by omega,by omega,hx,hl,ht,rfl⟩;show [V.l (dL t),V.l (dL x),V.i (i64.wrap (i+1))]=_;rw[w64 (by omega) (by omega)]
  refine Jrx (l.kind=2) rfl (fun h2'=>?_) (fun h2'=>?_)
  ·have h4 : ¬l.kind=4:=by omega
   have hat:=hat h4;have hb:=hb h4;rw[hrn h4,if_neg h1,if_pos h2'];have hj5:j<6:=by omega
   have hpt:=JcV hok h2';have hxp:=Vv (l:=x) (i:=l.pot.toNat) (by omega);have hdx:(dL x)[l.pot.toNat]? = some (dI (x.getD l.pot.toNat 0)):=mA1 (f:=dI) hxp;have hlp:=hl _ (JrL hxp);generalize atF l.f x w=n at *;generalize x.getD l.pot.toNat 0=y at *;refine Jq7 (0≤l.pot) rfl hpt.1 ?_;refine Jq7 (l.pot<((dL x).length:Int)) rfl (by rw[dL1];omega) ?_;refine Jq9 (ds:=dL x) l.pot rfl rfl rfl hpt.1 hdx rfl ?_;simp only[sC,sN];refine Jrw hat rfl rfl rfl ?_;simp only[sC,sN];refine Jq7 (0≤l.pot) rfl hpt.1 ?_;refine Jq7 (l.pot<((dL x).length:Int)) rfl (by rw[dL1];omega) ?_;refine Jq9 (ds:=dL x) l.pot rfl rfl rfl hpt.1 hdx rfl ?_;simp only[sC,sN];have hstep:XB (j+1)=7*XB j+60:=rfl;refine Jrq (vs:=[.l (dL t),.l (dL (x.set l.pot.toNat (y+n))),.i (i+1)]) ?_ ⟨a.length-(i+1).toNat,by omega,i+1,x.set l.pot.toNat (y+n),t,j+1,rfl,by omega,by omega,rfl,by omega,by omega,by simp[hx],(hl.mono (Vn (by omega))).set (by omega) _,by omega,rfl⟩;show [V.l (dL t),V.l ((dL x).set l.pot.toNat (dI (i64.wrap (y+n)))),V.i (i64.wrap (i+1))]=_;rw[w64 (n:=i+1) (by omega) (by omega),w64 (by omega) (by omega),Kk]
  refine Jrx (l.kind=3) rfl (fun h3'=>?_) (fun h3'=>?_)
  ·have h4 : ¬l.kind=4:=by omega
   have hat:=hat h4;have hj5:j<6:=by omega
   rw[hrn h4,if_neg h1,if_neg h2'];refine Jrw hat rfl rfl rfl ?_;simp only[sC,sN];generalize atF l.f x w=n at *;refine Jrk (dL t) 10 (by rw[dL1];omega) (by omega) rfl ?_;refine Jrq (vs:=[.l (dL (t++[n])),.l (dL x),.i (i+1)]) ?_ ⟨a.length-(i+1).toNat,by omega,i+1,x,t++[n],j+1,rfl,by omega,by omega,rfl,by omega,by omega,hx,hl.mono (Vn (by omega)),by simp;omega,rfl⟩;show [V.l (dL t++[dI n]),V.l (dL x),V.i (i64.wrap (i+1))]=_;rw[w64 (by omega) (by omega),Jb9]
  ·have h4:l.kind=4:=by
    by_cases h4:l.kind=4
    ·exact h4
    ·exact absurd (JkC hok h1 h2' h4) h3'
   rw[hdr,run,if_pos h4];refine Jre (dL v) 2000000 (by rw[dL1];omega) (by omega) rfl ?_;refine Jro (Yl v) ?_;refine Jre (dL v) 2000000 (by rw[dL1];omega) (by omega) rfl (Jrg (JqZ rfl))
 ·rw[JU] at hi;rw[List.drop_eq_nil_of_le (by omega),run];refine Jrg ?_;exact Jrw (JnE v x t hv (by omega)) rfl rfl rfl (JqZ rfl)
def JkD (v:List Int) (r:Res):Prop:=(r.code=1∧J3 r.is=true∧r.tells.length≤6∧Lim 999999999999 r.tells)∨(r.is=v∧r.tells=[]∧(r.code=2∨r.code=3))
theorem Vc {v w:List Int} (hw:Lim 9 w) :∀(n:Nat) (a:List Jc) (x t:List Int) (j:Nat),a.length≤n→(∀l∈a,l.ok=true)→j+a.length≤6→x.length=3→Lim (XB j) x→t.length≤j→Lim 999999999999 t→JkD v (run v w a x t)
 | n,[],x,t,j,_,_,hj,hx,hl,ht,hlt=>by
  rw[run];unfold Je6;split
  ·rename_i h;exact .inl ⟨rfl,h,by simp at hj;show t.length≤6;omega,hlt⟩
  ·exact .inr ⟨rfl,rfl,.inr rfl⟩
 | 0,l::a,x,t,j,h,_,_,_,_,_,_=>by simp at h
 | n+1,l::a,x,t,j,h,hok,hj,hx,hl,ht,hlt=>by
  have hok1:=hok l (by simp);have hok2 :∀l∈a,l.ok=true:=fun m hm=>hok m (by simp[hm]);simp only[List.length_cons] at h hj;rw[run];split
  ·exact .inr ⟨rfl,rfl,.inl rfl⟩
  ·rename_i h4;have hX0:=Jc6 j;have hXl:=Jnp (n:=j) (by omega);have hb:=Jc8 (QS hok1 h4) hl hw hX0;split
   ·split
    ·exact Vc hw n _ x t j (by simp;omega) (fun m hm=>hok2 m (List.mem_of_mem_drop hm)) (by simp;omega) hx hl ht hlt
    ·exact Vc hw n a x t j (by omega) hok2 (by omega) hx hl ht hlt
   ·split
    ·rename_i h2;have hpt:=JcV hok1 h2;have hxp:=Vv (l:=x) (i:=l.pot.toNat) (by omega);have hlp:=hl _ (JrL hxp);have hstep:XB (j+1)=7*XB j+60:=rfl;exact Vc hw n a _ t (j+1) (by omega) hok2 (by omega) (by simp[hx]) ((hl.mono (Vn (by omega))).set (by omega) _) (by omega) hlt
    ·refine Vc hw n a x _ (j+1) (by omega) hok2 (by omega) hx (hl.mono (Vn (by omega))) (by simp;omega) ?_;intro y hy;rcases JrJ.1 hy with h | h
     ·exact hlt y h
     ·simp only[JrW] at h;subst h;omega
theorem JiA {a:List Jc} {v w:List Int} (h1:Qh a=true) (h2:J3 v=true) (h3:XN w=true):JkD v (Xo a v w):=by
 obtain⟨v1,v2⟩:=Q3.1 h2;obtain⟨w1,w2⟩:=X9.1 h3;obtain⟨a1,a2⟩:=ZK h1;have hrun:Xo a v w=run v w a v []:=by simp[Xo,h1,h2,h3]
 rw[hrun];exact Vc w2 a.length a v [] 0 (by omega) a2 (by omega) v1 v2 (by simp) (fun x hx=>by simp at hx)
end Go.Proofs.YtgpjnnkmmplicabGreatDoor

import Derived.Test.YtgpjnnkmmplicabGreatDoorPZQ
set_option linter.unusedVariables false
set_option linter.unusedSimpArgs false
/- Sizes and copies of calls,of what was done,of sites,clerks and messages: over residual programs. -/
namespace Go.Proofs.YtgpjnnkmmplicabGreatDoor
open Go Go.Tm
open Go.IntKind (i64)
def szL {α:Type} (f:α→Nat) (l:List α):Nat:=l.length+(l.map f).sum
theorem Jdw {α:Type} (f:α→Nat) {l:List α} {i:Nat} {x:α} (h:l[i]? = some x):((l.take (i+1)).map f).sum=((l.take i).map f).sum+f x:=by rw[Q5 h];simp
theorem Ja5 {α:Type} (f:α→Nat) (l:List α) (i:Nat):szL f l=l.length+((l.take i).map f).sum+((l.drop i).map f).sum:=by
 unfold szL
 conv=>lhs;rw[←List.take_append_drop i l,List.map_append,List.sum_append,List.take_append_drop]
 omega
theorem JoN {α:Type} (f:α→Nat) (l:List α):l.length≤szL f l:=by unfold szL;omega
theorem JoR {α:Type} (f:α→Nat) {l:List α} {x:α} (h:x∈l):f x≤szL f l:=by
 have:f x≤(l.map f).sum:=by
  induction l with
  | nil=>simp at h
  | cons y l ih =>
   simp only[JrM,List.sum_cons];rcases JrX.1 h with rfl | h
   ·omega
   ·have:=ih h;omega
 unfold szL;omega
def JfL {α:Type} (f:α→Prop) (l:List α):Prop:=l.length≤9223372036854775807∧∀x∈l,f x
def Jf8 {α:Type} (f:α→Prop) (l:List α):Prop:=l.length≤2000000∧∀x∈l,f x
theorem JgH {α:Type} {f:α→Nat} {p:α→Prop} (hp :∀x,f x≤1048576→p x) {l:List α} (h:szL f l≤1048576):Jf8 p l :=
 ⟨by have:=JoN f l;omega,fun x hx=>hp x (by have:=JoR f hx;omega)⟩
def Qy (x:Cal):Nat:=x.args.length
def JaN (x:Cal):Prop:=x.args.length≤9223372036854775807
def UV (x:Cal):Prop:=x.args.length≤2000000
theorem Jl8 {x:Cal} (h:Qy x≤1048576):UV x:=by
 unfold Qy at h;exact by show _≤_;omega
def Qk (x:Don):Nat:=x.tells.length
def Ja9 (x:Don):Prop:=x.tells.length≤9223372036854775807
def Yn (x:Don):Prop:=x.tells.length≤2000000
theorem JlC {x:Don} (h:Qk x≤1048576):Yn x:=by
 unfold Qk at h;exact by show _≤_;omega
def QD (x:Got):Nat:=x.added.length+x.seqs.length
def JaM (x:Got):Prop:=x.added.length≤9223372036854775807∧x.seqs.length≤9223372036854775807
def Jfs (x:Got):Prop:=x.added.length≤2000000∧x.seqs.length≤2000000
theorem Jmb {x:Got} (h:QD x≤1048576):Jfs x:=by
 unfold QD at h;exact⟨by omega,by omega⟩
theorem JfA (x:Cal) (left:Int) (hb:JaN x) (h0:0≤left) (h1:left≤1048576):Ev L f_k9 (x.cells++[dI left]) [dI (dec left (Qy x))]:=by
 refine JrA (vs:=[.i x.client,.i x.seq,.i x.act,.l (dL x.args),.i left]) L_k9 rfl ?_;refine Jrw (XA x.args left hb h0 h1) rfl rfl rfl ?_;simp only[sC,sN];have hr0:=JH (n:=x.args.length) h0 h1;refine Jrx (dec left (x.args.length)<0) rfl (fun h=>JqZ ?_) (fun h=>JqZ rfl);show [dI (-1)]=[dI (dec left (Qy x))];have e:dec left (Qy x)=dec left (x.args.length):=rfl;rw[e,show dec left (x.args.length) = -1 by omega]
theorem Jd2 (l:List Cal) (left:Int) (hb:JfL JaN l) (h0:0≤left) (h1:left≤1048576):Ev L f_ka [.s (dCs l),dI left] [dI (dec left (szL Qy l))]:=by
 refine JrA (vs:=[.l (dCs l),.i left]) L_ka rfl ?_;have hlen:(dCs l).length=l.length:=by simp[dCs]
 have hl:=hb.1;have hw:i64.wrap (left-((dCs l).length:Int))=left-l.length:=by rw[hlen];exact w64 (by omega) (by omega)
 refine Jrx (left-(l.length:Int)<0) ?_ (fun h=>JqZ ?_) (fun h=>?_)
 ·show decide (i64.wrap (left-((dCs l).length:Int))<0)=_;rw[hw]
 ·show [dI (-1)]=_;unfold dec szL;rw[if_neg (by omega)]
 have hal:l.length≤1048576:=by omega
 refine Jq0 l.length (fun i=>[.i (dec left (l.length+((l.take i).map Qy).sum)),.i i]) (fun i=>¬dec left (l.length+((l.take i).map Qy).sum)<0) rfl ?_ ?_ fun i hi hp=>?_
 ·show [V.i (i64.wrap (left-((dCs l).length:Int))),V.i 0]=_;rw[hw];simp only[List.take_zero,List.map_nil,List.sum_nil,Nat.add_zero];unfold dec;rw[if_pos (by omega)];rfl
 ·simp only[List.take_zero,List.map_nil,List.sum_nil,Nat.add_zero];unfold dec;rw[if_pos (by omega)];omega
 simp only[sC,sN];have hr:=JH (n:=l.length+((l.take i).map Qy).sum) h0 h1;refine Jru i hlen rfl (fun h'=>?_) (fun h'=>Jrg (JqZ ?_))
 ·obtain⟨x,hx,hm⟩:=sA1 h';refine Jrd (vs:=[.i x.client,.i x.seq,.i x.act,.l (dL x.args)]) i (mA1 (f:=Cal.g) hx) rfl rfl rfl rfl ?_;simp only[sC,sN];refine Jrw (JfA x (dec left (l.length+((l.take i).map Qy).sum)) (hb.2 x hm) (by omega) (by omega)) rfl rfl rfl ?_;simp only[sC,sN];have e:=Xz (m:=Qy x) hp;rw[Nat.add_assoc,←Jdw Qy hx] at e;rw[e];refine Jrx (dec left (l.length+((l.take (i+1)).map Qy).sum)<0) rfl (fun h2=>Jrg (JqZ ?_)) (fun h2=>?_)
  ·show [dI (-1)]=_;rw[Ja5 Qy l (i+1),Y2 h2 h0]
  ·refine Jrq (vs:=[.i (dec left (l.length+((l.take (i+1)).map Qy).sum)),.i ((i+1:Nat):Int)]) ?_ ⟨h',rfl,h2⟩;rw[←wS h' (by omega)];rfl
 ·show [dI (dec left (l.length+((l.take i).map Qy).sum))]=_;rw[tA1 h'];rfl
theorem JdO (c:Int) (t:List Int) (left:Int) (hb:t.length≤9223372036854775807) (h0:0≤left) (h1:left≤1048576):Ev L f_k6 [dI c,.s (dL t),dI left] [dI (dec left t.length)]:=by
 refine JrA (vs:=[.i c,.l (dL t),.i left]) L_k6 rfl ?_;refine Jrw (XA t left hb h0 h1) rfl rfl rfl ?_;have hr:=JH (n:=t.length) h0 h1;refine Jrx (dec left t.length<0) rfl (fun h=>JqZ ?_) (fun h=>JqZ rfl);show [dI (-1)]=_;rw[show dec left t.length = -1 by omega]
theorem JfP (x:Don) (left:Int) (hb:Ja9 x) (h0:0≤left) (h1:left≤1048576):Ev L f_k7 (x.cells++[dI left]) [dI (dec left (Qk x))]:=by
 refine JrA (vs:=[.i x.seq,.i x.code,.l (dL x.tells),.i left]) L_k7 rfl ?_;refine Jrw (JdO x.code x.tells left hb h0 h1) rfl rfl rfl ?_;simp only[sC,sN];have hr0:=JH (n:=x.tells.length) h0 h1;refine Jrx (dec left (x.tells.length)<0) rfl (fun h=>JqZ ?_) (fun h=>JqZ rfl);show [dI (-1)]=[dI (dec left (Qk x))];have e:dec left (Qk x)=dec left (x.tells.length):=rfl;rw[e,show dec left (x.tells.length) = -1 by omega]
theorem Jee (l:List Don) (left:Int) (hb:JfL Ja9 l) (h0:0≤left) (h1:left≤1048576):Ev L f_k8 [.s (dDs l),dI left] [dI (dec left (szL Qk l))]:=by
 refine JrA (vs:=[.l (dDs l),.i left]) L_k8 rfl ?_;have hlen:(dDs l).length=l.length:=by simp[dDs]
 have hl:=hb.1;have hw:i64.wrap (left-((dDs l).length:Int))=left-l.length:=by rw[hlen];exact w64 (by omega) (by omega)
 refine Jrx (left-(l.length:Int)<0) ?_ (fun h=>JqZ ?_) (fun h=>?_)
 ·show decide (i64.wrap (left-((dDs l).length:Int))<0)=_;rw[hw]
 ·show [dI (-1)]=_;unfold dec szL;rw[if_neg (by omega)]
 have hal:l.length≤1048576:=by omega
 refine Jq0 l.length (fun i=>[.i (dec left (l.length+((l.take i).map Qk).sum)),.i i]) (fun i=>¬dec left (l.length+((l.take i).map Qk).sum)<0) rfl ?_ ?_ fun i hi hp=>?_
 ·show [V.i (i64.wrap (left-((dDs l).length:Int))),V.i 0]=_;rw[hw];simp only[List.take_zero,List.map_nil,List.sum_nil,Nat.add_zero];unfold dec;rw[if_pos (by omega)];rfl
 ·simp only[List.take_zero,List.map_nil,List.sum_nil,Nat.add_zero];unfold dec;rw[if_pos (by omega)];omega
 simp only[sC,sN];have hr:=JH (n:=l.length+((l.take i).map Qk).sum) h0 h1;refine Jru i hlen rfl (fun h'=>?_) (fun h'=>Jrg (JqZ ?_))
 ·obtain⟨x,hx,hm⟩:=sA1 h';refine Jrd (vs:=[.i x.seq,.i x.code,.l (dL x.tells)]) i (mA1 (f:=Don.g) hx) rfl rfl rfl rfl ?_;simp only[sC,sN];refine Jrw (JfP x (dec left (l.length+((l.take i).map Qk).sum)) (hb.2 x hm) (by omega) (by omega)) rfl rfl rfl ?_;simp only[sC,sN];have e:=Xz (m:=Qk x) hp;rw[Nat.add_assoc,←Jdw Qk hx] at e;rw[e];refine Jrx (dec left (l.length+((l.take (i+1)).map Qk).sum)<0) rfl (fun h2=>Jrg (JqZ ?_)) (fun h2=>?_)
  ·show [dI (-1)]=_;rw[Ja5 Qk l (i+1),Y2 h2 h0]
  ·refine Jrq (vs:=[.i (dec left (l.length+((l.take (i+1)).map Qk).sum)),.i ((i+1:Nat):Int)]) ?_ ⟨h',rfl,h2⟩;rw[←wS h' (by omega)];rfl
 ·show [dI (dec left (l.length+((l.take i).map Qk).sum))]=_;rw[tA1 h'];rfl
theorem JhC (x:Got) (left:Int) (hb:JaM x) (h0:0≤left) (h1:left≤1048576):Ev L f_kb (x.cells++[dI left]) [dI (dec left (QD x))]:=by
 refine JrA (vs:=[.b x.has,.l (dL x.added),.l (dL x.seqs),.i left]) L_kb rfl ?_;refine Jrw (XA x.added left hb.1 h0 h1) rfl rfl rfl ?_;simp only[sC,sN];have hr0:=JH (n:=x.added.length) h0 h1;refine Jrx (dec left (x.added.length)<0) rfl (fun h=>JqZ ?_) (fun h=>?_)
 ·show [dI (-1)]=_;rw[show QD x=x.added.length+(x.seqs.length) by unfold QD;omega,Y2 h h0]
 refine Jrw (XA x.seqs (dec left (x.added.length)) hb.2 (by omega) (by omega)) rfl rfl rfl ?_;simp only[sC,sN];have hr1:=JH (n:=x.added.length+x.seqs.length) h0 h1;rw[Xz h];refine Jrx (dec left (x.added.length+x.seqs.length)<0) rfl (fun h=>JqZ ?_) (fun h=>JqZ rfl);show [dI (-1)]=[dI (dec left (QD x))];have e:dec left (QD x)=dec left (x.added.length+x.seqs.length):=rfl;rw[e,show dec left (x.added.length+x.seqs.length) = -1 by omega]
theorem JfG (l:List Got) (left:Int) (hb:JfL JaM l) (h0:0≤left) (h1:left≤1048576):Ev L f_kc [.s (dGs l),dI left] [dI (dec left (szL QD l))]:=by
 refine JrA (vs:=[.l (dGs l),.i left]) L_kc rfl ?_;have hlen:(dGs l).length=l.length:=by simp[dGs]
 have hl:=hb.1;have hw:i64.wrap (left-((dGs l).length:Int))=left-l.length:=by rw[hlen];exact w64 (by omega) (by omega)
 refine Jrx (left-(l.length:Int)<0) ?_ (fun h=>JqZ ?_) (fun h=>?_)
 ·show decide (i64.wrap (left-((dGs l).length:Int))<0)=_;rw[hw]
 ·show [dI (-1)]=_;unfold dec szL;rw[if_neg (by omega)]
 have hal:l.length≤1048576:=by omega
 refine Jq0 l.length (fun i=>[.i (dec left (l.length+((l.take i).map QD).sum)),.i i]) (fun i=>¬dec left (l.length+((l.take i).map QD).sum)<0) rfl ?_ ?_ fun i hi hp=>?_
 ·show [V.i (i64.wrap (left-((dGs l).length:Int))),V.i 0]=_;rw[hw];simp only[List.take_zero,List.map_nil,List.sum_nil,Nat.add_zero];unfold dec;rw[if_pos (by omega)];rfl
 ·simp only[List.take_zero,List.map_nil,List.sum_nil,Nat.add_zero];unfold dec;rw[if_pos (by omega)];omega
 simp only[sC,sN];have hr:=JH (n:=l.length+((l.take i).map QD).sum) h0 h1;refine Jru i hlen rfl (fun h'=>?_) (fun h'=>Jrg (JqZ ?_))
 ·obtain⟨x,hx,hm⟩:=sA1 h';refine Jrd (vs:=[.b x.has,.l (dL x.added),.l (dL x.seqs)]) i (mA1 (f:=Got.g) hx) rfl rfl rfl rfl ?_;simp only[sC,sN];refine Jrw (JhC x (dec left (l.length+((l.take i).map QD).sum)) (hb.2 x hm) (by omega) (by omega)) rfl rfl rfl ?_;simp only[sC,sN];have e:=Xz (m:=QD x) hp;rw[Nat.add_assoc,←Jdw QD hx] at e;rw[e];refine Jrx (dec left (l.length+((l.take (i+1)).map QD).sum)<0) rfl (fun h2=>Jrg (JqZ ?_)) (fun h2=>?_)
  ·show [dI (-1)]=_;rw[Ja5 QD l (i+1),Y2 h2 h0]
  ·refine Jrq (vs:=[.i (dec left (l.length+((l.take (i+1)).map QD).sum)),.i ((i+1:Nat):Int)]) ?_ ⟨h',rfl,h2⟩;rw[←wS h' (by omega)];rfl
 ·show [dI (dec left (l.length+((l.take i).map QD).sum))]=_;rw[tA1 h'];rfl
def Y6 (x:Clk):Nat:=x.base.length+szL Qk x.done+szL Qy x.wants+szL QD x.got
def Jjp (x:Clk):Prop:=x.base.length≤9223372036854775807∧JfL Ja9 x.done∧JfL JaN x.wants∧JfL JaM x.got
theorem Jea (x:Clk) (left:Int) (hb:Jjp x) (h0:0≤left) (h1:left≤1048576):Ev L f_kd (x.cells++[dI left]) [dI (dec left (Y6 x))]:=by
 refine JrA (vs:=[.b x.up,.i x.round,.l (dL x.base),.l (dDs x.done),.l (dCs x.wants),.l (dGs x.got),.i left]) L_kd rfl ?_;refine Jrw (XA x.base left hb.1 h0 h1) rfl rfl rfl ?_;simp only[sC,sN];have hr0:=JH (n:=x.base.length) h0 h1;refine Jrx (dec left (x.base.length)<0) rfl (fun h=>JqZ ?_) (fun h=>?_)
 ·show [dI (-1)]=_;rw[show Y6 x=x.base.length+(szL Qk x.done+szL Qy x.wants+szL QD x.got) by unfold Y6;omega,Y2 h h0]
 refine Jrw (Jee x.done (dec left (x.base.length)) hb.2.1 (by omega) (by omega)) rfl rfl rfl ?_;simp only[sC,sN];have hr1:=JH (n:=x.base.length+szL Qk x.done) h0 h1;rw[Xz h];refine Jrx (dec left (x.base.length+szL Qk x.done)<0) rfl (fun h=>JqZ ?_) (fun h=>?_)
 ·show [dI (-1)]=_;rw[show Y6 x=x.base.length+szL Qk x.done+(szL Qy x.wants+szL QD x.got) by unfold Y6;omega,Y2 h h0]
 refine Jrw (Jd2 x.wants (dec left (x.base.length+szL Qk x.done)) hb.2.2.1 (by omega) (by omega)) rfl rfl rfl ?_;simp only[sC,sN];have hr2:=JH (n:=x.base.length+szL Qk x.done+szL Qy x.wants) h0 h1;rw[Xz h];refine Jrx (dec left (x.base.length+szL Qk x.done+szL Qy x.wants)<0) rfl (fun h=>JqZ ?_) (fun h=>?_)
 ·show [dI (-1)]=_;rw[show Y6 x=x.base.length+szL Qk x.done+szL Qy x.wants+(szL QD x.got) by unfold Y6;omega,Y2 h h0]
 refine Jrw (JfG x.got (dec left (x.base.length+szL Qk x.done+szL Qy x.wants)) hb.2.2.2 (by omega) (by omega)) rfl rfl rfl ?_;simp only[sC,sN];have hr3:=JH (n:=x.base.length+szL Qk x.done+szL Qy x.wants+szL QD x.got) h0 h1;rw[Xz h];refine Jrx (dec left (x.base.length+szL Qk x.done+szL Qy x.wants+szL QD x.got)<0) rfl (fun h=>JqZ ?_) (fun h=>JqZ rfl);show [dI (-1)]=[dI (dec left (Y6 x))];have e:dec left (Y6 x)=dec left (x.base.length+szL Qk x.done+szL Qy x.wants+szL QD x.got):=rfl;rw[e,show dec left (x.base.length+szL Qk x.done+szL Qy x.wants+szL QD x.got) = -1 by omega]
structure Msg where
 kind:Int
 to:Int
 frm:Int
 round:Int
 call:Cal
 vals:List Int
 seqs:List Int
 done:List Don
 deriving DecidableEq
def Msg.cells (x:Msg):List D:=[dI x.kind,dI x.to,dI x.frm,dI x.round,dI x.call.client,dI x.call.seq,dI x.call.act,.s (dL x.call.args),.s (dL x.vals),.s (dL x.seqs),.s (dDs x.done)]
def Msg.g (x:Msg):D:= .g x.cells
theorem JgG (x:Cal) (hf:UV x):Ev L f_kn x.cells x.cells:=by
 refine JrA (vs:=[.i x.client,.i x.seq,.i x.act,.l (dL x.args)]) L_kn rfl ?_;refine Jrw (vs:=[.l (dL x.args)]) (XC x.args hf) rfl rfl rfl ?_;simp only[sC,sN];exact JqZ rfl
theorem Jed (l:List Cal) (hf:Jf8 UV l):Ev L f_ko [.s (dCs l)] [.s (dCs l)]:=by
 refine JrA (vs:=[.l (dCs l)]) L_ko rfl ?_;have hlen:(dCs l).length=l.length:=by simp[dCs]
 have hl:=hf.1;refine Jrs (by show decide ((0:Int)≤((dCs l).length:Int))=true;simp) ?_;refine Jre (dCs l) 2000000 (by omega) (by omega) rfl ?_;refine Jq0 (dCs l).length (fun i=>[.l ((dCs l).take i++List.replicate ((dCs l).length-i) (Cal.g ⟨0,0,0,[]⟩)),.i i]) (fun _=>True) rfl ?_ trivial fun i hi _=>?_
 ·show [V.l (List.replicate ((dCs l).length:Int).toNat (Cal.g ⟨0,0,0,[]⟩)),V.i 0]=_;simp
 simp only[sC,sN];refine Jru i (ds:=dCs l) rfl rfl (fun h=>?_) (fun h=>Jrg (JqZ ?_))
 ·obtain⟨x,hx,hm⟩:=sA1 (show i<l.length by omega);refine Jrd (vs:=[.i x.client,.i x.seq,.i x.act,.l (dL x.args)]) i (mA1 (f:=Cal.g) hx) rfl rfl rfl rfl ?_;simp only[sC,sN];refine Jrw (vs:=[.i x.client,.i x.seq,.i x.act,.l (dL x.args)]) (JgG x (hf.2 x hm)) rfl rfl rfl ?_;simp only[sC,sN];refine Jrc (vs:=[.i 0,.i 0,.i 0,.l []]) (ds:=(dCs l).take i++List.replicate ((dCs l).length-i) (Cal.g ⟨0,0,0,[]⟩)) i (Vr h) rfl rfl rfl rfl rfl rfl ?_;refine Jrq (vs:=[.l ((dCs l).take (i+1)++List.replicate ((dCs l).length-(i+1)) (Cal.g ⟨0,0,0,[]⟩)),.i ((i+1:Nat):Int)]) ?_ ⟨h,rfl,trivial⟩;show [V.l (((dCs l).take i++List.replicate ((dCs l).length-i) (Cal.g ⟨0,0,0,[]⟩)).set (i:Int).toNat (Cal.g x)),V.i (i64.wrap ((i:Int)+1))]=_;rw[wS h (by omega),Int.toNat_natCast,KA (es:=dCs l) (mA1 (f:=Cal.g) hx)]
 ·show [D.s ((dCs l).take i++List.replicate ((dCs l).length-i) (Cal.g ⟨0,0,0,[]⟩))]=_;rw[Kr h]
theorem Jcy (c:Int) (t:List Int) (ht:t.length≤2000000):Ev L f_kk [dI c,.s (dL t)] [dI c,.s (dL t)]:=by
 refine JrA (vs:=[.i c,.l (dL t)]) L_kk rfl ?_;exact Jrw (vs:=[.l (dL t)]) (XC t ht) rfl rfl rfl (JqZ rfl)
theorem Jge (x:Don) (hf:Yn x):Ev L f_kl x.cells x.cells:=by
 refine JrA (vs:=[.i x.seq,.i x.code,.l (dL x.tells)]) L_kl rfl ?_;refine Jrw (vs:=[.i x.code,.l (dL x.tells)]) (Jcy x.code x.tells hf) rfl rfl rfl ?_;simp only[sC,sN];exact JqZ rfl
theorem Jd5 (l:List Don) (hf:Jf8 Yn l):Ev L f_km [.s (dDs l)] [.s (dDs l)]:=by
 refine JrA (vs:=[.l (dDs l)]) L_km rfl ?_;have hlen:(dDs l).length=l.length:=by simp[dDs]
 have hl:=hf.1;refine Jrs (by show decide ((0:Int)≤((dDs l).length:Int))=true;simp) ?_;refine Jre (dDs l) 2000000 (by omega) (by omega) rfl ?_;refine Jq0 (dDs l).length (fun i=>[.l ((dDs l).take i++List.replicate ((dDs l).length-i) (Don.g ⟨0,0,[]⟩)),.i i]) (fun _=>True) rfl ?_ trivial fun i hi _=>?_
 ·show [V.l (List.replicate ((dDs l).length:Int).toNat (Don.g ⟨0,0,[]⟩)),V.i 0]=_;simp
 simp only[sC,sN];refine Jru i (ds:=dDs l) rfl rfl (fun h=>?_) (fun h=>Jrg (JqZ ?_))
 ·obtain⟨x,hx,hm⟩:=sA1 (show i<l.length by omega);refine Jrd (vs:=[.i x.seq,.i x.code,.l (dL x.tells)]) i (mA1 (f:=Don.g) hx) rfl rfl rfl rfl ?_;simp only[sC,sN];refine Jrw (vs:=[.i x.seq,.i x.code,.l (dL x.tells)]) (Jge x (hf.2 x hm)) rfl rfl rfl ?_;simp only[sC,sN];refine Jrc (vs:=[.i 0,.i 0,.l []]) (ds:=(dDs l).take i++List.replicate ((dDs l).length-i) (Don.g ⟨0,0,[]⟩)) i (Vr h) rfl rfl rfl rfl rfl rfl ?_;refine Jrq (vs:=[.l ((dDs l).take (i+1)++List.replicate ((dDs l).length-(i+1)) (Don.g ⟨0,0,[]⟩)),.i ((i+1:Nat):Int)]) ?_ ⟨h,rfl,trivial⟩;show [V.l (((dDs l).take i++List.replicate ((dDs l).length-i) (Don.g ⟨0,0,[]⟩)).set (i:Int).toNat (Don.g x)),V.i (i64.wrap ((i:Int)+1))]=_;rw[wS h (by omega),Int.toNat_natCast,KA (es:=dDs l) (mA1 (f:=Don.g) hx)]
 ·show [D.s ((dDs l).take i++List.replicate ((dDs l).length-i) (Don.g ⟨0,0,[]⟩))]=_;rw[Kr h]
theorem JhI (x:Got) (hf:Jfs x):Ev L f_kp x.cells x.cells:=by
 refine JrA (vs:=[.b x.has,.l (dL x.added),.l (dL x.seqs)]) L_kp rfl ?_;refine Jrw (vs:=[.l (dL x.added)]) (XC x.added hf.1) rfl rfl rfl ?_;simp only[sC,sN];refine Jrw (vs:=[.l (dL x.seqs)]) (XC x.seqs hf.2) rfl rfl rfl ?_;simp only[sC,sN];exact JqZ rfl
theorem Jgi (l:List Got) (hf:Jf8 Jfs l):Ev L f_kq [.s (dGs l)] [.s (dGs l)]:=by
 refine JrA (vs:=[.l (dGs l)]) L_kq rfl ?_;have hlen:(dGs l).length=l.length:=by simp[dGs]
 have hl:=hf.1;refine Jrs (by show decide ((0:Int)≤((dGs l).length:Int))=true;simp) ?_;refine Jre (dGs l) 2000000 (by omega) (by omega) rfl ?_;refine Jq0 (dGs l).length (fun i=>[.l ((dGs l).take i++List.replicate ((dGs l).length-i) (Got.g ⟨false,[],[]⟩)),.i i]) (fun _=>True) rfl ?_ trivial fun i hi _=>?_
 ·show [V.l (List.replicate ((dGs l).length:Int).toNat (Got.g ⟨false,[],[]⟩)),V.i 0]=_;simp
 simp only[sC,sN];refine Jru i (ds:=dGs l) rfl rfl (fun h=>?_) (fun h=>Jrg (JqZ ?_))
 ·obtain⟨x,hx,hm⟩:=sA1 (show i<l.length by omega);refine Jrd (vs:=[.b x.has,.l (dL x.added),.l (dL x.seqs)]) i (mA1 (f:=Got.g) hx) rfl rfl rfl rfl ?_;simp only[sC,sN];refine Jrw (vs:=[.b x.has,.l (dL x.added),.l (dL x.seqs)]) (JhI x (hf.2 x hm)) rfl rfl rfl ?_;simp only[sC,sN];refine Jrc (vs:=[.b false,.l [],.l []]) (ds:=(dGs l).take i++List.replicate ((dGs l).length-i) (Got.g ⟨false,[],[]⟩)) i (Vr h) rfl rfl rfl rfl rfl rfl ?_;refine Jrq (vs:=[.l ((dGs l).take (i+1)++List.replicate ((dGs l).length-(i+1)) (Got.g ⟨false,[],[]⟩)),.i ((i+1:Nat):Int)]) ?_ ⟨h,rfl,trivial⟩;show [V.l (((dGs l).take i++List.replicate ((dGs l).length-i) (Got.g ⟨false,[],[]⟩)).set (i:Int).toNat (Got.g x)),V.i (i64.wrap ((i:Int)+1))]=_;rw[wS h (by omega),Int.toNat_natCast,KA (es:=dGs l) (mA1 (f:=Got.g) hx)]
 ·show [D.s ((dGs l).take i++List.replicate ((dGs l).length-i) (Got.g ⟨false,[],[]⟩))]=_;rw[Kr h]
theorem Jls {x:Clk} (h:Y6 x≤1048576):QV x:=by
 unfold Y6 at h;have hd:=JgH (f:=Qk) (p:=Yn) (fun _=>JlC) (l:=x.done) (by omega);have hc:=JgH (f:=Qy) (p:=UV) (fun _=>Jl8) (l:=x.wants) (by omega);have hg:=JgH (f:=QD) (p:=Jfs) (fun _=>Jmb) (l:=x.got) (by omega);exact⟨by omega,hd.1,hd.2,hc.1,hc.2,hg.1,hg.2⟩
theorem Jd7 (x:Clk) (hf:QV x):Ev L f_kr x.cells x.cells:=by
 refine JrA (vs:=[.b x.up,.i x.round,.l (dL x.base),.l (dDs x.done),.l (dCs x.wants),.l (dGs x.got)]) L_kr rfl ?_;refine Jrw (vs:=[.l (dL x.base)]) (XC x.base hf.b) rfl rfl rfl ?_;refine Jrw (vs:=[.l (dDs x.done)]) (Jd5 x.done ⟨hf.d,hf.dt⟩) rfl rfl rfl ?_;refine Jrw (vs:=[.l (dCs x.wants)]) (Jed x.wants ⟨hf.c,hf.ct⟩) rfl rfl rfl ?_;refine Jrw (vs:=[.l (dGs x.got)]) (Jgi x.got ⟨hf.g,hf.gt⟩) rfl rfl rfl ?_;exact JqZ rfl
abbrev JnH:Ty:= .st [.i .i64,.i .i64,.i .i64,Kg]
abbrev Jqq:Ty:= .st [.i .i64,Kg]
abbrev JmQ:Ty:= .st [.i .i64,Jqq]
abbrev JmL:Ty:= .st [.b,Kg,Kg]
abbrev tyClk:Ty:= .st [.b,.i .i64,Kg,.sl JmQ,.sl JnH,.sl JmL]
theorem JpW {ds:List D} (h:Us JnH ds) : ∃ x:Cal,ds=x.cells∧JaN x:=by
 obtain⟨_,_,rfl,⟨a,rfl⟩,_,_,rfl,⟨b,rfl⟩,_,_,rfl,⟨c,rfl⟩,_,_,rfl,h1,rfl⟩:=h;obtain⟨l,rfl,hl⟩:=Y9 h1;exact⟨⟨a,b,c,l⟩,rfl,hl⟩
theorem Jp3 {ds:List D} (h:Us JmQ ds) : ∃ x:Don,ds=x.cells∧Ja9 x:=by
 obtain⟨_,_,rfl,⟨a,rfl⟩,_,_,rfl,⟨_,_,rfl,⟨b,rfl⟩,_,_,rfl,h1,rfl⟩,rfl⟩:=h;obtain⟨l,rfl,hl⟩:=Y9 h1;exact⟨⟨a,b,l⟩,rfl,hl⟩
theorem JpL {ds:List D} (h:Us JmL ds) : ∃ x:Got,ds=x.cells∧JaM x:=by
 obtain⟨_,_,rfl,⟨a,rfl⟩,_,_,rfl,h1,_,_,rfl,h2,rfl⟩:=h;obtain⟨l,rfl,hl⟩:=Y9 h1;obtain⟨m,rfl,hm⟩:=Y9 h2;exact⟨⟨a,l,m⟩,rfl,hl,hm⟩
theorem JoV {ds:List D} (h:Us (.sl JmQ) ds) : ∃ l,ds=[.s (dDs l)]∧JfL Ja9 l:=by
 obtain⟨es,rfl,hl,he⟩:=h;obtain⟨l,rfl,hp⟩:=Wu (f:=Don.g) (p:=Ja9) fun x hx=>by
  obtain⟨cs,h1,rfl⟩:=he x hx;obtain⟨l,rfl,hf⟩:=Jp3 h1;exact⟨l,hf,rfl⟩
 exact⟨l,rfl,by rw[JrN] at hl;unfold maxLen at hl;omega,hp⟩
theorem JoL {ds:List D} (h:Us (.sl JnH) ds) : ∃ l,ds=[.s (dCs l)]∧JfL JaN l:=by
 obtain⟨es,rfl,hl,he⟩:=h;obtain⟨l,rfl,hp⟩:=Wu (f:=Cal.g) (p:=JaN) fun x hx=>by
  obtain⟨cs,h1,rfl⟩:=he x hx;obtain⟨l,rfl,hf⟩:=JpW h1;exact⟨l,hf,rfl⟩
 exact⟨l,rfl,by rw[JrN] at hl;unfold maxLen at hl;omega,hp⟩
theorem Jpj {ds:List D} (h:Us (.sl JmL) ds) : ∃ l,ds=[.s (dGs l)]∧JfL JaM l:=by
 obtain⟨es,rfl,hl,he⟩:=h;obtain⟨l,rfl,hp⟩:=Wu (f:=Got.g) (p:=JaM) fun x hx=>by
  obtain⟨cs,h1,rfl⟩:=he x hx;obtain⟨l,rfl,hf⟩:=JpL h1;exact⟨l,hf,rfl⟩
 exact⟨l,rfl,by rw[JrN] at hl;unfold maxLen at hl;omega,hp⟩
theorem JpN {ds:List D} (h:Us tyClk ds) : ∃ x:Clk,ds=x.cells∧Jjp x:=by
 obtain⟨_,_,rfl,⟨a,rfl⟩,_,_,rfl,⟨b,rfl⟩,_,_,rfl,h1,_,_,rfl,h2,_,_,rfl,h3,_,_,rfl,h4,rfl⟩:=h;obtain⟨l,rfl,hl⟩:=Y9 h1;obtain⟨d,rfl,hd⟩:=JoV h2;obtain⟨c,rfl,hc⟩:=JoL h3;obtain⟨g,rfl,hg⟩:=Jpj h4;exact⟨⟨a,b,l,d,c,g⟩,rfl,hl,hd,hc,hg⟩
/- Results,calls,what was done,messages: which of them are ok. -/
theorem JhA (n:Int) (h0 : -999999999999≤n) (h1:n≤999999999999):Ev L f_k1g [dI n] [Qx (Lib.itoa n)]:=by
 refine JrC L_k1g ?_;show (JbO (dI n)).map _=_;rw[show JbO (dI n)=some n by show (if _ then some n else none)=_;rw[if_pos (by omega)]];rfl
theorem JjB {t:List Int} {i:Nat} {x:Int} (h:t[i]? = some x):J4 (t.take (i+1))=J4 (t.take i)++[32]++Lib.itoa x:=by
 unfold J4;rw[tS1 h,List.flatMap_append];simp only[List.flatMap_cons,List.flatMap_nil,List.append_nil,List.append_assoc,List.singleton_append]
theorem Jib (c:Int) (t:List Int) (ht:t.length≤2000000):Ev L f_k1h [dI c,.s (dL t)] [Qx (KP c t)]:=by
 refine JrA (vs:=[.i c,.l (dL t)]) L_k1h rfl ?_;have no:J5 c t=false→([Qx []]:List D)=[Qx (KP c t)]:=fun h=>by simp[KP,h]
 refine Jrw (Qn c 1 3) rfl rfl rfl ?_;refine Jrm (inB c 1 3) rfl (fun h=>JqZ (no (by simp[J5,h]))) (fun h1=>?_);obtain⟨w1,_,w3⟩:=Jfq h1;have hidx:(J1.map Qx)[c.toNat]? = some (Qx (J1.getD c.toNat [])):=by rw[JrZ,w1];rfl
 have hc0:0≤c:=by unfold inB at h1;simp only[JrE,decide_eq_true_eq] at h1;omega
 have hc4:c<4:=by unfold inB at h1;simp only[JrE,decide_eq_true_eq] at h1;omega
 have hal:=XL t t.length 999999999999 ht (by omega) (by omega);have six:6<t.length→J5 c t=false:=fun h=>by simp only[J5,show ¬t.length≤6 by omega,decide_false,Bool.false_and,Bool.and_false]
 have ok:t.length≤6→(c=1∨t=[])→JE t.length 999999999999 t=true→J5 c t=true:=fun h2 h3 h4=>YF.2 ⟨by unfold inB at h1;simp only[JrE,decide_eq_true_eq] at h1;omega,h2,h3,(JB.1 h4).2⟩;refine Jrm (decide (c=1)) rfl (fun h3=>?_) (fun h3=>?_)
 ·refine Jrx (0<((dL t).length:Int)) rfl (fun h=>JqZ (no ?_)) (fun h4=>?_)
  ·rw[dL1] at h;have:t.isEmpty=false:=by cases t with
    | nil=>simp at h
    | cons x t=>rfl
   simp only[J5,h3,this,Bool.or_false,Bool.false_and,Bool.and_false]
  rw[dL1] at h4;have h4:t=[]:=List.length_eq_zero_iff.1 (by omega);refine Jrx (6<((dL t).length:Int)) rfl (fun h=>JqZ (no (six (by rw[dL1] at h;omega)))) (fun h2=>?_);rw[dL1] at h2;refine Jrw hal rfl (by show [D.s (dL t),dI ((dL t).length:Int),dI 999999999999]=_;rw[dL1]) rfl ?_;refine Jrm (JE t.length 999999999999 t) rfl (fun h=>JqZ (no (by simp only[J5,h,Bool.and_false]))) (fun h5=>?_);have hok:=ok (by omega) (.inr h4) h5;have hl:=(JB.1 h5).2;have e:Qx (KP c t)=Qx (J1.getD c.toNat []++J4 t):=by simp only[KP,hok,if_true]
  rw[e];refine Jq7 (0≤c) rfl hc0 (Jq7 (c<4) rfl hc4 ?_);refine Jq9 (ds:=J1.map Qx) c rfl rfl rfl hc0 hidx rfl ?_;subst h4;refine Jrr (fun _ vs=>vs=[.d (Qx (J1.getD c.toNat [])),.i 0]) rfl 0 rfl ?_;rintro m _ rfl;refine Jra rfl (Jrg (JqZ ?_));show [Qx (J1.getD c.toNat [])]=[Qx (J1.getD c.toNat []++J4 [])];rw[show J4 []=[] from rfl,List.append_nil]
 ·refine Jrx (6<((dL t).length:Int)) rfl (fun h=>JqZ (no (six (by rw[dL1] at h;omega)))) (fun h2=>?_);rw[dL1] at h2;refine Jrw hal rfl (by show [D.s (dL t),dI ((dL t).length:Int),dI 999999999999]=_;rw[dL1]) rfl ?_;refine Jrm (JE t.length 999999999999 t) rfl (fun h=>JqZ (no (by simp only[J5,h,Bool.and_false]))) (fun h5=>?_);have hok:=ok (by omega) (.inl (by simpa using h3)) h5;have hl:=(JB.1 h5).2;have e:Qx (KP c t)=Qx (J1.getD c.toNat []++J4 t):=by simp only[KP,hok,if_true]
  rw[e];refine Jq7 (0≤c) rfl hc0 (Jq7 (c<4) rfl hc4 ?_);refine Jq9 (ds:=J1.map Qx) c rfl rfl rfl hc0 hidx rfl ?_;generalize J1.getD c.toNat []=wd at *;refine Jq0 t.length (fun i=>[.d (Qx (wd++J4 (t.take i))),.i i]) (fun _=>True) rfl ?_ trivial fun i hi _=>?_
  ·show [V.d (Qx wd),V.i 0]=_;rw[List.take_zero,show J4 []=[] from rfl,List.append_nil];rfl
  simp only[sC,sN];refine Jru i (dL1 t) rfl (fun h=>?_) (fun h=>Jrg (JqZ ?_))
  ·obtain⟨x,hx,hm⟩:=sA1 h;have hxb:=hl x hm;have hj:=JcW (t.take i) fun m hm=>hl m (Jr2 hm);rw[JrT,Nat.min_eq_left (by omega)] at hj;have hxl:=Lib.itoa_length_le x (by omega) (by omega);refine Jrl rfl (Jb5 (a:=wd++J4 (t.take i)) (b:=[32]) (by simp;omega)) rfl ?_;refine Jrd i (mA1 (f:=dI) hx) rfl rfl rfl rfl ?_;refine Jrw (JhA x (by omega) (by omega)) rfl rfl rfl ?_;refine Jrl rfl (Jb5 (a:=wd++J4 (t.take i)++[32]) (b:=Lib.itoa x) (by simp;omega)) rfl ?_;refine Jrq (vs:=[.d (Qx (wd++J4 (t.take (i+1)))),.i ((i+1:Nat):Int)]) ?_ ⟨h,rfl,trivial⟩;show [V.d (Qx (wd++J4 (t.take i)++[32]++Lib.itoa x)),V.i (i64.wrap ((i:Int)+1))]=_;rw[wS h (by omega),JjB hx];simp only[List.append_assoc]
  ·show [Qx (wd++J4 (t.take i))]=_;rw[tA1 h]
theorem Jlb (c:Int) (t:List Int) (ht:t.length≤2000000):Ev L f_k1i [dI c,.s (dL t)] [dB (J5 c t)]:=by
 refine JrA (vs:=[.i c,.l (dL t)]) L_k1i rfl ?_;refine Jrw (Jib c t ht) rfl rfl rfl ?_;refine Jrl rfl (Jkn (KP c t) []) rfl (JqZ ?_);show [dB (!(KP c t == []))]=_;rw[Jcq,Bool.not_not]
def Qf (p:Pln) (c:Cal):Bool:=inB c.client 0 (p.n-1)&&(inB c.seq 1 300&&(inB c.act 0 ((p.acts.length:Int)-1)&&XN c.args))
theorem JgQ {n:Nat} (h:n≤2000000):i64.wrap ((n:Int)-1)=(n:Int)-1:=w64 (by omega) (by omega)
theorem Jlx (p:Pln) (c:Cal) (hp:Xt p) (h1:1≤p.n) (h2:p.n≤4) (hc:UV c):Ev L f_k1r (p.cells++c.cells) [dB (Qf p c)]:=by
 refine JrA (vs:=[.i p.n,.l (Jf p.acts),.l (dL p.gives),.l (dL p.start),.i c.client,.i c.seq,.i c.act,.l (dL c.args)]) L_k1r rfl ?_;have w1:i64.wrap (p.n-1)=p.n-1:=w64 (by omega) (by omega);have w2:i64.wrap (((Jf p.acts).length:Int)-1)=(p.acts.length:Int)-1:=by rw[QO];exact JgQ hp.1.1
 refine Jrw (Qn c.client 0 (p.n-1)) rfl (by show [dI c.client,dI 0,dI (i64.wrap (p.n-1))]=_;rw[w1]) rfl ?_;refine Jq5 (inB c.client 0 (p.n-1)) rfl (fun a=>?_) (fun a=>JqZ (by show [dB false]=_;simp[Qf,a]));refine Jrw (Qn c.seq 1 300) rfl rfl rfl ?_;refine Jq5 (inB c.seq 1 300) rfl (fun b=>?_) (fun b=>JqZ (by show [dB false]=_;simp[Qf,b]));refine Jrw (Qn c.act 0 ((p.acts.length:Int)-1)) rfl (by show [dI c.act,dI 0,dI (i64.wrap (((Jf p.acts).length:Int)-1))]=_;rw[w2]) rfl ?_;refine Jq5 (inB c.act 0 ((p.acts.length:Int)-1)) rfl (fun d=>?_) (fun d=>JqZ (by show [dB false]=_;simp[Qf,d]));refine Jrw (JnK c.args hc) rfl rfl rfl (JqZ ?_);show [dB (XN c.args)]=_;simp[Qf,a,b,d]
theorem Jg2 (p:Pln) (k:Int) (h1:1≤p.n) (h2:p.n≤4):Ev L f_k3u (p.cells++[dI k]) [dB (inB k 0 (p.n-1))]:=by
 refine JrA (vs:=[.i p.n,.l (Jf p.acts),.l (dL p.gives),.l (dL p.start),.i k]) L_k3u rfl ?_;have w1:i64.wrap (p.n-1)=p.n-1:=w64 (by omega) (by omega);exact Jrw (X2 k 0 (p.n-1)) rfl (by show [dI k,dI 0,dI (i64.wrap (p.n-1))]=_;rw[w1]) rfl (JqZ rfl)
theorem Jlt (p:Pln) (c:Cal) (hp:Xt p) (h1:1≤p.n) (h2:p.n≤4) (hc:UV c):Ev L f_k3w (p.cells++c.cells) [dB (Qf p c)]:=by
 refine JrA (vs:=[.i p.n,.l (Jf p.acts),.l (dL p.gives),.l (dL p.start),.i c.client,.i c.seq,.i c.act,.l (dL c.args)]) L_k3w rfl ?_;have w2:i64.wrap (((Jf p.acts).length:Int)-1)=(p.acts.length:Int)-1:=by rw[QO];exact JgQ hp.1.1
 refine Jrw (Jg2 p c.client h1 h2) rfl rfl rfl ?_;refine Jq5 (inB c.client 0 (p.n-1)) rfl (fun a=>?_) (fun a=>JqZ (by show [dB false]=_;simp[Qf,a]));refine Jrw (X2 c.act 0 ((p.acts.length:Int)-1)) rfl (by show [dI c.act,dI 0,dI (i64.wrap (((Jf p.acts).length:Int)-1))]=_;rw[w2]) rfl ?_;refine Jq5 (inB c.act 0 ((p.acts.length:Int)-1)) rfl (fun d=>?_) (fun d=>JqZ (by show [dB false]=_;simp[Qf,d]));refine Jrw (X2 c.seq 1 300) rfl rfl rfl ?_;refine Jq5 (inB c.seq 1 300) rfl (fun b=>?_) (fun b=>JqZ (by show [dB false]=_;simp[Qf,b]));refine Jrw (JgT c.args hc) rfl rfl rfl (JqZ ?_);show [dB (XN c.args)]=_;simp[Qf,a,b,d]
theorem JcE (n:Nat) {m:Nat} (h:m=n):decide ((m:Int)=0)=decide (n=0):=by subst h;simp
def XM (d:Don):Bool:=if d.seq=0 then decide (d.code=0)&&decide (d.tells.length=0) else inB d.seq 1 300&&J5 d.code d.tells
def QG (n:Int) (l:List Don):Bool:=decide ((l.length:Int)=n)&&l.all XM
def Xq (n:Int) (l:List Int):Bool:=decide ((l.length:Int)=n)&&l.all fun x=>inB x 0 300
theorem Zf (l:List Don):(dDs l).length=l.length:=by simp[dDs]
theorem Jl6 (p:Pln) (l:List Int) (hl:l.length≤2000000):Ev L f_k1o (p.cells++[.s (dL l)]) [dB (Xq p.n l)]:=by
 refine JrA (vs:=[.i p.n,.l (Jf p.acts),.l (dL p.gives),.l (dL p.start),.l (dL l)]) L_k1o rfl ?_;refine Jrm (decide ((l.length:Int)=p.n)) (by show (!decide (((dL l).length:Int)=p.n))=_;rw[dL1]) (fun h=>JqZ (by show [dB false]=_;simp only[Xq,h,Bool.false_and])) (fun h=>?_);refine Jq0 l.length (fun i=>[.i i]) (fun i=>((l.take i).all fun x=>inB x 0 300)=true) rfl rfl rfl fun i hi hq=>?_;simp only[sC,sN];refine Jru i (dL1 l) rfl (fun h'=>?_) (fun h'=>Jrg (JqZ ?_))
 ·obtain⟨x,hx,_⟩:=sA1 h';refine Jrd i (mA1 (f:=dI) hx) rfl rfl rfl rfl ?_;refine Jrw (Qn x 0 300) rfl rfl rfl ?_;refine Jrm (inB x 0 300) rfl (fun b=>Jrg (JqZ ?_)) (fun b=>Jrq (vs:=[.i ((i+1:Nat):Int)]) (by rw[←wS h' (by omega)];rfl) ⟨h',rfl,by show ((l.take (i+1)).all fun x=>inB x 0 300)=true;rw[tS1 hx,List.all_append,hq];simp[b]⟩);show [dB false]=_;have:(l.all fun x=>inB x 0 300)=false:=by rw[←List.take_append_drop i l,List.all_append,Ya hx];simp[b]
  simp[Xq,this]
 ·show [dB true]=_;rw[tA1 h'] at hq;simp[Xq,h,hq]
theorem Jhw {d:Don} (hs:inB d.seq 0 300=true):XM d=if decide (d.seq=0)=decide (d.code=0) then(if d.seq=0 then decide (d.tells.length=0) else J5 d.code d.tells) else false:=by
 unfold XM
 by_cases h:d.seq=0
 ·rw[if_pos h,if_pos h]
  by_cases h2:d.code=0 <;> simp[h,h2]
 ·rw[if_neg h,if_neg h];have hin:inB d.seq 1 300=true:=by unfold inB at hs ⊢;simp only[JrE,decide_eq_true_eq] at hs ⊢;omega
  by_cases h2:d.code=0
  ·have:J5 d.code d.tells=false:=by unfold J5 inB;simp[h2]
   simp[h,h2,this,J5,inB]
  ·simp[h,h2,hin]
theorem Jly (p:Pln) (l:List Don) (hl:Jf8 Yn l):Ev L f_k1j (p.cells++[.s (dDs l)]) [dB (QG p.n l)]:=by
 refine JrA (vs:=[.i p.n,.l (Jf p.acts),.l (dL p.gives),.l (dL p.start),.l (dDs l)]) L_k1j rfl ?_;have hl0:=hl.1;refine Jrm (decide ((l.length:Int)=p.n)) (by show (!decide (((dDs l).length:Int)=p.n))=_;rw[Zf]) (fun h=>JqZ (by show [dB false]=_;simp only[QG,h,Bool.false_and])) (fun h=>?_);refine Jq0 l.length (fun i=>[.i i]) (fun i=>((l.take i).all XM)=true) rfl rfl rfl fun i hi hq=>?_;simp only[sC,sN];refine Jru i (Zf l) rfl (fun h'=>?_) (fun h'=>Jrg (JqZ ?_))
 ·obtain⟨x,hx,hm⟩:=sA1 h';have hg:(dDs l)[i]? = some x.g:=mA1 (f:=Don.g) hx;have bad:XM x=false→[dB false]=[dB (QG p.n l)]:=fun hb=>by
   have:l.all XM=false:=by rw[←List.take_append_drop i l,List.all_append,Ya hx];simp[hb]
   simp[QG,this]
  have good:XM x=true→((l.take (i+1)).all XM)=true:=fun hb=>by rw[tS1 hx,List.all_append,hq];simp[hb]
  have nx:[V.i (i64.wrap ((i:Int)+1))]=[V.i ((i+1:Nat):Int)]:=by rw[wS h' (by omega)]
  refine Jrd (vs:=[.i x.seq,.i x.code,.l (dL x.tells)]) i hg rfl rfl rfl rfl ?_;refine Jrw (Qn x.seq 0 300) rfl rfl rfl ?_;simp only[sC,sN];refine Jrm (inB x.seq 0 300) rfl (fun b=>Jrg (JqZ (bad ?_))) (fun b=>?_)
  ·unfold XM;rw[if_neg (by intro e;rw[e] at b;simp[inB] at b)];have:inB x.seq 1 300=false:=by
    unfold inB at b ⊢;simp only[Bool.and_eq_false_iff,decide_eq_false_iff_not] at b ⊢;omega
   simp[this]
  have hc:=Jhw b;refine Jrd (vs:=[.i x.seq,.i x.code,.l (dL x.tells)]) i hg rfl rfl rfl rfl ?_;refine Jrd (vs:=[.i x.seq,.i x.code,.l (dL x.tells)]) i hg rfl rfl rfl rfl ?_;simp only[sC,sN];refine Jrm (decide (x.seq=0) == decide (x.code=0)) rfl (fun e=>Jrg (JqZ (bad ?_))) (fun e=>?_)
  ·rw[hc,if_neg (by simpa using e)]
  rw[if_pos (by simpa using e)] at hc;refine Jrd (vs:=[.i x.seq,.i x.code,.l (dL x.tells)]) i hg rfl rfl rfl rfl ?_;simp only[sC,sN];refine Jrx (x.seq=0) rfl (fun h0=>?_) (fun h0=>?_)
  ·rw[if_pos h0] at hc;refine Jrd (vs:=[.i x.seq,.i x.code,.l (dL x.tells)]) i hg rfl rfl rfl rfl ?_;simp only[sC,sN];refine Jrx (0<((dL x.tells).length:Int)) rfl (fun ht=>Jrg (JqZ (bad ?_))) (fun ht=>?_)
   ·rw[dL1] at ht;rw[hc];exact decide_eq_false (by omega)
   refine Jrd (vs:=[.i x.seq,.i x.code,.l (dL x.tells)]) i hg rfl rfl rfl rfl ?_;simp only[sC,sN];refine Jra (by show decide ((0:Int)<x.seq)=false;rw[h0];rfl) ?_;exact Jrq nx ⟨h',rfl,good (by rw[dL1] at ht;rw[hc];exact decide_eq_true (by omega))⟩
  ·rw[if_neg h0] at hc;have hpos:0<x.seq:=by unfold inB at b;simp only[JrE,decide_eq_true_eq] at b;omega
   refine Jrd (vs:=[.i x.seq,.i x.code,.l (dL x.tells)]) i hg rfl rfl rfl rfl ?_;simp only[sC,sN];refine Jrj (by show decide ((0:Int)<x.seq)=true;simpa using hpos) ?_;refine Jrd (vs:=[.i x.seq,.i x.code,.l (dL x.tells)]) i hg rfl rfl rfl rfl ?_;refine Jrw (Jlb x.code x.tells (hl.2 x hm)) rfl rfl rfl ?_;exact Jrm (J5 x.code x.tells) rfl (fun e=>Jrg (JqZ (bad (by rw[hc,e])))) (fun e=>Jrq nx ⟨h',rfl,good (by rw[hc,e])⟩)
 ·show [dB true]=_;rw[tA1 h'] at hq;simp[QG,h,hq]
theorem JhK (x:Int):Ev L f_k47 [dI x] [dB (!inB x 0 300)] :=
 JrA (vs:=[.i x]) L_k47 rfl (Jrw (X2 x 0 300) rfl rfl rfl (JqZ rfl))
theorem Jme (p:Pln) (l:List Int) (hl:l.length≤2000000):Ev L f_k48 (p.cells++[.s (dL l)]) [dB (Xq p.n l)]:=by
 refine JrA (vs:=[.i p.n,.l (Jf p.acts),.l (dL p.gives),.l (dL p.start),.l (dL l)]) L_k48 rfl ?_;refine Jrx ((l.length:Int)=p.n) (by show decide (((dL l).length:Int)=p.n)=_;rw[dL1]) (fun h=>?_) (fun h=>JqZ (by show [dB false]=_;simp[Xq,h]));refine Jrw (Vx (fun x=>!inB x 0 300) l (fn:=f_k47) (caps:=[]) hl rfl rfl fun x _=>JhK x) rfl rfl rfl (JqZ ?_);show [dB (!(l.any fun x=>!inB x 0 300))]=_;rw[Z5];simp[Xq,h]
theorem JmI (d:Don) (hd:Yn d):Ev L f_k3r d.cells [dB (XM d)]:=by
 refine JrA (vs:=[.i d.seq,.i d.code,.l (dL d.tells)]) L_k3r rfl ?_;refine Jrx (d.seq=0) rfl (fun h=>?_) (fun h=>?_)
 ·refine Jrw (ds:=[dB (decide (d.code=0)&&decide (d.tells.length=0))]) (JrA (vs:=[.i d.code,.l (dL d.tells)]) L_k3m rfl ?_) rfl rfl rfl (JqZ (by rw[XM,if_pos h];rfl));refine Jrx (d.code=0) rfl (fun a=>JqZ ?_) (fun a=>JqZ (by show [dB false]=_;simp[a]));show [dB (decide (((dL d.tells).length:Int)=0))]=_;rw[JcE d.tells.length (dL1 _)];simp[a]
 ·refine Jrw (X2 d.seq 1 300) rfl rfl rfl ?_;refine Jq5 (inB d.seq 1 300) rfl (fun a=>?_) (fun a=>JqZ (by show [dB false]=_;simp[XM,h,a]));refine Jrw (Jle d.code d.tells hd) rfl rfl rfl (JqZ ?_);show [dB (J5 d.code d.tells)]=_;simp[XM,h,a]
theorem Jia (d:Don) (hd:Yn d):Ev L f_k3s d.cells [dB (!XM d)] :=
 JrA (vs:=[.i d.seq,.i d.code,.l (dL d.tells)]) L_k3s rfl (Jrw (JmI d hd) rfl rfl rfl (JqZ rfl))
theorem JlZ (q:Don→Bool) (l:List Don) {fn:FuncId} {caps:List D} (hlen:l.length≤2000000) (hcap:QY (.f fn caps) = .f fn caps) (har:arT L fn=some ([some 3]++caps.map fun _=>none))
  (hc :∀x∈l,Ev L fn (x.cells++caps.map D.norm) [dB (q x)]):Ev L f_k3l [.s (dDs l),.f fn caps] [dB (l.any q)] :=
 X5 (g := f_k3k) L_k3l rfl hcap
   (YM (sh:= .g [.i .i64,.i .i64,.s]) (as:=[(.vi .i64 (.v 3)),(.vi .i64 (.v 4)),(.s (.v 5))]) (ar:=[some 3]) (k:=6) Don.g q Don.cells (fun x=>[.i x.seq,.i x.code,.l (dL x.tells)]) l
     L_k3k rfl hlen hcap (fun _ _=>rfl) (fun _ _=>rfl) (fun _ _ _ _=>rfl) har hc)
theorem Jmg (p:Pln) (l:List Don) (hl:Jf8 Yn l):Ev L f_k3t (p.cells++[.s (dDs l)]) [dB (QG p.n l)]:=by
 refine JrA (vs:=[.i p.n,.l (Jf p.acts),.l (dL p.gives),.l (dL p.start),.l (dDs l)]) L_k3t rfl ?_;refine Jrx ((l.length:Int)=p.n) (by show decide (((dDs l).length:Int)=p.n)=_;rw[Zf]) (fun h=>?_) (fun h=>JqZ (by show [dB false]=_;simp[QG,h]));refine Jrw (JlZ (fun d=>!XM d) l (fn:=f_k3s) (caps:=[]) hl.1 rfl rfl fun x hx=>by simpa using Jia x (hl.2 x hx)) rfl rfl rfl (JqZ ?_);show [dB (!(l.any fun d=>!XM d))]=_;rw[Z5];simp[QG,h]
/- The program's MsgOk answers as the reference's: over residual programs. -/
end Go.Proofs.YtgpjnnkmmplicabGreatDoor
/- The program's SitOk and SitFree answer as the reference's: over residual programs. -/
namespace Go.Proofs.YtgpjnnkmmplicabGreatDoor
open Go Go.Tm
open Go.IntKind (i64)
theorem VJ {p:Pln} (h:Qt p=true):QK p.acts=true:=by
 simp only[Qt,JrE] at h;exact h.2.1
def YE (p:Pln) (b:List Int) (k:Int) (a:List Int):Bool:=keeps b p.gives (Jg p.acts) k a&&YB (JT p.acts) a
end Go.Proofs.YtgpjnnkmmplicabGreatDoor

import Derived.Test.YtofcmnglieaoeabGreatDoorPZZL
import Derived.Test.YtofcmnglieaoeabGreatDoorPZZD
set_option linter.unusedVariables false
set_option linter.unusedSimpArgs false
/- What the clerk says: over residual programs. -/
namespace Go.Proofs.YtofcmnglieaoeabGreatDoor
open Go Go.Tm
open Go.IntKind (i64)
theorem Jjk (x:Msg) (hx:Zb x):Ev L f_k5s (x.cells++x.cells) [dB true]:=by
 refine JuM (vs:=[.i x.kind,.i x.to,.i x.frm,.i x.round,.i x.call.client,.i x.call.seq,.i x.call.act,.l (dL x.call.args),.l (dL x.vals),.l (dL x.seqs),.l (dDs x.done),.i x.kind,.i x.to,.i x.frm,.i x.round,.i x.call.client,.i x.call.seq,.i x.call.act,.l (dL x.call.args),.l (dL x.vals),.l (dL x.seqs),.l (dDs x.done)]) L_k5s rfl ?_;refine Jur (by show decide (x.kind=x.kind)=true;simp) ?_;refine Jur (by show decide (x.to=x.to)=true;simp) ?_;refine Jur (by show decide (x.frm=x.frm)=true;simp) ?_;refine Jur (by show decide (x.round=x.round)=true;simp) ?_;have hco:Ev L f_k5p (x.call.cells++x.call.cells) [dB true]:=by
  refine JuM (vs:=[.i x.call.client,.i x.call.seq,.i x.call.act,.l (dL x.call.args),.i x.call.client,.i x.call.seq,.i x.call.act,.l (dL x.call.args)]) L_k5p rfl ?_;refine Jur (by show decide (x.call.client=x.call.client)=true;simp) ?_;refine Jur (by show decide (x.call.seq=x.call.seq)=true;simp) ?_;refine Jur (by show decide (x.call.act=x.call.act)=true;simp) ?_;exact Juc (Kl x.call.args hx.1) rfl rfl rfl (JuC rfl)
 refine Juc hco rfl rfl rfl (Jur rfl ?_);refine Juc (Kl x.vals hx.2.1) rfl rfl rfl (Jur rfl ?_);refine Juc (Kl x.seqs hx.2.2.1) rfl rfl rfl (Jur rfl ?_);exact Juc (JhD x.done hx.2.2.2) rfl rfl rfl (JuC rfl)
theorem Jkv (l:List Msg) (hl:UN Zb l):Ev L f_k5t [.s (dMs l),.s (dMs l)] [dB true]:=by
 refine JuM (vs:=[.l (dMs l),.l (dMs l)]) L_k5t rfl ?_;have h0:=hl.1;refine Jul (by show (!decide (((dMs l).length:Int)=((dMs l).length:Int)))=false;simp) ?_;refine Jut l.length (fun i=>[.i i]) (fun _=>True) rfl rfl trivial fun i hi _=>?_;simp only[sC,sN];refine JuF i (Qo l) rfl (fun h=>?_) (fun h=>JuJ (JuC rfl));obtain⟨x,hx,hm⟩:=sA1 h;refine Jud (vs:=[.i x.kind,.i x.to,.i x.frm,.i x.round,.i x.call.client,.i x.call.seq,.i x.call.act,.l (dL x.call.args),.l (dL x.vals),.l (dL x.seqs),.l (dDs x.done)]) i (mA1 (f:=Msg.g) hx) rfl rfl rfl rfl ?_;refine Jud (vs:=[.i x.kind,.i x.to,.i x.frm,.i x.round,.i x.call.client,.i x.call.seq,.i x.call.act,.l (dL x.call.args),.l (dL x.vals),.l (dL x.seqs),.l (dDs x.done)]) i (mA1 (f:=Msg.g) hx) rfl rfl rfl rfl ?_;simp only[sC,sN];refine Juc (Jjk x (hl.2 x hm)) rfl rfl rfl (Jul rfl ?_);exact JuK (vs:=[.i ((i+1:Nat):Int)]) (by rw[←wS h (by omega)];rfl) ⟨h,rfl,trivial⟩
theorem JcR (ns:List Int) (hb :∀x∈ns,0≤x∧x<256) :
  ∃ (l:Pln) (c:Clk),Ev L f_k36 [.s (Ja ns)] (l.cells++c.cells)∧JR l∧QV c:=by
 obtain⟨bs,ho,hr⟩:=JpW ns hb;obtain⟨l,c,w,q,e,hl,hs,q1,q2⟩:=Jiz (n:=12) hr (by omega) (by omega) (by omega);refine⟨l,c,JuM (vs:=[.l (Ja ns)]) L_k36 rfl (Juc ho rfl rfl rfl ?_),hl,hs⟩;exact Juc (vs:=[.i l.n,.l (Jc l.acts),.l (dL l.gives),.l (dL l.start),.b c.up,.i c.round,.l (dL c.base),.l (dDs c.done),.l (dCs c.wants),.l (dGs c.got),.i w.p.n,.l (Jc w.p.acts),.l (dL w.p.gives),.l (dL w.p.start),.l (dSt w.sites),.b w.c.up,.i w.c.round,.l (dL w.c.base),.l (dDs w.c.done),.l (dCs w.c.wants),.l (dGs w.c.got),.l (dCn w.cons),.l (dMs w.net),.l (dLg w.log),.l (Ja bs),.i q]) e rfl rfl rfl (JuC rfl)
def KE (l:List Got):Bool:=l.any fun g=>g.has
theorem Jnk (l:List Got):KE l=decide (0<Xf l):=by
 unfold KE Xf;rw[Bool.eq_iff_iff,List.any_eq_true,decide_eq_true_eq,List.length_pos_iff_exists_mem];simp only[List.mem_filter]
theorem Jlb {c:Clk} {n i:Nat} {x:Msg} (hx:(J6 c n++QB c n)[i]? = some x∨(J6 c n)[i]? = some x) :
  x.round=c.round∧x.to=Int.tmod (i:Int) (n:Int)∧decide (x.kind=4)=decide ((i:Int)<(n:Int))∧(i<n→x.vals=c.base):=by
 by_cases h:i<n
 ·have hp:(J6 c n)[i]? = some (JdL c i):=by simp[J6,h]
  have e:x=JdL c i:=by
   rcases hx with q | q
   ·rw[Jvi (by rw[Qh];exact h),hp] at q;cases q;rfl
   ·rw[hp] at q;cases q;rfl
  subst e;refine⟨rfl,?_,?_,fun _=>rfl⟩
  ·show (i:Int)=_;rw[Int.tmod_eq_of_lt (by omega) (by omega)]
  ·rw[decide_eq_true (show (i:Int)<n by omega)];rfl
 ·rcases hx with q | q
  ·have hi:=(JuS.1 q).1;rw[JuX,Qh,ZK] at hi;rw[Jvj (by rw[Qh];omega),Qh] at q;have hp:(QB c n)[i-n]? = some (JoG c (i-n)):=by simp[QB,show i-n<n by omega]
   rw[hp] at q;cases q;refine⟨rfl,?_,?_,fun h'=>absurd h' h⟩
   ·show ((i-n:Nat):Int)=_;rw[Int.tmod_eq_emod_of_nonneg (by omega),show (i:Int)=((i-n:Nat):Int)+(n:Int)*1 by omega,Int.add_mul_emod_self_left,Int.emod_eq_of_lt (by omega) (by omega)]
   ·rw[decide_eq_false (show ¬(i:Int)<n by omega)];rfl
  ·have hi:=(JuS.1 q).1;rw[Qh] at hi;omega
theorem Jg7 (ns:List Int) (hb :∀x∈ns,0≤x∧x<256):Ev L f_k5z [.s (Ja ns)] [dB true]:=by
 refine JuM (vs:=[.l (Ja ns)]) L_k5z rfl ?_;refine JuB (1048576<((Ja ns).length:Int)) rfl (fun _=>JuC rfl) (fun _=>?_);obtain⟨p,c,hd,hp,hc⟩:=JcR ns hb;have h1:=Jji p c hp hc;have h2:=Ji9 p c hp hc;refine Juc (vs:=[.i p.n,.l (Jc p.acts),.l (dL p.gives),.l (dL p.start),.b c.up,.i c.round,.l (dL c.base),.l (dDs c.done),.l (dCs c.wants),.l (dGs c.got)]) hd rfl rfl rfl ?_;simp only[sC,sN];generalize hx:Yr p c=out at *;refine Juc (vs:=[.l (dMs out)]) h1 rfl rfl rfl ?_;refine Juc (vs:=[.l (dMs out)]) h2 rfl rfl rfl ?_;simp only[sC,sN];have hok:QY p c=false∨(QY p c=true∧JE p=true∧XR p c):=by
  cases h:QY p c with
  | false=>exact .inl rfl
  | true=>exact .inr ⟨rfl,Jda.1 h⟩
 have hfit:UN Zb out∧∀x∈out,QY p c=true→JC p x=true:=by
  rcases hok with h | ⟨h,ho,hi⟩
  ·have e:out=[]:=by rw[←hx];unfold Yr;rw[h];rfl
   rw[e];exact⟨⟨by simp,fun x hx=>by simp at hx⟩,fun x hx=>by simp at hx⟩
  ·have e:out=Yc c:=by rw[←hx];unfold Yr;rw[h];rfl
   obtain⟨t1,t2⟩:=Jg8 hi;have hg:=Qg ho;rw[e];exact⟨⟨by omega,fun x hx=>(Ul ho (t1 x hx)).fit⟩,fun x hx _=>t1 x hx⟩
 refine Juc (Jkv out hfit.1) rfl rfl rfl (Jul rfl ?_);simp only[sC,sN];refine Juc (JeV p c hp hc) rfl rfl rfl ?_;simp only[sC,sN];have nil:out=[]→Ev L f_k5u [] [dB true]:=fun _=>Ws;refine JuE (QY p c) rfl (fun h=>?_) (fun h=>?_)
 ·have e:out=[]:=by rw[←hx];unfold Yr;rw[h];rfl
  subst e;exact Jur rfl (Juc Ws rfl rfl rfl (JuC rfl))
 obtain⟨ho,hi⟩:=Jda.1 h;have e0:out=Yc c:=by rw[←hx];unfold Yr;rw[h];rfl
 refine JuE c.up rfl (fun hu=>?_) (fun hu=>?_)
 ·have e:out=[]:=by rw[e0];unfold Yc;rw[hu];rfl
  subst e;exact Jur rfl (Juc Ws rfl rfl rfl (JuC rfl))
 have hg:=Qg ho;have hl:=hi.len;refine Jut c.got.length (fun i=>[.b (KE (c.got.take i)),.i i]) (fun _=>True) rfl rfl trivial fun i hii _=>?_;simp only[sC,sN];refine JuF i (XC c.got) rfl (fun h'=>?_) (fun h'=>JuJ ?_)
 ·obtain⟨x,hx2,hxm⟩:=sA1 h';have hs:KE (c.got.take (i+1))=(KE (c.got.take i)||x.has):=by rw[tS1 hx2];simp[KE]
  have hw:=wS h' (by omega);refine Jup (KE (c.got.take i)) rfl (fun ha=>?_) (fun ha=>?_)
  ·refine JuK (vs:=[.b (KE (c.got.take (i+1))),.i ((i+1:Nat):Int)]) ?_ ⟨h',rfl,trivial⟩;rw[hs,ha,←hw];rfl
  ·refine Juq (vs:=[.b x.has,.l (dL x.added),.l (dL x.seqs)]) (ds:=dGs c.got) i (mA1 (f:=Got.g) hx2) rfl rfl rfl rfl rfl rfl ?_;refine JuK (vs:=[.b (KE (c.got.take (i+1))),.i ((i+1:Nat):Int)]) ?_ ⟨h',rfl,trivial⟩;rw[hs,ha,←hw];rfl
 rw[tA1 h'];clear h' hii;have hany:=Jnk c.got;generalize KE c.got=ah at *;have hlen:out.length≤6:=by rw[e0];have:=(Jg8 hi).2;omega
 have hat :∀(j:Nat) (x:Msg),out[j]? = some x→x.round=c.round∧x.to=Int.tmod (j:Int) (p.gives.length:Int)∧decide (x.kind=4)=decide ((j:Int)<(p.gives.length:Int))∧(j<p.gives.length→x.vals=c.base):=fun j x hj=>by
  rw[e0] at hj;unfold Yc at hj;rw[if_pos hu,hl] at hj;split at hj
  ·exact Jlb (.inl hj)
  ·exact Jlb (.inr hj)
 refine Jut out.length (fun i=>[.i i]) (fun _=>True) rfl rfl trivial fun j hj _=>?_;simp only[sC,sN];refine JuF j (Qo out) rfl (fun h'=>?_) (fun h'=>JuJ ?_)
 ·obtain⟨x,hx2,hxm⟩:=sA1 h';have hxo:=hfit.2 x hxm h;have hxf:=hfit.1.2 x hxm;obtain⟨a1,a2,a3,a4⟩:=hat j x hx2;have hmo:=JlS p x hp hxf;have emo:JcU p x=true:=by unfold JcU;rw[ho,hxo];rfl
  rw[emo] at hmo;have hgx:(dMs out)[j]? = some x.g:=mA1 (f:=Msg.g) hx2;refine Juq (vs:=[.i x.kind,.i x.to,.i x.frm,.i x.round,.i x.call.client,.i x.call.seq,.i x.call.act,.l (dL x.call.args),.l (dL x.vals),.l (dL x.seqs),.l (dDs x.done)]) (ds:=dMs out) j hgx rfl rfl rfl rfl rfl rfl ?_;simp only[sC,sN];refine Juc hmo rfl rfl rfl (Jul rfl ?_);simp only[sC,sN];refine Juq (vs:=[.i x.kind,.i x.to,.i x.frm,.i x.round,.i x.call.client,.i x.call.seq,.i x.call.act,.l (dL x.call.args),.l (dL x.vals),.l (dL x.seqs),.l (dDs x.done)]) (ds:=dMs out) j hgx rfl rfl rfl rfl rfl rfl ?_;refine Jul (by show (!decide (x.round=c.round))=false;rw[a1];simp) ?_;simp only[sC,sN];refine Juq (vs:=[.i x.kind,.i x.to,.i x.frm,.i x.round,.i x.call.client,.i x.call.seq,.i x.call.act,.l (dL x.call.args),.l (dL x.vals),.l (dL x.seqs),.l (dDs x.done)]) (ds:=dMs out) j hgx rfl rfl rfl rfl rfl rfl ?_;refine Jun (by show (!decide (((dL p.gives).length:Int)=0))=true;rw[dL1,Bool.not_eq_true',decide_eq_false_iff_not];omega) ?_;refine Jul (by show (!decide (x.to=Int.tmod (j:Int) ((dL p.gives).length:Int)))=false;rw[dL1,a2];simp) ?_;simp only[sC,sN];refine Juq (vs:=[.i x.kind,.i x.to,.i x.frm,.i x.round,.i x.call.client,.i x.call.seq,.i x.call.act,.l (dL x.call.args),.l (dL x.vals),.l (dL x.seqs),.l (dDs x.done)]) (ds:=dMs out) j hgx rfl rfl rfl rfl rfl rfl ?_;refine Jul (by show (!(decide (x.kind=4) == decide ((j:Int)<((dL p.gives).length:Int))))=false;rw[dL1,a3];simp) ?_;have hw:=wS h' (by omega);refine JuB ((j:Int)<(p.gives.length:Int)) (by show decide ((j:Int)<((dL p.gives).length:Int))=_;rw[dL1]) (fun hjn=>?_) (fun _=>?_)
  ·refine Juq (vs:=[.i x.kind,.i x.to,.i x.frm,.i x.round,.i x.call.client,.i x.call.seq,.i x.call.act,.l (dL x.call.args),.l (dL x.vals),.l (dL x.seqs),.l (dDs x.done)]) (ds:=dMs out) j hgx rfl rfl rfl rfl rfl rfl ?_;simp only[sC,sN];have hci:=Kl c.base hc.b;refine Juc hci rfl (by show [D.s (dL x.vals),D.s (dL c.base)]=_;rw[a4 (by omega)]) rfl (Jul rfl ?_);exact JuK (vs:=[.i ((j+1:Nat):Int)]) (by rw[←hw];rfl) ⟨h',rfl,trivial⟩
  ·exact JuK (vs:=[.i ((j+1:Nat):Int)]) (by rw[←hw];rfl) ⟨h',rfl,trivial⟩
 have hol:(dMs out).length=out.length:=Qo out;have hgl:(dL p.gives).length=p.gives.length:=dL1 _;have hwl:(dCs c.wants).length=c.wants.length:=Xr _;have hw4:=KU ho hi.wants hi.asc;have e2:i64.wrap (2*((dL p.gives).length:Int))=2*(p.gives.length:Int):=by rw[hgl,w64 (by omega) (by omega)]
 have el:out.length=if busy c then 2*p.gives.length else p.gives.length:=by
  rw[e0];unfold Yc;rw[if_pos hu,hl];split
  ·rw[JuX,Qh,ZK];omega
  ·rw[Qh]
 have bz:busy c=(decide (0<c.wants.length)||ah):=by unfold busy;rw[hany]
 rw[bz] at el;refine JuB ((out.length:Int)=(p.gives.length:Int)) (by show decide (((dMs out).length:Int)=((dL p.gives).length:Int))=_;rw[hol,hgl]) (fun q1=>?_) (fun q1=>?_)
 ·have hb0:(decide (0<c.wants.length)||ah)=false:=by
   cases hbz:(decide (0<c.wants.length)||ah) with
   | false=>rfl
   | true=>rw[hbz] at el;simp only[if_true] at el;omega
  simp only[Bool.or_eq_false_iff,decide_eq_false_iff_not] at hb0;refine Jur (by show decide (((dCs c.wants).length:Int)=0)=true;rw[hwl];exact decide_eq_true (by omega)) ?_;exact Jur (by show (!ah)=true;rw[hb0.2];rfl) (JuC rfl)
 ·have hb1:(decide (0<c.wants.length)||ah)=true:=by
   cases hbz:(decide (0<c.wants.length)||ah) with
   | true=>rfl
   | false=>rw[hbz] at el;simp only[Ju7,if_false] at el;omega
  rw[hb1] at el;simp only[if_true] at el;refine Jur (by show decide (((dMs out).length:Int)=i64.wrap (2*((dL p.gives).length:Int)))=true;rw[hol,e2];exact decide_eq_true (by omega)) ?_;refine JuB (0<(c.wants.length:Int)) (by show decide (0<((dCs c.wants).length:Int))=_;rw[hwl]) (fun _=>JuC rfl) (fun q2=>JuC ?_);have:ah=true:=by
   rw[Bool.or_eq_true,decide_eq_true_eq] at hb1;exact hb1.resolve_left (by omega)
  show [dB ah]=_;rw[this]
end Go.Proofs.YtofcmnglieaoeabGreatDoor

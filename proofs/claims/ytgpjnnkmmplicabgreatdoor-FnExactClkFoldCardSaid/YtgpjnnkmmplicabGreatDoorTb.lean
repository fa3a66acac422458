import Derived.Test.YtgpjnnkmmplicabGreatDoorTa
import Derived.Below
import Derived.Orders
import Derived.LoopN
import Derived.Tactics
set_option linter.unusedVariables false
set_option linter.unusedSimpArgs false
section
namespace Go.Tm
section
variable {P:Program} {T:Tab} {G:JQ} {c:Cx P} {g:Gh} {m m':Mem} {w w':World} {a:Act} {sl:QI} {o:Oper} {x:X}
theorem Jmi (hS:Sim c g m w) (hsl:Jm c g m w sl a) {cl:Call} (ho:o.op = .call cl) (hcl:cl.callee = .builtin .len)
  (h:(opM P T G sl o).run m=some (x,m')):Qi P c g m w a o x m':=by
 unfold opM at h;rw[ho] at h;simp only[hcl] at h;split at h
 case h_2=>simp[MP.run] at h
 rename_i p t hal htl;have hargs:cl.args = #[p]:=by rw[←hal]
 have htys:cl.argTypes = #[t]:=by rw[←htl]
 have hp:=oX1 hsl p;have hexec:execOp a.eval o=(do let d ←resolve a.eval cl o.type;invoke d.target d.args):=by unfold execOp;rw[ho]
 have hrunOf :∀(v:Value),(Builtin.len_ #[t] o.type #[a.eval p]).run P w = .ok v w→(execOp a.eval o).run P w = .ok (.value v) w:=fun v hr=>by
  rw[hexec];simp[resolve,hcl,hargs,htys,invoke,builtin,hr]
 split at h
 ·rename_i s hx;rw[hx] at hp;obtain⟨r,hr,h1,rfl,rfl⟩:=Ky h;refine .look (v:=r) (hrunOf _ ?_) hS (JdJ h1);rw[(JW hp).1];exact XY _ _ w hr
 ·split at h
  ·rename_i e he;obtain⟨es,m1,hv,h'⟩:=MP.bind_some h;clear h;have h:=h';clear h';obtain⟨rfl,A,cap,hpv⟩:=Jgv hS hp hv;cases rS1 h;refine .look (v:=goInt es.length) (hrunOf _ ?_) hS (JdJ rfl);simp[Builtin.len_,hpv,run_underlying (JM he)]
  ·simp[MP.run] at h
theorem Jml (hS:Sim c g m w) (hsl:Jm c g m w sl a) {cl:Call} (ho:o.op = .call cl) (hcl:cl.callee = .builtin .cap)
  (h:(opM P T G sl o).run m=some (x,m')):Qi P c g m w a o x m':=by
 unfold opM at h;rw[ho] at h;simp only[hcl] at h;split at h
 case h_2=>simp[MP.run] at h
 rename_i p t hal htl;have hargs:cl.args = #[p]:=by rw[←hal]
 have htys:cl.argTypes = #[t]:=by rw[←htl]
 have hp:=oX1 hsl p;have hexec:execOp a.eval o=(do let d ←resolve a.eval cl o.type;invoke d.target d.args):=by unfold execOp;rw[ho]
 have hrunOf :∀(v:Value),(Builtin.cap_ #[t] o.type #[a.eval p]).run P w = .ok v w→(execOp a.eval o).run P w = .ok (.value v) w:=fun v hr=>by
  rw[hexec];simp[resolve,hcl,hargs,htys,invoke,builtin,hr]
 split at h
 ·rename_i e hx he;rw[hx] at hp;cases rS1 h;refine .look (v:=goInt 0) (hrunOf _ ?_) hS (JdJ rfl);rw[(JW hp).1];simp[Builtin.cap_,run_underlying (JM he)]
 ·simp[MP.run] at h
theorem Jhe {t:TypeId} {n:Nat} {ag:Bool} {cs:Array Value} {off:Nat} (ha:Ys P t=some ag) (hn:Qm P t=some n) :
  (part t cs off).run P w = if ag then .ok (.agg (cs.extract off (off + n))) w else (match cs[off]? with | some v => .ok v w | none => .halt (.stuck "part: no such cell") w) := by
 cases ag with
 | true=>simp[part,Uv ha,Xn hn]
 | false =>
  simp only[part,Sem.run_bind,Uv ha,Result.andThen_ok];cases cs[off]? <;> simp
theorem Jhv (hS:Sim c g m w) (hsl:Jm c g m w sl a) {t:TypeId} {p:Operand} {i:Nat} (ho:o.op = .field t p i)
  (h:(opM P T G sl o).run m=some (x,m')):Qi P c g m w a o x m':=by
 have hp:=oX1 hsl p;unfold opM at h;rw[ho] at h;simp only at h;have conv :∀{ag off n},Zr P t i=some (off,n)→UN P t i=some ag→∃ fs f,P.underlying t=some (.struct fs)∧fs[i]? = some f∧f.offset=off∧Qm P f.type=some n∧Ys P f.type=some ag:=fun h1 h2=>by
  obtain⟨fs,f,hu,hf,ho,hs⟩:=Jbt h1;unfold UN at h2;rw[hu] at h2;simp only[hf,JrS] at h2;exact⟨fs,f,hu,hf,ho,hs,h2⟩
 split at h
 ·rename_i off n cs hft hfa hpx;cases rS1 h;obtain⟨fs,f,hu,hf,rfl,hs,ha⟩:=conv hft hfa;rw[hpx] at hp;obtain⟨vs,hv,hvs,hone⟩:=hp;refine .look (v:= .agg (vs.toArray.extract f.offset (f.offset+n))) ?_ hS ⟨(vs.drop f.offset).take n,?_,Jam _ _ _ (Ko _ _ _ hvs),fun u hu=>hone u (List.mem_of_mem_drop (Jr2 hu))⟩
  ·unfold execOp;rw[ho];simp[Instr.field,run_underlying hu,hf,hv,asAgg,Jhe ha hs]
  ·simp
 ·rename_i off n cs hft hfa hpx;split at h
  ·rename_i y hy;cases rS1 h;obtain⟨fs,f,hu,hf,rfl,hs,ha⟩:=conv hft hfa;rw[hpx] at hp;obtain⟨vs,hv,hvs,hone⟩:=hp;obtain⟨u,hu',hx⟩:=Jgg cs vs f.offset _ hvs hy;refine .look (v:=u) ?_ hS hx;unfold execOp;rw[ho];simp[Instr.field,run_underlying hu,hf,hv,asAgg,Jhe ha hs,hu']
  ·simp[MP.run] at h
 ·simp[MP.run] at h
theorem Ja0 :∀(n:Nat) (es:List D) (sz b off:Nat) (fp:List Nat),Ub w es sz b off fp→∃ fp',Ub w (es.take n) sz b off fp'∧∀q∈fp',q∈fp
 | 0,_,_,_,_,_,_=>⟨[],rfl,by simp⟩
 | _+1,[],_,_,_,fp,h=>⟨fp,h,fun _ h=>h⟩
 | n+1,e::es,sz,b,off,fp,⟨val,f1,f2,hf,h1,hs,hc,h2,h3⟩=>by
  subst hf;obtain⟨fp',a1,a2⟩:=Ja0 n es sz b (off+sz) f2 h2;exact⟨f1++fp',⟨val,f1,fp',rfl,h1,hs,hc,a1,h3⟩,fun q hq=>by
   rcases JrJ.1 hq with h | h
   ·simp[h]
   ·simp[a2 q h]⟩
theorem UW {t e:TypeId} {A:Option Addr} {n cap sz:Nat} {h:Int} {kk:IntKind} (he:JK P t=some e) (hs:Qm P e=some sz) (h0:0≤h) (h1:h≤cap) :
  (Instr.sliceAt t (.slice A n cap) none (some (.int kk h)) none).run P w = .ok (.slice A h.toNat cap) w:=by
 have ha:A.map (fun a=>a.add 0)=A:=by cases A <;> simp[Addr.add]
 by_cases hc:cap=0
 ·subst hc;obtain rfl:h=0:=by omega
  simp[Instr.sliceAt,Instr.slice,Instr.sliceBounds,Instr.sliceBound,asIntOf,run_underlying (JM he),Xn hs]
 ·simp[Instr.sliceAt,Instr.slice,Instr.sliceBounds,Instr.sliceBound,asIntOf,run_underlying (JM he),Xn hs,h0,h1,hc,ha]
theorem Jfw {k k':Key} {ty:TypeId} {sz:Nat} {es:List D} {dp:Bool} {n:Nat} (hS:Sim c g m w) (hk:m k=some (.arr ty sz es dp true)) (hk':(upd m k (some .dead)) k'=none) (hn:n≤es.length) :
  ∃ g' A cap,g.hd k = .slice A es.length cap∧n≤cap∧Sim c g' (upd (upd m k (some .dead)) k' (some (.arr ty sz (es.take n) false true))) w∧Jb c g m w g' (upd (upd m k (some .dead)) k' (some (.arr ty sz (es.take n) false true))) w ∧
   VX c g' (upd (upd m k (some .dead)) k' (some (.arr ty sz (es.take n) false true))) w (.o k' n) (.slice A n cap):=by
 have hne:k'≠k:=fun e=>by rw[e,uS1] at hk';cases hk'
 have hk0:m k'=none:=by rw[uO1 _ _ hne] at hk';exact hk'
 have hC1:Jb c g m w g (upd m k (some .dead)) w:=by
  refine⟨Nat.le_refl _,fun i h1 _ _=>⟨rfl,?_⟩,fun j cs' hj=>?_,fun j ty' sz' es' dp' rw' hj=>?_,fun j hj=>?_⟩
  ·rintro⟨j,o,hj,hrw,hbl⟩
   by_cases hjk:j=k
   ·subst hjk;rw[uS1] at hj;cases hj;cases hrw
   ·rw[uO1 _ _ hjk] at hj;exact h1 ⟨j,o,hj,hrw,hbl⟩
  ·have hjk:j≠k:=fun e=>by subst e;rw[hk] at hj;cases hj
   exact⟨⟨cs',by rw[uO1 _ _ hjk];exact hj⟩,rfl⟩
  ·by_cases hjk:j=k
   ·subst hjk;exact .inl (uS1 _ _ _)
   ·exact .inr ⟨es',dp',rw',by rw[uO1 _ _ hjk];exact hj,.inl ⟨rfl,rfl,rfl⟩⟩
  ·by_cases hjk:j=k
   ·subst hjk;exact uS1 _ _ _
   ·rw[uO1 _ _ hjk];exact hj
 have hS1:Sim c g (upd m k (some .dead)) w:=hS.step (uS1 _ _ _) (fun j hj=> .inl (uO1 _ _ hj)) hC1 hS.frame (fun j _=>⟨rfl,rfl,rfl⟩) (fun b j o hj hrw hb _ _=>⟨rfl,hS.own j o b hj hrw hb⟩) hS.live trivial;obtain⟨harr,hok,_⟩:=hS.arr k ty sz es dp true hk;rcases harr with ⟨hbl,hhd,rfl,hfd⟩ | ⟨b,cap,cs,hbl,hhd,hcap,hcm,hh,hsize,hr⟩
 ·obtain rfl:n=0:=by simpa using hn
  let g':Gh:={ g with bl:=upd g.bl k' none,hd:=upd g.hd k' Qd,fd:=upd g.fd k' [] }
  have hC2:Jb c g (upd m k (some .dead)) w g' (upd (upd m k (some .dead)) k' (some (.arr ty sz [] false true))) w:=by
   have ne :∀{j:Key} {o:Obj},upd m k (some .dead) j=some o→j≠k':=fun h e=>by rw[e,hk'] at h;cases h
   refine⟨Nat.le_refl _,fun i h1 _ _=>⟨rfl,?_⟩,fun j cs' hj=>?_,fun j ty' sz' es' dp' rw' hj=>?_,fun j hj=>?_⟩
   ·rintro⟨j,o,hj,hrw,hb⟩
    by_cases hjk:j=k'
    ·subst hjk;rw[uS1] at hj;cases hj;rcases hb with hb | hb
     ·simp only[g',uS1] at hb;cases hb
     ·cases hb.1
    ·rw[uO1 _ _ hjk] at hj;have hb:Blk g j o i:=by unfold Blk at hb ⊢;simpa only[g',uO1 _ _ hjk] using hb
     exact h1 ⟨j,o,hj,hrw,hb⟩
   ·exact⟨⟨cs',by rw[uO1 _ _ (ne hj)];exact hj⟩,uO1 _ _ (ne hj)⟩
   ·exact .inr ⟨es',dp',rw',by rw[uO1 _ _ (ne hj)];exact hj,.inl ⟨rfl,uO1 _ _ (ne hj),uO1 _ _ (ne hj)⟩⟩
   ·rw[uO1 _ _ (ne hj)];exact hj
  have hS2:Sim c g' (upd (upd m k (some .dead)) k' (some (.arr ty sz [] false true))) w:=hS1.step (uS1 _ _ _) (fun j hj=> .inl (uO1 _ _ hj)) hC2 hS.frame (fun j hj=>⟨uO1 _ _ hj,uO1 _ _ hj,uO1 _ _ hj⟩)
   (fun b j o hj hrw hb _ _=>⟨rfl,hS1.own j o b hj hrw hb⟩) hS1.live
   ⟨.inl ⟨by simp[g',uS1],by simp[g',uS1],rfl,by simp[g',uS1]⟩,fun _=>by simp only[g',uS1];exact fun b hb=>by simp at hb,(fun(h:true=false)=>by cases h),(fun _ b hb=>by
    rcases hb with hb | hb
    ·simp[g',uS1] at hb
    ·cases hb.1),(fun(h:false=true)=>by cases h)⟩
  refine⟨g',none,0,by rw[hhd];rfl,Nat.le_refl _,hS2,hC1.trans hC2,rfl,⟨_,uS1 _ _ _,by simp⟩,fun ty1 sz1 es1 dp1 rw1 e=>?_⟩;rw[uS1] at e;cases e;exact⟨Nat.le_refl _,fun _=>by simp[g',uS1];rfl⟩
 ·obtain⟨fp',hr',hsub⟩:=Ja0 n es sz b 0 _ hr;have hown:=hS.own k _ b hk rfl (.inl hbl);have hdeep:dp=true→(g.fd k).Nodup∧∀b,g.bl k=some b→b∉g.fd k:=fun h=>by subst h;exact⟨(hS.deep k ty sz es hk).1,fun b hb=>((hS.deep k ty sz es hk).2 b hb).1⟩
  let g':Gh:={ bl:=upd g.bl k' (some b),hd:=upd g.hd k' (.slice (some ⟨b,0,none⟩) n cap),fd:=upd g.fd k' fp',ow:=upd g.ow b (some k') }
  have notM :∀j o,upd m k (some .dead) j=some o→o.rw=true→g.bl j≠some b:=fun j o hj hrw hb=>by
   by_cases hjk:j=k
   ·subst hjk;rw[uS1] at hj;cases hj;cases hrw
   ·rw[uO1 _ _ hjk] at hj;have:=hS.own j o b hj hrw (.inl hb);rw[hown] at this;cases this;exact hjk rfl
  have hC2:Jb c g m w g' (upd (upd m k (some .dead)) k' (some (.arr ty sz (es.take n) false true))) w:=by
   have ne :∀{j:Key} {o:Obj},m j=some o→j≠k':=fun h e=>by rw[e,hk0] at h;cases h
   refine⟨Nat.le_refl _,fun i h1 _ _=>⟨rfl,?_⟩,fun j cs' hj=>?_,fun j ty' sz' es' dp' rw' hj=>?_,fun j hj=>?_⟩
   ·rintro⟨j,o,hj,hrw,hb⟩
    by_cases hjk:j=k'
    ·subst hjk;rw[uS1] at hj;cases hj;rcases hb with hb | hb
     ·simp only[g',uS1,JrD] at hb;subst hb;exact h1 ⟨k,_,hk,rfl,.inl hbl⟩
     ·cases hb.1
    ·rw[uO1 _ _ hjk] at hj;have hb:Blk g j o i:=by unfold Blk at hb ⊢;simpa only[g',uO1 _ _ hjk] using hb
     by_cases hjk2:j=k
     ·subst hjk2;rw[uS1] at hj;cases hj;cases hrw
     ·rw[uO1 _ _ hjk2] at hj;exact h1 ⟨j,o,hj,hrw,hb⟩
   ·have hjk:j≠k:=fun e=>by subst e;rw[hk] at hj;cases hj
    exact⟨⟨cs',by rw[uO1 _ _ (ne hj),uO1 _ _ hjk];exact hj⟩,uO1 _ _ (ne hj)⟩
   ·by_cases hjk:j=k
    ·subst hjk;exact .inl (by rw[uO1 _ _ (Ne.symm hne),uS1])
    ·exact .inr ⟨es',dp',rw',by rw[uO1 _ _ (ne hj),uO1 _ _ hjk];exact hj,.inl ⟨rfl,uO1 _ _ (ne hj),uO1 _ _ (ne hj)⟩⟩
   ·have hjk:j≠k:=fun e=>by subst e;rw[hk] at hj;cases hj
    rw[uO1 _ _ (ne hj),uO1 _ _ hjk];exact hj
  have hlive:=hS.live b k hown;have hmono:JP c g' (upd (upd m k (some .dead)) k' (some (.arr ty sz (es.take n) false true))) fp':=by
   cases hdp:dp with
   | false=>exact(Qj hC2 (Z7 _ _ _ _ _ hr') (fun q hq=>hok (by simp[hdp]) q (hsub q hq))).1
   | true =>
    intro q hq;have hB:Blk g k (.arr ty sz es dp true) q:= .inr ⟨by simp[Obj.dpw,hdp],hsub q hq⟩;have ho:=hS.own k _ q hk rfl hB;refine⟨?_,?_⟩
    ·rintro⟨j,o,hj,hrw,hb⟩
     by_cases hjk:j=k'
     ·subst hjk;rw[uS1] at hj;cases hj;rcases hb with hb | hb
      ·simp only[g',uS1,JrD] at hb;subst hb;exact(hdeep hdp).2 b hbl (hsub b hq)
      ·cases hb.1
     ·rw[uO1 _ _ hjk] at hj;have hb:Blk g j o q:=by unfold Blk at hb ⊢;simpa only[g',uO1 _ _ hjk] using hb
      by_cases hjk2:j=k
      ·subst hjk2;rw[uS1] at hj;cases hj;cases hrw
      ·rw[uO1 _ _ hjk2] at hj;have:=hS.own j o q hj hrw hb;rw[ho] at this;cases this;exact hjk2 rfl
    ·rcases (hS.live q k ho).2 with h | h
     ·exact .inr h
     ·exact .inl (c.parA q h)
  have hS2:Sim c g' (upd (upd m k (some .dead)) k' (some (.arr ty sz (es.take n) false true))) w:=by
   refine hS.step (uS1 _ _ _) (fun j hj=>?_) hC2 hS.frame (fun j hj=>⟨uO1 _ _ hj,uO1 _ _ hj,uO1 _ _ hj⟩) (fun q j o hj hrw hb hjk hj'=>⟨rfl,?_⟩) (fun q j hj=>?_) ?_
   ·by_cases hjk:j=k
    ·subst hjk;exact .inr (by rw[uO1 _ _ hj,uS1])
    ·exact .inl (by rw[uO1 _ _ hj,uO1 _ _ hjk])
   ·have hjk2:j≠k:=fun e=>by subst e;rw[uO1 _ _ hjk,uS1] at hj';cases hj';cases hrw
    have h1:=hS.own j o q hj hrw hb;have:q≠b:=fun e=>by subst e;rw[hown] at h1;cases h1;exact hjk2 rfl
    simp only[g',uO1 _ _ this];exact h1
   ·by_cases hq:q=b
    ·subst hq;exact hlive
    ·simp only[g',uO1 _ _ hq] at hj;exact hS.live q j hj
   ·refine⟨.inr ⟨b,cap,cs,by simp[g',uS1],by simp[g',uS1,Nat.min_eq_left hn],by simp;omega,hcm,hh,hsize,by simp only[g',uS1];exact hr'⟩,fun _=>by simp only[g',uS1];exact hmono,(fun(h:true=false)=>by cases h),fun _ q hq=>?_,(fun(h:false=true)=>by cases h)⟩;rcases hq with hq | hq
    ·simp only[g',uS1,JrD] at hq;subst hq;simp[g',uS1]
    ·cases hq.1
  refine⟨g',some ⟨b,0,none⟩,cap,hhd,by omega,hS2,hC2,rfl,⟨_,uS1 _ _ _,by simp⟩,fun ty1 sz1 es1 dp1 rw1 e=>?_⟩;rw[uS1] at e;cases e;exact⟨by simp;omega,fun _=>by simp[g',uS1]⟩
theorem Jj5 {key j:Key} {ty:TypeId} {sz:Nat} {es:List D} {dp:Bool} (hS:Sim c g m w) (hk:m key=none) (hj:m j=some (.arr ty sz es dp true)) (v':Value)
  (hnew:(g.bl j=none∧v'=Qd∧es=[]∧g.fd j=[])∨∃ b cap cs,g.bl j=some b∧v' = .slice (some ⟨b,0,none⟩) es.length cap∧es.length≤cap∧cap≤maxLen∧w.heap[b]? = some (.cells cs ty (0,0))∧cap*sz≤cs.size∧Ub w es sz b 0 (g.fd j)) :
  ∃ g',Sim c g' (upd (upd m j (some .dead)) key (some (.arr ty sz es dp true))) w∧Jb c g m w g' (upd (upd m j (some .dead)) key (some (.arr ty sz es dp true))) w∧g'.hd key=v':=by
 have hjk:j≠key:=fun e=>by subst e;rw[hk] at hj;cases hj
 let g':Gh:={ bl:=upd g.bl key (g.bl j),hd:=upd g.hd key v',fd:=upd g.fd key (g.fd j),ow:=fun b=>if g.ow b=some j then some key else g.ow b }
 have hget :∀k o,upd (upd m j (some .dead)) key (some (.arr ty sz es dp true)) k=some o→(k=key∧o = .arr ty sz es dp true)∨(k≠key∧k=j∧o = .dead)∨(k≠key∧k≠j∧m k=some o):=fun k o h=>by
  by_cases e:k=key
  ·subst e;rw[uS1] at h;cases h;exact .inl ⟨rfl,rfl⟩
  ·rw[uO1 _ _ e] at h
   by_cases e2:k=j
   ·subst e2;rw[uS1] at h;cases h;exact .inr (.inl ⟨e,rfl,rfl⟩)
   ·rw[uO1 _ _ e2] at h;exact .inr (.inr ⟨e,e2,h⟩)
 have hB :∀k o b,upd (upd m j (some .dead)) key (some (.arr ty sz es dp true)) k=some o→o.rw=true→Blk g' k o b→∃ k0,m k0=some o∧Blk g k0 o b∧((k=key∧k0=j)∨(k0=k∧k≠key∧k≠j)):=fun k o b h hrw hb=>by
  rcases hget k o h with ⟨rfl,rfl⟩ | ⟨_,_,rfl⟩ | ⟨h1,h2,h3⟩
  ·exact⟨j,hj,by unfold Blk at hb ⊢;simpa only[g',uS1] using hb,.inl ⟨rfl,rfl⟩⟩
  ·cases hrw
  ·exact⟨k,h3,by unfold Blk at hb ⊢;simpa only[g',uO1 _ _ h1] using hb,.inr ⟨rfl,h1,h2⟩⟩
 have hM :∀b,Mut g' (upd (upd m j (some .dead)) key (some (.arr ty sz es dp true))) b→Mut g m b:=by
  rintro b ⟨k,o,h,hrw,hb⟩;obtain⟨k0,h1,h2,_⟩:=hB k o b h hrw hb;exact⟨k0,o,h1,hrw,h2⟩
 have hok :∀fp,JP c g m fp→JP c g' (upd (upd m j (some .dead)) key (some (.arr ty sz es dp true))) fp:=fun fp hf b hb=>⟨fun hm=>(hf b hb).1 (hM b hm),(hf b hb).2⟩;have hC:Jb c g m w g' (upd (upd m j (some .dead)) key (some (.arr ty sz es dp true))) w:=by
  refine⟨Nat.le_refl _,fun b h1 _ _=>⟨rfl,fun h=>h1 (hM b h)⟩,fun k cs h=>?_,fun k ty' sz' es' dp' rw h=>?_,fun k h=>?_⟩
  ·have e:k≠key:=fun e=>by subst e;rw[hk] at h;cases h
   have e2:k≠j:=fun e=>by subst e;rw[hj] at h;cases h
   exact⟨⟨cs,by rw[uO1 _ _ e,uO1 _ _ e2];exact h⟩,uO1 _ _ e⟩
  ·have e:k≠key:=fun e=>by subst e;rw[hk] at h;cases h
   by_cases e2:k=j
   ·subst e2;exact .inl (by rw[uO1 _ _ e,uS1])
   ·exact .inr ⟨es',dp',rw,by rw[uO1 _ _ e,uO1 _ _ e2];exact h,.inl ⟨rfl,uO1 _ _ e,uO1 _ _ e⟩⟩
  ·have e:k≠key:=fun e=>by subst e;rw[hk] at h;cases h
   have e2:k≠j:=fun e=>by subst e;rw[hj] at h;cases h
   rw[uO1 _ _ e,uO1 _ _ e2];exact h
 refine⟨g',⟨hS.frame,fun k cs h=>?_,fun k ty' sz' es' dp' rw h=>?_,fun k ty' sz' es' h=>?_,fun k o b h hrw hb=>?_,fun b k h=>?_⟩,hC,uS1 _ _ _⟩
 ·rcases hget k _ h with ⟨_,e⟩ | ⟨_,_,e⟩ | ⟨h1,h2,h3⟩
  ·cases e
  ·cases e
  ·obtain⟨b,vs,ty,q1,q2,q3,q4⟩:=hS.box k cs h3;exact⟨b,vs,ty,(uO1 _ _ h1).trans q1,q2,Qe hC _ _ q3,q4⟩
 ·rcases hget k _ h with ⟨rfl,e⟩ | ⟨_,_,e⟩ | ⟨h1,h2,h3⟩
  ·cases e;obtain⟨q1,q2,q3⟩:=hS.arr j _ _ _ _ _ hj;have e1:g'.bl k=g.bl j:=uS1 _ _ _;have e2:g'.hd k=v':=uS1 _ _ _;have e3:g'.fd k=g.fd j:=uS1 _ _ _;refine⟨by unfold V4;rw[e1,e2,e3];exact hnew,fun hd=>by rw[e3];exact hok _ (q2 hd),(fun(h:true=false)=>by cases h)⟩
  ·cases e
  ·obtain⟨q1,q2,q3⟩:=hS.arr k _ _ _ _ _ h3;have e1:g'.bl k=g.bl k:=uO1 _ _ h1;have e2:g'.hd k=g.hd k:=uO1 _ _ h1;have e3:g'.fd k=g.fd k:=uO1 _ _ h1;refine⟨by unfold V4 at q1 ⊢;rw[e1,e2,e3];exact q1,fun hd=>by rw[e3];exact hok _ (q2 hd),fun hr b hb=>hok _ (q3 hr b (by rw[←e1];exact hb))⟩
 ·rcases hget k _ h with ⟨rfl,e⟩ | ⟨_,_,e⟩ | ⟨h1,h2,h3⟩
  ·cases e;have e1:g'.bl k=g.bl j:=uS1 _ _ _;have e3:g'.fd k=g.fd j:=uS1 _ _ _;rw[e1,e3];exact hS.deep j _ _ _ hj
  ·cases e
  ·have e1:g'.bl k=g.bl k:=uO1 _ _ h1;have e3:g'.fd k=g.fd k:=uO1 _ _ h1;rw[e1,e3];exact hS.deep k _ _ _ h3
 ·obtain⟨k0,h1,h2,h3⟩:=hB k o b h hrw hb;have ho:=hS.own k0 o b h1 hrw h2;show (if g.ow b=some j then some key else g.ow b)=some k;rw[ho];rcases h3 with ⟨rfl,rfl⟩ | ⟨rfl,_,h4⟩
  ·rw[if_pos rfl]
  ·rw[if_neg (fun e=>h4 (Option.some.inj e))]
 ·have h':(if g.ow b=some j then some key else g.ow b)=some k:=h;split at h'
  ·rename_i e;exact hS.live b j e
  ·exact hS.live b k h'
theorem Jeh {k k':Key} {ty:TypeId} {sz:Nat} {es:List D} {dp:Bool} (hS:Sim c g m w) (hk:m k=some (.arr ty sz es dp true)) (hk':(upd m k (some .dead)) k'=none) :
  ∃ g' A cap,g.hd k = .slice A es.length cap∧es.length≤cap∧Sim c g' (upd (upd m k (some .dead)) k' (some (.arr ty sz es dp true))) w∧Jb c g m w g' (upd (upd m k (some .dead)) k' (some (.arr ty sz es dp true))) w ∧
   VX c g' (upd (upd m k (some .dead)) k' (some (.arr ty sz es dp true))) w (.o k' es.length) (.slice A es.length es.length):=by
 have hne:k'≠k:=fun e=>by rw[e,uS1] at hk';cases hk'
 have hk0:m k'=none:=by rw[uO1 _ _ hne] at hk';exact hk'
 obtain⟨harr,_,_⟩:=hS.arr k ty sz es dp true hk;rcases harr with ⟨hbl,hhd,rfl,hfd⟩ | ⟨b,cap,cs,hbl,hhd,hcap,hcm,hh,hsize,hr⟩
 ·obtain⟨g',h1,h2,h3⟩:=Jj5 hS hk0 hk Qd (.inl ⟨hbl,rfl,rfl,hfd⟩);refine⟨g',none,0,hhd,Nat.le_refl _,h1,h2,rfl,⟨_,uS1 _ _ _,by simp⟩,fun ty1 sz1 es1 dp1 rw1 e=>?_⟩;rw[uS1] at e;cases e;exact⟨Nat.le_refl _,fun _=>by rw[h3];rfl⟩
 ·obtain⟨g',h1,h2,h3⟩:=Jj5 hS hk0 hk (.slice (some ⟨b,0,none⟩) es.length es.length) (.inr ⟨b,es.length,cs,hbl,rfl,Nat.le_refl _,by omega,hh,Nat.le_trans (Nat.mul_le_mul_right _ hcap) hsize,hr⟩);refine⟨g',some ⟨b,0,none⟩,cap,hhd,hcap,h1,h2,rfl,⟨_,uS1 _ _ _,by simp⟩,fun ty1 sz1 es1 dp1 rw1 e=>?_⟩;rw[uS1] at e;cases e;exact⟨Nat.le_refl _,fun _=>by rw[h3]⟩
theorem Jjy {t e:TypeId} {A:Option Addr} {n cap sz:Nat} {h q:Int} {kk k2:IntKind} (he:JK P t=some e) (hs:Qm P e=some sz) (h0:h=n) (h1:q=n) (h2:n≤cap) :
  (Instr.sliceAt t (.slice A n cap) none (some (.int kk h)) (some (.int k2 q))).run P w = .ok (.slice A n n) w:=by
 subst h0 h1;have ha:A.map (fun a=>a.add 0)=A:=by cases A <;> simp[Addr.add]
 by_cases hc:n=0
 ·subst hc;simp[Instr.sliceAt,Instr.slice,Instr.sliceBounds,Instr.sliceBound,asIntOf,run_underlying (JM he),Xn hs]
 ·simp[Instr.sliceAt,Instr.slice,Instr.sliceBounds,Instr.sliceBound,asIntOf,run_underlying (JM he),Xn hs,h2,hc,ha]
theorem Jjo (hS:Sim c g m w) (hsl:Jm c g m w sl a) {t:TypeId} {p:Operand} {lo hi mx:Option Operand} (ho:o.op = .slice t p lo hi mx)
  (h:(K6 P o t (opX sl p) (lo.map (opX sl)) (hi.map (opX sl)) (mx.map (opX sl))).run m=some (x,m')):Qi P c g m w a o x m':=by
 have hp:=oX1 hsl p;simp only[K6] at h;have hexec :∀v w',(Instr.sliceAt t (a.eval p) (lo.map a.eval) (hi.map a.eval) (mx.map a.eval)).run P w = .ok v w'→(execOp a.eval o).run P w = .ok (.value v) w':=fun v w' hr=>by
  unfold execOp;rw[ho];simp only[Sem.run_bind];rw[hr];rfl
 split at h
 ·rename_i es hpx;rw[hpx] at hp;split at h
  ·rename_i hh e h1 h2 h3 he;cases lo with
   | some _=>simp at h1
   | none =>
   cases mx with
   | some _=>simp at h3
   | none =>
   cases hi with
   | none=>simp at h2
   | some y =>
   have hy:=oX1 hsl y;simp only[JrG,JrD] at h2;obtain⟨kk,hyv⟩:=QT hy h2;split at h
   ·rename_i hcond;obtain⟨a1,a2,a3⟩:=hcond;obtain⟨sz,hsz⟩:=Option.isSome_iff_exists.1 a3;cases rS1 h;obtain⟨fp,⟨A,cap,hpv,hle,hrd⟩,hok⟩:=hp;have hrun:=UW (P:=P) (w:=w) (A:=A) (n:=es.length) (cap:=cap) (kk:=kk) he hsz a1 (by omega);have hlen:(es.take hh.toNat).length=hh.toNat:=by simp;omega
    refine .look (v:= .slice A hh.toNat cap) (hexec _ _ ?_) hS ?_
    ·simp only[Option.map_none,JrG,hpv,hyv];exact hrun
    ·rcases hrd with ⟨rfl,rfl⟩ | ⟨b,off,sz',fp',rfl,hb,rfl,hr⟩
     ·exact⟨[],⟨A,cap,by rw[hlen],by rw[hlen];simp at a2;omega,.inl ⟨by simp,rfl⟩⟩,fun b hb=>by simp at hb⟩
     ·obtain⟨fp2,b1,b2⟩:=Ja0 hh.toNat es sz' b off fp' hr;exact⟨b::fp2,⟨_,cap,by rw[hlen],by rw[hlen];omega,.inr ⟨b,off,sz',fp2,rfl,hb,rfl,b1⟩⟩,fun q hq=>by
       rcases JrX.1 hq with rfl | hq
       ·exact hok _ (by simp)
       ·exact hok q (by simp[b2 q hq])⟩
   ·simp[MP.run] at h
  ·simp[MP.run] at h
 ·rename_i k n hpx;rw[hpx] at hp;split at h
  ·rename_i hh e h1 h2 h3 he;cases lo with
   | some _=>simp at h1
   | none =>
   cases mx with
   | some _=>simp at h3
   | none =>
   cases hi with
   | none=>simp at h2
   | some y =>
   have hy:=oX1 hsl y;simp only[JrG,JrD] at h2;obtain⟨kk,hyv⟩:=QT hy h2;obtain⟨ob,hob,h⟩:=MP.get_some h;cases ob with
   | arr ty sz0 es dp rw =>
    cases rw with
    | false=>simp[MP.run] at h
    | true =>
     simp only at h;split at h
     ·rename_i hcond;obtain⟨hn,a1,a2,a3⟩:=hcond;obtain⟨sz,hsz⟩:=Option.isSome_iff_exists.1 a3;obtain⟨_,h⟩:=MP.put_some h;obtain⟨hk',h⟩:=MP.new_some h;obtain⟨g',A,cap,hhd,hle,hS',hC',hx'⟩:=Jfw hS hob hk' (n:=hh.toNat) (by omega);cases rS1 h;have hpv:=(hp.2.2 _ _ es dp true hob).2 hn;rw[hhd] at hpv;have hrun:=UW (P:=P) (w:=w) (A:=A) (n:=es.length) (cap:=cap) (kk:=kk) he hsz a1 (by omega);refine .value (hexec _ _ ?_) hS' hC' hx';simp only[Option.map_none,JrG,hpv,hyv];exact hrun
     ·simp[MP.run] at h
   | _=>simp[MP.run] at h
  ·simp[MP.run] at h
 ·rename_i hpx;rw[hpx] at hp;split at h
  ·rename_i hh e h1 h2 h3 he;cases lo with
   | some _=>simp at h1
   | none =>
   cases mx with
   | some _=>simp at h3
   | none =>
   cases hi with
   | none=>simp at h2
   | some y =>
   have hy:=oX1 hsl y;simp only[JrG,JrD] at h2;obtain⟨kk,hyv⟩:=QT hy h2;split at h
   ·rename_i hcond;obtain⟨a1,a3⟩:=hcond;subst a1;obtain⟨sz,hsz⟩:=Option.isSome_iff_exists.1 a3;cases rS1 h;have hrun:=UW (P:=P) (w:=w) (A:=none) (n:=0) (cap:=0) (kk:=kk) he hsz (Int.le_refl 0) (by omega);refine .look (v:= .slice none 0 0) (hexec _ _ ?_) hS (JdJ rfl);rw[(JW hp).1];simp only[Option.map_none,JrG,hyv];exact hrun
   ·simp[MP.run] at h
  ·simp[MP.run] at h
 ·simp[MP.run] at h
theorem Jim (hS:Sim c g m w) (hsl:Jm c g m w sl a) {t:TypeId} {p:Operand} {lo hi mx:Option Operand} (ho:o.op = .slice t p lo hi mx)
  (h:(opM P T G sl o).run m=some (x,m')):Qi P c g m w a o x m':=by
 have hp:=oX1 hsl p;have h0:=h;unfold opM at h;rw[ho] at h;cases mx with
 | none=>exact Jjo hS hsl ho h
 | some q =>
  have hexec :∀v w',(Instr.sliceAt t (a.eval p) (lo.map a.eval) (hi.map a.eval) (some (a.eval q))).run P w = .ok v w'→(execOp a.eval o).run P w = .ok (.value v) w':=fun v w' hr=>by
   unfold execOp;rw[ho];simp only[Sem.run_bind,JrG];rw[hr];rfl
  simp only[JkH] at h;split at h
  ·rename_i k n hpx;rw[hpx] at hp;split at h
   ·rename_i hh qq e h1 h2 h3 he;cases lo with
    | some _=>simp at h1
    | none =>
    cases hi with
    | none=>simp at h2
    | some y =>
    have hy:=oX1 hsl y;have hq:=oX1 hsl q;simp only[JrG,JrD] at h2;obtain⟨kk,hyv⟩:=QT hy h2;obtain⟨k2,hqv⟩:=QT hq h3;obtain⟨ob,hob,h⟩:=MP.get_some h;cases ob with
    | arr ty sz0 es dp rw =>
     cases rw with
     | false=>simp[MP.run] at h
     | true =>
      simp only at h;split at h
      ·rename_i hcond;obtain⟨hn,a1,a2,a3⟩:=hcond;obtain⟨sz,hsz⟩:=Option.isSome_iff_exists.1 a3;obtain⟨_,h⟩:=MP.put_some h;obtain⟨hk',h⟩:=MP.new_some h;obtain⟨g',A,cap,hhd,hle,hS',hC',hx'⟩:=Jeh hS hob hk';cases rS1 h;have hpv:=(hp.2.2 _ _ es dp true hob).2 hn;rw[hhd] at hpv;have hrun:=Jjy (P:=P) (w:=w) (A:=A) (n:=es.length) (cap:=cap) (kk:=kk) (k2:=k2) he hsz a1 a2 hle;rw[hn];refine .value (hexec _ _ ?_) hS' hC' hx';simp only[Option.map_none,JrG,hpv,hyv,hqv];exact hrun
      ·simp[MP.run] at h
    | _=>simp[MP.run] at h
   ·simp[MP.run] at h
  ·simp[MP.run] at h
end
end Go.Tm
end
section
open Go.RowKit
namespace Go.Tm
def FnX (P:Program) (Φ:Fix P) (f:FuncId) (S:Y0):Prop :=
 (∀args w,(callFunc f args).run P w = .ok (.enter f args) w) ∧
 ∀(c:Cx P) (g:Gh) (os:List Obj) (m:Mem) (w:World) (xs:List X) (vals:List Value) (x:X) (m1:Mem),Φ.ok c→m=Qz (Jq 0 os)→c.w0=w→Sim c g m w→VXs c g m w xs vals→S xs os=some (x,m1) →
  Calls P f vals.toArray w fun e w'=>∃ v g',e = .returned v∧Sim c g' m1 w'∧Jb c g m w g' m1 w'∧VX c g' m1 w' x v
section
variable {P:Program} {T:Tab} {G:JQ} {c c2:Cx P} {g g2:Gh} {m m2 m':Mem} {w w':World} {a:Act} {o:Oper} {x:X} {ρ:Key→Key} {K:Key→Prop}
mutual
theorem JdF (hK :∀k,K k→m2 (ρ k)=(m k).map (Obj.ren ρ)∧g2.bl (ρ k)=g.bl k∧g2.hd (ρ k)=g.hd k) (hF :∀fp,(∀b∈fp,b<w.heap.size)→JP c g m fp→JP c2 g2 m2 fp) :
  ∀(x:X) (v:Value),(∀k∈x.names,K k)→VX c g m w x v→VX c2 g2 m2 w (x.ren ρ) v
 | .d x,v,_,⟨fp,h1,h2⟩=>⟨fp,h1,hF fp (Jax _ _ _ h1) h2⟩
 | .g cs,v,hn,⟨vs,e,h,h1⟩=>⟨vs,e,VN hK hF cs vs (fun k hk=>hn k (by simpa[X.names] using hk)) h,h1⟩
 | .t cs,v,hn,⟨vs,e,h⟩=>⟨vs,e,VN hK hF cs vs (fun k hk=>hn k (by simpa[X.names] using hk)) h⟩
 | .f fn cs,v,hn,⟨vs,e,h⟩=>⟨vs,e,VN hK hF cs vs (fun k hk=>hn k (by simpa[X.names] using hk)) h⟩
 | .o k n,v,hn,⟨h1,⟨o,ho,hb⟩,h2⟩=>by
  obtain⟨e1,e2,e3⟩:=hK k (hn k (by simp[X.names]));have hr:o.ren ρ=o:=by
   cases o with
   | box cs=>exact absurd rfl (hb cs)
   | _=>rfl
  have e:m2 (ρ k)=some o:=by rw[e1,ho,JrG,hr]
  exact⟨h1,⟨o,e,hb⟩,fun ty sz es dp rw h=>by rw[e3];exact h2 ty sz es dp rw (by rw[ho,←e];exact h)⟩
 | .p k off,v,hn,⟨cs,b,h1,h2,h3⟩=>by
  obtain⟨e1,e2,e3⟩:=hK k (hn k (by simp[X.names]));exact⟨Uu ρ cs,b,by rw[e1,h1];rfl,e2.trans h2,h3⟩
 | .e k n i off,v,hn,⟨h1,⟨o,ho,hb⟩,h2⟩=>by
  obtain⟨e1,e2,e3⟩:=hK k (hn k (by simp[X.names]));have hr:o.ren ρ=o:=by
   cases o with
   | box cs=>exact absurd rfl (hb cs)
   | _=>rfl
  have e:m2 (ρ k)=some o:=by rw[e1,ho,JrG,hr]
  exact⟨h1,⟨o,e,hb⟩,fun ty sz es dp rw h=>by rw[e2];exact h2 ty sz es dp rw (by rw[ho,←e];exact h)⟩
 | .u,_,_,_=>trivial
theorem VN (hK :∀k,K k→m2 (ρ k)=(m k).map (Obj.ren ρ)∧g2.bl (ρ k)=g.bl k∧g2.hd (ρ k)=g.hd k) (hF :∀fp,(∀b∈fp,b<w.heap.size)→JP c g m fp→JP c2 g2 m2 fp) :
  ∀(xs:List X) (vs:List Value),(∀k∈J2 xs,K k)→VXs c g m w xs vs→VXs c2 g2 m2 w (Uu ρ xs) vs
 | [],_,_,h=>h
 | x::xs,vs,hn,⟨v,vs',e,h1,h2⟩=>⟨v,vs',e,JdF hK hF x v (fun k hk=>hn k (by simp[J2,hk])) h1,VN hK hF xs vs' (fun k hk=>hn k (by simp[J2,hk])) h2⟩
end
structure JmE (c:Cx P) (g:Gh) (m:Mem) (w:World) (c2:Cx P) (g2:Gh) (m2:Mem) (ρ τ:Key→Key) (K:Key→Prop):Prop where
 back :∀k o,m2 k=some o→K (τ k)∧ρ (τ k)=k
 at_ :∀k,K k→m2 (ρ k)=(m k).map (Obj.ren ρ)∧g2.bl (ρ k)=g.bl k∧g2.hd (ρ k)=g.hd k∧g2.fd (ρ k)=g.fd k
 clo :∀k o,K k→m k=some o→∀j∈o.names,K j
theorem Jbb (o:Obj):(o.ren ρ).rw=o.rw:=by cases o <;> rfl
theorem Vs (o:Obj):(o.ren ρ).dpw=o.dpw:=by cases o <;> rfl
theorem U2 {g g2:Gh} {k k2:Key} {o o2:Obj} {b:Nat} (h:Blk g2 k2 o2 b) (h1:g2.bl k2=g.bl k) (h2:g2.fd k2=g.fd k) (h3:o2.dpw=o.dpw):Blk g k o b:=by
 unfold Blk at h ⊢;rw[h1,h2,h3] at h;exact h
theorem JmE.sim {τ:Key→Key} (hS:Sim c g m w) (h:JmE c g m w c2 g2 m2 ρ τ K) (hf:Yi c2 w) (hF :∀fp,(∀b∈fp,b<w.heap.size)→JP c g m fp→JP c2 g2 m2 fp)
  (how :∀k b,K k→g.ow b=some k→g2.ow b=some (ρ k)) (hlive :∀b k,g2.ow b=some k→b<w.heap.size∧(c2.w0.heap.size≤b∨b∈c2.par)):Sim c2 g2 m2 w:=by
 have get :∀k o,m2 k=some o→∃ o0,K (τ k)∧ρ (τ k)=k∧m (τ k)=some o0∧o=o0.ren ρ∧g2.bl k=g.bl (τ k)∧g2.hd k=g.hd (τ k)∧g2.fd k=g.fd (τ k):=by
  intro k o hk;obtain⟨h1,h2⟩:=h.back k o hk;obtain⟨e1,e2,e3,e4⟩:=h.at_ _ h1;rw[h2] at e1 e2 e3 e4;cases hm:m (τ k) with
  | none=>rw[hm,hk] at e1;cases e1
  | some o0 =>
   rw[hm,hk] at e1;simp only[JrG,JrD] at e1;exact⟨o0,h1,h2,rfl,e1,e2,e3,e4⟩
 refine⟨hf,fun k cs hk=>?_,fun k ty sz es dp rw hk=>?_,fun k ty sz es hk=>?_,fun k o b hk hrw hb=>?_,hlive⟩
 ·obtain⟨o0,h1,h2,h3,h4,h5,h6,h7⟩:=get k _ hk;cases o0 with
  | box cs0 =>
   cases h4;obtain⟨b,vs,ty,q1,q2,q3,q4⟩:=hS.box _ cs0 h3;exact⟨b,vs,ty,h5.trans q1,q2,VN (fun k hk=>⟨(h.at_ k hk).1,(h.at_ k hk).2.1,(h.at_ k hk).2.2.1⟩) hF cs0 vs (h.clo _ _ h1 h3) q3,q4⟩
  | _=>cases h4
 ·obtain⟨o0,h1,h2,h3,h4,h5,h6,h7⟩:=get k _ hk;cases o0 with
  | arr ty0 sz0 es0 dp0 rw0 =>
   cases h4;obtain⟨q1,q2,q3⟩:=hS.arr _ _ _ _ _ _ h3;refine⟨?_,fun hd=>?_,fun hr b hb=>?_⟩
   ·unfold V4 at q1 ⊢;rw[h5,h6,h7];exact q1
   ·rw[h7];refine hF _ ?_ (q2 hd);rcases q1 with ⟨_,_,_,e⟩ | ⟨b,cap,cs,_,_,_,_,_,_,hr⟩
    ·rw[e];intro b hb;simp at hb
    ·exact Z7 _ _ _ _ _ hr
   ·rw[h5] at hb;refine hF [b] ?_ (q3 hr b hb);rcases q1 with ⟨e,_⟩ | ⟨b',cap,cs,e,_,_,_,hh,_⟩
    ·rw[e] at hb;cases hb
    ·rw[e] at hb;cases hb;intro q hq;simp at hq;subst hq;exact(JrQ.1 hh).1
  | _=>cases h4
 ·obtain⟨o0,h1,h2,h3,h4,h5,h6,h7⟩:=get k _ hk;cases o0 with
  | arr ty0 sz0 es0 dp0 rw0 =>
   cases h4;rw[h5,h7];exact hS.deep _ _ _ _ h3
  | _=>cases h4
 ·obtain⟨o0,h1,h2,h3,h4,h5,h6,h7⟩:=get k _ hk;have:=how (τ k) b h1 (hS.own _ o0 b h3 (by rw[←Jbb (ρ:=ρ) o0,←h4];exact hrw) (U2 hb h5 h7 (by rw[h4,Vs])));rw[h2] at this;exact this
open Classical in
noncomputable def QF (c:Cx P) (g:Gh) (m:Mem) (w:World) (L:List Key):Cx P where
 w0:=w
 A:=(List.range w.heap.size).filter (fun b=>decide (JP c g m [b]))++(List.range w.heap.size).filter (fun b=>decide (∃ k∈L,g.ow b=some k))
 par:=(List.range w.heap.size).filter (fun b=>decide (∃ k∈L,g.ow b=some k))
 parA:=fun b h=>List.mem_append_right _ h
theorem Fix.lent {Φ:Fix P} {L:List Key} (hS:Sim c g m w) (h:Φ.ok c):Φ.ok (QF c g m w L):=by
 refine⟨hS.inv h,fun b hb hp=>?_⟩;simp only[QF,List.mem_filter,decide_eq_true_eq] at hp;obtain⟨_,k,_,hk⟩:=hp;rcases (hS.live b k hk).2 with h1 | h1
 ·exact absurd (Φ.lt _ h.1 b hb) (by omega)
 ·exact h.2 b hb h1
theorem W8 {L:List Key} {b:Nat}:b∈(QF c g m w L).par↔b<w.heap.size∧∃ k∈L,g.ow b=some k:=by
 simp[QF]
theorem JmR {L:List Key} {b:Nat}:b∈(QF c g m w L).A↔(b<w.heap.size∧JP c g m [b])∨b∈(QF c g m w L).par:=by
 simp[QF]
theorem JdI {fp:List Nat} (h:JP c g m fp) {b:Nat} (hb:b∈fp):JP c g m [b]:=fun q hq=>by
 simp at hq;subst hq;exact h q hb
structure Jm7 (m:Mem) (m1 m3:Mem) (L all:List Key) (back:Key→Key):Prop where
 at_ :∀κ∈all,m1 κ≠none∧m3 (back κ)=(m1 κ).map (Obj.ren back)
 off :∀k,(∀κ∈all,back κ≠k)→m3 k=m k
 inj :∀κ∈all,∀κ'∈all,back κ=back κ'→κ=κ'
 lent :∀k∈L,∃ κ∈all,back κ=k
 new :∀κ∈all,back κ∉L→m (back κ)=none
 clo :∀κ∈all,∀o,m1 κ=some o→∀j∈o.names,j∈all
open Classical in
noncomputable def inv (all:List Key) (back:Key→Key) (k:Key):Option Key:=if h : ∃ κ∈all,back κ=k then some h.choose else none
theorem ZD {all:List Key} {back:Key→Key} {k κ:Key} (h:inv all back k=some κ):κ∈all∧back κ=k:=by
 unfold inv at h;split at h
 ·rename_i hex;simp only[JrD] at h;subst h;exact hex.choose_spec
 ·cases h
theorem QC {all:List Key} {back:Key→Key} {k:Key} (h:inv all back k=none) :∀κ∈all,back κ≠k:=by
 unfold inv at h;split at h
 ·cases h
 ·rename_i hex;exact fun κ hκ e=>hex ⟨κ,hκ,e⟩
theorem Jm4 {m1 m3:Mem} {L all:List Key} {back:Key→Key} (hB:Jm7 m m1 m3 L all back) {κ:Key} (hκ:κ∈all):inv all back (back κ)=some κ:=by
 cases h:inv all back (back κ) with
 | none=>exact absurd rfl (QC h κ hκ)
 | some κ' =>
  obtain⟨h1,h2⟩:=ZD h;rw[hB.inj κ' h1 κ hκ h2]
open Classical in
noncomputable def Gh.back (g g1:Gh) (all:List Key) (back:Key→Key):Gh where
 bl k:=match inv all back k with | some κ=>g1.bl κ | none=>g.bl k
 hd k:=match inv all back k with | some κ=>g1.hd κ | none=>g.hd k
 fd k:=match inv all back k with | some κ=>g1.fd κ | none=>g.fd k
 ow b:=match g1.ow b with
  | some κ=>if κ∈all then some (back κ) else g.ow b
  | none=>g.ow b
theorem JqD {m1 m3 mL:Mem} {g1 gL:Gh} {L all:List Key} {back:Key→Key} (hS:Sim c g m w) (hB:Jm7 m m1 m3 L all back)
  (hS1:Sim (QF c g m w L) g1 m1 w') (hC1:Jb (QF c g m w L) gL mL w g1 m1 w')
  (hL :∀b,Mut gL mL b→Mut g m b) (hbox :∀k∈L,∀cs,m k=some (.box cs)→∀κ∈all,back κ=k→(∃ cs',m1 κ=some (.box cs'))∧g1.bl κ=g.bl k)
  (harr :∀k∈L,∀ty sz es dp rw,m k=some (.arr ty sz es dp rw)→∀κ∈all,back κ=k→m1 κ=some .dead∨∃ es' dp' rw',m1 κ=some (.arr ty sz es' dp' rw')∧((es'.length=es.length∧g1.hd κ=g.hd k∧g1.bl κ=g.bl k)∨es.length<es'.length))
  (hdead :∀k∈L,m k=some .dead→∀κ∈all,back κ=k→m1 κ=some .dead) :
  Sim c (g.back g1 all back) m3 w'∧Jb c g m w (g.back g1 all back) m3 w'∧∀x v,(∀k∈x.names,k∈all)→VX (QF c g m w L) g1 m1 w' x v→VX c (g.back g1 all back) m3 w' (x.ren back) v:=by
 have hw0:(QF c g m w L).w0=w:=rfl;have gat :∀κ∈all,(g.back g1 all back).bl (back κ)=g1.bl κ∧(g.back g1 all back).hd (back κ)=g1.hd κ∧(g.back g1 all back).fd (back κ)=g1.fd κ:=by
  intro κ hκ;simp only[Gh.back,Jm4 hB hκ,and_self]
 have goff :∀k,inv all back k=none→(g.back g1 all back).bl k=g.bl k∧(g.back g1 all back).hd k=g.hd k∧(g.back g1 all back).fd k=g.fd k:=by
  intro k hk;simp only[Gh.back,hk,and_self]
 have hsize:w.heap.size≤w'.heap.size:=hC1.size;have mut3 :∀b,Mut (g.back g1 all back) m3 b→Mut g1 m1 b∨∃ k o,m k=some o∧o.rw=true∧Blk g k o b∧inv all back k=none∧k∉L:=by
  rintro b ⟨k,o,hk,hrw,hb⟩;cases hi:inv all back k with
  | none =>
   right;rw[hB.off k (QC hi)] at hk;have hb:=U2 hb (goff k hi).1 (goff k hi).2.2 rfl;exact⟨k,o,hk,hrw,hb,hi,fun hkL=>by
    obtain⟨κ,h1,h2⟩:=hB.lent k hkL;exact QC hi κ h1 h2⟩
  | some κ =>
   left;obtain⟨h1,h2⟩:=ZD hi;subst h2;rw[(hB.at_ κ h1).2] at hk;cases hm:m1 κ with
   | none=>rw[hm] at hk;cases hk
   | some o' =>
    rw[hm] at hk;simp only[JrG,JrD] at hk;exact⟨κ,o',hm,by rw[←Jbb (ρ:=back) o',hk];exact hrw,U2 hb (gat κ h1).1 (gat κ h1).2.2 (by rw[←hk,Vs])⟩
 have notpar :∀k o b,m k=some o→o.rw=true→Blk g k o b→k∉L→b<w.heap.size∧b∉(QF c g m w L).par:=by
  intro k o b hk hrw hb hkL;have how:=hS.own k o b hk hrw hb;refine⟨(hS.live b k how).1,fun hp=>?_⟩;obtain⟨_,k',h1,h2⟩:=W8.1 hp;rw[how] at h2;simp only[JrD] at h2;subst h2;exact hkL h1
 have pure0 :∀b,JP c g m [b]→b<w.heap.size→w'.heap[b]? = w.heap[b]?∧¬Mut (g.back g1 all back) m3 b:=by
  intro b hb hlt;have:=hC1.pure b (fun h=>(hb b (by simp)).1 (hL b h)) (.inl (JmR.2 (.inl ⟨hlt,hb⟩))) hlt;refine⟨this.1,fun hm=>?_⟩;rcases mut3 b hm with h | ⟨k,o,h1,h2,h3,_,_⟩
  ·exact this.2 h
  ·exact(hb b (by simp)).1 ⟨k,o,h1,h2,h3⟩
 have hF :∀fp,JP (QF c g m w L) g1 m1 fp→JP c (g.back g1 all back) m3 fp:=by
  intro fp hfp b hb;obtain⟨h1,h2⟩:=hfp b hb;rcases h2 with h2 | h2
  ·rcases JmR.1 h2 with ⟨h3,h4⟩ | h3
   ·exact⟨(pure0 b h4 h3).2,(h4 b (by simp)).2⟩
   ·obtain⟨h5,k,h6,h7⟩:=W8.1 h3;refine⟨fun hm=>?_,?_⟩
    ·rcases mut3 b hm with h | ⟨k',o,q1,q2,q3,_,q5⟩
     ·exact h1 h
     ·exact(notpar k' o b q1 q2 q3 q5).2 h3
    ·rcases (hS.live b k h7).2 with h | h
     ·exact .inr h
     ·exact .inl (c.parA b h)
  ·rw[hw0] at h2;refine⟨fun hm=>?_,.inr (Nat.le_trans hS.frame.size h2)⟩;rcases mut3 b hm with h | ⟨k',o,q1,q2,q3,_,q5⟩
   ·exact h1 h
   ·have:=(notpar k' o b q1 q2 q3 q5).1;omega
 have hC:Jb c g m w (g.back g1 all back) m3 w':=by
  refine⟨hsize,fun b h1 h2 h3=>pure0 b (fun q hq=>by simp at hq;subst hq;exact⟨h1,h2⟩) h3,fun k cs hk=>?_,fun k ty sz es dp rw hk=>?_,fun k hk=>?_⟩
  all_goals
   cases hi:inv all back k with
   | none=>first
    | exact⟨⟨cs,(hB.off k (QC hi)).trans hk⟩,(goff k hi).1⟩
    | exact .inr ⟨es,dp,rw,(hB.off k (QC hi)).trans hk,.inl ⟨rfl,(goff k hi).2.1,(goff k hi).1⟩⟩
    | exact(hB.off k (QC hi)).trans hk
   | some κ =>
    obtain⟨h1,h2⟩:=ZD hi;have hkL:k∈L:=Classical.byContradiction fun hn=>by
     have:=hB.new κ h1 (by rw[h2];exact hn);rw[h2,hk] at this;cases this
    have e3:=(hB.at_ κ h1).2;rw[h2] at e3;obtain⟨b1,b2,b3⟩:=gat κ h1;rw[h2] at b1 b2 b3
    first
     | (obtain ⟨⟨cs',q1⟩,q2⟩ := hbox k hkL cs hk κ h1 h2
        exact⟨⟨Uu back cs',by rw[e3,q1];rfl⟩,b1.trans q2⟩)
     | (rcases harr k hkL ty sz es dp rw hk κ h1 h2 with q | ⟨es',dp',rw',q,q'⟩
        · exact .inl (by rw[e3,q];rfl)
        · exact .inr ⟨es',dp',rw',by rw[e3,q];rfl,by rw[b1,b2];exact q'⟩)
     | (have q := hdead k hkL hk κ h1 h2
        rw[e3,q];rfl)
 have hK :∀κ,κ∈all→m3 (back κ)=(m1 κ).map (Obj.ren back)∧(g.back g1 all back).bl (back κ)=g1.bl κ∧(g.back g1 all back).hd (back κ)=g1.hd κ :=
  fun κ hκ=>⟨(hB.at_ κ hκ).2,(gat κ hκ).1,(gat κ hκ).2.1⟩
 refine⟨⟨?_,fun k cs hk=>?_,fun k ty sz es dp rw hk=>?_,fun k ty sz es hk=>?_,fun k o b hk hrw hb=>?_,fun b k hb=>?_⟩,hC,fun x v hx hv=>JdF hK (fun fp _=>hF fp) x v hx hv⟩
 ·have hf:=hS1.frame;refine hS.frame.grow hf.os hf.tape hf.output hsize fun j hj hj0 hjp=>hf.block j hj fun hp=>?_;obtain⟨_,k,_,h2⟩:=W8.1 hp;rcases (hS.live j k h2).2 with h | h
  ·omega
  ·exact hjp h
 ·cases hi:inv all back k with
  | none =>
   rw[hB.off k (QC hi)] at hk;obtain⟨b,vs,ty,h1,h2,h3,h4⟩:=hS.box k cs hk;have hkL:k∉L:=fun hkL=>by
    obtain⟨κ,q1,q2⟩:=hB.lent k hkL;exact QC hi κ q1 q2
   obtain⟨n1,n2⟩:=notpar k _ b hk rfl (.inl h1) hkL;exact⟨b,vs,ty,(goff k hi).1.trans h1,(hS1.frame.block b n1 n2).trans h2,Qe hC _ _ h3,h4⟩
  | some κ =>
   obtain⟨h1,h2⟩:=ZD hi;subst h2;rw[(hB.at_ κ h1).2] at hk;cases hm:m1 κ with
   | none=>rw[hm] at hk;cases hk
   | some o =>
    rw[hm] at hk;simp only[JrG,JrD] at hk;cases o with
    | box cs0 =>
     cases hk;obtain⟨b,vs,ty,q1,q2,q3,q4⟩:=hS1.box κ cs0 hm;exact⟨b,vs,ty,(gat κ h1).1.trans q1,q2,VN (K:=fun κ=>κ∈all) hK (fun fp _=>hF fp) cs0 vs (hB.clo κ h1 _ hm) q3,q4⟩
    | _=>cases hk
 ·cases hi:inv all back k with
  | none =>
   rw[hB.off k (QC hi)] at hk;obtain⟨q1,q2,q3⟩:=hS.arr k ty sz es dp rw hk;have hkL:k∉L:=fun hkL=>by
    obtain⟨κ,q1,q2⟩:=hB.lent k hkL;exact QC hi κ q1 q2
   obtain⟨b1,b2,b3⟩:=goff k hi;have fdlt :∀q∈g.fd k,q<w.heap.size:=by
    rcases q1 with ⟨_,_,_,e⟩ | ⟨b,cap,cs,_,_,_,_,_,_,hr⟩
    ·rw[e];intro b hb;simp at hb
    ·exact Z7 _ _ _ _ _ hr
   have fdsame :∀q∈g.fd k,w'.heap[q]? = w.heap[q]?:=fun q hq=>by
    cases hd:(dp&&rw) with
    | false=>exact(pure0 q (JdI (q2 hd) hq) (fdlt q hq)).1
    | true =>
     have hrw:rw=true:=by simp only[JrE] at hd;exact hd.2
     obtain⟨n1,n2⟩:=notpar k _ q hk hrw (.inr ⟨hd,hq⟩) hkL;exact hS1.frame.block q n1 n2
   refine⟨?_,fun hd=>?_,fun hr b hb=>?_⟩
   ·unfold V4 at q1 ⊢;rw[b1,b2,b3];rcases q1 with h | ⟨b,cap,cs,a1,a2,a3,a4,a5,a6,a7⟩
    ·exact .inl h
    ·have hlt:=(JrQ.1 a5).1;have hsame:w'.heap[b]? = w.heap[b]?:=by
      cases rw with
      | true =>
       obtain⟨n1,n2⟩:=notpar k _ b hk rfl (.inl a1) hkL;exact hS1.frame.block b n1 n2
      | false=>exact(pure0 b (q3 rfl b a1) hlt).1
     exact .inr ⟨b,cap,cs,a1,a2,a3,a4,hsame.trans a5,a6,Kz _ _ _ _ _ hsize hsame fdsame a7⟩
   ·rw[b3];exact fun q hq=>⟨(pure0 q (JdI (q2 hd) hq) (fdlt q hq)).2,(q2 hd q hq).2⟩
   ·rw[b1] at hb;have hlt:b<w.heap.size:=by
     rcases q1 with ⟨e,_⟩ | ⟨b',cap,cs,e,_,_,_,hh,_⟩
     ·rw[e] at hb;cases hb
     ·rw[e] at hb;cases hb;exact(JrQ.1 hh).1
    intro q hq;simp at hq;subst hq;exact⟨(pure0 q (q3 hr q hb) hlt).2,(q3 hr q hb q (by simp)).2⟩
  | some κ =>
   obtain⟨h1,h2⟩:=ZD hi;subst h2;rw[(hB.at_ κ h1).2] at hk;obtain⟨b1,b2,b3⟩:=gat κ h1;cases hm:m1 κ with
   | none=>rw[hm] at hk;cases hk
   | some o =>
    rw[hm] at hk;simp only[JrG,JrD] at hk;cases o with
    | arr ty0 sz0 es0 dp0 rw0 =>
     cases hk;obtain⟨q1,q2,q3⟩:=hS1.arr κ _ _ _ _ _ hm;refine⟨?_,fun hd=>by rw[b3];exact hF _ (q2 hd),fun hr b hb=>hF _ (q3 hr b (by rw[←b1];exact hb))⟩;unfold V4 at q1 ⊢;rw[b1,b2,b3];exact q1
    | _=>cases hk
 ·cases hi:inv all back k with
  | none =>
   rw[hB.off k (QC hi)] at hk;rw[(goff k hi).1,(goff k hi).2.2];have hkL:k∉L:=fun hkL=>by
    obtain⟨κ,q1,q2⟩:=hB.lent k hkL;exact QC hi κ q1 q2
   have same :∀q,Blk g k (.arr ty sz es true true) q→w'.heap[q]? = w.heap[q]?:=fun q hq=>by
    obtain⟨n1,n2⟩:=notpar k _ q hk rfl hq hkL;exact hS1.frame.block q n1 n2
   obtain⟨d1,d2⟩:=hS.deep k ty sz es hk;exact⟨d1,fun b hb=>⟨(d2 b hb).1,Ks _ _ _ _ _ _ (same b (.inl hb)) (fun q hq=>same q (.inr ⟨rfl,hq⟩)) (d2 b hb).2⟩⟩
  | some κ =>
   obtain⟨h1,h2⟩:=ZD hi;subst h2;rw[(hB.at_ κ h1).2] at hk;rw[(gat κ h1).1,(gat κ h1).2.2];cases hm:m1 κ with
   | none=>rw[hm] at hk;cases hk
   | some o =>
    rw[hm] at hk;simp only[JrG,JrD] at hk;cases o with
    | arr ty0 sz0 es0 dp0 rw0 =>
     cases hk;exact hS1.deep κ _ _ _ hm
    | _=>cases hk
 ·cases hi:inv all back k with
  | none =>
   rw[hB.off k (QC hi)] at hk;have hb:=U2 hb (goff k hi).1 (goff k hi).2.2 rfl;have hkL:k∉L:=fun hkL=>by
    obtain⟨κ,q1,q2⟩:=hB.lent k hkL;exact QC hi κ q1 q2
   obtain⟨n1,n2⟩:=notpar k o b hk hrw hb hkL;have how:=hS.own k o b hk hrw hb;simp only[Gh.back];cases h1:g1.ow b with
   | none=>exact how
   | some κ =>
    rcases (hS1.live b κ h1).2 with h | h
    ·rw[hw0] at h;omega
    ·exact absurd h n2
  | some κ =>
   obtain⟨h1,h2⟩:=ZD hi;subst h2;rw[(hB.at_ κ h1).2] at hk;cases hm:m1 κ with
   | none=>rw[hm] at hk;cases hk
   | some o' =>
    rw[hm] at hk;simp only[JrG,JrD] at hk;have:=hS1.own κ o' b hm (by rw[←Jbb (ρ:=back) o',hk];exact hrw) (U2 hb (gat κ h1).1 (gat κ h1).2.2 (by rw[←hk,Vs]));simp only[Gh.back,this,h1,if_true]
 ·simp only[Gh.back] at hb;have old:g.ow b=some k→b<w'.heap.size∧(c.w0.heap.size≤b∨b∈c.par):=fun h=>by
   have:=hS.live b k h;exact⟨Nat.lt_of_lt_of_le this.1 hsize,this.2⟩
  cases h1:g1.ow b with
  | none=>rw[h1] at hb;exact old hb
  | some κ =>
   rw[h1] at hb;simp only at hb;split at hb
   ·have:=hS1.live b κ h1;refine⟨this.1,?_⟩;rcases this.2 with h | h
    ·rw[hw0] at h;exact .inl (Nat.le_trans hS.frame.size h)
    ·obtain⟨_,k',_,h3⟩:=W8.1 h;exact(hS.live b k' h3).2
   ·exact old hb
end
end Go.Tm
end
section
open Go.RowKit
namespace Go.Tm
theorem ZL :∀(l acc:List Key),acc.Nodup→(XJ acc l).Nodup
 | [],acc,h=>h
 | k::l,acc,h=>by
  unfold XJ;refine ZL l _ ?_;split
  ·exact h
  ·rename_i hk;refine List.nodup_append.2 ⟨h,by simp,fun a ha b hb=>?_⟩;simp at hb;subst hb;intro e;subst e;exact hk (by simpa using ha)
theorem Jag :∀(l acc:List Key) (k:Key),k∈XJ acc l↔k∈acc∨k∈l
 | [],acc,k=>by simp[XJ]
 | j::l,acc,k=>by
  unfold XJ;rw[Jag l];split
  ·rename_i hj;have hj:j∈acc:=by simpa using hj
   constructor
   ·rintro (h | h)
    ·exact .inl h
    ·exact .inr (by simp[h])
   ·rintro (h | h)
    ·exact .inl h
    ·rcases JrX.1 h with rfl | h
     ·exact .inl hj
     ·exact .inr h
  ·simp only[JrJ,JrX,List.not_mem_nil,or_false];exact⟨fun h=>by rcases h with (h | h) | h <;> simp[h],fun h=>by rcases h with h | h | h <;> simp[h]⟩
def Yy (l:List (Key×Obj)) (m:Mem):Mem:=l.foldl (fun m q=>upd m q.1 (some q.2)) m
theorem UO {α:Type} :∀(ks:List Key) (h:List Obj→MP α) (m:Mem) (r:α×Mem),(Jck ks h).run m=some r→∃ os,ks.mapM m=some os∧(h os).run m=some r
 | [],h,m,r,e=>⟨[],rfl,e⟩
 | k::ks,h,m,r,e=>by
  obtain⟨o,ho,e⟩:=MP.get_some e;obtain⟨os,h1,h2⟩:=UO ks (fun os=>h (o::os)) m r e;exact⟨o::os,by rw[List.mapM_cons,ho,Option.bind_eq_bind,JrS,h1];rfl,h2⟩
theorem Va {α:Type} :∀(l:List (Key×Obj)) (p:MP α) (m:Mem) (r:α×Mem),(Jdj l p).run m=some r→p.run (Yy l m)=some r
 | [],p,m,r,e=>e
 | (k,o)::l,p,m,r,e=>by
  obtain⟨_,e⟩:=MP.put_some e;exact Va l p _ r e
theorem Yo :∀(l:List (Key×Obj)) (m:Mem) (k:Key),(∀q∈l,q.1≠k)→Yy l m k=m k
 | [],m,k,_=>rfl
 | (j,o)::l,m,k,h=>by
  show Yy l (upd m j (some o)) k=m k;rw[Yo l _ k (fun q hq=>h q (by simp[hq])),uO1 _ _ (fun e=>h (j,o) (by simp) e.symm)]
theorem JaR :∀(l:List (Key×Obj)) (m:Mem) (i:Nat) (k:Key) (o:Obj),(l.map (·.1)).Nodup→l[i]? = some (k,o)→Yy l m k=some o
 | [],m,i,k,o,_,h=>by simp at h
 | (j,q)::l,m,0,k,o,hn,h=>by
  simp only[List.getElem?_cons_zero,JrD,JrV] at h;obtain⟨rfl,rfl⟩:=h;show Yy l (upd m j (some q)) j=some q;simp only[JrM,List.nodup_cons] at hn;rw[Yo l _ j (fun q hq e=>hn.1 (List.mem_map.2 ⟨q,hq,e⟩)),uS1]
 | (j,q)::l,m,i+1,k,o,hn,h=>by
  simp only[JrM,List.nodup_cons] at hn;exact JaR l _ i k o hn.2 (by simpa using h)
theorem Ux {α:Type} :∀(l:List (Key×Obj)) (p:MP α) (m:Mem) (r:α×Mem),(Jf9 l p).run m=some r→p.run (Yy l m)=some r∧∀q∈l,m q.1=none
 | [],p,m,r,e=>⟨e,fun q hq=>by simp at hq⟩
 | (k,o)::l,p,m,r,e=>by
  obtain⟨hk,e⟩:=MP.new_some e;obtain⟨h1,h2⟩:=Ux l p _ r e;refine⟨h1,fun q hq=>?_⟩;rcases JrX.1 hq with rfl | hq
  ·exact hk
  ·have:=h2 q hq
   by_cases hqk:q.1=k
   ·rw[hqk,uS1] at this;cases this
   ·rwa [uO1 _ _ hqk] at this
theorem Uw {α:Type} {f:Key→Option α} :∀(l:List Key) (os:List α),l.mapM f=some os→os.length=l.length∧∀(i:Nat) (k:Key),l[i]? = some k→f k=os[i]?∧os[i]?≠none
 | [],os,h=>by simp at h;subst h;exact⟨rfl,fun i k hi=>by simp at hi⟩
 | j::l,os,h=>by
  rw[List.mapM_cons] at h;cases hj:f j with
  | none=>simp[hj] at h
  | some o =>
   cases hl:l.mapM f with
   | none=>simp[hj,hl] at h
   | some os0 =>
    simp[hj,hl] at h;subst h;obtain⟨h1,h2⟩:=Uw l os0 hl;refine⟨by simp[h1],fun i k hi=>?_⟩;cases i with
    | zero=>simp at hi;subst hi;simp[hj]
    | succ i=>simpa using h2 i k (by simpa using hi)
theorem QZ :∀(os:List Obj) (a k:Nat),(Jq a os).lookup k=if a≤k then os[k-a]? else none
 | [],a,k=>by simp[Jq]
 | o::os,a,k=>by
  simp only[Jq,List.lookup_cons]
  by_cases h:k=a
  ·subst h;simp
  ·have hb:(k == a)=false:=by simpa using h
   rw[hb,QZ os (a+1) k]
   by_cases hlt:a≤k
   ·have e:k-a=(k-(a+1))+1:=by omega
    rw[if_pos (by omega),if_pos hlt,e,List.getElem?_cons_succ]
   ·rw[if_neg (by omega),if_neg hlt]
def Gh.lent (g:Gh) (L:List Key):Gh where
 bl i:=(L[i]?).bind g.bl
 hd i:=((L[i]?).map g.hd).getD undef
 fd i:=((L[i]?).map g.fd).getD []
 ow b:=(g.ow b).bind fun k=>if k∈L then some (L.idxOf k) else none
section
variable {P:Program} {T:Tab} {G:JQ} {c:Cx P} {g:Gh} {m m':Mem} {w w':World} {a:Act} {o:Oper} {x:X} {xs:List X} {vs:List Value}
theorem ZT {L:List Key} {k:Key} (h:k∈L):L[L.idxOf k]? = some k:=by
 have hlt:=List.idxOf_lt_length_of_mem h;rw[JrP hlt,List.getElem_idxOf hlt]
theorem Jnz {L:List Key} {os:List Obj} (hS:Sim c g m w) (hos:L.mapM m=some os) (hnd:L.Nodup) (hclo :∀k∈os.flatMap Obj.names,k∈L) :
  Sim (QF c g m w L) (g.lent L) (Qz (Jq 0 (os.map (Obj.ren (at? L))))) w ∧
   (∀b,Mut (g.lent L) (Qz (Jq 0 (os.map (Obj.ren (at? L))))) b→Mut g m b) ∧
   (∀k∈L,Qz (Jq 0 (os.map (Obj.ren (at? L)))) (at? L k)=(m k).map (Obj.ren (at? L))∧(g.lent L).bl (at? L k)=g.bl k∧(g.lent L).hd (at? L k)=g.hd k) ∧
   ∀x v,(∀k∈x.names,k∈L)→VX c g m w x v→VX (QF c g m w L) (g.lent L) (Qz (Jq 0 (os.map (Obj.ren (at? L))))) w (x.ren (at? L)) v:=by
 obtain⟨hlen,hget⟩:=Uw L os hos;have hm :∀i,Qz (Jq 0 (os.map (Obj.ren (at? L)))) i=(L[i]?).bind fun k=>(m k).map (Obj.ren (at? L)):=by
  intro i;simp only[Qz,QZ,Nat.zero_le,if_true,Nat.sub_zero,JrZ];cases hi:L[i]? with
  | none =>
   have:os[i]? = none:=by
    rw[List.getElem?_eq_none_iff] at hi ⊢;omega
   rw[this];rfl
  | some k =>
   rw[JrS,(hget i k hi).1]
 generalize Qz (Jq 0 (os.map (Obj.ren (at? L))))=mL at *;have hat :∀k∈L,mL (at? L k)=(m k).map (Obj.ren (at? L))∧(g.lent L).bl (at? L k)=g.bl k∧(g.lent L).hd (at? L k)=g.hd k∧(g.lent L).fd (at? L k)=g.fd k:=by
  intro k hk;have:=ZT hk;simp only[hm,at?,Gh.lent,this,JrS,JrG,Option.getD_some,and_self]
 have hMut :∀b,Mut (g.lent L) mL b→Mut g m b:=by
  rintro b ⟨i,o,hi,hrw,hb⟩;rw[hm] at hi;cases hL:L[i]? with
  | none=>simp[hL] at hi
  | some k =>
   simp only[hL,JrS] at hi;have e1:(g.lent L).bl i=g.bl k:=by simp only[Gh.lent,hL,JrS]
   have e2:(g.lent L).fd i=g.fd k:=by simp only[Gh.lent,hL,JrG,Option.getD_some]
   cases hmk:m k with
   | none=>simp[hmk] at hi
   | some o0 =>
    simp only[hmk,JrG,JrD] at hi;exact⟨k,o0,hmk,by rw[←Jbb (ρ:=at? L) o0,hi];exact hrw,U2 hb e1 e2 (by rw[←hi,Vs])⟩
 have hF :∀fp,(∀b∈fp,b<w.heap.size)→JP c g m fp→JP (QF c g m w L) (g.lent L) mL fp:=fun fp hl hf b hb =>
  ⟨fun h=>(hf b hb).1 (hMut b h),.inl (JmR.2 (.inl ⟨hl b hb,JdI hf hb⟩))⟩
 have hPart:JmE c g m w (QF c g m w L) (g.lent L) mL (at? L) (fun i=>L.getD i 0) (fun k=>k∈L):=by
  refine⟨fun i o hi=>?_,hat,fun k o hk hmk j hj=>hclo j ?_⟩
  ·rw[hm] at hi;cases hL:L[i]? with
   | none=>simp[hL] at hi
   | some k =>
    obtain⟨hlt,e⟩:=JrF.1 hL;have:L.getD i 0=k:=by simp[hL]
    simp only[this];subst e;exact⟨List.getElem_mem hlt,hnd.idxOf_getElem i hlt⟩
  ·have:=ZT hk;obtain⟨h1,h2⟩:=hget _ k this;rw[hmk] at h1;exact List.mem_flatMap.2 ⟨o,JrL h1.symm,hj⟩
 refine⟨hPart.sim hS ⟨rfl,rfl,rfl,Nat.le_refl _,fun _ _ _=>rfl⟩ hF (fun k b hk how=>?_) (fun b i hb=>?_),hMut,fun k hk=>⟨(hat k hk).1,(hat k hk).2.1,(hat k hk).2.2.1⟩,
  fun x v hx hv=>JdF (K:=fun k=>k∈L) (fun k hk=>⟨(hat k hk).1,(hat k hk).2.1,(hat k hk).2.2.1⟩) hF x v hx hv⟩
 ·simp only[Gh.lent,how,JrS,hk,if_true];rfl
 ·simp only[Gh.lent] at hb;cases how:g.ow b with
  | none=>simp[how] at hb
  | some k =>
   simp only[how,JrS] at hb;split at hb
   ·rename_i hk;have:=hS.live b k how;exact⟨this.1,.inr (W8.2 ⟨this.1,k,hk,how⟩)⟩
   ·cases hb
theorem Jbq {c1:Cx P} {g1:Gh} {m1:Mem} {ρ:Key→Key} {K:Key→Prop} (h :∀x v,(∀k∈x.names,K k)→VX c g m w x v→VX c1 g1 m1 w (x.ren ρ) v) :∀(xs:List X) (vs:List Value),(∀k∈J2 xs,K k)→VXs c g m w xs vs→VXs c1 g1 m1 w (Uu ρ xs) vs
 | [],_,_,e=>e
 | x::xs,vs,hn,⟨v,vs',e,h1,h2⟩=>⟨v,vs',e,h x v (fun k hk=>hn k (by simp[J2,hk])) h1,Jbq h xs vs' (fun k hk=>hn k (by simp[J2,hk])) h2⟩
theorem U1 {S:Y0} {f:FuncId} {kb:Key} {L:List Key} {os:List Obj} (hent :∀args w,(callFunc f args).run P w = .ok (.enter f args) w) (hS:Sim c g m w) (hos:L.mapM m=some os) (hnd:L.Nodup)
  (hcall :∀x1 m1,(∀k∈J2 xs++os.flatMap Obj.names,k∈L)→S (Uu (at? L) xs) (os.map (Obj.ren (at? L)))=some (x1,m1)→Calls P f vs.toArray w fun e w'=>∃ v g1,e = .returned v∧Sim (QF c g m w L) g1 m1 w' ∧
   Jb (QF c g m w L) (g.lent L) (Qz (Jq 0 (os.map (Obj.ren (at? L))))) w g1 m1 w'∧VX (QF c g m w L) g1 m1 w' x1 v)
  (h:(QX S kb xs L os).run m=some (x,m'))
  (hrun:(execOp a.eval o).run P w=(callFunc f vs.toArray).run P w):Qi P c g m w a o x m':=by
 unfold QX at h;split at h
 ·rename_i hclo;have hclo :∀k∈J2 xs++os.flatMap Obj.names,k∈L:=fun k hk=>by simpa using JrR.1 hclo k hk
  obtain⟨hSL,hML,hatL,hVL⟩:=Jnz hS hos hnd (fun k hk=>hclo k (List.mem_append_right _ hk));generalize hmL:Qz (Jq 0 (os.map (Obj.ren (at? L))))=mL at *;split at h
  ·simp[MP.run] at h
  ·rename_i x1 m1 hspec;simp only at h;have hnews:(XJ [] ((x1.names++XK m1 L.length).filter fun k=>decide (L.length≤k))).Nodup:=ZL _ _ (by simp);have hnewsge :∀k∈XJ [] ((x1.names++XK m1 L.length).filter fun k=>decide (L.length≤k)),L.length≤k:=fun k hk=>by
    rw[Jag] at hk;simp only[List.not_mem_nil,false_or,List.mem_filter,decide_eq_true_eq] at hk;exact hk.2
   generalize XJ [] ((x1.names++XK m1 L.length).filter fun k=>decide (L.length≤k))=news at *;split at h
   ·simp[MP.run] at h
   ·rename_i os' hos';split at h
    ·rename_i hcond;simp only[JrE] at hcond;have hnames :∀k∈x1.names++os'.flatMap Obj.names,k∈List.range L.length++news:=fun k hk=>by
      have:=JrR.1 hcond.1 k hk;exact List.contains_iff_mem.1 this
     have h1:=Va _ _ _ _ h;obtain⟨h2,hfresh⟩:=Ux _ _ _ _ h1;clear h h1;cases rS1 h2;clear h2;obtain⟨hlen',hget'⟩:=Uw _ os' hos';have hallnd:(List.range L.length++news).Nodup:=List.nodup_append.2 ⟨List.nodup_range,hnews,fun a ha b hb e=>by
      have:=List.mem_range.1 ha;have:=hnewsge b hb;omega⟩
     have hkbs:((List.range news.length).map (kb + ·)).length=news.length:=by simp
     have hlens:os'.length=L.length+news.length:=by rw[hlen'];simp
     have hbackat :∀(i:Nat) (κ:Key),(List.range L.length++news)[i]? = some κ→(L++(List.range news.length).map (kb + ·)).getD (at? (List.range L.length++news) κ) 0=(L++(List.range news.length).map (kb + ·)).getD i 0∧i<(L++(List.range news.length).map (kb + ·)).length:=by
      intro i κ hi;obtain⟨hlt,e⟩:=JrF.1 hi;refine⟨?_,by simp at hlt ⊢;omega⟩;subst e;unfold at?;rw[hallnd.idxOf_getElem i hlt]
     generalize hbk:(fun k=>(L++(List.range news.length).map (kb + ·)).getD (at? (List.range L.length++news) k) 0)=back at *;have hbackat :∀(i:Nat) (κ:Key),(List.range L.length++news)[i]? = some κ→(L++(List.range news.length).map (kb + ·))[i]? = some (back κ):=by
      intro i κ hi;obtain⟨h1,h2⟩:=hbackat i κ hi;rw[←hbk];simp only[h1];rw[JrH,JrP h2];rfl
     have hz:L.zip ((os'.take L.length).map (Obj.ren back))++((List.range news.length).map (kb + ·)).zip ((os'.drop L.length).map (Obj.ren back))=(L++(List.range news.length).map (kb + ·)).zip (os'.map (Obj.ren back)):=by
      rw[←List.zip_append (by simp[hlens]),←List.map_append,List.take_append_drop]
     have hm3:Yy (((List.range news.length).map (kb + ·)).zip ((os'.drop L.length).map (Obj.ren back))) (Yy (L.zip ((os'.take L.length).map (Obj.ren back))) m)=Yy ((L++(List.range news.length).map (kb + ·)).zip (os'.map (Obj.ren back))) m:=by
      rw[←hz];simp only[Yy,List.foldl_append]
     have hfst1:(L.zip ((os'.take L.length).map (Obj.ren back))).map (·.1)=L:=List.map_fst_zip (by simp[hlens]);have hfst2:(((List.range news.length).map (kb + ·)).zip ((os'.drop L.length).map (Obj.ren back))).map (·.1)=(List.range news.length).map (kb + ·):=List.map_fst_zip (by simp[hlens]);have hnew :∀k∈(List.range news.length).map (kb + ·),k∉L∧m k=none:=by
      intro k hk;rw[←hfst2] at hk;obtain⟨q,hq,e⟩:=List.mem_map.1 hk;have h3:=hfresh q hq;rw[e] at h3;have hkL:k∉L:=by
       intro hkL;have hi:=ZT hkL;have hlt:=List.idxOf_lt_length_of_mem hkL;have : ∃ o,(L.zip ((os'.take L.length).map (Obj.ren back)))[L.idxOf k]? = some (k,o):=by
        have hl2:L.idxOf k<((os'.take L.length).map (Obj.ren back)).length:=by
         rw[JrN,JrT,hlens];omega
        exact⟨_,List.getElem?_zip_eq_some.2 ⟨hi,JrP hl2⟩⟩
       obtain⟨o',ho'⟩:=this;rw[JaR _ m _ k o' (by rw[hfst1];exact hnd) ho'] at h3;cases h3
      refine⟨hkL,?_⟩;rw[Yo _ m k (fun q hq e=>hkL (by
       have:=List.mem_map_of_mem (f:=(·.1)) hq;rw[hfst1,e] at this;exact this))] at h3
      exact h3
     have hcknd:(L++(List.range news.length).map (kb + ·)).Nodup:=by
      refine List.nodup_append.2 ⟨hnd,?_,fun a ha b hb e=>by subst e;exact(hnew a hb).1 ha⟩;exact List.Pairwise.map _ (fun a b hab e=>hab (Nat.add_left_cancel e)) List.nodup_range
     have hckfst:((L++(List.range news.length).map (kb + ·)).zip (os'.map (Obj.ren back))).map (·.1)=L++(List.range news.length).map (kb + ·):=List.map_fst_zip (by simp[hlens]);rw[hm3];have hall :∀κ∈List.range L.length++news,∃ i:Nat,(List.range L.length++news)[i]? = some κ:=fun κ hκ=>⟨_,ZT hκ⟩;have hlent :∀k∈L,at? L k∈List.range L.length++news∧back (at? L k)=k:=by
      intro k hk;have hlt:=List.idxOf_lt_length_of_mem hk;have hi:(List.range L.length++news)[L.idxOf k]? = some (L.idxOf k):=by
       rw[Jr5 (by simpa using hlt)];simp[hlt]
      have:=hbackat _ _ hi;rw[Jr5 hlt,ZT hk] at this;exact⟨JrL hi,(Option.some.inj this).symm⟩
     have hinj :∀κ∈List.range L.length++news,∀κ'∈List.range L.length++news,back κ=back κ'→κ=κ':=by
      intro κ hκ κ' hκ' e;obtain⟨i,hi⟩:=hall κ hκ;obtain⟨j,hj⟩:=hall κ' hκ';have h3:=hbackat i κ hi;have h4:=hbackat j κ' hj;have hlt:=(JrF.1 h3).1;have:i=j:=(List.getElem?_inj hlt hcknd).1 (by rw[h3,h4,e]);subst this;rw[hi] at hj;exact Option.some.inj hj
     have hB:Jm7 m m1 (Yy ((L++(List.range news.length).map (kb + ·)).zip (os'.map (Obj.ren back))) m) L (List.range L.length++news) back:=by
      refine⟨fun κ hκ=>?_,fun k hk=>?_,hinj,fun k hk=>⟨_,hlent k hk⟩,fun κ hκ hn=>?_,fun κ hκ ob hob j hj=>?_⟩
      ·obtain⟨i,hi⟩:=hall κ hκ;obtain⟨h3,h4⟩:=hget' i κ hi;have h5:=hbackat i κ hi;refine⟨by rw[h3];exact h4,?_⟩;cases ho:os'[i]? with
       | none=>exact absurd ho h4
       | some ob =>
        rw[h3,ho,JrG];exact JaR _ m i _ _ (by rw[hckfst];exact hcknd) (List.getElem?_zip_eq_some.2 ⟨h5,by simp[ho]⟩)
      ·refine Yo _ m k fun q hq e=>?_;have:=List.mem_map_of_mem (f:=(·.1)) hq;rw[hckfst,e] at this;have hi:=ZT this;have hlt:=(JrF.1 hi).1;have hlt':(L++(List.range news.length).map (kb + ·)).idxOf k<(List.range L.length++news).length:=by
        simp at hlt ⊢;omega
       have h3:=hbackat _ _ (JrP hlt');rw[hi] at h3;exact hk _ (List.getElem_mem hlt') (Option.some.inj h3).symm
      ·obtain⟨i,hi⟩:=hall κ hκ;have h5:=JrL (hbackat i κ hi);rcases JrJ.1 h5 with h6 | h6
       ·exact absurd h6 hn
       ·exact(hnew _ h6).2
      ·obtain⟨i,hi⟩:=hall κ hκ;obtain⟨h3,h4⟩:=hget' i κ hi;rw[hob] at h3;exact hnames j (List.mem_append_right _ (List.mem_flatMap.2 ⟨ob,JrL h3.symm,hj⟩))
     have hκ :∀k∈L,∀κ∈List.range L.length++news,back κ=k→κ=at? L k:=fun k hk κ h1 h2 =>
      hinj κ h1 _ (hlent k hk).1 (h2.trans (hlent k hk).2.symm)
     unfold Qi Oper.wp;rw[hrun,hent];refine(hcall x1 m1 hclo hspec).mono ?_
     try rw [hmL]
     rintro e w' ⟨v,g1,rfl,hS1,hC1,hx1⟩;obtain⟨r1,r2,r3⟩:=JqD hS hB hS1 hC1 hML
      (fun k hk cs hmk κ h1 h2=>by
       obtain⟨e1,e2,e3⟩:=hatL k hk;rw[hmk] at e1;have e4:=hκ k hk κ h1 h2;subst e4;obtain⟨q1,q2⟩:=hC1.box _ _ e1;exact⟨q1,q2.trans e2⟩)
      (fun k hk ty sz es dp rw hmk κ h1 h2=>by
       obtain⟨e1,e2,e3⟩:=hatL k hk;rw[hmk] at e1;have e4:=hκ k hk κ h1 h2;subst e4;have:=hC1.arr _ _ _ _ _ _ e1
       rwa [e2,e3] at this)
      (fun k hk hmk κ h1 h2=>by
       obtain⟨e1,e2,e3⟩:=hatL k hk;rw[hmk] at e1;have e4:=hκ k hk κ h1 h2;subst e4;exact hC1.dead _ e1)
     exact⟨v,_,rfl,r1,r2,r3 x1 v (fun k hk=>hnames k (List.mem_append_left _ hk)) hx1⟩
    ·simp[MP.run] at h
 ·simp[MP.run] at h
theorem W9 {S:Y0} {f:FuncId} {kb:Key} {Φ:Fix P} (hX:FnX P Φ f S) (hΦ:Φ.ok c) (hS:Sim c g m w) (hv:VXs c g m w xs vs) (h:(Wz S kb xs).run m=some (x,m'))
  (hrun:(execOp a.eval o).run P w=(callFunc f vs.toArray).run P w):Qi P c g m w a o x m':=by
 unfold Wz at h;obtain⟨os1,_,h⟩:=UO _ _ _ _ h;obtain⟨os,hos,h⟩:=UO _ _ _ _ h;have hnd:(XJ (XJ [] (J2 xs)) (os1.flatMap Obj.names)).Nodup:=ZL _ _ (ZL _ _ (by simp));generalize XJ (XJ [] (J2 xs)) (os1.flatMap Obj.names)=L at *;refine U1 hX.1 hS hos hnd (fun x1 m1 hclo hspec=>?_) h hrun;obtain⟨hSL,hML,hatL,hVL⟩:=Jnz hS hos hnd (fun k hk=>hclo k (List.mem_append_right _ hk));exact hX.2 (QF c g m w L) (g.lent L) (os.map (Obj.ren (at? L))) _ w (Uu (at? L) xs) vs x1 m1 (Fix.lent hS hΦ) rfl rfl hSL (Jbq (K:=fun k=>k∈L) hVL xs vs (fun k hk=>hclo k (List.mem_append_left _ hk)) hv) hspec
mutual
theorem Jj6 :∀(x:X) (v:Value),VX c g m w x v→VX c g m w x.norm v
 | .d x,v,⟨fp,h1,h2⟩=>⟨fp,Jac h1,h2⟩
 | .g cs,v,⟨vs,e,h,h1⟩=>⟨vs,e,Jc3 cs vs h,h1⟩
 | .t _,_,h=>h
 | .f _ _,_,h=>h
 | .o _ _,_,h=>h
 | .p _ _,_,h=>h
 | .e _ _ _ _,_,h=>h
 | .u,_,h=>h
theorem Jc3 :∀(xs:List X) (vs:List Value),VXs c g m w xs vs→VXs c g m w (Jei xs) vs
 | [],_,h=>h
 | x::xs,vs,⟨v,vs',e,h1,h2⟩=>⟨v,vs',e,Jj6 x v h1,Jc3 xs vs' h2⟩
end
theorem JiC {S:Y0} {f:FuncId} {kb:Key} {Φ:Fix P} (hX:FnX P Φ f S) (hΦ:Φ.ok c) (hS:Sim c g m w) (hv:VXs c g m w xs vs) (h:(Jkq S kb xs).run m=some (x,m'))
  (hrun:(execOp a.eval o).run P w=(callFunc f vs.toArray).run P w):Qi P c g m w a o x m' :=
 W9 hX hΦ hS (Jc3 xs vs hv) h hrun
end
end Go.Tm
end
section
open Go.RowKit
namespace Go.Tm
def FnOk (P:Program) (Φ:Fix P) (f:FuncId) (F:List D→Option D):Prop :=
 (∀args w,(callFunc f args).run P w = .ok (.enter f args) w) ∧
 ∀(w:World) (ds:List D) (vals:List Value) (fps:List Nat) (r:D),Φ.I w→Kn w ds vals fps→F ds=some r →
  Calls P f vals.toArray w fun e w'=>∃ val fp,e = .returned val∧Rd w' r val fp∧(∀b∈fp,b∈fps∨w.heap.size≤b)∧Below w.heap.size w w'
structure JeR (P:Program) (Φ:Fix P) (T:Tab):Prop where
 fns :∀f S,T.fns f=some S→FnOk P Φ f S.F
 xfns :∀f S,T.xfns f=some S→FnX P Φ f S
 bfns :∀f S,T.bfns f=some S→FnX P Φ f S
theorem JeR.sel {P:Program} {Φ:Fix P} {T:Tab} (h:JeR P Φ T) (bo:Bool) {f:FuncId} {S:List X→List Obj→Option (X×Mem)} (hf:T.xfns f=some S):FnX P Φ f (T.sel bo f S):=by
 unfold Tab.sel;split
 ·cases hb:T.bfns f with
  | none=>exact h.xfns f S hf
  | some S'=>exact h.bfns f S' hb
 ·exact h.xfns f S hf
def UF {P:Program} (c:Cx P) (T:Tab):Prop:=∃ Φ:Fix P,Φ.ok c∧JeR P Φ T
section
variable {P:Program} {T:Tab} {G:JQ} {c:Cx P} {g:Gh} {m m':Mem} {w w':World} {a:Act} {sl:QI} {o:Oper} {x:X}
theorem JpJ (hS:Sim c g m w) {b:Nat} (h:Mut g m b):b<w.heap.size:=by
 obtain⟨k,o,hk,hrw,hb⟩:=h;exact(hS.live b k (hS.own k o b hk hrw hb)).1
theorem Jb.below (hS:Sim c g m w) (hb:Below w.heap.size w w'):Jb c g m w g m w' :=
 ⟨hb.size,fun b h1 _ h3=>⟨hb.block b h3,h1⟩,fun k cs h=>⟨⟨cs,h⟩,rfl⟩,fun k ty sz es dp rw h=> .inr ⟨es,dp,rw,h,.inl ⟨rfl,rfl,rfl⟩⟩,fun _ h=>h⟩
theorem Sim.below (hS:Sim c g m w) (hb:Below w.heap.size w w'):Sim c g m w':=by
 have hC:=Jb.below hS hb;refine⟨⟨hb.os.trans hS.frame.os,hb.tape.trans hS.frame.tape,hb.output.trans hS.frame.output,Nat.le_trans hS.frame.size hb.size,fun b h1 h2=>(hb.block b (Nat.lt_of_lt_of_le h1 hS.frame.size)).trans (hS.frame.block b h1 h2)⟩,
  fun k cs hk=>?_,fun k ty sz es dp rw hk=>?_,fun k ty sz es hk=>?_,hS.own,fun b k hk=>?_⟩
 ·obtain⟨b,vs,ty,h1,h2,h3,h4⟩:=hS.box k cs hk;exact⟨b,vs,ty,h1,(hb.block b (JrQ.1 h2).1).trans h2,Qe hC _ _ h3,h4⟩
 ·obtain⟨h1,h2,h3⟩:=hS.arr k ty sz es dp rw hk;refine⟨?_,h2,h3⟩;rcases h1 with h | ⟨b,cap,cs,a1,a2,a3,a4,a5,a6,a7⟩
  ·exact .inl h
  ·have hlt:=(JrQ.1 a5).1;exact .inr ⟨b,cap,cs,a1,a2,a3,a4,(hb.block b hlt).trans a5,a6,Kz _ _ _ _ _ hb.size (hb.block b hlt) (fun q hq=>hb.block q (Z7 _ _ _ _ _ a7 q hq)) a7⟩
 ·obtain⟨d1,d2⟩:=hS.deep k ty sz es hk;have same :∀q,Blk g k (.arr ty sz es true true) q→w'.heap[q]? = w.heap[q]?:=fun q hq=>hb.block q (hS.live q k (hS.own k _ q hk rfl hq)).1;exact⟨d1,fun b hb=>⟨(d2 b hb).1,Ks _ _ _ _ _ _ (same b (.inl hb)) (fun q hq=>same q (.inr ⟨rfl,hq⟩)) (d2 b hb).2⟩⟩
 ·obtain⟨h1,h2⟩:=hS.live b k hk;exact⟨Nat.lt_of_lt_of_le h1 hb.size,h2⟩
theorem JeL :∀(ds:List D) (vs:List Value) (b off:Nat) (fp:List Nat),Kn w ds vs fp→(∀u∈vs,u.oneCell=true)→(∀j u,vs[j]? = some u→w.cell? ⟨b,off+j,none⟩=some u)→Jd0 w ds b off fp
 | [],_,_,_,_,h,_,_=>h.2
 | d::ds,vs,b,off,fp,⟨v,vs',f1,f2,e,hf,h1,h2⟩,ho,hc=>by
  subst e;exact⟨v,f1,f2,by simpa using hc 0 v rfl,hf,h1,JeL ds vs' b (off+1) f2 h2 (fun u hu=>ho u (by simp[hu])) (fun j u hj=>by
   rw[show off+1+j=off+(j+1) by omega];exact hc (j+1) u (by simpa using hj)),ho v (by simp)⟩
def Jqe (c:Cx P) (fp:List Nat):Prop:=∀b∈fp,b∈c.A∨c.w0.heap.size≤b
theorem Jnt (hS:Sim c g m w) {k:Key} {ob:Obj} {b:Nat} (hk:m k=some ob) (hd:ob≠ .dead) (hb:g.bl k=some b):b∈c.A∨c.w0.heap.size≤b:=by
 have hb0:=hb
 replace hb:Blk g k ob b:= .inl hb
 have key:ob.rw=true→b∈c.A∨c.w0.heap.size≤b:=fun hrw=>by
  rcases (hS.live b k (hS.own k ob b hk hrw hb)).2 with h | h
  ·exact .inr h
  ·exact .inl (c.parA b h)
 cases ob with
 | box cs=>exact key rfl
 | dead=>exact absurd rfl hd
 | arr ty sz es dp rw =>
  cases rw with
  | true=>exact key rfl
  | false=>exact((hS.arr k ty sz es dp false hk).2.2 rfl b hb0 b (by simp)).2
mutual
theorem JlP :∀(n:Nat) (x:X) (v:Value) (d:D) (m m':Mem),Sim c g m w→VX c g m w x v→(pur n x).run m=some (d,m')→m'=m∧∃ fp,Rd w d v fp∧Jqe c fp
 | 0,_,_,_,_,_,_,_,h=>by simp[pur,MP.run] at h
 | n+1,.d x,v,d,m,m',hS,hx,h=>by
  cases rS1 h;obtain⟨fp,h1,h2⟩:=hx;exact⟨rfl,fp,Jac h1,fun b hb=>(h2 b hb).2⟩
 | n+1, .o k l,v,d,m,m',hS,hx,h=>by
  obtain⟨ob,hob,h⟩:=MP.get_some h;cases ob with
  | arr ty sz es dp rw =>
   simp only at h;split at h
   ·rename_i hn;cases rS1 h;have hv:=(hx.2.2 ty sz es dp rw hob).2 hn;have hin:=hS.arr k ty sz es dp rw hob;rcases hin.1 with ⟨_,e,rfl,e2⟩ | ⟨b,cap,cs,hb,e,hle,_,hh,_,hr⟩
    ·exact⟨rfl,[],⟨none,0,by rw[hv,e];rfl,by simp,.inl ⟨rfl,rfl⟩⟩,fun b hb=>by simp at hb⟩
    ·refine⟨rfl,b::g.fd k,⟨_,cap,by rw[hv,e],hle,.inr ⟨b,0,sz,_,rfl,(JrQ.1 hh).1,rfl,hr⟩⟩,fun q hq=>?_⟩;rcases JrX.1 hq with rfl | hq
     ·exact Jnt hS hob (by simp) hb
     ·cases hd:(dp&&rw) with
      | false=>exact(hin.2.1 hd q hq).2
      | true =>
       have hrw:rw=true:=by simp only[JrE] at hd;exact hd.2
       rcases (hS.live q k (hS.own k _ q hob hrw (.inr ⟨hd,hq⟩))).2 with h | h
       ·exact .inr h
       ·exact .inl (c.parA q h)
   ·simp[MP.run] at h
  | _=>simp[MP.run] at h
 | n+1,.p k off,v,d,m,m',hS,hx,h=>by
  obtain⟨ob,hob,h⟩:=MP.get_some h;obtain⟨cs,b,hm,hb,rfl⟩:=hx;rw[hob] at hm;cases hm;simp only at h;split at h
  ·rename_i hlt;obtain⟨ds,m1,h1,h'⟩:=MP.bind_some h;clear h;obtain⟨b',vs,ty,hb',hh,hv,hone⟩:=hS.box k cs hob;rw[hb] at hb';cases hb';obtain⟨rfl,fp,hr,hin⟩:=Xj n (cs.drop off) (vs.drop off) ds m m1 hS (Ko _ _ _ hv) h1;cases rS1 h';refine⟨rfl,b::fp,⟨b,off,fp,rfl,(JrQ.1 hh).1,rfl,JeL _ _ _ _ _ hr (fun u hu=>hone u (List.mem_of_mem_drop hu)) (fun j u hj=>?_)⟩,fun q hq=>?_⟩
   ·rw[V0 hh];simpa using hj
   ·rcases JrX.1 hq with rfl | hq
    ·exact Jnt hS hob (by simp) hb
    ·exact hin q hq
  ·simp[MP.run] at h
 | n+1,.f fn cs,v,d,m,m',hS,hx,h=>by
  obtain⟨vs,rfl,hv⟩:=hx;simp only[pur] at h;split at h
  ·rename_i hone;obtain⟨ds,m1,h1,h'⟩:=MP.bind_some h;clear h;obtain⟨rfl,fp,hr,hin⟩:=Xj n cs vs ds m m1 hS hv h1;cases rS1 h';exact⟨rfl,fp,⟨vs,rfl,XW _ _ _ hr (Jbw _ _ hv hone)⟩,hin⟩
  ·simp[MP.run] at h
 | n+1,.g cs,v,d,m,m',hS,hx,h=>by
  obtain⟨vs,rfl,hv,hone⟩:=hx;obtain⟨ds,m1,h1,h'⟩:=MP.bind_some h;clear h;obtain⟨rfl,fp,hr,hin⟩:=Xj n cs vs ds m m1 hS hv h1;cases rS1 h';exact⟨rfl,fp,⟨vs,rfl,XW _ _ _ hr hone⟩,hin⟩
 | n+1,.t cs,v,d,m,m',hS,hx,h=>by
  obtain⟨vs,rfl,hv⟩:=hx;obtain⟨ds,m1,h1,h'⟩:=MP.bind_some h;clear h;obtain⟨rfl,fp,hr,hin⟩:=Xj n cs vs ds m m1 hS hv h1;cases rS1 h';exact⟨rfl,fp,⟨vs,rfl,hr⟩,hin⟩
 | n+1,.e _ _ _ _,v,d,m,m',hS,hx,h=>by simp[pur,MP.run] at h
 | n+1,.u,v,d,m,m',hS,hx,h=>by simp[pur,MP.run] at h
theorem Xj :∀(n:Nat) (xs:List X) (vs:List Value) (ds:List D) (m m':Mem),Sim c g m w→VXs c g m w xs vs→(pur.purs n xs).run m=some (ds,m')→m'=m∧∃ fp,Kn w ds vs fp∧Jqe c fp
 | n,[],vs,ds,m,m',hS,hv,h=>by
  rw[show pur.purs n [] = .ret [] by cases n <;> rfl] at h;cases rS1 h;rw[show vs=[] from hv];exact⟨rfl,[],⟨rfl,rfl⟩,fun b hb=>by simp at hb⟩
 | 0,_::_,_,_,_,_,_,_,h=>by simp[pur.purs,MP.run] at h
 | n+1,x::xs,vs,ds,m,m',hS,⟨v,vs',e,h1,h2⟩,h=>by
  subst e;obtain⟨d,m1,ha,h3⟩:=MP.bind_some h;clear h;obtain⟨e1,f1,hr1,i1⟩:=JlP n x v d m m1 hS h1 ha;obtain⟨ds',m2,hb,h4⟩:=MP.bind_some h3;clear h3;subst e1;obtain⟨e2,f2,hr2,i2⟩:=Xj n xs vs' ds' m1 m2 hS h2 hb;cases rS1 h4;exact⟨e2,f1++f2,⟨v,vs',f1,f2,rfl,rfl,hr1,hr2⟩,fun b hb=>(JrJ.1 hb).elim (i1 b) (i2 b)⟩
end
mutual
theorem Ua :∀(x:X) (v:Value) (d:D) (m m':Mem),Sim c g m w→VX c g m w x v→(take x).run m=some (d,m')→(∃ fp,Rd w d v fp∧JP c g m' fp)∧Sim c g m' w∧Jb c g m w g m' w
 | .d x,v,d,m,m',hS,hx,h=>by
  cases rS1 h;obtain⟨fp,h1,h2⟩:=hx;exact⟨⟨fp,Jac h1,h2⟩,hS,.refl _ _ _ _⟩
 | .o k l,v,d,m,m',hS,hx,h=>by
  obtain⟨ob,hob,h⟩:=MP.get_some h;cases ob with
  | arr ty sz es dp rw =>
   simp only at h;split at h
   ·rename_i hn;have hab:(Wf (.o k l)).run m=some ((.s es,dp&&rw),upd m k (some (.arr ty sz es false false))):=by
     simp only[Wf,MP.run,hob];rw[if_pos hn];simp[MP.run,hob]
    obtain⟨_,h⟩:=MP.put_some h;cases rS1 h;exact Jal hS hx hab
   ·simp[MP.run] at h
  | _=>simp[MP.run] at h
 | .g cs,v,d,m,m',hS,hx,h=>by
  obtain⟨vs,rfl,hv,hone⟩:=hx;obtain⟨ds,m1,h1,h⟩:=MP.bind_some h;obtain⟨⟨fp,hr,ho⟩,hS1,hC1⟩:=Z3 cs vs ds m m1 hS hv h1;cases rS1 h;exact⟨⟨fp,⟨vs,rfl,XW _ _ _ hr hone⟩,ho⟩,hS1,hC1⟩
 | .f fn cs,v,d,m,m',hS,hx,h=>by
  obtain⟨vs,rfl,hv⟩:=hx;simp only[take] at h;split at h
  ·rename_i hone;obtain⟨ds,m1,h1,h⟩:=MP.bind_some h;obtain⟨⟨fp,hr,ho⟩,hS1,hC1⟩:=Z3 cs vs ds m m1 hS hv h1;cases rS1 h;exact⟨⟨fp,⟨vs,rfl,XW _ _ _ hr (Jbw _ _ hv hone)⟩,ho⟩,hS1,hC1⟩
  ·simp[MP.run] at h
 | .p _ _,v,d,m,m',hS,hx,h=>by simp[take,MP.run] at h
 | .e _ _ _ _,v,d,m,m',hS,hx,h=>by simp[take,MP.run] at h
 | .t _,v,d,m,m',hS,hx,h=>by simp[take,MP.run] at h
 | .u,v,d,m,m',hS,hx,h=>by simp[take,MP.run] at h
theorem Z3 :∀(xs:List X) (vs:List Value) (ds:List D) (m m':Mem),Sim c g m w→VXs c g m w xs vs→(Jcp xs).run m=some (ds,m')→(∃ fp,Kn w ds vs fp∧JP c g m' fp)∧Sim c g m' w∧Jb c g m w g m' w
 | [],vs,ds,m,m',hS,hv,h=>by
  cases rS1 h;rw[show vs=[] from hv];exact⟨⟨[],⟨rfl,rfl⟩,fun b hb=>by simp at hb⟩,hS,.refl _ _ _ _⟩
 | x::xs,vs,ds,m,m',hS,⟨v,vs',e,h1,h2⟩,h=>by
  subst e;obtain⟨d,m1,ha,h⟩:=MP.bind_some h;obtain⟨⟨f1,hr1,ho1⟩,hS1,hC1⟩:=Ua x v d m m1 hS h1 ha;obtain⟨ds',m2,hb,h⟩:=MP.bind_some h;obtain⟨⟨f2,hr2,ho2⟩,hS2,hC2⟩:=Z3 xs vs' ds' m1 m2 hS1 (Qe hC1 _ _ h2) hb;cases rS1 h;have:=Qj hC2 (Jax _ _ _ hr1) ho1;exact⟨⟨f1++f2,⟨v,vs',f1,f2,rfl,rfl,hr1,hr2⟩,fun b hb=>by
   rcases JrJ.1 hb with hb | hb
   ·exact this.1 b hb
   ·exact ho2 b hb⟩,hS2,hC1.trans hC2⟩
end
theorem Yr :∀(bs:List Bool) (xs:List X) (vs:List Value) (ys:List X) (m m':Mem),Sim c g m w→VXs c g m w xs vs→(Xl bs xs).run m=some (ys,m')→VXs c g m' w ys vs∧Sim c g m' w∧Jb c g m w g m' w
 | [],xs,vs,ys,m,m',hS,hv,h=>by
  simp only[Xl] at h;cases rS1 h;exact⟨hv,hS,.refl _ _ _ _⟩
 | _::_,[],vs,ys,m,m',hS,hv,h=>by
  simp only[Xl] at h;cases rS1 h;exact⟨hv,hS,.refl _ _ _ _⟩
 | b::bs,x::xs,vs,ys,m,m',hS,⟨v,vs',e,h1,h2⟩,h=>by
  subst e;simp only[Xl] at h;cases b with
  | true =>
   simp only[if_true] at h;obtain⟨d,m1,ha,h⟩:=MP.bind_some h;obtain⟨⟨fp,hr,ho⟩,hS1,hC1⟩:=Ua x v d m m1 hS h1 ha;obtain⟨zs,m2,hb,h⟩:=MP.bind_some h;cases rS1 h;obtain⟨h3,hS2,hC2⟩:=Yr bs xs vs' zs m1 m' hS1 (Qe hC1 _ _ h2) hb;exact⟨⟨v,vs',rfl,Qv hC2 _ _ (JfX d v fp hr ho),h3⟩,hS2,hC1.trans hC2⟩
  | false =>
   simp only[JrU,if_false] at h;obtain⟨zs,m2,hb,h⟩:=MP.bind_some h;cases rS1 h;obtain⟨h3,hS2,hC2⟩:=Yr bs xs vs' zs m m' hS h2 hb;exact⟨⟨v,vs',rfl,Qv hC2 _ _ h1,h3⟩,hS2,hC2⟩
theorem Jgu (bs:List Bool) (x:X) (v:Value) (y:X) (m m':Mem) (hS:Sim c g m w) (hv:VX c g m w x v) (h:(JaP bs x).run m=some (y,m')):VX c g m' w y v∧Sim c g m' w∧Jb c g m w g m' w:=by
 cases x with
 | g cs =>
  obtain⟨vs,e,hv,h1⟩:=hv;simp only[JaP] at h;obtain⟨ds,m1,ha,h⟩:=MP.bind_some h;cases rS1 h;obtain⟨h3,hS1,hC1⟩:=Yr bs cs vs ds m m' hS hv ha;exact⟨⟨vs,e,h3,h1⟩,hS1,hC1⟩
 | _ =>
  simp only[JaP] at h;cases rS1 h;exact⟨hv,hS,.refl _ _ _ _⟩
theorem Un :∀(bs:List (List Bool)) (xs:List X) (vs:List Value) (ys:List X) (m m':Mem),Sim c g m w→VXs c g m w xs vs→(Yc bs xs).run m=some (ys,m')→VXs c g m' w ys vs∧Sim c g m' w∧Jb c g m w g m' w
 | [],xs,vs,ys,m,m',hS,hv,h=>by
  simp only[Yc] at h;cases rS1 h;exact⟨hv,hS,.refl _ _ _ _⟩
 | _::_,[],vs,ys,m,m',hS,hv,h=>by
  simp only[Yc] at h;cases rS1 h;exact⟨hv,hS,.refl _ _ _ _⟩
 | b::bs,x::xs,vs,ys,m,m',hS,⟨v,vs',e,h1,h2⟩,h=>by
  subst e;simp only[Yc] at h;obtain⟨y,m1,ha,h⟩:=MP.bind_some h;obtain⟨hy,hS1,hC1⟩:=Jgu b x v y m m1 hS h1 ha;obtain⟨zs,m2,hb,h⟩:=MP.bind_some h;cases rS1 h;obtain⟨h3,hS2,hC2⟩:=Un bs xs vs' zs m1 m' hS1 (Qe hC1 _ _ h2) hb;exact⟨⟨v,vs',rfl,Qv hC2 _ _ hy,h3⟩,hS2,hC1.trans hC2⟩
theorem Qi.behind {m1:Mem} (hC:Jb c g m w g m1 w) (h:Qi P c g m1 w a o x m'):Qi P c g m w a o x m':=by
 unfold Qi at h ⊢;refine Oper.wp_mono ?_ h;rintro a' w' ⟨v,g',h1,h2,h3,h4⟩;exact⟨v,g',h1,h2,hC.trans h3,h4⟩
mutual
theorem Jps {c2:Cx P} {m2:Mem} :∀(x:X) (v:Value),x.fl=true→(∀k∈x.names,m2 k=(m k).map Obj.deepen)→VX c g m w x v→VX c2 g m2 w x v
 | .d x,v,hf,_,⟨fp,h1,_⟩=>⟨fp,h1,by rw[YO x v fp hf h1];exact fun b hb=>by simp at hb⟩
 | .g cs,v,hf,hn,⟨vs,e,h,h1⟩=>⟨vs,e,JjA cs vs hf hn h,h1⟩
 | .t cs,v,hf,hn,⟨vs,e,h⟩=>⟨vs,e,JjA cs vs hf hn h⟩
 | .o k n,v,_,hn,h=>by
  have:=hn k (by simp[X.names]);obtain⟨h1,⟨o,ho,hb⟩,h2⟩:=h;refine⟨h1,⟨o.deepen,by rw[this,ho];rfl,?_⟩,fun ty sz es dp rw e=>?_⟩
  ·cases o with
   | box cs=>exact absurd rfl (hb cs)
   | arr=>intro cs e;cases e
   | dead=>intro cs e;cases e
  ·rw[this,ho] at e;cases o with
   | box cs=>exact absurd rfl (hb cs)
   | dead=>cases e
   | arr ty0 sz0 es0 dp0 rw0=>cases e;exact h2 _ _ _ _ _ ho
 | .p _ _,_,hf,_,_=>by simp[X.fl] at hf
 | .e _ _ _ _,_,hf,_,_=>by simp[X.fl] at hf
 | .f _ _,_,hf,_,_=>by simp[X.fl] at hf
 | .u,_,hf,_,_=>by simp[X.fl] at hf
theorem JjA {c2:Cx P} {m2:Mem} :∀(xs:List X) (vs:List Value),Ji6 xs=true→(∀k∈J2 xs,m2 k=(m k).map Obj.deepen)→VXs c g m w xs vs→VXs c2 g m2 w xs vs
 | [],_,_,_,h=>h
 | x::xs,vs,hf,hn,⟨v,vs',e,h1,h2⟩=>by
  simp only[Ji6,JrE] at hf;exact⟨v,vs',e,Jps x v hf.1 (fun k hk=>hn k (by simp[J2,hk])) h1,JjA xs vs' hf.2 (fun k hk=>hn k (by simp[J2,hk])) h2⟩
end
theorem Jdo {S:Y0} {f:FuncId} {kb:Key} {ds:List D} {vs:List Value} {fps:List Nat} {Φ:Fix P} (hX:FnX P Φ f S) (hΦ:Φ.ok c) (hS:Sim c g m w) (hr:Kn w ds vs fps) (h:(Kx S kb ds).run m=some (x,m'))
  (hrun:(execOp a.eval o).run P w=(callFunc f vs.toArray).run P w):Qi P c g m w a o x m':=by
 unfold Kx at h;refine U1 hX.1 hS (L:=[]) (os:=[]) rfl (by simp) (fun x1 m1 _ hspec=>?_) h hrun;simp only[Jkz] at hspec;split at hspec
 ·rename_i x0 m0 hs;split at hspec
  ·rename_i hfl;simp only[JrD,JrV] at hspec;obtain⟨rfl,rfl⟩:=hspec;simp only[JrE] at hfl;have hobj :∀k∈x0.names,Kb (m0 k)=true:=fun k hk=>JrR.1 hfl.2 k hk
   let c2:Cx P:={ w0:=w,A:=List.range w.heap.size,par:=[],parA:=fun _ h=>by simp at h }
   have hmem:Qz (Jq 0 (([]:List Obj)))=fun _=>none:=by funext k;rfl
   have hSim:Sim c2 (g.lent []) (Qz (Jq 0 (([]:List Obj)))) w:=by
    rw[hmem];refine⟨⟨rfl,rfl,rfl,Nat.le_refl _,fun _ _ _=>rfl⟩,(fun _ _ h=>by cases h),(fun _ _ _ _ _ _ h=>by cases h),(fun _ _ _ _ h=>by cases h),(fun _ _ _ h=>by cases h),fun b k h=>?_⟩;simp[Gh.lent] at h
   have hno :∀b,¬Mut (g.lent []) (Qz (Jq 0 (([]:List Obj)))) b:=by
    rw[hmem];rintro b ⟨k,o,h,_⟩;cases h
   have hV:VXs c2 (g.lent []) (Qz (Jq 0 (([]:List Obj)))) w (ds.map X.ofD1) vs :=
    Jcs ds vs fps hr (fun b hb=>⟨hno b,.inl (List.mem_range.2 (Jfu ds vs fps hr b hb))⟩)
   refine(hX.2 c2 (g.lent []) [] _ w (ds.map X.ofD1) vs x0 m0 ⟨hS.inv hΦ,fun b _ hb=>by simp[c2] at hb⟩ rfl rfl hSim hV hs).mono ?_;rintro e w' ⟨v,g1,rfl,hS1,hC1,hx1⟩;have hsub :∀k o,(if x0.names.contains k=true then(m0 k).map Obj.deepen else none)=some o→k∈x0.names∧∃ ty sz es dp,m0 k=some (.arr ty sz es dp true)∧o = .arr ty sz es true true∧(dp||Jy es)=true:=by
    intro k o hk;split at hk
    ·rename_i hc;have hkn:=List.contains_iff_mem.1 hc;have:=hobj k hkn;cases hm0:m0 k with
     | none=>rw[hm0] at hk;cases hk
     | some o0 =>
      rw[hm0] at hk this;cases o0 with
      | arr ty sz es dp rw=>cases rw with
       | true=>cases hk;exact⟨hkn,ty,sz,es,dp,rfl,rfl,this⟩
       | false=>simp[Kb] at this
      | _=>simp[Kb] at this
    ·cases hk
   have hfd :∀k ty sz es dp,m0 k=some (.arr ty sz es dp true)→(dp||Jy es)=true→dp=false→g1.fd k=[]:=fun k ty sz es dp hk hdf hd=>by
    obtain⟨h1,_,_⟩:=hS1.arr k _ _ _ _ _ hk;rcases h1 with ⟨_,_,_,e⟩ | ⟨b,cap,cs,_,_,_,_,_,_,hr⟩
    ·exact e
    ·exact Jav (by simpa[hd] using hdf) hr
   have hBlk :∀k o b,(if x0.names.contains k=true then(m0 k).map Obj.deepen else none)=some o→Blk g1 k o b→∃ o0,m0 k=some o0∧o0.rw=true∧Blk g1 k o0 b:=fun k o b hk hb=>by
    obtain⟨_,ty,sz,es,dp,h1,rfl,hdf⟩:=hsub k o hk;refine⟨_,h1,rfl,?_⟩;rcases hb with hb | ⟨_,hb⟩
    ·exact .inl hb
    ·cases dp with
     | true=>exact .inr ⟨rfl,hb⟩
     | false=>rw[hfd k _ _ _ _ h1 hdf rfl] at hb;simp at hb
   have hMut :∀b,Mut g1 (fun k=>if x0.names.contains k=true then(m0 k).map Obj.deepen else none) b→Mut g1 m0 b:=by
    rintro b ⟨k,o,hk,hrw,hb⟩;obtain⟨o0,h1,h2,h3⟩:=hBlk k o b hk hb;exact⟨k,o0,h1,h2,h3⟩
   refine⟨v,g1,rfl,⟨?_,fun k cs hk=>?_,fun k ty sz es dp rw hk=>?_,fun k ty sz es hk=>?_,fun k o b hk hrw hb=>?_,fun b k hb=>?_⟩,⟨hC1.size,fun b h1 h2 h3=>?_,fun k cs hk=>?_,fun k ty sz es dp rw hk=>?_,fun k hk=>?_⟩,?_⟩
   ·exact⟨hS1.frame.os,hS1.frame.tape,hS1.frame.output,hS1.frame.size,fun b hb _=>hS1.frame.block b hb (by simp[c2])⟩
   ·obtain⟨_,_,_,_,_,_,e,_⟩:=hsub k _ hk;cases e
   ·obtain⟨_,_,_,_,dp0,hk0,e,hdf⟩:=hsub k _ hk;cases e;obtain⟨h1,h2,h3⟩:=hS1.arr k _ _ _ _ _ hk0;exact⟨h1,(fun h=>by cases h),(fun h=>by cases h)⟩
   ·obtain⟨_,_,_,_,dp0,hk0,e,hdf⟩:=hsub k _ hk;cases e;cases dp0 with
    | true=>exact hS1.deep k ty sz es hk0
    | false =>
     have hfd0:=hfd k _ _ _ _ hk0 hdf rfl;rw[hfd0];refine⟨List.nodup_nil,fun b hb=>⟨by simp,?_⟩⟩;obtain⟨h1,_,_⟩:=hS1.arr k _ _ _ _ _ hk0;rcases h1 with ⟨e,_⟩ | ⟨b',cap,cs,e,_,_,_,_,_,hr⟩
     ·rw[hb] at e;cases e
     ·rw[hb] at e;cases e;rw[hfd0] at hr;exact Jbg _ _ _ _ _ _ (by simpa using hdf) hr
   ·obtain⟨o0,h1,h2,h3⟩:=hBlk k o b hk hb;exact hS1.own k o0 b h1 h2 h3
   ·obtain⟨h1,h2⟩:=hS1.live b k hb;exact⟨h1,h2.imp id (fun h=>by simp[c2] at h)⟩
   ·obtain⟨h4,h5⟩:=hC1.pure b (hno b) (.inl (List.mem_range.2 h3)) h3;exact⟨h4,fun h=>h5 (hMut b h)⟩
   ·exact absurd hk (by simp[Qz,Jq])
   ·exact absurd hk (by simp[Qz,Jq])
   ·exact absurd hk (by simp[Qz,Jq])
   ·exact Jps x0 v hfl.1 (fun k hk=>by rw[if_pos (List.contains_iff_mem.2 hk)]) hx1
  ·cases hspec
 ·cases hspec
theorem Sim.shallow (hS:Sim c g m w) (h :∀k,m' k=m k∨∃ ty sz es dp rw,m k=some (.arr ty sz es dp rw)∧m' k=some (.arr ty sz es false rw)):Sim c g m' w∧Jb c g m w g m' w:=by
 have hB :∀k o b,m' k=some o→o.rw=true→Blk g k o b→∃ o0,m k=some o0∧o0.rw=true∧Blk g k o0 b:=fun k o b hk hrw hb=>by
  rcases h k with e | ⟨ty,sz,es,dp,rw,h1,h2⟩
  ·exact⟨o,by rw[←e];exact hk,hrw,hb⟩
  ·rw[h2] at hk;cases hk;refine⟨_,h1,hrw,?_⟩;rcases hb with hb | ⟨hd,_⟩
   ·exact .inl hb
   ·simp[Obj.dpw] at hd
 have hM :∀b,Mut g m' b→Mut g m b:=by
  rintro b ⟨k,o,hk,hrw,hb⟩;obtain⟨o0,h1,h2,h3⟩:=hB k o b hk hrw hb;exact⟨k,o0,h1,h2,h3⟩
 have hC:Jb c g m w g m' w:=by
  refine⟨Nat.le_refl _,fun b h1 _ _=>⟨rfl,fun h=>h1 (hM b h)⟩,fun k cs hk=>?_,fun k ty sz es dp rw hk=>?_,fun k hk=>?_⟩
  ·rcases h k with e | ⟨ty,sz,es,dp,rw,h1,h2⟩
   ·exact⟨⟨cs,e.trans hk⟩,rfl⟩
   ·rw[h1] at hk;cases hk
  ·rcases h k with e | ⟨ty,sz,es,dp,rw,h1,h2⟩
   ·exact .inr ⟨_,_,_,e.trans hk,.inl ⟨rfl,rfl,rfl⟩⟩
   ·rw[h1] at hk;cases hk;exact .inr ⟨_,_,_,h2,.inl ⟨rfl,rfl,rfl⟩⟩
  ·rcases h k with e | ⟨ty,sz,es,dp,rw,h1,h2⟩
   ·exact e.trans hk
   ·rw[h1] at hk;cases hk
 have hok :∀fp,JP c g m fp→JP c g m' fp:=fun fp hf b hb=>⟨fun hm=>(hf b hb).1 (hM b hm),(hf b hb).2⟩;refine⟨⟨hS.frame,fun k cs hk=>?_,fun k ty sz es dp rw hk=>?_,fun k ty sz es hk=>?_,fun k o b hk hrw hb=>?_,hS.live⟩,hC⟩
 ·rcases h k with e | ⟨ty,sz,es,dp,rw,h1,h2⟩
  ·obtain⟨b,vs,ty,q1,q2,q3,q4⟩:=hS.box k cs (e.symm.trans hk);exact⟨b,vs,ty,q1,q2,Qe hC _ _ q3,q4⟩
  ·rw[h2] at hk;cases hk
 ·rcases h k with e | ⟨ty0,sz0,es0,dp0,rw0,h1,h2⟩
  ·obtain⟨q1,q2,q3⟩:=hS.arr k ty sz es dp rw (e.symm.trans hk);exact⟨q1,fun hd=>hok _ (q2 hd),fun hr b hb=>hok _ (q3 hr b hb)⟩
  ·rw[h2] at hk;cases hk;obtain⟨q1,q2,q3⟩:=hS.arr k _ _ _ _ _ h1;refine⟨q1,fun _=>?_,fun hr b hb=>hok _ (q3 hr b hb)⟩;cases hd:(dp0&&rw) with
   | false=>exact hok _ (q2 hd)
   | true =>
    simp only[JrE] at hd;obtain⟨rfl,rfl⟩:=hd;intro b hb;have ho:=hS.own k _ b h1 rfl (.inr ⟨rfl,hb⟩);refine⟨?_,?_⟩
    ·rintro⟨j,o,hj,hrw,hbl⟩;obtain⟨o0,h3,h4,h5⟩:=hB j o b hj hrw hbl;have ho2:=hS.own j o0 b h3 h4 h5;rw[ho] at ho2;cases ho2;rw[h2] at hj;cases hj;rcases hbl with hbl | ⟨hd,_⟩
     ·exact((hS.deep _ _ _ _ h1).2 b hbl).1 hb
     ·simp[Obj.dpw] at hd
    ·rcases (hS.live b k ho).2 with h | h
     ·exact .inr h
     ·exact .inl (c.parA b h)
 ·rcases h k with e | ⟨ty0,sz0,es0,dp0,rw0,h1,h2⟩
  ·exact hS.deep k ty sz es (e.symm.trans hk)
  ·rw[h2] at hk;cases hk
 ·obtain⟨o0,h1,h2,h3⟩:=hB k o b hk hrw hb;exact hS.own k o0 b h1 h2 h3
theorem FnX_shal {Φ:Fix P} {f:FuncId} {S:Y0} (h:FnX P Φ f S):FnX P Φ f (Jdl S):=by
 refine⟨h.1,fun c g os m w xs vals x m1 hΦ hm hw hS hv hs=>?_⟩;unfold Jdl at hs;cases h0:S xs os with
 | none=>rw[h0] at hs;cases hs
 | some r =>
  obtain⟨x0,m0⟩:=r;rw[h0] at hs;simp only[JrG,JrD,JrV] at hs;obtain⟨rfl,rfl⟩:=hs;refine(h.2 c g os m w xs vals x0 m0 hΦ hm hw hS hv h0).mono ?_;rintro e w' ⟨v,g',rfl,hS1,hC1,hx⟩;obtain⟨hS2,hC2⟩:=Sim.shallow (m':=fun k=>if k<os.length then m0 k else(m0 k).map Obj.shal) hS1 (fun k=>by
   split
   ·exact .inl rfl
   ·cases hk:m0 k with
    | none=>exact .inl rfl
    | some o=>cases o with
     | arr ty sz es dp rw=>exact .inr ⟨ty,sz,es,dp,rw,rfl,rfl⟩
     | _=>exact .inl rfl)
  exact⟨v,g',rfl,hS2,hC1.trans hC2,Qv hC2 _ _ hx⟩
theorem Jbz {f:FuncId} {xs:List X} {vs:List Value} (hT:UF c T) (hS:Sim c g m w) (hv:VXs c g m w xs vs) (h:(Jak T G o f xs).run m=some (x,m'))
  (hrun:(execOp a.eval o).run P w=(callFunc f vs.toArray).run P w):Qi P c g m w a o x m':=by
 obtain⟨Φ,hΦ,hT⟩:=hT;unfold Jak at h;cases hf:T.fns f with
 | none =>
  simp only[hf] at h;cases hx:T.xfns f with
  | none=>simp[hx,MP.run] at h
  | some S =>
   simp only[hx] at h;split at h
   ·obtain⟨ds,m1,h1,h2⟩:=MP.bind_some h;obtain⟨rfl,fps,hr,_⟩:=Xj 40 xs vs ds m m1 hS hv h1;exact Jdo (hT.sel _ hx) hΦ hS hr h2 hrun
   have hX:FnX P Φ f (if G.dp o then S else Jdl S):=by
    split
    ·exact hT.xfns f S hx
    ·exact FnX_shal (hT.xfns f S hx)
   split at h
   ·exact W9 hX hΦ hS hv h hrun
   ·obtain⟨ys,m1,h1,h2⟩:=MP.bind_some h;obtain⟨h3,hS1,hC1⟩:=Yr _ _ _ _ _ _ hS hv h1;obtain⟨zs,m2,h1',h2⟩:=MP.bind_some h2;obtain⟨h3,hS2,hC2⟩:=Un _ _ _ _ _ _ hS1 h3 h1';exact .behind (hC1.trans hC2) (JiC hX hΦ hS2 h3 h2 hrun)
 | some S =>
  obtain⟨hent,hcall⟩:=hT.fns f S hf;simp only[hf] at h;have fin :∀(m1:Mem) (ds:List D) (fps:List Nat) (r:D),Sim c g m1 w→Jb c g m w g m1 w→Kn w ds vs fps→S.F ds=some r→(flat r=true∨JP c g m1 fps)→Qi P c g m w a o (X.ofD r) m1:=by
   intro m1 ds fps r hS1 hC1 hr hF hok;unfold Qi Oper.wp;rw[hrun,hent];refine(hcall w ds vs fps r (hS1.inv hΦ) hr hF).mono ?_;rintro e w' ⟨val,fp,rfl,hrd,hsub,hb⟩;have hC2:=Jb.below hS1 hb;refine⟨val,g,rfl,hS1.below hb,hC1.trans hC2,Jms r val fp hrd ?_⟩;rcases hok with hfl | hok
   ·rw[YO r val fp hfl hrd];exact fun b hb=>by simp at hb
   ·intro b hbm;rcases hsub b hbm with h1 | h1
    ·exact hok b h1
    ·refine⟨fun hm=>?_,.inr (Nat.le_trans hS1.frame.size h1)⟩;have:=JpJ hS1 hm;omega
  ·split at h
   ·obtain⟨ds,m1,h1,h'⟩:=MP.bind_some h;clear h;obtain⟨rfl,fps,hr,_⟩:=Xj 40 xs vs ds m m1 hS hv h1;have h:=h';clear h';split at h
    ·rename_i r hF;split at h
     ·rename_i hfl;cases rS1 h;exact fin _ ds fps r hS (.refl _ _ _ _) hr hF (.inl hfl)
     ·simp[MP.run] at h
    ·simp[MP.run] at h
   ·obtain⟨ds,m1,h1,h⟩:=MP.bind_some h;obtain⟨⟨fps,hr,hok⟩,hS1,hC1⟩:=Z3 xs vs ds m m1 hS hv h1;split at h
    ·rename_i r hF;cases rS1 h;exact fin _ ds fps r hS1 hC1 hr hF (.inr hok)
    ·simp[MP.run] at h
theorem Ji4 (hT:UF c T) (hS:Sim c g m w) (hsl:Jm c g m w sl a) {cl:Call} {f:Operand} (ho:o.op = .call cl) (hcl:cl.callee = .value f)
  (h:(opM P T G sl o).run m=some (x,m')):Qi P c g m w a o x m':=by
 have hf:=oX1 hsl f;unfold opM at h;rw[ho] at h;simp only[hcl] at h;have hexec:execOp a.eval o=(do let d ←resolve a.eval cl o.type;invoke d.target d.args):=by unfold execOp;rw[ho]
 have hvs:=JkK (l:=cl.args.toList) hsl;split at h
 ·rename_i fn cs hfx;rw[hfx] at hf;obtain⟨vs,hfv,hcs⟩:=hf;refine Jbz hT hS (Zp _ _ _ _ hvs hcs) h ?_;rw[hexec];simp only[resolve,hcl,hfv,Deferred.ofValue,Sem.run_bind,Sem.run_pure,Result.andThen_ok,invoke]
  congr 2
  apply Array.ext';simp
 ·rename_i fn cs hfx;rw[hfx] at hf;obtain⟨fp,⟨vs,hfv,hr⟩,hok⟩:=hf;have hcs:=Jko cs vs fp hr hok;refine Jbz hT hS (Zp _ _ _ _ hvs hcs) h ?_;rw[hexec];simp only[resolve,hcl,hfv,Deferred.ofValue,Sem.run_bind,Sem.run_pure,Result.andThen_ok,invoke]
  congr 2
  apply Array.ext';simp
 ·simp[MP.run] at h
end
end Go.Tm
end
section
open Go.RowKit
namespace Go.Tm
section
variable {P:Program} {T:Tab} {G:JQ} {c:Cx P} {g:Gh} {m m':Mem} {w w':World} {a:Act} {sl:QI} {o:Oper} {x:X}
theorem Jl0 (hT:UF c T) (hS:Sim c g m w) (hsl:Jm c g m w sl a) (h:(opM P T G sl o).run m=some (x,m')):Qi P c g m w a o x m':=by
 cases hop:o.op with
 | move p=>exact Jh0 hS hsl (.inl hop) h
 | assign p=>exact Jh0 hS hsl (.inr hop) h
 | pick p q r=>exact Jog hS hsl hop h
 | alloc t=>exact Jha hS hop h
 | box t p=>exact Jk3 hS hsl hop h
 | build t ps=>exact JjO hS hsl hop h
 | buildSlice t n ps=>exact JaF hS hsl hop h
 | load t p=>exact JjC hS hsl hop h
 | store t p q=>exact Jg9 hS hsl hop h
 | nilCheck p=>exact Jfz hS hsl hop h
 | binOp op t p q t'=>exact Jll hS hsl hop h
 | unOp op t p=>exact JnO hS hsl hop h
 | convert s d p=>exact JhY hS hsl hop h
 | makeFunc fn fs cs=>exact Jgj hS hsl hop h
 | makeSlice t p q=>exact JbQ hS hsl hop h
 | slice t p lo hi mx=>exact Jim hS hsl hop h
 | fieldAddr t p i=>exact Jef hS hsl hop h
 | field t p i=>exact Jhv hS hsl hop h
 | indexAddr t p q=>exact Jd8 hS hsl hop h
 | index t p q=>exact Jmj hS hsl hop h
 | extract p i=>exact Jih hS hsl hop h
 | call cl =>
  cases hcl:cl.callee with
  | value f=>exact Ji4 hT hS hsl hop hcl h
  | invoke _ _=>unfold opM at h;rw[hop] at h;simp[hcl,MP.run] at h
  | builtin b =>
   cases b with
   | len=>exact Jmi hS hsl hop hcl h
   | append=>exact Jfv hS hsl hop hcl h
   | cap=>exact Jml hS hsl hop hcl h
   | _=>unfold opM at h;rw[hop] at h;simp[hcl,MP.run] at h
 | _=>unfold opM at h;rw[hop] at h;simp[MP.run] at h
end
end Go.Tm
end
section
open Go.RowKit
namespace Go.Tm
section
variable {P:Program} {T:Tab} {G:JQ} {c:Cx P} {g:Gh} {m m':Mem} {w w':World} {a:Act} {sl:QI} {o:Oper} {x:X} {ops:Array Oper} {Q:Exit→Act→World→Prop}
theorem Oper.wp_to {o:Oper} {a:Act} {w:World} {K K':Act→World→Prop} (h :∀a w,K a w→K' a w) (hh:o.wp P a w K fun _ _ _=>False):o.wp P a w K' Q:=by
 unfold Oper.wp at *;generalize (execOp a.eval o).run P w=r at *;cases r with
 | ok n w' =>
  cases n <;> simp only[Oper.upon] at hh ⊢ <;>
   first
    | exact h _ _ hh
    | exact Calls.mono hh (fun e w'' he=>by cases e <;> first | exact h _ _ he | exact he.elim | (obtain⟨_,_,he⟩:=he;exact he.elim))
    | exact Rows.mono hh (fun _ _ he=>h _ _ he)
 | halt x w'=>cases x <;> simp only[Oper.upon] at hh ⊢
def Ka (n:Nat) (ops:Array Oper):Bool:=ops.all fun o=>match o.dst with | some d=>decide (d<n) | none=>true
theorem Jm.put {v:Value} {g':Gh} (hsl:Jm c g m w sl a) (hC:Jb c g m w g' m' w') (hd :∀d,o.dst=some d→d<a.tmps.size) (hx:VX c g' m' w' x v) :
  Jm c g' m' w' (UL sl o.dst x) (a.put o.dst v):=by
 intro t;cases hdst:o.dst with
 | none=>simp only[UL,Act.put];exact Qv hC _ _ (hsl t)
 | some d =>
  simp only[UL,Act.put]
  by_cases htd:t=d
  ·subst htd;have:=hd t hdst;simp only[uS1];simpa[this] using hx
  ·rw[uO1 _ _ htd];have:(a.tmps.setIfInBounds d v).getD t undef=a.tmps.getD t undef:=by
    simp[Array.getElem?_setIfInBounds_ne (Ne.symm htd)]
   rw[this];exact Qv hC _ _ (hsl t)
theorem ZJ (a:Act) (d:Option Tmp) (v:Value):(a.put d v).tmps.size=a.tmps.size:=by cases d <;> simp[Act.put]
theorem XV (a:Act) (d:Option Tmp) (v:Value):(a.put d v).defers=a.defers:=by cases d <;> rfl
theorem Jgw (hsl:Jm c g m w sl a) {b:Bool} (h:Qw ops sl o=some b):Region.wanted o (yielded ops a.tmps)=b:=by
 unfold Qw at h;unfold Region.wanted;cases hg:o.guard with
 | none=>simp only[hg,JrD] at h;subst h;rfl
 | some gw =>
  obtain⟨j,want⟩:=gw;simp only[hg] at h ⊢;cases hd:(ops[j]?).bind (·.dst) with
  | none=>simp[hd] at h
  | some d =>
   simp only[hd] at h;split at h
   ·rename_i b' he;simp only[JrD] at h;have hv:=hsl d;rw[he] at hv;have hv:=(JW hv).1;have hy:yielded ops a.tmps j=some b':=by
     unfold yielded;rw[hd];simp only[JrS];cases ht:a.tmps[d]? with
     | none=>simp[ht,undef] at hv
     | some v=>simp[ht] at hv;subst hv;rfl
    rw[hy,←h];cases b' <;> cases want <;> rfl
   ·rename_i he;simp only[JrD] at h;have hv:=hsl d;rw[he] at hv;obtain⟨vs,hv,hn⟩:=hv;have hn:vs=[]:=hn;subst hn;have hy:yielded ops a.tmps j=none:=by
     unfold yielded;rw[hd];simp only[JrS];cases ht:a.tmps[d]? with
     | none=>rfl
     | some v=>simp[ht] at hv;subst hv;rfl
    rw[hy,←h];cases want <;> rfl
   ·cases h
theorem Wi (hT:UF c T) {i:Nat} {st st':St} (hS:Sim c g st.m w) (hsl:Jm c g st.m w st.sl a) (hd:Ka a.tmps.size ops=true) (h:JbH P T G ops i st=some st') {K:Act→World→Prop}
  (hK :∀a' w' g',Sim c g' st'.m w'→Jm c g' st'.m w' st'.sl a'→Jb c g st.m w g' st'.m w'→a'.defers=a.defers→a'.tmps.size=a.tmps.size→K a' w'):wpOp P ops Q i K a w:=by
 unfold JbH at h;unfold wpOp;cases hi:ops[i]? with
 | none=>simp[hi] at h
 | some o =>
  have hdo :∀d,o.dst=some d→d<a.tmps.size:=fun d hod=>by
   have:=Array.all_eq_true_iff_forall_mem.1 hd o (Array.mem_of_getElem? hi);simpa[hod] using this
  simp only[hi] at h ⊢;cases hw:Qw ops st.sl o with
  | none=>simp[hw] at h
  | some b =>
   have hwant:=Jgw hsl hw;rw[hwant];cases b with
   | false =>
    simp only[hw,JrD] at h;subst h;simp only[JrU,if_false];exact hK _ _ g hS (Jm.put hsl (.refl _ _ _ _) hdo ⟨[],rfl,rfl⟩) (.refl _ _ _ _) (XV _ _ _) (ZJ _ _ _)
   | true =>
    simp only[hw] at h;split at h
    ·rename_i x m1 hrun;simp only[JrD] at h;subst h;simp only[if_true];refine .inl (Oper.wp_to ?_ (Jl0 hT hS hsl hrun));rintro a' w' ⟨v,g',rfl,hS',hC',hx'⟩;exact hK _ _ g' hS' (Jm.put hsl hC' hdo hx') hC' (XV _ _ _) (ZJ _ _ _)
    ·cases h
theorem Jbu (hT:UF c T) :∀(l:List Nat) (st st':St) (g:Gh) (a:Act) (w:World),Sim c g st.m w→Jm c g st.m w st.sl a→Ka a.tmps.size ops=true→UY P T G ops l st=some st' →
  (∀a' w' g',Sim c g' st'.m w'→Jm c g' st'.m w' st'.sl a'→Jb c g st.m w g' st'.m w'→a'.defers=a.defers→a'.tmps.size=a.tmps.size→Q .normal a' w')→wpOps P ops Q l a w
 | [],st,st',g,a,w,hS,hsl,_,h,hQ=>by
  simp only[UY,JrD] at h;subst h;exact hQ a w g hS hsl (.refl _ _ _ _) rfl rfl
 | i::l,st,st',g,a,w,hS,hsl,hd,h,hQ=>by
  simp only[UY] at h;split at h
  ·rename_i st1 h1;rw[wpOps_cons];refine Wi hT hS hsl hd h1 fun a' w' g' hS' hsl' hC1 e1 e2=>?_;refine Jbu hT l st1 st' g' a' w' hS' hsl' (by rw[e2];exact hd) h fun a'' w'' g'' h3 h4 hC2 h5 h6=>hQ a'' w'' g'' h3 h4 (hC1.trans hC2) (h5.trans e1) (h6.trans e2)
  ·cases h
theorem Sim.restrict {mk:Mem} (hS:Sim c g m w) (h :∀k o,mk k=some o→(∃ o0,m k=some o0∧o0.rw=o.rw) ∧
  (∀cs,o = .box cs→∃ b vs ty,g.bl k=some b∧w.heap[b]? = some (.cells vs.toArray ty (0,0))∧VXs c g mk w cs vs∧∀u∈vs,u.oneCell=true)∧(∀ty sz es dp rw,o = .arr ty sz es dp rw→m k=some o)):Sim c g mk w:=by
 have hB :∀k o o0 b,mk k=some o→m k=some o0→Blk g k o b→Blk g k o0 b:=by
  intro k o o0 b h1 h2 hb;cases o with
  | box cs=>exact .inl (hb.resolve_right fun h=>by cases h.1)
  | dead=>exact .inl (hb.resolve_right fun h=>by cases h.1)
  | arr ty sz es dp rw =>
   have:=(h k _ h1).2.2 ty sz es dp rw rfl;rw[h2] at this;cases this;exact hb
 have hm :∀b,Mut g mk b→Mut g m b:=by
  rintro b ⟨k,o,hk,hrw,hb⟩;obtain⟨⟨o0,h1,h2⟩,_⟩:=h k o hk;exact⟨k,o0,h1,by rw[h2];exact hrw,hB k o o0 b hk h1 hb⟩
 have hok :∀fp,JP c g m fp→JP c g mk fp:=fun fp hf b hb=>⟨fun hmm=>(hf b hb).1 (hm b hmm),(hf b hb).2⟩;refine⟨hS.frame,fun k cs hk=>(h k _ hk).2.1 cs rfl,fun k ty sz es dp rw hk=>?_,fun k ty sz es hk=>?_,fun k o b hk hrw hb=>?_,hS.live⟩
 ·obtain⟨h1,h2,h3⟩:=hS.arr k ty sz es dp rw ((h k _ hk).2.2 ty sz es dp rw rfl);exact⟨h1,fun hd=>hok _ (h2 hd),fun hr b hb=>hok _ (h3 hr b hb)⟩
 ·exact hS.deep k ty sz es ((h k _ hk).2.2 ty sz es true true rfl)
 ·obtain⟨⟨o0,h1,h2⟩,_⟩:=h k o hk;exact hS.own k o0 b h1 (by rw[h2];exact hrw) (hB k o o0 b hk h1 hb)
end
end Go.Tm
end
section
open Go.RowKit
namespace Go.Tm
def MP.tch {α:Type}:MP α→Mem→List (Key×Bool)
 | .ret _,_=>[]
 | .fail,_=>[]
 | .get k c,m=>(k,false)::match m k with
  | some o=>(c o).tch m
  | none=>[]
 | .put k o c,m=>(k,true)::c.tch (upd m k (some o))
 | .new k o c,m=>(k,true)::c.tch (upd m k (some o))
theorem MP.keep {α:Type} :∀(p:MP α) (m:Mem) (x:α) (m1:Mem),p.run m=some (x,m1)→∀k,(k,true)∉p.tch m→m1 k=m k
 | .ret a,m,x,m1,h,k,hk=>by cases rS1 h;rfl
 | .fail,m,x,m1,h,k,hk=>by simp[MP.run] at h
 | .get j p,m,x,m1,h,k,hk=>by
  obtain⟨o,ho,h⟩:=MP.get_some h;exact MP.keep (p o) m x m1 h k (fun hm=>hk (by simp[MP.tch,ho,hm]))
 | .put j o p,m,x,m1,h,k,hk=>by
  obtain⟨_,h⟩:=MP.put_some h;have:=MP.keep p _ x m1 h k (fun hm=>hk (by simp[MP.tch,hm]));rw[this,uO1 _ _ (fun e=>hk (by simp[MP.tch,e]))]
 | .new j o p,m,x,m1,h,k,hk=>by
  obtain⟨_,h⟩:=MP.new_some h;have:=MP.keep p _ x m1 h k (fun hm=>hk (by simp[MP.tch,hm]));rw[this,uO1 _ _ (fun e=>hk (by simp[MP.tch,e]))]
theorem MP.frame {α:Type} :∀(p:MP α) (m m':Mem) (x:α) (m1:Mem),p.run m=some (x,m1)→(∀k b,(k,b)∈p.tch m→m' k=m k) →
  p.tch m'=p.tch m∧∃ m1',p.run m'=some (x,m1')∧(∀k,(k,true)∈p.tch m→m1' k=m1 k)∧∀k,(k,true)∉p.tch m→m1' k=m' k
 | .ret a,m,m',x,m1,h,hk=>by
  cases rS1 h;exact⟨rfl,m',rfl,fun k hm=>by simp[MP.tch] at hm,fun _ _=>rfl⟩
 | .fail,m,m',x,m1,h,hk=>by simp[MP.run] at h
 | .get j p,m,m',x,m1,h,hk=>by
  obtain⟨o,ho,h⟩:=MP.get_some h;have e:m' j=some o:=(hk j false (by simp[MP.tch])).trans ho;obtain⟨h1,m1',h2,h3,h4⟩:=MP.frame (p o) m m' x m1 h (fun k b hm=>hk k b (by simp[MP.tch,ho,hm]));refine⟨by simp only[MP.tch,ho,e,h1],m1',by simp only[MP.run,e,h2],fun k hm=>h3 k (by simpa[MP.tch,ho] using hm),fun k hm=>h4 k (fun hh=>hm (by simp[MP.tch,ho,hh]))⟩
 | .put j o p,m,m',x,m1,h,hk=>by
  obtain⟨⟨o',ho⟩,h⟩:=MP.put_some h;have e:m' j=some o':=(hk j true (by simp[MP.tch])).trans ho;obtain⟨h1,m1',h2,h3,h4⟩:=MP.frame p (upd m j (some o)) (upd m' j (some o)) x m1 h (fun k b hm=>by
   by_cases hkj:k=j
   ·subst hkj;simp only[uS1]
   ·simp only[uO1 _ _ hkj];exact hk k b (by simp[MP.tch,hm]))
  refine⟨by simp only[MP.tch,h1],m1',by simp only[MP.run,e,h2],fun k hm=>?_,fun k hm=>?_⟩
  ·by_cases hin:(k,true)∈p.tch (upd m j (some o))
   ·exact h3 k hin
   ·have hkj:k=j:=by simpa[MP.tch,hin] using hm
    rw[h4 k hin,MP.keep p _ x m1 h k hin,hkj,uS1,uS1]
  ·have hkj:k≠j:=fun e=>hm (by simp[MP.tch,e]);rw[h4 k (fun hh=>hm (by simp[MP.tch,hh])),uO1 _ _ hkj]
 | .new j o p,m,m',x,m1,h,hk=>by
  obtain⟨ho,h⟩:=MP.new_some h;have e:m' j=none:=(hk j true (by simp[MP.tch])).trans ho;obtain⟨h1,m1',h2,h3,h4⟩:=MP.frame p (upd m j (some o)) (upd m' j (some o)) x m1 h (fun k b hm=>by
   by_cases hkj:k=j
   ·subst hkj;simp only[uS1]
   ·simp only[uO1 _ _ hkj];exact hk k b (by simp[MP.tch,hm]))
  refine⟨by simp only[MP.tch,h1],m1',by simp only[MP.run,e,h2],fun k hm=>?_,fun k hm=>?_⟩
  ·by_cases hin:(k,true)∈p.tch (upd m j (some o))
   ·exact h3 k hin
   ·have hkj:k=j:=by simpa[MP.tch,hin] using hm
    rw[h4 k hin,MP.keep p _ x m1 h k hin,hkj,uS1,uS1]
  ·have hkj:k≠j:=fun e=>hm (by simp[MP.tch,e]);rw[h4 k (fun hh=>hm (by simp[MP.tch,hh])),uO1 _ _ hkj]
def apart (a b:List (Key×Bool)):Bool:=a.all fun x=>b.all fun y=>x.1 != y.1||(!x.2 && !y.2)
theorem apart_spec {a b:List (Key×Bool)} (h:apart a b=true) {k:Key} {x y:Bool} (h1:(k,x)∈a) (h2:(k,y)∈b):x=false∧y=false:=by
 have:=JrR.1 (JrR.1 h _ h1) _ h2;simpa using this
theorem Jqv {α β:Type} {p:MP α} {q:MP β} {m m1 m2:Mem} {x:α} {y:β} (h1:p.run m=some (x,m1)) (h2:q.run m1=some (y,m2)) (ha:apart (p.tch m) (q.tch m1)=true) :
  ∃ m1',q.run m=some (y,m1')∧p.run m1'=some (x,m2)∧q.tch m=q.tch m1∧p.tch m1'=p.tch m:=by
 have n1 :∀k b,(k,b)∈q.tch m1→(k,true)∉p.tch m:=fun k b hb hh=>by have:=(apart_spec ha hh hb).1;cases this
 have n2 :∀k b,(k,b)∈p.tch m→(k,true)∉q.tch m1:=fun k b hb hh=>by have:=(apart_spec ha hb hh).2;cases this
 obtain⟨e1,m1',r1,r2,r3⟩:=MP.frame q m1 m y m2 h2 (fun k b hb=>(MP.keep p m x m1 h1 k (n1 k b hb)).symm);obtain⟨e2,m2',s1,s2,s3⟩:=MP.frame p m m1' x m1 h1 (fun k b hb=>r3 k (n2 k b hb));have:m2'=m2:=by
  funext k
  by_cases hp:(k,true)∈p.tch m
  ·rw[s2 k hp,MP.keep q m1 y m2 h2 k (n2 k true hp)]
  ·rw[s3 k hp]
   by_cases hq:(k,true)∈q.tch m1
   ·rw[r2 k hq]
   ·rw[r3 k hq,MP.keep q m1 y m2 h2 k hq,MP.keep p m x m1 h1 k hp]
 subst this;exact⟨m1',r1,s1,e1,e2⟩
section
variable {P:Program} {T:Tab} {G:JQ} {ops:Array Oper}
theorem Jk1 {sl sl':QI} {x:Operand} (h :∀t,x = .tmp t→sl' t=sl t):opX sl' x=opX sl x:=by
 cases x with
 | tmp t=>exact h t rfl
 | _=>rfl
theorem Jl3 {sl sl':QI} {o:Oper} (h :∀t,.tmp t∈o.op.operands→sl' t=sl t):opM P T G sl' o=opM P T G sl o:=by
 have hx :∀x∈o.op.operands,opX sl' x=opX sl x:=fun x hx=>Jk1 fun t e=>h t (e▸hx);clear h;obtain⟨dst,op,type,pos,after,guard⟩:=o;have pairs :∀ps:Array (Nat×Operand),(∀x∈ps.map (·.2),opX sl' x=opX sl x) →
   (ps.toList.map fun p=>(p.1,opX sl' p.2))=(ps.toList.map fun p=>(p.1,opX sl p.2)):=fun ps hp =>
  Jr0 fun p hm=>by
   obtain⟨i,x⟩:=p;simp only[hp x (Array.mem_map.2 ⟨(i,x),by simpa using hm,rfl⟩)]
 cases op <;> (try simp only [Op.operands] at hx) <;> unfold opM <;> (try dsimp only)
 case build t ps=>rw[pairs ps fun x h=>hx x (by simpa using h)]
 case buildSlice t n ps=>rw[pairs ps fun x h=>hx x (by simpa using h)]
 case makeFunc fn first captured =>
  have:captured.toList.map (opX sl')=captured.toList.map (opX sl):=Jr0 fun x h=>hx x (by simp[Array.mem_toList_iff.1 h]);cases fn <;> first | rfl | (simp only[this])
 case call c =>
  have hargs:c.args.toList.map (opX sl')=c.args.toList.map (opX sl):=Jr0 fun x h=>hx x (by simp[Call.operands,Array.mem_toList_iff.1 h]);cases hc:c.callee with
  | value f =>
   have hf:opX sl' f=opX sl f:=hx f (by simp[Call.operands,hc]);simp only[hf,hargs]
  | invoke r mm=>rfl
  | builtin b =>
   cases b <;> simp only
   case len =>
    split
    ·rename_i p t e1 e2;have hp:opX sl' p=opX sl p:=hx p (by have:p∈c.args:=Array.mem_toList_iff.1 (by rw[e1];simp);simp[Call.operands,this]);rw[hp]
    ·rfl
   case cap =>
    split
    ·rename_i p t e1 e2;have hp:opX sl' p=opX sl p:=hx p (by have:p∈c.args:=Array.mem_toList_iff.1 (by rw[e1];simp);simp[Call.operands,this]);rw[hp]
    ·rfl
   case append =>
    split
    ·rename_i p q t t' e1 e2;have hp:opX sl' p=opX sl p:=hx p (by have:p∈c.args:=Array.mem_toList_iff.1 (by rw[e1];simp);simp[Call.operands,this]);have hq:opX sl' q=opX sl q:=hx q (by have:q∈c.args:=Array.mem_toList_iff.1 (by rw[e1];simp);simp[Call.operands,this]);rw[hp,hq]
    ·rfl
 case slice t x lo hi mx=>cases lo <;> cases hi <;> cases mx <;> simp_all
 all_goals (first | rfl | (simp_all;done))
end
end Go.Tm
end
section
open Go.RowKit
namespace Go.Tm
def MP.runT {α:Type}:MP α→Mem→Option (α×Mem×List (Key×Bool))
 | .ret a,m=>some (a,m,[])
 | .fail,_=>none
 | .get k c,m=>match m k with
  | some o=>((c o).runT m).map fun r=>(r.1,r.2.1,(k,false)::r.2.2)
  | none=>none
 | .put k o c,m=>match m k with
  | some _=>(c.runT (upd m k (some o))).map fun r=>(r.1,r.2.1,(k,true)::r.2.2)
  | none=>none
 | .new k o c,m=>match m k with
  | some _=>none
  | none=>(c.runT (upd m k (some o))).map fun r=>(r.1,r.2.1,(k,true)::r.2.2)
theorem MP.runT_eq {α:Type} :∀(p:MP α) (m:Mem),p.runT m=(p.run m).map fun r=>(r.1,r.2,p.tch m)
 | .ret a,m=>rfl
 | .fail,m=>rfl
 | .get k p,m=>by
  simp only[MP.runT,MP.run,MP.tch];cases h:m k with
  | none=>rfl
  | some o=>simp only[MP.runT_eq (p o) m,Option.map_map];rfl
 | .put k o p,m=>by
  simp only[MP.runT,MP.run,MP.tch];cases h:m k with
  | none=>rfl
  | some o'=>simp only[MP.runT_eq p _,Option.map_map];rfl
 | .new k o p,m=>by
  simp only[MP.runT,MP.run,MP.tch];cases h:m k with
  | some o'=>rfl
  | none=>simp only[MP.runT_eq p _,Option.map_map];rfl
section
variable (P:Program) (T:Tab) (G:JQ) (ops:Array Oper)
def Kq (i:Nat) (st:St):List (Key×Bool):=match ops[i]? with
 | some o=>match Qw ops st.sl o with
  | some true=>(opM P T G st.sl o).tch st.m
  | _=>[]
 | none=>[]
def evM (sl:QI) (o:Oper):Option (MP X):=match Qw ops sl o with
 | some true=>some (opM P T G sl o)
 | some false=>some (.ret (.t []))
 | none=>none
def XH:List Nat→St→Option (St×List (List (Key×Bool)))
 | [],st=>some (st,[])
 | i::l,st=>match ops[i]? with
  | none=>none
  | some o=>match evM P T G ops st.sl o with
   | none=>none
   | some p=>match p.runT st.m with
    | none=>none
    | some (x,m,t)=>match XH l ⟨UL st.sl o.dst x,m⟩ with
     | none=>none
     | some (st',ts)=>some (st',t::ts)
def Jmr (ts:Nat→List (Key×Bool)):List Nat→St→St→Prop
 | [],st,st'=>st=st'
 | i::l,st,st'=>∃ st1,JbH P T G ops i st=some st1∧Kq P T G ops i st=ts i∧Jmr ts l st1 st'
end
def KR (ops:Array Oper) (i j:Nat):Bool:=match ops[i]?,ops[j]? with
 | some x,some y=>x.apart ops y
 | _,_=>true
section
variable {P:Program} {T:Tab} {G:JQ} {ops:Array Oper}
theorem Jfc {i:Nat} {st st':St} (h:JbH P T G ops i st=some st') :
  ∃ o p x,ops[i]? = some o∧evM P T G ops st.sl o=some p∧p.run st.m=some (x,st'.m)∧st'.sl=UL st.sl o.dst x∧Kq P T G ops i st=p.tch st.m:=by
 unfold JbH at h;unfold Kq;cases hi:ops[i]? with
 | none=>simp[hi] at h
 | some o =>
  simp only[hi] at h ⊢;cases hw:Qw ops st.sl o with
  | none=>simp[hw] at h
  | some b =>
   cases b with
   | false =>
    simp only[hw,JrD] at h;subst h;exact⟨o,.ret (.t []),.t [],rfl,by simp[evM,hw],rfl,rfl,rfl⟩
   | true =>
    simp only[hw] at h;split at h
    ·rename_i x m1 hr;simp only[JrD] at h;subst h;exact⟨o,_,x,rfl,by simp only[evM,hw],hr,rfl,rfl⟩
    ·cases h
theorem Jai {i:Nat} {st:St} {o:Oper} {p:MP X} {x:X} {m:Mem} (ho:ops[i]? = some o) (hp:evM P T G ops st.sl o=some p) (hr:p.run st.m=some (x,m)) :
  JbH P T G ops i st=some ⟨UL st.sl o.dst x,m⟩∧Kq P T G ops i st=p.tch st.m:=by
 unfold evM at hp;unfold JbH Kq;simp only[ho];split at hp
 ·rename_i hw;simp only[JrD] at hp;subst hp;simp only[hw,hr,and_self]
 ·rename_i hw;simp only[JrD] at hp;subst hp;simp only[hw];cases rS1 hr;exact⟨rfl,rfl⟩
 ·cases hp
theorem Jj9 {sl:QI} {o:Oper} {dst:Option Tmp} {x:X} (h :∀d,dst=some d→d∉o.looksAt ops):evM P T G ops (UL sl dst x) o=evM P T G ops sl o:=by
 have hne :∀t,t∈o.looksAt ops→UL sl dst x t=sl t:=by
  intro t ht;cases dst with
  | none=>rfl
  | some d=>exact uO1 _ _ (fun e=>h d rfl (e▸ht))
 have h1:opM P T G (UL sl dst x) o=opM P T G sl o:=Jl3 fun t ht=>hne t (List.mem_append_left _ (List.mem_filterMap.2 ⟨.tmp t,by simpa using ht,rfl⟩));have h2:Qw ops (UL sl dst x) o=Qw ops sl o:=by
  unfold Qw;cases hg:o.guard with
  | none=>rfl
  | some gw =>
   obtain⟨j,want⟩:=gw;simp only;cases hd:(ops[j]?).bind (·.dst) with
   | none=>rfl
   | some d=>simp only[hne d (by simp[Oper.looksAt,hg,hd])]
 simp only[evM,h1,h2]
theorem JpZ {i j:Nat} {st st1 st2:St} (h1:JbH P T G ops i st=some st1) (h2:JbH P T G ops j st1=some st2) (hs:KR ops i j=true)
  (ha:apart (Kq P T G ops i st) (Kq P T G ops j st1)=true) :
  ∃ st1',JbH P T G ops j st=some st1'∧JbH P T G ops i st1'=some st2∧Kq P T G ops j st=Kq P T G ops j st1∧Kq P T G ops i st1'=Kq P T G ops i st:=by
 obtain⟨oi,p,x,hoi,hp,hr,hsl,ht⟩:=Jfc h1;obtain⟨oj,q,y,hoj,hq,hr',hsl',ht'⟩:=Jfc h2;unfold KR at hs;simp only[hoi,hoj] at hs;obtain⟨a1,a2,a3⟩:=Oper.apart_spec hs;rw[ht,ht'] at ha;obtain⟨m1',r1,r2,e1,e2⟩:=Jqv hr hr' ha;rw[hsl,Jj9 a1] at hq;obtain⟨b1,b2⟩:=Jai hoj hq r1;refine⟨_,b1,?_⟩;have hp':evM P T G ops (UL st.sl oj.dst y) oi=some p:=by rw[Jj9 a3];exact hp
 obtain⟨c1,c2⟩:=Jai (st:=⟨UL st.sl oj.dst y,m1'⟩) hoi hp' r2;refine⟨c1.trans ?_,b2.trans (e1.trans ht'.symm),c2.trans (e2.trans ht.symm)⟩
 congr 1
 cases st2 with
 | mk sl2 m2 =>
  simp only at hsl';subst hsl';rw[hsl]
  congr 1
  funext t
  cases hdi:oi.dst with
  | none=>rfl
  | some d =>
   cases hdj:oj.dst with
   | none=>rfl
   | some e =>
    have hne:d≠e:=fun he=>a2 d hdi (by rw[hdj,he]);simp only[UL,upd]
    by_cases h1:t=d
    ·subst h1;simp[hne]
    ·by_cases h2:t=e
     ·subst h2;simp[h1]
     ·simp[h1,h2]
def Pair (P:Program) (ops:Array Oper) (ts:Nat→List (Key×Bool)) (i j:Nat):Prop:=KR ops i j=true∧apart (ts i) (ts j)=true
theorem Jpv {ts:Nat→List (Key×Bool)} {i:Nat} {st':St} :∀(l:List Nat) (st:St),Jmr P T G ops ts l st st'→i∈l→l.Pairwise (· < ·)→(∀j∈l,j<i→Pair P ops ts j i)→Jmr P T G ops ts (i::l.filter (· != i)) st st'
 | [],st,h,hi,_,_=>by simp at hi
 | j::l,st,⟨st1,h1,h2,h3⟩,hi,hl,hp=>by
  obtain⟨hl1,hl2⟩:=List.pairwise_cons.1 hl
  by_cases hji:j=i
  ·subst hji;have:(j::l).filter (· != j)=l:=by
    rw[List.filter_cons_of_neg (by simp)];exact List.filter_eq_self.2 fun k hk=>by have:=hl1 k hk;simp;omega
   rw[this];exact⟨st1,h1,h2,h3⟩
  ·have hil:i∈l:=by rcases JrX.1 hi with e | e;exact absurd e.symm hji;exact e
   obtain⟨st2,g1,g2,g3⟩:=Jpv l st1 h3 hil hl2 (fun k hk=>hp k (by simp[hk]));obtain⟨p1,p2⟩:=hp j (by simp) (hl1 i hil);obtain⟨st1',s1,s2,s3,s4⟩:=JpZ h1 g1 p1 (by rw[h2,g2];exact p2);rw[List.filter_cons_of_pos (by simpa using hji)];exact⟨st1',s1,s3.trans g2,st2,s2,s4.trans h2,g3⟩
theorem Jj4 :∀(n a:Nat) (st st':St) (tl:List (List (Key×Bool))) (ts:Nat→List (Key×Bool)),XH P T G ops (List.range' a n) st=some (st',tl)→(∀p,p<n→ts (a+p)=tl.getD p []) →
  Jmr P T G ops ts (List.range' a n) st st'
 | 0,a,st,st',tl,ts,h,_=>by
  simp only[List.range'_zero,XH,JrD,JrV] at h;exact h.1
 | n+1,a,st,st',tl,ts,h,hts=>by
  rw[List.range'_succ] at h ⊢;simp only[XH] at h;split at h
  ·cases h
  ·rename_i o ho;split at h
   ·cases h
   ·rename_i p hp;rw[MP.runT_eq] at h;cases hr:p.run st.m with
    | none=>simp[hr] at h
    | some r =>
     obtain⟨x,m1⟩:=r;simp only[hr,JrG] at h;split at h
     ·cases h
     ·rename_i st2 tl2 h2;simp only[JrD,JrV] at h;obtain⟨e1,e2⟩:=h;subst e1;subst e2;obtain⟨b1,b2⟩:=Jai ho hp hr;refine⟨_,b1,b2.trans ?_,Jj4 n (a+1) _ _ tl2 ts h2 fun p hp=>?_⟩
      ·have:=hts 0 (by omega);simpa using this.symm
      ·have:=hts (p+1) (by omega);rw[show a+1+p=a+(p+1) by omega,this];simp
end
def JcP (ops:Array Oper) (b:Array Nat):Bool:=(List.range ops.size).all fun i=>match ops[i]? with
 | none=>true
 | some o=>(o.after.all fun e=>!Region.binds .any e||decide (e.on<i)) &&
  (List.range ops.size).all fun j=>!(b.getD i 0).testBit j||o.after.any fun e=>Region.binds .any e&&(e.on == j||(b.getD e.on 0).testBit j)
def JmP (o:Op):Bool:=match o with
 | .move _ | .assign _ | .pick _ _ _ | .build _ _ | .nilCheck _ | .binOp _ _ _ _ _ | .unOp _ _ _ | .convert _ _ _ | .makeFunc _ _ _ | .field _ _ _ | .index _ _ _ | .extract _ _=>true
 | _=>false
def K1 (ops:Array Oper) (i:Nat):Bool:=match ops[i]? with
 | some o=>JmP o.op
 | none=>true
def sok (ops:Array Oper):Bool :=
 let b:=Region.before ops
 JcP ops b&&(List.range ops.size).all fun j=>(List.range j).all fun i=>(b.getD j 0).testBit i||KR ops i j
def un (ops:Array Oper):List (Nat×Nat) :=
 let b:=Region.before ops
 (List.range ops.size).flatMap fun j=>(List.range j).filterMap fun i=>if(b.getD j 0).testBit i||K1 ops i||K1 ops j then none else some (i,j)
section
variable {P:Program} {T:Tab} {G:JQ} {ops:Array Oper}
theorem JnC (v:Option Value) (m:Mem):(KH v).tch m=[]:=by
 unfold KH;split
 ·split <;> rfl
 ·rfl
theorem Jmp {sl:QI} {o:Oper} (h:JmP o.op=true) (m:Mem):(opM P T G sl o).tch m=[]:=by
 unfold opM;cases hop:o.op <;> simp only[JmP,hop,JrU] at h
 case makeFunc fn f cs=>cases fn <;> dsimp only <;> repeat' (first | rfl | split)
 all_goals (try dsimp only)
 all_goals (repeat' (first | rfl | exact JnC _ _ | split))
theorem Jhb {i:Nat} {st:St} (h:K1 ops i=true):Kq P T G ops i st=[]:=by
 unfold Kq;unfold K1 at h;cases hi:ops[i]? with
 | none=>rfl
 | some o =>
  simp only[hi] at h ⊢;split
  ·exact Jmp h _
  ·rfl
def Down (ops:Array Oper) (listed:Array Bool):Prop:=∀i o,listed.getD i false=true→ops[i]? = some o→∀e∈o.after,Region.binds .any e=true→listed.getD e.on false=true
theorem VV {b:Array Nat} {listed:Array Bool} (hc:JcP ops b=true) (hd:Down ops listed) :∀(n i:Nat) (o:Oper),i<n→ops[i]? = some o →
  (∀e∈o.after,Region.binds .any e=true→listed.getD e.on false=true)→∀j,j<ops.size→(b.getD i 0).testBit j=true→listed.getD j false=true
 | 0,i,o,hi,_,_,_,_,_=>by omega
 | n+1,i,o,hi,ho,hall,j,hj,hb=>by
  have hlt:i<ops.size:=(JrQ.1 ho).1;have h:=JrR.1 hc i (List.mem_range.2 hlt);simp only[ho,JrE] at h;have h2:=JrR.1 h.2 j (List.mem_range.2 hj);simp only[hb,Bool.not_true,Bool.false_or] at h2;rw[←Array.any_toList] at h2;obtain⟨e,he,h3⟩:=List.any_eq_true.1 h2;have he:=Array.mem_toList_iff.1 he;simp only[JrE,Bool.or_eq_true,beq_iff_eq] at h3;have hl:=hall e he h3.1;rcases h3.2 with h4 | h4
  ·rw[←h4];exact hl
  ·have h5:=Array.all_eq_true_iff_forall_mem.1 h.1 e he;simp only[h3.1,Bool.not_true,Bool.false_or,decide_eq_true_eq] at h5;obtain⟨oe,hoe⟩ : ∃ oe,ops[e.on]? = some oe:=⟨_,Array.getElem?_eq_getElem (by omega)⟩;exact VV hc hd n e.on oe (by omega) hoe (fun e' he' hb'=>hd e.on oe hl hoe e' he' hb') j hj h4
def rem (ops:Array Oper) (listed:Array Bool):List Nat:=(List.range ops.size).filter fun i=>!listed.getD i true
theorem WF {listed:Array Bool} {i:Nat}:i∈rem ops listed↔i<ops.size∧listed.getD i true=false:=by
 unfold rem;simp[List.mem_filter]
theorem Jdp (listed:Array Bool):(rem ops listed).Pairwise (· < ·):=List.Pairwise.filter _ List.pairwise_lt_range
theorem JoO {listed:Array Bool} {i:Nat} (hs:listed.size=ops.size) (hi:i<ops.size):rem ops (listed.setIfInBounds i true)=(rem ops listed).filter (· != i):=by
 unfold rem;rw[List.filter_filter];refine List.filter_congr fun j _=>?_
 by_cases hij:i=j
 ·subst hij;simp[hs,hi]
 ·rw[getD_set_ne true hij];have:(j != i)=true:=by simp;omega
  simp[this]
variable {c:Cx P} {Q:Exit→Act→World→Prop}
theorem JlN (hT:UF c T) {ts:Nat→List (Key×Bool)} (hs:sok ops=true) (hp :∀i j,i<j→j<ops.size→((Region.before ops).getD j 0).testBit i=false→Pair P ops ts i j) :∀(fuel:Nat) (listed:Array Bool) (st st':St) (g:Gh) (a:Act) (w:World),
  listed.size=ops.size→Down ops listed→(rem ops listed).length≤fuel→Jmr P T G ops ts (rem ops listed) st st'→Sim c g st.m w→Jm c g st.m w st.sl a→Ka a.tmps.size ops=true →
  (∀a' w' g',Sim c g' st'.m w'→Jm c g' st'.m w' st'.sl a'→Jb c g st.m w g' st'.m w'→a'.defers=a.defers→a'.tmps.size=a.tmps.size→Q .normal a' w')→wpAny P .any ops Q fuel listed a w:=by
 have hcl:JcP ops (Region.before ops)=true:=by
  unfold sok at hs;simp only[JrE] at hs;exact hs.1
 intro fuel
 induction fuel with
 | zero =>
  intro listed st st' g a w hsz hd hlen hr hS hsl hdst hQ;have he:rem ops listed=[]:=List.length_eq_zero_iff.1 (by omega);rw[he] at hr;cases hr;refine⟨List.eq_nil_iff_forall_not_mem.2 fun i hi=>?_,hQ a w g hS hsl (.refl _ _ _ _) rfl rfl⟩;obtain⟨h1,o,h2,_⟩:=mem_ready.1 hi;have:i∈rem ops listed:=WF.2 ⟨(JrQ.1 h2).1,h1⟩;rw[he] at this;simp at this
 | succ fuel ih =>
  intro listed st st' g a w hsz hd hlen hr hS hsl hdst hQ;refine⟨fun hnil=>?_,fun i hi=>?_⟩
  ·cases he:rem ops listed with
   | nil =>
    rw[he] at hr;cases hr;exact hQ a w g hS hsl (.refl _ _ _ _) rfl rfl
   | cons i l =>
    exfalso;have hi:i∈rem ops listed:=by rw[he];simp
    obtain⟨hlt,hli⟩:=WF.1 hi;have hsorted:=Jdp (ops:=ops) listed;rw[he] at hsorted;have hmin:=(List.pairwise_cons.1 hsorted).1;obtain⟨o,ho⟩ : ∃ o,ops[i]? = some o:=⟨_,Array.getElem?_eq_getElem hlt⟩;have:i∈Region.ready .any ops listed:=mem_ready.2 ⟨hli,o,ho,fun e hem hb=>by
     have h:=JrR.1 hcl i (List.mem_range.2 hlt);simp only[ho,JrE] at h;have h5:=Array.all_eq_true_iff_forall_mem.1 h.1 e hem;simp only[hb,Bool.not_true,Bool.false_or,decide_eq_true_eq] at h5;have hne:e.on∉rem ops listed:=by
      rw[he];intro hm;rcases JrX.1 hm with e' | e'
      ·omega
      ·have:=hmin _ e';omega
     have hlt':e.on<listed.size:=by omega
     have : ¬listed.getD e.on true=false:=fun hf=>hne (WF.2 ⟨by omega,hf⟩);simp only[Array.getD_eq_getD_getElem?,Array.getElem?_eq_getElem hlt',Option.getD_some] at this ⊢;simpa using this⟩
    rw[hnil] at this;simp at this
  ·obtain⟨h1,o,h2,h3⟩:=mem_ready.1 hi;have hlt:i<ops.size:=(JrQ.1 h2).1;have hir:i∈rem ops listed:=WF.2 ⟨hlt,h1⟩;have hb:=Jpv (rem ops listed) st hr hir (Jdp listed) (fun j hj hji=>by
    obtain⟨hj1,hj2⟩:=WF.1 hj;refine hp j i hji hlt ?_;cases hbit:((Region.before ops).getD i 0).testBit j with
    | false=>rfl
    | true =>
     have:=VV hcl hd (i+1) i o (by omega) h2 h3 j hj1 hbit;have hjl:j<listed.size:=by omega
     simp only[Array.getD_eq_getD_getElem?,Array.getElem?_eq_getElem hjl,Option.getD_some] at this hj2;rw[this] at hj2;cases hj2)
   obtain⟨st1,g1,g2,g3⟩:=hb;refine Wi hT hS hsl hdst g1 fun a' w' g' hS' hsl' hC1 e1 e2=>?_;have hset:=JoO (ops:=ops) (listed:=listed) hsz hlt;refine ih (listed.setIfInBounds i true) st1 st' g' a' w' (by simp[hsz]) ?_ ?_ (by rw[hset];exact g3) hS' hsl' (by rw[e2];exact hdst)
    (fun a'' w'' g'' q1 q2 hC2 q3 q4=>hQ a'' w'' g'' q1 q2 (hC1.trans hC2) (q3.trans e1) (q4.trans e2))
   ·intro k ok hk hok e he hbd
    by_cases hik:i=k
    ·subst hik;rw[h2] at hok;cases hok;exact getD_set_true (h3 e he hbd)
    ·rw[getD_set_ne false hik] at hk;exact getD_set_true (hd k ok hk hok e he hbd)
   ·rw[hset];have:((rem ops listed).filter (· != i)).length<(rem ops listed).length:=by
     refine List.length_filter_lt_length_iff_exists.2 ⟨i,hir,by simp⟩
    omega
end
end Go.Tm
end
section
open Go.RowKit
namespace Go.Tm
def Jae (P:Program) (T:Tab) (G:JQ) (id:Nat) (ops:Array Oper) (draw:Bool) (st:St):Option St :=
 if draw then
  match XH P T G ops (List.range' 0 ops.size) st with
  | none=>none
  | some (st1,ts)=>if sok ops&&(un ops).all fun p=>apart (ts.getD p.1 []) (ts.getD p.2 []) then some st1 else none
 else UY P T G ops (List.range' 0 ops.size) st
def JfN (P:Program) (st:St):List ResultVar→MP (List X)
 | []=> .ret []
 | .tmp t::rs=>(JfN P st rs).bind fun xs=> .ret (st.sl t::xs)
 | .cell a t::rs=>(Jfh P t (st.sl a)).bind fun x=>(JfN P st rs).bind fun xs=> .ret (x::xs)
def codeOk (n:Nat):Code→Bool
 | .region _ ops _=>Ka n ops
 | .seq a b=>codeOk n a&&codeOk n b
 | .cond _ a b=>codeOk n a&&codeOk n b
 | .block _ a=>codeOk n a
 | .loop a=>codeOk n a
 | _=>true
section
variable {P:Program} {T:Tab} {G:JQ} {c:Cx P} {g:Gh} {m m':Mem} {w w':World} {a:Act} {sl:QI} {o:Oper} {x:X} {ops:Array Oper} {Q:Exit→Act→World→Prop}
theorem Jhf :∀(n a:Nat) (st st':St) (tl:List (List (Key×Bool))),XH P T G ops (List.range' a n) st=some (st',tl)→∀p,p<n→K1 ops (a+p)=true→tl.getD p []=[]
 | 0,a,st,st',tl,h,p,hp,_=>by omega
 | n+1,a,st,st',tl,h,p,hp,hq=>by
  rw[List.range'_succ] at h;simp only[XH] at h;split at h
  ·cases h
  ·rename_i o ho;split at h
   ·cases h
   ·rename_i q hq';rw[MP.runT_eq] at h;cases hr:q.run st.m with
    | none=>simp[hr] at h
    | some r =>
     obtain⟨x,m1⟩:=r;simp only[hr,JrG] at h;split at h
     ·cases h
     ·rename_i st2 tl2 h2;simp only[JrD,JrV] at h;obtain⟨e1,e2⟩:=h;subst e1;subst e2;cases p with
      | zero =>
       have:=(Jai ho hq' hr).2;rw[Jhb (by simpa using hq)] at this;simpa using this.symm
      | succ p =>
       have:=Jhf n (a+1) _ _ tl2 h2 p (by omega) (by rw[show a+1+p=a+(p+1) by omega];exact hq);simpa using this
theorem Sim.drawn (hS:Sim c g m w) (n:Nat):Sim c g m { w with drawn:=n } :=
 hS.below (w':={ w with drawn:=n }) ⟨rfl,rfl,rfl,Nat.le_refl _,fun _ _=>rfl⟩
theorem Jm.drawn (hS:Sim c g m w) (hsl:Jm c g m w sl a) (n:Nat):Jm c g m { w with drawn:=n } sl a :=
 fun t=>Qv (Jb.below hS (w':={ w with drawn:=n }) ⟨rfl,rfl,rfl,Nat.le_refl _,fun _ _=>rfl⟩) _ _ (hsl t)
theorem Jfr (hT:UF c T) (hm:P.follows .mixedOrders=true) {id:Nat} {draw:Bool} {st st':St} {g0:Gh} {m0:Mem} {w0:World} (hC0:Jb c g0 m0 w0 g st.m w) (hS:Sim c g st.m w) (hsl:Jm c g st.m w st.sl a) (hd:Ka a.tmps.size ops=true) (h:Jae P T G id ops draw st=some st')
  (hQ :∀a' w' g',Sim c g' st'.m w'→Jm c g' st'.m w' st'.sl a'→Jb c g0 m0 w0 g' st'.m w'→a'.defers=a.defers→a'.tmps.size=a.tmps.size→Q .normal a' w'):(Code.region id ops draw).wp P Q a w:=by
 unfold Jae at h;cases draw with
 | false =>
  simp only[JrU,if_false] at h;refine wp_region ?_;rw[List.range_eq_range'];exact Jbu hT _ _ _ _ _ _ hS hsl hd h fun a' w' g' h1 h2 hC1 h3 h4=>hQ a' w' g' h1 h2 (hC0.trans hC1) h3 h4
 | true =>
  simp only[if_true] at h;split at h
  ·cases h
  ·rename_i st1 tl htl;split at h
   ·rename_i hcond;simp only[JrD] at h;subst h;simp only[JrE] at hcond;obtain⟨hsok,hun⟩:=hcond;refine wp_region_any hm ?_;have hr:=Jj4 ops.size 0 st st1 tl (fun i=>tl.getD i []) htl (fun p _=>by simp);have hq:=Jhf ops.size 0 st st1 tl htl;have hrem:rem ops (Array.replicate ops.size false)=List.range' 0 ops.size:=by
     unfold rem;rw[←List.range_eq_range'];exact List.filter_eq_self.2 fun i hi=>by simp[List.mem_range.1 hi]
    refine JlN (T:=T) (G:=G) (ts:=fun i=>tl.getD i []) hT hsok (fun i j hij hj hb=>?_) ops.size _ st st1 g a _ (by simp) (fun i o hi=>?_) (by rw[hrem];simp) (by rw[hrem];exact hr) (hS.drawn _) (Jm.drawn hS hsl _) hd (fun a' w' g' h1 h2 hC1 h3 h4=>hQ a' w' g' h1 h2 ((hC0.trans (Jb.below hS (w':={ w with drawn:=w.drawn+1 }) ⟨rfl,rfl,rfl,Nat.le_refl _,fun _ _=>rfl⟩)).trans hC1) h3 h4)
    ·have h1:KR ops i j=true:=by
      unfold sok at hsok;simp only[JrE] at hsok;have:=JrR.1 (JrR.1 hsok.2 j (List.mem_range.2 hj)) i (List.mem_range.2 hij);simpa only[hb,Bool.false_or] using this
     refine⟨h1,?_⟩
     by_cases hqi:K1 ops i=true
     ·have:=hq i (by omega) (by simpa using hqi);simp only[this];rfl
     ·by_cases hqj:K1 ops j=true
      ·have:=hq j hj (by simpa using hqj);simp only[this];exact JrR.2 fun _ _=>rfl
      ·refine JrR.1 hun (i,j) ?_;unfold un;refine List.mem_flatMap.2 ⟨j,List.mem_range.2 hj,List.mem_filterMap.2 ⟨i,List.mem_range.2 hij,?_⟩⟩;simp only[Bool.not_eq_true] at hqi hqj;simp only[hb,hqi,hqj,Bool.or_false,JrU,if_false]
    ·exfalso;have:(Array.replicate ops.size false).getD i false=false:=by
      simp only[Array.getD_eq_getD_getElem?,Array.getElem?_replicate];split <;> rfl
     rw[this] at hi;cases hi
   ·cases h
theorem Ji2 {t:TypeId} {v u:Value} (h:(Instr.loadAt t v).run P w = .ok u w):(do loadVar t (←asAddr v)).run P w = .ok u w:=by
 unfold Instr.loadAt Instr.sureAddr at h;split at h
 ·simpa[asAddr] using h
 ·simp[stuck] at h
def JdT (vs:List Value):Value:=match vs with
 | [v]=>v
 | _=> .tuple vs.toArray
def Jnd (tmps:Array Value):ResultVar→Sem Value
 | .tmp t=>pure (tmps.getD t undef)
 | .cell a t=>do loadVar t (←asAddr (tmps.getD a undef))
theorem K8 {st:St} (hS:Sim c g st.m w) (hsl:Jm c g st.m w st.sl a) :∀(rs:List ResultVar) (xs:List X) (m':Mem),(JfN P st rs).run st.m=some (xs,m') →
  m'=st.m∧∃ vs:List Value,(rs.mapM (Jnd a.tmps)).run P w = .ok vs w∧VXs c g st.m w xs vs
 | [],xs,m',h=>by
  cases rS1 h;exact⟨rfl,[],by simp,rfl⟩
 | .tmp t::rs,xs,m',h=>by
  obtain⟨ys,m1,h1,h2⟩:=MP.bind_some h;obtain⟨rfl,vs,h3,h4⟩:=K8 hS hsl rs ys m1 h1;cases rS1 h2;exact⟨rfl,_::vs,by simp[List.mapM_cons,h3,Jnd],_,vs,rfl,hsl t,h4⟩
 | .cell ad t::rs,xs,m',h=>by
  obtain⟨x,m0,h0,h⟩:=MP.bind_some h;obtain⟨rfl,u,hu,hx⟩:=JbA hS (hsl ad) h0;obtain⟨ys,m1,h1,h2⟩:=MP.bind_some h;obtain⟨rfl,vs,h3,h4⟩:=K8 hS hsl rs ys m1 h1;cases rS1 h2;have:=Ji2 hu;refine⟨rfl,u::vs,?_,u,vs,rfl,hx,h4⟩;rw[List.mapM_cons];rw[Sem.run_bind,show (Jnd a.tmps (.cell ad t)).run P w = .ok u w from this];simp only[Sem.run_bind,Result.andThen_ok,h3,Sem.run_pure]
end
section
variable {P:Program} {T:Tab} {G:JQ}
theorem Jhl {w:World} :∀(ds:List D) (vs:List Value) (fp:List Nat) (t:Nat) (d:D),Kn w ds vs fp→ds[t]? = some d→∃ v f,vs[t]? = some v∧Rd w d v f∧∀b∈f,b∈fp
 | [],_,_,t,d,_,h=>by simp at h
 | e::ds,vs,fp,t,d,⟨v,vs',f1,f2,ev,hf,h1,h2⟩,h=>by
  subst ev;subst hf;cases t with
  | zero=>simp at h;subst h;exact⟨v,f1,by simp,h1,fun b hb=>by simp[hb]⟩
  | succ t =>
   obtain⟨v',f,a1,a2,a3⟩:=Jhl ds vs' f2 t d h2 (by simpa using h);exact⟨v',f,by simpa using a1,a2,fun b hb=>by simp[a3 b hb]⟩
theorem JcG {w:World} :∀(ds:List D) (vs:List Value) (fp:List Nat),Kn w ds vs fp→vs.length=ds.length
 | [],vs,_,h=>by rw[h.1];rfl
 | e::ds,vs,fp,⟨v,vs',f1,f2,ev,hf,h1,h2⟩=>by subst ev;simp[JcG ds vs' f2 h2]
theorem JiY {k n:Nat} (h:k≤n) {ops:Array Oper} (hd:Ka k ops=true):Ka n ops=true:=by
 unfold Ka at *;rw[Array.all_eq_true_iff_forall_mem] at *;intro o ho;have:=hd o ho;cases hod:o.dst with
 | none=>rfl
 | some d =>
  simp only[hod,decide_eq_true_eq] at this ⊢;exact Nat.lt_of_lt_of_le this h
theorem JbB {k n:Nat} (h:k≤n) :∀C:Code,codeOk k C=true→codeOk n C=true:=by
 intro C
 induction C with
 | region id ops draw=>intro hc;exact JiY h hc
 | seq x y ihx ihy=>intro hc;simp only[codeOk,JrE] at hc ⊢;exact⟨ihx hc.1,ihy hc.2⟩
 | cond b x y ihx ihy=>intro hc;simp only[codeOk,JrE] at hc ⊢;exact⟨ihx hc.1,ihy hc.2⟩
 | block id x ih=>intro hc;exact ih hc
 | loop x ih=>intro hc;exact ih hc
 | _=>intro _;rfl
theorem Jmx {c:Cx P} {g:Gh} {m:Mem} {w:World} :∀(xs:List X) (vs:List Value) (t:Nat) (x:X),VXs c g m w xs vs→xs[t]? = some x→∃ v,vs[t]? = some v∧VX c g m w x v
 | [],_,t,x,_,h=>by simp at h
 | y::xs,vs,t,x,⟨v,vs',e,h1,h2⟩,h=>by
  subst e;cases t with
  | zero=>simp at h;subst h;exact⟨v,by simp,h1⟩
  | succ t =>
   obtain⟨v',a1,a2⟩:=Jmx xs vs' t x h2 (by simpa using h);exact⟨v',by simpa using a1,a2⟩
end
end Go.Tm
end
section
namespace Go.Tm
inductive V where
 | i (n:Int) | b (t:Bool) | d (x:D) | l (es:List D)
 deriving Inhabited
def V.int:V→Int | .i n=>n | _=>0
def V.bool:V→Bool | .b t=>t | _=>false
def V.dat:V→D | .d x=>x | _=> .v .nilFunc
def V.lst:V→List D | .l es=>es | _=>[]
inductive BO where | add | sub | mul | quo | rem | and | or | xor | andNot
 deriving DecidableEq,Repr
inductive CO where | lt | le | eq
 deriving DecidableEq,Repr
inductive E where
 | v (n:Nat)
 | da (n:Nat)
 | z (n:Int) | tt | ff
 | bin (o:BO) (k:IntKind) (x y:E)
 | cmp (o:CO) (x y:E)
 | not (x:E)
 | beq (x y:E)
 | len (l:E)
 | cv (k:IntKind) (x:E)
 | vi (k:IntKind) (x:E) | vb (x:E) | vc (x:Value)
 | s (l:E) | g (l:E) | q (l:E) | fn (f:FuncId) (l:E)
 | nil | cons (x l:E) | app (x y:E) | rep (n x:E) | set (l i x:E) | take (l n:E)
def Jke (o:BinOp) (k:IntKind) (x y:Int):Int:=match o with
 | .and=>k.wrap (BitVec.ofInt k.bits x &&& BitVec.ofInt k.bits y).toNat
 | .or=>k.wrap (BitVec.ofInt k.bits x ||| BitVec.ofInt k.bits y).toNat
 | .xor=>k.wrap (BitVec.ofInt k.bits x ^^^ BitVec.ofInt k.bits y).toNat
 | _=>k.wrap (BitVec.ofInt k.bits x &&& ~~~BitVec.ofInt k.bits y).toNat
def BO.sem (o:BO) (k:IntKind) (x y:Int):Int:=match o with
 | .add=>k.wrap (x+y) | .sub=>k.wrap (x-y) | .mul=>k.wrap (x*y)
 | .quo=>k.wrap (x.tdiv y) | .rem=>x.tmod y
 | .and=>Jke .and k x y | .or=>Jke .or k x y | .xor=>Jke .xor k x y | .andNot=>Jke .andNot k x y
def CO.sem (o:CO) (x y:Int):Bool:=match o with
 | .lt=>decide (x<y) | .le=>decide (x≤y) | .eq=>decide (x=y)
abbrev Env:=Nat→V
def QY (x:D):D:=(if x.one then x else .v .nilFunc).norm
def den (ρ:Env):E→V
 | .v n=>ρ n
 | .da n=> .d (QY (ρ n).dat)
 | .z n=> .i n
 | .tt=> .b true
 | .ff=> .b false
 | .bin o k x y=> .i (o.sem k (den ρ x).int (den ρ y).int)
 | .cmp o x y=> .b (o.sem (den ρ x).int (den ρ y).int)
 | .not x=> .b !(den ρ x).bool
 | .beq x y=> .b ((den ρ x).bool == (den ρ y).bool)
 | .len l=> .i (den ρ l).lst.length
 | .cv k x=> .i (k.wrap (den ρ x).int)
 | .vi k x=> .d (.v (.int k (den ρ x).int))
 | .vb x=> .d (.v (.bool (den ρ x).bool))
 | .vc x=> .d (.v x)
 | .s l=> .d (.s (den ρ l).lst)
 | .g l=> .d (.g (den ρ l).lst)
 | .q l=> .d (.q (den ρ l).lst)
 | .fn f l=> .d (.f f (den ρ l).lst)
 | .nil=> .l []
 | .cons x l=> .l ((den ρ x).dat::(den ρ l).lst)
 | .app x y=> .l ((den ρ x).lst++(den ρ y).lst)
 | .rep n x=> .l (List.replicate (den ρ n).int.toNat (den ρ x).dat)
 | .set l i x=> .l ((den ρ l).lst.set (den ρ i).int.toNat (den ρ x).dat)
 | .take l n=> .l ((den ρ l).lst.take (den ρ n).int.toNat)
def dat (ρ:Env) (e:E):D:=(den ρ e).dat
def lst (ρ:Env) (e:E):List D:=(den ρ e).lst
def int (ρ:Env) (e:E):Int:=(den ρ e).int
def bol (ρ:Env) (e:E):Bool:=(den ρ e).bool
def Jjs:Value→Value→Bool
 | .string a,.string b=>a.data.toList == b.data.toList
 | .slice none 0 0,.slice none 0 0=>true
 | .nilFunc,.nilFunc=>true
 | _,_=>false
def E.same:E→E→Bool
 | .v n,.v m=>n == m
 | .da n,.da m=>n == m
 | .z n,.z m=>n == m
 | .tt,.tt=>true
 | .ff,.ff=>true
 | .bin o k x y,.bin o' k' x' y'=>o == o'&&k == k'&&x.same x'&&y.same y'
 | .cmp o x y,.cmp o' x' y'=>o == o'&&x.same x'&&y.same y'
 | .not x,.not y=>x.same y
 | .beq x y,.beq x' y'=>x.same x'&&y.same y'
 | .len x,.len y=>x.same y
 | .cv k x,.cv k' y=>k == k'&&x.same y
 | .vi k x,.vi k' y=>k == k'&&x.same y
 | .vb x,.vb y=>x.same y
 | .vc x,.vc y=>Jjs x y
 | .s x,.s y=>x.same y
 | .g x,.g y=>x.same y
 | .q x,.q y=>x.same y
 | .fn f x,.fn f' y=>f == f'&&x.same y
 | .nil,.nil=>true
 | .cons x l,.cons y m=>x.same y&&l.same m
 | .app x l,.app y m=>x.same y&&l.same m
 | .rep x l,.rep y m=>x.same y&&l.same m
 | .set x l a,.set y m b=>x.same y&&l.same m&&a.same b
 | .take x l,.take y m=>x.same y&&l.same m
 | _,_=>false
def E.base:E→E
 | .set l _ _=>l.base
 | l=>l
def E.lsame (x y:E):Bool:=x.base.same y.base
def E.under (c:Nat):E→Bool
 | .v n | .da n=>Nat.blt n c
 | .z _ | .tt | .ff | .vc _ | .nil=>true
 | .bin _ _ x y | .cmp _ x y | .beq x y | .cons x y | .app x y | .rep x y | .take x y=>x.under c&&y.under c
 | .not x | .len x | .cv _ x | .vi _ x | .vb x | .s x | .g x | .q x | .fn _ x=>x.under c
 | .set x y w=>x.under c&&y.under c&&w.under c
def E.isOne:E→Bool
 | .da _ | .vi _ _ | .vb _ | .s _ | .q _ | .fn _ _=>true
 | .vc x=>x.oneCell
 | _=>false
def JO:List E→E
 | []=> .nil
 | x::l=> .cons x (JO l)
def E.list:E→Option (List E)
 | .nil=>some []
 | .cons x l=>l.list.map (x :: ·)
 | _=>none
def Kh:Value→E
 | .int k n=> .vi k (.z n)
 | .bool true=> .vb .tt
 | .bool false=> .vb .ff
 | v=> .vc v
def E.norm:E→E
 | .vc (.slice none 0 0)=> .s .nil
 | e=>e
inductive Sh1 where | i (k:IntKind) | b | d | s
 deriving DecidableEq,Repr
inductive Sh where | one (a:Sh1) | g (as:List Sh1) | q (as:List Sh1)
 deriving Repr
def Sh1.expr:Sh1→Nat→E
 | .i k,n=> .vi k (.v n)
 | .b,n=> .vb (.v n)
 | .d,n=> .da n
 | .s,n=> .s (.v n)
def Ju:List Sh1→Nat→List E
 | [],_=>[]
 | a::as,n=>a.expr n::Ju as (n+1)
def Sh.expr:Sh→Nat→E
 | .one a,n=>a.expr n
 | .g as,n=> .g (JO (Ju as n))
 | .q as,n=> .q (JO (Ju as n))
def Sh.size:Sh→Nat
 | .one _=>1
 | .g as | .q as=>as.length
def sh1 (P:Program) (t:TypeId):Sh1:=match P.underlying t with
 | some (.int k)=> .i k
 | some .bool=> .b
 | some (.slice _)=> .s
 | _=> .d
def Jcl (P:Program):Nat→TypeId→Option (List Sh1)
 | 0,_=>none
 | n+1,t=>match P.underlying t with
  | some (.struct fs)=>(fs.toList.mapM fun f=>Jcl P n f.type).map List.flatten
  | some (.array _ _)=>none
  | some _=>some [sh1 P t]
  | none=>none
def Jgh (P:Program) (t:TypeId):Option Sh:=match Ys P t with
 | some true=>(Jcl P 8 t).map .g
 | some false=>some (.one (sh1 P t))
 | none=>none
inductive Jpe where
 | cat | seq | str
def Jqg:D→Option UInt8
 | .v (.int .u8 k)=>if 0≤k∧k<256 then some (UInt8.ofNat k.toNat) else none
 | _=>none
def ZC:Jpe→List D→Option D
 | .cat,[.v (.string a),.v (.string b)]=>if a.size+b.size≤2 ^ 62 then some (.v (.string (a++b))) else none
 | .seq,[.v (.string a),.v (.string b)]=>some (.v (.bool (a.toList == b.toList)))
 | .str,[.s es]=>(es.mapM Jqg).map fun bs=> .v (.string ⟨bs.toArray⟩)
 | _,_=>none
inductive I where
 | chk (b:E)
 | head (sz:Nat) (l:E)
 | fl (l:E)
 | get (e:E) (sh:Sh) (n:Nat)
 | idx (l i:E) (sh:Sh) (n:Nat)
 | call (f:FuncId) (as:List E) (rs:List Sh1) (n:Nat)
 | callv (e:E) (as:List E) (ar:List (Option Nat)) (rs:List Sh1) (n:Nat)
 | prim (p:Jpe) (as:List E) (r:Sh1) (n:Nat)
inductive R where
 | i (x:I) (r:R)
 | ite (b:E) (x y:R)
 | nilq (c:Nat) (l:E) (x y:R)
 | loop (c:Nat) (init:List E) (body:R)
 | next (vs:List E)
 | done (vs:List E)
 | esc (r:R)
structure Tb where
 call:FuncId→List D→Option (List D)
 ar:FuncId→Option (List (Option Nat))
def I.holds (B:Tb) (ρ:Env):I→Prop
 | .chk b=>bol ρ b=true
 | .head sz l=>XZ sz (lst ρ l)=true
 | .fl l=>Jy (lst ρ l)=true
 | .get e sh n=>dat ρ e=dat ρ (sh.expr n)
 | .idx l i sh n=>0≤int ρ i∧(lst ρ l)[(int ρ i).toNat]? = some (dat ρ (sh.expr n))
 | .call f as rs n=>B.call f (as.map (dat ρ))=some ((Ju rs n).map (dat ρ))
 | .prim p as r n=>ZC p (as.map (dat ρ))=some (dat ρ (r.expr n))
 | .callv e as ar rs n=>∃ fn caps,dat ρ e = .f fn caps∧B.ar fn=some (ar++caps.map fun _=>none)∧B.call fn (as.map (dat ρ)++caps.map D.norm)=some ((Ju rs n).map (dat ρ))
inductive Oc where
 | next (vs:List V)
 | done (ds:List D)
 | esc (o:Oc)
def Jp (c:Nat) (ρ ρ':Env):Prop:=∀j,j<c→ρ' j=ρ j
def JbC (c:Nat) (vs:List V) (ρ:Env):Prop:=∀j v,vs[j]? = some v→ρ (c+j)=v
def Jcc (F:List V→Oc→Prop):Nat→List V→Oc→Prop
 | 0,_,_=>False
 | n+1,vs,o=>(∃ vs',F vs (.next vs')∧Jcc F n vs' o)∨F vs (.esc o)
def Run (B:Tb) (N:Nat):R→Env→Oc→Prop
 | .i x r,ρ,o=>x.holds B ρ∧Run B N r ρ o
 | .ite b x y,ρ,o=>if bol ρ b then Run B N x ρ o else Run B N y ρ o
 | .nilq c l x y,ρ,o=>(∃ ρ',Jp c ρ ρ'∧Run B N y ρ' o)∧(lst ρ l=[]→∃ ρ',Jp c ρ ρ'∧Run B N x ρ' o)
 | .loop c init body,ρ,o=>Jcc (fun vs o1=>∃ ρ',Jp c ρ ρ'∧JbC c vs ρ'∧Run B N body ρ' o1) N (init.map (den ρ)) o
 | .next vs,ρ,o=>o = .next (vs.map (den ρ))
 | .done vs,ρ,o=>o = .done (vs.map (dat ρ))
 | .esc r,ρ,o=>∃ o',o = .esc o'∧Run B N r ρ o'
inductive SV where
 | d (e:E)
 | g (cs:List SV)
 | o (k:Key) (l:E)
 | p (k:Key) (off:Nat)
 | e (k:Key) (l i:E) (off:Nat)
 | f (fn:FuncId) (cs:List SV)
 | t (cs:List SV)
 | u
inductive Je where
 | box (cs:List SV)
 | arr (ty:TypeId) (sz:Nat) (l:E) (dp rw:Bool)
 | dead
abbrev XE:=List (Key×Je)
abbrev SSl:=List (Tmp×SV)
mutual
def γX (ρ:Env):SV→X
 | .d e=> .d (dat ρ e)
 | .g cs=> .g (γXs ρ cs)
 | .o k l=> .o k (lst ρ l).length
 | .p k off=> .p k off
 | .e k l i off=> .e k (lst ρ l).length (int ρ i).toNat off
 | .f fn cs=> .f fn (γXs ρ cs)
 | .t cs=> .t (γXs ρ cs)
 | .u=> .u
def γXs (ρ:Env):List SV→List X
 | []=>[]
 | c::cs=>γX ρ c::γXs ρ cs
end
def γO (ρ:Env):Je→Obj
 | .box cs=> .box (γXs ρ cs)
 | .arr ty sz l dp rw=> .arr ty sz (lst ρ l) dp rw
 | .dead=> .dead
def γm (ρ:Env) (m:XE):Mem:=fun k=>(m.lookup k).map (γO ρ)
def γs (ρ:Env) (sl:SSl):QI:=fun t=>match sl.lookup t with
 | some v=>γX ρ v
 | none=> .u
inductive SMP (α:Type) where
 | ret (a:α)
 | fail
 | get (k:Key) (c:Je→SMP α)
 | put (k:Key) (o:Je) (c:SMP α)
 | new (k:Key) (o:Je) (c:SMP α)
 | ask (i:Nat→I) (m:Nat) (c:Nat→SMP α)
def SMP.bind {α β:Type}:SMP α→(α→SMP β)→SMP β
 | .ret a,h=>h a
 | .fail,_=> .fail
 | .get k c,h=> .get k fun o=>(c o).bind h
 | .put k o c,h=> .put k o (c.bind h)
 | .new k o c,h=> .new k o (c.bind h)
 | .ask i m c,h=> .ask i m fun n=>(c n).bind h
structure JoY (α:Type) where
 val:α
 m:XE
 n:Nat
 is:List I
 tr:List (Key×Bool)
def SMP.run {α:Type}:SMP α→XE→Nat→Option (JoY α)
 | .ret a,m,n=>some ⟨a,m,n,[],[]⟩
 | .fail,_,_=>none
 | .get k c,m,n=>match m.lookup k with
  | some o=>match (c o).run m n with
   | some r=>some { r with tr:=(k,false)::r.tr }
   | none=>none
  | none=>none
 | .put k o c,m,n=>match m.lookup k with
  | some _=>match c.run ((k,o)::m) n with
   | some r=>some { r with tr:=(k,true)::r.tr }
   | none=>none
  | none=>none
 | .new k o c,m,n=>match m.lookup k with
  | some _=>none
  | none=>match c.run ((k,o)::m) n with
   | some r=>some { r with tr:=(k,true)::r.tr }
   | none=>none
 | .ask i j c,m,n=>match (c n).run m (n+j) with
  | some r=>some { r with is:=i n::r.is }
  | none=>none
def SMP.Ok {α β:Type} (B:Tb) (ρ:Env) (f:α→β):SMP α→MP β→Prop
 | .ret a,q=>q = .ret (f a)
 | .fail,_=>True
 | .get k c,q=>∃ c',q = .get k c'∧∀o,SMP.Ok B ρ f (c o) (c' (γO ρ o))
 | .put k o c,q=>∃ c',q = .put k (γO ρ o) c'∧SMP.Ok B ρ f c c'
 | .new k o c,q=>∃ c',q = .new k (γO ρ o) c'∧SMP.Ok B ρ f c c'
 | .ask i _ c,q=>∀n,(i n).holds B ρ→SMP.Ok B ρ f (c n) q
theorem QU (ρ:Env) (m:XE) (k:Key) (o:Je):γm ρ ((k,o)::m)=upd (γm ρ m) k (some (γO ρ o)):=by
 funext j
 unfold γm upd
 by_cases h:j=k
 ·subst h;simp
 ·have hb:(j == k)=false:=by simpa using h
  simp[List.lookup_cons,hb,h]
theorem Kc (ρ:Env) (sl:SSl) (t:Tmp) (v:SV):γs ρ ((t,v)::sl)=upd (γs ρ sl) t (γX ρ v):=by
 funext j
 unfold γs upd
 by_cases h:j=t
 ·subst h;simp
 ·have hb:(j == t)=false:=by simpa using h
  simp[List.lookup_cons,hb,h]
theorem JX {ρ:Env} {m:XE} {k:Key} {o:Je} (h:m.lookup k=some o):γm ρ m k=some (γO ρ o):=by unfold γm;rw[h];rfl
theorem JkB {ρ:Env} {m:XE} {k:Key} (h:m.lookup k=none):γm ρ m k=none:=by unfold γm;rw[h];rfl
theorem SMP.run_ok {α β:Type} {B:Tb} {ρ:Env} {f:α→β} :∀(p:SMP α) (q:MP β) (m:XE) (n:Nat) (r:JoY α),p.Ok B ρ f q→p.run m n=some r→(∀i∈r.is,i.holds B ρ) →
  q.runT (γm ρ m)=some (f r.val,γm ρ r.m,r.tr)
 | .ret a,q,m,n,r,ho,h,hi=>by
  simp only[SMP.run,JrD] at h;subst h;rw[show q=_ from ho];rfl
 | .fail,_,_,_,_,_,h,_=>by cases h
 | .get k c,q,m,n,r,⟨c',hq,ho⟩,h,hi=>by
  subst hq;simp only[SMP.run] at h;split at h
  ·rename_i o hk;split at h
   ·rename_i r1 h1;simp only[JrD] at h;subst h;have:=SMP.run_ok (c o) _ m n r1 (ho o) h1 hi;simp only[MP.runT,JX hk,this,JrG]
   ·cases h
  ·cases h
 | .put k o c,q,m,n,r,⟨c',hq,ho⟩,h,hi=>by
  subst hq;simp only[SMP.run] at h;split at h
  ·rename_i o0 hk;split at h
   ·rename_i r1 h1;simp only[JrD] at h;subst h;have:=SMP.run_ok c _ _ n r1 ho h1 hi;rw[QU] at this;simp only[MP.runT,JX hk,this,JrG]
   ·cases h
  ·cases h
 | .new k o c,q,m,n,r,⟨c',hq,ho⟩,h,hi=>by
  subst hq;simp only[SMP.run] at h;split at h
  ·cases h
  ·rename_i hk;split at h
   ·rename_i r1 h1;simp only[JrD] at h;subst h;have:=SMP.run_ok c _ _ n r1 ho h1 hi;rw[QU] at this;simp only[MP.runT,JkB hk,this,JrG]
   ·cases h
 | .ask i j c,q,m,n,r,ho,h,hi=>by
  simp only[SMP.run] at h;split at h
  ·rename_i r1 h1;simp only[JrD] at h;subst h;exact SMP.run_ok (c n) q m _ r1 (ho n (hi _ (by simp))) h1 (fun x hx=>hi x (by simp[hx]))
  ·cases h
theorem SMP.bind_ok {α β α' β':Type} {B:Tb} {ρ:Env} {f:α→β} {f':α'→β'} {h:α→SMP α'} {h':β→MP β'} (hh :∀a,(h a).Ok B ρ f' (h' (f a))) :∀(p:SMP α) (q:MP β),p.Ok B ρ f q→(p.bind h).Ok B ρ f' (q.bind h')
 | .ret a,q,ho=>by rw[show q=_ from ho];exact hh a
 | .fail,_,_=>trivial
 | .get k c,q,⟨c',hq,ho⟩=>by subst hq;exact⟨_,rfl,fun o=>SMP.bind_ok hh (c o) _ (ho o)⟩
 | .put k o c,q,⟨c',hq,ho⟩=>by subst hq;exact⟨_,rfl,SMP.bind_ok hh c _ ho⟩
 | .new k o c,q,⟨c',hq,ho⟩=>by subst hq;exact⟨_,rfl,SMP.bind_ok hh c _ ho⟩
 | .ask i j c,q,ho=>fun n hn=>SMP.bind_ok hh (c n) q (ho n hn)
end Go.Tm
end
section
namespace Go.Tm
theorem JlY {x y:Value} (h:Jjs x y=true):x=y:=by
 unfold Jjs at h;split at h
 ·rename_i a b;have h:a.data.toList=b.data.toList:=by simpa using h
  obtain⟨⟨a⟩⟩:=a;obtain⟨⟨b⟩⟩:=b;have h:a=b:=h;rw[h]
 ·rfl
 ·rfl
 ·cases h
theorem VH :∀(x y:E),x.same y=true→∀ρ,den ρ x=den ρ y:=by
 intro x
 induction x <;> intro y h ρ <;> cases y <;> (try (simp only[E.same] at h;contradiction)) <;> (try (simp only[E.same,JrE,beq_iff_eq] at h)) <;> (try rfl)
 case v.v=>subst h;rfl
 case da.da=>subst h;rfl
 case z.z=>subst h;rfl
 case bin.bin ih1 ih2 _ _ _ _=>obtain⟨⟨⟨rfl,rfl⟩,h1⟩,h2⟩:=h;simp only[den,ih1 _ h1,ih2 _ h2]
 case cmp.cmp ih1 ih2 _ _ _=>obtain⟨⟨rfl,h1⟩,h2⟩:=h;simp only[den,ih1 _ h1,ih2 _ h2]
 case not.not ih _=>simp only[den,ih _ h]
 case beq.beq ih1 ih2 _ _=>simp only[den,ih1 _ h.1,ih2 _ h.2]
 case len.len ih _=>simp only[den,ih _ h]
 case cv.cv ih _ _=>obtain⟨rfl,h1⟩:=h;simp only[den,ih _ h1]
 case vi.vi ih _ _=>obtain⟨rfl,h1⟩:=h;simp only[den,ih _ h1]
 case vb.vb ih _=>simp only[den,ih _ h]
 case vc.vc=>rw[JlY h]
 case s.s ih _=>simp only[den,ih _ h]
 case g.g ih _=>simp only[den,ih _ h]
 case q.q ih _=>simp only[den,ih _ h]
 case fn.fn ih _ _=>obtain⟨rfl,h1⟩:=h;simp only[den,ih _ h1]
 case cons.cons ih1 ih2 _ _=>simp only[den,ih1 _ h.1,ih2 _ h.2]
 case app.app ih1 ih2 _ _=>simp only[den,ih1 _ h.1,ih2 _ h.2]
 case rep.rep ih1 ih2 _ _=>simp only[den,ih1 _ h.1,ih2 _ h.2]
 case set.set ih1 ih2 ih3 _ _ _=>simp only[den,ih1 _ h.1.1,ih2 _ h.1.2,ih3 _ h.2]
 case take.take ih1 ih2 _ _=>simp only[den,ih1 _ h.1,ih2 _ h.2]
theorem XR {c:Nat} {ρ ρ':Env} (h:Jp c ρ ρ') :∀(e:E),e.under c=true→den ρ' e=den ρ e:=by
 intro e
 induction e <;> intro hu <;> simp[E.under] at hu <;> simp only[den]
 case v=>exact h _ hu
 case da=>rw[h _ hu]
 case bin ih1 ih2=>rw[ih1 hu.1,ih2 hu.2]
 case cmp ih1 ih2=>rw[ih1 hu.1,ih2 hu.2]
 case not ih=>rw[ih hu]
 case beq ih1 ih2=>rw[ih1 hu.1,ih2 hu.2]
 case len ih=>rw[ih hu]
 case cv ih=>rw[ih hu]
 case vi ih=>rw[ih hu]
 case vb ih=>rw[ih hu]
 case s ih=>rw[ih hu]
 case g ih=>rw[ih hu]
 case q ih=>rw[ih hu]
 case fn ih=>rw[ih hu]
 case cons ih1 ih2=>rw[ih1 hu.1,ih2 hu.2]
 case app ih1 ih2=>rw[ih1 hu.1,ih2 hu.2]
 case rep ih1 ih2=>rw[ih1 hu.1,ih2 hu.2]
 case set ih1 ih2 ih3=>rw[ih1 hu.1.1,ih2 hu.1.2,ih3 hu.2]
 case take ih1 ih2=>rw[ih1 hu.1,ih2 hu.2]
theorem JnB {x:D} (h:x.one=true):x.norm.one=true:=by
 unfold D.norm;split
 ·rfl
 ·exact h
theorem JjH (x:D):x.norm = .s []∨x.norm=x:=by
 unfold D.norm;split
 ·exact .inl rfl
 ·exact .inr rfl
theorem Jmf (x:D):x.norm.norm=x.norm:=by
 rcases JjH x with h | h
 ·rw[h];rfl
 ·rw[h,h]
theorem JlA (x:D):(QY x).one=true:=by
 unfold QY;apply JnB;split
 ·assumption
 ·rfl
theorem JL {e:E} (h:e.isOne=true) (ρ:Env):(dat ρ e).one=true:=by
 cases e <;> simp[E.isOne] at h <;> unfold dat <;> simp only[den,V.dat] <;> first
  | exact JlA _
  | rfl
  | exact h
theorem JlD {x:D} (h:x.one=true):(X.d x).cells=some [.d x]:=by
 cases x with
 | g=>cases h
 | t=>cases h
 | _=>rfl
theorem Jcf {x:D} (h:x.one=true):x.cells=[x]:=by
 cases x with
 | g=>cases h
 | _=>rfl
theorem YU {e:E} (h:e.isOne=true) (ρ:Env):dat ρ e.norm=(dat ρ e).norm:=by
 cases e <;> simp[E.isOne] at h <;> unfold dat <;> simp only[E.norm,den,V.dat]
 case da n=>unfold QY;rw[Jmf]
 case vc x =>
  cases x with
  | slice a l c =>
   cases a with
   | none =>
    cases l with
    | zero=>cases c <;> rfl
    | succ=>rfl
   | some=>rfl
  | _=>rfl
 all_goals rfl
theorem JaX (ρ:Env) (v:Value):dat ρ (Kh v) = .v v:=by
 unfold Kh;split <;> rfl
theorem Jiz {v:Value} (h:v.oneCell=true):(Kh v).isOne=true:=by
 unfold Kh;split <;> first | rfl | exact h
theorem Jv (ρ:Env) :∀l:List E,lst ρ (JO l)=l.map (dat ρ)
 | []=>rfl
 | x::l=>by
  show dat ρ x::lst ρ (JO l)=_;rw[Jv ρ l,JrM]
theorem XP (ρ:Env) :∀(e:E) (l:List E),e.list=some l→lst ρ e=l.map (dat ρ):=by
 intro e
 induction e <;> intro l h <;> simp[E.list] at h
 case nil=>subst h;rfl
 case cons x y _ ih =>
  obtain⟨l',h1,rfl⟩:=h;show dat ρ x::lst ρ y=_;rw[ih l' h1,JrM]
theorem Jr (ρ:Env) :∀cs:List SV,γXs ρ cs=cs.map (γX ρ)
 | []=>rfl
 | c::cs=>by simp only[γXs,Jr ρ cs,JrM]
theorem YK (a:Sh1) (n:Nat):(a.expr n).isOne=true:=by cases a <;> rfl
theorem QB :∀(as:List Sh1) (n:Nat),(Ju as n).length=as.length
 | [],_=>rfl
 | a::as,n=>by simp[Ju,QB as]
def Sh.cells:Sh→Nat→List E
 | .one a,n=>[a.expr n]
 | .g as,n=>Ju as n
 | .q _,_=>[]
theorem Jcv {sh:Sh} (h :∀as,sh≠ .q as) (ρ:Env) (n:Nat):(dat ρ (sh.expr n)).cells=(sh.cells n).map (dat ρ):=by
 cases sh with
 | one a=>simp only[Sh.expr,Sh.cells,JrM,List.map_nil];exact Jcf (JL (YK a n) ρ)
 | g as =>
  show (D.g (lst ρ (JO (Ju as n)))).cells=_;rw[Jv];rfl
 | q as=>exact absurd rfl (h as)
def sop (sl:SSl):Operand→SV
 | .tmp t=>match sl.lookup t with
  | some v=>v
  | none=> .u
 | .const v=>if v.oneCell then .d (Kh v) else .u
 | .func f=> .f f []
 | .global _=> .u
theorem Qa (ρ:Env) (sl:SSl) (x:Operand):opX (γs ρ sl) x=γX ρ (sop sl x):=by
 cases x with
 | tmp t =>
  simp only[opX,γs,sop];cases sl.lookup t <;> rfl
 | const v =>
  simp only[opX,sop];split
  ·simp only[γX,JaX]
  ·rfl
 | func f=>rfl
 | global n=>rfl
def XX:SV→Option (List SV)
 | .g cs=>some cs
 | .d e=>if e.isOne then some [.d e] else none
 | .u | .t _=>none
 | x=>some [x]
theorem KQ {v:SV} {cs:List SV} (h:XX v=some cs) (ρ:Env):(γX ρ v).cells=some (cs.map (γX ρ)):=by
 cases v with
 | g cs'=>simp only[XX,JrD] at h;subst h;simp only[γX,X.cells,Jr]
 | d e =>
  simp only[XX] at h;split at h
  ·rename_i ho;simp only[JrD] at h;subst h;simp only[γX,JrM,List.map_nil];exact JlD (JL ho ρ)
  ·cases h
 | u=>cases h
 | t=>cases h
 | o k l=>simp only[XX,JrD] at h;subst h;rfl
 | p k l=>simp only[XX,JrD] at h;subst h;rfl
 | e k l i off=>simp only[XX,JrD] at h;subst h;rfl
 | f fn cs'=>simp only[XX,JrD] at h;subst h;rfl
def Ji0:SV→Bool
 | .d e=>e.isOne
 | .o _ _ | .p _ _ | .e _ _ _ _ | .f _ _=>true
 | _=>false
theorem JoS {v:SV} (h:Ji0 v=true) (ρ:Env):(γX ρ v).one=true:=by
 cases v <;> simp[Ji0] at h <;> first | rfl | exact JL h ρ
theorem Jao {vs:List SV} (h:vs.all Ji0=true) (ρ:Env):(vs.map (γX ρ)).all X.one=true:=by
 rw[List.all_map,JrR] at *;exact fun x hx=>JoS (h x hx) ρ
section
variable {B:Tb} {ρ:Env} {P:Program}
def Jf1:SV→SMP (E×Bool)
 | .d e=>if e.isOne then .ret (e.norm,false) else .fail
 | .o k l=> .get k fun
  | .arr ty sz l' dp rw=>if l.lsame l' then .put k (.arr ty sz l' false false) (.ret (.s l',dp&&rw)) else .fail
  | _=> .fail
 | _=> .fail
def fDB (ρ:Env) (p:E×Bool):D×Bool:=(dat ρ p.1,p.2)
def fLB (ρ:Env) (p:List E×Bool):List D×Bool:=(p.1.map (dat ρ),p.2)
theorem Jhz {l l':E} (h:l.same l'=true) (ρ:Env):lst ρ l=lst ρ l':=by unfold lst;rw[VH _ _ h]
theorem JmK {l l':E} (h:l.same l'=true) (ρ:Env):dat ρ l=dat ρ l':=by unfold dat;rw[VH _ _ h]
theorem Jiu (ρ:Env) :∀l:E,(lst ρ l.base).length=(lst ρ l).length:=by
 intro l
 induction l with
 | set l i x ih _ _ =>
  show (lst ρ l.base).length=((lst ρ l).set (int ρ i).toNat (dat ρ x)).length;rw[List.length_set];exact ih
 | _=>rfl
theorem lL1 {l l':E} (h:l.lsame l'=true) (ρ:Env):(lst ρ l).length=(lst ρ l').length:=by
 rw[←Jiu ρ l,←Jiu ρ l',Jhz h]
theorem JiW (v:SV):(Jf1 v).Ok B ρ (fDB ρ) (Wf (γX ρ v)):=by
 cases v with
 | d e =>
  simp only[Jf1];split
  ·rename_i h;simp only[γX,Wf,SMP.Ok,fDB,YU h]
  ·trivial
 | o k l =>
  refine⟨_,rfl,fun o=>?_⟩;cases o with
  | arr ty sz l' dp rw =>
   simp only[γO];split
   ·rename_i h;rw[if_pos (lL1 h ρ)];exact⟨_,rfl,rfl⟩
   ·trivial
  | _=>trivial
 | _=>trivial
def Jah:List SV→SMP (List E×Bool)
 | []=> .ret ([],true)
 | x::xs=>(Jf1 x).bind fun d=>(Jah xs).bind fun ds=> .ret (d.1::ds.1,d.2&&ds.2)
theorem U8 :∀(vs:List SV),(Jah vs).Ok B ρ (fLB ρ) (W3 (vs.map (γX ρ)))
 | []=>rfl
 | v::vs=>by
  refine SMP.bind_ok (f:=fDB ρ) (fun d=>?_) _ _ (JiW v);refine SMP.bind_ok (f:=fLB ρ) (fun ds=>?_) _ _ (U8 vs);rfl
def JcS (pl:List (Nat×Nat)) (cs:List SV):List (Nat×SV)→Option (List SV)
 | []=>some cs
 | (i,x)::rest =>
  match pl[i]?,XX x with
  | some (off,n),some vs=>if vs.length=n∧off+n≤cs.length then JcS pl (Jd cs off vs) rest else none
  | _,_=>none
theorem Wl {α β:Type} (f:α→β) (cs:List α) (off:Nat) (vs:List α):(Jd cs off vs).map f=Jd (cs.map f) off (vs.map f):=by
 simp[Jd,List.map_take,List.map_drop]
theorem JeN {pl:List (Nat×Nat)} :∀(ps:List (Nat×SV)) (cs cs':List SV),JcS pl cs ps=some cs'→Jcm pl (cs.map (γX ρ)) (ps.map fun p=>(p.1,γX ρ p.2))=some (cs'.map (γX ρ))
 | [],cs,cs',h=>by simp only[JcS,JrD] at h;subst h;rfl
 | (i,x)::rest,cs,cs',h=>by
  simp only[JcS] at h;split at h
  ·rename_i off n vs h1 h2;split at h
   ·rename_i hc;have:=JeN rest _ _ h;simp only[JrM,Jcm,h1,KQ h2,JrN,hc,and_self,if_true];rw[Wl] at this;exact this
   ·cases h
  ·cases h
def smk (ag:Bool) (es:List E):Option E:=match ag,es with
 | true,es=>if es.all E.isOne then some (.g (JO es)) else none
 | false,[e]=>if e.isOne then some e else none
 | false,_=>none
theorem Jdf {ag:Bool} {es:List E} {e:E} (h:smk ag es=some e) (ρ:Env):D.mk ag (es.map (dat ρ))=some (dat ρ e):=by
 cases ag with
 | true =>
  simp only[smk] at h;split at h
  ·simp only[JrD] at h;subst h;show some (D.g _)=some (D.g (lst ρ (JO es)));rw[Jv]
  ·cases h
 | false =>
  match es,h with
  | [e'],h =>
   simp only[smk] at h;split at h
   ·rename_i ho;simp only[JrD] at h;subst h;simp only[JrM,List.map_nil,D.mk,JL ho,if_true]
   ·cases h
def Jgf (ag:Bool) (sz:Nat) (es:List E) (dp:Bool):List (Nat×SV)→SMP (List E×Bool)
 | []=> .ret (es,dp)
 | (i,x)::rest =>
  match XX x with
  | some vs=>if vs.length=sz∧i<es.length∧vs.all Ji0 then(Jah vs).bind fun ds=>match smk ag ds.1 with
    | some d=>Jgf ag sz (es.set i d) (dp&&ds.2) rest
    | none=> .fail
   else .fail
  | none=> .fail
def JdM:E→Bool
 | .vi _ _ | .vb _ | .s _=>true
 | _=>false
def Jfa (b:Bool) (e:E):SV:=match b,e with
 | true,.s _=> .u
 | _,e=> .d e
theorem Joe {b:Bool} {e:E} (h:(!b||JdM e)=true):γX ρ (Jfa b e)=if b && !flat (dat ρ e) then .u else .d (dat ρ e):=by
 cases b with
 | false=>simp[Jfa,γX]
 | true=>cases e <;> simp[JdM] at h <;> simp[Jfa,γX,dat,den,V.dat,flat]
theorem Jex {b:Bool} :∀{es:List E},(es.all fun e=>!b||JdM e)=true→(es.map (Jfa b)).map (γX ρ)=Jf2 b (es.map (dat ρ))
 | [],_=>rfl
 | e::es,h=>by
  simp only[List.all_cons,JrE] at h;simp only[JrM,Jf2,Joe h.1];exact congrArg _ (Jex h.2)
def Vb (P:Program) (t:TypeId) (a:SV):SMP (List SV) :=
 match a with
 | .d (.q l)=>match l.list with
  | some cs=> .ret (cs.map .d)
  | none=> .fail
 | .d (.da n)=>match Jcl P 8 t with
  | some as=> .ask (fun n'=> .get (.da n) (.q as) n') as.length fun n'=> .ret ((Ju as n').map .d)
  | none=> .fail
 | .p k off=> .get k fun
  | .box cs=> .ret (cs.drop off)
  | _=> .fail
 | .e k l i off=> .get k fun
  | .arr ty _ l' dp rw=>match Jgh P ty with
   | some (.q _)=> .fail
   | some sh=>if l.lsame l' then .ask (fun n=> .idx l' i sh n) sh.size fun n=>if(sh.cells n).all (fun e=>!(dp&&rw)||JdM e) then .ret (((sh.cells n).map (Jfa (dp&&rw))).drop off) else .fail else .fail
   | none=> .fail
  | _=> .fail
 | _=> .fail
def fXs (ρ:Env) (cs:List SV):List X:=cs.map (γX ρ)
theorem VK (ρ:Env) (l:List E):(l.map SV.d).map (γX ρ)=(l.map (dat ρ)).map X.d:=by simp[γX]
theorem Jbj (t:TypeId) (a:SV):(Vb P t a).Ok B ρ (fXs ρ) (YT (γX ρ a)):=by
 cases a with
 | d e =>
  cases e with
  | q l =>
   simp only[Vb];cases h:l.list with
   | none=>trivial
   | some cs =>
    show YT (.d (.q (lst ρ l))) = .ret (fXs ρ _);rw[XP ρ _ _ h];simp only[YT,fXs,VK]
  | da n =>
   simp only[Vb];cases h:Jcl P 8 t with
   | none=>trivial
   | some as =>
    intro n' hn;simp only[I.holds,Sh.expr] at hn;simp only[SMP.Ok,γX,hn,fXs,VK];show YT (.d (.q (lst ρ (JO _))))=_;rw[Jv];rfl
  | _=>trivial
 | p k off =>
  refine⟨_,rfl,fun o=>?_⟩;cases o with
  | box cs=>simp only[γO,SMP.Ok,fXs,Jr,List.map_drop]
  | _=>trivial
 | e k l i off =>
  refine⟨_,rfl,fun o=>?_⟩;cases o with
  | arr ty sz l' dp rw =>
   simp only[γO];cases hs:Jgh P ty with
   | none=>trivial
   | some sh =>
    have key :∀(hq :∀as,sh≠ .q as),SMP.Ok B ρ (fXs ρ) (if l.lsame l' then .ask (fun n=> .idx l' i sh n) sh.size fun n=>if(sh.cells n).all (fun e=>!(dp&&rw)||JdM e) then .ret (((sh.cells n).map (Jfa (dp&&rw))).drop off) else .fail else .fail)
      (match (lst ρ l')[(int ρ i).toNat]? with
       | some e=>if(lst ρ l).length=(lst ρ l').length then .ret ((Jf2 (dp&&rw) e.cells).drop off) else .fail
       | none=> .fail):=by
     intro hq;split
     ·rename_i h;intro n hn;obtain⟨h0,h1⟩:=hn;simp only[h1,lL1 h ρ,if_true,Jcv hq];split
      ·rename_i hall;simp only[SMP.Ok,fXs,List.map_drop,Jex hall]
      ·trivial
     ·trivial
    cases sh with
    | q as=>trivial
    | one a=>exact key (fun as h=>by cases h)
    | g as=>exact key (fun as h=>by cases h)
  | _=>trivial
 | _=>trivial
def Jgl (P:Program) (t:TypeId) (a:SV):SMP SV :=
 match Ys P t,Qm P t with
 | some true,some n=>(Vb P t a).bind fun cs=>if n≤cs.length then .ret (.g (cs.take n)) else .fail
 | some false,some _=>(Vb P t a).bind fun cs=>match cs with | c::_=> .ret c | []=> .fail
 | _,_=> .fail
theorem JeI (t:TypeId) (a:SV):(Jgl P t a).Ok B ρ (γX ρ) (Jfh P t (γX ρ a)):=by
 unfold Jgl Jfh;split
 ·rename_i n h1 h2;simp only[h1,h2];refine SMP.bind_ok (fun cs=>?_) _ _ (Jbj t a);simp only[fXs,JrN];split
  ·simp only[SMP.Ok,γX,Jr,List.map_take]
  ·trivial
 ·rename_i n h1 h2;simp only[h1,h2];refine SMP.bind_ok (fun cs=>?_) _ _ (Jbj t a);cases cs with
  | nil=>trivial
  | cons c cs=>rfl
 ·trivial
def E.put (cells:List E) (ag:Bool) (off:Nat) (ds:List E):Option E :=
 if ag then(if off+ds.length≤cells.length then some (.g (JO (Jd cells off ds))) else none)
 else match off,ds with
  | 0,[d]=>some d
  | _,_=>none
def Sh.agg:Sh→Bool
 | .g _=>true
 | _=>false
theorem E_put {sh:Sh} (hq :∀as,sh≠ .q as) {n off:Nat} {ds:List E} {e:E} (h:E.put (sh.cells n) sh.agg off ds=some e) (ρ:Env):(dat ρ (sh.expr n)).put off (ds.map (dat ρ))=some (dat ρ e):=by
 cases sh with
 | q as=>exact absurd rfl (hq as)
 | g as =>
  unfold E.put at h;simp only[Sh.agg,if_true] at h;split at h
  ·rename_i hl;simp only[JrD] at h;subst h;show D.put (.g (lst ρ (JO (Ju as n)))) off _=some (.g (lst ρ (JO _)));rw[Jv,Jv];simp only[D.put,JrN];rw[if_pos (by simpa[Sh.cells] using hl)];simp only[Sh.cells,Wl]
  ·cases h
 | one a =>
  unfold E.put at h;simp only[Sh.agg,JrU,if_false] at h;have ho:=JL (YK a n) ρ;simp only[Sh.expr];split at h
  ·simp only[JrD] at h;subst h;cases hd:dat ρ (a.expr n) with
   | g=>rw[hd] at ho;cases ho
   | _=>rfl
  ·cases h
def Jjn (k:Key) (kd:Option (TypeId×Nat)):SV→SMP E
 | .d (.vi k x)=> .ret (.vi k x)
 | .d (.vb x)=> .ret (.vb x)
 | .d (.vc (.slice none 0 0))=>if kd.isSome then .ret (.s .nil) else .fail
 | .o j l=> .get j fun
  | .arr ty sz l' dp true=>if l.lsame l'∧kd=some (ty,sz)∧j≠k then(if dp then .put j .dead (.ret (.s l')) else .ask (fun _=> .fl l') 0 fun _=> .put j .dead (.ret (.s l'))) else .fail
  | _=> .fail
 | _=> .fail
theorem Jmd (k:Key) (kd:Option (TypeId×Nat)) (v:SV):(Jjn k kd v).Ok B ρ (dat ρ) (Jhh k kd (γX ρ v)):=by
 cases v with
 | d e =>
  cases e with
  | vi k x=>rfl
  | vb x=>rfl
  | vc x =>
   unfold Jjn;split
   ·rename_i e;cases e
   ·rename_i e;cases e
   ·rename_i e;cases e;show SMP.Ok B ρ (dat ρ) _ (if kd.isSome=true then _ else _);split
    ·rfl
    ·trivial
   ·rename_i e;cases e
   ·trivial
  | _=>trivial
 | o j l =>
  refine⟨_,rfl,fun o=>?_⟩;cases o with
  | arr ty sz l' dp rw =>
   cases rw with
   | false=>trivial
   | true =>
    simp only[γO];split
    ·rename_i h;split
     ·rename_i hd;rw[if_pos ⟨lL1 h.1 ρ,by simp[hd],h.2.1,h.2.2⟩];exact⟨_,rfl,rfl⟩
     ·intro n hn;have hn:Jy (lst ρ l')=true:=hn;rw[if_pos ⟨lL1 h.1 ρ,by simp[hn],h.2.1,h.2.2⟩];exact⟨_,rfl,rfl⟩
    ·trivial
  | _=>trivial
 | _=>trivial
def Jgx (k:Key):Kds→List SV→SMP (List E)
 | _,[]=> .ret []
 | ks,x::xs=>(Jjn k (ks.headD none) x).bind fun d=>(Jgx k (ks.drop 1) xs).bind fun ds=> .ret (d::ds)
theorem JaO (k:Key) :∀(ks:Kds) (vs:List SV),(Jgx k ks vs).Ok B ρ (fun l=>l.map (dat ρ)) (JhP k ks (vs.map (γX ρ)))
 | _,[]=>rfl
 | ks,x::xs=>by
  refine SMP.bind_ok (f:=dat ρ) (fun d=>?_) _ _ (Jmd k _ x);refine SMP.bind_ok (f:=fun l=>l.map (dat ρ)) (fun ds=>?_) _ _ (JaO k _ xs);rfl
def JgI (P:Program) (t:TypeId) (a v:SV):SMP SV :=
 match XX v,Qm P t with
 | some vs,some n=>if vs.length=n then match a with
   | .p k off=> .get k fun
    | .box cs=>if off+n≤cs.length then .put k (.box (Jd cs off vs)) (.ret .u) else .fail
    | _=> .fail
   | .e k l i off=> .get k fun
    | .arr ty0 _ _ true true=>(Jgx k ((JF P ty0).drop off) vs).bind fun ds=> .get k fun
     | .arr ty sz l' true true=>match Jgh P ty with
      | some (.q _)=> .fail
      | some sh=>if l.lsame l'∧ty=ty0 then .ask (fun n=> .idx l' i sh n) sh.size fun n=>match E.put (sh.cells n) sh.agg off ds with
        | some e'=> .put k (.arr ty sz (.set l' i e') true true) (.ret .u)
        | none=> .fail
       else .fail
      | none=> .fail
     | _=> .fail
    | .arr _ _ _ false true=>(Jah vs).bind fun ds=> .get k fun
     | .arr ty sz l' false true=>match Jgh P ty with
      | some (.q _)=> .fail
      | some sh=>if l.lsame l' then .ask (fun n=> .idx l' i sh n) sh.size fun n=>match E.put (sh.cells n) sh.agg off ds.1 with
        | some e'=> .put k (.arr ty sz (.set l' i e') false true) (.ret .u)
        | none=> .fail
       else .fail
      | none=> .fail
     | _=> .fail
    | _=> .fail
   | _=> .fail
  else .fail
 | _,_=> .fail
theorem Jjj (t : TypeId) (a v : SV) : (JgI P t a v).Ok B ρ (γX ρ) (Jf6 P t (γX ρ a) (γX ρ v)) := by
  unfold JgI Jf6
  cases hc:XX v with
  | none=>trivial
  | some vs =>
    cases hz:Qm P t with
    | none=>trivial
    | some n =>
      simp only[KQ hc,JrN]
      split
      · rename_i h
        cases a with
        | p k off =>
          refine⟨_,rfl,fun o=>?_⟩
          cases o with
          | box cs =>
            simp only[γO,Jr,JrN]
            split
            · exact⟨_,by rw[γO,Jr,Wl];rfl,rfl⟩
            · trivial
          | _=>trivial
        | e k l i off =>
          refine⟨_,rfl,fun o0=>?_⟩
          cases o0 with
          | arr ty0 sz0 l0 dp0 rw0 =>
            cases rw0 with
            | false=>cases dp0 <;> trivial
            | true =>
              cases dp0 with
              | true =>
                simp only[γO]
                refine SMP.bind_ok (f:=fun l=>l.map (dat ρ)) (fun ds=>?_) _ _ (JaO k _ vs)
                refine⟨_,rfl,fun o=>?_⟩
                cases o with
                | arr ty sz l' dp rw =>
                  cases rw with
                  | false=>cases dp <;> trivial
                  | true =>
                    cases dp with
                    | false=>trivial
                    | true =>
                      simp only[γO]
                      cases hs:Jgh P ty with
                      | none=>trivial
                      | some sh =>
                        have key :∀(hq :∀as,sh≠ .q as),SMP.Ok B ρ (γX ρ) (if l.lsame l'∧ty=ty0 then .ask (fun n=> .idx l' i sh n) sh.size fun n=>match E.put (sh.cells n) sh.agg off ds with
                              | some e'=> .put k (.arr ty sz (.set l' i e') true true) (.ret .u)
                              | none=> .fail
                            else .fail)
                            (match (lst ρ l')[(int ρ i).toNat]? with
                              | some e=>match e.put off (ds.map (dat ρ)) with
                                | some e'=>if(lst ρ l).length=(lst ρ l').length∧ty=ty0 then .put k (.arr ty sz ((lst ρ l').set (int ρ i).toNat e') true true) (.ret .u) else .fail
                                | none=> .fail
                              | none=> .fail):=by
                          intro hq
                          split
                          · rename_i hl
                            intro n hn
                            obtain⟨h0,h1⟩:=hn
                            simp only[h1]
                            split
                            · rename_i e' he
                              simp only[E_put hq he,lL1 hl.1 ρ,hl.2,and_self,if_true]
                              exact⟨_,rfl,rfl⟩
                            · trivial
                          · trivial
                        cases sh with
                        | q as=>trivial
                        | one a=>exact key (fun as h=>by cases h)
                        | g as=>exact key (fun as h=>by cases h)
                | _=>trivial
              | false =>
                simp only[γO]
                refine SMP.bind_ok (f:=fLB ρ) (fun ds=>?_) _ _ (U8 vs)
                refine⟨_,rfl,fun o=>?_⟩
                cases o with
                | arr ty sz l' dp rw =>
                  cases rw with
                  | false=>cases dp <;> trivial
                  | true =>
                    cases dp with
                    | true=>trivial
                    | false =>
                      simp only[γO]
                      cases hs:Jgh P ty with
                      | none=>trivial
                      | some sh =>
                        have key :∀(hq :∀as,sh≠ .q as),SMP.Ok B ρ (γX ρ) (if l.lsame l' then .ask (fun n=> .idx l' i sh n) sh.size fun n=>match E.put (sh.cells n) sh.agg off ds.1 with
                              | some e'=> .put k (.arr ty sz (.set l' i e') false true) (.ret .u)
                              | none=> .fail
                            else .fail)
                            (match (lst ρ l')[(int ρ i).toNat]? with
                              | some e=>match e.put off (fLB ρ ds).1 with
                                | some e'=>if(lst ρ l).length=(lst ρ l').length then .put k (.arr ty sz ((lst ρ l').set (int ρ i).toNat e') (false&&Jy (fLB ρ ds).1) true) (.ret .u) else .fail
                                | none=> .fail
                              | none=> .fail):=by
                          intro hq
                          split
                          · rename_i hl
                            intro n hn
                            obtain⟨h0,h1⟩:=hn
                            simp only[h1]
                            split
                            · rename_i e' he
                              simp only[fLB,E_put hq he,lL1 hl ρ,if_true]
                              exact⟨_,rfl,rfl⟩
                            · trivial
                          · trivial
                        cases sh with
                        | q as=>trivial
                        | one a=>exact key (fun as h=>by cases h)
                        | g as=>exact key (fun as h=>by cases h)
                | _=>trivial
          | _=>trivial
        | _=>trivial
      · trivial
end
end Go.Tm
end
section
namespace Go.Tm
mutual
def SV.names:SV→List Key
 | .o k _=>[k]
 | .p k _=>[k]
 | .e k _ _ _=>[k]
 | .g cs=>XF cs
 | .t cs=>XF cs
 | .f _ cs=>XF cs
 | _=>[]
def XF:List SV→List Key
 | []=>[]
 | c::cs=>SV.names c++XF cs
end
mutual
def SV.ren (r:Key→Key):SV→SV
 | .o k l=> .o (r k) l
 | .p k off=> .p (r k) off
 | .e k l i off=> .e (r k) l i off
 | .g cs=> .g (JaG r cs)
 | .t cs=> .t (JaG r cs)
 | .f fn cs=> .f fn (JaG r cs)
 | .d e=> .d e
 | .u=> .u
def JaG (r:Key→Key):List SV→List SV
 | []=>[]
 | c::cs=>SV.ren r c::JaG r cs
end
def Je.names:Je→List Key
 | .box cs=>XF cs
 | _=>[]
def Je.ren (r:Key→Key):Je→Je
 | .box cs=> .box (JaG r cs)
 | o=>o
mutual
theorem KN (ρ:Env) :∀v:SV,(γX ρ v).names=v.names
 | .o _ _=>rfl
 | .p _ _=>rfl
 | .e _ _ _ _=>rfl
 | .g cs=>by simp only[γX,X.names,SV.names,X4 ρ cs]
 | .t cs=>by simp only[γX,X.names,SV.names,X4 ρ cs]
 | .f _ cs=>by simp only[γX,X.names,SV.names,X4 ρ cs]
 | .d _=>rfl
 | .u=>rfl
theorem X4 (ρ:Env) :∀cs:List SV,J2 (γXs ρ cs)=XF cs
 | []=>rfl
 | c::cs=>by simp only[γXs,J2,XF,KN ρ c,X4 ρ cs]
end
mutual
theorem JdA (ρ:Env) (r:Key→Key) :∀v:SV,(γX ρ v).ren r=γX ρ (v.ren r)
 | .o _ _=>rfl
 | .p _ _=>rfl
 | .e _ _ _ _=>rfl
 | .g cs=>by simp only[γX,X.ren,SV.ren,VB ρ r cs]
 | .t cs=>by simp only[γX,X.ren,SV.ren,VB ρ r cs]
 | .f _ cs=>by simp only[γX,X.ren,SV.ren,VB ρ r cs]
 | .d _=>rfl
 | .u=>rfl
theorem VB (ρ:Env) (r:Key→Key) :∀cs:List SV,Uu r (γXs ρ cs)=γXs ρ (JaG r cs)
 | []=>rfl
 | c::cs=>by simp only[γXs,Uu,JaG,JdA ρ r c,VB ρ r cs]
end
theorem Jey (ρ:Env) (o:Je):(γO ρ o).names=o.names:=by
 cases o with
 | box cs=>exact X4 ρ cs
 | _=>rfl
theorem Jaj (ρ:Env) (r:Key→Key) (o:Je):(γO ρ o).ren r=γO ρ (o.ren r):=by
 cases o with
 | box cs=>simp only[γO,Obj.ren,Je.ren,VB]
 | _=>rfl
mutual
def SV.norm:SV→SV
 | .d e=> .d e.norm
 | .g cs=> .g (Jid cs)
 | x=>x
def Jid:List SV→List SV
 | []=>[]
 | c::cs=>SV.norm c::Jid cs
end
mutual
def SV.ones:SV→Bool
 | .d e=>e.isOne
 | .g cs=>JhZ cs
 | _=>true
def JhZ:List SV→Bool
 | []=>true
 | c::cs=>SV.ones c&&JhZ cs
end
mutual
theorem JmT (ρ:Env) :∀v:SV,v.ones=true→(γX ρ v).norm=γX ρ v.norm
 | .d e,h=>by simp only[γX,X.norm,SV.norm];rw[YU (by simpa[SV.ones] using h)]
 | .g cs,h=>by simp only[γX,X.norm,SV.norm];rw[Jc0 ρ cs (by simpa[SV.ones] using h)]
 | .o _ _,_=>rfl
 | .p _ _,_=>rfl
 | .e _ _ _ _,_=>rfl
 | .t _,_=>rfl
 | .f _ _,_=>rfl
 | .u,_=>rfl
theorem Jc0 (ρ:Env) :∀cs:List SV,JhZ cs=true→Jei (γXs ρ cs)=γXs ρ (Jid cs)
 | [],_=>rfl
 | c::cs,h=>by
  simp only[JhZ,JrE] at h;simp only[γXs,Jei,Jid];rw[JmT ρ c h.1,Jc0 ρ cs h.2]
end
mutual
def UG (look:Key→Option E):SV→SV
 | .o k l=>match look k with
  | some l'=>if l.lsame l' then .o k l' else .o k l
  | none=> .o k l
 | .e k l i off=>match look k with
  | some l'=>if l.lsame l' then .e k l' i off else .e k l i off
  | none=> .e k l i off
 | .g cs=> .g (Kd look cs)
 | .t cs=> .t (Kd look cs)
 | .f fn cs=> .f fn (Kd look cs)
 | v=>v
def Kd (look:Key→Option E):List SV→List SV
 | []=>[]
 | c::cs=>UG look c::Kd look cs
end
mutual
theorem Jeo (ρ:Env) (look:Key→Option E) :∀v:SV,γX ρ (UG look v)=γX ρ v
 | .o k l=>by
  simp only[UG];split
  ·split
   ·rename_i h;simp only[γX,lL1 h ρ]
   ·rfl
  ·rfl
 | .e k l i off=>by
  simp only[UG];split
  ·split
   ·rename_i h;simp only[γX,lL1 h ρ]
   ·rfl
  ·rfl
 | .g cs=>by simp only[UG,γX,YJ ρ look cs]
 | .t cs=>by simp only[UG,γX,YJ ρ look cs]
 | .f _ cs=>by simp only[UG,γX,YJ ρ look cs]
 | .d _=>rfl
 | .p _ _=>rfl
 | .u=>rfl
theorem YJ (ρ:Env) (look:Key→Option E) :∀cs:List SV,γXs ρ (Kd look cs)=γXs ρ cs
 | []=>rfl
 | c::cs=>by simp only[Kd,γXs,Jeo ρ look c,YJ ρ look cs]
end
def JfB (look:Key→Option E):Je→Je
 | .box cs=> .box (Kd look cs)
 | o=>o
theorem JeH (ρ:Env) (look:Key→Option E) (o:Je):γO ρ (JfB look o)=γO ρ o:=by
 cases o with
 | box cs=>simp only[JfB,γO,YJ]
 | _=>rfl
def holds? (m:XE) (k:Key):Option E:=match m.lookup k with
 | some (.arr _ _ l _ _)=>some l
 | _=>none
def UJ:E→Option (List E)
 | .q l=>l.list
 | _=>none
theorem Zk {e:E} {es:List E} (h:UJ e=some es) (ρ:Env):dat ρ e = .q (es.map (dat ρ)):=by
 unfold UJ at h;split at h
 ·rename_i l;show D.q (lst ρ l)=_;rw[XP ρ l es h]
 ·cases h
def Jjr (p e:E):List (E×E):=match UJ p,UJ e with
 | some ps,some es=>if ps.length=es.length then ps.zip es else [(p,e)]
 | _,_=>[(p,e)]
theorem Jkp {ρ ρ':Env} :∀(ps es:List E),ps.length=es.length→(∀q∈ps.zip es,dat ρ' q.1=dat ρ q.2)→ps.map (dat ρ')=es.map (dat ρ)
 | [],[],_,_=>rfl
 | [],_::_,h,_=>by simp at h
 | _::_,[],h,_=>by simp at h
 | p::ps,e::es,h,hq=>by
  simp only[JrM];rw[hq (p,e) (by simp),Jkp ps es (by simpa using h) fun q hm=>hq q (by simp[hm])]
theorem Jlm {ρ ρ':Env} {p e:E} (h :∀q∈Jjr p e,dat ρ' q.1=dat ρ q.2):dat ρ' p=dat ρ e:=by
 unfold Jjr at h;split at h
 ·rename_i ps es hp he;split at h
  ·rename_i hl;rw[Zk hp,Zk he,Jkp ps es hl h]
  ·exact h (p,e) (by simp)
 ·exact h (p,e) (by simp)
def mv:SV→SV→Option (List (E×E))
 | .d p,.d e=>some (Jjr p e)
 | .g ps,.g es=>mvs ps es
 | .o k p,.o k' l=>if k == k' then some [(.s p,.s l)] else none
 | .p k off,.p k' off'=>if k == k'&&off == off' then some [] else none
 | .f fn ps,.f fn' es=>if fn == fn' then mvs ps es else none
 | .t ps,.t es=>mvs ps es
 | .u,.u=>some []
 | _,_=>none
where
 mvs:List SV→List SV→Option (List (E×E))
 | [],[]=>some []
 | p::ps,e::es=>match mv p e with
  | some a=>match mvs ps es with
   | some b=>some (a++b)
   | none=>none
  | none=>none
 | _,_=>none
def mo:Je→Je→Option (List (E×E))
 | .box ps,.box es=>mv.mvs ps es
 | .arr ty sz p dp rw,.arr ty' sz' l dp' rw'=>if ty == ty'&&sz == sz'&&dp == dp'&&rw == rw' then some [(.s p,.s l)] else none
 | .dead,.dead=>some []
 | _,_=>none
def mos:List Je→List Je→Option (List (E×E))
 | [],[]=>some []
 | p::ps,e::es=>match mo p e with
  | some a=>match mos ps es with
   | some b=>some (a++b)
   | none=>none
  | none=>none
 | _,_=>none
theorem Jhc {ρ ρ':Env} {p l:E} (h:dat ρ' (.s p)=dat ρ (.s l)):lst ρ' p=lst ρ l:=by
 have:D.s (lst ρ' p)=D.s (lst ρ l):=h
 injection this
mutual
theorem Jpu {ρ ρ':Env} :∀(p v:SV) (l:List (E×E)),mv p v=some l→(∀q∈l,dat ρ' q.1=dat ρ q.2)→γX ρ' p=γX ρ v
 | .d p,v,l,h,hl=>by
  cases v with
  | d e =>
   simp only[mv,JrD] at h;subst h;simp only[γX];rw[Jlm hl]
  | _=>simp[mv] at h
 | .g ps,v,l,h,hl=>by
  cases v <;> simp[mv] at h;simp only[γX];rw[V9 ps _ l h hl]
 | .o k p,v,l,h,hl=>by
  cases v with
  | o k' l' =>
   simp[mv] at h;obtain⟨rfl,rfl⟩:=h;simp only[γX];rw[Jhc (hl (.s p,.s l') (by simp))]
  | _=>simp[mv] at h
 | .p k off,v,l,h,hl=>by
  cases v <;> simp[mv] at h;obtain⟨⟨rfl,rfl⟩,rfl⟩:=h;rfl
 | .e _ _ _ _,v,l,h,hl=>by cases v <;> simp[mv] at h
 | .f fn ps,v,l,h,hl=>by
  cases v <;> simp[mv] at h;obtain⟨rfl,h⟩:=h;simp only[γX];rw[V9 ps _ l h hl]
 | .t ps,v,l,h,hl=>by
  cases v <;> simp[mv] at h;simp only[γX];rw[V9 ps _ l h hl]
 | .u,v,l,h,hl=>by
  cases v <;> simp[mv] at h;rfl
theorem V9 {ρ ρ':Env} :∀(ps vs:List SV) (l:List (E×E)),mv.mvs ps vs=some l→(∀q∈l,dat ρ' q.1=dat ρ q.2)→γXs ρ' ps=γXs ρ vs
 | [],[],_,_,_=>rfl
 | [],_::_,_,h,_=>by simp[mv.mvs] at h
 | _::_,[],_,h,_=>by simp[mv.mvs] at h
 | p::ps,v::vs,l,h,hl=>by
  simp only[mv.mvs] at h;split at h
  ·rename_i a ha;split at h
   ·rename_i b hb;simp only[JrD] at h;subst h;simp only[γXs];rw[Jpu p v a ha (fun q hq=>hl q (by simp[hq])),V9 ps vs b hb (fun q hq=>hl q (by simp[hq]))]
   ·cases h
  ·cases h
end
theorem Jpt {ρ ρ':Env} {p o:Je} {l:List (E×E)} (h:mo p o=some l) (hl :∀q∈l,dat ρ' q.1=dat ρ q.2):γO ρ' p=γO ρ o:=by
 cases p with
 | box ps =>
  cases o <;> simp[mo] at h;simp only[γO];rw[V9 _ _ l h hl]
 | arr ty sz p dp rw =>
  cases o with
  | arr ty' sz' l' dp' rw' =>
   simp[mo] at h;obtain⟨⟨⟨⟨rfl,rfl⟩,rfl⟩,rfl⟩,rfl⟩:=h;simp only[γO];rw[Jhc (hl (.s p,.s l') (by simp))]
  | _=>simp[mo] at h
 | dead=>cases o <;> simp[mo] at h;rfl
theorem Jnc {ρ ρ':Env} :∀(ps os:List Je) (l:List (E×E)),mos ps os=some l→(∀q∈l,dat ρ' q.1=dat ρ q.2)→ps.map (γO ρ')=os.map (γO ρ)
 | [],[],_,_,_=>rfl
 | [],_::_,_,h,_=>by simp[mos] at h
 | _::_,[],_,h,_=>by simp[mos] at h
 | p::ps,v::vs,l,h,hl=>by
  simp only[mos] at h;split at h
  ·rename_i a ha;split at h
   ·rename_i b hb;simp only[JrD] at h;subst h;simp only[JrM];rw[Jpt ha (fun q hq=>hl q (by simp[hq])),Jnc ps vs b hb (fun q hq=>hl q (by simp[hq]))]
   ·cases h
  ·cases h
def Wh:E→Bool
 | .vc (.slice none 0 0)=>false
 | e=>e.isOne
theorem JaA {e:E} (h:Wh e=true) (ρ:Env):(dat ρ e).norm=dat ρ e:=by
 unfold Wh at h;split at h
 ·cases h
 ·rename_i hne;have:=YU h ρ;rw[←this];unfold E.norm;split
  ·exact absurd rfl hne
  ·rfl
def Jaz:E→Option Nat
 | .da j=>some j
 | .vi _ (.v j)=>some j
 | .vb (.v j)=>some j
 | .s (.v j)=>some j
 | _=>none
def JpA:E→E→Option E
 | .da _,e=>if Wh e then some e else none
 | .vi k (.v _),.vi k' x=>if k == k' then some x else none
 | .vb (.v _),.vb x=>some x
 | .s (.v _),.s x=>some x
 | _,_=>none
def Jgt (c:Nat) (p e:E):Option (Option (Nat×E)):=if p.under c&&p.same e then some none else none
def fit (c:Nat) (p e:E):Option (Option (Nat×E)):=match Jaz p with
 | some j=>if c≤j then(match JpA p e with | some x=>some (some (j,x)) | none=>none) else Jgt c p e
 | none=>Jgt c p e
def Jjq (c:Nat):List (E×E)→Option (List (Nat×E))
 | []=>some []
 | (p,e)::l=>match fit c p e with
  | some r=>match Jjq c l with
   | some bs=>some (match r with | some b=>b::bs | none=>bs)
   | none=>none
  | none=>none
def JaH (bs:List (Nat×E)):Bool:=bs.all fun b=>match bs.lookup b.1 with
 | some x=>x.same b.2
 | none=>false
def Yk (c:Nat) (ρ:Env) (bs:List (Nat×E)):Env:=fun j=>if j<c then ρ j else match bs.lookup j with
 | some x=>den ρ x
 | none=>ρ j
theorem JgW (c:Nat) (ρ:Env) (bs:List (Nat×E)):Jp c ρ (Yk c ρ bs):=fun j hj=>by simp[Yk,hj]
theorem Uc {x:D} (h:x.one=true):QY x=x.norm:=by unfold QY;rw[if_pos h]
theorem JoU {p e x:E} {j:Nat} {ρ ρ':Env} (hj:Jaz p=some j) (h:JpA p e=some x) (hr:ρ' j=den ρ x) :
  dat ρ' p=dat ρ e:=by
 unfold JpA at h;split at h
 ·simp only[Jaz,JrD] at hj;subst hj;split at h
  ·rename_i ho;simp only[JrD] at h;subst h;have h1:e.isOne=true:=by
    unfold Wh at ho;split at ho
    ·cases ho
    ·exact ho
   show QY (V.dat (ρ' _))=_;rw[hr];show QY (dat ρ e)=_;rw[Uc (JL h1 ρ),JaA ho]
  ·cases h
 ·simp only[Jaz,JrD] at hj;subst hj;split at h
  ·rename_i k j k' x' hk;simp only[JrD] at h;subst h;have hk:k=k':=by simpa using hk
   subst hk;show D.v (.int k (V.int (ρ' _)))=D.v (.int k (den ρ x').int);rw[hr]
  ·cases h
 ·simp only[Jaz,JrD] at hj;subst hj;simp only[JrD] at h;subst h;rename_i j x';show D.v (.bool (V.bool (ρ' _)))=D.v (.bool (den ρ x').bool);rw[hr]
 ·simp only[Jaz,JrD] at hj;subst hj;simp only[JrD] at h;subst h;rename_i j x';show D.s (V.lst (ρ' _))=D.s (den ρ x').lst;rw[hr]
 ·cases h
theorem Vp {c:Nat} {p e:E} {r:Option (Nat×E)} {ρ ρ':Env} (h:Jgt c p e=some r) (ha:Jp c ρ ρ'):r=none∧dat ρ' p=dat ρ e:=by
 unfold Jgt at h;split at h
 ·rename_i h1;simp only[JrE] at h1;simp only[JrD] at h;refine⟨h.symm,?_⟩;unfold dat;rw[XR ha p h1.1,VH _ _ h1.2]
 ·cases h
theorem Joc {c:Nat} {p e:E} {r:Option (Nat×E)} {ρ ρ':Env} (h:fit c p e=some r) (ha:Jp c ρ ρ') (hr :∀j x,r=some (j,x)→ρ' j=den ρ x) :
  dat ρ' p=dat ρ e:=by
 unfold fit at h;split at h
 ·rename_i j hj;split at h
  ·split at h
   ·rename_i x hx;simp only[JrD] at h;exact JoU hj hx (hr _ _ h.symm)
   ·cases h
  ·exact(Vp h ha).2
 ·exact(Vp h ha).2
theorem Jc4 {c:Nat} :∀(l:List (E×E)) (bs:List (Nat×E)),Jjq c l=some bs→∀q∈l,∃ r,fit c q.1 q.2=some r∧∀b,r=some b→b∈bs
 | [],bs,h,q,hq=>by simp at hq
 | (p,e)::l,bs,h,q,hq=>by
  simp only[Jjq] at h;split at h
  ·rename_i r hr;split at h
   ·rename_i bs' hbs;simp only[JrD] at h;subst h;rcases JrX.1 hq with rfl | hq
    ·exact⟨r,hr,fun b hb=>by subst hb;simp⟩
    ·obtain⟨r',h1,h2⟩:=Jc4 l bs' hbs q hq;refine⟨r',h1,fun b hb=>?_⟩;have:=h2 b hb;cases r <;> simp[this]
   ·cases h
  ·cases h
theorem Jlu {c:Nat} {ρ:Env} {bs:List (Nat×E)} (h:JaH bs=true) {b:Nat×E} (hb:b∈bs) (hc:c≤b.1):Yk c ρ bs b.1=den ρ b.2:=by
 unfold JaH at h;have:=JrR.1 h b hb;unfold Yk;rw[if_neg (by omega)];split at this
 ·rename_i x hx;exact VH _ _ this ρ
 ·cases this
theorem Jnv {c:Nat} {p e:E} {j:Nat} {x:E} (h:fit c p e=some (some (j,x))):c≤j:=by
 unfold fit at h;split at h
 ·split at h
  ·rename_i hc;split at h
   ·simp only[JrD,JrV] at h;obtain⟨rfl,_⟩:=h;exact hc
   ·cases h
  ·exact absurd (Vp (ρ:=fun _=> .i 0) (ρ':=fun _=> .i 0) h (fun _ _=>rfl)).1 (by simp)
 ·exact absurd (Vp (ρ:=fun _=> .i 0) (ρ':=fun _=> .i 0) h (fun _ _=>rfl)).1 (by simp)
theorem JgL {c:Nat} {ρ:Env} {l:List (E×E)} {bs:List (Nat×E)} (h:Jjq c l=some bs) (hc:JaH bs=true) {q:E×E} (hq:q∈l) :
  dat (Yk c ρ bs) q.1=dat ρ q.2:=by
 obtain⟨r,h1,h2⟩:=Jc4 l bs h q hq;refine Joc h1 (JgW c ρ bs) fun j x hr=>?_;subst hr;exact Jlu hc (h2 _ rfl) (Jnv h1)
inductive RSh where | one (s:Sh) | tup (ss:List Sh)
def Sh.leaves:Sh→List Sh1
 | .one a=>[a]
 | .g as=>as
 | .q as=>as
def RSh.leaves:RSh→List Sh1
 | .one s=>s.leaves
 | .tup ss=>ss.flatMap Sh.leaves
structure JjM where
 pars:List Sh
 res:RSh
 flat:Bool
structure Ql where
 args:List SV
 objs:List Je
 ins:List Sh1
 res:SV
 robjs:List Je
 outs:List Sh1
 flat:Bool:=false
inductive Sig where | d (s:JjM) | x (s:Ql) | b (f:FuncId) (s:Ql) | h
def Jj:List Sh→List D→Option (List D)
 | [],[]=>some []
 | .one _::ss,d::ds=>(Jj ss ds).map (d :: ·)
 | .g as::ss,.g cs::ds=>if cs.length=as.length then(Jj ss ds).map (cs ++ ·) else none
 | _,_=>none
def QP:List Sh→List D→Option (List D)
 | [],[]=>some []
 | .one _::ss,d::ds=>if d.one then(QP ss ds).map (d :: ·) else none
 | .g as::ss,ds=>if as.length≤ds.length then(QP ss (ds.drop as.length)).map (.g (ds.take as.length) :: ·) else none
 | _,_=>none
def Yx:RSh→List D→Option D
 | .one (.one _),[d]=>if d.one then some d else none
 | .one (.g as),ds=>if ds.length=as.length then some (.g ds) else none
 | .tup ss,ds=>(QP ss ds).map .t
 | _,_=>none
def Sh.sv:Sh→Nat→SV
 | .one a,n=> .d (a.expr n)
 | .g as,n=> .g ((Ju as n).map .d)
 | .q as,n=> .d (.q (JO (Ju as n)))
def svs:List Sh→Nat→List SV
 | [],_=>[]
 | s::ss,n=>s.sv n::svs ss (n+s.leaves.length)
def RSh.sv:RSh→Nat→SV
 | .one s,n=>s.sv n
 | .tup ss,n=> .t (svs ss n)
def noQ:Sh→Bool
 | .q _=>false
 | _=>true
def RSh.ok:RSh→Bool
 | .one s=>noQ s
 | .tup ss=>ss.all noQ
theorem KT :∀(as bs:List Sh1) (n:Nat),Ju (as++bs) n=Ju as n++Ju bs (n+as.length)
 | [],bs,n=>by simp[Ju]
 | a::as,bs,n=>by
  simp only[List.cons_append,Ju,KT as bs (n+1),List.length_cons];rw[show n+1+as.length=n+(as.length+1) by omega]
theorem Jhx {x:D} (h:x.one=true):X.ofD1 x = .d x:=by
 cases x with
 | g=>cases h
 | _=>rfl
theorem Jf5 {x:D} (h:x.one=true):X.ofD x = .d x:=by
 cases x with
 | g=>cases h
 | t=>cases h
 | _=>rfl
theorem JaK (ρ:Env) :∀(ss:List Sh) (n:Nat),ss.all noQ=true→∃ ds,QP ss ((Ju (ss.flatMap Sh.leaves) n).map (dat ρ))=some ds∧ds.map X.ofD1=γXs ρ (svs ss n)
 | [],n,_=>⟨[],rfl,rfl⟩
 | .one a::ss,n,h=>by
  simp only[List.all_cons,JrE] at h;obtain⟨ds,h1,h2⟩:=JaK ρ ss (n+1) h.2;have ho:=JL (YK a n) ρ;refine⟨dat ρ (a.expr n)::ds,?_,?_⟩
  ·show QP (.one a::ss) (dat ρ (a.expr n)::(Ju (ss.flatMap Sh.leaves) (n+1)).map (dat ρ))=_;simp only[QP,ho,if_true,h1,JrG]
  ·simp only[JrM,svs,γXs,Sh.sv,γX,Jhx ho];rw[h2];rfl
 | .g as::ss,n,h=>by
  simp only[List.all_cons,JrE] at h;obtain⟨ds,h1,h2⟩:=JaK ρ ss (n+as.length) h.2;refine⟨.g ((Ju as n).map (dat ρ))::ds,?_,?_⟩
  ·simp only[List.flatMap_cons,Sh.leaves,KT,List.map_append,QP];rw[if_pos (by simp[QB]),List.drop_left' (by simp[QB]),List.take_left' (by simp[QB]),h1];rfl
  ·simp only[JrM,svs,γXs,Sh.sv,γX,X.ofD1,Jr,VK,Sh.leaves];rw[h2,Jr]
 | .q as::ss,n,h=>by simp[noQ] at h
theorem JlF (ρ:Env) (r:RSh) (n:Nat) (h:r.ok=true) : ∃ d,Yx r ((Ju r.leaves n).map (dat ρ))=some d∧X.ofD d=γX ρ (r.sv n):=by
 cases r with
 | one s =>
  cases s with
  | one a =>
   have ho:=JL (YK a n) ρ;refine⟨dat ρ (a.expr n),?_,?_⟩
   ·show Yx (.one (.one a)) [dat ρ (a.expr n)]=_;simp only[Yx,ho,if_true]
   ·simp only[RSh.sv,Sh.sv,γX,Jf5 ho]
  | g as =>
   refine⟨.g ((Ju as n).map (dat ρ)),?_,?_⟩
   ·simp only[RSh.leaves,Sh.leaves,Yx,JrN,QB,if_true]
   ·simp only[RSh.sv,Sh.sv,γX,X.ofD,X.ofD1,Jr,VK]
  | q as=>cases h
 | tup ss =>
  obtain⟨ds,h1,h2⟩:=JaK ρ ss n h;refine⟨.t ds,?_,?_⟩
  ·simp only[RSh.leaves,Yx,h1,JrG]
  ·simp only[RSh.sv,γX,X.ofD,h2]
def Vw:Sh1→Bool
 | .i _ | .b=>true
 | _=>false
theorem Jde (ρ:Env) :∀(as:List Sh1) (n:Nat),as.all Vw=true→Jy ((Ju as n).map (dat ρ))=true
 | [],n,_=>rfl
 | a::as,n,h=>by
  simp only[List.all_cons,JrE] at h;simp only[Ju,JrM,Jy,Jde ρ as (n+1) h.2,Bool.and_true];cases a <;> first | rfl | (exact absurd h.1 (by simp[Vw]))
theorem Jdu :∀(n:Nat) (ds:List D),Jy ds=true→Jy (ds.take n)=true∧Jy (ds.drop n)=true
 | 0,ds,h=>⟨by simp[Jy],by simpa using h⟩
 | n+1,[],h=>⟨rfl,rfl⟩
 | n+1,d::ds,h=>by
  simp only[Jy,JrE] at h;obtain⟨h1,h2⟩:=Jdu n ds h.2;exact⟨by simp only[List.take_succ_cons,Jy,h.1,h1,Bool.and_self],by simpa using h2⟩
theorem U5 :∀(ss:List Sh) (ls ds:List D),QP ss ls=some ds→Jy ls=true→Jy ds=true
 | [],[],ds,h,_=>by simp only[QP,JrD] at h;subst h;rfl
 | [],_::_,ds,h,_=>by simp[QP] at h
 | .one a::ss,[],ds,h,_=>by simp[QP] at h
 | .one a::ss,d::ls,ds,h,hf=>by
  simp only[Jy,JrE] at hf;simp only[QP] at h;split at h
  ·cases hs:QP ss ls with
   | none=>simp[hs] at h
   | some ds' =>
    simp only[hs,JrG,JrD] at h;subst h;simp only[Jy,hf.1,U5 ss ls ds' hs hf.2,Bool.and_self]
  ·cases h
 | .g as::ss,ls,ds,h,hf=>by
  simp only[QP] at h;split at h
  ·cases hs:QP ss (ls.drop as.length) with
   | none=>simp[hs] at h
   | some ds' =>
    simp only[hs,JrG,JrD] at h;subst h;obtain⟨h1,h2⟩:=Jdu as.length ls hf;simp only[Jy,flat,h1,U5 ss _ ds' hs h2,Bool.and_self]
  ·cases h
 | .q as::ss,ls,ds,h,hf=>by simp[QP] at h
theorem Jh2 {r:RSh} {ls:List D} {d:D} (h:Yx r ls=some d) (hf:Jy ls=true):flat d=true:=by
 unfold Yx at h;split at h
 ·split at h
  ·simp only[JrD] at h;subst h;simpa[Jy] using hf
  ·cases h
 ·split at h
  ·simp only[JrD] at h;subst h;simpa[flat] using hf
  ·cases h
 ·rename_i ss;cases hs:QP ss ls with
  | none=>simp[hs] at h
  | some ds =>
   simp only[hs,JrG,JrD] at h;subst h;simp only[flat];exact U5 _ _ _ hs hf
 ·cases h
def dspec (s:JjM) (F:List D→Option (List D)) (ds:List D):Option D :=
 (Jj s.pars ds).bind fun ls=>(F ls).bind fun os=>Yx s.res os
def Jw:List Sh→List E→Option (List E)
 | [],[]=>some []
 | .one _::ss,e::es=>(Jw ss es).map (e :: ·)
 | .g as::ss,.g l::es=>match l.list with
  | some cs=>if cs.length=as.length then(Jw ss es).map (cs ++ ·) else none
  | none=>none
 | _,_=>none
theorem UU (ρ : Env) : ∀ (ss : List Sh) (es ls : List E),Jw ss es = some ls → Jj ss (es.map (dat ρ)) = some (ls.map (dat ρ))
  | [],[],ls,h=>by simp only[Jw,JrD] at h;subst h;rfl
  | [],_::_,ls,h=>by simp[Jw] at h
  | .one a::ss,[],ls,h=>by simp[Jw] at h
  | .one a::ss,e::es,ls,h=>by
    simp only[Jw] at h
    cases hs:Jw ss es with
    | none=>simp[hs] at h
    | some ls' =>
      simp only[hs,JrG,JrD] at h;subst h
      simp only[JrM,Jj,UU ρ ss es ls' hs,JrG]
  | .g as::ss,es,ls,h=>by
    match es,h with
    | .g l::es,h =>
      simp only[Jw] at h
      split at h
      · rename_i cs hl
        split at h
        · rename_i hlen
          cases hs:Jw ss es with
          | none=>simp[hs] at h
          | some ls' =>
            simp only[hs,JrG,JrD] at h;subst h
            show Jj (.g as::ss) (D.g (lst ρ l)::es.map (dat ρ))=_
            simp only[Jj,XP ρ _ _ hl,JrN,hlen,if_true,UU ρ ss es ls' hs,JrG,List.map_append]
        · cases h
      · cases h
  | .q as::ss,es,ls,h=>by cases es <;> simp[Jw] at h
section
variable {B:Tb} {ρ:Env}
def JbM:Nat→SV→SMP E
 | 0,_=> .fail
 | _+1,.d e=>if e.isOne then .ret e.norm else .fail
 | _+1,.o k l=> .get k fun
  | .arr _ _ l' _ _=>if l.lsame l' then .ret (.s l') else .ask (fun _=> .chk (.cmp .eq (.len l) (.len l'))) 0 fun _=> .ret (.s l')
  | _=> .fail
 | n+1,.p k off=> .get k fun
  | .box cs=>if off<cs.length then(spurs n (cs.drop off)).bind fun ds=> .ret (.q (JO ds)) else .fail
  | _=> .fail
 | n+1,.f fn cs=>if cs.all Ji0 then(spurs n cs).bind fun ds=> .ret (.fn fn (JO ds)) else .fail
 | n+1,.g cs=>(spurs n cs).bind fun ds=> .ret (.g (JO ds))
 | _+1,_=> .fail
where
 spurs:Nat→List SV→SMP (List E)
 | _,[]=> .ret []
 | 0,_=> .fail
 | n+1,x::xs=>(JbM n x).bind fun d=>(spurs n xs).bind fun ds=> .ret (d::ds)
def fEs (ρ:Env) (l:List E):List D:=l.map (dat ρ)
mutual
theorem JoQ :∀(n:Nat) (v:SV),(JbM n v).Ok B ρ (dat ρ) (pur n (γX ρ v))
 | 0,v=>trivial
 | n+1,.d e=>by
  simp only[JbM];split
  ·rename_i h;simp only[γX,pur,SMP.Ok,YU h]
  ·trivial
 | n+1,.o k l=>by
  refine⟨_,rfl,fun o=>?_⟩;cases o with
  | arr ty sz l' dp rw =>
   simp only[γO];split
   ·rename_i h;rw[if_pos (lL1 h ρ)];rfl
   ·intro n hn;have h:decide (((lst ρ l).length:Int)=((lst ρ l').length:Int))=true:=hn;have h:((lst ρ l).length:Int)=((lst ρ l').length:Int):=by simpa using h
    have h:(lst ρ l).length=(lst ρ l').length:=by omega
    rw[if_pos h];rfl
  | _=>trivial
 | n+1,.p k off=>by
  refine⟨_,rfl,fun o=>?_⟩;cases o with
  | box cs =>
   simp only[γO,Jr,JrN];split
   ·rw[←List.map_drop];refine SMP.bind_ok (f:=fEs ρ) (fun ds=>?_) _ _ (Zq n (cs.drop off));show MP.ret _=MP.ret (D.q (lst ρ (JO ds)));rw[Jv];rfl
   ·trivial
  | _=>trivial
 | n+1,.f fn cs=>by
  simp only[JbM,γX,pur];split
  ·rename_i h;rw[if_pos (by rw[Jr];exact Jao h ρ),Jr];refine SMP.bind_ok (f:=fEs ρ) (fun ds=>?_) _ _ (Zq n cs);show MP.ret _=MP.ret (D.f fn (lst ρ (JO ds)));rw[Jv];rfl
  ·trivial
 | n+1,.g cs=>by
  simp only[JbM,γX,pur,Jr];refine SMP.bind_ok (f:=fEs ρ) (fun ds=>?_) _ _ (Zq n cs);show MP.ret _=MP.ret (D.g (lst ρ (JO ds)));rw[Jv];rfl
 | n+1,.e _ _ _ _=>trivial
 | n+1,.t _=>trivial
 | n+1,.u=>trivial
theorem Zq :∀(n:Nat) (vs:List SV),(JbM.spurs n vs).Ok B ρ (fEs ρ) (pur.purs n (vs.map (γX ρ)))
 | 0,[]=>rfl
 | n+1,[]=>rfl
 | 0,_::_=>trivial
 | n+1,v::vs=>by
  show SMP.Ok B ρ (fEs ρ) ((JbM n v).bind fun d=>(JbM.spurs n vs).bind fun ds=> .ret (d::ds)) ((pur n (γX ρ v)).bind fun d=>(pur.purs n (vs.map (γX ρ))).bind fun ds=> .ret (d::ds));refine SMP.bind_ok (f:=dat ρ) (fun d=>?_) _ _ (JoQ n v);refine SMP.bind_ok (f:=fEs ρ) (fun ds=>?_) _ _ (Zq n vs);rfl
end
mutual
def Jeq:SV→SMP E
 | .d e=>if e.isOne then .ret e.norm else .fail
 | .g cs=>(JaL cs).bind fun ds=> .ret (.g (JO ds))
 | .f fn cs=>if cs.all Ji0 then(JaL cs).bind fun ds=> .ret (.fn fn (JO ds)) else .fail
 | .o k l=> .get k fun
  | .arr ty sz l' _ _=>if l.lsame l' then .put k (.arr ty sz l' false false) (.ret (.s l')) else .fail
  | _=> .fail
 | _=> .fail
def JaL:List SV→SMP (List E)
 | []=> .ret []
 | c::cs=>(Jeq c).bind fun d=>(JaL cs).bind fun ds=> .ret (d::ds)
end
mutual
theorem JhS :∀(v:SV),(Jeq v).Ok B ρ (dat ρ) (take (γX ρ v))
 | .d e=>by
  simp only[Jeq];split
  ·rename_i h;simp only[γX,take,SMP.Ok,YU h]
  ·trivial
 | .o k l=>by
  refine⟨_,rfl,fun o=>?_⟩;cases o with
  | arr ty sz l' dp rw =>
   simp only[γO];split
   ·rename_i h;rw[if_pos (lL1 h ρ)];exact⟨_,rfl,rfl⟩
   ·trivial
  | _=>trivial
 | .g cs=>by
  simp only[Jeq,γX,take,Jr];refine SMP.bind_ok (f:=fEs ρ) (fun ds=>?_) _ _ (VM cs);show MP.ret _=MP.ret (D.g (lst ρ (JO ds)));rw[Jv];rfl
 | .f fn cs=>by
  simp only[Jeq,γX,take];split
  ·rename_i h;rw[if_pos (by rw[Jr];exact Jao h ρ),Jr];refine SMP.bind_ok (f:=fEs ρ) (fun ds=>?_) _ _ (VM cs);show MP.ret _=MP.ret (D.f fn (lst ρ (JO ds)));rw[Jv];rfl
  ·trivial
 | .p _ _=>trivial
 | .e _ _ _ _=>trivial
 | .t _=>trivial
 | .u=>trivial
theorem VM :∀(vs:List SV),(JaL vs).Ok B ρ (fEs ρ) (Jcp (vs.map (γX ρ)))
 | []=>rfl
 | v::vs=>by
  simp only[JaL,JrM,Jcp];refine SMP.bind_ok (f:=dat ρ) (fun d=>?_) _ _ (JhS v);refine SMP.bind_ok (f:=fEs ρ) (fun ds=>?_) _ _ (VM vs);rfl
end
end
end Go.Tm
end

import Derived.Test.YtngcnclchcahlabGreatDoorTc
import Derived.IntWalk
import Derived.ChangeSame
import Derived.JoinedOf
import Derived.JoinedAt
import Derived.RowKit3
import Derived.ProofKit
import Derived.ChangeSlices
import Derived.Carry
import Derived.Lib.LaidTab
import Derived.Lib.ItoaNum
import Derived.Lib.Itoa
import Derived.LaidMore
import Derived.MakeChecks
import Derived.Stop.LaidErr
set_option linter.unusedVariables false
set_option linter.unusedSimpArgs false
section
open Go.RowKit
namespace Go.Tm
open Go.IntKind (i64)
def Z0 (i:Nat):List SV→SSl
 | []=>[]
 | v::vs=>(i,v)::Z0 (i+1) vs
theorem WD :∀(vs:List SV) (a t:Nat),(Z0 a vs).lookup t=if a≤t then vs[t-a]? else none
 | [],a,t=>by simp[Z0]
 | v::vs,a,t=>by
  simp only[Z0,List.lookup_cons]
  by_cases h:t=a
  ·subst h;simp
  ·have hb:(t == a)=false:=by simpa using h
   rw[hb,WD vs (a+1) t]
   by_cases hlt:a≤t
   ·have e:t-a=(t-(a+1))+1:=by omega
    rw[if_pos (by omega),if_pos hlt,e,List.getElem?_cons_succ]
   ·rw[if_neg (by omega),if_neg hlt]
theorem JlO (ρ:Env) (vs:List SV) (t:Nat):γs ρ (Z0 0 vs) t=(γXs ρ vs).getD t .u:=by
 unfold γs;rw[WD];simp only[Nat.zero_le,if_true,Nat.sub_zero,Jx,Ju3,Jvl];cases vs[t]? <;> rfl
def Jlj (sl:SSl) (t:Tmp):SV:=match sl.lookup t with
 | some v=>v
 | none=> .u
def Jb6 (P:Program) (sl:SSl):List ResultVar→SMP (List SV)
 | []=> .ret []
 | .tmp t::rs=>(Jb6 P sl rs).bind fun xs=> .ret (Jlj sl t::xs)
 | .cell a t::rs=>(JgM P t (Jlj sl a)).bind fun x=>(Jb6 P sl rs).bind fun xs=> .ret (x::xs)
def JeV:Nat:=999999
def Kh:List Sh→List E→Bool
 | [],[]=>true
 | .one _::ss,e::es=>e.isOne&&Kh ss es
 | .g _::ss,.g _::es=>Kh ss es
 | _,_=>false
def RSh.list:RSh→List Sh
 | .one s=>[s]
 | .tup ss=>ss
def RSh.many:RSh→Bool
 | .tup ss=>ss.length != 1
 | _=>true
def Jp2 (P:Program) (fn:Func) (r:RSh) (H:Kr) (s:SSt) (n:Nat):Option R :=
 let s:=Y9 H.own JeV s
 match ((Jb6 P s.sl fn.results.toList).bind fun xs=>Jcs.spurs 40 xs).run s.m n with
 | some q=>if Kh r.list q.val&&r.many then match JE r.list q.val with
   | some ls=>some (JaD q.is (.done ls))
   | none=>none
  else none
 | none=>none
def sxD (P:Program) (sg:FuncId→Option Sig) (s:Jkr) (H:Kr) (fn:Func) (C:Code):Option R :=
 sxC P sg H C ⟨Z0 0 (svs s.pars 0),[]⟩ (s.pars.flatMap Sh.leaves).length fun o st n=>match o with
  | .exit _=>none
  | _=>Jp2 P fn s.res H st n
noncomputable def ZF (B:Tb) (N:Nat) (ins:List Sh1) (r:R) (ls:List D):Option (List D):=match X0 ins ls 0 (fun _=> .i 0) with
 | some ρ=>match JL B N r ρ with
  | some (.done ds)=>some ds
  | _=>none
 | none=>none
section
variable {B:Tb} {ρ:Env} {sg:FuncId→Option Sig} {P:Program} {N:Nat}
theorem Jhm (sl:SSl) (t:Tmp):γX ρ (Jlj sl t)=γs ρ sl t:=by
 unfold Jlj γs;cases sl.lookup t <;> rfl
theorem JaU {st:St} {sl:SSl} (hst:st.sl=γs ρ sl) :∀rs:List ResultVar,(Jb6 P sl rs).Ok B ρ (fXs ρ) (JgU P st rs)
 | []=>rfl
 | .tmp t::rs=>by
  simp only[Jb6,JgU];refine SMP.bind_ok (f:=fXs ρ) (fun xs=>?_) _ _ (JaU hst rs);simp only[SMP.Ok,fXs,Ju8,Jhm,hst]
 | .cell a t::rs=>by
  simp only[Jb6,JgU,hst,←Jhm];refine SMP.bind_ok (f:=γX ρ) (fun x=>?_) _ _ (Jfe t _);refine SMP.bind_ok (f:=fXs ρ) (fun xs=>?_) _ _ (JaU hst rs);rfl
theorem VM :∀(ss:List Sh) (ds ls:List D) (n:Nat),Js ss ds=some ls→(JB (ss.flatMap Sh.leaves) n).map (dat ρ)=ls→(∀a,Sh.one a∈ss→True)→γXs ρ (svs ss n)=ds.map X.ofD
 | [],[],ls,n,_,_,_=>rfl
 | [],_::_,ls,n,h,_,_=>by simp[Js] at h
 | .one a::ss,[],ls,n,h,_,_=>by simp[Js] at h
 | .one a::ss,d::ds,ls,n,h,he,hh=>by
  simp only[Js] at h;cases hs:Js ss ds with
  | none=>simp[hs] at h
  | some ls' =>
   simp only[hs,Ju2,JuZ] at h;subst h;have he:dat ρ (a.expr n)::(JB (ss.flatMap Sh.leaves) (n+1)).map (dat ρ)=d::ls':=he;simp only[List.cons.injEq] at he;have ih:=VM ss ds ls' (n+1) hs he.2 (fun _ _=>trivial);have ho:=Qc (Zg a n) ρ;rw[he.1] at ho;show X.d (dat ρ (a.expr n))::γXs ρ (svs ss (n+1))=X.ofD d::ds.map X.ofD;rw[ih,he.1,JgZ ho]
 | .g as::ss,ds,ls,n,h,he,hh=>by
  match ds,h with
  | .g cs::ds,h =>
   simp only[Js] at h;split at h
   ·rename_i hlen;cases hs:Js ss ds with
    | none=>simp[hs] at h
    | some ls' =>
     simp only[hs,Ju2,JuZ] at h;subst h;simp only[List.flatMap_cons,Sh.leaves,UB,List.map_append] at he;obtain⟨e1,e2⟩:=List.append_inj he (by simp[Xe,hlen]);have ih:=VM ss ds ls' (n+as.length) hs e2 (fun _ _=>trivial);show X.g (γXs ρ ((JB as n).map .d))::γXs ρ (svs ss (n+as.length))=_;rw[ih,Jx,Wj,e1];rfl
   ·cases h
 | .q as::ss,ds,ls,n,h,_,_=>by cases ds <;> simp[Js] at h
theorem W3 :∀(ss:List Sh) (es ls:List E),JE ss es=some ls→Kh ss es=true→Xy ss (ls.map (dat ρ))=some (es.map (dat ρ))
 | [],[],ls,h,_=>by simp only[JE,JuZ] at h;subst h;rfl
 | [],_::_,ls,h,_=>by simp[JE] at h
 | .one a::ss,[],ls,h,_=>by simp[JE] at h
 | .one a::ss,e::es,ls,h,ho=>by
  simp only[Kh,Ju0] at ho;simp only[JE] at h;cases hs:JE ss es with
  | none=>simp[hs] at h
  | some ls' =>
   simp only[hs,Ju2,JuZ] at h;subst h;simp only[Ju8,Xy,Qc ho.1 ρ,if_true,W3 ss es ls' hs ho.2,Ju2]
 | .g as::ss,es,ls,h,ho=>by
  match es,h with
  | .g l::es,h =>
   simp only[Kh] at ho;simp only[JE] at h;split at h
   ·rename_i cs hl;split at h
    ·rename_i hlen;cases hs:JE ss es with
     | none=>simp[hs] at h
     | some ls' =>
      simp only[hs,Ju2,JuZ] at h;subst h;simp only[List.map_append,Xy,Ju8];rw[if_pos (by simp[hlen]),List.drop_left' (by simp[hlen]),List.take_left' (by simp[hlen]),W3 ss es ls' hs ho];show some (D.g (cs.map (dat ρ))::es.map (dat ρ))=some (D.g (lst ρ l)::es.map (dat ρ));rw[YN ρ _ _ hl]
    ·cases h
   ·cases h
 | .q as::ss,es,ls,h,_=>by cases es <;> simp[JE] at h
theorem Wa :∀(ss:List Sh) (es:List E),Kh ss es=true→es.length=ss.length
 | [],[],_=>rfl
 | [],_::_,h=>by simp[Kh] at h
 | .one a::ss,[],h=>by simp[Kh] at h
 | .one a::ss,e::es,h=>by
  simp only[Kh,Ju0] at h;simp[Wa ss es h.2]
 | .g as::ss,[],h=>by simp[Kh] at h
 | .g as::ss,e::es,h=>by
  cases e with
  | g l=>simp only[Kh] at h;simp[Wa ss es h]
  | _=>simp[Kh] at h
 | .q as::ss,es,h=>by cases es <;> simp[Kh] at h
theorem Jb4 {fn:Func} {tmps:Array Value} {w:World} {vs:List Value} (h:(fn.results.toList.mapM (JnH tmps)).run P w = .ok vs w):(results fn tmps).run P w = .ok (JcX vs) w:=by
 have hres:results fn tmps=(fn.results.mapM (JnH tmps) >>= fun vs=>pure (if h:vs.size=1 then vs[0] else .tuple vs)):=by
  unfold results
  congr 2
 rw[hres,Sem.run_bind,Array.mapM_eq_mapM_toList,Sem.run_map,h]
 match vs with
 | []=>rfl
 | [v]=>rfl
 | u::v::l=>simp[JcX]
def fnOf (P:Program) (f:FuncId):Option (Func×Code):=match P.funcs[f]? with
 | some fn=>match fn.body with
  | some C => if fn.name != "runtime.NumGoroutine" && codeOk fn.ntmps C then some (fn, C) else none
  | none=>none
 | none=>none
theorem fnOf_ok {f : FuncId} {fn : Func} {C : Code} (h : fnOf P f = some (fn, C)) : P.funcs[f]? = some fn ∧ fn.body = some C ∧ fn.name ≠ "runtime.NumGoroutine" ∧ codeOk fn.ntmps C = true := by
 unfold fnOf at h;split at h
 ·rename_i fn' hf;split at h
  ·rename_i C' hb;split at h
   ·rename_i hc;simp only[JuZ,Jvh] at h;obtain⟨rfl,rfl⟩:=h;simp only[Ju0,bne_iff_ne,ne_eq] at hc;exact⟨hf,hb,hc.1,hc.2⟩
   ·cases h
  ·cases h
 ·cases h
theorem JdK {f:FuncId} {fn:Func} {C:Code} (h:fnOf P f=some (fn,C)) (args:Array Value) (w:World):(callFunc f args).run P w = .ok (.enter f args) w:=by
 obtain⟨hf,hb,hn,_⟩:=fnOf_ok h;unfold callFunc;simp[hf,hb,hn]
theorem Jpz {fn:Func} {r:RSh} {H:Kr} {s:SSt} {n:Nat} {R:R} {o:Oc} {c:Cx P} {g:Gh} {a:Act} {w:World} {g0:Gh} {m0:Mem} {w0:World} (h:Jp2 P fn r H s n=some R) (hr:Run B N R ρ o)
  (hS:Sim c g (γm ρ s.m) w) (hH:Jw c g (γm ρ s.m) w (γs ρ s.sl) a) (hC:Jf c g0 m0 w0 g (γm ρ s.m) w) :
  ∃ ds d v fp,o = .done ds∧Y7 r ds=some d∧(results fn a.tmps).run P w = .ok v w∧Rd w d v fp∧Jq2 c fp:=by
 unfold Jp2 at h;obtain⟨g',hS,hH,_⟩:=ZT JeV H.own s g hS hH hC;simp only at h;generalize Y9 H.own JeV s=s1 at *;split at h
 ·rename_i q hq;split at h
  ·rename_i hok;simp only[Ju0] at hok;split at h
   ·rename_i ls hls;simp only[JuZ] at h;subst h;obtain⟨his,hd⟩:=U8 _ _ _ hr;simp only[Run] at hd;subst hd;have hbind:((Jb6 P s1.sl fn.results.toList).bind fun xs=>Jcs.spurs 40 xs).Ok B ρ (fEs ρ) ((JgU P ⟨γs ρ s1.sl,γm ρ s1.m⟩ fn.results.toList).bind fun xs=>pur.purs 40 xs) :=
     SMP.bind_ok (f:=fXs ρ) (fun xs=>Kf 40 xs) _ _ (JaU rfl _)
    have hrun:=SMP.run_ok _ _ _ _ _ hbind hq his;rw[MP.runT_eq] at hrun;cases hr2:((JgU P ⟨γs ρ s1.sl,γm ρ s1.m⟩ fn.results.toList).bind fun xs=>pur.purs 40 xs).run (γm ρ s1.m) with
    | none=>rw[hr2] at hrun;cases hrun
    | some p =>
     obtain⟨ds,m2⟩:=p;rw[hr2] at hrun;simp only[Ju2,JuZ,Jvh] at hrun;obtain⟨xs,m1,h1,h2⟩:=MP.bind_some hr2;obtain⟨e1,vs,h3,h4⟩:=UL (st:=⟨γs ρ s1.sl,γm ρ s1.m⟩) (P:=P) hS hH _ xs m1 h1;subst e1;obtain⟨_,fp,h5,h6⟩:=X3 40 _ _ _ _ _ hS h4 h2;rw[hrun.1] at h5;have hres:=Jb4 h3;have hvl:=Jem _ _ _ h5;cases r with
     | one sh =>
      have hlen:q.val.length=1:=Wa _ _ hok.1
      match hqv:q.val,hlen with
      | [e],_ =>
       rw[hqv] at h5 hls hok hvl
       match vs,hvl with
       | [v],_ =>
        obtain⟨v',vs',f1,f2,ev,ef,hrd,h7⟩:=h5;simp only[List.cons.injEq] at ev;obtain⟨rfl,rfl⟩:=ev;refine⟨_,dat ρ e,v,f1,rfl,?_,hres,hrd,fun b hb=>h6 b (by rw[ef];simp[hb])⟩;cases sh with
        | one a =>
         simp only[RSh.list,JE,Ju2,JuZ] at hls;subst hls;simp only[RSh.list,Kh,Bool.and_true,Ju0] at hok;simp only[Ju8,List.map_nil,Y7,Qc hok.1 ρ,if_true]
        | g as =>
         cases e with
         | g l =>
          simp only[RSh.list,JE] at hls;split at hls
          ·rename_i cs hcs;split at hls
           ·rename_i hlen2;simp only[Ju2,JuZ,List.append_nil] at hls;subst hls;show (if(cs.map (dat ρ)).length=as.length then some (D.g (cs.map (dat ρ))) else none)=some (D.g (lst ρ l));rw[if_pos (by simpa using hlen2),YN ρ _ _ hcs]
           ·cases hls
          ·cases hls
         | _=>simp[RSh.list,JE] at hls
        | q as=>simp[RSh.list,JE] at hls
     | tup ss =>
      have hsp:=W3 ss q.val ls hls hok.1 (ρ:=ρ);have hne:ss.length≠1:=by simpa[RSh.many] using hok.2
      have hql:q.val.length=ss.length:=Wa _ _ hok.1;refine⟨_,.t (q.val.map (dat ρ)),.tuple vs.toArray,fp,rfl,by simp only[Y7,hsp,Ju2],?_,⟨vs,rfl,h5⟩,h6⟩;rw[hres]
      match vs,hvl with
      | [],_=>rfl
      | [v],hvl=>simp[fEs] at hvl;omega
      | u::v::l,_=>rfl
   ·cases h
  ·cases h
 ·cases h
theorem Jq4 (hB:BOk sg B) {Φ:Fix P} (hT:JlH P Φ (Ye sg B)) (hm:P.follows .mixedOrders=true) {s:Jkr} {H:Kr} (hnl:H.nl=0) {f:FuncId} {fn:Func} {C:Code} (hf:fnOf P f=some (fn,C)) {R:R} (hR:sxD P sg s H fn C=some R)
  (hw:R.wf (s.pars.flatMap Sh.leaves).length []=true):FnOk P Φ f (dspec s (ZF B N (s.pars.flatMap Sh.leaves) R)):=by
 obtain⟨hf1,hb,_,hk⟩:=fnOf_ok hf;refine⟨fun args w=>JdK hf args w,fun w ds vals fps r hΦ hr hFr=>?_⟩;refine calls_of_wp hf1 hb ?_;unfold dspec at hFr;cases hfl:Js s.pars ds with
 | none=>rw[hfl] at hFr;cases hFr
 | some ls =>
  rw[hfl,Jve] at hFr;cases hev:ZF B N (s.pars.flatMap Sh.leaves) R ls with
  | none=>rw[hev] at hFr;cases hFr
  | some os =>
   rw[hev,Jve] at hFr;unfold ZF at hev;split at hev
   ·rename_i ρ1 hbind;split at hev
    ·rename_i ds' heval;simp only[JuZ] at hev;subst hev;obtain⟨hl1,_,hl3⟩:=Yb _ _ _ _ _ hbind;obtain⟨ρ,hag,hrun⟩:=JbU _ _ _ _ _ heval hw;have hexp:=hl3 ρ (by simpa using hag);have hsv:=VM s.pars ds ls 0 hfl hexp (fun _ _=>trivial)
     let c:Cx P:={ w0:=w,A:=fps,par:=[],parA:=fun _ h=>by simp at h }
     let g:Gh:=⟨fun _=>none,fun _=>undef,fun _=>[],fun _=>none⟩
     have hmem:γm ρ []=fun _=>none:=rfl;have hMut :∀b,¬Mut g (fun _=>none) b:=fun b ⟨k,o,hk,_⟩=>by cases hk
     have hS:Sim c g (fun _=>none) w:=⟨⟨rfl,rfl,rfl,Nat.le_refl _,fun _ _ _=>rfl⟩,fun k cs hk=>(by cases hk),fun k ty sz es dp rw hk=>(by cases hk),fun k ty sz es hk=>(by cases hk),fun k o b hk=>(by cases hk),fun b k hb=>(by cases hb)⟩;have hlen:=Jem ds vals fps hr;have hH:Jw c g (fun _=>none) w (γs ρ (Z0 0 (svs s.pars 0))) { tmps:=vals.toArray++Array.replicate (fn.ntmps-vals.toArray.size) undef,defers:=[] }:=by
      intro t;rw[JlO,hsv];cases hd:ds[t]? with
      | none =>
       have:(ds.map X.ofD).getD t .u = .u:=by simp[hd]
       rw[this];trivial
      | some d =>
       obtain⟨v,f,h1,h2,h3⟩:=Jip ds vals fps t d hr hd;have e1:(ds.map X.ofD).getD t .u=X.ofD d:=by simp[hd]
       have hlt:t<vals.length:=(Ju1.1 h1).1;have e2:(vals.toArray++Array.replicate (fn.ntmps-vals.toArray.size) undef).getD t undef=v:=by
        rw[Array.getD_eq_getD_getElem?,Array.getElem?_append_left (by simpa using hlt)];simp[h1]
       rw[e1,e2];exact JnF d v f h2 fun b hb=>⟨hMut b,.inl (h3 b hb)⟩
     unfold sxD at hR;refine JnV (N:=N) hB ⟨Φ,⟨hΦ,fun _ _ hb=>by simp[c] at hb⟩,hT⟩ hm H (c:=c) (g0:=g) (m0:=fun _=>none) (w0:=w) (fun k hk=>absurd rfl hk) C ⟨Z0 0 (svs s.pars 0),[]⟩ _ _ R ρ _ _ w g _ hR hrun hS hH (.refl _ _ _ _) (JbZ (by simp;omega) C hk)
      fun ex s' n' R' ρ' a' w' g' _ _ hk' hr' hS' hH' hC' hd' _=>?_
     have fin:Jp2 P fn s.res H s' n'=some R'→a'.defers=[]∧∃ v,(results fn a'.tmps).run P w' = .ok v w'∧∃ val fp,Ending.returned v = .returned val∧Rd w' r val fp∧(∀b∈fp,b∈fps∨w.heap.size≤b)∧Below w.heap.size w w':=by
      intro hfin;obtain⟨ds2,d,v,fp,h1,h2,h3,h4,h5⟩:=Jpz hfin hr' hS' hH' hC';simp only[Oc.done.injEq] at h1;subst h1;rw[h2] at hFr;simp only[JuZ] at hFr;subst hFr;exact⟨hd',v,h3,v,fp,rfl,h4,h5,hS'.frame.os,hS'.frame.tape,hS'.frame.output,hS'.frame.size,fun k hk=>hS'.frame.block k hk (by simp[c])⟩
     cases ex with
     | norm=>exact fin hk'
     | ret=>exact fin hk'
     | exit id=>cases hk'
    ·cases hev
   ·cases hev
end
end Go.Tm
end
section
open Go.RowKit
namespace Go.Tm
open Go.IntKind (i64)
def JiR:List SV→SV
 | [x]=>x
 | xs=> .t xs
def JpT:List Sh1→List E→List E
 | a::as,x::xs=>(match a with | .i k=>E.vi k x | .b=> .vb x | .d=>x | .s=> .s x)::JpT as xs
 | _,_=>[]
def JfF:List Sh1→List E→Bool
 | [],[]=>true
 | a::as,x::xs=>(match a with | .d=>W0 x | _=>true)&&JfF as xs
 | _,_=>false
mutual
def prsV:SV→SV→List (Key×Key)
 | .o i _,.o k _=>[(i,k)]
 | .p i _,.p k _=>[(i,k)]
 | .g ps,.g vs=>JlA ps vs
 | .t ps,.t vs=>JlA ps vs
 | _,_=>[]
def JlA:List SV→List SV→List (Key×Key)
 | p::ps,v::vs=>prsV p v++JlA ps vs
 | _,_=>[]
end
def prsO:Option Ji→Option Ji→List (Key×Key)
 | some (.box ps),some (.box vs)=>JlA ps vs
 | _,_=>[]
def JlG (nl:Nat) (res:SV) (robjs:List Ji) (sv:SV) (m:Yg):List Key :=
 let a:=prsV res sv
 let b:=a++(List.range robjs.length).flatMap fun i=>prsO robjs[i]? (match Nat.blt i nl with | true=>m.lookup i | false=>match a.lookup i with | some k=>m.lookup k | none=>none)
 (List.range' nl (robjs.length-nl)).filterMap fun i=>b.lookup i
def JqR (P:Program) (fn:Func) (s:Q8) (H:Kr) (st:SSt) (n:Nat):Option R :=
 let st:=Y9 H.own JeV st
 match (Jb6 P st.sl fn.results.toList).run st.m n with
 | some q =>
  let sv:=JiR q.val
  let nl:=s.objs.length
  let L:=List.range nl++Yy [] ((JlG nl s.res s.robjs sv q.m).filter fun k=>nl≤k)
  let back:=fun i=>L.getD i 0
  let t:SSt:=⟨[(0,s.res.ren back)],L.zip (s.robjs.map (Ji.ren back))⟩
  if L.length=s.robjs.length∧(s.res.names++s.robjs.flatMap Ji.names).all (fun k=>Nat.blt k L.length)=true then
   match JcP 0 s.outs.length t (SSt.like nl t ⟨[(0,sv)],q.m⟩) nl with
   | some vs=>if JfF s.outs vs then some (JaD q.is (.done (JpT s.outs vs))) else none
   | none=>none
  else none
 | none=>none
def sxX (P:Program) (sg:FuncId→Option Sig) (s:Q8) (H:Kr) (fn:Func) (C:Code):Option R :=
 sxC P sg H C ⟨Z0 0 s.args,ZN 0 s.objs⟩ s.ins.length fun o st n=>match o with
  | .exit _=>none
  | _=>JqR P fn s H st n
def E.isVc:E→Bool
 | .vc _=>true
 | _=>false
theorem Jn4 {e:E} (h:e.isVc=true) (ρ ρ':Env):dat ρ e=dat ρ' e:=by
 cases e <;> first | rfl | cases h
def Q8.okIn (s:Q8):Bool :=
 let es:=JB s.ins 0
 (JeM s.args++s.objs.flatMap Ji.lv2).all fun e=>e.isVc||es.any fun x=>x.same e
section
variable {B:Tb} {ρ:Env} {sg:FuncId→Option Sig} {P:Program} {N:Nat}
theorem JlL {ρ ρ2:Env} :∀(as:List Sh1) (vs:List E) (n:Nat),JfF as vs=true→(∀j x,vs[j]? = some x→ρ2 (n+j)=den ρ x)→(JpT as vs).map (dat ρ)=(JB as n).map (dat ρ2)
 | [],[],n,_,_=>rfl
 | [],_::_,n,h,_=>by simp[JfF] at h
 | _::_,[],n,h,_=>by simp[JfF] at h
 | a::as,x::xs,n,h,hv=>by
  simp only[JfF,Ju0] at h;simp only[JpT,JB,Ju8];rw[JlL as xs (n+1) h.2 (fun j y hj=>by rw[←hv (j+1) y (by simpa using hj)];congr 1;omega)]
  congr 1
  have h0:ρ2 n=den ρ x:=hv 0 x rfl;cases a with
  | i k=>show D.v (.int k (den ρ x).int)=D.v (.int k (ρ2 n).int);rw[h0]
  | b=>show D.v (.bool (den ρ x).bool)=D.v (.bool (ρ2 n).bool);rw[h0]
  | s=>show D.s (den ρ x).lst=D.s (ρ2 n).lst;rw[h0]
  | d =>
   show dat ρ x=XM (ρ2 n).dat;rw[h0];show dat ρ x=XM (dat ρ x);have hn:=h.1;simp only at hn;have h1:x.isOne=true:=by
    unfold W0 at hn;split at hn
    ·cases hn
    ·exact hn
   rw[UA (Qc h1 ρ),Jbf hn]
mutual
theorem JhG {L:List Key} (hnd:L.Nodup) :∀v:SV,(∀k∈v.names,k<L.length)→(v.ren fun i=>L.getD i 0).ren (at? L)=v
 | .o k l,h=>by
  have hk:=h k (by simp[SV.names]);simp only[SV.ren]
  congr 1
  simp only[Ju3,Jvb hk,Option.getD_some];exact hnd.idxOf_getElem k hk
 | .p k off,h=>by
  have hk:=h k (by simp[SV.names]);simp only[SV.ren]
  congr 1
  simp only[Ju3,Jvb hk,Option.getD_some];exact hnd.idxOf_getElem k hk
 | .e k l i off,h=>by
  have hk:=h k (by simp[SV.names]);simp only[SV.ren]
  congr 1
  simp only[Ju3,Jvb hk,Option.getD_some];exact hnd.idxOf_getElem k hk
 | .g cs,h=>by simp only[SV.ren];rw[K7 hnd cs (fun k hk=>h k (by simpa[SV.names] using hk))]
 | .t cs,h=>by simp only[SV.ren];rw[K7 hnd cs (fun k hk=>h k (by simpa[SV.names] using hk))]
 | .f fn cs,h=>by simp only[SV.ren];rw[K7 hnd cs (fun k hk=>h k (by simpa[SV.names] using hk))]
 | .d e,h=>rfl
 | .u,h=>rfl
theorem K7 {L:List Key} (hnd:L.Nodup) :∀cs:List SV,(∀k∈Yj cs,k<L.length)→Jbi (at? L) (Jbi (fun i=>L.getD i 0) cs)=cs
 | [],_=>rfl
 | c::cs,h=>by
  simp only[Jbi];rw[JhG hnd c (fun k hk=>h k (by simp[Yj,hk])),K7 hnd cs (fun k hk=>h k (by simp[Yj,hk]))]
end
theorem Jno {L:List Key} (hnd:L.Nodup) (o:Ji) (h :∀k∈o.names,k<L.length):(o.ren fun i=>L.getD i 0).ren (at? L)=o:=by
 cases o with
 | box cs=>simp only[Ji.ren];rw[K7 hnd cs h]
 | _=>rfl
mutual
theorem Jfz (r:Key→Key) :∀v:SV,(v.ren r).names=v.names.map r
 | .o _ _=>rfl
 | .p _ _=>rfl
 | .e _ _ _ _=>rfl
 | .g cs=>by simp only[SV.ren,SV.names,Kg r cs]
 | .t cs=>by simp only[SV.ren,SV.names,Kg r cs]
 | .f _ cs=>by simp only[SV.ren,SV.names,Kg r cs]
 | .d _=>rfl
 | .u=>rfl
theorem Kg (r:Key→Key) :∀cs:List SV,Yj (Jbi r cs)=(Yj cs).map r
 | []=>rfl
 | c::cs=>by simp only[Jbi,Yj,List.map_append,Jfz r c,Kg r cs]
end
theorem Jkq (r:Key→Key) (o:Ji):(o.ren r).names=o.names.map r:=by
 cases o with
 | box cs=>exact Kg r cs
 | _=>rfl
theorem JqD {c:Cx P} {g:Gh} {w:World} {mt:Mem} {L:List Key} {os:List Obj} (hS:Sim c g mt w) (hos:L.mapM mt=some os) (hnd:L.Nodup) (hclo :∀k∈os.flatMap Obj.names,k∈L) :
  Sim c (g.lent L) (XA (JH 0 (os.map (Obj.ren (at? L))))) w ∧
   (∀b,Mut (g.lent L) (XA (JH 0 (os.map (Obj.ren (at? L))))) b→Mut g mt b) ∧
   (∀k∈L,XA (JH 0 (os.map (Obj.ren (at? L)))) (at? L k)=(mt k).map (Obj.ren (at? L))∧(g.lent L).bl (at? L k)=g.bl k∧(g.lent L).hd (at? L k)=g.hd k) ∧
   ∀x v,(∀k∈x.names,k∈L)→VX c g mt w x v→VX c (g.lent L) (XA (JH 0 (os.map (Obj.ren (at? L))))) w (x.ren (at? L)) v:=by
 obtain⟨hlen,hget⟩:=JaM L os hos;have hm :∀i,XA (JH 0 (os.map (Obj.ren (at? L)))) i=(L[i]?).bind fun k=>(mt k).map (Obj.ren (at? L)):=by
  intro i;simp only[XA,XL,Nat.zero_le,if_true,Nat.sub_zero,Jvl];cases hi:L[i]? with
  | none =>
   have:os[i]? = none:=by
    rw[List.getElem?_eq_none_iff] at hi ⊢;omega
   rw[this];rfl
  | some k =>
   rw[Jve,(hget i k hi).1]
 generalize XA (JH 0 (os.map (Obj.ren (at? L))))=mL at *;have hat :∀k∈L,mL (at? L k)=(mt k).map (Obj.ren (at? L))∧(g.lent L).bl (at? L k)=g.bl k∧(g.lent L).hd (at? L k)=g.hd k∧(g.lent L).fd (at? L k)=g.fd k:=by
  intro k hk;have:=KF hk;simp only[hm,at?,Gh.lent,this,Jve,Ju2,Option.getD_some,and_self]
 have hMut :∀b,Mut (g.lent L) mL b→Mut g mt b:=by
  rintro b ⟨i,o,hi,hrw,hb⟩;rw[hm] at hi;cases hL:L[i]? with
  | none=>simp[hL] at hi
  | some k =>
   simp only[hL,Jve] at hi;have e1:(g.lent L).bl i=g.bl k:=by simp only[Gh.lent,hL,Jve]
   have e2:(g.lent L).fd i=g.fd k:=by simp only[Gh.lent,hL,Ju2,Option.getD_some]
   cases hmk:mt k with
   | none=>simp[hmk] at hi
   | some o0 =>
    simp only[hmk,Ju2,JuZ] at hi;exact⟨k,o0,hmk,by rw[←JbL (ρ:=at? L) o0,hi];exact hrw,Vz hb e1 e2 (by rw[←hi,VZ])⟩
 have hF :∀fp,(∀b∈fp,b<w.heap.size)→Qf c g mt fp→Qf c (g.lent L) mL fp:=fun fp _ hf b hb =>
  ⟨fun h=>(hf b hb).1 (hMut b h),(hf b hb).2⟩
 have hPart:JoF c g mt w c (g.lent L) mL (at? L) (fun i=>L.getD i 0) (fun k=>k∈L):=by
  refine⟨fun i o hi=>?_,hat,fun k o hk hmk j hj=>hclo j ?_⟩
  ·rw[hm] at hi;cases hL:L[i]? with
   | none=>simp[hL] at hi
   | some k =>
    obtain⟨hlt,e⟩:=Ju1.1 hL;have:L.getD i 0=k:=by simp[hL]
    simp only[this];subst e;exact⟨List.getElem_mem hlt,hnd.idxOf_getElem i hlt⟩
  ·have:=KF hk;obtain⟨h1,h2⟩:=hget _ k this;rw[hmk] at h1;exact List.mem_flatMap.2 ⟨o,Ju7 h1.symm,hj⟩
 refine⟨hPart.sim hS hS.frame hF (fun k b hk how=>?_) (fun b i hb=>?_),hMut,fun k hk=>⟨(hat k hk).1,(hat k hk).2.1,(hat k hk).2.2.1⟩,
  fun x v hx hv=>Jev (K:=fun k=>k∈L) (fun k hk=>⟨(hat k hk).1,(hat k hk).2.1,(hat k hk).2.2.1⟩) hF x v hx hv⟩
 ·simp only[Gh.lent,how,Jve,hk,if_true];rfl
 ·simp only[Gh.lent] at hb;cases how:g.ow b with
  | none=>simp[how] at hb
  | some k =>
   simp only[how,Jve] at hb;split at hb
   ·exact hS.live b k how
   ·cases hb
theorem Jdt {α:Type} :∀(L:List Nat) (os:List α) (i:Nat) (k:Nat),L.Nodup→L.length=os.length→L[i]? = some k→(L.zip os).lookup k=os[i]?
 | [],os,i,k,_,_,h=>by simp at h
 | j::L,[],i,k,_,hl,h=>by simp at hl
 | j::L,o::os,0,k,hn,hl,h=>by simp at h;subst h;simp
 | j::L,o::os,i+1,k,hn,hl,h=>by
  simp only[List.nodup_cons] at hn;have hk:L[i]? = some k:=by simpa using h
  have hne:k≠j:=fun e=>by subst e;exact hn.1 (Ju7 hk)
  have hb:(k == j)=false:=by simpa using hne
  simp only[List.zip_cons_cons,List.lookup_cons,hb];rw[Jdt L os i k hn.2 (by simpa using hl) hk];simp
theorem JkZ {α:Type} {f:Key→Option α} :∀(L:List Key) (os:List α),L.length=os.length→(∀(i:Nat) (k:Key),L[i]? = some k→f k=os[i]?)→L.mapM f=some os
 | [],[],_,_=>rfl
 | [],_::_,h,_=>by simp at h
 | _::_,[],h,_=>by simp at h
 | k::L,o::os,h,hf=>by
  rw[List.mapM_cons,hf 0 k rfl,JkZ L os (by simpa using h) (fun i j hj=>by rw[hf (i+1) j (by simpa using hj)];simp)];rfl
theorem Jq1 (hB:BOk sg B) {Φ:Fix P} (hT:JlH P Φ (Ye sg B)) (hm:P.follows .mixedOrders=true) {s:Q8} (hs:s.ok=true) (hsi:s.okIn=true) {H:Kr} (hnl:H.nl=s.objs.length) {f:FuncId} {fn:Func} {C:Code} (hf:fnOf P f=some (fn,C))
  {R:R} (hR:sxX P sg s H fn C=some R) (hw:R.wf s.ins.length []=true):FnX P Φ f (YO s (ZF B N s.ins R)):=by
 obtain⟨hf1,hb,_,hk⟩:=fnOf_ok hf;refine⟨fun args w=>JdK hf args w,fun c g os m w xs vals x m1 hΦ hmem hw0 hS hv hspec=>?_⟩;refine calls_of_wp hf1 hb ?_;have hrel:=Wf hspec;obtain⟨ρ1,ρ0,hx,ho,hF,_⟩:=id hrel;cases hev:ZF B N s.ins R ((JB s.ins 0).map (dat ρ1)) with
 | none=>rw[hev] at hF;cases hF
 | some outs =>
  unfold ZF at hev;split at hev
  ·rename_i ρa hbind;split at hev
   ·rename_i ds' heval;simp only[JuZ] at hev;subst hev;obtain⟨_,_,hl3⟩:=Yb _ _ _ _ _ hbind;obtain⟨ρ,hag,hrun⟩:=JbU _ _ _ _ _ heval hw;have hexp:=hl3 ρ (by simpa using hag);have hleaf :∀e∈JeM s.args++s.objs.flatMap Ji.lv2,dat ρ e=dat ρ1 e:=by
     intro e he;rcases Bool.or_eq_true_iff.1 (Jvd.1 hsi e he) with hv | ha
     ·exact Jn4 hv _ _
     ·obtain⟨y,hy,hye⟩:=JdU ha;rw[←hye,←hye];exact List.map_inj_left.1 hexp y hy
    have hxs:γXs ρ s.args=xs:=by rw[hx];exact V0 _ fun e he=>hleaf e (by simp[he])
    have hos:s.objs.map (γO ρ)=os:=by
     rw[ho];exact Jvm fun o hom=>Jk7 o fun e he=>hleaf e (List.mem_append_right _ (List.mem_flatMap.2 ⟨o,hom,he⟩))
    have hm0:γm ρ (ZN 0 s.objs)=m:=by rw[JcO,hos,hmem]
    have hl :∀k,m k≠none→k<H.nl:=by
     intro k hk';rw[hmem] at hk';unfold XA at hk';rw[XL] at hk';simp only[Nat.zero_le,if_true,Nat.sub_zero] at hk';have:=(Ju1.1 (Option.ne_none_iff_exists'.1 hk').choose_spec).1;rw[←hos,Ju9] at this;rw[hnl];exact this
    have hH:Jw c g m w (γs ρ (Z0 0 s.args)) { tmps:=vals.toArray++Array.replicate (fn.ntmps-vals.toArray.size) undef,defers:=[] }:=by
     intro t;rw[JlO,hxs];cases hd:xs[t]? with
     | none =>
      have:xs.getD t .u = .u:=by simp[hd]
      rw[this];trivial
     | some y =>
      obtain⟨v,h1,h2⟩:=Jnt xs vals t y hv hd;have e1:xs.getD t .u=y:=by simp[hd]
      have hlt:t<vals.length:=(Ju1.1 h1).1;have e2:(vals.toArray++Array.replicate (fn.ntmps-vals.toArray.size) undef).getD t undef=v:=by
       rw[Array.getD_eq_getD_getElem?,Array.getElem?_append_left (by simpa using hlt)];simp[h1]
      rw[e1,e2];exact h2
    unfold sxX at hR;rw[←hm0] at hS hH;refine JnV (N:=N) hB ⟨Φ,hΦ,hT⟩ hm H (c:=c) (g0:=g) (m0:=m) (w0:=w) hl C ⟨Z0 0 s.args,ZN 0 s.objs⟩ _ _ R ρ _ _ w g _ hR hrun hS hH (by rw[hm0];exact .refl _ _ _ _) (JbZ (by simp;omega) C hk)
     fun ex s' n' R' ρ' a' w' g' _ _ hk' hr' hS' hH' hC' hd' _=>?_
    have fin:JqR P fn s H s' n'=some R'→a'.defers=[]∧∃ v,(results fn a'.tmps).run P w' = .ok v w'∧∃ v' g',Ending.returned v = .returned v'∧Sim c g' m1 w'∧Jf c g m w g' m1 w'∧VX c g' m1 w' x v':=by
     intro h;unfold JqR at h;obtain⟨g2,hS2,hH2,hC2⟩:=ZT JeV H.own s' g' hS' hH' hC';simp only at h;generalize Y9 H.own JeV s'=s1 at *;split at h
     ·rename_i q hq;split at h
      ·rename_i hcond;obtain⟨hLl,hnm⟩:=hcond;split at h
       ·rename_i vs hvs;split at h
        ·rename_i hout;simp only[JuZ] at h;subst h;obtain⟨his,hd⟩:=U8 _ _ _ hr';simp only[Run,Oc.done.injEq] at hd;have hrunX:=SMP.run_ok _ _ _ _ _ (JaU (B:=B) (P:=P) (st:=⟨γs ρ' s1.sl,γm ρ' s1.m⟩) rfl fn.results.toList) hq his;rw[MP.runT_eq] at hrunX;cases hr2:(JgU P ⟨γs ρ' s1.sl,γm ρ' s1.m⟩ fn.results.toList).run (γm ρ' s1.m) with
         | none=>rw[hr2] at hrunX;cases hrunX
         | some p =>
          obtain⟨ys,m2⟩:=p;rw[hr2] at hrunX;simp only[Ju2,JuZ,Jvh] at hrunX;obtain⟨e1,vl,h3,h4⟩:=UL (st:=⟨γs ρ' s1.sl,γm ρ' s1.m⟩) (P:=P) hS2 hH2 _ ys m2 hr2;have e1:m2=γm ρ' s1.m:=e1;have hqm:γm ρ' q.m=γm ρ' s1.m:=by rw[←hrunX.2.1,e1]
          have h4:VXs c g2 (γm ρ' s1.m) w' ys vl:=h4;have hvx:VX c g2 (γm ρ' s1.m) w' (γX ρ' (JiR q.val)) (JcX vl):=by
           have hys:ys=q.val.map (γX ρ'):=hrunX.1;rw[hys] at h4;have hl:=Q2 _ _ h4
           match hqv:q.val,vl,hl,h4 with
           | [],[],_,h4=>exact⟨[],rfl,h4⟩
           | [z],[v],_,⟨v',vs',e,h6,_⟩=>cases e;exact h6
           | z::y::l,u::v::l',_,h5=>exact⟨_,rfl,by rw[Jx];exact h5⟩
          have hres:=Jb4 h3;generalize hL:List.range s.objs.length++Yy [] ((JlG s.objs.length s.res s.robjs (JiR q.val) q.m).filter fun k=>s.objs.length≤k)=L at *;have hnd:L.Nodup:=by
           rw[←hL];refine List.nodup_append.2 ⟨List.nodup_range,Kl _ _ List.nodup_nil,fun a ha b hb=>?_⟩;rw[List.mem_range] at ha;rcases (JaL _ _ _).1 hb with h | h
           ·simp at h
           ·have:=(List.mem_filter.1 h).2;simp at this;omega
          have hlt :∀k,k<s.objs.length→L[k]? = some k:=by
           intro k hk;rw[←hL,Jvr (by simpa using hk)];simp[hk]
          let act:Act:={ tmps:=#[JcX vl],defers:=[] }
          have hact:Jw c g2 (γm ρ' q.m) w' (γs ρ' [(0,JiR q.val)]) act:=by
           intro t;cases t with
           | zero=>rw[hqm];exact hvx
           | succ t=>trivial
          let ρ2:Env:=X6 0 (vs.map (den ρ')) fun _=> .i 0
          obtain⟨_,hset⟩:=JbD (vs.map (den ρ')) 0 (fun _=>V.i 0);obtain⟨g3,hS3,hH3,hC3⟩:=JgQ (nl:=s.objs.length) (by rw[←hnl];exact hl) ⟨[(0,s.res.ren fun i=>L.getD i 0)],L.zip (s.robjs.map (Ji.ren fun i=>L.getD i 0))⟩ (s:=⟨[(0,JiR q.val)],q.m⟩) (by rw[hqm];exact hS2) hact (by rw[hqm];exact hC2);obtain⟨q1,q2,q3⟩:=WQ (ρ':=ρ2) hvs (fun j hj=>absurd hj (by omega)) hset (by rw[←hnl];exact hl) hS3 hH3 hC3;have hv2:VX c g3 (γm ρ2 (L.zip (s.robjs.map (Ji.ren fun i=>L.getD i 0)))) w' (γX ρ2 (s.res.ren fun i=>L.getD i 0)) (JcX vl):=q2 0;have q1:Sim c g3 (γm ρ2 (L.zip (s.robjs.map (Ji.ren fun i=>L.getD i 0)))) w':=q1;have q3:Jf c g m w g3 (γm ρ2 (L.zip (s.robjs.map (Ji.ren fun i=>L.getD i 0)))) w':=q3;have houts:(JB s.outs 0).map (dat ρ2)=ds':=by
           rw[hd];refine(JlL s.outs vs 0 hout fun j y hj=>?_).symm;exact hset j (den ρ' y) (by rw[Jvl,hj];rfl)
          have hrel2:s.rel (ZF B N s.ins R) xs os (γX ρ2 s.res,γm ρ2 (ZN 0 s.robjs)):=by
           refine⟨ρ1,ρ2,hx,ho,?_,rfl⟩;unfold ZF;rw[hbind];simp only[heval,houts]
          have hone:=Q8.rel_one hs hrel hrel2;simp only[Jvh] at hone;obtain⟨ex,em⟩:=hone;have hnm :∀k∈s.res.names++s.robjs.flatMap Ji.names,k<L.length:=fun k hk=>Nat.lt_of_succ_le (Nat.le_of_ble_eq_true (Jvd.1 hnm k hk));have hosM:L.mapM (γm ρ2 (L.zip (s.robjs.map (Ji.ren fun i=>L.getD i 0))))=some ((s.robjs.map (Ji.ren fun i=>L.getD i 0)).map (γO ρ2)):=by
           refine JkZ L _ (by simpa using hLl) fun i k hi=>?_;simp only[γm];rw[Jdt L _ i k hnd (by simpa using hLl) hi];simp only[Jvl]
          have hrenamed:((s.robjs.map (Ji.ren fun i=>L.getD i 0)).map (γO ρ2)).map (Obj.ren (at? L))=s.robjs.map (γO ρ2):=by
           simp only[List.map_map];refine Jvm fun o hom=>?_;simp only[Function.comp,JaY];rw[Jno hnd o fun k hk=>hnm k (List.mem_append_right _ (List.mem_flatMap.2 ⟨o,hom,hk⟩))]
          have hgetD :∀j,j<L.length→L.getD j 0∈L:=fun j hj=>by
           simp only[Ju3,Jvb hj,Option.getD_some];exact List.getElem_mem hj
          have hclo :∀k∈((s.robjs.map (Ji.ren fun i=>L.getD i 0)).map (γO ρ2)).flatMap Obj.names,k∈L:=by
           intro k hk;rw[QD] at hk;obtain⟨o,hom,hko⟩:=List.mem_flatMap.1 hk;obtain⟨o',ho',rfl⟩:=List.mem_map.1 hom;rw[Jkq] at hko;obtain⟨j,hj,rfl⟩:=List.mem_map.1 hko;exact hgetD j (hnm j (List.mem_append_right _ (List.mem_flatMap.2 ⟨o',ho',hj⟩)))
          obtain⟨r1,r2,r3,r4⟩:=JqD q1 hosM hnd hclo;rw[hrenamed,←JcO,←em] at r1 r2 r3 r4;have hvf:=r4 _ _ (fun k hk=>by
           rw[K4,Jfz] at hk;obtain⟨j,hj,rfl⟩:=List.mem_map.1 hk;exact hgetD j (hnm j (by simp[hj]))) hv2
          rw[JdZ,JhG hnd _ (fun k hk=>hnm k (by simp[hk])),←ex] at hvf;refine⟨hd',JcX vl,hres,JcX vl,g3.lent L,rfl,r1,⟨q3.size,fun b h1 h2 h3=>⟨(q3.pure b h1 h2 h3).1,fun hm=>(q3.pure b h1 h2 h3).2 (r2 b hm)⟩,fun k cs hk=>?_,fun k ty sz es dp rw hk=>?_,fun k hk=>?_⟩,hvf⟩
          ·have hkl:k<s.objs.length:=by rw[←hnl];exact hl k (by rw[hk];simp)
           have hkL:=Ju7 (hlt k hkl);have hatk:at? L k=k:=by
            obtain⟨hlt',e⟩:=Ju1.1 (hlt k hkl);have:=hnd.idxOf_getElem k hlt';rw[e] at this;exact this
           obtain⟨⟨cs',e1⟩,e2⟩:=q3.box k cs hk;obtain⟨a1,a2,a3⟩:=r3 k hkL;rw[hatk] at a1 a2;exact⟨⟨U1 (at? L) cs',by rw[a1,e1];rfl⟩,a2.trans e2⟩
          ·have hkl:k<s.objs.length:=by rw[←hnl];exact hl k (by rw[hk];simp)
           have hkL:=Ju7 (hlt k hkl);have hatk:at? L k=k:=by
            obtain⟨hlt',e⟩:=Ju1.1 (hlt k hkl);have:=hnd.idxOf_getElem k hlt';rw[e] at this;exact this
           obtain⟨a1,a2,a3⟩:=r3 k hkL;rw[hatk] at a1 a2 a3;rcases q3.arr k ty sz es dp rw hk with e1 | ⟨es',dp',rw',e1,e2⟩
           ·exact .inl (by rw[a1,e1];rfl)
           ·exact .inr ⟨es',dp',rw',by rw[a1,e1];rfl,by rw[a2,a3];exact e2⟩
          ·have hkl:k<s.objs.length:=by rw[←hnl];exact hl k (by rw[hk];simp)
           have hkL:=Ju7 (hlt k hkl);have hatk:at? L k=k:=by
            obtain⟨hlt',e⟩:=Ju1.1 (hlt k hkl);have:=hnd.idxOf_getElem k hlt';rw[e] at this;exact this
           obtain⟨a1,a2,a3⟩:=r3 k hkL;rw[hatk] at a1;rw[a1,q3.dead k hk];rfl
        ·cases h
       ·cases h
      ·cases h
     ·cases h
    cases ex with
    | norm=>exact fin hk'
    | ret=>exact fin hk'
    | exit id=>cases hk'
   ·cases hev
  ·cases hev
end
end Go.Tm
end
section
namespace Go.Tm
open Go.IntKind (i64)
inductive Body where
 | r (h:Kr) (r:R)
 | m (F:List D→Option (List D))
structure Jc where
 sig:Sig
 body:Body
abbrev WO:=List (FuncId×Jc)
def UZ:Sig→List Sh1
 | .d s=>s.pars.flatMap Sh.leaves
 | .x s=>s.ins
def Vx (L:WO):FuncId→Option Sig:=fun f=>match L.lookup f with
 | some e=>some e.sig
 | none=>none
def arT (L:WO):FuncId→Option (List (Option Nat)):=fun f=>match L.lookup f with
 | some e=>match e.sig with
  | .d s=>Jri s
  | _=>none
 | none=>none
noncomputable def tbN (L:WO):Nat→Tb
 | 0=>{ call:=fun _ _=>none,ar:=arT L }
 | n+1=>{ call:=fun f=>match L.lookup f with
  | some ⟨s,.r _ r⟩=>ZF (tbN L n) n (UZ s) r
  | some ⟨_,.m F⟩=>F
  | none=>fun _=>none,ar:=arT L }
def JbC:Sig→Bool
 | .d s=>Jhz (.d s)
 | .x s=>s.ok&&s.okIn
def sxE (P:Program) (sg:FuncId→Option Sig) (f:FuncId) (s:Sig) (H:Kr):Option R:=match fnOf P f with
 | some (fn,C)=>if JbC s then match s with
  | .d s=>if H.nl == 0 then sxD P sg s H fn C else none
  | .x s=>if H.nl == s.objs.length then sxX P sg s H fn C else none
  else none
 | none=>none
def JiM (P:Program) (sg:FuncId→Option Sig) (f:FuncId) (e:Jc) (Φ:Fix P:= .none P):Prop:=match e with
 | ⟨s,.r H r⟩=>sxE P sg f s H=some r∧r.wf (UZ s).length []=true
 | ⟨s,.m F⟩=>JbC s=true∧(∀args w,(callFunc f args).run P w = .ok (.enter f args) w)∧match s with
  | .d s=>FnOk P Φ f (dspec s F)
  | .x s=>FnX P Φ f (YO s F)
def ZM (P:Program) (sg:FuncId→Option Sig) (l:WO) (Φ:Fix P:= .none P):Prop:=match l with
 | []=>True
 | (f,e)::l=>JiM P sg f e Φ∧ZM P sg l Φ
section
variable {P:Program} {L:WO} {Φ:Fix P}
theorem ZM.at_ {sg:FuncId→Option Sig} :∀{l:WO},ZM P sg l Φ→∀{f:FuncId} {e:Jc},l.lookup f=some e→JiM P sg f e Φ
 | (k,x)::l,⟨h1,h2⟩,f,e,h=>by
  simp only[List.lookup_cons] at h
  by_cases hf:f=k
  ·subst hf;simp at h;subst h;exact h1
  ·have hb:(f == k)=false:=by simpa using hf
   rw[hb] at h;exact ZM.at_ h2 h
theorem JiM.sig {sg:FuncId→Option Sig} {f:FuncId} {s:Sig} {b:Body} (h:JiM P sg f ⟨s,b⟩ Φ):JbC s=true:=by
 cases b with
 | m F=>exact h.1
 | r H r =>
  obtain⟨h,_⟩:=h;unfold sxE at h;split at h
  ·split at h
   ·assumption
   ·cases h
  ·cases h
theorem Joh {s:Sig} (h:JbC s=true):Jhz s=true:=by
 cases s with
 | d s=>exact h
 | x s=>simp only[JbC,Ju0] at h;exact h.1
theorem bOk (hL:ZM P (Vx L) L Φ) (n:Nat):BOk (Vx L) (tbN L n):=by
 refine⟨fun f s h=>?_,fun f a h=>?_⟩
 ·unfold Vx at h;split at h
  ·rename_i e he;simp only[JuZ] at h;subst h;obtain⟨s,b⟩:=e;exact Joh (hL.at_ he).sig
  ·cases h
 ·have har:(tbN L n).ar=arT L:=by cases n <;> rfl
  rw[har] at h;unfold arT at h;unfold Vx;split at h
  ·rename_i e he;split at h
   ·rename_i s hs;exact⟨s,by simp only[hs],h⟩
   ·cases h
  ·cases h
theorem JrH (hm:P.follows .mixedOrders=true) (hL:ZM P (Vx L) L Φ) :∀n,JlH P Φ (Ye (Vx L) (tbN L n)):=by
 have enter :∀f e,L.lookup f=some e→∀args w,(callFunc f args).run P w = .ok (.enter f args) w:=by
  intro f e he;obtain⟨s,b⟩:=e;have hg:=hL.at_ he;cases b with
  | m F=>exact hg.2.1
  | r H r =>
   obtain⟨h,_⟩:=hg;unfold sxE at h;split at h
   ·rename_i fn C hf;exact fun args w=>JdK hf args w
   ·cases h
 intro n
 induction n with
 | zero =>
  refine⟨fun f S h=>?_,fun f S h=>?_⟩
  ·unfold Ye Vx at h;simp only at h;cases he:L.lookup f with
   | none=>simp[he] at h
   | some e =>
    simp only[he] at h;split at h
    ·rename_i s hs;simp only[JuZ] at h;subst h;refine⟨enter f e he,fun w ds vals fps r _ _ hF=>?_⟩;unfold dspec at hF;cases hfl:Js s.pars ds with
     | none=>simp[hfl] at hF
     | some ls=>simp only[hfl,Jve] at hF;cases hF
    ·cases h
  ·unfold Ye Vx at h;simp only at h;cases he:L.lookup f with
   | none=>simp[he] at h
   | some e =>
    simp only[he] at h;split at h
    ·rename_i s hs;simp only[JuZ] at h;subst h;refine⟨enter f e he,fun c g os m w xs vals x m1 _ _ _ _ _ hsp=>?_⟩;obtain⟨_,_,_,_,hF,_⟩:=Wf hsp;cases hF
    ·cases h
 | succ n ih =>
  have hB:=bOk hL n;have hcall :∀f s H r,L.lookup f=some ⟨s,.r H r⟩→(tbN L (n+1)).call f=ZF (tbN L n) n (UZ s) r:=by
   intro f s H r he;show (match L.lookup f with
   | some ⟨s,.r _ r⟩=>ZF (tbN L n) n (UZ s) r
   | some ⟨_,.m F⟩=>F
   | none=>fun _=>none)=_
   rw[he]
  have hcallm :∀f s F,L.lookup f=some ⟨s,.m F⟩→(tbN L (n+1)).call f=F:=by
   intro f s F he;show (match L.lookup f with
   | some ⟨s,.r _ r⟩=>ZF (tbN L n) n (UZ s) r
   | some ⟨_,.m F⟩=>F
   | none=>fun _=>none)=_
   rw[he]
  refine⟨fun f S h=>?_,fun f S h=>?_⟩
  ·unfold Ye Vx at h;simp only at h;cases he:L.lookup f with
   | none=>simp[he] at h
   | some e =>
    simp only[he] at h;split at h
    ·rename_i s hs;simp only[JuZ] at h;subst h;obtain⟨s',b⟩:=e;simp only[JuZ] at hs;subst hs;have hg:=hL.at_ he;cases b with
     | m F=>rw[hcallm f _ F he];exact hg.2.2
     | r H r =>
      rw[hcall f _ H r he];obtain⟨h,hw⟩:=hg;unfold sxE at h;split at h
      ·rename_i fn C hf;split at h
       ·simp only at h;split at h
        ·rename_i hn;exact Jq4 hB ih hm (by simpa using hn) hf h hw
        ·cases h
       ·cases h
      ·cases h
    ·cases h
  ·unfold Ye Vx at h;simp only at h;cases he:L.lookup f with
   | none=>simp[he] at h
   | some e =>
    simp only[he] at h;split at h
    ·rename_i s hs;simp only[JuZ] at h;subst h;obtain⟨s',b⟩:=e;simp only[JuZ] at hs;subst hs;have hg:=hL.at_ he;cases b with
     | m F=>rw[hcallm f _ F he];exact hg.2.2
     | r H r =>
      rw[hcall f _ H r he];obtain⟨h,hw⟩:=hg;unfold sxE at h;split at h
      ·rename_i fn C hf;split at h
       ·rename_i hsig;simp only at h;split at h
        ·rename_i hn;simp only[JbC,Ju0] at hsig;exact Jq1 hB ih hm hsig.1 hsig.2 (by simpa using hn) hf h hw
        ·cases h
       ·cases h
      ·cases h
    ·cases h
end
end Go.Tm
end
section
namespace Go.Tm
open Go.IntKind (i64)
structure Tb.Le (B B':Tb):Prop where
 ar:B'.ar=B.ar
 call :∀f ds r,B.call f ds=some r→B'.call f ds=some r
theorem Tb.Le.refl (B:Tb):B.Le B:=⟨rfl,fun _ _ _ h=>h⟩
section
variable {B B':Tb} {N N':Nat} {L:WO}
theorem Jo7 (h:B.Le B') (x:I) (ρ ρ':Env) (he:X2 B x ρ=some ρ'):X2 B' x ρ=some ρ':=by
 cases x with
 | chk b=>exact he
 | head sz l=>exact he
 | fl l=>exact he
 | get e sh n=>exact he
 | idx l i sh n=>exact he
 | call f as rs n =>
  simp only[X2] at he ⊢;cases hc:B.call f (as.map (dat ρ)) with
  | none=>rw[hc] at he;cases he
  | some ds=>rw[hc] at he;rw[h.call _ _ _ hc];exact he
 | prim p as r n=>exact he
 | callv e as ar rs n =>
  simp only[X2] at he ⊢;split at he
  ·rename_i fn caps hd;split at he
   ·rename_i har;rw[h.ar,if_pos har];cases hc:B.call fn (as.map (dat ρ)++caps.map D.norm) with
    | none=>rw[hc] at he;cases he
    | some ds=>rw[hc] at he;rw[h.call _ _ _ hc];exact he
   ·cases he
  ·cases he
theorem Jd6 {f f':List V→Option Oc} (h :∀vs o,f vs=some o→f' vs=some o) :∀(n n':Nat) (vs:List V) (o:Oc),n≤n'→UO f n vs=some o→UO f' n' vs=some o
 | 0,_,_,_,_,he=>by cases he
 | n+1,0,_,_,hn,_=>by omega
 | n+1,n'+1,vs,o,hn,he=>by
  simp only[UO] at he ⊢;cases hf:f vs with
  | none=>rw[hf] at he;cases he
  | some o1 =>
   rw[hf] at he;rw[h _ _ hf];cases o1 with
   | next vs'=>exact Jd6 h n n' vs' o (by omega) he
   | esc o'=>exact he
   | done ds=>cases he
theorem QG (h:B.Le B') (hn:N≤N') :∀(r:R) (ρ:Env) (o:Oc),JL B N r ρ=some o→JL B' N' r ρ=some o
 | .i x r,ρ,o,he=>by
  simp only[JL] at he ⊢;cases hx:X2 B x ρ with
  | none=>rw[hx] at he;cases he
  | some ρ' =>
   rw[hx] at he;rw[Jo7 h x ρ ρ' hx];exact QG h hn r ρ' o he
 | .ite b x y,ρ,o,he=>by
  simp only[JL] at he ⊢;cases hb:bol ρ b with
  | true=>rw[hb] at he;exact QG h hn x ρ o he
  | false=>rw[hb] at he;exact QG h hn y ρ o he
 | .nilq c l x y,ρ,o,he=>by
  simp only[JL] at he ⊢;cases hl:lst ρ l with
  | nil =>
   rw[hl] at he;simp only at he ⊢;split at he
   ·rename_i e;rw[if_pos]
    ·exact QG h hn y ρ o he
    ·rw[QG h hn y ρ o he,QG h hn x ρ o (e.trans he)]
   ·cases he
  | cons d l'=>rw[hl] at he;exact QG h hn y ρ o he
 | .loop c init body,ρ,o,he=>by
  simp only[JL] at he ⊢;exact Jd6 (fun vs o=>QG h hn body (X6 c vs ρ) o) _ _ _ _ hn he
 | .next vs,ρ,o,he=>he
 | .done vs,ρ,o,he=>he
 | .esc r,ρ,o,he=>by
  simp only[JL] at he ⊢;cases hr:JL B N r ρ with
  | none=>rw[hr] at he;cases he
  | some o'=>rw[hr] at he;rw[QG h hn r ρ o' hr];exact he
theorem Jph (h:B.Le B') (hn:N≤N') {ins:List Sh1} {r:R} {ls ds:List D} (he:ZF B N ins r ls=some ds):ZF B' N' ins r ls=some ds:=by
 unfold ZF at he ⊢;cases hb:X0 ins ls 0 (fun _=> .i 0) with
 | none=>rw[hb] at he;cases he
 | some ρ =>
  rw[hb] at he;simp only at he ⊢;cases hr:JL B N r ρ with
  | none=>rw[hr] at he;cases he
  | some o=>rw[hr] at he;rw[QG h hn r ρ o hr];exact he
theorem Jju (n:Nat):(tbN L n).ar=arT L:=by cases n <;> rfl
theorem ZE :∀(n n':Nat),n≤n'→(tbN L n).Le (tbN L n')
 | 0,n',_=>⟨by rw[Jju,Jju],fun f ds r h=>by cases h⟩
 | n+1,0,h=>by omega
 | n+1,n'+1,h=>by
  refine⟨rfl,fun f ds r hc=>?_⟩;simp only[tbN] at hc ⊢;cases hf:L.lookup f with
  | none=>rw[hf] at hc;cases hc
  | some e =>
   rw[hf] at hc;obtain⟨s,b⟩:=e;cases b with
   | r H r'=>exact Jph (ZE n n' (by omega)) (by omega) hc
   | m F=>exact hc
def Ev (L:WO) (f:FuncId) (as ds:List D):Prop:=∃ N,(tbN L N).call f as=some ds
theorem JuW {f:FuncId} {as ds ds':List D} (h:Ev L f as ds) (h':Ev L f as ds'):ds=ds':=by
 obtain⟨n,h⟩:=h;obtain⟨m,h'⟩:=h';have a:=(ZE (L:=L) n (max n m) (Nat.le_max_left _ _)).call _ _ _ h;have b:=(ZE (L:=L) m (max n m) (Nat.le_max_right _ _)).call _ _ _ h';rw[a] at b;exact Option.some.inj b
def Jo (l:List V):Env:=fun k=>l.getD k (.i 0)
theorem Jfq (l:List V) (v:V):upd (Jo l) l.length v=Jo (l++[v]):=by
 funext k
 unfold upd Jo;simp only[Ju3];split
 ·rename_i h;subst h;simp
 ·rename_i h
  by_cases hk:k<l.length
  ·rw[Jvr hk]
  ·rw[Jvn (by omega),Jvn (by simp;omega)]
def KA:List Sh1→List D→Option (List V)
 | [],[]=>some []
 | a::as,d::ds=>match a.toV d,KA as ds with
  | some v,some vs=>some (v::vs)
  | _,_=>none
 | _,_=>none
theorem Zx :∀(as:List Sh1) (ds:List D) (l vs:List V),KA as ds=some vs→X0 as ds l.length (Jo l)=some (Jo (l++vs))
 | [],[],l,vs,h=>by simp only[KA,JuZ] at h;subst h;simp[X0]
 | [],_::_,l,vs,h=>by cases h
 | _::_,[],l,vs,h=>by cases h
 | a::as,d::ds,l,vs,h=>by
  simp only[KA] at h;split at h
  ·rename_i v vs' h1 h2;simp only[JuZ] at h;subst h;simp only[X0,h1,Jfq];have:=Zx as ds (l++[v]) vs' h2;simp only[Ju6,List.length_singleton,List.append_assoc,List.singleton_append] at this;exact this
  ·cases h
def KS:Sh→D→Option (List V)
 | .one a,d=>KA [a] [d]
 | .g as,.g cs=>KA as cs
 | .q as,.q cs=>KA as cs
 | _,_=>none
theorem Jf0 {sh:Sh} {d:D} {l vs:List V} (h:KS sh d=some vs):sh.bind d l.length (Jo l)=some (Jo (l++vs)):=by
 cases sh with
 | one a=>exact Zx _ _ _ _ h
 | g as=>cases d <;> simp only[KS] at h <;> first | exact Zx _ _ _ _ h | cases h
 | q as=>cases d <;> simp only[KS] at h <;> first | exact Zx _ _ _ _ h | cases h
theorem Vo :∀(vs l:List V),X6 l.length vs (Jo l)=Jo (l++vs)
 | [],l=>by simp[X6]
 | v::vs,l=>by
  simp only[X6,Jfq];have:=Vo vs (l++[v]);simp only[Ju6,List.length_singleton,List.append_assoc,List.singleton_append] at this;exact this
def WR (L:WO) (r:R) (l:List V) (Q:Oc→Prop):Prop:=∃ N o,JL (tbN L N) N r (Jo l)=some o∧Q o
variable {r x y body:R} {l vs:List V} {Q Q':Oc→Prop} {n c:Nat}
theorem WR.mono (h:WR L r l Q) (hQ :∀o,Q o→Q' o):WR L r l Q':=by
 obtain⟨N,o,h1,h2⟩:=h;exact⟨N,o,h1,hQ o h2⟩
theorem Juo {b:E} (hb:bol (Jo l) b=true) (h:WR L r l Q):WR L (.i (.chk b) r) l Q:=by
 obtain⟨N,o,h1,h2⟩:=h;exact⟨N,o,by simp only[JL,X2,hb,if_true];exact h1,h2⟩
theorem JuT {sz:Nat} {e:E} (hb:Yf sz (lst (Jo l) e)=true) (h:WR L r l Q):WR L (.i (.head sz e) r) l Q:=by
 obtain⟨N,o,h1,h2⟩:=h;exact⟨N,o,by simp only[JL,X2,hb,if_true];exact h1,h2⟩
theorem JuI {e:E} (hb:JM (lst (Jo l) e)=true) (h:WR L r l Q):WR L (.i (.fl e) r) l Q:=by
 obtain⟨N,o,h1,h2⟩:=h;exact⟨N,o,by simp only[JL,X2,hb,if_true];exact h1,h2⟩
theorem JuH {e:E} {sh:Sh} (hn:n=l.length) (hb:KS sh (dat (Jo l) e)=some vs) (h:WR L r (l++vs) Q):WR L (.i (.get e sh n) r) l Q:=by
 obtain⟨N,o,h1,h2⟩:=h;subst hn;exact⟨N,o,by simp only[JL,X2,Jf0 hb];exact h1,h2⟩
theorem Jur {e i:E} {sh:Sh} {d:D} (hn:n=l.length) (h0:0≤int (Jo l) i) (hd:(lst (Jo l) e)[(int (Jo l) i).toNat]? = some d) (hb:KS sh d=some vs) (h:WR L r (l++vs) Q) :
  WR L (.i (.idx e i sh n) r) l Q:=by
 obtain⟨N,o,h1,h2⟩:=h;subst hn;exact⟨N,o,by simp only[JL,X2,if_pos h0,hd,Jf0 hb];exact h1,h2⟩
theorem JuJ {f:FuncId} {as:List E} {rs:List Sh1} {ds:List D} (hn:n=l.length) (hc:Ev L f (as.map (dat (Jo l))) ds) (hb:KA rs ds=some vs) (h:WR L r (l++vs) Q) :
  WR L (.i (.call f as rs n) r) l Q:=by
 obtain⟨N,o,h1,h2⟩:=h;obtain⟨M,hM⟩:=hc;subst hn;refine⟨max N M,o,?_,h2⟩;have e1:=(ZE (L:=L) M (max N M) (Nat.le_max_right _ _)).call _ _ _ hM;have e2:=QG (ZE (L:=L) N (max N M) (Nat.le_max_left N M)) (Nat.le_max_left N M) _ _ _ h1;simp only[JL,X2,e1,Zx _ _ _ _ hb];exact e2
theorem Jut {p:Jpw} {as:List E} {r1:Sh1} {n:Nat} {d:D} (hn:n=l.length) (hp:Ki p (as.map (dat (Jo l)))=some d) (hb:KA [r1] [d]=some vs) (h:WR L r (l++vs) Q):WR L (.i (.prim p as r1 n) r) l Q:=by
 obtain⟨N,o,h1,h2⟩:=h;subst hn;exact⟨N,o,by simp only[JL,X2,hp,Zx _ _ _ _ hb];exact h1,h2⟩
theorem JuO {e:E} {as:List E} {ar:List (Option Nat)} {rs:List Sh1} {fn:FuncId} {caps ds:List D} (hn:n=l.length) (he:dat (Jo l) e = .f fn caps) (har:arT L fn=some (ar++caps.map fun _=>none))
  (hc:Ev L fn (as.map (dat (Jo l))++caps.map D.norm) ds) (hb:KA rs ds=some vs) (h:WR L r (l++vs) Q):WR L (.i (.callv e as ar rs n) r) l Q:=by
 obtain⟨N,o,h1,h2⟩:=h;obtain⟨M,hM⟩:=hc;subst hn;refine⟨max N M,o,?_,h2⟩;have e1:=(ZE (L:=L) M (max N M) (Nat.le_max_right _ _)).call _ _ _ hM;have e2:=QG (ZE (L:=L) N (max N M) (Nat.le_max_left N M)) (Nat.le_max_left N M) _ _ _ h1;simp only[JL,X2,he,Jju,har,if_true,e1,Zx _ _ _ _ hb];exact e2
theorem Jux {b:E} (hx:bol (Jo l) b=true→WR L x l Q) (hy:bol (Jo l) b=false→WR L y l Q):WR L (.ite b x y) l Q:=by
 cases hb:bol (Jo l) b with
 | true =>
  obtain⟨N,o,h1,h2⟩:=hx hb;exact⟨N,o,by simp only[JL,hb,if_true];exact h1,h2⟩
 | false =>
  obtain⟨N,o,h1,h2⟩:=hy hb;exact⟨N,o,by simp only[JL,hb,Jvg,if_false];exact h1,h2⟩
theorem JuK {b:E} (hb:bol (Jo l) b=true) (hx:WR L x l Q):WR L (.ite b x y) l Q:=Jux (fun _=>hx) (fun h=>by rw[hb] at h;cases h)
theorem JuN {b:E} (hb:bol (Jo l) b=false) (hy:WR L y l Q):WR L (.ite b x y) l Q:=Jux (fun h=>by rw[hb] at h;cases h) (fun _=>hy)
theorem Juq {e:E} (o:Oc) (hx:lst (Jo l) e=[]→WR L x l (· = o)) (hy:WR L y l (· = o)) (hQ:Q o):WR L (.nilq c e x y) l Q:=by
 obtain⟨N,_,h1,rfl⟩:=hy;cases hl:lst (Jo l) e with
 | nil =>
  obtain⟨M,_,h2,rfl⟩:=hx hl;have e1:=QG (ZE (L:=L) N (max N M) (Nat.le_max_left N M)) (Nat.le_max_left N M) _ _ _ h1;have e2:=QG (ZE (L:=L) M (max N M) (Nat.le_max_right N M)) (Nat.le_max_right N M) _ _ _ h2;exact⟨max N M,_,by simp only[JL,hl,e1,e2,if_true],hQ⟩
 | cons d l'=>exact⟨N,_,by simp only[JL,hl];exact h1,hQ⟩
abbrev Rnd (Inv:Nat→List V→Prop) (Q:Oc→Prop) (n:Nat):Oc→Prop
 | .next vs=>∃ m,m<n∧Inv m vs
 | .esc o=>Q o
 | .done _=>False
theorem JuQ {init:List E} (Inv:Nat→List V→Prop) (hc:c=l.length) (n:Nat) (h0:Inv n (init.map (den (Jo l)))) (hs :∀n vs,Inv n vs→WR L body (l++vs) (Rnd Inv Q n)):WR L (.loop c init body) l Q:=by
 subst hc;have key :∀(n:Nat) (vs:List V),Inv n vs→∃ N o,UO (fun vs=>JL (tbN L N) N body (X6 l.length vs (Jo l))) N vs=some o∧Q o:=by
  intro n
  induction n using Nat.strongRecOn with
  | _ n ih =>
   intro vs hi;obtain⟨N,o,h1,h2⟩:=hs n vs hi;cases o with
   | done ds=>exact h2.elim
   | esc o =>
    refine⟨N+1,o,?_,h2⟩;have:=QG (ZE (L:=L) N (N+1) (by omega)) (show N≤N+1 by omega) _ _ _ h1;simp only[UO,Vo,this]
   | next vs' =>
    obtain⟨m,hm,hi'⟩:=h2;obtain⟨M,o,h3,h4⟩:=ih m hm vs' hi';refine⟨max N M+1,o,?_,h4⟩;have e1:=QG (ZE (L:=L) N (max N M+1) (by omega)) (show N≤max N M+1 by omega) _ _ _ h1;have e2:=Jd6 (f':=fun vs=>JL (tbN L (max N M+1)) (max N M+1) body (X6 l.length vs (Jo l)))
     (fun vs o=>QG (ZE (L:=L) M (max N M+1) (by omega)) (by omega) body (X6 l.length vs (Jo l)) o) M (max N M) vs' o (by omega) h3
    rw[UO];simp only[Vo] at e2 ⊢;simp only[e1];exact e2
 obtain⟨N,o,h1,h2⟩:=key n _ h0;exact⟨N,o,by simp only[JL];exact h1,h2⟩
theorem Jum {es:List E} (h:Q (.next (es.map (den (Jo l))))):WR L (.next es) l Q:=⟨0,_,rfl,h⟩
theorem Jun {es:List E} (h:Q (.done (es.map (dat (Jo l))))):WR L (.done es) l Q:=⟨0,_,rfl,h⟩
theorem Juk (h:WR L r l fun o=>Q (.esc o)):WR L (.esc r) l Q:=by
 obtain⟨N,o,h1,h2⟩:=h;exact⟨N,.esc o,by simp only[JL,h1],h2⟩
abbrev Fin (P:List D→Prop):Oc→Prop
 | .done ds=>P ds
 | _=>False
theorem JuY {f:FuncId} {s:Sig} {H:Kr} {r:R} {as:List D} {P:List D→Prop} (hf:L.lookup f=some ⟨s,.r H r⟩) (hb:KA (UZ s) as=some vs) (h:WR L r vs (Fin P)) : ∃ ds,Ev L f as ds∧P ds:=by
 obtain⟨N,o,h1,h2⟩:=h;cases o with
 | done ds =>
  refine⟨ds,⟨N+1,?_⟩,h2⟩;have hb:=Zx _ _ [] vs hb;simp only[List.length_nil,List.nil_append] at hb;simp only[tbN,hf,ZF,show (fun _=>V.i 0:Env)=Jo [] from by funext k;simp[Jo],hb,h1]
 | _=>exact h2.elim
theorem JuV {f:FuncId} {s:Sig} {H:Kr} {r:R} {as ds:List D} (hf:L.lookup f=some ⟨s,.r H r⟩) (hb:KA (UZ s) as=some vs) (h:WR L r vs (Fin (· = ds))):Ev L f as ds:=by
 obtain⟨ds',h1,rfl⟩:=JuY hf hb h;exact h1
theorem JuX {f:FuncId} {s:Sig} {F:List D→Option (List D)} {as ds:List D} (hf:L.lookup f=some ⟨s,.m F⟩) (h:F as=some ds):Ev L f as ds:=⟨1,by simp only[tbN,hf];exact h⟩
end
end Go.Tm
end
section
namespace Go.Tm
open Go.IntKind (i64)
abbrev dI (n:Int):D:= .v (.int .i64 n)
abbrev dB (t:Bool):D:= .v (.bool t)
abbrev dU (n:Int):D:= .v (.int .u8 n)
def dL (l:List Int):List D:=l.map dI
def Ja (ns:List Int):List D:=ns.map dU
def dLL (l:List (List Int)):List D:=l.map fun x=> .s (dL x)
theorem w64 {n:Int} (h1 : -9223372036854775808≤n) (h2:n≤9223372036854775807):i64.wrap n=n:=by rw[IntKind.wrap_i64];omega
section
variable {L:WO} {r x y body:R} {l vs:List V} {Q Q':Oc→Prop} {n c:Nat}
theorem JuE {b:E} (p:Prop) [Decidable p] (hb:bol (Jo l) b=decide p) (hp:p) (h:WR L r l Q):WR L (.i (.chk b) r) l Q:=Juo (by rw[hb];simpa using hp) h
theorem JuB {b:E} (p:Prop) [Decidable p] (hb:bol (Jo l) b=decide p) (hx:p→WR L x l Q) (hy : ¬p→WR L y l Q):WR L (.ite b x y) l Q :=
 Jux (fun h=>hx (by rw[hb] at h;simpa using h)) (fun h=>hy (by rw[hb] at h;simpa using h))
theorem JuU {b:E} (t:Bool) (hb:bol (Jo l) b=t) (hx:t=true→WR L x l Q) (hy:t=false→WR L y l Q):WR L (.ite b x y) l Q :=
 Jux (fun h=>hx (by rw[←hb];exact h)) (fun h=>hy (by rw[←hb];exact h))
theorem JuM {f:FuncId} {as:List E} {rs:List Sh1} {args ds:List D} (hn:n=l.length) (ha:as.map (dat (Jo l))=args) (hc:Ev L f args ds) (hb:KA rs ds=some vs) (h:WR L r (l++vs) Q) :
 WR L (.i (.call f as rs n) r) l Q:=JuJ hn (by rw[ha];exact hc) hb h
theorem Juz {e i:E} {sh:Sh} {ds:List D} {d:D} (k:Int) (hn:n=l.length) (he:lst (Jo l) e=ds) (hi:int (Jo l) i=k) (h0:0≤k) (hd:ds[k.toNat]? = some d) (hb:KS sh d=some vs) (h:WR L r (l++vs) Q) :
 WR L (.i (.idx e i sh n) r) l Q:=Jur hn (by rw[hi];exact h0) (by rw[he,hi];exact hd) hb h
theorem Jus {e:E} {N:Int} (ds:List D) (he:lst (Jo l) e=ds) (h:(ds.length:Int)≤N) (hr:WR L r l Q):WR L (.i (.chk (.cmp .le (.len e) (.z N))) r) l Q:=by
 refine Juo ?_ hr;show decide (((lst (Jo l) e).length:Int)≤N)=true;rw[he];simpa using h
theorem Juy {es:List E} {ds:List D} (hd:es.map (dat (Jo l))=ds) (h:Q (.done ds)):WR L (.done es) l Q:=Jun (by rw[hd];exact h)
theorem JuC {es:List E} {vs:List V} (hd:es.map (den (Jo l))=vs) (h:Q (.next vs)):WR L (.next es) l Q:=Jum (by rw[hd];exact h)
end
theorem J1 {l:List Int} {k:Int} (h0:0≤k) (h1:k<l.length):(dL l)[k.toNat]? = some (dI (l.getD k.toNat 0)):=by
 have:k.toNat<l.length:=by omega
 simp[dL,Ju3,this]
theorem WH {l:List Int} {k:Int} (h0:0≤k) (h1:k<l.length):(Ja l)[k.toNat]? = some (dU (l.getD k.toNat 0)):=by
 have:k.toNat<l.length:=by omega
 simp[Ja,Ju3,this]
theorem XU {l:List Int} {p:Int→Prop} (h :∀x∈l,p x) {k:Nat} (hk:k<l.length):p (l.getD k 0):=by
 rw[Ju3,Jvb hk];exact h _ (List.getElem_mem hk)
theorem Q3 (l:List Int):(Ja l).length=l.length:=by simp[Ja]
theorem dL1 (l:List Int):(dL l).length=l.length:=by simp[dL]
theorem Ux (l:List (List Int)):(dLL l).length=l.length:=by simp[dLL]
theorem JlI {x:Int} {n:Nat} (h:0≤x∧x<2 ^ n) (hn:n≤64):(BitVec.ofInt 64 x).toNat<2 ^ n:=by
 rw[BitVec.toNat_ofInt];have hp:(2:Int) ^ n≤2 ^ 64:=by
  have:(2:Nat) ^ n≤2 ^ 64:=Nat.pow_le_pow_right (by omega) hn
  exact_mod_cast this
 rw[Int.emod_eq_of_lt h.1 (by have:=h.2;rw[show ((2 ^ 64:Nat):Int)=2 ^ 64 from rfl];omega)];have:=h.2;have h0:=h.1;have e:(2:Int) ^ n=((2 ^ n:Nat):Int):=by push_cast;rfl
 rw[e] at this;omega
theorem Jm0 {x y:Int} (hx:0≤x∧x<2 ^ 62) (hy:0≤y∧y<2 ^ 62):0≤BO.sem .xor .i64 x y∧BO.sem .xor .i64 x y<2 ^ 62:=by
 show 0≤i64.wrap ((BitVec.ofInt 64 x ^^^ BitVec.ofInt 64 y).toNat:Int)∧i64.wrap ((BitVec.ofInt 64 x ^^^ BitVec.ofInt 64 y).toNat:Int)<2 ^ 62;have h:=Nat.xor_lt_two_pow (JlI hx (by omega)) (JlI hy (by omega));rw[←BitVec.toNat_xor] at h;rw[w64 (by omega) (by omega)];omega
end Go.Tm
end
section
open Go.ChangeShapes Go.WideShapes Go.ChangeAt Go.RowKit
namespace Go.Tm
open Go.IntKind (i64)
theorem Jk3 {w:World} {b:Nat} {k:IntKind} :∀(ns:List Int) (off:Nat),(∀i,i<ns.length→w.cell? ⟨b,off+i,none⟩=some (.int k (ns.getD i 0)))→Uy w (ns.map fun n=> .v (.int k n)) 1 b off []
 | [],_,_=>rfl
 | n::ns,off,h=>by
  refine⟨.int k n,[],[],rfl,⟨rfl,rfl,rfl⟩,rfl,fun j hj=>?_,Jk3 ns (off+1) fun i hi=>?_,fun u hu=>?_⟩
  ·have:j=0:=by omega
   subst this;have:=h 0 (by simp);simpa[Value.cells] using this
  ·have:=h (i+1) (by simpa using hi);rw[show off+1+i=off+(i+1) by omega];simpa using this
  ·simp[Value.cells] at hu;subst hu;rfl
section
variable {H:Type} {enc:TypeId×Value→H} {P:Program}
theorem JeP {f:Func} {s:ChangeSpec} {apart fresh handsOn again:Bool} {W W':World} {args:Array Value} {v:Value} {ds gs:List (DataW H)} {before pa pv:List MemPlace}
  (hW:DataW.Whole enc P f.params.toList s.vars apart W args.toList ds gs before)
  (hres :∀(b:Nat) (sp:Nat→Bool) (hd:Bool),DataW.TrodAll enc P W' b sp hd f.resultTypes.toList (v.resultList f.resultTypes.size) (s.fn H (ds++gs)).results [])
  (hargs :∀sp:Nat→Bool,(∀p∈before,sp p.block=true)→DataW.TrodAll enc P W' 0 sp true f.params.toList args.toList (s.fn H (ds++gs)).args pa)
  (hvars :∀sp:Nat→Bool,(∀p∈before,sp p.block=true)→DataW.TrodVars enc P W' sp s.vars (s.fn H (ds++gs)).vars pv)
  (hps:before=pa++pv) (hb:Below W.heap.size W W')
  (hok :∀(j:Nat) (t:TypeId) (r:Value),f.resultTypes[j]? = some t→(v.resultList f.resultTypes.size)[j]? = some r→Value.okWide P W' .any 0 t r) :
  s.post enc P f apart fresh handsOn again W args v W':=by
 have hlt :∀p∈before,p.block<W.heap.size:=fun p hp=>hW.lt p hp;have hold :∀p∈before,(fun b=>decide (b<W.heap.size)) p.block=true:=fun p hp=>by simpa using hlt p hp
 refine⟨ds,gs,before,[],pa,pv,hW,hres _ _ _,hargs _ hold,hvars _ hold,World.keptBut_mono (fun p hp=>⟨hp,?_⟩) (hb.frame (·∈before)),fun _=>?_⟩
 ·rw[hps,Ju5] at hp;exact Or.inr hp
 ·obtain⟨_,_,_,_,_,hz,hn⟩:=hW;refine⟨hok,_,_,([]++pa)++pv,⟨[]++pa,pv,trodAll_append (hargs _ (fun _ _=>rfl)) (hres _ _ _),hvars _ (fun _ _=>rfl),rfl,?_,?_⟩,?_⟩
  ·intro b off hp;have hin:MemPlace.cell b off∈before:=by rw[hps];simpa using hp
   rw[hb.frozen (hlt _ hin)];exact hz b off hin
  ·intro ha;have:=hn ha;rw[hps] at this;simpa using this
  ·intro p hp _;rw[hps];simpa using hp
end
theorem JkG {H:Type} {enc:TypeId×Value→H} {P:Program} {w:World} {t e:TypeId} {d:DataW H} {ps:List MemPlace} {v:Value} (ht:P.underlying t=some (.slice e)) (he:P.underlying e=some (.int .u8)) (hc:P.cellsOf e=1)
  (hv : ∃ a len cap,v = .slice a len cap) (h:DataW.Trod enc P w 0 (fun _=>true) true t v d ps) : ∃ ns fp,(∀n∈ns,(Lit.int .u8 n).wf=true)∧Rd w (.s (Ja ns)) v fp:=by
 obtain⟨fuel,h⟩:=h;obtain⟨a0,len0,cap0,rfl⟩:=hv;rcases open_ints ht he hc h with ⟨hcs,_⟩ | ⟨a,len,cap,zs,hcs,_,hle,_,hl,_,hcell,hwf⟩
 ·simp[Value.cells] at hcs;obtain⟨rfl,rfl,rfl⟩:=hcs;exact⟨[],[],by simp,⟨none,0,rfl,Nat.le_refl _,.inl ⟨rfl,rfl⟩⟩⟩
 ·simp[Value.cells] at hcs;obtain⟨rfl,rfl,rfl⟩:=hcs;simp only[if_true] at hl;have hlen:(zs.take len0).length=len0:=by simp;omega
  refine⟨zs.take len0,if len0=0 then [] else [a.block],fun n hn=>hwf n (Jvo hn),some a,cap0,by simp only[Ja,Ju9,hlen],by simp only[Ja,Ju9,hlen];exact hle,?_⟩
  by_cases h0:len0=0
  ·subst h0;exact .inl ⟨by simp[Ja],by simp⟩
  ·rw[if_neg h0];obtain⟨gb,go,gs⟩:=a;have hc0:=hcell 0 (by omega);have hgs:gs=none:=by simpa[Addr.add] using World.cell?_spot hc0
   subst hgs;refine .inr ⟨gb,go,1,[],rfl,?_,rfl,Jk3 _ _ fun i hi=>?_⟩
   ·rw[add_plain] at hc0;simp only[World.cell?] at hc0;apply Classical.byContradiction;intro hge;rw[Array.getElem?_eq_none (Nat.le_of_not_lt hge)] at hc0;simp at hc0
   ·rw[hlen] at hi;have:=hcell i (by omega);rw[add_plain] at this;rw[this];simp only[Ju3,Jvq hi]
theorem JnD {ns:List Int} (h :∀n∈ns,(Lit.int .u8 n).wf=true) :∀x∈ns,0≤x∧x<256:=by
 intro x hx;have:=h x hx;simp[Lit.wf,IntKind.min,IntKind.max,IntKind.bits,IntKind.signed] at this;omega
end Go.Tm
end
section
open Go.ChangeShapes Go.WideShapes Go.ChangeAt Go.RowKit
namespace Go.Tm
open Go.IntKind (i64)
def isAgg (P:Program) (t:TypeId):Bool:=match U4 P t with
 | some b=>b
 | none=>false
section
variable {P:Program} {w:World}
theorem Jj1 {L:WO} {Φ:Fix P} (hm:P.follows .mixedOrders=true) (hL:ZM P (Vx L) L Φ) (hI:Φ.I w) {f:FuncId} {fl:Bool} {pars:List Sh} (hs:Vx L f=some (.d ⟨pars,.one (.one .b),fl⟩)) {args ls:List D} (hfl:Js pars args=some ls)
  (hEv:Ev L f ls [.v (.bool true)]) {vs:List Value} {fp:List Nat} (hr:KZ w args vs fp):Calls P f vs.toArray w fun e w'=>e = .returned (.bool true)∧Below w.heap.size w w':=by
 obtain⟨N,hN⟩:=hEv;have hfn:(Ye (Vx L) (tbN L N)).fns f=some { F:=dspec ⟨pars,.one (.one .b),fl⟩ ((tbN L N).call f),flat:=fl }:=by
  unfold Ye;simp only[hs]
 have h:=((JrH hm hL N).fns f _ hfn).2 w args vs fp (.v (.bool true)) hI hr (by
  show (Js pars args).bind _=_;rw[hfl];show (((tbN L N).call f ls).bind fun os=>Y7 (.one (.one .b)) os)=_;rw[hN];rfl)
 refine h.mono fun e w' ⟨val,fp',he,hv,_,hb⟩=>?_;obtain⟨rfl,_⟩:=hv;exact⟨he,hb⟩
end
inductive Ty where
 | i (k:IntKind)
 | b
 | sl (e:Ty)
 | st (fs:List Ty)
def Ty.agg:Ty→Bool
 | .st _=>true
 | _=>false
mutual
def TySh:Ty→List D→Prop
 | .b,ds=>∃ b,ds=[.v (.bool b)]
 | .i k,ds=>∃ n,ds=[.v (.int k n)]
 | .sl e,ds=>∃ es,ds=[.s es]∧es.length≤maxLen∧∀x∈es,∃ cs,TySh e cs∧x=D.ofCells e.agg cs
 | .st fs,ds=>Jqv fs ds
def Jqv:List Ty→List D→Prop
 | [],ds=>ds=[]
 | f::fs,ds=>∃ a b,ds=a++b∧TySh f a∧Jqv fs b
end
theorem Jq5 {α:Type} {f:α→D} {p:α→Prop} :∀{es:List D},(∀x∈es,∃ y,p y∧x=f y)→∃ l:List α,es=l.map f∧∀y∈l,p y
 | [],_=>⟨[],rfl,fun y hy=>by simp at hy⟩
 | e::es,h=>by
  obtain⟨y,hy,rfl⟩:=h e (by simp);obtain⟨l,rfl,hl⟩:=Jq5 (es:=es) (fun x hx=>h x (by simp[hx]));exact⟨y::l,rfl,fun z hz=>by
   rcases Jvj.1 hz with rfl | hz
   ·exact hy
   ·exact hl z hz⟩
end Go.Tm
end
section
namespace Go.Tm
open Go.IntKind (i64)
def Fix.tab (P:Program) (name:String) (k:IntKind) (zs:List Int):Fix P where
 S:=(P.globalNamed name).toList
 I w:=Lib.TabIs P w name k zs
 lt w h b hb:=by
  unfold Lib.TabIs World.var? at h;cases hg:P.globalNamed name with
  | none=>rw[hg] at hb;simp at hb
  | some g =>
   rw[hg] at hb h;simp only[Option.toList_some,Jvi] at hb;subst hb;simp only[Jve] at h;split at h
   ·rename_i hc;exact(Jvc.1 hc).1
   ·cases h
 keep w w' h hs:=by
  unfold Lib.TabIs World.var? at h ⊢;cases hg:P.globalNamed name with
  | none=>rw[hg] at h;simp at h
  | some g =>
   rw[hg] at h hs;simp only[Jve] at h ⊢;rw[hs g (by simp)];exact h
end Go.Tm
end
section
open Go.RowKit
namespace Go.Tm
open Go.IntKind (i64)
def Jcw:D→Option Int
 | .v (.int .i64 n)=>if -9223372036854775807≤n∧n≤9223372036854775807 then some n else none
 | _=>none
abbrev Jcz (l:List UInt8):ByteArray:=⟨l.toArray⟩
def Q7 (l:List UInt8):D:= .v (.string ⟨l.toArray⟩)
def Qy (l:List Int):List UInt8:=l.flatMap fun n=>32::Lib.itoa n
def joinedF:List D→Option (List D)
 | [.s es]=>if es.length≤4096 then(es.mapM Jcw).map fun l=>[Q7 (Qy l)] else none
 | _=>none
def digitsF:List D→Option (List D)
 | [d]=>(Jcw d).map fun n=>[Q7 (Lib.itoa n)]
 | _=>none
theorem Jf2 {d:D} {n:Int} (h:Jcw d=some n):d = .v (.int .i64 n)∧-9223372036854775807≤n∧n≤9223372036854775807:=by
 unfold Jcw at h;split at h
 ·split at h
  ·rename_i hb;simp only[JuZ] at h;subst h;exact⟨rfl,hb⟩
  ·cases h
 ·cases h
theorem Jh4 :∀{es:List D} {l:List Int},es.mapM Jcw=some l→es=l.map (fun n=>D.v (.int .i64 n))∧∀n∈l,-9223372036854775807≤n∧n≤9223372036854775807
 | [],l,h=>by simp at h;subst h;simp
 | e::es,l,h=>by
  simp only[List.mapM_cons,Option.bind_eq_bind,Option.bind_eq_some_iff,Option.pure_def,JuZ] at h;obtain⟨n,h1,l',h2,rfl⟩:=h;obtain⟨rfl,hb⟩:=Jf2 h1;obtain⟨rfl,hl⟩:=Jh4 h2;exact⟨rfl,by simpa using ⟨hb,hl⟩⟩
theorem Jcp :∀{l:List Int},(∀n∈l,-9223372036854775807≤n∧n≤9223372036854775807)→(l.map fun n=>D.v (.int .i64 n)).mapM Jcw=some l
 | [],_=>rfl
 | n::l,h=>by
  have h1:=h n (by simp);have:Jcw (.v (.int .i64 n))=some n:=by simp[Jcw,h1]
  simp[this,Jcp (l:=l) fun m hm=>h m (by simp[hm])]
section
variable {P:Program} {Φ:Fix P} {f:FuncId}
theorem JfT {w:World} :∀(l:List Int) (b o:Nat) (fp:List Nat),Uy w (l.map fun n=>D.v (.int .i64 n)) 1 b o fp→∀i (h:i<l.length),w.cell? ⟨b,o+i,none⟩=some (.int .i64 l[i])
 | [],_,_,_,_,i,h=>by simp at h
 | n::l,b,o,fp,⟨val,f1,f2,_,⟨e,_,_⟩,_,hc,h2,_⟩,i,h=>by
  subst e;cases i with
  | zero=>have:=hc 0 (by omega);simpa[Value.cells] using this
  | succ i =>
   have:=JfT l b (o+1) f2 h2 i (by simpa using h);rw[show o+1+i=o+(i+1) by omega] at this;simpa using this
theorem JpO {w:World} {n:Int} {l:List D} {sz b o:Nat} {fp:List Nat} (h:Uy w (D.v (.int .i64 n)::l) sz b o fp):sz=1:=by
 obtain⟨val,f1,f2,_,⟨e,_,_⟩,hs,_⟩:=h;subst e;rw[←hs];rfl
theorem Jmi (hen :∀args w,(callFunc f args).run P w = .ok (.enter f args) w)
  (hw :∀(A:Option Addr) (cap:Nat) (l:List Int) (w:World),Φ.I w→l.length≤4096→l.length≤cap→(∀n∈l,-9223372036854775807≤n∧n≤9223372036854775807) →
   (l=[]∨∃ b o,A=some ⟨b,o,none⟩∧b<w.heap.size∧∀i (h:i<l.length),w.cell? ⟨b,o+i,none⟩=some (.int .i64 l[i])) →
   Calls P f #[.slice A l.length cap] w fun e w'=>e = .returned (.string ⟨(Qy l).toArray⟩)∧Below w.heap.size w w') :
  FnOk P Φ f (dspec ⟨[.one .s],.one (.one .d),true⟩ joinedF):=by
 refine⟨hen,fun w ds vals fps r hI hr hF=>?_⟩;obtain⟨d,rfl⟩ : ∃ d,ds=[d]:=by
  unfold dspec at hF
  match ds,hF with
  | [],h=>simp[Js] at h
  | [d],_=>exact⟨d,rfl⟩
  | _::_::_,h=>simp[Js] at h
 obtain⟨v,vs,f1,f2,rfl,rfl,h1,rfl,rfl⟩:=hr;unfold dspec at hF;simp only[Js,Ju2,Jve] at hF;obtain⟨os,h2,h3⟩:=Option.bind_eq_some_iff.1 hF;unfold joinedF at h2;split at h2
 ·rename_i es e;simp only[List.cons.injEq,and_true] at e;subst e;split at h2
  ·rename_i hlen;obtain⟨l,hl,rfl⟩:=Option.map_eq_some_iff.1 h2;obtain⟨rfl,hb⟩:=Jh4 hl;have h3:some (Q7 (Qy l))=some r:=h3;cases h3;obtain⟨A,cap,rfl,hc,hd⟩:=h1;simp only[Ju9] at hlen hc ⊢;refine(hw A cap l w hI hlen hc hb ?_).mono ?_
   ·rcases hd with ⟨e,_⟩ | ⟨b,o,sz,fp',rfl,hbl,_,he⟩
    ·exact .inl (by simpa using e)
    ·cases l with
     | nil=>exact .inl rfl
     | cons n l =>
      have hsz:=JpO he;subst hsz;exact .inr ⟨b,o,rfl,hbl,JfT (n::l) b o fp' he⟩
   ·rintro e w' ⟨rfl,hbw⟩;exact⟨_,[],rfl,⟨rfl,rfl,rfl⟩,fun b hb=>by simp at hb,hbw⟩
  ·cases h2
 ·cases h2
theorem JlW (hen :∀args w,(callFunc f args).run P w = .ok (.enter f args) w)
  (hw :∀(n:Int) (w:World),-9223372036854775807≤n→n≤9223372036854775807 →
   Calls P f #[.int .i64 n] w fun e w'=>e = .returned (.string ⟨(Lib.itoa n).toArray⟩)∧Below w.heap.size w w') :
  FnOk P Φ f (dspec ⟨[.one (.i .i64)],.one (.one .d),true⟩ digitsF):=by
 refine⟨hen,fun w ds vals fps r hI hr hF=>?_⟩;obtain⟨d,rfl⟩ : ∃ d,ds=[d]:=by
  unfold dspec at hF
  match ds,hF with
  | [],h=>simp[Js] at h
  | [d],_=>exact⟨d,rfl⟩
  | _::_::_,h=>simp[Js] at h
 obtain⟨v,vs,f1,f2,rfl,rfl,h1,rfl,rfl⟩:=hr;unfold dspec at hF;simp only[Js,Ju2,Jve] at hF;obtain⟨os,h2,h3⟩:=Option.bind_eq_some_iff.1 hF;unfold digitsF at h2;split at h2
 ·rename_i d' e;simp only[List.cons.injEq,and_true] at e;subst e;obtain⟨n,hn,rfl⟩:=Option.map_eq_some_iff.1 h2;obtain⟨rfl,hb⟩:=Jf2 hn;have h3:some (Q7 (Lib.itoa n))=some r:=h3;cases h3;obtain⟨rfl,_,_⟩:=h1;refine(hw n w hb.1 hb.2).mono ?_;rintro e w' ⟨rfl,hbw⟩;exact⟨_,[],rfl,⟨rfl,rfl,rfl⟩,fun b hb=>by simp at hb,hbw⟩
 ·rename_i e;exact absurd rfl (e d)
end
end Go.Tm
end
section
open Go.ChangeShapes Go.WideShapes Go.ChangeAt Go.RowKit
namespace Go.Tm
open Go.IntKind (i64)
theorem lift1X {C:Checked} {os:Os} {H:Type} {enc:TypeId×Value→H} {L:WO} {f:FuncId} {fn:Func} {s:ChangeSpec} {conds:List PathCond} {t e tb:TypeId} {fl fresh handsOn again:Bool} {Φ:Fix C.prog} {X:World→Array Value→Prop} (hXh :∀(w w':World) (args:Array Value),w.heap=w'.heap→X w args→X w' args) (hXI :∀w args,X w args→Φ.I w) (hown:ownKnob C.prog.godebug=none) (started:os.Started) (hi:C.prog.inits.idxOf? f=none) (hf:C.prog.funcs[f]? = some fn)
  (wit : ∃ (w:World) (tape:Tape) (i:Input),w.os=os∧World.Shaped C.prog (w.forCall tape i)∧i.vars=[]∧Input.okWide C.prog (w.forCall tape i) Reach.any w.heap.size f i ∧
   ((s.pre enc C.prog fn conds false (w.forCall tape i).memory i.args∧X (w.forCall tape i).memory i.args)∧sizedMet enc C.prog fn (OpenSpec.ofChange s) false (w.forCall tape i).memory i.args)∧Assume.holds {} C.prog (lone (Frame.enter C.prog f i.args CallKind.normal) [] (w.forCall tape i)))
  (hpar:fn.params = #[t]) (hres:fn.resultTypes = #[tb]) (ht:C.prog.underlying t=some (.slice e)) (he:C.prog.underlying e=some (.int .u8)) (hc:C.prog.cellsOf e=1) (htb:C.prog.underlying tb=some .bool)
  (hlo:laidOutB C.prog=true) (hread:C.prog.readableRec t=true) (hrow:t<C.prog.types.size) (hvars:s.vars=[]) (hs :∀d,s.fn H [d]={ results:=[.lit (.bool true)],args:=[d] })
  (hm:C.prog.follows .mixedOrders=true) (hL:ZM C.prog (Vx L) L Φ) (hsg:Vx L f=some (.d ⟨[.one .s],.one (.one .b),fl⟩))
  (hEv :∀ns:List Int,(∀n∈ns,(Lit.int .u8 n).wf=true)→Ev L f [.s (Ja ns)] [.v (.bool true)]) :
  ReturnsInHanded {} C os f .any (fun w args=>(s.pre enc C.prog fn conds false w args∧X w args)∧sizedMet enc C.prog fn (OpenSpec.ofChange s) false w args) (s.post enc C.prog fn false fresh handsOn again):=by
 refine returnsInHanded_of_change_and (C:=C) hXh hown started hi hf wit ?_;intro W base args ds gs before hval hW _ _ hx _;have hW':=hW;obtain⟨p,q,hA,hV,rfl,hfz,hnd⟩:=hW;have hA0:=hA;rw[hpar] at hA hval;obtain⟨v0,d0,rfl,rfl,h0⟩:=trodAll_one hA;rw[hvars] at hV;obtain⟨rfl,rfl⟩:=trodVars_none hV;obtain⟨ns,fp,hwf,hrd⟩:=JkG ht he hc (okWide_slice ht (hval 0 t v0 rfl rfl)) h0;have hcall:=Jj1 hm hL (hXI W _ hx) hsg (ls:=[.s (Ja ns)]) (args:=[.s (Ja ns)]) rfl (hEv ns hwf) (vs:=[v0]) (fp:=fp++[]) ⟨v0,[],fp,[],rfl,rfl,hrd,rfl,rfl⟩;refine hcall.mono fun e W' ⟨he,hb⟩=>⟨_,he,?_⟩;have hlt :∀x∈p,x.block<W.heap.size:=fun x hx=>hW'.lt x (by simpa using hx);refine JeP (pa:=p) (pv:=[]) hW' (fun _ _ _=>?_) (fun sp hsp=>?_) (fun _ _=>by rw[hvars,List.append_nil,hs];rfl) rfl hb ?_
 ·rw[List.append_nil,hs,hres];exact trodAll_mk1 (shut_bool htb true)
 ·rw[List.append_nil,hs,hpar];have:=Below.trod hlo hread hrow h0 hb hlt;exact trodAll_mk1 (WideElems.Trod_stays hlo hread hrow h0 (fun x hx=>hb.same (hlt x hx)) (fun x hx=>hsp x (by simpa using hx)))
 ·exact ok_one hres rfl (okWide_bool_mk htb true)
theorem JmP {P:Program} {W:World} {name:String} {k:IntKind} {zs:List Int} {x y z:String×DataW Unit} {g:Nat} {t e:TypeId} {n:Nat} (hp:([x,y,z].all fun x=>x.2.handleName?.isNone)=true) (hz:z=(name,Lib.tabData k zs))
  (hg:P.globalNamed name=some g) (hty:(P.globals[g]?).map (·.type)=some t) (ht:P.underlying t=some (.array n e)) (he:P.underlying e=some (.int k)) (hce:P.cellsOf e=1) (hct:P.cellsOf t=n)
  (h:laidMetH P [x,y,z] W):Lib.TabIs P W name k zs:=by
 rw[MakeChecks.laidMetH_plain _ _ _ hp] at h;subst hz;exact Lib.tabIs_of_head hg hty ht he hce hct (laidMet.tail (laidMet.tail h))
end Go.Tm
end
section
namespace Go.Tm
open Go.IntKind (i64)
theorem XI (l:List Int) (x:Int):dL l++[dI x]=dL (l++[x]):=by simp[dL]
theorem V6 (l:List Int) (n:Nat):(dL l).take n=dL (l.take n):=by simp[dL,List.map_take]
theorem QC (l:List Int) (k:Nat) (x:Int):(dL l).set k (dI x)=dL (l.set k x):=by simp[dL,List.map_set]
def Lim (m:Int) (l:List Int):Prop:=∀x∈l,-m≤x∧x≤m
theorem Lim.snoc {m:Int} {l:List Int} (h:Lim m l) {x:Int} (hx : -m≤x∧x≤m):Lim m (l++[x]):=by
 intro y hy;rcases Ju5.1 hy with hy | hy
 ·exact h y hy
 ·simp at hy;subst hy;exact hx
theorem Lim.set {m:Int} {l:List Int} (h:Lim m l) {x:Int} (hx : -m≤x∧x≤m) (k:Nat):Lim m (l.set k x):=by
 intro y hy;rcases Jvp hy with hy | hy
 ·exact h y hy
 ·subst hy;exact hx
theorem Lim.take {m:Int} {l:List Int} (h:Lim m l) (n:Nat):Lim m (l.take n):=fun y hy=>h y (Jvo hy)
theorem Lim.mono {m m':Int} {l:List Int} (h:Lim m l) (hm:m≤m'):Lim m' l:=fun y hy=>⟨by have:=(h y hy).1;omega,by have:=(h y hy).2;omega⟩
structure Frm where
 c:List Int
 d:List Int
 k:Int
 deriving DecidableEq
def Frm.zero:Frm:=⟨[0,0,0],[0,0],0⟩
def Frm.none:Frm:=⟨[],[],0⟩
def Frm.cells (f:Frm):List D:=[.s (dL f.c),.s (dL f.d),dI f.k]
def Frm.g (f:Frm):D:= .g f.cells
def dF (l:List Frm):List D:=l.map Frm.g
structure Jg where
 kind:Int
 pot:Int
 skip:Int
 f:Frm
 deriving DecidableEq
def Jg.cells (l:Jg):List D:=[dI l.kind,dI l.pot,dI l.skip,.s (dL l.f.c),.s (dL l.f.d),dI l.f.k]
def Jg.g (l:Jg):D:= .g l.cells
def Jl (l:List Jg):List D:=l.map Jg.g
def Jd (l:List (List Jg)):List D:=l.map fun a=> .s (Jl a)
structure Row where
 guards:List Frm
 adds:List Frm
 tells:List Frm
 stop:Bool
 deriving DecidableEq
def Row.cells (r:Row):List D:=[.s (dF r.guards),.s (dF r.adds),.s (dF r.tells),dB r.stop]
def Row.g (r:Row):D:= .g r.cells
def Qm (l:List Row):List D:=l.map Row.g
def inB (n a b:Int):Bool:=decide (a≤n)&&decide (n≤b)
def JK (n:Int) (most:Int) (l:List Int):Bool:=decide ((l.length:Int)=n)&&l.all fun x=>inB x (0-most) most
def Frm.ok (f:Frm):Bool:=JK 3 10000000 f.c&&JK 2 10000000 f.d&&inB f.k (-10000000) 10000000
def Frm.small (f:Frm):Bool:=JK 3 2 f.c&&JK 2 2 f.d&&inB f.k (-20) 20
def Jg.ok (l:Jg):Bool :=
 if l.kind=1 then decide (l.pot=0)&&inB l.skip 1 6&&l.f.small
 else if l.kind=2 then inB l.pot 0 2&&decide (l.skip=0)&&l.f.small
 else if l.kind=3 then decide (l.pot=0)&&decide (l.skip=0)&&l.f.small
 else decide (l.kind=4)&&decide (l.pot=0)&&decide (l.skip=0)&&decide (((l.f.c.length:Int)+l.f.d.length)=0)&&decide (l.f.k=0)
def Yk (a:List Jg):Nat:=a.countP fun l=>decide (l.kind=1)
def Qo (a:List Jg):Bool:=a.all Jg.ok&&decide ((a.length:Int)≤6)&&decide ((Yk a:Int)≤3)
def Qx (as:List (List Jg)):Bool:=inB as.length 1 4&&as.all Qo
theorem J8 (l:List Frm):(dF l).length=l.length:=by simp[dF]
theorem JG (l:List Jg):(Jl l).length=l.length:=by simp[Jl]
theorem JR (l:List (List Jg)):(Jd l).length=l.length:=by simp[Jd]
theorem Yc (l:List Row):(Qm l).length=l.length:=by simp[Qm]
theorem JlE {α:Type} {f:α→D} {l:List α} {k:Int} (h0:0≤k) (h1:k<l.length) : ∃ x,l[k.toNat]? = some x∧(l.map f)[k.toNat]? = some (f x):=by
 have:k.toNat<l.length:=by omega
 exact⟨l[k.toNat],by simp[this],by simp[this]⟩
theorem Jr {n a b:Int}:inB n a b=true↔a≤n∧n≤b:=by simp[inB]
theorem Jq {n m:Int} {l:List Int}:JK n m l=true↔(l.length:Int)=n∧∀x∈l,-m≤x∧x≤m:=by
 simp only[JK,Ju0,decide_eq_true_eq,Jvd,Jr,Int.zero_sub]
theorem tS1 {α:Type} {l:List α} {k:Nat} {x:α} (h:l[k]? = some x):l.take (k+1)=l.take k++[x]:=by
 rw[List.take_add_one,h];rfl
theorem Q4 {α:Type} {p:α→Bool} {l:List α} {k:Nat} {x:α} (h:l[k]? = some x) (ha:(l.take k).all p=true) (hx:p x=true):(l.take (k+1)).all p=true:=by
 rw[tS1 h,List.all_append,ha];simp[hx]
theorem Yw {α:Type} {p:α→Bool} {l:List α} {k:Nat} {x:α} (h:l[k]? = some x) (hx:p x=false):l.all p=false:=by
 apply Bool.eq_false_iff.2;intro ha;rw[Jvd] at ha;rw[ha x (Ju7 h)] at hx;cases hx
end Go.Tm
end
section
namespace Go.Tm
open Go.IntKind (i64)
theorem KG {n y A B:Int} (hn : -A≤n∧n≤A) (hy : -B≤y∧y≤B) : -(A*B)≤n*y∧n*y≤A*B:=by
 have h1:n.natAbs≤A.toNat:=by omega
 have h2:y.natAbs≤B.toNat:=by omega
 have h3:=Nat.mul_le_mul h1 h2;rw[←Int.natAbs_mul] at h3;have e:((A.toNat*B.toNat:Nat):Int)=A*B:=by
  rw[Int.natCast_mul,Int.toNat_of_nonneg (by omega),Int.toNat_of_nonneg (by omega)]
 omega
def J5 (a b:List Int) (n:Int):List Int:=List.zipWith (fun x y=>x+n*y) a b
def JX (a b:Frm) (n:Int):Frm:=⟨J5 a.c b.c n,J5 a.d b.d n,a.k+n*b.k⟩
def JC (v:Nat):Frm:=⟨[0,0,0].set v 1,[0,0],0⟩
def QY (f:Frm):Frm:=let x:=JX Frm.zero f (-1); ⟨x.c,x.d,x.k-1⟩
def Jt (f:Frm) (pots:List Frm):Frm:=(List.zip pots f.c).foldl (fun x q=>JX x q.1 q.2) ⟨[0,0,0],f.d,f.k⟩
structure Std (M:Int) (f:Frm):Prop where
 c:f.c.length=3
 d:f.d.length=2
 lc:Lim M f.c
 ld:Lim M f.d
 k : -M≤f.k∧f.k≤M
theorem Std.mono {M M':Int} {f:Frm} (h:Std M f) (hm:M≤M'):Std M' f:=⟨h.c,h.d,h.lc.mono hm,h.ld.mono hm,by have:=h.k;omega⟩
theorem Std.fit {M:Int} {f:Frm} (h:Std M f):f.c.length≤2000000∧f.d.length≤2000000:=by have:=h.c;have:=h.d;omega
theorem UT (a b:List Int) (n:Int):(J5 a b n).length=min a.length b.length:=by simp[J5]
theorem JiC {a b:List Int} {n:Int} {i:Nat} (h1:i<a.length) (h2:i<b.length):(J5 a b n)[i]? = some (a.getD i 0+n*b.getD i 0):=by
 unfold J5;rw[List.getElem?_zipWith,Jvb h1,Jvb h2];simp[Ju3,h1,h2]
theorem Jer {a b:List Int} {n A B N:Int} (ha:Lim A a) (hb:Lim B b) (hn : -N≤n∧n≤N):Lim (A+N*B) (J5 a b n):=by
 intro x hx;simp only[J5,List.mem_iff_getElem?,List.getElem?_zipWith] at hx;obtain⟨i,hi⟩:=hx;cases h1:a[i]? with
 | none=>simp[h1] at hi
 | some p =>
  cases h2:b[i]? with
  | none=>simp[h1,h2] at hi
  | some q =>
   simp only[h1,h2,JuZ] at hi;subst hi;have hp:=ha p (Ju7 h1);have hq:=hb q (Ju7 h2);have:=KG hn hq;omega
theorem Q5 {a b:Frm} {n A B N:Int} (ha:Std A a) (hb:Std B b) (hn : -N≤n∧n≤N):Std (A+N*B) (JX a b n):=by
 refine⟨by simp[JX,UT,ha.c,hb.c],by simp[JX,UT,ha.d,hb.d],Jer ha.lc hb.lc hn,Jer ha.ld hb.ld hn,?_⟩;have h1:=KG hn hb.k;have h2:=ha.k;show -(A+N*B)≤a.k+n*b.k∧a.k+n*b.k≤A+N*B;omega
theorem Xu:Std 0 Frm.zero:=⟨rfl,rfl,by intro x hx;simp[Frm.zero] at hx;omega,by intro x hx;simp[Frm.zero] at hx;omega,by simp[Frm.zero]⟩
theorem Xk {v:Nat}:Std 1 (JC v):=by
 refine⟨by simp[JC],rfl,?_,by intro x hx;simp[JC] at hx;omega,by simp[JC]⟩;show Lim 1 ([0,0,0].set v 1);exact Lim.set (by intro x hx;simp at hx;omega) (by omega) v
theorem Jae {l:List Int} (h:l.length=3) : ∃ a b c,l=[a,b,c]:=by
 match l,h with
 | [a,b,c],_=>exact⟨a,b,c,rfl⟩
theorem Jiy {l:List Int} (h:l.length=2) : ∃ a b,l=[a,b]:=by
 match l,h with
 | [a,b],_=>exact⟨a,b,rfl⟩
theorem JfW {M:Int} {f:Frm} (h:Std M f):JX Frm.zero f 1=f:=by
 obtain⟨c,d,k⟩:=f;obtain⟨a,b,e,rfl⟩:=Jae h.c;obtain⟨p,q,rfl⟩:=Jiy h.d;simp[JX,J5,Frm.zero]
theorem W8 {M:Int} {f:Frm} (h:Std M f):Std (M+1) (QY f):=by
 have:=Q5 Xu h (n:=-1) (N:=1) (by omega);have h1:=this.k;exact⟨this.c,this.d,this.lc.mono (by omega),this.ld.mono (by omega),by
  show -(M+1)≤(JX Frm.zero f (-1)).k-1∧(JX Frm.zero f (-1)).k-1≤M+1;omega⟩
theorem Std.okF {M:Int} {f:Frm} (h:Std M f) (hm:M≤10000000):f.ok=true:=by
 have hk:=h.k;simp only[Frm.ok,Ju0,Jq,Jr];exact⟨⟨⟨by rw[h.c];rfl,h.lc.mono hm⟩,⟨by rw[h.d];rfl,h.ld.mono hm⟩⟩,by omega⟩
theorem XO {f:Frm} (h:f.small=true):f.c.length=3∧f.d.length=2∧Lim 2 f.c∧Lim 2 f.d∧-20≤f.k∧f.k≤20:=by
 simp only[Frm.small,Ju0,Jq,Jr] at h;obtain⟨⟨⟨h1,h2⟩,⟨h3,h4⟩⟩,h5,h6⟩:=h;exact⟨by omega,by omega,h2,h4,by omega,by omega⟩
theorem Jf1 {f:Frm} (h:f.small=true):Std 20 f:=by
 obtain⟨h1,h2,h3,h4,h5⟩:=XO h;exact⟨h1,h2,h3.mono (by omega),h4.mono (by omega),h5⟩
theorem JcY {f:Frm} {pots:List Frm} {M:Int} (hf:f.small=true) (hp :∀p∈pots,Std M p) (h0:0≤M) (i:Nat) (hi:i≤3) :
  Std (20+2*M*i) ((List.zip (pots.take i) (f.c.take i)).foldl (fun x q=>JX x q.1 q.2) ⟨[0,0,0],f.d,f.k⟩)∨pots.length<3:=by
 obtain⟨h1,h2,h3,h4,h5⟩:=XO hf
 by_cases hl:pots.length<3
 ·exact .inr hl
 left
 induction i with
 | zero=>exact⟨rfl,h2,by intro x hx;simp at hx;omega,h4.mono (by omega),by simpa using h5⟩
 | succ i ih =>
  have ih:=ih (by omega);have e1:pots[i]? = some pots[i]:=Jvb (by omega);have e2:f.c[i]? = some f.c[i]:=Jvb (by omega);rw[tS1 e1,tS1 e2,List.zip_append (by simp;omega),List.foldl_append];have:=Q5 ih (hp _ (List.getElem_mem (show i<pots.length by omega))) (h3 _ (List.getElem_mem (show i<f.c.length by omega)));refine Std.mono this ?_
  push_cast
  rw[Int.mul_add];omega
theorem U9 {f:Frm} {pots:List Frm} {M:Int} (hf:f.small=true) (hl:pots.length=3) (hp :∀p∈pots,Std M p) (h0:0≤M):Std (20+6*M) (Jt f pots):=by
 obtain⟨h1,_⟩:=XO hf;rcases JcY hf hp h0 3 (by omega) with h | h
 ·rw[Ju4 (by omega),Ju4 (by omega)] at h;exact h.mono (by omega)
 ·omega
def Zb (p g t:List Frm):Row:=⟨g,[JX (p.getD 0 Frm.none) (JC 0) (-1),JX (p.getD 1 Frm.none) (JC 1) (-1),JX (p.getD 2 Frm.none) (JC 2) (-1)],t,false⟩
def walk (a:List Jg) (p g t:List Frm):List Row:=match a with
 | []=>[Zb p g t]
 | l::rest =>
  if l.kind=4 then [⟨g,[],[],true⟩]
  else if l.kind=1 then walk rest p (g++[Jt l.f p]) t++walk (rest.drop l.skip.toNat) p (g++[QY (Jt l.f p)]) t
  else if l.kind=2 then walk rest (p.set l.pot.toNat (JX (p.getD l.pot.toNat Frm.none) (Jt l.f p) 1)) g t
  else walk rest p g (t++[Jt l.f p])
termination_by a.length
decreasing_by all_goals (simp only[List.length_cons,List.length_drop];omega)
def Jv (a:List Jg):List Row:=if Qo a then walk a [JC 0,JC 1,JC 2] [] [] else []
theorem JhH (a:List Jg) (p g t:List Frm):(walk a p g t).length≤2 ^ a.length:=by
 generalize hn:a.length=n
 induction n using Nat.strongRecOn generalizing a p g t with
 | _ n ih =>
  cases a with
  | nil=>rw[walk];subst hn;simp
  | cons l rest =>
   simp only[List.length_cons] at hn;subst hn;have h1:1≤2 ^ rest.length:=Nat.one_le_two_pow;have h2:2 ^ (rest.length+1)=2 ^ rest.length+2 ^ rest.length:=by rw[Nat.pow_succ];omega
   rw[walk];split
   ·simp;omega
   split
   ·rw[Ju6,h2];have e1:=ih rest.length (by omega) rest p (g++[Jt l.f p]) t rfl;have e2:=ih (rest.drop l.skip.toNat).length (by simp;omega) (rest.drop l.skip.toNat) p (g++[QY (Jt l.f p)]) t rfl;have e3:2 ^ (rest.drop l.skip.toNat).length≤2 ^ rest.length:=Nat.pow_le_pow_right (by omega) (by simp);omega
   split
   ·have:=ih rest.length (by omega) rest (p.set l.pot.toNat (JX (p.getD l.pot.toNat Frm.none) (Jt l.f p) 1)) g t rfl;omega
   ·have:=ih rest.length (by omega) rest p g (t++[Jt l.f p]) rfl;omega
def Bd:Nat→Int
 | 0=>1
 | n+1=>7*Bd n+20
theorem Y6 :∀n,0≤Bd n
 | 0=>by simp[Bd]
 | n+1=>by have:=Y6 n;simp only[Bd];omega
theorem Jhs {n:Nat} (h:n≤6):Bd n≤509809:=by
 match n,h with
 | 0,_ | 1,_ | 2,_ | 3,_ | 4,_ | 5,_ | 6,_=>decide
theorem Kw {n m:Nat} (h:n≤m):Bd n≤Bd m:=by
 induction h with
 | refl=>exact Int.le_refl _
 | @step m h ih=>have:=Y6 m;simp only[Bd];omega
theorem Xt (l:List Frm) (f:Frm):dF l++[f.g]=dF (l++[f]):=by simp[dF]
theorem Jnh (l:List Row):Yf 4 (Qm l)=true:=by cases l <;> rfl
theorem Jbb {l:List Frm} {i:Int} (h0:0≤i) (h1:i<l.length) : ∃ x,l[i.toNat]? = some x∧(dF l)[i.toNat]? = some x.g:=JlE h0 h1
theorem fill {S Z:List Int} {i:Nat} {s:Int} (hl:S.length=Z.length) (hs:S[i]? = some s):(S.take i++Z.drop i).set i s=S.take (i+1)++Z.drop (i+1):=by
 have hi:i<S.length:=(Ju1.1 hs).1;have h1:(S.take i).length=i:=by simp;omega
 rw[tS1 hs,List.set_append_right _ _ (by omega),List.append_assoc,h1,Nat.sub_self,List.drop_eq_getElem_cons (by omega:i<Z.length)];rfl
end Go.Tm
end
section
namespace Go.Tm
open Go.IntKind (i64)
section
variable {L:WO} {r x y body:R} {l vs:List V} {Q Q':Oc→Prop} {c:Nat}
abbrev NxtP (f:Nat→List V) (P:Nat→Prop) (n i:Nat) (Q:Oc→Prop):Oc→Prop
 | .next vs=>i<n∧vs=f (i+1)∧P (i+1)
 | .esc o=>Q o
 | .done _=>False
theorem Juu {init:List E} (n:Nat) (f:Nat→List V) (P:Nat→Prop) (hc:c=l.length) (h0:init.map (den (Jo l))=f 0) (hP:P 0)
  (hs :∀i,i≤n→P i→WR L body (l++f i) (NxtP f P n i Q)):WR L (.loop c init body) l Q:=by
 refine JuQ (fun m vs=>∃ i,i≤n∧m=n-i∧vs=f i∧P i) hc n ⟨0,by omega,by omega,h0,hP⟩ ?_;rintro m _ ⟨i,hi,hm,rfl,hp⟩;refine(hs i hi hp).mono ?_;intro o h;cases o with
 | next vs=>exact⟨n-(i+1),by have:=h.1;omega,i+1,h.1,rfl,h.2⟩
 | esc o=>exact h
 | done ds=>exact h
abbrev NxtS (S:Nat→List V→Prop) (n i:Nat) (Q:Oc→Prop):Oc→Prop
 | .next vs=>i<n∧S (i+1) vs
 | .esc o=>Q o
 | .done _=>False
theorem Jul {init:List E} (n:Nat) (S:Nat→List V→Prop) (hc:c=l.length) (h0:S 0 (init.map (den (Jo l))))
  (hs :∀i vs,i≤n→S i vs→WR L body (l++vs) (NxtS S n i Q)):WR L (.loop c init body) l Q:=by
 refine JuQ (fun m vs=>∃ i,i≤n∧m=n-i∧S i vs) hc n ⟨0,by omega,by omega,h0⟩ ?_;rintro m vs ⟨i,hi,hm,hp⟩;refine(hs i vs hi hp).mono ?_;intro o h;cases o with
 | next vs=>exact⟨n-(i+1),by have:=h.1;omega,i+1,h.1,rfl,h.2⟩
 | esc o=>exact h
 | done ds=>exact h
theorem JuG {b:E} {ds:List D} {m:Nat} (i:Nat) (he:ds.length=m) (hb:bol (Jo l) b=decide ((i:Int)<(ds.length:Int))) (hx:i<m→WR L x l Q) (hy : ¬i<m→WR L y l Q):WR L (.ite b x y) l Q :=
 JuB ((i:Int)<(ds.length:Int)) hb (fun h=>hx (by omega)) (fun h=>hy (by omega))
theorem JuD {b:E} (i m:Nat) (hb:bol (Jo l) b=decide ((i:Int)<(m:Int))) (hx:i<m→WR L x l Q) (hy : ¬i<m→WR L y l Q):WR L (.ite b x y) l Q :=
 JuB ((i:Int)<(m:Int)) hb (fun h=>hx (by omega)) (fun h=>hy (by omega))
theorem JuL {b:E} (t:Bool) (hb:bol (Jo l) b = !t) (hx:t=false→WR L x l Q) (hy:t=true→WR L y l Q):WR L (.ite b x y) l Q :=
 Jux (fun h=>hx (by rw[hb] at h;simpa using h)) (fun h=>hy (by rw[hb] at h;simpa using h))
theorem JuF {n:Nat} {e i:E} {sh:Sh} {ds:List D} {d:D} (k:Nat) (hd:ds[k]? = some d) (hn:n=l.length) (he:lst (Jo l) e=ds) (hi:int (Jo l) i=k) (hb:KS sh d=some vs) (h:WR L r (l++vs) Q) :
 WR L (.i (.idx e i sh n) r) l Q:=Juz (ds:=ds) (k:Int) hn he hi (by omega) (by rw[Int.toNat_natCast];exact hd) hb h
theorem JuA {b:E} (i:Nat) (hb:bol (Jo l) b=decide ((0:Int)≤(i:Int))) (h:WR L r l Q):WR L (.i (.chk b) r) l Q:=JuE ((0:Int)≤(i:Int)) hb (by omega) h
theorem JuS {b:E} {ds:List D} (i:Nat) (hb:bol (Jo l) b=decide ((i:Int)<(ds.length:Int))) (hi:i<ds.length) (h:WR L r l Q):WR L (.i (.chk b) r) l Q:=JuE ((i:Int)<(ds.length:Int)) hb (by omega) h
theorem JuP {n:Nat} {b1 b2 e i:E} {sh:Sh} {ds:List D} {d:D} (k:Nat) (hd:ds[k]? = some d) (hb1:bol (Jo l) b1=decide ((0:Int)≤(k:Int))) (hb2:bol (Jo l) b2=decide ((k:Int)<(ds.length:Int)))
  (hn:n=l.length) (he:lst (Jo l) e=ds) (hi:int (Jo l) i=k) (hb:KS sh d=some vs) (h:WR L r (l++vs) Q) :
  WR L (.i (.chk b1) (.i (.chk b2) (.i (.idx e i sh n) r))) l Q :=
 JuA k hb1 (JuS k hb2 (Ju1.1 hd).1 (JuF k hd hn he hi hb h))
theorem Jup {n:Nat} {f:FuncId} {as:List E} {rs:List Sh1} {args ds:List D} (hc:Ev L f args ds) (hn:n=l.length) (ha:as.map (dat (Jo l))=args) (hb:KA rs ds=some vs) (h:WR L r (l++vs) Q) :
 WR L (.i (.call f as rs n) r) l Q:=JuJ hn (by rw[ha];exact hc) hb h
theorem Juv {e:E} {N:Int} (ds:List D) (m:Nat) (hl:ds.length≤m) (hN:(m:Int)≤N) (he:lst (Jo l) e=ds) (hr:WR L r l Q):WR L (.i (.chk (.cmp .le (.len e) (.z N))) r) l Q :=
 Jus ds he (by omega) hr
theorem JuR {a y:E} {N:Int} (ds:List D) (m:Nat) (hl:ds.length≤m) (hN:(m:Int)+1≤N) (he:lst (Jo l) a=ds) (hr:WR L r l Q):WR L (.i (.chk (.cmp .le (.len (.app a (.cons y .nil))) (.z N))) r) l Q:=by
 refine Juo ?_ hr;show decide (((lst (Jo l) (.app a (.cons y .nil))).length:Int)≤N)=true;have:lst (Jo l) (.app a (.cons y .nil))=lst (Jo l) a++[dat (Jo l) y]:=rfl;rw[this,he,Ju6,List.length_singleton];simp only[decide_eq_true_eq];omega
def Joy (sh:Sh) (as:List E) (ar:List (Option Nat)) (k:Nat):R :=
 .loop 2 [(.z 0)] <|
  .ite (.cmp .lt (.v 2) (.len (.v 0)))
   (
    .i (.idx (.v 0) (.v 2) sh 3) <|
    .i (.callv (.da 1) as ar [.b] k) <|
    .ite (.v k)
     (
      .esc <|
      .done [(.vi .i64 (.v 2))])
     (
      .next [(.bin .add .i64 (.v 2) (.z 1))]))
   (
    .esc <|
    .done [(.vi .i64 (.z (-1)))])
theorem wS {i n:Nat} (h:i<n) (hn:n≤1000000000):i64.wrap ((i:Int)+1)=((i+1:Nat):Int):=by rw[w64 (by omega) (by omega)];rfl
theorem wS' {i:Nat} (hn:i≤1000000000):i64.wrap ((i:Int)+1)=((i+1:Nat):Int):=by rw[w64 (by omega) (by omega)];rfl
theorem sA1 {α:Type} {l:List α} {i:Nat} (h:i<l.length) : ∃ x,l[i]? = some x∧x∈l:=⟨l[i],by simp[h],List.getElem_mem h⟩
theorem mA1 {α:Type} {f:α→D} {l:List α} {i:Nat} {x:α} (h:l[i]? = some x):(l.map f)[i]? = some (f x):=by simp[h]
def Z5 {α:Type} (p:α→Bool) (l:List α):Int:=match l.findIdx? p with
 | some i=>i
 | none=>-1
theorem Jd0 {α:Type} {p:α→Bool} {l:List α} {i:Nat} {x:α} (h:l[i]? = some x) (hx:p x=true) (hn:(l.take i).any p=false):Z5 p l=i:=by
 have hi:=(Ju1.1 h).1;have:l.findIdx? p=some i:=by
  rw[List.findIdx?_eq_some_iff_getElem];refine⟨hi,?_,fun j hj=>?_⟩
  ·rw[Jvb hi] at h;cases h;exact hx
  ·have hm:l[j]∈l.take i:=by
    rw[List.mem_iff_getElem?];exact⟨j,by rw[Jvq hj,Jvb]⟩
   simp only[List.any_eq_false] at hn;exact hn _ hm
 simp only[Z5,this]
theorem Jey {α:Type} {p:α→Bool} {l:List α} (hn:l.any p=false):Z5 p l = -1:=by
 have:l.findIdx? p=none:=by
  rw[List.findIdx?_eq_none_iff];intro x hx;simp only[List.any_eq_false] at hn;exact Bool.eq_false_iff.2 (hn x hx)
 simp only[Z5,this]
theorem Ja1 {α:Type} (p:α→Bool) (l:List α):decide (0≤Z5 p l)=l.any p:=by
 unfold Z5;cases h:l.findIdx? p with
 | some i =>
  simp only[List.findIdx?_eq_some_iff_getElem] at h;obtain⟨h1,h2,_⟩:=h;have:l.any p=true:=List.any_eq_true.2 ⟨_,List.getElem_mem h1,h2⟩;rw[this];simp
 | none =>
  rw[List.findIdx?_eq_none_iff] at h;have:l.any p=false:=by
   rw[List.any_eq_false];intro x hx;rw[h x hx];simp
  rw[this];rfl
theorem Jel {α:Type} {p:α→Bool} {l:List α} {k:Nat} {x:α} (h:l[k]? = some x) (ha:(l.take k).any p=false) (hx:p x=false):(l.take (k+1)).any p=false:=by
 rw[tS1 h,List.any_append,ha];simp[hx]
theorem Zn {α:Type} {f:FuncId} {H:Kr} {sh:Sh} {as:List E} {ar:List (Option Nat)} {k:Nat} {fn:FuncId} {caps:List D} {s:Sig} (enc:α→D) (p:α→Bool) (args:α→List D) (vsOf:α→List V) (l:List α)
  (hf:L.lookup f=some ⟨s,.r H (Joy sh as ar k)⟩) (hs:UZ s=[.s,.d]) (hlen:l.length≤2000000)
  (hcap:XM (.f fn caps) = .f fn caps)
  (hb :∀x∈l,KS sh (enc x)=some (vsOf x)) (hk :∀x∈l,3+(vsOf x).length=k)
  (ha :∀(x:α) (v0 v1 v2:V),as.map (dat (Jo ([v0,v1,v2]++vsOf x)))=args x) (har:arT L fn=some (ar++caps.map fun _=>none))
  (hc :∀x∈l,Ev L fn (args x++caps.map D.norm) [dB (p x)]) :
  Ev L f [.s (l.map enc),.f fn caps] [dI (Z5 p l)]:=by
 refine JuV (vs:=[.l (l.map enc),.d (.f fn caps)]) hf (by rw[hs];rfl) ?_;refine Juu l.length (fun i=>[.i i]) (fun i=>(l.take i).any p=false) rfl rfl (by simp) fun i hi hn=>?_;refine JuG i (Ju9 (f:=enc) (as:=l)) rfl (fun h=>?_) (fun h=>?_)
 ·obtain⟨x,hx,hm⟩:=sA1 h;refine JuF i (mA1 (f:=enc) hx) rfl rfl rfl (hb x hm) ?_;have hk':=hk x hm;refine JuO (fn:=fn) (caps:=caps) (ds:=[dB (p x)]) (vs:=[.b (p x)]) (by simp;omega) ?_ har ?_ rfl ?_
  ·exact hcap
  ·show Ev L fn (as.map (dat (Jo ([V.l (l.map enc),.d (.f fn caps),.i i]++vsOf x)))++caps.map D.norm) [dB (p x)];rw[ha];exact hc x hm
  have e1 :∀(b:V) ,Jo ([V.l (l.map enc),.d (.f fn caps),.i i]++vsOf x++[b]) k=b:=by
   intro b;unfold Jo;rw[Ju3,Jvs (by simp;omega)];rw[show k-([V.l (l.map enc),.d (.f fn caps),.i i]++vsOf x).length=0 by simp;omega];rfl
  have e2 :∀(b:V) ,Jo ([V.l (l.map enc),.d (.f fn caps),.i i]++vsOf x++[b]) 2 = .i i:=by intro b;rfl
  refine JuU (p x) (by show (den (Jo ([V.l (l.map enc),.d (.f fn caps),.i i]++vsOf x++[V.b (p x)])) (.v k)).bool=p x;simp only[den,e1];rfl) (fun hp=>?_) (fun hp=>?_)
  ·refine Juk (Juy (ds:=[dI i]) rfl ?_);rw[Jd0 hx hp hn]
  ·refine JuC (vs:=[.i ((i+1:Nat):Int)]) ?_ ⟨h,rfl,Jel hx hn hp⟩;show [V.i (i64.wrap ((i:Int)+1))]=_;rw[wS h (by omega)]
 ·refine Juk (Juy (ds:=[dI (-1)]) rfl ?_);rw[Ju4 (by omega)] at hn;rw[Jey hn]
def Jml (f:FuncId):R :=
 .i (.call f [(.s (.v 0)),(.da 1)] [.i .i64] 2) <|
 .done [(.vb (.cmp .le (.z 0) (.v 2)))]
theorem YK {α:Type} {f g:FuncId} {H:Kr} {s:Sig} {enc:α→D} {p:α→Bool} {l:List α} {fn:FuncId} {caps:List D} (hf:L.lookup f=some ⟨s,.r H (Jml g)⟩) (hs:UZ s=[.s,.d])
  (hcap:XM (.f fn caps) = .f fn caps) (h:Ev L g [.s (l.map enc),.f fn caps] [dI (Z5 p l)]):Ev L f [.s (l.map enc),.f fn caps] [dB (l.any p)]:=by
 refine JuV (vs:=[.l (l.map enc),.d (.f fn caps)]) hf (by rw[hs];rfl) ?_;refine Jup h rfl ?_ rfl ?_
 ·show [D.s (l.map enc),XM (.f fn caps)]=_;rw[hcap]
 ·refine Jun ?_;show [dB (decide (0≤Z5 p l))]=_;rw[Ja1]
def JqH (c sz:Nat) (N:Int):R :=
 .nilq c (.v 0)
  (
   .done [(.s .nil)])
  (
   .i (.chk (.cmp .le (.len (.v 0)) (.z N))) <|
   .i (.head sz (.v 0)) <|
   .i (.chk (.cmp .le (.len (.app .nil (.v 0))) (.z N))) <|
   .done [(.s (.app .nil (.v 0)))])
theorem JnX {f:FuncId} {H:Kr} {s:Sig} {c sz:Nat} {N:Int} {ds:List D} (hf:L.lookup f=some ⟨s,.r H (JqH c sz N)⟩) (hs:UZ s=[.s]) (hh:Yf sz ds=true) (hl:ds.length≤2000000) (hN:2000000≤N) :
  Ev L f [.s ds] [.s ds]:=by
 refine JuV (vs:=[.l ds]) hf (by rw[hs];rfl) ?_;refine Juq (.done [.s ds]) (fun h=>?_) ?_ rfl
 ·refine Jun ?_;have h:ds=[]:=h;subst h;rfl
 ·refine Juv ds 2000000 hl hN rfl ?_;refine JuT hh ?_;refine Juv ds 2000000 hl hN rfl ?_;exact Jun rfl
end
theorem Jpo {α β:Type} {f:α→β} {l:List α} {k:Nat} {x:α} (h:l[k]? = some x):(l.take (k+1)).map f=(l.take k).map f++[f x]:=by rw[tS1 h];simp
theorem XJ {α β:Type} {f:β→α→β} {b:β} {l:List α} {k:Nat} {x:α} (h:l[k]? = some x):(l.take (k+1)).foldl f b=f ((l.take k).foldl f b) x:=by rw[tS1 h];simp
theorem tA1 {α:Type} {l:List α} {i:Nat} (h : ¬i<l.length):l.take i=l:=Ju4 (by omega)
end Go.Tm
end
section
namespace Go.Tm
open Go.IntKind (i64)
theorem Jow {α:Type} {S Z:List α} {i:Nat} {s:α} (hl:S.length=Z.length) (hs:S[i]? = some s):(S.take i++Z.drop i).set i s=S.take (i+1)++Z.drop (i+1):=by
 have hi:i<S.length:=(Ju1.1 hs).1;have h1:(S.take i).length=i:=by simp;omega
 rw[tS1 hs,List.set_append_right _ _ (by omega),List.append_assoc,h1,Nat.sub_self,List.drop_eq_getElem_cons (by omega:i<Z.length)];rfl
theorem JmS {α:Type} {S Z:List α} {i:Nat} {s:α} (hs:S[i]? = some s) (hz:Z[i]? = some s):S.take i++Z.drop i=S.take (i+1)++Z.drop (i+1):=by
 rw[tS1 hs];obtain⟨h1,h2⟩:=Ju1.1 hz;rw[List.drop_eq_getElem_cons h1,h2,List.append_assoc];rfl
def dBl (l:List Bool):List D:=l.map dB
theorem Jf8 (l:List Bool):(dBl l).length=l.length:=by simp[dBl]
theorem JlB (l:List Bool) (k:Nat) (x:Bool):(dBl l).set k (dB x)=dBl (l.set k x):=by simp[dBl,List.map_set]
theorem Ja2 (l:List (List Int)) (x:List Int):dLL l++[.s (dL x)]=dLL (l++[x]):=by simp[dLL]
def Zj:List Int→Int
 | []=>0
 | x::l=>if 0<x then 1 else if x<0 then -1 else Zj l
def Jn (c:List Int):List Int:=c.map (Zj c * ·)
theorem JiP (l:List Int) (x:Int):Zj (l++[x])=if Zj l=0 then(if 0<x then 1 else if x<0 then -1 else 0) else Zj l:=by
 induction l with
 | nil=>simp[Zj]
 | cons y l ih =>
  simp only[List.cons_append,Zj]
  by_cases h1:0<y
  ·simp[h1]
  ·by_cases h2:y<0
   ·simp[h1,h2]
   ·simp only[h1,h2,if_false];exact ih
theorem JoB {l:List Int} (h:Zj l=0) :∀x∈l,x=0:=by
 induction l with
 | nil=>simp
 | cons y l ih =>
  simp only[Zj] at h;split at h
  ·cases h
  ·split at h
   ·cases h
   ·intro x hx;rcases Jvj.1 hx with rfl | hx
    ·omega
    ·exact ih h x hx
theorem Jgu (l:List Int):Zj l=0∨Zj l=1∨Zj l = -1:=by
 induction l with
 | nil=>simp[Zj]
 | cons y l ih =>
  simp only[Zj];split
  ·simp
  ·split
   ·simp
   ·exact ih
theorem Jm7 (l:List Int) (x:Int):Jn (l++[x])=Jn l++[Zj (l++[x])*x]:=by
 have:l.map (Zj (l++[x]) * ·)=l.map (Zj l * ·):=by
  apply Jvm;intro y hy
  by_cases h:Zj l=0
  ·rw[JoB h y hy];simp
  ·simp only[JiP,if_neg h]
 simp only[Jn,List.map_append,this,Ju8,List.map_nil]
theorem VF (c:List Int):(Jn c).length=c.length:=by simp[Jn]
theorem JoO {M:Int} {c:List Int} (h:Lim M c):Lim M (Jn c):=by
 intro x hx;simp only[Jn,List.mem_map] at hx;obtain⟨y,hy,rfl⟩:=hx;have:=h y hy;rcases Jgu c with e | e | e <;> rw[e] <;> omega
def K6 (l:List (List Int)) (p:List Int):Int:=Z5 (fun q=>decide (q=p)) l
def UD (p:List Bool) (c:List Int):List Bool:=List.zipWith (fun b x=>b||decide (x≠0)) p c
def QU (p:List Bool) (fs:List Frm):List Bool:=fs.foldl (fun p f=>UD p f.c) p
theorem JaB (p:List Bool) (c:List Int):(UD p c).length=min p.length c.length:=by simp[UD]
theorem Kc {p:List Bool} {fs:List Frm} (hp:p.length=3) (hf :∀f∈fs,f.c.length=3):(QU p fs).length=3:=by
 induction fs generalizing p with
 | nil=>exact hp
 | cons f fs ih=>exact ih (by rw[JaB];have:=hf f (by simp);omega) fun g hg=>hf g (by simp[hg])
def Jp (out:List (List Int)) (f:Frm):List (List Int):=if K6 out (Jn f.c)<0∧Jn f.c≠[0,0,0] then out++[Jn f.c] else out
def QV (s:List (List Int)×List Bool) (r:Row):List (List Int)×List Bool:=(r.guards.foldl Jp s.1,QU (QU s.2 r.adds) r.tells)
def Yu (s:List (List Int)×List Bool) (act:List Jg):List (List Int)×List Bool:=(Jv act).foldl QV s
def YS:List (List Int):=[[1,0,0],[0,1,0],[0,0,1]]
def U2 (acts:List (List Jg)):List (List Int)×List Bool:=acts.foldl Yu (YS,[false,false,false])
def Jb (acts:List (List Jg)):List (List Int):=if Qx acts then(U2 acts).1 else []
def Jj (acts:List (List Jg)):List Bool:=if Qx acts then(U2 acts).2 else []
theorem JiF (out:List (List Int)) (f:Frm):(Jp out f).length≤out.length+1:=by unfold Jp;split <;> simp
theorem Jjp {p:List Int→Prop} {out:List (List Int)} {f:Frm} (h :∀q∈out,p q) (hf:p (Jn f.c)) :∀q∈Jp out f,p q:=by
 unfold Jp;split
 ·intro q hq;rcases Ju5.1 hq with hq | hq
  ·exact h q hq
  ·simp at hq;subst hq;exact hf
 ·exact h
structure YZ (r:Row):Prop where
 g :∀f∈r.guards,Std 10000000 f
 a :∀f∈r.adds,Std 10000000 f
 t :∀f∈r.tells,Std 10000000 f
 gl:r.guards.length≤6
 tl:r.tells.length≤6
 al:r.adds.length≤3
 st:r.stop=true→r.adds=[]∧r.tells=[]
 ns:r.stop=false→r.adds.length=3
theorem XH {l:Jg} (h:l.ok=true) (h4 : ¬l.kind=4):l.f.small=true:=by
 unfold Jg.ok at h;split at h
 ·simp only[Ju0] at h;exact h.2
 split at h
 ·simp only[Ju0] at h;exact h.2
 split at h
 ·simp only[Ju0] at h;exact h.2
 ·simp[h4] at h
theorem Jdw {p:List Frm} {P:Frm→Prop} (hp:p.length=3) (h :∀f∈p,P f) {i:Nat} (hi:i<3):P (p.getD i Frm.none):=by
 rw[Ju3,Jvb (by omega)];exact h _ (List.getElem_mem _)
theorem Jot :∀(n:Nat) (a:List Jg) (p g t:List Frm) (j:Nat),a.length=n→(∀l∈a,l.ok=true)→j+n≤6→p.length=3→(∀f∈p,Std (Bd j) f)→(∀f∈g,Std 10000000 f)→(∀f∈t,Std 10000000 f)→g.length≤j→t.length≤j →
  ∀r∈walk a p g t,YZ r:=by
 intro n
 induction n using Nat.strongRecOn with
 | _ n ih =>
  intro a p g t j hn ha hj hp sp sg st lg lt r hr;cases a with
  | nil =>
   rw[walk] at hr;simp only[Jvi] at hr;subst hr;have hB:=Jhs (show j≤6 by omega);have hB0:=Y6 j;have ad :∀i,i<3→Std 10000000 (JX (p.getD i Frm.none) (JC i) (-1)):=fun i hi =>
    (Q5 (Jdw hp sp hi) Xk (n:=-1) (N:=1) (by omega)).mono (by omega)
   refine⟨sg,?_,st,by show g.length≤6;omega,by show t.length≤6;omega,by simp[Zb],fun h=>by simp[Zb] at h,fun _=>rfl⟩;intro f hf;simp only[Zb,Jvj,List.not_mem_nil,or_false] at hf;rcases hf with rfl | rfl | rfl
   ·exact ad 0 (by omega)
   ·exact ad 1 (by omega)
   ·exact ad 2 (by omega)
  | cons l rest =>
   simp only[List.length_cons] at hn;have hok:=ha l (by simp);have har :∀x∈rest,x.ok=true:=fun x hx=>ha x (by simp[hx]);rw[walk] at hr;split at hr
   ·simp only[Jvi] at hr;subst hr;exact⟨sg,by simp,by simp,by show g.length≤6;omega,by simp,by simp,fun _=>⟨rfl,rfl⟩,fun h=>by cases h⟩
   ·rename_i h4;have hB:=Jhs (show j≤5+1 by omega);have hB0:=Y6 j;have hin:=U9 (XH hok h4) hp sp hB0;have hin7:Std 10000000 (Jt l.f p):=hin.mono (by omega);have spB :∀f∈p,Std (Bd (j+1)) f:=fun f hf=>(sp f hf).mono (Kw (by omega));have sn :∀{q:List Frm} {x:Frm},(∀f∈q,Std 10000000 f)→Std 10000000 x→∀f∈q++[x],Std 10000000 f:=by
     intro q x hq hx f hf;rcases Ju5.1 hf with hf | hf
     ·exact hq f hf
     ·simp at hf;subst hf;exact hx
    split at hr
    ·rcases Ju5.1 hr with hr | hr
     ·exact ih rest.length (by omega) rest p _ t (j+1) rfl har (by omega) hp spB (sn sg hin7) st (by simp;omega) (by omega) r hr
     ·refine ih (rest.drop l.skip.toNat).length (by simp;omega) (rest.drop l.skip.toNat) p _ t (j+1) rfl (fun x hx=>har x (List.mem_of_mem_drop hx)) (by simp;omega) hp spB (sn sg ((W8 hin).mono (by omega))) st (by simp;omega) (by omega) r hr
    split at hr
    ·refine ih rest.length (by omega) rest _ g t (j+1) rfl har (by omega) (by simp[hp]) ?_ sg st (by omega) (by omega) r hr;intro f hf;rcases Jvp hf with hf | hf
     ·exact spB f hf
     ·subst hf
      by_cases hlt:l.pot.toNat<3
      ·exact(Q5 (Jdw hp sp hlt) hin (n:=1) (N:=1) (by omega)).mono (by simp only[Bd];omega)
      ·rw[List.set_eq_of_length_le (by omega)] at hf;exact spB _ hf
    ·exact ih rest.length (by omega) rest p g _ (j+1) rfl har (by omega) hp spB sg (sn st hin7) (by omega) (by simp;omega) r hr
theorem Ko {act:List Jg} (h:Qo act=true):act.length≤6∧∀l∈act,l.ok=true:=by
 simp only[Qo,Ju0,decide_eq_true_eq,Jvd] at h;exact⟨by omega,h.1.1⟩
theorem Yp {act:List Jg} :∀r∈Jv act,YZ r:=by
 intro r hr;unfold Jv at hr;split at hr
 ·rename_i h;obtain⟨h1,h2⟩:=Ko h;refine Jot act.length act _ [] [] 0 rfl h2 (by omega) rfl ?_ (by simp) (by simp) (by simp) (by simp) r hr;intro f hf;simp at hf;rcases hf with rfl | rfl | rfl <;> exact Xk
 ·cases hr
theorem Uh (act:List Jg):(Jv act).length≤64:=by
 unfold Jv;split
 ·rename_i h;obtain⟨h1,h2⟩:=Ko h;exact Nat.le_trans (JhH _ _ _ _) (Nat.le_trans (Nat.pow_le_pow_right (by omega) h1) (by decide))
 ·simp
def JQ (l:List Int):Bool:=JK 3 10000 l
def Q1 (l:List Int):Bool:=JK 2 9 l
def Qw (b g:List Int):Bool:=JQ b&&inB g.length 1 3&&g.all fun x=>inB x 0 50
def QW (ps:List (List Int)):Bool:=ps.all fun p=>JK 3 10000000 p
def QT (a:List Int):Bool:=JK 3 20000 a
def dot:List Int→List Int→Int
 | x::a,y::b=>x*y+dot a b
 | _,_=>0
def Z1 (give:Int) (a p:List Int):Bool:=inB (dot p a) (0-give) give
def keeps (b g:List Int) (ps:List (List Int)) (s:Int) (a:List Int):Bool :=
 Qw b g&&QW ps&&inB s 0 (g.length-1)&&QT a&&ps.all (Z1 (g.getD s.toNat 0) a)
theorem Joo {a b:List Int} (x y:Int) (h:a.length=b.length):dot (a++[x]) (b++[y])=dot a b+x*y:=by
 induction a generalizing b with
 | nil=>cases b <;> simp[dot] at h ⊢
 | cons p a ih =>
  cases b with
  | nil=>simp at h
  | cons q b=>simp only[List.cons_append,dot,ih (by simpa using h)];omega
theorem ZH {a b:List Int} {A B:Int} (ha:Lim A a) (hb:Lim B b) (hA:0≤A) (hB:0≤B) : -(A*B*a.length)≤dot a b∧dot a b≤A*B*a.length:=by
 have hAB:0≤A*B:=Int.mul_nonneg hA hB
 induction a generalizing b with
 | nil=>simp[dot]
 | cons p a ih =>
  have h0:0≤A*B*(a.length:Int):=Int.mul_nonneg hAB (by omega);cases b with
  | nil =>
   simp only[dot,List.length_cons];have:0≤A*B*((a.length+1:Nat):Int):=Int.mul_nonneg hAB (by omega);omega
  | cons q b =>
   have h1:=ih (b:=b) (fun x hx=>ha x (by simp[hx])) (fun x hx=>hb x (by simp[hx]));have h2:=KG (ha p (by simp)) (hb q (by simp));simp only[dot,List.length_cons];have e:A*B*((a.length+1:Nat):Int)=A*B*a.length+A*B:=by push_cast;rw[Int.mul_add];omega
   rw[e];omega
def Jqm {α:Type} (p:Nat→α→Bool) (l:List α):Bool:=l.zipIdx.all fun q=>p q.2 q.1
theorem Jrp {α:Type} {p:Nat→α→Bool} {l:List α}:Jqm p l=true↔∀(k:Nat) (x:α),l[k]? = some x→p k x=true:=by
 unfold Jqm;rw[Jvd];constructor
 ·intro h k x hx;exact h (x,k) (by rw[List.mem_zipIdx_iff_getElem?];exact hx)
 ·intro h q hq;rw[List.mem_zipIdx_iff_getElem?] at hq;exact h _ _ hq
end Go.Tm
end
section
namespace Go.Tm
open Go.IntKind (i64)
def cnt (k:Int) (n:Nat):List Int:=(List.range n).map fun(i:Nat)=>k+(i:Int)
theorem Jst (k:Int) {n i:Nat} (h:i<n):(cnt k n)[i]? = some (k+i):=by simp[cnt,h]
def dec (left:Int) (n:Nat):Int:=if(n:Int)≤left then left-n else -1
theorem K0 {α:Type} (f:α→D) (h :∀x,flat (f x)=true) :∀l:List α,JM (l.map f)=true
 | []=>rfl
 | x::l=>by simp[JM,h x,K0 f h l]
def Jsk {α:Type} (w:α→Nat) (mk:Int→α→α):Int→List α→List α
 | _,[]=>[]
 | k,x::l=>mk k x::Jsk w mk (k+w x) l
def wts {α:Type} (w:α→Nat) (l:List α):Nat:=(l.map w).sum
section
variable {L:WO} {α:Type} {f:FuncId} {s:Sig} {H:Kr} {body:R}
end
structure Don where
 seq:Int
 code:Int
 tells:List Int
 deriving DecidableEq
def Don.cells (d:Don):List D:=[dI d.seq,dI d.code,.s (dL d.tells)]
def Don.g (d:Don):D:= .g d.cells
def dDs (l:List Don):List D:=l.map Don.g
def Don.w (d:Don):Nat:=2+d.tells.length
def Don.mk' (q:Int) (d:Don):Don:=⟨q,q+1,cnt (q+1+1) d.tells.length⟩
structure Got where
 has:Bool
 added:List Int
 seqs:List Int
 deriving DecidableEq
def Got.cells (d:Got):List D:=[dB d.has,.s (dL d.added),.s (dL d.seqs)]
def Got.g (d:Got):D:= .g d.cells
def dGs (l:List Got):List D:=l.map Got.g
def Got.w (d:Got):Nat:=1+d.added.length+d.seqs.length
def Got.mk' (q:Int) (d:Got):Got:=⟨decide (q.tmod 3=0),cnt (q+1) d.added.length,cnt (q+1+d.added.length) d.seqs.length⟩
structure Cal where
 client:Int
 seq:Int
 act:Int
 args:List Int
 deriving DecidableEq
def Cal.cells (d:Cal):List D:=[dI d.client,dI d.seq,dI d.act,.s (dL d.args)]
def Cal.g (d:Cal):D:= .g d.cells
def dCs (l:List Cal):List D:=l.map Cal.g
def Cal.w (d:Cal):Nat:=3+d.args.length
def Cal.mk' (q:Int) (d:Cal):Cal:=⟨q,q+1,q+1+1,cnt (q+1+1+1) d.args.length⟩
end Go.Tm
end
section
namespace Go.Tm
open Go.IntKind (i64)
def atF (f:Frm) (vals args:List Int):Int:=dot f.c vals+dot f.d args+f.k
theorem Jjc {a b v:List Int} {n:Int} (h:a.length=b.length):dot (J5 a b n) v=dot a v+n*dot b v:=by
 induction a generalizing b v with
 | nil=>cases b <;> simp[J5,dot] at h ⊢
 | cons x a ih =>
  cases b with
  | nil=>simp at h
  | cons y b =>
   cases v with
   | nil=>simp[J5,dot]
   | cons z v =>
    have:=ih (b:=b) (v:=v) (by simpa using h);simp only[J5,List.zipWith_cons_cons,dot] at this ⊢;rw[this,Int.add_mul,Int.mul_add,Int.mul_assoc];omega
theorem Vw {A B:Int} {a b:Frm} (ha:Std A a) (hb:Std B b) (n:Int) (v w:List Int):atF (JX a b n) v w=atF a v w+n*atF b v w:=by
 unfold atF JX;simp only;rw[Jjc (by rw[ha.c,hb.c]),Jjc (by rw[ha.d,hb.d]),Int.mul_add,Int.mul_add];omega
theorem Jqi (v w:List Int):atF Frm.zero v w=0:=by
 have h :∀(n:Nat) (v:List Int),dot (List.replicate n 0) v=0:=by
  intro n
  induction n with
  | zero=>intro v;cases v <;> rfl
  | succ n ih=>intro v;cases v with
   | nil=>rfl
   | cons x v=>simp only[List.replicate_succ,dot,ih v];omega
 have h3:=h 3 v;have h2:=h 2 w;simp only[List.replicate] at h3 h2;simp only[atF,Frm.zero,h3,h2];omega
theorem WU {v w:List Int} (hv:v.length=3) (hw:w.length=2) (i:Nat) (hi:i<3):atF (JC i) v w=v.getD i 0:=by
 obtain⟨a,b,c,rfl⟩:=Jae hv;obtain⟨d,e,rfl⟩:=Jiy hw
 match i,hi with
 | 0,_ | 1,_ | 2,_=>simp[atF,JC,dot]
theorem JoE {A:Int} {f:Frm} (hf:Std A f) (v w:List Int):atF (QY f) v w = - atF f v w-1:=by
 have h:=Vw Xu hf (-1) v w;rw[Jqi] at h;have e:atF (QY f) v w=atF (JX Frm.zero f (-1)) v w-1:=by
  unfold atF QY;simp only;omega
 rw[e,h];omega
def atL (p:List Frm) (v w:List Int):List Int:=p.map fun f=>atF f v w
theorem Jpx {M:Int} {f:Frm} {p:List Frm} (hf:f.small=true) (hl:p.length=3) (hp :∀q∈p,Std M q) (v w:List Int):atF (Jt f p) v w=atF f (atL p v w) w:=by
 obtain⟨h1,h2,_⟩:=XO hf
 match p,hl with
 | [q0,q1,q2],_ =>
  have s0:=hp q0 (by simp);have s1:=hp q1 (by simp);have s2:=hp q2 (by simp);obtain⟨fc,fd,fk⟩:=f;obtain⟨x,y,z,rfl⟩:=Jae h1;have hb:Std (fd.length*0+(Int.natAbs fk:Int)+((fd.map Int.natAbs).sum:Nat)) (⟨[0,0,0],fd,fk⟩:Frm):=by
   refine⟨rfl,h2,?_,?_,?_⟩
   ·intro x hx;simp at hx;omega
   ·intro x hx;have hs :∀(l:List Int),x∈l→x.natAbs≤(l.map Int.natAbs).sum:=by
     intro l
     induction l with
     | nil=>intro h;simp at h
     | cons y l ih =>
      intro h;simp only[Ju8,List.sum_cons];rcases Jvj.1 h with rfl | h
      ·omega
      ·have:=ih h;omega
    have:=hs fd hx;omega
   ·show _≤fk∧fk≤_;omega
  have e0:=Q5 hb s0 (n:=x) (N:=x.natAbs) (by omega);have e1:=Q5 e0 s1 (n:=y) (N:=y.natAbs) (by omega);simp only[Jt,List.zip_cons_cons,List.zip_nil_right,List.foldl_cons,List.foldl_nil,atL,Ju8,List.map_nil];rw[Vw e1 s2,Vw e0 s1,Vw hb s0];simp only[atF,dot];have hz:dot [0,0,0] v=0:=by
   cases v with
   | nil=>rfl
   | cons a v=>cases v with
    | nil=>simp[dot]
    | cons b v=>cases v with
     | nil=>simp[dot]
     | cons c v=>simp[dot]
  rw[hz];omega
structure Res where
 code:Int
 tells:List Int
 is:List Int
 deriving DecidableEq
def JfP (was x tells:List Int):Res:=if JQ x then ⟨1,tells,x⟩ else ⟨3,[],was⟩
def run (was args:List Int) (a:List Jg) (x tells:List Int):Res:=match a with
 | []=>JfP was x tells
 | l::rest =>
  if l.kind=4 then ⟨2,[],was⟩
  else if l.kind=1 then(if atF l.f x args<0 then run was args (rest.drop l.skip.toNat) x tells else run was args rest x tells)
  else if l.kind=2 then run was args rest (x.set l.pot.toNat (x.getD l.pot.toNat 0+atF l.f x args)) tells
  else run was args rest x (tells++[atF l.f x args])
termination_by a.length
decreasing_by all_goals (simp only[List.length_cons,List.length_drop];omega)
def X8 (a:List Jg) (vals args:List Int):Res:=if Qo a&&(JQ vals&&Q1 args) then run vals args a vals [] else ⟨0,[],[]⟩
def Qg (r:Row) (v w:List Int):Bool:=r.guards.all fun f=>decide (0≤atF f v w)
def Jes (r:Row) (v w:List Int):Res:=if r.stop then ⟨2,[],v⟩ else JfP v (List.zipWith (· + ·) v (atL r.adds v w)) (atL r.tells v w)
theorem Jp8 (p:List Frm) (v w:List Int) (i:Nat) (f:Frm):atL (p.set i f) v w=(atL p v w).set i (atF f v w):=by simp[atL,List.map_set]
theorem JnO {p:List Frm} {v w:List Int} {i:Nat} (h:i<p.length):(atL p v w).getD i 0=atF (p.getD i Frm.none) v w:=by
 simp[atL,Ju3,h]
theorem JoG {v w:List Int} (hv:v.length=3) (hw:w.length=2) :∀(n:Nat) (a:List Jg) (p g t:List Frm) (j:Nat),a.length=n→(∀l∈a,l.ok=true)→j+n≤6→p.length=3→(∀f∈p,Std (Bd j) f) →
  (if g.all (fun f=>decide (0≤atF f v w)) then ∃ (l1 l2:List Row) (r:Row),walk a p g t=l1++r::l2∧Qg r v w=true∧(∀s∈l1,Qg s v w=false)∧(∀s∈l2,Qg s v w=false)∧Jes r v w=run v w a (atL p v w) (atL t v w)
   else ∀s∈walk a p g t,Qg s v w=false):=by
 intro n
 induction n using Nat.strongRecOn with
 | _ n ih =>
  intro a p g t j hn ha hj hp sp;cases a with
  | nil =>
   rw[walk,run];split
   ·rename_i hg;refine⟨[],[],Zb p g t,rfl,hg,by simp,by simp,?_⟩;have e:List.zipWith (· + ·) v (atL (Zb p g t).adds v w)=atL p v w:=by
     match p,hp with
     | [q0,q1,q2],_ =>
      obtain⟨a,b,c,rfl⟩:=Jae hv;have s0:=sp q0 (by simp);have s1:=sp q1 (by simp);have s2:=sp q2 (by simp);simp only[Zb,atL,Ju8,List.map_nil,List.zipWith_cons_cons,List.zipWith_nil_right,List.getD_cons_zero,List.getD_cons_succ];rw[Vw s0 Xk,Vw s1 Xk,Vw s2 Xk,WU hv hw 0 (by omega),WU hv hw 1 (by omega),WU hv hw 2 (by omega)];simp only[List.getD_cons_zero,List.getD_cons_succ]
      congr 1
      ·omega
      ·congr 1
       ·omega
       ·congr 1;omega
    show Jes (Zb p g t) v w=_;simp only[Jes,e];rfl
   ·rename_i hg;intro s hs;simp only[Jvi] at hs;subst hs;simpa[Qg,Zb] using hg
  | cons l rest =>
   simp only[List.length_cons] at hn;have hok:=ha l (by simp);have har :∀x∈rest,x.ok=true:=fun x hx=>ha x (by simp[hx]);rw[walk,run]
   by_cases h4:l.kind=4
   ·simp only[if_pos h4];split
    ·rename_i hg;refine⟨[],[],⟨g,[],[],true⟩,rfl,hg,by simp,by simp,?_⟩;simp[Jes]
    ·rename_i hg;intro s hs;simp only[Jvi] at hs;subst hs;simpa[Qg] using hg
   ·simp only[if_neg h4];have hB:=Jhs (show j≤5+1 by omega);have hB0:=Y6 j;have hsm:=XH hok h4;have hin:=U9 hsm hp sp hB0;have hat:=Jpx hsm hp sp v w;have spB :∀f∈p,Std (Bd (j+1)) f:=fun f hf=>(sp f hf).mono (Kw (by omega))
    by_cases h1:l.kind=1
    ·simp only[if_pos h1];have i1:=ih rest.length (by omega) rest p (g++[Jt l.f p]) t (j+1) rfl har (by omega) hp spB;have i2:=ih (rest.drop l.skip.toNat).length (by simp;omega) (rest.drop l.skip.toNat) p (g++[QY (Jt l.f p)]) t (j+1) rfl (fun x hx=>har x (List.mem_of_mem_drop hx)) (by simp;omega) hp spB;rw[List.all_append] at i1 i2;simp only[List.all_cons,List.all_nil,Bool.and_true] at i1 i2;rw[JoE hin,hat] at i2;rw[hat] at i1;split
     ·rename_i hg;rw[hg,Jvk] at i1 i2;split
      ·rename_i hlt;rw[if_neg (by simp;omega)] at i1;rw[if_pos (by simp;omega)] at i2;obtain⟨l1,l2,r,e1,e2,e3,e4,e5⟩:=i2;refine⟨walk rest p (g++[Jt l.f p]) t++l1,l2,r,by rw[e1,List.append_assoc],e2,?_,e4,e5⟩;intro s hs;rcases Ju5.1 hs with hs | hs
       ·exact i1 s hs
       ·exact e3 s hs
      ·rename_i hlt;rw[if_pos (by simp;omega)] at i1;rw[if_neg (by simp;omega)] at i2;obtain⟨l1,l2,r,e1,e2,e3,e4,e5⟩:=i1;refine⟨l1,l2++walk (rest.drop l.skip.toNat) p (g++[QY (Jt l.f p)]) t,r,by rw[e1];simp,e2,e3,?_,e5⟩;intro s hs;rcases Ju5.1 hs with hs | hs
       ·exact e4 s hs
       ·exact i2 s hs
     ·rename_i hg;have hg:(g.all fun f=>decide (0≤atF f v w))=false:=by simpa using hg
      rw[hg,Bool.false_and,if_neg (by simp)] at i1 i2;intro s hs;rcases Ju5.1 hs with hs | hs
      ·exact i1 s hs
      ·exact i2 s hs
    simp only[if_neg h1]
    by_cases h2:l.kind=2
    ·simp only[if_pos h2];have hpt:l.pot.toNat<p.length:=by
      have:=hok;unfold Jg.ok at this;rw[if_neg (by omega),if_pos h2] at this;simp only[Ju0,Jr] at this;omega
     have hq:=Jdw (i:=l.pot.toNat) hp sp (by omega);have hsum:Std (Bd (j+1)) (JX (p.getD l.pot.toNat Frm.none) (Jt l.f p) 1):=(Q5 hq hin (n:=1) (N:=1) (by omega)).mono (by simp only[Bd];omega);have i1:=ih rest.length (by omega) rest (p.set l.pot.toNat (JX (p.getD l.pot.toNat Frm.none) (Jt l.f p) 1)) g t (j+1) rfl har (by omega) (by simp[hp]) (by
      intro f hf;rcases Jvp hf with hf | hf
      ·exact spB f hf
      ·subst hf;exact hsum)
     rw[Jp8,Vw hq hin,hat] at i1;rw[JnO hpt,show atF l.f (atL p v w) w=1*atF l.f (atL p v w) w by omega];exact i1
    ·simp only[if_neg h2];have i1:=ih rest.length (by omega) rest p g (t++[Jt l.f p]) (j+1) rfl har (by omega) hp spB;have e:atL (t++[Jt l.f p]) v w=atL t v w++[atF l.f (atL p v w) w]:=by simp[atL,hat]
     rw[e] at i1;exact i1
theorem JpE {a:List Jg} {v w:List Int} (ha:Qo a=true) (hv:v.length=3) (hw:w.length=2) :
  ∃ (l1 l2:List Row) (r:Row),Jv a=l1++r::l2∧Qg r v w=true∧(∀s∈l1,Qg s v w=false)∧(∀s∈l2,Qg s v w=false)∧Jes r v w=run v w a v []:=by
 obtain⟨h1,h2⟩:=Ko ha;have hpp :∀f∈[JC 0,JC 1,JC 2],Std (Bd 0) f:=by
  intro f hf';simp at hf';rcases hf' with rfl | rfl | rfl <;> exact Xk
 have:=JoG hv hw a.length a [JC 0,JC 1,JC 2] [] [] 0 rfl h2 (by omega) rfl hpp;rw[if_pos (by rfl)] at this;have e:atL [JC 0,JC 1,JC 2] v w=v:=by
  obtain⟨a,b,c,rfl⟩:=Jae hv;simp only[atL,Ju8,List.map_nil];rw[WU hv hw 0 (by omega),WU hv hw 1 (by omega),WU hv hw 2 (by omega)];rfl
 rw[e] at this;rw[Jv,if_pos ha];exact this
def XB:Nat→Int
 | 0=>10000
 | n+1=>7*XB n+60
theorem Jdl :∀n,0≤XB n
 | 0=>by simp[XB]
 | n+1=>by have:=Jdl n;simp only[XB];omega
theorem Jpi {n:Nat} (h:n≤6):XB n≤2000000000:=by
 match n,h with
 | 0,_ | 1,_ | 2,_ | 3,_ | 4,_ | 5,_ | 6,_=>decide
theorem Wl {n m:Nat} (h:n≤m):XB n≤XB m:=by
 induction h with
 | refl=>exact Int.le_refl _
 | @step m h ih=>have:=Jdl m;simp only[XB];omega
theorem Jdb {f:Frm} {x w:List Int} {X:Int} (hf:f.small=true) (hx:Lim X x) (hw:Lim 9 w) (h0:0≤X) : -(6*X+56)≤atF f x w∧atF f x w≤6*X+56:=by
 obtain⟨h1,h2,h3,h4,h5⟩:=XO hf;have a:=ZH h3 hx (by omega) h0;have b:=ZH h4 hw (by omega) (by omega);rw[h1] at a;rw[h2] at b;unfold atF;omega
def orB (p:List Bool) (h:Nat→Bool):List Bool:=p.mapIdx fun i b=>b||h i
def WE (h:Row→Nat→Bool) (as:List (List Jg)):List Bool:=as.foldl (fun p a=>(Jv a).foldl (fun p r=>orB p (h r)) p) [false,false,false]
theorem ZL (p:List Bool) (h:Nat→Bool):(orB p h).length=p.length:=by simp[orB]
theorem W9 {p:List Bool} {h:Nat→Bool} {i:Nat} {b:Bool} (hb:p[i]? = some b):(orB p h)[i]? = some (b||h i):=by simp[orB,List.getElem?_mapIdx,hb]
theorem Jn3 {p:List Bool} {h:Nat→Bool} {i:Nat} (hi:i<p.length):(orB p h).getD i false=(p.getD i false||h i):=by
 simp[orB,Ju3,List.getElem?_mapIdx,hi]
theorem Vd (h:Row→Nat→Bool) (rs:List Row) (p:List Bool):(rs.foldl (fun p r=>orB p (h r)) p).length=p.length:=by
 induction rs generalizing p with
 | nil=>rfl
 | cons r rs ih=>simp only[List.foldl_cons];rw[ih,ZL]
theorem JpU (h:Row→Nat→Bool) (rs:List Row) (p:List Bool) {i:Nat} (hi:i<p.length):(rs.foldl (fun p r=>orB p (h r)) p).getD i false=(p.getD i false||rs.any fun r=>h r i):=by
 induction rs generalizing p with
 | nil=>simp
 | cons r rs ih =>
  simp only[List.foldl_cons,List.any_cons];rw[ih _ (by rw[ZL];exact hi),Jn3 hi,Bool.or_assoc]
theorem Jn2 (h:Row→Nat→Bool) (as:List (List Jg)):(WE h as).length=3:=by
 unfold WE;generalize hp:[false,false,false]=p;have:p.length=3:=by subst hp;rfl
 clear hp
 induction as generalizing p with
 | nil=>exact this
 | cons a as ih=>exact ih _ (by rw[Vd];exact this)
theorem Jss (h:Row→Nat→Bool) (as:List (List Jg)) {i:Nat} (hi:i<3):(WE h as).getD i false=as.any fun a=>(Jv a).any fun r=>h r i:=by
 have key :∀(as:List (List Jg)) (p:List Bool),p.length=3→(as.foldl (fun p a=>(Jv a).foldl (fun p r=>orB p (h r)) p) p).getD i false=(p.getD i false||as.any fun a=>(Jv a).any fun r=>h r i):=by
  intro as
  induction as with
  | nil=>intro p _;simp
  | cons a as ih =>
   intro p hp;simp only[List.foldl_cons,List.any_cons];rw[ih _ (by rw[Vd];exact hp),JpU _ _ _ (by omega),Bool.or_assoc]
 have:=key as [false,false,false] rfl;unfold WE;rw[this]
 match i,hi with
 | 0,_ | 1,_ | 2,_=>simp
def Jsr (r:Row) (v:Nat):Bool:=!r.stop && !decide (r.adds.getD v Frm.none=Frm.zero)
def ZC (r:Row) (v:Nat):Bool:=(r.adds++r.tells).any fun f=>decide (f.c.getD v 0≠0)
theorem JiH {p:List Bool} {fs:List Frm} (hp:p.length=3) (hf :∀f∈fs,f.c.length=3):QU p fs=orB p fun v=>fs.any fun f=>decide (f.c.getD v 0≠0):=by
 induction fs generalizing p with
 | nil =>
  show p=_;apply List.ext_getElem?;intro i;cases h:p[i]? with
  | none=>simp[orB,List.getElem?_mapIdx,h]
  | some b=>rw[W9 h];simp
 | cons f fs ih =>
  show QU (UD p f.c) fs=_;have h3:=hf f (by simp);rw[ih (by rw[JaB];omega) fun g hg=>hf g (by simp[hg])];apply List.ext_getElem?;intro i
  by_cases hi:i<3
  ·obtain⟨b,hb⟩ : ∃ b,p[i]? = some b:=⟨p[i],by simp[show i<p.length by omega]⟩;obtain⟨n,hn⟩ : ∃ n,f.c[i]? = some n:=⟨f.c[i],by simp[show i<f.c.length by omega]⟩;have e:(UD p f.c)[i]? = some (b||decide (n≠0)):=by simp[UD,List.getElem?_zipWith,hb,hn]
   rw[W9 e,W9 hb];simp[Ju3,hn,Bool.or_assoc]
  ·rw[Jvn (by rw[ZL,JaB];omega),Jvn (by rw[ZL];omega)]
theorem JmU {p:List Bool} {r:Row} (hp:p.length=3) (hr:YZ r):QU (QU p r.adds) r.tells=orB p (ZC r):=by
 have h1 :∀f∈r.adds,f.c.length=3:=fun f hf=>(hr.a f hf).c;have h2 :∀f∈r.tells,f.c.length=3:=fun f hf=>(hr.t f hf).c;rw[JiH (Kc hp h1) h2,JiH hp h1];apply List.ext_getElem?;intro i;cases h:p[i]? with
 | none =>
  have : ¬i<p.length:=by simpa using h
  rw[Jvn (by rw[ZL,ZL];omega),Jvn (by rw[ZL];omega)]
 | some b=>rw[W9 (W9 h),W9 h];simp only[ZC,List.any_append,Bool.or_assoc]
theorem Jmj (as:List (List Jg)):(U2 as).2=WE ZC as:=by
 have rows :∀(rs:List Row) (s:List (List Int)×List Bool),s.2.length=3→(∀r∈rs,YZ r)→(rs.foldl QV s).2=rs.foldl (fun p r=>orB p (ZC r)) s.2:=by
  intro rs
  induction rs with
  | nil=>intro s _ _;rfl
  | cons r rs ih =>
   intro s hs hr;have e:(QV s r).2=orB s.2 (ZC r):=JmU hs (hr r (by simp));simp only[List.foldl_cons];rw[ih _ (by rw[e,ZL];exact hs) fun x hx=>hr x (by simp[hx]),e]
 have acts :∀(as:List (List Jg)) (s:List (List Int)×List Bool),s.2.length=3→(as.foldl Yu s).2=as.foldl (fun p a=>(Jv a).foldl (fun p r=>orB p (ZC r)) p) s.2:=by
  intro as
  induction as with
  | nil=>intro s _;rfl
  | cons a as ih =>
   intro s hs;have e:(Yu s a).2=(Jv a).foldl (fun p r=>orB p (ZC r)) s.2:=rows _ _ hs Yp;simp only[List.foldl_cons];rw[ih _ (by rw[e,Vd];exact hs),e]
 exact acts as _ rfl
end Go.Tm
end
section
namespace Go.Tm
open Go.IntKind (i64)
theorem Ja0 (l:List (List Int)) (p:List Int):0≤K6 l p↔p∈l:=by
 have:=Ja1 (fun q=>decide (q=p)) l;unfold K6;constructor
 ·intro h;rw[decide_eq_true h] at this;obtain⟨q,h1,h2⟩:=List.any_eq_true.1 this.symm;have:q=p:=by simpa using h2
  subst this;exact h1
 ·intro h;have h2:l.any (fun q=>decide (q=p))=true:=List.any_eq_true.2 ⟨p,h,by simp⟩;rw[h2] at this;simpa using this
theorem Jfk (l:List (List Int)) (p:List Int):K6 l p<0↔p∉l:=by rw[←Ja0];omega
theorem Jku (out:List (List Int)) (f:Frm):Jp out f=if Jn f.c∉out∧Jn f.c≠[0,0,0] then out++[Jn f.c] else out:=by
 unfold Jp;simp only[Jfk]
structure JcQ (out:List (List Int)):Prop where
 nodup:out.Nodup
 zero:[0,0,0]∉out
theorem Jcn (fs:List Frm) :∀(out:List (List Int)),JcQ out→JcQ (fs.foldl Jp out)∧out <+: fs.foldl Jp out∧∀f∈fs,Jn f.c∈fs.foldl Jp out∨Jn f.c=[0,0,0]:=by
 induction fs with
 | nil=>intro out h;exact⟨h,List.prefix_refl _,by simp⟩
 | cons f fs ih =>
  intro out h;have h1:JcQ (Jp out f)∧out <+: Jp out f∧(Jn f.c∈Jp out f∨Jn f.c=[0,0,0]):=by
   rw[Jku];split
   ·rename_i hc;refine⟨⟨?_,?_⟩,List.prefix_append _ _,.inl (by simp)⟩
    ·rw[List.nodup_append];exact⟨h.nodup,by simp,fun a ha b hb=>by simp at hb;subst hb;intro e;subst e;exact hc.1 ha⟩
    ·intro hm;rcases Ju5.1 hm with hm | hm
     ·exact h.zero hm
     ·simp at hm;exact hc.2 hm.symm
   ·rename_i hc;refine⟨h,List.prefix_refl _,?_⟩
    by_cases hm:Jn f.c∈out
    ·exact .inl hm
    ·right;apply Classical.byContradiction;intro hz;exact hc ⟨hm,hz⟩
  obtain⟨a1,a2,a3⟩:=ih _ h1.1;refine⟨a1,h1.2.1.trans a2,?_⟩;intro g hg;rcases Jvj.1 hg with rfl | hg
  ·rcases h1.2.2 with hm | hz
   ·exact .inl (a2.subset hm)
   ·exact .inr hz
  ·exact a3 g hg
def ZY (as:List (List Jg)):List Frm:=as.flatMap fun a=>(Jv a).flatMap Row.guards
theorem JkK (as:List (List Jg)):(U2 as).1=(ZY as).foldl Jp YS:=by
 have rows :∀(rs:List Row) (s:List (List Int)×List Bool),(rs.foldl QV s).1=(rs.flatMap Row.guards).foldl Jp s.1:=by
  intro rs
  induction rs with
  | nil=>intro s;rfl
  | cons r rs ih=>intro s;simp only[List.foldl_cons,List.flatMap_cons,List.foldl_append];rw[ih];rfl
 have acts :∀(as:List (List Jg)) (s:List (List Int)×List Bool),(as.foldl Yu s).1=(ZY as).foldl Jp s.1:=by
  intro as
  induction as with
  | nil=>intro s;rfl
  | cons a as ih =>
   intro s;have e:(Yu s a).1=((Jv a).flatMap Row.guards).foldl Jp s.1:=rows _ _;simp only[List.foldl_cons,ZY,List.flatMap_cons,List.foldl_append] at ih ⊢;rw[ih,e]
 exact acts as _
theorem JhZ:JcQ YS:=⟨by decide,by decide⟩
theorem JgE {as:List (List Jg)} {a:List Jg} {r:Row} {f:Frm} (ha:a∈as) (hr:r∈Jv a) (hf:f∈r.guards):f∈ZY as:=by
 unfold ZY;exact List.mem_flatMap.2 ⟨a,ha,List.mem_flatMap.2 ⟨r,hr,hf⟩⟩
theorem Jcj {as:List (List Jg)} (h:Qx as=true):Jb as=(ZY as).foldl Jp YS:=by simp[Jb,h,JkK]
theorem Jdi {as:List (List Jg)} (h:Qx as=true):Jj as=WE ZC as:=by simp[Jj,h,Jmj]
theorem Jb2 {α:Type} (p:α→Bool) (l:List α):(Z5 p l = -1∧l.any p=false)∨∃ (i:Nat) (x:α),Z5 p l=i∧l[i]? = some x∧p x=true∧(l.take i).any p=false:=by
 unfold Z5;cases h:l.findIdx? p with
 | none =>
  left;rw[List.findIdx?_eq_none_iff] at h;refine⟨rfl,?_⟩;rw[List.any_eq_false];intro x hx;rw[h x hx];simp
 | some i =>
  right;obtain⟨h1,h2,h3⟩:=List.findIdx?_eq_some_iff_getElem.1 h;refine⟨i,l[i],rfl,by simp[h1],h2,?_⟩;rw[List.any_eq_false];intro x hx;obtain⟨j,hj⟩:=List.mem_iff_getElem?.1 hx;rw[List.getElem?_take] at hj;split at hj
  ·rename_i hji;obtain⟨h4,h5⟩:=Ju1.1 hj;rw[←h5];exact h3 j hji
  ·cases hj
def nz (x:Int):Bool:=!decide (x=0)
theorem JiA {c:List Int} (h:c.any nz=false):Jn c=c:=by
 have hz :∀x∈c,x=0:=by
  intro x hx;rw[List.any_eq_false] at h;have:=h x hx;simpa[nz] using this
 unfold Jn
 conv=>rhs;rw[←List.map_id c]
 apply Jvm;intro x hx;rw[hz x hx];simp
theorem JiG {c:List Int} {i:Nat} {x:Int} (hx:c[i]? = some x) (hn:nz x=true) (ht:(c.take i).any nz=false):Zj c=if 0<x then 1 else -1:=by
 induction c generalizing i with
 | nil=>simp at hx
 | cons y c ih =>
  have hx0:x≠0:=by simpa[nz] using hn
  cases i with
  | zero =>
   simp only[List.getElem?_cons_zero,JuZ] at hx;subst hx;simp only[Zj];split
   ·rfl
   ·rw[if_pos (by omega)]
  | succ i =>
   simp only[List.getElem?_cons_succ] at hx;simp only[List.take_succ_cons,List.any_cons,Bool.or_eq_false_iff] at ht;have hy:y=0:=by simpa[nz] using ht.1
   subst hy;simp only[Zj];rw[if_neg (by omega),if_neg (by omega)];exact ih hx ht.2
end Go.Tm
end
section
namespace Go.Tm
open Go.IntKind (i64)
end Go.Tm
end
section
namespace Go.Tm
open Go.IntKind (i64)
def JN (g:List Int) (s:Int):Int:=(g.zipIdx.map fun q=>if(q.2:Int)=s then 0 else q.1).sum
theorem YE {g:List Int} {s:Int} {i:Nat} {x:Int} (h:g[i]? = some x):JN (g.take (i+1)) s=JN (g.take i) s+if(i:Int)=s then 0 else x:=by
 have hi:=(Ju1.1 h).1;unfold JN;rw[tS1 h,List.zipIdx_append,List.map_append,List.sum_append];simp[show min i g.length=i by omega]
theorem Jbg {g:List Int} {s:Int} (h :∀x∈g,0≤x∧x≤50) (i:Nat) (hi:i≤g.length):0≤JN (g.take i) s∧JN (g.take i) s≤50*i:=by
 induction i with
 | zero=>simp[JN]
 | succ i ih =>
  have ih:=ih (by omega);obtain⟨x,hx,hm⟩:=sA1 (show i<g.length by omega);have:=h x hm;rw[YE hx];split <;> omega
def Qp (a b:List Int):List Int:=List.zipWith (· + ·) a b
def JV (b g:List Int) (ps:List (List Int)) (s:Int) (a:List Int) (f:Frm) (w:List Int):Int×Int×Bool :=
 if(Qw b g&&QW ps&&inB s 0 (g.length-1)&&QT a)&&f.ok&&Q1 w then
  let n:=atF f (Qp b a) w
  if f.c=[0,0,0] then(n,n,true)
  else if Jn f.c∈ps then(n-JN g s,n+JN g s,true) else(0,0,false)
 else(0,0,false)
theorem JnA {f:Frm} (h:f.ok=true):Std 10000000 f:=by
 simp only[Frm.ok,Ju0,Jq,Jr] at h;exact⟨by omega,by omega,h.1.1.2,h.1.2.2,h.2⟩
theorem Je7 {c:List Int} (h:c.length=3):Jn c=[0,0,0]↔c=[0,0,0]:=by
 constructor
 ·intro hp;rcases Jb2 nz c with ⟨_,ha⟩ | ⟨i,x,_,hx,hnx,ht⟩
  ·rw[JiA ha] at hp;exact hp
  ·have hs:=JiG hx hnx ht;have hm:(Jn c)[i]? = some (Zj c*x):=by simp[Jn,hx]
   rw[hp] at hm;have hz:Zj c*x=0:=by
    match i,hm with
    | 0,hm | 1,hm | 2,hm=>simp at hm;exact hm.symm
    | n+3,hm=>simp at hm
   have hx0:x≠0:=by simpa[nz] using hnx
   rw[hs] at hz;split at hz <;> omega
 ·intro hc;subst hc;decide
theorem ZA {a b:List Int} (h:b.length=a.length):(Qp a b).length=a.length:=by simp[Qp,h]
end Go.Tm
end
section
namespace Go.Tm
open Go.IntKind (i64)
def Qi (ps:List Bool) (a:List Int):Bool:=(a.zip ps).all fun q=>!(q.2 && !decide (q.1=0))
def Ug (b g:List Int) (ps:List (List Int)) (s:Int) (a w:List Int) (r:Row):Bool:=r.guards.all fun f=>(JV b g ps s a f w).2.2&&decide (0≤(JV b g ps s a f w).1)
def ovM (b g:List Int) (ps:List (List Int)) (s:Int) (a w:List Int) (v:Nat):Bool:=decide (10000<(JV b g ps s a (JC v) w).1)||decide ((JV b g ps s a (JC v) w).2.1 < -10000)
def unM (b g:List Int) (ps:List (List Int)) (s:Int) (a w:List Int) (v:Nat):Bool:=decide ((JV b g ps s a (JC v) w).1 < -10000)||decide (10000<(JV b g ps s a (JC v) w).2.1)
structure JkO where
 code:Int
 tells:List Int
 adds:List Int
 ok:Bool
def JkO.ds (r:JkO):List D:=[dI r.code,.s (dL r.tells),.s (dL r.adds),dB r.ok]
def KM (b g:List Int) (ps:List (List Int)) (pins:List Bool) (s:Int) (a w:List Int) (r:Row):JkO :=
 if r.stop then ⟨2,[],a,true⟩
 else if Qi pins (atL r.adds b w)&&QT (Qp a (atL r.adds b w)) then
  if [0,1,2].any (ovM b g ps s (Qp a (atL r.adds b w)) w) then ⟨3,[],a,true⟩
  else if [0,1,2].any (unM b g ps s (Qp a (atL r.adds b w)) w) then ⟨0,[],a,false⟩
  else if keeps b g ps s (Qp a (atL r.adds b w)) then ⟨1,atL r.tells b w,Qp a (atL r.adds b w),true⟩
  else ⟨0,[],a,false⟩
 else ⟨0,[],a,false⟩
def Y0 (as:List (List Jg)) (b g:List Int) (s:Int) (a:List Int) (k:Int) (w:List Int):Bool :=
 Qx as&&inB k 0 (as.length-1)&&Q1 w&&(keeps b g (Jb as) s a&&Qi (Jj as) a)
def JbO (as:List (List Jg)) (b g:List Int) (s:Int) (a:List Int) (k:Int) (w:List Int):JkO :=
 if Y0 as b g s a k w then
  match (Jv (as.getD k.toNat [])).find? (Ug b g (Jb as) s a w) with
  | some r=>KM b g (Jb as) (Jj as) s a w r
  | none=>⟨0,[],a,false⟩
 else ⟨0,[],[],false⟩
theorem JpI {α:Type} {p:α→Bool} {l:List α} {i:Nat} {x:α} (h:l[i]? = some x) (hx:p x=true) (ht:(l.take i).any p=false):l.find? p=some x:=by
 rw[List.find?_eq_some_iff_append];refine⟨hx,l.take i,l.drop (i+1),?_,fun a ha=>?_⟩
 ·obtain⟨hi,rfl⟩:=Ju1.1 h;rw[List.getElem_cons_drop,List.take_append_drop]
 ·simp only[List.any_eq_false] at ht;simp[ht a ha]
theorem Jmp {α:Type} {p:α→Bool} {l:List α} (h:l.any p=false):l.find? p=none:=by
 rw[List.find?_eq_none];simpa[List.any_eq_false] using h
theorem Jjl {α:Type} {p:α→Bool} {l:List α} {k:Nat} {x:α} (h:l[k]? = some x):(l.take (k+1)).any p=((l.take k).any p||p x):=by rw[tS1 h];simp
def Y4 (b g:List Int) (ps:List (List Int)) (s:Int) (a:List Int):Bool:=Qw b g&&QW ps&&inB s 0 (g.length-1)&&QT a
def ZG (f:Frm) (g:List Int) (s:Int):Int:=if f.c=[0,0,0] then 0 else JN g s
def JgR (ps:List (List Int)) (f:Frm):Prop:=Jn f.c∈ps∨f.c=[0,0,0]
theorem Je0 {b g:List Int} {ps:List (List Int)} {s:Int} {a:List Int} {f:Frm} {w:List Int} (h:Y4 b g ps s a=true) (hf:f.ok=true) (hw:Q1 w=true) (hp:JgR ps f) :
  JV b g ps s a f w=(atF f (Qp b a) w-ZG f g s,atF f (Qp b a) w+ZG f g s,true):=by
 unfold Y4 at h;unfold JV ZG;rw[if_pos (by rw[h,hf,hw];rfl)]
 by_cases hz:f.c=[0,0,0]
 ·simp only[if_pos hz,Int.sub_zero,Int.add_zero]
 ·simp only[if_neg hz,if_pos (hp.resolve_right hz)]
theorem Xd {b g:List Int} {ps:List (List Int)} {s:Int} {a:List Int} (h:keeps b g ps s a=true):Y4 b g ps s a=true:=by
 unfold keeps at h;unfold Y4;simp only[Ju0] at h ⊢;exact h.1
theorem Zr {b g:List Int} {ps:List (List Int)} {s:Int} {a:List Int} (h:Y4 b g ps s a=true) :
  Qw b g=true∧QW ps=true∧(0≤s∧s<g.length)∧QT a=true∧(b.length=3∧Lim 10000 b)∧(a.length=3∧Lim 20000 a)∧(∀x∈g,0≤x∧x≤50):=by
 simp only[Y4,Ju0,Jr] at h;obtain⟨⟨⟨h1,h2⟩,h3⟩,h4⟩:=h;have h1':=h1;simp only[Qw,JQ,Ju0,Jq,Jvd,Jr] at h1';have h4':=Jq.1 h4;exact⟨h1,h2,by omega,h4,⟨by omega,h1'.1.1.2⟩,⟨by omega,h4'.2⟩,h1'.2⟩
theorem Jms {g:List Int} {s:Int} (h :∀x∈g,0≤x∧x≤50):0≤JN g s:=by
 have:=Jbg (s:=s) h g.length (Nat.le_refl _);rw[Ju4 (Nat.le_refl _)] at this;exact this.1
theorem Jmo {f:Frm} {g:List Int} {s:Int} (h :∀x∈g,0≤x∧x≤50):0≤ZG f g s:=by
 unfold ZG;split
 ·omega
 ·exact Jms h
theorem Jo8 {b g:List Int} {ps:List (List Int)} {s:Int} {a x:List Int} (h:Y4 b g ps s a=true) (hx:QT x=true):Y4 b g ps s x=true:=by
 unfold Y4 at *;simp only[Ju0] at h ⊢;exact⟨h.1,hx⟩
theorem Jg0 {as:List (List Jg)} (h:Qx as=true):YS <+: Jb as:=by
 rw[Jcj h];exact(Jcn _ _ JhZ).2.1
theorem Jrm {as:List (List Jg)} (h:Qx as=true) {v:Nat} (hv:v<3):JgR (Jb as) (JC v):=by
 refine .inl ((Jg0 h).subset ?_)
 match v,hv with
 | 0,_ | 1,_ | 2,_=>decide
theorem JoY {as:List (List Jg)} (h:Qx as=true) {a:List Jg} (ha:a∈as) {r:Row} (hr:r∈Jv a) {f:Frm} (hf:f∈r.guards):JgR (Jb as) f:=by
 rw[Jcj h];rcases (Jcn (ZY as) _ JhZ).2.2 f (JgE ha hr hf) with hm | hz
 ·exact .inl hm
 ·exact .inr ((Je7 ((Yp r hr).g f hf).c).1 hz)
theorem JqI (v:Nat):(JC v).ok=true:=Xk.okF (by omega)
theorem JjL {g:List Int} {s:Int} {v:Nat} (hv:v<3):ZG (JC v) g s=JN g s:=by
 unfold ZG;rw[if_neg]
 match v,hv with
 | 0,_ | 1,_ | 2,_=>decide
theorem Jdd {as:List (List Jg)} {b g:List Int} {s:Int} {a w:List Int} (h:Qx as=true) (hf:Y4 b g (Jb as) s a=true) (hw:Q1 w=true) {v:Nat} (hv:v<3) :
  JV b g (Jb as) s a (JC v) w=((Qp b a).getD v 0-JN g s,(Qp b a).getD v 0+JN g s,true):=by
 rw[Je0 hf (JqI v) hw (Jrm h hv),JjL hv];obtain⟨_,_,_,_,h5,h6,_⟩:=Zr hf;rw[WU (by rw[ZA (by omega)];omega) (by have:=(Jq.1 hw).1;omega) v hv]
theorem VE {as:List (List Jg)} {k:Int} (h0:0≤k) (h1:k<as.length):as.getD k.toNat []∈as∧as[k.toNat]? = some (as.getD k.toNat []):=by
 have hk:k.toNat<as.length:=by omega
 have e:as[k.toNat]? = some (as.getD k.toNat []):=by simp[Ju3,hk]
 exact⟨Ju7 e,e⟩
theorem JjT {as:List (List Jg)} {b g:List Int} {s:Int} {a w:List Int} {x:List Jg} {r:Row} (h:Qx as=true) (hf:Y4 b g (Jb as) s a=true) (hw:Q1 w=true) (hx:x∈as) (hr:r∈Jv x) :
  Ug b g (Jb as) s a w r=r.guards.all fun f=>decide (0≤atF f (Qp b a) w-ZG f g s):=by
 unfold Ug;have key :∀f∈r.guards,((JV b g (Jb as) s a f w).2.2&&decide (0≤(JV b g (Jb as) s a f w).1))=decide (0≤atF f (Qp b a) w-ZG f g s):=by
  intro f hm;rw[Je0 hf (((Yp r hr).g f hm).okF (by omega)) hw (JoY h hx hr hm)];rfl
 rw[Bool.eq_iff_iff,Jvd,Jvd];constructor
 ·intro h f hm;rw[←key f hm];exact h f hm
 ·intro h f hm;rw[key f hm];exact h f hm
theorem Jof {α:Type} {l1 l2:List α} {x:α} {p q:α→Bool} (h1 :∀y∈l1,q y=false) (h2 :∀y∈l2,q y=false) (hpq :∀y∈l1++x::l2,p y=true→q y=true) :
  (l1++x::l2).find? p=if p x then some x else none:=by
 have n1:l1.find? p=none:=by
  rw[List.find?_eq_none];intro y hy hp;have:=hpq y (by simp[hy]) hp;rw[h1 y hy] at this;cases this
 have n2:l2.find? p=none:=by
  rw[List.find?_eq_none];intro y hy hp;have:=hpq y (by simp[hy]) hp;rw[h2 y hy] at this;cases this
 rw[List.find?_append,n1,Option.none_or,List.find?_cons];split
 ·rename_i hp;rw[hp];rfl
 ·rename_i hp;rw[hp,n2];rfl
theorem KH {as:List (List Jg)} {b g:List Int} {s:Int} {a:List Int} {k:Int} {w:List Int} :
  Y0 as b g s a k w=true↔Qx as=true∧(0≤k∧k<as.length)∧Q1 w=true∧keeps b g (Jb as) s a=true∧Qi (Jj as) a=true:=by
 simp only[Y0,Ju0,Jr];constructor
 ·rintro⟨⟨⟨h1,h2⟩,h3⟩,h4,h5⟩;exact⟨h1,by omega,h3,h4,h5⟩
 ·rintro⟨h1,h2,h3,h4,h5⟩;exact⟨⟨⟨h1,by omega⟩,h3⟩,h4,h5⟩
theorem Jpu {as:List (List Jg)} {b g:List Int} {s:Int} {a:List Int} {k:Int} {w:List Int} (h:Y0 as b g s a k w=true) :
  ∃ r,r∈Jv (as.getD k.toNat [])∧Qg r (Qp b a) w=true∧(∀y∈Jv (as.getD k.toNat []),Qg y (Qp b a) w=true→y=r) ∧
   ∀g',(∀x∈g',0≤x∧x≤50)→Y4 b g' (Jb as) s a=true→(Jv (as.getD k.toNat [])).find? (Ug b g' (Jb as) s a w)=if Ug b g' (Jb as) s a w r then some r else none:=by
 obtain⟨h1,h2,h3,h4,h5⟩:=KH.1 h;obtain⟨hm,hk⟩:=VE (as:=as) h2.1 h2.2;have hf:=Xd h4;obtain⟨_,_,_,_,hb,ha,hg⟩:=Zr hf;have hact:Qo (as.getD k.toNat [])=true:=by
  simp only[Qx,Ju0,Jvd] at h1;exact h1.2 _ hm
 obtain⟨l1,l2,r,e1,e2,e3,e4,_⟩:=JpE (v:=Qp b a) (w:=w) hact (by rw[ZA (by omega)];omega) (by have:=(Jq.1 h3).1;omega);refine⟨r,by rw[e1];simp,e2,?_,?_⟩
 ·intro y hy hh;rw[e1] at hy;rcases Ju5.1 hy with hy | hy
  ·rw[e3 y hy] at hh;cases hh
  ·rcases Jvj.1 hy with rfl | hy
   ·rfl
   ·rw[e4 y hy] at hh;cases hh
 ·intro g' hg' hf';rw[e1];refine Jof (q:=fun y=>Qg y (Qp b a) w) e3 e4 fun y hy hs=>?_;rw[←e1] at hy;rw[JjT h1 hf' h3 hm hy] at hs;unfold Qg;simp only[Jvd,decide_eq_true_eq] at hs ⊢;intro f hfm;have:=hs f hfm;have:=Jmo (f:=f) (s:=s) hg';omega
structure Wu (g g':List Int) (s:Int):Prop where
 l:g'.length=g.length
 r :∀x∈g',0≤x∧x≤50
 m:g.getD s.toNat 0≤g'.getD s.toNat 0
 o:JN g' s≤JN g s
theorem Wu.fine {b g g':List Int} {ps:List (List Int)} {s:Int} {a:List Int} (h:Wu g g' s) (hf:Y4 b g ps s a=true):Y4 b g' ps s a=true:=by
 unfold Y4 Qw at *;simp only[Ju0,Jr,Jvd,h.l] at hf ⊢;exact⟨⟨⟨⟨hf.1.1.1.1,h.r⟩,hf.1.1.2⟩,hf.1.2⟩,hf.2⟩
theorem Wu.keeps {b g g':List Int} {ps:List (List Int)} {s:Int} {a:List Int} (h:Wu g g' s) (hf:Go.Tm.keeps b g ps s a=true):Go.Tm.keeps b g' ps s a=true:=by
 have h1:=h.fine (Xd hf);unfold Go.Tm.keeps at *;unfold Y4 at h1;rw[h1,Jvk];simp only[Ju0,Jvd,Z1,Jr] at hf ⊢;intro p hp;have:=hf.2 p hp;have:=h.m;omega
theorem JhA {as:List (List Jg)} {b g:List Int} {s:Int} {a:List Int} {k:Int} {w:List Int} (h:(JbO as b g s a k w).ok=true):Y0 as b g s a k w=true:=by
 by_cases hl:Y0 as b g s a k w=true
 ·exact hl
 ·unfold JbO at h;rw[if_neg hl] at h;simp at h
theorem Jet {g:List Int} {s:Int} {i:Nat} {x y:Int} (hx:g[i]? = some x):JN (g.set i y) s=JN g s+if(i:Int)=s then 0 else y-x:=by
 have hi:=(Ju1.1 hx).1;have key :∀k,k≤g.length→JN ((g.set i y).take k) s=JN (g.take k) s+if i<k then(if(i:Int)=s then 0 else y-x) else 0:=by
  intro k
  induction k with
  | zero=>intro _;simp[JN]
  | succ k ih =>
   intro hk;have ih:=ih (by omega);obtain⟨z,hz,_⟩:=sA1 (show k<g.length by omega)
   by_cases hik:i=k
   ·subst hik;rw[hx] at hz;cases hz;have hy:(g.set i y)[i]? = some y:=by rw[List.getElem?_set];simp[hi]
    rw[YE hx,YE hy,ih,if_neg (show ¬i<i by omega),if_pos (show i<i+1 by omega)];split <;> omega
   ·have hy:(g.set i y)[k]? = some z:=by rw[List.getElem?_set,if_neg hik];exact hz
    rw[YE hz,YE hy,ih]
    by_cases hlt:i<k
    ·rw[if_pos hlt,if_pos (show i<k+1 by omega)];omega
    ·rw[if_neg hlt,if_neg (show ¬i<k+1 by omega)];omega
 have:=key g.length (Nat.le_refl _);rw[Ju4 (Nat.le_refl _),Ju4 (by simp),if_pos hi] at this;exact this
theorem Jnx {g:List Int} {i:Nat} {y:Int} (hg :∀x∈g,0≤x∧x≤50) (hy:0≤y∧y≤50) :∀x∈g.set i y,0≤x∧x≤50:=by
 intro x hx;rcases Jvp hx with h | h
 ·exact hg x h
 ·subst h;exact hy
theorem Wu.same {g:List Int} {s:Int} (hg :∀x∈g,0≤x∧x≤50):Wu g g s:=⟨rfl,hg,Int.le_refl _,Int.le_refl _⟩
theorem Wu.up {g:List Int} {s:Int} {i:Nat} {x:Int} (hg :∀x∈g,0≤x∧x≤50) (hx:g[i]? = some x) (hs:(i:Int)=s) (h:x<50):Wu g (g.set i (x+1)) s:=by
 have hxx:=hg x (Ju7 hx);have hi:=(Ju1.1 hx).1;refine⟨by simp,Jnx hg (by omega),?_,?_⟩
 ·subst hs;rw[Int.toNat_natCast,Ju3,Ju3,hx,List.getElem?_set];simp[hi];omega
 ·rw[Jet hx,if_pos hs];omega
theorem Wu.down {g:List Int} {s:Int} {i:Nat} {x:Int} (hg :∀x∈g,0≤x∧x≤50) (hx:g[i]? = some x) (hs : ¬(i:Int)=s) (s0:0≤s) (h:0<x):Wu g (g.set i (x-1)) s:=by
 have hxx:=hg x (Ju7 hx);refine⟨by simp,Jnx hg (by omega),?_,?_⟩
 ·rw[Ju3,Ju3,List.getElem?_set,if_neg (by omega)];omega
 ·rw[Jet hx,if_neg hs];omega
end Go.Tm
end
section
namespace Go.Tm
open Go.IntKind (i64)
theorem loc_eq {as:List (List Jg)} {b g:List Int} {s:Int} {a:List Int} {k:Int} {w:List Int} (h:Y0 as b g s a k w=true) :
  ∃ r,r∈Jv (as.getD k.toNat [])∧Qg r (Qp b a) w=true∧JbO as b g s a k w=if Ug b g (Jb as) s a w r then KM b g (Jb as) (Jj as) s a w r else ⟨0,[],a,false⟩:=by
 obtain⟨r,hr,hh,_,hfind⟩:=Jpu h;have hf:=Xd (KH.1 h).2.2.2.1;have e:=hfind g (Zr hf).2.2.2.2.2.2 hf;refine⟨r,hr,hh,?_⟩;unfold JbO;rw[if_pos h,e]
 by_cases hs:Ug b g (Jb as) s a w r=true
 ·rw[if_pos hs,if_pos hs]
 ·rw[if_neg hs,if_neg hs]
theorem JqA {b g:List Int} {as:List (List Jg)} (hp:QW (Jb as)=true) (ht:Qw b g=true):keeps b g (Jb as) 0 [0,0,0]=true:=by
 have ht':=ht;simp only[Qw,Ju0,Jr,Jvd] at ht';unfold keeps;have g0:=ht'.2;have hl:=ht'.1.2;obtain⟨x,hx,hm⟩:=sA1 (show 0<g.length by omega);have e:g.getD (0:Int).toNat 0=x:=by simp[Ju3,hx]
 have:=g0 x hm;rw[ht,hp,e];simp only[Jvk,Ju0,Jr,Jvd];refine⟨⟨by omega,by decide⟩,fun p hpp=>?_⟩;have h3:p.length=3:=by
  simp only[QW,Jvd,Jq] at hp;have:=(hp p hpp).1;omega
 obtain⟨u,v,w,rfl⟩:=Jae h3;unfold Z1;rw[Jr];simp only[dot,Int.mul_zero,Int.add_zero];omega
end Go.Tm
end
section
namespace Go.Tm
open Go.IntKind (i64)
end Go.Tm
end

import Derived.Test.YtngcnclchcahlabGreatDoorTb
set_option linter.unusedVariables false
set_option linter.unusedSimpArgs false
section
namespace Go.Tm
open Go.IntKind (i64)
def ZN (i:Nat):List Ji→Yg
 | []=>[]
 | o::os=>(i,o)::ZN (i+1) os
theorem Zz :∀(os:List Ji) (a k:Nat),(ZN a os).lookup k=if a≤k then os[k-a]? else none
 | [],a,k=>by simp[ZN]
 | o::os,a,k=>by
  simp only[ZN,List.lookup_cons]
  by_cases h:k=a
  ·subst h;simp
  ·have hb:(k == a)=false:=by simpa using h
   rw[hb,Zz os (a+1) k]
   by_cases hlt:a≤k
   ·have e:k-a=(k-(a+1))+1:=by omega
    rw[if_pos (by omega),if_pos hlt,e,List.getElem?_cons_succ]
   ·rw[if_neg (by omega),if_neg hlt]
theorem JcO (ρ:Env) (os:List Ji):γm ρ (ZN 0 os)=XA (JH 0 (os.map (γO ρ))):=by
 funext k
 simp only[γm,XA,XL,Zz,Nat.zero_le,if_true,Nat.sub_zero,Jvl]
mutual
def SV.lv:SV→List E
 | .d e=>[e]
 | .g cs=>slv cs
 | .t cs=>slv cs
 | .f _ cs=>slv cs
 | _=>[]
def slv:List SV→List E
 | []=>[]
 | c::cs=>SV.lv c++slv cs
end
mutual
def SV.lv2:SV→List E
 | .d e=>[e]
 | .g cs=>JeM cs
 | .t cs=>JeM cs
 | .f _ cs=>JeM cs
 | .o _ l=>[.s l]
 | .e _ l i _=>[.s l,.vi .i64 i]
 | _=>[]
def JeM:List SV→List E
 | []=>[]
 | c::cs=>SV.lv2 c++JeM cs
end
def Ji.lv:Ji→List E
 | .box cs=>slv cs
 | .arr _ _ l _ _=>[.s l]
 | .dead=>[]
def Ji.lv2:Ji→List E
 | .box cs=>JeM cs
 | .arr _ _ l _ _=>[.s l]
 | .dead=>[]
section
variable {ρ ρ':Env}
mutual
theorem Jr4 :∀v:SV,γX ρ v=γX ρ' v→∀e∈v.lv,dat ρ e=dat ρ' e
 | .d e,h,e',he=>by
  simp only[SV.lv,Jvi] at he;subst he;simp only[γX] at h;injection h
 | .g cs,h,e',he=>by simp only[γX] at h;injection h with h;exact JbK cs h e' (by simpa[SV.lv] using he)
 | .t cs,h,e',he=>by simp only[γX] at h;injection h with h;exact JbK cs h e' (by simpa[SV.lv] using he)
 | .f _ cs,h,e',he=>by simp only[γX] at h;injection h with _ h;exact JbK cs h e' (by simpa[SV.lv] using he)
 | .o _ _,_,e',he=>by simp[SV.lv] at he
 | .p _ _,_,e',he=>by simp[SV.lv] at he
 | .e _ _ _ _,_,e',he=>by simp[SV.lv] at he
 | .u,_,e',he=>by simp[SV.lv] at he
theorem JbK :∀cs:List SV,γXs ρ cs=γXs ρ' cs→∀e∈slv cs,dat ρ e=dat ρ' e
 | [],_,e',he=>by simp[slv] at he
 | c::cs,h,e',he=>by
  simp only[γXs,List.cons.injEq] at h;simp only[slv,Ju5] at he;rcases he with he | he
  ·exact Jr4 c h.1 e' he
  ·exact JbK cs h.2 e' he
end
mutual
theorem Jn8 :∀v:SV,(∀e∈v.lv2,dat ρ e=dat ρ' e)→γX ρ v=γX ρ' v
 | .d e,h=>by simp only[γX];rw[h e (by simp[SV.lv2])]
 | .g cs,h=>by simp only[γX];rw[V0 cs (fun e he=>h e (by simpa[SV.lv2] using he))]
 | .t cs,h=>by simp only[γX];rw[V0 cs (fun e he=>h e (by simpa[SV.lv2] using he))]
 | .f _ cs,h=>by simp only[γX];rw[V0 cs (fun e he=>h e (by simpa[SV.lv2] using he))]
 | .o _ l,h=>by simp only[γX];rw[Jhx (h (.s l) (by simp[SV.lv2]))]
 | .p _ _,_=>rfl
 | .e _ l i _,h=>by
  simp only[γX];rw[Jhx (h (.s l) (by simp[SV.lv2]))];have:D.v (.int .i64 (int ρ i))=D.v (.int .i64 (int ρ' i)):=h (.vi .i64 i) (by simp[SV.lv2]);simp only[D.v.injEq,Value.int.injEq,true_and] at this;rw[this]
 | .u,_=>rfl
theorem V0 :∀cs:List SV,(∀e∈JeM cs,dat ρ e=dat ρ' e)→γXs ρ cs=γXs ρ' cs
 | [],_=>rfl
 | c::cs,h=>by
  simp only[γXs];rw[Jn8 c (fun e he=>h e (by simp[JeM,he])),V0 cs (fun e he=>h e (by simp[JeM,he]))]
end
theorem Jq3 (o:Ji) (h:γO ρ o=γO ρ' o) :∀e∈o.lv,dat ρ e=dat ρ' e:=by
 intro e he;cases o with
 | box cs=>simp only[γO] at h;injection h with h;exact JbK cs h e he
 | arr ty sz l dp rw =>
  simp only[Ji.lv,Jvi] at he;subst he;simp only[γO] at h;injection h with _ _ h;show D.s (lst ρ l)=D.s (lst ρ' l);rw[h]
 | dead=>simp[Ji.lv] at he
theorem Jk7 (o:Ji) (h :∀e∈o.lv2,dat ρ e=dat ρ' e):γO ρ o=γO ρ' o:=by
 cases o with
 | box cs=>simp only[γO];rw[V0 cs h]
 | arr ty sz l dp rw=>simp only[γO];rw[Jhx (h (.s l) (by simp[Ji.lv2]))]
 | dead=>rfl
end
def Q8.rel (s:Q8) (F:List D→Option (List D)) (xs:List X) (os:List Obj) (r:X×Mem):Prop :=
 ∃ ρ1 ρ2,xs=γXs ρ1 s.args∧os=s.objs.map (γO ρ1)∧F ((JB s.ins 0).map (dat ρ1))=some ((JB s.outs 0).map (dat ρ2))∧r=(γX ρ2 s.res,γm ρ2 (ZN 0 s.robjs))
def Q8.ok (s:Q8):Bool :=
 let ls:=slv s.args++s.objs.flatMap Ji.lv
 let os:=JB s.outs 0
 (JB s.ins 0).all (fun e=>ls.any fun x=>x.same e)&&(s.res.lv2++s.robjs.flatMap Ji.lv2).all (fun e=>os.any fun x=>x.same e)
theorem JdU {l:List E} {e:E} (h:l.any (fun x=>x.same e)=true) : ∃ x∈l,∀ρ,dat ρ x=dat ρ e:=by
 obtain⟨x,hx,hs⟩:=List.any_eq_true.1 h;exact⟨x,hx,fun ρ=>JnG hs ρ⟩
theorem Q8.rel_one {s:Q8} (hs:s.ok=true) {F:List D→Option (List D)} {xs:List X} {os:List Obj} {r r':X×Mem} (h:s.rel F xs os r) (h':s.rel F xs os r'):r=r':=by
 obtain⟨ρ1,ρ2,hx,ho,hF,rfl⟩:=h;obtain⟨σ1,σ2,hx',ho',hF',rfl⟩:=h';unfold Q8.ok at hs;simp only[Ju0] at hs;have hin:(JB s.ins 0).map (dat ρ1)=(JB s.ins 0).map (dat σ1):=by
  refine Jvm fun e he=>?_;obtain⟨x,hxm,hxe⟩:=JdU (Jvd.1 hs.1 e he);rw[←hxe,←hxe];rcases Ju5.1 hxm with hm | hm
  ·exact JbK s.args (hx.symm.trans hx') x hm
  ·obtain⟨o,hom,hxo⟩:=List.mem_flatMap.1 hm;have:s.objs.map (γO ρ1)=s.objs.map (γO σ1):=ho.symm.trans ho';exact Jq3 o (List.map_inj_left.1 this o hom) x hxo
 rw[hin,hF'] at hF;simp only[JuZ] at hF;have hout :∀e∈s.res.lv2++s.robjs.flatMap Ji.lv2,dat ρ2 e=dat σ2 e:=by
  intro e he;obtain⟨x,hxm,hxe⟩:=JdU (Jvd.1 hs.2 e he);rw[←hxe,←hxe];exact(List.map_inj_left.1 hF x hxm).symm
 have e1:γX ρ2 s.res=γX σ2 s.res:=Jn8 _ fun e he=>hout e (by simp[he]);have e2:γm ρ2 (ZN 0 s.robjs)=γm σ2 (ZN 0 s.robjs):=by
  rw[JcO,JcO]
  congr 2
  exact Jvm fun o ho=>Jk7 o fun e he=>hout e (List.mem_append_right _ (List.mem_flatMap.2 ⟨o,ho,he⟩))
 rw[e1,e2]
open Classical in
noncomputable def YO (s:Q8) (F:List D→Option (List D)):Kv:=fun xs os=>if h : ∃ r,s.rel F xs os r then some h.choose else none
theorem Ja6 {s:Q8} (hs:s.ok=true) {F:List D→Option (List D)} {xs:List X} {os:List Obj} {r:X×Mem} (h:s.rel F xs os r):YO s F xs os=some r:=by
 unfold YO;have hex : ∃ r,s.rel F xs os r:=⟨r,h⟩;rw[dif_pos hex,Q8.rel_one hs hex.choose_spec h]
theorem Wf {s:Q8} {F:List D→Option (List D)} {xs:List X} {os:List Obj} {r:X×Mem} (h:YO s F xs os=some r):s.rel F xs os r:=by
 unfold YO at h;split at h
 ·rename_i hex;simp only[JuZ] at h;subst h;exact hex.choose_spec
 ·cases h
def E.up (n:Nat):E→E
 | .v j=> .v (n+j)
 | .da j=> .da (n+j)
 | .z m=> .z m
 | .tt=> .tt
 | .ff=> .ff
 | .bin o k x y=> .bin o k (x.up n) (y.up n)
 | .cmp o x y=> .cmp o (x.up n) (y.up n)
 | .not x=> .not (x.up n)
 | .beq x y=> .beq (x.up n) (y.up n)
 | .len l=> .len (l.up n)
 | .cv k x=> .cv k (x.up n)
 | .vi k x=> .vi k (x.up n)
 | .vb x=> .vb (x.up n)
 | .vc x=> .vc x
 | .s l=> .s (l.up n)
 | .g l=> .g (l.up n)
 | .q l=> .q (l.up n)
 | .fn f l=> .fn f (l.up n)
 | .nil=> .nil
 | .cons x l=> .cons (x.up n) (l.up n)
 | .app x y=> .app (x.up n) (y.up n)
 | .rep x y=> .rep (x.up n) (y.up n)
 | .set x y w=> .set (x.up n) (y.up n) (w.up n)
 | .take x y=> .take (x.up n) (y.up n)
theorem Jhf (ρ:Env) (n:Nat) :∀e:E,den ρ (e.up n)=den (fun j=>ρ (n+j)) e:=by
 intro e
 induction e <;> simp only[E.up,den, *]
mutual
def SV.up (n:Nat):SV→SV
 | .d e=> .d (e.up n)
 | .g cs=> .g (sup n cs)
 | .o k l=> .o k (l.up n)
 | .p k off=> .p k off
 | .e k l i off=> .e k (l.up n) (i.up n) off
 | .f fn cs=> .f fn (sup n cs)
 | .t cs=> .t (sup n cs)
 | .u=> .u
def sup (n:Nat):List SV→List SV
 | []=>[]
 | c::cs=>SV.up n c::sup n cs
end
mutual
theorem SV.up_ok (ρ:Env) (n:Nat) :∀v:SV,γX ρ (v.up n)=γX (fun j=>ρ (n+j)) v
 | .d e=>by simp only[SV.up,γX,dat,Jhf]
 | .g cs=>by simp only[SV.up,γX,Jc9 ρ n cs]
 | .o k l=>by simp only[SV.up,γX,lst,Jhf]
 | .p k off=>rfl
 | .e k l i off=>by simp only[SV.up,γX,lst,int,Jhf]
 | .f fn cs=>by simp only[SV.up,γX,Jc9 ρ n cs]
 | .t cs=>by simp only[SV.up,γX,Jc9 ρ n cs]
 | .u=>rfl
theorem Jc9 (ρ:Env) (n:Nat) :∀cs:List SV,γXs ρ (sup n cs)=γXs (fun j=>ρ (n+j)) cs
 | []=>rfl
 | c::cs=>by simp only[sup,γXs,SV.up_ok ρ n c,Jc9 ρ n cs]
end
def Ji.up (n:Nat):Ji→Ji
 | .box cs=> .box (sup n cs)
 | .arr ty sz l dp rw=> .arr ty sz (l.up n) dp rw
 | .dead=> .dead
theorem Ji.up_ok (ρ:Env) (n:Nat) (o:Ji):γO ρ (o.up n)=γO (fun j=>ρ (n+j)) o:=by
 cases o with
 | box cs=>simp only[Ji.up,γO,Jc9]
 | arr ty sz l dp rw=>simp only[Ji.up,γO,lst,Jhf]
 | dead=>rfl
theorem Jek (ρ:Env) :∀(as:List Sh1) (n m:Nat),(JB as (n+m)).map (dat ρ)=(JB as m).map (dat fun j=>ρ (n+j))
 | [],n,m=>rfl
 | a::as,n,m=>by
  simp only[JB,Ju8];rw[show n+m+1=n+(m+1) by omega,Jek ρ as n (m+1)]
  congr 1
  cases a <;> rfl
def VU {α:Type}:List Key→(List Ji→SMP α)→SMP α
 | [],c=>c []
 | k::ks,c=> .get k fun o=>VU ks fun os=>c (o::os)
def Jgh {α:Type}:List (Key×Ji)→SMP α→SMP α
 | [],c=>c
 | (k,o)::l,c=> .put k o (Jgh l c)
def JcA {α:Type}:List (Key×Ji)→SMP α→SMP α
 | [],c=>c
 | (k,o)::l,c=> .new k o (JcA l c)
section
variable {B:Tb} {ρ:Env}
theorem Kd {α β:Type} {f:α→β} :∀(ks:List Key) (c:List Ji→SMP α) (c':List Obj→MP β),(∀os,(c os).Ok B ρ f (c' (os.map (γO ρ))))→(VU ks c).Ok B ρ f (Jen ks c')
 | [],c,c',h=>h []
 | k::ks,c,c',h=>⟨_,rfl,fun o=>Kd ks _ _ fun os=>h (o::os)⟩
theorem Jds {α β:Type} {f:α→β} :∀(l:List (Key×Ji)) (c:SMP α) (c':MP β),c.Ok B ρ f c'→(Jgh l c).Ok B ρ f (Jeh (l.map fun p=>(p.1,γO ρ p.2)) c')
 | [],c,c',h=>h
 | (k,o)::l,c,c',h=>⟨_,rfl,Jds l c c' h⟩
theorem WG {α β:Type} {f:α→β} :∀(l:List (Key×Ji)) (c:SMP α) (c':MP β),c.Ok B ρ f c'→(JcA l c).Ok B ρ f (JgP (l.map fun p=>(p.1,γO ρ p.2)) c')
 | [],c,c',h=>h
 | (k,o)::l,c,c',h=>⟨_,rfl,WG l c c' h⟩
def JoR (ins:List Sh1) (bs:List (Nat×E)):Nat→List E
 | j=>match ins with
  | []=>[]
  | a::as=>(match bs.lookup j with
   | some x=>(match a with | .i k=>E.vi k x | .b=> .vb x | .d=>x | .s=> .s x)
   | none=> .vc .nilFunc)::JoR as bs (j+1)
def Jjn (ins:List Sh1) (bs:List (Nat×E)):Nat→Bool
 | j=>match ins with
  | []=>true
  | a::as=>(match bs.lookup j with
   | some x=>(match a with | .d=>x.isOne&&W0 x | _=>true)
   | none=>false)&&Jjn as bs (j+1)
theorem Jhe :∀(ins:List Sh1) (bs:List (Nat×E)) (j:Nat),Jjn ins bs j=true→(JoR ins bs j).map (dat ρ)=(JB ins j).map (dat (Y1 0 ρ bs))
 | [],bs,j,_=>rfl
 | a::as,bs,j,h=>by
  unfold Jjn at h;simp only[Ju0] at h;unfold JoR;simp only[JB,Ju8,Jhe as bs (j+1) h.2]
  congr 1
  cases hl:bs.lookup j with
  | none=>rw[hl] at h;simp at h
  | some x =>
   have he:Y1 0 ρ bs j=den ρ x:=by simp[Y1,hl]
   cases a with
   | i k=>show D.v (.int k (den ρ x).int)=D.v (.int k (Y1 0 ρ bs j).int);rw[he]
   | b=>show D.v (.bool (den ρ x).bool)=D.v (.bool (Y1 0 ρ bs j).bool);rw[he]
   | s=>show D.s (den ρ x).lst=D.s (Y1 0 ρ bs j).lst;rw[he]
   | d =>
    show dat ρ x=XM (Y1 0 ρ bs j).dat;rw[he];rw[hl] at h;simp only[Ju0] at h;show dat ρ x=XM (dat ρ x);rw[UA (Qc h.1.1 ρ),Jbf h.1.2]
def Wc (s : Q8) (f : FuncId) (kb : Key) (xs : List SV) (L : List Key) (os : List Ji) : SMP SV :=
  if (Yj xs ++ os.flatMap Ji.names).all L.contains then
    match mv.mvs s.args (Jbi (at? L) (Kz (holds? (L.zip os)) xs)),mos s.objs (os.map fun o=>(Jhb (holds? (L.zip os)) o).ren (at? L)) with
    | some ps,some qs=>match JjX 0 (ps++qs) with
      | some bs=>if Jby bs&&Jjn s.ins bs 0 then
          let n:=L.length
          let news:=Yy [] ((s.res.names++(s.robjs.take n).flatMap Ji.names).filter fun k=>n≤k)
          let all:=List.range n++news
          if all == List.range s.robjs.length&&(s.res.names++s.robjs.flatMap Ji.names).all all.contains&&Nat.ble news.length 16 then
            .ask (fun a=> .call f (JoR s.ins bs 0) s.outs a) s.outs.length fun a =>
              let back:=fun k=>(L++(List.range news.length).map (kb + ·)).getD (at? all k) 0
              let os':=s.robjs.map (Ji.up a)
              Jgh (L.zip ((os'.take n).map (Ji.ren back)))
                (JcA (((List.range news.length).map (kb + ·)).zip ((os'.drop n).map (Ji.ren back))) (.ret ((s.res.up a).ren back)))
          else .fail
        else .fail
      | none=> .fail
    | _,_=> .fail
  else .fail
mutual
def JkD (look:Key→Option E):SV→List (E×E)
 | .o k l=>match look k with
  | some l'=>if l.lsame l' then [] else [(l,l')]
  | none=>[]
 | .g cs=>KJ look cs
 | .t cs=>KJ look cs
 | .f _ cs=>KJ look cs
 | _=>[]
def KJ (look:Key→Option E):List SV→List (E×E)
 | []=>[]
 | c::cs=>JkD look c++KJ look cs
end
mutual
def JbM (look:Key→Option E):SV→SV
 | .o k l=>match look k with
  | some l'=> .o k l'
  | none=> .o k l
 | .g cs=> .g (KE look cs)
 | .t cs=> .t (KE look cs)
 | .f fn cs=> .f fn (KE look cs)
 | v=>v
def KE (look:Key→Option E):List SV→List SV
 | []=>[]
 | c::cs=>JbM look c::KE look cs
end
mutual
theorem Jl3 (ρ:Env) (look:Key→Option E) :∀v:SV,(∀p∈JkD look v,(lst ρ p.1).length=(lst ρ p.2).length)→γX ρ (JbM look v)=γX ρ v
 | .o k l,h=>by
  simp only[JbM];simp only[JkD] at h;split
  ·rename_i l' hk;rw[hk] at h;simp only at h
   by_cases hl:l.lsame l'=true
   ·simp only[γX,lL1 hl ρ]
   ·rw[if_neg hl] at h;simp only[γX,h (l,l') (by simp)]
  ·rfl
 | .g cs,h=>by simp only[JbM,γX,Zh ρ look cs h]
 | .t cs,h=>by simp only[JbM,γX,Zh ρ look cs h]
 | .f _ cs,h=>by simp only[JbM,γX,Zh ρ look cs h]
 | .e _ _ _ _,_=>rfl
 | .d _,_=>rfl
 | .p _ _,_=>rfl
 | .u,_=>rfl
theorem Zh (ρ:Env) (look:Key→Option E) :∀cs:List SV,(∀p∈KJ look cs,(lst ρ p.1).length=(lst ρ p.2).length)→γXs ρ (KE look cs)=γXs ρ cs
 | [],_=>rfl
 | c::cs,h=>by
  simp only[KJ,Ju5] at h;simp only[KE,γXs,Jl3 ρ look c (fun p hp=>h p (.inl hp)),Zh ρ look cs (fun p hp=>h p (.inr hp))]
end
def Jaz {α:Type}:List (E×E)→SMP α→SMP α
 | [],c=>c
 | (l,l')::ps,c=> .ask (fun _=> .chk (.cmp .eq (.len l) (.len l'))) 0 fun _=>Jaz ps c
theorem U3 {B:Tb} {ρ:Env} {α β:Type} {f:α→β} {c:SMP α} {q:MP β} :∀ps:List (E×E),((∀p∈ps,(lst ρ p.1).length=(lst ρ p.2).length)→c.Ok B ρ f q)→(Jaz ps c).Ok B ρ f q
 | [],h=>h (by simp)
 | (l,l')::ps,h=>by
  intro n hn;refine U3 ps fun hp=>h fun p hm=>?_;rcases Jvj.1 hm with rfl | hm
  ·have h:decide (((lst ρ l).length:Int)=((lst ρ l').length:Int))=true:=hn;have h:((lst ρ l).length:Int)=((lst ρ l').length:Int):=by simpa using h
   show (lst ρ l).length=(lst ρ l').length;omega
  ·exact hp p hm
mutual
def SV.flE:SV→Bool
 | .d (.vi _ _)=>true
 | .d (.vb _)=>true
 | .g cs=>Jnq cs
 | .t cs=>Jnq cs
 | .o _ _=>true
 | _=>false
def Jnq:List SV→Bool
 | []=>true
 | c::cs=>SV.flE c&&Jnq cs
end
mutual
theorem JnJ (ρ:Env) :∀v:SV,v.flE=true→(γX ρ v).fl=true
 | .d e,h=>by cases e <;> simp[SV.flE] at h <;> simp[γX,X.fl,dat,den,V.dat,flat]
 | .g cs,h=>by simp only[γX,X.fl];exact Jga ρ cs (by simpa[SV.flE] using h)
 | .t cs,h=>by simp only[γX,X.fl];exact Jga ρ cs (by simpa[SV.flE] using h)
 | .o k l,_=>rfl
 | .p _ _,h=>by simp[SV.flE] at h
 | .e _ _ _ _,h=>by simp[SV.flE] at h
 | .f _ _,h=>by simp[SV.flE] at h
 | .u,h=>by simp[SV.flE] at h
theorem Jga (ρ:Env) :∀vs:List SV,Jnq vs=true→Jj4 (γXs ρ vs)=true
 | [],_=>rfl
 | v::vs,h=>by
  simp only[Jnq,Ju0] at h;simp only[γXs,Jj4,JnJ ρ v h.1,Jga ρ vs h.2,Bool.and_self]
end
def Ji.deepen:Ji→Ji
 | .arr ty sz l _ rw=> .arr ty sz l true rw
 | o=>o
theorem Jmr (ρ:Env) (o:Ji):γO ρ o.deepen=(γO ρ o).deepen:=by cases o <;> rfl
theorem JgW (o:Ji):o.deepen.names=o.names:=by cases o <;> rfl
theorem Jmd (n:Nat) (o:Ji):(o.up n).deepen=(o.deepen).up n:=by cases o <;> rfl
def Jik {α:Type}:List Ji→SMP α→SMP α
 | [],c=>c
 | .arr _ _ l dp rw::os,c=>if rw then(if dp then Jik os c else .ask (fun _=> .fl l) 0 fun _=>Jik os c) else .fail
 | _::_,_=> .fail
theorem Jdx {α β:Type} {f:α→β} {q:MP β} {c:SMP α} :∀(os:List Ji),((∀o∈os,KC (some (γO ρ o))=true)→c.Ok B ρ f q)→(Jik os c).Ok B ρ f q
 | [],h=>h (fun _ h=>by simp at h)
 | .arr ty sz l dp rw::os,h=>by
  simp only[Jik];cases rw with
  | false=>trivial
  | true =>
   simp only[if_true];cases dp with
   | true =>
    simp only[if_true];refine Jdx os fun ho=>h fun o hm=>?_;rcases Jvj.1 hm with rfl | hm
    ·simp[γO,KC]
    ·exact ho o hm
   | false =>
    simp only[Jvg,if_false];intro n hn;simp only[I.holds] at hn;refine Jdx os fun ho=>h fun o hm=>?_;rcases Jvj.1 hm with rfl | hm
    ·simp[γO,KC,hn]
    ·exact ho o hm
 | .box _::_,_=>trivial
 | .dead::_,_=>trivial
def JbP (s:Q8) (f:FuncId) (kb:Key) (xs:List SV):SMP SV :=
 match mv.mvs s.args xs,s.objs with
 | some ps,[]=>match JjX 0 ps with
  | some bs=>if Jby bs&&Jjn s.ins bs 0 then
    let news:=Yy [] (s.res.names.filter fun k=>decide (0≤k))
    if news == List.range s.robjs.length&&(s.res.names++s.robjs.flatMap Ji.names).all news.contains&&Nat.ble news.length 16&&s.res.flE then
     .ask (fun a=> .call f (JoR s.ins bs 0) s.outs a) s.outs.length fun a =>
      let back:=fun k=>((List.range news.length).map (kb + ·)).getD (at? news k) 0
      let os':=s.robjs.map (Ji.up a)
      Jik os' (JcA (((List.range news.length).map (kb + ·)).zip ((os'.map Ji.deepen).map (Ji.ren back))) (.ret ((s.res.up a).ren back)))
    else .fail
   else .fail
  | none=> .fail
 | _,_=> .fail
def JjE (s:Q8) (f:FuncId) (kb:Key) (xs0:List SV):SMP SV :=
 if JiD xs0 then
  let xs:=Jjo xs0
  let ks:=Yy [] (Yj xs)
  VU ks fun os=>let L:=Yy ks (os.flatMap Ji.names);VU L fun os=>Jaz (KJ (holds? (L.zip os)) xs) (Wc s f kb (KE (holds? (L.zip os)) xs) L os)
 else .fail
def JgA (s:Q8) (f:FuncId) (kb:Key) (xs:List SV):SMP SV :=
 let ks:=Yy [] (Yj xs)
 VU ks fun os=>let L:=Yy ks (os.flatMap Ji.names);VU L fun os=>Jaz (KJ (holds? (L.zip os)) xs) (Wc s f kb (KE (holds? (L.zip os)) xs) L os)
theorem QD (ρ:Env) :∀os:List Ji,(os.map (γO ρ)).flatMap Obj.names=os.flatMap Ji.names
 | []=>rfl
 | o::os=>by simp only[Ju8,List.flatMap_cons,Jf6,QD ρ os]
theorem JcT {α:Type} (f:Key→Option α) (l:List α) (h :∀i,f i=l[i]?):(List.range l.length).mapM f=some l:=by
 have key :∀(n a:Nat),a+n=l.length→(List.range' a n).mapM f=some (l.drop a):=by
  intro n
  induction n with
  | zero=>intro a ha;simp at ha;subst ha;simp
  | succ n ih =>
   intro a ha;have hlt:a<l.length:=by omega
   rw[List.range'_succ,List.mapM_cons,h a,Jvb hlt,ih (a+1) (by omega),List.drop_eq_getElem_cons hlt];rfl
 rw[List.range_eq_range'];have:=key l.length 0 (by omega);simpa using this
theorem VJ {α:Type} (l:List Key) (os:List α) {β:Type} (g:α→β):(l.zip os).map (fun p=>(p.1,g p.2))=l.zip (os.map g):=by
 rw[List.zip_map_right];rfl
theorem JhS {m:Mem} (os:List Obj) (n:Nat) (h :∀i,m i=os[i]?):YT m n=(os.take n).flatMap Obj.names:=by
 induction n with
 | zero=>simp[YT]
 | succ n ih =>
  unfold YT at ih ⊢;rw[List.range_succ,List.flatMap_append,ih,List.take_add_one,List.flatMap_append];simp only[List.flatMap_cons,List.flatMap_nil,List.append_nil,h n];cases os[n]? <;> simp
theorem Ja5 {s:Q8} (hs:s.ok=true) (f:FuncId) (kb:Key) (xs:List SV) (L:List Key) (os:List Ji) :
  (Wc s f kb xs L os).Ok B ρ (γX ρ) (Z2 (YO s (B.call f)) kb (γXs ρ xs) L (os.map (γO ρ))):=by
 unfold Wc;split
 ·rename_i hclo;split
  ·rename_i ps qs hps hqs
   ·split
    ·rename_i bs hbs;split
     ·rename_i hc;simp only[Ju0] at hc;simp only;split
      ·rename_i hall;simp only[Ju0] at hall;obtain⟨⟨hall1,hall2⟩,hlen⟩:=hall;have hall1:List.range L.length++Yy [] ((s.res.names++(s.robjs.take L.length).flatMap Ji.names).filter fun k=>L.length≤k)=List.range s.robjs.length:=by simpa using hall1
       intro a hcall;simp only[I.holds] at hcall;have hargs:γXs (Y1 0 ρ bs) s.args=U1 (at? L) (γXs ρ xs):=by
        rw[←Zc ρ (holds? (L.zip os)) xs,Wg];exact Jab _ _ _ hps fun q hq=>Jgz hbs hc.1 (by simp[hq])
       have hobjs:s.objs.map (γO (Y1 0 ρ bs))=(os.map (γO ρ)).map (Obj.ren (at? L)):=by
        rw[JoW _ _ _ hqs fun q hq=>Jgz hbs hc.1 (by simp[hq])];simp only[List.map_map];exact Jvm fun o _=>by simp only[Function.comp];rw[←JaY,Je4]
       have hF:B.call f ((JB s.ins 0).map (dat (Y1 0 ρ bs)))=some ((JB s.outs 0).map (dat fun j=>ρ (a+j))):=by
        rw[←Jhe _ _ _ hc.2,hcall]
        congr 1
        exact Jek ρ s.outs a 0
       have hspec:=Ja6 hs (F:=B.call f) ⟨Y1 0 ρ bs,fun j=>ρ (a+j),hargs.symm,hobjs.symm,hF,rfl⟩;unfold Z2;rw[YJ,QD,if_pos hclo,hspec];simp only[K4];have hm1 :∀i,γm (fun j=>ρ (a+j)) (ZN 0 s.robjs) i=(s.robjs.map (γO fun j=>ρ (a+j)))[i]?:=by
        intro i;simp only[γm,Zz,Nat.zero_le,if_true,Nat.sub_zero,Jvl]
       have hbn:YT (γm (fun j=>ρ (a+j)) (ZN 0 s.robjs)) L.length=(s.robjs.take L.length).flatMap Ji.names:=by rw[JhS _ _ hm1,←List.map_take,QD]
       rw[hbn];have hmap:(List.range L.length++Yy [] ((s.res.names++(s.robjs.take L.length).flatMap Ji.names).filter fun k=>decide (L.length≤k))).mapM (γm (fun j=>ρ (a+j)) (ZN 0 s.robjs))=some (s.robjs.map (γO fun j=>ρ (a+j))):=by
        rw[hall1,←JcT _ _ hm1,Ju9]
       rw[hmap];simp only[QD];have hlen':(Yy [] ((s.res.names++(s.robjs.take L.length).flatMap Ji.names).filter fun k=>decide (L.length≤k))).length≤16:=Nat.le_of_ble_eq_true hlen;rw[if_pos (by rw[Ju0];exact⟨hall2,by simpa using hlen'⟩)];have hren :∀(back:Key→Key) (l:List Ji),(l.map (γO fun j=>ρ (a+j))).map (Obj.ren back)=((l.map (Ji.up a)).map (Ji.ren back)).map (γO ρ):=by
        intro back l;simp only[List.map_map];exact Jvm fun o _=>by simp only[Function.comp,←JaY,Ji.up_ok]
       simp only[←List.map_take,←List.map_drop];rw[hren,hren,←VJ _ _ (γO ρ),←VJ _ _ (γO ρ)];refine Jds _ _ _ (WG _ _ _ ?_);simp only[SMP.Ok,←JdZ,SV.up_ok]
      ·trivial
     ·trivial
    ·trivial
  ·trivial
 ·trivial
theorem JmJ {s:Q8} (hs:s.ok=true) (f:FuncId) (kb:Key) (xs:List SV):(JjE s f kb xs).Ok B ρ (γX ρ) (Jln (YO s (B.call f)) kb (γXs ρ xs)):=by
 unfold JjE Jln WK;split
 ·rename_i ho;rw[Jef ρ xs ho];simp only[YJ];refine Kd _ _ _ fun os=>?_;simp only[QD];refine Kd _ _ _ fun os=>U3 _ fun hp=>?_;rw[←Zh ρ _ _ hp];exact Ja5 hs f kb _ _ _
 ·trivial
theorem Jkk {s:Q8} (hs:s.ok=true) (f:FuncId) (kb:Key) (xs:List SV):(JgA s f kb xs).Ok B ρ (γX ρ) (WK (YO s (B.call f)) kb (γXs ρ xs)):=by
 unfold JgA WK;simp only[YJ];refine Kd _ _ _ fun os=>?_;simp only[QD];refine Kd _ _ _ fun os=>U3 _ fun hp=>?_;rw[←Zh ρ _ _ hp];exact Ja5 hs f kb _ _ _
theorem Jgm {s:Q8} (hs:s.ok=true) (f:FuncId) (kb:Key) (xs:List SV) (ds:List D) (hds:ds.map X.ofD1=γXs ρ xs) :
  (JbP s f kb xs).Ok B ρ (γX ρ) (VH (YO s (B.call f)) kb ds):=by
 unfold JbP;split
 ·rename_i ps hps hobjs0;split
  ·rename_i bs hbs;split
   ·rename_i hc;simp only[Ju0] at hc;simp only;split
    ·rename_i hall;simp only[Ju0] at hall;obtain⟨⟨⟨hall1,hall2⟩,hlen⟩,hfl⟩:=hall;have hall1:Yy [] (s.res.names.filter fun k=>decide (0≤k))=List.range s.robjs.length:=by simpa using hall1
     intro a hcall;simp only[I.holds] at hcall;refine Jdx _ fun hflat=>?_;have hargs:γXs (Y1 0 ρ bs) s.args=γXs ρ xs:=Jab _ _ _ hps fun q hq=>Jgz hbs hc.1 hq;have hF:B.call f ((JB s.ins 0).map (dat (Y1 0 ρ bs)))=some ((JB s.outs 0).map (dat fun j=>ρ (a+j))):=by
      rw[←Jhe _ _ _ hc.2,hcall]
      congr 1
      exact Jek ρ s.outs a 0
     have hspec:=Ja6 hs (F:=B.call f) (xs:=γXs ρ xs) (os:=[]) ⟨Y1 0 ρ bs,fun j=>ρ (a+j),hargs.symm,by rw[hobjs0];rfl,hF,rfl⟩;have hm1 :∀i,γm (fun j=>ρ (a+j)) (ZN 0 s.robjs) i=(s.robjs.map (γO fun j=>ρ (a+j)))[i]?:=by
      intro i;simp only[γm,Zz,Nat.zero_le,if_true,Nat.sub_zero,Jvl]
     have hmemn :∀k,k∈s.res.names↔k<s.robjs.length:=by
      intro k;have:k∈Yy [] (s.res.names.filter fun k=>decide (0≤k))↔k∈s.res.names:=by rw[JaL];simp
      rw[←this,hall1,List.mem_range]
     have hfo :∀k∈s.res.names,KC (γm (fun j=>ρ (a+j)) (ZN 0 s.robjs) k)=true:=by
      intro k hk;rw[hm1,Jvl];have hlt:=(hmemn k).1 hk;rw[Jvb hlt,Ju2];have:=hflat (Ji.up a s.robjs[k]) (List.mem_map_of_mem (List.getElem_mem hlt));rw[Ji.up_ok] at this;exact this
     have hfS:Jk2 (YO s (B.call f)) (ds.map X.ofD1)=some (γX (fun j=>ρ (a+j)) s.res,fun k=>if s.res.names.contains k then(γm (fun j=>ρ (a+j)) (ZN 0 s.robjs) k).map Obj.deepen else none):=by
      unfold Jk2;rw[hds,hspec];simp only[K4];rw[if_pos];rw[Ju0];exact⟨JnJ _ _ hfl,Jvd.2 hfo⟩
     unfold VH Z2;rw[hfS];simp only[K4,Qt,YT,List.flatMap_nil,List.append_nil,List.all_nil,if_true,List.length_nil,List.range_zero,List.nil_append];have hm2 :∀i,(fun k=>if s.res.names.contains k then(γm (fun j=>ρ (a+j)) (ZN 0 s.robjs) k).map Obj.deepen else none) i=((s.robjs.map Ji.deepen).map (γO fun j=>ρ (a+j)))[i]?:=by
      intro i;simp only;split
      ·rw[hm1 i,Jvl,Jvl,Jvl];cases s.robjs[i]? with
       | none=>rfl
       | some o=>simp only[Ju2,Jmr]
      ·rename_i hn;have : ¬i<s.robjs.length:=fun h=>hn (List.contains_iff_mem.2 ((hmemn i).2 h));rw[Jvn (by simpa using this)]
     have hmap:(Yy [] (s.res.names.filter fun k=>decide (0≤k))).mapM (fun k=>if s.res.names.contains k then(γm (fun j=>ρ (a+j)) (ZN 0 s.robjs) k).map Obj.deepen else none)=some ((s.robjs.map Ji.deepen).map (γO fun j=>ρ (a+j))):=by
      rw[hall1,←JcT _ _ hm2,Ju9,Ju9]
     rw[hmap];have hdn:(s.robjs.map Ji.deepen).flatMap Ji.names=s.robjs.flatMap Ji.names:=by
      rw[List.flatMap_map]
      congr 1
      funext o
      exact JgW o
     simp only[QD,hdn];have hlen':(Yy [] (s.res.names.filter fun k=>decide (0≤k))).length≤16:=Nat.le_of_ble_eq_true hlen;rw[if_pos (by rw[Ju0];exact⟨hall2,by simpa using hlen'⟩)];have hren :∀(back:Key→Key) (l:List Ji),(l.map (γO fun j=>ρ (a+j))).map (Obj.ren back)=((l.map (Ji.up a)).map (Ji.ren back)).map (γO ρ):=by
      intro back l;simp only[List.map_map];exact Jvm fun o _=>by simp only[Function.comp,←JaY,Ji.up_ok]
     simp only[List.zip_nil_left,Jeh,List.drop_zero];have hdu:(s.robjs.map Ji.deepen).map (Ji.up a)=(s.robjs.map (Ji.up a)).map Ji.deepen:=by
      rw[List.map_map,List.map_map];exact Jvm fun o _=>(Jmd a o).symm
     rw[hren,hdu,←VJ _ _ (γO ρ)];refine WG _ _ _ ?_;simp only[SMP.Ok,←JdZ,SV.up_ok]
    ·trivial
   ·trivial
  ·trivial
 ·trivial
end
end Go.Tm
end
section
namespace Go.Tm
open Go.IntKind (i64)
def Sh.ar:Sh→Option Nat
 | .g as=>some as.length
 | _=>none
def Jri (s:Jkr):Option (List (Option Nat)) :=
 if s.flat&&s.pars.all noQ&&Nat.ble s.pars.length 30 then match s.res with
  | .one (.one _)=>some (s.pars.map Sh.ar)
  | _=>none
 else none
def Jhz:Sig→Bool
 | .d s=>s.res.ok&&(!s.flat||s.res.leaves.all V4)
 | .x s=>s.ok
def Jro:SV→Bool
 | .d _=>true
 | .g cs=>cs.all fun | .d _=>true | _=>false
 | _=>false
def Q8.mask (s:Q8):List Bool:=s.args.map Jro
def Jqy:SV→List Bool
 | .g cs=>if cs.any (fun | .o _ _=>true | _=>false) then cs.map fun | .d (.s _)=>true | _=>false else []
 | _=>[]
def Q8.gmask (s:Q8):List (List Bool):=s.args.map Jqy
def JjH:SV→Bool
 | .d (.vc (.slice none 0 0))=>true
 | _=>false
def Q8.raw (s:Q8):Bool:=s.args.any JjH
noncomputable def Ye (sg:FuncId→Option Sig) (B:Tb):Tab where
 fns f:=match sg f with
  | some (.d s)=>some { F:=dspec s (B.call f),flat:=s.flat }
  | _=>none
 xfns f:=match sg f with
  | some (.x s)=>some (YO s (B.call f))
  | _=>none
 xmask f:=match sg f with
  | some (.x s)=>s.mask
  | _=>[]
 xgmask f:=match sg f with
  | some (.x s)=>s.gmask
  | _=>[]
 xraw f:=match sg f with
  | some (.x s)=>s.raw
  | _=>false
 xflat f:=match sg f with
  | some (.x s)=>s.flat
  | _=>false
structure BOk (sg:FuncId→Option Sig) (B:Tb):Prop where
 sig :∀f s,sg f=some s→Jhz s=true
 ar :∀f a,B.ar f=some a→∃ s,sg f=some (.d s)∧Jri s=some a
def Jls (s:Jkr) (f:FuncId) (es:List E):SMP SV:=match JE s.pars es with
 | some ls=> .ask (fun n=> .call f ls s.res.leaves n) s.res.leaves.length fun n=> .ret (s.res.sv n)
 | none=> .fail
def ofE:E→Option SV
 | .g l=>match l.list with
  | some cs=>some (.g (cs.map .d))
  | none=>none
 | e=>if e.isOne then some (.d e) else none
def Zl:List Bool→List SV→SMP (List SV)
 | b::bs,x::xs=>if b then(JfB x).bind fun e=>match ofE e with
   | some v=>(Zl bs xs).bind fun ys=> .ret (v::ys)
   | none=> .fail
  else(Zl bs xs).bind fun ys=> .ret (x::ys)
 | _,xs=> .ret xs
def Jgv (bs:List Bool):SV→SMP SV
 | .g cs=>(Zl bs cs).bind fun ds=> .ret (.g ds)
 | x=> .ret x
def UM:List (List Bool)→List SV→SMP (List SV)
 | bs::bss,x::xs=>(Jgv bs x).bind fun y=>(UM bss xs).bind fun ys=> .ret (y::ys)
 | _,xs=> .ret xs
def Ji.shal:Ji→Ji
 | .arr ty sz l _ rw=> .arr ty sz l false rw
 | o=>o
def Q8.shal (s:Q8):Q8:={ s with robjs:=s.robjs.take s.objs.length++(s.robjs.drop s.objs.length).map Ji.shal }
def Q8.by (s:Q8) (dp:Bool):Q8:=if dp then s else s.shal
def Jjr (sg:FuncId→Option Sig) (dp bo:Bool) (kb:Key) (f:FuncId) (args:List SV):SMP SV:=match sg f with
 | some (.d s)=>if s.flat then(Jcs.spurs 40 args).bind fun es=>Jls s f es else(Jbm args).bind fun es=>Jls s f es
 | some (.x s)=>if s.flat||bo then(Jcs.spurs 40 args).bind fun es=>match es.mapM ofE with
   | some xs=>JbP s f kb xs
   | none=> .fail
  else if s.raw then JgA (s.by dp) f kb args else(Zl s.mask args).bind fun xs=>(UM s.gmask xs).bind fun xs=>JjE (s.by dp) f kb xs
 | none=> .fail
def arE:E→Option Nat
 | .g l=>match l.list with
  | some cs=>some cs.length
  | none=>none
 | _=>none
def U0:List E→Option (List E)
 | []=>some []
 | .g l::es=>match l.list with
  | some cs=>(U0 es).map (cs ++ ·)
  | none=>none
 | e::es=>(U0 es).map (e :: ·)
def Vr:SV→Option E
 | .d e=>if e.isOne then some e.norm else none
 | .g cs=>if Nat.ble cs.length 20 then(cells cs).map fun l=> .g (J9 l) else none
 | _=>none
where
 cells:List SV→Option (List E)
  | []=>some []
  | .d e::cs=>if e.isOne then(cells cs).map (e.norm :: ·) else none
  | _=>none
def W5:List SV→Option (List E)
 | []=>some []
 | v::vs=>match Vr v with
  | some e=>(W5 vs).map (e :: ·)
  | none=>none
def Jny (n0:Nat) (args:List SV) (rs:Sh1):SMP SV :=
 if V4 rs&&Nat.ble args.length 8 then match W5 args with
  | some es=>match U0 es with
   | some ls=> .ask (fun n=> .callv (.da n0) ls (es.map arE) [rs] n) 1 fun n=> .ret (.d (rs.expr n))
   | none=> .fail
  | none=> .fail
 else .fail
section
variable {B:Tb} {ρ:Env} {sg:FuncId→Option Sig} {P:Program} {G:Qh}
theorem Jcg :∀(n:Nat) (xs ys:List X),xs.length≤n→pur.purs n (xs++ys)=(pur.purs n xs).bind fun ds=>(pur.purs (n-xs.length) ys).bind fun es=> .ret (ds++es)
 | n,[],ys,_=>by
  have h1:pur.purs n ([]:List X) = .ret []:=by cases n <;> rfl
  rw[List.nil_append,h1];show _=(pur.purs n ys).bind fun es=> .ret es;generalize pur.purs n ys=p
  induction p with
  | ret a=>rfl
  | fail=>rfl
  | get k c ih=>simp only[MP.bind];congr 1;funext o;exact ih o
  | put k o c ih=>simp only[MP.bind];rw[←ih]
  | new k o c ih=>simp only[MP.bind];rw[←ih]
 | 0,x::xs,ys,h=>by simp at h
 | n+1,x::xs,ys,h=>by
  have ih:=Jcg n xs ys (by simpa using h);have assoc :∀{α β γ:Type} (p:MP α) (f:α→MP β) (g:β→MP γ),(p.bind f).bind g=p.bind fun a=>(f a).bind g:=by
   intro α β γ p f g
   induction p with
   | ret a=>rfl
   | fail=>rfl
   | get k c ih=>simp only[MP.bind];congr 1;funext o;exact ih o
   | put k o c ih=>simp only[MP.bind];rw[ih]
   | new k o c ih=>simp only[MP.bind];rw[ih]
  show (pur n x).bind (fun d=>(pur.purs n (xs++ys)).bind fun ds=> .ret (d::ds))=((pur n x).bind fun d=>(pur.purs n xs).bind fun ds=> .ret (d::ds)).bind _;rw[ih];simp only[assoc,MP.bind,List.length_cons,Nat.add_sub_add_right,List.cons_append]
theorem Jfx :∀(n:Nat) (ds:List D),ds.length<n→pur.purs n (ds.map X.d) = .ret (ds.map D.norm)
 | 0,ds,h=>by omega
 | n+1,[],h=>rfl
 | n+1,d::ds,h=>by
  show (pur n (.d d)).bind (fun d=>(pur.purs n (ds.map X.d)).bind fun ds=> .ret (d::ds))=_;have hlt:ds.length<n:=by simpa using h
  obtain⟨k,rfl⟩ : ∃ k,n=k+1:=⟨n-1,by omega⟩;rw[Jfx (k+1) ds hlt];rfl
theorem Jil {s:Jkr} (hs:Jhz (.d s)=true) (f:FuncId) (es:List E) (fl:Bool) (hfl:fl=true→s.flat=true):(Jls s f es).Ok B ρ (γX ρ)
  (match dspec s (B.call f) (fEs ρ es) with
   | some r=>if fl then(if flat r then .ret (X.ofD r) else .fail) else .ret (X.ofD r)
   | none=> .fail):=by
 unfold Jls;cases hf:JE s.pars es with
 | none=>trivial
 | some ls =>
  intro n hn;simp only[I.holds] at hn;simp only[Jhz,Ju0] at hs;obtain⟨d,h1,h2⟩:=JlS ρ s.res n hs.1;have hd:dspec s (B.call f) (fEs ρ es)=some d:=by
   unfold dspec fEs;rw[VB ρ _ _ _ hf,Jve,hn,Jve,h1]
  rw[hd];simp only[SMP.Ok,←h2];cases fl with
  | false=>rfl
  | true =>
   have hpl:s.res.leaves.all V4=true:=by simpa[hfl rfl] using hs.2
   have:=Jig h1 (JdN ρ _ _ hpl);simp only[this,if_true]
theorem JoV {e:E} {v:SV} (h:ofE e=some v) (ρ:Env):X.ofD1 (dat ρ e)=γX ρ v:=by
 unfold ofE at h;split at h
 ·rename_i l;split at h
  ·rename_i cs hl;simp only[JuZ] at h;subst h;show X.g ((lst ρ l).map .d)=X.g (γXs ρ (cs.map .d));rw[YN ρ _ _ hl,Jx,Wj]
  ·cases h
 ·split at h
  ·rename_i ho;simp only[JuZ] at h;subst h;rw[Jij (Qc ho ρ)];rfl
  ·cases h
theorem ZJ :∀(bs:List Bool) (xs:List SV),(Zl bs xs).Ok B ρ (γXs ρ) (XW bs (xs.map (γX ρ)))
 | [],xs=>by
  cases xs <;> simp only[Zl,XW,List.map_nil,SMP.Ok,Jx]
 | _::_,[]=>rfl
 | b::bs,x::xs=>by
  simp only[Zl,XW,Ju8];cases b with
  | true =>
   simp only[if_true];refine SMP.bind_ok (f:=dat ρ) (fun e=>?_) _ _ (JhU x);cases he:ofE e with
   | none=>trivial
   | some v =>
    simp only[JoV he ρ];refine SMP.bind_ok (f:=γXs ρ) (fun ys=>?_) _ _ (ZJ bs xs);rfl
  | false =>
   simp only[Jvg,if_false];refine SMP.bind_ok (f:=γXs ρ) (fun ys=>?_) _ _ (ZJ bs xs);rfl
theorem JjN (bs:List Bool) (x:SV):(Jgv bs x).Ok B ρ (γX ρ) (Jbk bs (γX ρ x)):=by
 cases x with
 | g cs =>
  simp only[Jgv,γX,Jbk];have h:=ZJ (B:=B) (ρ:=ρ) bs cs;rw[←Jx] at h;refine SMP.bind_ok (f:=γXs ρ) (fun ds=>?_) _ _ h;rfl
 | _=>rfl
theorem WA :∀(bs:List (List Bool)) (xs:List SV),(UM bs xs).Ok B ρ (γXs ρ) (YG bs (γXs ρ xs))
 | [],xs=>by
  cases xs <;> rfl
 | _::_,[]=>rfl
 | b::bs,x::xs=>by
  simp only[UM,γXs,YG];refine SMP.bind_ok (f:=γX ρ) (fun y=>?_) _ _ (JjN b x);refine SMP.bind_ok (f:=γXs ρ) (fun ys=>?_) _ _ (WA bs xs);rfl
theorem Jle :∀(es:List E) (xs:List SV),es.mapM ofE=some xs→(fEs ρ es).map X.ofD1=γXs ρ xs
 | [],xs,h=>by
  simp at h;subst h;rfl
 | e::es,xs,h=>by
  simp only[List.mapM_cons,Option.bind_eq_bind] at h;cases he:ofE e with
  | none=>rw[he] at h;cases h
  | some v =>
   cases hr:es.mapM ofE with
   | none=>rw[he,hr] at h;cases h
   | some vs =>
    rw[he,hr] at h;simp only[Jve,pure,JuZ] at h;subst h;show X.ofD1 (dat ρ e)::(fEs ρ es).map X.ofD1=γX ρ v::γXs ρ vs;rw[JoV he ρ,Jle es vs hr]
theorem Jom (o:Ji):o.shal.lv2=o.lv2:=by cases o <;> rfl
theorem Jlq {s:Q8} (h:s.ok=true):s.shal.ok=true:=by
 unfold Q8.ok Q8.shal at *;have e:(s.robjs.take s.objs.length++(s.robjs.drop s.objs.length).map Ji.shal).flatMap Ji.lv2=s.robjs.flatMap Ji.lv2:=by
  conv=>rhs;rw[←List.take_append_drop s.objs.length s.robjs]
  rw[List.flatMap_append,List.flatMap_append,List.flatMap_map];simp only[Jom]
 simp only[e];exact h
theorem JoJ {s:Q8} {ρ2:Env}:γm ρ2 (ZN 0 s.shal.robjs)=fun k=>if k<s.objs.length then γm ρ2 (ZN 0 s.robjs) k else(γm ρ2 (ZN 0 s.robjs) k).map Obj.shal:=by
 refine funext fun(k:Nat)=>?_;simp only[γm,Zz,Nat.zero_le,if_true,Nat.sub_zero,Q8.shal];have hs :∀o:Ji,γO ρ2 o.shal=(γO ρ2 o).shal:=fun o=>by cases o <;> rfl
 split
 ·rename_i hk
  by_cases hl:k<s.robjs.length
  ·rw[Jvr (by rw[Jvf];omega),Jvq hk]
  ·rw[Jvn (l:=s.robjs) (by omega),Jvn (by rw[Ju6,Jvf,Ju9,List.length_drop];omega)]
 ·rename_i hk
  by_cases hl:s.objs.length≤s.robjs.length
  ·rw[Jvs (by rw[Jvf];omega),Jvl,List.getElem?_drop,Jvf,Nat.min_eq_left hl,show s.objs.length+(k-s.objs.length)=k by omega];cases s.robjs[k]? with
   | none=>rfl
   | some o=>simp[hs]
  ·rw[Jvn (l:=s.robjs) (by omega),Jvn (by rw[Ju6,Jvf,Ju9,List.length_drop];omega)];rfl
theorem Jm1 {s:Q8} (h:s.ok=true) (F:List D→Option (List D)):Jc3 (YO s F)=YO s.shal F:=by
 funext xs os
 unfold Jc3;cases h0:YO s F xs os with
 | some r =>
  have hr:=Wf h0;have hr2:s.shal.rel F xs os (r.1,fun k=>if k<os.length then r.2 k else(r.2 k).map Obj.shal):=by
   obtain⟨ρ1,ρ2,h1,h2,h3,rfl⟩:=hr;refine⟨ρ1,ρ2,h1,h2,h3,?_⟩;rw[JoJ,h2,Ju9];rfl
  rw[Ja6 (Jlq h) hr2];rfl
 | none =>
  cases h1:YO s.shal F xs os with
  | none=>rfl
  | some r =>
   obtain⟨ρ1,ρ2,a1,a2,a3,a4⟩:=Wf h1;have hr:s.rel F xs os (γX ρ2 s.res,γm ρ2 (ZN 0 s.robjs)):=⟨ρ1,ρ2,a1,a2,a3,rfl⟩;rw[Ja6 h hr] at h0;cases h0
theorem Jqs {s:Q8} (h:s.ok=true) (dp:Bool):(s.by dp).ok=true:=by
 cases dp
 ·exact Jlq h
 ·exact h
theorem Jk0 {s:Q8} (h:s.ok=true) (dp:Bool) (F:List D→Option (List D)):(if dp=true then YO s F else Jc3 (YO s F))=YO (s.by dp) F:=by
 cases dp
 ·exact Jm1 h F
 ·rfl
theorem Jmw (hB:BOk sg B) (o:Oper) (f:FuncId) (args:List SV):(Jjr sg (G.dp o) (G.bo o) (JA o) f args).Ok B ρ (γX ρ) (Jas (Ye sg B) G o f (args.map (γX ρ))):=by
 unfold Jjr Jas Ye;simp only;cases hf:sg f with
 | none=>trivial
 | some s =>
  cases s with
  | d s =>
   simp only;split
   ·rename_i hfl;simp only[Jat];refine SMP.bind_ok (f:=fEs ρ) (fun es=>?_) _ _ (Kf 40 args);exact Jil (hB.sig f _ hf) f es true (fun _=>hfl)
   ·refine SMP.bind_ok (f:=fEs ρ) (fun es=>?_) _ _ (Wd args);exact Jil (hB.sig f _ hf) f es false (fun h=>by cases h)
  | x s =>
   simp only;split
   ·simp only[Jat];refine SMP.bind_ok (f:=fEs ρ) (fun es=>?_) _ _ (Kf 40 args);cases he:es.mapM ofE with
    | none=>trivial
    | some xs=>exact Jgm (hB.sig f _ hf) f (JA o) xs _ (Jle es xs he)
   split
   ·rw[←Jx,Jk0 (hB.sig f _ hf)];exact Jkk (Jqs (hB.sig f _ hf) _) f (JA o) args
   ·rw[Jk0 (hB.sig f _ hf)];exact SMP.bind_ok (f:=γXs ρ) (fun xs=>SMP.bind_ok (f:=γXs ρ) (fun xs=>JmJ (Jqs (hB.sig f _ hf) _) f (JA o) xs) _ _ (WA _ xs)) _ _ (ZJ _ args)
theorem Ji0 :∀(es ls:List E) (ss:List Sh) (caps:List D),U0 es=some ls→ss.map Sh.ar=es.map arE++caps.map (fun _=>none)→ss.all noQ=true →
  Js ss (es.map (dat ρ)++caps)=some (ls.map (dat ρ)++caps)
 | [],ls,ss,caps,h,hs,hq=>by
  simp only[U0,JuZ] at h;subst h;simp only[List.map_nil,List.nil_append] at hs ⊢
  induction caps generalizing ss with
  | nil=>simp at hs;subst hs;rfl
  | cons c caps ih =>
   cases ss with
   | nil=>simp at hs
   | cons s ss =>
    simp only[Ju8,List.cons.injEq] at hs;simp only[List.all_cons,Ju0] at hq;cases s with
    | g as=>simp[Sh.ar] at hs
    | q as=>simp[noQ] at hq
    | one a=>simp only[Js,ih ss hq.2 hs.2,Ju2]
 | e::es,ls,ss,caps,h,hs,hq=>by
  cases ss with
  | nil=>simp at hs
  | cons s ss =>
   simp only[Ju8,List.cons_append,List.cons.injEq] at hs;simp only[List.all_cons,Ju0] at hq;have rest :∀ls',U0 es=some ls'→Js ss (es.map (dat ρ)++caps)=some (ls'.map (dat ρ)++caps):=fun ls' h=>Ji0 es ls' ss caps h hs.2 hq.2;have one:arE e=none→(U0 es).map (e :: ·)=some ls→Js (s::ss) ((e::es).map (dat ρ)++caps)=some (ls.map (dat ρ)++caps):=by
    intro ha h;cases hr:U0 es with
    | none=>simp[hr] at h
    | some ls' =>
     simp only[hr,Ju2,JuZ] at h;subst h;cases s with
     | g as=>rw[ha] at hs;simp[Sh.ar] at hs
     | q as=>simp[noQ] at hq
     | one a=>simp only[Ju8,List.cons_append,Js,rest ls' hr,Ju2]
   cases e with
   | g l =>
    simp only[U0] at h;split at h
    ·rename_i cs hl;cases hr:U0 es with
     | none=>simp[hr] at h
     | some ls' =>
      simp only[hr,Ju2,JuZ] at h;subst h;simp only[arE,hl] at hs;cases s with
      | one a=>simp[Sh.ar] at hs
      | q as=>simp[noQ] at hq
      | g as =>
       simp only[Sh.ar,JuZ] at hs;show Js (.g as::ss) (D.g (lst ρ l)::(es.map (dat ρ)++caps))=_;simp only[Js,YN ρ _ _ hl,Ju9,hs.1,if_true,rest ls' hr,Ju2,List.map_append,List.append_assoc]
    ·cases h
   | _=>exact one rfl h
theorem JcZ :∀(cs:List SV) (l:List E) (n:Nat),Vr.cells cs=some l→cs.length<n→pur.purs n (cs.map (γX ρ)) = .ret (l.map (dat ρ))
 | [],l,n,h,hn=>by
  simp only[Vr.cells,JuZ] at h;subst h;cases n <;> rfl
 | c::cs,l,0,h,hn=>by simp at hn
 | c::cs,l,n+1,h,hn=>by
  cases c with
  | d e =>
   simp only[Vr.cells] at h;split at h
   ·rename_i ho;cases hr:Vr.cells cs with
    | none=>simp[hr] at h
    | some l' =>
     simp only[hr,Ju2,JuZ] at h;subst h;have hlt:cs.length<n:=by simpa using hn
     obtain⟨k,rfl⟩ : ∃ k,n=k+1:=⟨n-1,by omega⟩;show (pur (k+1) (X.d (dat ρ e))).bind (fun d=>(pur.purs (k+1) (cs.map (γX ρ))).bind fun ds=> .ret (d::ds))=_;rw[JcZ cs l' (k+1) hr hlt];simp only[pur,MP.bind,Ju8,Zw ho]
   ·cases h
  | _=>simp[Vr.cells] at h
theorem JoT {v:SV} {e:E} {n:Nat} (h:Vr v=some e) (hn:22≤n):pur n (γX ρ v) = .ret (dat ρ e):=by
 obtain⟨k,rfl⟩ : ∃ k,n=k+1:=⟨n-1,by omega⟩;cases v with
 | d e' =>
  simp only[Vr] at h;split at h
  ·rename_i ho;simp only[JuZ] at h;subst h;simp only[γX,pur,Zw ho]
  ·cases h
 | g cs =>
  simp only[Vr] at h;split at h
  ·rename_i hl;have hl:cs.length≤20:=Nat.le_of_ble_eq_true hl;cases hc:Vr.cells cs with
   | none=>simp[hc] at h
   | some l =>
    simp only[hc,Ju2,JuZ] at h;subst h;simp only[γX,pur,Jx,JcZ cs l k hc (by omega),MP.bind];show MP.ret _=MP.ret (D.g (lst ρ (J9 l)));rw[JI]
  ·cases h
 | _=>simp[Vr] at h
theorem JfM :∀(vs:List SV) (es:List E) (n:Nat),W5 vs=some es→22+vs.length≤n→pur.purs n (vs.map (γX ρ)) = .ret (es.map (dat ρ))
 | [],es,n,h,hn=>by
  simp only[W5,JuZ] at h;subst h;cases n <;> rfl
 | v::vs,es,0,h,hn=>by omega
 | v::vs,es,n+1,h,hn=>by
  simp only[W5] at h;split at h
  ·rename_i e he;cases hr:W5 vs with
   | none=>simp[hr] at h
   | some es' =>
    simp only[hr,Ju2,JuZ] at h;subst h;simp only[List.length_cons] at hn;show (pur n (γX ρ v)).bind (fun d=>(pur.purs n (vs.map (γX ρ))).bind fun ds=> .ret (d::ds))=_;rw[JoT he (by omega),JfM vs es' n hr (by omega)];rfl
  ·cases h
theorem Jpl (hB:BOk sg B) (o:Oper) (n0:Nat) (args:List SV) (rs:Sh1) :
  (Jny n0 args rs).Ok B ρ (γX ρ) (match X.d (dat ρ (.da n0)) with
   | .f fn cs=>Jas (Ye sg B) G o fn (args.map (γX ρ)++cs)
   | .d (.f fn cs)=>Jas (Ye sg B) G o fn (args.map (γX ρ)++cs.map X.d)
   | _=> .fail):=by
 unfold Jny;split
 ·rename_i hpl;simp only[Ju0] at hpl;have hlen:args.length≤8:=Nat.le_of_ble_eq_true hpl.2;cases hpe:W5 args with
  | none=>trivial
  | some es =>
   simp only;cases hfe:U0 es with
   | none=>trivial
   | some ls =>
    intro n hn;obtain⟨fn,caps,hd,h2,h3⟩:=hn;rw[hd];simp only;obtain⟨s,hsg,hs⟩:=hB.ar fn _ h2;unfold Jri at hs;split at hs
    ·rename_i hcond;simp only[Ju0] at hcond;obtain⟨⟨hflat,hnq⟩,h30⟩:=hcond;have h30:s.pars.length≤30:=Nat.le_of_ble_eq_true h30;split at hs
     ·rename_i a hres;simp only[JuZ] at hs;unfold Jas Ye;simp only[hsg,hflat,if_true,Jat];have hcl:caps.length≤30:=by
       have:=congrArg List.length hs;simp at this;omega
      rw[Jcg 40 _ _ (by simp;omega),JfM args es 40 hpe (by omega),Jfx _ caps (by simp;omega)];simp only[MP.bind];have hds:dspec s (B.call fn) (es.map (dat ρ)++caps.map D.norm)=some (dat ρ (rs.expr n)):=by
       unfold dspec;rw[Ji0 es ls s.pars (caps.map D.norm) hfe (by rw[hs];simp) hnq,Jve,h3,Jve,hres];simp only[JB,Ju8,List.map_nil,Y7,Qc (Zg rs n) ρ,if_true]
      rw[hds];have hfl:flat (dat ρ (rs.expr n))=true:=by
       cases rs <;> first | rfl | (exact absurd hpl.1 (by simp[V4]))
      simp only[hfl,if_true,SMP.Ok,γX,JgZ (Qc (Zg rs n) ρ)]
     ·cases hs
    ·cases hs
 ·trivial
end
end Go.Tm
end
section
namespace Go.Tm
open Go.IntKind (i64)
def JaN (l:E):E:=match l.list with
 | some cs=> .z cs.length
 | none=> .len l
def E.known:E→Option Bool
 | .tt=>some true
 | .ff=>some false
 | .cmp o (.z a) (.z b)=>some (o.sem a b)
 | _=>none
def KP {α:Type} (b:E) (c:SMP α):SMP α:=match b.known with
 | some true=>c
 | some false=> .fail
 | none=> .ask (fun _=> .chk b) 0 fun _=>c
def KK (P:Program) (e:TypeId):Option Nat:=(tz P e).map fun z=>if z.2.2=0 then 2 ^ 46 else 2 ^ 46 / z.2.2
def JoX {α:Type} (sz:Nat) (l:E) (c:SMP α):SMP α:=match l with
 | .nil=>c
 | .cons (.g x) _=>match x.list with
  | some cs=>if cs.length=sz then c else .fail
  | none=> .fail
 | .cons x _=>if x.isOne&&sz == 1 then c else .fail
 | _=> .ask (fun _=> .head sz l) 0 fun _=>c
def Ws:SV→Option (IntKind×E)
 | .d (.vi k e)=>some (k,e)
 | _=>none
section
variable {B:Tb} {ρ:Env} {sg:FuncId→Option Sig} {P:Program} {G:Qh}
theorem Zq (l:E):int ρ (JaN l)=(lst ρ l).length:=by
 unfold JaN;split
 ·rename_i cs h;rw[YN ρ _ _ h];simp[int,den,V.int]
 ·rfl
theorem Kq {b:E} {t:Bool} (h:b.known=some t):bol ρ b=t:=by
 unfold E.known at h;split at h <;> simp at h <;> subst h <;> rfl
theorem QR {α β:Type} {f:α→β} {b:E} {c:SMP α} {q:MP β} (h:bol ρ b=true→c.Ok B ρ f q):(KP b c).Ok B ρ f q:=by
 unfold KP;split
 ·rename_i hk;exact h (Kq hk)
 ·trivial
 ·intro n hn;exact h hn
theorem Jn9 {α β:Type} {f:α→β} {sz:Nat} {l:E} {c:SMP α} {q:MP β} (h:Yf sz (lst ρ l)=true→c.Ok B ρ f q):(JoX sz l c).Ok B ρ f q:=by
 unfold JoX;split
 ·exact h rfl
 ·rename_i x l';split
  ·rename_i cs hl;split
   ·rename_i hs;refine h ?_;show ((D.g (lst ρ x)).cells.length == sz)=true;rw[YN ρ _ _ hl];simp[D.cells,hs]
   ·trivial
  ·trivial
 ·rename_i x l' _;split
  ·rename_i hx;simp only[Ju0] at hx;refine h ?_;show ((dat ρ x).cells.length == sz)=true;rw[JdM (Qc hx.1 ρ)];have:sz=1:=by simpa using hx.2
   subst this;rfl
  ·trivial
 ·intro n hn;exact h hn
theorem Wb {e:TypeId} {m n:Nat} (h:KK P e=some m) (hn:n≤m):VC P e n=true:=by
 unfold KK at h;unfold VC;cases ht:tz P e with
 | none=>simp[ht] at h
 | some z =>
  obtain⟨a,b,c⟩:=z;simp only[ht,Ju2,JuZ] at h;simp only[decide_eq_true_eq];split at h
  ·rename_i hc;subst hc;exact⟨by simp,by omega⟩
  ·rename_i hc;have h1:n≤2 ^ 46 / c:=by omega
   have h2:n*c≤2 ^ 46:=(Nat.le_div_iff_mul_le (by omega)).1 h1;have h3:n≤n*c:=Nat.le_mul_of_pos_right n (by omega);exact⟨h2,by omega⟩
theorem Jp9 {v:SV} {k:IntKind} {e:E} (h:Ws v=some (k,e)):γX ρ v = .d (.v (.int k (int ρ e))):=by
 unfold Ws at h;split at h
 ·simp only[JuZ,Jvh] at h;obtain⟨rfl,rfl⟩:=h;rfl
 ·cases h
theorem Y5 {v:SV} {k:IntKind} {e:E} (h:Ws v=some (k,e)):WS (γX ρ v)=some (int ρ e):=by rw[Jp9 h];rfl
theorem Ku (a b:E):bol ρ (.cmp .le a b)=decide (int ρ a≤int ρ b):=rfl
theorem Jn0 (a b:E):bol ρ (.cmp .lt a b)=decide (int ρ a<int ρ b):=rfl
theorem JoA (a b:E):bol ρ (.cmp .eq a b)=decide (int ρ a=int ρ b):=rfl
theorem Jau (n:Int):int ρ (.z n)=n:=rfl
def Jld (op:BinOp) (k:IntKind) (a b:E):SMP SV:=match op with
 | .add=> .ret (.d (.vi k (.bin .add k a b)))
 | .sub=> .ret (.d (.vi k (.bin .sub k a b)))
 | .mul=> .ret (.d (.vi k (.bin .mul k a b)))
 | .quo=>KP (.not (.cmp .eq b (.z 0))) (.ret (.d (.vi k (.bin .quo k a b))))
 | .rem=>KP (.not (.cmp .eq b (.z 0))) (.ret (.d (.vi k (.bin .rem k a b))))
 | .and=> .ret (.d (.vi k (.bin .and k a b)))
 | .or=> .ret (.d (.vi k (.bin .or k a b)))
 | .xor=> .ret (.d (.vi k (.bin .xor k a b)))
 | .eql=> .ret (.d (.vb (.cmp .eq a b)))
 | .neq=> .ret (.d (.vb (.not (.cmp .eq a b))))
 | .lss=> .ret (.d (.vb (.cmp .lt a b)))
 | .leq=> .ret (.d (.vb (.cmp .le a b)))
 | .gtr=> .ret (.d (.vb (.cmp .lt b a)))
 | .geq=> .ret (.d (.vb (.cmp .le b a)))
 | _=> .fail
theorem XV {op:BinOp} {t:TypeId} {x y:Operand} {k:IntKind} {a b:Int} {v:Value} (h:JS P (do eqGuard op t x y (.int k a) (.int k b);binOp op t (.int k a) (.int k b))=some v) (ho:v.oneCell=true) :
  KV (JS P (do eqGuard op t x y (.int k a) (.int k b);binOp op t (.int k a) (.int k b))) = .ret (.d (.v v)):=by
 rw[h];simp only[KV,ho,if_true]
theorem JnZ (op:BinOp) (t:TypeId) (x y:Operand) (k:IntKind) (a b:E):(Jld op k a b).Ok B ρ (γX ρ)
  (KV (JS P (do eqGuard op t x y (.int k (int ρ a)) (.int k (int ρ b));binOp op t (.int k (int ρ a)) (.int k (int ρ b))))):=by
 cases op with
 | add=>exact XV (by simp[eqGuard,binOp,Op.intArith];rfl) rfl
 | sub=>exact XV (by simp[eqGuard,binOp,Op.intArith];rfl) rfl
 | mul=>exact XV (by simp[eqGuard,binOp,Op.intArith];rfl) rfl
 | quo =>
  simp only[Jld];refine QR fun h=>?_;have h:(!decide (int ρ b=0))=true:=h;have h : ¬int ρ b=0:=by simpa using h
  exact XV (by simp[eqGuard,binOp,Op.intDiv,h];rfl) rfl
 | rem =>
  simp only[Jld];refine QR fun h=>?_;have h:(!decide (int ρ b=0))=true:=h;have h : ¬int ρ b=0:=by simpa using h
  exact XV (by simp[eqGuard,binOp,Op.intDiv,h];rfl) rfl
 | and=>exact XV (by simp[eqGuard,binOp,Op.intBits];rfl) rfl
 | or=>exact XV (by simp[eqGuard,binOp,Op.intBits];rfl) rfl
 | xor=>exact XV (by simp[eqGuard,binOp,Op.intBits];rfl) rfl
 | eql=>exact XV (by simp[eqGuard,binOp,Op.intCmp];rfl) rfl
 | neq=>exact XV (by simp[eqGuard,binOp,Op.intCmp];rfl) rfl
 | lss=>exact XV (by simp[eqGuard,binOp,Op.intCmp];rfl) rfl
 | leq=>exact XV (by simp[eqGuard,binOp,Op.intCmp];rfl) rfl
 | gtr=>exact XV (by simp[eqGuard,binOp,Op.intCmp];rfl) rfl
 | geq=>exact XV (by simp[eqGuard,binOp,Op.intCmp];rfl) rfl
 | _=>trivial
def strE:E→Bool
 | .vc (.string _)=>true
 | .da _=>true
 | _=>false
def JqE (P:Program) (op:BinOp) (t:TypeId) (a b:SV):SMP SV:=match a,b with
 | .d (.vi k x),.d (.vi k' y)=>if k=k' then Jld op k x y else .fail
 | .d (.vb x),.d (.vb y)=>match P.underlying t,op with
  | some .bool,.eql=> .ret (.d (.vb (.beq x y)))
  | some .bool,.neq=> .ret (.d (.vb (.not (.beq x y))))
  | _,_=> .fail
 | .d x,.d y=>if strE x&&strE y then match P.underlying t,op with
  | some .string,.add=> .ask (fun n=> .prim .cat [x,y] .d n) 1 fun n=> .ret (.d (.da n))
  | some .string,.eql=> .ask (fun n=> .prim .seq [x,y] .b n) 1 fun n=> .ret (.d (.vb (.v n)))
  | some .string,.neq=> .ask (fun n=> .prim .seq [x,y] .b n) 1 fun n=> .ret (.d (.vb (.not (.v n))))
  | _,_=> .fail
  else .fail
 | _,_=> .fail
theorem Jnu {p:Jpw} {x y r:D} (hp:p = .cat∨p = .seq) (h:Ki p [x,y]=some r) : ∃ a b,x = .v (.string a)∧y = .v (.string b):=by
 rcases hp with rfl | rfl
 all_goals
  cases x with
  | v x=>cases x with
   | string a=>cases y with
    | v y=>cases y with
     | string b=>exact⟨a,b,rfl,rfl⟩
     | _=>simp[Ki] at h
    | _=>simp[Ki] at h
   | _=>simp[Ki] at h
  | _=>simp[Ki] at h
theorem Xl {α β:Type} (f:α→Sem β) :∀x:Sem α,JS P (x >>= f)=(JS P x).bind fun a=>JS P (f a)
 | .pure a=>rfl
 | .program k=>Xl f (k P)
 | .load _ _ _ | .store _ _ _ _ | .new _ _ | .shape _ _ | .freeze _ _ _ | .frozen _ _
 | .getObj _ _ | .setObj _ _ _ | .choose _ _ | .sys _ _ | .mark _ _ | .halt _=>rfl
theorem XS {t:TypeId} {d:TypeDesc} (h:P.underlying t=some d):JS P (underlying t)=some d:=by
 unfold underlying;rw[Xl];show (some P).bind _=_;simp only[Jve,h];rfl
theorem JlC {t:TypeId} (h:P.underlying t=some .bool) (a b:Bool):JS P (Op.equal t (.bool a) (.bool b))=some (a == b):=by
 show JS P (Op.equalIn (9999+1) t (.bool a) (.bool b))=_;unfold Op.equalIn;rw[Xl,XS h];rfl
theorem JpX {t:TypeId} {x y:Operand} {u v:ByteArray} {r:D} (h:Ki .cat [.v (.string u),.v (.string v)]=some r) :
  JS P (do eqGuard .add t x y (.string u) (.string v);binOp .add t (.string u) (.string v))=some (.string (u++v))∧D.v (.string (u++v))=r:=by
 have h:(if u.size+v.size≤2 ^ 62 then some (D.v (.string (u++v))) else none)=some r:=h;split at h
 ·rename_i hz;simp only[JuZ] at h;refine⟨?_,h⟩;show JS P (Op.stringOp .add u v)=_;have : ¬((u.size+v.size:Nat):Int) > i64.max:=by
   have:i64.max=9223372036854775807:=rfl;omega
  simp only[Op.stringOp,this,if_false];rfl
 ·cases h
theorem JpZ (op:BinOp) (t:TypeId) (x y:Operand) (a b:SV):(JqE P op t a b).Ok B ρ (γX ρ)
  (match γX ρ a,γX ρ b with
   | .d (.v a),.d (.v b)=>KV (JS P (do eqGuard op t x y a b;binOp op t a b))
   | _,_=> .fail):=by
 unfold JqE;split
 ·rename_i k a k' b;split
  ·rename_i hk;subst hk;exact JnZ op t x y k a b
  ·trivial
 ·rename_i a b;split
  ·rename_i hu _;show KV (JS P (do eqGuard .eql t x y (.bool (bol ρ a)) (.bool (bol ρ b));binOp .eql t (.bool (bol ρ a)) (.bool (bol ρ b))))=_;have:JS P (do eqGuard .eql t x y (.bool (bol ρ a)) (.bool (bol ρ b));binOp .eql t (.bool (bol ρ a)) (.bool (bol ρ b)))=some (.bool (bol ρ a == bol ρ b)):=by
    show JS P (Op.equal t (Value.bool (bol ρ a)) (Value.bool (bol ρ b)) >>= fun r=>pure (Value.bool r))=_;rw[Xl,JlC (by assumption)];rfl
   rw[this];rfl
  ·rename_i hu _;show KV (JS P (do eqGuard .neq t x y (.bool (bol ρ a)) (.bool (bol ρ b));binOp .neq t (.bool (bol ρ a)) (.bool (bol ρ b))))=_;have:JS P (do eqGuard .neq t x y (.bool (bol ρ a)) (.bool (bol ρ b));binOp .neq t (.bool (bol ρ a)) (.bool (bol ρ b)))=some (.bool (!(bol ρ a == bol ρ b))):=by
    show JS P (Op.equal t (Value.bool (bol ρ a)) (Value.bool (bol ρ b)) >>= fun r=>pure (Value.bool (!r)))=_;rw[Xl,JlC (by assumption)];rfl
   rw[this];rfl
  ·trivial
 ·rename_i a b _ _;split
  ·split
   ·intro n hn;have hn:Ki .cat [dat ρ a,dat ρ b]=some (dat ρ (.da n)):=hn;obtain⟨u,v,ea,eb⟩:=Jnu (.inl rfl) hn;rw[ea,eb] at hn;have hr:=JpX (P:=P) (t:=t) (x:=x) (y:=y) hn;simp only[γX,ea,eb,hr.1];show MP.ret (X.d (.v (.string (u++v))))=MP.ret (X.d (dat ρ (.da n)));rw[hr.2]
   ·intro n hn;have hn:Ki .seq [dat ρ a,dat ρ b]=some (.v (.bool (bol ρ (.v n)))):=hn;obtain⟨u,v,ea,eb⟩:=Jnu (.inr rfl) hn;rw[ea,eb] at hn;have hn:some (D.v (.bool (u.toList == v.toList)))=some (.v (.bool (bol ρ (.v n)))):=hn;simp only[JuZ,D.v.injEq,Value.bool.injEq] at hn;simp only[γX,ea,eb];show MP.ret (X.d (.v (.bool (u.toList == v.toList))))=MP.ret (X.d (.v (.bool (bol ρ (.v n)))));rw[hn]
   ·intro n hn;have hn:Ki .seq [dat ρ a,dat ρ b]=some (.v (.bool (bol ρ (.v n)))):=hn;obtain⟨u,v,ea,eb⟩:=Jnu (.inr rfl) hn;rw[ea,eb] at hn;have hn:some (D.v (.bool (u.toList == v.toList)))=some (.v (.bool (bol ρ (.v n)))):=hn;simp only[JuZ,D.v.injEq,Value.bool.injEq] at hn;simp only[γX,ea,eb];show MP.ret (X.d (.v (.bool (!(u.toList == v.toList)))))=MP.ret (X.d (.v (.bool (!(bol ρ (.v n))))));rw[hn]
   ·trivial
  ·trivial
 ·trivial
def sun (op:UnOp) (a:SV):SMP SV:=match op,a with
 | .neg,.d (.vi k x)=> .ret (.d (.vi k (.bin .sub k (.z 0) x)))
 | .not,.d (.vb x)=> .ret (.d (.vb (match x with | .tt=> .ff | .ff=> .tt | .not y=>y | x=> .not x)))
 | _,_=> .fail
theorem JqC (op:UnOp) (a:SV):(sun op a).Ok B ρ (γX ρ) (match γX ρ a with
  | .d (.v a)=>KV (JS P (Op.unary op a))
  | _=> .fail):=by
 unfold sun;split
 ·rfl
 ·rename_i x;show KV (JS P (Op.unary .not (.bool (bol ρ x))))=_;have:bol ρ (match x with | .tt=> .ff | .ff=> .tt | .not y=>y | x=> .not x) = !bol ρ x:=by
   split <;> simp[bol,den,V.bool]
  show MP.ret (X.d (.v (.bool !(bol ρ x)))) = .ret (X.d (.v (.bool (bol ρ _))));rw[this]
 ·trivial
def Jo3 (P:Program) (s d:TypeId) (a:SV):SMP SV:=match a,P.underlying s,P.underlying d with
 | .d (.vi k x),some _,some (.int k')=> .ret (.d (.vi k' (.cv k' x)))
 | _,_,_=> .fail
theorem JnR (s d:TypeId) (a:SV):(Jo3 P s d a).Ok B ρ (γX ρ) (match γX ρ a with
  | .d (.v a)=>KV (JS P (convert s d a))
  | _=> .fail):=by
 unfold Jo3;split
 ·rename_i k x u k' hs hd;show KV (JS P (convert s d (.int k (int ρ x))))=_;have:JS P (convert s d (.int k (int ρ x)))=some (.int k' (k'.wrap (int ρ x))):=by
   unfold convert;rw[Xl,XS hs,Jve,Xl,XS hd,Jve];cases u <;> rfl
  rw[this];rfl
 ·trivial
def Jfa (z:List Value):List E:=z.map fun v=>(KQ v).norm
theorem JdE (z:List Value) (h:z.all (·.oneCell)=true):(Jfa z).map (dat ρ)=z.map fun v=>(D.v v).norm:=by
 unfold Jfa;rw[List.map_map];refine Jvm fun v hv=>?_;show dat ρ (KQ v).norm=_;rw[Zw (JhD (Jvd.1 h v hv)),JbQ]
theorem JoP (z:List Value):(z.map fun v=>SV.d (KQ v)).map (γX ρ)=z.map fun c=>X.d (.v c):=by
 rw[List.map_map];exact Jvm fun v _=>by simp only[Function.comp,γX,JbQ]
def Jge (k:Key) (ag:Bool) (sz:Nat) (ks:Kds):Nat→List (Nat×SV)→SMP (List E)
 | _,[]=> .ret []
 | i, (j, x) :: rest =>
   match Yx x with
   | some vs=>if vs.length=sz∧j=i∧vs.all JiZ then(Jgp k ks vs).bind fun ds=>match smk ag ds with
       | some d=>(Jge k ag sz ks (i+1) rest).bind fun es=> .ret (d::es)
       | none=> .fail
     else .fail
   | none=> .fail
theorem Jfu {k:Key} {ag:Bool} {sz:Nat} {ks:Kds} :∀(ps:List (Nat×SV)) (i:Nat),(Jge k ag sz ks i ps).Ok B ρ (fun l=>l.map (dat ρ)) (Jex k ag sz ks i (ps.map fun p=>(p.1,γX ρ p.2)))
 | [],i=>rfl
 | (j,x)::rest,i=>by
  simp only[Jge,Ju8,Jex];cases hc:Yx x with
  | none=>trivial
  | some vs =>
   simp only[Ub hc,Ju9];split
   ·rename_i hh;rw[if_pos ⟨hh.1,hh.2.1,VD hh.2.2 ρ⟩];refine SMP.bind_ok (f:=fun l=>l.map (dat ρ)) (fun ds=>?_) _ _ (JbG k _ vs);cases hm:smk ag ds with
    | none=>trivial
    | some d =>
     simp only[JdW hm];refine SMP.bind_ok (f:=fun l=>l.map (dat ρ)) (fun es=>?_) _ _ (Jfu rest (i+1));rfl
   ·trivial
def VI (P : Program) (dp : Bool) (key : Key) (t : TypeId) (n : Nat) (ps : List (Nat × SV)) : SMP SV := match J6 P t with
  | some e=>match QX P e,U4 P e,QH P e with
    | some sz,some ag,some z=>match smk ag (Jfa z) with
      | some zd=>if n*sz≤2 ^ 24∧z.length=sz∧0<sz∧z.all (·.oneCell) then
          if Vy P dp e z&&ps.length == n&&n != 0 then
            .new key (.arr e sz .nil true true) ((Jge key ag sz (QJ P e) 0 ps).bind fun es=> .put key (.arr e sz (J9 es) true true) (.ret (.o key (J9 es))))
          else(Jgo ag sz (List.replicate n zd) true ps).bind fun es =>
            .new key (.arr e sz (J9 es.1) false true) (.ret (.o key (J9 es.1)))
        else .fail
      | none=> .fail
    | _,_,_=> .fail
  | none=> .fail
theorem JdC {ag:Bool} {sz:Nat} :∀(ps:List (Nat×SV)) (es:List E) (dp:Bool) {f:List E×Bool→SMP SV} {g:List D×Bool→MP X},
  (∀r:List E×Bool,r.1.length=es.length→(f r).Ok B ρ (γX ρ) (g (fLB ρ r)))→((Jgo ag sz es dp ps).bind f).Ok B ρ (γX ρ) ((Jeq ag sz (es.map (dat ρ)) dp (ps.map fun p=>(p.1,γX ρ p.2))).bind g)
 | [],es,dp,f,g,h=>h (es,dp) rfl
 | (i,x)::rest,es,dp,f,g,h=>by
  simp only[Jgo,Ju8,Jeq];cases hc:Yx x with
  | none=>trivial
  | some vs =>
   simp only[Ub hc,Ju9];split
   ·rename_i hh;rw[if_pos ⟨hh.1,hh.2.1,VD hh.2.2 ρ⟩];have assocS :∀{α β γ:Type} (p:SMP α) (f:α→SMP β) (g:β→SMP γ),(p.bind f).bind g=p.bind fun a=>(f a).bind g:=by
     intro α β γ p f g
     induction p with
     | ret a=>rfl
     | fail=>rfl
     | get k c ih=>simp only[SMP.bind];congr 1;funext o;exact ih o
     | put k o c ih=>simp only[SMP.bind];rw[ih]
     | new k o c ih=>simp only[SMP.bind];rw[ih]
     | ask i m c ih=>simp only[SMP.bind];congr 1;funext o;exact ih o
    have assoc :∀{α β γ:Type} (p:MP α) (f:α→MP β) (g:β→MP γ),(p.bind f).bind g=p.bind fun a=>(f a).bind g:=by
     intro α β γ p f g
     induction p with
     | ret a=>rfl
     | fail=>rfl
     | get k c ih=>simp only[MP.bind];congr 1;funext o;exact ih o
     | put k o c ih=>simp only[MP.bind];rw[ih]
     | new k o c ih=>simp only[MP.bind];rw[ih]
    rw[assocS,assoc];refine SMP.bind_ok (f:=fLB ρ) (fun ds=>?_) _ _ (Va vs);cases hm:smk ag ds.1 with
    | none=>trivial
    | some d =>
     simp only[fLB,JdW hm];have:=JdC (ag:=ag) (sz:=sz) rest (es.set i d) (dp&&ds.2) (f:=f) (g:=g) fun r hr=>h r (by simpa using hr);rw[List.map_set] at this;exact this
   ·trivial
theorem Jd7 (dp:Bool) (key:Key) (t:TypeId) (n:Nat) (ps:List (Nat×SV)):(VI P dp key t n ps).Ok B ρ (γX ρ) (match J6 P t with
  | some e=>match QX P e,U4 P e,QH P e with
   | some sz,some ag,some z=>match D.mk ag (z.map fun v=>(D.v v).norm) with
    | some zd=>if n*sz≤2 ^ 24∧z.length=sz∧0<sz∧z.all (·.oneCell) then
      if Vy P dp e z&&ps.length == n&&n != 0 then
      .new key (.arr e sz [] true true) ((Jex key ag sz (QJ P e) 0 (ps.map fun p=>(p.1,γX ρ p.2))).bind fun es =>
       .put key (.arr e sz es true true) (.ret (.o key es.length)))
      else(Jeq ag sz (List.replicate n zd) true (ps.map fun p=>(p.1,γX ρ p.2))).bind fun es =>
       .new key (.arr e sz es.1 false true) (.ret (.o key n))
     else .fail
    | none=> .fail
   | _,_,_=> .fail
  | none=> .fail):=by
 unfold VI;split
 ·rename_i e he;split
  ·rename_i sz ag z h1 h2 h3;cases hz:smk ag (Jfa z) with
   | none=>trivial
   | some zd =>
    simp only;split
    ·rename_i hc;have hmk:=JdW hz ρ;rw[JdE z hc.2.2.2] at hmk;simp only[hmk];split
     ·refine⟨_,rfl,?_⟩;refine SMP.bind_ok (f:=fun l=>l.map (dat ρ)) (fun es=>?_) _ _ (Jfu ps 0);refine⟨_,by rw[γO,JI],?_⟩;simp only[SMP.Ok,γX,JI]
     rw[←List.map_replicate];refine JdC ps _ true fun r hr=>?_;refine⟨_,by rw[γO,JI];rfl,?_⟩;simp only[SMP.Ok,γX,JI,Ju9,hr,List.length_replicate]
    ·trivial
  ·trivial
 ·trivial
def Jm5 (n x:E):E:=match n with
 | .z m=>if 0≤m∧m≤64 then J9 (List.replicate m.toNat x) else .rep n x
 | _=> .rep n x
theorem JcE (n x:E):lst ρ (Jm5 n x)=List.replicate (int ρ n).toNat (dat ρ x):=by
 unfold Jm5;split
 ·split
  ·rw[JI,List.map_replicate];rfl
  ·rfl
 ·rfl
def WI (P : Program) (dp : Bool) (key : Key) (t : TypeId) (l c : SV) : SMP SV := match J6 P t,Ws l,Ws c with
  | some e,some (_,l),some (_,c)=>match QX P e,U4 P e,QH P e with
    | some sz,some ag,some z=>match smk ag (Jfa z),KK P e with
      | some zd,some m=>if l.same c∧z.length=sz∧0<sz∧z.all (·.oneCell) then
          KP (.cmp .le (.z 0) l) (KP (.cmp .le l (.z m)) (.new key (.arr e sz (Jm5 l zd) (Vy P dp e z) true) (.ret (.o key (Jm5 l zd)))))
        else .fail
      | _,_=> .fail
    | _,_,_=> .fail
  | _,_,_=> .fail
theorem JeL (dp:Bool) (key:Key) (t:TypeId) (l c:SV):(WI P dp key t l c).Ok B ρ (γX ρ) (match J6 P t,WS (γX ρ l),WS (γX ρ c) with
  | some e,some l,some c=>match QX P e,U4 P e,QH P e with
   | some sz,some ag,some z=>match D.mk ag (z.map fun v=>(D.v v).norm) with
    | some zd=>if 0≤l∧l=c∧VC P e l.toNat∧z.length=sz∧0<sz∧z.all (·.oneCell) then
      .new key (.arr e sz (List.replicate l.toNat zd) (Vy P dp e z) true) (.ret (.o key l.toNat))
     else .fail
    | none=> .fail
   | _,_,_=> .fail
  | _,_,_=> .fail):=by
 unfold WI;split
 ·rename_i e kl l' kc c' he hl hc;rw[Y5 hl,Y5 hc,he];simp only;split
  ·rename_i sz ag z h1 h2 h3;split
   ·rename_i zd m hz hm;split
    ·rename_i hcond;have hmk:=JdW hz ρ;rw[JdE z hcond.2.2.2] at hmk;simp only[hmk];refine QR fun h0=>QR fun h4=>?_;rw[Ku,decide_eq_true_eq,Jau] at h0 h4;have hlc:int ρ l'=int ρ c':=by unfold int;rw[Wo _ _ hcond.1]
     rw[if_pos ⟨h0,hlc,Wb hm (by omega),hcond.2⟩];refine⟨_,by rw[γO,JcE],?_⟩;simp only[SMP.Ok,γX,JcE,List.length_replicate]
    ·trivial
   ·trivial
  ·trivial
 ·trivial
def Jop (v:SV):Bool:=match v with
 | .d (.vc (.slice none 0 0))=>true
 | _=>false
theorem JoN {v:SV} (h:Jop v=true):γX ρ v = .d (.v (.slice none 0 0)):=by
 unfold Jop at h;split at h
 ·rfl
 ·cases h
def Jc6 (P:Program) (key:Key) (t t':TypeId) (a b:SV):SMP SV:=match P.underlying t' with
 | some (.int _) => if Jop a then match J6 P t,Ws b with
   | some e,some (_,l)=>match QX P e,U4 P e,QH P e with
     | some sz,some ag,some z=>match smk ag (Jfa z),KK P e with
       | some zd,some m=>if z.length=sz∧0<sz∧z.all (·.oneCell) then
           KP (.cmp .lt (.z 0) l) (KP (.cmp .le l (.z m)) (.new key (.arr e sz (Jm5 l zd) false true) (.ret (.o key (Jm5 l zd)))))
         else .fail
       | _,_=> .fail
     | _,_,_=> .fail
   | _,_=> .fail
   else .fail
 | _=> .fail
theorem Jjm {o:Oper} (t t':TypeId) (a b:SV):(Jc6 P (JA o) t t' a b).Ok B ρ (γX ρ) (Ja3 P o t t' (γX ρ a) (γX ρ b)):=by
 unfold Jc6;split
 ·rename_i kx hkx;split
  ·rename_i ha;split
   ·rename_i e kl l' he hl;unfold Ja3;rw[JoN ha,hkx];simp only;rw[Y5 hl,he];simp only;split
    ·rename_i sz ag z h1 h2 h3;split
     ·rename_i zd m hz hm;split
      ·rename_i hcond;have hmk:=JdW hz ρ;rw[JdE z hcond.2.2] at hmk;rw[h1,h2,h3];simp only[hmk];refine QR fun h0=>QR fun h4=>?_;rw[Ku,decide_eq_true_eq] at h4;rw[Jn0,decide_eq_true_eq] at h0;rw[Jau] at h0 h4;rw[if_pos ⟨h0,Wb hm (by omega),hcond⟩];refine⟨_,by rw[γO,JcE],?_⟩;simp only[SMP.Ok,γX,JcE,List.length_replicate]
      ·trivial
     ·trivial
    ·trivial
   ·trivial
  ·trivial
 ·trivial
def JnQ (P:Program) (key:Key) (t:TypeId) (x:SV) (lo hi mx:Option SV):SMP SV:=match lo,hi,mx with
 | none,some hv,none=>match Ws hv,J6 P t with
  | some (_,h),some e=>if(QX P e).isSome then match x with
   | .d (.s l)=>KP (.cmp .le (.z 0) h) (KP (.cmp .le h (JaN l)) (.ret (.d (.s (.take l h)))))
   | .o k l=> .get k fun
    | .arr ty sz l' _ true=>if l.lsame l' then KP (.cmp .le (.z 0) h) (KP (.cmp .le h (JaN l'))
     (.put k .dead (.new key (.arr ty sz (.take l' h) false true) (.ret (.o key (.take l' h)))))) else .fail
    | _=> .fail
   | .d (.vc (.slice none 0 0))=>match h with
    | .z 0=> .ret (.d (.vc (.slice none 0 0)))
    | _=> .fail
   | _=> .fail
   else .fail
  | _,_=> .fail
 | _,_,_=> .fail
def Jqq (P:Program) (key:Key) (t:TypeId) (x:SV) (lo hi:Option SV) (mx:SV):SMP SV:=match lo,hi with
 | none,some hv=>match Ws hv,Ws mx,J6 P t with
  | some (_,h),some (_,q),some e=>if(QX P e).isSome then match x with
   | .o k l=> .get k fun
    | .arr ty sz l' dp true=>if l.lsame l' then KP (.cmp .eq h (JaN l')) (KP (.cmp .eq q (JaN l'))
     (.put k .dead (.new key (.arr ty sz l' dp true) (.ret (.o key l'))))) else .fail
    | _=> .fail
   | _=> .fail
   else .fail
  | _,_,_=> .fail
 | _,_=> .fail
theorem Jpc {o:Oper} (t:TypeId) (x:SV) (lo hi:Option SV) (mx:SV):(Jqq P (JA o) t x lo hi mx).Ok B ρ (γX ρ) (Jlf P o t (γX ρ x) (lo.map (γX ρ)) (hi.map (γX ρ)) (γX ρ mx)):=by
 cases lo with
 | some _=>trivial
 | none =>
 cases hi with
 | none=>trivial
 | some hv =>
 show SMP.Ok B ρ (γX ρ) (match Ws hv,Ws mx,J6 P t with
  | some (_,h),some (_,q),some e=>if(QX P e).isSome then _ else .fail
  | _,_,_=> .fail) _
 cases hh:Ws hv with
 | none=>trivial
 | some kh =>
  obtain⟨kh,h⟩:=kh;cases hq:Ws mx with
  | none=>trivial
  | some kq =>
   obtain⟨kq,q⟩:=kq;cases he:J6 P t with
   | none=>trivial
   | some e =>
    simp only;have hix:=Y5 (ρ:=ρ) hh;have hiq:=Y5 (ρ:=ρ) hq;split
    ·rename_i hsz;cases x with
     | o k l =>
      simp only[γX,Jlf,Option.map_none,Ju2,hix,hiq,he];refine⟨_,rfl,fun ob=>?_⟩;cases ob with
      | arr ty sz l' dp rw =>
       cases rw with
       | false=>trivial
       | true =>
        simp only[γO];split
        ·rename_i hl;refine QR fun h0=>QR fun h4=>?_;rw[JoA,decide_eq_true_eq,Zq] at h0;rw[JoA,decide_eq_true_eq,Zq] at h4;rw[if_pos ⟨lL1 hl ρ,h0,h4,hsz⟩];refine⟨_,rfl,_,rfl,?_⟩;show MP.ret _=MP.ret (X.o _ (lst ρ l').length);rw[lL1 hl ρ]
        ·trivial
      | _=>trivial
     | _=>trivial
    ·trivial
theorem JlV {o:Oper} (t:TypeId) (x:SV) (lo hi mx:Option SV):(JnQ P (JA o) t x lo hi mx).Ok B ρ (γX ρ) (UC P o t (γX ρ x) (lo.map (γX ρ)) (hi.map (γX ρ)) (mx.map (γX ρ))):=by
 cases lo with
 | some _=>trivial
 | none =>
 cases hi with
 | none=>trivial
 | some hv =>
 cases mx with
 | some _=>trivial
 | none =>
 show SMP.Ok B ρ (γX ρ) (match Ws hv,J6 P t with
  | some (_,h),some e=>if(QX P e).isSome then _ else .fail
  | _,_=> .fail) _
 cases hh:Ws hv with
 | none=>trivial
 | some kh =>
  obtain⟨kh,h⟩:=kh;cases he:J6 P t with
  | none=>trivial
  | some e =>
   simp only;have hix:=Y5 (ρ:=ρ) hh;split
   ·rename_i hsz;cases x with
    | d e' =>
     cases e' with
     | s l =>
      refine QR fun h0=>QR fun h4=>?_;rw[Ku,decide_eq_true_eq,Jau] at h0;rw[Ku,decide_eq_true_eq,Zq] at h4;show UC P o t (.d (.s (lst ρ l))) none (some (γX ρ hv)) none=_;simp only[UC,Ju2,hix,he];rw[if_pos ⟨h0,h4,hsz⟩];rfl
     | vc v =>
      split <;> rename_i heq <;> try trivial
      all_goals try (cases heq;done)
      cases heq;split
      ·show UC P o t (.d (.v (.slice none 0 0))) none (some (γX ρ hv)) none=_;simp only[UC,Ju2,hix,he];rw[if_pos ⟨rfl,hsz⟩];rfl
      ·trivial
     | _=>trivial
    | o k l =>
     simp only[γX,UC,Option.map_none,Ju2,hix,he];refine⟨_,rfl,fun ob=>?_⟩;cases ob with
     | arr ty sz l' dp rw =>
      cases rw with
      | false=>trivial
      | true =>
       simp only[γO];split
       ·rename_i hl;refine QR fun h0=>QR fun h4=>?_;rw[Ku,decide_eq_true_eq,Jau] at h0;rw[Ku,decide_eq_true_eq,Zq] at h4;rw[if_pos ⟨lL1 hl ρ,h0,h4,hsz⟩];refine⟨_,rfl,_,rfl,?_⟩;show MP.ret _=MP.ret (X.o _ ((lst ρ l').take (int ρ h).toNat).length);rw[Jvf,Nat.min_eq_left (by omega)]
       ·trivial
     | _=>trivial
    | _=>trivial
   ·trivial
def WM (P:Program) (t:TypeId) (x:SV) (i:Nat):SMP SV:=match Z9 P t i with
 | some (off,n)=>if n=0 then .fail else match x with
  | .p k off'=> .ret (.p k (off'+off))
  | .e k l j off'=> .get k fun
   | .arr _ _ l' _ _=>if l.lsame l' then .ret (.e k l j (off'+off)) else .fail
   | _=> .fail
  | .d (.q l)=>match l.list with
   | some cs=>if off<cs.length then .ret (.d (.q (J9 (cs.drop off)))) else .fail
   | none=> .fail
  | .d (.da a)=>match JdA P 8 t with
   | some as=>if off<as.length then .ask (fun n=> .get (.da a) (.q as) n) as.length fun n=> .ret (.d (.q (J9 ((JB as n).drop off)))) else .fail
   | none=> .fail
  | _=> .fail
 | none=> .fail
theorem JeT (t:TypeId) (x:SV) (i:Nat):(WM P t x i).Ok B ρ (γX ρ) (match Z9 P t i with
  | some (off,n)=>if n=0 then .fail else match γX ρ x with
   | .p k off'=> .ret (.p k (off'+off))
   | .e k n' j off'=> .get k fun
    | .arr _ _ es _ _=>if n'=es.length then .ret (.e k n' j (off'+off)) else .fail
    | _=> .fail
   | .d (.q cs)=>if off<cs.length then .ret (.d (.q (cs.drop off))) else .fail
   | _=> .fail
  | none=> .fail):=by
 unfold WM;cases hf:Z9 P t i with
 | none=>trivial
 | some p =>
  obtain⟨off,n⟩:=p;simp only;split
  ·trivial
  ·rename_i hn;cases x with
   | p k off'=>rfl
   | e k l j off' =>
    refine⟨_,rfl,fun o=>?_⟩;cases o with
    | arr ty sz l' dp rw =>
     simp only[γO];split
     ·rename_i hl;rw[if_pos (lL1 hl ρ)];rfl
     ·trivial
    | _=>trivial
   | d e =>
    cases e with
    | q l =>
     simp only;split
     ·rename_i cs hl;split
      ·rename_i hlt;show (if off<(lst ρ l).length then MP.ret (X.d (.q ((lst ρ l).drop off))) else .fail)=_;rw[YN ρ _ _ hl,if_pos (by simpa using hlt)];show _=MP.ret (X.d (.q (lst ρ (J9 (cs.drop off)))));rw[JI,List.map_drop]
      ·trivial
     ·trivial
    | da a =>
     simp only;split
     ·rename_i as has;split
      ·rename_i hlt;intro n' hn';simp only[I.holds,Sh.expr] at hn';simp only[γX,hn'];show (if off<(lst ρ (J9 (JB as n'))).length then MP.ret (X.d (.q ((lst ρ (J9 (JB as n'))).drop off))) else .fail)=_;rw[JI,if_pos (by simpa[Xe] using hlt)];show _=MP.ret (X.d (.q (lst ρ (J9 ((JB as n').drop off)))));rw[JI,List.map_drop]
      ·trivial
     ·trivial
    | _=>trivial
   | _=>trivial
def Jaa (P:Program) (t:TypeId) (x i:SV):SMP SV:=match J6 P t,Ws i with
 | some e,some (_,j)=>match QX P e,x with
  | some sz,.d (.s l)=>match Ji5 P e with
   | some (.q _)=> .fail
   | some sh=>if sh.size=sz then .ask (fun n=> .idx l j sh n) sh.size fun n=> .ret (.d (.q (J9 (sh.cells n)))) else .fail
   | none=> .fail
  | some sz,.o k l=>KP (.cmp .le (.z 0) j) (KP (.cmp .lt j (JaN l)) (.get k fun
   | .arr ty sz' l' _ _=>if l.lsame l'∧ty=e∧sz'=sz then .ret (.e k l j 0) else if ty=e∧sz'=sz then KP (.cmp .eq (.len l) (.len l')) (.ret (.e k l' j 0)) else .fail
   | _=> .fail))
  | _,_=> .fail
 | _,_=> .fail
theorem Jgc (sh:Sh) (hq :∀as,sh≠ .q as) (n:Nat):(sh.cells n).length=sh.size:=by
 cases sh with
 | one a=>rfl
 | g as=>exact Xe as n
 | q as=>exact absurd rfl (hq as)
theorem JeR (t:TypeId) (x i:SV):(Jaa P t x i).Ok B ρ (γX ρ) (match J6 P t,WS (γX ρ i) with
  | some e,some j=>match QX P e,γX ρ x with
   | some sz,.d (.s es)=>if 0≤j then match es[j.toNat]? with
     | some e=>if e.cells.length=sz then .ret (.d (.q e.cells)) else .fail
     | none=> .fail
    else .fail
   | some sz,.o k n=>if 0≤j∧j<n then .get k fun
     | .arr ty sz' es _ _=>if n=es.length∧ty=e∧sz'=sz then .ret (.e k n j.toNat 0) else .fail
     | _=> .fail
    else .fail
   | _,_=> .fail
  | _,_=> .fail):=by
 unfold Jaa;split
 ·rename_i e kj j he hj;rw[Y5 hj,he];simp only;cases hsz:QX P e with
  | none=>trivial
  | some sz =>
   cases x with
   | d ex =>
    cases ex with
    | s l =>
     simp only;cases hs:Ji5 P e with
     | none=>trivial
     | some sh =>
      have key :∀hq :∀as,sh≠ .q as,SMP.Ok B ρ (γX ρ) (if sh.size=sz then .ask (fun n=> .idx l j sh n) sh.size fun n=> .ret (.d (.q (J9 (sh.cells n)))) else .fail)
        (if 0≤int ρ j then match (lst ρ l)[(int ρ j).toNat]? with
         | some e=>if e.cells.length=sz then .ret (X.d (.q e.cells)) else .fail
         | none=> .fail
        else .fail):=by
       intro hq;split
       ·rename_i hsize;intro n hn;obtain⟨h0,h1⟩:=hn;rw[if_pos h0,h1];simp only[JhI hq,Ju9,Jgc sh hq,hsize,if_true,SMP.Ok,γX];show _=MP.ret (X.d (.q (lst ρ (J9 (sh.cells n)))));rw[JI]
       ·trivial
      cases sh with
      | q as=>trivial
      | one a=>exact key (fun as h=>by cases h)
      | g as=>exact key (fun as h=>by cases h)
    | _=>trivial
   | o k l =>
    refine QR fun h0=>QR fun h1=>?_;rw[Ku,decide_eq_true_eq,Jau] at h0;rw[Jn0,decide_eq_true_eq,Zq] at h1;simp only[γX];rw[if_pos ⟨h0,h1⟩];refine⟨_,rfl,fun o=>?_⟩;cases o with
    | arr ty sz' l' dp rw =>
     simp only[γO];split
     ·rename_i hc;rw[if_pos ⟨lL1 hc.1 ρ,hc.2⟩];rfl
     ·split
      ·rename_i hc;refine QR fun hl=>?_;have hl:decide (((lst ρ l).length:Int)=((lst ρ l').length:Int))=true:=hl;have hl:(lst ρ l).length=(lst ρ l').length:=by
        have:((lst ρ l).length:Int)=((lst ρ l').length:Int):=by simpa using hl
        omega
       rw[if_pos ⟨hl,hc⟩];simp only[SMP.Ok,γX,hl]
      ·trivial
    | _=>trivial
   | _=>trivial
 ·trivial
def Jkj (P:Program) (t:TypeId) (x:SV) (i:Nat):SMP SV:=match Z9 P t i,Vk P t i,x with
 | some (off,n),some true,.g cs=> .ret (.g ((cs.drop off).take n))
 | some (off,_),some false,.g cs=>match cs[off]? with
  | some c=> .ret c
  | none=> .fail
 | _,_,_=> .fail
theorem JmR (t:TypeId) (x:SV) (i:Nat):(Jkj P t x i).Ok B ρ (γX ρ) (match Z9 P t i,Vk P t i,γX ρ x with
  | some (off,n),some true,.g cs=> .ret (.g ((cs.drop off).take n))
  | some (off,_),some false,.g cs=>match cs[off]? with
   | some c=> .ret c
   | none=> .fail
  | _,_,_=> .fail):=by
 unfold Jkj;split
 ·rename_i off n cs h1 h2;rw[h1,h2];simp only[γX,Jx,SMP.Ok,List.map_take,List.map_drop]
 ·rename_i off n cs h1 h2;rw[h1,h2];simp only[γX,Jx,Jvl];cases hc:cs[off]? with
  | none=>trivial
  | some c=>rfl
 ·trivial
def Jg5:SV→SMP (E×Bool)
 | .d (.s l)=> .ret (l,false)
 | .d (.vc (.slice none 0 0))=> .ret (.nil,true)
 | .o k l=> .get k fun
  | .arr _ _ l' dp rw=>if l.lsame l'∧(dp&&rw)=false then .ret (l',false) else .fail
  | _=> .fail
 | _=> .fail
def fEB (ρ:Env) (p:E×Bool):List D×Bool:=(lst ρ p.1,p.2)
theorem JkC (v:SV):(Jg5 v).Ok B ρ (fEB ρ) (Jgy (γX ρ v)):=by
 unfold Jg5;split
 ·rfl
 ·rfl
 ·refine⟨_,rfl,fun o=>?_⟩;cases o with
  | arr ty sz l' dp rw =>
   simp only[γO];split
   ·rename_i h;rw[if_pos ⟨lL1 h.1 ρ,by simp[h.2]⟩];rfl
   ·trivial
  | _=>trivial
 ·trivial
def Kp (P : Program) (key : Key) (t : TypeId) (a b : SV) : SMP SV := match J6 P t with
  | none=> .fail
  | some e => match QX P e,KK P e with
    | some sz,some m=>if 0<sz∧(QH P e).map (·.length)=some sz then(Jg5 b).bind fun f=>KP (.cmp .le (JaN f.1) (.z m)) (JoX sz f.1 (match a with
        | .d (.vc (.slice none 0 0))=>match f.1 with
          | .cons x l=> .new key (.arr e sz (.cons x l) false true) (.ret (.o key (.cons x l)))
          | _=> .fail
        | .o k l=> .get k fun
          | .arr ty sz' l' false true=>if l.lsame l'∧ty=e∧sz'=sz then
              KP (.cmp .le (JaN (.app l' f.1)) (.z m)) (.put k (.arr e sz (.app l' f.1) false true) (.ret (.o k (.app l' f.1))))
            else .fail
          | _=> .fail
        | _=> .fail))
      else .fail
    | _,_=> .fail
def Jc8 (P:Program) (key:Key) (t:TypeId) (a b:SV) (k j:Key) (l l2:E) (o1 o2:Ji):SMP SV:=match o1,o2 with
 | .arr ty sz l' true true,.arr ty' sz' f true true=>match J6 P t with
  | some e=>match KK P e,f with
   | some m,.cons x r=>if l.lsame l'∧l2.lsame (.cons x r)∧ty=e∧ty'=e∧sz'=sz∧QX P e=some sz∧(QH P e).map (·.length)=some sz then
     KP (.cmp .le (JaN (.app l' (.cons x r))) (.z m)) (.put j .dead (.put k (.arr e sz (.app l' (.cons x r)) true true) (.ret (.o k (.app l' (.cons x r))))))
    else .fail
   | _,_=> .fail
  | none=> .fail
 | _,_=>Kp P key t a b
def Jdm (P:Program) (key:Key) (t:TypeId) (a b:SV) (j:Key) (l2:E) (o2:Ji):SMP SV:=match o2 with
 | .arr ty' sz' f true true=>match J6 P t with
  | some e=>match KK P e,f with
   | some m,.cons x r=>if l2.lsame (.cons x r)∧ty'=e∧QX P e=some sz'∧(QH P e).map (·.length)=some sz' then
     KP (.cmp .le (JaN (.cons x r)) (.z m)) (.new key (.arr e sz' .nil true true) (.put j .dead (.put key (.arr e sz' (.cons x r) true true) (.ret (.o key (.cons x r))))))
    else .fail
   | _,_=> .fail
  | none=> .fail
 | _=>Kp P key t a b
def Jg2 (P:Program) (dp:Bool) (key:Key) (t:TypeId) (a b:SV):SMP SV:=match a,b with
 | .o k l,.o j l2=>if k=j then Kp P key t a b else .get k fun o1=> .get j fun o2=>Jc8 P key t a b k j l l2 o1 o2
 | .d (.vc (.slice none 0 0)),.o j l2=>if dp=true then .get j fun o2=>Jdm P key t a b j l2 o2 else Kp P key t a b
 | .d _,.o _ _=> .fail
 | _,_=>Kp P key t a b
end
end Go.Tm
end
section
namespace Go.Tm
open Go.IntKind (i64)
section
variable {B:Tb} {ρ:Env} {sg:FuncId→Option Sig} {P:Program} {G:Qh}
theorem Vu {o:Oper} (t:TypeId) (a b:SV):(Kp P (JA o) t a b).Ok B ρ (γX ρ) (XZ P o t (γX ρ a) (γX ρ b)):=by
 unfold Kp XZ;cases he:J6 P t with
 | none=>trivial
 | some e =>
  simp only;cases hsz:QX P e with
  | none=>trivial
  | some sz =>
   cases hm:KK P e with
   | none=>trivial
   | some m =>
    simp only;split
    ·rename_i hc;refine SMP.bind_ok (f:=fEB ρ) (fun f=>?_) _ _ (JkC b);obtain⟨fl,fb⟩:=f;refine QR fun h1=>Jn9 fun h2=>?_;rw[Ku,decide_eq_true_eq,Zq,Jau] at h1;have h1:((lst ρ fl).length:Int)≤m:=h1;have hcond:VC P e (fEB ρ (fl,fb)).1.length=true∧Yf sz (fEB ρ (fl,fb)).1=true∧0<sz∧(QH P e).map (·.length)=some sz :=
      ⟨Wb hm (by show (lst ρ fl).length≤m;omega),h2,hc.1,hc.2⟩
     rw[if_pos hcond];split
     ·split
      ·rename_i x l hfl;have hfl:fl = .cons x l:=hfl;subst hfl;have hne : ¬(fEB ρ (E.cons x l,fb)).1=[]:=by
        show ¬(dat ρ x::lst ρ l)=[];simp
       show SMP.Ok B ρ (γX ρ) _ (if(fEB ρ (E.cons x l,fb)).1=[] then _ else _);rw[if_neg hne];exact⟨_,rfl,rfl⟩
      ·trivial
     ·rename_i k l;refine⟨_,rfl,fun ob=>?_⟩;cases ob with
      | arr ty sz' l' dp rw =>
       cases rw with
       | false=>cases dp <;> trivial
       | true =>
        cases dp with
        | true=>trivial
        | false =>
         simp only[γO];split
         ·rename_i hh;refine QR fun h3=>?_;rw[Ku,decide_eq_true_eq,Zq,Jau] at h3;have h3:((lst ρ (.app l' fl)).length:Int)≤m:=h3;have hlen:(lst ρ (.app l' fl)).length=(lst ρ l').length+(lst ρ fl).length:=by
           show (lst ρ l'++lst ρ fl).length=_;simp
          have hcond2:(lst ρ l).length=(lst ρ l').length∧ty=e∧sz'=sz∧VC P e ((lst ρ l).length+(fEB ρ (fl,fb)).1.length)=true :=
           ⟨lL1 hh.1 ρ,hh.2.1,hh.2.2,by rw[lL1 hh.1 ρ];exact Wb hm (by show (lst ρ l').length+(lst ρ fl).length≤m;omega)⟩
          rw[if_pos hcond2];refine⟨_,rfl,?_⟩;show MP.ret (X.o k ((lst ρ l).length+(lst ρ fl).length))=_;simp only[SMP.Ok,γX,hlen,lL1 hh.1 ρ]
         ·trivial
      | _=>trivial
     ·trivial
    ·trivial
theorem JhM {o:Oper} (t:TypeId) (a b:SV) (k j:Key) (l l2:E) (o1 o2:Ji):(Jc8 P (JA o) t a b k j l l2 o1 o2).Ok B ρ (γX ρ) (match γO ρ o1,γO ρ o2 with
  | .arr ty sz es true true,.arr ty' sz' fs true true=>match J6 P t with
   | some e=>if(lst ρ l).length=es.length∧(lst ρ l2).length=fs.length∧ty=e∧ty'=e∧sz'=sz∧QX P e=some sz∧fs≠[]∧VC P e ((lst ρ l).length+(lst ρ l2).length)∧(QH P e).map (·.length)=some sz then
     .put j .dead (.put k (.arr e sz (es++fs) true true) (.ret (.o k ((lst ρ l).length+(lst ρ l2).length))))
    else .fail
   | none=> .fail
  | _,_=>XZ P o t (γX ρ a) (γX ρ b)):=by
 have h0:=Vu (B:=B) (ρ:=ρ) (P:=P) (o:=o) t a b;cases o1 with
 | arr ty sz l' dp rw=>cases o2 with
  | arr ty' sz' f dp' rw' =>
   cases dp <;> cases rw <;> cases dp' <;> cases rw' <;> first | exact h0 | skip
   simp only[γO,Jc8];cases he:J6 P t with
   | none=>trivial
   | some e =>
    simp only;split
    ·rename_i m x r hm;split
     ·rename_i hc;refine QR fun h3=>?_;rw[Ku,decide_eq_true_eq,Zq,Jau] at h3;have h3:((lst ρ (.app l' (.cons x r))).length:Int)≤m:=h3;have hlen:(lst ρ (.app l' (.cons x r))).length=(lst ρ l').length+(lst ρ (.cons x r)).length:=by
       show (lst ρ l'++lst ρ (.cons x r)).length=_;simp
      have hl1:=lL1 hc.1 ρ;have hl2:=lL1 hc.2.1 ρ;have hne:lst ρ (.cons x r)≠[]:=by
       show dat ρ x::lst ρ r≠[];simp
      rw[if_pos ⟨hl1,hl2,hc.2.2.1,hc.2.2.2.1,hc.2.2.2.2.1,hc.2.2.2.2.2.1,hne,Wb hm (by rw[hl1,hl2];omega),hc.2.2.2.2.2.2⟩];refine⟨_,rfl,⟨_,rfl,?_⟩⟩;simp only[SMP.Ok,γX,hlen,hl1,hl2]
     ·trivial
    ·trivial
  | _=>cases dp <;> cases rw <;> exact h0
 | _=>exact h0
theorem Jjb {o:Oper} (t:TypeId) (a b:SV) (j:Key) (l2:E) (o2:Ji):(Jdm P (JA o) t a b j l2 o2).Ok B ρ (γX ρ) (match γO ρ o2 with
  | .arr ty' sz' fs true true=>match J6 P t with
   | some e=>if(lst ρ l2).length=fs.length∧ty'=e∧QX P e=some sz'∧fs≠[]∧VC P e (lst ρ l2).length∧(QH P e).map (·.length)=some sz' then
     .new (JA o) (.arr e sz' [] true true) (.put j .dead (.put (JA o) (.arr e sz' fs true true) (.ret (.o (JA o) (lst ρ l2).length))))
    else .fail
   | none=> .fail
  | _=>XZ P o t (γX ρ a) (γX ρ b)):=by
 have h0:=Vu (B:=B) (ρ:=ρ) (P:=P) (o:=o) t a b;cases o2 with
 | arr ty' sz' f dp' rw' =>
  cases dp' <;> cases rw' <;> first | exact h0 | skip
  simp only[γO,Jdm];cases he:J6 P t with
  | none=>trivial
  | some e =>
   simp only;split
   ·rename_i m x r hm;split
    ·rename_i hc;refine QR fun h3=>?_;rw[Ku,decide_eq_true_eq,Zq,Jau] at h3;have h3:((lst ρ (.cons x r)).length:Int)≤m:=h3;have hl2:=lL1 hc.1 ρ;have hne:lst ρ (.cons x r)≠[]:=by
      show dat ρ x::lst ρ r≠[];simp
     rw[if_pos ⟨hl2,hc.2.1,hc.2.2.1,hne,Wb hm (by rw[hl2];omega),hc.2.2.2⟩];refine⟨_,rfl,⟨_,rfl,⟨_,rfl,?_⟩⟩⟩;simp only[SMP.Ok,γX,hl2]
    ·trivial
   ·trivial
 | _=>exact h0
theorem Jjx {o:Oper} (dp:Bool) (t:TypeId) (a b:SV):(Jg2 P dp (JA o) t a b).Ok B ρ (γX ρ) (JcJ P dp o t (γX ρ a) (γX ρ b)):=by
 have h0:=Vu (B:=B) (ρ:=ρ) (P:=P) (o:=o) t a b;unfold Jg2;split
 ·rename_i k l j l2;show SMP.Ok B ρ (γX ρ) _ (if k=j then _ else _);split
  ·exact h0
  ·refine⟨_,rfl,fun o1=>⟨_,rfl,fun o2=>?_⟩⟩;exact JhM t (.o k l) (.o j l2) k j l l2 o1 o2
 ·rename_i j l2;show SMP.Ok B ρ (γX ρ) _ (if dp=true then _ else _);split
  ·refine⟨_,rfl,fun o2=>?_⟩;exact Jjb t (.d (.vc (.slice none 0 0))) (.o j l2) j l2 o2
  ·exact h0
 ·trivial
 ·rename_i h1 _ h2;unfold JcJ;split
  ·rename_i e1 e2;cases a <;> simp only[γX] at e1 <;> try cases e1
   cases b <;> simp only[γX] at e2 <;> try cases e2
   exact(h1 _ _ _ _ rfl rfl).elim
  ·rename_i e1 e2;cases a <;> simp only[γX] at e1 <;> try cases e1
   cases b <;> simp only[γX] at e2 <;> try cases e2
   exact(h2 _ _ _ rfl rfl).elim
  ·exact h0
def JfZ:SV→SMP E
 | .d (.s l)=> .ret l
 | .d (.vc (.slice none 0 0))=> .ret .nil
 | .o k l=> .get k fun
  | .arr _ _ l' _ _=>if l.lsame l' then .ret l' else .fail
  | _=> .fail
 | _=> .fail
theorem Jos (v:SV):(JfZ v).Ok B ρ (lst ρ) (Jd8 (γX ρ v)):=by
 unfold JfZ;split
 ·rfl
 ·rfl
 ·refine⟨_,rfl,fun o=>?_⟩;cases o with
  | arr ty sz l' dp rw =>
   simp only[γO];split
   ·rename_i h;rw[if_pos (lL1 h ρ)];rfl
   ·trivial
  | _=>trivial
 ·trivial
def JhE (P:Program) (sg:FuncId→Option Sig) (dp bo:Bool) (o:Oper) (sl:SSl):SMP SV :=
 let r:=sop sl
 match o.op with
 | .move x | .assign x=> .ret (r x)
 | .pick c a b=>match r c with
  | .d (.vb e)=>match e.known with
   | some true=> .ret (r a)
   | some false=> .ret (r b)
   | none=> .fail
  | _=> .fail
 | .alloc t=>match QH P t with
  | some z=>if z.all (·.oneCell) then .new (JA o) (.box (z.map fun v=> .d (KQ v))) (.ret (.p (JA o) 0)) else .fail
  | none=> .fail
 | .box _ x=>match Yx (r x) with
  | some cs=> .new (JA o) (.box cs) (.ret (.p (JA o) 0))
  | none=> .fail
 | .build t ps=>match QH P t,JgK P t with
  | some z,some pl=>if z.all (·.oneCell) then match JcV pl (z.map fun v=> .d (KQ v)) (ps.toList.map fun p=>(p.1,r p.2)) with
   | some cs=> .ret (.g cs)
   | none=> .fail
   else .fail
  | _,_=> .fail
 | .buildSlice t n ps=>VI P dp (JA o) t n (ps.toList.map fun p=>(p.1,r p.2))
 | .load t a=>JgM P t (r a)
 | .store t a x=>Jhg P t (r a) (r x)
 | .nilCheck x=>match r x with
  | .p k off=> .ret (.p k off)
  | .d (.q l)=> .ret (.d (.q l))
  | .f fn cs=> .ret (.f fn cs)
  | .d (.fn f l)=> .ret (.d (.fn f l))
  | _=> .fail
 | .binOp op t x y _=>JqE P op t (r x) (r y)
 | .unOp op _ x=>sun op (r x)
 | .convert s d x=>Jo3 P s d (r x)
 | .makeFunc (.func f) fs cs=>if fs.isEmpty then .ret (.f f (cs.toList.map r)) else .fail
 | .makeSlice t l c=>WI P dp (JA o) t (r l) (r c)
 | .slice t x lo hi mx=>match mx with
  | none=>JnQ P (JA o) t (r x) (lo.map r) (hi.map r) none
  | some q=>Jqq P (JA o) t (r x) (lo.map r) (hi.map r) (r q)
 | .fieldAddr t x i=>WM P t (r x) i
 | .field t x i=>Jkj P t (r x) i
 | .indexAddr t x i=>Jaa P t (r x) (r i)
 | .extract x i=>match r x with
  | .t cs=>match cs[i]? with
   | some c=> .ret c
   | none=> .fail
  | _=> .fail
 | .call c=>match c.callee with
  | .builtin .len=>match c.args.toList,c.argTypes.toList with
   | [p],[t]=>match J6 P t with
    | some _=>(JfZ (r p)).bind fun l=> .ret (.d (.vi .i64 (JaN l)))
    | none=> .fail
   | _,_=> .fail
  | .builtin .append=>match c.args.toList,c.argTypes.toList with
   | [p,q],[t,t']=>if t'=t then Jg2 P dp (JA o) t (r p) (r q) else Jc6 P (JA o) t t' (r p) (r q)
   | _,_=> .fail
  | .builtin .cap=>match c.args.toList,c.argTypes.toList with
   | [p],[t]=>if JjH (r p) then match J6 P t with
    | some _=> .ret (.d (.vi .i64 (.z 0)))
    | none=> .fail
    else .fail
   | _,_=> .fail
  | .value f=>match r f with
   | .f fn cs=>Jjr sg dp bo (JA o) fn (c.args.toList.map r++cs)
   | .d (.da n)=>Jny n (c.args.toList.map r) (sh1 P o.type)
   | _=> .fail
  | _=> .fail
 | _=> .fail
theorem JfS (ρ:Env) (sl:SSl) (ps:List (Nat×Operand)):(ps.map fun p=>(p.1,opX (γs ρ sl) p.2))=(ps.map fun p=>(p.1,sop sl p.2)).map fun p=>(p.1,γX ρ p.2):=by
 rw[List.map_map];exact Jvm fun p _=>by simp only[Function.comp,QN]
theorem Jlx (ρ:Env) (sl:SSl) (l:List Operand):l.map (opX (γs ρ sl))=(l.map (sop sl)).map (γX ρ):=by
 rw[List.map_map];exact Jvm fun p _=>by simp only[Function.comp,QN]
theorem JpA (hB:BOk sg B) (o:Oper) (sl:SSl):(JhE P sg (G.dp o) (G.bo o) o sl).Ok B ρ (γX ρ) (opM P (Ye sg B) G (γs ρ sl) o):=by
 unfold JhE opM;cases o.op with
 | move x=>simp only[QN];rfl
 | assign x=>simp only[QN];rfl
 | pick c a b =>
  simp only[QN];split
  ·rename_i e h;split
   ·rename_i hk;rw[h];have:=Kq (ρ:=ρ) hk;rw[show γX ρ (.d (.vb e)) = .d (.v (.bool (bol ρ e))) from rfl,this];rfl
   ·rename_i hk;rw[h];have:=Kq (ρ:=ρ) hk;rw[show γX ρ (.d (.vb e)) = .d (.v (.bool (bol ρ e))) from rfl,this];rfl
   ·trivial
  ·trivial
 | alloc t =>
  simp only;split
  ·rename_i z hz;split
   ·rename_i h;rw[hz];simp only[h,if_true];refine⟨_,by rw[γO,Jx,JoP];rfl,rfl⟩
   ·trivial
  ·trivial
 | box t x =>
  simp only[QN];split
  ·rename_i cs h;rw[Ub h];exact⟨_,by rw[γO,Jx];rfl,rfl⟩
  ·trivial
 | build t ps =>
  simp only[JfS];split
  ·rename_i z pl hz hpl;split
   ·rename_i h;split
    ·rename_i cs hcs;have:=JfH (ρ:=ρ) _ _ _ hcs;rw[JoP] at this;rw[hz,hpl];simp only[h,if_true];rw[this];simp only[SMP.Ok,γX,Jx]
    ·trivial
   ·trivial
  ·trivial
 | buildSlice t n ps=>simp only[JfS];have h:=Jd7 (B:=B) (ρ:=ρ) (P:=P) (G.dp o) (JA o) t n (ps.toList.map fun p=>(p.1,sop sl p.2));rw[Ju9] at h;exact h
 | load t a=>simp only[QN];exact Jfe t _
 | store t a x=>simp only[QN];exact Jko t _ _
 | nilCheck x =>
  simp only[QN];split
  ·rename_i h;rw[h];rfl
  ·rename_i h;rw[h];rfl
  ·rename_i h;rw[h];rfl
  ·rename_i h;rw[h];rfl
  ·trivial
 | binOp op t x y t'=>simp only[QN];exact JpZ op t x y _ _
 | unOp op t x=>simp only[QN];exact JqC op _
 | convert s d x=>simp only[QN];exact JnR s d _
 | makeFunc fn fs cs =>
  cases fn with
  | func f =>
   simp only;split
   ·rename_i h;simp only[Jlx,SMP.Ok,γX,Jx]
   ·trivial
  | _=>trivial
 | makeSlice t l c=>simp only[QN];exact JeL _ _ t _ _
 | slice t x lo hi mx =>
  simp only[QN];have e :∀q:Option Operand,q.map (opX (γs ρ sl))=(q.map (sop sl)).map (γX ρ):=fun q=>by cases q <;> simp[QN]
  cases mx with
  | none=>simp only[];rw[e,e];exact JlV t _ _ _ none
  | some q=>simp only[];rw[e,e];exact Jpc t _ _ _ _
 | fieldAddr t x i=>simp only[QN];exact JeT t _ i
 | field t x i=>simp only[QN];exact JmR t _ i
 | indexAddr t x i=>simp only[QN];exact JeR t _ _
 | extract x i =>
  simp only[QN];split
  ·rename_i cs h;rw[h];simp only[γX,Jx,Jvl];cases hc:cs[i]? with
   | none=>trivial
   | some c=>rfl
  ·trivial
 | call c =>
  simp only;cases c.callee with
  | builtin b =>
   cases b with
   | len =>
    simp only[QN];split
    ·rename_i p t hp ht;rw[hp,ht];simp only;split
     ·rename_i e he;have key:((JfZ (sop sl p)).bind fun l=> .ret (.d (.vi .i64 (JaN l)))).Ok B ρ (γX ρ) ((Jd8 (γX ρ (sop sl p))).bind fun es=> .ret (.d (.v (goInt es.length)))):=by
       refine SMP.bind_ok (f:=lst ρ) (fun l=>?_) _ _ (Jos _);show MP.ret (X.d (.v (.int .i64 ((lst ρ l).length:Int))))=MP.ret (X.d (.v (.int .i64 (int ρ (JaN l)))));rw[Zq]
      by_cases hs : ∃ s,γX ρ (sop sl p) = .d (.v (.string s))
      ·obtain⟨s,hs⟩:=hs;have:JfZ (sop sl p) = .fail:=by
        unfold JfZ;split
        ·rename_i h;rw[h] at hs;exact absurd hs (by simp[γX,dat,den,V.dat])
        ·rename_i h;rw[h] at hs;exact absurd hs (by simp[γX,dat,den,V.dat])
        ·rename_i h;rw[h] at hs;exact absurd hs (by simp[γX])
        ·rfl
       rw[this];trivial
      ·split
       ·rename_i s h;exact absurd ⟨_,h⟩ hs
       ·rw[he];exact key
     ·trivial
    ·trivial
   | append =>
    simp only[QN];split
    ·rename_i p q t t' hp ht;rw[hp,ht];simp only;split
     ·rename_i htt;exact Jjx _ t _ _
     ·exact Jjm t _ _ _
    ·trivial
   | cap =>
    simp only[QN];split
    ·rename_i p t hp ht;rw[hp,ht];simp only;split
     ·rename_i hn;split
      ·rename_i e he;have hv:sop sl p = .d (.vc (.slice none 0 0)):=by
        revert hn
        unfold JjH;split
        ·rename_i h;intro _;exact h
        ·intro h;cases h
       rw[hv,he];rfl
      ·trivial
     ·trivial
    ·trivial
   | _=>trivial
  | value f =>
   simp only[QN,Jlx];split
   ·rename_i fn cs h;rw[h];simp only[γX];rw[Jx,←List.map_append];exact Jmw hB o fn _
   ·rename_i n h;rw[h];exact Jpl hB o n _ _
   ·trivial
  | invoke _ _=>trivial
 | _=>trivial
end
end Go.Tm
end
section
namespace Go.Tm
open Go.IntKind (i64)
structure SSt where
 sl:SSl
 m:Yg
inductive Wt where
 | yes | no | fork (d:Tmp) (b:E) (want:Bool) | bad
def Jrh:Option SV→Option E
 | some (.d (.vb b))=>some b
 | _=>none
def JkI:Option SV→Bool
 | some (.t [])=>true
 | _=>false
def ZP (ops : Array Oper) (sl : SSl) (o : Oper) : Wt := match o.guard with
  | none=> .yes
  | some (j,want)=>match (ops[j]?).bind (·.dst) with
    | some d=>match Jrh (sl.lookup d) with
      | some b=>match b.known with
        | some t=>if t == want then .yes else .no
        | none=> .fork d b want
      | none=>if JkI (sl.lookup d) then .no else .bad
    | none=> .bad
def JiX (sl:SSl) (dst:Option Tmp) (v:SV):SSl:=match dst with
 | some d=>(d,v)::sl
 | none=>sl
def JaD:List I→R→R
 | [],r=>r
 | i::is,r=> .i i (JaD is r)
def Ui (t:Bool):E:=if t then .tt else .ff
abbrev Trs:=List (List (Key×Bool))
def Kj (P : Program) (sg : FuncId → Option Sig) (dp bo : Oper → Bool) (ops : Array Oper) : List Nat → SSl → Yg → Nat → Trs → (SSl → Yg → Nat → Trs → Option R) → Option R
  | [],sl,m,n,trs,k=>k sl m n trs.reverse
  | i::l,sl,m,n,trs,k=>match ops[i]? with
    | none=>none
    | some o =>
      let go:=fun(sl:SSl) (b:Bool)=>if b then match (JhE P sg (dp o) (bo o) o sl).run m n with
          | some r=>match Kj P sg dp bo ops l (JiX sl o.dst r.val) r.m r.n (r.tr::trs) k with
            | some R=>some (JaD r.is R)
            | none=>none
          | none=>none
        else Kj P sg dp bo ops l (JiX sl o.dst (.t [])) m n ([]::trs) k
      match ZP ops sl o with
      | .yes=>go sl true
      | .no=>go sl false
      | .fork d b want=>match go ((d,.d (.vb .tt))::sl) want,go ((d,.d (.vb .ff))::sl) (!want) with
        | some x,some y=>some (.ite b x y)
        | _,_=>none
      | .bad=>none
section
variable {B:Tb} {ρ:Env} {sg:FuncId→Option Sig} {P:Program} {G:Qh} {ops:Array Oper} {N:Nat}
theorem U8 :∀(is:List I) (r:R) (o:Oc),Run B N (JaD is r) ρ o→(∀i∈is,i.holds B ρ)∧Run B N r ρ o
 | [],r,o,h=>⟨fun i hi=>by simp at hi,h⟩
 | i::is,r,o,h=>by
  obtain⟨h1,h2⟩:=h;obtain⟨h3,h4⟩:=U8 is r o h2;exact⟨fun j hj=>by
   rcases Jvj.1 hj with rfl | hj
   ·exact h1
   ·exact h3 j hj,h4⟩
theorem Jk1 (sl:SSl) (dst:Option Tmp) (v:SV):Vl (γs ρ sl) dst (γX ρ v)=γs ρ (JiX sl dst v):=by
 cases dst with
 | none=>rfl
 | some d=>exact(JcR ρ sl d v).symm
theorem JeY {sl:SSl} {d:Tmp} {v:SV} (h:sl.lookup d=some v):γs ρ sl d=γX ρ v:=by unfold γs;rw[h]
theorem Jlc {sl:SSl} {d:Tmp} {b:E} {t:Bool} (h:sl.lookup d=some (.d (.vb b))) (ht:bol ρ b=t):γs ρ ((d,.d (.vb (Ui t)))::sl)=γs ρ sl:=by
 rw[JcR]
 funext j
 unfold upd;split
 ·rename_i hj;subst hj;rw[JeY h];show X.d (.v (.bool (bol ρ (Ui t))))=X.d (.v (.bool (bol ρ b)));rw[ht];cases t <;> rfl
 ·rfl
theorem Jgr {sl:SSl} {d:Tmp} {b:E} (h:Jrh (sl.lookup d)=some b):γs ρ sl d=X.d (.v (.bool (bol ρ b)))∧sl.lookup d=some (.d (.vb b)):=by
 unfold Jrh at h;split at h
 ·rename_i b' hl;simp only[JuZ] at h;subst h;exact⟨by rw[JeY hl];rfl,hl⟩
 ·cases h
theorem Jie {sl:SSl} {o:Oper} (h:ZP ops sl o = .yes):Q6 ops (γs ρ sl) o=some true:=by
 unfold ZP at h;unfold Q6;split at h
 ·rename_i hg;rw[hg]
 ·rename_i j want hg;rw[hg];simp only;split at h
  ·rename_i d hd;rw[hd];simp only;split at h
   ·rename_i b hb;rw[(Jgr (ρ:=ρ) hb).1];split at h
    ·rename_i t ht;split at h
     ·rename_i hw;rw[Kq ht];simpa using hw
     ·cases h
    ·cases h
   ·split at h <;> cases h
  ·cases h
theorem Jnd {sl:SSl} {d:Tmp} (h:JkI (sl.lookup d)=true):γs ρ sl d=X.t []:=by
 unfold JkI at h;split at h
 ·rename_i hl;rw[JeY hl];rfl
 ·cases h
theorem Jkc {sl:SSl} {o:Oper} (h:ZP ops sl o = .no):Q6 ops (γs ρ sl) o=some false:=by
 unfold ZP at h;unfold Q6;split at h
 ·cases h
 ·rename_i j want hg;rw[hg];simp only;split at h
  ·rename_i d hd;rw[hd];simp only;split at h
   ·rename_i b hb;rw[(Jgr (ρ:=ρ) hb).1];split at h
    ·rename_i t ht;split at h
     ·cases h
     ·rename_i hw;rw[Kq ht];simpa using hw
    ·cases h
   ·split at h
    ·rename_i h0;rw[Jnd (ρ:=ρ) h0]
    ·cases h
  ·cases h
theorem Jg7 {sl:SSl} {o:Oper} {d:Tmp} {b:E} {want:Bool} (h:ZP ops sl o = .fork d b want):sl.lookup d=some (.d (.vb b))∧Q6 ops (γs ρ sl) o=some (bol ρ b == want):=by
 unfold ZP at h;unfold Q6;split at h
 ·cases h
 ·rename_i j want' hg;rw[hg];simp only;split at h
  ·rename_i d' hd;rw[hd];simp only;split at h
   ·rename_i b' hb;obtain⟨h1,h2⟩:=Jgr (ρ:=ρ) hb;rw[h1];split at h
    ·split at h <;> cases h
    ·cases h;exact⟨h2,rfl⟩
   ·split at h <;> cases h
  ·cases h
theorem Ja7 (hB:BOk sg B) :∀(l:List Nat) (sl:SSl) (m:Yg) (n:Nat) (trs:Trs) (k:SSl→Yg→Nat→Trs→Option R) (R:R) (o:Oc),Kj P sg G.dp G.bo ops l sl m n trs k=some R→Run B N R ρ o →
  ∃ sl' m' n' tl R',Yi P (Ye sg B) G ops l ⟨γs ρ sl,γm ρ m⟩=some (⟨γs ρ sl',γm ρ m'⟩,tl)∧k sl' m' n' (trs.reverse++tl)=some R'∧Run B N R' ρ o
 | [],sl,m,n,trs,k,R,o,h,hr=>⟨sl,m,n,[],R,rfl,by simpa[Kj] using h,hr⟩
 | i::l,sl,m,n,trs,k,R,o,h,hr=>by
  have ih:=Ja7 hB l;simp only[Kj] at h;cases hi:ops[i]? with
  | none=>simp[hi] at h
  | some op =>
   simp only[hi] at h;have yes :∀(sl:SSl) (R:Go.Tm.R),(match (JhE P sg (G.dp op) (G.bo op) op sl).run m n with
     | some r=>match Kj P sg G.dp G.bo ops l (JiX sl op.dst r.val) r.m r.n (r.tr::trs) k with
      | some R=>some (JaD r.is R)
      | none=>none
     | none=>none)=some R→Run B N R ρ o→Q6 ops (γs ρ sl) op=some true →
     ∃ sl' m' n' tl R',Yi P (Ye sg B) G ops (i::l) ⟨γs ρ sl,γm ρ m⟩=some (⟨γs ρ sl',γm ρ m'⟩,tl)∧k sl' m' n' (trs.reverse++tl)=some R'∧Run B N R' ρ o:=by
    intro sl R h hr hw;split at h
    ·rename_i r hrun;split at h
     ·rename_i R1 h1;simp only[JuZ] at h;subst h;obtain⟨his,hr⟩:=U8 _ _ _ hr;have hT:=SMP.run_ok _ _ _ _ _ (JpA (G:=G) (P:=P) hB op sl) hrun his;obtain⟨sl',m',n',tl,R',e1,e2,e3⟩:=ih _ _ _ _ k R1 o h1 hr;refine⟨sl',m',n',r.tr::tl,R',?_,by simpa using e2,e3⟩;simp only[Yi,hi,evM,hw,hT,Jk1,e1]
     ·cases h
    ·cases h
   have no :∀(sl:SSl) (R:Go.Tm.R),Kj P sg G.dp G.bo ops l (JiX sl op.dst (.t [])) m n ([]::trs) k=some R→Run B N R ρ o→Q6 ops (γs ρ sl) op=some false →
     ∃ sl' m' n' tl R',Yi P (Ye sg B) G ops (i::l) ⟨γs ρ sl,γm ρ m⟩=some (⟨γs ρ sl',γm ρ m'⟩,tl)∧k sl' m' n' (trs.reverse++tl)=some R'∧Run B N R' ρ o:=by
    intro sl R h hr hw;obtain⟨sl',m',n',tl,R',e1,e2,e3⟩:=ih _ _ _ _ k R o h hr;refine⟨sl',m',n',[]::tl,R',?_,by simpa using e2,e3⟩;have e0:Vl (γs ρ sl) op.dst (.t [])=γs ρ (JiX sl op.dst (.t [])):=Jk1 sl op.dst (.t []);simp only[Yi,hi,evM,hw,MP.runT,e0,e1]
   cases hsw:ZP ops sl op with
   | yes =>
    simp only[hsw,if_true] at h;exact yes sl R h hr (Jie hsw)
   | no =>
    simp only[hsw,Jvg,if_false] at h;exact no sl R h hr (Jkc hsw)
   | bad=>simp[hsw] at h
   | fork d b want =>
    simp only[hsw] at h;obtain⟨hd,hw⟩:=Jg7 (ρ:=ρ) hsw;split at h
    ·rename_i x y hx hy;simp only[JuZ] at h;subst h;have part :∀(t:Bool) (w:Bool) (z:Go.Tm.R),bol ρ b=t→(t == want)=w→(if w=true then(match (JhE P sg (G.dp op) (G.bo op) op ((d,.d (.vb (Ui t)))::sl)).run m n with
        | some r=>match Kj P sg G.dp G.bo ops l (JiX ((d,.d (.vb (Ui t)))::sl) op.dst r.val) r.m r.n (r.tr::trs) k with
         | some R=>some (JaD r.is R)
         | none=>none
        | none=>none) else Kj P sg G.dp G.bo ops l (JiX ((d,.d (.vb (Ui t)))::sl) op.dst (.t [])) m n ([]::trs) k)=some z→Run B N z ρ o →
       ∃ sl' m' n' tl R',Yi P (Ye sg B) G ops (i::l) ⟨γs ρ sl,γm ρ m⟩=some (⟨γs ρ sl',γm ρ m'⟩,tl)∧k sl' m' n' (trs.reverse++tl)=some R'∧Run B N R' ρ o:=by
      intro t w z ht hwt hz hrz;have hk:=Jlc hd ht;rw[←hk];rw[←hk,ht] at hw;cases w with
      | true=>simp only[if_true] at hz;exact yes _ z hz hrz (by rw[hw,hwt])
      | false=>simp only[Jvg,if_false] at hz;exact no _ z hz hrz (by rw[hw,hwt])
     simp only[Run] at hr;cases hb:bol ρ b with
     | true =>
      rw[hb] at hr;exact part true want x hb (by cases want <;> rfl) hx hr
     | false =>
      rw[hb] at hr;simp only[Jvg,if_false] at hr;exact part false (!want) y hb (by cases want <;> rfl) hy hr
    ·cases h
theorem Us {T:Tab} :∀(l:List Nat) (st st':St) (tl:Trs),Yi P T G ops l st=some (st',tl)→VP P T G ops l st=some st'
 | [],st,st',tl,h=>by
  simp only[Yi,JuZ,Jvh] at h;simp only[VP,h.1]
 | i::l,st,st',tl,h=>by
  simp only[Yi] at h;split at h
  ·cases h
  ·rename_i o ho;split at h
   ·cases h
   ·rename_i p hp;split at h
    ·cases h
    ·rename_i x m1 t1 hr;split at h
     ·cases h
     ·rename_i st2 ts h2;simp only[JuZ,Jvh] at h;obtain⟨rfl,rfl⟩:=h;rw[MP.runT_eq] at hr;cases hrun:p.run st.m with
      | none=>simp[hrun] at hr
      | some q =>
       obtain⟨x',m'⟩:=q;simp only[hrun,Ju2,JuZ,Jvh] at hr;obtain⟨rfl,rfl,_⟩:=hr;have:=(Jan ho hp hrun).1;simp only[VP,this];exact Us l _ _ _ h2
end
end Go.Tm
end
section
namespace Go.Tm
open Go.IntKind (i64)
section
variable {P:Program} {c:Cx P} {g:Gh} {m mk:Mem} {w:World} {a:Act} {ρ ρ':Env}
def Jmz (m mk:Mem) (k:Key):Prop:=mk k=m k∨∃ cs cs',m k=some (.box cs)∧mk k=some (.box cs')
mutual
theorem JlJ (hM :∀b,Mut g mk b→Mut g m b) :∀(x:X) (v:Value),(∀k∈x.names,Jmz m mk k)→VX c g m w x v→VX c g mk w x v
 | .d x,v,_,⟨fp,h1,h2⟩=>⟨fp,h1,fun b hb=>⟨fun h=>(h2 b hb).1 (hM b h),(h2 b hb).2⟩⟩
 | .g cs,v,hn,⟨vs,e,h,h1⟩=>⟨vs,e,Ut hM cs vs (fun k hk=>hn k (by simpa[X.names] using hk)) h,h1⟩
 | .t cs,v,hn,⟨vs,e,h⟩=>⟨vs,e,Ut hM cs vs (fun k hk=>hn k (by simpa[X.names] using hk)) h⟩
 | .f fn cs,v,hn,⟨vs,e,h⟩=>⟨vs,e,Ut hM cs vs (fun k hk=>hn k (by simpa[X.names] using hk)) h⟩
 | .o k n,v,hn,⟨h1,⟨o,ho,hb⟩,h2⟩=>by
  have e:mk k=m k:=by
   rcases hn k (by simp[X.names]) with e | ⟨cs,cs',h,_⟩
   ·exact e
   ·rw[ho] at h;cases h;exact absurd rfl (hb cs)
  exact⟨h1,⟨o,by rw[e];exact ho,hb⟩,fun ty sz es dp rw h=>h2 ty sz es dp rw (by rw[←e];exact h)⟩
 | .p k off,v,hn,⟨cs,b,h1,h2,h3⟩=>by
  rcases hn k (by simp[X.names]) with e | ⟨cs1,cs2,_,h⟩
  ·exact⟨cs,b,by rw[e];exact h1,h2,h3⟩
  ·exact⟨cs2,b,h,h2,h3⟩
 | .e k n i off,v,hn,⟨h1,⟨o,ho,hb⟩,h2⟩=>by
  have e:mk k=m k:=by
   rcases hn k (by simp[X.names]) with e | ⟨cs,cs',h,_⟩
   ·exact e
   ·rw[ho] at h;cases h;exact absurd rfl (hb cs)
  exact⟨h1,⟨o,by rw[e];exact ho,hb⟩,fun ty sz es dp rw h=>h2 ty sz es dp rw (by rw[←e];exact h)⟩
 | .u,_,_,_=>trivial
theorem Ut (hM :∀b,Mut g mk b→Mut g m b) :∀(xs:List X) (vs:List Value),(∀k∈Qt xs,Jmz m mk k)→VXs c g m w xs vs→VXs c g mk w xs vs
 | [],_,_,h=>h
 | x::xs,vs,hn,⟨v,vs',e,h1,h2⟩=>⟨v,vs',e,JlJ hM x v (fun k hk=>hn k (by simp[Qt,hk])) h1,Ut hM xs vs' (fun k hk=>hn k (by simp[Qt,hk])) h2⟩
end
def UJ:SV→SV→SV
 | .d (.vc _),v=>v
 | .d _,.d e=> .d e.norm
 | .g ps,.g vs=> .g (go ps vs)
 | .t ps,.t vs=> .t (go ps vs)
 | _,v=>v
where
 go:List SV→List SV→List SV
 | p::ps,v::vs=>UJ p v::go ps vs
 | _,vs=>vs
theorem E_norm_dat (ρ:Env) (e:E):dat ρ e.norm=dat ρ e∨dat ρ e.norm=(dat ρ e).norm:=by
 unfold E.norm;split
 ·exact .inr rfl
 ·exact .inl rfl
mutual
theorem Je8 :∀(p v:SV) (u:Value),VX c g m w (γX ρ v) u→VX c g m w (γX ρ (UJ p v)) u
 | .d p,v,u,h=>by
  cases p with
  | vc _=>exact h
  | _ =>
   cases v with
   | d e =>
    rcases E_norm_dat ρ e with h1 | h1
    ·simp only[UJ,γX,h1];exact h
    ·simp only[UJ,γX,h1];exact Jlh (.d _) u h
   | _=>exact h
 | .g ps,v,u,h=>by
  cases v with
  | g vs =>
   obtain⟨us,e,h1,h2⟩:=h;exact⟨us,e,UG ps vs us h1,h2⟩
  | _=>exact h
 | .o _ _,v,u,h=>h
 | .p _ _,v,u,h=>h
 | .e _ _ _ _,v,u,h=>h
 | .f _ _,v,u,h=>h
 | .t ps,v,u,h=>by
  cases v with
  | t vs =>
   obtain⟨us,e,h2⟩:=h;exact⟨us,e,UG ps vs us h2⟩
  | _=>exact h
 | .u,v,u,h=>h
theorem UG :∀(ps vs:List SV) (us:List Value),VXs c g m w (γXs ρ vs) us→VXs c g m w (γXs ρ (UJ.go ps vs)) us
 | [],vs,us,h=>h
 | _::_,[],us,h=>h
 | p::ps,v::vs,us,⟨u,us',e,h1,h2⟩=>⟨u,us',e,Je8 p v u h1,UG ps vs us' h2⟩
end
def Jb1:Ji→Ji→Ji
 | .box ps,.box vs=> .box (UJ.go ps vs)
 | _,o=>o
def JcN:SSl→SSl→Option (List (E×E))
 | [],_=>some []
 | (t,p)::ts,sl=>match sl.lookup t with
  | some v=>match mv p (UJ p v) with
   | some l=>match JcN ts sl with
    | some l'=>some (l++l')
    | none=>none
   | none=>none
  | none=>none
def Jgg:Yg→Yg→Option (List (E×E))
 | [],_=>some []
 | (k,p)::ts,m=>match m.lookup k with
  | some o=>match mo p (Jb1 p o) with
   | some l=>match Jgg ts m with
    | some l'=>some (l++l')
    | none=>none
   | none=>none
  | none=>none
def VQ (m:Yg) (k:Key):Bool:=(m.lookup k).isSome
def Jdg (cn cnt:Nat) (t s:SSt) (nl:Nat):Option (List E):=match JcN t.sl s.sl,Jgg t.m s.m with
 | some p,some q=>match JjX cn (p++q) with
  | some bs=>if Jby bs&&bs.all (fun b=>Nat.blt b.1 (cn+cnt))&&(t.sl.flatMap (fun x=>x.2.names)++t.m.flatMap fun x=>x.2.names).all (VQ t.m)&&(List.range nl).all (VQ t.m)
   then(List.range cnt).mapM fun i=>bs.lookup (cn+i) else none
  | none=>none
 | _,_=>none
def SSt.fresh (s:SSt):SSt:=⟨s.sl.map fun p=>(p.1,Vi (holds? s.m) p.2),s.m.map fun p=>(p.1,Jhb (holds? s.m) p.2)⟩
def JcP (cn cnt:Nat) (t s:SSt) (nl:Nat):Option (List E):=Jdg cn cnt t s.fresh nl
theorem Zf {α:Type} (f:α→α) :∀(l:List (Nat×α)) (k:Nat),(l.map fun p=>(p.1,f p.2)).lookup k=(l.lookup k).map f
 | [],k=>rfl
 | (j,x)::l,k=>by
  simp only[Ju8,List.lookup_cons]
  by_cases h:k=j
  ·subst h;simp
  ·have hb:(k == j)=false:=by simpa using h
   simp only[hb,Zf f l k]
theorem Jih (ρ:Env) (s:SSt):γs ρ s.fresh.sl=γs ρ s.sl∧γm ρ s.fresh.m=γm ρ s.m:=by
 refine⟨?_,?_⟩
 ·funext t
  unfold γs SSt.fresh;simp only[Zf];cases s.sl.lookup t with
  | none=>rfl
  | some v=>exact JfX ρ _ v
 ·funext k
  unfold γm SSt.fresh;simp only[Zf,Option.map_map];cases s.m.lookup k with
  | none=>rfl
  | some o=>simp only[Ju2,Function.comp,Je4]
theorem Jde :∀(t sl:SSl) (l:List (E×E)),JcN t sl=some l→∀x∈t,∃ v l',sl.lookup x.1=some v∧mv x.2 (UJ x.2 v)=some l'∧∀q∈l',q∈l
 | [],sl,l,h,x,hx=>by simp at hx
 | (t,p)::ts,sl,l,h,x,hx=>by
  simp only[JcN] at h;split at h
  ·rename_i v hv;split at h
   ·rename_i l1 h1;split at h
    ·rename_i l2 h2;simp only[JuZ] at h;subst h;rcases Jvj.1 hx with rfl | hx
     ·exact⟨v,l1,hv,h1,fun q hq=>by simp[hq]⟩
     ·obtain⟨v',l',e1,e2,e3⟩:=Jde ts sl l2 h2 x hx;exact⟨v',l',e1,e2,fun q hq=>by simp[e3 q hq]⟩
    ·cases h
   ·cases h
  ·cases h
theorem JfD :∀(t m:Yg) (l:List (E×E)),Jgg t m=some l→∀x∈t,∃ v l',m.lookup x.1=some v∧mo x.2 (Jb1 x.2 v)=some l'∧∀q∈l',q∈l
 | [],sl,l,h,x,hx=>by simp at hx
 | (t,p)::ts,sl,l,h,x,hx=>by
  simp only[Jgg] at h;split at h
  ·rename_i v hv;split at h
   ·rename_i l1 h1;split at h
    ·rename_i l2 h2;simp only[JuZ] at h;subst h;rcases Jvj.1 hx with rfl | hx
     ·exact⟨v,l1,hv,h1,fun q hq=>by simp[hq]⟩
     ·obtain⟨v',l',e1,e2,e3⟩:=JfD ts sl l2 h2 x hx;exact⟨v',l',e1,e2,fun q hq=>by simp[e3 q hq]⟩
    ·cases h
   ·cases h
  ·cases h
theorem Yz {α:Type} :∀(l:List (Nat×α)) (k:Nat) (v:α),l.lookup k=some v→(k,v)∈l
 | [],k,v,h=>by simp at h
 | (j,x)::l,k,v,h=>by
  simp only[List.lookup_cons] at h
  by_cases hk:k=j
  ·subst hk;simp at h;subst h;simp
  ·have hb:(k == j)=false:=by simpa using hk
   rw[hb] at h;simp[Yz l k v h]
theorem JlN {α:Type} {f:Nat→Option α} :∀(n a:Nat) (l:List α),(List.range' a n).mapM f=some l→∀i,i<n→∃ x,f (a+i)=some x∧l[i]? = some x
 | 0,a,l,h,i,hi=>by omega
 | n+1,a,l,h,i,hi=>by
  rw[List.range'_succ,List.mapM_cons] at h;cases hf:f a with
  | none=>simp[hf] at h
  | some x =>
   cases hr:(List.range' (a+1) n).mapM f with
   | none=>simp[hf,hr] at h
   | some l' =>
    simp[hf,hr] at h;subst h;cases i with
    | zero=>exact⟨x,hf,rfl⟩
    | succ i =>
     obtain⟨y,h1,h2⟩:=JlN n (a+1) l' hr i (by omega);exact⟨y,by rw[←h1];congr 1;omega,by simpa using h2⟩
theorem JeD {p o:Ji}:(∃ cs cs',γO ρ o = .box cs∧γO ρ (Jb1 p o) = .box cs'∧∀us,VXs c g m w cs us→VXs c g m w cs' us)∨(γO ρ (Jb1 p o)=γO ρ o∧∀cs,γO ρ o≠ .box cs):=by
 cases o with
 | box vs =>
  cases p with
  | box ps=>exact .inl ⟨_,_,rfl,rfl,fun us h=>UG ps vs us h⟩
  | _=>exact .inl ⟨_,_,rfl,rfl,fun us h=>h⟩
 | arr ty sz l dp rw=>exact .inr ⟨by cases p <;> rfl,fun cs=>by simp[γO]⟩
 | dead=>exact .inr ⟨by cases p <;> rfl,fun cs=>by simp[γO]⟩
theorem Jjq {cn cnt:Nat} {t s:SSt} {nl:Nat} {vs:List E} (h:Jdg cn cnt t s nl=some vs) (ha:Jz cn ρ ρ') (hset:JbV cn (vs.map (den ρ)) ρ')
  {g0:Gh} {m0:Mem} {w0:World} (hl :∀k,m0 k≠none→k<nl) (hS:Sim c g (γm ρ s.m) w) (hH:Jw c g (γm ρ s.m) w (γs ρ s.sl) a) (hC:Jf c g0 m0 w0 g (γm ρ s.m) w) :
  Sim c g (γm ρ' t.m) w∧Jw c g (γm ρ' t.m) w (γs ρ' t.sl) a∧Jf c g0 m0 w0 g (γm ρ' t.m) w:=by
 unfold Jdg at h;split at h
 ·rename_i p q hp hq;split at h
  ·rename_i bs hbs;split at h
   ·rename_i hc;simp only[Ju0] at hc;obtain⟨⟨⟨hcon,hlt⟩,hclo⟩,hlent⟩:=hc;rw[List.range_eq_range'] at h;have hat:=JlN cnt 0 vs h;have hρ :∀b∈bs,cn≤b.1→ρ' b.1=den ρ b.2:=by
     intro b hb hcb;have h1:=Jvd.1 hlt b hb;have h1:b.1<cn+cnt:=Nat.lt_of_succ_le (Nat.le_of_ble_eq_true h1);obtain⟨x,e1,e2⟩:=hat (b.1-cn) (by omega);have e1:bs.lookup b.1=some x:=by rw[←e1];congr 1;omega
     have h2:=hset (b.1-cn) (den ρ x) (by rw[Jvl,e2];rfl);rw[show cn+(b.1-cn)=b.1 by omega] at h2;have h3:=Jvd.1 hcon b hb;rw[e1] at h3;rw[h2];exact Wo _ _ h3 ρ
    have hpair :∀z∈p++q,dat ρ' z.1=dat ρ z.2:=by
     intro z hz;obtain⟨r,h1,h2⟩:=JdD _ _ hbs z hz;refine Joa h1 ha fun j x hr=>?_;subst hr;exact hρ (j,x) (h2 _ rfl) (Joi h1)
    have hobj :∀k po,t.m.lookup k=some po→∃ o,s.m.lookup k=some o∧γO ρ' po=γO ρ (Jb1 po o):=by
     intro k po hk;obtain⟨o,l',e1,e2,e3⟩:=JfD _ _ _ hq (k,po) (Yz _ _ _ hk);exact⟨o,e1,Jqt e2 fun z hz=>hpair z (by simp[e3 z hz])⟩
    have hmk :∀k o',γm ρ' t.m k=some o'→∃ po o,t.m.lookup k=some po∧s.m.lookup k=some o∧o'=γO ρ (Jb1 po o):=by
     intro k o' hk;unfold γm at hk;cases hl':t.m.lookup k with
     | none=>rw[hl'] at hk;cases hk
     | some po =>
      rw[hl'] at hk;simp only[Ju2,JuZ] at hk;obtain⟨o,e1,e2⟩:=hobj k po hl';exact⟨po,o,rfl,e1,by rw[←hk,e2]⟩
    have hrw :∀po o:Ji,(γO ρ (Jb1 po o)).rw=(γO ρ o).rw:=by
     intro po o;cases o with
     | box vs=>cases po <;> rfl
     | _=>cases po <;> rfl
    have hM :∀b,Mut g (γm ρ' t.m) b→Mut g (γm ρ s.m) b:=by
     rintro b ⟨k,o',hk,hr,hb⟩;obtain⟨po,o,_,e2,rfl⟩:=hmk k o' hk;refine⟨k,γO ρ o,QS e2,by rw[←hrw po];exact hr,?_⟩;have hdp:(γO ρ (Jb1 po o)).dpw=(γO ρ o).dpw:=by
      cases o with
      | box vs=>cases po <;> rfl
      | _=>cases po <;> rfl
     unfold Blk at hb ⊢;rw[hdp] at hb;exact hb
    have hlike :∀k,VQ t.m k=true→Jmz (γm ρ s.m) (γm ρ' t.m) k:=by
     intro k hk;obtain⟨po,hpo⟩:=Option.isSome_iff_exists.1 hk;obtain⟨o,e1,e2⟩:=hobj k po hpo;rw[Jmz,QS e1,QS hpo,e2];rcases JeD (c:=c) (g:=g) (m:=γm ρ s.m) (w:=w) (ρ:=ρ) (p:=po) (o:=o) with ⟨cs,cs',h1,h2,_⟩ | ⟨h1,_⟩
     ·exact .inr ⟨cs,cs',by rw[h1],by rw[h2]⟩
     ·exact .inl (by rw[h1])
    have hnames :∀x∈t.sl,∀k∈x.2.names,VQ t.m k=true:=by
     intro x hx k hk;exact Jvd.1 hclo k (List.mem_append_left _ (List.mem_flatMap.2 ⟨x,hx,hk⟩))
    have hmnames :∀x∈t.m,∀k∈x.2.names,VQ t.m k=true:=by
     intro x hx k hk;exact Jvd.1 hclo k (List.mem_append_right _ (List.mem_flatMap.2 ⟨x,hx,hk⟩))
    refine⟨Sim.restrict hS fun k o' hk=>?_,fun tt=>?_,⟨hC.size,fun b h1 h2 h3=>⟨(hC.pure b h1 h2 h3).1,fun hm=>(hC.pure b h1 h2 h3).2 (hM b hm)⟩,fun k cs hk=>?_,fun k ty sz es dp rw hk=>?_,fun k hk=>?_⟩⟩
    ·obtain⟨po,o,e1,e2,rfl⟩:=hmk k o' hk;refine⟨⟨_,QS e2,(hrw po o).symm⟩,fun cs hcs=>?_,fun ty sz es dp rw he=>?_⟩
     ·rcases JeD (c:=c) (g:=g) (m:=γm ρ s.m) (w:=w) (ρ:=ρ) (p:=po) (o:=o) with ⟨cs1,cs2,h1,h2,h3⟩ | ⟨h1,h2⟩
      ·rw[h2] at hcs;cases hcs;obtain⟨b,us,ty,a1,a2,a3,a4⟩:=hS.box k cs1 (by rw[QS e2,h1]);refine⟨b,us,ty,a1,a2,Ut hM _ _ (fun j hj=>hlike j ?_) (h3 us a3),a4⟩;have hx:(γO ρ' po).names=po.names:=Jf6 ρ' po;have hn:po.names=Qt cs:=by
        have hob:γO ρ' po = .box cs:=by
         have:=hk;rw[QS e1,h2] at this;exact Option.some.inj this
        rw[←hx,hob];rfl
       exact hmnames (k,po) (Yz _ _ _ e1) j (by rw[hn];exact hj)
      ·rw[h1] at hcs;exact absurd hcs (h2 cs)
     ·rcases JeD (c:=c) (g:=g) (m:=γm ρ s.m) (w:=w) (ρ:=ρ) (p:=po) (o:=o) with ⟨cs1,cs2,h1,h2,h3⟩ | ⟨h1,h2⟩
      ·rw[h2] at he;cases he
      ·rw[QS e2,h1]
    ·unfold γs;cases hlk:t.sl.lookup tt with
     | none=>trivial
     | some pv =>
      simp only;obtain⟨v,l',e1,e2,e3⟩:=Jde _ _ _ hp (tt,pv) (Yz _ _ _ hlk);have hv:=hH tt;rw[JeY e1] at hv;have e4:γX ρ' pv=γX ρ (UJ pv v):=Jqn _ _ _ e2 fun z hz=>hpair z (by simp[e3 z hz]);rw[e4];refine JlJ hM _ _ (fun k hk=>hlike k ?_) (Je8 pv v _ hv);rw[←e4,K4] at hk;exact hnames (tt,pv) (Yz _ _ _ hlk) k hk
    ·have hkey:VQ t.m k=true:=Jvd.1 hlent k (List.mem_range.2 (hl k (by rw[hk];simp)));obtain⟨⟨cs',h1⟩,h2⟩:=hC.box k cs hk;refine⟨?_,h2⟩;rcases hlike k hkey with e | ⟨a1,a2,_,e⟩
     ·exact⟨cs',by rw[e];exact h1⟩
     ·exact⟨a2,e⟩
    ·have hkey:VQ t.m k=true:=Jvd.1 hlent k (List.mem_range.2 (hl k (by rw[hk];simp)));rcases hlike k hkey with e | ⟨a1,a2,e1,e⟩
     ·rw[e];exact hC.arr k ty sz es dp rw hk
     ·rcases hC.arr k ty sz es dp rw hk with h1 | ⟨_,_,_,h1,_⟩
      ·rw[e1] at h1;cases h1
      ·rw[e1] at h1;cases h1
    ·have hkey:VQ t.m k=true:=Jvd.1 hlent k (List.mem_range.2 (hl k (by rw[hk];simp)));rcases hlike k hkey with e | ⟨a1,a2,e1,e⟩
     ·rw[e];exact hC.dead k hk
     ·have:=hC.dead k hk;rw[e1] at this;cases this
   ·cases h
  ·cases h
 ·cases h
theorem WQ {cn cnt:Nat} {t s:SSt} {nl:Nat} {vs:List E} (h:JcP cn cnt t s nl=some vs) (ha:Jz cn ρ ρ') (hset:JbV cn (vs.map (den ρ)) ρ')
  {g0:Gh} {m0:Mem} {w0:World} (hl :∀k,m0 k≠none→k<nl) (hS:Sim c g (γm ρ s.m) w) (hH:Jw c g (γm ρ s.m) w (γs ρ s.sl) a) (hC:Jf c g0 m0 w0 g (γm ρ s.m) w) :
  Sim c g (γm ρ' t.m) w∧Jw c g (γm ρ' t.m) w (γs ρ' t.sl) a∧Jf c g0 m0 w0 g (γm ρ' t.m) w:=by
 obtain⟨e1,e2⟩:=Jih ρ s;exact Jjq h ha hset hl (by rw[e2];exact hS) (by rw[e1,e2];exact hH) (by rw[e2];exact hC)
def X9 (keep:List Tmp) (sl:SSl):SSl:=keep.filterMap fun t=>match sl.lookup t with
 | some v=>some (t,v)
 | none=>none
theorem Jn7 (keep:List Tmp) (sl:SSl) (t:Tmp):(X9 keep sl).lookup t=none∨(X9 keep sl).lookup t=sl.lookup t:=by
 induction keep with
 | nil=>exact .inl rfl
 | cons s keep ih =>
  unfold X9 at ih ⊢;cases h:sl.lookup s with
  | none=>rw[List.filterMap_cons_none (by rw[h])];exact ih
  | some v =>
   rw[List.filterMap_cons_some (b:=(s,v)) (by rw[h])];simp only[List.lookup_cons]
   by_cases hts:t=s
   ·subst hts;right;simp[h]
   ·have hb:(t == s)=false:=by simpa using hts
    rw[hb];exact ih
theorem Jeb (keep:List Tmp) {sl:SSl} (h:Jw c g m w (γs ρ sl) a):Jw c g m w (γs ρ (X9 keep sl)) a:=by
 intro t;have ht:=h t;unfold γs at ht ⊢;rcases Jn7 keep sl t with e | e
 ·rw[e];trivial
 ·rw[e];exact ht
inductive Loc where
 | slot (t:Tmp)
 | cell (k:Key) (off:Nat)
 | kill (k:Key)
 | frz (k:Key) (off:Nat)
structure JiN where
 at_:Loc
 key:Key
 ty:TypeId
 sz:Nat
 dp:Bool:=false
 mv:Bool:=false
def Je3 (o:JiN) (s:SSt):SSt:=if(s.m.lookup o.key).isSome then s else match o.at_ with
 | .slot t=>match s.sl.lookup t with
  | some (.d (.vc (.slice none 0 0)))=>⟨(t,.o o.key .nil)::s.sl,(o.key,.arr o.ty o.sz .nil o.dp true)::s.m⟩
  | some (.o j l)=>if o.mv then match s.m.lookup j with
   | some (.arr ty sz l' dp true)=>if l.lsame l' then ⟨(t,.o o.key l')::s.sl,(o.key,.arr ty sz l' dp true)::(j,.dead)::s.m⟩ else s
   | _=>s
   else s
  | _=>s
 | .cell k off=>match s.m.lookup k with
  | some (.box cs)=>match cs[off]? with
   | some (.d (.vc (.slice none 0 0)))=>⟨s.sl,(k,.box (cs.set off (.o o.key .nil)))::(o.key,.arr o.ty o.sz .nil o.dp true)::s.m⟩
   | some (.o j l)=>if o.mv then match s.m.lookup j with
    | some (.arr ty sz l' dp true)=>if l.lsame l' then ⟨s.sl,(k,.box (cs.set off (.o o.key l')))::(o.key,.arr ty sz l' dp true)::(j,.dead)::s.m⟩ else s
    | _=>s
    else s
   | _=>s
  | _=>s
 | .kill j=>match s.m.lookup j with
  | some (.arr ty sz l' dp true)=>⟨s.sl,(o.key,.arr ty sz l' dp true)::(j,.dead)::s.m⟩
  | _=>s
 | .frz k off=>match s.m.lookup k with
  | some (.box cs)=>match cs[off]? with
   | some (.o j l)=>match s.m.lookup j with
    | some (.arr ty sz l' _ _)=>if l.lsame l' then ⟨s.sl,(k,.box (cs.set off (.d (.s l'))))::(j,.arr ty sz l' false false)::s.m⟩ else s
    | _=>s
   | _=>s
  | _=>s
theorem Jnr {key j:Key} {ty:TypeId} {sz:Nat} {es:List D} {dp:Bool} (hS:Sim c g m w) (hk:m key=none) (hj:m j=some (.arr ty sz es dp true)) :
  ∃ g',Sim c g' (upd (upd m j (some .dead)) key (some (.arr ty sz es dp true))) w∧Jf c g m w g' (upd (upd m j (some .dead)) key (some (.arr ty sz es dp true))) w∧g'.hd key=g.hd j:=by
 have hjk:j≠key:=fun e=>by subst e;rw[hk] at hj;cases hj
 let g':Gh:={ bl:=upd g.bl key (g.bl j),hd:=upd g.hd key (g.hd j),fd:=upd g.fd key (g.fd j),ow:=fun b=>if g.ow b=some j then some key else g.ow b }
 have hget :∀k o,upd (upd m j (some .dead)) key (some (.arr ty sz es dp true)) k=some o→(k=key∧o = .arr ty sz es dp true)∨(k≠key∧k=j∧o = .dead)∨(k≠key∧k≠j∧m k=some o):=fun k o h=>by
  by_cases e:k=key
  ·subst e;rw[uS1] at h;cases h;exact .inl ⟨rfl,rfl⟩
  ·rw[uO1 _ _ e] at h
   by_cases e2:k=j
   ·subst e2;rw[uS1] at h;cases h;exact .inr (.inl ⟨e,rfl,rfl⟩)
   ·rw[uO1 _ _ e2] at h;exact .inr (.inr ⟨e,e2,h⟩)
 have hB :∀k o b,upd (upd m j (some .dead)) key (some (.arr ty sz es dp true)) k=some o→o.rw=true→Blk g' k o b→∃ k0,m k0=some o∧Blk g k0 o b∧((k=key∧k0=j)∨(k0=k∧k≠key∧k≠j)):=fun k o b h hrw hb=>by
  rcases hget k o h with ⟨rfl,rfl⟩ | ⟨_,_,rfl⟩ | ⟨h1,h2,h3⟩
  ·exact⟨j,hj,by unfold Blk at hb ⊢;simpa only[g',uS1] using hb,.inl ⟨rfl,rfl⟩⟩
  ·cases hrw
  ·exact⟨k,h3,by unfold Blk at hb ⊢;simpa only[g',uO1 _ _ h1] using hb,.inr ⟨rfl,h1,h2⟩⟩
 have hM :∀b,Mut g' (upd (upd m j (some .dead)) key (some (.arr ty sz es dp true))) b→Mut g m b:=by
  rintro b ⟨k,o,h,hrw,hb⟩;obtain⟨k0,h1,h2,_⟩:=hB k o b h hrw hb;exact⟨k0,o,h1,hrw,h2⟩
 have hok :∀fp,Qf c g m fp→Qf c g' (upd (upd m j (some .dead)) key (some (.arr ty sz es dp true))) fp:=fun fp hf b hb=>⟨fun hm=>(hf b hb).1 (hM b hm),(hf b hb).2⟩;have hC:Jf c g m w g' (upd (upd m j (some .dead)) key (some (.arr ty sz es dp true))) w:=by
  refine⟨Nat.le_refl _,fun b h1 _ _=>⟨rfl,fun h=>h1 (hM b h)⟩,fun k cs h=>?_,fun k ty' sz' es' dp' rw h=>?_,fun k h=>?_⟩
  ·have e:k≠key:=fun e=>by subst e;rw[hk] at h;cases h
   have e2:k≠j:=fun e=>by subst e;rw[hj] at h;cases h
   exact⟨⟨cs,by rw[uO1 _ _ e,uO1 _ _ e2];exact h⟩,uO1 _ _ e⟩
  ·have e:k≠key:=fun e=>by subst e;rw[hk] at h;cases h
   by_cases e2:k=j
   ·subst e2;exact .inl (by rw[uO1 _ _ e,uS1])
   ·exact .inr ⟨es',dp',rw,by rw[uO1 _ _ e,uO1 _ _ e2];exact h,.inl ⟨rfl,uO1 _ _ e,uO1 _ _ e⟩⟩
  ·have e:k≠key:=fun e=>by subst e;rw[hk] at h;cases h
   have e2:k≠j:=fun e=>by subst e;rw[hj] at h;cases h
   rw[uO1 _ _ e,uO1 _ _ e2];exact h
 refine⟨g',⟨hS.frame,fun k cs h=>?_,fun k ty' sz' es' dp' rw h=>?_,fun k ty' sz' es' h=>?_,fun k o b h hrw hb=>?_,fun b k h=>?_⟩,hC,uS1 _ _ _⟩
 ·rcases hget k _ h with ⟨_,e⟩ | ⟨_,_,e⟩ | ⟨h1,h2,h3⟩
  ·cases e
  ·cases e
  ·obtain⟨b,vs,ty,q1,q2,q3,q4⟩:=hS.box k cs h3;exact⟨b,vs,ty,(uO1 _ _ h1).trans q1,q2,QO hC _ _ q3,q4⟩
 ·rcases hget k _ h with ⟨rfl,e⟩ | ⟨_,_,e⟩ | ⟨h1,h2,h3⟩
  ·cases e;obtain⟨q1,q2,q3⟩:=hS.arr j _ _ _ _ _ hj;have e1:g'.bl k=g.bl j:=uS1 _ _ _;have e2:g'.hd k=g.hd j:=uS1 _ _ _;have e3:g'.fd k=g.fd j:=uS1 _ _ _;refine⟨by unfold JaW at q1 ⊢;rw[e1,e2,e3];exact q1,fun hd=>by rw[e3];exact hok _ (q2 hd),(fun(h:true=false)=>by cases h)⟩
  ·cases e
  ·obtain⟨q1,q2,q3⟩:=hS.arr k _ _ _ _ _ h3;have e1:g'.bl k=g.bl k:=uO1 _ _ h1;have e2:g'.hd k=g.hd k:=uO1 _ _ h1;have e3:g'.fd k=g.fd k:=uO1 _ _ h1;refine⟨by unfold JaW at q1 ⊢;rw[e1,e2,e3];exact q1,fun hd=>by rw[e3];exact hok _ (q2 hd),fun hr b hb=>hok _ (q3 hr b (by rw[←e1];exact hb))⟩
 ·rcases hget k _ h with ⟨rfl,e⟩ | ⟨_,_,e⟩ | ⟨h1,h2,h3⟩
  ·cases e;have e1:g'.bl k=g.bl j:=uS1 _ _ _;have e3:g'.fd k=g.fd j:=uS1 _ _ _;rw[e1,e3];exact hS.deep j _ _ _ hj
  ·cases e
  ·have e1:g'.bl k=g.bl k:=uO1 _ _ h1;have e3:g'.fd k=g.fd k:=uO1 _ _ h1;rw[e1,e3];exact hS.deep k _ _ _ h3
 ·obtain⟨k0,h1,h2,h3⟩:=hB k o b h hrw hb;have ho:=hS.own k0 o b h1 hrw h2;show (if g.ow b=some j then some key else g.ow b)=some k;rw[ho];rcases h3 with ⟨rfl,rfl⟩ | ⟨rfl,_,h4⟩
  ·rw[if_pos rfl]
  ·rw[if_neg (fun e=>h4 (Option.some.inj e))]
 ·have h':(if g.ow b=some j then some key else g.ow b)=some k:=h;split at h'
  ·rename_i e;exact hS.live b j e
  ·exact hS.live b k h'
theorem JkV :∀(xs:List X) (vs:List Value) (i:Nat) (x:X) (v:Value),VXs c g m w xs vs→vs[i]? = some v→VX c g m w x v→VXs c g m w (xs.set i x) vs
 | [],vs,i,x,v,h,_,_=>h
 | y::xs,vs,0,x,v,⟨u,us,e,h1,h2⟩,hv,hx=>by
  subst e;simp at hv;subst hv;exact⟨u,us,rfl,hx,h2⟩
 | y::xs,vs,i+1,x,v,⟨u,us,e,h1,h2⟩,hv,hx=>by
  subst e;exact⟨u,us,rfl,h1,JkV xs us i x v h2 (by simpa using hv) hx⟩
theorem JaV :∀(xs:List X) (vs:List Value) (i:Nat) (x:X),VXs c g m w xs vs→xs[i]? = some x→∃ v,vs[i]? = some v∧VX c g m w x v
 | [],vs,i,x,h,hx=>by simp at hx
 | y::xs,vs,0,x,⟨u,us,e,h1,h2⟩,hx=>by
  subst e;simp at hx;subst hx;exact⟨u,rfl,h1⟩
 | y::xs,vs,i+1,x,⟨u,us,e,h1,h2⟩,hx=>by
  subst e;obtain⟨v,h3,h4⟩:=JaV xs us i x h2 (by simpa using hx);exact⟨v,by simpa using h3,h4⟩
theorem JjM {m1:Mem} {k:Key} {off:Nat} {cs:List X} {x:X} (h1:Sim c g m1 w) (hbox:m1 k=some (.box cs))
  (hx :∀b us ty,g.bl k=some b→w.heap[b]? = some (.cells us.toArray ty (0,0))→VXs c g m1 w cs us→∃ u,us[off]? = some u∧VX c g m1 w x u) :
  Sim c g (upd m1 k (some (.box (cs.set off x)))) w∧(∀y v,VX c g m1 w y v→VX c g (upd m1 k (some (.box (cs.set off x)))) w y v)∧Jf c g m1 w g (upd m1 k (some (.box (cs.set off x)))) w:=by
 have hlike :∀j,Jmz m1 (upd m1 k (some (.box (cs.set off x)))) j:=by
  intro j
  by_cases e:j=k
  ·subst e;exact .inr ⟨_,_,hbox,uS1 _ _ _⟩
  ·exact .inl (uO1 _ _ e)
 have hM :∀b,Mut g (upd m1 k (some (.box (cs.set off x)))) b→Mut g m1 b:=by
  rintro b ⟨j,ob,a1,a2,a3⟩
  by_cases e:j=k
  ·subst e;rw[uS1] at a1;cases a1;exact⟨j,_,hbox,rfl,.inl (a3.resolve_right fun h=>by cases h.1)⟩
  ·rw[uO1 _ _ e] at a1;exact⟨j,ob,a1,a2,a3⟩
 refine⟨Sim.restrict h1 fun j ob hj=>?_,fun y v h=>JlJ hM _ _ (fun i _=>hlike i) h,⟨Nat.le_refl _,fun b q1 _ _=>⟨rfl,fun hm=>q1 (hM b hm)⟩,fun j cs' hj=>?_,fun j ty sz es dp rw hj=>?_,fun j hj=>?_⟩⟩
 ·by_cases e:j=k
  ·subst e;rw[uS1] at hj;simp only[JuZ] at hj;subst hj;refine⟨⟨_,hbox,rfl⟩,fun cs' hcs=>?_,fun _ _ _ _ _ he=>by cases he⟩;cases hcs;obtain⟨b,us,ty,a1,a2,a3,a4⟩:=h1.box j _ hbox;obtain⟨u,hu,hvu⟩:=hx b us ty a1 a2 a3;exact⟨b,us,ty,a1,a2,Ut hM _ _ (fun i _=>hlike i) (JkV _ _ _ _ _ a3 hu hvu),a4⟩
  ·rw[uO1 _ _ e] at hj;refine⟨⟨ob,hj,rfl⟩,fun cs' hcs=>?_,fun _ _ _ _ _ _=>hj⟩;subst hcs;obtain⟨b,us,ty,a1,a2,a3,a4⟩:=h1.box j _ hj;exact⟨b,us,ty,a1,a2,Ut hM _ _ (fun i _=>hlike i) a3,a4⟩
 ·refine⟨?_,rfl⟩;rcases hlike j with e | ⟨_,cs2,_,e⟩
  ·exact⟨cs',by rw[e];exact hj⟩
  ·exact⟨cs2,e⟩
 ·rcases hlike j with e | ⟨_,cs2,e1,e⟩
  ·rw[e];exact .inr ⟨_,_,_,hj,.inl ⟨rfl,rfl,rfl⟩⟩
  ·rw[e1] at hj;cases hj
 ·rcases hlike j with e | ⟨_,cs2,e1,e⟩
  ·rw[e];exact hj
  ·rw[e1] at hj;cases hj
theorem Jo1 (o:JiN) {s:SSt} {g0:Gh} {m0:Mem} {w0:World} (hS:Sim c g (γm ρ s.m) w) (hH:Jw c g (γm ρ s.m) w (γs ρ s.sl) a) (hC:Jf c g0 m0 w0 g (γm ρ s.m) w) :
  ∃ g',Sim c g' (γm ρ (Je3 o s).m) w∧Jw c g' (γm ρ (Je3 o s).m) w (γs ρ (Je3 o s).sl) a∧Jf c g0 m0 w0 g' (γm ρ (Je3 o s).m) w:=by
 have same : ∃ g',Sim c g' (γm ρ s.m) w∧Jw c g' (γm ρ s.m) w (γs ρ s.sl) a∧Jf c g0 m0 w0 g' (γm ρ s.m) w:=⟨g,hS,hH,hC⟩;have slot :∀(t:Tmp) (x:SV) (mm:Yg) (g':Gh),Sim c g' (γm ρ mm) w→Jf c g (γm ρ s.m) w g' (γm ρ mm) w→VX c g' (γm ρ mm) w (γX ρ x) (a.tmps.getD t undef) →
   ∃ g',Sim c g' (γm ρ mm) w∧Jw c g' (γm ρ mm) w (γs ρ ((t,x)::s.sl)) a∧Jf c g0 m0 w0 g' (γm ρ mm) w:=fun t x mm g' h1 h2 h3=>by
  refine⟨g',h1,fun j=>?_,hC.trans h2⟩;rw[JcR];unfold upd;split
  ·rename_i hj;subst hj;exact h3
  ·exact Xj h2 _ _ (hH j)
 have cell :∀(k:Key) (off:Nat) (cs:List SV) (x:SV) (mm:Yg) (g':Gh),Sim c g' (γm ρ mm) w→Jf c g (γm ρ s.m) w g' (γm ρ mm) w→γm ρ mm k=some (.box (γXs ρ cs)) →
   (∀b us ty,g'.bl k=some b→w.heap[b]? = some (.cells us.toArray ty (0,0))→VXs c g' (γm ρ mm) w (γXs ρ cs) us→∃ u,us[off]? = some u∧VX c g' (γm ρ mm) w (γX ρ x) u) →
   ∃ g',Sim c g' (γm ρ ((k,.box (cs.set off x))::mm)) w∧Jw c g' (γm ρ ((k,.box (cs.set off x))::mm)) w (γs ρ s.sl) a∧Jf c g0 m0 w0 g' (γm ρ ((k,.box (cs.set off x))::mm)) w:=fun k off cs x mm g' h1 h2 hbox hx=>by
  obtain⟨q1,q2,q3⟩:=JjM h1 hbox hx;have e:γm ρ ((k,.box (cs.set off x))::mm)=upd (γm ρ mm) k (some (.box ((γXs ρ cs).set off (γX ρ x)))):=by
   rw[Ys];simp only[γO,Jx,List.map_set]
  rw[e];exact⟨g',q1,fun j=>q2 _ _ (Xj h2 _ _ (hH j)),(hC.trans h2).trans q3⟩
 unfold Je3;split
 ·exact same
 ·rename_i hk;have hk:γm ρ s.m o.key=none:=by
   cases h:s.m.lookup o.key with
   | none=>exact JlD h
   | some _=>rw[h] at hk;exact absurd rfl hk
  obtain⟨g',h1,h2,h3,_⟩:=Jjw (ty:=o.ty) (sz:=o.sz) (dp:=o.dp) hS hk;have hcons:γm ρ ((o.key,.arr o.ty o.sz .nil o.dp true)::s.m)=upd (γm ρ s.m) o.key (some (.arr o.ty o.sz [] o.dp true)):=Ys _ _ _ _;rw[←hcons] at h1 h2 h3;have ren :∀(j:Key) (l l':E) (ty:TypeId) (sz:Nat) (dp:Bool),s.m.lookup j=some (.arr ty sz l' dp true)→l.lsame l'=true →
    ∃ g',Sim c g' (γm ρ ((o.key,.arr ty sz l' dp true)::(j,.dead)::s.m)) w∧Jf c g (γm ρ s.m) w g' (γm ρ ((o.key,.arr ty sz l' dp true)::(j,.dead)::s.m)) w ∧
     ∀v,VX c g (γm ρ s.m) w (.o j (lst ρ l).length) v→VX c g' (γm ρ ((o.key,.arr ty sz l' dp true)::(j,.dead)::s.m)) w (.o o.key (lst ρ l').length) v:=fun j l l' ty sz dp hj hl=>by
   have hj':=QS (ρ:=ρ) hj;have e:γm ρ ((o.key,.arr ty sz l' dp true)::(j,.dead)::s.m)=upd (upd (γm ρ s.m) j (some .dead)) o.key (some (.arr ty sz (lst ρ l') dp true)):=by
    rw[Ys,Ys];rfl
   obtain⟨g2,a1,a2,a3⟩:=Jnr hS hk hj';rw[e];refine⟨g2,a1,a2,fun v hv=>⟨hv.1,⟨_,uS1 _ _ _,by simp⟩,fun ty' sz' es' dp' rw' he=>?_⟩⟩;rw[uS1] at he;cases he;exact⟨Nat.le_refl _,fun _=>by rw[a3];exact(hv.2.2 _ _ _ _ _ hj').2 (lL1 hl ρ)⟩
  split
  ·rename_i t hat;split
   ·rename_i hl;refine slot t _ _ g' h1 h2 ?_;have hv:=hH t;rw[JeY hl] at hv;have hv:a.tmps.getD t undef=QF:=(Qr hv).1;rw[hv];exact h3
   ·rename_i j l hl;split
    ·split
     ·rename_i ty sz l' dp hj;split
      ·rename_i hll;obtain⟨g2,a1,a2,a3⟩:=ren j l l' ty sz dp hj hll;have hv:=hH t;rw[JeY hl] at hv;exact slot t (.o o.key l') _ g2 a1 a2 (a3 _ hv)
      ·exact same
     ·exact same
    ·exact same
   ·exact same
  ·rename_i k off hat;split
   ·rename_i cs hl;have hke:k≠o.key:=fun e=>by
     subst e;rw[QS hl] at hk;cases hk
    split
    ·rename_i hoff;have hbox:γm ρ ((o.key,.arr o.ty o.sz .nil o.dp true)::s.m) k=some (.box (γXs ρ cs)):=by
      rw[hcons,uO1 _ _ hke,QS hl];rfl
     refine cell k off cs (.o o.key .nil) _ g' h1 h2 hbox fun b us ty _ _ a3=>?_;have hget:(γXs ρ cs)[off]? = some (.d (.v QF)):=by rw[Jx,Jvl,hoff];rfl
     obtain⟨u,hu,hvu⟩:=JaV _ _ _ _ a3 hget;have hu':u=QF:=(Qr hvu).1;subst hu';exact⟨_,hu,h3⟩
    ·rename_i j l hoff;split
     ·split
      ·rename_i ty sz l' dp hj;split
       ·rename_i hll;obtain⟨g2,a1,a2,a3⟩:=ren j l l' ty sz dp hj hll;have hkj:k≠j:=fun e=>by subst e;rw[hl] at hj;cases hj
        have hbox:γm ρ ((o.key,.arr ty sz l' dp true)::(j,.dead)::s.m) k=some (.box (γXs ρ cs)):=by
         rw[Ys,Ys,uO1 _ _ hke,uO1 _ _ hkj,QS hl];rfl
        refine cell k off cs (.o o.key l') _ g2 a1 a2 hbox fun b us ty q1 q2 _=>?_;obtain⟨b0,us0,ty0,r1,r2,r3,_⟩:=hS.box k (γXs ρ cs) (by rw[QS hl];rfl);rw[(a2.box k _ (by rw[QS hl];rfl)).2,r1] at q1;cases q1;rw[r2] at q2;have e:us0=us:=by
         simp only[JuZ,Go.Obj.cells.injEq] at q2;have:=congrArg Array.toList q2.1;simpa using this
        subst e;have hget:(γXs ρ cs)[off]? = some (.o j (lst ρ l).length):=by rw[Jx,Jvl,hoff];rfl
        obtain⟨u,hu,hvu⟩:=JaV _ _ _ _ r3 hget;exact⟨u,hu,a3 u hvu⟩
       ·exact same
      ·exact same
     ·exact same
    ·exact same
   ·exact same
  ·rename_i j hat;split
   ·rename_i ty sz l' dp hj;have hj':=QS (ρ:=ρ) hj;have e:γm ρ ((o.key,.arr ty sz l' dp true)::(j,.dead)::s.m)=upd (upd (γm ρ s.m) j (some .dead)) o.key (some (.arr ty sz (lst ρ l') dp true)):=by
     rw[Ys,Ys];rfl
    obtain⟨g2,a1,a2,_⟩:=Jnr hS hk hj';rw[←e] at a1 a2;exact⟨g2,a1,fun t=>Xj a2 _ _ (hH t),hC.trans a2⟩
   ·exact same
  ·rename_i k off hat;split
   ·rename_i cs hl;split
    ·rename_i j l hoff;split
     ·rename_i ty sz l' dp rw0 hj;split
      ·rename_i hll;have hkj:k≠j:=fun e=>by subst e;rw[hl] at hj;cases hj
       have hj':=QS (ρ:=ρ) hj;have hboxs:γm ρ s.m k=some (.box (γXs ρ cs)):=by rw[QS hl];rfl
       obtain⟨b0,us0,ty0,r1,r2,r3,_⟩:=hS.box k (γXs ρ cs) hboxs;have hget:(γXs ρ cs)[off]? = some (.o j (lst ρ l).length):=by rw[Jx,Jvl,hoff];rfl
       obtain⟨u,hu,hvu⟩:=JaV _ _ _ _ r3 hget;have htake:(take (.o j (lst ρ l).length)).run (γm ρ s.m)=some (.s (lst ρ l'),upd (γm ρ s.m) j (some (.arr ty sz (lst ρ l') false false))):=by
        simp[take,MP.run,hj',γO,lL1 hll ρ]
       obtain⟨⟨fp,t1,t2⟩,t3,t4⟩:=UK (.o j (lst ρ l).length) u _ _ _ hS hvu htake;have e:γm ρ ((j,.arr ty sz l' false false)::s.m)=upd (γm ρ s.m) j (some (.arr ty sz (lst ρ l') false false)):=Ys _ _ _ _;rw[←e] at t2 t3 t4;have hbox:γm ρ ((j,.arr ty sz l' false false)::s.m) k=some (.box (γXs ρ cs)):=by rw[e,uO1 _ _ hkj,hboxs]
       refine cell k off cs (.d (.s l')) _ g t3 t4 hbox fun b us ty1 q1 q2 _=>?_;rw[r1] at q1;cases q1;rw[r2] at q2;have e2:us0=us:=by
        simp only[JuZ,Go.Obj.cells.injEq] at q2;have:=congrArg Array.toList q2.1;simpa using this
       subst e2;exact⟨u,hu,fp,t1,t2⟩
      ·exact same
     ·exact same
    ·exact same
   ·exact same
end
end Go.Tm
end
section
namespace Go.Tm
open Go.IntKind (i64)
section
variable {P:Program} {c:Cx P} {g:Gh} {m mk:Mem} {w:World} {a:Act} {ρ ρ':Env}
def sw (a b k:Key):Key:=bif Nat.beq k a then b else bif Nat.beq k b then a else k
theorem sw_a (a b:Key):sw a b a=b:=by simp[sw]
theorem sw_b (a b:Key):sw a b b=a:=by
 unfold sw
 by_cases h:b=a
 ·subst h;simp
 ·have:Nat.beq b a=false:=Bool.eq_false_iff.2 fun e=>h (Nat.eq_of_beq_eq_true e);simp[this]
theorem JqB {a b k:Key} (h1:k≠a) (h2:k≠b):sw a b k=k:=by
 have e1:Nat.beq k a=false:=Bool.eq_false_iff.2 fun e=>h1 (Nat.eq_of_beq_eq_true e);have e2:Nat.beq k b=false:=Bool.eq_false_iff.2 fun e=>h2 (Nat.eq_of_beq_eq_true e);simp[sw,e1,e2]
theorem JhX (a b k:Key):sw a b (sw a b k)=k:=by
 by_cases h1:k=a
 ·subst h1;rw[sw_a,sw_b]
 ·by_cases h2:k=b
  ·subst h2;rw[sw_b,sw_a]
  ·rw[JqB h1 h2,JqB h1 h2]
def swK (a b:Key) (s:SSt):SSt:=⟨s.sl.map fun p=>(p.1,p.2.ren (sw a b)),s.m.map fun p=>(sw a b p.1,p.2.ren (sw a b))⟩
theorem Jfp {α:Type} (a b:Key) (f:α→α) :∀(l:List (Nat×α)) (k:Nat),(l.map fun p=>(sw a b p.1,f p.2)).lookup k=(l.lookup (sw a b k)).map f
 | [],k=>rfl
 | (j,x)::l,k=>by
  simp only[Ju8,List.lookup_cons]
  by_cases h:sw a b k=j
  ·subst h;rw[JhX];simp
  ·have h2 : ¬k=sw a b j:=fun e=>h (by rw[e,JhX]);have hb:(k == sw a b j)=false:=by simpa using h2
   have hb':(sw a b k == j)=false:=by simpa using h
   simp only[hb,hb',Jfp a b f l k]
theorem Jre (x y:Key) {nl:Nat} (hx:nl≤x) (hy:nl≤y) {s:SSt} {g0:Gh} {m0:Mem} {w0:World} (hl :∀k,m0 k≠none→k<nl) (hS:Sim c g (γm ρ s.m) w) (hH:Jw c g (γm ρ s.m) w (γs ρ s.sl) a) (hC:Jf c g0 m0 w0 g (γm ρ s.m) w) :
  ∃ g',Sim c g' (γm ρ (swK x y s).m) w∧Jw c g' (γm ρ (swK x y s).m) w (γs ρ (swK x y s).sl) a∧Jf c g0 m0 w0 g' (γm ρ (swK x y s).m) w:=by
 have hm :∀k,γm ρ (swK x y s).m k=(γm ρ s.m (sw x y k)).map (Obj.ren (sw x y)):=by
  intro k;unfold γm swK;simp only[Jfp,Option.map_map];cases s.m.lookup (sw x y k) with
  | none=>rfl
  | some o=>simp only[Ju2,Function.comp,JaY]
 have hs :∀t,γs ρ (swK x y s).sl t=(γs ρ s.sl t).ren (sw x y):=by
  intro t;unfold γs swK;simp only[Zf];cases s.sl.lookup t with
  | none=>rfl
  | some v=>simp only[Ju2,JdZ]
 generalize γm ρ (swK x y s).m=m2 at *;generalize γs ρ (swK x y s).sl=sl2 at *;generalize γm ρ s.m=m at *
 let g':Gh:=⟨fun k=>g.bl (sw x y k),fun k=>g.hd (sw x y k),fun k=>g.fd (sw x y k),fun b=>(g.ow b).map (sw x y)⟩
 have hMut :∀b,Mut g' m2 b→Mut g m b:=by
  rintro b ⟨k,o,hk,hr,hb⟩;rw[hm] at hk;cases ho:m (sw x y k) with
  | none=>rw[ho] at hk;cases hk
  | some o0 =>
   rw[ho] at hk;simp only[Ju2,JuZ] at hk;exact⟨_,o0,ho,by rw[←JbL (ρ:=sw x y) o0,hk];exact hr,Vz (g:=g) (k:=sw x y k) hb rfl rfl (by rw[←hk,VZ])⟩
 have hF :∀fp,(∀b∈fp,b<w.heap.size)→Qf c g m fp→Qf c g' m2 fp:=fun fp _ hf b hb=>⟨fun h=>(hf b hb).1 (hMut b h),(hf b hb).2⟩;have hat :∀k,True→m2 (sw x y k)=(m k).map (Obj.ren (sw x y))∧g'.bl (sw x y k)=g.bl k∧g'.hd (sw x y k)=g.hd k∧g'.fd (sw x y k)=g.fd k:=by
  intro k _;refine⟨by rw[hm,JhX],?_,?_,?_⟩ <;> simp only[g',JhX]
 have hPart:JoF c g m w c g' m2 (sw x y) (sw x y) (fun _=>True):=⟨fun k o _=>⟨trivial,JhX _ _ _⟩,hat,fun _ _ _ _ _ _=>trivial⟩;refine⟨g',hPart.sim hS hS.frame hF (fun k b _ how=>by simp only[g',how,Ju2]) (fun b k hb=>?_),fun t=>?_,?_⟩
 ·cases ho:g.ow b with
  | none=>simp[g',ho] at hb
  | some k0=>exact hS.live b k0 ho
 ·rw[hs];exact Jev (K:=fun _=>True) (fun k hk=>⟨(hat k hk).1,(hat k hk).2.1,(hat k hk).2.2.1⟩) hF _ _ (fun _ _=>trivial) (hH t)
 ·have hne :∀k,m0 k≠none→sw x y k=k:=fun k hk=>by
   have:=hl k hk;exact JqB (Nat.ne_of_lt (Nat.lt_of_lt_of_le this hx)) (Nat.ne_of_lt (Nat.lt_of_lt_of_le this hy))
  refine⟨hC.size,fun b h1 h2 h3=>⟨(hC.pure b h1 h2 h3).1,fun h=>(hC.pure b h1 h2 h3).2 (hMut b h)⟩,fun k cs hk=>?_,fun k ty sz es dp rw hk=>?_,fun k hk=>?_⟩
  ·have he:=hne k (by rw[hk];simp);obtain⟨⟨cs',h1⟩,h2⟩:=hC.box k cs hk;exact⟨⟨U1 (sw x y) cs',by rw[hm,he,h1];rfl⟩,by simp only[g',he];exact h2⟩
  ·have he:=hne k (by rw[hk];simp);rcases hC.arr k ty sz es dp rw hk with h | ⟨es',dp',rw',h1,h2⟩
   ·exact .inl (by rw[hm,he,h];rfl)
   ·refine .inr ⟨es',dp',rw',by rw[hm,he,h1];rfl,?_⟩;simp only[g',he];exact h2
  ·have he:=hne k (by rw[hk];simp);rw[hm,he,hC.dead k hk];rfl
theorem JoC {m2:Mem} (hS:Sim c g m w) (h :∀j,m2 j=m j∨∃ cs cs',m j=some (.box cs)∧m2 j=some (.box cs')∧∀us,VXs c g m w cs us→VXs c g m w cs' us) :
  Sim c g m2 w∧(∀x v,VX c g m w x v→VX c g m2 w x v)∧∀g0 m0 w0,Jf c g0 m0 w0 g m w→Jf c g0 m0 w0 g m2 w:=by
 have hlike :∀j,Jmz m m2 j:=fun j=>by
  rcases h j with e | ⟨cs,cs',e1,e2,_⟩
  ·exact .inl e
  ·exact .inr ⟨cs,cs',e1,e2⟩
 have hM :∀b,Mut g m2 b→Mut g m b:=by
  rintro b ⟨k,o,hk,hr,hb⟩;rcases h k with e | ⟨cs,cs',e1,e2,_⟩
  ·exact⟨k,o,by rw[←e];exact hk,hr,hb⟩
  ·rw[e2] at hk;cases hk;exact⟨k,_,e1,rfl,.inl (hb.resolve_right fun h=>by cases h.1)⟩
 have hVX :∀x v,VX c g m w x v→VX c g m2 w x v:=fun x v hx=>JlJ hM x v (fun k _=>hlike k) hx;refine⟨Sim.restrict hS fun k o hk=>?_,hVX,fun g0 m0 w0 hC=>⟨hC.size,fun b h1 h2 h3=>⟨(hC.pure b h1 h2 h3).1,fun hm=>(hC.pure b h1 h2 h3).2 (hM b hm)⟩,fun k cs hk=>?_,fun k ty sz es dp rw hk=>?_,fun k hk=>?_⟩⟩
 ·rcases h k with e | ⟨cs,cs',e1,e2,e3⟩
  ·rw[e] at hk;refine⟨⟨o,hk,rfl⟩,fun cs hcs=>?_,fun _ _ _ _ _ _=>hk⟩;subst hcs;obtain⟨b,us,ty,a1,a2,a3,a4⟩:=hS.box k cs hk;exact⟨b,us,ty,a1,a2,Ut hM _ _ (fun i _=>hlike i) a3,a4⟩
  ·rw[e2] at hk;simp only[JuZ] at hk;subst hk;refine⟨⟨_,e1,rfl⟩,fun cs1 hcs=>?_,fun _ _ _ _ _ he=>by cases he⟩;cases hcs;obtain⟨b,us,ty,a1,a2,a3,a4⟩:=hS.box k cs e1;exact⟨b,us,ty,a1,a2,Ut hM _ _ (fun i _=>hlike i) (e3 us a3),a4⟩
 ·obtain⟨⟨cs1,e1⟩,e2⟩:=hC.box k cs hk;refine⟨?_,e2⟩;rcases hlike k with e | ⟨_,cs2,_,e⟩
  ·exact⟨cs1,by rw[e];exact e1⟩
  ·exact⟨cs2,e⟩
 ·have:=hC.arr k ty sz es dp rw hk;rcases hlike k with e | ⟨_,cs2,e1,e⟩
  ·rw[e];exact this
  ·rcases this with h | ⟨_,_,_,h,_⟩
   ·rw[e1] at h;cases h
   ·rw[e1] at h;cases h
 ·have:=hC.dead k hk;rcases hlike k with e | ⟨_,cs2,e1,e⟩
  ·rw[e];exact this
  ·rw[e1] at this;cases this
mutual
def tkV (k:Key) (l:E):SV→SV
 | .o j x=>bif Nat.beq j k&&x.same l then .d (.s l) else .o j x
 | .g cs=> .g (JmG k l cs)
 | .t cs=> .t (JmG k l cs)
 | .f fn cs=> .f fn (JmG k l cs)
 | v=>v
def JmG (k:Key) (l:E):List SV→List SV
 | []=>[]
 | c::cs=>tkV k l c::JmG k l cs
end
def tkO (k:Key) (l:E):Ji→Ji
 | .box cs=> .box (JmG k l cs)
 | o=>o
mutual
theorem JnN {k:Key} {l:E} (h :∀v,VX c g m w (.o k (lst ρ l).length) v→VX c g m w (.d (.s (lst ρ l))) v) :∀(x:SV) (v:Value),VX c g m w (γX ρ x) v→VX c g m w (γX ρ (tkV k l x)) v
 | .o j x,v,hv=>by
  simp only[tkV];cases hb:Nat.beq j k&&x.same l with
  | false=>exact hv
  | true =>
   simp only[Ju0,Nat.beq_eq] at hb;obtain⟨rfl,h2⟩:=hb;simp only[cond_true,γX] at hv ⊢;rw[Ji8 h2] at hv;exact h v hv
 | .g cs,v,⟨vs,e,h1,h2⟩=>⟨vs,e,JaX h cs vs h1,h2⟩
 | .t cs,v,⟨vs,e,h1⟩=>⟨vs,e,JaX h cs vs h1⟩
 | .f fn cs,v,⟨vs,e,h1⟩=>⟨vs,e,JaX h cs vs h1⟩
 | .d _,v,h1=>h1
 | .p _ _,v,h1=>h1
 | .e _ _ _ _,v,h1=>h1
 | .u,v,h1=>h1
theorem JaX {k:Key} {l:E} (h :∀v,VX c g m w (.o k (lst ρ l).length) v→VX c g m w (.d (.s (lst ρ l))) v) :∀(xs:List SV) (vs:List Value),VXs c g m w (γXs ρ xs) vs→VXs c g m w (γXs ρ (JmG k l xs)) vs
 | [],vs,hv=>hv
 | x::xs,vs,⟨v,vs',e,h1,h2⟩=>⟨v,vs',e,JnN h x v h1,JaX h xs vs' h2⟩
end
def Jfb (k:Key) (s:SSt):SSt:=match s.m.lookup k with
 | some (.arr ty sz l _ _)=>⟨s.sl.map fun p=>(p.1,tkV k l p.2),((k,.arr ty sz l false false)::s.m).map fun p=>(p.1,tkO k l p.2)⟩
 | _=>s
theorem Jpm (k:Key) {s:SSt} {g0:Gh} {m0:Mem} {w0:World} (hS:Sim c g (γm ρ s.m) w) (hH:Jw c g (γm ρ s.m) w (γs ρ s.sl) a) (hC:Jf c g0 m0 w0 g (γm ρ s.m) w) :
  ∃ g',Sim c g' (γm ρ (Jfb k s).m) w∧Jw c g' (γm ρ (Jfb k s).m) w (γs ρ (Jfb k s).sl) a∧Jf c g0 m0 w0 g' (γm ρ (Jfb k s).m) w:=by
 unfold Jfb;split
 ·rename_i ty sz l dp rw hk;have hmk:=QS (ρ:=ρ) hk;have hm1:γm ρ ((k,.arr ty sz l false false)::s.m)=upd (γm ρ s.m) k (some (.arr ty sz (lst ρ l) false false)):=Ys _ _ _ _;have hm2 :∀j,γm ρ (((k,.arr ty sz l false false)::s.m).map fun p=>(p.1,tkO k l p.2)) j=(((k,.arr ty sz l false false)::s.m).lookup j).map fun o=>γO ρ (tkO k l o):=by
   intro j;unfold γm;rw[Zf,Option.map_map];rfl
  have hm1' :∀j,γm ρ ((k,.arr ty sz l false false)::s.m) j=(((k,.arr ty sz l false false)::s.m).lookup j).map (γO ρ):=fun j=>rfl;generalize γm ρ (((k,.arr ty sz l false false)::s.m).map fun p=>(p.1,tkO k l p.2))=m2 at *;have hrun:(take (.o k (lst ρ l).length)).run (γm ρ s.m)=some (.s (lst ρ l),upd (γm ρ s.m) k (some (.arr ty sz (lst ρ l) false false))):=by
   simp only[take,MP.run,hmk];simp only[γO,if_true,MP.run,hmk]
  have hhd:VX c g (γm ρ s.m) w (.o k (lst ρ l).length) (g.hd k):=by
   obtain⟨h1,_,_⟩:=hS.arr k ty sz (lst ρ l) dp rw hmk;refine⟨?_,⟨_,hmk,by simp[γO]⟩,fun ty1 sz1 es1 dp1 rw1 h=>?_⟩
   ·rcases h1 with ⟨_,h,_⟩ | ⟨b,cap,cs,_,h,_⟩
    ·rw[h];rfl
    ·rw[h];rfl
   ·rw[hmk] at h;simp only[γO,JuZ,Obj.arr.injEq] at h;obtain⟨_,_,rfl,_⟩:=h;exact⟨Nat.le_refl _,fun _=>rfl⟩
  obtain⟨hRd,hS1,hC1⟩:=UK _ _ _ _ _ hS hhd hrun;have hH1 :∀x v,VX c g (γm ρ s.m) w x v→VX c g (upd (γm ρ s.m) k (some (.arr ty sz (lst ρ l) false false))) w x v:=fun x v=>Xj hC1 x v;have hC2:=hC.trans hC1;rw[hm1] at hm1';have hu:upd (γm ρ s.m) k (some (.arr ty sz (lst ρ l) false false)) k=some (.arr ty sz (lst ρ l) false false):=uS1 _ _ _;have hH:Jw c g (upd (γm ρ s.m) k (some (.arr ty sz (lst ρ l) false false))) w (γs ρ s.sl) a:=fun t=>hH1 _ _ (hH t);generalize upd (γm ρ s.m) k (some (.arr ty sz (lst ρ l) false false))=m1 at *;have htk :∀v,VX c g m1 w (.o k (lst ρ l).length) v→VX c g m1 w (.d (.s (lst ρ l))) v:=by
   rintro v ⟨_,_,h⟩;have:=(h _ _ _ _ _ hu).2 rfl;rw[this];exact hRd
  obtain⟨r1,r2,r3⟩:=JoC (m2:=m2) hS1 fun j=>by
   rw[hm1',hm2];cases ((k,Ji.arr ty sz l false false)::s.m).lookup j with
   | none=>exact .inl rfl
   | some o =>
    cases o with
    | box cs=>exact .inr ⟨_,_,rfl,rfl,fun us h=>JaX htk cs us h⟩
    | _=>exact .inl rfl
  refine⟨g,r1,fun t=>r2 _ _ ?_,r3 _ _ _ hC2⟩;have hv:=hH t;unfold γs at hv ⊢;rw[Zf];cases hlk:s.sl.lookup t with
  | none=>trivial
  | some x =>
   rw[hlk] at hv;exact JnN htk x _ hv
 ·exact⟨g,hS,hH,hC⟩
mutual
def misV:SV→SV→List (Key×Option Key)
 | .o k _,.o j _=>bif Nat.beq k j then [] else [(j,some k)]
 | .d (.s _),.o j _=>[(j,none)]
 | .g ps,.g vs=>JkU ps vs
 | .t ps,.t vs=>JkU ps vs
 | _,_=>[]
def JkU:List SV→List SV→List (Key×Option Key)
 | p::ps,v::vs=>misV p v++JkU ps vs
 | _,_=>[]
end
def JhC (nl:Nat) (q:Key×Option Key) (s:SSt):SSt:=match q with
 | (j,some k)=>bif Nat.ble nl j&&Nat.ble nl k then swK k j s else s
 | (j,none)=>bif Nat.ble nl j then Jfb j s else s
def JeC (nl:Nat) (t:Tmp) (p:SV):Nat→SSt→SSt
 | 0,s=>s
 | n+1,s=>match s.sl.lookup t with
  | some v=>match misV p v with
   | q::_=>JeC nl t p n (JhC nl q s)
   | []=>s
  | none=>s
def JjZ (nl:Nat) (k:Key) (ps:List SV):Nat→SSt→SSt
 | 0,s=>s
 | n+1,s=>match s.m.lookup k with
  | some (.box vs)=>match JkU ps vs with
   | q::_=>JjZ nl k ps n (JhC nl q s)
   | []=>s
  | _=>s
def JbB (nl:Nat):SSl→SSt→SSt
 | [],s=>s
 | (t,p)::l,s=>JbB nl l (JeC nl t p 16 s)
def Jdc (nl:Nat):Yg→SSt→SSt
 | [],s=>s
 | (k,.box ps)::l,s=>Jdc nl l (JjZ nl k ps 16 s)
 | _::l,s=>Jdc nl l s
def SSt.like (nl:Nat) (t s:SSt):SSt:=Jdc nl t.m (JbB nl t.sl s.fresh)
section
variable {g0:Gh} {m0:Mem} {w0:World} {nl:Nat} (hl :∀k,m0 k≠none→k<nl)
include hl
theorem Jlu (q:Key×Option Key) {g:Gh} {s:SSt} (hS:Sim c g (γm ρ s.m) w) (hH:Jw c g (γm ρ s.m) w (γs ρ s.sl) a) (hC:Jf c g0 m0 w0 g (γm ρ s.m) w) :
  ∃ g',Sim c g' (γm ρ (JhC nl q s).m) w∧Jw c g' (γm ρ (JhC nl q s).m) w (γs ρ (JhC nl q s).sl) a∧Jf c g0 m0 w0 g' (γm ρ (JhC nl q s).m) w:=by
 obtain⟨j,o⟩:=q;cases o with
 | some k =>
  simp only[JhC];cases hb:Nat.ble nl j&&Nat.ble nl k with
  | false=>exact⟨g,hS,hH,hC⟩
  | true =>
   simp only[Ju0,Nat.ble_eq] at hb;exact Jre k j hb.2 hb.1 hl hS hH hC
 | none =>
  simp only[JhC];cases hb:Nat.ble nl j with
  | false=>exact⟨g,hS,hH,hC⟩
  | true=>exact Jpm j hS hH hC
theorem Jhw (t:Tmp) (p:SV) :∀(n:Nat) {g:Gh} {s:SSt},Sim c g (γm ρ s.m) w→Jw c g (γm ρ s.m) w (γs ρ s.sl) a→Jf c g0 m0 w0 g (γm ρ s.m) w →
  ∃ g',Sim c g' (γm ρ (JeC nl t p n s).m) w∧Jw c g' (γm ρ (JeC nl t p n s).m) w (γs ρ (JeC nl t p n s).sl) a∧Jf c g0 m0 w0 g' (γm ρ (JeC nl t p n s).m) w
 | 0,g,s,hS,hH,hC=>⟨g,hS,hH,hC⟩
 | n+1,g,s,hS,hH,hC=>by
  simp only[JeC];split
  ·split
   ·obtain⟨g1,h1,h2,h3⟩:=Jlu hl _ hS hH hC;exact Jhw t p n h1 h2 h3
   ·exact⟨g,hS,hH,hC⟩
  ·exact⟨g,hS,hH,hC⟩
theorem JkX (k:Key) (ps:List SV) :∀(n:Nat) {g:Gh} {s:SSt},Sim c g (γm ρ s.m) w→Jw c g (γm ρ s.m) w (γs ρ s.sl) a→Jf c g0 m0 w0 g (γm ρ s.m) w →
  ∃ g',Sim c g' (γm ρ (JjZ nl k ps n s).m) w∧Jw c g' (γm ρ (JjZ nl k ps n s).m) w (γs ρ (JjZ nl k ps n s).sl) a∧Jf c g0 m0 w0 g' (γm ρ (JjZ nl k ps n s).m) w
 | 0,g,s,hS,hH,hC=>⟨g,hS,hH,hC⟩
 | n+1,g,s,hS,hH,hC=>by
  simp only[JjZ];split
  ·split
   ·obtain⟨g1,h1,h2,h3⟩:=Jlu hl _ hS hH hC;exact JkX k ps n h1 h2 h3
   ·exact⟨g,hS,hH,hC⟩
  ·exact⟨g,hS,hH,hC⟩
theorem Jfy :∀(l:SSl) {g:Gh} {s:SSt},Sim c g (γm ρ s.m) w→Jw c g (γm ρ s.m) w (γs ρ s.sl) a→Jf c g0 m0 w0 g (γm ρ s.m) w →
  ∃ g',Sim c g' (γm ρ (JbB nl l s).m) w∧Jw c g' (γm ρ (JbB nl l s).m) w (γs ρ (JbB nl l s).sl) a∧Jf c g0 m0 w0 g' (γm ρ (JbB nl l s).m) w
 | [],g,s,hS,hH,hC=>⟨g,hS,hH,hC⟩
 | (t,p)::l,g,s,hS,hH,hC=>by
  obtain⟨g1,h1,h2,h3⟩:=Jhw hl t p 16 hS hH hC;exact Jfy l h1 h2 h3
theorem JaS :∀(l:Yg) {g:Gh} {s:SSt},Sim c g (γm ρ s.m) w→Jw c g (γm ρ s.m) w (γs ρ s.sl) a→Jf c g0 m0 w0 g (γm ρ s.m) w →
  ∃ g',Sim c g' (γm ρ (Jdc nl l s).m) w∧Jw c g' (γm ρ (Jdc nl l s).m) w (γs ρ (Jdc nl l s).sl) a∧Jf c g0 m0 w0 g' (γm ρ (Jdc nl l s).m) w
 | [],g,s,hS,hH,hC=>⟨g,hS,hH,hC⟩
 | (k,.box ps)::l,g,s,hS,hH,hC=>by
  obtain⟨g1,h1,h2,h3⟩:=JkX hl k ps 16 hS hH hC;exact JaS l h1 h2 h3
 | (k,.arr _ _ _ _ _)::l,g,s,hS,hH,hC=>JaS l hS hH hC
 | (k,.dead)::l,g,s,hS,hH,hC=>JaS l hS hH hC
theorem JgQ (t:SSt) {s:SSt} {g:Gh} (hS:Sim c g (γm ρ s.m) w) (hH:Jw c g (γm ρ s.m) w (γs ρ s.sl) a) (hC:Jf c g0 m0 w0 g (γm ρ s.m) w) :
  ∃ g',Sim c g' (γm ρ (SSt.like nl t s).m) w∧Jw c g' (γm ρ (SSt.like nl t s).m) w (γs ρ (SSt.like nl t s).sl) a∧Jf c g0 m0 w0 g' (γm ρ (SSt.like nl t s).m) w:=by
 obtain⟨e1,e2⟩:=Jih ρ s;obtain⟨g1,h1,h2,h3⟩:=Jfy hl t.sl (s:=s.fresh) (by rw[e2];exact hS) (by rw[e1,e2];exact hH) (by rw[e2];exact hC);exact JaS hl t.m h1 h2 h3
end
end
end Go.Tm
end
section
open Go.RowKit
namespace Go.Tm
open Go.IntKind (i64)
structure Inn where
 t:TypeId
 a:Operand
 xk:Tmp
 tS:Tmp
 tK:Tmp
 tR:Tmp
 tD:Tmp
 f:FuncId
def Uo (ops:Array Oper):Option Inn :=
 match ops[ops.size-4]?,ops[ops.size-3]?,ops[ops.size-2]?,ops[ops.size-1]? with
 | some ⟨some tS,.load t a,_,_,_,none⟩,some ⟨some tK,.move (.tmp xk),_,_,_,none⟩,some ⟨some tR,.call cl,_,_,_,none⟩,some ⟨some tD,.assign (.tmp r),_,_,_,none⟩ =>
  match cl.callee,cl.args.toList with
  | .value (.func f),[.tmp s,.tmp k]=>if 4≤ops.size∧s=tS∧k=tK∧r=tR∧xk≠tS∧tS≠tK then some ⟨t,a,xk,tS,tK,tR,tD,f⟩ else none
  | _,_=>none
 | _,_,_,_=>none
def V5 (_:Program) (_:FuncId→Option Sig) (_:Inn) (_:SSl) (_:Yg) (_:Nat):Option (List I×SSl×Yg×Nat):=none
section
variable {B:Tb} {ρ:Env} {sg:FuncId→Option Sig} {P:Program} {ops:Array Oper} {c:Cx P} {g:Gh} {w:World} {a:Act} {Q:Exit→Act→World→Prop}
theorem JkL (hB:BOk sg B) (hT0:Wz c (Ye sg B)) {q:Inn} {sl sl':SSl} {m m':Yg} {n n':Nat} {is:List I} (hS:Sim c g (γm ρ m) w) (hH:Jw c g (γm ρ m) w (γs ρ sl) a) (hd:UR a.tmps.size ops=true)
  (hq:Uo ops=some q) (h:V5 P sg q sl m n=some (is,sl',m',n')) (his :∀i∈is,i.holds B ρ)
  (hQ :∀a' w' g',Sim c g' (γm ρ m') w'→Jw c g' (γm ρ m') w' (γs ρ sl') a'→Jf c g (γm ρ m) w g' (γm ρ m') w'→a'.defers=a.defers→a'.tmps.size=a.tmps.size→Q .normal a' w') :
  4≤ops.size∧wpOps P ops Q [ops.size-4,ops.size-3,ops.size-2,ops.size-1] a w:=by
 unfold V5 at h;cases h
theorem Jgf {q:Inn} {sl sl':SSl} {m m':Yg} {n n':Nat} {is:List I} (hmono :∀(p:SMP SV) (m:Yg) (n:Nat) (r:Jqh SV),p.run m n=some r→n≤r.n) (h:V5 P sg q sl m n=some (is,sl',m',n')):n≤n':=by
 unfold V5 at h;cases h
end
end Go.Tm
end
section
namespace Go.Tm
open Go.IntKind (i64)
inductive Out where
 | norm
 | exit (id:Nat)
 | ret
def Out.exitOf:Out→Exit
 | .norm=> .normal
 | .exit id=> .exit id
 | .ret=> .ret
structure JcS where
 slots:List Tmp:=[]
 cells:List (Key×Nat):=[]
 arrs:List Key:=[]
 drop:List Tmp:=[]
 dropk:List Key:=[]
structure Kr where
 keep:List Tmp:=[]
 nl:Nat:=0
 own:List (Nat×JiN):=[]
 loops:List (Nat×JcS):=[]
 deep:Bool:=false
 no:List Tmp:=[]
 inner:List Nat:=[]
 bor:List Tmp:=[]
def Kr.dp (H:Kr):Oper→Bool:=Qh.dp { deep:=H.deep,no:=H.no,bor:=H.bor }
def Kr.bo (H:Kr):Oper→Bool:=Qh.bo { deep:=H.deep,no:=H.no,bor:=H.bor }
def Jrl:SV→Nat→SV×Nat
 | .d (.vi k _),n=>(.d (.vi k (.v n)),n+1)
 | .d (.vb _),n=>(.d (.vb (.v n)),n+1)
 | .d (.s _),n=>(.d (.s (.v n)),n+1)
 | .d (.vc (.slice none 0 0)),n=>(.d (.s (.v n)),n+1)
 | .d _,n=>(.d (.da n),n+1)
 | .o _ _,n=>(.d (.s (.v n)),n+1)
 | .g cs,n=>let r:=go cs n; (.g r.1,r.2)
 | v,n=>(v,n)
where
 go:List SV→Nat→List SV×Nat
  | [],n=>([],n)
  | c::cs,n=>let r:=Jrl c n;let q:=go cs r.2; (r.1::q.1,q.2)
def reO (k:Key) (l l':E):SV→SV
 | .o j x=>if j == k&&x.same l then .o j l' else .o j x
 | .g cs=> .g (go cs)
 | v=>v
where
 go:List SV→List SV
  | []=>[]
  | c::cs=>reO k l l' c::go cs
def Jsb (k:Key) (l l':E):Ji→Ji
 | .box cs=> .box (reO.go k l l' cs)
 | o=>o
def JgL:List Key→SSt→Nat→SSt×Nat
 | [],s,n=>(s,n)
 | k::ks,s,n=>match s.m.lookup k with
  | some (.arr ty sz l dp rw) =>
   let s':SSt:=⟨s.sl.map fun p=>(p.1,reO k l (.v n) p.2),s.m.map fun p=>if p.1 == k then(k,.arr ty sz (.v n) dp rw) else(p.1,Jsb k l (.v n) p.2)⟩
   JgL ks s' (n+1)
  | _=>JgL ks s n
def Jep (vs:List Tmp):SSl→Nat→SSl×Nat
 | [],n=>([],n)
 | (t,v)::sl,n=>if vs.contains t then let r:=Jrl v n;let q:=Jep vs sl r.2; ((t,r.1)::q.1,q.2) else let q:=Jep vs sl n; ((t,v)::q.1,q.2)
def Jav:List (Key×Nat)→Yg→Nat→Yg×Nat
 | [],m,n=>(m,n)
 | (k,off)::cs,m,n=>match m.lookup k with
  | some (.box xs)=>match xs[off]? with
   | some v=>let r:=Jrl v n;Jav cs ((k,.box (xs.set off r.1))::m) r.2
   | none=>Jav cs m n
  | _=>Jav cs m n
def Jic {α:Type}:List (Nat×α)→List Nat→List (Nat×α)
 | [],_=>[]
 | (k,v)::l,Jgw=>if Jgw.contains k then Jic l Jgw else(k,v)::Jic l (k::Jgw)
def genT (h:JcS) (s:SSt) (n:Nat):SSt×Nat :=
 let s:=s.fresh
 let s0:SSt:=⟨(Jic s.sl []).filter fun p=>!h.drop.contains p.1,(Jic s.m []).filter fun p=>!h.dropk.contains p.1⟩
 let a:=JgL h.arrs s0 n
 let b:=Jep h.slots a.1.sl a.2
 let c:=Jav h.cells a.1.m b.2
 (⟨b.1,Jic c.1 []⟩,c.2-n)
def YR:Code→Nat
 | .region id _ _=>id
 | .seq a _=>YR a
 | .block _ a=>YR a
 | .cond _ a _=>YR a
 | .loop a=>YR a
 | _=>1000000
def Y9 (l:List (Nat×JiN)) (id:Nat) (s:SSt):SSt:=l.foldl (fun s o=>if o.1 == id then Je3 o.2 s else s) s
def JiV (H:Kr) (id:Nat):JcS:=(H.loops.lookup id).getD {}
def Jp4 (c:Operand) (t:Bool) (s:SSt):SSt:=match c with
 | .tmp d=>⟨(d,.d (.vb (Ui t)))::s.sl,s.m⟩
 | _=>s
def Jgd (ops:Array Oper) (draw:Bool) (tl:Trs):Bool:=!draw||(sok ops&&(un ops).all fun p=>apart (tl.getD p.1 []) (tl.getD p.2 []))
mutual
def SV.under (c:Nat):SV→Bool
 | .d e=>e.under c
 | .g cs=>WT c cs
 | .o _ l=>l.under c
 | .p _ _=>true
 | .e _ l i _=>l.under c&&i.under c
 | .f _ cs=>WT c cs
 | .t cs=>WT c cs
 | .u=>true
def WT (c:Nat):List SV→Bool
 | []=>true
 | v::vs=>v.under c&&WT c vs
end
def Ji.under (c:Nat):Ji→Bool
 | .box cs=>WT c cs
 | .arr _ _ l _ _=>l.under c
 | .dead=>true
def SSt.under (c:Nat) (s:SSt):Bool:=s.sl.all (fun p=>p.2.under c)&&s.m.all (fun p=>p.2.under c)
mutual
theorem Jix {c:Nat} {ρ ρ':Env} (h:Jz c ρ ρ') :∀v:SV,v.under c=true→γX ρ' v=γX ρ v
 | .d e,hu=>by simp only[γX,dat];rw[Ym h e (by simpa[SV.under] using hu)]
 | .g cs,hu=>by simp only[γX];rw[Uc h cs (by simpa[SV.under] using hu)]
 | .t cs,hu=>by simp only[γX];rw[Uc h cs (by simpa[SV.under] using hu)]
 | .f _ cs,hu=>by simp only[γX];rw[Uc h cs (by simpa[SV.under] using hu)]
 | .o _ l,hu=>by simp only[γX,lst];rw[Ym h l (by simpa[SV.under] using hu)]
 | .p _ _,_=>rfl
 | .e _ l i _,hu=>by
  simp only[SV.under,Ju0] at hu;simp only[γX,lst,int];rw[Ym h l hu.1,Ym h i hu.2]
 | .u,_=>rfl
theorem Uc {c:Nat} {ρ ρ':Env} (h:Jz c ρ ρ') :∀vs:List SV,WT c vs=true→γXs ρ' vs=γXs ρ vs
 | [],_=>rfl
 | v::vs,hu=>by
  simp only[WT,Ju0] at hu;simp only[γXs];rw[Jix h v hu.1,Uc h vs hu.2]
end
theorem Jpf {c:Nat} {ρ ρ':Env} (h:Jz c ρ ρ') (o:Ji) (hu:o.under c=true):γO ρ' o=γO ρ o:=by
 cases o with
 | box cs=>simp only[γO];rw[Uc h cs hu]
 | arr ty sz l dp rw=>simp only[γO,lst];rw[Ym h l hu]
 | dead=>rfl
theorem JnP {c:Nat} {ρ ρ':Env} (h:Jz c ρ ρ') {s:SSt} (hu:s.under c=true):γs ρ' s.sl=γs ρ s.sl∧γm ρ' s.m=γm ρ s.m:=by
 unfold SSt.under at hu;simp only[Ju0] at hu;refine⟨?_,?_⟩
 ·funext t
  unfold γs;cases hl:s.sl.lookup t with
  | none=>rfl
  | some v=>exact Jix h v (Jvd.1 hu.1 (t,v) (Yz _ _ _ hl))
 ·funext k
  unfold γm;cases hl:s.m.lookup k with
  | none=>rfl
  | some v=>simp only[Ju2];rw[Jpf h v (Jvd.1 hu.2 (k,v) (Yz _ _ _ hl))]
def Jq8 (ops:Array Oper):Bool:=ops.toList.any fun o=>o.guard.isNone&&(match o.op with | .panic _=>true | _=>false)
def JcC (P:Program) (ops:Array Oper) (draw:Bool):Option (Tmp×Operand):=if draw then none else match ops[ops.size-1]? with
 | some ⟨some d,.binOp .eql t x (.const (.slice none 0 0)) _,_,_,_,none⟩=>match P.underlying t with
  | some (.slice _)=>some (d,x)
  | _=>none
 | _=>none
def sxC (P:Program) (sg:FuncId→Option Sig) (H:Kr):Code→SSt→Nat→(Out→SSt→Nat→Option R)→Option R
 | .skip,s,n,k=>k .norm s n
 | .region id ops draw,s,n,k=>if Jq8 ops then some (.i (.chk .ff) (.done [])) else
  let s:=Y9 H.own id s
  match if H.inner.contains id && !draw then Uo ops else none with
  | some q=>Kj P sg H.dp H.bo ops (List.range' 0 (ops.size-4)) s.sl s.m n [] fun sl m n _=>match V5 P sg q sl m n with
   | some r=>match k .norm ⟨X9 H.keep r.2.1,r.2.2.1⟩ r.2.2.2 with
    | some x=>some (JaD r.1 x)
    | none=>none
   | none=>none
  | none =>
  match JcC P ops draw with
  | none=>Kj P sg H.dp H.bo ops (List.range' 0 ops.size) s.sl s.m n [] fun sl m n tl =>
   match Jgd ops draw tl with
   | true=>k .norm ⟨X9 H.keep sl,m⟩ n
   | false=>none
  | some (d,x)=>Kj P sg H.dp H.bo ops (List.range' 0 (ops.size-1)) s.sl s.m n [] fun sl m n _=>match sop sl x with
   | .d (.s l)=>if SSt.under n ⟨sl,m⟩ then match k .norm ⟨X9 H.keep ((d,.d (.vb .tt))::sl),m⟩ n,k .norm ⟨X9 H.keep ((d,.d (.vb .ff))::sl),m⟩ n with
    | some x,some y=>some (.nilq n l x y)
    | _,_=>none
    else none
   | _=>none
 | .seq a b,s,n,k=>sxC P sg H a s n fun o s' n'=>match o with
  | .norm=>sxC P sg H b s' n' k
  | o=>k o s' n'
 | .cond c a b,s,n,k=>match sop s.sl c with
  | .d (.vb e)=>match e.known with
   | some true=>sxC P sg H a s n k
   | some false=>sxC P sg H b s n k
   | none=>match sxC P sg H a (Jp4 c true s) n k,sxC P sg H b (Jp4 c false s) n k with
    | some x,some y=>some (.ite e x y)
    | _,_=>none
  | _=>none
 | .block id a,s,n,k=>sxC P sg H a s n fun o s' n'=>match o with
  | .exit j=>if j=id then k .norm s' n' else k (.exit j) s' n'
  | o=>k o s' n'
 | .loop a,s,n,k =>
  let s:=Y9 H.own (YR a) s
  let t:=genT (JiV H (YR a)) s n
  match JcP n t.2 t.1 (SSt.like H.nl t.1 s) H.nl with
  | none=>none
  | some init=>match sxC P sg H a t.1 (n+t.2) (fun o s' n'=>match o with
    | .norm=>match JcP n t.2 t.1 (SSt.like H.nl t.1 s') H.nl with
     | some vs=>some (.next vs)
     | none=>none
    | o=>match k o s' n' with
     | some r=>some (.esc r)
     | none=>none) with
   | some body=>some (.loop n init body)
   | none=>none
 | .exit id,s,n,k=>k (.exit id) s n
 | .ret,s,n,k=>k .ret s n
 | _,_,_,_=>none
section
variable {B:Tb} {ρ:Env} {sg:FuncId→Option Sig} {P:Program} {G:Qh} {N:Nat}
theorem SMP.run_mono {α:Type} :∀(p:SMP α) (m:Yg) (n:Nat) (r:Jqh α),p.run m n=some r→n≤r.n
 | .ret a,m,n,r,h=>by simp only[SMP.run,JuZ] at h;subst h;exact Nat.le_refl _
 | .fail,_,_,_,h=>by cases h
 | .get k c,m,n,r,h=>by
  simp only[SMP.run] at h;split at h
  ·split at h
   ·rename_i r1 h1;simp only[JuZ] at h;subst h;show n≤r1.n;exact SMP.run_mono _ _ _ r1 h1
   ·cases h
  ·cases h
 | .put k o c,m,n,r,h=>by
  simp only[SMP.run] at h;split at h
  ·split at h
   ·rename_i r1 h1;simp only[JuZ] at h;subst h;show n≤r1.n;exact SMP.run_mono _ _ _ r1 h1
   ·cases h
  ·cases h
 | .new k o c,m,n,r,h=>by
  simp only[SMP.run] at h;split at h
  ·cases h
  ·split at h
   ·rename_i r1 h1;simp only[JuZ] at h;subst h;show n≤r1.n;exact SMP.run_mono _ _ _ r1 h1
   ·cases h
 | .ask i j c,m,n,r,h=>by
  simp only[SMP.run] at h;split at h
  ·rename_i r1 h1;simp only[JuZ] at h;subst h;have:=SMP.run_mono _ _ _ _ h1;show n≤r1.n;omega
  ·cases h
theorem UF {dp bo:Oper→Bool} {ops:Array Oper} (n0:Nat) (k k':SSl→Yg→Nat→Trs→Option R) (hk :∀sl m n t,n0≤n→k sl m n t=k' sl m n t) :∀(l:List Nat) (sl:SSl) (m:Yg) (n:Nat) (trs:Trs),n0≤n →
  Kj P sg dp bo ops l sl m n trs k=Kj P sg dp bo ops l sl m n trs k'
 | [],sl,m,n,trs,h=>hk _ _ _ _ h
 | i::l,sl,m,n,trs,h=>by
  have ih:=UF (dp:=dp) (bo:=bo) (ops:=ops) n0 k k' hk l;simp only[Kj];cases ops[i]? with
  | none=>rfl
  | some o =>
   dsimp only
   generalize ZP ops sl o=wt;cases wt with
   | yes =>
    simp only[if_true];cases hr:(JhE P sg (dp o) (bo o) o sl).run m n with
    | none=>rfl
    | some r =>
     simp only;rw[ih _ _ _ _ (Nat.le_trans h (SMP.run_mono _ _ _ _ hr))]
   | no=>simp only[Jvg,if_false];rw[ih _ _ _ _ h]
   | bad=>rfl
   | fork d b want =>
    cases want with
    | true =>
     simp only[Bool.not_true,Jvg,if_false,if_true];rw[ih _ _ _ _ h];cases hr:(JhE P sg (dp o) (bo o) o ((d,.d (.vb .tt))::sl)).run m n with
     | none=>rfl
     | some r =>
      simp only;rw[ih _ _ _ _ (Nat.le_trans h (SMP.run_mono _ _ _ _ hr))]
    | false =>
     simp only[Bool.not_false,Jvg,if_false,if_true];rw[ih _ _ _ _ h];cases hr:(JhE P sg (dp o) (bo o) o ((d,.d (.vb .ff))::sl)).run m n with
     | none=>rfl
     | some r =>
      simp only;rw[ih _ _ _ _ (Nat.le_trans h (SMP.run_mono _ _ _ _ hr))]
theorem Jkx {ops:Array Oper} {draw:Bool} {d:Tmp} {x:Operand} (h:JcC P ops draw=some (d,x)) :
  0<ops.size∧draw=false∧∃ t:TypeId,(∃ e,P.underlying t=some (.slice e))∧∃ o,ops[ops.size-1]? = some o∧o.dst=some d∧o.guard=none∧∃ y,o.op = .binOp .eql t x (.const (.slice none 0 0)) y:=by
 unfold JcC at h;split at h
 ·cases h
 ·rename_i hd;have hd:draw=false:=by simpa using hd
  split at h
  ·rename_i d' t x' y ty pos af ho;split at h
   ·rename_i e he;simp only[JuZ,Jvh] at h;obtain⟨rfl,rfl⟩:=h;have hlt:=(Jvc.1 ho).1;exact⟨by omega,hd,t,⟨e,he⟩,_,ho,rfl,rfl,_,rfl⟩
   ·cases h
  ·cases h
theorem Jrk {t e:TypeId} (h:P.underlying t=some (.slice e)) (A:Option Addr) (l cap:Nat):JS P (Op.equal t (.slice A l cap) (.slice none 0 0))=some A.isNone:=by
 show JS P (Op.equalIn (9999+1) t _ _)=_;unfold Op.equalIn;rw[Xl,XS h];cases A <;> rfl
theorem Jod {a:Act} {w:World} {o:Oper} {t:TypeId} {x:Operand} {A:Option Addr} {l cap:Nat} (ht : ∃ e,P.underlying t=some (.slice e)) (ho : ∃ y,o.op = .binOp .eql t x (.const (.slice none 0 0)) y) (hA:a.eval x = .slice A l cap) :
  (execOp a.eval o).run P w = .ok (.value (.bool A.isNone)) w:=by
 obtain⟨e,ht⟩:=ht;obtain⟨y,ho⟩:=ho;have h1:JS P (do eqGuard .eql t x (.const (.slice none 0 0)) (.slice A l cap) (.slice none 0 0);binOp .eql t (.slice A l cap) (.slice none 0 0))=some (.bool A.isNone):=by
  show JS P (Op.equal t (.slice A l cap) (.slice none 0 0) >>= fun r=>pure (Value.bool r))=_;rw[Xl,Jrk ht];rfl
 have h2:=YB _ _ w h1;have hc:a.eval (.const (.slice none 0 0)) = .slice none 0 0:=rfl;unfold execOp;rw[ho];simp only[hA,hc,Sem.run_bind] at h2 ⊢;rw[h2];rfl
theorem WF {T:Tab} {G:Qh} {ops:Array Oper} {c:Cx P} {Q:Exit→Act→World→Prop} (hT:Wz c T) :∀(l l2:List Nat) (st st':St) (g:Gh) (a:Act) (w:World),Sim c g st.m w→Jw c g st.m w st.sl a→UR a.tmps.size ops=true→VP P T G ops l st=some st' →
  (∀a' w' g',Sim c g' st'.m w'→Jw c g' st'.m w' st'.sl a'→Jf c g st.m w g' st'.m w'→a'.defers=a.defers→a'.tmps.size=a.tmps.size→wpOps P ops Q l2 a' w')→wpOps P ops Q (l++l2) a w
 | [],l2,st,st',g,a,w,hS,hsl,_,h,hQ=>by
  simp only[VP,JuZ] at h;subst h;exact hQ a w g hS hsl (.refl _ _ _ _) rfl rfl
 | i::l,l2,st,st',g,a,w,hS,hsl,hd,h,hQ=>by
  simp only[VP] at h;split at h
  ·rename_i st1 h1;rw[List.cons_append,wpOps_cons];refine WN hT hS hsl hd h1 fun a' w' g' hS' hsl' hC1 e1 e2=>?_;refine WF hT l l2 st1 st' g' a' w' hS' hsl' (by rw[e2];exact hd) h fun a'' w'' g'' h3 h4 hC2 h5 h6=>hQ a'' w'' g'' h3 h4 (hC1.trans hC2) (h5.trans e1) (h6.trans e2)
  ·cases h
theorem Jpa {s:SSt} {c:Operand} {e:E} (h:sop s.sl c = .d (.vb e)):opX (γs ρ s.sl) c=X.d (.v (.bool (bol ρ e))):=by
 rw[QN,h];rfl
theorem Jk4 {s:SSt} {c:Operand} {e:E} {t:Bool} (h:sop s.sl c = .d (.vb e)) (hk:e.known=none) (ht:bol ρ e=t):γs ρ (Jp4 c t s).sl=γs ρ s.sl∧(Jp4 c t s).m=s.m:=by
 cases c with
 | tmp d =>
  refine⟨?_,rfl⟩;have hl:s.sl.lookup d=some (.d (.vb e)):=by
   simp only[sop] at h;cases hl:s.sl.lookup d with
   | none=>rw[hl] at h;cases h
   | some v=>rw[hl] at h;exact congrArg some h
  exact Jlc hl ht
 | _=>exact⟨rfl,rfl⟩
theorem ZT {c:Cx P} {w:World} {a:Act} (id:Nat) {g0:Gh} {m0:Mem} {w0:World} :∀(l:List (Nat×JiN)) (s:SSt) (g:Gh),Sim c g (γm ρ s.m) w→Jw c g (γm ρ s.m) w (γs ρ s.sl) a→Jf c g0 m0 w0 g (γm ρ s.m) w →
  ∃ g',Sim c g' (γm ρ (Y9 l id s).m) w∧Jw c g' (γm ρ (Y9 l id s).m) w (γs ρ (Y9 l id s).sl) a∧Jf c g0 m0 w0 g' (γm ρ (Y9 l id s).m) w
 | [],s,g,hS,hH,hC=>⟨g,hS,hH,hC⟩
 | o::l,s,g,hS,hH,hC=>by
  unfold Y9;simp only[List.foldl_cons]
  by_cases ho:(o.1 == id)=true
  ·rw[if_pos ho];obtain⟨g',h1,h2,h3⟩:=Jo1 o.2 hS hH hC;exact ZT id l _ g' h1 h2 h3
  ·rw[if_neg ho];exact ZT id l _ g hS hH hC
theorem Jz.trans {c:Nat} {ρ1 ρ2 ρ3:Env} (h:Jz c ρ1 ρ2) (h':Jz c ρ2 ρ3):Jz c ρ1 ρ3:=fun j hj=>(h' j hj).trans (h j hj)
theorem Jz.le {c d:Nat} {ρ1 ρ2:Env} (h:Jz d ρ1 ρ2) (hc:c≤d):Jz c ρ1 ρ2:=fun j hj=>h j (by omega)
theorem Jz.rfl' {c:Nat} {ρ:Env}:Jz c ρ ρ:=fun _ _=>rfl
theorem Jz.symm {c:Nat} {ρ1 ρ2:Env} (h:Jz c ρ1 ρ2):Jz c ρ2 ρ1:=fun j hj=>(h j hj).symm
theorem JnV (hB:BOk sg B) {c:Cx P} (hT:Wz c (Ye sg B)) (hm:P.follows .mixedOrders=true) (H:Kr) {g0:Gh} {m0:Mem} {w0:World} (hl :∀k,m0 k≠none→k<H.nl) :
  ∀(C:Code) (s:SSt) (n:Nat) (k:Out→SSt→Nat→Option R) (R:R) (ρ:Env) (o:Oc) (a:Act) (w:World) (g:Gh) (Q:Exit→Act→World→Prop),
  sxC P sg H C s n k=some R→Run B N R ρ o→Sim c g (γm ρ s.m) w→Jw c g (γm ρ s.m) w (γs ρ s.sl) a→Jf c g0 m0 w0 g (γm ρ s.m) w→codeOk a.tmps.size C=true →
  (∀ex s' n' R' ρ' a' w' g',n≤n'→Jz n ρ ρ'→k ex s' n'=some R'→Run B N R' ρ' o→Sim c g' (γm ρ' s'.m) w'→Jw c g' (γm ρ' s'.m) w' (γs ρ' s'.sl) a'→Jf c g0 m0 w0 g' (γm ρ' s'.m) w'→a'.defers=a.defers→a'.tmps.size=a.tmps.size→Q ex.exitOf a' w') →
  C.wp P Q a w:=by
 intro C
 induction C with
 | skip =>
  intro s n k R ρ o a w g Q h hr hS hH hC hc hQ;exact wp_skip (hQ .norm s n R ρ a w g (Nat.le_refl _) Jz.rfl' h hr hS hH hC rfl rfl)
 | exit id =>
  intro s n k R ρ o a w g Q h hr hS hH hC hc hQ;exact wp_exit (hQ (.exit id) s n R ρ a w g (Nat.le_refl _) Jz.rfl' h hr hS hH hC rfl rfl)
 | ret =>
  intro s n k R ρ o a w g Q h hr hS hH hC hc hQ;exact wp_ret (hQ .ret s n R ρ a w g (Nat.le_refl _) Jz.rfl' h hr hS hH hC rfl rfl)
 | region id ops draw =>
  intro s n k R ρ o a w g Q h hr hS hH hC hc hQ;simp only[sxC] at h;split at h
  ·simp only[JuZ] at h;subst h;obtain⟨h1,_⟩:=hr;exact absurd h1 (by simp[I.holds,bol,den,V.bool])
  obtain⟨g1,hS1,hH1,hC1⟩:=ZT id H.own s g hS hH hC;generalize Y9 H.own id s=s1 at *;cases hin:(if H.inner.contains id && !draw then Uo ops else none) with
  | some q =>
   rw[hin] at h;simp only at h;have hq:draw=false∧Uo ops=some q:=by
    split at hin
    ·rename_i hcc;simp only[Ju0,Bool.not_eq_true'] at hcc;exact⟨hcc.2,hin⟩
    ·cases hin
   obtain⟨rfl,hq⟩:=hq;rw[UF n _ (fun sl m n' tl=>if n≤n' then(match V5 P sg q sl m n' with
    | some r=>match k .norm ⟨X9 H.keep r.2.1,r.2.2.1⟩ r.2.2.2 with
     | some x=>some (JaD r.1 x)
     | none=>none
    | none=>none) else none)
    (fun sl m n' t hn=>by rw[if_pos hn]) _ _ _ _ _ (Nat.le_refl n)] at h
   obtain⟨sl',m',n',tl,R',e1,e2,e3⟩:=Ja7 (G:={ deep:=H.deep,no:=H.no,bor:=H.bor }) (N:=N) (ρ:=ρ) hB _ _ _ _ _ _ R o h hr;split at e2
   ·rename_i hn;split at e2
    ·rename_i r hsx;obtain⟨is,sl2,m2,n2⟩:=r;split at e2
     ·rename_i R2 hk2;simp only[JuZ] at e2;subst e2;obtain⟨his,hr2⟩:=U8 _ _ _ e3;have hn2:n'≤n2:=Jgf (fun p m n r h=>SMP.run_mono p m n r h) hsx;refine wp_region ?_;have hsz4:4≤ops.size:=by
       unfold Uo at hq;split at hq
       ·split at hq
        ·split at hq
         ·rename_i hc4;exact hc4.1
         ·cases hq
        ·cases hq
       ·cases hq
      have hrange:List.range ops.size=List.range' 0 (ops.size-4)++[ops.size-4,ops.size-3,ops.size-2,ops.size-1]:=by
       rw[List.range_eq_range'];have:ops.size=(ops.size-4)+1+1+1+1:=by omega
       conv=>lhs;rw[this,List.range'_concat,List.range'_concat,List.range'_concat,List.range'_concat]
       simp only[List.append_assoc,List.singleton_append,Nat.zero_add,Nat.one_mul,List.append_cancel_left_eq];rw[show ops.size-3=ops.size-4+1 by omega,show ops.size-2=ops.size-4+2 by omega,show ops.size-1=ops.size-4+3 by omega];rfl
      rw[hrange];refine WF hT _ [ops.size-4,ops.size-3,ops.size-2,ops.size-1] _ _ _ _ _ hS1 hH1 hc (Us (G:={ deep:=H.deep,no:=H.no,bor:=H.bor }) _ _ _ _ e1) fun a' w' g' hS2 hH2 hC2 hd2 hz2=>?_;have hc':UR a'.tmps.size ops=true:=by rw[hz2];exact hc
      refine(JkL hB hT hS2 hH2 hc' hq hsx his fun a'' w'' g'' h1 h2 h3 h4 h5=>?_).2;exact hQ .norm _ n2 R2 ρ a'' w'' g'' (Nat.le_trans hn hn2) Jz.rfl' hk2 hr2 h1 (Jeb H.keep h2) ((hC1.trans hC2).trans h3) (h4.trans hd2) (h5.trans hz2)
     ·cases e2
    ·cases e2
   ·cases e2
  | none =>
  rw[hin] at h;simp only at h;cases hnl:JcC P ops draw with
  | some dx =>
   obtain⟨d,x⟩:=dx;rw[hnl] at h;simp only at h;obtain⟨ho,hdr,t,ht,o0,hop,hod,hog,hopp⟩:=Jkx hnl;subst hdr;rw[UF n _ (fun sl m n' tl=>if n≤n' then(match sop sl x with
    | .d (.s l)=>if SSt.under n' ⟨sl,m⟩ then match k .norm ⟨X9 H.keep ((d,.d (.vb .tt))::sl),m⟩ n',k .norm ⟨X9 H.keep ((d,.d (.vb .ff))::sl),m⟩ n' with
     | some x,some y=>some (.nilq n' l x y)
     | _,_=>none
     else none
    | _=>none) else none)
    (fun sl m n' t hn=>by rw[if_pos hn]) _ _ _ _ _ (Nat.le_refl n)] at h
   obtain⟨sl',m',n',tl,R',e1,e2,e3⟩:=Ja7 (G:={ deep:=H.deep,no:=H.no,bor:=H.bor }) (N:=N) (ρ:=ρ) hB _ _ _ _ _ _ R o h hr;split at e2
   ·rename_i hn;split at e2
    ·rename_i l hl;split at e2
     ·rename_i hund;split at e2
      ·rename_i R1 R2 hk1 hk2;simp only[JuZ] at e2;subst e2;obtain⟨⟨ρy,hay,hry⟩,hx⟩:=e3;refine wp_region ?_;have hrange:List.range ops.size=List.range' 0 (ops.size-1)++[ops.size-1]:=by
        rw[List.range_eq_range'];have:ops.size=(ops.size-1)+1:=by omega
        conv=>lhs;rw[this,List.range'_concat]
        simp
       rw[hrange];refine WF hT _ [ops.size-1] _ _ _ _ _ hS1 hH1 hc (Us (G:={ deep:=H.deep,no:=H.no,bor:=H.bor }) _ _ _ _ e1) fun a' w' g' hS2 hH2 hC2 hd2 hz2=>?_;rw[wpOps_cons];have hv:=oX1 hH2 x;rw[QN,hl] at hv;obtain⟨fp,⟨A,cap,hA,hle,hrest⟩,hok⟩:=hv;have hexec:(execOp a'.eval o0).run P w' = .ok (.value (.bool A.isNone)) w':=Jod ht hopp hA;have hdlt:d<a'.tmps.size:=by
        have h0:UR a.tmps.size ops=true:=hc;have:=Array.all_eq_true_iff_forall_mem.1 h0 o0 (Array.mem_of_getElem? hop);rw[hod] at this;rw[hz2];simpa using this
       unfold wpOp;rw[hop];have hwant:Region.wanted o0 (yielded ops a'.tmps)=true:=by unfold Region.wanted;rw[hog]
       simp only[hwant,if_true];refine .inl ?_;unfold Oper.wp;rw[hexec];show wpOps P ops Q [] (a'.put o0.dst (.bool A.isNone)) w';have hput :∀(tb:Bool),A.isNone=tb→Jw c g' (γm ρ m') w' (γs ρ ((d,.d (.vb (Ui tb)))::sl')) (a'.put o0.dst (.bool A.isNone)):=by
        intro tb htb;rw[JcR,htb];have:=Jw.put (o:=o0) (x:=γX ρ (.d (.vb (Ui tb)))) (v:= .bool tb) hH2 (.refl _ _ _ _) (fun d' hd'=>by rw[hod] at hd';cases hd';exact hdlt) (by
         show VX c g' _ w' (X.d (.v (.bool (bol ρ (Ui tb))))) _;have:bol ρ (Ui tb)=tb:=by cases tb <;> rfl
         rw[this];exact⟨[],⟨rfl,rfl,rfl⟩,fun b hb=>by simp at hb⟩)
        rw[hod] at this ⊢;exact this
       have hC3:=hC1.trans hC2;have fin :∀(tb:Bool) (Rb:Go.Tm.R) (ρb:Env),A.isNone=tb→Jz n' ρ ρb→k .norm ⟨X9 H.keep ((d,.d (.vb (Ui tb)))::sl'),m'⟩ n'=some Rb→Run B N Rb ρb o→Q .normal (a'.put o0.dst (.bool A.isNone)) w':=by
        intro tb Rb ρb htb hab hkb hrb;have hund2:SSt.under n' ⟨(d,.d (.vb (Ui tb)))::sl',m'⟩=true:=by
         unfold SSt.under at hund ⊢;simp only[Ju0,List.all_cons] at hund ⊢;exact⟨⟨by cases tb <;> rfl,hund.1⟩,hund.2⟩
        obtain⟨u1,u2⟩:=JnP hab hund2;refine hQ .norm _ n' Rb ρb _ w' g' hn (hab.le hn) hkb hrb (by rw[u2];exact hS2) (Jeb H.keep ?_) (by rw[u2];exact hC3) ((W4 _ _ _).trans hd2) ((Jdq _ _ _).trans hz2);rw[u2];show Jw c g' _ w' (γs ρb ((d,.d (.vb (Ui tb)))::sl')) _;rw[u1];exact hput tb htb
       cases hA':A.isNone with
       | true =>
        have hnil:lst ρ l=[]:=by
         rcases hrest with ⟨h1,_⟩ | ⟨b,o,sz,fp',h1,_⟩
         ·exact h1
         ·rw[h1] at hA';cases hA'
        obtain⟨ρx,hax,hrx⟩:=hx hnil;have:=fin true R1 ρx hA' hax hk1 hrx;rw[hA'] at this;exact this
       | false =>
        have:=fin false R2 ρy hA' hay hk2 hry;rw[hA'] at this;exact this
      ·cases e2
     ·cases e2
    ·cases e2
   ·cases e2
  | none =>
  rw[hnl] at h;simp only at h;rw[UF n _ (fun sl m n' tl=>if n≤n' then(match Jgd ops draw tl with | true=>k .norm ⟨X9 H.keep sl,m⟩ n' | false=>none) else none)
   (fun sl m n' t hn=>by rw[if_pos hn]) _ _ _ _ _ (Nat.le_refl n)] at h
  obtain⟨sl',m',n',tl,R',e1,e2,e3⟩:=Ja7 (G:={ deep:=H.deep,no:=H.no,bor:=H.bor }) (N:=N) (ρ:=ρ) hB _ _ _ _ _ _ R o h hr;simp only[List.reverse_nil,List.nil_append] at e2;split at e2
  ·rename_i hn;cases hd:Jgd ops draw tl with
   | false=>rw[hd] at e2;cases e2
   | true =>
    rw[hd] at e2;have hreg:Jap P (Ye sg B) { deep:=H.deep,no:=H.no,bor:=H.bor } id ops draw ⟨γs ρ s1.sl,γm ρ s1.m⟩=some ⟨γs ρ sl',γm ρ m'⟩:=by
     unfold Jap;cases draw with
     | false =>
      simp only[Jvg,if_false];exact Us _ _ _ _ e1
     | true =>
      simp only[if_true,e1];unfold Jgd at hd;simp only[Bool.not_true,Bool.false_or] at hd;simp only[hd,if_true]
    refine Jhi hT hm (g0:=g0) (m0:=m0) (w0:=w0) hC1 hS1 hH1 hc hreg fun a' w' g' h1 h2 h3 h4 h5=>?_;exact hQ .norm _ n' R' ρ a' w' g' hn Jz.rfl' e2 e3 h1 (Jeb H.keep h2) h3 h4 h5
  ·cases e2
 | seq x y ihx ihy =>
  intro s n k R ρ o a w g Q h hr hS hH hC hc hQ;simp only[codeOk,Ju0] at hc;simp only[sxC] at h;refine wp_seq ?_;refine ihx s n _ R ρ o a w g _ h hr hS hH hC hc.1 fun ex s' n' R' ρ' a' w' g' hn hag hk hr' hS' hH' hC' hd hz=>?_;cases ex with
  | norm =>
   refine ihy s' n' k R' ρ' o a' w' g' Q hk hr' hS' hH' hC' (by rw[hz];exact hc.2) fun ex s2 n2 R2 ρ2 a2 w2 g2 hn2 hag2 hk2 hr2 hS2 hH2 hC2 hd2 hz2=>?_;exact hQ ex s2 n2 R2 ρ2 a2 w2 g2 (Nat.le_trans hn hn2) (hag.trans (hag2.le hn)) hk2 hr2 hS2 hH2 hC2 (hd2.trans hd) (hz2.trans hz)
  | exit id=>exact hQ (.exit id) s' n' R' ρ' a' w' g' hn hag hk hr' hS' hH' hC' hd hz
  | ret=>exact hQ .ret s' n' R' ρ' a' w' g' hn hag hk hr' hS' hH' hC' hd hz
 | cond b x y ihx ihy =>
  intro s n k R ρ o a w g Q h hr hS hH hC hc hQ;simp only[codeOk,Ju0] at hc;simp only[sxC] at h;split at h
  ·rename_i e he;have hv:=oX1 hH b;rw[Jpa he] at hv;have hv:=(Qr hv).1;refine wp_cond hv ?_;split at h
   ·rename_i hk;rw[Kq hk];simp only[if_true];exact ihx s n k R ρ o a w g Q h hr hS hH hC hc.1 hQ
   ·rename_i hk;rw[Kq hk];simp only[Jvg,if_false];exact ihy s n k R ρ o a w g Q h hr hS hH hC hc.2 hQ
   ·rename_i hk;split at h
    ·rename_i x' y' hx hy;simp only[JuZ] at h;subst h;simp only[Run] at hr;cases hb:bol ρ e with
     | true =>
      rw[hb] at hr;simp only[if_true] at hr ⊢;obtain⟨e1,e2⟩:=Jk4 (t:=true) he hk hb;exact ihx _ n k x' ρ o a w g Q hx hr (by rw[e2];exact hS) (by rw[e1,e2];exact hH) (by rw[e2];exact hC) hc.1 hQ
     | false =>
      rw[hb] at hr;simp only[Jvg,if_false] at hr ⊢;obtain⟨e1,e2⟩:=Jk4 (t:=false) he hk hb;exact ihy _ n k y' ρ o a w g Q hy hr (by rw[e2];exact hS) (by rw[e1,e2];exact hH) (by rw[e2];exact hC) hc.2 hQ
    ·cases h
  ·cases h
 | block id x ih =>
  intro s n k R ρ o a w g Q h hr hS hH hC hc hQ;simp only[codeOk] at hc;simp only[sxC] at h;refine wp_block ?_;refine ih s n _ R ρ o a w g _ h hr hS hH hC hc fun ex s' n' R' ρ' a' w' g' hn hag hk hr' hS' hH' hC' hd hz=>?_;cases ex with
  | norm=>exact hQ .norm s' n' R' ρ' a' w' g' hn hag hk hr' hS' hH' hC' hd hz
  | ret=>exact hQ .ret s' n' R' ρ' a' w' g' hn hag hk hr' hS' hH' hC' hd hz
  | exit j =>
   simp only at hk;split at hk
   ·rename_i hj;have:=hQ .norm s' n' R' ρ' a' w' g' hn hag hk hr' hS' hH' hC' hd hz;simpa[Exit.inBlock,Out.exitOf,hj] using this
   ·rename_i hj;have:=hQ (.exit j) s' n' R' ρ' a' w' g' hn hag hk hr' hS' hH' hC' hd hz;simpa[Exit.inBlock,Out.exitOf,hj] using this
 | loop x ih =>
  intro s n k R ρ o a w g Q h hr hS hH hC hc hQ;simp only[codeOk] at hc;simp only[sxC] at h;obtain⟨g1,hS1,hH1,hC1⟩:=ZT (YR x) H.own s g hS hH hC;generalize Y9 H.own (YR x) s=s1 at *;generalize genT (JiV H (YR x)) s1 n=t at *;split at h
  ·cases h
  ·rename_i init hinit;split at h
   ·rename_i body hbody;simp only[JuZ] at h;subst h;simp only[Run] at hr;refine wp_loop_rounds N ?_;have key :∀(j:Nat) (vs:List V) (g:Gh) (a':Act) (w:World),JcI (fun vs o1=>∃ ρ',Jz n ρ ρ'∧JbV n vs ρ'∧Run B N body ρ' o1) j vs o →
      (∀ρ',Jz n ρ ρ'→JbV n vs ρ'→Sim c g (γm ρ' t.1.m) w∧Jw c g (γm ρ' t.1.m) w (γs ρ' t.1.sl) a'∧Jf c g0 m0 w0 g (γm ρ' t.1.m) w) →
      a'.defers=a.defers→a'.tmps.size=a.tmps.size→Code.rounds P x Q j a' w:=by
     intro j
     induction j with
     | zero=>intro vs g a' w hrel;exact hrel.elim
     | succ j ihj =>
      intro vs g a' w hrel hst hda hza;rw[rounds_succ];rcases hrel with ⟨vs',⟨ρ',hag,hset,hrun⟩,hrel⟩ | ⟨ρ',hag,hset,hrun⟩
      ·obtain⟨q1,q2,q3⟩:=hst ρ' hag hset;refine ih t.1 (n+t.2) _ body ρ' _ a' w g _ hbody hrun q1 q2 q3 (by rw[hza];exact hc) fun ex s' n' R' ρ2 a2 w2 g2 hn2 hag2 hk2 hr2 hS2 hH2 hC2 hd2 hz2=>?_;cases ex with
       | norm =>
        simp only at hk2;split at hk2
        ·rename_i vsE hvs;simp only[JuZ] at hk2;subst hk2;simp only[Run,Oc.next.injEq] at hr2;subst hr2;obtain⟨g3,hS3,hH3,hC3⟩:=JgQ hl t.1 hS2 hH2 hC2;refine ihj _ g3 a2 w2 hrel (fun ρ3 hag3 hset3=>?_) (hd2.trans hda) (hz2.trans hza);have hag4:Jz n ρ ρ2:=hag.trans (hag2.le (by omega));exact WQ hvs (hag4.symm.trans hag3) hset3 hl hS3 hH3 hC3
        ·cases hk2
       | exit id =>
        simp only at hk2;split at hk2
        ·simp only[JuZ] at hk2;subst hk2;obtain⟨o',ho',_⟩:=hr2;cases ho'
        ·cases hk2
       | ret =>
        simp only at hk2;split at hk2
        ·simp only[JuZ] at hk2;subst hk2;obtain⟨o',ho',_⟩:=hr2;cases ho'
        ·cases hk2
      ·obtain⟨q1,q2,q3⟩:=hst ρ' hag hset;refine ih t.1 (n+t.2) _ body ρ' _ a' w g _ hbody hrun q1 q2 q3 (by rw[hza];exact hc) fun ex s' n' R' ρ2 a2 w2 g2 hn2 hag2 hk2 hr2 hS2 hH2 hC2 hd2 hz2=>?_;have hag4:Jz n ρ ρ2:=hag.trans (hag2.le (by omega));cases ex with
       | norm =>
        simp only at hk2;split at hk2
        ·simp only[JuZ] at hk2;subst hk2;simp only[Run] at hr2;cases hr2
        ·cases hk2
       | exit id =>
        simp only at hk2;split at hk2
        ·rename_i r hkr;simp only[JuZ] at hk2;subst hk2;obtain⟨o',ho',hr3⟩:=hr2;cases ho';exact hQ (.exit id) s' n' r ρ2 a2 w2 g2 (by omega) hag4 hkr hr3 hS2 hH2 hC2 (hd2.trans hda) (hz2.trans hza)
        ·cases hk2
       | ret =>
        simp only at hk2;split at hk2
        ·rename_i r hkr;simp only[JuZ] at hk2;subst hk2;obtain⟨o',ho',hr3⟩:=hr2;cases ho';exact hQ .ret s' n' r ρ2 a2 w2 g2 (by omega) hag4 hkr hr3 hS2 hH2 hC2 (hd2.trans hda) (hz2.trans hza)
        ·cases hk2
    obtain⟨gi,hSi,hHi,hCi⟩:=JgQ hl t.1 hS1 hH1 hC1;exact key N _ gi a w hr (fun ρ' hag hset=>WQ hinit hag hset hl hSi hHi hCi) rfl rfl
   ·cases h
 | _=>intro s n k R ρ o a w g Q h;simp[sxC] at h
end
end Go.Tm
end
section
namespace Go.Tm
open Go.IntKind (i64)
def Jlp:D→Bool
 | .v (.slice none 0 0)=>false
 | x=>x.one
def Sh1.toV:Sh1→D→Option V
 | .i k,.v (.int k' n)=>if k=k' then some (.i n) else none
 | .b,.v (.bool t)=>some (.b t)
 | .s,.s es=>some (.l es)
 | .d,x=>if Jlp x then some (.d x) else none
 | _,_=>none
def X0:List Sh1→List D→Nat→Env→Option Env
 | [],[],_,ρ=>some ρ
 | a::as,d::ds,n,ρ=>match a.toV d with
  | some v=>X0 as ds (n+1) (upd ρ n v)
  | none=>none
 | _,_,_,_=>none
def Sh.bind:Sh→D→Nat→Env→Option Env
 | .one a,d,n,ρ=>X0 [a] [d] n ρ
 | .g as,.g cs,n,ρ=>X0 as cs n ρ
 | .q as,.q cs,n,ρ=>X0 as cs n ρ
 | _,_,_,_=>none
def X2 (B : Tb) : I → Env → Option Env
  | .chk b,ρ=>if bol ρ b then some ρ else none
  | .head sz l,ρ=>if Yf sz (lst ρ l) then some ρ else none
  | .fl l,ρ=>if JM (lst ρ l) then some ρ else none
  | .get e sh n,ρ=>sh.bind (dat ρ e) n ρ
  | .idx l i sh n,ρ=>if 0≤int ρ i then match (lst ρ l)[(int ρ i).toNat]? with
      | some d=>sh.bind d n ρ
      | none=>none
    else none
  | .call f as rs n,ρ=>match B.call f (as.map (dat ρ)) with
    | some ds=>X0 rs ds n ρ
    | none=>none
  | .prim p as r n,ρ=>match Ki p (as.map (dat ρ)) with
    | some d=>X0 [r] [d] n ρ
    | none=>none
  | .callv e as ar rs n,ρ=>match dat ρ e with
    | .f fn caps=>if B.ar fn=some (ar++caps.map fun _=>none) then match B.call fn (as.map (dat ρ)++caps.map D.norm) with
        | some ds=>X0 rs ds n ρ
        | none=>none
      else none
    | _=>none
def UO (f:List V→Option Oc):Nat→List V→Option Oc
 | 0,_=>none
 | n+1,vs=>match f vs with
  | some (.next vs')=>UO f n vs'
  | some (.esc o)=>some o
  | _=>none
def X6:Nat→List V→Env→Env
 | _,[],ρ=>ρ
 | c,v::vs,ρ=>X6 (c+1) vs (upd ρ c v)
open Classical in
noncomputable def JL (B:Tb) (N:Nat):R→Env→Option Oc
 | .i x r,ρ=>match X2 B x ρ with
  | some ρ'=>JL B N r ρ'
  | none=>none
 | .ite b x y,ρ=>if bol ρ b then JL B N x ρ else JL B N y ρ
 | .nilq _ l x y,ρ=>match lst ρ l with
  | []=>if JL B N x ρ=JL B N y ρ then JL B N y ρ else none
  | _::_=>JL B N y ρ
 | .loop c init body,ρ=>UO (fun vs=>JL B N body (X6 c vs ρ)) N (init.map (den ρ))
 | .next vs,ρ=>some (.next (vs.map (den ρ)))
 | .done vs,ρ=>some (.done (vs.map (dat ρ)))
 | .esc r,ρ=>match JL B N r ρ with
  | some o=>some (.esc o)
  | none=>none
def I.wf (c:Nat):I→Bool
 | .chk b=>b.under c
 | .head _ l=>l.under c
 | .fl l=>l.under c
 | .get e _ n=>e.under c&&n == c
 | .idx l i _ n=>l.under c&&i.under c&&n == c
 | .call _ as _ n=>as.all (E.under c)&&n == c
 | .callv e as _ _ n=>e.under c&&as.all (E.under c)&&n == c
 | .prim _ as _ n=>as.all (E.under c)&&n == c
def I.size:I→Nat
 | .chk _ | .head _ _ | .fl _=>0
 | .get _ sh _ | .idx _ _ sh _=>sh.size
 | .call _ _ rs _ | .callv _ _ _ rs _=>rs.length
 | .prim _ _ _ _=>1
def R.wf:R→Nat→List Nat→Bool
 | .i x r,c,st=>x.wf c&&r.wf (c+x.size) st
 | .ite b x y,c,st=>b.under c&&x.wf c st&&y.wf c st
 | .nilq c' l x y,c,st=>c' == c&&l.under c&&x.wf c st&&y.wf c st
 | .loop c' init body,c,st=>c' == c&&init.all (E.under c)&&body.wf (c+init.length) (init.length::st)
 | .next vs,c,st=>vs.all (E.under c)&&st.head? == some vs.length
 | .done vs,c,_=>vs.all (E.under c)
 | .esc r,c,st=>r.wf c st.tail
def Oc.conf:Oc→List Nat→Prop
 | .next vs,st=>st.head? = some vs.length
 | .done _,_=>True
 | .esc o,st=>o.conf st.tail
section
variable {B:Tb} {N:Nat}
theorem JqO {a:Sh1} {d:D} {v:V} {n:Nat} {ρ:Env} (h:a.toV d=some v) (hr:ρ n=v):dat ρ (a.expr n)=d:=by
 unfold Sh1.toV at h;split at h
 ·split at h
  ·rename_i hk;subst hk;simp only[JuZ] at h;subst h;show D.v (.int _ (V.int (ρ n)))=_;rw[hr];rfl
  ·cases h
 ·simp only[JuZ] at h;subst h;show D.v (.bool (V.bool (ρ n)))=_;rw[hr];rfl
 ·simp only[JuZ] at h;subst h;show D.s (V.lst (ρ n))=_;rw[hr];rfl
 ·split at h
  ·rename_i hx;simp only[JuZ] at h;subst h;show XM (V.dat (ρ n))=_;rw[hr];show XM d=d;unfold Jlp at hx;split at hx
   ·cases hx
   ·rename_i hne;rw[UA hx];unfold D.norm;split
    ·exact absurd rfl hne
    ·rfl
  ·cases h
 ·cases h
theorem Yb :∀(as:List Sh1) (ds:List D) (n:Nat) (ρ ρ':Env),X0 as ds n ρ=some ρ'→as.length=ds.length∧Jz n ρ ρ'∧∀ρ2,Jz (n+as.length) ρ' ρ2→(JB as n).map (dat ρ2)=ds
 | [],[],n,ρ,ρ',h=>by
  simp only[X0,JuZ] at h;subst h;exact⟨rfl,Jz.rfl',fun _ _=>rfl⟩
 | [],_::_,n,ρ,ρ',h=>by simp[X0] at h
 | _::_,[],n,ρ,ρ',h=>by simp[X0] at h
 | a::as,d::ds,n,ρ,ρ',h=>by
  simp only[X0] at h;split at h
  ·rename_i v hv;obtain⟨h1,h2,h3⟩:=Yb as ds (n+1) _ ρ' h;refine⟨by simp[h1],fun j hj=>?_,fun ρ2 h4=>?_⟩
   ·rw[h2 j (by omega),uO1 _ _ (by omega)]
   ·simp only[JB,Ju8];rw[h3 ρ2 (by rw[show n+1+as.length=n+(a::as).length by simp;omega];exact h4)]
    congr 1
    refine JqO hv ?_;rw[h4 n (by simp),h2 n (by omega),uS1]
  ·cases h
theorem Jew {sh:Sh} {d:D} {n:Nat} {ρ ρ':Env} (h:sh.bind d n ρ=some ρ'):Jz n ρ ρ'∧∀ρ2,Jz (n+sh.size) ρ' ρ2→dat ρ2 (sh.expr n)=d:=by
 unfold Sh.bind at h;split at h
 ·obtain⟨_,h2,h3⟩:=Yb _ _ _ _ _ h;refine⟨h2,fun ρ2 h4=>?_⟩;have:=h3 ρ2 h4;simp only[JB,Ju8,List.map_nil,List.cons.injEq,and_true] at this;exact this
 ·obtain⟨_,h2,h3⟩:=Yb _ _ _ _ _ h;refine⟨h2,fun ρ2 h4=>?_⟩;show D.g (lst ρ2 (J9 _))=_;rw[JI,h3 ρ2 h4]
 ·obtain⟨_,h2,h3⟩:=Yb _ _ _ _ _ h;refine⟨h2,fun ρ2 h4=>?_⟩;show D.q (lst ρ2 (J9 _))=_;rw[JI,h3 ρ2 h4]
 ·cases h
theorem Ja8 {f:Env→E→D} {c:Nat} {ρ ρ':Env} (hf :∀e,e.under c=true→f ρ' e=f ρ e) {as:List E} (h:as.all (E.under c)=true):as.map (f ρ')=as.map (f ρ) :=
 Jvm fun e he=>hf e (Jvd.1 h e he)
theorem KW {c:Nat} {ρ ρ':Env} (h:Jz c ρ ρ') (e:E) (hu:e.under c=true):dat ρ' e=dat ρ e:=by unfold dat;rw[Ym h e hu]
theorem JbA {c:Nat} {ρ ρ':Env} (h:Jz c ρ ρ') (e:E) (hu:e.under c=true):lst ρ' e=lst ρ e:=by unfold lst;rw[Ym h e hu]
theorem Jmk {c:Nat} {ρ ρ':Env} (h:Jz c ρ ρ') (e:E) (hu:e.under c=true):int ρ' e=int ρ e:=by unfold int;rw[Ym h e hu]
theorem JbH {c:Nat} {ρ ρ':Env} (h:Jz c ρ ρ') (e:E) (hu:e.under c=true):bol ρ' e=bol ρ e:=by unfold bol;rw[Ym h e hu]
theorem Jpg {x:I} {c:Nat} {ρ ρ':Env} (h:X2 B x ρ=some ρ') (hw:x.wf c=true):Jz c ρ ρ'∧∀ρ2,Jz (c+x.size) ρ' ρ2→x.holds B ρ2:=by
 cases x with
 | chk b =>
  simp only[X2] at h;split at h
  ·rename_i hb;simp only[JuZ] at h;subst h;exact⟨Jz.rfl',fun ρ2 h2=>by show bol ρ2 b=true;rw[JbH h2 b hw];exact hb⟩
  ·cases h
 | head sz l =>
  simp only[X2] at h;split at h
  ·rename_i hb;simp only[JuZ] at h;subst h;exact⟨Jz.rfl',fun ρ2 h2=>by show Yf sz (lst ρ2 l)=true;rw[JbA h2 l hw];exact hb⟩
  ·cases h
 | fl l =>
  simp only[X2] at h;split at h
  ·rename_i hb;simp only[JuZ] at h;subst h;exact⟨Jz.rfl',fun ρ2 h2=>by show JM (lst ρ2 l)=true;rw[JbA h2 l hw];exact hb⟩
  ·cases h
 | get e sh n =>
  simp only[I.wf,Ju0,beq_iff_eq] at hw;obtain⟨hu,rfl⟩:=hw;simp only[X2] at h;obtain⟨h1,h2⟩:=Jew h;refine⟨h1,fun ρ2 h3=>?_⟩;show dat ρ2 e=dat ρ2 (sh.expr n);rw[h2 ρ2 h3,KW (h1.trans (h3.le (by omega))) e hu]
 | idx l i sh n =>
  simp only[I.wf,Ju0,beq_iff_eq] at hw;obtain⟨⟨hu,hu2⟩,rfl⟩:=hw;simp only[X2] at h;split at h
  ·rename_i h0;split at h
   ·rename_i d hd;obtain⟨h1,h2⟩:=Jew h;refine⟨h1,fun ρ2 h3=>?_⟩;have ha:=h1.trans (h3.le (by omega));show 0≤int ρ2 i∧(lst ρ2 l)[(int ρ2 i).toNat]? = some (dat ρ2 (sh.expr n));rw[h2 ρ2 h3,Jmk ha i hu2,JbA ha l hu];exact⟨h0,hd⟩
   ·cases h
  ·cases h
 | call f as rs n =>
  simp only[I.wf,Ju0,beq_iff_eq] at hw;obtain⟨hu,rfl⟩:=hw;simp only[X2] at h;split at h
  ·rename_i ds hds;obtain⟨_,h1,h2⟩:=Yb _ _ _ _ _ h;refine⟨h1,fun ρ2 h3=>?_⟩;have ha:=h1.trans (h3.le (by omega));show B.call f (as.map (dat ρ2))=some ((JB rs n).map (dat ρ2));rw[h2 ρ2 h3,Ja8 (f:=dat) (fun e he=>KW ha e he) hu];exact hds
  ·cases h
 | prim p as r n =>
  simp only[I.wf,Ju0,beq_iff_eq] at hw;obtain⟨hu,rfl⟩:=hw;simp only[X2] at h;split at h
  ·rename_i d hds;obtain⟨_,h1,h2⟩:=Yb _ _ _ _ _ h;refine⟨h1,fun ρ2 h3=>?_⟩;have ha:=h1.trans (h3.le (by omega));have h4:=h2 ρ2 h3;show Ki p (as.map (dat ρ2))=some (dat ρ2 (r.expr n));rw[Ja8 (f:=dat) (fun e he=>KW ha e he) hu,hds];have h5:[d]=[dat ρ2 (r.expr n)]:=by simpa[JB] using h4.symm
   simp only[List.cons.injEq,and_true] at h5;rw[h5]
  ·cases h
 | callv e as ar rs n =>
  simp only[I.wf,Ju0,beq_iff_eq] at hw;obtain⟨⟨hu,hu2⟩,rfl⟩:=hw;simp only[X2] at h;split at h
  ·rename_i fn caps hd;split at h
   ·rename_i har;split at h
    ·rename_i ds hds;obtain⟨_,h1,h2⟩:=Yb _ _ _ _ _ h;refine⟨h1,fun ρ2 h3=>?_⟩;have ha:=h1.trans (h3.le (by omega));refine⟨fn,caps,by rw[KW ha e hu];exact hd,har,?_⟩;rw[h2 ρ2 h3,Ja8 (f:=dat) (fun e he=>KW ha e he) hu2];exact hds
    ·cases h
   ·cases h
  ·cases h
theorem JbD :∀(vs:List V) (c:Nat) (ρ:Env),Jz c ρ (X6 c vs ρ)∧JbV c vs (X6 c vs ρ)
 | [],c,ρ=>⟨Jz.rfl',fun j v h=>by simp at h⟩
 | v::vs,c,ρ=>by
  obtain⟨h1,h2⟩:=JbD vs (c+1) (upd ρ c v);refine⟨fun j hj=>?_,fun j u hj=>?_⟩
  ·show X6 (c+1) vs (upd ρ c v) j=ρ j;rw[h1 j (by omega),uO1 _ _ (by omega)]
  ·show X6 (c+1) vs (upd ρ c v) (c+j)=u;cases j with
   | zero =>
    simp at hj;subst hj;rw[h1 (c+0) (by omega)];exact uS1 _ _ _
   | succ j =>
    have:=h2 j u (by simpa using hj);rw[←this];congr 1;omega
theorem JlQ :∀(r:R) (c:Nat) (st:List Nat) (ρ:Env) (o:Oc),JL B N r ρ=some o→r.wf c st=true→o.conf st:=by
 intro r
 induction r with
 | i x r ih =>
  intro c st ρ o h hw;simp only[R.wf,Ju0] at hw;simp only[JL] at h;split at h
  ·exact ih _ st _ o h hw.2
  ·cases h
 | ite b x y ihx ihy =>
  intro c st ρ o h hw;simp only[R.wf,Ju0] at hw;simp only[JL] at h;split at h
  ·exact ihx c st ρ o h hw.1.2
  ·exact ihy c st ρ o h hw.2
 | nilq c' l x y ihx ihy =>
  intro c st ρ o h hw;simp only[R.wf,Ju0] at hw;simp only[JL] at h;split at h
  ·split at h
   ·exact ihy c st ρ o h hw.2
   ·cases h
  ·exact ihy c st ρ o h hw.2
 | loop c' init body ih =>
  intro c st ρ o h hw;simp only[R.wf,Ju0] at hw;simp only[JL] at h;have key :∀(n:Nat) (vs:List V),UO (fun vs=>JL B N body (X6 c' vs ρ)) n vs=some o→o.conf st:=by
   intro n
   induction n with
   | zero=>intro vs h;cases h
   | succ n ihn =>
    intro vs h;simp only[UO] at h;split at h
    ·exact ihn _ h
    ·rename_i o' h1;simp only[JuZ] at h;subst h;have:=ih _ (init.length::st) _ _ h1 hw.2;exact this
    ·cases h
  exact key N _ h
 | next vs =>
  intro c st ρ o h hw;simp only[JL,JuZ] at h;subst h;simp only[R.wf,Ju0,beq_iff_eq] at hw;simpa[Oc.conf] using hw.2
 | done vs =>
  intro c st ρ o h hw;simp only[JL,JuZ] at h;subst h;trivial
 | esc r ih =>
  intro c st ρ o h hw;simp only[JL] at h;split at h
  ·rename_i o' h1;simp only[JuZ] at h;subst h;exact ih c st.tail ρ o' h1 hw
  ·cases h
theorem JbU :∀(r:R) (c:Nat) (st:List Nat) (ρ:Env) (o:Oc),JL B N r ρ=some o→r.wf c st=true→∃ ρ',Jz c ρ ρ'∧Run B N r ρ' o:=by
 intro r
 induction r with
 | i x r ih =>
  intro c st ρ o h hw;simp only[R.wf,Ju0] at hw;simp only[JL] at h;split at h
  ·rename_i ρ1 h1;obtain⟨h2,h3⟩:=Jpg h1 hw.1;obtain⟨ρ',h4,h5⟩:=ih _ st ρ1 o h hw.2;exact⟨ρ',h2.trans (h4.le (by omega)),h3 ρ' h4,h5⟩
  ·cases h
 | ite b x y ihx ihy =>
  intro c st ρ o h hw;simp only[R.wf,Ju0] at hw;simp only[JL] at h;split at h
  ·rename_i hb;obtain⟨ρ',h1,h2⟩:=ihx c st ρ o h hw.1.2;exact⟨ρ',h1,by simp only[Run,JbH h1 b hw.1.1,hb,if_true];exact h2⟩
  ·rename_i hb;obtain⟨ρ',h1,h2⟩:=ihy c st ρ o h hw.2;refine⟨ρ',h1,?_⟩;simp only[Run,JbH h1 b hw.1.1];rw[if_neg hb];exact h2
 | nilq c' l x y ihx ihy =>
  intro c st ρ o h hw;simp only[R.wf,Ju0,beq_iff_eq] at hw;obtain⟨⟨⟨rfl,hu⟩,hwx⟩,hwy⟩:=hw;simp only[JL] at h;refine⟨ρ,Jz.rfl',?_⟩;simp only[Run];split at h
  ·split at h
   ·rename_i he;exact⟨ihy _ st ρ o h hwy,fun _=>ihx _ st ρ o (by rw[he];exact h) hwx⟩
   ·cases h
  ·rename_i hl;exact⟨ihy _ st ρ o h hwy,fun e=>by rw[e] at hl;cases hl⟩
 | loop c' init body ih =>
  intro c st ρ o h hw;simp only[R.wf,Ju0,beq_iff_eq] at hw;obtain⟨⟨rfl,hu⟩,hw⟩:=hw;simp only[JL] at h;refine⟨ρ,Jz.rfl',?_⟩;simp only[Run];have key :∀(n:Nat) (vs:List V),vs.length=init.length→UO (fun vs=>JL B N body (X6 c' vs ρ)) n vs=some o→JcI (fun vs o1=>∃ ρ',Jz c' ρ ρ'∧JbV c' vs ρ'∧Run B N body ρ' o1) n vs o:=by
   intro n
   induction n with
   | zero=>intro vs _ h;cases h
   | succ n ihn =>
    intro vs hlen h;simp only[UO] at h;obtain⟨s1,s2⟩:=JbD vs c' ρ;have keep :∀ρ',Jz (c'+init.length) (X6 c' vs ρ) ρ'→Jz c' ρ ρ'∧JbV c' vs ρ':=fun ρ' ha =>
     ⟨s1.trans (ha.le (by omega)),fun j v hj=>by
      have hlt:j<vs.length:=(Ju1.1 hj).1;rw[ha (c'+j) (by omega)];exact s2 j v hj⟩
    split at h
    ·rename_i vs' h1;obtain⟨ρ',h2,h3⟩:=ih _ _ _ _ h1 hw;obtain⟨h4,h5⟩:=keep ρ' h2;have hcf:=JlQ _ _ _ _ _ h1 hw;simp only[Oc.conf,List.head?_cons,JuZ] at hcf;exact .inl ⟨vs',⟨ρ',h4,h5,h3⟩,ihn vs' hcf.symm h⟩
    ·rename_i o' h1;simp only[JuZ] at h;subst h;obtain⟨ρ',h2,h3⟩:=ih _ _ _ _ h1 hw;obtain⟨h4,h5⟩:=keep ρ' h2;exact .inr ⟨ρ',h4,h5,h3⟩
    ·cases h
  exact key N _ (by simp) h
 | next vs =>
  intro c st ρ o h hw;simp only[JL,JuZ] at h;subst h;exact⟨ρ,Jz.rfl',rfl⟩
 | done vs =>
  intro c st ρ o h hw;simp only[JL,JuZ] at h;subst h;exact⟨ρ,Jz.rfl',rfl⟩
 | esc r ih =>
  intro c st ρ o h hw;simp only[JL] at h;split at h
  ·rename_i o' h1;simp only[JuZ] at h;subst h;obtain⟨ρ',h2,h3⟩:=ih c _ ρ o' h1 hw;exact⟨ρ',h2,o',rfl,h3⟩
  ·cases h
end
end Go.Tm
end

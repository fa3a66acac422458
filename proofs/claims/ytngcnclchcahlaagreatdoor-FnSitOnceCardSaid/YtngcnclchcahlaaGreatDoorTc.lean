import Derived.Test.YtngcnclchcahlaaGreatDoorTb
set_option linter.unusedVariables false
set_option linter.unusedSimpArgs false
section
namespace Go.Tm
open Go.IntKind (i64)
def ZG (i:Nat):List Jj→X9
 | []=>[]
 | o::os=>(i,o)::ZG (i+1) os
theorem Zk :∀(os:List Jj) (a k:Nat),(ZG a os).lookup k=if a≤k then os[k-a]? else none
 | [],a,k=>by simp[ZG]
 | o::os,a,k=>by
  simp only[ZG,List.lookup_cons]
  by_cases h:k=a
  ·subst h;simp
  ·have hb:(k == a)=false:=by simpa using h
   rw[hb,Zk os (a+1) k]
   by_cases hlt:a≤k
   ·have e:k-a=(k-(a+1))+1:=by omega
    rw[if_pos (by omega),if_pos hlt,e,List.getElem?_cons_succ]
   ·rw[if_neg (by omega),if_neg hlt]
theorem Jcz (ρ:Env) (os:List Jj):γm ρ (ZG 0 os)=Xk (JE 0 (os.map (γO ρ))):=by
 funext k
 simp only[γm,Xk,Xt,Zk,Nat.zero_le,if_true,Nat.sub_zero,Juu]
mutual
def SV.lv:SV→List E
 | .d e=>[e]
 | .g cs=>slv cs
 | .t cs=>slv cs
 | .f _ cs=>slv cs
 | _=>[]
def slv:List SV→List E
 | []=>[]
 | c::cs=>SV.lv c++slv cs
end
mutual
def SV.lv2:SV→List E
 | .d e=>[e]
 | .g cs=>JeS cs
 | .t cs=>JeS cs
 | .f _ cs=>JeS cs
 | .o _ l=>[.s l]
 | .e _ l i _=>[.s l,.vi .i64 i]
 | _=>[]
def JeS:List SV→List E
 | []=>[]
 | c::cs=>SV.lv2 c++JeS cs
end
def Jj.lv:Jj→List E
 | .box cs=>slv cs
 | .arr _ _ l _ _=>[.s l]
 | .dead=>[]
def Jj.lv2:Jj→List E
 | .box cs=>JeS cs
 | .arr _ _ l _ _=>[.s l]
 | .dead=>[]
section
variable {ρ ρ':Env}
mutual
theorem Jsk :∀v:SV,γX ρ v=γX ρ' v→∀e∈v.lv,dat ρ e=dat ρ' e
 | .d e,h,e',he=>by
  simp only[SV.lv,Jur] at he;subst he;simp only[γX] at h;injection h
 | .g cs,h,e',he=>by simp only[γX] at h;injection h with h;exact Jbh cs h e' (by simpa[SV.lv] using he)
 | .t cs,h,e',he=>by simp only[γX] at h;injection h with h;exact Jbh cs h e' (by simpa[SV.lv] using he)
 | .f _ cs,h,e',he=>by simp only[γX] at h;injection h with _ h;exact Jbh cs h e' (by simpa[SV.lv] using he)
 | .o _ _,_,e',he=>by simp[SV.lv] at he
 | .p _ _,_,e',he=>by simp[SV.lv] at he
 | .e _ _ _ _,_,e',he=>by simp[SV.lv] at he
 | .u,_,e',he=>by simp[SV.lv] at he
theorem Jbh :∀cs:List SV,γXs ρ cs=γXs ρ' cs→∀e∈slv cs,dat ρ e=dat ρ' e
 | [],_,e',he=>by simp[slv] at he
 | c::cs,h,e',he=>by
  simp only[γXs,List.cons.injEq] at h;simp only[slv,Jue] at he;rcases he with he | he
  ·exact Jsk c h.1 e' he
  ·exact Jbh cs h.2 e' he
end
mutual
theorem Jow :∀v:SV,(∀e∈v.lv2,dat ρ e=dat ρ' e)→γX ρ v=γX ρ' v
 | .d e,h=>by simp only[γX];rw[h e (by simp[SV.lv2])]
 | .g cs,h=>by simp only[γX];rw[Wd cs (fun e he=>h e (by simpa[SV.lv2] using he))]
 | .t cs,h=>by simp only[γX];rw[Wd cs (fun e he=>h e (by simpa[SV.lv2] using he))]
 | .f _ cs,h=>by simp only[γX];rw[Wd cs (fun e he=>h e (by simpa[SV.lv2] using he))]
 | .o _ l,h=>by simp only[γX];rw[JiS (h (.s l) (by simp[SV.lv2]))]
 | .p _ _,_=>rfl
 | .e _ l i _,h=>by
  simp only[γX];rw[JiS (h (.s l) (by simp[SV.lv2]))];have:D.v (.int .i64 (int ρ i))=D.v (.int .i64 (int ρ' i)):=h (.vi .i64 i) (by simp[SV.lv2]);simp only[D.v.injEq,Value.int.injEq,true_and] at this;rw[this]
 | .u,_=>rfl
theorem Wd :∀cs:List SV,(∀e∈JeS cs,dat ρ e=dat ρ' e)→γXs ρ cs=γXs ρ' cs
 | [],_=>rfl
 | c::cs,h=>by
  simp only[γXs];rw[Jow c (fun e he=>h e (by simp[JeS,he])),Wd cs (fun e he=>h e (by simp[JeS,he]))]
end
theorem Jra (o:Jj) (h:γO ρ o=γO ρ' o) :∀e∈o.lv,dat ρ e=dat ρ' e:=by
 intro e he;cases o with
 | box cs=>simp only[γO] at h;injection h with h;exact Jbh cs h e he
 | arr ty sz l dp rw =>
  simp only[Jj.lv,Jur] at he;subst he;simp only[γO] at h;injection h with _ _ h;show D.s (lst ρ l)=D.s (lst ρ' l);rw[h]
 | dead=>simp[Jj.lv] at he
theorem Jlu (o:Jj) (h :∀e∈o.lv2,dat ρ e=dat ρ' e):γO ρ o=γO ρ' o:=by
 cases o with
 | box cs=>simp only[γO];rw[Wd cs h]
 | arr ty sz l dp rw=>simp only[γO];rw[JiS (h (.s l) (by simp[Jj.lv2]))]
 | dead=>rfl
end
def Q3.rel (s:Q3) (F:List D→Option (List D)) (xs:List X) (os:List Obj) (r:X×Mem):Prop :=
 ∃ ρ1 ρ2,xs=γXs ρ1 s.args∧os=s.objs.map (γO ρ1)∧F ((JB s.ins 0).map (dat ρ1))=some ((JB s.outs 0).map (dat ρ2))∧r=(γX ρ2 s.res,γm ρ2 (ZG 0 s.robjs))
def Q3.ok (s:Q3):Bool :=
 let ls:=slv s.args++s.objs.flatMap Jj.lv
 let os:=JB s.outs 0
 (JB s.ins 0).all (fun e=>ls.any fun x=>x.same e)&&(s.res.lv2++s.robjs.flatMap Jj.lv2).all (fun e=>os.any fun x=>x.same e)
theorem Jdv {l:List E} {e:E} (h:l.any (fun x=>x.same e)=true) : ∃ x∈l,∀ρ,dat ρ x=dat ρ e:=by
 obtain⟨x,hx,hs⟩:=List.any_eq_true.1 h;exact⟨x,hx,fun ρ=>Jo7 hs ρ⟩
theorem Q3.rel_one {s:Q3} (hs:s.ok=true) {F:List D→Option (List D)} {xs:List X} {os:List Obj} {r r':X×Mem} (h:s.rel F xs os r) (h':s.rel F xs os r'):r=r':=by
 obtain⟨ρ1,ρ2,hx,ho,hF,rfl⟩:=h;obtain⟨σ1,σ2,hx',ho',hF',rfl⟩:=h';unfold Q3.ok at hs;simp only[Jt9] at hs;have hin:(JB s.ins 0).map (dat ρ1)=(JB s.ins 0).map (dat σ1):=by
  refine Juv fun e he=>?_;obtain⟨x,hxm,hxe⟩:=Jdv (Jum.1 hs.1 e he);rw[←hxe,←hxe];rcases Jue.1 hxm with hm | hm
  ·exact Jbh s.args (hx.symm.trans hx') x hm
  ·obtain⟨o,hom,hxo⟩:=List.mem_flatMap.1 hm;have:s.objs.map (γO ρ1)=s.objs.map (γO σ1):=ho.symm.trans ho';exact Jra o (List.map_inj_left.1 this o hom) x hxo
 rw[hin,hF'] at hF;simp only[Jt8] at hF;have hout :∀e∈s.res.lv2++s.robjs.flatMap Jj.lv2,dat ρ2 e=dat σ2 e:=by
  intro e he;obtain⟨x,hxm,hxe⟩:=Jdv (Jum.1 hs.2 e he);rw[←hxe,←hxe];exact(List.map_inj_left.1 hF x hxm).symm
 have e1:γX ρ2 s.res=γX σ2 s.res:=Jow _ fun e he=>hout e (by simp[he]);have e2:γm ρ2 (ZG 0 s.robjs)=γm σ2 (ZG 0 s.robjs):=by
  rw[Jcz,Jcz]
  congr 2
  exact Juv fun o ho=>Jlu o fun e he=>hout e (List.mem_append_right _ (List.mem_flatMap.2 ⟨o,ho,he⟩))
 rw[e1,e2]
open Classical in
noncomputable def YD (s:Q3) (F:List D→Option (List D)):Ko:=fun xs os=>if h : ∃ r,s.rel F xs os r then some h.choose else none
theorem JaA {s:Q3} (hs:s.ok=true) {F:List D→Option (List D)} {xs:List X} {os:List Obj} {r:X×Mem} (h:s.rel F xs os r):YD s F xs os=some r:=by
 unfold YD;have hex : ∃ r,s.rel F xs os r:=⟨r,h⟩;rw[dif_pos hex,Q3.rel_one hs hex.choose_spec h]
theorem Wf {s:Q3} {F:List D→Option (List D)} {xs:List X} {os:List Obj} {r:X×Mem} (h:YD s F xs os=some r):s.rel F xs os r:=by
 unfold YD at h;split at h
 ·rename_i hex;simp only[Jt8] at h;subst h;exact hex.choose_spec
 ·cases h
def E.up (n:Nat):E→E
 | .v j=> .v (n+j)
 | .da j=> .da (n+j)
 | .z m=> .z m
 | .tt=> .tt
 | .ff=> .ff
 | .bin o k x y=> .bin o k (x.up n) (y.up n)
 | .cmp o x y=> .cmp o (x.up n) (y.up n)
 | .not x=> .not (x.up n)
 | .beq x y=> .beq (x.up n) (y.up n)
 | .len l=> .len (l.up n)
 | .cv k x=> .cv k (x.up n)
 | .vi k x=> .vi k (x.up n)
 | .vb x=> .vb (x.up n)
 | .vc x=> .vc x
 | .s l=> .s (l.up n)
 | .g l=> .g (l.up n)
 | .q l=> .q (l.up n)
 | .fn f l=> .fn f (l.up n)
 | .nil=> .nil
 | .cons x l=> .cons (x.up n) (l.up n)
 | .app x y=> .app (x.up n) (y.up n)
 | .rep x y=> .rep (x.up n) (y.up n)
 | .set x y w=> .set (x.up n) (y.up n) (w.up n)
 | .take x y=> .take (x.up n) (y.up n)
theorem Jgl (ρ:Env) (n:Nat) :∀e:E,den ρ (e.up n)=den (fun j=>ρ (n+j)) e:=by
 intro e
 induction e <;> simp only[E.up,den, *]
mutual
def SV.up (n:Nat):SV→SV
 | .d e=> .d (e.up n)
 | .g cs=> .g (sup n cs)
 | .o k l=> .o k (l.up n)
 | .p k off=> .p k off
 | .e k l i off=> .e k (l.up n) (i.up n) off
 | .f fn cs=> .f fn (sup n cs)
 | .t cs=> .t (sup n cs)
 | .u=> .u
def sup (n:Nat):List SV→List SV
 | []=>[]
 | c::cs=>SV.up n c::sup n cs
end
mutual
theorem SV.up_ok (ρ:Env) (n:Nat) :∀v:SV,γX ρ (v.up n)=γX (fun j=>ρ (n+j)) v
 | .d e=>by simp only[SV.up,γX,dat,Jgl]
 | .g cs=>by simp only[SV.up,γX,Jee ρ n cs]
 | .o k l=>by simp only[SV.up,γX,lst,Jgl]
 | .p k off=>rfl
 | .e k l i off=>by simp only[SV.up,γX,lst,int,Jgl]
 | .f fn cs=>by simp only[SV.up,γX,Jee ρ n cs]
 | .t cs=>by simp only[SV.up,γX,Jee ρ n cs]
 | .u=>rfl
theorem Jee (ρ:Env) (n:Nat) :∀cs:List SV,γXs ρ (sup n cs)=γXs (fun j=>ρ (n+j)) cs
 | []=>rfl
 | c::cs=>by simp only[sup,γXs,SV.up_ok ρ n c,Jee ρ n cs]
end
def Jj.up (n:Nat):Jj→Jj
 | .box cs=> .box (sup n cs)
 | .arr ty sz l dp rw=> .arr ty sz (l.up n) dp rw
 | .dead=> .dead
theorem Jj.up_ok (ρ:Env) (n:Nat) (o:Jj):γO ρ (o.up n)=γO (fun j=>ρ (n+j)) o:=by
 cases o with
 | box cs=>simp only[Jj.up,γO,Jee]
 | arr ty sz l dp rw=>simp only[Jj.up,γO,lst,Jgl]
 | dead=>rfl
theorem Jc0 (ρ:Env) :∀(as:List Sh1) (n m:Nat),(JB as (n+m)).map (dat ρ)=(JB as m).map (dat fun j=>ρ (n+j))
 | [],n,m=>rfl
 | a::as,n,m=>by
  simp only[JB,Juh];rw[show n+m+1=n+(m+1) by omega,Jc0 ρ as n (m+1)]
  congr 1
  cases a <;> rfl
def VW {α:Type}:List Key→(List Jj→SMP α)→SMP α
 | [],c=>c []
 | k::ks,c=> .get k fun o=>VW ks fun os=>c (o::os)
def JgS {α:Type}:List (Key×Jj)→SMP α→SMP α
 | [],c=>c
 | (k,o)::l,c=> .put k o (JgS l c)
def JcA {α:Type}:List (Key×Jj)→SMP α→SMP α
 | [],c=>c
 | (k,o)::l,c=> .new k o (JcA l c)
section
variable {B:Tb} {ρ:Env}
theorem ZQ {α β:Type} {f:α→β} :∀(ks:List Key) (c:List Jj→SMP α) (c':List Obj→MP β),(∀os,(c os).Ok B ρ f (c' (os.map (γO ρ))))→(VW ks c).Ok B ρ f (Jef ks c')
 | [],c,c',h=>h []
 | k::ks,c,c',h=>⟨_,rfl,fun o=>ZQ ks _ _ fun os=>h (o::os)⟩
theorem Jer {α β:Type} {f:α→β} :∀(l:List (Key×Jj)) (c:SMP α) (c':MP β),c.Ok B ρ f c'→(JgS l c).Ok B ρ f (JdS (l.map fun p=>(p.1,γO ρ p.2)) c')
 | [],c,c',h=>h
 | (k,o)::l,c,c',h=>⟨_,rfl,Jer l c c' h⟩
theorem WO {α β:Type} {f:α→β} :∀(l:List (Key×Jj)) (c:SMP α) (c':MP β),c.Ok B ρ f c'→(JcA l c).Ok B ρ f (JgD (l.map fun p=>(p.1,γO ρ p.2)) c')
 | [],c,c',h=>h
 | (k,o)::l,c,c',h=>⟨_,rfl,WO l c c' h⟩
def Jox (ins:List Sh1) (bs:List (Nat×E)):Nat→List E
 | j=>match ins with
  | []=>[]
  | a::as=>(match bs.lookup j with
   | some x=>(match a with | .i k=>E.vi k x | .b=> .vb x | .d=>x | .s=> .s x)
   | none=> .vc .nilFunc)::Jox as bs (j+1)
def Jh2 (ins:List Sh1) (bs:List (Nat×E)):Nat→Bool
 | j=>match ins with
  | []=>true
  | a::as=>(match bs.lookup j with
   | some x=>(match a with | .d=>x.isOne&&WH x | _=>true)
   | none=>false)&&Jh2 as bs (j+1)
theorem Jgu :∀(ins:List Sh1) (bs:List (Nat×E)) (j:Nat),Jh2 ins bs j=true→(Jox ins bs j).map (dat ρ)=(JB ins j).map (dat (YE 0 ρ bs))
 | [],bs,j,_=>rfl
 | a::as,bs,j,h=>by
  unfold Jh2 at h;simp only[Jt9] at h;unfold Jox;simp only[JB,Juh,Jgu as bs (j+1) h.2]
  congr 1
  cases hl:bs.lookup j with
  | none=>rw[hl] at h;simp at h
  | some x =>
   have he:YE 0 ρ bs j=den ρ x:=by simp[YE,hl]
   cases a with
   | i k=>show D.v (.int k (den ρ x).int)=D.v (.int k (YE 0 ρ bs j).int);rw[he]
   | b=>show D.v (.bool (den ρ x).bool)=D.v (.bool (YE 0 ρ bs j).bool);rw[he]
   | s=>show D.s (den ρ x).lst=D.s (YE 0 ρ bs j).lst;rw[he]
   | d =>
    show dat ρ x=Xu (YE 0 ρ bs j).dat;rw[he];rw[hl] at h;simp only[Jt9] at h;show dat ρ x=Xu (dat ρ x);rw[Ui (J6 h.1.1 ρ),Jbg h.1.2]
def VU (s : Q3) (f : FuncId) (kb : Key) (xs : List SV) (L : List Key) (os : List Jj) : SMP SV :=
  if (X8 xs ++ os.flatMap Jj.names).all L.contains then
    match mv.mvs s.args (Jbb (at? L) (Kl (holds? (L.zip os)) xs)),mos s.objs (os.map fun o=>(JgQ (holds? (L.zip os)) o).ren (at? L)) with
    | some ps,some qs=>match JkC 0 (ps++qs) with
      | some bs=>if Jbj bs&&Jh2 s.ins bs 0 then
          let n:=L.length
          let news:=Yp [] ((s.res.names++(s.robjs.take n).flatMap Jj.names).filter fun k=>n≤k)
          let all:=List.range n++news
          if all == List.range s.robjs.length&&(s.res.names++s.robjs.flatMap Jj.names).all all.contains&&Nat.ble news.length 16 then
            .ask (fun a=> .call f (Jox s.ins bs 0) s.outs a) s.outs.length fun a =>
              let back:=fun k=>(L++(List.range news.length).map (kb + ·)).getD (at? all k) 0
              let os':=s.robjs.map (Jj.up a)
              JgS (L.zip ((os'.take n).map (Jj.ren back)))
                (JcA (((List.range news.length).map (kb + ·)).zip ((os'.drop n).map (Jj.ren back))) (.ret ((s.res.up a).ren back)))
          else .fail
        else .fail
      | none=> .fail
    | _,_=> .fail
  else .fail
mutual
def Jkn (look:Key→Option E):SV→List (E×E)
 | .o k l=>match look k with
  | some l'=>if l.lsame l' then [] else [(l,l')]
  | none=>[]
 | .g cs=>Kt look cs
 | .t cs=>Kt look cs
 | .f _ cs=>Kt look cs
 | _=>[]
def Kt (look:Key→Option E):List SV→List (E×E)
 | []=>[]
 | c::cs=>Jkn look c++Kt look cs
end
mutual
def JbK (look:Key→Option E):SV→SV
 | .o k l=>match look k with
  | some l'=> .o k l'
  | none=> .o k l
 | .g cs=> .g (Kq look cs)
 | .t cs=> .t (Kq look cs)
 | .f fn cs=> .f fn (Kq look cs)
 | v=>v
def Kq (look:Key→Option E):List SV→List SV
 | []=>[]
 | c::cs=>JbK look c::Kq look cs
end
mutual
theorem Jl8 (ρ:Env) (look:Key→Option E) :∀v:SV,(∀p∈Jkn look v,(lst ρ p.1).length=(lst ρ p.2).length)→γX ρ (JbK look v)=γX ρ v
 | .o k l,h=>by
  simp only[JbK];simp only[Jkn] at h;split
  ·rename_i l' hk;rw[hk] at h;simp only at h
   by_cases hl:l.lsame l'=true
   ·simp only[γX,lL1 hl ρ]
   ·rw[if_neg hl] at h;simp only[γX,h (l,l') (by simp)]
  ·rfl
 | .g cs,h=>by simp only[JbK,γX,YS ρ look cs h]
 | .t cs,h=>by simp only[JbK,γX,YS ρ look cs h]
 | .f _ cs,h=>by simp only[JbK,γX,YS ρ look cs h]
 | .e _ _ _ _,_=>rfl
 | .d _,_=>rfl
 | .p _ _,_=>rfl
 | .u,_=>rfl
theorem YS (ρ:Env) (look:Key→Option E) :∀cs:List SV,(∀p∈Kt look cs,(lst ρ p.1).length=(lst ρ p.2).length)→γXs ρ (Kq look cs)=γXs ρ cs
 | [],_=>rfl
 | c::cs,h=>by
  simp only[Kt,Jue] at h;simp only[Kq,γXs,Jl8 ρ look c (fun p hp=>h p (.inl hp)),YS ρ look cs (fun p hp=>h p (.inr hp))]
end
def Ja2 {α:Type}:List (E×E)→SMP α→SMP α
 | [],c=>c
 | (l,l')::ps,c=> .ask (fun _=> .chk (.cmp .eq (.len l) (.len l'))) 0 fun _=>Ja2 ps c
theorem VE {B:Tb} {ρ:Env} {α β:Type} {f:α→β} {c:SMP α} {q:MP β} :∀ps:List (E×E),((∀p∈ps,(lst ρ p.1).length=(lst ρ p.2).length)→c.Ok B ρ f q)→(Ja2 ps c).Ok B ρ f q
 | [],h=>h (by simp)
 | (l,l')::ps,h=>by
  intro n hn;refine VE ps fun hp=>h fun p hm=>?_;rcases Jus.1 hm with rfl | hm
  ·have h:decide (((lst ρ l).length:Int)=((lst ρ l').length:Int))=true:=hn;have h:((lst ρ l).length:Int)=((lst ρ l').length:Int):=by simpa using h
   show (lst ρ l).length=(lst ρ l').length;omega
  ·exact hp p hm
mutual
def SV.flE:SV→Bool
 | .d (.vi _ _)=>true
 | .d (.vb _)=>true
 | .g cs=>JnJ cs
 | .t cs=>JnJ cs
 | .o _ _=>true
 | _=>false
def JnJ:List SV→Bool
 | []=>true
 | c::cs=>SV.flE c&&JnJ cs
end
mutual
theorem JoM (ρ:Env) :∀v:SV,v.flE=true→(γX ρ v).fl=true
 | .d e,h=>by cases e <;> simp[SV.flE] at h <;> simp[γX,X.fl,dat,den,V.dat,flat]
 | .g cs,h=>by simp only[γX,X.fl];exact Jgz ρ cs (by simpa[SV.flE] using h)
 | .t cs,h=>by simp only[γX,X.fl];exact Jgz ρ cs (by simpa[SV.flE] using h)
 | .o k l,_=>rfl
 | .p _ _,h=>by simp[SV.flE] at h
 | .e _ _ _ _,h=>by simp[SV.flE] at h
 | .f _ _,h=>by simp[SV.flE] at h
 | .u,h=>by simp[SV.flE] at h
theorem Jgz (ρ:Env) :∀vs:List SV,JnJ vs=true→Jjq (γXs ρ vs)=true
 | [],_=>rfl
 | v::vs,h=>by
  simp only[JnJ,Jt9] at h;simp only[γXs,Jjq,JoM ρ v h.1,Jgz ρ vs h.2,Bool.and_self]
end
def Jj.deepen:Jj→Jj
 | .arr ty sz l _ rw=> .arr ty sz l true rw
 | o=>o
theorem JmS (ρ:Env) (o:Jj):γO ρ o.deepen=(γO ρ o).deepen:=by cases o <;> rfl
theorem JgB (o:Jj):o.deepen.names=o.names:=by cases o <;> rfl
theorem JmO (n:Nat) (o:Jj):(o.up n).deepen=(o.deepen).up n:=by cases o <;> rfl
def Jht {α:Type}:List Jj→SMP α→SMP α
 | [],c=>c
 | .arr _ _ l dp rw::os,c=>if rw then(if dp then Jht os c else .ask (fun _=> .fl l) 0 fun _=>Jht os c) else .fail
 | _::_,_=> .fail
theorem Jej {α β:Type} {f:α→β} {q:MP β} {c:SMP α} :∀(os:List Jj),((∀o∈os,Kr (some (γO ρ o))=true)→c.Ok B ρ f q)→(Jht os c).Ok B ρ f q
 | [],h=>h (fun _ h=>by simp at h)
 | .arr ty sz l dp rw::os,h=>by
  simp only[Jht];cases rw with
  | false=>trivial
  | true =>
   simp only[if_true];cases dp with
   | true =>
    simp only[if_true];refine Jej os fun ho=>h fun o hm=>?_;rcases Jus.1 hm with rfl | hm
    ·simp[γO,Kr]
    ·exact ho o hm
   | false =>
    simp only[Jup,if_false];intro n hn;simp only[I.holds] at hn;refine Jej os fun ho=>h fun o hm=>?_;rcases Jus.1 hm with rfl | hm
    ·simp[γO,Kr,hn]
    ·exact ho o hm
 | .box _::_,_=>trivial
 | .dead::_,_=>trivial
def Jbs (s:Q3) (f:FuncId) (kb:Key) (xs:List SV):SMP SV :=
 match mv.mvs s.args xs,s.objs with
 | some ps,[]=>match JkC 0 ps with
  | some bs=>if Jbj bs&&Jh2 s.ins bs 0 then
    let news:=Yp [] (s.res.names.filter fun k=>decide (0≤k))
    if news == List.range s.robjs.length&&(s.res.names++s.robjs.flatMap Jj.names).all news.contains&&Nat.ble news.length 16&&s.res.flE then
     .ask (fun a=> .call f (Jox s.ins bs 0) s.outs a) s.outs.length fun a =>
      let back:=fun k=>((List.range news.length).map (kb + ·)).getD (at? news k) 0
      let os':=s.robjs.map (Jj.up a)
      Jht os' (JcA (((List.range news.length).map (kb + ·)).zip ((os'.map Jj.deepen).map (Jj.ren back))) (.ret ((s.res.up a).ren back)))
    else .fail
   else .fail
  | none=> .fail
 | _,_=> .fail
def JjB (s:Q3) (f:FuncId) (kb:Key) (xs0:List SV):SMP SV :=
 if JiQ xs0 then
  let xs:=JiB xs0
  let ks:=Yp [] (X8 xs)
  VW ks fun os=>let L:=Yp ks (os.flatMap Jj.names);VW L fun os=>Ja2 (Kt (holds? (L.zip os)) xs) (VU s f kb (Kq (holds? (L.zip os)) xs) L os)
 else .fail
def JgY (s:Q3) (f:FuncId) (kb:Key) (xs:List SV):SMP SV :=
 let ks:=Yp [] (X8 xs)
 VW ks fun os=>let L:=Yp ks (os.flatMap Jj.names);VW L fun os=>Ja2 (Kt (holds? (L.zip os)) xs) (VU s f kb (Kq (holds? (L.zip os)) xs) L os)
theorem Qw (ρ:Env) :∀os:List Jj,(os.map (γO ρ)).flatMap Obj.names=os.flatMap Jj.names
 | []=>rfl
 | o::os=>by simp only[Juh,List.flatMap_cons,Je8,Qw ρ os]
theorem Jex {α:Type} (f:Key→Option α) (l:List α) (h :∀i,f i=l[i]?):(List.range l.length).mapM f=some l:=by
 have key :∀(n a:Nat),a+n=l.length→(List.range' a n).mapM f=some (l.drop a):=by
  intro n
  induction n with
  | zero=>intro a ha;simp at ha;subst ha;simp
  | succ n ih =>
   intro a ha;have hlt:a<l.length:=by omega
   rw[List.range'_succ,List.mapM_cons,h a,Juk hlt,ih (a+1) (by omega),List.drop_eq_getElem_cons hlt];rfl
 rw[List.range_eq_range'];have:=key l.length 0 (by omega);simpa using this
theorem VG {α:Type} (l:List Key) (os:List α) {β:Type} (g:α→β):(l.zip os).map (fun p=>(p.1,g p.2))=l.zip (os.map g):=by
 rw[List.zip_map_right];rfl
theorem JiR {m:Mem} (os:List Obj) (n:Nat) (h :∀i,m i=os[i]?):YJ m n=(os.take n).flatMap Obj.names:=by
 induction n with
 | zero=>simp[YJ]
 | succ n ih =>
  unfold YJ at ih ⊢;rw[List.range_succ,List.flatMap_append,ih,List.take_add_one,List.flatMap_append];simp only[List.flatMap_cons,List.flatMap_nil,List.append_nil,h n];cases os[n]? <;> simp
theorem Jae {s:Q3} (hs:s.ok=true) (f:FuncId) (kb:Key) (xs:List SV) (L:List Key) (os:List Jj) :
  (VU s f kb xs L os).Ok B ρ (γX ρ) (Z0 (YD s (B.call f)) kb (γXs ρ xs) L (os.map (γO ρ))):=by
 unfold VU;split
 ·rename_i hclo;split
  ·rename_i ps qs hps hqs
   ·split
    ·rename_i bs hbs;split
     ·rename_i hc;simp only[Jt9] at hc;simp only;split
      ·rename_i hall;simp only[Jt9] at hall;obtain⟨⟨hall1,hall2⟩,hlen⟩:=hall;have hall1:List.range L.length++Yp [] ((s.res.names++(s.robjs.take L.length).flatMap Jj.names).filter fun k=>L.length≤k)=List.range s.robjs.length:=by simpa using hall1
       intro a hcall;simp only[I.holds] at hcall;have hargs:γXs (YE 0 ρ bs) s.args=UZ (at? L) (γXs ρ xs):=by
        rw[←Y6 ρ (holds? (L.zip os)) xs,VK];exact W5 _ _ _ hps fun q hq=>Jgm hbs hc.1 (by simp[hq])
       have hobjs:s.objs.map (γO (YE 0 ρ bs))=(os.map (γO ρ)).map (Obj.ren (at? L)):=by
        rw[Jpc _ _ _ hqs fun q hq=>Jgm hbs hc.1 (by simp[hq])];simp only[List.map_map];exact Juv fun o _=>by simp only[Function.comp];rw[←Jat,JfR]
       have hF:B.call f ((JB s.ins 0).map (dat (YE 0 ρ bs)))=some ((JB s.outs 0).map (dat fun j=>ρ (a+j))):=by
        rw[←Jgu _ _ _ hc.2,hcall]
        congr 1
        exact Jc0 ρ s.outs a 0
       have hspec:=JaA hs (F:=B.call f) ⟨YE 0 ρ bs,fun j=>ρ (a+j),hargs.symm,hobjs.symm,hF,rfl⟩;unfold Z0;rw[Yu,Qw,if_pos hclo,hspec];simp only[KT];have hm1 :∀i,γm (fun j=>ρ (a+j)) (ZG 0 s.robjs) i=(s.robjs.map (γO fun j=>ρ (a+j)))[i]?:=by
        intro i;simp only[γm,Zk,Nat.zero_le,if_true,Nat.sub_zero,Juu]
       have hbn:YJ (γm (fun j=>ρ (a+j)) (ZG 0 s.robjs)) L.length=(s.robjs.take L.length).flatMap Jj.names:=by rw[JiR _ _ hm1,←List.map_take,Qw]
       rw[hbn];have hmap:(List.range L.length++Yp [] ((s.res.names++(s.robjs.take L.length).flatMap Jj.names).filter fun k=>decide (L.length≤k))).mapM (γm (fun j=>ρ (a+j)) (ZG 0 s.robjs))=some (s.robjs.map (γO fun j=>ρ (a+j))):=by
        rw[hall1,←Jex _ _ hm1,Jui]
       rw[hmap];simp only[Qw];have hlen':(Yp [] ((s.res.names++(s.robjs.take L.length).flatMap Jj.names).filter fun k=>decide (L.length≤k))).length≤16:=Nat.le_of_ble_eq_true hlen;rw[if_pos (by rw[Jt9];exact⟨hall2,by simpa using hlen'⟩)];have hren :∀(back:Key→Key) (l:List Jj),(l.map (γO fun j=>ρ (a+j))).map (Obj.ren back)=((l.map (Jj.up a)).map (Jj.ren back)).map (γO ρ):=by
        intro back l;simp only[List.map_map];exact Juv fun o _=>by simp only[Function.comp,←Jat,Jj.up_ok]
       simp only[←List.map_take,←List.map_drop];rw[hren,hren,←VG _ _ (γO ρ),←VG _ _ (γO ρ)];refine Jer _ _ _ (WO _ _ _ ?_);simp only[SMP.Ok,←Jds,SV.up_ok]
      ·trivial
     ·trivial
    ·trivial
  ·trivial
 ·trivial
theorem Jl0 {s:Q3} (hs:s.ok=true) (f:FuncId) (kb:Key) (xs:List SV):(JjB s f kb xs).Ok B ρ (γX ρ) (Jlv (YD s (B.call f)) kb (γXs ρ xs)):=by
 unfold JjB Jlv WU;split
 ·rename_i ho;rw[JdY ρ xs ho];simp only[Yu];refine ZQ _ _ _ fun os=>?_;simp only[Qw];refine ZQ _ _ _ fun os=>VE _ fun hp=>?_;rw[←YS ρ _ _ hp];exact Jae hs f kb _ _ _
 ·trivial
theorem JkM {s:Q3} (hs:s.ok=true) (f:FuncId) (kb:Key) (xs:List SV):(JgY s f kb xs).Ok B ρ (γX ρ) (WU (YD s (B.call f)) kb (γXs ρ xs)):=by
 unfold JgY WU;simp only[Yu];refine ZQ _ _ _ fun os=>?_;simp only[Qw];refine ZQ _ _ _ fun os=>VE _ fun hp=>?_;rw[←YS ρ _ _ hp];exact Jae hs f kb _ _ _
theorem Jgo {s:Q3} (hs:s.ok=true) (f:FuncId) (kb:Key) (xs:List SV) (ds:List D) (hds:ds.map X.ofD1=γXs ρ xs) :
  (Jbs s f kb xs).Ok B ρ (γX ρ) (UW (YD s (B.call f)) kb ds):=by
 unfold Jbs;split
 ·rename_i ps hps hobjs0;split
  ·rename_i bs hbs;split
   ·rename_i hc;simp only[Jt9] at hc;simp only;split
    ·rename_i hall;simp only[Jt9] at hall;obtain⟨⟨⟨hall1,hall2⟩,hlen⟩,hfl⟩:=hall;have hall1:Yp [] (s.res.names.filter fun k=>decide (0≤k))=List.range s.robjs.length:=by simpa using hall1
     intro a hcall;simp only[I.holds] at hcall;refine Jej _ fun hflat=>?_;have hargs:γXs (YE 0 ρ bs) s.args=γXs ρ xs:=W5 _ _ _ hps fun q hq=>Jgm hbs hc.1 hq;have hF:B.call f ((JB s.ins 0).map (dat (YE 0 ρ bs)))=some ((JB s.outs 0).map (dat fun j=>ρ (a+j))):=by
      rw[←Jgu _ _ _ hc.2,hcall]
      congr 1
      exact Jc0 ρ s.outs a 0
     have hspec:=JaA hs (F:=B.call f) (xs:=γXs ρ xs) (os:=[]) ⟨YE 0 ρ bs,fun j=>ρ (a+j),hargs.symm,by rw[hobjs0];rfl,hF,rfl⟩;have hm1 :∀i,γm (fun j=>ρ (a+j)) (ZG 0 s.robjs) i=(s.robjs.map (γO fun j=>ρ (a+j)))[i]?:=by
      intro i;simp only[γm,Zk,Nat.zero_le,if_true,Nat.sub_zero,Juu]
     have hmemn :∀k,k∈s.res.names↔k<s.robjs.length:=by
      intro k;have:k∈Yp [] (s.res.names.filter fun k=>decide (0≤k))↔k∈s.res.names:=by rw[Ja5];simp
      rw[←this,hall1,List.mem_range]
     have hfo :∀k∈s.res.names,Kr (γm (fun j=>ρ (a+j)) (ZG 0 s.robjs) k)=true:=by
      intro k hk;rw[hm1,Juu];have hlt:=(hmemn k).1 hk;rw[Juk hlt,Jub];have:=hflat (Jj.up a s.robjs[k]) (List.mem_map_of_mem (List.getElem_mem hlt));rw[Jj.up_ok] at this;exact this
     have hfS:Jlp (YD s (B.call f)) (ds.map X.ofD1)=some (γX (fun j=>ρ (a+j)) s.res,fun k=>if s.res.names.contains k then(γm (fun j=>ρ (a+j)) (ZG 0 s.robjs) k).map Obj.deepen else none):=by
      unfold Jlp;rw[hds,hspec];simp only[KT];rw[if_pos];rw[Jt9];exact⟨JoM _ _ hfl,Jum.2 hfo⟩
     unfold UW Z0;rw[hfS];simp only[KT,Qn,YJ,List.flatMap_nil,List.append_nil,List.all_nil,if_true,List.length_nil,List.range_zero,List.nil_append];have hm2 :∀i,(fun k=>if s.res.names.contains k then(γm (fun j=>ρ (a+j)) (ZG 0 s.robjs) k).map Obj.deepen else none) i=((s.robjs.map Jj.deepen).map (γO fun j=>ρ (a+j)))[i]?:=by
      intro i;simp only;split
      ·rw[hm1 i,Juu,Juu,Juu];cases s.robjs[i]? with
       | none=>rfl
       | some o=>simp only[Jub,JmS]
      ·rename_i hn;have : ¬i<s.robjs.length:=fun h=>hn (List.contains_iff_mem.2 ((hmemn i).2 h));rw[Juw (by simpa using this)]
     have hmap:(Yp [] (s.res.names.filter fun k=>decide (0≤k))).mapM (fun k=>if s.res.names.contains k then(γm (fun j=>ρ (a+j)) (ZG 0 s.robjs) k).map Obj.deepen else none)=some ((s.robjs.map Jj.deepen).map (γO fun j=>ρ (a+j))):=by
      rw[hall1,←Jex _ _ hm2,Jui,Jui]
     rw[hmap];have hdn:(s.robjs.map Jj.deepen).flatMap Jj.names=s.robjs.flatMap Jj.names:=by
      rw[List.flatMap_map]
      congr 1
      funext o
      exact JgB o
     simp only[Qw,hdn];have hlen':(Yp [] (s.res.names.filter fun k=>decide (0≤k))).length≤16:=Nat.le_of_ble_eq_true hlen;rw[if_pos (by rw[Jt9];exact⟨hall2,by simpa using hlen'⟩)];have hren :∀(back:Key→Key) (l:List Jj),(l.map (γO fun j=>ρ (a+j))).map (Obj.ren back)=((l.map (Jj.up a)).map (Jj.ren back)).map (γO ρ):=by
      intro back l;simp only[List.map_map];exact Juv fun o _=>by simp only[Function.comp,←Jat,Jj.up_ok]
     simp only[List.zip_nil_left,JdS,List.drop_zero];have hdu:(s.robjs.map Jj.deepen).map (Jj.up a)=(s.robjs.map (Jj.up a)).map Jj.deepen:=by
      rw[List.map_map,List.map_map];exact Juv fun o _=>(JmO a o).symm
     rw[hren,hdu,←VG _ _ (γO ρ)];refine WO _ _ _ ?_;simp only[SMP.Ok,←Jds,SV.up_ok]
    ·trivial
   ·trivial
  ·trivial
 ·trivial
end
end Go.Tm
end
section
namespace Go.Tm
open Go.IntKind (i64)
def Sh.ar:Sh→Option Nat
 | .g as=>some as.length
 | _=>none
def JqE (s:Jks):Option (List (Option Nat)) :=
 if s.flat&&s.pars.all noQ&&Nat.ble s.pars.length 30 then match s.res with
  | .one (.one _)=>some (s.pars.map Sh.ar)
  | _=>none
 else none
def Jjg:Sig→Bool
 | .d s=>s.res.ok&&(!s.flat||s.res.leaves.all V3)
 | .x s=>s.ok
def JqF:SV→Bool
 | .d _=>true
 | .g cs=>cs.all fun | .d _=>true | _=>false
 | _=>false
def Q3.mask (s:Q3):List Bool:=s.args.map JqF
def Jrd:SV→List Bool
 | .g cs=>if cs.any (fun | .o _ _=>true | _=>false) then cs.map fun | .d (.s _)=>true | _=>false else []
 | _=>[]
def Q3.gmask (s:Q3):List (List Bool):=s.args.map Jrd
def JkJ:SV→Bool
 | .d (.vc (.slice none 0 0))=>true
 | _=>false
def Q3.raw (s:Q3):Bool:=s.args.any JkJ
noncomputable def X7 (sg:FuncId→Option Sig) (B:Tb):Tab where
 fns f:=match sg f with
  | some (.d s)=>some { F:=dspec s (B.call f),flat:=s.flat }
  | _=>none
 xfns f:=match sg f with
  | some (.x s)=>some (YD s (B.call f))
  | _=>none
 xmask f:=match sg f with
  | some (.x s)=>s.mask
  | _=>[]
 xgmask f:=match sg f with
  | some (.x s)=>s.gmask
  | _=>[]
 xraw f:=match sg f with
  | some (.x s)=>s.raw
  | _=>false
 xflat f:=match sg f with
  | some (.x s)=>s.flat
  | _=>false
structure BOk (sg:FuncId→Option Sig) (B:Tb):Prop where
 sig :∀f s,sg f=some s→Jjg s=true
 ar :∀f a,B.ar f=some a→∃ s,sg f=some (.d s)∧JqE s=some a
def JlN (s:Jks) (f:FuncId) (es:List E):SMP SV:=match JD s.pars es with
 | some ls=> .ask (fun n=> .call f ls s.res.leaves n) s.res.leaves.length fun n=> .ret (s.res.sv n)
 | none=> .fail
def ofE:E→Option SV
 | .g l=>match l.list with
  | some cs=>some (.g (cs.map .d))
  | none=>none
 | e=>if e.isOne then some (.d e) else none
def YZ:List Bool→List SV→SMP (List SV)
 | b::bs,x::xs=>if b then(Jfr x).bind fun e=>match ofE e with
   | some v=>(YZ bs xs).bind fun ys=> .ret (v::ys)
   | none=> .fail
  else(YZ bs xs).bind fun ys=> .ret (x::ys)
 | _,xs=> .ret xs
def Jg6 (bs:List Bool):SV→SMP SV
 | .g cs=>(YZ bs cs).bind fun ds=> .ret (.g ds)
 | x=> .ret x
def Uz:List (List Bool)→List SV→SMP (List SV)
 | bs::bss,x::xs=>(Jg6 bs x).bind fun y=>(Uz bss xs).bind fun ys=> .ret (y::ys)
 | _,xs=> .ret xs
def Jj.shal:Jj→Jj
 | .arr ty sz l _ rw=> .arr ty sz l false rw
 | o=>o
def Q3.shal (s:Q3):Q3:={ s with robjs:=s.robjs.take s.objs.length++(s.robjs.drop s.objs.length).map Jj.shal }
def Q3.by (s:Q3) (dp:Bool):Q3:=if dp then s else s.shal
def Jkt (sg:FuncId→Option Sig) (dp bo:Bool) (kb:Key) (f:FuncId) (args:List SV):SMP SV:=match sg f with
 | some (.d s)=>if s.flat then(Jcu.spurs 40 args).bind fun es=>JlN s f es else(Jba args).bind fun es=>JlN s f es
 | some (.x s)=>if s.flat||bo then(Jcu.spurs 40 args).bind fun es=>match es.mapM ofE with
   | some xs=>Jbs s f kb xs
   | none=> .fail
  else if s.raw then JgY (s.by dp) f kb args else(YZ s.mask args).bind fun xs=>(Uz s.gmask xs).bind fun xs=>JjB (s.by dp) f kb xs
 | none=> .fail
def arE:E→Option Nat
 | .g l=>match l.list with
  | some cs=>some cs.length
  | none=>none
 | _=>none
def VD:List E→Option (List E)
 | []=>some []
 | .g l::es=>match l.list with
  | some cs=>(VD es).map (cs ++ ·)
  | none=>none
 | e::es=>(VD es).map (e :: ·)
def UP:SV→Option E
 | .d e=>if e.isOne then some e.norm else none
 | .g cs=>if Nat.ble cs.length 20 then(cells cs).map fun l=> .g (J7 l) else none
 | _=>none
where
 cells:List SV→Option (List E)
  | []=>some []
  | .d e::cs=>if e.isOne then(cells cs).map (e.norm :: ·) else none
  | _=>none
def WE:List SV→Option (List E)
 | []=>some []
 | v::vs=>match UP v with
  | some e=>(WE vs).map (e :: ·)
  | none=>none
def JoN (n0:Nat) (args:List SV) (rs:Sh1):SMP SV :=
 if V3 rs&&Nat.ble args.length 8 then match WE args with
  | some es=>match VD es with
   | some ls=> .ask (fun n=> .callv (.da n0) ls (es.map arE) [rs] n) 1 fun n=> .ret (.d (rs.expr n))
   | none=> .fail
  | none=> .fail
 else .fail
section
variable {B:Tb} {ρ:Env} {sg:FuncId→Option Sig} {P:Program} {G:Qd}
theorem JbL :∀(n:Nat) (xs ys:List X),xs.length≤n→pur.purs n (xs++ys)=(pur.purs n xs).bind fun ds=>(pur.purs (n-xs.length) ys).bind fun es=> .ret (ds++es)
 | n,[],ys,_=>by
  have h1:pur.purs n ([]:List X) = .ret []:=by cases n <;> rfl
  rw[List.nil_append,h1];show _=(pur.purs n ys).bind fun es=> .ret es;generalize pur.purs n ys=p
  induction p with
  | ret a=>rfl
  | fail=>rfl
  | get k c ih=>simp only[MP.bind];congr 1;funext o;exact ih o
  | put k o c ih=>simp only[MP.bind];rw[←ih]
  | new k o c ih=>simp only[MP.bind];rw[←ih]
 | 0,x::xs,ys,h=>by simp at h
 | n+1,x::xs,ys,h=>by
  have ih:=JbL n xs ys (by simpa using h);have assoc :∀{α β γ:Type} (p:MP α) (f:α→MP β) (g:β→MP γ),(p.bind f).bind g=p.bind fun a=>(f a).bind g:=by
   intro α β γ p f g
   induction p with
   | ret a=>rfl
   | fail=>rfl
   | get k c ih=>simp only[MP.bind];congr 1;funext o;exact ih o
   | put k o c ih=>simp only[MP.bind];rw[ih]
   | new k o c ih=>simp only[MP.bind];rw[ih]
  show (pur n x).bind (fun d=>(pur.purs n (xs++ys)).bind fun ds=> .ret (d::ds))=((pur n x).bind fun d=>(pur.purs n xs).bind fun ds=> .ret (d::ds)).bind _;rw[ih];simp only[assoc,MP.bind,List.length_cons,Nat.add_sub_add_right,List.cons_append]
theorem Jfp :∀(n:Nat) (ds:List D),ds.length<n→pur.purs n (ds.map X.d) = .ret (ds.map D.norm)
 | 0,ds,h=>by omega
 | n+1,[],h=>rfl
 | n+1,d::ds,h=>by
  show (pur n (.d d)).bind (fun d=>(pur.purs n (ds.map X.d)).bind fun ds=> .ret (d::ds))=_;have hlt:ds.length<n:=by simpa using h
  obtain⟨k,rfl⟩ : ∃ k,n=k+1:=⟨n-1,by omega⟩;rw[Jfp (k+1) ds hlt];rfl
theorem Jja {s:Jks} (hs:Jjg (.d s)=true) (f:FuncId) (es:List E) (fl:Bool) (hfl:fl=true→s.flat=true):(JlN s f es).Ok B ρ (γX ρ)
  (match dspec s (B.call f) (fEs ρ es) with
   | some r=>if fl then(if flat r then .ret (X.ofD r) else .fail) else .ret (X.ofD r)
   | none=> .fail):=by
 unfold JlN;cases hf:JD s.pars es with
 | none=>trivial
 | some ls =>
  intro n hn;simp only[I.holds] at hn;simp only[Jjg,Jt9] at hs;obtain⟨d,h1,h2⟩:=Jma ρ s.res n hs.1;have hd:dspec s (B.call f) (fEs ρ es)=some d:=by
   unfold dspec fEs;rw[UO ρ _ _ _ hf,Jun,hn,Jun,h1]
  rw[hd];simp only[SMP.Ok,←h2];cases fl with
  | false=>rfl
  | true =>
   have hpl:s.res.leaves.all V3=true:=by simpa[hfl rfl] using hs.2
   have:=Jij h1 (Jdh ρ _ _ hpl);simp only[this,if_true]
theorem Jo9 {e:E} {v:SV} (h:ofE e=some v) (ρ:Env):X.ofD1 (dat ρ e)=γX ρ v:=by
 unfold ofE at h;split at h
 ·rename_i l;split at h
  ·rename_i cs hl;simp only[Jt8] at h;subst h;show X.g ((lst ρ l).map .d)=X.g (γXs ρ (cs.map .d));rw[YL ρ _ _ hl,Jx,V5]
  ·cases h
 ·split at h
  ·rename_i ho;simp only[Jt8] at h;subst h;rw[JhQ (J6 ho ρ)];rfl
  ·cases h
theorem ZC :∀(bs:List Bool) (xs:List SV),(YZ bs xs).Ok B ρ (γXs ρ) (XM bs (xs.map (γX ρ)))
 | [],xs=>by
  cases xs <;> simp only[YZ,XM,List.map_nil,SMP.Ok,Jx]
 | _::_,[]=>rfl
 | b::bs,x::xs=>by
  simp only[YZ,XM,Juh];cases b with
  | true =>
   simp only[if_true];refine SMP.bind_ok (f:=dat ρ) (fun e=>?_) _ _ (Jhq x);cases he:ofE e with
   | none=>trivial
   | some v =>
    simp only[Jo9 he ρ];refine SMP.bind_ok (f:=γXs ρ) (fun ys=>?_) _ _ (ZC bs xs);rfl
  | false =>
   simp only[Jup,if_false];refine SMP.bind_ok (f:=γXs ρ) (fun ys=>?_) _ _ (ZC bs xs);rfl
theorem JkQ (bs:List Bool) (x:SV):(Jg6 bs x).Ok B ρ (γX ρ) (Jbo bs (γX ρ x)):=by
 cases x with
 | g cs =>
  simp only[Jg6,γX,Jbo];have h:=ZC (B:=B) (ρ:=ρ) bs cs;rw[←Jx] at h;refine SMP.bind_ok (f:=γXs ρ) (fun ds=>?_) _ _ h;rfl
 | _=>rfl
theorem Wx :∀(bs:List (List Bool)) (xs:List SV),(Uz bs xs).Ok B ρ (γXs ρ) (Yy bs (γXs ρ xs))
 | [],xs=>by
  cases xs <;> rfl
 | _::_,[]=>rfl
 | b::bs,x::xs=>by
  simp only[Uz,γXs,Yy];refine SMP.bind_ok (f:=γX ρ) (fun y=>?_) _ _ (JkQ b x);refine SMP.bind_ok (f:=γXs ρ) (fun ys=>?_) _ _ (Wx bs xs);rfl
theorem Jll :∀(es:List E) (xs:List SV),es.mapM ofE=some xs→(fEs ρ es).map X.ofD1=γXs ρ xs
 | [],xs,h=>by
  simp at h;subst h;rfl
 | e::es,xs,h=>by
  simp only[List.mapM_cons,Option.bind_eq_bind] at h;cases he:ofE e with
  | none=>rw[he] at h;cases h
  | some v =>
   cases hr:es.mapM ofE with
   | none=>rw[he,hr] at h;cases h
   | some vs =>
    rw[he,hr] at h;simp only[Jun,pure,Jt8] at h;subst h;show X.ofD1 (dat ρ e)::(fEs ρ es).map X.ofD1=γX ρ v::γXs ρ vs;rw[Jo9 he ρ,Jll es vs hr]
theorem Jn0 (o:Jj):o.shal.lv2=o.lv2:=by cases o <;> rfl
theorem Jlh {s:Q3} (h:s.ok=true):s.shal.ok=true:=by
 unfold Q3.ok Q3.shal at *;have e:(s.robjs.take s.objs.length++(s.robjs.drop s.objs.length).map Jj.shal).flatMap Jj.lv2=s.robjs.flatMap Jj.lv2:=by
  conv=>rhs;rw[←List.take_append_drop s.objs.length s.robjs]
  rw[List.flatMap_append,List.flatMap_append,List.flatMap_map];simp only[Jn0]
 simp only[e];exact h
theorem JnH {s:Q3} {ρ2:Env}:γm ρ2 (ZG 0 s.shal.robjs)=fun k=>if k<s.objs.length then γm ρ2 (ZG 0 s.robjs) k else(γm ρ2 (ZG 0 s.robjs) k).map Obj.shal:=by
 refine funext fun(k:Nat)=>?_;simp only[γm,Zk,Nat.zero_le,if_true,Nat.sub_zero,Q3.shal];have hs :∀o:Jj,γO ρ2 o.shal=(γO ρ2 o).shal:=fun o=>by cases o <;> rfl
 split
 ·rename_i hk
  by_cases hl:k<s.robjs.length
  ·rw[JuA (by rw[Juo];omega),Juz hk]
  ·rw[Juw (l:=s.robjs) (by omega),Juw (by rw[Juf,Juo,Jui,List.length_drop];omega)]
 ·rename_i hk
  by_cases hl:s.objs.length≤s.robjs.length
  ·rw[JuB (by rw[Juo];omega),Juu,List.getElem?_drop,Juo,Nat.min_eq_left hl,show s.objs.length+(k-s.objs.length)=k by omega];cases s.robjs[k]? with
   | none=>rfl
   | some o=>simp[hs]
  ·rw[Juw (l:=s.robjs) (by omega),Juw (by rw[Juf,Juo,Jui,List.length_drop];omega)];rfl
theorem Jmf {s:Q3} (h:s.ok=true) (F:List D→Option (List D)):Jey (YD s F)=YD s.shal F:=by
 funext xs os
 unfold Jey;cases h0:YD s F xs os with
 | some r =>
  have hr:=Wf h0;have hr2:s.shal.rel F xs os (r.1,fun k=>if k<os.length then r.2 k else(r.2 k).map Obj.shal):=by
   obtain⟨ρ1,ρ2,h1,h2,h3,rfl⟩:=hr;refine⟨ρ1,ρ2,h1,h2,h3,?_⟩;rw[JnH,h2,Jui];rfl
  rw[JaA (Jlh h) hr2];rfl
 | none =>
  cases h1:YD s.shal F xs os with
  | none=>rfl
  | some r =>
   obtain⟨ρ1,ρ2,a1,a2,a3,a4⟩:=Wf h1;have hr:s.rel F xs os (γX ρ2 s.res,γm ρ2 (ZG 0 s.robjs)):=⟨ρ1,ρ2,a1,a2,a3,rfl⟩;rw[JaA h hr] at h0;cases h0
theorem Jqo {s:Q3} (h:s.ok=true) (dp:Bool):(s.by dp).ok=true:=by
 cases dp
 ·exact Jlh h
 ·exact h
theorem Jlx {s:Q3} (h:s.ok=true) (dp:Bool) (F:List D→Option (List D)):(if dp=true then YD s F else Jey (YD s F))=YD (s.by dp) F:=by
 cases dp
 ·exact Jmf h F
 ·rfl
theorem JmV (hB:BOk sg B) (o:Oper) (f:FuncId) (args:List SV):(Jkt sg (G.dp o) (G.bo o) (Jz o) f args).Ok B ρ (γX ρ) (JaJ (X7 sg B) G o f (args.map (γX ρ))):=by
 unfold Jkt JaJ X7;simp only;cases hf:sg f with
 | none=>trivial
 | some s =>
  cases s with
  | d s =>
   simp only;split
   ·rename_i hfl;simp only[Jay];refine SMP.bind_ok (f:=fEs ρ) (fun es=>?_) _ _ (ZV 40 args);exact Jja (hB.sig f _ hf) f es true (fun _=>hfl)
   ·refine SMP.bind_ok (f:=fEs ρ) (fun es=>?_) _ _ (VS args);exact Jja (hB.sig f _ hf) f es false (fun h=>by cases h)
  | x s =>
   simp only;split
   ·simp only[Jay];refine SMP.bind_ok (f:=fEs ρ) (fun es=>?_) _ _ (ZV 40 args);cases he:es.mapM ofE with
    | none=>trivial
    | some xs=>exact Jgo (hB.sig f _ hf) f (Jz o) xs _ (Jll es xs he)
   split
   ·rw[←Jx,Jlx (hB.sig f _ hf)];exact JkM (Jqo (hB.sig f _ hf) _) f (Jz o) args
   ·rw[Jlx (hB.sig f _ hf)];exact SMP.bind_ok (f:=γXs ρ) (fun xs=>SMP.bind_ok (f:=γXs ρ) (fun xs=>Jl0 (Jqo (hB.sig f _ hf) _) f (Jz o) xs) _ _ (Wx _ xs)) _ _ (ZC _ args)
theorem JiU :∀(es ls:List E) (ss:List Sh) (caps:List D),VD es=some ls→ss.map Sh.ar=es.map arE++caps.map (fun _=>none)→ss.all noQ=true →
  Ju ss (es.map (dat ρ)++caps)=some (ls.map (dat ρ)++caps)
 | [],ls,ss,caps,h,hs,hq=>by
  simp only[VD,Jt8] at h;subst h;simp only[List.map_nil,List.nil_append] at hs ⊢
  induction caps generalizing ss with
  | nil=>simp at hs;subst hs;rfl
  | cons c caps ih =>
   cases ss with
   | nil=>simp at hs
   | cons s ss =>
    simp only[Juh,List.cons.injEq] at hs;simp only[List.all_cons,Jt9] at hq;cases s with
    | g as=>simp[Sh.ar] at hs
    | q as=>simp[noQ] at hq
    | one a=>simp only[Ju,ih ss hq.2 hs.2,Jub]
 | e::es,ls,ss,caps,h,hs,hq=>by
  cases ss with
  | nil=>simp at hs
  | cons s ss =>
   simp only[Juh,List.cons_append,List.cons.injEq] at hs;simp only[List.all_cons,Jt9] at hq;have rest :∀ls',VD es=some ls'→Ju ss (es.map (dat ρ)++caps)=some (ls'.map (dat ρ)++caps):=fun ls' h=>JiU es ls' ss caps h hs.2 hq.2;have one:arE e=none→(VD es).map (e :: ·)=some ls→Ju (s::ss) ((e::es).map (dat ρ)++caps)=some (ls.map (dat ρ)++caps):=by
    intro ha h;cases hr:VD es with
    | none=>simp[hr] at h
    | some ls' =>
     simp only[hr,Jub,Jt8] at h;subst h;cases s with
     | g as=>rw[ha] at hs;simp[Sh.ar] at hs
     | q as=>simp[noQ] at hq
     | one a=>simp only[Juh,List.cons_append,Ju,rest ls' hr,Jub]
   cases e with
   | g l =>
    simp only[VD] at h;split at h
    ·rename_i cs hl;cases hr:VD es with
     | none=>simp[hr] at h
     | some ls' =>
      simp only[hr,Jub,Jt8] at h;subst h;simp only[arE,hl] at hs;cases s with
      | one a=>simp[Sh.ar] at hs
      | q as=>simp[noQ] at hq
      | g as =>
       simp only[Sh.ar,Jt8] at hs;show Ju (.g as::ss) (D.g (lst ρ l)::(es.map (dat ρ)++caps))=_;simp only[Ju,YL ρ _ _ hl,Jui,hs.1,if_true,rest ls' hr,Jub,List.map_append,List.append_assoc]
    ·cases h
   | _=>exact one rfl h
theorem Jdy :∀(cs:List SV) (l:List E) (n:Nat),UP.cells cs=some l→cs.length<n→pur.purs n (cs.map (γX ρ)) = .ret (l.map (dat ρ))
 | [],l,n,h,hn=>by
  simp only[UP.cells,Jt8] at h;subst h;cases n <;> rfl
 | c::cs,l,0,h,hn=>by simp at hn
 | c::cs,l,n+1,h,hn=>by
  cases c with
  | d e =>
   simp only[UP.cells] at h;split at h
   ·rename_i ho;cases hr:UP.cells cs with
    | none=>simp[hr] at h
    | some l' =>
     simp only[hr,Jub,Jt8] at h;subst h;have hlt:cs.length<n:=by simpa using hn
     obtain⟨k,rfl⟩ : ∃ k,n=k+1:=⟨n-1,by omega⟩;show (pur (k+1) (X.d (dat ρ e))).bind (fun d=>(pur.purs (k+1) (cs.map (γX ρ))).bind fun ds=> .ret (d::ds))=_;rw[Jdy cs l' (k+1) hr hlt];simp only[pur,MP.bind,Juh,Zp ho]
   ·cases h
  | _=>simp[UP.cells] at h
theorem JoF {v:SV} {e:E} {n:Nat} (h:UP v=some e) (hn:22≤n):pur n (γX ρ v) = .ret (dat ρ e):=by
 obtain⟨k,rfl⟩ : ∃ k,n=k+1:=⟨n-1,by omega⟩;cases v with
 | d e' =>
  simp only[UP] at h;split at h
  ·rename_i ho;simp only[Jt8] at h;subst h;simp only[γX,pur,Zp ho]
  ·cases h
 | g cs =>
  simp only[UP] at h;split at h
  ·rename_i hl;have hl:cs.length≤20:=Nat.le_of_ble_eq_true hl;cases hc:UP.cells cs with
   | none=>simp[hc] at h
   | some l =>
    simp only[hc,Jub,Jt8] at h;subst h;simp only[γX,pur,Jx,Jdy cs l k hc (by omega),MP.bind];show MP.ret _=MP.ret (D.g (lst ρ (J7 l)));rw[JF]
  ·cases h
 | _=>simp[UP] at h
theorem JfQ :∀(vs:List SV) (es:List E) (n:Nat),WE vs=some es→22+vs.length≤n→pur.purs n (vs.map (γX ρ)) = .ret (es.map (dat ρ))
 | [],es,n,h,hn=>by
  simp only[WE,Jt8] at h;subst h;cases n <;> rfl
 | v::vs,es,0,h,hn=>by omega
 | v::vs,es,n+1,h,hn=>by
  simp only[WE] at h;split at h
  ·rename_i e he;cases hr:WE vs with
   | none=>simp[hr] at h
   | some es' =>
    simp only[hr,Jub,Jt8] at h;subst h;simp only[List.length_cons] at hn;show (pur n (γX ρ v)).bind (fun d=>(pur.purs n (vs.map (γX ρ))).bind fun ds=> .ret (d::ds))=_;rw[JoF he (by omega),JfQ vs es' n hr (by omega)];rfl
  ·cases h
theorem JoJ (hB:BOk sg B) (o:Oper) (n0:Nat) (args:List SV) (rs:Sh1) :
  (JoN n0 args rs).Ok B ρ (γX ρ) (match X.d (dat ρ (.da n0)) with
   | .f fn cs=>JaJ (X7 sg B) G o fn (args.map (γX ρ)++cs)
   | .d (.f fn cs)=>JaJ (X7 sg B) G o fn (args.map (γX ρ)++cs.map X.d)
   | _=> .fail):=by
 unfold JoN;split
 ·rename_i hpl;simp only[Jt9] at hpl;have hlen:args.length≤8:=Nat.le_of_ble_eq_true hpl.2;cases hpe:WE args with
  | none=>trivial
  | some es =>
   simp only;cases hfe:VD es with
   | none=>trivial
   | some ls =>
    intro n hn;obtain⟨fn,caps,hd,h2,h3⟩:=hn;rw[hd];simp only;obtain⟨s,hsg,hs⟩:=hB.ar fn _ h2;unfold JqE at hs;split at hs
    ·rename_i hcond;simp only[Jt9] at hcond;obtain⟨⟨hflat,hnq⟩,h30⟩:=hcond;have h30:s.pars.length≤30:=Nat.le_of_ble_eq_true h30;split at hs
     ·rename_i a hres;simp only[Jt8] at hs;unfold JaJ X7;simp only[hsg,hflat,if_true,Jay];have hcl:caps.length≤30:=by
       have:=congrArg List.length hs;simp at this;omega
      rw[JbL 40 _ _ (by simp;omega),JfQ args es 40 hpe (by omega),Jfp _ caps (by simp;omega)];simp only[MP.bind];have hds:dspec s (B.call fn) (es.map (dat ρ)++caps.map D.norm)=some (dat ρ (rs.expr n)):=by
       unfold dspec;rw[JiU es ls s.pars (caps.map D.norm) hfe (by rw[hs];simp) hnq,Jun,h3,Jun,hres];simp only[JB,Juh,List.map_nil,YX,J6 (YU rs n) ρ,if_true]
      rw[hds];have hfl:flat (dat ρ (rs.expr n))=true:=by
       cases rs <;> first | rfl | (exact absurd hpl.1 (by simp[V3]))
      simp only[hfl,if_true,SMP.Ok,γX,JgC (J6 (YU rs n) ρ)]
     ·cases hs
    ·cases hs
 ·trivial
end
end Go.Tm
end
section
namespace Go.Tm
open Go.IntKind (i64)
def Jak (l:E):E:=match l.list with
 | some cs=> .z cs.length
 | none=> .len l
def E.known:E→Option Bool
 | .tt=>some true
 | .ff=>some false
 | .cmp o (.z a) (.z b)=>some (o.sem a b)
 | _=>none
def KC {α:Type} (b:E) (c:SMP α):SMP α:=match b.known with
 | some true=>c
 | some false=> .fail
 | none=> .ask (fun _=> .chk b) 0 fun _=>c
def Ku (P:Program) (e:TypeId):Option Nat:=(tz P e).map fun z=>if z.2.2=0 then 2 ^ 46 else 2 ^ 46 / z.2.2
def JnC {α:Type} (sz:Nat) (l:E) (c:SMP α):SMP α:=match l with
 | .nil=>c
 | .cons (.g x) _=>match x.list with
  | some cs=>if cs.length=sz then c else .fail
  | none=> .fail
 | .cons x _=>if x.isOne&&sz == 1 then c else .fail
 | _=> .ask (fun _=> .head sz l) 0 fun _=>c
def Wi:SV→Option (IntKind×E)
 | .d (.vi k e)=>some (k,e)
 | _=>none
section
variable {B:Tb} {ρ:Env} {sg:FuncId→Option Sig} {P:Program} {G:Qd}
theorem Zf (l:E):int ρ (Jak l)=(lst ρ l).length:=by
 unfold Jak;split
 ·rename_i cs h;rw[YL ρ _ _ h];simp[int,den,V.int]
 ·rfl
theorem Z8 {b:E} {t:Bool} (h:b.known=some t):bol ρ b=t:=by
 unfold E.known at h;split at h <;> simp at h <;> subst h <;> rfl
theorem QO {α β:Type} {f:α→β} {b:E} {c:SMP α} {q:MP β} (h:bol ρ b=true→c.Ok B ρ f q):(KC b c).Ok B ρ f q:=by
 unfold KC;split
 ·rename_i hk;exact h (Z8 hk)
 ·trivial
 ·intro n hn;exact h hn
theorem JnF {α β:Type} {f:α→β} {sz:Nat} {l:E} {c:SMP α} {q:MP β} (h:Yb sz (lst ρ l)=true→c.Ok B ρ f q):(JnC sz l c).Ok B ρ f q:=by
 unfold JnC;split
 ·exact h rfl
 ·rename_i x l';split
  ·rename_i cs hl;split
   ·rename_i hs;refine h ?_;show ((D.g (lst ρ x)).cells.length == sz)=true;rw[YL ρ _ _ hl];simp[D.cells,hs]
   ·trivial
  ·trivial
 ·rename_i x l' _;split
  ·rename_i hx;simp only[Jt9] at hx;refine h ?_;show ((dat ρ x).cells.length == sz)=true;rw[JdR (J6 hx.1 ρ)];have:sz=1:=by simpa using hx.2
   subst this;rfl
  ·trivial
 ·intro n hn;exact h hn
theorem V2 {e:TypeId} {m n:Nat} (h:Ku P e=some m) (hn:n≤m):U2 P e n=true:=by
 unfold Ku at h;unfold U2;cases ht:tz P e with
 | none=>simp[ht] at h
 | some z =>
  obtain⟨a,b,c⟩:=z;simp only[ht,Jub,Jt8] at h;simp only[decide_eq_true_eq];split at h
  ·rename_i hc;subst hc;exact⟨by simp,by omega⟩
  ·rename_i hc;have h1:n≤2 ^ 46 / c:=by omega
   have h2:n*c≤2 ^ 46:=(Nat.le_div_iff_mul_le (by omega)).1 h1;have h3:n≤n*c:=Nat.le_mul_of_pos_right n (by omega);exact⟨h2,by omega⟩
theorem JpW {v:SV} {k:IntKind} {e:E} (h:Wi v=some (k,e)):γX ρ v = .d (.v (.int k (int ρ e))):=by
 unfold Wi at h;split at h
 ·simp only[Jt8,Juq] at h;obtain⟨rfl,rfl⟩:=h;rfl
 ·cases h
theorem Y2 {v:SV} {k:IntKind} {e:E} (h:Wi v=some (k,e)):WT (γX ρ v)=some (int ρ e):=by rw[JpW h];rfl
theorem Kj (a b:E):bol ρ (.cmp .le a b)=decide (int ρ a≤int ρ b):=rfl
theorem JnS (a b:E):bol ρ (.cmp .lt a b)=decide (int ρ a<int ρ b):=rfl
theorem JnD (a b:E):bol ρ (.cmp .eq a b)=decide (int ρ a=int ρ b):=rfl
theorem Jal (n:Int):int ρ (.z n)=n:=rfl
def Jlr (op:BinOp) (k:IntKind) (a b:E):SMP SV:=match op with
 | .add=> .ret (.d (.vi k (.bin .add k a b)))
 | .sub=> .ret (.d (.vi k (.bin .sub k a b)))
 | .mul=> .ret (.d (.vi k (.bin .mul k a b)))
 | .quo=>KC (.not (.cmp .eq b (.z 0))) (.ret (.d (.vi k (.bin .quo k a b))))
 | .rem=>KC (.not (.cmp .eq b (.z 0))) (.ret (.d (.vi k (.bin .rem k a b))))
 | .and=> .ret (.d (.vi k (.bin .and k a b)))
 | .or=> .ret (.d (.vi k (.bin .or k a b)))
 | .xor=> .ret (.d (.vi k (.bin .xor k a b)))
 | .eql=> .ret (.d (.vb (.cmp .eq a b)))
 | .neq=> .ret (.d (.vb (.not (.cmp .eq a b))))
 | .lss=> .ret (.d (.vb (.cmp .lt a b)))
 | .leq=> .ret (.d (.vb (.cmp .le a b)))
 | .gtr=> .ret (.d (.vb (.cmp .lt b a)))
 | .geq=> .ret (.d (.vb (.cmp .le b a)))
 | _=> .fail
theorem XD {op:BinOp} {t:TypeId} {x y:Operand} {k:IntKind} {a b:Int} {v:Value} (h:JO P (do eqGuard op t x y (.int k a) (.int k b);binOp op t (.int k a) (.int k b))=some v) (ho:v.oneCell=true) :
  KS (JO P (do eqGuard op t x y (.int k a) (.int k b);binOp op t (.int k a) (.int k b))) = .ret (.d (.v v)):=by
 rw[h];simp only[KS,ho,if_true]
theorem Jn9 (op:BinOp) (t:TypeId) (x y:Operand) (k:IntKind) (a b:E):(Jlr op k a b).Ok B ρ (γX ρ)
  (KS (JO P (do eqGuard op t x y (.int k (int ρ a)) (.int k (int ρ b));binOp op t (.int k (int ρ a)) (.int k (int ρ b))))):=by
 cases op with
 | add=>exact XD (by simp[eqGuard,binOp,Op.intArith];rfl) rfl
 | sub=>exact XD (by simp[eqGuard,binOp,Op.intArith];rfl) rfl
 | mul=>exact XD (by simp[eqGuard,binOp,Op.intArith];rfl) rfl
 | quo =>
  simp only[Jlr];refine QO fun h=>?_;have h:(!decide (int ρ b=0))=true:=h;have h : ¬int ρ b=0:=by simpa using h
  exact XD (by simp[eqGuard,binOp,Op.intDiv,h];rfl) rfl
 | rem =>
  simp only[Jlr];refine QO fun h=>?_;have h:(!decide (int ρ b=0))=true:=h;have h : ¬int ρ b=0:=by simpa using h
  exact XD (by simp[eqGuard,binOp,Op.intDiv,h];rfl) rfl
 | and=>exact XD (by simp[eqGuard,binOp,Op.intBits];rfl) rfl
 | or=>exact XD (by simp[eqGuard,binOp,Op.intBits];rfl) rfl
 | xor=>exact XD (by simp[eqGuard,binOp,Op.intBits];rfl) rfl
 | eql=>exact XD (by simp[eqGuard,binOp,Op.intCmp];rfl) rfl
 | neq=>exact XD (by simp[eqGuard,binOp,Op.intCmp];rfl) rfl
 | lss=>exact XD (by simp[eqGuard,binOp,Op.intCmp];rfl) rfl
 | leq=>exact XD (by simp[eqGuard,binOp,Op.intCmp];rfl) rfl
 | gtr=>exact XD (by simp[eqGuard,binOp,Op.intCmp];rfl) rfl
 | geq=>exact XD (by simp[eqGuard,binOp,Op.intCmp];rfl) rfl
 | _=>trivial
def strE:E→Bool
 | .vc (.string _)=>true
 | .da _=>true
 | _=>false
def JqP (P:Program) (op:BinOp) (t:TypeId) (a b:SV):SMP SV:=match a,b with
 | .d (.vi k x),.d (.vi k' y)=>if k=k' then Jlr op k x y else .fail
 | .d (.vb x),.d (.vb y)=>match P.underlying t,op with
  | some .bool,.eql=> .ret (.d (.vb (.beq x y)))
  | some .bool,.neq=> .ret (.d (.vb (.not (.beq x y))))
  | _,_=> .fail
 | .d x,.d y=>if strE x&&strE y then match P.underlying t,op with
  | some .string,.add=> .ask (fun n=> .prim .cat [x,y] .d n) 1 fun n=> .ret (.d (.da n))
  | some .string,.eql=> .ask (fun n=> .prim .seq [x,y] .b n) 1 fun n=> .ret (.d (.vb (.v n)))
  | some .string,.neq=> .ask (fun n=> .prim .seq [x,y] .b n) 1 fun n=> .ret (.d (.vb (.not (.v n))))
  | _,_=> .fail
  else .fail
 | _,_=> .fail
theorem Jn3 {p:JpV} {x y r:D} (hp:p = .cat∨p = .seq) (h:ZY p [x,y]=some r) : ∃ a b,x = .v (.string a)∧y = .v (.string b):=by
 rcases hp with rfl | rfl
 all_goals
  cases x with
  | v x=>cases x with
   | string a=>cases y with
    | v y=>cases y with
     | string b=>exact⟨a,b,rfl,rfl⟩
     | _=>simp[ZY] at h
    | _=>simp[ZY] at h
   | _=>simp[ZY] at h
  | _=>simp[ZY] at h
theorem Q6 {α β:Type} (f:α→Sem β) :∀x:Sem α,JO P (x >>= f)=(JO P x).bind fun a=>JO P (f a)
 | .pure a=>rfl
 | .program k=>Q6 f (k P)
 | .load _ _ _ | .store _ _ _ _ | .new _ _ | .shape _ _ | .freeze _ _ _ | .frozen _ _
 | .getObj _ _ | .setObj _ _ _ | .choose _ _ | .sys _ _ | .mark _ _ | .halt _=>rfl
theorem XA {t:TypeId} {d:TypeDesc} (h:P.underlying t=some d):JO P (underlying t)=some d:=by
 unfold underlying;rw[Q6];show (some P).bind _=_;simp only[Jun,h];rfl
theorem JlS {t:TypeId} (h:P.underlying t=some .bool) (a b:Bool):JO P (Op.equal t (.bool a) (.bool b))=some (a == b):=by
 show JO P (Op.equalIn (9999+1) t (.bool a) (.bool b))=_;unfold Op.equalIn;rw[Q6,XA h];rfl
theorem JpX {t:TypeId} {x y:Operand} {u v:ByteArray} {r:D} (h:ZY .cat [.v (.string u),.v (.string v)]=some r) :
  JO P (do eqGuard .add t x y (.string u) (.string v);binOp .add t (.string u) (.string v))=some (.string (u++v))∧D.v (.string (u++v))=r:=by
 have h:(if u.size+v.size≤2 ^ 62 then some (D.v (.string (u++v))) else none)=some r:=h;split at h
 ·rename_i hz;simp only[Jt8] at h;refine⟨?_,h⟩;show JO P (Op.stringOp .add u v)=_;have : ¬((u.size+v.size:Nat):Int) > i64.max:=by
   have:i64.max=9223372036854775807:=rfl;omega
  simp only[Op.stringOp,this,if_false];rfl
 ·cases h
theorem Jqi (op:BinOp) (t:TypeId) (x y:Operand) (a b:SV):(JqP P op t a b).Ok B ρ (γX ρ)
  (match γX ρ a,γX ρ b with
   | .d (.v a),.d (.v b)=>KS (JO P (do eqGuard op t x y a b;binOp op t a b))
   | _,_=> .fail):=by
 unfold JqP;split
 ·rename_i k a k' b;split
  ·rename_i hk;subst hk;exact Jn9 op t x y k a b
  ·trivial
 ·rename_i a b;split
  ·rename_i hu _;show KS (JO P (do eqGuard .eql t x y (.bool (bol ρ a)) (.bool (bol ρ b));binOp .eql t (.bool (bol ρ a)) (.bool (bol ρ b))))=_;have:JO P (do eqGuard .eql t x y (.bool (bol ρ a)) (.bool (bol ρ b));binOp .eql t (.bool (bol ρ a)) (.bool (bol ρ b)))=some (.bool (bol ρ a == bol ρ b)):=by
    show JO P (Op.equal t (Value.bool (bol ρ a)) (Value.bool (bol ρ b)) >>= fun r=>pure (Value.bool r))=_;rw[Q6,JlS (by assumption)];rfl
   rw[this];rfl
  ·rename_i hu _;show KS (JO P (do eqGuard .neq t x y (.bool (bol ρ a)) (.bool (bol ρ b));binOp .neq t (.bool (bol ρ a)) (.bool (bol ρ b))))=_;have:JO P (do eqGuard .neq t x y (.bool (bol ρ a)) (.bool (bol ρ b));binOp .neq t (.bool (bol ρ a)) (.bool (bol ρ b)))=some (.bool (!(bol ρ a == bol ρ b))):=by
    show JO P (Op.equal t (Value.bool (bol ρ a)) (Value.bool (bol ρ b)) >>= fun r=>pure (Value.bool (!r)))=_;rw[Q6,JlS (by assumption)];rfl
   rw[this];rfl
  ·trivial
 ·rename_i a b _ _;split
  ·split
   ·intro n hn;have hn:ZY .cat [dat ρ a,dat ρ b]=some (dat ρ (.da n)):=hn;obtain⟨u,v,ea,eb⟩:=Jn3 (.inl rfl) hn;rw[ea,eb] at hn;have hr:=JpX (P:=P) (t:=t) (x:=x) (y:=y) hn;simp only[γX,ea,eb,hr.1];show MP.ret (X.d (.v (.string (u++v))))=MP.ret (X.d (dat ρ (.da n)));rw[hr.2]
   ·intro n hn;have hn:ZY .seq [dat ρ a,dat ρ b]=some (.v (.bool (bol ρ (.v n)))):=hn;obtain⟨u,v,ea,eb⟩:=Jn3 (.inr rfl) hn;rw[ea,eb] at hn;have hn:some (D.v (.bool (u.toList == v.toList)))=some (.v (.bool (bol ρ (.v n)))):=hn;simp only[Jt8,D.v.injEq,Value.bool.injEq] at hn;simp only[γX,ea,eb];show MP.ret (X.d (.v (.bool (u.toList == v.toList))))=MP.ret (X.d (.v (.bool (bol ρ (.v n)))));rw[hn]
   ·intro n hn;have hn:ZY .seq [dat ρ a,dat ρ b]=some (.v (.bool (bol ρ (.v n)))):=hn;obtain⟨u,v,ea,eb⟩:=Jn3 (.inr rfl) hn;rw[ea,eb] at hn;have hn:some (D.v (.bool (u.toList == v.toList)))=some (.v (.bool (bol ρ (.v n)))):=hn;simp only[Jt8,D.v.injEq,Value.bool.injEq] at hn;simp only[γX,ea,eb];show MP.ret (X.d (.v (.bool (!(u.toList == v.toList)))))=MP.ret (X.d (.v (.bool (!(bol ρ (.v n))))));rw[hn]
   ·trivial
  ·trivial
 ·trivial
def sun (op:UnOp) (a:SV):SMP SV:=match op,a with
 | .neg,.d (.vi k x)=> .ret (.d (.vi k (.bin .sub k (.z 0) x)))
 | .not,.d (.vb x)=> .ret (.d (.vb (match x with | .tt=> .ff | .ff=> .tt | .not y=>y | x=> .not x)))
 | _,_=> .fail
theorem Jqw (op:UnOp) (a:SV):(sun op a).Ok B ρ (γX ρ) (match γX ρ a with
  | .d (.v a)=>KS (JO P (Op.unary op a))
  | _=> .fail):=by
 unfold sun;split
 ·rfl
 ·rename_i x;show KS (JO P (Op.unary .not (.bool (bol ρ x))))=_;have:bol ρ (match x with | .tt=> .ff | .ff=> .tt | .not y=>y | x=> .not x) = !bol ρ x:=by
   split <;> simp[bol,den,V.bool]
  show MP.ret (X.d (.v (.bool !(bol ρ x)))) = .ret (X.d (.v (.bool (bol ρ _))));rw[this]
 ·trivial
def JoW (P:Program) (s d:TypeId) (a:SV):SMP SV:=match a,P.underlying s,P.underlying d with
 | .d (.vi k x),some _,some (.int k')=> .ret (.d (.vi k' (.cv k' x)))
 | _,_,_=> .fail
theorem Jnt (s d:TypeId) (a:SV):(JoW P s d a).Ok B ρ (γX ρ) (match γX ρ a with
  | .d (.v a)=>KS (JO P (convert s d a))
  | _=> .fail):=by
 unfold JoW;split
 ·rename_i k x u k' hs hd;show KS (JO P (convert s d (.int k (int ρ x))))=_;have:JO P (convert s d (.int k (int ρ x)))=some (.int k' (k'.wrap (int ρ x))):=by
   unfold convert;rw[Q6,XA hs,Jun,Q6,XA hd,Jun];cases u <;> rfl
  rw[this];rfl
 ·trivial
def Jf4 (z:List Value):List E:=z.map fun v=>(KE v).norm
theorem Jd1 (z:List Value) (h:z.all (·.oneCell)=true):(Jf4 z).map (dat ρ)=z.map fun v=>(D.v v).norm:=by
 unfold Jf4;rw[List.map_map];refine Juv fun v hv=>?_;show dat ρ (KE v).norm=_;rw[Zp (JiK (Jum.1 h v hv)),Jbl]
theorem Jny (z:List Value):(z.map fun v=>SV.d (KE v)).map (γX ρ)=z.map fun c=>X.d (.v c):=by
 rw[List.map_map];exact Juv fun v _=>by simp only[Function.comp,γX,Jbl]
def JgO (k:Key) (ag:Bool) (sz:Nat) (ks:Kds):Nat→List (Nat×SV)→SMP (List E)
 | _,[]=> .ret []
 | i, (j, x) :: rest =>
   match Yr x with
   | some vs=>if vs.length=sz∧j=i∧vs.all JhB then(Jgi k ks vs).bind fun ds=>match smk ag ds with
       | some d=>(JgO k ag sz ks (i+1) rest).bind fun es=> .ret (d::es)
       | none=> .fail
     else .fail
   | none=> .fail
theorem JfZ {k:Key} {ag:Bool} {sz:Nat} {ks:Kds} :∀(ps:List (Nat×SV)) (i:Nat),(JgO k ag sz ks i ps).Ok B ρ (fun l=>l.map (dat ρ)) (Jd3 k ag sz ks i (ps.map fun p=>(p.1,γX ρ p.2)))
 | [],i=>rfl
 | (j,x)::rest,i=>by
  simp only[JgO,Juh,Jd3];cases hc:Yr x with
  | none=>trivial
  | some vs =>
   simp only[KW hc,Jui];split
   ·rename_i hh;rw[if_pos ⟨hh.1,hh.2.1,U7 hh.2.2 ρ⟩];refine SMP.bind_ok (f:=fun l=>l.map (dat ρ)) (fun ds=>?_) _ _ (Ja6 k _ vs);cases hm:smk ag ds with
    | none=>trivial
    | some d =>
     simp only[Jep hm];refine SMP.bind_ok (f:=fun l=>l.map (dat ρ)) (fun es=>?_) _ _ (JfZ rest (i+1));rfl
   ·trivial
def VI (P : Program) (dp : Bool) (key : Key) (t : TypeId) (n : Nat) (ps : List (Nat × SV)) : SMP SV := match J4 P t with
  | some e=>match QP P e,UY P e,Qy P e with
    | some sz,some ag,some z=>match smk ag (Jf4 z) with
      | some zd=>if n*sz≤2 ^ 24∧z.length=sz∧0<sz∧z.all (·.oneCell) then
          if UQ P dp e z&&ps.length == n&&n != 0 then
            .new key (.arr e sz .nil true true) ((JgO key ag sz (QD P e) 0 ps).bind fun es=> .put key (.arr e sz (J7 es) true true) (.ret (.o key (J7 es))))
          else(Jhm ag sz (List.replicate n zd) true ps).bind fun es =>
            .new key (.arr e sz (J7 es.1) false true) (.ret (.o key (J7 es.1)))
        else .fail
      | none=> .fail
    | _,_,_=> .fail
  | none=> .fail
theorem Jdr {ag:Bool} {sz:Nat} :∀(ps:List (Nat×SV)) (es:List E) (dp:Bool) {f:List E×Bool→SMP SV} {g:List D×Bool→MP X},
  (∀r:List E×Bool,r.1.length=es.length→(f r).Ok B ρ (γX ρ) (g (fLB ρ r)))→((Jhm ag sz es dp ps).bind f).Ok B ρ (γX ρ) ((Jc2 ag sz (es.map (dat ρ)) dp (ps.map fun p=>(p.1,γX ρ p.2))).bind g)
 | [],es,dp,f,g,h=>h (es,dp) rfl
 | (i,x)::rest,es,dp,f,g,h=>by
  simp only[Jhm,Juh,Jc2];cases hc:Yr x with
  | none=>trivial
  | some vs =>
   simp only[KW hc,Jui];split
   ·rename_i hh;rw[if_pos ⟨hh.1,hh.2.1,U7 hh.2.2 ρ⟩];have assocS :∀{α β γ:Type} (p:SMP α) (f:α→SMP β) (g:β→SMP γ),(p.bind f).bind g=p.bind fun a=>(f a).bind g:=by
     intro α β γ p f g
     induction p with
     | ret a=>rfl
     | fail=>rfl
     | get k c ih=>simp only[SMP.bind];congr 1;funext o;exact ih o
     | put k o c ih=>simp only[SMP.bind];rw[ih]
     | new k o c ih=>simp only[SMP.bind];rw[ih]
     | ask i m c ih=>simp only[SMP.bind];congr 1;funext o;exact ih o
    have assoc :∀{α β γ:Type} (p:MP α) (f:α→MP β) (g:β→MP γ),(p.bind f).bind g=p.bind fun a=>(f a).bind g:=by
     intro α β γ p f g
     induction p with
     | ret a=>rfl
     | fail=>rfl
     | get k c ih=>simp only[MP.bind];congr 1;funext o;exact ih o
     | put k o c ih=>simp only[MP.bind];rw[ih]
     | new k o c ih=>simp only[MP.bind];rw[ih]
    rw[assocS,assoc];refine SMP.bind_ok (f:=fLB ρ) (fun ds=>?_) _ _ (Vv vs);cases hm:smk ag ds.1 with
    | none=>trivial
    | some d =>
     simp only[fLB,Jep hm];have:=Jdr (ag:=ag) (sz:=sz) rest (es.set i d) (dp&&ds.2) (f:=f) (g:=g) fun r hr=>h r (by simpa using hr);rw[List.map_set] at this;exact this
   ·trivial
theorem Jd6 (dp:Bool) (key:Key) (t:TypeId) (n:Nat) (ps:List (Nat×SV)):(VI P dp key t n ps).Ok B ρ (γX ρ) (match J4 P t with
  | some e=>match QP P e,UY P e,Qy P e with
   | some sz,some ag,some z=>match D.mk ag (z.map fun v=>(D.v v).norm) with
    | some zd=>if n*sz≤2 ^ 24∧z.length=sz∧0<sz∧z.all (·.oneCell) then
      if UQ P dp e z&&ps.length == n&&n != 0 then
      .new key (.arr e sz [] true true) ((Jd3 key ag sz (QD P e) 0 (ps.map fun p=>(p.1,γX ρ p.2))).bind fun es =>
       .put key (.arr e sz es true true) (.ret (.o key es.length)))
      else(Jc2 ag sz (List.replicate n zd) true (ps.map fun p=>(p.1,γX ρ p.2))).bind fun es =>
       .new key (.arr e sz es.1 false true) (.ret (.o key n))
     else .fail
    | none=> .fail
   | _,_,_=> .fail
  | none=> .fail):=by
 unfold VI;split
 ·rename_i e he;split
  ·rename_i sz ag z h1 h2 h3;cases hz:smk ag (Jf4 z) with
   | none=>trivial
   | some zd =>
    simp only;split
    ·rename_i hc;have hmk:=Jep hz ρ;rw[Jd1 z hc.2.2.2] at hmk;simp only[hmk];split
     ·refine⟨_,rfl,?_⟩;refine SMP.bind_ok (f:=fun l=>l.map (dat ρ)) (fun es=>?_) _ _ (JfZ ps 0);refine⟨_,by rw[γO,JF],?_⟩;simp only[SMP.Ok,γX,JF]
     rw[←List.map_replicate];refine Jdr ps _ true fun r hr=>?_;refine⟨_,by rw[γO,JF];rfl,?_⟩;simp only[SMP.Ok,γX,JF,Jui,hr,List.length_replicate]
    ·trivial
  ·trivial
 ·trivial
def Jnq (n x:E):E:=match n with
 | .z m=>if 0≤m∧m≤64 then J7 (List.replicate m.toNat x) else .rep n x
 | _=> .rep n x
theorem JcI (n x:E):lst ρ (Jnq n x)=List.replicate (int ρ n).toNat (dat ρ x):=by
 unfold Jnq;split
 ·split
  ·rw[JF,List.map_replicate];rfl
  ·rfl
 ·rfl
def WD (P : Program) (dp : Bool) (key : Key) (t : TypeId) (l c : SV) : SMP SV := match J4 P t,Wi l,Wi c with
  | some e,some (_,l),some (_,c)=>match QP P e,UY P e,Qy P e with
    | some sz,some ag,some z=>match smk ag (Jf4 z),Ku P e with
      | some zd,some m=>if l.same c∧z.length=sz∧0<sz∧z.all (·.oneCell) then
          KC (.cmp .le (.z 0) l) (KC (.cmp .le l (.z m)) (.new key (.arr e sz (Jnq l zd) (UQ P dp e z) true) (.ret (.o key (Jnq l zd)))))
        else .fail
      | _,_=> .fail
    | _,_,_=> .fail
  | _,_,_=> .fail
theorem JeV (dp:Bool) (key:Key) (t:TypeId) (l c:SV):(WD P dp key t l c).Ok B ρ (γX ρ) (match J4 P t,WT (γX ρ l),WT (γX ρ c) with
  | some e,some l,some c=>match QP P e,UY P e,Qy P e with
   | some sz,some ag,some z=>match D.mk ag (z.map fun v=>(D.v v).norm) with
    | some zd=>if 0≤l∧l=c∧U2 P e l.toNat∧z.length=sz∧0<sz∧z.all (·.oneCell) then
      .new key (.arr e sz (List.replicate l.toNat zd) (UQ P dp e z) true) (.ret (.o key l.toNat))
     else .fail
    | none=> .fail
   | _,_,_=> .fail
  | _,_,_=> .fail):=by
 unfold WD;split
 ·rename_i e kl l' kc c' he hl hc;rw[Y2 hl,Y2 hc,he];simp only;split
  ·rename_i sz ag z h1 h2 h3;split
   ·rename_i zd m hz hm;split
    ·rename_i hcond;have hmk:=Jep hz ρ;rw[Jd1 z hcond.2.2.2] at hmk;simp only[hmk];refine QO fun h0=>QO fun h4=>?_;rw[Kj,decide_eq_true_eq,Jal] at h0 h4;have hlc:int ρ l'=int ρ c':=by unfold int;rw[VR _ _ hcond.1]
     rw[if_pos ⟨h0,hlc,V2 hm (by omega),hcond.2⟩];refine⟨_,by rw[γO,JcI],?_⟩;simp only[SMP.Ok,γX,JcI,List.length_replicate]
    ·trivial
   ·trivial
  ·trivial
 ·trivial
def Joo (v:SV):Bool:=match v with
 | .d (.vc (.slice none 0 0))=>true
 | _=>false
theorem Jpj {v:SV} (h:Joo v=true):γX ρ v = .d (.v (.slice none 0 0)):=by
 unfold Joo at h;split at h
 ·rfl
 ·cases h
def Jeo (P:Program) (key:Key) (t t':TypeId) (a b:SV):SMP SV:=match P.underlying t' with
 | some (.int _) => if Joo a then match J4 P t,Wi b with
   | some e,some (_,l)=>match QP P e,UY P e,Qy P e with
     | some sz,some ag,some z=>match smk ag (Jf4 z),Ku P e with
       | some zd,some m=>if z.length=sz∧0<sz∧z.all (·.oneCell) then
           KC (.cmp .lt (.z 0) l) (KC (.cmp .le l (.z m)) (.new key (.arr e sz (Jnq l zd) false true) (.ret (.o key (Jnq l zd)))))
         else .fail
       | _,_=> .fail
     | _,_,_=> .fail
   | _,_=> .fail
   else .fail
 | _=> .fail
theorem JhT {o:Oper} (t t':TypeId) (a b:SV):(Jeo P (Jz o) t t' a b).Ok B ρ (γX ρ) (JaD P o t t' (γX ρ a) (γX ρ b)):=by
 unfold Jeo;split
 ·rename_i kx hkx;split
  ·rename_i ha;split
   ·rename_i e kl l' he hl;unfold JaD;rw[Jpj ha,hkx];simp only;rw[Y2 hl,he];simp only;split
    ·rename_i sz ag z h1 h2 h3;split
     ·rename_i zd m hz hm;split
      ·rename_i hcond;have hmk:=Jep hz ρ;rw[Jd1 z hcond.2.2] at hmk;rw[h1,h2,h3];simp only[hmk];refine QO fun h0=>QO fun h4=>?_;rw[Kj,decide_eq_true_eq] at h4;rw[JnS,decide_eq_true_eq] at h0;rw[Jal] at h0 h4;rw[if_pos ⟨h0,V2 hm (by omega),hcond⟩];refine⟨_,by rw[γO,JcI],?_⟩;simp only[SMP.Ok,γX,JcI,List.length_replicate]
      ·trivial
     ·trivial
    ·trivial
   ·trivial
  ·trivial
 ·trivial
def Joi (P:Program) (key:Key) (t:TypeId) (x:SV) (lo hi mx:Option SV):SMP SV:=match lo,hi,mx with
 | none,some hv,none=>match Wi hv,J4 P t with
  | some (_,h),some e=>if(QP P e).isSome then match x with
   | .d (.s l)=>KC (.cmp .le (.z 0) h) (KC (.cmp .le h (Jak l)) (.ret (.d (.s (.take l h)))))
   | .o k l=> .get k fun
    | .arr ty sz l' _ true=>if l.lsame l' then KC (.cmp .le (.z 0) h) (KC (.cmp .le h (Jak l'))
     (.put k .dead (.new key (.arr ty sz (.take l' h) false true) (.ret (.o key (.take l' h)))))) else .fail
    | _=> .fail
   | .d (.vc (.slice none 0 0))=>match h with
    | .z 0=> .ret (.d (.vc (.slice none 0 0)))
    | _=> .fail
   | _=> .fail
   else .fail
  | _,_=> .fail
 | _,_,_=> .fail
def Jqt (P:Program) (key:Key) (t:TypeId) (x:SV) (lo hi:Option SV) (mx:SV):SMP SV:=match lo,hi with
 | none,some hv=>match Wi hv,Wi mx,J4 P t with
  | some (_,h),some (_,q),some e=>if(QP P e).isSome then match x with
   | .o k l=> .get k fun
    | .arr ty sz l' dp true=>if l.lsame l' then KC (.cmp .eq h (Jak l')) (KC (.cmp .eq q (Jak l'))
     (.put k .dead (.new key (.arr ty sz l' dp true) (.ret (.o key l'))))) else .fail
    | _=> .fail
   | _=> .fail
   else .fail
  | _,_,_=> .fail
 | _,_=> .fail
theorem JnK {o:Oper} (t:TypeId) (x:SV) (lo hi:Option SV) (mx:SV):(Jqt P (Jz o) t x lo hi mx).Ok B ρ (γX ρ) (Jk7 P o t (γX ρ x) (lo.map (γX ρ)) (hi.map (γX ρ)) (γX ρ mx)):=by
 cases lo with
 | some _=>trivial
 | none =>
 cases hi with
 | none=>trivial
 | some hv =>
 show SMP.Ok B ρ (γX ρ) (match Wi hv,Wi mx,J4 P t with
  | some (_,h),some (_,q),some e=>if(QP P e).isSome then _ else .fail
  | _,_,_=> .fail) _
 cases hh:Wi hv with
 | none=>trivial
 | some kh =>
  obtain⟨kh,h⟩:=kh;cases hq:Wi mx with
  | none=>trivial
  | some kq =>
   obtain⟨kq,q⟩:=kq;cases he:J4 P t with
   | none=>trivial
   | some e =>
    simp only;have hix:=Y2 (ρ:=ρ) hh;have hiq:=Y2 (ρ:=ρ) hq;split
    ·rename_i hsz;cases x with
     | o k l =>
      simp only[γX,Jk7,Option.map_none,Jub,hix,hiq,he];refine⟨_,rfl,fun ob=>?_⟩;cases ob with
      | arr ty sz l' dp rw =>
       cases rw with
       | false=>trivial
       | true =>
        simp only[γO];split
        ·rename_i hl;refine QO fun h0=>QO fun h4=>?_;rw[JnD,decide_eq_true_eq,Zf] at h0;rw[JnD,decide_eq_true_eq,Zf] at h4;rw[if_pos ⟨lL1 hl ρ,h0,h4,hsz⟩];refine⟨_,rfl,_,rfl,?_⟩;show MP.ret _=MP.ret (X.o _ (lst ρ l').length);rw[lL1 hl ρ]
        ·trivial
      | _=>trivial
     | _=>trivial
    ·trivial
theorem Jmg {o:Oper} (t:TypeId) (x:SV) (lo hi mx:Option SV):(Joi P (Jz o) t x lo hi mx).Ok B ρ (γX ρ) (Uv P o t (γX ρ x) (lo.map (γX ρ)) (hi.map (γX ρ)) (mx.map (γX ρ))):=by
 cases lo with
 | some _=>trivial
 | none =>
 cases hi with
 | none=>trivial
 | some hv =>
 cases mx with
 | some _=>trivial
 | none =>
 show SMP.Ok B ρ (γX ρ) (match Wi hv,J4 P t with
  | some (_,h),some e=>if(QP P e).isSome then _ else .fail
  | _,_=> .fail) _
 cases hh:Wi hv with
 | none=>trivial
 | some kh =>
  obtain⟨kh,h⟩:=kh;cases he:J4 P t with
  | none=>trivial
  | some e =>
   simp only;have hix:=Y2 (ρ:=ρ) hh;split
   ·rename_i hsz;cases x with
    | d e' =>
     cases e' with
     | s l =>
      refine QO fun h0=>QO fun h4=>?_;rw[Kj,decide_eq_true_eq,Jal] at h0;rw[Kj,decide_eq_true_eq,Zf] at h4;show Uv P o t (.d (.s (lst ρ l))) none (some (γX ρ hv)) none=_;simp only[Uv,Jub,hix,he];rw[if_pos ⟨h0,h4,hsz⟩];rfl
     | vc v =>
      split <;> rename_i heq <;> try trivial
      all_goals try (cases heq;done)
      cases heq;split
      ·show Uv P o t (.d (.v (.slice none 0 0))) none (some (γX ρ hv)) none=_;simp only[Uv,Jub,hix,he];rw[if_pos ⟨rfl,hsz⟩];rfl
      ·trivial
     | _=>trivial
    | o k l =>
     simp only[γX,Uv,Option.map_none,Jub,hix,he];refine⟨_,rfl,fun ob=>?_⟩;cases ob with
     | arr ty sz l' dp rw =>
      cases rw with
      | false=>trivial
      | true =>
       simp only[γO];split
       ·rename_i hl;refine QO fun h0=>QO fun h4=>?_;rw[Kj,decide_eq_true_eq,Jal] at h0;rw[Kj,decide_eq_true_eq,Zf] at h4;rw[if_pos ⟨lL1 hl ρ,h0,h4,hsz⟩];refine⟨_,rfl,_,rfl,?_⟩;show MP.ret _=MP.ret (X.o _ ((lst ρ l').take (int ρ h).toNat).length);rw[Juo,Nat.min_eq_left (by omega)]
       ·trivial
     | _=>trivial
    | _=>trivial
   ·trivial
def WK (P:Program) (t:TypeId) (x:SV) (i:Nat):SMP SV:=match Z7 P t i with
 | some (off,n)=>if n=0 then .fail else match x with
  | .p k off'=> .ret (.p k (off'+off))
  | .e k l j off'=> .get k fun
   | .arr _ _ l' _ _=>if l.lsame l' then .ret (.e k l j (off'+off)) else .fail
   | _=> .fail
  | .d (.q l)=>match l.list with
   | some cs=>if off<cs.length then .ret (.d (.q (J7 (cs.drop off)))) else .fail
   | none=> .fail
  | .d (.da a)=>match Jd7 P 8 t with
   | some as=>if off<as.length then .ask (fun n=> .get (.da a) (.q as) n) as.length fun n=> .ret (.d (.q (J7 ((JB as n).drop off)))) else .fail
   | none=> .fail
  | _=> .fail
 | none=> .fail
theorem JeO (t:TypeId) (x:SV) (i:Nat):(WK P t x i).Ok B ρ (γX ρ) (match Z7 P t i with
  | some (off,n)=>if n=0 then .fail else match γX ρ x with
   | .p k off'=> .ret (.p k (off'+off))
   | .e k n' j off'=> .get k fun
    | .arr _ _ es _ _=>if n'=es.length then .ret (.e k n' j (off'+off)) else .fail
    | _=> .fail
   | .d (.q cs)=>if off<cs.length then .ret (.d (.q (cs.drop off))) else .fail
   | _=> .fail
  | none=> .fail):=by
 unfold WK;cases hf:Z7 P t i with
 | none=>trivial
 | some p =>
  obtain⟨off,n⟩:=p;simp only;split
  ·trivial
  ·rename_i hn;cases x with
   | p k off'=>rfl
   | e k l j off' =>
    refine⟨_,rfl,fun o=>?_⟩;cases o with
    | arr ty sz l' dp rw =>
     simp only[γO];split
     ·rename_i hl;rw[if_pos (lL1 hl ρ)];rfl
     ·trivial
    | _=>trivial
   | d e =>
    cases e with
    | q l =>
     simp only;split
     ·rename_i cs hl;split
      ·rename_i hlt;show (if off<(lst ρ l).length then MP.ret (X.d (.q ((lst ρ l).drop off))) else .fail)=_;rw[YL ρ _ _ hl,if_pos (by simpa using hlt)];show _=MP.ret (X.d (.q (lst ρ (J7 (cs.drop off)))));rw[JF,List.map_drop]
      ·trivial
     ·trivial
    | da a =>
     simp only;split
     ·rename_i as has;split
      ·rename_i hlt;intro n' hn';simp only[I.holds,Sh.expr] at hn';simp only[γX,hn'];show (if off<(lst ρ (J7 (JB as n'))).length then MP.ret (X.d (.q ((lst ρ (J7 (JB as n'))).drop off))) else .fail)=_;rw[JF,if_pos (by simpa[Q7] using hlt)];show _=MP.ret (X.d (.q (lst ρ (J7 ((JB as n').drop off)))));rw[JF,List.map_drop]
      ·trivial
     ·trivial
    | _=>trivial
   | _=>trivial
def W4 (P:Program) (t:TypeId) (x i:SV):SMP SV:=match J4 P t,Wi i with
 | some e,some (_,j)=>match QP P e,x with
  | some sz,.d (.s l)=>match Jiq P e with
   | some (.q _)=> .fail
   | some sh=>if sh.size=sz then .ask (fun n=> .idx l j sh n) sh.size fun n=> .ret (.d (.q (J7 (sh.cells n)))) else .fail
   | none=> .fail
  | some sz,.o k l=>KC (.cmp .le (.z 0) j) (KC (.cmp .lt j (Jak l)) (.get k fun
   | .arr ty sz' l' _ _=>if l.lsame l'∧ty=e∧sz'=sz then .ret (.e k l j 0) else if ty=e∧sz'=sz then KC (.cmp .eq (.len l) (.len l')) (.ret (.e k l' j 0)) else .fail
   | _=> .fail))
  | _,_=> .fail
 | _,_=> .fail
theorem Jg0 (sh:Sh) (hq :∀as,sh≠ .q as) (n:Nat):(sh.cells n).length=sh.size:=by
 cases sh with
 | one a=>rfl
 | g as=>exact Q7 as n
 | q as=>exact absurd rfl (hq as)
theorem JeR (t:TypeId) (x i:SV):(W4 P t x i).Ok B ρ (γX ρ) (match J4 P t,WT (γX ρ i) with
  | some e,some j=>match QP P e,γX ρ x with
   | some sz,.d (.s es)=>if 0≤j then match es[j.toNat]? with
     | some e=>if e.cells.length=sz then .ret (.d (.q e.cells)) else .fail
     | none=> .fail
    else .fail
   | some sz,.o k n=>if 0≤j∧j<n then .get k fun
     | .arr ty sz' es _ _=>if n=es.length∧ty=e∧sz'=sz then .ret (.e k n j.toNat 0) else .fail
     | _=> .fail
    else .fail
   | _,_=> .fail
  | _,_=> .fail):=by
 unfold W4;split
 ·rename_i e kj j he hj;rw[Y2 hj,he];simp only;cases hsz:QP P e with
  | none=>trivial
  | some sz =>
   cases x with
   | d ex =>
    cases ex with
    | s l =>
     simp only;cases hs:Jiq P e with
     | none=>trivial
     | some sh =>
      have key :∀hq :∀as,sh≠ .q as,SMP.Ok B ρ (γX ρ) (if sh.size=sz then .ask (fun n=> .idx l j sh n) sh.size fun n=> .ret (.d (.q (J7 (sh.cells n)))) else .fail)
        (if 0≤int ρ j then match (lst ρ l)[(int ρ j).toNat]? with
         | some e=>if e.cells.length=sz then .ret (X.d (.q e.cells)) else .fail
         | none=> .fail
        else .fail):=by
       intro hq;split
       ·rename_i hsize;intro n hn;obtain⟨h0,h1⟩:=hn;rw[if_pos h0,h1];simp only[Jir hq,Jui,Jg0 sh hq,hsize,if_true,SMP.Ok,γX];show _=MP.ret (X.d (.q (lst ρ (J7 (sh.cells n)))));rw[JF]
       ·trivial
      cases sh with
      | q as=>trivial
      | one a=>exact key (fun as h=>by cases h)
      | g as=>exact key (fun as h=>by cases h)
    | _=>trivial
   | o k l =>
    refine QO fun h0=>QO fun h1=>?_;rw[Kj,decide_eq_true_eq,Jal] at h0;rw[JnS,decide_eq_true_eq,Zf] at h1;simp only[γX];rw[if_pos ⟨h0,h1⟩];refine⟨_,rfl,fun o=>?_⟩;cases o with
    | arr ty sz' l' dp rw =>
     simp only[γO];split
     ·rename_i hc;rw[if_pos ⟨lL1 hc.1 ρ,hc.2⟩];rfl
     ·split
      ·rename_i hc;refine QO fun hl=>?_;have hl:decide (((lst ρ l).length:Int)=((lst ρ l').length:Int))=true:=hl;have hl:(lst ρ l).length=(lst ρ l').length:=by
        have:((lst ρ l).length:Int)=((lst ρ l').length:Int):=by simpa using hl
        omega
       rw[if_pos ⟨hl,hc⟩];simp only[SMP.Ok,γX,hl]
      ·trivial
    | _=>trivial
   | _=>trivial
 ·trivial
def JkN (P:Program) (t:TypeId) (x:SV) (i:Nat):SMP SV:=match Z7 P t i,Vp P t i,x with
 | some (off,n),some true,.g cs=> .ret (.g ((cs.drop off).take n))
 | some (off,_),some false,.g cs=>match cs[off]? with
  | some c=> .ret c
  | none=> .fail
 | _,_,_=> .fail
theorem Jmn (t:TypeId) (x:SV) (i:Nat):(JkN P t x i).Ok B ρ (γX ρ) (match Z7 P t i,Vp P t i,γX ρ x with
  | some (off,n),some true,.g cs=> .ret (.g ((cs.drop off).take n))
  | some (off,_),some false,.g cs=>match cs[off]? with
   | some c=> .ret c
   | none=> .fail
  | _,_,_=> .fail):=by
 unfold JkN;split
 ·rename_i off n cs h1 h2;rw[h1,h2];simp only[γX,Jx,SMP.Ok,List.map_take,List.map_drop]
 ·rename_i off n cs h1 h2;rw[h1,h2];simp only[γX,Jx,Juu];cases hc:cs[off]? with
  | none=>trivial
  | some c=>rfl
 ·trivial
def Jg8:SV→SMP (E×Bool)
 | .d (.s l)=> .ret (l,false)
 | .d (.vc (.slice none 0 0))=> .ret (.nil,true)
 | .o k l=> .get k fun
  | .arr _ _ l' dp rw=>if l.lsame l'∧(dp&&rw)=false then .ret (l',false) else .fail
  | _=> .fail
 | _=> .fail
def fEB (ρ:Env) (p:E×Bool):List D×Bool:=(lst ρ p.1,p.2)
theorem Jjv (v:SV):(Jg8 v).Ok B ρ (fEB ρ) (Jhj (γX ρ v)):=by
 unfold Jg8;split
 ·rfl
 ·rfl
 ·refine⟨_,rfl,fun o=>?_⟩;cases o with
  | arr ty sz l' dp rw =>
   simp only[γO];split
   ·rename_i h;rw[if_pos ⟨lL1 h.1 ρ,by simp[h.2]⟩];rfl
   ·trivial
  | _=>trivial
 ·trivial
def ZR (P : Program) (key : Key) (t : TypeId) (a b : SV) : SMP SV := match J4 P t with
  | none=> .fail
  | some e => match QP P e,Ku P e with
    | some sz,some m=>if 0<sz∧(Qy P e).map (·.length)=some sz then(Jg8 b).bind fun f=>KC (.cmp .le (Jak f.1) (.z m)) (JnC sz f.1 (match a with
        | .d (.vc (.slice none 0 0))=>match f.1 with
          | .cons x l=> .new key (.arr e sz (.cons x l) false true) (.ret (.o key (.cons x l)))
          | _=> .fail
        | .o k l=> .get k fun
          | .arr ty sz' l' false true=>if l.lsame l'∧ty=e∧sz'=sz then
              KC (.cmp .le (Jak (.app l' f.1)) (.z m)) (.put k (.arr e sz (.app l' f.1) false true) (.ret (.o k (.app l' f.1))))
            else .fail
          | _=> .fail
        | _=> .fail))
      else .fail
    | _,_=> .fail
def Jc3 (P:Program) (key:Key) (t:TypeId) (a b:SV) (k j:Key) (l l2:E) (o1 o2:Jj):SMP SV:=match o1,o2 with
 | .arr ty sz l' true true,.arr ty' sz' f true true=>match J4 P t with
  | some e=>match Ku P e,f with
   | some m,.cons x r=>if l.lsame l'∧l2.lsame (.cons x r)∧ty=e∧ty'=e∧sz'=sz∧QP P e=some sz∧(Qy P e).map (·.length)=some sz then
     KC (.cmp .le (Jak (.app l' (.cons x r))) (.z m)) (.put j .dead (.put k (.arr e sz (.app l' (.cons x r)) true true) (.ret (.o k (.app l' (.cons x r))))))
    else .fail
   | _,_=> .fail
  | none=> .fail
 | _,_=>ZR P key t a b
def Jek (P:Program) (key:Key) (t:TypeId) (a b:SV) (j:Key) (l2:E) (o2:Jj):SMP SV:=match o2 with
 | .arr ty' sz' f true true=>match J4 P t with
  | some e=>match Ku P e,f with
   | some m,.cons x r=>if l2.lsame (.cons x r)∧ty'=e∧QP P e=some sz'∧(Qy P e).map (·.length)=some sz' then
     KC (.cmp .le (Jak (.cons x r)) (.z m)) (.new key (.arr e sz' .nil true true) (.put j .dead (.put key (.arr e sz' (.cons x r) true true) (.ret (.o key (.cons x r))))))
    else .fail
   | _,_=> .fail
  | none=> .fail
 | _=>ZR P key t a b
def Jhc (P:Program) (dp:Bool) (key:Key) (t:TypeId) (a b:SV):SMP SV:=match a,b with
 | .o k l,.o j l2=>if k=j then ZR P key t a b else .get k fun o1=> .get j fun o2=>Jc3 P key t a b k j l l2 o1 o2
 | .d (.vc (.slice none 0 0)),.o j l2=>if dp=true then .get j fun o2=>Jek P key t a b j l2 o2 else ZR P key t a b
 | .d _,.o _ _=> .fail
 | _,_=>ZR P key t a b
end
end Go.Tm
end
section
namespace Go.Tm
open Go.IntKind (i64)
section
variable {B:Tb} {ρ:Env} {sg:FuncId→Option Sig} {P:Program} {G:Qd}
theorem US {o:Oper} (t:TypeId) (a b:SV):(ZR P (Jz o) t a b).Ok B ρ (γX ρ) (XN P o t (γX ρ a) (γX ρ b)):=by
 unfold ZR XN;cases he:J4 P t with
 | none=>trivial
 | some e =>
  simp only;cases hsz:QP P e with
  | none=>trivial
  | some sz =>
   cases hm:Ku P e with
   | none=>trivial
   | some m =>
    simp only;split
    ·rename_i hc;refine SMP.bind_ok (f:=fEB ρ) (fun f=>?_) _ _ (Jjv b);obtain⟨fl,fb⟩:=f;refine QO fun h1=>JnF fun h2=>?_;rw[Kj,decide_eq_true_eq,Zf,Jal] at h1;have h1:((lst ρ fl).length:Int)≤m:=h1;have hcond:U2 P e (fEB ρ (fl,fb)).1.length=true∧Yb sz (fEB ρ (fl,fb)).1=true∧0<sz∧(Qy P e).map (·.length)=some sz :=
      ⟨V2 hm (by show (lst ρ fl).length≤m;omega),h2,hc.1,hc.2⟩
     rw[if_pos hcond];split
     ·split
      ·rename_i x l hfl;have hfl:fl = .cons x l:=hfl;subst hfl;have hne : ¬(fEB ρ (E.cons x l,fb)).1=[]:=by
        show ¬(dat ρ x::lst ρ l)=[];simp
       show SMP.Ok B ρ (γX ρ) _ (if(fEB ρ (E.cons x l,fb)).1=[] then _ else _);rw[if_neg hne];exact⟨_,rfl,rfl⟩
      ·trivial
     ·rename_i k l;refine⟨_,rfl,fun ob=>?_⟩;cases ob with
      | arr ty sz' l' dp rw =>
       cases rw with
       | false=>cases dp <;> trivial
       | true =>
        cases dp with
        | true=>trivial
        | false =>
         simp only[γO];split
         ·rename_i hh;refine QO fun h3=>?_;rw[Kj,decide_eq_true_eq,Zf,Jal] at h3;have h3:((lst ρ (.app l' fl)).length:Int)≤m:=h3;have hlen:(lst ρ (.app l' fl)).length=(lst ρ l').length+(lst ρ fl).length:=by
           show (lst ρ l'++lst ρ fl).length=_;simp
          have hcond2:(lst ρ l).length=(lst ρ l').length∧ty=e∧sz'=sz∧U2 P e ((lst ρ l).length+(fEB ρ (fl,fb)).1.length)=true :=
           ⟨lL1 hh.1 ρ,hh.2.1,hh.2.2,by rw[lL1 hh.1 ρ];exact V2 hm (by show (lst ρ l').length+(lst ρ fl).length≤m;omega)⟩
          rw[if_pos hcond2];refine⟨_,rfl,?_⟩;show MP.ret (X.o k ((lst ρ l).length+(lst ρ fl).length))=_;simp only[SMP.Ok,γX,hlen,lL1 hh.1 ρ]
         ·trivial
      | _=>trivial
     ·trivial
    ·trivial
theorem JhJ {o:Oper} (t:TypeId) (a b:SV) (k j:Key) (l l2:E) (o1 o2:Jj):(Jc3 P (Jz o) t a b k j l l2 o1 o2).Ok B ρ (γX ρ) (match γO ρ o1,γO ρ o2 with
  | .arr ty sz es true true,.arr ty' sz' fs true true=>match J4 P t with
   | some e=>if(lst ρ l).length=es.length∧(lst ρ l2).length=fs.length∧ty=e∧ty'=e∧sz'=sz∧QP P e=some sz∧fs≠[]∧U2 P e ((lst ρ l).length+(lst ρ l2).length)∧(Qy P e).map (·.length)=some sz then
     .put j .dead (.put k (.arr e sz (es++fs) true true) (.ret (.o k ((lst ρ l).length+(lst ρ l2).length))))
    else .fail
   | none=> .fail
  | _,_=>XN P o t (γX ρ a) (γX ρ b)):=by
 have h0:=US (B:=B) (ρ:=ρ) (P:=P) (o:=o) t a b;cases o1 with
 | arr ty sz l' dp rw=>cases o2 with
  | arr ty' sz' f dp' rw' =>
   cases dp <;> cases rw <;> cases dp' <;> cases rw' <;> first | exact h0 | skip
   simp only[γO,Jc3];cases he:J4 P t with
   | none=>trivial
   | some e =>
    simp only;split
    ·rename_i m x r hm;split
     ·rename_i hc;refine QO fun h3=>?_;rw[Kj,decide_eq_true_eq,Zf,Jal] at h3;have h3:((lst ρ (.app l' (.cons x r))).length:Int)≤m:=h3;have hlen:(lst ρ (.app l' (.cons x r))).length=(lst ρ l').length+(lst ρ (.cons x r)).length:=by
       show (lst ρ l'++lst ρ (.cons x r)).length=_;simp
      have hl1:=lL1 hc.1 ρ;have hl2:=lL1 hc.2.1 ρ;have hne:lst ρ (.cons x r)≠[]:=by
       show dat ρ x::lst ρ r≠[];simp
      rw[if_pos ⟨hl1,hl2,hc.2.2.1,hc.2.2.2.1,hc.2.2.2.2.1,hc.2.2.2.2.2.1,hne,V2 hm (by rw[hl1,hl2];omega),hc.2.2.2.2.2.2⟩];refine⟨_,rfl,⟨_,rfl,?_⟩⟩;simp only[SMP.Ok,γX,hlen,hl1,hl2]
     ·trivial
    ·trivial
  | _=>cases dp <;> cases rw <;> exact h0
 | _=>exact h0
theorem Jhs {o:Oper} (t:TypeId) (a b:SV) (j:Key) (l2:E) (o2:Jj):(Jek P (Jz o) t a b j l2 o2).Ok B ρ (γX ρ) (match γO ρ o2 with
  | .arr ty' sz' fs true true=>match J4 P t with
   | some e=>if(lst ρ l2).length=fs.length∧ty'=e∧QP P e=some sz'∧fs≠[]∧U2 P e (lst ρ l2).length∧(Qy P e).map (·.length)=some sz' then
     .new (Jz o) (.arr e sz' [] true true) (.put j .dead (.put (Jz o) (.arr e sz' fs true true) (.ret (.o (Jz o) (lst ρ l2).length))))
    else .fail
   | none=> .fail
  | _=>XN P o t (γX ρ a) (γX ρ b)):=by
 have h0:=US (B:=B) (ρ:=ρ) (P:=P) (o:=o) t a b;cases o2 with
 | arr ty' sz' f dp' rw' =>
  cases dp' <;> cases rw' <;> first | exact h0 | skip
  simp only[γO,Jek];cases he:J4 P t with
  | none=>trivial
  | some e =>
   simp only;split
   ·rename_i m x r hm;split
    ·rename_i hc;refine QO fun h3=>?_;rw[Kj,decide_eq_true_eq,Zf,Jal] at h3;have h3:((lst ρ (.cons x r)).length:Int)≤m:=h3;have hl2:=lL1 hc.1 ρ;have hne:lst ρ (.cons x r)≠[]:=by
      show dat ρ x::lst ρ r≠[];simp
     rw[if_pos ⟨hl2,hc.2.1,hc.2.2.1,hne,V2 hm (by rw[hl2];omega),hc.2.2.2⟩];refine⟨_,rfl,⟨_,rfl,⟨_,rfl,?_⟩⟩⟩;simp only[SMP.Ok,γX,hl2]
    ·trivial
   ·trivial
 | _=>exact h0
theorem JkE {o:Oper} (dp:Bool) (t:TypeId) (a b:SV):(Jhc P dp (Jz o) t a b).Ok B ρ (γX ρ) (JcE P dp o t (γX ρ a) (γX ρ b)):=by
 have h0:=US (B:=B) (ρ:=ρ) (P:=P) (o:=o) t a b;unfold Jhc;split
 ·rename_i k l j l2;show SMP.Ok B ρ (γX ρ) _ (if k=j then _ else _);split
  ·exact h0
  ·refine⟨_,rfl,fun o1=>⟨_,rfl,fun o2=>?_⟩⟩;exact JhJ t (.o k l) (.o j l2) k j l l2 o1 o2
 ·rename_i j l2;show SMP.Ok B ρ (γX ρ) _ (if dp=true then _ else _);split
  ·refine⟨_,rfl,fun o2=>?_⟩;exact Jhs t (.d (.vc (.slice none 0 0))) (.o j l2) j l2 o2
  ·exact h0
 ·trivial
 ·rename_i h1 _ h2;unfold JcE;split
  ·rename_i e1 e2;cases a <;> simp only[γX] at e1 <;> try cases e1
   cases b <;> simp only[γX] at e2 <;> try cases e2
   exact(h1 _ _ _ _ rfl rfl).elim
  ·rename_i e1 e2;cases a <;> simp only[γX] at e1 <;> try cases e1
   cases b <;> simp only[γX] at e2 <;> try cases e2
   exact(h2 _ _ _ rfl rfl).elim
  ·exact h0
def JfP:SV→SMP E
 | .d (.s l)=> .ret l
 | .d (.vc (.slice none 0 0))=> .ret .nil
 | .o k l=> .get k fun
  | .arr _ _ l' _ _=>if l.lsame l' then .ret l' else .fail
  | _=> .fail
 | _=> .fail
theorem Job (v:SV):(JfP v).Ok B ρ (lst ρ) (Jeu (γX ρ v)):=by
 unfold JfP;split
 ·rfl
 ·rfl
 ·refine⟨_,rfl,fun o=>?_⟩;cases o with
  | arr ty sz l' dp rw =>
   simp only[γO];split
   ·rename_i h;rw[if_pos (lL1 h ρ)];rfl
   ·trivial
  | _=>trivial
 ·trivial
def JhU (P:Program) (sg:FuncId→Option Sig) (dp bo:Bool) (o:Oper) (sl:SSl):SMP SV :=
 let r:=sop sl
 match o.op with
 | .move x | .assign x=> .ret (r x)
 | .pick c a b=>match r c with
  | .d (.vb e)=>match e.known with
   | some true=> .ret (r a)
   | some false=> .ret (r b)
   | none=> .fail
  | _=> .fail
 | .alloc t=>match Qy P t with
  | some z=>if z.all (·.oneCell) then .new (Jz o) (.box (z.map fun v=> .d (KE v))) (.ret (.p (Jz o) 0)) else .fail
  | none=> .fail
 | .box _ x=>match Yr (r x) with
  | some cs=> .new (Jz o) (.box cs) (.ret (.p (Jz o) 0))
  | none=> .fail
 | .build t ps=>match Qy P t,JgM P t with
  | some z,some pl=>if z.all (·.oneCell) then match Jdd pl (z.map fun v=> .d (KE v)) (ps.toList.map fun p=>(p.1,r p.2)) with
   | some cs=> .ret (.g cs)
   | none=> .fail
   else .fail
  | _,_=> .fail
 | .buildSlice t n ps=>VI P dp (Jz o) t n (ps.toList.map fun p=>(p.1,r p.2))
 | .load t a=>Jhg P t (r a)
 | .store t a x=>JgH P t (r a) (r x)
 | .nilCheck x=>match r x with
  | .p k off=> .ret (.p k off)
  | .d (.q l)=> .ret (.d (.q l))
  | .f fn cs=> .ret (.f fn cs)
  | .d (.fn f l)=> .ret (.d (.fn f l))
  | _=> .fail
 | .binOp op t x y _=>JqP P op t (r x) (r y)
 | .unOp op _ x=>sun op (r x)
 | .convert s d x=>JoW P s d (r x)
 | .makeFunc (.func f) fs cs=>if fs.isEmpty then .ret (.f f (cs.toList.map r)) else .fail
 | .makeSlice t l c=>WD P dp (Jz o) t (r l) (r c)
 | .slice t x lo hi mx=>match mx with
  | none=>Joi P (Jz o) t (r x) (lo.map r) (hi.map r) none
  | some q=>Jqt P (Jz o) t (r x) (lo.map r) (hi.map r) (r q)
 | .fieldAddr t x i=>WK P t (r x) i
 | .field t x i=>JkN P t (r x) i
 | .indexAddr t x i=>W4 P t (r x) (r i)
 | .extract x i=>match r x with
  | .t cs=>match cs[i]? with
   | some c=> .ret c
   | none=> .fail
  | _=> .fail
 | .call c=>match c.callee with
  | .builtin .len=>match c.args.toList,c.argTypes.toList with
   | [p],[t]=>match J4 P t with
    | some _=>(JfP (r p)).bind fun l=> .ret (.d (.vi .i64 (Jak l)))
    | none=> .fail
   | _,_=> .fail
  | .builtin .append=>match c.args.toList,c.argTypes.toList with
   | [p,q],[t,t']=>if t'=t then Jhc P dp (Jz o) t (r p) (r q) else Jeo P (Jz o) t t' (r p) (r q)
   | _,_=> .fail
  | .builtin .cap=>match c.args.toList,c.argTypes.toList with
   | [p],[t]=>if JkJ (r p) then match J4 P t with
    | some _=> .ret (.d (.vi .i64 (.z 0)))
    | none=> .fail
    else .fail
   | _,_=> .fail
  | .value f=>match r f with
   | .f fn cs=>Jkt sg dp bo (Jz o) fn (c.args.toList.map r++cs)
   | .d (.da n)=>JoN n (c.args.toList.map r) (sh1 P o.type)
   | _=> .fail
  | _=> .fail
 | _=> .fail
theorem Jf3 (ρ:Env) (sl:SSl) (ps:List (Nat×Operand)):(ps.map fun p=>(p.1,opX (γs ρ sl) p.2))=(ps.map fun p=>(p.1,sop sl p.2)).map fun p=>(p.1,γX ρ p.2):=by
 rw[List.map_map];exact Juv fun p _=>by simp only[Function.comp,QI]
theorem Jk1 (ρ:Env) (sl:SSl) (l:List Operand):l.map (opX (γs ρ sl))=(l.map (sop sl)).map (γX ρ):=by
 rw[List.map_map];exact Juv fun p _=>by simp only[Function.comp,QI]
theorem Jp3 (hB:BOk sg B) (o:Oper) (sl:SSl):(JhU P sg (G.dp o) (G.bo o) o sl).Ok B ρ (γX ρ) (opM P (X7 sg B) G (γs ρ sl) o):=by
 unfold JhU opM;cases o.op with
 | move x=>simp only[QI];rfl
 | assign x=>simp only[QI];rfl
 | pick c a b =>
  simp only[QI];split
  ·rename_i e h;split
   ·rename_i hk;rw[h];have:=Z8 (ρ:=ρ) hk;rw[show γX ρ (.d (.vb e)) = .d (.v (.bool (bol ρ e))) from rfl,this];rfl
   ·rename_i hk;rw[h];have:=Z8 (ρ:=ρ) hk;rw[show γX ρ (.d (.vb e)) = .d (.v (.bool (bol ρ e))) from rfl,this];rfl
   ·trivial
  ·trivial
 | alloc t =>
  simp only;split
  ·rename_i z hz;split
   ·rename_i h;rw[hz];simp only[h,if_true];refine⟨_,by rw[γO,Jx,Jny];rfl,rfl⟩
   ·trivial
  ·trivial
 | box t x =>
  simp only[QI];split
  ·rename_i cs h;rw[KW h];exact⟨_,by rw[γO,Jx];rfl,rfl⟩
  ·trivial
 | build t ps =>
  simp only[Jf3];split
  ·rename_i z pl hz hpl;split
   ·rename_i h;split
    ·rename_i cs hcs;have:=Jfh (ρ:=ρ) _ _ _ hcs;rw[Jny] at this;rw[hz,hpl];simp only[h,if_true];rw[this];simp only[SMP.Ok,γX,Jx]
    ·trivial
   ·trivial
  ·trivial
 | buildSlice t n ps=>simp only[Jf3];have h:=Jd6 (B:=B) (ρ:=ρ) (P:=P) (G.dp o) (Jz o) t n (ps.toList.map fun p=>(p.1,sop sl p.2));rw[Jui] at h;exact h
 | load t a=>simp only[QI];exact Je0 t _
 | store t a x=>simp only[QI];exact JjG t _ _
 | nilCheck x =>
  simp only[QI];split
  ·rename_i h;rw[h];rfl
  ·rename_i h;rw[h];rfl
  ·rename_i h;rw[h];rfl
  ·rename_i h;rw[h];rfl
  ·trivial
 | binOp op t x y t'=>simp only[QI];exact Jqi op t x y _ _
 | unOp op t x=>simp only[QI];exact Jqw op _
 | convert s d x=>simp only[QI];exact Jnt s d _
 | makeFunc fn fs cs =>
  cases fn with
  | func f =>
   simp only;split
   ·rename_i h;simp only[Jk1,SMP.Ok,γX,Jx]
   ·trivial
  | _=>trivial
 | makeSlice t l c=>simp only[QI];exact JeV _ _ t _ _
 | slice t x lo hi mx =>
  simp only[QI];have e :∀q:Option Operand,q.map (opX (γs ρ sl))=(q.map (sop sl)).map (γX ρ):=fun q=>by cases q <;> simp[QI]
  cases mx with
  | none=>simp only[];rw[e,e];exact Jmg t _ _ _ none
  | some q=>simp only[];rw[e,e];exact JnK t _ _ _ _
 | fieldAddr t x i=>simp only[QI];exact JeO t _ i
 | field t x i=>simp only[QI];exact Jmn t _ i
 | indexAddr t x i=>simp only[QI];exact JeR t _ _
 | extract x i =>
  simp only[QI];split
  ·rename_i cs h;rw[h];simp only[γX,Jx,Juu];cases hc:cs[i]? with
   | none=>trivial
   | some c=>rfl
  ·trivial
 | call c =>
  simp only;cases c.callee with
  | builtin b =>
   cases b with
   | len =>
    simp only[QI];split
    ·rename_i p t hp ht;rw[hp,ht];simp only;split
     ·rename_i e he;have key:((JfP (sop sl p)).bind fun l=> .ret (.d (.vi .i64 (Jak l)))).Ok B ρ (γX ρ) ((Jeu (γX ρ (sop sl p))).bind fun es=> .ret (.d (.v (goInt es.length)))):=by
       refine SMP.bind_ok (f:=lst ρ) (fun l=>?_) _ _ (Job _);show MP.ret (X.d (.v (.int .i64 ((lst ρ l).length:Int))))=MP.ret (X.d (.v (.int .i64 (int ρ (Jak l)))));rw[Zf]
      by_cases hs : ∃ s,γX ρ (sop sl p) = .d (.v (.string s))
      ·obtain⟨s,hs⟩:=hs;have:JfP (sop sl p) = .fail:=by
        unfold JfP;split
        ·rename_i h;rw[h] at hs;exact absurd hs (by simp[γX,dat,den,V.dat])
        ·rename_i h;rw[h] at hs;exact absurd hs (by simp[γX,dat,den,V.dat])
        ·rename_i h;rw[h] at hs;exact absurd hs (by simp[γX])
        ·rfl
       rw[this];trivial
      ·split
       ·rename_i s h;exact absurd ⟨_,h⟩ hs
       ·rw[he];exact key
     ·trivial
    ·trivial
   | append =>
    simp only[QI];split
    ·rename_i p q t t' hp ht;rw[hp,ht];simp only;split
     ·rename_i htt;exact JkE _ t _ _
     ·exact JhT t _ _ _
    ·trivial
   | cap =>
    simp only[QI];split
    ·rename_i p t hp ht;rw[hp,ht];simp only;split
     ·rename_i hn;split
      ·rename_i e he;have hv:sop sl p = .d (.vc (.slice none 0 0)):=by
        revert hn
        unfold JkJ;split
        ·rename_i h;intro _;exact h
        ·intro h;cases h
       rw[hv,he];rfl
      ·trivial
     ·trivial
    ·trivial
   | _=>trivial
  | value f =>
   simp only[QI,Jk1];split
   ·rename_i fn cs h;rw[h];simp only[γX];rw[Jx,←List.map_append];exact JmV hB o fn _
   ·rename_i n h;rw[h];exact JoJ hB o n _ _
   ·trivial
  | invoke _ _=>trivial
 | _=>trivial
end
end Go.Tm
end
section
namespace Go.Tm
open Go.IntKind (i64)
structure SSt where
 sl:SSl
 m:X9
inductive Wt where
 | yes | no | fork (d:Tmp) (b:E) (want:Bool) | bad
def Jrj:Option SV→Option E
 | some (.d (.vb b))=>some b
 | _=>none
def Jj7:Option SV→Bool
 | some (.t [])=>true
 | _=>false
def ZD (ops : Array Oper) (sl : SSl) (o : Oper) : Wt := match o.guard with
  | none=> .yes
  | some (j,want)=>match (ops[j]?).bind (·.dst) with
    | some d=>match Jrj (sl.lookup d) with
      | some b=>match b.known with
        | some t=>if t == want then .yes else .no
        | none=> .fork d b want
      | none=>if Jj7 (sl.lookup d) then .no else .bad
    | none=> .bad
def JiA (sl:SSl) (dst:Option Tmp) (v:SV):SSl:=match dst with
 | some d=>(d,v)::sl
 | none=>sl
def JaC:List I→R→R
 | [],r=>r
 | i::is,r=> .i i (JaC is r)
def Ub (t:Bool):E:=if t then .tt else .ff
abbrev Trs:=List (List (Key×Bool))
def Kc (P : Program) (sg : FuncId → Option Sig) (dp bo : Oper → Bool) (ops : Array Oper) : List Nat → SSl → X9 → Nat → Trs → (SSl → X9 → Nat → Trs → Option R) → Option R
  | [],sl,m,n,trs,k=>k sl m n trs.reverse
  | i::l,sl,m,n,trs,k=>match ops[i]? with
    | none=>none
    | some o =>
      let go:=fun(sl:SSl) (b:Bool)=>if b then match (JhU P sg (dp o) (bo o) o sl).run m n with
          | some r=>match Kc P sg dp bo ops l (JiA sl o.dst r.val) r.m r.n (r.tr::trs) k with
            | some R=>some (JaC r.is R)
            | none=>none
          | none=>none
        else Kc P sg dp bo ops l (JiA sl o.dst (.t [])) m n ([]::trs) k
      match ZD ops sl o with
      | .yes=>go sl true
      | .no=>go sl false
      | .fork d b want=>match go ((d,.d (.vb .tt))::sl) want,go ((d,.d (.vb .ff))::sl) (!want) with
        | some x,some y=>some (.ite b x y)
        | _,_=>none
      | .bad=>none
section
variable {B:Tb} {ρ:Env} {sg:FuncId→Option Sig} {P:Program} {G:Qd} {ops:Array Oper} {N:Nat}
theorem Vg :∀(is:List I) (r:R) (o:Oc),Run B N (JaC is r) ρ o→(∀i∈is,i.holds B ρ)∧Run B N r ρ o
 | [],r,o,h=>⟨fun i hi=>by simp at hi,h⟩
 | i::is,r,o,h=>by
  obtain⟨h1,h2⟩:=h;obtain⟨h3,h4⟩:=Vg is r o h2;exact⟨fun j hj=>by
   rcases Jus.1 hj with rfl | hj
   ·exact h1
   ·exact h3 j hj,h4⟩
theorem JlM (sl:SSl) (dst:Option Tmp) (v:SV):Vs (γs ρ sl) dst (γX ρ v)=γs ρ (JiA sl dst v):=by
 cases dst with
 | none=>rfl
 | some d=>exact(JcF ρ sl d v).symm
theorem JfL {sl:SSl} {d:Tmp} {v:SV} (h:sl.lookup d=some v):γs ρ sl d=γX ρ v:=by unfold γs;rw[h]
theorem JlE {sl:SSl} {d:Tmp} {b:E} {t:Bool} (h:sl.lookup d=some (.d (.vb b))) (ht:bol ρ b=t):γs ρ ((d,.d (.vb (Ub t)))::sl)=γs ρ sl:=by
 rw[JcF]
 funext j
 unfold upd;split
 ·rename_i hj;subst hj;rw[JfL h];show X.d (.v (.bool (bol ρ (Ub t))))=X.d (.v (.bool (bol ρ b)));rw[ht];cases t <;> rfl
 ·rfl
theorem JgA {sl:SSl} {d:Tmp} {b:E} (h:Jrj (sl.lookup d)=some b):γs ρ sl d=X.d (.v (.bool (bol ρ b)))∧sl.lookup d=some (.d (.vb b)):=by
 unfold Jrj at h;split at h
 ·rename_i b' hl;simp only[Jt8] at h;subst h;exact⟨by rw[JfL hl];rfl,hl⟩
 ·cases h
theorem JiP {sl:SSl} {o:Oper} (h:ZD ops sl o = .yes):QZ ops (γs ρ sl) o=some true:=by
 unfold ZD at h;unfold QZ;split at h
 ·rename_i hg;rw[hg]
 ·rename_i j want hg;rw[hg];simp only;split at h
  ·rename_i d hd;rw[hd];simp only;split at h
   ·rename_i b hb;rw[(JgA (ρ:=ρ) hb).1];split at h
    ·rename_i t ht;split at h
     ·rename_i hw;rw[Z8 ht];simpa using hw
     ·cases h
    ·cases h
   ·split at h <;> cases h
  ·cases h
theorem Jmm {sl:SSl} {d:Tmp} (h:Jj7 (sl.lookup d)=true):γs ρ sl d=X.t []:=by
 unfold Jj7 at h;split at h
 ·rename_i hl;rw[JfL hl];rfl
 ·cases h
theorem Jkd {sl:SSl} {o:Oper} (h:ZD ops sl o = .no):QZ ops (γs ρ sl) o=some false:=by
 unfold ZD at h;unfold QZ;split at h
 ·cases h
 ·rename_i j want hg;rw[hg];simp only;split at h
  ·rename_i d hd;rw[hd];simp only;split at h
   ·rename_i b hb;rw[(JgA (ρ:=ρ) hb).1];split at h
    ·rename_i t ht;split at h
     ·cases h
     ·rename_i hw;rw[Z8 ht];simpa using hw
    ·cases h
   ·split at h
    ·rename_i h0;rw[Jmm (ρ:=ρ) h0]
    ·cases h
  ·cases h
theorem Jgv {sl:SSl} {o:Oper} {d:Tmp} {b:E} {want:Bool} (h:ZD ops sl o = .fork d b want):sl.lookup d=some (.d (.vb b))∧QZ ops (γs ρ sl) o=some (bol ρ b == want):=by
 unfold ZD at h;unfold QZ;split at h
 ·cases h
 ·rename_i j want' hg;rw[hg];simp only;split at h
  ·rename_i d' hd;rw[hd];simp only;split at h
   ·rename_i b' hb;obtain⟨h1,h2⟩:=JgA (ρ:=ρ) hb;rw[h1];split at h
    ·split at h <;> cases h
    ·cases h;exact⟨h2,rfl⟩
   ·split at h <;> cases h
  ·cases h
theorem Jaw (hB:BOk sg B) :∀(l:List Nat) (sl:SSl) (m:X9) (n:Nat) (trs:Trs) (k:SSl→X9→Nat→Trs→Option R) (R:R) (o:Oc),Kc P sg G.dp G.bo ops l sl m n trs k=some R→Run B N R ρ o →
  ∃ sl' m' n' tl R',Yd P (X7 sg B) G ops l ⟨γs ρ sl,γm ρ m⟩=some (⟨γs ρ sl',γm ρ m'⟩,tl)∧k sl' m' n' (trs.reverse++tl)=some R'∧Run B N R' ρ o
 | [],sl,m,n,trs,k,R,o,h,hr=>⟨sl,m,n,[],R,rfl,by simpa[Kc] using h,hr⟩
 | i::l,sl,m,n,trs,k,R,o,h,hr=>by
  have ih:=Jaw hB l;simp only[Kc] at h;cases hi:ops[i]? with
  | none=>simp[hi] at h
  | some op =>
   simp only[hi] at h;have yes :∀(sl:SSl) (R:Go.Tm.R),(match (JhU P sg (G.dp op) (G.bo op) op sl).run m n with
     | some r=>match Kc P sg G.dp G.bo ops l (JiA sl op.dst r.val) r.m r.n (r.tr::trs) k with
      | some R=>some (JaC r.is R)
      | none=>none
     | none=>none)=some R→Run B N R ρ o→QZ ops (γs ρ sl) op=some true →
     ∃ sl' m' n' tl R',Yd P (X7 sg B) G ops (i::l) ⟨γs ρ sl,γm ρ m⟩=some (⟨γs ρ sl',γm ρ m'⟩,tl)∧k sl' m' n' (trs.reverse++tl)=some R'∧Run B N R' ρ o:=by
    intro sl R h hr hw;split at h
    ·rename_i r hrun;split at h
     ·rename_i R1 h1;simp only[Jt8] at h;subst h;obtain⟨his,hr⟩:=Vg _ _ _ hr;have hT:=SMP.run_ok _ _ _ _ _ (Jp3 (G:=G) (P:=P) hB op sl) hrun his;obtain⟨sl',m',n',tl,R',e1,e2,e3⟩:=ih _ _ _ _ k R1 o h1 hr;refine⟨sl',m',n',r.tr::tl,R',?_,by simpa using e2,e3⟩;simp only[Yd,hi,evM,hw,hT,JlM,e1]
     ·cases h
    ·cases h
   have no :∀(sl:SSl) (R:Go.Tm.R),Kc P sg G.dp G.bo ops l (JiA sl op.dst (.t [])) m n ([]::trs) k=some R→Run B N R ρ o→QZ ops (γs ρ sl) op=some false →
     ∃ sl' m' n' tl R',Yd P (X7 sg B) G ops (i::l) ⟨γs ρ sl,γm ρ m⟩=some (⟨γs ρ sl',γm ρ m'⟩,tl)∧k sl' m' n' (trs.reverse++tl)=some R'∧Run B N R' ρ o:=by
    intro sl R h hr hw;obtain⟨sl',m',n',tl,R',e1,e2,e3⟩:=ih _ _ _ _ k R o h hr;refine⟨sl',m',n',[]::tl,R',?_,by simpa using e2,e3⟩;have e0:Vs (γs ρ sl) op.dst (.t [])=γs ρ (JiA sl op.dst (.t [])):=JlM sl op.dst (.t []);simp only[Yd,hi,evM,hw,MP.runT,e0,e1]
   cases hsw:ZD ops sl op with
   | yes =>
    simp only[hsw,if_true] at h;exact yes sl R h hr (JiP hsw)
   | no =>
    simp only[hsw,Jup,if_false] at h;exact no sl R h hr (Jkd hsw)
   | bad=>simp[hsw] at h
   | fork d b want =>
    simp only[hsw] at h;obtain⟨hd,hw⟩:=Jgv (ρ:=ρ) hsw;split at h
    ·rename_i x y hx hy;simp only[Jt8] at h;subst h;have part :∀(t:Bool) (w:Bool) (z:Go.Tm.R),bol ρ b=t→(t == want)=w→(if w=true then(match (JhU P sg (G.dp op) (G.bo op) op ((d,.d (.vb (Ub t)))::sl)).run m n with
        | some r=>match Kc P sg G.dp G.bo ops l (JiA ((d,.d (.vb (Ub t)))::sl) op.dst r.val) r.m r.n (r.tr::trs) k with
         | some R=>some (JaC r.is R)
         | none=>none
        | none=>none) else Kc P sg G.dp G.bo ops l (JiA ((d,.d (.vb (Ub t)))::sl) op.dst (.t [])) m n ([]::trs) k)=some z→Run B N z ρ o →
       ∃ sl' m' n' tl R',Yd P (X7 sg B) G ops (i::l) ⟨γs ρ sl,γm ρ m⟩=some (⟨γs ρ sl',γm ρ m'⟩,tl)∧k sl' m' n' (trs.reverse++tl)=some R'∧Run B N R' ρ o:=by
      intro t w z ht hwt hz hrz;have hk:=JlE hd ht;rw[←hk];rw[←hk,ht] at hw;cases w with
      | true=>simp only[if_true] at hz;exact yes _ z hz hrz (by rw[hw,hwt])
      | false=>simp only[Jup,if_false] at hz;exact no _ z hz hrz (by rw[hw,hwt])
     simp only[Run] at hr;cases hb:bol ρ b with
     | true =>
      rw[hb] at hr;exact part true want x hb (by cases want <;> rfl) hx hr
     | false =>
      rw[hb] at hr;simp only[Jup,if_false] at hr;exact part false (!want) y hb (by cases want <;> rfl) hy hr
    ·cases h
theorem Uo {T:Tab} :∀(l:List Nat) (st st':St) (tl:Trs),Yd P T G ops l st=some (st',tl)→VJ P T G ops l st=some st'
 | [],st,st',tl,h=>by
  simp only[Yd,Jt8,Juq] at h;simp only[VJ,h.1]
 | i::l,st,st',tl,h=>by
  simp only[Yd] at h;split at h
  ·cases h
  ·rename_i o ho;split at h
   ·cases h
   ·rename_i p hp;split at h
    ·cases h
    ·rename_i x m1 t1 hr;split at h
     ·cases h
     ·rename_i st2 ts h2;simp only[Jt8,Juq] at h;obtain⟨rfl,rfl⟩:=h;rw[MP.runT_eq] at hr;cases hrun:p.run st.m with
      | none=>simp[hrun] at hr
      | some q =>
       obtain⟨x',m'⟩:=q;simp only[hrun,Jub,Jt8,Juq] at hr;obtain⟨rfl,rfl,_⟩:=hr;have:=(JaM ho hp hrun).1;simp only[VJ,this];exact Uo l _ _ _ h2
end
end Go.Tm
end
section
namespace Go.Tm
open Go.IntKind (i64)
section
variable {P:Program} {c:Cx P} {g:Gh} {m mk:Mem} {w:World} {a:Act} {ρ ρ':Env}
def Jmb (m mk:Mem) (k:Key):Prop:=mk k=m k∨∃ cs cs',m k=some (.box cs)∧mk k=some (.box cs')
mutual
theorem JlL (hM :∀b,Mut g mk b→Mut g m b) :∀(x:X) (v:Value),(∀k∈x.names,Jmb m mk k)→VX c g m w x v→VX c g mk w x v
 | .d x,v,_,⟨fp,h1,h2⟩=>⟨fp,h1,fun b hb=>⟨fun h=>(h2 b hb).1 (hM b h),(h2 b hb).2⟩⟩
 | .g cs,v,hn,⟨vs,e,h,h1⟩=>⟨vs,e,Uf hM cs vs (fun k hk=>hn k (by simpa[X.names] using hk)) h,h1⟩
 | .t cs,v,hn,⟨vs,e,h⟩=>⟨vs,e,Uf hM cs vs (fun k hk=>hn k (by simpa[X.names] using hk)) h⟩
 | .f fn cs,v,hn,⟨vs,e,h⟩=>⟨vs,e,Uf hM cs vs (fun k hk=>hn k (by simpa[X.names] using hk)) h⟩
 | .o k n,v,hn,⟨h1,⟨o,ho,hb⟩,h2⟩=>by
  have e:mk k=m k:=by
   rcases hn k (by simp[X.names]) with e | ⟨cs,cs',h,_⟩
   ·exact e
   ·rw[ho] at h;cases h;exact absurd rfl (hb cs)
  exact⟨h1,⟨o,by rw[e];exact ho,hb⟩,fun ty sz es dp rw h=>h2 ty sz es dp rw (by rw[←e];exact h)⟩
 | .p k off,v,hn,⟨cs,b,h1,h2,h3⟩=>by
  rcases hn k (by simp[X.names]) with e | ⟨cs1,cs2,_,h⟩
  ·exact⟨cs,b,by rw[e];exact h1,h2,h3⟩
  ·exact⟨cs2,b,h,h2,h3⟩
 | .e k n i off,v,hn,⟨h1,⟨o,ho,hb⟩,h2⟩=>by
  have e:mk k=m k:=by
   rcases hn k (by simp[X.names]) with e | ⟨cs,cs',h,_⟩
   ·exact e
   ·rw[ho] at h;cases h;exact absurd rfl (hb cs)
  exact⟨h1,⟨o,by rw[e];exact ho,hb⟩,fun ty sz es dp rw h=>h2 ty sz es dp rw (by rw[←e];exact h)⟩
 | .u,_,_,_=>trivial
theorem Uf (hM :∀b,Mut g mk b→Mut g m b) :∀(xs:List X) (vs:List Value),(∀k∈Qn xs,Jmb m mk k)→VXs c g m w xs vs→VXs c g mk w xs vs
 | [],_,_,h=>h
 | x::xs,vs,hn,⟨v,vs',e,h1,h2⟩=>⟨v,vs',e,JlL hM x v (fun k hk=>hn k (by simp[Qn,hk])) h1,Uf hM xs vs' (fun k hk=>hn k (by simp[Qn,hk])) h2⟩
end
def Us:SV→SV→SV
 | .d (.vc _),v=>v
 | .d _,.d e=> .d e.norm
 | .g ps,.g vs=> .g (go ps vs)
 | .t ps,.t vs=> .t (go ps vs)
 | _,v=>v
where
 go:List SV→List SV→List SV
 | p::ps,v::vs=>Us p v::go ps vs
 | _,vs=>vs
theorem E_norm_dat (ρ:Env) (e:E):dat ρ e.norm=dat ρ e∨dat ρ e.norm=(dat ρ e).norm:=by
 unfold E.norm;split
 ·exact .inr rfl
 ·exact .inl rfl
mutual
theorem JfN :∀(p v:SV) (u:Value),VX c g m w (γX ρ v) u→VX c g m w (γX ρ (Us p v)) u
 | .d p,v,u,h=>by
  cases p with
  | vc _=>exact h
  | _ =>
   cases v with
   | d e =>
    rcases E_norm_dat ρ e with h1 | h1
    ·simp only[Us,γX,h1];exact h
    ·simp only[Us,γX,h1];exact Jk9 (.d _) u h
   | _=>exact h
 | .g ps,v,u,h=>by
  cases v with
  | g vs =>
   obtain⟨us,e,h1,h2⟩:=h;exact⟨us,e,Uj ps vs us h1,h2⟩
  | _=>exact h
 | .o _ _,v,u,h=>h
 | .p _ _,v,u,h=>h
 | .e _ _ _ _,v,u,h=>h
 | .f _ _,v,u,h=>h
 | .t ps,v,u,h=>by
  cases v with
  | t vs =>
   obtain⟨us,e,h2⟩:=h;exact⟨us,e,Uj ps vs us h2⟩
  | _=>exact h
 | .u,v,u,h=>h
theorem Uj :∀(ps vs:List SV) (us:List Value),VXs c g m w (γXs ρ vs) us→VXs c g m w (γXs ρ (Us.go ps vs)) us
 | [],vs,us,h=>h
 | _::_,[],us,h=>h
 | p::ps,v::vs,us,⟨u,us',e,h1,h2⟩=>⟨u,us',e,JfN p v u h1,Uj ps vs us' h2⟩
end
def JbU:Jj→Jj→Jj
 | .box ps,.box vs=> .box (Us.go ps vs)
 | _,o=>o
def JcL:SSl→SSl→Option (List (E×E))
 | [],_=>some []
 | (t,p)::ts,sl=>match sl.lookup t with
  | some v=>match mv p (Us p v) with
   | some l=>match JcL ts sl with
    | some l'=>some (l++l')
    | none=>none
   | none=>none
  | none=>none
def Jgn:X9→X9→Option (List (E×E))
 | [],_=>some []
 | (k,p)::ts,m=>match m.lookup k with
  | some o=>match mo p (JbU p o) with
   | some l=>match Jgn ts m with
    | some l'=>some (l++l')
    | none=>none
   | none=>none
  | none=>none
def Vw (m:X9) (k:Key):Bool:=(m.lookup k).isSome
def Jen (cn cnt:Nat) (t s:SSt) (nl:Nat):Option (List E):=match JcL t.sl s.sl,Jgn t.m s.m with
 | some p,some q=>match JkC cn (p++q) with
  | some bs=>if Jbj bs&&bs.all (fun b=>Nat.blt b.1 (cn+cnt))&&(t.sl.flatMap (fun x=>x.2.names)++t.m.flatMap fun x=>x.2.names).all (Vw t.m)&&(List.range nl).all (Vw t.m)
   then(List.range cnt).mapM fun i=>bs.lookup (cn+i) else none
  | none=>none
 | _,_=>none
def SSt.fresh (s:SSt):SSt:=⟨s.sl.map fun p=>(p.1,UX (holds? s.m) p.2),s.m.map fun p=>(p.1,JgQ (holds? s.m) p.2)⟩
def JcK (cn cnt:Nat) (t s:SSt) (nl:Nat):Option (List E):=Jen cn cnt t s.fresh nl
theorem Y0 {α:Type} (f:α→α) :∀(l:List (Nat×α)) (k:Nat),(l.map fun p=>(p.1,f p.2)).lookup k=(l.lookup k).map f
 | [],k=>rfl
 | (j,x)::l,k=>by
  simp only[Juh,List.lookup_cons]
  by_cases h:k=j
  ·subst h;simp
  ·have hb:(k == j)=false:=by simpa using h
   simp only[hb,Y0 f l k]
theorem JhO (ρ:Env) (s:SSt):γs ρ s.fresh.sl=γs ρ s.sl∧γm ρ s.fresh.m=γm ρ s.m:=by
 refine⟨?_,?_⟩
 ·funext t
  unfold γs SSt.fresh;simp only[Y0];cases s.sl.lookup t with
  | none=>rfl
  | some v=>exact Jff ρ _ v
 ·funext k
  unfold γm SSt.fresh;simp only[Y0,Option.map_map];cases s.m.lookup k with
  | none=>rfl
  | some o=>simp only[Jub,Function.comp,JfR]
theorem Jet :∀(t sl:SSl) (l:List (E×E)),JcL t sl=some l→∀x∈t,∃ v l',sl.lookup x.1=some v∧mv x.2 (Us x.2 v)=some l'∧∀q∈l',q∈l
 | [],sl,l,h,x,hx=>by simp at hx
 | (t,p)::ts,sl,l,h,x,hx=>by
  simp only[JcL] at h;split at h
  ·rename_i v hv;split at h
   ·rename_i l1 h1;split at h
    ·rename_i l2 h2;simp only[Jt8] at h;subst h;rcases Jus.1 hx with rfl | hx
     ·exact⟨v,l1,hv,h1,fun q hq=>by simp[hq]⟩
     ·obtain⟨v',l',e1,e2,e3⟩:=Jet ts sl l2 h2 x hx;exact⟨v',l',e1,e2,fun q hq=>by simp[e3 q hq]⟩
    ·cases h
   ·cases h
  ·cases h
theorem Jfa :∀(t m:X9) (l:List (E×E)),Jgn t m=some l→∀x∈t,∃ v l',m.lookup x.1=some v∧mo x.2 (JbU x.2 v)=some l'∧∀q∈l',q∈l
 | [],sl,l,h,x,hx=>by simp at hx
 | (t,p)::ts,sl,l,h,x,hx=>by
  simp only[Jgn] at h;split at h
  ·rename_i v hv;split at h
   ·rename_i l1 h1;split at h
    ·rename_i l2 h2;simp only[Jt8] at h;subst h;rcases Jus.1 hx with rfl | hx
     ·exact⟨v,l1,hv,h1,fun q hq=>by simp[hq]⟩
     ·obtain⟨v',l',e1,e2,e3⟩:=Jfa ts sl l2 h2 x hx;exact⟨v',l',e1,e2,fun q hq=>by simp[e3 q hq]⟩
    ·cases h
   ·cases h
  ·cases h
theorem Yq {α:Type} :∀(l:List (Nat×α)) (k:Nat) (v:α),l.lookup k=some v→(k,v)∈l
 | [],k,v,h=>by simp at h
 | (j,x)::l,k,v,h=>by
  simp only[List.lookup_cons] at h
  by_cases hk:k=j
  ·subst hk;simp at h;subst h;simp
  ·have hb:(k == j)=false:=by simpa using hk
   rw[hb] at h;simp[Yq l k v h]
theorem JkR {α:Type} {f:Nat→Option α} :∀(n a:Nat) (l:List α),(List.range' a n).mapM f=some l→∀i,i<n→∃ x,f (a+i)=some x∧l[i]? = some x
 | 0,a,l,h,i,hi=>by omega
 | n+1,a,l,h,i,hi=>by
  rw[List.range'_succ,List.mapM_cons] at h;cases hf:f a with
  | none=>simp[hf] at h
  | some x =>
   cases hr:(List.range' (a+1) n).mapM f with
   | none=>simp[hf,hr] at h
   | some l' =>
    simp[hf,hr] at h;subst h;cases i with
    | zero=>exact⟨x,hf,rfl⟩
    | succ i =>
     obtain⟨y,h1,h2⟩:=JkR n (a+1) l' hr i (by omega);exact⟨y,by rw[←h1];congr 1;omega,by simpa using h2⟩
theorem Jd8 {p o:Jj}:(∃ cs cs',γO ρ o = .box cs∧γO ρ (JbU p o) = .box cs'∧∀us,VXs c g m w cs us→VXs c g m w cs' us)∨(γO ρ (JbU p o)=γO ρ o∧∀cs,γO ρ o≠ .box cs):=by
 cases o with
 | box vs =>
  cases p with
  | box ps=>exact .inl ⟨_,_,rfl,rfl,fun us h=>Uj ps vs us h⟩
  | _=>exact .inl ⟨_,_,rfl,rfl,fun us h=>h⟩
 | arr ty sz l dp rw=>exact .inr ⟨by cases p <;> rfl,fun cs=>by simp[γO]⟩
 | dead=>exact .inr ⟨by cases p <;> rfl,fun cs=>by simp[γO]⟩
theorem Jjk {cn cnt:Nat} {t s:SSt} {nl:Nat} {vs:List E} (h:Jen cn cnt t s nl=some vs) (ha:Jy cn ρ ρ') (hset:Jcn cn (vs.map (den ρ)) ρ')
  {g0:Gh} {m0:Mem} {w0:World} (hl :∀k,m0 k≠none→k<nl) (hS:Sim c g (γm ρ s.m) w) (hH:Jw c g (γm ρ s.m) w (γs ρ s.sl) a) (hC:Jf c g0 m0 w0 g (γm ρ s.m) w) :
  Sim c g (γm ρ' t.m) w∧Jw c g (γm ρ' t.m) w (γs ρ' t.sl) a∧Jf c g0 m0 w0 g (γm ρ' t.m) w:=by
 unfold Jen at h;split at h
 ·rename_i p q hp hq;split at h
  ·rename_i bs hbs;split at h
   ·rename_i hc;simp only[Jt9] at hc;obtain⟨⟨⟨hcon,hlt⟩,hclo⟩,hlent⟩:=hc;rw[List.range_eq_range'] at h;have hat:=JkR cnt 0 vs h;have hρ :∀b∈bs,cn≤b.1→ρ' b.1=den ρ b.2:=by
     intro b hb hcb;have h1:=Jum.1 hlt b hb;have h1:b.1<cn+cnt:=Nat.lt_of_succ_le (Nat.le_of_ble_eq_true h1);obtain⟨x,e1,e2⟩:=hat (b.1-cn) (by omega);have e1:bs.lookup b.1=some x:=by rw[←e1];congr 1;omega
     have h2:=hset (b.1-cn) (den ρ x) (by rw[Juu,e2];rfl);rw[show cn+(b.1-cn)=b.1 by omega] at h2;have h3:=Jum.1 hcon b hb;rw[e1] at h3;rw[h2];exact VR _ _ h3 ρ
    have hpair :∀z∈p++q,dat ρ' z.1=dat ρ z.2:=by
     intro z hz;obtain⟨r,h1,h2⟩:=JcY _ _ hbs z hz;refine Jof h1 ha fun j x hr=>?_;subst hr;exact hρ (j,x) (h2 _ rfl) (Joy h1)
    have hobj :∀k po,t.m.lookup k=some po→∃ o,s.m.lookup k=some o∧γO ρ' po=γO ρ (JbU po o):=by
     intro k po hk;obtain⟨o,l',e1,e2,e3⟩:=Jfa _ _ _ hq (k,po) (Yq _ _ _ hk);exact⟨o,e1,Jqj e2 fun z hz=>hpair z (by simp[e3 z hz])⟩
    have hmk :∀k o',γm ρ' t.m k=some o'→∃ po o,t.m.lookup k=some po∧s.m.lookup k=some o∧o'=γO ρ (JbU po o):=by
     intro k o' hk;unfold γm at hk;cases hl':t.m.lookup k with
     | none=>rw[hl'] at hk;cases hk
     | some po =>
      rw[hl'] at hk;simp only[Jub,Jt8] at hk;obtain⟨o,e1,e2⟩:=hobj k po hl';exact⟨po,o,rfl,e1,by rw[←hk,e2]⟩
    have hrw :∀po o:Jj,(γO ρ (JbU po o)).rw=(γO ρ o).rw:=by
     intro po o;cases o with
     | box vs=>cases po <;> rfl
     | _=>cases po <;> rfl
    have hM :∀b,Mut g (γm ρ' t.m) b→Mut g (γm ρ s.m) b:=by
     rintro b ⟨k,o',hk,hr,hb⟩;obtain⟨po,o,_,e2,rfl⟩:=hmk k o' hk;refine⟨k,γO ρ o,QQ e2,by rw[←hrw po];exact hr,?_⟩;have hdp:(γO ρ (JbU po o)).dpw=(γO ρ o).dpw:=by
      cases o with
      | box vs=>cases po <;> rfl
      | _=>cases po <;> rfl
     unfold Blk at hb ⊢;rw[hdp] at hb;exact hb
    have hlike :∀k,Vw t.m k=true→Jmb (γm ρ s.m) (γm ρ' t.m) k:=by
     intro k hk;obtain⟨po,hpo⟩:=Option.isSome_iff_exists.1 hk;obtain⟨o,e1,e2⟩:=hobj k po hpo;rw[Jmb,QQ e1,QQ hpo,e2];rcases Jd8 (c:=c) (g:=g) (m:=γm ρ s.m) (w:=w) (ρ:=ρ) (p:=po) (o:=o) with ⟨cs,cs',h1,h2,_⟩ | ⟨h1,_⟩
     ·exact .inr ⟨cs,cs',by rw[h1],by rw[h2]⟩
     ·exact .inl (by rw[h1])
    have hnames :∀x∈t.sl,∀k∈x.2.names,Vw t.m k=true:=by
     intro x hx k hk;exact Jum.1 hclo k (List.mem_append_left _ (List.mem_flatMap.2 ⟨x,hx,hk⟩))
    have hmnames :∀x∈t.m,∀k∈x.2.names,Vw t.m k=true:=by
     intro x hx k hk;exact Jum.1 hclo k (List.mem_append_right _ (List.mem_flatMap.2 ⟨x,hx,hk⟩))
    refine⟨Sim.restrict hS fun k o' hk=>?_,fun tt=>?_,⟨hC.size,fun b h1 h2 h3=>⟨(hC.pure b h1 h2 h3).1,fun hm=>(hC.pure b h1 h2 h3).2 (hM b hm)⟩,fun k cs hk=>?_,fun k ty sz es dp rw hk=>?_,fun k hk=>?_⟩⟩
    ·obtain⟨po,o,e1,e2,rfl⟩:=hmk k o' hk;refine⟨⟨_,QQ e2,(hrw po o).symm⟩,fun cs hcs=>?_,fun ty sz es dp rw he=>?_⟩
     ·rcases Jd8 (c:=c) (g:=g) (m:=γm ρ s.m) (w:=w) (ρ:=ρ) (p:=po) (o:=o) with ⟨cs1,cs2,h1,h2,h3⟩ | ⟨h1,h2⟩
      ·rw[h2] at hcs;cases hcs;obtain⟨b,us,ty,a1,a2,a3,a4⟩:=hS.box k cs1 (by rw[QQ e2,h1]);refine⟨b,us,ty,a1,a2,Uf hM _ _ (fun j hj=>hlike j ?_) (h3 us a3),a4⟩;have hx:(γO ρ' po).names=po.names:=Je8 ρ' po;have hn:po.names=Qn cs:=by
        have hob:γO ρ' po = .box cs:=by
         have:=hk;rw[QQ e1,h2] at this;exact Option.some.inj this
        rw[←hx,hob];rfl
       exact hmnames (k,po) (Yq _ _ _ e1) j (by rw[hn];exact hj)
      ·rw[h1] at hcs;exact absurd hcs (h2 cs)
     ·rcases Jd8 (c:=c) (g:=g) (m:=γm ρ s.m) (w:=w) (ρ:=ρ) (p:=po) (o:=o) with ⟨cs1,cs2,h1,h2,h3⟩ | ⟨h1,h2⟩
      ·rw[h2] at he;cases he
      ·rw[QQ e2,h1]
    ·unfold γs;cases hlk:t.sl.lookup tt with
     | none=>trivial
     | some pv =>
      simp only;obtain⟨v,l',e1,e2,e3⟩:=Jet _ _ _ hp (tt,pv) (Yq _ _ _ hlk);have hv:=hH tt;rw[JfL e1] at hv;have e4:γX ρ' pv=γX ρ (Us pv v):=Jqp _ _ _ e2 fun z hz=>hpair z (by simp[e3 z hz]);rw[e4];refine JlL hM _ _ (fun k hk=>hlike k ?_) (JfN pv v _ hv);rw[←e4,KT] at hk;exact hnames (tt,pv) (Yq _ _ _ hlk) k hk
    ·have hkey:Vw t.m k=true:=Jum.1 hlent k (List.mem_range.2 (hl k (by rw[hk];simp)));obtain⟨⟨cs',h1⟩,h2⟩:=hC.box k cs hk;refine⟨?_,h2⟩;rcases hlike k hkey with e | ⟨a1,a2,_,e⟩
     ·exact⟨cs',by rw[e];exact h1⟩
     ·exact⟨a2,e⟩
    ·have hkey:Vw t.m k=true:=Jum.1 hlent k (List.mem_range.2 (hl k (by rw[hk];simp)));rcases hlike k hkey with e | ⟨a1,a2,e1,e⟩
     ·rw[e];exact hC.arr k ty sz es dp rw hk
     ·rcases hC.arr k ty sz es dp rw hk with h1 | ⟨_,_,_,h1,_⟩
      ·rw[e1] at h1;cases h1
      ·rw[e1] at h1;cases h1
    ·have hkey:Vw t.m k=true:=Jum.1 hlent k (List.mem_range.2 (hl k (by rw[hk];simp)));rcases hlike k hkey with e | ⟨a1,a2,e1,e⟩
     ·rw[e];exact hC.dead k hk
     ·have:=hC.dead k hk;rw[e1] at this;cases this
   ·cases h
  ·cases h
 ·cases h
theorem WA {cn cnt:Nat} {t s:SSt} {nl:Nat} {vs:List E} (h:JcK cn cnt t s nl=some vs) (ha:Jy cn ρ ρ') (hset:Jcn cn (vs.map (den ρ)) ρ')
  {g0:Gh} {m0:Mem} {w0:World} (hl :∀k,m0 k≠none→k<nl) (hS:Sim c g (γm ρ s.m) w) (hH:Jw c g (γm ρ s.m) w (γs ρ s.sl) a) (hC:Jf c g0 m0 w0 g (γm ρ s.m) w) :
  Sim c g (γm ρ' t.m) w∧Jw c g (γm ρ' t.m) w (γs ρ' t.sl) a∧Jf c g0 m0 w0 g (γm ρ' t.m) w:=by
 obtain⟨e1,e2⟩:=JhO ρ s;exact Jjk h ha hset hl (by rw[e2];exact hS) (by rw[e1,e2];exact hH) (by rw[e2];exact hC)
def X1 (keep:List Tmp) (sl:SSl):SSl:=keep.filterMap fun t=>match sl.lookup t with
 | some v=>some (t,v)
 | none=>none
theorem JoI (keep:List Tmp) (sl:SSl) (t:Tmp):(X1 keep sl).lookup t=none∨(X1 keep sl).lookup t=sl.lookup t:=by
 induction keep with
 | nil=>exact .inl rfl
 | cons s keep ih =>
  unfold X1 at ih ⊢;cases h:sl.lookup s with
  | none=>rw[List.filterMap_cons_none (by rw[h])];exact ih
  | some v =>
   rw[List.filterMap_cons_some (b:=(s,v)) (by rw[h])];simp only[List.lookup_cons]
   by_cases hts:t=s
   ·subst hts;right;simp[h]
   ·have hb:(t == s)=false:=by simpa using hts
    rw[hb];exact ih
theorem JdE (keep:List Tmp) {sl:SSl} (h:Jw c g m w (γs ρ sl) a):Jw c g m w (γs ρ (X1 keep sl)) a:=by
 intro t;have ht:=h t;unfold γs at ht ⊢;rcases JoI keep sl t with e | e
 ·rw[e];trivial
 ·rw[e];exact ht
inductive Loc where
 | slot (t:Tmp)
 | cell (k:Key) (off:Nat)
 | kill (k:Key)
 | frz (k:Key) (off:Nat)
structure JiE where
 at_:Loc
 key:Key
 ty:TypeId
 sz:Nat
 dp:Bool:=false
 mv:Bool:=false
def Je3 (o:JiE) (s:SSt):SSt:=if(s.m.lookup o.key).isSome then s else match o.at_ with
 | .slot t=>match s.sl.lookup t with
  | some (.d (.vc (.slice none 0 0)))=>⟨(t,.o o.key .nil)::s.sl,(o.key,.arr o.ty o.sz .nil o.dp true)::s.m⟩
  | some (.o j l)=>if o.mv then match s.m.lookup j with
   | some (.arr ty sz l' dp true)=>if l.lsame l' then ⟨(t,.o o.key l')::s.sl,(o.key,.arr ty sz l' dp true)::(j,.dead)::s.m⟩ else s
   | _=>s
   else s
  | _=>s
 | .cell k off=>match s.m.lookup k with
  | some (.box cs)=>match cs[off]? with
   | some (.d (.vc (.slice none 0 0)))=>⟨s.sl,(k,.box (cs.set off (.o o.key .nil)))::(o.key,.arr o.ty o.sz .nil o.dp true)::s.m⟩
   | some (.o j l)=>if o.mv then match s.m.lookup j with
    | some (.arr ty sz l' dp true)=>if l.lsame l' then ⟨s.sl,(k,.box (cs.set off (.o o.key l')))::(o.key,.arr ty sz l' dp true)::(j,.dead)::s.m⟩ else s
    | _=>s
    else s
   | _=>s
  | _=>s
 | .kill j=>match s.m.lookup j with
  | some (.arr ty sz l' dp true)=>⟨s.sl,(o.key,.arr ty sz l' dp true)::(j,.dead)::s.m⟩
  | _=>s
 | .frz k off=>match s.m.lookup k with
  | some (.box cs)=>match cs[off]? with
   | some (.o j l)=>match s.m.lookup j with
    | some (.arr ty sz l' _ _)=>if l.lsame l' then ⟨s.sl,(k,.box (cs.set off (.d (.s l'))))::(j,.arr ty sz l' false false)::s.m⟩ else s
    | _=>s
   | _=>s
  | _=>s
theorem Jnw {key j:Key} {ty:TypeId} {sz:Nat} {es:List D} {dp:Bool} (hS:Sim c g m w) (hk:m key=none) (hj:m j=some (.arr ty sz es dp true)) :
  ∃ g',Sim c g' (upd (upd m j (some .dead)) key (some (.arr ty sz es dp true))) w∧Jf c g m w g' (upd (upd m j (some .dead)) key (some (.arr ty sz es dp true))) w∧g'.hd key=g.hd j:=by
 have hjk:j≠key:=fun e=>by subst e;rw[hk] at hj;cases hj
 let g':Gh:={ bl:=upd g.bl key (g.bl j),hd:=upd g.hd key (g.hd j),fd:=upd g.fd key (g.fd j),ow:=fun b=>if g.ow b=some j then some key else g.ow b }
 have hget :∀k o,upd (upd m j (some .dead)) key (some (.arr ty sz es dp true)) k=some o→(k=key∧o = .arr ty sz es dp true)∨(k≠key∧k=j∧o = .dead)∨(k≠key∧k≠j∧m k=some o):=fun k o h=>by
  by_cases e:k=key
  ·subst e;rw[uS1] at h;cases h;exact .inl ⟨rfl,rfl⟩
  ·rw[uO1 _ _ e] at h
   by_cases e2:k=j
   ·subst e2;rw[uS1] at h;cases h;exact .inr (.inl ⟨e,rfl,rfl⟩)
   ·rw[uO1 _ _ e2] at h;exact .inr (.inr ⟨e,e2,h⟩)
 have hB :∀k o b,upd (upd m j (some .dead)) key (some (.arr ty sz es dp true)) k=some o→o.rw=true→Blk g' k o b→∃ k0,m k0=some o∧Blk g k0 o b∧((k=key∧k0=j)∨(k0=k∧k≠key∧k≠j)):=fun k o b h hrw hb=>by
  rcases hget k o h with ⟨rfl,rfl⟩ | ⟨_,_,rfl⟩ | ⟨h1,h2,h3⟩
  ·exact⟨j,hj,by unfold Blk at hb ⊢;simpa only[g',uS1] using hb,.inl ⟨rfl,rfl⟩⟩
  ·cases hrw
  ·exact⟨k,h3,by unfold Blk at hb ⊢;simpa only[g',uO1 _ _ h1] using hb,.inr ⟨rfl,h1,h2⟩⟩
 have hM :∀b,Mut g' (upd (upd m j (some .dead)) key (some (.arr ty sz es dp true))) b→Mut g m b:=by
  rintro b ⟨k,o,h,hrw,hb⟩;obtain⟨k0,h1,h2,_⟩:=hB k o b h hrw hb;exact⟨k0,o,h1,hrw,h2⟩
 have hok :∀fp,Qa c g m fp→Qa c g' (upd (upd m j (some .dead)) key (some (.arr ty sz es dp true))) fp:=fun fp hf b hb=>⟨fun hm=>(hf b hb).1 (hM b hm),(hf b hb).2⟩;have hC:Jf c g m w g' (upd (upd m j (some .dead)) key (some (.arr ty sz es dp true))) w:=by
  refine⟨Nat.le_refl _,fun b h1 _ _=>⟨rfl,fun h=>h1 (hM b h)⟩,fun k cs h=>?_,fun k ty' sz' es' dp' rw h=>?_,fun k h=>?_⟩
  ·have e:k≠key:=fun e=>by subst e;rw[hk] at h;cases h
   have e2:k≠j:=fun e=>by subst e;rw[hj] at h;cases h
   exact⟨⟨cs,by rw[uO1 _ _ e,uO1 _ _ e2];exact h⟩,uO1 _ _ e⟩
  ·have e:k≠key:=fun e=>by subst e;rw[hk] at h;cases h
   by_cases e2:k=j
   ·subst e2;exact .inl (by rw[uO1 _ _ e,uS1])
   ·exact .inr ⟨es',dp',rw,by rw[uO1 _ _ e,uO1 _ _ e2];exact h,.inl ⟨rfl,uO1 _ _ e,uO1 _ _ e⟩⟩
  ·have e:k≠key:=fun e=>by subst e;rw[hk] at h;cases h
   have e2:k≠j:=fun e=>by subst e;rw[hj] at h;cases h
   rw[uO1 _ _ e,uO1 _ _ e2];exact h
 refine⟨g',⟨hS.frame,fun k cs h=>?_,fun k ty' sz' es' dp' rw h=>?_,fun k ty' sz' es' h=>?_,fun k o b h hrw hb=>?_,fun b k h=>?_⟩,hC,uS1 _ _ _⟩
 ·rcases hget k _ h with ⟨_,e⟩ | ⟨_,_,e⟩ | ⟨h1,h2,h3⟩
  ·cases e
  ·cases e
  ·obtain⟨b,vs,ty,q1,q2,q3,q4⟩:=hS.box k cs h3;exact⟨b,vs,ty,(uO1 _ _ h1).trans q1,q2,QJ hC _ _ q3,q4⟩
 ·rcases hget k _ h with ⟨rfl,e⟩ | ⟨_,_,e⟩ | ⟨h1,h2,h3⟩
  ·cases e;obtain⟨q1,q2,q3⟩:=hS.arr j _ _ _ _ _ hj;have e1:g'.bl k=g.bl j:=uS1 _ _ _;have e2:g'.hd k=g.hd j:=uS1 _ _ _;have e3:g'.fd k=g.fd j:=uS1 _ _ _;refine⟨by unfold JaY at q1 ⊢;rw[e1,e2,e3];exact q1,fun hd=>by rw[e3];exact hok _ (q2 hd),(fun(h:true=false)=>by cases h)⟩
  ·cases e
  ·obtain⟨q1,q2,q3⟩:=hS.arr k _ _ _ _ _ h3;have e1:g'.bl k=g.bl k:=uO1 _ _ h1;have e2:g'.hd k=g.hd k:=uO1 _ _ h1;have e3:g'.fd k=g.fd k:=uO1 _ _ h1;refine⟨by unfold JaY at q1 ⊢;rw[e1,e2,e3];exact q1,fun hd=>by rw[e3];exact hok _ (q2 hd),fun hr b hb=>hok _ (q3 hr b (by rw[←e1];exact hb))⟩
 ·rcases hget k _ h with ⟨rfl,e⟩ | ⟨_,_,e⟩ | ⟨h1,h2,h3⟩
  ·cases e;have e1:g'.bl k=g.bl j:=uS1 _ _ _;have e3:g'.fd k=g.fd j:=uS1 _ _ _;rw[e1,e3];exact hS.deep j _ _ _ hj
  ·cases e
  ·have e1:g'.bl k=g.bl k:=uO1 _ _ h1;have e3:g'.fd k=g.fd k:=uO1 _ _ h1;rw[e1,e3];exact hS.deep k _ _ _ h3
 ·obtain⟨k0,h1,h2,h3⟩:=hB k o b h hrw hb;have ho:=hS.own k0 o b h1 hrw h2;show (if g.ow b=some j then some key else g.ow b)=some k;rw[ho];rcases h3 with ⟨rfl,rfl⟩ | ⟨rfl,_,h4⟩
  ·rw[if_pos rfl]
  ·rw[if_neg (fun e=>h4 (Option.some.inj e))]
 ·have h':(if g.ow b=some j then some key else g.ow b)=some k:=h;split at h'
  ·rename_i e;exact hS.live b j e
  ·exact hS.live b k h'
theorem JkW :∀(xs:List X) (vs:List Value) (i:Nat) (x:X) (v:Value),VXs c g m w xs vs→vs[i]? = some v→VX c g m w x v→VXs c g m w (xs.set i x) vs
 | [],vs,i,x,v,h,_,_=>h
 | y::xs,vs,0,x,v,⟨u,us,e,h1,h2⟩,hv,hx=>by
  subst e;simp at hv;subst hv;exact⟨u,us,rfl,hx,h2⟩
 | y::xs,vs,i+1,x,v,⟨u,us,e,h1,h2⟩,hv,hx=>by
  subst e;exact⟨u,us,rfl,h1,JkW xs us i x v h2 (by simpa using hv) hx⟩
theorem Jap :∀(xs:List X) (vs:List Value) (i:Nat) (x:X),VXs c g m w xs vs→xs[i]? = some x→∃ v,vs[i]? = some v∧VX c g m w x v
 | [],vs,i,x,h,hx=>by simp at hx
 | y::xs,vs,0,x,⟨u,us,e,h1,h2⟩,hx=>by
  subst e;simp at hx;subst hx;exact⟨u,rfl,h1⟩
 | y::xs,vs,i+1,x,⟨u,us,e,h1,h2⟩,hx=>by
  subst e;obtain⟨v,h3,h4⟩:=Jap xs us i x h2 (by simpa using hx);exact⟨v,by simpa using h3,h4⟩
theorem JkB {m1:Mem} {k:Key} {off:Nat} {cs:List X} {x:X} (h1:Sim c g m1 w) (hbox:m1 k=some (.box cs))
  (hx :∀b us ty,g.bl k=some b→w.heap[b]? = some (.cells us.toArray ty (0,0))→VXs c g m1 w cs us→∃ u,us[off]? = some u∧VX c g m1 w x u) :
  Sim c g (upd m1 k (some (.box (cs.set off x)))) w∧(∀y v,VX c g m1 w y v→VX c g (upd m1 k (some (.box (cs.set off x)))) w y v)∧Jf c g m1 w g (upd m1 k (some (.box (cs.set off x)))) w:=by
 have hlike :∀j,Jmb m1 (upd m1 k (some (.box (cs.set off x)))) j:=by
  intro j
  by_cases e:j=k
  ·subst e;exact .inr ⟨_,_,hbox,uS1 _ _ _⟩
  ·exact .inl (uO1 _ _ e)
 have hM :∀b,Mut g (upd m1 k (some (.box (cs.set off x)))) b→Mut g m1 b:=by
  rintro b ⟨j,ob,a1,a2,a3⟩
  by_cases e:j=k
  ·subst e;rw[uS1] at a1;cases a1;exact⟨j,_,hbox,rfl,.inl (a3.resolve_right fun h=>by cases h.1)⟩
  ·rw[uO1 _ _ e] at a1;exact⟨j,ob,a1,a2,a3⟩
 refine⟨Sim.restrict h1 fun j ob hj=>?_,fun y v h=>JlL hM _ _ (fun i _=>hlike i) h,⟨Nat.le_refl _,fun b q1 _ _=>⟨rfl,fun hm=>q1 (hM b hm)⟩,fun j cs' hj=>?_,fun j ty sz es dp rw hj=>?_,fun j hj=>?_⟩⟩
 ·by_cases e:j=k
  ·subst e;rw[uS1] at hj;simp only[Jt8] at hj;subst hj;refine⟨⟨_,hbox,rfl⟩,fun cs' hcs=>?_,fun _ _ _ _ _ he=>by cases he⟩;cases hcs;obtain⟨b,us,ty,a1,a2,a3,a4⟩:=h1.box j _ hbox;obtain⟨u,hu,hvu⟩:=hx b us ty a1 a2 a3;exact⟨b,us,ty,a1,a2,Uf hM _ _ (fun i _=>hlike i) (JkW _ _ _ _ _ a3 hu hvu),a4⟩
  ·rw[uO1 _ _ e] at hj;refine⟨⟨ob,hj,rfl⟩,fun cs' hcs=>?_,fun _ _ _ _ _ _=>hj⟩;subst hcs;obtain⟨b,us,ty,a1,a2,a3,a4⟩:=h1.box j _ hj;exact⟨b,us,ty,a1,a2,Uf hM _ _ (fun i _=>hlike i) a3,a4⟩
 ·refine⟨?_,rfl⟩;rcases hlike j with e | ⟨_,cs2,_,e⟩
  ·exact⟨cs',by rw[e];exact hj⟩
  ·exact⟨cs2,e⟩
 ·rcases hlike j with e | ⟨_,cs2,e1,e⟩
  ·rw[e];exact .inr ⟨_,_,_,hj,.inl ⟨rfl,rfl,rfl⟩⟩
  ·rw[e1] at hj;cases hj
 ·rcases hlike j with e | ⟨_,cs2,e1,e⟩
  ·rw[e];exact hj
  ·rw[e1] at hj;cases hj
theorem JnV (o:JiE) {s:SSt} {g0:Gh} {m0:Mem} {w0:World} (hS:Sim c g (γm ρ s.m) w) (hH:Jw c g (γm ρ s.m) w (γs ρ s.sl) a) (hC:Jf c g0 m0 w0 g (γm ρ s.m) w) :
  ∃ g',Sim c g' (γm ρ (Je3 o s).m) w∧Jw c g' (γm ρ (Je3 o s).m) w (γs ρ (Je3 o s).sl) a∧Jf c g0 m0 w0 g' (γm ρ (Je3 o s).m) w:=by
 have same : ∃ g',Sim c g' (γm ρ s.m) w∧Jw c g' (γm ρ s.m) w (γs ρ s.sl) a∧Jf c g0 m0 w0 g' (γm ρ s.m) w:=⟨g,hS,hH,hC⟩;have slot :∀(t:Tmp) (x:SV) (mm:X9) (g':Gh),Sim c g' (γm ρ mm) w→Jf c g (γm ρ s.m) w g' (γm ρ mm) w→VX c g' (γm ρ mm) w (γX ρ x) (a.tmps.getD t undef) →
   ∃ g',Sim c g' (γm ρ mm) w∧Jw c g' (γm ρ mm) w (γs ρ ((t,x)::s.sl)) a∧Jf c g0 m0 w0 g' (γm ρ mm) w:=fun t x mm g' h1 h2 h3=>by
  refine⟨g',h1,fun j=>?_,hC.trans h2⟩;rw[JcF];unfold upd;split
  ·rename_i hj;subst hj;exact h3
  ·exact Q5 h2 _ _ (hH j)
 have cell :∀(k:Key) (off:Nat) (cs:List SV) (x:SV) (mm:X9) (g':Gh),Sim c g' (γm ρ mm) w→Jf c g (γm ρ s.m) w g' (γm ρ mm) w→γm ρ mm k=some (.box (γXs ρ cs)) →
   (∀b us ty,g'.bl k=some b→w.heap[b]? = some (.cells us.toArray ty (0,0))→VXs c g' (γm ρ mm) w (γXs ρ cs) us→∃ u,us[off]? = some u∧VX c g' (γm ρ mm) w (γX ρ x) u) →
   ∃ g',Sim c g' (γm ρ ((k,.box (cs.set off x))::mm)) w∧Jw c g' (γm ρ ((k,.box (cs.set off x))::mm)) w (γs ρ s.sl) a∧Jf c g0 m0 w0 g' (γm ρ ((k,.box (cs.set off x))::mm)) w:=fun k off cs x mm g' h1 h2 hbox hx=>by
  obtain⟨q1,q2,q3⟩:=JkB h1 hbox hx;have e:γm ρ ((k,.box (cs.set off x))::mm)=upd (γm ρ mm) k (some (.box ((γXs ρ cs).set off (γX ρ x)))):=by
   rw[Yk];simp only[γO,Jx,List.map_set]
  rw[e];exact⟨g',q1,fun j=>q2 _ _ (Q5 h2 _ _ (hH j)),(hC.trans h2).trans q3⟩
 unfold Je3;split
 ·exact same
 ·rename_i hk;have hk:γm ρ s.m o.key=none:=by
   cases h:s.m.lookup o.key with
   | none=>exact JlF h
   | some _=>rw[h] at hk;exact absurd rfl hk
  obtain⟨g',h1,h2,h3,_⟩:=JjT (ty:=o.ty) (sz:=o.sz) (dp:=o.dp) hS hk;have hcons:γm ρ ((o.key,.arr o.ty o.sz .nil o.dp true)::s.m)=upd (γm ρ s.m) o.key (some (.arr o.ty o.sz [] o.dp true)):=Yk _ _ _ _;rw[←hcons] at h1 h2 h3;have ren :∀(j:Key) (l l':E) (ty:TypeId) (sz:Nat) (dp:Bool),s.m.lookup j=some (.arr ty sz l' dp true)→l.lsame l'=true →
    ∃ g',Sim c g' (γm ρ ((o.key,.arr ty sz l' dp true)::(j,.dead)::s.m)) w∧Jf c g (γm ρ s.m) w g' (γm ρ ((o.key,.arr ty sz l' dp true)::(j,.dead)::s.m)) w ∧
     ∀v,VX c g (γm ρ s.m) w (.o j (lst ρ l).length) v→VX c g' (γm ρ ((o.key,.arr ty sz l' dp true)::(j,.dead)::s.m)) w (.o o.key (lst ρ l').length) v:=fun j l l' ty sz dp hj hl=>by
   have hj':=QQ (ρ:=ρ) hj;have e:γm ρ ((o.key,.arr ty sz l' dp true)::(j,.dead)::s.m)=upd (upd (γm ρ s.m) j (some .dead)) o.key (some (.arr ty sz (lst ρ l') dp true)):=by
    rw[Yk,Yk];rfl
   obtain⟨g2,a1,a2,a3⟩:=Jnw hS hk hj';rw[e];refine⟨g2,a1,a2,fun v hv=>⟨hv.1,⟨_,uS1 _ _ _,by simp⟩,fun ty' sz' es' dp' rw' he=>?_⟩⟩;rw[uS1] at he;cases he;exact⟨Nat.le_refl _,fun _=>by rw[a3];exact(hv.2.2 _ _ _ _ _ hj').2 (lL1 hl ρ)⟩
  split
  ·rename_i t hat;split
   ·rename_i hl;refine slot t _ _ g' h1 h2 ?_;have hv:=hH t;rw[JfL hl] at hv;have hv:a.tmps.getD t undef=Qt:=(Qj hv).1;rw[hv];exact h3
   ·rename_i j l hl;split
    ·split
     ·rename_i ty sz l' dp hj;split
      ·rename_i hll;obtain⟨g2,a1,a2,a3⟩:=ren j l l' ty sz dp hj hll;have hv:=hH t;rw[JfL hl] at hv;exact slot t (.o o.key l') _ g2 a1 a2 (a3 _ hv)
      ·exact same
     ·exact same
    ·exact same
   ·exact same
  ·rename_i k off hat;split
   ·rename_i cs hl;have hke:k≠o.key:=fun e=>by
     subst e;rw[QQ hl] at hk;cases hk
    split
    ·rename_i hoff;have hbox:γm ρ ((o.key,.arr o.ty o.sz .nil o.dp true)::s.m) k=some (.box (γXs ρ cs)):=by
      rw[hcons,uO1 _ _ hke,QQ hl];rfl
     refine cell k off cs (.o o.key .nil) _ g' h1 h2 hbox fun b us ty _ _ a3=>?_;have hget:(γXs ρ cs)[off]? = some (.d (.v Qt)):=by rw[Jx,Juu,hoff];rfl
     obtain⟨u,hu,hvu⟩:=Jap _ _ _ _ a3 hget;have hu':u=Qt:=(Qj hvu).1;subst hu';exact⟨_,hu,h3⟩
    ·rename_i j l hoff;split
     ·split
      ·rename_i ty sz l' dp hj;split
       ·rename_i hll;obtain⟨g2,a1,a2,a3⟩:=ren j l l' ty sz dp hj hll;have hkj:k≠j:=fun e=>by subst e;rw[hl] at hj;cases hj
        have hbox:γm ρ ((o.key,.arr ty sz l' dp true)::(j,.dead)::s.m) k=some (.box (γXs ρ cs)):=by
         rw[Yk,Yk,uO1 _ _ hke,uO1 _ _ hkj,QQ hl];rfl
        refine cell k off cs (.o o.key l') _ g2 a1 a2 hbox fun b us ty q1 q2 _=>?_;obtain⟨b0,us0,ty0,r1,r2,r3,_⟩:=hS.box k (γXs ρ cs) (by rw[QQ hl];rfl);rw[(a2.box k _ (by rw[QQ hl];rfl)).2,r1] at q1;cases q1;rw[r2] at q2;have e:us0=us:=by
         simp only[Jt8,Go.Obj.cells.injEq] at q2;have:=congrArg Array.toList q2.1;simpa using this
        subst e;have hget:(γXs ρ cs)[off]? = some (.o j (lst ρ l).length):=by rw[Jx,Juu,hoff];rfl
        obtain⟨u,hu,hvu⟩:=Jap _ _ _ _ r3 hget;exact⟨u,hu,a3 u hvu⟩
       ·exact same
      ·exact same
     ·exact same
    ·exact same
   ·exact same
  ·rename_i j hat;split
   ·rename_i ty sz l' dp hj;have hj':=QQ (ρ:=ρ) hj;have e:γm ρ ((o.key,.arr ty sz l' dp true)::(j,.dead)::s.m)=upd (upd (γm ρ s.m) j (some .dead)) o.key (some (.arr ty sz (lst ρ l') dp true)):=by
     rw[Yk,Yk];rfl
    obtain⟨g2,a1,a2,_⟩:=Jnw hS hk hj';rw[←e] at a1 a2;exact⟨g2,a1,fun t=>Q5 a2 _ _ (hH t),hC.trans a2⟩
   ·exact same
  ·rename_i k off hat;split
   ·rename_i cs hl;split
    ·rename_i j l hoff;split
     ·rename_i ty sz l' dp rw0 hj;split
      ·rename_i hll;have hkj:k≠j:=fun e=>by subst e;rw[hl] at hj;cases hj
       have hj':=QQ (ρ:=ρ) hj;have hboxs:γm ρ s.m k=some (.box (γXs ρ cs)):=by rw[QQ hl];rfl
       obtain⟨b0,us0,ty0,r1,r2,r3,_⟩:=hS.box k (γXs ρ cs) hboxs;have hget:(γXs ρ cs)[off]? = some (.o j (lst ρ l).length):=by rw[Jx,Juu,hoff];rfl
       obtain⟨u,hu,hvu⟩:=Jap _ _ _ _ r3 hget;have htake:(take (.o j (lst ρ l).length)).run (γm ρ s.m)=some (.s (lst ρ l'),upd (γm ρ s.m) j (some (.arr ty sz (lst ρ l') false false))):=by
        simp[take,MP.run,hj',γO,lL1 hll ρ]
       obtain⟨⟨fp,t1,t2⟩,t3,t4⟩:=UB (.o j (lst ρ l).length) u _ _ _ hS hvu htake;have e:γm ρ ((j,.arr ty sz l' false false)::s.m)=upd (γm ρ s.m) j (some (.arr ty sz (lst ρ l') false false)):=Yk _ _ _ _;rw[←e] at t2 t3 t4;have hbox:γm ρ ((j,.arr ty sz l' false false)::s.m) k=some (.box (γXs ρ cs)):=by rw[e,uO1 _ _ hkj,hboxs]
       refine cell k off cs (.d (.s l')) _ g t3 t4 hbox fun b us ty1 q1 q2 _=>?_;rw[r1] at q1;cases q1;rw[r2] at q2;have e2:us0=us:=by
        simp only[Jt8,Go.Obj.cells.injEq] at q2;have:=congrArg Array.toList q2.1;simpa using this
       subst e2;exact⟨u,hu,fp,t1,t2⟩
      ·exact same
     ·exact same
    ·exact same
   ·exact same
end
end Go.Tm
end
section
namespace Go.Tm
open Go.IntKind (i64)
section
variable {P:Program} {c:Cx P} {g:Gh} {m mk:Mem} {w:World} {a:Act} {ρ ρ':Env}
def sw (a b k:Key):Key:=bif Nat.beq k a then b else bif Nat.beq k b then a else k
theorem sw_a (a b:Key):sw a b a=b:=by simp[sw]
theorem sw_b (a b:Key):sw a b b=a:=by
 unfold sw
 by_cases h:b=a
 ·subst h;simp
 ·have:Nat.beq b a=false:=Bool.eq_false_iff.2 fun e=>h (Nat.eq_of_beq_eq_true e);simp[this]
theorem JqM {a b k:Key} (h1:k≠a) (h2:k≠b):sw a b k=k:=by
 have e1:Nat.beq k a=false:=Bool.eq_false_iff.2 fun e=>h1 (Nat.eq_of_beq_eq_true e);have e2:Nat.beq k b=false:=Bool.eq_false_iff.2 fun e=>h2 (Nat.eq_of_beq_eq_true e);simp[sw,e1,e2]
theorem Ji8 (a b k:Key):sw a b (sw a b k)=k:=by
 by_cases h1:k=a
 ·subst h1;rw[sw_a,sw_b]
 ·by_cases h2:k=b
  ·subst h2;rw[sw_b,sw_a]
  ·rw[JqM h1 h2,JqM h1 h2]
def swK (a b:Key) (s:SSt):SSt:=⟨s.sl.map fun p=>(p.1,p.2.ren (sw a b)),s.m.map fun p=>(sw a b p.1,p.2.ren (sw a b))⟩
theorem JfK {α:Type} (a b:Key) (f:α→α) :∀(l:List (Nat×α)) (k:Nat),(l.map fun p=>(sw a b p.1,f p.2)).lookup k=(l.lookup (sw a b k)).map f
 | [],k=>rfl
 | (j,x)::l,k=>by
  simp only[Juh,List.lookup_cons]
  by_cases h:sw a b k=j
  ·subst h;rw[Ji8];simp
  ·have h2 : ¬k=sw a b j:=fun e=>h (by rw[e,Ji8]);have hb:(k == sw a b j)=false:=by simpa using h2
   have hb':(sw a b k == j)=false:=by simpa using h
   simp only[hb,hb',JfK a b f l k]
theorem JqK (x y:Key) {nl:Nat} (hx:nl≤x) (hy:nl≤y) {s:SSt} {g0:Gh} {m0:Mem} {w0:World} (hl :∀k,m0 k≠none→k<nl) (hS:Sim c g (γm ρ s.m) w) (hH:Jw c g (γm ρ s.m) w (γs ρ s.sl) a) (hC:Jf c g0 m0 w0 g (γm ρ s.m) w) :
  ∃ g',Sim c g' (γm ρ (swK x y s).m) w∧Jw c g' (γm ρ (swK x y s).m) w (γs ρ (swK x y s).sl) a∧Jf c g0 m0 w0 g' (γm ρ (swK x y s).m) w:=by
 have hm :∀k,γm ρ (swK x y s).m k=(γm ρ s.m (sw x y k)).map (Obj.ren (sw x y)):=by
  intro k;unfold γm swK;simp only[JfK,Option.map_map];cases s.m.lookup (sw x y k) with
  | none=>rfl
  | some o=>simp only[Jub,Function.comp,Jat]
 have hs :∀t,γs ρ (swK x y s).sl t=(γs ρ s.sl t).ren (sw x y):=by
  intro t;unfold γs swK;simp only[Y0];cases s.sl.lookup t with
  | none=>rfl
  | some v=>simp only[Jub,Jds]
 generalize γm ρ (swK x y s).m=m2 at *;generalize γs ρ (swK x y s).sl=sl2 at *;generalize γm ρ s.m=m at *
 let g':Gh:=⟨fun k=>g.bl (sw x y k),fun k=>g.hd (sw x y k),fun k=>g.fd (sw x y k),fun b=>(g.ow b).map (sw x y)⟩
 have hMut :∀b,Mut g' m2 b→Mut g m b:=by
  rintro b ⟨k,o,hk,hr,hb⟩;rw[hm] at hk;cases ho:m (sw x y k) with
  | none=>rw[ho] at hk;cases hk
  | some o0 =>
   rw[ho] at hk;simp only[Jub,Jt8] at hk;exact⟨_,o0,ho,by rw[←JbG (ρ:=sw x y) o0,hk];exact hr,Vi (g:=g) (k:=sw x y k) hb rfl rfl (by rw[←hk,VV])⟩
 have hF :∀fp,(∀b∈fp,b<w.heap.size)→Qa c g m fp→Qa c g' m2 fp:=fun fp _ hf b hb=>⟨fun h=>(hf b hb).1 (hMut b h),(hf b hb).2⟩;have hat :∀k,True→m2 (sw x y k)=(m k).map (Obj.ren (sw x y))∧g'.bl (sw x y k)=g.bl k∧g'.hd (sw x y k)=g.hd k∧g'.fd (sw x y k)=g.fd k:=by
  intro k _;refine⟨by rw[hm,Ji8],?_,?_,?_⟩ <;> simp only[g',Ji8]
 have hPart:Jpn c g m w c g' m2 (sw x y) (sw x y) (fun _=>True):=⟨fun k o _=>⟨trivial,Ji8 _ _ _⟩,hat,fun _ _ _ _ _ _=>trivial⟩;refine⟨g',hPart.sim hS hS.frame hF (fun k b _ how=>by simp only[g',how,Jub]) (fun b k hb=>?_),fun t=>?_,?_⟩
 ·cases ho:g.ow b with
  | none=>simp[g',ho] at hb
  | some k0=>exact hS.live b k0 ho
 ·rw[hs];exact JcV (K:=fun _=>True) (fun k hk=>⟨(hat k hk).1,(hat k hk).2.1,(hat k hk).2.2.1⟩) hF _ _ (fun _ _=>trivial) (hH t)
 ·have hne :∀k,m0 k≠none→sw x y k=k:=fun k hk=>by
   have:=hl k hk;exact JqM (Nat.ne_of_lt (Nat.lt_of_lt_of_le this hx)) (Nat.ne_of_lt (Nat.lt_of_lt_of_le this hy))
  refine⟨hC.size,fun b h1 h2 h3=>⟨(hC.pure b h1 h2 h3).1,fun h=>(hC.pure b h1 h2 h3).2 (hMut b h)⟩,fun k cs hk=>?_,fun k ty sz es dp rw hk=>?_,fun k hk=>?_⟩
  ·have he:=hne k (by rw[hk];simp);obtain⟨⟨cs',h1⟩,h2⟩:=hC.box k cs hk;exact⟨⟨UZ (sw x y) cs',by rw[hm,he,h1];rfl⟩,by simp only[g',he];exact h2⟩
  ·have he:=hne k (by rw[hk];simp);rcases hC.arr k ty sz es dp rw hk with h | ⟨es',dp',rw',h1,h2⟩
   ·exact .inl (by rw[hm,he,h];rfl)
   ·refine .inr ⟨es',dp',rw',by rw[hm,he,h1];rfl,?_⟩;simp only[g',he];exact h2
  ·have he:=hne k (by rw[hk];simp);rw[hm,he,hC.dead k hk];rfl
theorem JoV {m2:Mem} (hS:Sim c g m w) (h :∀j,m2 j=m j∨∃ cs cs',m j=some (.box cs)∧m2 j=some (.box cs')∧∀us,VXs c g m w cs us→VXs c g m w cs' us) :
  Sim c g m2 w∧(∀x v,VX c g m w x v→VX c g m2 w x v)∧∀g0 m0 w0,Jf c g0 m0 w0 g m w→Jf c g0 m0 w0 g m2 w:=by
 have hlike :∀j,Jmb m m2 j:=fun j=>by
  rcases h j with e | ⟨cs,cs',e1,e2,_⟩
  ·exact .inl e
  ·exact .inr ⟨cs,cs',e1,e2⟩
 have hM :∀b,Mut g m2 b→Mut g m b:=by
  rintro b ⟨k,o,hk,hr,hb⟩;rcases h k with e | ⟨cs,cs',e1,e2,_⟩
  ·exact⟨k,o,by rw[←e];exact hk,hr,hb⟩
  ·rw[e2] at hk;cases hk;exact⟨k,_,e1,rfl,.inl (hb.resolve_right fun h=>by cases h.1)⟩
 have hVX :∀x v,VX c g m w x v→VX c g m2 w x v:=fun x v hx=>JlL hM x v (fun k _=>hlike k) hx;refine⟨Sim.restrict hS fun k o hk=>?_,hVX,fun g0 m0 w0 hC=>⟨hC.size,fun b h1 h2 h3=>⟨(hC.pure b h1 h2 h3).1,fun hm=>(hC.pure b h1 h2 h3).2 (hM b hm)⟩,fun k cs hk=>?_,fun k ty sz es dp rw hk=>?_,fun k hk=>?_⟩⟩
 ·rcases h k with e | ⟨cs,cs',e1,e2,e3⟩
  ·rw[e] at hk;refine⟨⟨o,hk,rfl⟩,fun cs hcs=>?_,fun _ _ _ _ _ _=>hk⟩;subst hcs;obtain⟨b,us,ty,a1,a2,a3,a4⟩:=hS.box k cs hk;exact⟨b,us,ty,a1,a2,Uf hM _ _ (fun i _=>hlike i) a3,a4⟩
  ·rw[e2] at hk;simp only[Jt8] at hk;subst hk;refine⟨⟨_,e1,rfl⟩,fun cs1 hcs=>?_,fun _ _ _ _ _ he=>by cases he⟩;cases hcs;obtain⟨b,us,ty,a1,a2,a3,a4⟩:=hS.box k cs e1;exact⟨b,us,ty,a1,a2,Uf hM _ _ (fun i _=>hlike i) (e3 us a3),a4⟩
 ·obtain⟨⟨cs1,e1⟩,e2⟩:=hC.box k cs hk;refine⟨?_,e2⟩;rcases hlike k with e | ⟨_,cs2,_,e⟩
  ·exact⟨cs1,by rw[e];exact e1⟩
  ·exact⟨cs2,e⟩
 ·have:=hC.arr k ty sz es dp rw hk;rcases hlike k with e | ⟨_,cs2,e1,e⟩
  ·rw[e];exact this
  ·rcases this with h | ⟨_,_,_,h,_⟩
   ·rw[e1] at h;cases h
   ·rw[e1] at h;cases h
 ·have:=hC.dead k hk;rcases hlike k with e | ⟨_,cs2,e1,e⟩
  ·rw[e];exact this
  ·rw[e1] at this;cases this
mutual
def tkV (k:Key) (l:E):SV→SV
 | .o j x=>bif Nat.beq j k&&x.same l then .d (.s l) else .o j x
 | .g cs=> .g (Jnb k l cs)
 | .t cs=> .t (Jnb k l cs)
 | .f fn cs=> .f fn (Jnb k l cs)
 | v=>v
def Jnb (k:Key) (l:E):List SV→List SV
 | []=>[]
 | c::cs=>tkV k l c::Jnb k l cs
end
def tkO (k:Key) (l:E):Jj→Jj
 | .box cs=> .box (Jnb k l cs)
 | o=>o
mutual
theorem JoD {k:Key} {l:E} (h :∀v,VX c g m w (.o k (lst ρ l).length) v→VX c g m w (.d (.s (lst ρ l))) v) :∀(x:SV) (v:Value),VX c g m w (γX ρ x) v→VX c g m w (γX ρ (tkV k l x)) v
 | .o j x,v,hv=>by
  simp only[tkV];cases hb:Nat.beq j k&&x.same l with
  | false=>exact hv
  | true =>
   simp only[Jt9,Nat.beq_eq] at hb;obtain⟨rfl,h2⟩:=hb;simp only[cond_true,γX] at hv ⊢;rw[JhD h2] at hv;exact h v hv
 | .g cs,v,⟨vs,e,h1,h2⟩=>⟨vs,e,JaP h cs vs h1,h2⟩
 | .t cs,v,⟨vs,e,h1⟩=>⟨vs,e,JaP h cs vs h1⟩
 | .f fn cs,v,⟨vs,e,h1⟩=>⟨vs,e,JaP h cs vs h1⟩
 | .d _,v,h1=>h1
 | .p _ _,v,h1=>h1
 | .e _ _ _ _,v,h1=>h1
 | .u,v,h1=>h1
theorem JaP {k:Key} {l:E} (h :∀v,VX c g m w (.o k (lst ρ l).length) v→VX c g m w (.d (.s (lst ρ l))) v) :∀(xs:List SV) (vs:List Value),VXs c g m w (γXs ρ xs) vs→VXs c g m w (γXs ρ (Jnb k l xs)) vs
 | [],vs,hv=>hv
 | x::xs,vs,⟨v,vs',e,h1,h2⟩=>⟨v,vs',e,JoD h x v h1,JaP h xs vs' h2⟩
end
def Jfn (k:Key) (s:SSt):SSt:=match s.m.lookup k with
 | some (.arr ty sz l _ _)=>⟨s.sl.map fun p=>(p.1,tkV k l p.2),((k,.arr ty sz l false false)::s.m).map fun p=>(p.1,tkO k l p.2)⟩
 | _=>s
theorem Jo4 (k:Key) {s:SSt} {g0:Gh} {m0:Mem} {w0:World} (hS:Sim c g (γm ρ s.m) w) (hH:Jw c g (γm ρ s.m) w (γs ρ s.sl) a) (hC:Jf c g0 m0 w0 g (γm ρ s.m) w) :
  ∃ g',Sim c g' (γm ρ (Jfn k s).m) w∧Jw c g' (γm ρ (Jfn k s).m) w (γs ρ (Jfn k s).sl) a∧Jf c g0 m0 w0 g' (γm ρ (Jfn k s).m) w:=by
 unfold Jfn;split
 ·rename_i ty sz l dp rw hk;have hmk:=QQ (ρ:=ρ) hk;have hm1:γm ρ ((k,.arr ty sz l false false)::s.m)=upd (γm ρ s.m) k (some (.arr ty sz (lst ρ l) false false)):=Yk _ _ _ _;have hm2 :∀j,γm ρ (((k,.arr ty sz l false false)::s.m).map fun p=>(p.1,tkO k l p.2)) j=(((k,.arr ty sz l false false)::s.m).lookup j).map fun o=>γO ρ (tkO k l o):=by
   intro j;unfold γm;rw[Y0,Option.map_map];rfl
  have hm1' :∀j,γm ρ ((k,.arr ty sz l false false)::s.m) j=(((k,.arr ty sz l false false)::s.m).lookup j).map (γO ρ):=fun j=>rfl;generalize γm ρ (((k,.arr ty sz l false false)::s.m).map fun p=>(p.1,tkO k l p.2))=m2 at *;have hrun:(take (.o k (lst ρ l).length)).run (γm ρ s.m)=some (.s (lst ρ l),upd (γm ρ s.m) k (some (.arr ty sz (lst ρ l) false false))):=by
   simp only[take,MP.run,hmk];simp only[γO,if_true,MP.run,hmk]
  have hhd:VX c g (γm ρ s.m) w (.o k (lst ρ l).length) (g.hd k):=by
   obtain⟨h1,_,_⟩:=hS.arr k ty sz (lst ρ l) dp rw hmk;refine⟨?_,⟨_,hmk,by simp[γO]⟩,fun ty1 sz1 es1 dp1 rw1 h=>?_⟩
   ·rcases h1 with ⟨_,h,_⟩ | ⟨b,cap,cs,_,h,_⟩
    ·rw[h];rfl
    ·rw[h];rfl
   ·rw[hmk] at h;simp only[γO,Jt8,Obj.arr.injEq] at h;obtain⟨_,_,rfl,_⟩:=h;exact⟨Nat.le_refl _,fun _=>rfl⟩
  obtain⟨hRd,hS1,hC1⟩:=UB _ _ _ _ _ hS hhd hrun;have hH1 :∀x v,VX c g (γm ρ s.m) w x v→VX c g (upd (γm ρ s.m) k (some (.arr ty sz (lst ρ l) false false))) w x v:=fun x v=>Q5 hC1 x v;have hC2:=hC.trans hC1;rw[hm1] at hm1';have hu:upd (γm ρ s.m) k (some (.arr ty sz (lst ρ l) false false)) k=some (.arr ty sz (lst ρ l) false false):=uS1 _ _ _;have hH:Jw c g (upd (γm ρ s.m) k (some (.arr ty sz (lst ρ l) false false))) w (γs ρ s.sl) a:=fun t=>hH1 _ _ (hH t);generalize upd (γm ρ s.m) k (some (.arr ty sz (lst ρ l) false false))=m1 at *;have htk :∀v,VX c g m1 w (.o k (lst ρ l).length) v→VX c g m1 w (.d (.s (lst ρ l))) v:=by
   rintro v ⟨_,_,h⟩;have:=(h _ _ _ _ _ hu).2 rfl;rw[this];exact hRd
  obtain⟨r1,r2,r3⟩:=JoV (m2:=m2) hS1 fun j=>by
   rw[hm1',hm2];cases ((k,Jj.arr ty sz l false false)::s.m).lookup j with
   | none=>exact .inl rfl
   | some o =>
    cases o with
    | box cs=>exact .inr ⟨_,_,rfl,rfl,fun us h=>JaP htk cs us h⟩
    | _=>exact .inl rfl
  refine⟨g,r1,fun t=>r2 _ _ ?_,r3 _ _ _ hC2⟩;have hv:=hH t;unfold γs at hv ⊢;rw[Y0];cases hlk:s.sl.lookup t with
  | none=>trivial
  | some x =>
   rw[hlk] at hv;exact JoD htk x _ hv
 ·exact⟨g,hS,hH,hC⟩
mutual
def misV:SV→SV→List (Key×Option Key)
 | .o k _,.o j _=>bif Nat.beq k j then [] else [(j,some k)]
 | .d (.s _),.o j _=>[(j,none)]
 | .g ps,.g vs=>JkZ ps vs
 | .t ps,.t vs=>JkZ ps vs
 | _,_=>[]
def JkZ:List SV→List SV→List (Key×Option Key)
 | p::ps,v::vs=>misV p v++JkZ ps vs
 | _,_=>[]
end
def JiV (nl:Nat) (q:Key×Option Key) (s:SSt):SSt:=match q with
 | (j,some k)=>bif Nat.ble nl j&&Nat.ble nl k then swK k j s else s
 | (j,none)=>bif Nat.ble nl j then Jfn j s else s
def Jes (nl:Nat) (t:Tmp) (p:SV):Nat→SSt→SSt
 | 0,s=>s
 | n+1,s=>match s.sl.lookup t with
  | some v=>match misV p v with
   | q::_=>Jes nl t p n (JiV nl q s)
   | []=>s
  | none=>s
def Jju (nl:Nat) (k:Key) (ps:List SV):Nat→SSt→SSt
 | 0,s=>s
 | n+1,s=>match s.m.lookup k with
  | some (.box vs)=>match JkZ ps vs with
   | q::_=>Jju nl k ps n (JiV nl q s)
   | []=>s
  | _=>s
def Jbx (nl:Nat):SSl→SSt→SSt
 | [],s=>s
 | (t,p)::l,s=>Jbx nl l (Jes nl t p 16 s)
def Jc8 (nl:Nat):X9→SSt→SSt
 | [],s=>s
 | (k,.box ps)::l,s=>Jc8 nl l (Jju nl k ps 16 s)
 | _::l,s=>Jc8 nl l s
def SSt.like (nl:Nat) (t s:SSt):SSt:=Jc8 nl t.m (Jbx nl t.sl s.fresh)
section
variable {g0:Gh} {m0:Mem} {w0:World} {nl:Nat} (hl :∀k,m0 k≠none→k<nl)
include hl
theorem Jk5 (q:Key×Option Key) {g:Gh} {s:SSt} (hS:Sim c g (γm ρ s.m) w) (hH:Jw c g (γm ρ s.m) w (γs ρ s.sl) a) (hC:Jf c g0 m0 w0 g (γm ρ s.m) w) :
  ∃ g',Sim c g' (γm ρ (JiV nl q s).m) w∧Jw c g' (γm ρ (JiV nl q s).m) w (γs ρ (JiV nl q s).sl) a∧Jf c g0 m0 w0 g' (γm ρ (JiV nl q s).m) w:=by
 obtain⟨j,o⟩:=q;cases o with
 | some k =>
  simp only[JiV];cases hb:Nat.ble nl j&&Nat.ble nl k with
  | false=>exact⟨g,hS,hH,hC⟩
  | true =>
   simp only[Jt9,Nat.ble_eq] at hb;exact JqK k j hb.2 hb.1 hl hS hH hC
 | none =>
  simp only[JiV];cases hb:Nat.ble nl j with
  | false=>exact⟨g,hS,hH,hC⟩
  | true=>exact Jo4 j hS hH hC
theorem Jhw (t:Tmp) (p:SV) :∀(n:Nat) {g:Gh} {s:SSt},Sim c g (γm ρ s.m) w→Jw c g (γm ρ s.m) w (γs ρ s.sl) a→Jf c g0 m0 w0 g (γm ρ s.m) w →
  ∃ g',Sim c g' (γm ρ (Jes nl t p n s).m) w∧Jw c g' (γm ρ (Jes nl t p n s).m) w (γs ρ (Jes nl t p n s).sl) a∧Jf c g0 m0 w0 g' (γm ρ (Jes nl t p n s).m) w
 | 0,g,s,hS,hH,hC=>⟨g,hS,hH,hC⟩
 | n+1,g,s,hS,hH,hC=>by
  simp only[Jes];split
  ·split
   ·obtain⟨g1,h1,h2,h3⟩:=Jk5 hl _ hS hH hC;exact Jhw t p n h1 h2 h3
   ·exact⟨g,hS,hH,hC⟩
  ·exact⟨g,hS,hH,hC⟩
theorem Jlg (k:Key) (ps:List SV) :∀(n:Nat) {g:Gh} {s:SSt},Sim c g (γm ρ s.m) w→Jw c g (γm ρ s.m) w (γs ρ s.sl) a→Jf c g0 m0 w0 g (γm ρ s.m) w →
  ∃ g',Sim c g' (γm ρ (Jju nl k ps n s).m) w∧Jw c g' (γm ρ (Jju nl k ps n s).m) w (γs ρ (Jju nl k ps n s).sl) a∧Jf c g0 m0 w0 g' (γm ρ (Jju nl k ps n s).m) w
 | 0,g,s,hS,hH,hC=>⟨g,hS,hH,hC⟩
 | n+1,g,s,hS,hH,hC=>by
  simp only[Jju];split
  ·split
   ·obtain⟨g1,h1,h2,h3⟩:=Jk5 hl _ hS hH hC;exact Jlg k ps n h1 h2 h3
   ·exact⟨g,hS,hH,hC⟩
  ·exact⟨g,hS,hH,hC⟩
theorem Jf0 :∀(l:SSl) {g:Gh} {s:SSt},Sim c g (γm ρ s.m) w→Jw c g (γm ρ s.m) w (γs ρ s.sl) a→Jf c g0 m0 w0 g (γm ρ s.m) w →
  ∃ g',Sim c g' (γm ρ (Jbx nl l s).m) w∧Jw c g' (γm ρ (Jbx nl l s).m) w (γs ρ (Jbx nl l s).sl) a∧Jf c g0 m0 w0 g' (γm ρ (Jbx nl l s).m) w
 | [],g,s,hS,hH,hC=>⟨g,hS,hH,hC⟩
 | (t,p)::l,g,s,hS,hH,hC=>by
  obtain⟨g1,h1,h2,h3⟩:=Jhw hl t p 16 hS hH hC;exact Jf0 l h1 h2 h3
theorem Jax :∀(l:X9) {g:Gh} {s:SSt},Sim c g (γm ρ s.m) w→Jw c g (γm ρ s.m) w (γs ρ s.sl) a→Jf c g0 m0 w0 g (γm ρ s.m) w →
  ∃ g',Sim c g' (γm ρ (Jc8 nl l s).m) w∧Jw c g' (γm ρ (Jc8 nl l s).m) w (γs ρ (Jc8 nl l s).sl) a∧Jf c g0 m0 w0 g' (γm ρ (Jc8 nl l s).m) w
 | [],g,s,hS,hH,hC=>⟨g,hS,hH,hC⟩
 | (k,.box ps)::l,g,s,hS,hH,hC=>by
  obtain⟨g1,h1,h2,h3⟩:=Jlg hl k ps 16 hS hH hC;exact Jax l h1 h2 h3
 | (k,.arr _ _ _ _ _)::l,g,s,hS,hH,hC=>Jax l hS hH hC
 | (k,.dead)::l,g,s,hS,hH,hC=>Jax l hS hH hC
theorem Jg7 (t:SSt) {s:SSt} {g:Gh} (hS:Sim c g (γm ρ s.m) w) (hH:Jw c g (γm ρ s.m) w (γs ρ s.sl) a) (hC:Jf c g0 m0 w0 g (γm ρ s.m) w) :
  ∃ g',Sim c g' (γm ρ (SSt.like nl t s).m) w∧Jw c g' (γm ρ (SSt.like nl t s).m) w (γs ρ (SSt.like nl t s).sl) a∧Jf c g0 m0 w0 g' (γm ρ (SSt.like nl t s).m) w:=by
 obtain⟨e1,e2⟩:=JhO ρ s;obtain⟨g1,h1,h2,h3⟩:=Jf0 hl t.sl (s:=s.fresh) (by rw[e2];exact hS) (by rw[e1,e2];exact hH) (by rw[e2];exact hC);exact Jax hl t.m h1 h2 h3
end
end
end Go.Tm
end
section
open Go.RowKit
namespace Go.Tm
open Go.IntKind (i64)
structure Inn where
 t:TypeId
 a:Operand
 xk:Tmp
 tS:Tmp
 tK:Tmp
 tR:Tmp
 tD:Tmp
 f:FuncId
def Ua (ops:Array Oper):Option Inn :=
 match ops[ops.size-4]?,ops[ops.size-3]?,ops[ops.size-2]?,ops[ops.size-1]? with
 | some ⟨some tS,.load t a,_,_,_,none⟩,some ⟨some tK,.move (.tmp xk),_,_,_,none⟩,some ⟨some tR,.call cl,_,_,_,none⟩,some ⟨some tD,.assign (.tmp r),_,_,_,none⟩ =>
  match cl.callee,cl.args.toList with
  | .value (.func f),[.tmp s,.tmp k]=>if 4≤ops.size∧s=tS∧k=tK∧r=tR∧xk≠tS∧tS≠tK then some ⟨t,a,xk,tS,tK,tR,tD,f⟩ else none
  | _,_=>none
 | _,_,_,_=>none
def Wg (_:Program) (_:FuncId→Option Sig) (_:Inn) (_:SSl) (_:X9) (_:Nat):Option (List I×SSl×X9×Nat):=none
section
variable {B:Tb} {ρ:Env} {sg:FuncId→Option Sig} {P:Program} {ops:Array Oper} {c:Cx P} {g:Gh} {w:World} {a:Act} {Q:Exit→Act→World→Prop}
theorem Jjt (hB:BOk sg B) (hT0:Wk c (X7 sg B)) {q:Inn} {sl sl':SSl} {m m':X9} {n n':Nat} {is:List I} (hS:Sim c g (γm ρ m) w) (hH:Jw c g (γm ρ m) w (γs ρ sl) a) (hd:UI a.tmps.size ops=true)
  (hq:Ua ops=some q) (h:Wg P sg q sl m n=some (is,sl',m',n')) (his :∀i∈is,i.holds B ρ)
  (hQ :∀a' w' g',Sim c g' (γm ρ m') w'→Jw c g' (γm ρ m') w' (γs ρ sl') a'→Jf c g (γm ρ m) w g' (γm ρ m') w'→a'.defers=a.defers→a'.tmps.size=a.tmps.size→Q .normal a' w') :
  4≤ops.size∧wpOps P ops Q [ops.size-4,ops.size-3,ops.size-2,ops.size-1] a w:=by
 unfold Wg at h;cases h
theorem Jhk {q:Inn} {sl sl':SSl} {m m':X9} {n n':Nat} {is:List I} (hmono :∀(p:SMP SV) (m:X9) (n:Nat) (r:JpC SV),p.run m n=some r→n≤r.n) (h:Wg P sg q sl m n=some (is,sl',m',n')):n≤n':=by
 unfold Wg at h;cases h
end
end Go.Tm
end
section
namespace Go.Tm
open Go.IntKind (i64)
inductive Out where
 | norm
 | exit (id:Nat)
 | ret
def Out.exitOf:Out→Exit
 | .norm=> .normal
 | .exit id=> .exit id
 | .ret=> .ret
structure Jc1 where
 slots:List Tmp:=[]
 cells:List (Key×Nat):=[]
 arrs:List Key:=[]
 drop:List Tmp:=[]
 dropk:List Key:=[]
structure Z4 where
 keep:List Tmp:=[]
 nl:Nat:=0
 own:List (Nat×JiE):=[]
 loops:List (Nat×Jc1):=[]
 deep:Bool:=false
 no:List Tmp:=[]
 inner:List Nat:=[]
 bor:List Tmp:=[]
def Z4.dp (H:Z4):Oper→Bool:=Qd.dp { deep:=H.deep,no:=H.no,bor:=H.bor }
def Z4.bo (H:Z4):Oper→Bool:=Qd.bo { deep:=H.deep,no:=H.no,bor:=H.bor }
def JqZ:SV→Nat→SV×Nat
 | .d (.vi k _),n=>(.d (.vi k (.v n)),n+1)
 | .d (.vb _),n=>(.d (.vb (.v n)),n+1)
 | .d (.s _),n=>(.d (.s (.v n)),n+1)
 | .d (.vc (.slice none 0 0)),n=>(.d (.s (.v n)),n+1)
 | .d _,n=>(.d (.da n),n+1)
 | .o _ _,n=>(.d (.s (.v n)),n+1)
 | .g cs,n=>let r:=go cs n; (.g r.1,r.2)
 | v,n=>(v,n)
where
 go:List SV→Nat→List SV×Nat
  | [],n=>([],n)
  | c::cs,n=>let r:=JqZ c n;let q:=go cs r.2; (r.1::q.1,q.2)
def reO (k:Key) (l l':E):SV→SV
 | .o j x=>if j == k&&x.same l then .o j l' else .o j x
 | .g cs=> .g (go cs)
 | v=>v
where
 go:List SV→List SV
  | []=>[]
  | c::cs=>reO k l l' c::go cs
def JrB (k:Key) (l l':E):Jj→Jj
 | .box cs=> .box (reO.go k l l' cs)
 | o=>o
def JgJ:List Key→SSt→Nat→SSt×Nat
 | [],s,n=>(s,n)
 | k::ks,s,n=>match s.m.lookup k with
  | some (.arr ty sz l dp rw) =>
   let s':SSt:=⟨s.sl.map fun p=>(p.1,reO k l (.v n) p.2),s.m.map fun p=>if p.1 == k then(k,.arr ty sz (.v n) dp rw) else(p.1,JrB k l (.v n) p.2)⟩
   JgJ ks s' (n+1)
  | _=>JgJ ks s n
def JcS (vs:List Tmp):SSl→Nat→SSl×Nat
 | [],n=>([],n)
 | (t,v)::sl,n=>if vs.contains t then let r:=JqZ v n;let q:=JcS vs sl r.2; ((t,r.1)::q.1,q.2) else let q:=JcS vs sl n; ((t,v)::q.1,q.2)
def Jam:List (Key×Nat)→X9→Nat→X9×Nat
 | [],m,n=>(m,n)
 | (k,off)::cs,m,n=>match m.lookup k with
  | some (.box xs)=>match xs[off]? with
   | some v=>let r:=JqZ v n;Jam cs ((k,.box (xs.set off r.1))::m) r.2
   | none=>Jam cs m n
  | _=>Jam cs m n
def Jix {α:Type}:List (Nat×α)→List Nat→List (Nat×α)
 | [],_=>[]
 | (k,v)::l,Jgw=>if Jgw.contains k then Jix l Jgw else(k,v)::Jix l (k::Jgw)
def genT (h:Jc1) (s:SSt) (n:Nat):SSt×Nat :=
 let s:=s.fresh
 let s0:SSt:=⟨(Jix s.sl []).filter fun p=>!h.drop.contains p.1,(Jix s.m []).filter fun p=>!h.dropk.contains p.1⟩
 let a:=JgJ h.arrs s0 n
 let b:=JcS h.slots a.1.sl a.2
 let c:=Jam h.cells a.1.m b.2
 (⟨b.1,Jix c.1 []⟩,c.2-n)
def YO:Code→Nat
 | .region id _ _=>id
 | .seq a _=>YO a
 | .block _ a=>YO a
 | .cond _ a _=>YO a
 | .loop a=>YO a
 | _=>1000000
def Za (l:List (Nat×JiE)) (id:Nat) (s:SSt):SSt:=l.foldl (fun s o=>if o.1 == id then Je3 o.2 s else s) s
def JiI (H:Z4) (id:Nat):Jc1:=(H.loops.lookup id).getD {}
def Jqd (c:Operand) (t:Bool) (s:SSt):SSt:=match c with
 | .tmp d=>⟨(d,.d (.vb (Ub t)))::s.sl,s.m⟩
 | _=>s
def Jg4 (ops:Array Oper) (draw:Bool) (tl:Trs):Bool:=!draw||(sok ops&&(un ops).all fun p=>apart (tl.getD p.1 []) (tl.getD p.2 []))
mutual
def SV.under (c:Nat):SV→Bool
 | .d e=>e.under c
 | .g cs=>WJ c cs
 | .o _ l=>l.under c
 | .p _ _=>true
 | .e _ l i _=>l.under c&&i.under c
 | .f _ cs=>WJ c cs
 | .t cs=>WJ c cs
 | .u=>true
def WJ (c:Nat):List SV→Bool
 | []=>true
 | v::vs=>v.under c&&WJ c vs
end
def Jj.under (c:Nat):Jj→Bool
 | .box cs=>WJ c cs
 | .arr _ _ l _ _=>l.under c
 | .dead=>true
def SSt.under (c:Nat) (s:SSt):Bool:=s.sl.all (fun p=>p.2.under c)&&s.m.all (fun p=>p.2.under c)
mutual
theorem Ji3 {c:Nat} {ρ ρ':Env} (h:Jy c ρ ρ') :∀v:SV,v.under c=true→γX ρ' v=γX ρ v
 | .d e,hu=>by simp only[γX,dat];rw[Yh h e (by simpa[SV.under] using hu)]
 | .g cs,hu=>by simp only[γX];rw[K1 h cs (by simpa[SV.under] using hu)]
 | .t cs,hu=>by simp only[γX];rw[K1 h cs (by simpa[SV.under] using hu)]
 | .f _ cs,hu=>by simp only[γX];rw[K1 h cs (by simpa[SV.under] using hu)]
 | .o _ l,hu=>by simp only[γX,lst];rw[Yh h l (by simpa[SV.under] using hu)]
 | .p _ _,_=>rfl
 | .e _ l i _,hu=>by
  simp only[SV.under,Jt9] at hu;simp only[γX,lst,int];rw[Yh h l hu.1,Yh h i hu.2]
 | .u,_=>rfl
theorem K1 {c:Nat} {ρ ρ':Env} (h:Jy c ρ ρ') :∀vs:List SV,WJ c vs=true→γXs ρ' vs=γXs ρ vs
 | [],_=>rfl
 | v::vs,hu=>by
  simp only[WJ,Jt9] at hu;simp only[γXs];rw[Ji3 h v hu.1,K1 h vs hu.2]
end
theorem JnM {c:Nat} {ρ ρ':Env} (h:Jy c ρ ρ') (o:Jj) (hu:o.under c=true):γO ρ' o=γO ρ o:=by
 cases o with
 | box cs=>simp only[γO];rw[K1 h cs hu]
 | arr ty sz l dp rw=>simp only[γO,lst];rw[Yh h l hu]
 | dead=>rfl
theorem JnP {c:Nat} {ρ ρ':Env} (h:Jy c ρ ρ') {s:SSt} (hu:s.under c=true):γs ρ' s.sl=γs ρ s.sl∧γm ρ' s.m=γm ρ s.m:=by
 unfold SSt.under at hu;simp only[Jt9] at hu;refine⟨?_,?_⟩
 ·funext t
  unfold γs;cases hl:s.sl.lookup t with
  | none=>rfl
  | some v=>exact Ji3 h v (Jum.1 hu.1 (t,v) (Yq _ _ _ hl))
 ·funext k
  unfold γm;cases hl:s.m.lookup k with
  | none=>rfl
  | some v=>simp only[Jub];rw[JnM h v (Jum.1 hu.2 (k,v) (Yq _ _ _ hl))]
def JqD (ops:Array Oper):Bool:=ops.toList.any fun o=>o.guard.isNone&&(match o.op with | .panic _=>true | _=>false)
def Jcy (P:Program) (ops:Array Oper) (draw:Bool):Option (Tmp×Operand):=if draw then none else match ops[ops.size-1]? with
 | some ⟨some d,.binOp .eql t x (.const (.slice none 0 0)) _,_,_,_,none⟩=>match P.underlying t with
  | some (.slice _)=>some (d,x)
  | _=>none
 | _=>none
def sxC (P:Program) (sg:FuncId→Option Sig) (H:Z4):Code→SSt→Nat→(Out→SSt→Nat→Option R)→Option R
 | .skip,s,n,k=>k .norm s n
 | .region id ops draw,s,n,k=>if JqD ops then some (.i (.chk .ff) (.done [])) else
  let s:=Za H.own id s
  match if H.inner.contains id && !draw then Ua ops else none with
  | some q=>Kc P sg H.dp H.bo ops (List.range' 0 (ops.size-4)) s.sl s.m n [] fun sl m n _=>match Wg P sg q sl m n with
   | some r=>match k .norm ⟨X1 H.keep r.2.1,r.2.2.1⟩ r.2.2.2 with
    | some x=>some (JaC r.1 x)
    | none=>none
   | none=>none
  | none =>
  match Jcy P ops draw with
  | none=>Kc P sg H.dp H.bo ops (List.range' 0 ops.size) s.sl s.m n [] fun sl m n tl =>
   match Jg4 ops draw tl with
   | true=>k .norm ⟨X1 H.keep sl,m⟩ n
   | false=>none
  | some (d,x)=>Kc P sg H.dp H.bo ops (List.range' 0 (ops.size-1)) s.sl s.m n [] fun sl m n _=>match sop sl x with
   | .d (.s l)=>if SSt.under n ⟨sl,m⟩ then match k .norm ⟨X1 H.keep ((d,.d (.vb .tt))::sl),m⟩ n,k .norm ⟨X1 H.keep ((d,.d (.vb .ff))::sl),m⟩ n with
    | some x,some y=>some (.nilq n l x y)
    | _,_=>none
    else none
   | _=>none
 | .seq a b,s,n,k=>sxC P sg H a s n fun o s' n'=>match o with
  | .norm=>sxC P sg H b s' n' k
  | o=>k o s' n'
 | .cond c a b,s,n,k=>match sop s.sl c with
  | .d (.vb e)=>match e.known with
   | some true=>sxC P sg H a s n k
   | some false=>sxC P sg H b s n k
   | none=>match sxC P sg H a (Jqd c true s) n k,sxC P sg H b (Jqd c false s) n k with
    | some x,some y=>some (.ite e x y)
    | _,_=>none
  | _=>none
 | .block id a,s,n,k=>sxC P sg H a s n fun o s' n'=>match o with
  | .exit j=>if j=id then k .norm s' n' else k (.exit j) s' n'
  | o=>k o s' n'
 | .loop a,s,n,k =>
  let s:=Za H.own (YO a) s
  let t:=genT (JiI H (YO a)) s n
  match JcK n t.2 t.1 (SSt.like H.nl t.1 s) H.nl with
  | none=>none
  | some init=>match sxC P sg H a t.1 (n+t.2) (fun o s' n'=>match o with
    | .norm=>match JcK n t.2 t.1 (SSt.like H.nl t.1 s') H.nl with
     | some vs=>some (.next vs)
     | none=>none
    | o=>match k o s' n' with
     | some r=>some (.esc r)
     | none=>none) with
   | some body=>some (.loop n init body)
   | none=>none
 | .exit id,s,n,k=>k (.exit id) s n
 | .ret,s,n,k=>k .ret s n
 | _,_,_,_=>none
section
variable {B:Tb} {ρ:Env} {sg:FuncId→Option Sig} {P:Program} {G:Qd} {N:Nat}
theorem SMP.run_mono {α:Type} :∀(p:SMP α) (m:X9) (n:Nat) (r:JpC α),p.run m n=some r→n≤r.n
 | .ret a,m,n,r,h=>by simp only[SMP.run,Jt8] at h;subst h;exact Nat.le_refl _
 | .fail,_,_,_,h=>by cases h
 | .get k c,m,n,r,h=>by
  simp only[SMP.run] at h;split at h
  ·split at h
   ·rename_i r1 h1;simp only[Jt8] at h;subst h;show n≤r1.n;exact SMP.run_mono _ _ _ r1 h1
   ·cases h
  ·cases h
 | .put k o c,m,n,r,h=>by
  simp only[SMP.run] at h;split at h
  ·split at h
   ·rename_i r1 h1;simp only[Jt8] at h;subst h;show n≤r1.n;exact SMP.run_mono _ _ _ r1 h1
   ·cases h
  ·cases h
 | .new k o c,m,n,r,h=>by
  simp only[SMP.run] at h;split at h
  ·cases h
  ·split at h
   ·rename_i r1 h1;simp only[Jt8] at h;subst h;show n≤r1.n;exact SMP.run_mono _ _ _ r1 h1
   ·cases h
 | .ask i j c,m,n,r,h=>by
  simp only[SMP.run] at h;split at h
  ·rename_i r1 h1;simp only[Jt8] at h;subst h;have:=SMP.run_mono _ _ _ _ h1;show n≤r1.n;omega
  ·cases h
theorem Ul {dp bo:Oper→Bool} {ops:Array Oper} (n0:Nat) (k k':SSl→X9→Nat→Trs→Option R) (hk :∀sl m n t,n0≤n→k sl m n t=k' sl m n t) :∀(l:List Nat) (sl:SSl) (m:X9) (n:Nat) (trs:Trs),n0≤n →
  Kc P sg dp bo ops l sl m n trs k=Kc P sg dp bo ops l sl m n trs k'
 | [],sl,m,n,trs,h=>hk _ _ _ _ h
 | i::l,sl,m,n,trs,h=>by
  have ih:=Ul (dp:=dp) (bo:=bo) (ops:=ops) n0 k k' hk l;simp only[Kc];cases ops[i]? with
  | none=>rfl
  | some o =>
   dsimp only
   generalize ZD ops sl o=wt;cases wt with
   | yes =>
    simp only[if_true];cases hr:(JhU P sg (dp o) (bo o) o sl).run m n with
    | none=>rfl
    | some r =>
     simp only;rw[ih _ _ _ _ (Nat.le_trans h (SMP.run_mono _ _ _ _ hr))]
   | no=>simp only[Jup,if_false];rw[ih _ _ _ _ h]
   | bad=>rfl
   | fork d b want =>
    cases want with
    | true =>
     simp only[Bool.not_true,Jup,if_false,if_true];rw[ih _ _ _ _ h];cases hr:(JhU P sg (dp o) (bo o) o ((d,.d (.vb .tt))::sl)).run m n with
     | none=>rfl
     | some r =>
      simp only;rw[ih _ _ _ _ (Nat.le_trans h (SMP.run_mono _ _ _ _ hr))]
    | false =>
     simp only[Bool.not_false,Jup,if_false,if_true];rw[ih _ _ _ _ h];cases hr:(JhU P sg (dp o) (bo o) o ((d,.d (.vb .ff))::sl)).run m n with
     | none=>rfl
     | some r =>
      simp only;rw[ih _ _ _ _ (Nat.le_trans h (SMP.run_mono _ _ _ _ hr))]
theorem Jjp {ops:Array Oper} {draw:Bool} {d:Tmp} {x:Operand} (h:Jcy P ops draw=some (d,x)) :
  0<ops.size∧draw=false∧∃ t:TypeId,(∃ e,P.underlying t=some (.slice e))∧∃ o,ops[ops.size-1]? = some o∧o.dst=some d∧o.guard=none∧∃ y,o.op = .binOp .eql t x (.const (.slice none 0 0)) y:=by
 unfold Jcy at h;split at h
 ·cases h
 ·rename_i hd;have hd:draw=false:=by simpa using hd
  split at h
  ·rename_i d' t x' y ty pos af ho;split at h
   ·rename_i e he;simp only[Jt8,Juq] at h;obtain⟨rfl,rfl⟩:=h;have hlt:=(Jul.1 ho).1;exact⟨by omega,hd,t,⟨e,he⟩,_,ho,rfl,rfl,_,rfl⟩
   ·cases h
  ·cases h
theorem JqL {t e:TypeId} (h:P.underlying t=some (.slice e)) (A:Option Addr) (l cap:Nat):JO P (Op.equal t (.slice A l cap) (.slice none 0 0))=some A.isNone:=by
 show JO P (Op.equalIn (9999+1) t _ _)=_;unfold Op.equalIn;rw[Q6,XA h];cases A <;> rfl
theorem JnA {a:Act} {w:World} {o:Oper} {t:TypeId} {x:Operand} {A:Option Addr} {l cap:Nat} (ht : ∃ e,P.underlying t=some (.slice e)) (ho : ∃ y,o.op = .binOp .eql t x (.const (.slice none 0 0)) y) (hA:a.eval x = .slice A l cap) :
  (execOp a.eval o).run P w = .ok (.value (.bool A.isNone)) w:=by
 obtain⟨e,ht⟩:=ht;obtain⟨y,ho⟩:=ho;have h1:JO P (do eqGuard .eql t x (.const (.slice none 0 0)) (.slice A l cap) (.slice none 0 0);binOp .eql t (.slice A l cap) (.slice none 0 0))=some (.bool A.isNone):=by
  show JO P (Op.equal t (.slice A l cap) (.slice none 0 0) >>= fun r=>pure (Value.bool r))=_;rw[Q6,JqL ht];rfl
 have h2:=Yo _ _ w h1;have hc:a.eval (.const (.slice none 0 0)) = .slice none 0 0:=rfl;unfold execOp;rw[ho];simp only[hA,hc,Sem.run_bind] at h2 ⊢;rw[h2];rfl
theorem WY {T:Tab} {G:Qd} {ops:Array Oper} {c:Cx P} {Q:Exit→Act→World→Prop} (hT:Wk c T) :∀(l l2:List Nat) (st st':St) (g:Gh) (a:Act) (w:World),Sim c g st.m w→Jw c g st.m w st.sl a→UI a.tmps.size ops=true→VJ P T G ops l st=some st' →
  (∀a' w' g',Sim c g' st'.m w'→Jw c g' st'.m w' st'.sl a'→Jf c g st.m w g' st'.m w'→a'.defers=a.defers→a'.tmps.size=a.tmps.size→wpOps P ops Q l2 a' w')→wpOps P ops Q (l++l2) a w
 | [],l2,st,st',g,a,w,hS,hsl,_,h,hQ=>by
  simp only[VJ,Jt8] at h;subst h;exact hQ a w g hS hsl (.refl _ _ _ _) rfl rfl
 | i::l,l2,st,st',g,a,w,hS,hsl,hd,h,hQ=>by
  simp only[VJ] at h;split at h
  ·rename_i st1 h1;rw[List.cons_append,wpOps_cons];refine WC hT hS hsl hd h1 fun a' w' g' hS' hsl' hC1 e1 e2=>?_;refine WY hT l l2 st1 st' g' a' w' hS' hsl' (by rw[e2];exact hd) h fun a'' w'' g'' h3 h4 hC2 h5 h6=>hQ a'' w'' g'' h3 h4 (hC1.trans hC2) (h5.trans e1) (h6.trans e2)
  ·cases h
theorem Jo2 {s:SSt} {c:Operand} {e:E} (h:sop s.sl c = .d (.vb e)):opX (γs ρ s.sl) c=X.d (.v (.bool (bol ρ e))):=by
 rw[QI,h];rfl
theorem Jk6 {s:SSt} {c:Operand} {e:E} {t:Bool} (h:sop s.sl c = .d (.vb e)) (hk:e.known=none) (ht:bol ρ e=t):γs ρ (Jqd c t s).sl=γs ρ s.sl∧(Jqd c t s).m=s.m:=by
 cases c with
 | tmp d =>
  refine⟨?_,rfl⟩;have hl:s.sl.lookup d=some (.d (.vb e)):=by
   simp only[sop] at h;cases hl:s.sl.lookup d with
   | none=>rw[hl] at h;cases h
   | some v=>rw[hl] at h;exact congrArg some h
  exact JlE hl ht
 | _=>exact⟨rfl,rfl⟩
theorem ZM {c:Cx P} {w:World} {a:Act} (id:Nat) {g0:Gh} {m0:Mem} {w0:World} :∀(l:List (Nat×JiE)) (s:SSt) (g:Gh),Sim c g (γm ρ s.m) w→Jw c g (γm ρ s.m) w (γs ρ s.sl) a→Jf c g0 m0 w0 g (γm ρ s.m) w →
  ∃ g',Sim c g' (γm ρ (Za l id s).m) w∧Jw c g' (γm ρ (Za l id s).m) w (γs ρ (Za l id s).sl) a∧Jf c g0 m0 w0 g' (γm ρ (Za l id s).m) w
 | [],s,g,hS,hH,hC=>⟨g,hS,hH,hC⟩
 | o::l,s,g,hS,hH,hC=>by
  unfold Za;simp only[List.foldl_cons]
  by_cases ho:(o.1 == id)=true
  ·rw[if_pos ho];obtain⟨g',h1,h2,h3⟩:=JnV o.2 hS hH hC;exact ZM id l _ g' h1 h2 h3
  ·rw[if_neg ho];exact ZM id l _ g hS hH hC
theorem Jy.trans {c:Nat} {ρ1 ρ2 ρ3:Env} (h:Jy c ρ1 ρ2) (h':Jy c ρ2 ρ3):Jy c ρ1 ρ3:=fun j hj=>(h' j hj).trans (h j hj)
theorem Jy.le {c d:Nat} {ρ1 ρ2:Env} (h:Jy d ρ1 ρ2) (hc:c≤d):Jy c ρ1 ρ2:=fun j hj=>h j (by omega)
theorem Jy.rfl' {c:Nat} {ρ:Env}:Jy c ρ ρ:=fun _ _=>rfl
theorem Jy.symm {c:Nat} {ρ1 ρ2:Env} (h:Jy c ρ1 ρ2):Jy c ρ2 ρ1:=fun j hj=>(h j hj).symm
theorem Jo3 (hB:BOk sg B) {c:Cx P} (hT:Wk c (X7 sg B)) (hm:P.follows .mixedOrders=true) (H:Z4) {g0:Gh} {m0:Mem} {w0:World} (hl :∀k,m0 k≠none→k<H.nl) :
  ∀(C:Code) (s:SSt) (n:Nat) (k:Out→SSt→Nat→Option R) (R:R) (ρ:Env) (o:Oc) (a:Act) (w:World) (g:Gh) (Q:Exit→Act→World→Prop),
  sxC P sg H C s n k=some R→Run B N R ρ o→Sim c g (γm ρ s.m) w→Jw c g (γm ρ s.m) w (γs ρ s.sl) a→Jf c g0 m0 w0 g (γm ρ s.m) w→codeOk a.tmps.size C=true →
  (∀ex s' n' R' ρ' a' w' g',n≤n'→Jy n ρ ρ'→k ex s' n'=some R'→Run B N R' ρ' o→Sim c g' (γm ρ' s'.m) w'→Jw c g' (γm ρ' s'.m) w' (γs ρ' s'.sl) a'→Jf c g0 m0 w0 g' (γm ρ' s'.m) w'→a'.defers=a.defers→a'.tmps.size=a.tmps.size→Q ex.exitOf a' w') →
  C.wp P Q a w:=by
 intro C
 induction C with
 | skip =>
  intro s n k R ρ o a w g Q h hr hS hH hC hc hQ;exact wp_skip (hQ .norm s n R ρ a w g (Nat.le_refl _) Jy.rfl' h hr hS hH hC rfl rfl)
 | exit id =>
  intro s n k R ρ o a w g Q h hr hS hH hC hc hQ;exact wp_exit (hQ (.exit id) s n R ρ a w g (Nat.le_refl _) Jy.rfl' h hr hS hH hC rfl rfl)
 | ret =>
  intro s n k R ρ o a w g Q h hr hS hH hC hc hQ;exact wp_ret (hQ .ret s n R ρ a w g (Nat.le_refl _) Jy.rfl' h hr hS hH hC rfl rfl)
 | region id ops draw =>
  intro s n k R ρ o a w g Q h hr hS hH hC hc hQ;simp only[sxC] at h;split at h
  ·simp only[Jt8] at h;subst h;obtain⟨h1,_⟩:=hr;exact absurd h1 (by simp[I.holds,bol,den,V.bool])
  obtain⟨g1,hS1,hH1,hC1⟩:=ZM id H.own s g hS hH hC;generalize Za H.own id s=s1 at *;cases hin:(if H.inner.contains id && !draw then Ua ops else none) with
  | some q =>
   rw[hin] at h;simp only at h;have hq:draw=false∧Ua ops=some q:=by
    split at hin
    ·rename_i hcc;simp only[Jt9,Bool.not_eq_true'] at hcc;exact⟨hcc.2,hin⟩
    ·cases hin
   obtain⟨rfl,hq⟩:=hq;rw[Ul n _ (fun sl m n' tl=>if n≤n' then(match Wg P sg q sl m n' with
    | some r=>match k .norm ⟨X1 H.keep r.2.1,r.2.2.1⟩ r.2.2.2 with
     | some x=>some (JaC r.1 x)
     | none=>none
    | none=>none) else none)
    (fun sl m n' t hn=>by rw[if_pos hn]) _ _ _ _ _ (Nat.le_refl n)] at h
   obtain⟨sl',m',n',tl,R',e1,e2,e3⟩:=Jaw (G:={ deep:=H.deep,no:=H.no,bor:=H.bor }) (N:=N) (ρ:=ρ) hB _ _ _ _ _ _ R o h hr;split at e2
   ·rename_i hn;split at e2
    ·rename_i r hsx;obtain⟨is,sl2,m2,n2⟩:=r;split at e2
     ·rename_i R2 hk2;simp only[Jt8] at e2;subst e2;obtain⟨his,hr2⟩:=Vg _ _ _ e3;have hn2:n'≤n2:=Jhk (fun p m n r h=>SMP.run_mono p m n r h) hsx;refine wp_region ?_;have hsz4:4≤ops.size:=by
       unfold Ua at hq;split at hq
       ·split at hq
        ·split at hq
         ·rename_i hc4;exact hc4.1
         ·cases hq
        ·cases hq
       ·cases hq
      have hrange:List.range ops.size=List.range' 0 (ops.size-4)++[ops.size-4,ops.size-3,ops.size-2,ops.size-1]:=by
       rw[List.range_eq_range'];have:ops.size=(ops.size-4)+1+1+1+1:=by omega
       conv=>lhs;rw[this,List.range'_concat,List.range'_concat,List.range'_concat,List.range'_concat]
       simp only[List.append_assoc,List.singleton_append,Nat.zero_add,Nat.one_mul,List.append_cancel_left_eq];rw[show ops.size-3=ops.size-4+1 by omega,show ops.size-2=ops.size-4+2 by omega,show ops.size-1=ops.size-4+3 by omega];rfl
      rw[hrange];refine WY hT _ [ops.size-4,ops.size-3,ops.size-2,ops.size-1] _ _ _ _ _ hS1 hH1 hc (Uo (G:={ deep:=H.deep,no:=H.no,bor:=H.bor }) _ _ _ _ e1) fun a' w' g' hS2 hH2 hC2 hd2 hz2=>?_;have hc':UI a'.tmps.size ops=true:=by rw[hz2];exact hc
      refine(Jjt hB hT hS2 hH2 hc' hq hsx his fun a'' w'' g'' h1 h2 h3 h4 h5=>?_).2;exact hQ .norm _ n2 R2 ρ a'' w'' g'' (Nat.le_trans hn hn2) Jy.rfl' hk2 hr2 h1 (JdE H.keep h2) ((hC1.trans hC2).trans h3) (h4.trans hd2) (h5.trans hz2)
     ·cases e2
    ·cases e2
   ·cases e2
  | none =>
  rw[hin] at h;simp only at h;cases hnl:Jcy P ops draw with
  | some dx =>
   obtain⟨d,x⟩:=dx;rw[hnl] at h;simp only at h;obtain⟨ho,hdr,t,ht,o0,hop,hod,hog,hopp⟩:=Jjp hnl;subst hdr;rw[Ul n _ (fun sl m n' tl=>if n≤n' then(match sop sl x with
    | .d (.s l)=>if SSt.under n' ⟨sl,m⟩ then match k .norm ⟨X1 H.keep ((d,.d (.vb .tt))::sl),m⟩ n',k .norm ⟨X1 H.keep ((d,.d (.vb .ff))::sl),m⟩ n' with
     | some x,some y=>some (.nilq n' l x y)
     | _,_=>none
     else none
    | _=>none) else none)
    (fun sl m n' t hn=>by rw[if_pos hn]) _ _ _ _ _ (Nat.le_refl n)] at h
   obtain⟨sl',m',n',tl,R',e1,e2,e3⟩:=Jaw (G:={ deep:=H.deep,no:=H.no,bor:=H.bor }) (N:=N) (ρ:=ρ) hB _ _ _ _ _ _ R o h hr;split at e2
   ·rename_i hn;split at e2
    ·rename_i l hl;split at e2
     ·rename_i hund;split at e2
      ·rename_i R1 R2 hk1 hk2;simp only[Jt8] at e2;subst e2;obtain⟨⟨ρy,hay,hry⟩,hx⟩:=e3;refine wp_region ?_;have hrange:List.range ops.size=List.range' 0 (ops.size-1)++[ops.size-1]:=by
        rw[List.range_eq_range'];have:ops.size=(ops.size-1)+1:=by omega
        conv=>lhs;rw[this,List.range'_concat]
        simp
       rw[hrange];refine WY hT _ [ops.size-1] _ _ _ _ _ hS1 hH1 hc (Uo (G:={ deep:=H.deep,no:=H.no,bor:=H.bor }) _ _ _ _ e1) fun a' w' g' hS2 hH2 hC2 hd2 hz2=>?_;rw[wpOps_cons];have hv:=oX1 hH2 x;rw[QI,hl] at hv;obtain⟨fp,⟨A,cap,hA,hle,hrest⟩,hok⟩:=hv;have hexec:(execOp a'.eval o0).run P w' = .ok (.value (.bool A.isNone)) w':=JnA ht hopp hA;have hdlt:d<a'.tmps.size:=by
        have h0:UI a.tmps.size ops=true:=hc;have:=Array.all_eq_true_iff_forall_mem.1 h0 o0 (Array.mem_of_getElem? hop);rw[hod] at this;rw[hz2];simpa using this
       unfold wpOp;rw[hop];have hwant:Region.wanted o0 (yielded ops a'.tmps)=true:=by unfold Region.wanted;rw[hog]
       simp only[hwant,if_true];refine .inl ?_;unfold Oper.wp;rw[hexec];show wpOps P ops Q [] (a'.put o0.dst (.bool A.isNone)) w';have hput :∀(tb:Bool),A.isNone=tb→Jw c g' (γm ρ m') w' (γs ρ ((d,.d (.vb (Ub tb)))::sl')) (a'.put o0.dst (.bool A.isNone)):=by
        intro tb htb;rw[JcF,htb];have:=Jw.put (o:=o0) (x:=γX ρ (.d (.vb (Ub tb)))) (v:= .bool tb) hH2 (.refl _ _ _ _) (fun d' hd'=>by rw[hod] at hd';cases hd';exact hdlt) (by
         show VX c g' _ w' (X.d (.v (.bool (bol ρ (Ub tb))))) _;have:bol ρ (Ub tb)=tb:=by cases tb <;> rfl
         rw[this];exact⟨[],⟨rfl,rfl,rfl⟩,fun b hb=>by simp at hb⟩)
        rw[hod] at this ⊢;exact this
       have hC3:=hC1.trans hC2;have fin :∀(tb:Bool) (Rb:Go.Tm.R) (ρb:Env),A.isNone=tb→Jy n' ρ ρb→k .norm ⟨X1 H.keep ((d,.d (.vb (Ub tb)))::sl'),m'⟩ n'=some Rb→Run B N Rb ρb o→Q .normal (a'.put o0.dst (.bool A.isNone)) w':=by
        intro tb Rb ρb htb hab hkb hrb;have hund2:SSt.under n' ⟨(d,.d (.vb (Ub tb)))::sl',m'⟩=true:=by
         unfold SSt.under at hund ⊢;simp only[Jt9,List.all_cons] at hund ⊢;exact⟨⟨by cases tb <;> rfl,hund.1⟩,hund.2⟩
        obtain⟨u1,u2⟩:=JnP hab hund2;refine hQ .norm _ n' Rb ρb _ w' g' hn (hab.le hn) hkb hrb (by rw[u2];exact hS2) (JdE H.keep ?_) (by rw[u2];exact hC3) ((WS _ _ _).trans hd2) ((Jei _ _ _).trans hz2);rw[u2];show Jw c g' _ w' (γs ρb ((d,.d (.vb (Ub tb)))::sl')) _;rw[u1];exact hput tb htb
       cases hA':A.isNone with
       | true =>
        have hnil:lst ρ l=[]:=by
         rcases hrest with ⟨h1,_⟩ | ⟨b,o,sz,fp',h1,_⟩
         ·exact h1
         ·rw[h1] at hA';cases hA'
        obtain⟨ρx,hax,hrx⟩:=hx hnil;have:=fin true R1 ρx hA' hax hk1 hrx;rw[hA'] at this;exact this
       | false =>
        have:=fin false R2 ρy hA' hay hk2 hry;rw[hA'] at this;exact this
      ·cases e2
     ·cases e2
    ·cases e2
   ·cases e2
  | none =>
  rw[hnl] at h;simp only at h;rw[Ul n _ (fun sl m n' tl=>if n≤n' then(match Jg4 ops draw tl with | true=>k .norm ⟨X1 H.keep sl,m⟩ n' | false=>none) else none)
   (fun sl m n' t hn=>by rw[if_pos hn]) _ _ _ _ _ (Nat.le_refl n)] at h
  obtain⟨sl',m',n',tl,R',e1,e2,e3⟩:=Jaw (G:={ deep:=H.deep,no:=H.no,bor:=H.bor }) (N:=N) (ρ:=ρ) hB _ _ _ _ _ _ R o h hr;simp only[List.reverse_nil,List.nil_append] at e2;split at e2
  ·rename_i hn;cases hd:Jg4 ops draw tl with
   | false=>rw[hd] at e2;cases e2
   | true =>
    rw[hd] at e2;have hreg:JaN P (X7 sg B) { deep:=H.deep,no:=H.no,bor:=H.bor } id ops draw ⟨γs ρ s1.sl,γm ρ s1.m⟩=some ⟨γs ρ sl',γm ρ m'⟩:=by
     unfold JaN;cases draw with
     | false =>
      simp only[Jup,if_false];exact Uo _ _ _ _ e1
     | true =>
      simp only[if_true,e1];unfold Jg4 at hd;simp only[Bool.not_true,Bool.false_or] at hd;simp only[hd,if_true]
    refine Jgy hT hm (g0:=g0) (m0:=m0) (w0:=w0) hC1 hS1 hH1 hc hreg fun a' w' g' h1 h2 h3 h4 h5=>?_;exact hQ .norm _ n' R' ρ a' w' g' hn Jy.rfl' e2 e3 h1 (JdE H.keep h2) h3 h4 h5
  ·cases e2
 | seq x y ihx ihy =>
  intro s n k R ρ o a w g Q h hr hS hH hC hc hQ;simp only[codeOk,Jt9] at hc;simp only[sxC] at h;refine wp_seq ?_;refine ihx s n _ R ρ o a w g _ h hr hS hH hC hc.1 fun ex s' n' R' ρ' a' w' g' hn hag hk hr' hS' hH' hC' hd hz=>?_;cases ex with
  | norm =>
   refine ihy s' n' k R' ρ' o a' w' g' Q hk hr' hS' hH' hC' (by rw[hz];exact hc.2) fun ex s2 n2 R2 ρ2 a2 w2 g2 hn2 hag2 hk2 hr2 hS2 hH2 hC2 hd2 hz2=>?_;exact hQ ex s2 n2 R2 ρ2 a2 w2 g2 (Nat.le_trans hn hn2) (hag.trans (hag2.le hn)) hk2 hr2 hS2 hH2 hC2 (hd2.trans hd) (hz2.trans hz)
  | exit id=>exact hQ (.exit id) s' n' R' ρ' a' w' g' hn hag hk hr' hS' hH' hC' hd hz
  | ret=>exact hQ .ret s' n' R' ρ' a' w' g' hn hag hk hr' hS' hH' hC' hd hz
 | cond b x y ihx ihy =>
  intro s n k R ρ o a w g Q h hr hS hH hC hc hQ;simp only[codeOk,Jt9] at hc;simp only[sxC] at h;split at h
  ·rename_i e he;have hv:=oX1 hH b;rw[Jo2 he] at hv;have hv:=(Qj hv).1;refine wp_cond hv ?_;split at h
   ·rename_i hk;rw[Z8 hk];simp only[if_true];exact ihx s n k R ρ o a w g Q h hr hS hH hC hc.1 hQ
   ·rename_i hk;rw[Z8 hk];simp only[Jup,if_false];exact ihy s n k R ρ o a w g Q h hr hS hH hC hc.2 hQ
   ·rename_i hk;split at h
    ·rename_i x' y' hx hy;simp only[Jt8] at h;subst h;simp only[Run] at hr;cases hb:bol ρ e with
     | true =>
      rw[hb] at hr;simp only[if_true] at hr ⊢;obtain⟨e1,e2⟩:=Jk6 (t:=true) he hk hb;exact ihx _ n k x' ρ o a w g Q hx hr (by rw[e2];exact hS) (by rw[e1,e2];exact hH) (by rw[e2];exact hC) hc.1 hQ
     | false =>
      rw[hb] at hr;simp only[Jup,if_false] at hr ⊢;obtain⟨e1,e2⟩:=Jk6 (t:=false) he hk hb;exact ihy _ n k y' ρ o a w g Q hy hr (by rw[e2];exact hS) (by rw[e1,e2];exact hH) (by rw[e2];exact hC) hc.2 hQ
    ·cases h
  ·cases h
 | block id x ih =>
  intro s n k R ρ o a w g Q h hr hS hH hC hc hQ;simp only[codeOk] at hc;simp only[sxC] at h;refine wp_block ?_;refine ih s n _ R ρ o a w g _ h hr hS hH hC hc fun ex s' n' R' ρ' a' w' g' hn hag hk hr' hS' hH' hC' hd hz=>?_;cases ex with
  | norm=>exact hQ .norm s' n' R' ρ' a' w' g' hn hag hk hr' hS' hH' hC' hd hz
  | ret=>exact hQ .ret s' n' R' ρ' a' w' g' hn hag hk hr' hS' hH' hC' hd hz
  | exit j =>
   simp only at hk;split at hk
   ·rename_i hj;have:=hQ .norm s' n' R' ρ' a' w' g' hn hag hk hr' hS' hH' hC' hd hz;simpa[Exit.inBlock,Out.exitOf,hj] using this
   ·rename_i hj;have:=hQ (.exit j) s' n' R' ρ' a' w' g' hn hag hk hr' hS' hH' hC' hd hz;simpa[Exit.inBlock,Out.exitOf,hj] using this
 | loop x ih =>
  intro s n k R ρ o a w g Q h hr hS hH hC hc hQ;simp only[codeOk] at hc;simp only[sxC] at h;obtain⟨g1,hS1,hH1,hC1⟩:=ZM (YO x) H.own s g hS hH hC;generalize Za H.own (YO x) s=s1 at *;generalize genT (JiI H (YO x)) s1 n=t at *;split at h
  ·cases h
  ·rename_i init hinit;split at h
   ·rename_i body hbody;simp only[Jt8] at h;subst h;simp only[Run] at hr;refine wp_loop_rounds N ?_;have key :∀(j:Nat) (vs:List V) (g:Gh) (a':Act) (w:World),JcD (fun vs o1=>∃ ρ',Jy n ρ ρ'∧Jcn n vs ρ'∧Run B N body ρ' o1) j vs o →
      (∀ρ',Jy n ρ ρ'→Jcn n vs ρ'→Sim c g (γm ρ' t.1.m) w∧Jw c g (γm ρ' t.1.m) w (γs ρ' t.1.sl) a'∧Jf c g0 m0 w0 g (γm ρ' t.1.m) w) →
      a'.defers=a.defers→a'.tmps.size=a.tmps.size→Code.rounds P x Q j a' w:=by
     intro j
     induction j with
     | zero=>intro vs g a' w hrel;exact hrel.elim
     | succ j ihj =>
      intro vs g a' w hrel hst hda hza;rw[rounds_succ];rcases hrel with ⟨vs',⟨ρ',hag,hset,hrun⟩,hrel⟩ | ⟨ρ',hag,hset,hrun⟩
      ·obtain⟨q1,q2,q3⟩:=hst ρ' hag hset;refine ih t.1 (n+t.2) _ body ρ' _ a' w g _ hbody hrun q1 q2 q3 (by rw[hza];exact hc) fun ex s' n' R' ρ2 a2 w2 g2 hn2 hag2 hk2 hr2 hS2 hH2 hC2 hd2 hz2=>?_;cases ex with
       | norm =>
        simp only at hk2;split at hk2
        ·rename_i vsE hvs;simp only[Jt8] at hk2;subst hk2;simp only[Run,Oc.next.injEq] at hr2;subst hr2;obtain⟨g3,hS3,hH3,hC3⟩:=Jg7 hl t.1 hS2 hH2 hC2;refine ihj _ g3 a2 w2 hrel (fun ρ3 hag3 hset3=>?_) (hd2.trans hda) (hz2.trans hza);have hag4:Jy n ρ ρ2:=hag.trans (hag2.le (by omega));exact WA hvs (hag4.symm.trans hag3) hset3 hl hS3 hH3 hC3
        ·cases hk2
       | exit id =>
        simp only at hk2;split at hk2
        ·simp only[Jt8] at hk2;subst hk2;obtain⟨o',ho',_⟩:=hr2;cases ho'
        ·cases hk2
       | ret =>
        simp only at hk2;split at hk2
        ·simp only[Jt8] at hk2;subst hk2;obtain⟨o',ho',_⟩:=hr2;cases ho'
        ·cases hk2
      ·obtain⟨q1,q2,q3⟩:=hst ρ' hag hset;refine ih t.1 (n+t.2) _ body ρ' _ a' w g _ hbody hrun q1 q2 q3 (by rw[hza];exact hc) fun ex s' n' R' ρ2 a2 w2 g2 hn2 hag2 hk2 hr2 hS2 hH2 hC2 hd2 hz2=>?_;have hag4:Jy n ρ ρ2:=hag.trans (hag2.le (by omega));cases ex with
       | norm =>
        simp only at hk2;split at hk2
        ·simp only[Jt8] at hk2;subst hk2;simp only[Run] at hr2;cases hr2
        ·cases hk2
       | exit id =>
        simp only at hk2;split at hk2
        ·rename_i r hkr;simp only[Jt8] at hk2;subst hk2;obtain⟨o',ho',hr3⟩:=hr2;cases ho';exact hQ (.exit id) s' n' r ρ2 a2 w2 g2 (by omega) hag4 hkr hr3 hS2 hH2 hC2 (hd2.trans hda) (hz2.trans hza)
        ·cases hk2
       | ret =>
        simp only at hk2;split at hk2
        ·rename_i r hkr;simp only[Jt8] at hk2;subst hk2;obtain⟨o',ho',hr3⟩:=hr2;cases ho';exact hQ .ret s' n' r ρ2 a2 w2 g2 (by omega) hag4 hkr hr3 hS2 hH2 hC2 (hd2.trans hda) (hz2.trans hza)
        ·cases hk2
    obtain⟨gi,hSi,hHi,hCi⟩:=Jg7 hl t.1 hS1 hH1 hC1;exact key N _ gi a w hr (fun ρ' hag hset=>WA hinit hag hset hl hSi hHi hCi) rfl rfl
   ·cases h
 | _=>intro s n k R ρ o a w g Q h;simp[sxC] at h
end
end Go.Tm
end
section
namespace Go.Tm
open Go.IntKind (i64)
def Jls:D→Bool
 | .v (.slice none 0 0)=>false
 | x=>x.one
def Sh1.toV:Sh1→D→Option V
 | .i k,.v (.int k' n)=>if k=k' then some (.i n) else none
 | .b,.v (.bool t)=>some (.b t)
 | .s,.s es=>some (.l es)
 | .d,x=>if Jls x then some (.d x) else none
 | _,_=>none
def XH:List Sh1→List D→Nat→Env→Option Env
 | [],[],_,ρ=>some ρ
 | a::as,d::ds,n,ρ=>match a.toV d with
  | some v=>XH as ds (n+1) (upd ρ n v)
  | none=>none
 | _,_,_,_=>none
def Sh.bind:Sh→D→Nat→Env→Option Env
 | .one a,d,n,ρ=>XH [a] [d] n ρ
 | .g as,.g cs,n,ρ=>XH as cs n ρ
 | .q as,.q cs,n,ρ=>XH as cs n ρ
 | _,_,_,_=>none
def XR (B : Tb) : I → Env → Option Env
  | .chk b,ρ=>if bol ρ b then some ρ else none
  | .head sz l,ρ=>if Yb sz (lst ρ l) then some ρ else none
  | .fl l,ρ=>if JI (lst ρ l) then some ρ else none
  | .get e sh n,ρ=>sh.bind (dat ρ e) n ρ
  | .idx l i sh n,ρ=>if 0≤int ρ i then match (lst ρ l)[(int ρ i).toNat]? with
      | some d=>sh.bind d n ρ
      | none=>none
    else none
  | .call f as rs n,ρ=>match B.call f (as.map (dat ρ)) with
    | some ds=>XH rs ds n ρ
    | none=>none
  | .prim p as r n,ρ=>match ZY p (as.map (dat ρ)) with
    | some d=>XH [r] [d] n ρ
    | none=>none
  | .callv e as ar rs n,ρ=>match dat ρ e with
    | .f fn caps=>if B.ar fn=some (ar++caps.map fun _=>none) then match B.call fn (as.map (dat ρ)++caps.map D.norm) with
        | some ds=>XH rs ds n ρ
        | none=>none
      else none
    | _=>none
def UH (f:List V→Option Oc):Nat→List V→Option Oc
 | 0,_=>none
 | n+1,vs=>match f vs with
  | some (.next vs')=>UH f n vs'
  | some (.esc o)=>some o
  | _=>none
def XP:Nat→List V→Env→Env
 | _,[],ρ=>ρ
 | c,v::vs,ρ=>XP (c+1) vs (upd ρ c v)
open Classical in
noncomputable def JH (B:Tb) (N:Nat):R→Env→Option Oc
 | .i x r,ρ=>match XR B x ρ with
  | some ρ'=>JH B N r ρ'
  | none=>none
 | .ite b x y,ρ=>if bol ρ b then JH B N x ρ else JH B N y ρ
 | .nilq _ l x y,ρ=>match lst ρ l with
  | []=>if JH B N x ρ=JH B N y ρ then JH B N y ρ else none
  | _::_=>JH B N y ρ
 | .loop c init body,ρ=>UH (fun vs=>JH B N body (XP c vs ρ)) N (init.map (den ρ))
 | .next vs,ρ=>some (.next (vs.map (den ρ)))
 | .done vs,ρ=>some (.done (vs.map (dat ρ)))
 | .esc r,ρ=>match JH B N r ρ with
  | some o=>some (.esc o)
  | none=>none
def I.wf (c:Nat):I→Bool
 | .chk b=>b.under c
 | .head _ l=>l.under c
 | .fl l=>l.under c
 | .get e _ n=>e.under c&&n == c
 | .idx l i _ n=>l.under c&&i.under c&&n == c
 | .call _ as _ n=>as.all (E.under c)&&n == c
 | .callv e as _ _ n=>e.under c&&as.all (E.under c)&&n == c
 | .prim _ as _ n=>as.all (E.under c)&&n == c
def I.size:I→Nat
 | .chk _ | .head _ _ | .fl _=>0
 | .get _ sh _ | .idx _ _ sh _=>sh.size
 | .call _ _ rs _ | .callv _ _ _ rs _=>rs.length
 | .prim _ _ _ _=>1
def R.wf:R→Nat→List Nat→Bool
 | .i x r,c,st=>x.wf c&&r.wf (c+x.size) st
 | .ite b x y,c,st=>b.under c&&x.wf c st&&y.wf c st
 | .nilq c' l x y,c,st=>c' == c&&l.under c&&x.wf c st&&y.wf c st
 | .loop c' init body,c,st=>c' == c&&init.all (E.under c)&&body.wf (c+init.length) (init.length::st)
 | .next vs,c,st=>vs.all (E.under c)&&st.head? == some vs.length
 | .done vs,c,_=>vs.all (E.under c)
 | .esc r,c,st=>r.wf c st.tail
def Oc.conf:Oc→List Nat→Prop
 | .next vs,st=>st.head? = some vs.length
 | .done _,_=>True
 | .esc o,st=>o.conf st.tail
section
variable {B:Tb} {N:Nat}
theorem Jqz {a:Sh1} {d:D} {v:V} {n:Nat} {ρ:Env} (h:a.toV d=some v) (hr:ρ n=v):dat ρ (a.expr n)=d:=by
 unfold Sh1.toV at h;split at h
 ·split at h
  ·rename_i hk;subst hk;simp only[Jt8] at h;subst h;show D.v (.int _ (V.int (ρ n)))=_;rw[hr];rfl
  ·cases h
 ·simp only[Jt8] at h;subst h;show D.v (.bool (V.bool (ρ n)))=_;rw[hr];rfl
 ·simp only[Jt8] at h;subst h;show D.s (V.lst (ρ n))=_;rw[hr];rfl
 ·split at h
  ·rename_i hx;simp only[Jt8] at h;subst h;show Xu (V.dat (ρ n))=_;rw[hr];show Xu d=d;unfold Jls at hx;split at hx
   ·cases hx
   ·rename_i hne;rw[Ui hx];unfold D.norm;split
    ·exact absurd rfl hne
    ·rfl
  ·cases h
 ·cases h
theorem XZ :∀(as:List Sh1) (ds:List D) (n:Nat) (ρ ρ':Env),XH as ds n ρ=some ρ'→as.length=ds.length∧Jy n ρ ρ'∧∀ρ2,Jy (n+as.length) ρ' ρ2→(JB as n).map (dat ρ2)=ds
 | [],[],n,ρ,ρ',h=>by
  simp only[XH,Jt8] at h;subst h;exact⟨rfl,Jy.rfl',fun _ _=>rfl⟩
 | [],_::_,n,ρ,ρ',h=>by simp[XH] at h
 | _::_,[],n,ρ,ρ',h=>by simp[XH] at h
 | a::as,d::ds,n,ρ,ρ',h=>by
  simp only[XH] at h;split at h
  ·rename_i v hv;obtain⟨h1,h2,h3⟩:=XZ as ds (n+1) _ ρ' h;refine⟨by simp[h1],fun j hj=>?_,fun ρ2 h4=>?_⟩
   ·rw[h2 j (by omega),uO1 _ _ (by omega)]
   ·simp only[JB,Juh];rw[h3 ρ2 (by rw[show n+1+as.length=n+(a::as).length by simp;omega];exact h4)]
    congr 1
    refine Jqz hv ?_;rw[h4 n (by simp),h2 n (by omega),uS1]
  ·cases h
theorem Jdn {sh:Sh} {d:D} {n:Nat} {ρ ρ':Env} (h:sh.bind d n ρ=some ρ'):Jy n ρ ρ'∧∀ρ2,Jy (n+sh.size) ρ' ρ2→dat ρ2 (sh.expr n)=d:=by
 unfold Sh.bind at h;split at h
 ·obtain⟨_,h2,h3⟩:=XZ _ _ _ _ _ h;refine⟨h2,fun ρ2 h4=>?_⟩;have:=h3 ρ2 h4;simp only[JB,Juh,List.map_nil,List.cons.injEq,and_true] at this;exact this
 ·obtain⟨_,h2,h3⟩:=XZ _ _ _ _ _ h;refine⟨h2,fun ρ2 h4=>?_⟩;show D.g (lst ρ2 (J7 _))=_;rw[JF,h3 ρ2 h4]
 ·obtain⟨_,h2,h3⟩:=XZ _ _ _ _ _ h;refine⟨h2,fun ρ2 h4=>?_⟩;show D.q (lst ρ2 (J7 _))=_;rw[JF,h3 ρ2 h4]
 ·cases h
theorem Jbv {f:Env→E→D} {c:Nat} {ρ ρ':Env} (hf :∀e,e.under c=true→f ρ' e=f ρ e) {as:List E} (h:as.all (E.under c)=true):as.map (f ρ')=as.map (f ρ) :=
 Juv fun e he=>hf e (Jum.1 h e he)
theorem K4 {c:Nat} {ρ ρ':Env} (h:Jy c ρ ρ') (e:E) (hu:e.under c=true):dat ρ' e=dat ρ e:=by unfold dat;rw[Yh h e hu]
theorem Jbu {c:Nat} {ρ ρ':Env} (h:Jy c ρ ρ') (e:E) (hu:e.under c=true):lst ρ' e=lst ρ e:=by unfold lst;rw[Yh h e hu]
theorem Jmh {c:Nat} {ρ ρ':Env} (h:Jy c ρ ρ') (e:E) (hu:e.under c=true):int ρ' e=int ρ e:=by unfold int;rw[Yh h e hu]
theorem Jbw {c:Nat} {ρ ρ':Env} (h:Jy c ρ ρ') (e:E) (hu:e.under c=true):bol ρ' e=bol ρ e:=by unfold bol;rw[Yh h e hu]
theorem JnU {x:I} {c:Nat} {ρ ρ':Env} (h:XR B x ρ=some ρ') (hw:x.wf c=true):Jy c ρ ρ'∧∀ρ2,Jy (c+x.size) ρ' ρ2→x.holds B ρ2:=by
 cases x with
 | chk b =>
  simp only[XR] at h;split at h
  ·rename_i hb;simp only[Jt8] at h;subst h;exact⟨Jy.rfl',fun ρ2 h2=>by show bol ρ2 b=true;rw[Jbw h2 b hw];exact hb⟩
  ·cases h
 | head sz l =>
  simp only[XR] at h;split at h
  ·rename_i hb;simp only[Jt8] at h;subst h;exact⟨Jy.rfl',fun ρ2 h2=>by show Yb sz (lst ρ2 l)=true;rw[Jbu h2 l hw];exact hb⟩
  ·cases h
 | fl l =>
  simp only[XR] at h;split at h
  ·rename_i hb;simp only[Jt8] at h;subst h;exact⟨Jy.rfl',fun ρ2 h2=>by show JI (lst ρ2 l)=true;rw[Jbu h2 l hw];exact hb⟩
  ·cases h
 | get e sh n =>
  simp only[I.wf,Jt9,beq_iff_eq] at hw;obtain⟨hu,rfl⟩:=hw;simp only[XR] at h;obtain⟨h1,h2⟩:=Jdn h;refine⟨h1,fun ρ2 h3=>?_⟩;show dat ρ2 e=dat ρ2 (sh.expr n);rw[h2 ρ2 h3,K4 (h1.trans (h3.le (by omega))) e hu]
 | idx l i sh n =>
  simp only[I.wf,Jt9,beq_iff_eq] at hw;obtain⟨⟨hu,hu2⟩,rfl⟩:=hw;simp only[XR] at h;split at h
  ·rename_i h0;split at h
   ·rename_i d hd;obtain⟨h1,h2⟩:=Jdn h;refine⟨h1,fun ρ2 h3=>?_⟩;have ha:=h1.trans (h3.le (by omega));show 0≤int ρ2 i∧(lst ρ2 l)[(int ρ2 i).toNat]? = some (dat ρ2 (sh.expr n));rw[h2 ρ2 h3,Jmh ha i hu2,Jbu ha l hu];exact⟨h0,hd⟩
   ·cases h
  ·cases h
 | call f as rs n =>
  simp only[I.wf,Jt9,beq_iff_eq] at hw;obtain⟨hu,rfl⟩:=hw;simp only[XR] at h;split at h
  ·rename_i ds hds;obtain⟨_,h1,h2⟩:=XZ _ _ _ _ _ h;refine⟨h1,fun ρ2 h3=>?_⟩;have ha:=h1.trans (h3.le (by omega));show B.call f (as.map (dat ρ2))=some ((JB rs n).map (dat ρ2));rw[h2 ρ2 h3,Jbv (f:=dat) (fun e he=>K4 ha e he) hu];exact hds
  ·cases h
 | prim p as r n =>
  simp only[I.wf,Jt9,beq_iff_eq] at hw;obtain⟨hu,rfl⟩:=hw;simp only[XR] at h;split at h
  ·rename_i d hds;obtain⟨_,h1,h2⟩:=XZ _ _ _ _ _ h;refine⟨h1,fun ρ2 h3=>?_⟩;have ha:=h1.trans (h3.le (by omega));have h4:=h2 ρ2 h3;show ZY p (as.map (dat ρ2))=some (dat ρ2 (r.expr n));rw[Jbv (f:=dat) (fun e he=>K4 ha e he) hu,hds];have h5:[d]=[dat ρ2 (r.expr n)]:=by simpa[JB] using h4.symm
   simp only[List.cons.injEq,and_true] at h5;rw[h5]
  ·cases h
 | callv e as ar rs n =>
  simp only[I.wf,Jt9,beq_iff_eq] at hw;obtain⟨⟨hu,hu2⟩,rfl⟩:=hw;simp only[XR] at h;split at h
  ·rename_i fn caps hd;split at h
   ·rename_i har;split at h
    ·rename_i ds hds;obtain⟨_,h1,h2⟩:=XZ _ _ _ _ _ h;refine⟨h1,fun ρ2 h3=>?_⟩;have ha:=h1.trans (h3.le (by omega));refine⟨fn,caps,by rw[K4 ha e hu];exact hd,har,?_⟩;rw[h2 ρ2 h3,Jbv (f:=dat) (fun e he=>K4 ha e he) hu2];exact hds
    ·cases h
   ·cases h
  ·cases h
theorem Ja7 :∀(vs:List V) (c:Nat) (ρ:Env),Jy c ρ (XP c vs ρ)∧Jcn c vs (XP c vs ρ)
 | [],c,ρ=>⟨Jy.rfl',fun j v h=>by simp at h⟩
 | v::vs,c,ρ=>by
  obtain⟨h1,h2⟩:=Ja7 vs (c+1) (upd ρ c v);refine⟨fun j hj=>?_,fun j u hj=>?_⟩
  ·show XP (c+1) vs (upd ρ c v) j=ρ j;rw[h1 j (by omega),uO1 _ _ (by omega)]
  ·show XP (c+1) vs (upd ρ c v) (c+j)=u;cases j with
   | zero =>
    simp at hj;subst hj;rw[h1 (c+0) (by omega)];exact uS1 _ _ _
   | succ j =>
    have:=h2 j u (by simpa using hj);rw[←this];congr 1;omega
theorem Jmc :∀(r:R) (c:Nat) (st:List Nat) (ρ:Env) (o:Oc),JH B N r ρ=some o→r.wf c st=true→o.conf st:=by
 intro r
 induction r with
 | i x r ih =>
  intro c st ρ o h hw;simp only[R.wf,Jt9] at hw;simp only[JH] at h;split at h
  ·exact ih _ st _ o h hw.2
  ·cases h
 | ite b x y ihx ihy =>
  intro c st ρ o h hw;simp only[R.wf,Jt9] at hw;simp only[JH] at h;split at h
  ·exact ihx c st ρ o h hw.1.2
  ·exact ihy c st ρ o h hw.2
 | nilq c' l x y ihx ihy =>
  intro c st ρ o h hw;simp only[R.wf,Jt9] at hw;simp only[JH] at h;split at h
  ·split at h
   ·exact ihy c st ρ o h hw.2
   ·cases h
  ·exact ihy c st ρ o h hw.2
 | loop c' init body ih =>
  intro c st ρ o h hw;simp only[R.wf,Jt9] at hw;simp only[JH] at h;have key :∀(n:Nat) (vs:List V),UH (fun vs=>JH B N body (XP c' vs ρ)) n vs=some o→o.conf st:=by
   intro n
   induction n with
   | zero=>intro vs h;cases h
   | succ n ihn =>
    intro vs h;simp only[UH] at h;split at h
    ·exact ihn _ h
    ·rename_i o' h1;simp only[Jt8] at h;subst h;have:=ih _ (init.length::st) _ _ h1 hw.2;exact this
    ·cases h
  exact key N _ h
 | next vs =>
  intro c st ρ o h hw;simp only[JH,Jt8] at h;subst h;simp only[R.wf,Jt9,beq_iff_eq] at hw;simpa[Oc.conf] using hw.2
 | done vs =>
  intro c st ρ o h hw;simp only[JH,Jt8] at h;subst h;trivial
 | esc r ih =>
  intro c st ρ o h hw;simp only[JH] at h;split at h
  ·rename_i o' h1;simp only[Jt8] at h;subst h;exact ih c st.tail ρ o' h1 hw
  ·cases h
theorem Jcg :∀(r:R) (c:Nat) (st:List Nat) (ρ:Env) (o:Oc),JH B N r ρ=some o→r.wf c st=true→∃ ρ',Jy c ρ ρ'∧Run B N r ρ' o:=by
 intro r
 induction r with
 | i x r ih =>
  intro c st ρ o h hw;simp only[R.wf,Jt9] at hw;simp only[JH] at h;split at h
  ·rename_i ρ1 h1;obtain⟨h2,h3⟩:=JnU h1 hw.1;obtain⟨ρ',h4,h5⟩:=ih _ st ρ1 o h hw.2;exact⟨ρ',h2.trans (h4.le (by omega)),h3 ρ' h4,h5⟩
  ·cases h
 | ite b x y ihx ihy =>
  intro c st ρ o h hw;simp only[R.wf,Jt9] at hw;simp only[JH] at h;split at h
  ·rename_i hb;obtain⟨ρ',h1,h2⟩:=ihx c st ρ o h hw.1.2;exact⟨ρ',h1,by simp only[Run,Jbw h1 b hw.1.1,hb,if_true];exact h2⟩
  ·rename_i hb;obtain⟨ρ',h1,h2⟩:=ihy c st ρ o h hw.2;refine⟨ρ',h1,?_⟩;simp only[Run,Jbw h1 b hw.1.1];rw[if_neg hb];exact h2
 | nilq c' l x y ihx ihy =>
  intro c st ρ o h hw;simp only[R.wf,Jt9,beq_iff_eq] at hw;obtain⟨⟨⟨rfl,hu⟩,hwx⟩,hwy⟩:=hw;simp only[JH] at h;refine⟨ρ,Jy.rfl',?_⟩;simp only[Run];split at h
  ·split at h
   ·rename_i he;exact⟨ihy _ st ρ o h hwy,fun _=>ihx _ st ρ o (by rw[he];exact h) hwx⟩
   ·cases h
  ·rename_i hl;exact⟨ihy _ st ρ o h hwy,fun e=>by rw[e] at hl;cases hl⟩
 | loop c' init body ih =>
  intro c st ρ o h hw;simp only[R.wf,Jt9,beq_iff_eq] at hw;obtain⟨⟨rfl,hu⟩,hw⟩:=hw;simp only[JH] at h;refine⟨ρ,Jy.rfl',?_⟩;simp only[Run];have key :∀(n:Nat) (vs:List V),vs.length=init.length→UH (fun vs=>JH B N body (XP c' vs ρ)) n vs=some o→JcD (fun vs o1=>∃ ρ',Jy c' ρ ρ'∧Jcn c' vs ρ'∧Run B N body ρ' o1) n vs o:=by
   intro n
   induction n with
   | zero=>intro vs _ h;cases h
   | succ n ihn =>
    intro vs hlen h;simp only[UH] at h;obtain⟨s1,s2⟩:=Ja7 vs c' ρ;have keep :∀ρ',Jy (c'+init.length) (XP c' vs ρ) ρ'→Jy c' ρ ρ'∧Jcn c' vs ρ':=fun ρ' ha =>
     ⟨s1.trans (ha.le (by omega)),fun j v hj=>by
      have hlt:j<vs.length:=(Jua.1 hj).1;rw[ha (c'+j) (by omega)];exact s2 j v hj⟩
    split at h
    ·rename_i vs' h1;obtain⟨ρ',h2,h3⟩:=ih _ _ _ _ h1 hw;obtain⟨h4,h5⟩:=keep ρ' h2;have hcf:=Jmc _ _ _ _ _ h1 hw;simp only[Oc.conf,List.head?_cons,Jt8] at hcf;exact .inl ⟨vs',⟨ρ',h4,h5,h3⟩,ihn vs' hcf.symm h⟩
    ·rename_i o' h1;simp only[Jt8] at h;subst h;obtain⟨ρ',h2,h3⟩:=ih _ _ _ _ h1 hw;obtain⟨h4,h5⟩:=keep ρ' h2;exact .inr ⟨ρ',h4,h5,h3⟩
    ·cases h
  exact key N _ (by simp) h
 | next vs =>
  intro c st ρ o h hw;simp only[JH,Jt8] at h;subst h;exact⟨ρ,Jy.rfl',rfl⟩
 | done vs =>
  intro c st ρ o h hw;simp only[JH,Jt8] at h;subst h;exact⟨ρ,Jy.rfl',rfl⟩
 | esc r ih =>
  intro c st ρ o h hw;simp only[JH] at h;split at h
  ·rename_i o' h1;simp only[Jt8] at h;subst h;obtain⟨ρ',h2,h3⟩:=ih c _ ρ o' h1 hw;exact⟨ρ',h2,o',rfl,h3⟩
  ·cases h
end
end Go.Tm
end

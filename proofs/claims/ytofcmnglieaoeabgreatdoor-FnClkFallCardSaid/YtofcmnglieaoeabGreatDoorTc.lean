import Derived.Test.YtofcmnglieaoeabGreatDoorTb
set_option linter.unusedVariables false
set_option linter.unusedSimpArgs false
section
namespace Go.Tm
open Go.IntKind (i64)
def Zu (i:Nat):List Ji→Yb
 | []=>[]
 | o::os=>(i,o)::Zu (i+1) os
theorem Zk :∀(os:List Ji) (a k:Nat),(Zu a os).lookup k=if a≤k then os[k-a]? else none
 | [],a,k=>by simp[Zu]
 | o::os,a,k=>by
  simp only[Zu,List.lookup_cons]
  by_cases h:k=a
  ·subst h;simp
  ·have hb:(k == a)=false:=by simpa using h
   rw[hb,Zk os (a+1) k]
   by_cases hlt:a≤k
   ·have e:k-a=(k-(a+1))+1:=by omega
    rw[if_pos (by omega),if_pos hlt,e,List.getElem?_cons_succ]
   ·rw[if_neg (by omega),if_neg hlt]
theorem Jcl (ρ:Env) (os:List Ji):γm ρ (Zu 0 os)=Xq (JC 0 (os.map (γO ρ))):=by
 funext k
 simp only[γm,Xq,XD,Zk,Nat.zero_le,if_true,Nat.sub_zero,JuY]
mutual
def SV.lv:SV→List E
 | .d e=>[e]
 | .g cs=>slv cs
 | .t cs=>slv cs
 | .f _ cs=>slv cs
 | _=>[]
def slv:List SV→List E
 | []=>[]
 | c::cs=>SV.lv c++slv cs
end
mutual
def SV.lv2:SV→List E
 | .d e=>[e]
 | .g cs=>Jet cs
 | .t cs=>Jet cs
 | .f _ cs=>Jet cs
 | .o _ l=>[.s l]
 | .e _ l i _=>[.s l,.vi .i64 i]
 | _=>[]
def Jet:List SV→List E
 | []=>[]
 | c::cs=>SV.lv2 c++Jet cs
end
def Ji.lv:Ji→List E
 | .box cs=>slv cs
 | .arr _ _ l _ _=>[.s l]
 | .dead=>[]
def Ji.lv2:Ji→List E
 | .box cs=>Jet cs
 | .arr _ _ l _ _=>[.s l]
 | .dead=>[]
section
variable {ρ ρ':Env}
mutual
theorem Jrq :∀v:SV,γX ρ v=γX ρ' v→∀e∈v.lv,dat ρ e=dat ρ' e
 | .d e,h,e',he=>by
  simp only[SV.lv,JuV] at he;subst he;simp only[γX] at h;injection h
 | .g cs,h,e',he=>by simp only[γX] at h;injection h with h;exact Jbw cs h e' (by simpa[SV.lv] using he)
 | .t cs,h,e',he=>by simp only[γX] at h;injection h with h;exact Jbw cs h e' (by simpa[SV.lv] using he)
 | .f _ cs,h,e',he=>by simp only[γX] at h;injection h with _ h;exact Jbw cs h e' (by simpa[SV.lv] using he)
 | .o _ _,_,e',he=>by simp[SV.lv] at he
 | .p _ _,_,e',he=>by simp[SV.lv] at he
 | .e _ _ _ _,_,e',he=>by simp[SV.lv] at he
 | .u,_,e',he=>by simp[SV.lv] at he
theorem Jbw :∀cs:List SV,γXs ρ cs=γXs ρ' cs→∀e∈slv cs,dat ρ e=dat ρ' e
 | [],_,e',he=>by simp[slv] at he
 | c::cs,h,e',he=>by
  simp only[γXs,List.cons.injEq] at h;simp only[slv,JuI] at he;rcases he with he | he
  ·exact Jrq c h.1 e' he
  ·exact Jbw cs h.2 e' he
end
mutual
theorem Jo1 :∀v:SV,(∀e∈v.lv2,dat ρ e=dat ρ' e)→γX ρ v=γX ρ' v
 | .d e,h=>by simp only[γX];rw[h e (by simp[SV.lv2])]
 | .g cs,h=>by simp only[γX];rw[V0 cs (fun e he=>h e (by simpa[SV.lv2] using he))]
 | .t cs,h=>by simp only[γX];rw[V0 cs (fun e he=>h e (by simpa[SV.lv2] using he))]
 | .f _ cs,h=>by simp only[γX];rw[V0 cs (fun e he=>h e (by simpa[SV.lv2] using he))]
 | .o _ l,h=>by simp only[γX];rw[Jh5 (h (.s l) (by simp[SV.lv2]))]
 | .p _ _,_=>rfl
 | .e _ l i _,h=>by
  simp only[γX];rw[Jh5 (h (.s l) (by simp[SV.lv2]))];have:D.v (.int .i64 (int ρ i))=D.v (.int .i64 (int ρ' i)):=h (.vi .i64 i) (by simp[SV.lv2]);simp only[D.v.injEq,Value.int.injEq,true_and] at this;rw[this]
 | .u,_=>rfl
theorem V0 :∀cs:List SV,(∀e∈Jet cs,dat ρ e=dat ρ' e)→γXs ρ cs=γXs ρ' cs
 | [],_=>rfl
 | c::cs,h=>by
  simp only[γXs];rw[Jo1 c (fun e he=>h e (by simp[Jet,he])),V0 cs (fun e he=>h e (by simp[Jet,he]))]
end
theorem JqY (o:Ji) (h:γO ρ o=γO ρ' o) :∀e∈o.lv,dat ρ e=dat ρ' e:=by
 intro e he;cases o with
 | box cs=>simp only[γO] at h;injection h with h;exact Jbw cs h e he
 | arr ty sz l dp rw =>
  simp only[Ji.lv,JuV] at he;subst he;simp only[γO] at h;injection h with _ _ h;show D.s (lst ρ l)=D.s (lst ρ' l);rw[h]
 | dead=>simp[Ji.lv] at he
theorem Jli (o:Ji) (h :∀e∈o.lv2,dat ρ e=dat ρ' e):γO ρ o=γO ρ' o:=by
 cases o with
 | box cs=>simp only[γO];rw[V0 cs h]
 | arr ty sz l dp rw=>simp only[γO];rw[Jh5 (h (.s l) (by simp[Ji.lv2]))]
 | dead=>rfl
end
def Q1.rel (s:Q1) (F:List D→Option (List D)) (xs:List X) (os:List Obj) (r:X×Mem):Prop :=
 ∃ ρ1 ρ2,xs=γXs ρ1 s.args∧os=s.objs.map (γO ρ1)∧F ((Jz s.ins 0).map (dat ρ1))=some ((Jz s.outs 0).map (dat ρ2))∧r=(γX ρ2 s.res,γm ρ2 (Zu 0 s.robjs))
def Q1.ok (s:Q1):Bool :=
 let ls:=slv s.args++s.objs.flatMap Ji.lv
 let os:=Jz s.outs 0
 (Jz s.ins 0).all (fun e=>ls.any fun x=>x.same e)&&(s.res.lv2++s.robjs.flatMap Ji.lv2).all (fun e=>os.any fun x=>x.same e)
theorem JcK {l:List E} {e:E} (h:l.any (fun x=>x.same e)=true) : ∃ x∈l,∀ρ,dat ρ x=dat ρ e:=by
 obtain⟨x,hx,hs⟩:=List.any_eq_true.1 h;exact⟨x,hx,fun ρ=>JnS hs ρ⟩
theorem Q1.rel_one {s:Q1} (hs:s.ok=true) {F:List D→Option (List D)} {xs:List X} {os:List Obj} {r r':X×Mem} (h:s.rel F xs os r) (h':s.rel F xs os r'):r=r':=by
 obtain⟨ρ1,ρ2,hx,ho,hF,rfl⟩:=h;obtain⟨σ1,σ2,hx',ho',hF',rfl⟩:=h';unfold Q1.ok at hs;simp only[JuD] at hs;have hin:(Jz s.ins 0).map (dat ρ1)=(Jz s.ins 0).map (dat σ1):=by
  refine JuZ fun e he=>?_;obtain⟨x,hxm,hxe⟩:=JcK (JuQ.1 hs.1 e he);rw[←hxe,←hxe];rcases JuI.1 hxm with hm | hm
  ·exact Jbw s.args (hx.symm.trans hx') x hm
  ·obtain⟨o,hom,hxo⟩:=List.mem_flatMap.1 hm;have:s.objs.map (γO ρ1)=s.objs.map (γO σ1):=ho.symm.trans ho';exact JqY o (List.map_inj_left.1 this o hom) x hxo
 rw[hin,hF'] at hF;simp only[JuC] at hF;have hout :∀e∈s.res.lv2++s.robjs.flatMap Ji.lv2,dat ρ2 e=dat σ2 e:=by
  intro e he;obtain⟨x,hxm,hxe⟩:=JcK (JuQ.1 hs.2 e he);rw[←hxe,←hxe];exact(List.map_inj_left.1 hF x hxm).symm
 have e1:γX ρ2 s.res=γX σ2 s.res:=Jo1 _ fun e he=>hout e (by simp[he]);have e2:γm ρ2 (Zu 0 s.robjs)=γm σ2 (Zu 0 s.robjs):=by
  rw[Jcl,Jcl]
  congr 2
  exact JuZ fun o ho=>Jli o fun e he=>hout e (List.mem_append_right _ (List.mem_flatMap.2 ⟨o,ho,he⟩))
 rw[e1,e2]
open Classical in
noncomputable def YQ (s:Q1) (F:List D→Option (List D)):Kw:=fun xs os=>if h : ∃ r,s.rel F xs os r then some h.choose else none
theorem Jai {s:Q1} (hs:s.ok=true) {F:List D→Option (List D)} {xs:List X} {os:List Obj} {r:X×Mem} (h:s.rel F xs os r):YQ s F xs os=some r:=by
 unfold YQ;have hex : ∃ r,s.rel F xs os r:=⟨r,h⟩;rw[dif_pos hex,Q1.rel_one hs hex.choose_spec h]
theorem VS {s:Q1} {F:List D→Option (List D)} {xs:List X} {os:List Obj} {r:X×Mem} (h:YQ s F xs os=some r):s.rel F xs os r:=by
 unfold YQ at h;split at h
 ·rename_i hex;simp only[JuC] at h;subst h;exact hex.choose_spec
 ·cases h
def E.up (n:Nat):E→E
 | .v j=> .v (n+j)
 | .da j=> .da (n+j)
 | .z m=> .z m
 | .tt=> .tt
 | .ff=> .ff
 | .bin o k x y=> .bin o k (x.up n) (y.up n)
 | .cmp o x y=> .cmp o (x.up n) (y.up n)
 | .not x=> .not (x.up n)
 | .beq x y=> .beq (x.up n) (y.up n)
 | .len l=> .len (l.up n)
 | .cv k x=> .cv k (x.up n)
 | .vi k x=> .vi k (x.up n)
 | .vb x=> .vb (x.up n)
 | .vc x=> .vc x
 | .s l=> .s (l.up n)
 | .g l=> .g (l.up n)
 | .q l=> .q (l.up n)
 | .fn f l=> .fn f (l.up n)
 | .nil=> .nil
 | .cons x l=> .cons (x.up n) (l.up n)
 | .app x y=> .app (x.up n) (y.up n)
 | .rep x y=> .rep (x.up n) (y.up n)
 | .set x y w=> .set (x.up n) (y.up n) (w.up n)
 | .take x y=> .take (x.up n) (y.up n)
theorem Jf9 (ρ:Env) (n:Nat) :∀e:E,den ρ (e.up n)=den (fun j=>ρ (n+j)) e:=by
 intro e
 induction e <;> simp only[E.up,den, *]
mutual
def SV.up (n:Nat):SV→SV
 | .d e=> .d (e.up n)
 | .g cs=> .g (sup n cs)
 | .o k l=> .o k (l.up n)
 | .p k off=> .p k off
 | .e k l i off=> .e k (l.up n) (i.up n) off
 | .f fn cs=> .f fn (sup n cs)
 | .t cs=> .t (sup n cs)
 | .u=> .u
def sup (n:Nat):List SV→List SV
 | []=>[]
 | c::cs=>SV.up n c::sup n cs
end
mutual
theorem SV.up_ok (ρ:Env) (n:Nat) :∀v:SV,γX ρ (v.up n)=γX (fun j=>ρ (n+j)) v
 | .d e=>by simp only[SV.up,γX,dat,Jf9]
 | .g cs=>by simp only[SV.up,γX,JdJ ρ n cs]
 | .o k l=>by simp only[SV.up,γX,lst,Jf9]
 | .p k off=>rfl
 | .e k l i off=>by simp only[SV.up,γX,lst,int,Jf9]
 | .f fn cs=>by simp only[SV.up,γX,JdJ ρ n cs]
 | .t cs=>by simp only[SV.up,γX,JdJ ρ n cs]
 | .u=>rfl
theorem JdJ (ρ:Env) (n:Nat) :∀cs:List SV,γXs ρ (sup n cs)=γXs (fun j=>ρ (n+j)) cs
 | []=>rfl
 | c::cs=>by simp only[sup,γXs,SV.up_ok ρ n c,JdJ ρ n cs]
end
def Ji.up (n:Nat):Ji→Ji
 | .box cs=> .box (sup n cs)
 | .arr ty sz l dp rw=> .arr ty sz (l.up n) dp rw
 | .dead=> .dead
theorem Ji.up_ok (ρ:Env) (n:Nat) (o:Ji):γO ρ (o.up n)=γO (fun j=>ρ (n+j)) o:=by
 cases o with
 | box cs=>simp only[Ji.up,γO,JdJ]
 | arr ty sz l dp rw=>simp only[Ji.up,γO,lst,Jf9]
 | dead=>rfl
theorem Jda (ρ:Env) :∀(as:List Sh1) (n m:Nat),(Jz as (n+m)).map (dat ρ)=(Jz as m).map (dat fun j=>ρ (n+j))
 | [],n,m=>rfl
 | a::as,n,m=>by
  simp only[Jz,JuL];rw[show n+m+1=n+(m+1) by omega,Jda ρ as n (m+1)]
  congr 1
  cases a <;> rfl
def V2 {α:Type}:List Key→(List Ji→SMP α)→SMP α
 | [],c=>c []
 | k::ks,c=> .get k fun o=>V2 ks fun os=>c (o::os)
def Jgy {α:Type}:List (Key×Ji)→SMP α→SMP α
 | [],c=>c
 | (k,o)::l,c=> .put k o (Jgy l c)
def Jcp {α:Type}:List (Key×Ji)→SMP α→SMP α
 | [],c=>c
 | (k,o)::l,c=> .new k o (Jcp l c)
section
variable {B:Tb} {ρ:Env}
theorem Ki {α β:Type} {f:α→β} :∀(ks:List Key) (c:List Ji→SMP α) (c':List Obj→MP β),(∀os,(c os).Ok B ρ f (c' (os.map (γO ρ))))→(V2 ks c).Ok B ρ f (Jdj ks c')
 | [],c,c',h=>h []
 | k::ks,c,c',h=>⟨_,rfl,fun o=>Ki ks _ _ fun os=>h (o::os)⟩
theorem JdO {α β:Type} {f:α→β} :∀(l:List (Key×Ji)) (c:SMP α) (c':MP β),c.Ok B ρ f c'→(Jgy l c).Ok B ρ f (JcN (l.map fun p=>(p.1,γO ρ p.2)) c')
 | [],c,c',h=>h
 | (k,o)::l,c,c',h=>⟨_,rfl,JdO l c c' h⟩
theorem WZ {α β:Type} {f:α→β} :∀(l:List (Key×Ji)) (c:SMP α) (c':MP β),c.Ok B ρ f c'→(Jcp l c).Ok B ρ f (Jgv (l.map fun p=>(p.1,γO ρ p.2)) c')
 | [],c,c',h=>h
 | (k,o)::l,c,c',h=>⟨_,rfl,WZ l c c' h⟩
def Jo2 (ins:List Sh1) (bs:List (Nat×E)):Nat→List E
 | j=>match ins with
  | []=>[]
  | a::as=>(match bs.lookup j with
   | some x=>(match a with | .i k=>E.vi k x | .b=> .vb x | .d=>x | .s=> .s x)
   | none=> .vc .nilFunc)::Jo2 as bs (j+1)
def JiX (ins:List Sh1) (bs:List (Nat×E)):Nat→Bool
 | j=>match ins with
  | []=>true
  | a::as=>(match bs.lookup j with
   | some x=>(match a with | .d=>x.isOne&&WY x | _=>true)
   | none=>false)&&JiX as bs (j+1)
theorem Jg3 :∀(ins:List Sh1) (bs:List (Nat×E)) (j:Nat),JiX ins bs j=true→(Jo2 ins bs j).map (dat ρ)=(Jz ins j).map (dat (YK 0 ρ bs))
 | [],bs,j,_=>rfl
 | a::as,bs,j,h=>by
  unfold JiX at h;simp only[JuD] at h;unfold Jo2;simp only[Jz,JuL,Jg3 as bs (j+1) h.2]
  congr 1
  cases hl:bs.lookup j with
  | none=>rw[hl] at h;simp at h
  | some x =>
   have he:YK 0 ρ bs j=den ρ x:=by simp[YK,hl]
   cases a with
   | i k=>show D.v (.int k (den ρ x).int)=D.v (.int k (YK 0 ρ bs j).int);rw[he]
   | b=>show D.v (.bool (den ρ x).bool)=D.v (.bool (YK 0 ρ bs j).bool);rw[he]
   | s=>show D.s (den ρ x).lst=D.s (YK 0 ρ bs j).lst;rw[he]
   | d =>
    show dat ρ x=XJ (YK 0 ρ bs j).dat;rw[he];rw[hl] at h;simp only[JuD] at h;show dat ρ x=XJ (dat ρ x);rw[Uq (J6 h.1.1 ρ),JaV h.1.2]
def VO (s : Q1) (f : FuncId) (kb : Key) (xs : List SV) (L : List Key) (os : List Ji) : SMP SV :=
  if (Ya xs ++ os.flatMap Ji.names).all L.contains then
    match mv.mvs s.args (Ja2 (at? L) (Ku (holds? (L.zip os)) xs)),mos s.objs (os.map fun o=>(JgB (holds? (L.zip os)) o).ren (at? L)) with
    | some ps,some qs=>match Jjn 0 (ps++qs) with
      | some bs=>if Jbs bs&&JiX s.ins bs 0 then
          let n:=L.length
          let news:=Yn [] ((s.res.names++(s.robjs.take n).flatMap Ji.names).filter fun k=>n≤k)
          let all:=List.range n++news
          if all == List.range s.robjs.length&&(s.res.names++s.robjs.flatMap Ji.names).all all.contains&&Nat.ble news.length 16 then
            .ask (fun a=> .call f (Jo2 s.ins bs 0) s.outs a) s.outs.length fun a =>
              let back:=fun k=>(L++(List.range news.length).map (kb + ·)).getD (at? all k) 0
              let os':=s.robjs.map (Ji.up a)
              Jgy (L.zip ((os'.take n).map (Ji.ren back)))
                (Jcp (((List.range news.length).map (kb + ·)).zip ((os'.drop n).map (Ji.ren back))) (.ret ((s.res.up a).ren back)))
          else .fail
        else .fail
      | none=> .fail
    | _,_=> .fail
  else .fail
mutual
def Jkc (look:Key→Option E):SV→List (E×E)
 | .o k l=>match look k with
  | some l'=>if l.lsame l' then [] else [(l,l')]
  | none=>[]
 | .g cs=>Kz look cs
 | .t cs=>Kz look cs
 | .f _ cs=>Kz look cs
 | _=>[]
def Kz (look:Key→Option E):List SV→List (E×E)
 | []=>[]
 | c::cs=>Jkc look c++Kz look cs
end
mutual
def Ja9 (look:Key→Option E):SV→SV
 | .o k l=>match look k with
  | some l'=> .o k l'
  | none=> .o k l
 | .g cs=> .g (Ko look cs)
 | .t cs=> .t (Ko look cs)
 | .f fn cs=> .f fn (Ko look cs)
 | v=>v
def Ko (look:Key→Option E):List SV→List SV
 | []=>[]
 | c::cs=>Ja9 look c::Ko look cs
end
mutual
theorem JlE (ρ:Env) (look:Key→Option E) :∀v:SV,(∀p∈Jkc look v,(lst ρ p.1).length=(lst ρ p.2).length)→γX ρ (Ja9 look v)=γX ρ v
 | .o k l,h=>by
  simp only[Ja9];simp only[Jkc] at h;split
  ·rename_i l' hk;rw[hk] at h;simp only at h
   by_cases hl:l.lsame l'=true
   ·simp only[γX,lL1 hl ρ]
   ·rw[if_neg hl] at h;simp only[γX,h (l,l') (by simp)]
  ·rfl
 | .g cs,h=>by simp only[Ja9,γX,Y1 ρ look cs h]
 | .t cs,h=>by simp only[Ja9,γX,Y1 ρ look cs h]
 | .f _ cs,h=>by simp only[Ja9,γX,Y1 ρ look cs h]
 | .e _ _ _ _,_=>rfl
 | .d _,_=>rfl
 | .p _ _,_=>rfl
 | .u,_=>rfl
theorem Y1 (ρ:Env) (look:Key→Option E) :∀cs:List SV,(∀p∈Kz look cs,(lst ρ p.1).length=(lst ρ p.2).length)→γXs ρ (Ko look cs)=γXs ρ cs
 | [],_=>rfl
 | c::cs,h=>by
  simp only[Kz,JuI] at h;simp only[Ko,γXs,JlE ρ look c (fun p hp=>h p (.inl hp)),Y1 ρ look cs (fun p hp=>h p (.inr hp))]
end
def Jac {α:Type}:List (E×E)→SMP α→SMP α
 | [],c=>c
 | (l,l')::ps,c=> .ask (fun _=> .chk (.cmp .eq (.len l) (.len l'))) 0 fun _=>Jac ps c
theorem UK {B:Tb} {ρ:Env} {α β:Type} {f:α→β} {c:SMP α} {q:MP β} :∀ps:List (E×E),((∀p∈ps,(lst ρ p.1).length=(lst ρ p.2).length)→c.Ok B ρ f q)→(Jac ps c).Ok B ρ f q
 | [],h=>h (by simp)
 | (l,l')::ps,h=>by
  intro n hn;refine UK ps fun hp=>h fun p hm=>?_;rcases JuW.1 hm with rfl | hm
  ·have h:decide (((lst ρ l).length:Int)=((lst ρ l').length:Int))=true:=hn;have h:((lst ρ l).length:Int)=((lst ρ l').length:Int):=by simpa using h
   show (lst ρ l).length=(lst ρ l').length;omega
  ·exact hp p hm
mutual
def SV.flE:SV→Bool
 | .d (.vi _ _)=>true
 | .d (.vb _)=>true
 | .g cs=>Jne cs
 | .t cs=>Jne cs
 | .o _ _=>true
 | _=>false
def Jne:List SV→Bool
 | []=>true
 | c::cs=>SV.flE c&&Jne cs
end
mutual
theorem Jnt (ρ:Env) :∀v:SV,v.flE=true→(γX ρ v).fl=true
 | .d e,h=>by cases e <;> simp[SV.flE] at h <;> simp[γX,X.fl,dat,den,V.dat,flat]
 | .g cs,h=>by simp only[γX,X.fl];exact Jgh ρ cs (by simpa[SV.flE] using h)
 | .t cs,h=>by simp only[γX,X.fl];exact Jgh ρ cs (by simpa[SV.flE] using h)
 | .o k l,_=>rfl
 | .p _ _,h=>by simp[SV.flE] at h
 | .e _ _ _ _,h=>by simp[SV.flE] at h
 | .f _ _,h=>by simp[SV.flE] at h
 | .u,h=>by simp[SV.flE] at h
theorem Jgh (ρ:Env) :∀vs:List SV,Jne vs=true→JjH (γXs ρ vs)=true
 | [],_=>rfl
 | v::vs,h=>by
  simp only[Jne,JuD] at h;simp only[γXs,JjH,Jnt ρ v h.1,Jgh ρ vs h.2,Bool.and_self]
end
def Ji.deepen:Ji→Ji
 | .arr ty sz l _ rw=> .arr ty sz l true rw
 | o=>o
theorem Jl9 (ρ:Env) (o:Ji):γO ρ o.deepen=(γO ρ o).deepen:=by cases o <;> rfl
theorem Jgr (o:Ji):o.deepen.names=o.names:=by cases o <;> rfl
theorem JlF (n:Nat) (o:Ji):(o.up n).deepen=(o.deepen).up n:=by cases o <;> rfl
def JhH {α:Type}:List Ji→SMP α→SMP α
 | [],c=>c
 | .arr _ _ l dp rw::os,c=>if rw then(if dp then JhH os c else .ask (fun _=> .fl l) 0 fun _=>JhH os c) else .fail
 | _::_,_=> .fail
theorem JdL {α β:Type} {f:α→β} {q:MP β} {c:SMP α} :∀(os:List Ji),((∀o∈os,Kv (some (γO ρ o))=true)→c.Ok B ρ f q)→(JhH os c).Ok B ρ f q
 | [],h=>h (fun _ h=>by simp at h)
 | .arr ty sz l dp rw::os,h=>by
  simp only[JhH];cases rw with
  | false=>trivial
  | true =>
   simp only[if_true];cases dp with
   | true =>
    simp only[if_true];refine JdL os fun ho=>h fun o hm=>?_;rcases JuW.1 hm with rfl | hm
    ·simp[γO,Kv]
    ·exact ho o hm
   | false =>
    simp only[JuT,if_false];intro n hn;simp only[I.holds] at hn;refine JdL os fun ho=>h fun o hm=>?_;rcases JuW.1 hm with rfl | hm
    ·simp[γO,Kv,hn]
    ·exact ho o hm
 | .box _::_,_=>trivial
 | .dead::_,_=>trivial
def JaU (s:Q1) (f:FuncId) (kb:Key) (xs:List SV):SMP SV :=
 match mv.mvs s.args xs,s.objs with
 | some ps,[]=>match Jjn 0 ps with
  | some bs=>if Jbs bs&&JiX s.ins bs 0 then
    let news:=Yn [] (s.res.names.filter fun k=>decide (0≤k))
    if news == List.range s.robjs.length&&(s.res.names++s.robjs.flatMap Ji.names).all news.contains&&Nat.ble news.length 16&&s.res.flE then
     .ask (fun a=> .call f (Jo2 s.ins bs 0) s.outs a) s.outs.length fun a =>
      let back:=fun k=>((List.range news.length).map (kb + ·)).getD (at? news k) 0
      let os':=s.robjs.map (Ji.up a)
      JhH os' (Jcp (((List.range news.length).map (kb + ·)).zip ((os'.map Ji.deepen).map (Ji.ren back))) (.ret ((s.res.up a).ren back)))
    else .fail
   else .fail
  | none=> .fail
 | _,_=> .fail
def JjA (s:Q1) (f:FuncId) (kb:Key) (xs0:List SV):SMP SV :=
 if Jhr xs0 then
  let xs:=Ji4 xs0
  let ks:=Yn [] (Ya xs)
  V2 ks fun os=>let L:=Yn ks (os.flatMap Ji.names);V2 L fun os=>Jac (Kz (holds? (L.zip os)) xs) (VO s f kb (Ko (holds? (L.zip os)) xs) L os)
 else .fail
def JgL (s:Q1) (f:FuncId) (kb:Key) (xs:List SV):SMP SV :=
 let ks:=Yn [] (Ya xs)
 V2 ks fun os=>let L:=Yn ks (os.flatMap Ji.names);V2 L fun os=>Jac (Kz (holds? (L.zip os)) xs) (VO s f kb (Ko (holds? (L.zip os)) xs) L os)
theorem QE (ρ:Env) :∀os:List Ji,(os.map (γO ρ)).flatMap Obj.names=os.flatMap Ji.names
 | []=>rfl
 | o::os=>by simp only[JuL,List.flatMap_cons,Jfb,QE ρ os]
theorem Jds {α:Type} (f:Key→Option α) (l:List α) (h :∀i,f i=l[i]?):(List.range l.length).mapM f=some l:=by
 have key :∀(n a:Nat),a+n=l.length→(List.range' a n).mapM f=some (l.drop a):=by
  intro n
  induction n with
  | zero=>intro a ha;simp at ha;subst ha;simp
  | succ n ih =>
   intro a ha;have hlt:a<l.length:=by omega
   rw[List.range'_succ,List.mapM_cons,h a,JuO hlt,ih (a+1) (by omega),List.drop_eq_getElem_cons hlt];rfl
 rw[List.range_eq_range'];have:=key l.length 0 (by omega);simpa using this
theorem VF {α:Type} (l:List Key) (os:List α) {β:Type} (g:α→β):(l.zip os).map (fun p=>(p.1,g p.2))=l.zip (os.map g):=by
 rw[List.zip_map_right];rfl
theorem JhC {m:Mem} (os:List Obj) (n:Nat) (h :∀i,m i=os[i]?):YS m n=(os.take n).flatMap Obj.names:=by
 induction n with
 | zero=>simp[YS]
 | succ n ih =>
  unfold YS at ih ⊢;rw[List.range_succ,List.flatMap_append,ih,List.take_add_one,List.flatMap_append];simp only[List.flatMap_cons,List.flatMap_nil,List.append_nil,h n];cases os[n]? <;> simp
theorem Jao {s:Q1} (hs:s.ok=true) (f:FuncId) (kb:Key) (xs:List SV) (L:List Key) (os:List Ji) :
  (VO s f kb xs L os).Ok B ρ (γX ρ) (Z2 (YQ s (B.call f)) kb (γXs ρ xs) L (os.map (γO ρ))):=by
 unfold VO;split
 ·rename_i hclo;split
  ·rename_i ps qs hps hqs
   ·split
    ·rename_i bs hbs;split
     ·rename_i hc;simp only[JuD] at hc;simp only;split
      ·rename_i hall;simp only[JuD] at hall;obtain⟨⟨hall1,hall2⟩,hlen⟩:=hall;have hall1:List.range L.length++Yn [] ((s.res.names++(s.robjs.take L.length).flatMap Ji.names).filter fun k=>L.length≤k)=List.range s.robjs.length:=by simpa using hall1
       intro a hcall;simp only[I.holds] at hcall;have hargs:γXs (YK 0 ρ bs) s.args=Vm (at? L) (γXs ρ xs):=by
        rw[←Y7 ρ (holds? (L.zip os)) xs,V4];exact WP _ _ _ hps fun q hq=>JfV hbs hc.1 (by simp[hq])
       have hobjs:s.objs.map (γO (YK 0 ρ bs))=(os.map (γO ρ)).map (Obj.ren (at? L)):=by
        rw[Jow _ _ _ hqs fun q hq=>JfV hbs hc.1 (by simp[hq])];simp only[List.map_map];exact JuZ fun o _=>by simp only[Function.comp];rw[←JaL,Jfq]
       have hF:B.call f ((Jz s.ins 0).map (dat (YK 0 ρ bs)))=some ((Jz s.outs 0).map (dat fun j=>ρ (a+j))):=by
        rw[←Jg3 _ _ _ hc.2,hcall]
        congr 1
        exact Jda ρ s.outs a 0
       have hspec:=Jai hs (F:=B.call f) ⟨YK 0 ρ bs,fun j=>ρ (a+j),hargs.symm,hobjs.symm,hF,rfl⟩;unfold Z2;rw[Yx,QE,if_pos hclo,hspec];simp only[K4];have hm1 :∀i,γm (fun j=>ρ (a+j)) (Zu 0 s.robjs) i=(s.robjs.map (γO fun j=>ρ (a+j)))[i]?:=by
        intro i;simp only[γm,Zk,Nat.zero_le,if_true,Nat.sub_zero,JuY]
       have hbn:YS (γm (fun j=>ρ (a+j)) (Zu 0 s.robjs)) L.length=(s.robjs.take L.length).flatMap Ji.names:=by rw[JhC _ _ hm1,←List.map_take,QE]
       rw[hbn];have hmap:(List.range L.length++Yn [] ((s.res.names++(s.robjs.take L.length).flatMap Ji.names).filter fun k=>decide (L.length≤k))).mapM (γm (fun j=>ρ (a+j)) (Zu 0 s.robjs))=some (s.robjs.map (γO fun j=>ρ (a+j))):=by
        rw[hall1,←Jds _ _ hm1,JuM]
       rw[hmap];simp only[QE];have hlen':(Yn [] ((s.res.names++(s.robjs.take L.length).flatMap Ji.names).filter fun k=>decide (L.length≤k))).length≤16:=Nat.le_of_ble_eq_true hlen;rw[if_pos (by rw[JuD];exact⟨hall2,by simpa using hlen'⟩)];have hren :∀(back:Key→Key) (l:List Ji),(l.map (γO fun j=>ρ (a+j))).map (Obj.ren back)=((l.map (Ji.up a)).map (Ji.ren back)).map (γO ρ):=by
        intro back l;simp only[List.map_map];exact JuZ fun o _=>by simp only[Function.comp,←JaL,Ji.up_ok]
       simp only[←List.map_take,←List.map_drop];rw[hren,hren,←VF _ _ (γO ρ),←VF _ _ (γO ρ)];refine JdO _ _ _ (WZ _ _ _ ?_);simp only[SMP.Ok,←Jep,SV.up_ok]
      ·trivial
     ·trivial
    ·trivial
  ·trivial
 ·trivial
theorem Jma {s:Q1} (hs:s.ok=true) (f:FuncId) (kb:Key) (xs:List SV):(JjA s f kb xs).Ok B ρ (γX ρ) (JkV (YQ s (B.call f)) kb (γXs ρ xs)):=by
 unfold JjA JkV Ws;split
 ·rename_i ho;rw[JdW ρ xs ho];simp only[Yx];refine Ki _ _ _ fun os=>?_;simp only[QE];refine Ki _ _ _ fun os=>UK _ fun hp=>?_;rw[←Y1 ρ _ _ hp];exact Jao hs f kb _ _ _
 ·trivial
theorem Jka {s:Q1} (hs:s.ok=true) (f:FuncId) (kb:Key) (xs:List SV):(JgL s f kb xs).Ok B ρ (γX ρ) (Ws (YQ s (B.call f)) kb (γXs ρ xs)):=by
 unfold JgL Ws;simp only[Yx];refine Ki _ _ _ fun os=>?_;simp only[QE];refine Ki _ _ _ fun os=>UK _ fun hp=>?_;rw[←Y1 ρ _ _ hp];exact Jao hs f kb _ _ _
theorem JgM {s:Q1} (hs:s.ok=true) (f:FuncId) (kb:Key) (xs:List SV) (ds:List D) (hds:ds.map X.ofD1=γXs ρ xs) :
  (JaU s f kb xs).Ok B ρ (γX ρ) (Vq (YQ s (B.call f)) kb ds):=by
 unfold JaU;split
 ·rename_i ps hps hobjs0;split
  ·rename_i bs hbs;split
   ·rename_i hc;simp only[JuD] at hc;simp only;split
    ·rename_i hall;simp only[JuD] at hall;obtain⟨⟨⟨hall1,hall2⟩,hlen⟩,hfl⟩:=hall;have hall1:Yn [] (s.res.names.filter fun k=>decide (0≤k))=List.range s.robjs.length:=by simpa using hall1
     intro a hcall;simp only[I.holds] at hcall;refine JdL _ fun hflat=>?_;have hargs:γXs (YK 0 ρ bs) s.args=γXs ρ xs:=WP _ _ _ hps fun q hq=>JfV hbs hc.1 hq;have hF:B.call f ((Jz s.ins 0).map (dat (YK 0 ρ bs)))=some ((Jz s.outs 0).map (dat fun j=>ρ (a+j))):=by
      rw[←Jg3 _ _ _ hc.2,hcall]
      congr 1
      exact Jda ρ s.outs a 0
     have hspec:=Jai hs (F:=B.call f) (xs:=γXs ρ xs) (os:=[]) ⟨YK 0 ρ bs,fun j=>ρ (a+j),hargs.symm,by rw[hobjs0];rfl,hF,rfl⟩;have hm1 :∀i,γm (fun j=>ρ (a+j)) (Zu 0 s.robjs) i=(s.robjs.map (γO fun j=>ρ (a+j)))[i]?:=by
      intro i;simp only[γm,Zk,Nat.zero_le,if_true,Nat.sub_zero,JuY]
     have hmemn :∀k,k∈s.res.names↔k<s.robjs.length:=by
      intro k;have:k∈Yn [] (s.res.names.filter fun k=>decide (0≤k))↔k∈s.res.names:=by rw[Jar];simp
      rw[←this,hall1,List.mem_range]
     have hfo :∀k∈s.res.names,Kv (γm (fun j=>ρ (a+j)) (Zu 0 s.robjs) k)=true:=by
      intro k hk;rw[hm1,JuY];have hlt:=(hmemn k).1 hk;rw[JuO hlt,JuF];have:=hflat (Ji.up a s.robjs[k]) (List.mem_map_of_mem (List.getElem_mem hlt));rw[Ji.up_ok] at this;exact this
     have hfS:JkG (YQ s (B.call f)) (ds.map X.ofD1)=some (γX (fun j=>ρ (a+j)) s.res,fun k=>if s.res.names.contains k then(γm (fun j=>ρ (a+j)) (Zu 0 s.robjs) k).map Obj.deepen else none):=by
      unfold JkG;rw[hds,hspec];simp only[K4];rw[if_pos];rw[JuD];exact⟨Jnt _ _ hfl,JuQ.2 hfo⟩
     unfold Vq Z2;rw[hfS];simp only[K4,Qs,YS,List.flatMap_nil,List.append_nil,List.all_nil,if_true,List.length_nil,List.range_zero,List.nil_append];have hm2 :∀i,(fun k=>if s.res.names.contains k then(γm (fun j=>ρ (a+j)) (Zu 0 s.robjs) k).map Obj.deepen else none) i=((s.robjs.map Ji.deepen).map (γO fun j=>ρ (a+j)))[i]?:=by
      intro i;simp only;split
      ·rw[hm1 i,JuY,JuY,JuY];cases s.robjs[i]? with
       | none=>rfl
       | some o=>simp only[JuF,Jl9]
      ·rename_i hn;have : ¬i<s.robjs.length:=fun h=>hn (List.contains_iff_mem.2 ((hmemn i).2 h));rw[Ju0 (by simpa using this)]
     have hmap:(Yn [] (s.res.names.filter fun k=>decide (0≤k))).mapM (fun k=>if s.res.names.contains k then(γm (fun j=>ρ (a+j)) (Zu 0 s.robjs) k).map Obj.deepen else none)=some ((s.robjs.map Ji.deepen).map (γO fun j=>ρ (a+j))):=by
      rw[hall1,←Jds _ _ hm2,JuM,JuM]
     rw[hmap];have hdn:(s.robjs.map Ji.deepen).flatMap Ji.names=s.robjs.flatMap Ji.names:=by
      rw[List.flatMap_map]
      congr 1
      funext o
      exact Jgr o
     simp only[QE,hdn];have hlen':(Yn [] (s.res.names.filter fun k=>decide (0≤k))).length≤16:=Nat.le_of_ble_eq_true hlen;rw[if_pos (by rw[JuD];exact⟨hall2,by simpa using hlen'⟩)];have hren :∀(back:Key→Key) (l:List Ji),(l.map (γO fun j=>ρ (a+j))).map (Obj.ren back)=((l.map (Ji.up a)).map (Ji.ren back)).map (γO ρ):=by
      intro back l;simp only[List.map_map];exact JuZ fun o _=>by simp only[Function.comp,←JaL,Ji.up_ok]
     simp only[List.zip_nil_left,JcN,List.drop_zero];have hdu:(s.robjs.map Ji.deepen).map (Ji.up a)=(s.robjs.map (Ji.up a)).map Ji.deepen:=by
      rw[List.map_map,List.map_map];exact JuZ fun o _=>(JlF a o).symm
     rw[hren,hdu,←VF _ _ (γO ρ)];refine WZ _ _ _ ?_;simp only[SMP.Ok,←Jep,SV.up_ok]
    ·trivial
   ·trivial
  ·trivial
 ·trivial
end
end Go.Tm
end
section
namespace Go.Tm
open Go.IntKind (i64)
def Sh.ar:Sh→Option Nat
 | .g as=>some as.length
 | _=>none
def JqM (s:Jjk):Option (List (Option Nat)) :=
 if s.flat&&s.pars.all noQ&&Nat.ble s.pars.length 30 then match s.res with
  | .one (.one _)=>some (s.pars.map Sh.ar)
  | _=>none
 else none
def Jhy:Sig→Bool
 | .d s=>s.res.ok&&(!s.flat||s.res.leaves.all VZ)
 | .x s=>s.ok
def JqE:SV→Bool
 | .d _=>true
 | .g cs=>cs.all fun | .d _=>true | _=>false
 | _=>false
def Q1.mask (s:Q1):List Bool:=s.args.map JqE
def JqF:SV→List Bool
 | .g cs=>if cs.any (fun | .o _ _=>true | _=>false) then cs.map fun | .d (.s _)=>true | _=>false else []
 | _=>[]
def Q1.gmask (s:Q1):List (List Bool):=s.args.map JqF
def Jkr:SV→Bool
 | .d (.vc (.slice none 0 0))=>true
 | _=>false
def Q1.raw (s:Q1):Bool:=s.args.any Jkr
noncomputable def X9 (sg:FuncId→Option Sig) (B:Tb):Tab where
 fns f:=match sg f with
  | some (.d s)=>some { F:=dspec s (B.call f),flat:=s.flat }
  | _=>none
 xfns f:=match sg f with
  | some (.x s)=>some (YQ s (B.call f))
  | _=>none
 xmask f:=match sg f with
  | some (.x s)=>s.mask
  | _=>[]
 xgmask f:=match sg f with
  | some (.x s)=>s.gmask
  | _=>[]
 xraw f:=match sg f with
  | some (.x s)=>s.raw
  | _=>false
 xflat f:=match sg f with
  | some (.x s)=>s.flat
  | _=>false
structure BOk (sg:FuncId→Option Sig) (B:Tb):Prop where
 sig :∀f s,sg f=some s→Jhy s=true
 ar :∀f a,B.ar f=some a→∃ s,sg f=some (.d s)∧JqM s=some a
def Jld (s:Jjk) (f:FuncId) (es:List E):SMP SV:=match JE s.pars es with
 | some ls=> .ask (fun n=> .call f ls s.res.leaves n) s.res.leaves.length fun n=> .ret (s.res.sv n)
 | none=> .fail
def ofE:E→Option SV
 | .g l=>match l.list with
  | some cs=>some (.g (cs.map .d))
  | none=>none
 | e=>if e.isOne then some (.d e) else none
def YW:List Bool→List SV→SMP (List SV)
 | b::bs,x::xs=>if b then(JfB x).bind fun e=>match ofE e with
   | some v=>(YW bs xs).bind fun ys=> .ret (v::ys)
   | none=> .fail
  else(YW bs xs).bind fun ys=> .ret (x::ys)
 | _,xs=> .ret xs
def Jgw (bs:List Bool):SV→SMP SV
 | .g cs=>(YW bs cs).bind fun ds=> .ret (.g ds)
 | x=> .ret x
def Uz:List (List Bool)→List SV→SMP (List SV)
 | bs::bss,x::xs=>(Jgw bs x).bind fun y=>(Uz bss xs).bind fun ys=> .ret (y::ys)
 | _,xs=> .ret xs
def Ji.shal:Ji→Ji
 | .arr ty sz l _ rw=> .arr ty sz l false rw
 | o=>o
def Q1.shal (s:Q1):Q1:={ s with robjs:=s.robjs.take s.objs.length++(s.robjs.drop s.objs.length).map Ji.shal }
def Q1.by (s:Q1) (dp:Bool):Q1:=if dp then s else s.shal
def Jjd (sg:FuncId→Option Sig) (dp bo:Bool) (kb:Key) (f:FuncId) (args:List SV):SMP SV:=match sg f with
 | some (.d s)=>if s.flat then(Jcg.spurs 40 args).bind fun es=>Jld s f es else(JaX args).bind fun es=>Jld s f es
 | some (.x s)=>if s.flat||bo then(Jcg.spurs 40 args).bind fun es=>match es.mapM ofE with
   | some xs=>JaU s f kb xs
   | none=> .fail
  else if s.raw then JgL (s.by dp) f kb args else(YW s.mask args).bind fun xs=>(Uz s.gmask xs).bind fun xs=>JjA (s.by dp) f kb xs
 | none=> .fail
def arE:E→Option Nat
 | .g l=>match l.list with
  | some cs=>some cs.length
  | none=>none
 | _=>none
def UR:List E→Option (List E)
 | []=>some []
 | .g l::es=>match l.list with
  | some cs=>(UR es).map (cs ++ ·)
  | none=>none
 | e::es=>(UR es).map (e :: ·)
def UP:SV→Option E
 | .d e=>if e.isOne then some e.norm else none
 | .g cs=>if Nat.ble cs.length 20 then(cells cs).map fun l=> .g (J5 l) else none
 | _=>none
where
 cells:List SV→Option (List E)
  | []=>some []
  | .d e::cs=>if e.isOne then(cells cs).map (e.norm :: ·) else none
  | _=>none
def WT:List SV→Option (List E)
 | []=>some []
 | v::vs=>match UP v with
  | some e=>(WT vs).map (e :: ·)
  | none=>none
def Jn2 (n0:Nat) (args:List SV) (rs:Sh1):SMP SV :=
 if VZ rs&&Nat.ble args.length 8 then match WT args with
  | some es=>match UR es with
   | some ls=> .ask (fun n=> .callv (.da n0) ls (es.map arE) [rs] n) 1 fun n=> .ret (.d (rs.expr n))
   | none=> .fail
  | none=> .fail
 else .fail
section
variable {B:Tb} {ρ:Env} {sg:FuncId→Option Sig} {P:Program} {G:Qg}
theorem JbF :∀(n:Nat) (xs ys:List X),xs.length≤n→pur.purs n (xs++ys)=(pur.purs n xs).bind fun ds=>(pur.purs (n-xs.length) ys).bind fun es=> .ret (ds++es)
 | n,[],ys,_=>by
  have h1:pur.purs n ([]:List X) = .ret []:=by cases n <;> rfl
  rw[List.nil_append,h1];show _=(pur.purs n ys).bind fun es=> .ret es;generalize pur.purs n ys=p
  induction p with
  | ret a=>rfl
  | fail=>rfl
  | get k c ih=>simp only[MP.bind];congr 1;funext o;exact ih o
  | put k o c ih=>simp only[MP.bind];rw[←ih]
  | new k o c ih=>simp only[MP.bind];rw[←ih]
 | 0,x::xs,ys,h=>by simp at h
 | n+1,x::xs,ys,h=>by
  have ih:=JbF n xs ys (by simpa using h);have assoc :∀{α β γ:Type} (p:MP α) (f:α→MP β) (g:β→MP γ),(p.bind f).bind g=p.bind fun a=>(f a).bind g:=by
   intro α β γ p f g
   induction p with
   | ret a=>rfl
   | fail=>rfl
   | get k c ih=>simp only[MP.bind];congr 1;funext o;exact ih o
   | put k o c ih=>simp only[MP.bind];rw[ih]
   | new k o c ih=>simp only[MP.bind];rw[ih]
  show (pur n x).bind (fun d=>(pur.purs n (xs++ys)).bind fun ds=> .ret (d::ds))=((pur n x).bind fun d=>(pur.purs n xs).bind fun ds=> .ret (d::ds)).bind _;rw[ih];simp only[assoc,MP.bind,List.length_cons,Nat.add_sub_add_right,List.cons_append]
theorem Je8 :∀(n:Nat) (ds:List D),ds.length<n→pur.purs n (ds.map X.d) = .ret (ds.map D.norm)
 | 0,ds,h=>by omega
 | n+1,[],h=>rfl
 | n+1,d::ds,h=>by
  show (pur n (.d d)).bind (fun d=>(pur.purs n (ds.map X.d)).bind fun ds=> .ret (d::ds))=_;have hlt:ds.length<n:=by simpa using h
  obtain⟨k,rfl⟩ : ∃ k,n=k+1:=⟨n-1,by omega⟩;rw[Je8 (k+1) ds hlt];rfl
theorem JiO {s:Jjk} (hs:Jhy (.d s)=true) (f:FuncId) (es:List E) (fl:Bool) (hfl:fl=true→s.flat=true):(Jld s f es).Ok B ρ (γX ρ)
  (match dspec s (B.call f) (fEs ρ es) with
   | some r=>if fl then(if flat r then .ret (X.ofD r) else .fail) else .ret (X.ofD r)
   | none=> .fail):=by
 unfold Jld;cases hf:JE s.pars es with
 | none=>trivial
 | some ls =>
  intro n hn;simp only[I.holds] at hn;simp only[Jhy,JuD] at hs;obtain⟨d,h1,h2⟩:=JmW ρ s.res n hs.1;have hd:dspec s (B.call f) (fEs ρ es)=some d:=by
   unfold dspec fEs;rw[VD ρ _ _ _ hf,JuR,hn,JuR,h1]
  rw[hd];simp only[SMP.Ok,←h2];cases fl with
  | false=>rfl
  | true =>
   have hpl:s.res.leaves.all VZ=true:=by simpa[hfl rfl] using hs.2
   have:=JiT h1 (Jei ρ _ _ hpl);simp only[this,if_true]
theorem JnX {e:E} {v:SV} (h:ofE e=some v) (ρ:Env):X.ofD1 (dat ρ e)=γX ρ v:=by
 unfold ofE at h;split at h
 ·rename_i l;split at h
  ·rename_i cs hl;simp only[JuC] at h;subst h;show X.g ((lst ρ l).map .d)=X.g (γXs ρ (cs.map .d));rw[YH ρ _ _ hl,Jy,V8]
  ·cases h
 ·split at h
  ·rename_i ho;simp only[JuC] at h;subst h;rw[Jhp (J6 ho ρ)];rfl
  ·cases h
theorem Zy :∀(bs:List Bool) (xs:List SV),(YW bs xs).Ok B ρ (γXs ρ) (XS bs (xs.map (γX ρ)))
 | [],xs=>by
  cases xs <;> simp only[YW,XS,List.map_nil,SMP.Ok,Jy]
 | _::_,[]=>rfl
 | b::bs,x::xs=>by
  simp only[YW,XS,JuL];cases b with
  | true =>
   simp only[if_true];refine SMP.bind_ok (f:=dat ρ) (fun e=>?_) _ _ (Jig x);cases he:ofE e with
   | none=>trivial
   | some v =>
    simp only[JnX he ρ];refine SMP.bind_ok (f:=γXs ρ) (fun ys=>?_) _ _ (Zy bs xs);rfl
  | false =>
   simp only[JuT,if_false];refine SMP.bind_ok (f:=γXs ρ) (fun ys=>?_) _ _ (Zy bs xs);rfl
theorem JjR (bs:List Bool) (x:SV):(Jgw bs x).Ok B ρ (γX ρ) (Jbd bs (γX ρ x)):=by
 cases x with
 | g cs =>
  simp only[Jgw,γX,Jbd];have h:=Zy (B:=B) (ρ:=ρ) bs cs;rw[←Jy] at h;refine SMP.bind_ok (f:=γXs ρ) (fun ds=>?_) _ _ h;rfl
 | _=>rfl
theorem We :∀(bs:List (List Bool)) (xs:List SV),(Uz bs xs).Ok B ρ (γXs ρ) (Yv bs (γXs ρ xs))
 | [],xs=>by
  cases xs <;> rfl
 | _::_,[]=>rfl
 | b::bs,x::xs=>by
  simp only[Uz,γXs,Yv];refine SMP.bind_ok (f:=γX ρ) (fun y=>?_) _ _ (JjR b x);refine SMP.bind_ok (f:=γXs ρ) (fun ys=>?_) _ _ (We bs xs);rfl
theorem JkO :∀(es:List E) (xs:List SV),es.mapM ofE=some xs→(fEs ρ es).map X.ofD1=γXs ρ xs
 | [],xs,h=>by
  simp at h;subst h;rfl
 | e::es,xs,h=>by
  simp only[List.mapM_cons,Option.bind_eq_bind] at h;cases he:ofE e with
  | none=>rw[he] at h;cases h
  | some v =>
   cases hr:es.mapM ofE with
   | none=>rw[he,hr] at h;cases h
   | some vs =>
    rw[he,hr] at h;simp only[JuR,pure,JuC] at h;subst h;show X.ofD1 (dat ρ e)::(fEs ρ es).map X.ofD1=γX ρ v::γXs ρ vs;rw[JnX he ρ,JkO es vs hr]
theorem Joa (o:Ji):o.shal.lv2=o.lv2:=by cases o <;> rfl
theorem Jlt {s:Q1} (h:s.ok=true):s.shal.ok=true:=by
 unfold Q1.ok Q1.shal at *;have e:(s.robjs.take s.objs.length++(s.robjs.drop s.objs.length).map Ji.shal).flatMap Ji.lv2=s.robjs.flatMap Ji.lv2:=by
  conv=>rhs;rw[←List.take_append_drop s.objs.length s.robjs]
  rw[List.flatMap_append,List.flatMap_append,List.flatMap_map];simp only[Joa]
 simp only[e];exact h
theorem Jna {s:Q1} {ρ2:Env}:γm ρ2 (Zu 0 s.shal.robjs)=fun k=>if k<s.objs.length then γm ρ2 (Zu 0 s.robjs) k else(γm ρ2 (Zu 0 s.robjs) k).map Obj.shal:=by
 refine funext fun(k:Nat)=>?_;simp only[γm,Zk,Nat.zero_le,if_true,Nat.sub_zero,Q1.shal];have hs :∀o:Ji,γO ρ2 o.shal=(γO ρ2 o).shal:=fun o=>by cases o <;> rfl
 split
 ·rename_i hk
  by_cases hl:k<s.robjs.length
  ·rw[Ju4 (by rw[JuS];omega),Ju3 hk]
  ·rw[Ju0 (l:=s.robjs) (by omega),Ju0 (by rw[JuJ,JuS,JuM,List.length_drop];omega)]
 ·rename_i hk
  by_cases hl:s.objs.length≤s.robjs.length
  ·rw[Ju5 (by rw[JuS];omega),JuY,List.getElem?_drop,JuS,Nat.min_eq_left hl,show s.objs.length+(k-s.objs.length)=k by omega];cases s.robjs[k]? with
   | none=>rfl
   | some o=>simp[hs]
  ·rw[Ju0 (l:=s.robjs) (by omega),Ju0 (by rw[JuJ,JuS,JuM,List.length_drop];omega)];rfl
theorem Jmq {s:Q1} (h:s.ok=true) (F:List D→Option (List D)):JcR (YQ s F)=YQ s.shal F:=by
 funext xs os
 unfold JcR;cases h0:YQ s F xs os with
 | some r =>
  have hr:=VS h0;have hr2:s.shal.rel F xs os (r.1,fun k=>if k<os.length then r.2 k else(r.2 k).map Obj.shal):=by
   obtain⟨ρ1,ρ2,h1,h2,h3,rfl⟩:=hr;refine⟨ρ1,ρ2,h1,h2,h3,?_⟩;rw[Jna,h2,JuM];rfl
  rw[Jai (Jlt h) hr2];rfl
 | none =>
  cases h1:YQ s.shal F xs os with
  | none=>rfl
  | some r =>
   obtain⟨ρ1,ρ2,a1,a2,a3,a4⟩:=VS h1;have hr:s.rel F xs os (γX ρ2 s.res,γm ρ2 (Zu 0 s.robjs)):=⟨ρ1,ρ2,a1,a2,a3,rfl⟩;rw[Jai h hr] at h0;cases h0
theorem Jp3 {s:Q1} (h:s.ok=true) (dp:Bool):(s.by dp).ok=true:=by
 cases dp
 ·exact Jlt h
 ·exact h
theorem Jk4 {s:Q1} (h:s.ok=true) (dp:Bool) (F:List D→Option (List D)):(if dp=true then YQ s F else JcR (YQ s F))=YQ (s.by dp) F:=by
 cases dp
 ·exact Jmq h F
 ·rfl
theorem JmI (hB:BOk sg B) (o:Oper) (f:FuncId) (args:List SV):(Jjd sg (G.dp o) (G.bo o) (Jx o) f args).Ok B ρ (γX ρ) (Jay (X9 sg B) G o f (args.map (γX ρ))):=by
 unfold Jjd Jay X9;simp only;cases hf:sg f with
 | none=>trivial
 | some s =>
  cases s with
  | d s =>
   simp only;split
   ·rename_i hfl;simp only[JaD];refine SMP.bind_ok (f:=fEs ρ) (fun es=>?_) _ _ (Z9 40 args);exact JiO (hB.sig f _ hf) f es true (fun _=>hfl)
   ·refine SMP.bind_ok (f:=fEs ρ) (fun es=>?_) _ _ (VR args);exact JiO (hB.sig f _ hf) f es false (fun h=>by cases h)
  | x s =>
   simp only;split
   ·simp only[JaD];refine SMP.bind_ok (f:=fEs ρ) (fun es=>?_) _ _ (Z9 40 args);cases he:es.mapM ofE with
    | none=>trivial
    | some xs=>exact JgM (hB.sig f _ hf) f (Jx o) xs _ (JkO es xs he)
   split
   ·rw[←Jy,Jk4 (hB.sig f _ hf)];exact Jka (Jp3 (hB.sig f _ hf) _) f (Jx o) args
   ·rw[Jk4 (hB.sig f _ hf)];exact SMP.bind_ok (f:=γXs ρ) (fun xs=>SMP.bind_ok (f:=γXs ρ) (fun xs=>Jma (Jp3 (hB.sig f _ hf) _) f (Jx o) xs) _ _ (We _ xs)) _ _ (Zy _ args)
theorem Jio :∀(es ls:List E) (ss:List Sh) (caps:List D),UR es=some ls→ss.map Sh.ar=es.map arE++caps.map (fun _=>none)→ss.all noQ=true →
  Jr ss (es.map (dat ρ)++caps)=some (ls.map (dat ρ)++caps)
 | [],ls,ss,caps,h,hs,hq=>by
  simp only[UR,JuC] at h;subst h;simp only[List.map_nil,List.nil_append] at hs ⊢
  induction caps generalizing ss with
  | nil=>simp at hs;subst hs;rfl
  | cons c caps ih =>
   cases ss with
   | nil=>simp at hs
   | cons s ss =>
    simp only[JuL,List.cons.injEq] at hs;simp only[List.all_cons,JuD] at hq;cases s with
    | g as=>simp[Sh.ar] at hs
    | q as=>simp[noQ] at hq
    | one a=>simp only[Jr,ih ss hq.2 hs.2,JuF]
 | e::es,ls,ss,caps,h,hs,hq=>by
  cases ss with
  | nil=>simp at hs
  | cons s ss =>
   simp only[JuL,List.cons_append,List.cons.injEq] at hs;simp only[List.all_cons,JuD] at hq;have rest :∀ls',UR es=some ls'→Jr ss (es.map (dat ρ)++caps)=some (ls'.map (dat ρ)++caps):=fun ls' h=>Jio es ls' ss caps h hs.2 hq.2;have one:arE e=none→(UR es).map (e :: ·)=some ls→Jr (s::ss) ((e::es).map (dat ρ)++caps)=some (ls.map (dat ρ)++caps):=by
    intro ha h;cases hr:UR es with
    | none=>simp[hr] at h
    | some ls' =>
     simp only[hr,JuF,JuC] at h;subst h;cases s with
     | g as=>rw[ha] at hs;simp[Sh.ar] at hs
     | q as=>simp[noQ] at hq
     | one a=>simp only[JuL,List.cons_append,Jr,rest ls' hr,JuF]
   cases e with
   | g l =>
    simp only[UR] at h;split at h
    ·rename_i cs hl;cases hr:UR es with
     | none=>simp[hr] at h
     | some ls' =>
      simp only[hr,JuF,JuC] at h;subst h;simp only[arE,hl] at hs;cases s with
      | one a=>simp[Sh.ar] at hs
      | q as=>simp[noQ] at hq
      | g as =>
       simp only[Sh.ar,JuC] at hs;show Jr (.g as::ss) (D.g (lst ρ l)::(es.map (dat ρ)++caps))=_;simp only[Jr,YH ρ _ _ hl,JuM,hs.1,if_true,rest ls' hr,JuF,List.map_append,List.append_assoc]
    ·cases h
   | _=>exact one rfl h
theorem Jee :∀(cs:List SV) (l:List E) (n:Nat),UP.cells cs=some l→cs.length<n→pur.purs n (cs.map (γX ρ)) = .ret (l.map (dat ρ))
 | [],l,n,h,hn=>by
  simp only[UP.cells,JuC] at h;subst h;cases n <;> rfl
 | c::cs,l,0,h,hn=>by simp at hn
 | c::cs,l,n+1,h,hn=>by
  cases c with
  | d e =>
   simp only[UP.cells] at h;split at h
   ·rename_i ho;cases hr:UP.cells cs with
    | none=>simp[hr] at h
    | some l' =>
     simp only[hr,JuF,JuC] at h;subst h;have hlt:cs.length<n:=by simpa using hn
     obtain⟨k,rfl⟩ : ∃ k,n=k+1:=⟨n-1,by omega⟩;show (pur (k+1) (X.d (dat ρ e))).bind (fun d=>(pur.purs (k+1) (cs.map (γX ρ))).bind fun ds=> .ret (d::ds))=_;rw[Jee cs l' (k+1) hr hlt];simp only[pur,MP.bind,JuL,Zn ho]
   ·cases h
  | _=>simp[UP.cells] at h
theorem JnY {v:SV} {e:E} {n:Nat} (h:UP v=some e) (hn:22≤n):pur n (γX ρ v) = .ret (dat ρ e):=by
 obtain⟨k,rfl⟩ : ∃ k,n=k+1:=⟨n-1,by omega⟩;cases v with
 | d e' =>
  simp only[UP] at h;split at h
  ·rename_i ho;simp only[JuC] at h;subst h;simp only[γX,pur,Zn ho]
  ·cases h
 | g cs =>
  simp only[UP] at h;split at h
  ·rename_i hl;have hl:cs.length≤20:=Nat.le_of_ble_eq_true hl;cases hc:UP.cells cs with
   | none=>simp[hc] at h
   | some l =>
    simp only[hc,JuF,JuC] at h;subst h;simp only[γX,pur,Jy,Jee cs l k hc (by omega),MP.bind];show MP.ret _=MP.ret (D.g (lst ρ (J5 l)));rw[JD]
  ·cases h
 | _=>simp[UP] at h
theorem JfG :∀(vs:List SV) (es:List E) (n:Nat),WT vs=some es→22+vs.length≤n→pur.purs n (vs.map (γX ρ)) = .ret (es.map (dat ρ))
 | [],es,n,h,hn=>by
  simp only[WT,JuC] at h;subst h;cases n <;> rfl
 | v::vs,es,0,h,hn=>by omega
 | v::vs,es,n+1,h,hn=>by
  simp only[WT] at h;split at h
  ·rename_i e he;cases hr:WT vs with
   | none=>simp[hr] at h
   | some es' =>
    simp only[hr,JuF,JuC] at h;subst h;simp only[List.length_cons] at hn;show (pur n (γX ρ v)).bind (fun d=>(pur.purs n (vs.map (γX ρ))).bind fun ds=> .ret (d::ds))=_;rw[JnY he (by omega),JfG vs es' n hr (by omega)];rfl
  ·cases h
theorem Jnz (hB:BOk sg B) (o:Oper) (n0:Nat) (args:List SV) (rs:Sh1) :
  (Jn2 n0 args rs).Ok B ρ (γX ρ) (match X.d (dat ρ (.da n0)) with
   | .f fn cs=>Jay (X9 sg B) G o fn (args.map (γX ρ)++cs)
   | .d (.f fn cs)=>Jay (X9 sg B) G o fn (args.map (γX ρ)++cs.map X.d)
   | _=> .fail):=by
 unfold Jn2;split
 ·rename_i hpl;simp only[JuD] at hpl;have hlen:args.length≤8:=Nat.le_of_ble_eq_true hpl.2;cases hpe:WT args with
  | none=>trivial
  | some es =>
   simp only;cases hfe:UR es with
   | none=>trivial
   | some ls =>
    intro n hn;obtain⟨fn,caps,hd,h2,h3⟩:=hn;rw[hd];simp only;obtain⟨s,hsg,hs⟩:=hB.ar fn _ h2;unfold JqM at hs;split at hs
    ·rename_i hcond;simp only[JuD] at hcond;obtain⟨⟨hflat,hnq⟩,h30⟩:=hcond;have h30:s.pars.length≤30:=Nat.le_of_ble_eq_true h30;split at hs
     ·rename_i a hres;simp only[JuC] at hs;unfold Jay X9;simp only[hsg,hflat,if_true,JaD];have hcl:caps.length≤30:=by
       have:=congrArg List.length hs;simp at this;omega
      rw[JbF 40 _ _ (by simp;omega),JfG args es 40 hpe (by omega),Je8 _ caps (by simp;omega)];simp only[MP.bind];have hds:dspec s (B.call fn) (es.map (dat ρ)++caps.map D.norm)=some (dat ρ (rs.expr n)):=by
       unfold dspec;rw[Jio es ls s.pars (caps.map D.norm) hfe (by rw[hs];simp) hnq,JuR,h3,JuR,hres];simp only[Jz,JuL,List.map_nil,YY,J6 (Y5 rs n) ρ,if_true]
      rw[hds];have hfl:flat (dat ρ (rs.expr n))=true:=by
       cases rs <;> first | rfl | (exact absurd hpl.1 (by simp[VZ]))
      simp only[hfl,if_true,SMP.Ok,γX,JgZ (J6 (Y5 rs n) ρ)]
     ·cases hs
    ·cases hs
 ·trivial
end
end Go.Tm
end
section
namespace Go.Tm
open Go.IntKind (i64)
def W9 (l:E):E:=match l.list with
 | some cs=> .z cs.length
 | none=> .len l
def E.known:E→Option Bool
 | .tt=>some true
 | .ff=>some false
 | .cmp o (.z a) (.z b)=>some (o.sem a b)
 | _=>none
def KA {α:Type} (b:E) (c:SMP α):SMP α:=match b.known with
 | some true=>c
 | some false=> .fail
 | none=> .ask (fun _=> .chk b) 0 fun _=>c
def Ks (P:Program) (e:TypeId):Option Nat:=(tz P e).map fun z=>if z.2.2=0 then 2 ^ 46 else 2 ^ 46 / z.2.2
def JoS {α:Type} (sz:Nat) (l:E) (c:SMP α):SMP α:=match l with
 | .nil=>c
 | .cons (.g x) _=>match x.list with
  | some cs=>if cs.length=sz then c else .fail
  | none=> .fail
 | .cons x _=>if x.isOne&&sz == 1 then c else .fail
 | _=> .ask (fun _=> .head sz l) 0 fun _=>c
def Wc:SV→Option (IntKind×E)
 | .d (.vi k e)=>some (k,e)
 | _=>none
section
variable {B:Tb} {ρ:Env} {sg:FuncId→Option Sig} {P:Program} {G:Qg}
theorem Ze (l:E):int ρ (W9 l)=(lst ρ l).length:=by
 unfold W9;split
 ·rename_i cs h;rw[YH ρ _ _ h];simp[int,den,V.int]
 ·rfl
theorem ZX {b:E} {t:Bool} (h:b.known=some t):bol ρ b=t:=by
 unfold E.known at h;split at h <;> simp at h <;> subst h <;> rfl
theorem QQ {α β:Type} {f:α→β} {b:E} {c:SMP α} {q:MP β} (h:bol ρ b=true→c.Ok B ρ f q):(KA b c).Ok B ρ f q:=by
 unfold KA;split
 ·rename_i hk;exact h (ZX hk)
 ·trivial
 ·intro n hn;exact h hn
theorem Joj {α β:Type} {f:α→β} {sz:Nat} {l:E} {c:SMP α} {q:MP β} (h:Yc sz (lst ρ l)=true→c.Ok B ρ f q):(JoS sz l c).Ok B ρ f q:=by
 unfold JoS;split
 ·exact h rfl
 ·rename_i x l';split
  ·rename_i cs hl;split
   ·rename_i hs;refine h ?_;show ((D.g (lst ρ x)).cells.length == sz)=true;rw[YH ρ _ _ hl];simp[D.cells,hs]
   ·trivial
  ·trivial
 ·rename_i x l' _;split
  ·rename_i hx;simp only[JuD] at hx;refine h ?_;show ((dat ρ x).cells.length == sz)=true;rw[JcF (J6 hx.1 ρ)];have:sz=1:=by simpa using hx.2
   subst this;rfl
  ·trivial
 ·intro n hn;exact h hn
theorem V7 {e:TypeId} {m n:Nat} (h:Ks P e=some m) (hn:n≤m):U4 P e n=true:=by
 unfold Ks at h;unfold U4;cases ht:tz P e with
 | none=>simp[ht] at h
 | some z =>
  obtain⟨a,b,c⟩:=z;simp only[ht,JuF,JuC] at h;simp only[decide_eq_true_eq];split at h
  ·rename_i hc;subst hc;exact⟨by simp,by omega⟩
  ·rename_i hc;have h1:n≤2 ^ 46 / c:=by omega
   have h2:n*c≤2 ^ 46:=(Nat.le_div_iff_mul_le (by omega)).1 h1;have h3:n≤n*c:=Nat.le_mul_of_pos_right n (by omega);exact⟨h2,by omega⟩
theorem Jpf {v:SV} {k:IntKind} {e:E} (h:Wc v=some (k,e)):γX ρ v = .d (.v (.int k (int ρ e))):=by
 unfold Wc at h;split at h
 ·simp only[JuC,JuU] at h;obtain⟨rfl,rfl⟩:=h;rfl
 ·cases h
theorem YV {v:SV} {k:IntKind} {e:E} (h:Wc v=some (k,e)):WV (γX ρ v)=some (int ρ e):=by rw[Jpf h];rfl
theorem Z7 (a b:E):bol ρ (.cmp .le a b)=decide (int ρ a≤int ρ b):=rfl
theorem Jns (a b:E):bol ρ (.cmp .lt a b)=decide (int ρ a<int ρ b):=rfl
theorem JnH (a b:E):bol ρ (.cmp .eq a b)=decide (int ρ a=int ρ b):=rfl
theorem Jaj (n:Int):int ρ (.z n)=n:=rfl
def JkT (op:BinOp) (k:IntKind) (a b:E):SMP SV:=match op with
 | .add=> .ret (.d (.vi k (.bin .add k a b)))
 | .sub=> .ret (.d (.vi k (.bin .sub k a b)))
 | .mul=> .ret (.d (.vi k (.bin .mul k a b)))
 | .quo=>KA (.not (.cmp .eq b (.z 0))) (.ret (.d (.vi k (.bin .quo k a b))))
 | .rem=>KA (.not (.cmp .eq b (.z 0))) (.ret (.d (.vi k (.bin .rem k a b))))
 | .and=> .ret (.d (.vi k (.bin .and k a b)))
 | .or=> .ret (.d (.vi k (.bin .or k a b)))
 | .xor=> .ret (.d (.vi k (.bin .xor k a b)))
 | .eql=> .ret (.d (.vb (.cmp .eq a b)))
 | .neq=> .ret (.d (.vb (.not (.cmp .eq a b))))
 | .lss=> .ret (.d (.vb (.cmp .lt a b)))
 | .leq=> .ret (.d (.vb (.cmp .le a b)))
 | .gtr=> .ret (.d (.vb (.cmp .lt b a)))
 | .geq=> .ret (.d (.vb (.cmp .le b a)))
 | _=> .fail
theorem XK {op:BinOp} {t:TypeId} {x y:Operand} {k:IntKind} {a b:Int} {v:Value} (h:JO P (do eqGuard op t x y (.int k a) (.int k b);binOp op t (.int k a) (.int k b))=some v) (ho:v.oneCell=true) :
  KV (JO P (do eqGuard op t x y (.int k a) (.int k b);binOp op t (.int k a) (.int k b))) = .ret (.d (.v v)):=by
 rw[h];simp only[KV,ho,if_true]
theorem Jo0 (op:BinOp) (t:TypeId) (x y:Operand) (k:IntKind) (a b:E):(JkT op k a b).Ok B ρ (γX ρ)
  (KV (JO P (do eqGuard op t x y (.int k (int ρ a)) (.int k (int ρ b));binOp op t (.int k (int ρ a)) (.int k (int ρ b))))):=by
 cases op with
 | add=>exact XK (by simp[eqGuard,binOp,Op.intArith];rfl) rfl
 | sub=>exact XK (by simp[eqGuard,binOp,Op.intArith];rfl) rfl
 | mul=>exact XK (by simp[eqGuard,binOp,Op.intArith];rfl) rfl
 | quo =>
  simp only[JkT];refine QQ fun h=>?_;have h:(!decide (int ρ b=0))=true:=h;have h : ¬int ρ b=0:=by simpa using h
  exact XK (by simp[eqGuard,binOp,Op.intDiv,h];rfl) rfl
 | rem =>
  simp only[JkT];refine QQ fun h=>?_;have h:(!decide (int ρ b=0))=true:=h;have h : ¬int ρ b=0:=by simpa using h
  exact XK (by simp[eqGuard,binOp,Op.intDiv,h];rfl) rfl
 | and=>exact XK (by simp[eqGuard,binOp,Op.intBits];rfl) rfl
 | or=>exact XK (by simp[eqGuard,binOp,Op.intBits];rfl) rfl
 | xor=>exact XK (by simp[eqGuard,binOp,Op.intBits];rfl) rfl
 | eql=>exact XK (by simp[eqGuard,binOp,Op.intCmp];rfl) rfl
 | neq=>exact XK (by simp[eqGuard,binOp,Op.intCmp];rfl) rfl
 | lss=>exact XK (by simp[eqGuard,binOp,Op.intCmp];rfl) rfl
 | leq=>exact XK (by simp[eqGuard,binOp,Op.intCmp];rfl) rfl
 | gtr=>exact XK (by simp[eqGuard,binOp,Op.intCmp];rfl) rfl
 | geq=>exact XK (by simp[eqGuard,binOp,Op.intCmp];rfl) rfl
 | _=>trivial
def strE:E→Bool
 | .vc (.string _)=>true
 | .da _=>true
 | _=>false
def JqL (P:Program) (op:BinOp) (t:TypeId) (a b:SV):SMP SV:=match a,b with
 | .d (.vi k x),.d (.vi k' y)=>if k=k' then JkT op k x y else .fail
 | .d (.vb x),.d (.vb y)=>match P.underlying t,op with
  | some .bool,.eql=> .ret (.d (.vb (.beq x y)))
  | some .bool,.neq=> .ret (.d (.vb (.not (.beq x y))))
  | _,_=> .fail
 | .d x,.d y=>if strE x&&strE y then match P.underlying t,op with
  | some .string,.add=> .ask (fun n=> .prim .cat [x,y] .d n) 1 fun n=> .ret (.d (.da n))
  | some .string,.eql=> .ask (fun n=> .prim .seq [x,y] .b n) 1 fun n=> .ret (.d (.vb (.v n)))
  | some .string,.neq=> .ask (fun n=> .prim .seq [x,y] .b n) 1 fun n=> .ret (.d (.vb (.not (.v n))))
  | _,_=> .fail
  else .fail
 | _,_=> .fail
theorem JoG {p:JpO} {x y r:D} (hp:p = .cat∨p = .seq) (h:Kc p [x,y]=some r) : ∃ a b,x = .v (.string a)∧y = .v (.string b):=by
 rcases hp with rfl | rfl
 all_goals
  cases x with
  | v x=>cases x with
   | string a=>cases y with
    | v y=>cases y with
     | string b=>exact⟨a,b,rfl,rfl⟩
     | _=>simp[Kc] at h
    | _=>simp[Kc] at h
   | _=>simp[Kc] at h
  | _=>simp[Kc] at h
theorem Q7 {α β:Type} (f:α→Sem β) :∀x:Sem α,JO P (x >>= f)=(JO P x).bind fun a=>JO P (f a)
 | .pure a=>rfl
 | .program k=>Q7 f (k P)
 | .load _ _ _ | .store _ _ _ _ | .new _ _ | .shape _ _ | .freeze _ _ _ | .frozen _ _
 | .getObj _ _ | .setObj _ _ _ | .choose _ _ | .sys _ _ | .mark _ _ | .halt _=>rfl
theorem XL {t:TypeId} {d:TypeDesc} (h:P.underlying t=some d):JO P (underlying t)=some d:=by
 unfold underlying;rw[Q7];show (some P).bind _=_;simp only[JuR,h];rfl
theorem JkM {t:TypeId} (h:P.underlying t=some .bool) (a b:Bool):JO P (Op.equal t (.bool a) (.bool b))=some (a == b):=by
 show JO P (Op.equalIn (9999+1) t (.bool a) (.bool b))=_;unfold Op.equalIn;rw[Q7,XL h];rfl
theorem Jpp {t:TypeId} {x y:Operand} {u v:ByteArray} {r:D} (h:Kc .cat [.v (.string u),.v (.string v)]=some r) :
  JO P (do eqGuard .add t x y (.string u) (.string v);binOp .add t (.string u) (.string v))=some (.string (u++v))∧D.v (.string (u++v))=r:=by
 have h:(if u.size+v.size≤2 ^ 62 then some (D.v (.string (u++v))) else none)=some r:=h;split at h
 ·rename_i hz;simp only[JuC] at h;refine⟨?_,h⟩;show JO P (Op.stringOp .add u v)=_;have : ¬((u.size+v.size:Nat):Int) > i64.max:=by
   have:i64.max=9223372036854775807:=rfl;omega
  simp only[Op.stringOp,this,if_false];rfl
 ·cases h
theorem JpZ (op:BinOp) (t:TypeId) (x y:Operand) (a b:SV):(JqL P op t a b).Ok B ρ (γX ρ)
  (match γX ρ a,γX ρ b with
   | .d (.v a),.d (.v b)=>KV (JO P (do eqGuard op t x y a b;binOp op t a b))
   | _,_=> .fail):=by
 unfold JqL;split
 ·rename_i k a k' b;split
  ·rename_i hk;subst hk;exact Jo0 op t x y k a b
  ·trivial
 ·rename_i a b;split
  ·rename_i hu _;show KV (JO P (do eqGuard .eql t x y (.bool (bol ρ a)) (.bool (bol ρ b));binOp .eql t (.bool (bol ρ a)) (.bool (bol ρ b))))=_;have:JO P (do eqGuard .eql t x y (.bool (bol ρ a)) (.bool (bol ρ b));binOp .eql t (.bool (bol ρ a)) (.bool (bol ρ b)))=some (.bool (bol ρ a == bol ρ b)):=by
    show JO P (Op.equal t (Value.bool (bol ρ a)) (Value.bool (bol ρ b)) >>= fun r=>pure (Value.bool r))=_;rw[Q7,JkM (by assumption)];rfl
   rw[this];rfl
  ·rename_i hu _;show KV (JO P (do eqGuard .neq t x y (.bool (bol ρ a)) (.bool (bol ρ b));binOp .neq t (.bool (bol ρ a)) (.bool (bol ρ b))))=_;have:JO P (do eqGuard .neq t x y (.bool (bol ρ a)) (.bool (bol ρ b));binOp .neq t (.bool (bol ρ a)) (.bool (bol ρ b)))=some (.bool (!(bol ρ a == bol ρ b))):=by
    show JO P (Op.equal t (Value.bool (bol ρ a)) (Value.bool (bol ρ b)) >>= fun r=>pure (Value.bool (!r)))=_;rw[Q7,JkM (by assumption)];rfl
   rw[this];rfl
  ·trivial
 ·rename_i a b _ _;split
  ·split
   ·intro n hn;have hn:Kc .cat [dat ρ a,dat ρ b]=some (dat ρ (.da n)):=hn;obtain⟨u,v,ea,eb⟩:=JoG (.inl rfl) hn;rw[ea,eb] at hn;have hr:=Jpp (P:=P) (t:=t) (x:=x) (y:=y) hn;simp only[γX,ea,eb,hr.1];show MP.ret (X.d (.v (.string (u++v))))=MP.ret (X.d (dat ρ (.da n)));rw[hr.2]
   ·intro n hn;have hn:Kc .seq [dat ρ a,dat ρ b]=some (.v (.bool (bol ρ (.v n)))):=hn;obtain⟨u,v,ea,eb⟩:=JoG (.inr rfl) hn;rw[ea,eb] at hn;have hn:some (D.v (.bool (u.toList == v.toList)))=some (.v (.bool (bol ρ (.v n)))):=hn;simp only[JuC,D.v.injEq,Value.bool.injEq] at hn;simp only[γX,ea,eb];show MP.ret (X.d (.v (.bool (u.toList == v.toList))))=MP.ret (X.d (.v (.bool (bol ρ (.v n)))));rw[hn]
   ·intro n hn;have hn:Kc .seq [dat ρ a,dat ρ b]=some (.v (.bool (bol ρ (.v n)))):=hn;obtain⟨u,v,ea,eb⟩:=JoG (.inr rfl) hn;rw[ea,eb] at hn;have hn:some (D.v (.bool (u.toList == v.toList)))=some (.v (.bool (bol ρ (.v n)))):=hn;simp only[JuC,D.v.injEq,Value.bool.injEq] at hn;simp only[γX,ea,eb];show MP.ret (X.d (.v (.bool (!(u.toList == v.toList)))))=MP.ret (X.d (.v (.bool (!(bol ρ (.v n))))));rw[hn]
   ·trivial
  ·trivial
 ·trivial
def sun (op:UnOp) (a:SV):SMP SV:=match op,a with
 | .neg,.d (.vi k x)=> .ret (.d (.vi k (.bin .sub k (.z 0) x)))
 | .not,.d (.vb x)=> .ret (.d (.vb (match x with | .tt=> .ff | .ff=> .tt | .not y=>y | x=> .not x)))
 | _,_=> .fail
theorem Jqz (op:UnOp) (a:SV):(sun op a).Ok B ρ (γX ρ) (match γX ρ a with
  | .d (.v a)=>KV (JO P (Op.unary op a))
  | _=> .fail):=by
 unfold sun;split
 ·rfl
 ·rename_i x;show KV (JO P (Op.unary .not (.bool (bol ρ x))))=_;have:bol ρ (match x with | .tt=> .ff | .ff=> .tt | .not y=>y | x=> .not x) = !bol ρ x:=by
   split <;> simp[bol,den,V.bool]
  show MP.ret (X.d (.v (.bool !(bol ρ x)))) = .ret (X.d (.v (.bool (bol ρ _))));rw[this]
 ·trivial
def Jm9 (P:Program) (s d:TypeId) (a:SV):SMP SV:=match a,P.underlying s,P.underlying d with
 | .d (.vi k x),some _,some (.int k')=> .ret (.d (.vi k' (.cv k' x)))
 | _,_,_=> .fail
theorem JoT (s d:TypeId) (a:SV):(Jm9 P s d a).Ok B ρ (γX ρ) (match γX ρ a with
  | .d (.v a)=>KV (JO P (convert s d a))
  | _=> .fail):=by
 unfold Jm9;split
 ·rename_i k x u k' hs hd;show KV (JO P (convert s d (.int k (int ρ x))))=_;have:JO P (convert s d (.int k (int ρ x)))=some (.int k' (k'.wrap (int ρ x))):=by
   unfold convert;rw[Q7,XL hs,JuR,Q7,XL hd,JuR];cases u <;> rfl
  rw[this];rfl
 ·trivial
def JeK (z:List Value):List E:=z.map fun v=>(KE v).norm
theorem Jdm (z:List Value) (h:z.all (·.oneCell)=true):(JeK z).map (dat ρ)=z.map fun v=>(D.v v).norm:=by
 unfold JeK;rw[List.map_map];refine JuZ fun v hv=>?_;show dat ρ (KE v).norm=_;rw[Zn (Jiu (JuQ.1 h v hv)),Ja5]
theorem JnQ (z:List Value):(z.map fun v=>SV.d (KE v)).map (γX ρ)=z.map fun c=>X.d (.v c):=by
 rw[List.map_map];exact JuZ fun v _=>by simp only[Function.comp,γX,Ja5]
def Jgk (k:Key) (ag:Bool) (sz:Nat) (ks:Kds):Nat→List (Nat×SV)→SMP (List E)
 | _,[]=> .ret []
 | i, (j, x) :: rest =>
   match Yo x with
   | some vs=>if vs.length=sz∧j=i∧vs.all Jia then(Jg2 k ks vs).bind fun ds=>match smk ag ds with
       | some d=>(Jgk k ag sz ks (i+1) rest).bind fun es=> .ret (d::es)
       | none=> .fail
     else .fail
   | none=> .fail
theorem JfN {k:Key} {ag:Bool} {sz:Nat} {ks:Kds} :∀(ps:List (Nat×SV)) (i:Nat),(Jgk k ag sz ks i ps).Ok B ρ (fun l=>l.map (dat ρ)) (Jdq k ag sz ks i (ps.map fun p=>(p.1,γX ρ p.2)))
 | [],i=>rfl
 | (j,x)::rest,i=>by
  simp only[Jgk,JuL,Jdq];cases hc:Yo x with
  | none=>trivial
  | some vs =>
   simp only[K0 hc,JuM];split
   ·rename_i hh;rw[if_pos ⟨hh.1,hh.2.1,Vp hh.2.2 ρ⟩];refine SMP.bind_ok (f:=fun l=>l.map (dat ρ)) (fun ds=>?_) _ _ (Jbk k _ vs);cases hm:smk ag ds with
    | none=>trivial
    | some d =>
     simp only[Jc8 hm];refine SMP.bind_ok (f:=fun l=>l.map (dat ρ)) (fun es=>?_) _ _ (JfN rest (i+1));rfl
   ·trivial
def Vk (P : Program) (dp : Bool) (key : Key) (t : TypeId) (n : Nat) (ps : List (Nat × SV)) : SMP SV := match J2 P t with
  | some e=>match QS P e,Vh P e,QA P e with
    | some sz,some ag,some z=>match smk ag (JeK z) with
      | some zd=>if n*sz≤2 ^ 24∧z.length=sz∧0<sz∧z.all (·.oneCell) then
          if UM P dp e z&&ps.length == n&&n != 0 then
            .new key (.arr e sz .nil true true) ((Jgk key ag sz (QH P e) 0 ps).bind fun es=> .put key (.arr e sz (J5 es) true true) (.ret (.o key (J5 es))))
          else(JfZ ag sz (List.replicate n zd) true ps).bind fun es =>
            .new key (.arr e sz (J5 es.1) false true) (.ret (.o key (J5 es.1)))
        else .fail
      | none=> .fail
    | _,_,_=> .fail
  | none=> .fail
theorem Jdc {ag:Bool} {sz:Nat} :∀(ps:List (Nat×SV)) (es:List E) (dp:Bool) {f:List E×Bool→SMP SV} {g:List D×Bool→MP X},
  (∀r:List E×Bool,r.1.length=es.length→(f r).Ok B ρ (γX ρ) (g (fLB ρ r)))→((JfZ ag sz es dp ps).bind f).Ok B ρ (γX ρ) ((Jdp ag sz (es.map (dat ρ)) dp (ps.map fun p=>(p.1,γX ρ p.2))).bind g)
 | [],es,dp,f,g,h=>h (es,dp) rfl
 | (i,x)::rest,es,dp,f,g,h=>by
  simp only[JfZ,JuL,Jdp];cases hc:Yo x with
  | none=>trivial
  | some vs =>
   simp only[K0 hc,JuM];split
   ·rename_i hh;rw[if_pos ⟨hh.1,hh.2.1,Vp hh.2.2 ρ⟩];have assocS :∀{α β γ:Type} (p:SMP α) (f:α→SMP β) (g:β→SMP γ),(p.bind f).bind g=p.bind fun a=>(f a).bind g:=by
     intro α β γ p f g
     induction p with
     | ret a=>rfl
     | fail=>rfl
     | get k c ih=>simp only[SMP.bind];congr 1;funext o;exact ih o
     | put k o c ih=>simp only[SMP.bind];rw[ih]
     | new k o c ih=>simp only[SMP.bind];rw[ih]
     | ask i m c ih=>simp only[SMP.bind];congr 1;funext o;exact ih o
    have assoc :∀{α β γ:Type} (p:MP α) (f:α→MP β) (g:β→MP γ),(p.bind f).bind g=p.bind fun a=>(f a).bind g:=by
     intro α β γ p f g
     induction p with
     | ret a=>rfl
     | fail=>rfl
     | get k c ih=>simp only[MP.bind];congr 1;funext o;exact ih o
     | put k o c ih=>simp only[MP.bind];rw[ih]
     | new k o c ih=>simp only[MP.bind];rw[ih]
    rw[assocS,assoc];refine SMP.bind_ok (f:=fLB ρ) (fun ds=>?_) _ _ (Vb vs);cases hm:smk ag ds.1 with
    | none=>trivial
    | some d =>
     simp only[fLB,Jc8 hm];have:=Jdc (ag:=ag) (sz:=sz) rest (es.set i d) (dp&&ds.2) (f:=f) (g:=g) fun r hr=>h r (by simpa using hr);rw[List.map_set] at this;exact this
   ·trivial
theorem Jdb (dp:Bool) (key:Key) (t:TypeId) (n:Nat) (ps:List (Nat×SV)):(Vk P dp key t n ps).Ok B ρ (γX ρ) (match J2 P t with
  | some e=>match QS P e,Vh P e,QA P e with
   | some sz,some ag,some z=>match D.mk ag (z.map fun v=>(D.v v).norm) with
    | some zd=>if n*sz≤2 ^ 24∧z.length=sz∧0<sz∧z.all (·.oneCell) then
      if UM P dp e z&&ps.length == n&&n != 0 then
      .new key (.arr e sz [] true true) ((Jdq key ag sz (QH P e) 0 (ps.map fun p=>(p.1,γX ρ p.2))).bind fun es =>
       .put key (.arr e sz es true true) (.ret (.o key es.length)))
      else(Jdp ag sz (List.replicate n zd) true (ps.map fun p=>(p.1,γX ρ p.2))).bind fun es =>
       .new key (.arr e sz es.1 false true) (.ret (.o key n))
     else .fail
    | none=> .fail
   | _,_,_=> .fail
  | none=> .fail):=by
 unfold Vk;split
 ·rename_i e he;split
  ·rename_i sz ag z h1 h2 h3;cases hz:smk ag (JeK z) with
   | none=>trivial
   | some zd =>
    simp only;split
    ·rename_i hc;have hmk:=Jc8 hz ρ;rw[Jdm z hc.2.2.2] at hmk;simp only[hmk];split
     ·refine⟨_,rfl,?_⟩;refine SMP.bind_ok (f:=fun l=>l.map (dat ρ)) (fun es=>?_) _ _ (JfN ps 0);refine⟨_,by rw[γO,JD],?_⟩;simp only[SMP.Ok,γX,JD]
     rw[←List.map_replicate];refine Jdc ps _ true fun r hr=>?_;refine⟨_,by rw[γO,JD];rfl,?_⟩;simp only[SMP.Ok,γX,JD,JuM,hr,List.length_replicate]
    ·trivial
  ·trivial
 ·trivial
def Jm2 (n x:E):E:=match n with
 | .z m=>if 0≤m∧m≤64 then J5 (List.replicate m.toNat x) else .rep n x
 | _=> .rep n x
theorem Jcr (n x:E):lst ρ (Jm2 n x)=List.replicate (int ρ n).toNat (dat ρ x):=by
 unfold Jm2;split
 ·split
  ·rw[JD,List.map_replicate];rfl
  ·rfl
 ·rfl
def WM (P : Program) (dp : Bool) (key : Key) (t : TypeId) (l c : SV) : SMP SV := match J2 P t,Wc l,Wc c with
  | some e,some (_,l),some (_,c)=>match QS P e,Vh P e,QA P e with
    | some sz,some ag,some z=>match smk ag (JeK z),Ks P e with
      | some zd,some m=>if l.same c∧z.length=sz∧0<sz∧z.all (·.oneCell) then
          KA (.cmp .le (.z 0) l) (KA (.cmp .le l (.z m)) (.new key (.arr e sz (Jm2 l zd) (UM P dp e z) true) (.ret (.o key (Jm2 l zd)))))
        else .fail
      | _,_=> .fail
    | _,_,_=> .fail
  | _,_,_=> .fail
theorem Jev (dp:Bool) (key:Key) (t:TypeId) (l c:SV):(WM P dp key t l c).Ok B ρ (γX ρ) (match J2 P t,WV (γX ρ l),WV (γX ρ c) with
  | some e,some l,some c=>match QS P e,Vh P e,QA P e with
   | some sz,some ag,some z=>match D.mk ag (z.map fun v=>(D.v v).norm) with
    | some zd=>if 0≤l∧l=c∧U4 P e l.toNat∧z.length=sz∧0<sz∧z.all (·.oneCell) then
      .new key (.arr e sz (List.replicate l.toNat zd) (UM P dp e z) true) (.ret (.o key l.toNat))
     else .fail
    | none=> .fail
   | _,_,_=> .fail
  | _,_,_=> .fail):=by
 unfold WM;split
 ·rename_i e kl l' kc c' he hl hc;rw[YV hl,YV hc,he];simp only;split
  ·rename_i sz ag z h1 h2 h3;split
   ·rename_i zd m hz hm;split
    ·rename_i hcond;have hmk:=Jc8 hz ρ;rw[Jdm z hcond.2.2.2] at hmk;simp only[hmk];refine QQ fun h0=>QQ fun h4=>?_;rw[Z7,decide_eq_true_eq,Jaj] at h0 h4;have hlc:int ρ l'=int ρ c':=by unfold int;rw[V1 _ _ hcond.1]
     rw[if_pos ⟨h0,hlc,V7 hm (by omega),hcond.2⟩];refine⟨_,by rw[γO,Jcr],?_⟩;simp only[SMP.Ok,γX,Jcr,List.length_replicate]
    ·trivial
   ·trivial
  ·trivial
 ·trivial
def Jos (v:SV):Bool:=match v with
 | .d (.vc (.slice none 0 0))=>true
 | _=>false
theorem JnI {v:SV} (h:Jos v=true):γX ρ v = .d (.v (.slice none 0 0)):=by
 unfold Jos at h;split at h
 ·rfl
 ·cases h
def Jdh (P:Program) (key:Key) (t t':TypeId) (a b:SV):SMP SV:=match P.underlying t' with
 | some (.int _) => if Jos a then match J2 P t,Wc b with
   | some e,some (_,l)=>match QS P e,Vh P e,QA P e with
     | some sz,some ag,some z=>match smk ag (JeK z),Ks P e with
       | some zd,some m=>if z.length=sz∧0<sz∧z.all (·.oneCell) then
           KA (.cmp .lt (.z 0) l) (KA (.cmp .le l (.z m)) (.new key (.arr e sz (Jm2 l zd) false true) (.ret (.o key (Jm2 l zd)))))
         else .fail
       | _,_=> .fail
     | _,_,_=> .fail
   | _,_=> .fail
   else .fail
 | _=> .fail
theorem Jhn {o:Oper} (t t':TypeId) (a b:SV):(Jdh P (Jx o) t t' a b).Ok B ρ (γX ρ) (Jap P o t t' (γX ρ a) (γX ρ b)):=by
 unfold Jdh;split
 ·rename_i kx hkx;split
  ·rename_i ha;split
   ·rename_i e kl l' he hl;unfold Jap;rw[JnI ha,hkx];simp only;rw[YV hl,he];simp only;split
    ·rename_i sz ag z h1 h2 h3;split
     ·rename_i zd m hz hm;split
      ·rename_i hcond;have hmk:=Jc8 hz ρ;rw[Jdm z hcond.2.2] at hmk;rw[h1,h2,h3];simp only[hmk];refine QQ fun h0=>QQ fun h4=>?_;rw[Z7,decide_eq_true_eq] at h4;rw[Jns,decide_eq_true_eq] at h0;rw[Jaj] at h0 h4;rw[if_pos ⟨h0,V7 hm (by omega),hcond⟩];refine⟨_,by rw[γO,Jcr],?_⟩;simp only[SMP.Ok,γX,Jcr,List.length_replicate]
      ·trivial
     ·trivial
    ·trivial
   ·trivial
  ·trivial
 ·trivial
def Jny (P:Program) (key:Key) (t:TypeId) (x:SV) (lo hi mx:Option SV):SMP SV:=match lo,hi,mx with
 | none,some hv,none=>match Wc hv,J2 P t with
  | some (_,h),some e=>if(QS P e).isSome then match x with
   | .d (.s l)=>KA (.cmp .le (.z 0) h) (KA (.cmp .le h (W9 l)) (.ret (.d (.s (.take l h)))))
   | .o k l=> .get k fun
    | .arr ty sz l' _ true=>if l.lsame l' then KA (.cmp .le (.z 0) h) (KA (.cmp .le h (W9 l'))
     (.put k .dead (.new key (.arr ty sz (.take l' h) false true) (.ret (.o key (.take l' h)))))) else .fail
    | _=> .fail
   | .d (.vc (.slice none 0 0))=>match h with
    | .z 0=> .ret (.d (.vc (.slice none 0 0)))
    | _=> .fail
   | _=> .fail
   else .fail
  | _,_=> .fail
 | _,_,_=> .fail
def Jp6 (P:Program) (key:Key) (t:TypeId) (x:SV) (lo hi:Option SV) (mx:SV):SMP SV:=match lo,hi with
 | none,some hv=>match Wc hv,Wc mx,J2 P t with
  | some (_,h),some (_,q),some e=>if(QS P e).isSome then match x with
   | .o k l=> .get k fun
    | .arr ty sz l' dp true=>if l.lsame l' then KA (.cmp .eq h (W9 l')) (KA (.cmp .eq q (W9 l'))
     (.put k .dead (.new key (.arr ty sz l' dp true) (.ret (.o key l'))))) else .fail
    | _=> .fail
   | _=> .fail
   else .fail
  | _,_,_=> .fail
 | _,_=> .fail
theorem Jok {o:Oper} (t:TypeId) (x:SV) (lo hi:Option SV) (mx:SV):(Jp6 P (Jx o) t x lo hi mx).Ok B ρ (γX ρ) (Jlh P o t (γX ρ x) (lo.map (γX ρ)) (hi.map (γX ρ)) (γX ρ mx)):=by
 cases lo with
 | some _=>trivial
 | none =>
 cases hi with
 | none=>trivial
 | some hv =>
 show SMP.Ok B ρ (γX ρ) (match Wc hv,Wc mx,J2 P t with
  | some (_,h),some (_,q),some e=>if(QS P e).isSome then _ else .fail
  | _,_,_=> .fail) _
 cases hh:Wc hv with
 | none=>trivial
 | some kh =>
  obtain⟨kh,h⟩:=kh;cases hq:Wc mx with
  | none=>trivial
  | some kq =>
   obtain⟨kq,q⟩:=kq;cases he:J2 P t with
   | none=>trivial
   | some e =>
    simp only;have hix:=YV (ρ:=ρ) hh;have hiq:=YV (ρ:=ρ) hq;split
    ·rename_i hsz;cases x with
     | o k l =>
      simp only[γX,Jlh,Option.map_none,JuF,hix,hiq,he];refine⟨_,rfl,fun ob=>?_⟩;cases ob with
      | arr ty sz l' dp rw =>
       cases rw with
       | false=>trivial
       | true =>
        simp only[γO];split
        ·rename_i hl;refine QQ fun h0=>QQ fun h4=>?_;rw[JnH,decide_eq_true_eq,Ze] at h0;rw[JnH,decide_eq_true_eq,Ze] at h4;rw[if_pos ⟨lL1 hl ρ,h0,h4,hsz⟩];refine⟨_,rfl,_,rfl,?_⟩;show MP.ret _=MP.ret (X.o _ (lst ρ l').length);rw[lL1 hl ρ]
        ·trivial
      | _=>trivial
     | _=>trivial
    ·trivial
theorem Jl5 {o:Oper} (t:TypeId) (x:SV) (lo hi mx:Option SV):(Jny P (Jx o) t x lo hi mx).Ok B ρ (γX ρ) (UB P o t (γX ρ x) (lo.map (γX ρ)) (hi.map (γX ρ)) (mx.map (γX ρ))):=by
 cases lo with
 | some _=>trivial
 | none =>
 cases hi with
 | none=>trivial
 | some hv =>
 cases mx with
 | some _=>trivial
 | none =>
 show SMP.Ok B ρ (γX ρ) (match Wc hv,J2 P t with
  | some (_,h),some e=>if(QS P e).isSome then _ else .fail
  | _,_=> .fail) _
 cases hh:Wc hv with
 | none=>trivial
 | some kh =>
  obtain⟨kh,h⟩:=kh;cases he:J2 P t with
  | none=>trivial
  | some e =>
   simp only;have hix:=YV (ρ:=ρ) hh;split
   ·rename_i hsz;cases x with
    | d e' =>
     cases e' with
     | s l =>
      refine QQ fun h0=>QQ fun h4=>?_;rw[Z7,decide_eq_true_eq,Jaj] at h0;rw[Z7,decide_eq_true_eq,Ze] at h4;show UB P o t (.d (.s (lst ρ l))) none (some (γX ρ hv)) none=_;simp only[UB,JuF,hix,he];rw[if_pos ⟨h0,h4,hsz⟩];rfl
     | vc v =>
      split <;> rename_i heq <;> try trivial
      all_goals try (cases heq;done)
      cases heq;split
      ·show UB P o t (.d (.v (.slice none 0 0))) none (some (γX ρ hv)) none=_;simp only[UB,JuF,hix,he];rw[if_pos ⟨rfl,hsz⟩];rfl
      ·trivial
     | _=>trivial
    | o k l =>
     simp only[γX,UB,Option.map_none,JuF,hix,he];refine⟨_,rfl,fun ob=>?_⟩;cases ob with
     | arr ty sz l' dp rw =>
      cases rw with
      | false=>trivial
      | true =>
       simp only[γO];split
       ·rename_i hl;refine QQ fun h0=>QQ fun h4=>?_;rw[Z7,decide_eq_true_eq,Jaj] at h0;rw[Z7,decide_eq_true_eq,Ze] at h4;rw[if_pos ⟨lL1 hl ρ,h0,h4,hsz⟩];refine⟨_,rfl,_,rfl,?_⟩;show MP.ret _=MP.ret (X.o _ ((lst ρ l').take (int ρ h).toNat).length);rw[JuS,Nat.min_eq_left (by omega)]
       ·trivial
     | _=>trivial
    | _=>trivial
   ·trivial
def Wu (P:Program) (t:TypeId) (x:SV) (i:Nat):SMP SV:=match ZO P t i with
 | some (off,n)=>if n=0 then .fail else match x with
  | .p k off'=> .ret (.p k (off'+off))
  | .e k l j off'=> .get k fun
   | .arr _ _ l' _ _=>if l.lsame l' then .ret (.e k l j (off'+off)) else .fail
   | _=> .fail
  | .d (.q l)=>match l.list with
   | some cs=>if off<cs.length then .ret (.d (.q (J5 (cs.drop off)))) else .fail
   | none=> .fail
  | .d (.da a)=>match Jd9 P 8 t with
   | some as=>if off<as.length then .ask (fun n=> .get (.da a) (.q as) n) as.length fun n=> .ret (.d (.q (J5 ((Jz as n).drop off)))) else .fail
   | none=> .fail
  | _=> .fail
 | none=> .fail
theorem Jeq (t:TypeId) (x:SV) (i:Nat):(Wu P t x i).Ok B ρ (γX ρ) (match ZO P t i with
  | some (off,n)=>if n=0 then .fail else match γX ρ x with
   | .p k off'=> .ret (.p k (off'+off))
   | .e k n' j off'=> .get k fun
    | .arr _ _ es _ _=>if n'=es.length then .ret (.e k n' j (off'+off)) else .fail
    | _=> .fail
   | .d (.q cs)=>if off<cs.length then .ret (.d (.q (cs.drop off))) else .fail
   | _=> .fail
  | none=> .fail):=by
 unfold Wu;cases hf:ZO P t i with
 | none=>trivial
 | some p =>
  obtain⟨off,n⟩:=p;simp only;split
  ·trivial
  ·rename_i hn;cases x with
   | p k off'=>rfl
   | e k l j off' =>
    refine⟨_,rfl,fun o=>?_⟩;cases o with
    | arr ty sz l' dp rw =>
     simp only[γO];split
     ·rename_i hl;rw[if_pos (lL1 hl ρ)];rfl
     ·trivial
    | _=>trivial
   | d e =>
    cases e with
    | q l =>
     simp only;split
     ·rename_i cs hl;split
      ·rename_i hlt;show (if off<(lst ρ l).length then MP.ret (X.d (.q ((lst ρ l).drop off))) else .fail)=_;rw[YH ρ _ _ hl,if_pos (by simpa using hlt)];show _=MP.ret (X.d (.q (lst ρ (J5 (cs.drop off)))));rw[JD,List.map_drop]
      ·trivial
     ·trivial
    | da a =>
     simp only;split
     ·rename_i as has;split
      ·rename_i hlt;intro n' hn';simp only[I.holds,Sh.expr] at hn';simp only[γX,hn'];show (if off<(lst ρ (J5 (Jz as n'))).length then MP.ret (X.d (.q ((lst ρ (J5 (Jz as n'))).drop off))) else .fail)=_;rw[JD,if_pos (by simpa[Xf] using hlt)];show _=MP.ret (X.d (.q (lst ρ (J5 ((Jz as n').drop off)))));rw[JD,List.map_drop]
      ·trivial
     ·trivial
    | _=>trivial
   | _=>trivial
def Wx (P:Program) (t:TypeId) (x i:SV):SMP SV:=match J2 P t,Wc i with
 | some e,some (_,j)=>match QS P e,x with
  | some sz,.d (.s l)=>match JhP P e with
   | some (.q _)=> .fail
   | some sh=>if sh.size=sz then .ask (fun n=> .idx l j sh n) sh.size fun n=> .ret (.d (.q (J5 (sh.cells n)))) else .fail
   | none=> .fail
  | some sz,.o k l=>KA (.cmp .le (.z 0) j) (KA (.cmp .lt j (W9 l)) (.get k fun
   | .arr ty sz' l' _ _=>if l.lsame l'∧ty=e∧sz'=sz then .ret (.e k l j 0) else if ty=e∧sz'=sz then KA (.cmp .eq (.len l) (.len l')) (.ret (.e k l' j 0)) else .fail
   | _=> .fail))
  | _,_=> .fail
 | _,_=> .fail
theorem JgW (sh:Sh) (hq :∀as,sh≠ .q as) (n:Nat):(sh.cells n).length=sh.size:=by
 cases sh with
 | one a=>rfl
 | g as=>exact Xf as n
 | q as=>exact absurd rfl (hq as)
theorem JeA (t:TypeId) (x i:SV):(Wx P t x i).Ok B ρ (γX ρ) (match J2 P t,WV (γX ρ i) with
  | some e,some j=>match QS P e,γX ρ x with
   | some sz,.d (.s es)=>if 0≤j then match es[j.toNat]? with
     | some e=>if e.cells.length=sz then .ret (.d (.q e.cells)) else .fail
     | none=> .fail
    else .fail
   | some sz,.o k n=>if 0≤j∧j<n then .get k fun
     | .arr ty sz' es _ _=>if n=es.length∧ty=e∧sz'=sz then .ret (.e k n j.toNat 0) else .fail
     | _=> .fail
    else .fail
   | _,_=> .fail
  | _,_=> .fail):=by
 unfold Wx;split
 ·rename_i e kj j he hj;rw[YV hj,he];simp only;cases hsz:QS P e with
  | none=>trivial
  | some sz =>
   cases x with
   | d ex =>
    cases ex with
    | s l =>
     simp only;cases hs:JhP P e with
     | none=>trivial
     | some sh =>
      have key :∀hq :∀as,sh≠ .q as,SMP.Ok B ρ (γX ρ) (if sh.size=sz then .ask (fun n=> .idx l j sh n) sh.size fun n=> .ret (.d (.q (J5 (sh.cells n)))) else .fail)
        (if 0≤int ρ j then match (lst ρ l)[(int ρ j).toNat]? with
         | some e=>if e.cells.length=sz then .ret (X.d (.q e.cells)) else .fail
         | none=> .fail
        else .fail):=by
       intro hq;split
       ·rename_i hsize;intro n hn;obtain⟨h0,h1⟩:=hn;rw[if_pos h0,h1];simp only[JhE hq,JuM,JgW sh hq,hsize,if_true,SMP.Ok,γX];show _=MP.ret (X.d (.q (lst ρ (J5 (sh.cells n)))));rw[JD]
       ·trivial
      cases sh with
      | q as=>trivial
      | one a=>exact key (fun as h=>by cases h)
      | g as=>exact key (fun as h=>by cases h)
    | _=>trivial
   | o k l =>
    refine QQ fun h0=>QQ fun h1=>?_;rw[Z7,decide_eq_true_eq,Jaj] at h0;rw[Jns,decide_eq_true_eq,Ze] at h1;simp only[γX];rw[if_pos ⟨h0,h1⟩];refine⟨_,rfl,fun o=>?_⟩;cases o with
    | arr ty sz' l' dp rw =>
     simp only[γO];split
     ·rename_i hc;rw[if_pos ⟨lL1 hc.1 ρ,hc.2⟩];rfl
     ·split
      ·rename_i hc;refine QQ fun hl=>?_;have hl:decide (((lst ρ l).length:Int)=((lst ρ l').length:Int))=true:=hl;have hl:(lst ρ l).length=(lst ρ l').length:=by
        have:((lst ρ l).length:Int)=((lst ρ l').length:Int):=by simpa using hl
        omega
       rw[if_pos ⟨hl,hc⟩];simp only[SMP.Ok,γX,hl]
      ·trivial
    | _=>trivial
   | _=>trivial
 ·trivial
def Jjl (P:Program) (t:TypeId) (x:SV) (i:Nat):SMP SV:=match ZO P t i,VE P t i,x with
 | some (off,n),some true,.g cs=> .ret (.g ((cs.drop off).take n))
 | some (off,_),some false,.g cs=>match cs[off]? with
  | some c=> .ret c
  | none=> .fail
 | _,_,_=> .fail
theorem Jmv (t:TypeId) (x:SV) (i:Nat):(Jjl P t x i).Ok B ρ (γX ρ) (match ZO P t i,VE P t i,γX ρ x with
  | some (off,n),some true,.g cs=> .ret (.g ((cs.drop off).take n))
  | some (off,_),some false,.g cs=>match cs[off]? with
   | some c=> .ret c
   | none=> .fail
  | _,_,_=> .fail):=by
 unfold Jjl;split
 ·rename_i off n cs h1 h2;rw[h1,h2];simp only[γX,Jy,SMP.Ok,List.map_take,List.map_drop]
 ·rename_i off n cs h1 h2;rw[h1,h2];simp only[γX,Jy,JuY];cases hc:cs[off]? with
  | none=>trivial
  | some c=>rfl
 ·trivial
def JgS:SV→SMP (E×Bool)
 | .d (.s l)=> .ret (l,false)
 | .d (.vc (.slice none 0 0))=> .ret (.nil,true)
 | .o k l=> .get k fun
  | .arr _ _ l' dp rw=>if l.lsame l'∧(dp&&rw)=false then .ret (l',false) else .fail
  | _=> .fail
 | _=> .fail
def fEB (ρ:Env) (p:E×Bool):List D×Bool:=(lst ρ p.1,p.2)
theorem JjX (v:SV):(JgS v).Ok B ρ (fEB ρ) (Jg5 (γX ρ v)):=by
 unfold JgS;split
 ·rfl
 ·rfl
 ·refine⟨_,rfl,fun o=>?_⟩;cases o with
  | arr ty sz l' dp rw =>
   simp only[γO];split
   ·rename_i h;rw[if_pos ⟨lL1 h.1 ρ,by simp[h.2]⟩];rfl
   ·trivial
  | _=>trivial
 ·trivial
def ZT (P : Program) (key : Key) (t : TypeId) (a b : SV) : SMP SV := match J2 P t with
  | none=> .fail
  | some e => match QS P e,Ks P e with
    | some sz,some m=>if 0<sz∧(QA P e).map (·.length)=some sz then(JgS b).bind fun f=>KA (.cmp .le (W9 f.1) (.z m)) (JoS sz f.1 (match a with
        | .d (.vc (.slice none 0 0))=>match f.1 with
          | .cons x l=> .new key (.arr e sz (.cons x l) false true) (.ret (.o key (.cons x l)))
          | _=> .fail
        | .o k l=> .get k fun
          | .arr ty sz' l' false true=>if l.lsame l'∧ty=e∧sz'=sz then
              KA (.cmp .le (W9 (.app l' f.1)) (.z m)) (.put k (.arr e sz (.app l' f.1) false true) (.ret (.o k (.app l' f.1))))
            else .fail
          | _=> .fail
        | _=> .fail))
      else .fail
    | _,_=> .fail
def JcY (P:Program) (key:Key) (t:TypeId) (a b:SV) (k j:Key) (l l2:E) (o1 o2:Ji):SMP SV:=match o1,o2 with
 | .arr ty sz l' true true,.arr ty' sz' f true true=>match J2 P t with
  | some e=>match Ks P e,f with
   | some m,.cons x r=>if l.lsame l'∧l2.lsame (.cons x r)∧ty=e∧ty'=e∧sz'=sz∧QS P e=some sz∧(QA P e).map (·.length)=some sz then
     KA (.cmp .le (W9 (.app l' (.cons x r))) (.z m)) (.put j .dead (.put k (.arr e sz (.app l' (.cons x r)) true true) (.ret (.o k (.app l' (.cons x r))))))
    else .fail
   | _,_=> .fail
  | none=> .fail
 | _,_=>ZT P key t a b
def JdH (P:Program) (key:Key) (t:TypeId) (a b:SV) (j:Key) (l2:E) (o2:Ji):SMP SV:=match o2 with
 | .arr ty' sz' f true true=>match J2 P t with
  | some e=>match Ks P e,f with
   | some m,.cons x r=>if l2.lsame (.cons x r)∧ty'=e∧QS P e=some sz'∧(QA P e).map (·.length)=some sz' then
     KA (.cmp .le (W9 (.cons x r)) (.z m)) (.new key (.arr e sz' .nil true true) (.put j .dead (.put key (.arr e sz' (.cons x r) true true) (.ret (.o key (.cons x r))))))
    else .fail
   | _,_=> .fail
  | none=> .fail
 | _=>ZT P key t a b
def Jg6 (P:Program) (dp:Bool) (key:Key) (t:TypeId) (a b:SV):SMP SV:=match a,b with
 | .o k l,.o j l2=>if k=j then ZT P key t a b else .get k fun o1=> .get j fun o2=>JcY P key t a b k j l l2 o1 o2
 | .d (.vc (.slice none 0 0)),.o j l2=>if dp=true then .get j fun o2=>JdH P key t a b j l2 o2 else ZT P key t a b
 | .d _,.o _ _=> .fail
 | _,_=>ZT P key t a b
end
end Go.Tm
end
section
namespace Go.Tm
open Go.IntKind (i64)
section
variable {B:Tb} {ρ:Env} {sg:FuncId→Option Sig} {P:Program} {G:Qg}
theorem Vo {o:Oper} (t:TypeId) (a b:SV):(ZT P (Jx o) t a b).Ok B ρ (γX ρ) (XZ P o t (γX ρ a) (γX ρ b)):=by
 unfold ZT XZ;cases he:J2 P t with
 | none=>trivial
 | some e =>
  simp only;cases hsz:QS P e with
  | none=>trivial
  | some sz =>
   cases hm:Ks P e with
   | none=>trivial
   | some m =>
    simp only;split
    ·rename_i hc;refine SMP.bind_ok (f:=fEB ρ) (fun f=>?_) _ _ (JjX b);obtain⟨fl,fb⟩:=f;refine QQ fun h1=>Joj fun h2=>?_;rw[Z7,decide_eq_true_eq,Ze,Jaj] at h1;have h1:((lst ρ fl).length:Int)≤m:=h1;have hcond:U4 P e (fEB ρ (fl,fb)).1.length=true∧Yc sz (fEB ρ (fl,fb)).1=true∧0<sz∧(QA P e).map (·.length)=some sz :=
      ⟨V7 hm (by show (lst ρ fl).length≤m;omega),h2,hc.1,hc.2⟩
     rw[if_pos hcond];split
     ·split
      ·rename_i x l hfl;have hfl:fl = .cons x l:=hfl;subst hfl;have hne : ¬(fEB ρ (E.cons x l,fb)).1=[]:=by
        show ¬(dat ρ x::lst ρ l)=[];simp
       show SMP.Ok B ρ (γX ρ) _ (if(fEB ρ (E.cons x l,fb)).1=[] then _ else _);rw[if_neg hne];exact⟨_,rfl,rfl⟩
      ·trivial
     ·rename_i k l;refine⟨_,rfl,fun ob=>?_⟩;cases ob with
      | arr ty sz' l' dp rw =>
       cases rw with
       | false=>cases dp <;> trivial
       | true =>
        cases dp with
        | true=>trivial
        | false =>
         simp only[γO];split
         ·rename_i hh;refine QQ fun h3=>?_;rw[Z7,decide_eq_true_eq,Ze,Jaj] at h3;have h3:((lst ρ (.app l' fl)).length:Int)≤m:=h3;have hlen:(lst ρ (.app l' fl)).length=(lst ρ l').length+(lst ρ fl).length:=by
           show (lst ρ l'++lst ρ fl).length=_;simp
          have hcond2:(lst ρ l).length=(lst ρ l').length∧ty=e∧sz'=sz∧U4 P e ((lst ρ l).length+(fEB ρ (fl,fb)).1.length)=true :=
           ⟨lL1 hh.1 ρ,hh.2.1,hh.2.2,by rw[lL1 hh.1 ρ];exact V7 hm (by show (lst ρ l').length+(lst ρ fl).length≤m;omega)⟩
          rw[if_pos hcond2];refine⟨_,rfl,?_⟩;show MP.ret (X.o k ((lst ρ l).length+(lst ρ fl).length))=_;simp only[SMP.Ok,γX,hlen,lL1 hh.1 ρ]
         ·trivial
      | _=>trivial
     ·trivial
    ·trivial
theorem Jik {o:Oper} (t:TypeId) (a b:SV) (k j:Key) (l l2:E) (o1 o2:Ji):(JcY P (Jx o) t a b k j l l2 o1 o2).Ok B ρ (γX ρ) (match γO ρ o1,γO ρ o2 with
  | .arr ty sz es true true,.arr ty' sz' fs true true=>match J2 P t with
   | some e=>if(lst ρ l).length=es.length∧(lst ρ l2).length=fs.length∧ty=e∧ty'=e∧sz'=sz∧QS P e=some sz∧fs≠[]∧U4 P e ((lst ρ l).length+(lst ρ l2).length)∧(QA P e).map (·.length)=some sz then
     .put j .dead (.put k (.arr e sz (es++fs) true true) (.ret (.o k ((lst ρ l).length+(lst ρ l2).length))))
    else .fail
   | none=> .fail
  | _,_=>XZ P o t (γX ρ a) (γX ρ b)):=by
 have h0:=Vo (B:=B) (ρ:=ρ) (P:=P) (o:=o) t a b;cases o1 with
 | arr ty sz l' dp rw=>cases o2 with
  | arr ty' sz' f dp' rw' =>
   cases dp <;> cases rw <;> cases dp' <;> cases rw' <;> first | exact h0 | skip
   simp only[γO,JcY];cases he:J2 P t with
   | none=>trivial
   | some e =>
    simp only;split
    ·rename_i m x r hm;split
     ·rename_i hc;refine QQ fun h3=>?_;rw[Z7,decide_eq_true_eq,Ze,Jaj] at h3;have h3:((lst ρ (.app l' (.cons x r))).length:Int)≤m:=h3;have hlen:(lst ρ (.app l' (.cons x r))).length=(lst ρ l').length+(lst ρ (.cons x r)).length:=by
       show (lst ρ l'++lst ρ (.cons x r)).length=_;simp
      have hl1:=lL1 hc.1 ρ;have hl2:=lL1 hc.2.1 ρ;have hne:lst ρ (.cons x r)≠[]:=by
       show dat ρ x::lst ρ r≠[];simp
      rw[if_pos ⟨hl1,hl2,hc.2.2.1,hc.2.2.2.1,hc.2.2.2.2.1,hc.2.2.2.2.2.1,hne,V7 hm (by rw[hl1,hl2];omega),hc.2.2.2.2.2.2⟩];refine⟨_,rfl,⟨_,rfl,?_⟩⟩;simp only[SMP.Ok,γX,hlen,hl1,hl2]
     ·trivial
    ·trivial
  | _=>cases dp <;> cases rw <;> exact h0
 | _=>exact h0
theorem Jhv {o:Oper} (t:TypeId) (a b:SV) (j:Key) (l2:E) (o2:Ji):(JdH P (Jx o) t a b j l2 o2).Ok B ρ (γX ρ) (match γO ρ o2 with
  | .arr ty' sz' fs true true=>match J2 P t with
   | some e=>if(lst ρ l2).length=fs.length∧ty'=e∧QS P e=some sz'∧fs≠[]∧U4 P e (lst ρ l2).length∧(QA P e).map (·.length)=some sz' then
     .new (Jx o) (.arr e sz' [] true true) (.put j .dead (.put (Jx o) (.arr e sz' fs true true) (.ret (.o (Jx o) (lst ρ l2).length))))
    else .fail
   | none=> .fail
  | _=>XZ P o t (γX ρ a) (γX ρ b)):=by
 have h0:=Vo (B:=B) (ρ:=ρ) (P:=P) (o:=o) t a b;cases o2 with
 | arr ty' sz' f dp' rw' =>
  cases dp' <;> cases rw' <;> first | exact h0 | skip
  simp only[γO,JdH];cases he:J2 P t with
  | none=>trivial
  | some e =>
   simp only;split
   ·rename_i m x r hm;split
    ·rename_i hc;refine QQ fun h3=>?_;rw[Z7,decide_eq_true_eq,Ze,Jaj] at h3;have h3:((lst ρ (.cons x r)).length:Int)≤m:=h3;have hl2:=lL1 hc.1 ρ;have hne:lst ρ (.cons x r)≠[]:=by
      show dat ρ x::lst ρ r≠[];simp
     rw[if_pos ⟨hl2,hc.2.1,hc.2.2.1,hne,V7 hm (by rw[hl2];omega),hc.2.2.2⟩];refine⟨_,rfl,⟨_,rfl,⟨_,rfl,?_⟩⟩⟩;simp only[SMP.Ok,γX,hl2]
    ·trivial
   ·trivial
 | _=>exact h0
theorem Jkd {o:Oper} (dp:Bool) (t:TypeId) (a b:SV):(Jg6 P dp (Jx o) t a b).Ok B ρ (γX ρ) (Jcu P dp o t (γX ρ a) (γX ρ b)):=by
 have h0:=Vo (B:=B) (ρ:=ρ) (P:=P) (o:=o) t a b;unfold Jg6;split
 ·rename_i k l j l2;show SMP.Ok B ρ (γX ρ) _ (if k=j then _ else _);split
  ·exact h0
  ·refine⟨_,rfl,fun o1=>⟨_,rfl,fun o2=>?_⟩⟩;exact Jik t (.o k l) (.o j l2) k j l l2 o1 o2
 ·rename_i j l2;show SMP.Ok B ρ (γX ρ) _ (if dp=true then _ else _);split
  ·refine⟨_,rfl,fun o2=>?_⟩;exact Jhv t (.d (.vc (.slice none 0 0))) (.o j l2) j l2 o2
  ·exact h0
 ·trivial
 ·rename_i h1 _ h2;unfold Jcu;split
  ·rename_i e1 e2;cases a <;> simp only[γX] at e1 <;> try cases e1
   cases b <;> simp only[γX] at e2 <;> try cases e2
   exact(h1 _ _ _ _ rfl rfl).elim
  ·rename_i e1 e2;cases a <;> simp only[γX] at e1 <;> try cases e1
   cases b <;> simp only[γX] at e2 <;> try cases e2
   exact(h2 _ _ _ rfl rfl).elim
  ·exact h0
def JeR:SV→SMP E
 | .d (.s l)=> .ret l
 | .d (.vc (.slice none 0 0))=> .ret .nil
 | .o k l=> .get k fun
  | .arr _ _ l' _ _=>if l.lsame l' then .ret l' else .fail
  | _=> .fail
 | _=> .fail
theorem JoI (v:SV):(JeR v).Ok B ρ (lst ρ) (Jej (γX ρ v)):=by
 unfold JeR;split
 ·rfl
 ·rfl
 ·refine⟨_,rfl,fun o=>?_⟩;cases o with
  | arr ty sz l' dp rw =>
   simp only[γO];split
   ·rename_i h;rw[if_pos (lL1 h ρ)];rfl
   ·trivial
  | _=>trivial
 ·trivial
def Ji9 (P:Program) (sg:FuncId→Option Sig) (dp bo:Bool) (o:Oper) (sl:SSl):SMP SV :=
 let r:=sop sl
 match o.op with
 | .move x | .assign x=> .ret (r x)
 | .pick c a b=>match r c with
  | .d (.vb e)=>match e.known with
   | some true=> .ret (r a)
   | some false=> .ret (r b)
   | none=> .fail
  | _=> .fail
 | .alloc t=>match QA P t with
  | some z=>if z.all (·.oneCell) then .new (Jx o) (.box (z.map fun v=> .d (KE v))) (.ret (.p (Jx o) 0)) else .fail
  | none=> .fail
 | .box _ x=>match Yo (r x) with
  | some cs=> .new (Jx o) (.box cs) (.ret (.p (Jx o) 0))
  | none=> .fail
 | .build t ps=>match QA P t,Jf7 P t with
  | some z,some pl=>if z.all (·.oneCell) then match Jdi pl (z.map fun v=> .d (KE v)) (ps.toList.map fun p=>(p.1,r p.2)) with
   | some cs=> .ret (.g cs)
   | none=> .fail
   else .fail
  | _,_=> .fail
 | .buildSlice t n ps=>Vk P dp (Jx o) t n (ps.toList.map fun p=>(p.1,r p.2))
 | .load t a=>JfY P t (r a)
 | .store t a x=>Jf0 P t (r a) (r x)
 | .nilCheck x=>match r x with
  | .p k off=> .ret (.p k off)
  | .d (.q l)=> .ret (.d (.q l))
  | .f fn cs=> .ret (.f fn cs)
  | .d (.fn f l)=> .ret (.d (.fn f l))
  | _=> .fail
 | .binOp op t x y _=>JqL P op t (r x) (r y)
 | .unOp op _ x=>sun op (r x)
 | .convert s d x=>Jm9 P s d (r x)
 | .makeFunc (.func f) fs cs=>if fs.isEmpty then .ret (.f f (cs.toList.map r)) else .fail
 | .makeSlice t l c=>WM P dp (Jx o) t (r l) (r c)
 | .slice t x lo hi mx=>match mx with
  | none=>Jny P (Jx o) t (r x) (lo.map r) (hi.map r) none
  | some q=>Jp6 P (Jx o) t (r x) (lo.map r) (hi.map r) (r q)
 | .fieldAddr t x i=>Wu P t (r x) i
 | .field t x i=>Jjl P t (r x) i
 | .indexAddr t x i=>Wx P t (r x) (r i)
 | .extract x i=>match r x with
  | .t cs=>match cs[i]? with
   | some c=> .ret c
   | none=> .fail
  | _=> .fail
 | .call c=>match c.callee with
  | .builtin .len=>match c.args.toList,c.argTypes.toList with
   | [p],[t]=>match J2 P t with
    | some _=>(JeR (r p)).bind fun l=> .ret (.d (.vi .i64 (W9 l)))
    | none=> .fail
   | _,_=> .fail
  | .builtin .append=>match c.args.toList,c.argTypes.toList with
   | [p,q],[t,t']=>if t'=t then Jg6 P dp (Jx o) t (r p) (r q) else Jdh P (Jx o) t t' (r p) (r q)
   | _,_=> .fail
  | .builtin .cap=>match c.args.toList,c.argTypes.toList with
   | [p],[t]=>if Jkr (r p) then match J2 P t with
    | some _=> .ret (.d (.vi .i64 (.z 0)))
    | none=> .fail
    else .fail
   | _,_=> .fail
  | .value f=>match r f with
   | .f fn cs=>Jjd sg dp bo (Jx o) fn (c.args.toList.map r++cs)
   | .d (.da n)=>Jn2 n (c.args.toList.map r) (sh1 P o.type)
   | _=> .fail
  | _=> .fail
 | _=> .fail
theorem JeN (ρ:Env) (sl:SSl) (ps:List (Nat×Operand)):(ps.map fun p=>(p.1,opX (γs ρ sl) p.2))=(ps.map fun p=>(p.1,sop sl p.2)).map fun p=>(p.1,γX ρ p.2):=by
 rw[List.map_map];exact JuZ fun p _=>by simp only[Function.comp,QK]
theorem Jln (ρ:Env) (sl:SSl) (l:List Operand):l.map (opX (γs ρ sl))=(l.map (sop sl)).map (γX ρ):=by
 rw[List.map_map];exact JuZ fun p _=>by simp only[Function.comp,QK]
theorem JpU (hB:BOk sg B) (o:Oper) (sl:SSl):(Ji9 P sg (G.dp o) (G.bo o) o sl).Ok B ρ (γX ρ) (opM P (X9 sg B) G (γs ρ sl) o):=by
 unfold Ji9 opM;cases o.op with
 | move x=>simp only[QK];rfl
 | assign x=>simp only[QK];rfl
 | pick c a b =>
  simp only[QK];split
  ·rename_i e h;split
   ·rename_i hk;rw[h];have:=ZX (ρ:=ρ) hk;rw[show γX ρ (.d (.vb e)) = .d (.v (.bool (bol ρ e))) from rfl,this];rfl
   ·rename_i hk;rw[h];have:=ZX (ρ:=ρ) hk;rw[show γX ρ (.d (.vb e)) = .d (.v (.bool (bol ρ e))) from rfl,this];rfl
   ·trivial
  ·trivial
 | alloc t =>
  simp only;split
  ·rename_i z hz;split
   ·rename_i h;rw[hz];simp only[h,if_true];refine⟨_,by rw[γO,Jy,JnQ];rfl,rfl⟩
   ·trivial
  ·trivial
 | box t x =>
  simp only[QK];split
  ·rename_i cs h;rw[K0 h];exact⟨_,by rw[γO,Jy];rfl,rfl⟩
  ·trivial
 | build t ps =>
  simp only[JeN];split
  ·rename_i z pl hz hpl;split
   ·rename_i h;split
    ·rename_i cs hcs;have:=Jfn (ρ:=ρ) _ _ _ hcs;rw[JnQ] at this;rw[hz,hpl];simp only[h,if_true];rw[this];simp only[SMP.Ok,γX,Jy]
    ·trivial
   ·trivial
  ·trivial
 | buildSlice t n ps=>simp only[JeN];have h:=Jdb (B:=B) (ρ:=ρ) (P:=P) (G.dp o) (Jx o) t n (ps.toList.map fun p=>(p.1,sop sl p.2));rw[JuM] at h;exact h
 | load t a=>simp only[QK];exact Je9 t _
 | store t a x=>simp only[QK];exact Jj8 t _ _
 | nilCheck x =>
  simp only[QK];split
  ·rename_i h;rw[h];rfl
  ·rename_i h;rw[h];rfl
  ·rename_i h;rw[h];rfl
  ·rename_i h;rw[h];rfl
  ·trivial
 | binOp op t x y t'=>simp only[QK];exact JpZ op t x y _ _
 | unOp op t x=>simp only[QK];exact Jqz op _
 | convert s d x=>simp only[QK];exact JoT s d _
 | makeFunc fn fs cs =>
  cases fn with
  | func f =>
   simp only;split
   ·rename_i h;simp only[Jln,SMP.Ok,γX,Jy]
   ·trivial
  | _=>trivial
 | makeSlice t l c=>simp only[QK];exact Jev _ _ t _ _
 | slice t x lo hi mx =>
  simp only[QK];have e :∀q:Option Operand,q.map (opX (γs ρ sl))=(q.map (sop sl)).map (γX ρ):=fun q=>by cases q <;> simp[QK]
  cases mx with
  | none=>simp only[];rw[e,e];exact Jl5 t _ _ _ none
  | some q=>simp only[];rw[e,e];exact Jok t _ _ _ _
 | fieldAddr t x i=>simp only[QK];exact Jeq t _ i
 | field t x i=>simp only[QK];exact Jmv t _ i
 | indexAddr t x i=>simp only[QK];exact JeA t _ _
 | extract x i =>
  simp only[QK];split
  ·rename_i cs h;rw[h];simp only[γX,Jy,JuY];cases hc:cs[i]? with
   | none=>trivial
   | some c=>rfl
  ·trivial
 | call c =>
  simp only;cases c.callee with
  | builtin b =>
   cases b with
   | len =>
    simp only[QK];split
    ·rename_i p t hp ht;rw[hp,ht];simp only;split
     ·rename_i e he;have key:((JeR (sop sl p)).bind fun l=> .ret (.d (.vi .i64 (W9 l)))).Ok B ρ (γX ρ) ((Jej (γX ρ (sop sl p))).bind fun es=> .ret (.d (.v (goInt es.length)))):=by
       refine SMP.bind_ok (f:=lst ρ) (fun l=>?_) _ _ (JoI _);show MP.ret (X.d (.v (.int .i64 ((lst ρ l).length:Int))))=MP.ret (X.d (.v (.int .i64 (int ρ (W9 l)))));rw[Ze]
      by_cases hs : ∃ s,γX ρ (sop sl p) = .d (.v (.string s))
      ·obtain⟨s,hs⟩:=hs;have:JeR (sop sl p) = .fail:=by
        unfold JeR;split
        ·rename_i h;rw[h] at hs;exact absurd hs (by simp[γX,dat,den,V.dat])
        ·rename_i h;rw[h] at hs;exact absurd hs (by simp[γX,dat,den,V.dat])
        ·rename_i h;rw[h] at hs;exact absurd hs (by simp[γX])
        ·rfl
       rw[this];trivial
      ·split
       ·rename_i s h;exact absurd ⟨_,h⟩ hs
       ·rw[he];exact key
     ·trivial
    ·trivial
   | append =>
    simp only[QK];split
    ·rename_i p q t t' hp ht;rw[hp,ht];simp only;split
     ·rename_i htt;exact Jkd _ t _ _
     ·exact Jhn t _ _ _
    ·trivial
   | cap =>
    simp only[QK];split
    ·rename_i p t hp ht;rw[hp,ht];simp only;split
     ·rename_i hn;split
      ·rename_i e he;have hv:sop sl p = .d (.vc (.slice none 0 0)):=by
        revert hn
        unfold Jkr;split
        ·rename_i h;intro _;exact h
        ·intro h;cases h
       rw[hv,he];rfl
      ·trivial
     ·trivial
    ·trivial
   | _=>trivial
  | value f =>
   simp only[QK,Jln];split
   ·rename_i fn cs h;rw[h];simp only[γX];rw[Jy,←List.map_append];exact JmI hB o fn _
   ·rename_i n h;rw[h];exact Jnz hB o n _ _
   ·trivial
  | invoke _ _=>trivial
 | _=>trivial
end
end Go.Tm
end
section
namespace Go.Tm
open Go.IntKind (i64)
structure SSt where
 sl:SSl
 m:Yb
inductive Wt where
 | yes | no | fork (d:Tmp) (b:E) (want:Bool) | bad
def Jqw:Option SV→Option E
 | some (.d (.vb b))=>some b
 | _=>none
def Jjx:Option SV→Bool
 | some (.t [])=>true
 | _=>false
def ZA (ops : Array Oper) (sl : SSl) (o : Oper) : Wt := match o.guard with
  | none=> .yes
  | some (j,want)=>match (ops[j]?).bind (·.dst) with
    | some d=>match Jqw (sl.lookup d) with
      | some b=>match b.known with
        | some t=>if t == want then .yes else .no
        | none=> .fork d b want
      | none=>if Jjx (sl.lookup d) then .no else .bad
    | none=> .bad
def Jhb (sl:SSl) (dst:Option Tmp) (v:SV):SSl:=match dst with
 | some d=>(d,v)::sl
 | none=>sl
def JaN:List I→R→R
 | [],r=>r
 | i::is,r=> .i i (JaN is r)
def KJ (t:Bool):E:=if t then .tt else .ff
abbrev Trs:=List (List (Key×Bool))
def ZR (P : Program) (sg : FuncId → Option Sig) (dp bo : Oper → Bool) (ops : Array Oper) : List Nat → SSl → Yb → Nat → Trs → (SSl → Yb → Nat → Trs → Option R) → Option R
  | [],sl,m,n,trs,k=>k sl m n trs.reverse
  | i::l,sl,m,n,trs,k=>match ops[i]? with
    | none=>none
    | some o =>
      let go:=fun(sl:SSl) (b:Bool)=>if b then match (Ji9 P sg (dp o) (bo o) o sl).run m n with
          | some r=>match ZR P sg dp bo ops l (Jhb sl o.dst r.val) r.m r.n (r.tr::trs) k with
            | some R=>some (JaN r.is R)
            | none=>none
          | none=>none
        else ZR P sg dp bo ops l (Jhb sl o.dst (.t [])) m n ([]::trs) k
      match ZA ops sl o with
      | .yes=>go sl true
      | .no=>go sl false
      | .fork d b want=>match go ((d,.d (.vb .tt))::sl) want,go ((d,.d (.vb .ff))::sl) (!want) with
        | some x,some y=>some (.ite b x y)
        | _,_=>none
      | .bad=>none
section
variable {B:Tb} {ρ:Env} {sg:FuncId→Option Sig} {P:Program} {G:Qg} {ops:Array Oper} {N:Nat}
theorem UN :∀(is:List I) (r:R) (o:Oc),Run B N (JaN is r) ρ o→(∀i∈is,i.holds B ρ)∧Run B N r ρ o
 | [],r,o,h=>⟨fun i hi=>by simp at hi,h⟩
 | i::is,r,o,h=>by
  obtain⟨h1,h2⟩:=h;obtain⟨h3,h4⟩:=UN is r o h2;exact⟨fun j hj=>by
   rcases JuW.1 hj with rfl | hj
   ·exact h1
   ·exact h3 j hj,h4⟩
theorem JkD (sl:SSl) (dst:Option Tmp) (v:SV):U8 (γs ρ sl) dst (γX ρ v)=γs ρ (Jhb sl dst v):=by
 cases dst with
 | none=>rfl
 | some d=>exact(Jcz ρ sl d v).symm
theorem Je0 {sl:SSl} {d:Tmp} {v:SV} (h:sl.lookup d=some v):γs ρ sl d=γX ρ v:=by unfold γs;rw[h]
theorem JkH {sl:SSl} {d:Tmp} {b:E} {t:Bool} (h:sl.lookup d=some (.d (.vb b))) (ht:bol ρ b=t):γs ρ ((d,.d (.vb (KJ t)))::sl)=γs ρ sl:=by
 rw[Jcz]
 funext j
 unfold upd;split
 ·rename_i hj;subst hj;rw[Je0 h];show X.d (.v (.bool (bol ρ (KJ t))))=X.d (.v (.bool (bol ρ b)));rw[ht];cases t <;> rfl
 ·rfl
theorem Jgt {sl:SSl} {d:Tmp} {b:E} (h:Jqw (sl.lookup d)=some b):γs ρ sl d=X.d (.v (.bool (bol ρ b)))∧sl.lookup d=some (.d (.vb b)):=by
 unfold Jqw at h;split at h
 ·rename_i b' hl;simp only[JuC] at h;subst h;exact⟨by rw[Je0 hl];rfl,hl⟩
 ·cases h
theorem Jhg {sl:SSl} {o:Oper} (h:ZA ops sl o = .yes):QZ ops (γs ρ sl) o=some true:=by
 unfold ZA at h;unfold QZ;split at h
 ·rename_i hg;rw[hg]
 ·rename_i j want hg;rw[hg];simp only;split at h
  ·rename_i d hd;rw[hd];simp only;split at h
   ·rename_i b hb;rw[(Jgt (ρ:=ρ) hb).1];split at h
    ·rename_i t ht;split at h
     ·rename_i hw;rw[ZX ht];simpa using hw
     ·cases h
    ·cases h
   ·split at h <;> cases h
  ·cases h
theorem JmC {sl:SSl} {d:Tmp} (h:Jjx (sl.lookup d)=true):γs ρ sl d=X.t []:=by
 unfold Jjx at h;split at h
 ·rename_i hl;rw[Je0 hl];rfl
 ·cases h
theorem Jje {sl:SSl} {o:Oper} (h:ZA ops sl o = .no):QZ ops (γs ρ sl) o=some false:=by
 unfold ZA at h;unfold QZ;split at h
 ·cases h
 ·rename_i j want hg;rw[hg];simp only;split at h
  ·rename_i d hd;rw[hd];simp only;split at h
   ·rename_i b hb;rw[(Jgt (ρ:=ρ) hb).1];split at h
    ·rename_i t ht;split at h
     ·cases h
     ·rename_i hw;rw[ZX ht];simpa using hw
    ·cases h
   ·split at h
    ·rename_i h0;rw[JmC (ρ:=ρ) h0]
    ·cases h
  ·cases h
theorem Jf8 {sl:SSl} {o:Oper} {d:Tmp} {b:E} {want:Bool} (h:ZA ops sl o = .fork d b want):sl.lookup d=some (.d (.vb b))∧QZ ops (γs ρ sl) o=some (bol ρ b == want):=by
 unfold ZA at h;unfold QZ;split at h
 ·cases h
 ·rename_i j want' hg;rw[hg];simp only;split at h
  ·rename_i d' hd;rw[hd];simp only;split at h
   ·rename_i b' hb;obtain⟨h1,h2⟩:=Jgt (ρ:=ρ) hb;rw[h1];split at h
    ·split at h <;> cases h
    ·cases h;exact⟨h2,rfl⟩
   ·split at h <;> cases h
  ·cases h
theorem Jas (hB:BOk sg B) :∀(l:List Nat) (sl:SSl) (m:Yb) (n:Nat) (trs:Trs) (k:SSl→Yb→Nat→Trs→Option R) (R:R) (o:Oc),ZR P sg G.dp G.bo ops l sl m n trs k=some R→Run B N R ρ o →
  ∃ sl' m' n' tl R',Yd P (X9 sg B) G ops l ⟨γs ρ sl,γm ρ m⟩=some (⟨γs ρ sl',γm ρ m'⟩,tl)∧k sl' m' n' (trs.reverse++tl)=some R'∧Run B N R' ρ o
 | [],sl,m,n,trs,k,R,o,h,hr=>⟨sl,m,n,[],R,rfl,by simpa[ZR] using h,hr⟩
 | i::l,sl,m,n,trs,k,R,o,h,hr=>by
  have ih:=Jas hB l;simp only[ZR] at h;cases hi:ops[i]? with
  | none=>simp[hi] at h
  | some op =>
   simp only[hi] at h;have yes :∀(sl:SSl) (R:Go.Tm.R),(match (Ji9 P sg (G.dp op) (G.bo op) op sl).run m n with
     | some r=>match ZR P sg G.dp G.bo ops l (Jhb sl op.dst r.val) r.m r.n (r.tr::trs) k with
      | some R=>some (JaN r.is R)
      | none=>none
     | none=>none)=some R→Run B N R ρ o→QZ ops (γs ρ sl) op=some true →
     ∃ sl' m' n' tl R',Yd P (X9 sg B) G ops (i::l) ⟨γs ρ sl,γm ρ m⟩=some (⟨γs ρ sl',γm ρ m'⟩,tl)∧k sl' m' n' (trs.reverse++tl)=some R'∧Run B N R' ρ o:=by
    intro sl R h hr hw;split at h
    ·rename_i r hrun;split at h
     ·rename_i R1 h1;simp only[JuC] at h;subst h;obtain⟨his,hr⟩:=UN _ _ _ hr;have hT:=SMP.run_ok _ _ _ _ _ (JpU (G:=G) (P:=P) hB op sl) hrun his;obtain⟨sl',m',n',tl,R',e1,e2,e3⟩:=ih _ _ _ _ k R1 o h1 hr;refine⟨sl',m',n',r.tr::tl,R',?_,by simpa using e2,e3⟩;simp only[Yd,hi,evM,hw,hT,JkD,e1]
     ·cases h
    ·cases h
   have no :∀(sl:SSl) (R:Go.Tm.R),ZR P sg G.dp G.bo ops l (Jhb sl op.dst (.t [])) m n ([]::trs) k=some R→Run B N R ρ o→QZ ops (γs ρ sl) op=some false →
     ∃ sl' m' n' tl R',Yd P (X9 sg B) G ops (i::l) ⟨γs ρ sl,γm ρ m⟩=some (⟨γs ρ sl',γm ρ m'⟩,tl)∧k sl' m' n' (trs.reverse++tl)=some R'∧Run B N R' ρ o:=by
    intro sl R h hr hw;obtain⟨sl',m',n',tl,R',e1,e2,e3⟩:=ih _ _ _ _ k R o h hr;refine⟨sl',m',n',[]::tl,R',?_,by simpa using e2,e3⟩;have e0:U8 (γs ρ sl) op.dst (.t [])=γs ρ (Jhb sl op.dst (.t [])):=JkD sl op.dst (.t []);simp only[Yd,hi,evM,hw,MP.runT,e0,e1]
   cases hsw:ZA ops sl op with
   | yes =>
    simp only[hsw,if_true] at h;exact yes sl R h hr (Jhg hsw)
   | no =>
    simp only[hsw,JuT,if_false] at h;exact no sl R h hr (Jje hsw)
   | bad=>simp[hsw] at h
   | fork d b want =>
    simp only[hsw] at h;obtain⟨hd,hw⟩:=Jf8 (ρ:=ρ) hsw;split at h
    ·rename_i x y hx hy;simp only[JuC] at h;subst h;have part :∀(t:Bool) (w:Bool) (z:Go.Tm.R),bol ρ b=t→(t == want)=w→(if w=true then(match (Ji9 P sg (G.dp op) (G.bo op) op ((d,.d (.vb (KJ t)))::sl)).run m n with
        | some r=>match ZR P sg G.dp G.bo ops l (Jhb ((d,.d (.vb (KJ t)))::sl) op.dst r.val) r.m r.n (r.tr::trs) k with
         | some R=>some (JaN r.is R)
         | none=>none
        | none=>none) else ZR P sg G.dp G.bo ops l (Jhb ((d,.d (.vb (KJ t)))::sl) op.dst (.t [])) m n ([]::trs) k)=some z→Run B N z ρ o →
       ∃ sl' m' n' tl R',Yd P (X9 sg B) G ops (i::l) ⟨γs ρ sl,γm ρ m⟩=some (⟨γs ρ sl',γm ρ m'⟩,tl)∧k sl' m' n' (trs.reverse++tl)=some R'∧Run B N R' ρ o:=by
      intro t w z ht hwt hz hrz;have hk:=JkH hd ht;rw[←hk];rw[←hk,ht] at hw;cases w with
      | true=>simp only[if_true] at hz;exact yes _ z hz hrz (by rw[hw,hwt])
      | false=>simp only[JuT,if_false] at hz;exact no _ z hz hrz (by rw[hw,hwt])
     simp only[Run] at hr;cases hb:bol ρ b with
     | true =>
      rw[hb] at hr;exact part true want x hb (by cases want <;> rfl) hx hr
     | false =>
      rw[hb] at hr;simp only[JuT,if_false] at hr;exact part false (!want) y hb (by cases want <;> rfl) hy hr
    ·cases h
theorem Un {T:Tab} :∀(l:List Nat) (st st':St) (tl:Trs),Yd P T G ops l st=some (st',tl)→Va P T G ops l st=some st'
 | [],st,st',tl,h=>by
  simp only[Yd,JuC,JuU] at h;simp only[Va,h.1]
 | i::l,st,st',tl,h=>by
  simp only[Yd] at h;split at h
  ·cases h
  ·rename_i o ho;split at h
   ·cases h
   ·rename_i p hp;split at h
    ·cases h
    ·rename_i x m1 t1 hr;split at h
     ·cases h
     ·rename_i st2 ts h2;simp only[JuC,JuU] at h;obtain⟨rfl,rfl⟩:=h;rw[MP.runT_eq] at hr;cases hrun:p.run st.m with
      | none=>simp[hrun] at hr
      | some q =>
       obtain⟨x',m'⟩:=q;simp only[hrun,JuF,JuC,JuU] at hr;obtain⟨rfl,rfl,_⟩:=hr;have:=(Jag ho hp hrun).1;simp only[Va,this];exact Un l _ _ _ h2
end
end Go.Tm
end
section
namespace Go.Tm
open Go.IntKind (i64)
section
variable {P:Program} {c:Cx P} {g:Gh} {m mk:Mem} {w:World} {a:Act} {ρ ρ':Env}
def JlO (m mk:Mem) (k:Key):Prop:=mk k=m k∨∃ cs cs',m k=some (.box cs)∧mk k=some (.box cs')
mutual
theorem JkJ (hM :∀b,Mut g mk b→Mut g m b) :∀(x:X) (v:Value),(∀k∈x.names,JlO m mk k)→VX c g m w x v→VX c g mk w x v
 | .d x,v,_,⟨fp,h1,h2⟩=>⟨fp,h1,fun b hb=>⟨fun h=>(h2 b hb).1 (hM b h),(h2 b hb).2⟩⟩
 | .g cs,v,hn,⟨vs,e,h,h1⟩=>⟨vs,e,UC hM cs vs (fun k hk=>hn k (by simpa[X.names] using hk)) h,h1⟩
 | .t cs,v,hn,⟨vs,e,h⟩=>⟨vs,e,UC hM cs vs (fun k hk=>hn k (by simpa[X.names] using hk)) h⟩
 | .f fn cs,v,hn,⟨vs,e,h⟩=>⟨vs,e,UC hM cs vs (fun k hk=>hn k (by simpa[X.names] using hk)) h⟩
 | .o k n,v,hn,⟨h1,⟨o,ho,hb⟩,h2⟩=>by
  have e:mk k=m k:=by
   rcases hn k (by simp[X.names]) with e | ⟨cs,cs',h,_⟩
   ·exact e
   ·rw[ho] at h;cases h;exact absurd rfl (hb cs)
  exact⟨h1,⟨o,by rw[e];exact ho,hb⟩,fun ty sz es dp rw h=>h2 ty sz es dp rw (by rw[←e];exact h)⟩
 | .p k off,v,hn,⟨cs,b,h1,h2,h3⟩=>by
  rcases hn k (by simp[X.names]) with e | ⟨cs1,cs2,_,h⟩
  ·exact⟨cs,b,by rw[e];exact h1,h2,h3⟩
  ·exact⟨cs2,b,h,h2,h3⟩
 | .e k n i off,v,hn,⟨h1,⟨o,ho,hb⟩,h2⟩=>by
  have e:mk k=m k:=by
   rcases hn k (by simp[X.names]) with e | ⟨cs,cs',h,_⟩
   ·exact e
   ·rw[ho] at h;cases h;exact absurd rfl (hb cs)
  exact⟨h1,⟨o,by rw[e];exact ho,hb⟩,fun ty sz es dp rw h=>h2 ty sz es dp rw (by rw[←e];exact h)⟩
 | .u,_,_,_=>trivial
theorem UC (hM :∀b,Mut g mk b→Mut g m b) :∀(xs:List X) (vs:List Value),(∀k∈Qs xs,JlO m mk k)→VXs c g m w xs vs→VXs c g mk w xs vs
 | [],_,_,h=>h
 | x::xs,vs,hn,⟨v,vs',e,h1,h2⟩=>⟨v,vs',e,JkJ hM x v (fun k hk=>hn k (by simp[Qs,hk])) h1,UC hM xs vs' (fun k hk=>hn k (by simp[Qs,hk])) h2⟩
end
def Ux:SV→SV→SV
 | .d (.vc _),v=>v
 | .d _,.d e=> .d e.norm
 | .g ps,.g vs=> .g (go ps vs)
 | _,v=>v
where
 go:List SV→List SV→List SV
 | p::ps,v::vs=>Ux p v::go ps vs
 | _,vs=>vs
theorem E_norm_dat (ρ:Env) (e:E):dat ρ e.norm=dat ρ e∨dat ρ e.norm=(dat ρ e).norm:=by
 unfold E.norm;split
 ·exact .inr rfl
 ·exact .inl rfl
mutual
theorem Jfd :∀(p v:SV) (u:Value),VX c g m w (γX ρ v) u→VX c g m w (γX ρ (Ux p v)) u
 | .d p,v,u,h=>by
  cases p with
  | vc _=>exact h
  | _ =>
   cases v with
   | d e =>
    rcases E_norm_dat ρ e with h1 | h1
    ·simp only[Ux,γX,h1];exact h
    ·simp only[Ux,γX,h1];exact Jk7 (.d _) u h
   | _=>exact h
 | .g ps,v,u,h=>by
  cases v with
  | g vs =>
   obtain⟨us,e,h1,h2⟩:=h;exact⟨us,e,WU ps vs us h1,h2⟩
  | _=>exact h
 | .o _ _,v,u,h=>h
 | .p _ _,v,u,h=>h
 | .e _ _ _ _,v,u,h=>h
 | .f _ _,v,u,h=>h
 | .t _,v,u,h=>h
 | .u,v,u,h=>h
theorem WU :∀(ps vs:List SV) (us:List Value),VXs c g m w (γXs ρ vs) us→VXs c g m w (γXs ρ (Ux.go ps vs)) us
 | [],vs,us,h=>h
 | _::_,[],us,h=>h
 | p::ps,v::vs,us,⟨u,us',e,h1,h2⟩=>⟨u,us',e,Jfd p v u h1,WU ps vs us' h2⟩
end
def JbU:Ji→Ji→Ji
 | .box ps,.box vs=> .box (Ux.go ps vs)
 | _,o=>o
def Jcn:SSl→SSl→Option (List (E×E))
 | [],_=>some []
 | (t,p)::ts,sl=>match sl.lookup t with
  | some v=>match mv p (Ux p v) with
   | some l=>match Jcn ts sl with
    | some l'=>some (l++l')
    | none=>none
   | none=>none
  | none=>none
def JgR:Yb→Yb→Option (List (E×E))
 | [],_=>some []
 | (k,p)::ts,m=>match m.lookup k with
  | some o=>match mo p (JbU p o) with
   | some l=>match JgR ts m with
    | some l'=>some (l++l')
    | none=>none
   | none=>none
  | none=>none
def VA (m:Yb) (k:Key):Bool:=(m.lookup k).isSome
def Jd0 (cn cnt:Nat) (t s:SSt) (nl:Nat):Option (List E):=match Jcn t.sl s.sl,JgR t.m s.m with
 | some p,some q=>match Jjn cn (p++q) with
  | some bs=>if Jbs bs&&bs.all (fun b=>Nat.blt b.1 (cn+cnt))&&(t.sl.flatMap (fun x=>x.2.names)++t.m.flatMap fun x=>x.2.names).all (VA t.m)&&(List.range nl).all (VA t.m)
   then(List.range cnt).mapM fun i=>bs.lookup (cn+i) else none
  | none=>none
 | _,_=>none
def SSt.fresh (s:SSt):SSt:=⟨s.sl.map fun p=>(p.1,UQ (holds? s.m) p.2),s.m.map fun p=>(p.1,JgB (holds? s.m) p.2)⟩
def JcC (cn cnt:Nat) (t s:SSt) (nl:Nat):Option (List E):=Jd0 cn cnt t s.fresh nl
theorem YZ {α:Type} (f:α→α) :∀(l:List (Nat×α)) (k:Nat),(l.map fun p=>(p.1,f p.2)).lookup k=(l.lookup k).map f
 | [],k=>rfl
 | (j,x)::l,k=>by
  simp only[JuL,List.lookup_cons]
  by_cases h:k=j
  ·subst h;simp
  ·have hb:(k == j)=false:=by simpa using h
   simp only[hb,YZ f l k]
theorem JhQ (ρ:Env) (s:SSt):γs ρ s.fresh.sl=γs ρ s.sl∧γm ρ s.fresh.m=γm ρ s.m:=by
 refine⟨?_,?_⟩
 ·funext t
  unfold γs SSt.fresh;simp only[YZ];cases s.sl.lookup t with
  | none=>rfl
  | some v=>exact Je5 ρ _ v
 ·funext k
  unfold γm SSt.fresh;simp only[YZ,Option.map_map];cases s.m.lookup k with
  | none=>rfl
  | some o=>simp only[JuF,Function.comp,Jfq]
theorem Jdd :∀(t sl:SSl) (l:List (E×E)),Jcn t sl=some l→∀x∈t,∃ v l',sl.lookup x.1=some v∧mv x.2 (Ux x.2 v)=some l'∧∀q∈l',q∈l
 | [],sl,l,h,x,hx=>by simp at hx
 | (t,p)::ts,sl,l,h,x,hx=>by
  simp only[Jcn] at h;split at h
  ·rename_i v hv;split at h
   ·rename_i l1 h1;split at h
    ·rename_i l2 h2;simp only[JuC] at h;subst h;rcases JuW.1 hx with rfl | hx
     ·exact⟨v,l1,hv,h1,fun q hq=>by simp[hq]⟩
     ·obtain⟨v',l',e1,e2,e3⟩:=Jdd ts sl l2 h2 x hx;exact⟨v',l',e1,e2,fun q hq=>by simp[e3 q hq]⟩
    ·cases h
   ·cases h
  ·cases h
theorem JeE :∀(t m:Yb) (l:List (E×E)),JgR t m=some l→∀x∈t,∃ v l',m.lookup x.1=some v∧mo x.2 (JbU x.2 v)=some l'∧∀q∈l',q∈l
 | [],sl,l,h,x,hx=>by simp at hx
 | (t,p)::ts,sl,l,h,x,hx=>by
  simp only[JgR] at h;split at h
  ·rename_i v hv;split at h
   ·rename_i l1 h1;split at h
    ·rename_i l2 h2;simp only[JuC] at h;subst h;rcases JuW.1 hx with rfl | hx
     ·exact⟨v,l1,hv,h1,fun q hq=>by simp[hq]⟩
     ·obtain⟨v',l',e1,e2,e3⟩:=JeE ts sl l2 h2 x hx;exact⟨v',l',e1,e2,fun q hq=>by simp[e3 q hq]⟩
    ·cases h
   ·cases h
  ·cases h
theorem Yq {α:Type} :∀(l:List (Nat×α)) (k:Nat) (v:α),l.lookup k=some v→(k,v)∈l
 | [],k,v,h=>by simp at h
 | (j,x)::l,k,v,h=>by
  simp only[List.lookup_cons] at h
  by_cases hk:k=j
  ·subst hk;simp at h;subst h;simp
  ·have hb:(k == j)=false:=by simpa using hk
   rw[hb] at h;simp[Yq l k v h]
theorem Jle {α:Type} {f:Nat→Option α} :∀(n a:Nat) (l:List α),(List.range' a n).mapM f=some l→∀i,i<n→∃ x,f (a+i)=some x∧l[i]? = some x
 | 0,a,l,h,i,hi=>by omega
 | n+1,a,l,h,i,hi=>by
  rw[List.range'_succ,List.mapM_cons] at h;cases hf:f a with
  | none=>simp[hf] at h
  | some x =>
   cases hr:(List.range' (a+1) n).mapM f with
   | none=>simp[hf,hr] at h
   | some l' =>
    simp[hf,hr] at h;subst h;cases i with
    | zero=>exact⟨x,hf,rfl⟩
    | succ i =>
     obtain⟨y,h1,h2⟩:=Jle n (a+1) l' hr i (by omega);exact⟨y,by rw[←h1];congr 1;omega,by simpa using h2⟩
theorem Jdo {p o:Ji}:(∃ cs cs',γO ρ o = .box cs∧γO ρ (JbU p o) = .box cs'∧∀us,VXs c g m w cs us→VXs c g m w cs' us)∨(γO ρ (JbU p o)=γO ρ o∧∀cs,γO ρ o≠ .box cs):=by
 cases o with
 | box vs =>
  cases p with
  | box ps=>exact .inl ⟨_,_,rfl,rfl,fun us h=>WU ps vs us h⟩
  | _=>exact .inl ⟨_,_,rfl,rfl,fun us h=>h⟩
 | arr ty sz l dp rw=>exact .inr ⟨by cases p <;> rfl,fun cs=>by simp[γO]⟩
 | dead=>exact .inr ⟨by cases p <;> rfl,fun cs=>by simp[γO]⟩
theorem JiJ {cn cnt:Nat} {t s:SSt} {nl:Nat} {vs:List E} (h:Jd0 cn cnt t s nl=some vs) (ha:Jw cn ρ ρ') (hset:JbQ cn (vs.map (den ρ)) ρ')
  {g0:Gh} {m0:Mem} {w0:World} (hl :∀k,m0 k≠none→k<nl) (hS:Sim c g (γm ρ s.m) w) (hH:Ju c g (γm ρ s.m) w (γs ρ s.sl) a) (hC:Jf c g0 m0 w0 g (γm ρ s.m) w) :
  Sim c g (γm ρ' t.m) w∧Ju c g (γm ρ' t.m) w (γs ρ' t.sl) a∧Jf c g0 m0 w0 g (γm ρ' t.m) w:=by
 unfold Jd0 at h;split at h
 ·rename_i p q hp hq;split at h
  ·rename_i bs hbs;split at h
   ·rename_i hc;simp only[JuD] at hc;obtain⟨⟨⟨hcon,hlt⟩,hclo⟩,hlent⟩:=hc;rw[List.range_eq_range'] at h;have hat:=Jle cnt 0 vs h;have hρ :∀b∈bs,cn≤b.1→ρ' b.1=den ρ b.2:=by
     intro b hb hcb;have h1:=JuQ.1 hlt b hb;have h1:b.1<cn+cnt:=Nat.lt_of_succ_le (Nat.le_of_ble_eq_true h1);obtain⟨x,e1,e2⟩:=hat (b.1-cn) (by omega);have e1:bs.lookup b.1=some x:=by rw[←e1];congr 1;omega
     have h2:=hset (b.1-cn) (den ρ x) (by rw[JuY,e2];rfl);rw[show cn+(b.1-cn)=b.1 by omega] at h2;have h3:=JuQ.1 hcon b hb;rw[e1] at h3;rw[h2];exact V1 _ _ h3 ρ
    have hpair :∀z∈p++q,dat ρ' z.1=dat ρ z.2:=by
     intro z hz;obtain⟨r,h1,h2⟩:=JdY _ _ hbs z hz;refine JnF h1 ha fun j x hr=>?_;subst hr;exact hρ (j,x) (h2 _ rfl) (JnA h1)
    have hobj :∀k po,t.m.lookup k=some po→∃ o,s.m.lookup k=some o∧γO ρ' po=γO ρ (JbU po o):=by
     intro k po hk;obtain⟨o,l',e1,e2,e3⟩:=JeE _ _ _ hq (k,po) (Yq _ _ _ hk);exact⟨o,e1,Jqb e2 fun z hz=>hpair z (by simp[e3 z hz])⟩
    have hmk :∀k o',γm ρ' t.m k=some o'→∃ po o,t.m.lookup k=some po∧s.m.lookup k=some o∧o'=γO ρ (JbU po o):=by
     intro k o' hk;unfold γm at hk;cases hl':t.m.lookup k with
     | none=>rw[hl'] at hk;cases hk
     | some po =>
      rw[hl'] at hk;simp only[JuF,JuC] at hk;obtain⟨o,e1,e2⟩:=hobj k po hl';exact⟨po,o,rfl,e1,by rw[←hk,e2]⟩
    have hrw :∀po o:Ji,(γO ρ (JbU po o)).rw=(γO ρ o).rw:=by
     intro po o;cases o with
     | box vs=>cases po <;> rfl
     | _=>cases po <;> rfl
    have hM :∀b,Mut g (γm ρ' t.m) b→Mut g (γm ρ s.m) b:=by
     rintro b ⟨k,o',hk,hr,hb⟩;obtain⟨po,o,_,e2,rfl⟩:=hmk k o' hk;refine⟨k,γO ρ o,Xa e2,by rw[←hrw po];exact hr,?_⟩;have hdp:(γO ρ (JbU po o)).dpw=(γO ρ o).dpw:=by
      cases o with
      | box vs=>cases po <;> rfl
      | _=>cases po <;> rfl
     unfold Blk at hb ⊢;rw[hdp] at hb;exact hb
    have hlike :∀k,VA t.m k=true→JlO (γm ρ s.m) (γm ρ' t.m) k:=by
     intro k hk;obtain⟨po,hpo⟩:=Option.isSome_iff_exists.1 hk;obtain⟨o,e1,e2⟩:=hobj k po hpo;rw[JlO,Xa e1,Xa hpo,e2];rcases Jdo (c:=c) (g:=g) (m:=γm ρ s.m) (w:=w) (ρ:=ρ) (p:=po) (o:=o) with ⟨cs,cs',h1,h2,_⟩ | ⟨h1,_⟩
     ·exact .inr ⟨cs,cs',by rw[h1],by rw[h2]⟩
     ·exact .inl (by rw[h1])
    have hnames :∀x∈t.sl,∀k∈x.2.names,VA t.m k=true:=by
     intro x hx k hk;exact JuQ.1 hclo k (List.mem_append_left _ (List.mem_flatMap.2 ⟨x,hx,hk⟩))
    have hmnames :∀x∈t.m,∀k∈x.2.names,VA t.m k=true:=by
     intro x hx k hk;exact JuQ.1 hclo k (List.mem_append_right _ (List.mem_flatMap.2 ⟨x,hx,hk⟩))
    refine⟨Sim.restrict hS fun k o' hk=>?_,fun tt=>?_,⟨hC.size,fun b h1 h2 h3=>⟨(hC.pure b h1 h2 h3).1,fun hm=>(hC.pure b h1 h2 h3).2 (hM b hm)⟩,fun k cs hk=>?_,fun k ty sz es dp rw hk=>?_,fun k hk=>?_⟩⟩
    ·obtain⟨po,o,e1,e2,rfl⟩:=hmk k o' hk;refine⟨⟨_,Xa e2,(hrw po o).symm⟩,fun cs hcs=>?_,fun ty sz es dp rw he=>?_⟩
     ·rcases Jdo (c:=c) (g:=g) (m:=γm ρ s.m) (w:=w) (ρ:=ρ) (p:=po) (o:=o) with ⟨cs1,cs2,h1,h2,h3⟩ | ⟨h1,h2⟩
      ·rw[h2] at hcs;cases hcs;obtain⟨b,us,ty,a1,a2,a3,a4⟩:=hS.box k cs1 (by rw[Xa e2,h1]);refine⟨b,us,ty,a1,a2,UC hM _ _ (fun j hj=>hlike j ?_) (h3 us a3),a4⟩;have hx:(γO ρ' po).names=po.names:=Jfb ρ' po;have hn:po.names=Qs cs:=by
        have hob:γO ρ' po = .box cs:=by
         have:=hk;rw[Xa e1,h2] at this;exact Option.some.inj this
        rw[←hx,hob];rfl
       exact hmnames (k,po) (Yq _ _ _ e1) j (by rw[hn];exact hj)
      ·rw[h1] at hcs;exact absurd hcs (h2 cs)
     ·rcases Jdo (c:=c) (g:=g) (m:=γm ρ s.m) (w:=w) (ρ:=ρ) (p:=po) (o:=o) with ⟨cs1,cs2,h1,h2,h3⟩ | ⟨h1,h2⟩
      ·rw[h2] at he;cases he
      ·rw[Xa e2,h1]
    ·unfold γs;cases hlk:t.sl.lookup tt with
     | none=>trivial
     | some pv =>
      simp only;obtain⟨v,l',e1,e2,e3⟩:=Jdd _ _ _ hp (tt,pv) (Yq _ _ _ hlk);have hv:=hH tt;rw[Je0 e1] at hv;have e4:γX ρ' pv=γX ρ (Ux pv v):=Jqa _ _ _ e2 fun z hz=>hpair z (by simp[e3 z hz]);rw[e4];refine JkJ hM _ _ (fun k hk=>hlike k ?_) (Jfd pv v _ hv);rw[←e4,K4] at hk;exact hnames (tt,pv) (Yq _ _ _ hlk) k hk
    ·have hkey:VA t.m k=true:=JuQ.1 hlent k (List.mem_range.2 (hl k (by rw[hk];simp)));obtain⟨⟨cs',h1⟩,h2⟩:=hC.box k cs hk;refine⟨?_,h2⟩;rcases hlike k hkey with e | ⟨a1,a2,_,e⟩
     ·exact⟨cs',by rw[e];exact h1⟩
     ·exact⟨a2,e⟩
    ·have hkey:VA t.m k=true:=JuQ.1 hlent k (List.mem_range.2 (hl k (by rw[hk];simp)));rcases hlike k hkey with e | ⟨a1,a2,e1,e⟩
     ·rw[e];exact hC.arr k ty sz es dp rw hk
     ·rcases hC.arr k ty sz es dp rw hk with h1 | ⟨_,_,_,h1,_⟩
      ·rw[e1] at h1;cases h1
      ·rw[e1] at h1;cases h1
    ·have hkey:VA t.m k=true:=JuQ.1 hlent k (List.mem_range.2 (hl k (by rw[hk];simp)));rcases hlike k hkey with e | ⟨a1,a2,e1,e⟩
     ·rw[e];exact hC.dead k hk
     ·have:=hC.dead k hk;rw[e1] at this;cases this
   ·cases h
  ·cases h
 ·cases h
theorem WE {cn cnt:Nat} {t s:SSt} {nl:Nat} {vs:List E} (h:JcC cn cnt t s nl=some vs) (ha:Jw cn ρ ρ') (hset:JbQ cn (vs.map (den ρ)) ρ')
  {g0:Gh} {m0:Mem} {w0:World} (hl :∀k,m0 k≠none→k<nl) (hS:Sim c g (γm ρ s.m) w) (hH:Ju c g (γm ρ s.m) w (γs ρ s.sl) a) (hC:Jf c g0 m0 w0 g (γm ρ s.m) w) :
  Sim c g (γm ρ' t.m) w∧Ju c g (γm ρ' t.m) w (γs ρ' t.sl) a∧Jf c g0 m0 w0 g (γm ρ' t.m) w:=by
 obtain⟨e1,e2⟩:=JhQ ρ s;exact JiJ h ha hset hl (by rw[e2];exact hS) (by rw[e1,e2];exact hH) (by rw[e2];exact hC)
def X2 (keep:List Tmp) (sl:SSl):SSl:=keep.filterMap fun t=>match sl.lookup t with
 | some v=>some (t,v)
 | none=>none
theorem JoB (keep:List Tmp) (sl:SSl) (t:Tmp):(X2 keep sl).lookup t=none∨(X2 keep sl).lookup t=sl.lookup t:=by
 induction keep with
 | nil=>exact .inl rfl
 | cons s keep ih =>
  unfold X2 at ih ⊢;cases h:sl.lookup s with
  | none=>rw[List.filterMap_cons_none (by rw[h])];exact ih
  | some v =>
   rw[List.filterMap_cons_some (b:=(s,v)) (by rw[h])];simp only[List.lookup_cons]
   by_cases hts:t=s
   ·subst hts;right;simp[h]
   ·have hb:(t == s)=false:=by simpa using hts
    rw[hb];exact ih
theorem Jdw (keep:List Tmp) {sl:SSl} (h:Ju c g m w (γs ρ sl) a):Ju c g m w (γs ρ (X2 keep sl)) a:=by
 intro t;have ht:=h t;unfold γs at ht ⊢;rcases JoB keep sl t with e | e
 ·rw[e];trivial
 ·rw[e];exact ht
inductive Loc where
 | slot (t:Tmp)
 | cell (k:Key) (off:Nat)
 | kill (k:Key)
structure JhK where
 at_:Loc
 key:Key
 ty:TypeId
 sz:Nat
 dp:Bool:=false
 mv:Bool:=false
def JeV (o:JhK) (s:SSt):SSt:=if(s.m.lookup o.key).isSome then s else match o.at_ with
 | .slot t=>match s.sl.lookup t with
  | some (.d (.vc (.slice none 0 0)))=>⟨(t,.o o.key .nil)::s.sl,(o.key,.arr o.ty o.sz .nil o.dp true)::s.m⟩
  | some (.o j l)=>if o.mv then match s.m.lookup j with
   | some (.arr ty sz l' dp true)=>if l.lsame l' then ⟨(t,.o o.key l')::s.sl,(o.key,.arr ty sz l' dp true)::(j,.dead)::s.m⟩ else s
   | _=>s
   else s
  | _=>s
 | .cell k off=>match s.m.lookup k with
  | some (.box cs)=>match cs[off]? with
   | some (.d (.vc (.slice none 0 0)))=>⟨s.sl,(k,.box (cs.set off (.o o.key .nil)))::(o.key,.arr o.ty o.sz .nil o.dp true)::s.m⟩
   | some (.o j l)=>if o.mv then match s.m.lookup j with
    | some (.arr ty sz l' dp true)=>if l.lsame l' then ⟨s.sl,(k,.box (cs.set off (.o o.key l')))::(o.key,.arr ty sz l' dp true)::(j,.dead)::s.m⟩ else s
    | _=>s
    else s
   | _=>s
  | _=>s
 | .kill j=>match s.m.lookup j with
  | some (.arr ty sz l' dp true)=>⟨s.sl,(o.key,.arr ty sz l' dp true)::(j,.dead)::s.m⟩
  | _=>s
theorem Jnl {key j:Key} {ty:TypeId} {sz:Nat} {es:List D} {dp:Bool} (hS:Sim c g m w) (hk:m key=none) (hj:m j=some (.arr ty sz es dp true)) :
  ∃ g',Sim c g' (upd (upd m j (some .dead)) key (some (.arr ty sz es dp true))) w∧Jf c g m w g' (upd (upd m j (some .dead)) key (some (.arr ty sz es dp true))) w∧g'.hd key=g.hd j:=by
 have hjk:j≠key:=fun e=>by subst e;rw[hk] at hj;cases hj
 let g':Gh:={ bl:=upd g.bl key (g.bl j),hd:=upd g.hd key (g.hd j),fd:=upd g.fd key (g.fd j),ow:=fun b=>if g.ow b=some j then some key else g.ow b }
 have hget :∀k o,upd (upd m j (some .dead)) key (some (.arr ty sz es dp true)) k=some o→(k=key∧o = .arr ty sz es dp true)∨(k≠key∧k=j∧o = .dead)∨(k≠key∧k≠j∧m k=some o):=fun k o h=>by
  by_cases e:k=key
  ·subst e;rw[uS1] at h;cases h;exact .inl ⟨rfl,rfl⟩
  ·rw[uO1 _ _ e] at h
   by_cases e2:k=j
   ·subst e2;rw[uS1] at h;cases h;exact .inr (.inl ⟨e,rfl,rfl⟩)
   ·rw[uO1 _ _ e2] at h;exact .inr (.inr ⟨e,e2,h⟩)
 have hB :∀k o b,upd (upd m j (some .dead)) key (some (.arr ty sz es dp true)) k=some o→o.rw=true→Blk g' k o b→∃ k0,m k0=some o∧Blk g k0 o b∧((k=key∧k0=j)∨(k0=k∧k≠key∧k≠j)):=fun k o b h hrw hb=>by
  rcases hget k o h with ⟨rfl,rfl⟩ | ⟨_,_,rfl⟩ | ⟨h1,h2,h3⟩
  ·exact⟨j,hj,by unfold Blk at hb ⊢;simpa only[g',uS1] using hb,.inl ⟨rfl,rfl⟩⟩
  ·cases hrw
  ·exact⟨k,h3,by unfold Blk at hb ⊢;simpa only[g',uO1 _ _ h1] using hb,.inr ⟨rfl,h1,h2⟩⟩
 have hM :∀b,Mut g' (upd (upd m j (some .dead)) key (some (.arr ty sz es dp true))) b→Mut g m b:=by
  rintro b ⟨k,o,h,hrw,hb⟩;obtain⟨k0,h1,h2,_⟩:=hB k o b h hrw hb;exact⟨k0,o,h1,hrw,h2⟩
 have hok :∀fp,Qa c g m fp→Qa c g' (upd (upd m j (some .dead)) key (some (.arr ty sz es dp true))) fp:=fun fp hf b hb=>⟨fun hm=>(hf b hb).1 (hM b hm),(hf b hb).2⟩;have hC:Jf c g m w g' (upd (upd m j (some .dead)) key (some (.arr ty sz es dp true))) w:=by
  refine⟨Nat.le_refl _,fun b h1 _ _=>⟨rfl,fun h=>h1 (hM b h)⟩,fun k cs h=>?_,fun k ty' sz' es' dp' rw h=>?_,fun k h=>?_⟩
  ·have e:k≠key:=fun e=>by subst e;rw[hk] at h;cases h
   have e2:k≠j:=fun e=>by subst e;rw[hj] at h;cases h
   exact⟨⟨cs,by rw[uO1 _ _ e,uO1 _ _ e2];exact h⟩,uO1 _ _ e⟩
  ·have e:k≠key:=fun e=>by subst e;rw[hk] at h;cases h
   by_cases e2:k=j
   ·subst e2;exact .inl (by rw[uO1 _ _ e,uS1])
   ·exact .inr ⟨es',dp',rw,by rw[uO1 _ _ e,uO1 _ _ e2];exact h,.inl ⟨rfl,uO1 _ _ e,uO1 _ _ e⟩⟩
  ·have e:k≠key:=fun e=>by subst e;rw[hk] at h;cases h
   have e2:k≠j:=fun e=>by subst e;rw[hj] at h;cases h
   rw[uO1 _ _ e,uO1 _ _ e2];exact h
 refine⟨g',⟨hS.frame,fun k cs h=>?_,fun k ty' sz' es' dp' rw h=>?_,fun k ty' sz' es' h=>?_,fun k o b h hrw hb=>?_,fun b k h=>?_⟩,hC,uS1 _ _ _⟩
 ·rcases hget k _ h with ⟨_,e⟩ | ⟨_,_,e⟩ | ⟨h1,h2,h3⟩
  ·cases e
  ·cases e
  ·obtain⟨b,vs,ty,q1,q2,q3,q4⟩:=hS.box k cs h3;exact⟨b,vs,ty,(uO1 _ _ h1).trans q1,q2,QL hC _ _ q3,q4⟩
 ·rcases hget k _ h with ⟨rfl,e⟩ | ⟨_,_,e⟩ | ⟨h1,h2,h3⟩
  ·cases e;obtain⟨q1,q2,q3⟩:=hS.arr j _ _ _ _ _ hj;have e1:g'.bl k=g.bl j:=uS1 _ _ _;have e2:g'.hd k=g.hd j:=uS1 _ _ _;have e3:g'.fd k=g.fd j:=uS1 _ _ _;refine⟨by unfold JaO at q1 ⊢;rw[e1,e2,e3];exact q1,fun hd=>by rw[e3];exact hok _ (q2 hd),(fun(h:true=false)=>by cases h)⟩
  ·cases e
  ·obtain⟨q1,q2,q3⟩:=hS.arr k _ _ _ _ _ h3;have e1:g'.bl k=g.bl k:=uO1 _ _ h1;have e2:g'.hd k=g.hd k:=uO1 _ _ h1;have e3:g'.fd k=g.fd k:=uO1 _ _ h1;refine⟨by unfold JaO at q1 ⊢;rw[e1,e2,e3];exact q1,fun hd=>by rw[e3];exact hok _ (q2 hd),fun hr b hb=>hok _ (q3 hr b (by rw[←e1];exact hb))⟩
 ·rcases hget k _ h with ⟨rfl,e⟩ | ⟨_,_,e⟩ | ⟨h1,h2,h3⟩
  ·cases e;have e1:g'.bl k=g.bl j:=uS1 _ _ _;have e3:g'.fd k=g.fd j:=uS1 _ _ _;rw[e1,e3];exact hS.deep j _ _ _ hj
  ·cases e
  ·have e1:g'.bl k=g.bl k:=uO1 _ _ h1;have e3:g'.fd k=g.fd k:=uO1 _ _ h1;rw[e1,e3];exact hS.deep k _ _ _ h3
 ·obtain⟨k0,h1,h2,h3⟩:=hB k o b h hrw hb;have ho:=hS.own k0 o b h1 hrw h2;show (if g.ow b=some j then some key else g.ow b)=some k;rw[ho];rcases h3 with ⟨rfl,rfl⟩ | ⟨rfl,_,h4⟩
  ·rw[if_pos rfl]
  ·rw[if_neg (fun e=>h4 (Option.some.inj e))]
 ·have h':(if g.ow b=some j then some key else g.ow b)=some k:=h;split at h'
  ·rename_i e;exact hS.live b j e
  ·exact hS.live b k h'
theorem Jls :∀(xs:List X) (vs:List Value) (i:Nat) (x:X) (v:Value),VXs c g m w xs vs→vs[i]? = some v→VX c g m w x v→VXs c g m w (xs.set i x) vs
 | [],vs,i,x,v,h,_,_=>h
 | y::xs,vs,0,x,v,⟨u,us,e,h1,h2⟩,hv,hx=>by
  subst e;simp at hv;subst hv;exact⟨u,us,rfl,hx,h2⟩
 | y::xs,vs,i+1,x,v,⟨u,us,e,h1,h2⟩,hv,hx=>by
  subst e;exact⟨u,us,rfl,h1,Jls xs us i x v h2 (by simpa using hv) hx⟩
theorem JdE :∀(xs:List X) (vs:List Value) (i:Nat) (x:X),VXs c g m w xs vs→xs[i]? = some x→∃ v,vs[i]? = some v∧VX c g m w x v
 | [],vs,i,x,h,hx=>by simp at hx
 | y::xs,vs,0,x,⟨u,us,e,h1,h2⟩,hx=>by
  subst e;simp at hx;subst hx;exact⟨u,rfl,h1⟩
 | y::xs,vs,i+1,x,⟨u,us,e,h1,h2⟩,hx=>by
  subst e;obtain⟨v,h3,h4⟩:=JdE xs us i x h2 (by simpa using hx);exact⟨v,by simpa using h3,h4⟩
theorem Jj7 {m1:Mem} {k:Key} {off:Nat} {cs:List X} {x:X} (h1:Sim c g m1 w) (hbox:m1 k=some (.box cs))
  (hx :∀b us ty,g.bl k=some b→w.heap[b]? = some (.cells us.toArray ty (0,0))→VXs c g m1 w cs us→∃ u,us[off]? = some u∧VX c g m1 w x u) :
  Sim c g (upd m1 k (some (.box (cs.set off x)))) w∧(∀y v,VX c g m1 w y v→VX c g (upd m1 k (some (.box (cs.set off x)))) w y v)∧Jf c g m1 w g (upd m1 k (some (.box (cs.set off x)))) w:=by
 have hlike :∀j,JlO m1 (upd m1 k (some (.box (cs.set off x)))) j:=by
  intro j
  by_cases e:j=k
  ·subst e;exact .inr ⟨_,_,hbox,uS1 _ _ _⟩
  ·exact .inl (uO1 _ _ e)
 have hM :∀b,Mut g (upd m1 k (some (.box (cs.set off x)))) b→Mut g m1 b:=by
  rintro b ⟨j,ob,a1,a2,a3⟩
  by_cases e:j=k
  ·subst e;rw[uS1] at a1;cases a1;exact⟨j,_,hbox,rfl,.inl (a3.resolve_right fun h=>by cases h.1)⟩
  ·rw[uO1 _ _ e] at a1;exact⟨j,ob,a1,a2,a3⟩
 refine⟨Sim.restrict h1 fun j ob hj=>?_,fun y v h=>JkJ hM _ _ (fun i _=>hlike i) h,⟨Nat.le_refl _,fun b q1 _ _=>⟨rfl,fun hm=>q1 (hM b hm)⟩,fun j cs' hj=>?_,fun j ty sz es dp rw hj=>?_,fun j hj=>?_⟩⟩
 ·by_cases e:j=k
  ·subst e;rw[uS1] at hj;simp only[JuC] at hj;subst hj;refine⟨⟨_,hbox,rfl⟩,fun cs' hcs=>?_,fun _ _ _ _ _ he=>by cases he⟩;cases hcs;obtain⟨b,us,ty,a1,a2,a3,a4⟩:=h1.box j _ hbox;obtain⟨u,hu,hvu⟩:=hx b us ty a1 a2 a3;exact⟨b,us,ty,a1,a2,UC hM _ _ (fun i _=>hlike i) (Jls _ _ _ _ _ a3 hu hvu),a4⟩
  ·rw[uO1 _ _ e] at hj;refine⟨⟨ob,hj,rfl⟩,fun cs' hcs=>?_,fun _ _ _ _ _ _=>hj⟩;subst hcs;obtain⟨b,us,ty,a1,a2,a3,a4⟩:=h1.box j _ hj;exact⟨b,us,ty,a1,a2,UC hM _ _ (fun i _=>hlike i) a3,a4⟩
 ·refine⟨?_,rfl⟩;rcases hlike j with e | ⟨_,cs2,_,e⟩
  ·exact⟨cs',by rw[e];exact hj⟩
  ·exact⟨cs2,e⟩
 ·rcases hlike j with e | ⟨_,cs2,e1,e⟩
  ·rw[e];exact .inr ⟨_,_,_,hj,.inl ⟨rfl,rfl,rfl⟩⟩
  ·rw[e1] at hj;cases hj
 ·rcases hlike j with e | ⟨_,cs2,e1,e⟩
  ·rw[e];exact hj
  ·rw[e1] at hj;cases hj
theorem JnZ (o:JhK) {s:SSt} {g0:Gh} {m0:Mem} {w0:World} (hS:Sim c g (γm ρ s.m) w) (hH:Ju c g (γm ρ s.m) w (γs ρ s.sl) a) (hC:Jf c g0 m0 w0 g (γm ρ s.m) w) :
  ∃ g',Sim c g' (γm ρ (JeV o s).m) w∧Ju c g' (γm ρ (JeV o s).m) w (γs ρ (JeV o s).sl) a∧Jf c g0 m0 w0 g' (γm ρ (JeV o s).m) w:=by
 have same : ∃ g',Sim c g' (γm ρ s.m) w∧Ju c g' (γm ρ s.m) w (γs ρ s.sl) a∧Jf c g0 m0 w0 g' (γm ρ s.m) w:=⟨g,hS,hH,hC⟩;have slot :∀(t:Tmp) (x:SV) (mm:Yb) (g':Gh),Sim c g' (γm ρ mm) w→Jf c g (γm ρ s.m) w g' (γm ρ mm) w→VX c g' (γm ρ mm) w (γX ρ x) (a.tmps.getD t undef) →
   ∃ g',Sim c g' (γm ρ mm) w∧Ju c g' (γm ρ mm) w (γs ρ ((t,x)::s.sl)) a∧Jf c g0 m0 w0 g' (γm ρ mm) w:=fun t x mm g' h1 h2 h3=>by
  refine⟨g',h1,fun j=>?_,hC.trans h2⟩;rw[Jcz];unfold upd;split
  ·rename_i hj;subst hj;exact h3
  ·exact Xe h2 _ _ (hH j)
 have cell :∀(k:Key) (off:Nat) (cs:List SV) (x:SV) (mm:Yb) (g':Gh),Sim c g' (γm ρ mm) w→Jf c g (γm ρ s.m) w g' (γm ρ mm) w→γm ρ mm k=some (.box (γXs ρ cs)) →
   (∀b us ty,g'.bl k=some b→w.heap[b]? = some (.cells us.toArray ty (0,0))→VXs c g' (γm ρ mm) w (γXs ρ cs) us→∃ u,us[off]? = some u∧VX c g' (γm ρ mm) w (γX ρ x) u) →
   ∃ g',Sim c g' (γm ρ ((k,.box (cs.set off x))::mm)) w∧Ju c g' (γm ρ ((k,.box (cs.set off x))::mm)) w (γs ρ s.sl) a∧Jf c g0 m0 w0 g' (γm ρ ((k,.box (cs.set off x))::mm)) w:=fun k off cs x mm g' h1 h2 hbox hx=>by
  obtain⟨q1,q2,q3⟩:=Jj7 h1 hbox hx;have e:γm ρ ((k,.box (cs.set off x))::mm)=upd (γm ρ mm) k (some (.box ((γXs ρ cs).set off (γX ρ x)))):=by
   rw[YG];simp only[γO,Jy,List.map_set]
  rw[e];exact⟨g',q1,fun j=>q2 _ _ (Xe h2 _ _ (hH j)),(hC.trans h2).trans q3⟩
 unfold JeV;split
 ·exact same
 ·rename_i hk;have hk:γm ρ s.m o.key=none:=by
   cases h:s.m.lookup o.key with
   | none=>exact Jlq h
   | some _=>rw[h] at hk;exact absurd rfl hk
  obtain⟨g',h1,h2,h3,_⟩:=JjP (ty:=o.ty) (sz:=o.sz) (dp:=o.dp) hS hk;have hcons:γm ρ ((o.key,.arr o.ty o.sz .nil o.dp true)::s.m)=upd (γm ρ s.m) o.key (some (.arr o.ty o.sz [] o.dp true)):=YG _ _ _ _;rw[←hcons] at h1 h2 h3;have ren :∀(j:Key) (l l':E) (ty:TypeId) (sz:Nat) (dp:Bool),s.m.lookup j=some (.arr ty sz l' dp true)→l.lsame l'=true →
    ∃ g',Sim c g' (γm ρ ((o.key,.arr ty sz l' dp true)::(j,.dead)::s.m)) w∧Jf c g (γm ρ s.m) w g' (γm ρ ((o.key,.arr ty sz l' dp true)::(j,.dead)::s.m)) w ∧
     ∀v,VX c g (γm ρ s.m) w (.o j (lst ρ l).length) v→VX c g' (γm ρ ((o.key,.arr ty sz l' dp true)::(j,.dead)::s.m)) w (.o o.key (lst ρ l').length) v:=fun j l l' ty sz dp hj hl=>by
   have hj':=Xa (ρ:=ρ) hj;have e:γm ρ ((o.key,.arr ty sz l' dp true)::(j,.dead)::s.m)=upd (upd (γm ρ s.m) j (some .dead)) o.key (some (.arr ty sz (lst ρ l') dp true)):=by
    rw[YG,YG];rfl
   obtain⟨g2,a1,a2,a3⟩:=Jnl hS hk hj';rw[e];refine⟨g2,a1,a2,fun v hv=>⟨hv.1,⟨_,uS1 _ _ _,by simp⟩,fun ty' sz' es' dp' rw' he=>?_⟩⟩;rw[uS1] at he;cases he;exact⟨Nat.le_refl _,fun _=>by rw[a3];exact(hv.2.2 _ _ _ _ _ hj').2 (lL1 hl ρ)⟩
  split
  ·rename_i t hat;split
   ·rename_i hl;refine slot t _ _ g' h1 h2 ?_;have hv:=hH t;rw[Je0 hl] at hv;have hv:a.tmps.getD t undef=QD:=(Ql hv).1;rw[hv];exact h3
   ·rename_i j l hl;split
    ·split
     ·rename_i ty sz l' dp hj;split
      ·rename_i hll;obtain⟨g2,a1,a2,a3⟩:=ren j l l' ty sz dp hj hll;have hv:=hH t;rw[Je0 hl] at hv;exact slot t (.o o.key l') _ g2 a1 a2 (a3 _ hv)
      ·exact same
     ·exact same
    ·exact same
   ·exact same
  ·rename_i k off hat;split
   ·rename_i cs hl;have hke:k≠o.key:=fun e=>by
     subst e;rw[Xa hl] at hk;cases hk
    split
    ·rename_i hoff;have hbox:γm ρ ((o.key,.arr o.ty o.sz .nil o.dp true)::s.m) k=some (.box (γXs ρ cs)):=by
      rw[hcons,uO1 _ _ hke,Xa hl];rfl
     refine cell k off cs (.o o.key .nil) _ g' h1 h2 hbox fun b us ty _ _ a3=>?_;have hget:(γXs ρ cs)[off]? = some (.d (.v QD)):=by rw[Jy,JuY,hoff];rfl
     obtain⟨u,hu,hvu⟩:=JdE _ _ _ _ a3 hget;have hu':u=QD:=(Ql hvu).1;subst hu';exact⟨_,hu,h3⟩
    ·rename_i j l hoff;split
     ·split
      ·rename_i ty sz l' dp hj;split
       ·rename_i hll;obtain⟨g2,a1,a2,a3⟩:=ren j l l' ty sz dp hj hll;have hkj:k≠j:=fun e=>by subst e;rw[hl] at hj;cases hj
        have hbox:γm ρ ((o.key,.arr ty sz l' dp true)::(j,.dead)::s.m) k=some (.box (γXs ρ cs)):=by
         rw[YG,YG,uO1 _ _ hke,uO1 _ _ hkj,Xa hl];rfl
        refine cell k off cs (.o o.key l') _ g2 a1 a2 hbox fun b us ty q1 q2 _=>?_;obtain⟨b0,us0,ty0,r1,r2,r3,_⟩:=hS.box k (γXs ρ cs) (by rw[Xa hl];rfl);rw[(a2.box k _ (by rw[Xa hl];rfl)).2,r1] at q1;cases q1;rw[r2] at q2;have e:us0=us:=by
         simp only[JuC,Go.Obj.cells.injEq] at q2;have:=congrArg Array.toList q2.1;simpa using this
        subst e;have hget:(γXs ρ cs)[off]? = some (.o j (lst ρ l).length):=by rw[Jy,JuY,hoff];rfl
        obtain⟨u,hu,hvu⟩:=JdE _ _ _ _ r3 hget;exact⟨u,hu,a3 u hvu⟩
       ·exact same
      ·exact same
     ·exact same
    ·exact same
   ·exact same
  ·rename_i j hat;split
   ·rename_i ty sz l' dp hj;have hj':=Xa (ρ:=ρ) hj;have e:γm ρ ((o.key,.arr ty sz l' dp true)::(j,.dead)::s.m)=upd (upd (γm ρ s.m) j (some .dead)) o.key (some (.arr ty sz (lst ρ l') dp true)):=by
     rw[YG,YG];rfl
    obtain⟨g2,a1,a2,_⟩:=Jnl hS hk hj';rw[←e] at a1 a2;exact⟨g2,a1,fun t=>Xe a2 _ _ (hH t),hC.trans a2⟩
   ·exact same
end
end Go.Tm
end
section
namespace Go.Tm
open Go.IntKind (i64)
section
variable {P:Program} {c:Cx P} {g:Gh} {m mk:Mem} {w:World} {a:Act} {ρ ρ':Env}
def sw (a b k:Key):Key:=bif Nat.beq k a then b else bif Nat.beq k b then a else k
theorem sw_a (a b:Key):sw a b a=b:=by simp[sw]
theorem sw_b (a b:Key):sw a b b=a:=by
 unfold sw
 by_cases h:b=a
 ·subst h;simp
 ·have:Nat.beq b a=false:=Bool.eq_false_iff.2 fun e=>h (Nat.eq_of_beq_eq_true e);simp[this]
theorem JqB {a b k:Key} (h1:k≠a) (h2:k≠b):sw a b k=k:=by
 have e1:Nat.beq k a=false:=Bool.eq_false_iff.2 fun e=>h1 (Nat.eq_of_beq_eq_true e);have e2:Nat.beq k b=false:=Bool.eq_false_iff.2 fun e=>h2 (Nat.eq_of_beq_eq_true e);simp[sw,e1,e2]
theorem Jil (a b k:Key):sw a b (sw a b k)=k:=by
 by_cases h1:k=a
 ·subst h1;rw[sw_a,sw_b]
 ·by_cases h2:k=b
  ·subst h2;rw[sw_b,sw_a]
  ·rw[JqB h1 h2,JqB h1 h2]
def swK (a b:Key) (s:SSt):SSt:=⟨s.sl.map fun p=>(p.1,p.2.ren (sw a b)),s.m.map fun p=>(sw a b p.1,p.2.ren (sw a b))⟩
theorem JeY {α:Type} (a b:Key) (f:α→α) :∀(l:List (Nat×α)) (k:Nat),(l.map fun p=>(sw a b p.1,f p.2)).lookup k=(l.lookup (sw a b k)).map f
 | [],k=>rfl
 | (j,x)::l,k=>by
  simp only[JuL,List.lookup_cons]
  by_cases h:sw a b k=j
  ·subst h;rw[Jil];simp
  ·have h2 : ¬k=sw a b j:=fun e=>h (by rw[e,Jil]);have hb:(k == sw a b j)=false:=by simpa using h2
   have hb':(sw a b k == j)=false:=by simpa using h
   simp only[hb,hb',JeY a b f l k]
theorem Jqg (x y:Key) {nl:Nat} (hx:nl≤x) (hy:nl≤y) {s:SSt} {g0:Gh} {m0:Mem} {w0:World} (hl :∀k,m0 k≠none→k<nl) (hS:Sim c g (γm ρ s.m) w) (hH:Ju c g (γm ρ s.m) w (γs ρ s.sl) a) (hC:Jf c g0 m0 w0 g (γm ρ s.m) w) :
  ∃ g',Sim c g' (γm ρ (swK x y s).m) w∧Ju c g' (γm ρ (swK x y s).m) w (γs ρ (swK x y s).sl) a∧Jf c g0 m0 w0 g' (γm ρ (swK x y s).m) w:=by
 have hm :∀k,γm ρ (swK x y s).m k=(γm ρ s.m (sw x y k)).map (Obj.ren (sw x y)):=by
  intro k;unfold γm swK;simp only[JeY,Option.map_map];cases s.m.lookup (sw x y k) with
  | none=>rfl
  | some o=>simp only[JuF,Function.comp,JaL]
 have hs :∀t,γs ρ (swK x y s).sl t=(γs ρ s.sl t).ren (sw x y):=by
  intro t;unfold γs swK;simp only[YZ];cases s.sl.lookup t with
  | none=>rfl
  | some v=>simp only[JuF,Jep]
 generalize γm ρ (swK x y s).m=m2 at *;generalize γs ρ (swK x y s).sl=sl2 at *;generalize γm ρ s.m=m at *
 let g':Gh:=⟨fun k=>g.bl (sw x y k),fun k=>g.hd (sw x y k),fun k=>g.fd (sw x y k),fun b=>(g.ow b).map (sw x y)⟩
 have hMut :∀b,Mut g' m2 b→Mut g m b:=by
  rintro b ⟨k,o,hk,hr,hb⟩;rw[hm] at hk;cases ho:m (sw x y k) with
  | none=>rw[ho] at hk;cases hk
  | some o0 =>
   rw[ho] at hk;simp only[JuF,JuC] at hk;exact⟨_,o0,ho,by rw[←JaW (ρ:=sw x y) o0,hk];exact hr,U7 (g:=g) (k:=sw x y k) hb rfl rfl (by rw[←hk,V6])⟩
 have hF :∀fp,(∀b∈fp,b<w.heap.size)→Qa c g m fp→Qa c g' m2 fp:=fun fp _ hf b hb=>⟨fun h=>(hf b hb).1 (hMut b h),(hf b hb).2⟩;have hat :∀k,True→m2 (sw x y k)=(m k).map (Obj.ren (sw x y))∧g'.bl (sw x y k)=g.bl k∧g'.hd (sw x y k)=g.hd k∧g'.fd (sw x y k)=g.fd k:=by
  intro k _;refine⟨by rw[hm,Jil],?_,?_,?_⟩ <;> simp only[g',Jil]
 have hPart:JoA c g m w c g' m2 (sw x y) (sw x y) (fun _=>True):=⟨fun k o _=>⟨trivial,Jil _ _ _⟩,hat,fun _ _ _ _ _ _=>trivial⟩;refine⟨g',hPart.sim hS hS.frame hF (fun k b _ how=>by simp only[g',how,JuF]) (fun b k hb=>?_),fun t=>?_,?_⟩
 ·cases ho:g.ow b with
  | none=>simp[g',ho] at hb
  | some k0=>exact hS.live b k0 ho
 ·rw[hs];exact JdM (K:=fun _=>True) (fun k hk=>⟨(hat k hk).1,(hat k hk).2.1,(hat k hk).2.2.1⟩) hF _ _ (fun _ _=>trivial) (hH t)
 ·have hne :∀k,m0 k≠none→sw x y k=k:=fun k hk=>by
   have:=hl k hk;exact JqB (Nat.ne_of_lt (Nat.lt_of_lt_of_le this hx)) (Nat.ne_of_lt (Nat.lt_of_lt_of_le this hy))
  refine⟨hC.size,fun b h1 h2 h3=>⟨(hC.pure b h1 h2 h3).1,fun h=>(hC.pure b h1 h2 h3).2 (hMut b h)⟩,fun k cs hk=>?_,fun k ty sz es dp rw hk=>?_,fun k hk=>?_⟩
  ·have he:=hne k (by rw[hk];simp);obtain⟨⟨cs',h1⟩,h2⟩:=hC.box k cs hk;exact⟨⟨Vm (sw x y) cs',by rw[hm,he,h1];rfl⟩,by simp only[g',he];exact h2⟩
  ·have he:=hne k (by rw[hk];simp);rcases hC.arr k ty sz es dp rw hk with h | ⟨es',dp',rw',h1,h2⟩
   ·exact .inl (by rw[hm,he,h];rfl)
   ·refine .inr ⟨es',dp',rw',by rw[hm,he,h1];rfl,?_⟩;simp only[g',he];exact h2
  ·have he:=hne k (by rw[hk];simp);rw[hm,he,hC.dead k hk];rfl
theorem JoE {m2:Mem} (hS:Sim c g m w) (h :∀j,m2 j=m j∨∃ cs cs',m j=some (.box cs)∧m2 j=some (.box cs')∧∀us,VXs c g m w cs us→VXs c g m w cs' us) :
  Sim c g m2 w∧(∀x v,VX c g m w x v→VX c g m2 w x v)∧∀g0 m0 w0,Jf c g0 m0 w0 g m w→Jf c g0 m0 w0 g m2 w:=by
 have hlike :∀j,JlO m m2 j:=fun j=>by
  rcases h j with e | ⟨cs,cs',e1,e2,_⟩
  ·exact .inl e
  ·exact .inr ⟨cs,cs',e1,e2⟩
 have hM :∀b,Mut g m2 b→Mut g m b:=by
  rintro b ⟨k,o,hk,hr,hb⟩;rcases h k with e | ⟨cs,cs',e1,e2,_⟩
  ·exact⟨k,o,by rw[←e];exact hk,hr,hb⟩
  ·rw[e2] at hk;cases hk;exact⟨k,_,e1,rfl,.inl (hb.resolve_right fun h=>by cases h.1)⟩
 have hVX :∀x v,VX c g m w x v→VX c g m2 w x v:=fun x v hx=>JkJ hM x v (fun k _=>hlike k) hx;refine⟨Sim.restrict hS fun k o hk=>?_,hVX,fun g0 m0 w0 hC=>⟨hC.size,fun b h1 h2 h3=>⟨(hC.pure b h1 h2 h3).1,fun hm=>(hC.pure b h1 h2 h3).2 (hM b hm)⟩,fun k cs hk=>?_,fun k ty sz es dp rw hk=>?_,fun k hk=>?_⟩⟩
 ·rcases h k with e | ⟨cs,cs',e1,e2,e3⟩
  ·rw[e] at hk;refine⟨⟨o,hk,rfl⟩,fun cs hcs=>?_,fun _ _ _ _ _ _=>hk⟩;subst hcs;obtain⟨b,us,ty,a1,a2,a3,a4⟩:=hS.box k cs hk;exact⟨b,us,ty,a1,a2,UC hM _ _ (fun i _=>hlike i) a3,a4⟩
  ·rw[e2] at hk;simp only[JuC] at hk;subst hk;refine⟨⟨_,e1,rfl⟩,fun cs1 hcs=>?_,fun _ _ _ _ _ he=>by cases he⟩;cases hcs;obtain⟨b,us,ty,a1,a2,a3,a4⟩:=hS.box k cs e1;exact⟨b,us,ty,a1,a2,UC hM _ _ (fun i _=>hlike i) (e3 us a3),a4⟩
 ·obtain⟨⟨cs1,e1⟩,e2⟩:=hC.box k cs hk;refine⟨?_,e2⟩;rcases hlike k with e | ⟨_,cs2,_,e⟩
  ·exact⟨cs1,by rw[e];exact e1⟩
  ·exact⟨cs2,e⟩
 ·have:=hC.arr k ty sz es dp rw hk;rcases hlike k with e | ⟨_,cs2,e1,e⟩
  ·rw[e];exact this
  ·rcases this with h | ⟨_,_,_,h,_⟩
   ·rw[e1] at h;cases h
   ·rw[e1] at h;cases h
 ·have:=hC.dead k hk;rcases hlike k with e | ⟨_,cs2,e1,e⟩
  ·rw[e];exact this
  ·rw[e1] at this;cases this
mutual
def tkV (k:Key) (l:E):SV→SV
 | .o j x=>bif Nat.beq j k&&x.same l then .d (.s l) else .o j x
 | .g cs=> .g (JlD k l cs)
 | .t cs=> .t (JlD k l cs)
 | .f fn cs=> .f fn (JlD k l cs)
 | v=>v
def JlD (k:Key) (l:E):List SV→List SV
 | []=>[]
 | c::cs=>tkV k l c::JlD k l cs
end
def tkO (k:Key) (l:E):Ji→Ji
 | .box cs=> .box (JlD k l cs)
 | o=>o
mutual
theorem Jou {k:Key} {l:E} (h :∀v,VX c g m w (.o k (lst ρ l).length) v→VX c g m w (.d (.s (lst ρ l))) v) :∀(x:SV) (v:Value),VX c g m w (γX ρ x) v→VX c g m w (γX ρ (tkV k l x)) v
 | .o j x,v,hv=>by
  simp only[tkV];cases hb:Nat.beq j k&&x.same l with
  | false=>exact hv
  | true =>
   simp only[JuD,Nat.beq_eq] at hb;obtain⟨rfl,h2⟩:=hb;simp only[cond_true,γX] at hv ⊢;rw[Jix h2] at hv;exact h v hv
 | .g cs,v,⟨vs,e,h1,h2⟩=>⟨vs,e,JaF h cs vs h1,h2⟩
 | .t cs,v,⟨vs,e,h1⟩=>⟨vs,e,JaF h cs vs h1⟩
 | .f fn cs,v,⟨vs,e,h1⟩=>⟨vs,e,JaF h cs vs h1⟩
 | .d _,v,h1=>h1
 | .p _ _,v,h1=>h1
 | .e _ _ _ _,v,h1=>h1
 | .u,v,h1=>h1
theorem JaF {k:Key} {l:E} (h :∀v,VX c g m w (.o k (lst ρ l).length) v→VX c g m w (.d (.s (lst ρ l))) v) :∀(xs:List SV) (vs:List Value),VXs c g m w (γXs ρ xs) vs→VXs c g m w (γXs ρ (JlD k l xs)) vs
 | [],vs,hv=>hv
 | x::xs,vs,⟨v,vs',e,h1,h2⟩=>⟨v,vs',e,Jou h x v h1,JaF h xs vs' h2⟩
end
def JfA (k:Key) (s:SSt):SSt:=match s.m.lookup k with
 | some (.arr ty sz l _ _)=>⟨s.sl.map fun p=>(p.1,tkV k l p.2),((k,.arr ty sz l false false)::s.m).map fun p=>(p.1,tkO k l p.2)⟩
 | _=>s
theorem Jol (k:Key) {s:SSt} {g0:Gh} {m0:Mem} {w0:World} (hS:Sim c g (γm ρ s.m) w) (hH:Ju c g (γm ρ s.m) w (γs ρ s.sl) a) (hC:Jf c g0 m0 w0 g (γm ρ s.m) w) :
  ∃ g',Sim c g' (γm ρ (JfA k s).m) w∧Ju c g' (γm ρ (JfA k s).m) w (γs ρ (JfA k s).sl) a∧Jf c g0 m0 w0 g' (γm ρ (JfA k s).m) w:=by
 unfold JfA;split
 ·rename_i ty sz l dp rw hk;have hmk:=Xa (ρ:=ρ) hk;have hm1:γm ρ ((k,.arr ty sz l false false)::s.m)=upd (γm ρ s.m) k (some (.arr ty sz (lst ρ l) false false)):=YG _ _ _ _;have hm2 :∀j,γm ρ (((k,.arr ty sz l false false)::s.m).map fun p=>(p.1,tkO k l p.2)) j=(((k,.arr ty sz l false false)::s.m).lookup j).map fun o=>γO ρ (tkO k l o):=by
   intro j;unfold γm;rw[YZ,Option.map_map];rfl
  have hm1' :∀j,γm ρ ((k,.arr ty sz l false false)::s.m) j=(((k,.arr ty sz l false false)::s.m).lookup j).map (γO ρ):=fun j=>rfl;generalize γm ρ (((k,.arr ty sz l false false)::s.m).map fun p=>(p.1,tkO k l p.2))=m2 at *;have hrun:(take (.o k (lst ρ l).length)).run (γm ρ s.m)=some (.s (lst ρ l),upd (γm ρ s.m) k (some (.arr ty sz (lst ρ l) false false))):=by
   simp only[take,MP.run,hmk];simp only[γO,if_true,MP.run,hmk]
  have hhd:VX c g (γm ρ s.m) w (.o k (lst ρ l).length) (g.hd k):=by
   obtain⟨h1,_,_⟩:=hS.arr k ty sz (lst ρ l) dp rw hmk;refine⟨?_,⟨_,hmk,by simp[γO]⟩,fun ty1 sz1 es1 dp1 rw1 h=>?_⟩
   ·rcases h1 with ⟨_,h,_⟩ | ⟨b,cap,cs,_,h,_⟩
    ·rw[h];rfl
    ·rw[h];rfl
   ·rw[hmk] at h;simp only[γO,JuC,Obj.arr.injEq] at h;obtain⟨_,_,rfl,_⟩:=h;exact⟨Nat.le_refl _,fun _=>rfl⟩
  obtain⟨hRd,hS1,hC1⟩:=WH _ _ _ _ _ hS hhd hrun;have hH1 :∀x v,VX c g (γm ρ s.m) w x v→VX c g (upd (γm ρ s.m) k (some (.arr ty sz (lst ρ l) false false))) w x v:=fun x v=>Xe hC1 x v;have hC2:=hC.trans hC1;rw[hm1] at hm1';have hu:upd (γm ρ s.m) k (some (.arr ty sz (lst ρ l) false false)) k=some (.arr ty sz (lst ρ l) false false):=uS1 _ _ _;have hH:Ju c g (upd (γm ρ s.m) k (some (.arr ty sz (lst ρ l) false false))) w (γs ρ s.sl) a:=fun t=>hH1 _ _ (hH t);generalize upd (γm ρ s.m) k (some (.arr ty sz (lst ρ l) false false))=m1 at *;have htk :∀v,VX c g m1 w (.o k (lst ρ l).length) v→VX c g m1 w (.d (.s (lst ρ l))) v:=by
   rintro v ⟨_,_,h⟩;have:=(h _ _ _ _ _ hu).2 rfl;rw[this];exact hRd
  obtain⟨r1,r2,r3⟩:=JoE (m2:=m2) hS1 fun j=>by
   rw[hm1',hm2];cases ((k,Ji.arr ty sz l false false)::s.m).lookup j with
   | none=>exact .inl rfl
   | some o =>
    cases o with
    | box cs=>exact .inr ⟨_,_,rfl,rfl,fun us h=>JaF htk cs us h⟩
    | _=>exact .inl rfl
  refine⟨g,r1,fun t=>r2 _ _ ?_,r3 _ _ _ hC2⟩;have hv:=hH t;unfold γs at hv ⊢;rw[YZ];cases hlk:s.sl.lookup t with
  | none=>trivial
  | some x =>
   rw[hlk] at hv;exact Jou htk x _ hv
 ·exact⟨g,hS,hH,hC⟩
mutual
def misV:SV→SV→List (Key×Option Key)
 | .o k _,.o j _=>bif Nat.beq k j then [] else [(j,some k)]
 | .d (.s _),.o j _=>[(j,none)]
 | .g ps,.g vs=>JkB ps vs
 | .t ps,.t vs=>JkB ps vs
 | _,_=>[]
def JkB:List SV→List SV→List (Key×Option Key)
 | p::ps,v::vs=>misV p v++JkB ps vs
 | _,_=>[]
end
def Jhk (nl:Nat) (q:Key×Option Key) (s:SSt):SSt:=match q with
 | (j,some k)=>bif Nat.ble nl j&&Nat.ble nl k then swK k j s else s
 | (j,none)=>bif Nat.ble nl j then JfA j s else s
def Jdx (nl:Nat) (t:Tmp) (p:SV):Nat→SSt→SSt
 | 0,s=>s
 | n+1,s=>match s.sl.lookup t with
  | some v=>match misV p v with
   | q::_=>Jdx nl t p n (Jhk nl q s)
   | []=>s
  | none=>s
def Jkm (nl:Nat) (k:Key) (ps:List SV):Nat→SSt→SSt
 | 0,s=>s
 | n+1,s=>match s.m.lookup k with
  | some (.box vs)=>match JkB ps vs with
   | q::_=>Jkm nl k ps n (Jhk nl q s)
   | []=>s
  | _=>s
def Ja3 (nl:Nat):SSl→SSt→SSt
 | [],s=>s
 | (t,p)::l,s=>Ja3 nl l (Jdx nl t p 16 s)
def Jdl (nl:Nat):Yb→SSt→SSt
 | [],s=>s
 | (k,.box ps)::l,s=>Jdl nl l (Jkm nl k ps 16 s)
 | _::l,s=>Jdl nl l s
def SSt.like (nl:Nat) (t s:SSt):SSt:=Jdl nl t.m (Ja3 nl t.sl s.fresh)
section
variable {g0:Gh} {m0:Mem} {w0:World} {nl:Nat} (hl :∀k,m0 k≠none→k<nl)
include hl
theorem JkF (q:Key×Option Key) {g:Gh} {s:SSt} (hS:Sim c g (γm ρ s.m) w) (hH:Ju c g (γm ρ s.m) w (γs ρ s.sl) a) (hC:Jf c g0 m0 w0 g (γm ρ s.m) w) :
  ∃ g',Sim c g' (γm ρ (Jhk nl q s).m) w∧Ju c g' (γm ρ (Jhk nl q s).m) w (γs ρ (Jhk nl q s).sl) a∧Jf c g0 m0 w0 g' (γm ρ (Jhk nl q s).m) w:=by
 obtain⟨j,o⟩:=q;cases o with
 | some k =>
  simp only[Jhk];cases hb:Nat.ble nl j&&Nat.ble nl k with
  | false=>exact⟨g,hS,hH,hC⟩
  | true =>
   simp only[JuD,Nat.ble_eq] at hb;exact Jqg k j hb.2 hb.1 hl hS hH hC
 | none =>
  simp only[Jhk];cases hb:Nat.ble nl j with
  | false=>exact⟨g,hS,hH,hC⟩
  | true=>exact Jol j hS hH hC
theorem JiK (t:Tmp) (p:SV) :∀(n:Nat) {g:Gh} {s:SSt},Sim c g (γm ρ s.m) w→Ju c g (γm ρ s.m) w (γs ρ s.sl) a→Jf c g0 m0 w0 g (γm ρ s.m) w →
  ∃ g',Sim c g' (γm ρ (Jdx nl t p n s).m) w∧Ju c g' (γm ρ (Jdx nl t p n s).m) w (γs ρ (Jdx nl t p n s).sl) a∧Jf c g0 m0 w0 g' (γm ρ (Jdx nl t p n s).m) w
 | 0,g,s,hS,hH,hC=>⟨g,hS,hH,hC⟩
 | n+1,g,s,hS,hH,hC=>by
  simp only[Jdx];split
  ·split
   ·obtain⟨g1,h1,h2,h3⟩:=JkF hl _ hS hH hC;exact JiK t p n h1 h2 h3
   ·exact⟨g,hS,hH,hC⟩
  ·exact⟨g,hS,hH,hC⟩
theorem Jlk (k:Key) (ps:List SV) :∀(n:Nat) {g:Gh} {s:SSt},Sim c g (γm ρ s.m) w→Ju c g (γm ρ s.m) w (γs ρ s.sl) a→Jf c g0 m0 w0 g (γm ρ s.m) w →
  ∃ g',Sim c g' (γm ρ (Jkm nl k ps n s).m) w∧Ju c g' (γm ρ (Jkm nl k ps n s).m) w (γs ρ (Jkm nl k ps n s).sl) a∧Jf c g0 m0 w0 g' (γm ρ (Jkm nl k ps n s).m) w
 | 0,g,s,hS,hH,hC=>⟨g,hS,hH,hC⟩
 | n+1,g,s,hS,hH,hC=>by
  simp only[Jkm];split
  ·split
   ·obtain⟨g1,h1,h2,h3⟩:=JkF hl _ hS hH hC;exact Jlk k ps n h1 h2 h3
   ·exact⟨g,hS,hH,hC⟩
  ·exact⟨g,hS,hH,hC⟩
theorem JeZ :∀(l:SSl) {g:Gh} {s:SSt},Sim c g (γm ρ s.m) w→Ju c g (γm ρ s.m) w (γs ρ s.sl) a→Jf c g0 m0 w0 g (γm ρ s.m) w →
  ∃ g',Sim c g' (γm ρ (Ja3 nl l s).m) w∧Ju c g' (γm ρ (Ja3 nl l s).m) w (γs ρ (Ja3 nl l s).sl) a∧Jf c g0 m0 w0 g' (γm ρ (Ja3 nl l s).m) w
 | [],g,s,hS,hH,hC=>⟨g,hS,hH,hC⟩
 | (t,p)::l,g,s,hS,hH,hC=>by
  obtain⟨g1,h1,h2,h3⟩:=JiK hl t p 16 hS hH hC;exact JeZ l h1 h2 h3
theorem Jat :∀(l:Yb) {g:Gh} {s:SSt},Sim c g (γm ρ s.m) w→Ju c g (γm ρ s.m) w (γs ρ s.sl) a→Jf c g0 m0 w0 g (γm ρ s.m) w →
  ∃ g',Sim c g' (γm ρ (Jdl nl l s).m) w∧Ju c g' (γm ρ (Jdl nl l s).m) w (γs ρ (Jdl nl l s).sl) a∧Jf c g0 m0 w0 g' (γm ρ (Jdl nl l s).m) w
 | [],g,s,hS,hH,hC=>⟨g,hS,hH,hC⟩
 | (k,.box ps)::l,g,s,hS,hH,hC=>by
  obtain⟨g1,h1,h2,h3⟩:=Jlk hl k ps 16 hS hH hC;exact Jat l h1 h2 h3
 | (k,.arr _ _ _ _ _)::l,g,s,hS,hH,hC=>Jat l hS hH hC
 | (k,.dead)::l,g,s,hS,hH,hC=>Jat l hS hH hC
theorem Jgx (t:SSt) {s:SSt} {g:Gh} (hS:Sim c g (γm ρ s.m) w) (hH:Ju c g (γm ρ s.m) w (γs ρ s.sl) a) (hC:Jf c g0 m0 w0 g (γm ρ s.m) w) :
  ∃ g',Sim c g' (γm ρ (SSt.like nl t s).m) w∧Ju c g' (γm ρ (SSt.like nl t s).m) w (γs ρ (SSt.like nl t s).sl) a∧Jf c g0 m0 w0 g' (γm ρ (SSt.like nl t s).m) w:=by
 obtain⟨e1,e2⟩:=JhQ ρ s;obtain⟨g1,h1,h2,h3⟩:=JeZ hl t.sl (s:=s.fresh) (by rw[e2];exact hS) (by rw[e1,e2];exact hH) (by rw[e2];exact hC);exact Jat hl t.m h1 h2 h3
end
end
end Go.Tm
end
section
open Go.RowKit
namespace Go.Tm
open Go.IntKind (i64)
structure Inn where
 t:TypeId
 a:Operand
 xk:Tmp
 tS:Tmp
 tK:Tmp
 tR:Tmp
 tD:Tmp
 f:FuncId
def K5 (ops:Array Oper):Option Inn :=
 match ops[ops.size-4]?,ops[ops.size-3]?,ops[ops.size-2]?,ops[ops.size-1]? with
 | some ⟨some tS,.load t a,_,_,_,none⟩,some ⟨some tK,.move (.tmp xk),_,_,_,none⟩,some ⟨some tR,.call cl,_,_,_,none⟩,some ⟨some tD,.assign (.tmp r),_,_,_,none⟩ =>
  match cl.callee,cl.args.toList with
  | .value (.func f),[.tmp s,.tmp k]=>if 4≤ops.size∧s=tS∧k=tK∧r=tR∧xk≠tS∧tS≠tK then some ⟨t,a,xk,tS,tK,tR,tD,f⟩ else none
  | _,_=>none
 | _,_,_,_=>none
def VH (_:Program) (_:FuncId→Option Sig) (_:Inn) (_:SSl) (_:Yb) (_:Nat):Option (List I×SSl×Yb×Nat):=none
section
variable {B:Tb} {ρ:Env} {sg:FuncId→Option Sig} {P:Program} {ops:Array Oper} {c:Cx P} {g:Gh} {w:World} {a:Act} {Q:Exit→Act→World→Prop}
theorem Jju (hB:BOk sg B) (hT0:Wg c (X9 sg B)) {q:Inn} {sl sl':SSl} {m m':Yb} {n n':Nat} {is:List I} (hS:Sim c g (γm ρ m) w) (hH:Ju c g (γm ρ m) w (γs ρ sl) a) (hd:UE a.tmps.size ops=true)
  (hq:K5 ops=some q) (h:VH P sg q sl m n=some (is,sl',m',n')) (his :∀i∈is,i.holds B ρ)
  (hQ :∀a' w' g',Sim c g' (γm ρ m') w'→Ju c g' (γm ρ m') w' (γs ρ sl') a'→Jf c g (γm ρ m) w g' (γm ρ m') w'→a'.defers=a.defers→a'.tmps.size=a.tmps.size→Q .normal a' w') :
  4≤ops.size∧wpOps P ops Q [ops.size-4,ops.size-3,ops.size-2,ops.size-1] a w:=by
 unfold VH at h;cases h
theorem JgO {q:Inn} {sl sl':SSl} {m m':Yb} {n n':Nat} {is:List I} (hmono :∀(p:SMP SV) (m:Yb) (n:Nat) (r:JpV SV),p.run m n=some r→n≤r.n) (h:VH P sg q sl m n=some (is,sl',m',n')):n≤n':=by
 unfold VH at h;cases h
end
end Go.Tm
end
section
namespace Go.Tm
open Go.IntKind (i64)
inductive Out where
 | norm
 | exit (id:Nat)
 | ret
def Out.exitOf:Out→Exit
 | .norm=> .normal
 | .exit id=> .exit id
 | .ret=> .ret
structure JcI where
 slots:List Tmp:=[]
 cells:List (Key×Nat):=[]
 arrs:List Key:=[]
 drop:List Tmp:=[]
 dropk:List Key:=[]
structure Kg where
 keep:List Tmp:=[]
 nl:Nat:=0
 own:List (Nat×JhK):=[]
 loops:List (Nat×JcI):=[]
 deep:Bool:=false
 no:List Tmp:=[]
 inner:List Nat:=[]
 bor:List Tmp:=[]
def Kg.dp (H:Kg):Oper→Bool:=Qg.dp { deep:=H.deep,no:=H.no,bor:=H.bor }
def Kg.bo (H:Kg):Oper→Bool:=Qg.bo { deep:=H.deep,no:=H.no,bor:=H.bor }
def Jqe:SV→Nat→SV×Nat
 | .d (.vi k _),n=>(.d (.vi k (.v n)),n+1)
 | .d (.vb _),n=>(.d (.vb (.v n)),n+1)
 | .d (.s _),n=>(.d (.s (.v n)),n+1)
 | .d (.vc (.slice none 0 0)),n=>(.d (.s (.v n)),n+1)
 | .d _,n=>(.d (.da n),n+1)
 | .o _ _,n=>(.d (.s (.v n)),n+1)
 | .g cs,n=>let r:=go cs n; (.g r.1,r.2)
 | v,n=>(v,n)
where
 go:List SV→Nat→List SV×Nat
  | [],n=>([],n)
  | c::cs,n=>let r:=Jqe c n;let q:=go cs r.2; (r.1::q.1,q.2)
def reO (k:Key) (l l':E):SV→SV
 | .o j x=>if j == k&&x.same l then .o j l' else .o j x
 | .g cs=> .g (go cs)
 | v=>v
where
 go:List SV→List SV
  | []=>[]
  | c::cs=>reO k l l' c::go cs
def Jry (k:Key) (l l':E):Ji→Ji
 | .box cs=> .box (reO.go k l l' cs)
 | o=>o
def JfX:List Key→SSt→Nat→SSt×Nat
 | [],s,n=>(s,n)
 | k::ks,s,n=>match s.m.lookup k with
  | some (.arr ty sz l dp rw) =>
   let s':SSt:=⟨s.sl.map fun p=>(p.1,reO k l (.v n) p.2),s.m.map fun p=>if p.1 == k then(k,.arr ty sz (.v n) dp rw) else(p.1,Jry k l (.v n) p.2)⟩
   JfX ks s' (n+1)
  | _=>JfX ks s n
def JdZ (vs:List Tmp):SSl→Nat→SSl×Nat
 | [],n=>([],n)
 | (t,v)::sl,n=>if vs.contains t then let r:=Jqe v n;let q:=JdZ vs sl r.2; ((t,r.1)::q.1,q.2) else let q:=JdZ vs sl n; ((t,v)::q.1,q.2)
def W4:List (Key×Nat)→Yb→Nat→Yb×Nat
 | [],m,n=>(m,n)
 | (k,off)::cs,m,n=>match m.lookup k with
  | some (.box xs)=>match xs[off]? with
   | some v=>let r:=Jqe v n;W4 cs ((k,.box (xs.set off r.1))::m) r.2
   | none=>W4 cs m n
  | _=>W4 cs m n
def Jhu {α:Type}:List (Nat×α)→List Nat→List (Nat×α)
 | [],_=>[]
 | (k,v)::l,JfW=>if JfW.contains k then Jhu l JfW else(k,v)::Jhu l (k::JfW)
def genT (h:JcI) (s:SSt) (n:Nat):SSt×Nat :=
 let s:=s.fresh
 let s0:SSt:=⟨(Jhu s.sl []).filter fun p=>!h.drop.contains p.1,(Jhu s.m []).filter fun p=>!h.dropk.contains p.1⟩
 let a:=JfX h.arrs s0 n
 let b:=JdZ h.slots a.1.sl a.2
 let c:=W4 h.cells a.1.m b.2
 (⟨b.1,Jhu c.1 []⟩,c.2-n)
def YI:Code→Nat
 | .region id _ _=>id
 | .seq a _=>YI a
 | .block _ a=>YI a
 | .cond _ a _=>YI a
 | .loop a=>YI a
 | _=>1000000
def Y4 (l:List (Nat×JhK)) (id:Nat) (s:SSt):SSt:=l.foldl (fun s o=>if o.1 == id then JeV o.2 s else s) s
def Jjb (H:Kg) (id:Nat):JcI:=(H.loops.lookup id).getD {}
def JpX (c:Operand) (t:Bool) (s:SSt):SSt:=match c with
 | .tmp d=>⟨(d,.d (.vb (KJ t)))::s.sl,s.m⟩
 | _=>s
def Jgm (ops:Array Oper) (draw:Bool) (tl:Trs):Bool:=!draw||(sok ops&&(un ops).all fun p=>apart (tl.getD p.1 []) (tl.getD p.2 []))
mutual
def SV.under (c:Nat):SV→Bool
 | .d e=>e.under c
 | .g cs=>WF c cs
 | .o _ l=>l.under c
 | .p _ _=>true
 | .e _ l i _=>l.under c&&i.under c
 | .f _ cs=>WF c cs
 | .t cs=>WF c cs
 | .u=>true
def WF (c:Nat):List SV→Bool
 | []=>true
 | v::vs=>v.under c&&WF c vs
end
def Ji.under (c:Nat):Ji→Bool
 | .box cs=>WF c cs
 | .arr _ _ l _ _=>l.under c
 | .dead=>true
def SSt.under (c:Nat) (s:SSt):Bool:=s.sl.all (fun p=>p.2.under c)&&s.m.all (fun p=>p.2.under c)
mutual
theorem JiH {c:Nat} {ρ ρ':Env} (h:Jw c ρ ρ') :∀v:SV,v.under c=true→γX ρ' v=γX ρ v
 | .d e,hu=>by simp only[γX,dat];rw[Yg h e (by simpa[SV.under] using hu)]
 | .g cs,hu=>by simp only[γX];rw[K6 h cs (by simpa[SV.under] using hu)]
 | .t cs,hu=>by simp only[γX];rw[K6 h cs (by simpa[SV.under] using hu)]
 | .f _ cs,hu=>by simp only[γX];rw[K6 h cs (by simpa[SV.under] using hu)]
 | .o _ l,hu=>by simp only[γX,lst];rw[Yg h l (by simpa[SV.under] using hu)]
 | .p _ _,_=>rfl
 | .e _ l i _,hu=>by
  simp only[SV.under,JuD] at hu;simp only[γX,lst,int];rw[Yg h l hu.1,Yg h i hu.2]
 | .u,_=>rfl
theorem K6 {c:Nat} {ρ ρ':Env} (h:Jw c ρ ρ') :∀vs:List SV,WF c vs=true→γXs ρ' vs=γXs ρ vs
 | [],_=>rfl
 | v::vs,hu=>by
  simp only[WF,JuD] at hu;simp only[γXs];rw[JiH h v hu.1,K6 h vs hu.2]
end
theorem JoW {c:Nat} {ρ ρ':Env} (h:Jw c ρ ρ') (o:Ji) (hu:o.under c=true):γO ρ' o=γO ρ o:=by
 cases o with
 | box cs=>simp only[γO];rw[K6 h cs hu]
 | arr ty sz l dp rw=>simp only[γO,lst];rw[Yg h l hu]
 | dead=>rfl
theorem Jnu {c:Nat} {ρ ρ':Env} (h:Jw c ρ ρ') {s:SSt} (hu:s.under c=true):γs ρ' s.sl=γs ρ s.sl∧γm ρ' s.m=γm ρ s.m:=by
 unfold SSt.under at hu;simp only[JuD] at hu;refine⟨?_,?_⟩
 ·funext t
  unfold γs;cases hl:s.sl.lookup t with
  | none=>rfl
  | some v=>exact JiH h v (JuQ.1 hu.1 (t,v) (Yq _ _ _ hl))
 ·funext k
  unfold γm;cases hl:s.m.lookup k with
  | none=>rfl
  | some v=>simp only[JuF];rw[JoW h v (JuQ.1 hu.2 (k,v) (Yq _ _ _ hl))]
def JqZ (ops:Array Oper):Bool:=ops.toList.any fun o=>o.guard.isNone&&(match o.op with | .panic _=>true | _=>false)
def JcA (P:Program) (ops:Array Oper) (draw:Bool):Option (Tmp×Operand):=if draw then none else match ops[ops.size-1]? with
 | some ⟨some d,.binOp .eql t x (.const (.slice none 0 0)) _,_,_,_,none⟩=>match P.underlying t with
  | some (.slice _)=>some (d,x)
  | _=>none
 | _=>none
def sxC (P:Program) (sg:FuncId→Option Sig) (H:Kg):Code→SSt→Nat→(Out→SSt→Nat→Option R)→Option R
 | .skip,s,n,k=>k .norm s n
 | .region id ops draw,s,n,k=>if JqZ ops then some (.i (.chk .ff) (.done [])) else
  let s:=Y4 H.own id s
  match if H.inner.contains id && !draw then K5 ops else none with
  | some q=>ZR P sg H.dp H.bo ops (List.range' 0 (ops.size-4)) s.sl s.m n [] fun sl m n _=>match VH P sg q sl m n with
   | some r=>match k .norm ⟨X2 H.keep r.2.1,r.2.2.1⟩ r.2.2.2 with
    | some x=>some (JaN r.1 x)
    | none=>none
   | none=>none
  | none =>
  match JcA P ops draw with
  | none=>ZR P sg H.dp H.bo ops (List.range' 0 ops.size) s.sl s.m n [] fun sl m n tl =>
   match Jgm ops draw tl with
   | true=>k .norm ⟨X2 H.keep sl,m⟩ n
   | false=>none
  | some (d,x)=>ZR P sg H.dp H.bo ops (List.range' 0 (ops.size-1)) s.sl s.m n [] fun sl m n _=>match sop sl x with
   | .d (.s l)=>if SSt.under n ⟨sl,m⟩ then match k .norm ⟨X2 H.keep ((d,.d (.vb .tt))::sl),m⟩ n,k .norm ⟨X2 H.keep ((d,.d (.vb .ff))::sl),m⟩ n with
    | some x,some y=>some (.nilq n l x y)
    | _,_=>none
    else none
   | _=>none
 | .seq a b,s,n,k=>sxC P sg H a s n fun o s' n'=>match o with
  | .norm=>sxC P sg H b s' n' k
  | o=>k o s' n'
 | .cond c a b,s,n,k=>match sop s.sl c with
  | .d (.vb e)=>match e.known with
   | some true=>sxC P sg H a s n k
   | some false=>sxC P sg H b s n k
   | none=>match sxC P sg H a (JpX c true s) n k,sxC P sg H b (JpX c false s) n k with
    | some x,some y=>some (.ite e x y)
    | _,_=>none
  | _=>none
 | .block id a,s,n,k=>sxC P sg H a s n fun o s' n'=>match o with
  | .exit j=>if j=id then k .norm s' n' else k (.exit j) s' n'
  | o=>k o s' n'
 | .loop a,s,n,k =>
  let s:=Y4 H.own (YI a) s
  let t:=genT (Jjb H (YI a)) s n
  match JcC n t.2 t.1 (SSt.like H.nl t.1 s) H.nl with
  | none=>none
  | some init=>match sxC P sg H a t.1 (n+t.2) (fun o s' n'=>match o with
    | .norm=>match JcC n t.2 t.1 (SSt.like H.nl t.1 s') H.nl with
     | some vs=>some (.next vs)
     | none=>none
    | o=>match k o s' n' with
     | some r=>some (.esc r)
     | none=>none) with
   | some body=>some (.loop n init body)
   | none=>none
 | .exit id,s,n,k=>k (.exit id) s n
 | .ret,s,n,k=>k .ret s n
 | _,_,_,_=>none
section
variable {B:Tb} {ρ:Env} {sg:FuncId→Option Sig} {P:Program} {G:Qg} {N:Nat}
theorem SMP.run_mono {α:Type} :∀(p:SMP α) (m:Yb) (n:Nat) (r:JpV α),p.run m n=some r→n≤r.n
 | .ret a,m,n,r,h=>by simp only[SMP.run,JuC] at h;subst h;exact Nat.le_refl _
 | .fail,_,_,_,h=>by cases h
 | .get k c,m,n,r,h=>by
  simp only[SMP.run] at h;split at h
  ·split at h
   ·rename_i r1 h1;simp only[JuC] at h;subst h;show n≤r1.n;exact SMP.run_mono _ _ _ r1 h1
   ·cases h
  ·cases h
 | .put k o c,m,n,r,h=>by
  simp only[SMP.run] at h;split at h
  ·split at h
   ·rename_i r1 h1;simp only[JuC] at h;subst h;show n≤r1.n;exact SMP.run_mono _ _ _ r1 h1
   ·cases h
  ·cases h
 | .new k o c,m,n,r,h=>by
  simp only[SMP.run] at h;split at h
  ·cases h
  ·split at h
   ·rename_i r1 h1;simp only[JuC] at h;subst h;show n≤r1.n;exact SMP.run_mono _ _ _ r1 h1
   ·cases h
 | .ask i j c,m,n,r,h=>by
  simp only[SMP.run] at h;split at h
  ·rename_i r1 h1;simp only[JuC] at h;subst h;have:=SMP.run_mono _ _ _ _ h1;show n≤r1.n;omega
  ·cases h
theorem Uv {dp bo:Oper→Bool} {ops:Array Oper} (n0:Nat) (k k':SSl→Yb→Nat→Trs→Option R) (hk :∀sl m n t,n0≤n→k sl m n t=k' sl m n t) :∀(l:List Nat) (sl:SSl) (m:Yb) (n:Nat) (trs:Trs),n0≤n →
  ZR P sg dp bo ops l sl m n trs k=ZR P sg dp bo ops l sl m n trs k'
 | [],sl,m,n,trs,h=>hk _ _ _ _ h
 | i::l,sl,m,n,trs,h=>by
  have ih:=Uv (dp:=dp) (bo:=bo) (ops:=ops) n0 k k' hk l;simp only[ZR];cases ops[i]? with
  | none=>rfl
  | some o =>
   dsimp only
   generalize ZA ops sl o=wt;cases wt with
   | yes =>
    simp only[if_true];cases hr:(Ji9 P sg (dp o) (bo o) o sl).run m n with
    | none=>rfl
    | some r =>
     simp only;rw[ih _ _ _ _ (Nat.le_trans h (SMP.run_mono _ _ _ _ hr))]
   | no=>simp only[JuT,if_false];rw[ih _ _ _ _ h]
   | bad=>rfl
   | fork d b want =>
    cases want with
    | true =>
     simp only[Bool.not_true,JuT,if_false,if_true];rw[ih _ _ _ _ h];cases hr:(Ji9 P sg (dp o) (bo o) o ((d,.d (.vb .tt))::sl)).run m n with
     | none=>rfl
     | some r =>
      simp only;rw[ih _ _ _ _ (Nat.le_trans h (SMP.run_mono _ _ _ _ hr))]
    | false =>
     simp only[Bool.not_false,JuT,if_false,if_true];rw[ih _ _ _ _ h];cases hr:(Ji9 P sg (dp o) (bo o) o ((d,.d (.vb .ff))::sl)).run m n with
     | none=>rfl
     | some r =>
      simp only;rw[ih _ _ _ _ (Nat.le_trans h (SMP.run_mono _ _ _ _ hr))]
theorem JjE {ops:Array Oper} {draw:Bool} {d:Tmp} {x:Operand} (h:JcA P ops draw=some (d,x)) :
  0<ops.size∧draw=false∧∃ t:TypeId,(∃ e,P.underlying t=some (.slice e))∧∃ o,ops[ops.size-1]? = some o∧o.dst=some d∧o.guard=none∧∃ y,o.op = .binOp .eql t x (.const (.slice none 0 0)) y:=by
 unfold JcA at h;split at h
 ·cases h
 ·rename_i hd;have hd:draw=false:=by simpa using hd
  split at h
  ·rename_i d' t x' y ty pos af ho;split at h
   ·rename_i e he;simp only[JuC,JuU] at h;obtain⟨rfl,rfl⟩:=h;have hlt:=(JuP.1 ho).1;exact⟨by omega,hd,t,⟨e,he⟩,_,ho,rfl,rfl,_,rfl⟩
   ·cases h
  ·cases h
theorem Jq1 {t e:TypeId} (h:P.underlying t=some (.slice e)) (A:Option Addr) (l cap:Nat):JO P (Op.equal t (.slice A l cap) (.slice none 0 0))=some A.isNone:=by
 show JO P (Op.equalIn (9999+1) t _ _)=_;unfold Op.equalIn;rw[Q7,XL h];cases A <;> rfl
theorem Jor {a:Act} {w:World} {o:Oper} {t:TypeId} {x:Operand} {A:Option Addr} {l cap:Nat} (ht : ∃ e,P.underlying t=some (.slice e)) (ho : ∃ y,o.op = .binOp .eql t x (.const (.slice none 0 0)) y) (hA:a.eval x = .slice A l cap) :
  (execOp a.eval o).run P w = .ok (.value (.bool A.isNone)) w:=by
 obtain⟨e,ht⟩:=ht;obtain⟨y,ho⟩:=ho;have h1:JO P (do eqGuard .eql t x (.const (.slice none 0 0)) (.slice A l cap) (.slice none 0 0);binOp .eql t (.slice A l cap) (.slice none 0 0))=some (.bool A.isNone):=by
  show JO P (Op.equal t (.slice A l cap) (.slice none 0 0) >>= fun r=>pure (Value.bool r))=_;rw[Q7,Jq1 ht];rfl
 have h2:=Yp _ _ w h1;have hc:a.eval (.const (.slice none 0 0)) = .slice none 0 0:=rfl;unfold execOp;rw[ho];simp only[hA,hc,Sem.run_bind] at h2 ⊢;rw[h2];rfl
theorem WL {T:Tab} {G:Qg} {ops:Array Oper} {c:Cx P} {Q:Exit→Act→World→Prop} (hT:Wg c T) :∀(l l2:List Nat) (st st':St) (g:Gh) (a:Act) (w:World),Sim c g st.m w→Ju c g st.m w st.sl a→UE a.tmps.size ops=true→Va P T G ops l st=some st' →
  (∀a' w' g',Sim c g' st'.m w'→Ju c g' st'.m w' st'.sl a'→Jf c g st.m w g' st'.m w'→a'.defers=a.defers→a'.tmps.size=a.tmps.size→wpOps P ops Q l2 a' w')→wpOps P ops Q (l++l2) a w
 | [],l2,st,st',g,a,w,hS,hsl,_,h,hQ=>by
  simp only[Va,JuC] at h;subst h;exact hQ a w g hS hsl (.refl _ _ _ _) rfl rfl
 | i::l,l2,st,st',g,a,w,hS,hsl,hd,h,hQ=>by
  simp only[Va] at h;split at h
  ·rename_i st1 h1;rw[List.cons_append,wpOps_cons];refine WQ hT hS hsl hd h1 fun a' w' g' hS' hsl' hC1 e1 e2=>?_;refine WL hT l l2 st1 st' g' a' w' hS' hsl' (by rw[e2];exact hd) h fun a'' w'' g'' h3 h4 hC2 h5 h6=>hQ a'' w'' g'' h3 h4 (hC1.trans hC2) (h5.trans e1) (h6.trans e2)
  ·cases h
theorem Joo {s:SSt} {c:Operand} {e:E} (h:sop s.sl c = .d (.vb e)):opX (γs ρ s.sl) c=X.d (.v (.bool (bol ρ e))):=by
 rw[QK,h];rfl
theorem Jlz {s:SSt} {c:Operand} {e:E} {t:Bool} (h:sop s.sl c = .d (.vb e)) (hk:e.known=none) (ht:bol ρ e=t):γs ρ (JpX c t s).sl=γs ρ s.sl∧(JpX c t s).m=s.m:=by
 cases c with
 | tmp d =>
  refine⟨?_,rfl⟩;have hl:s.sl.lookup d=some (.d (.vb e)):=by
   simp only[sop] at h;cases hl:s.sl.lookup d with
   | none=>rw[hl] at h;cases h
   | some v=>rw[hl] at h;exact congrArg some h
  exact JkH hl ht
 | _=>exact⟨rfl,rfl⟩
theorem ZG {c:Cx P} {w:World} {a:Act} (id:Nat) {g0:Gh} {m0:Mem} {w0:World} :∀(l:List (Nat×JhK)) (s:SSt) (g:Gh),Sim c g (γm ρ s.m) w→Ju c g (γm ρ s.m) w (γs ρ s.sl) a→Jf c g0 m0 w0 g (γm ρ s.m) w →
  ∃ g',Sim c g' (γm ρ (Y4 l id s).m) w∧Ju c g' (γm ρ (Y4 l id s).m) w (γs ρ (Y4 l id s).sl) a∧Jf c g0 m0 w0 g' (γm ρ (Y4 l id s).m) w
 | [],s,g,hS,hH,hC=>⟨g,hS,hH,hC⟩
 | o::l,s,g,hS,hH,hC=>by
  unfold Y4;simp only[List.foldl_cons]
  by_cases ho:(o.1 == id)=true
  ·rw[if_pos ho];obtain⟨g',h1,h2,h3⟩:=JnZ o.2 hS hH hC;exact ZG id l _ g' h1 h2 h3
  ·rw[if_neg ho];exact ZG id l _ g hS hH hC
theorem Jw.trans {c:Nat} {ρ1 ρ2 ρ3:Env} (h:Jw c ρ1 ρ2) (h':Jw c ρ2 ρ3):Jw c ρ1 ρ3:=fun j hj=>(h' j hj).trans (h j hj)
theorem Jw.le {c d:Nat} {ρ1 ρ2:Env} (h:Jw d ρ1 ρ2) (hc:c≤d):Jw c ρ1 ρ2:=fun j hj=>h j (by omega)
theorem Jw.rfl' {c:Nat} {ρ:Env}:Jw c ρ ρ:=fun _ _=>rfl
theorem Jw.symm {c:Nat} {ρ1 ρ2:Env} (h:Jw c ρ1 ρ2):Jw c ρ2 ρ1:=fun j hj=>(h j hj).symm
theorem Jn3 (hB:BOk sg B) {c:Cx P} (hT:Wg c (X9 sg B)) (hm:P.follows .mixedOrders=true) (H:Kg) {g0:Gh} {m0:Mem} {w0:World} (hl :∀k,m0 k≠none→k<H.nl) :
  ∀(C:Code) (s:SSt) (n:Nat) (k:Out→SSt→Nat→Option R) (R:R) (ρ:Env) (o:Oc) (a:Act) (w:World) (g:Gh) (Q:Exit→Act→World→Prop),
  sxC P sg H C s n k=some R→Run B N R ρ o→Sim c g (γm ρ s.m) w→Ju c g (γm ρ s.m) w (γs ρ s.sl) a→Jf c g0 m0 w0 g (γm ρ s.m) w→codeOk a.tmps.size C=true →
  (∀ex s' n' R' ρ' a' w' g',n≤n'→Jw n ρ ρ'→k ex s' n'=some R'→Run B N R' ρ' o→Sim c g' (γm ρ' s'.m) w'→Ju c g' (γm ρ' s'.m) w' (γs ρ' s'.sl) a'→Jf c g0 m0 w0 g' (γm ρ' s'.m) w'→a'.defers=a.defers→a'.tmps.size=a.tmps.size→Q ex.exitOf a' w') →
  C.wp P Q a w:=by
 intro C
 induction C with
 | skip =>
  intro s n k R ρ o a w g Q h hr hS hH hC hc hQ;exact wp_skip (hQ .norm s n R ρ a w g (Nat.le_refl _) Jw.rfl' h hr hS hH hC rfl rfl)
 | exit id =>
  intro s n k R ρ o a w g Q h hr hS hH hC hc hQ;exact wp_exit (hQ (.exit id) s n R ρ a w g (Nat.le_refl _) Jw.rfl' h hr hS hH hC rfl rfl)
 | ret =>
  intro s n k R ρ o a w g Q h hr hS hH hC hc hQ;exact wp_ret (hQ .ret s n R ρ a w g (Nat.le_refl _) Jw.rfl' h hr hS hH hC rfl rfl)
 | region id ops draw =>
  intro s n k R ρ o a w g Q h hr hS hH hC hc hQ;simp only[sxC] at h;split at h
  ·simp only[JuC] at h;subst h;obtain⟨h1,_⟩:=hr;exact absurd h1 (by simp[I.holds,bol,den,V.bool])
  obtain⟨g1,hS1,hH1,hC1⟩:=ZG id H.own s g hS hH hC;generalize Y4 H.own id s=s1 at *;cases hin:(if H.inner.contains id && !draw then K5 ops else none) with
  | some q =>
   rw[hin] at h;simp only at h;have hq:draw=false∧K5 ops=some q:=by
    split at hin
    ·rename_i hcc;simp only[JuD,Bool.not_eq_true'] at hcc;exact⟨hcc.2,hin⟩
    ·cases hin
   obtain⟨rfl,hq⟩:=hq;rw[Uv n _ (fun sl m n' tl=>if n≤n' then(match VH P sg q sl m n' with
    | some r=>match k .norm ⟨X2 H.keep r.2.1,r.2.2.1⟩ r.2.2.2 with
     | some x=>some (JaN r.1 x)
     | none=>none
    | none=>none) else none)
    (fun sl m n' t hn=>by rw[if_pos hn]) _ _ _ _ _ (Nat.le_refl n)] at h
   obtain⟨sl',m',n',tl,R',e1,e2,e3⟩:=Jas (G:={ deep:=H.deep,no:=H.no,bor:=H.bor }) (N:=N) (ρ:=ρ) hB _ _ _ _ _ _ R o h hr;split at e2
   ·rename_i hn;split at e2
    ·rename_i r hsx;obtain⟨is,sl2,m2,n2⟩:=r;split at e2
     ·rename_i R2 hk2;simp only[JuC] at e2;subst e2;obtain⟨his,hr2⟩:=UN _ _ _ e3;have hn2:n'≤n2:=JgO (fun p m n r h=>SMP.run_mono p m n r h) hsx;refine wp_region ?_;have hsz4:4≤ops.size:=by
       unfold K5 at hq;split at hq
       ·split at hq
        ·split at hq
         ·rename_i hc4;exact hc4.1
         ·cases hq
        ·cases hq
       ·cases hq
      have hrange:List.range ops.size=List.range' 0 (ops.size-4)++[ops.size-4,ops.size-3,ops.size-2,ops.size-1]:=by
       rw[List.range_eq_range'];have:ops.size=(ops.size-4)+1+1+1+1:=by omega
       conv=>lhs;rw[this,List.range'_concat,List.range'_concat,List.range'_concat,List.range'_concat]
       simp only[List.append_assoc,List.singleton_append,Nat.zero_add,Nat.one_mul,List.append_cancel_left_eq];rw[show ops.size-3=ops.size-4+1 by omega,show ops.size-2=ops.size-4+2 by omega,show ops.size-1=ops.size-4+3 by omega];rfl
      rw[hrange];refine WL hT _ [ops.size-4,ops.size-3,ops.size-2,ops.size-1] _ _ _ _ _ hS1 hH1 hc (Un (G:={ deep:=H.deep,no:=H.no,bor:=H.bor }) _ _ _ _ e1) fun a' w' g' hS2 hH2 hC2 hd2 hz2=>?_;have hc':UE a'.tmps.size ops=true:=by rw[hz2];exact hc
      refine(Jju hB hT hS2 hH2 hc' hq hsx his fun a'' w'' g'' h1 h2 h3 h4 h5=>?_).2;exact hQ .norm _ n2 R2 ρ a'' w'' g'' (Nat.le_trans hn hn2) Jw.rfl' hk2 hr2 h1 (Jdw H.keep h2) ((hC1.trans hC2).trans h3) (h4.trans hd2) (h5.trans hz2)
     ·cases e2
    ·cases e2
   ·cases e2
  | none =>
  rw[hin] at h;simp only at h;cases hnl:JcA P ops draw with
  | some dx =>
   obtain⟨d,x⟩:=dx;rw[hnl] at h;simp only at h;obtain⟨ho,hdr,t,ht,o0,hop,hod,hog,hopp⟩:=JjE hnl;subst hdr;rw[Uv n _ (fun sl m n' tl=>if n≤n' then(match sop sl x with
    | .d (.s l)=>if SSt.under n' ⟨sl,m⟩ then match k .norm ⟨X2 H.keep ((d,.d (.vb .tt))::sl),m⟩ n',k .norm ⟨X2 H.keep ((d,.d (.vb .ff))::sl),m⟩ n' with
     | some x,some y=>some (.nilq n' l x y)
     | _,_=>none
     else none
    | _=>none) else none)
    (fun sl m n' t hn=>by rw[if_pos hn]) _ _ _ _ _ (Nat.le_refl n)] at h
   obtain⟨sl',m',n',tl,R',e1,e2,e3⟩:=Jas (G:={ deep:=H.deep,no:=H.no,bor:=H.bor }) (N:=N) (ρ:=ρ) hB _ _ _ _ _ _ R o h hr;split at e2
   ·rename_i hn;split at e2
    ·rename_i l hl;split at e2
     ·rename_i hund;split at e2
      ·rename_i R1 R2 hk1 hk2;simp only[JuC] at e2;subst e2;obtain⟨⟨ρy,hay,hry⟩,hx⟩:=e3;refine wp_region ?_;have hrange:List.range ops.size=List.range' 0 (ops.size-1)++[ops.size-1]:=by
        rw[List.range_eq_range'];have:ops.size=(ops.size-1)+1:=by omega
        conv=>lhs;rw[this,List.range'_concat]
        simp
       rw[hrange];refine WL hT _ [ops.size-1] _ _ _ _ _ hS1 hH1 hc (Un (G:={ deep:=H.deep,no:=H.no,bor:=H.bor }) _ _ _ _ e1) fun a' w' g' hS2 hH2 hC2 hd2 hz2=>?_;rw[wpOps_cons];have hv:=oX1 hH2 x;rw[QK,hl] at hv;obtain⟨fp,⟨A,cap,hA,hle,hrest⟩,hok⟩:=hv;have hexec:(execOp a'.eval o0).run P w' = .ok (.value (.bool A.isNone)) w':=Jor ht hopp hA;have hdlt:d<a'.tmps.size:=by
        have h0:UE a.tmps.size ops=true:=hc;have:=Array.all_eq_true_iff_forall_mem.1 h0 o0 (Array.mem_of_getElem? hop);rw[hod] at this;rw[hz2];simpa using this
       unfold wpOp;rw[hop];have hwant:Region.wanted o0 (yielded ops a'.tmps)=true:=by unfold Region.wanted;rw[hog]
       simp only[hwant,if_true];refine .inl ?_;unfold Oper.wp;rw[hexec];show wpOps P ops Q [] (a'.put o0.dst (.bool A.isNone)) w';have hput :∀(tb:Bool),A.isNone=tb→Ju c g' (γm ρ m') w' (γs ρ ((d,.d (.vb (KJ tb)))::sl')) (a'.put o0.dst (.bool A.isNone)):=by
        intro tb htb;rw[Jcz,htb];have:=Ju.put (o:=o0) (x:=γX ρ (.d (.vb (KJ tb)))) (v:= .bool tb) hH2 (.refl _ _ _ _) (fun d' hd'=>by rw[hod] at hd';cases hd';exact hdlt) (by
         show VX c g' _ w' (X.d (.v (.bool (bol ρ (KJ tb))))) _;have:bol ρ (KJ tb)=tb:=by cases tb <;> rfl
         rw[this];exact⟨[],⟨rfl,rfl,rfl⟩,fun b hb=>by simp at hb⟩)
        rw[hod] at this ⊢;exact this
       have hC3:=hC1.trans hC2;have fin :∀(tb:Bool) (Rb:Go.Tm.R) (ρb:Env),A.isNone=tb→Jw n' ρ ρb→k .norm ⟨X2 H.keep ((d,.d (.vb (KJ tb)))::sl'),m'⟩ n'=some Rb→Run B N Rb ρb o→Q .normal (a'.put o0.dst (.bool A.isNone)) w':=by
        intro tb Rb ρb htb hab hkb hrb;have hund2:SSt.under n' ⟨(d,.d (.vb (KJ tb)))::sl',m'⟩=true:=by
         unfold SSt.under at hund ⊢;simp only[JuD,List.all_cons] at hund ⊢;exact⟨⟨by cases tb <;> rfl,hund.1⟩,hund.2⟩
        obtain⟨u1,u2⟩:=Jnu hab hund2;refine hQ .norm _ n' Rb ρb _ w' g' hn (hab.le hn) hkb hrb (by rw[u2];exact hS2) (Jdw H.keep ?_) (by rw[u2];exact hC3) ((WB _ _ _).trans hd2) ((JdB _ _ _).trans hz2);rw[u2];show Ju c g' _ w' (γs ρb ((d,.d (.vb (KJ tb)))::sl')) _;rw[u1];exact hput tb htb
       cases hA':A.isNone with
       | true =>
        have hnil:lst ρ l=[]:=by
         rcases hrest with ⟨h1,_⟩ | ⟨b,o,sz,fp',h1,_⟩
         ·exact h1
         ·rw[h1] at hA';cases hA'
        obtain⟨ρx,hax,hrx⟩:=hx hnil;have:=fin true R1 ρx hA' hax hk1 hrx;rw[hA'] at this;exact this
       | false =>
        have:=fin false R2 ρy hA' hay hk2 hry;rw[hA'] at this;exact this
      ·cases e2
     ·cases e2
    ·cases e2
   ·cases e2
  | none =>
  rw[hnl] at h;simp only at h;rw[Uv n _ (fun sl m n' tl=>if n≤n' then(match Jgm ops draw tl with | true=>k .norm ⟨X2 H.keep sl,m⟩ n' | false=>none) else none)
   (fun sl m n' t hn=>by rw[if_pos hn]) _ _ _ _ _ (Nat.le_refl n)] at h
  obtain⟨sl',m',n',tl,R',e1,e2,e3⟩:=Jas (G:={ deep:=H.deep,no:=H.no,bor:=H.bor }) (N:=N) (ρ:=ρ) hB _ _ _ _ _ _ R o h hr;simp only[List.reverse_nil,List.nil_append] at e2;split at e2
  ·rename_i hn;cases hd:Jgm ops draw tl with
   | false=>rw[hd] at e2;cases e2
   | true =>
    rw[hd] at e2;have hreg:JaH P (X9 sg B) { deep:=H.deep,no:=H.no,bor:=H.bor } id ops draw ⟨γs ρ s1.sl,γm ρ s1.m⟩=some ⟨γs ρ sl',γm ρ m'⟩:=by
     unfold JaH;cases draw with
     | false =>
      simp only[JuT,if_false];exact Un _ _ _ _ e1
     | true =>
      simp only[if_true,e1];unfold Jgm at hd;simp only[Bool.not_true,Bool.false_or] at hd;simp only[hd,if_true]
    refine JgA hT hm (g0:=g0) (m0:=m0) (w0:=w0) hC1 hS1 hH1 hc hreg fun a' w' g' h1 h2 h3 h4 h5=>?_;exact hQ .norm _ n' R' ρ a' w' g' hn Jw.rfl' e2 e3 h1 (Jdw H.keep h2) h3 h4 h5
  ·cases e2
 | seq x y ihx ihy =>
  intro s n k R ρ o a w g Q h hr hS hH hC hc hQ;simp only[codeOk,JuD] at hc;simp only[sxC] at h;refine wp_seq ?_;refine ihx s n _ R ρ o a w g _ h hr hS hH hC hc.1 fun ex s' n' R' ρ' a' w' g' hn hag hk hr' hS' hH' hC' hd hz=>?_;cases ex with
  | norm =>
   refine ihy s' n' k R' ρ' o a' w' g' Q hk hr' hS' hH' hC' (by rw[hz];exact hc.2) fun ex s2 n2 R2 ρ2 a2 w2 g2 hn2 hag2 hk2 hr2 hS2 hH2 hC2 hd2 hz2=>?_;exact hQ ex s2 n2 R2 ρ2 a2 w2 g2 (Nat.le_trans hn hn2) (hag.trans (hag2.le hn)) hk2 hr2 hS2 hH2 hC2 (hd2.trans hd) (hz2.trans hz)
  | exit id=>exact hQ (.exit id) s' n' R' ρ' a' w' g' hn hag hk hr' hS' hH' hC' hd hz
  | ret=>exact hQ .ret s' n' R' ρ' a' w' g' hn hag hk hr' hS' hH' hC' hd hz
 | cond b x y ihx ihy =>
  intro s n k R ρ o a w g Q h hr hS hH hC hc hQ;simp only[codeOk,JuD] at hc;simp only[sxC] at h;split at h
  ·rename_i e he;have hv:=oX1 hH b;rw[Joo he] at hv;have hv:=(Ql hv).1;refine wp_cond hv ?_;split at h
   ·rename_i hk;rw[ZX hk];simp only[if_true];exact ihx s n k R ρ o a w g Q h hr hS hH hC hc.1 hQ
   ·rename_i hk;rw[ZX hk];simp only[JuT,if_false];exact ihy s n k R ρ o a w g Q h hr hS hH hC hc.2 hQ
   ·rename_i hk;split at h
    ·rename_i x' y' hx hy;simp only[JuC] at h;subst h;simp only[Run] at hr;cases hb:bol ρ e with
     | true =>
      rw[hb] at hr;simp only[if_true] at hr ⊢;obtain⟨e1,e2⟩:=Jlz (t:=true) he hk hb;exact ihx _ n k x' ρ o a w g Q hx hr (by rw[e2];exact hS) (by rw[e1,e2];exact hH) (by rw[e2];exact hC) hc.1 hQ
     | false =>
      rw[hb] at hr;simp only[JuT,if_false] at hr ⊢;obtain⟨e1,e2⟩:=Jlz (t:=false) he hk hb;exact ihy _ n k y' ρ o a w g Q hy hr (by rw[e2];exact hS) (by rw[e1,e2];exact hH) (by rw[e2];exact hC) hc.2 hQ
    ·cases h
  ·cases h
 | block id x ih =>
  intro s n k R ρ o a w g Q h hr hS hH hC hc hQ;simp only[codeOk] at hc;simp only[sxC] at h;refine wp_block ?_;refine ih s n _ R ρ o a w g _ h hr hS hH hC hc fun ex s' n' R' ρ' a' w' g' hn hag hk hr' hS' hH' hC' hd hz=>?_;cases ex with
  | norm=>exact hQ .norm s' n' R' ρ' a' w' g' hn hag hk hr' hS' hH' hC' hd hz
  | ret=>exact hQ .ret s' n' R' ρ' a' w' g' hn hag hk hr' hS' hH' hC' hd hz
  | exit j =>
   simp only at hk;split at hk
   ·rename_i hj;have:=hQ .norm s' n' R' ρ' a' w' g' hn hag hk hr' hS' hH' hC' hd hz;simpa[Exit.inBlock,Out.exitOf,hj] using this
   ·rename_i hj;have:=hQ (.exit j) s' n' R' ρ' a' w' g' hn hag hk hr' hS' hH' hC' hd hz;simpa[Exit.inBlock,Out.exitOf,hj] using this
 | loop x ih =>
  intro s n k R ρ o a w g Q h hr hS hH hC hc hQ;simp only[codeOk] at hc;simp only[sxC] at h;obtain⟨g1,hS1,hH1,hC1⟩:=ZG (YI x) H.own s g hS hH hC;generalize Y4 H.own (YI x) s=s1 at *;generalize genT (Jjb H (YI x)) s1 n=t at *;split at h
  ·cases h
  ·rename_i init hinit;split at h
   ·rename_i body hbody;simp only[JuC] at h;subst h;simp only[Run] at hr;refine wp_loop_rounds N ?_;have key :∀(j:Nat) (vs:List V) (g:Gh) (a':Act) (w:World),Jcw (fun vs o1=>∃ ρ',Jw n ρ ρ'∧JbQ n vs ρ'∧Run B N body ρ' o1) j vs o →
      (∀ρ',Jw n ρ ρ'→JbQ n vs ρ'→Sim c g (γm ρ' t.1.m) w∧Ju c g (γm ρ' t.1.m) w (γs ρ' t.1.sl) a'∧Jf c g0 m0 w0 g (γm ρ' t.1.m) w) →
      a'.defers=a.defers→a'.tmps.size=a.tmps.size→Code.rounds P x Q j a' w:=by
     intro j
     induction j with
     | zero=>intro vs g a' w hrel;exact hrel.elim
     | succ j ihj =>
      intro vs g a' w hrel hst hda hza;rw[rounds_succ];rcases hrel with ⟨vs',⟨ρ',hag,hset,hrun⟩,hrel⟩ | ⟨ρ',hag,hset,hrun⟩
      ·obtain⟨q1,q2,q3⟩:=hst ρ' hag hset;refine ih t.1 (n+t.2) _ body ρ' _ a' w g _ hbody hrun q1 q2 q3 (by rw[hza];exact hc) fun ex s' n' R' ρ2 a2 w2 g2 hn2 hag2 hk2 hr2 hS2 hH2 hC2 hd2 hz2=>?_;cases ex with
       | norm =>
        simp only at hk2;split at hk2
        ·rename_i vsE hvs;simp only[JuC] at hk2;subst hk2;simp only[Run,Oc.next.injEq] at hr2;subst hr2;obtain⟨g3,hS3,hH3,hC3⟩:=Jgx hl t.1 hS2 hH2 hC2;refine ihj _ g3 a2 w2 hrel (fun ρ3 hag3 hset3=>?_) (hd2.trans hda) (hz2.trans hza);have hag4:Jw n ρ ρ2:=hag.trans (hag2.le (by omega));exact WE hvs (hag4.symm.trans hag3) hset3 hl hS3 hH3 hC3
        ·cases hk2
       | exit id =>
        simp only at hk2;split at hk2
        ·simp only[JuC] at hk2;subst hk2;obtain⟨o',ho',_⟩:=hr2;cases ho'
        ·cases hk2
       | ret =>
        simp only at hk2;split at hk2
        ·simp only[JuC] at hk2;subst hk2;obtain⟨o',ho',_⟩:=hr2;cases ho'
        ·cases hk2
      ·obtain⟨q1,q2,q3⟩:=hst ρ' hag hset;refine ih t.1 (n+t.2) _ body ρ' _ a' w g _ hbody hrun q1 q2 q3 (by rw[hza];exact hc) fun ex s' n' R' ρ2 a2 w2 g2 hn2 hag2 hk2 hr2 hS2 hH2 hC2 hd2 hz2=>?_;have hag4:Jw n ρ ρ2:=hag.trans (hag2.le (by omega));cases ex with
       | norm =>
        simp only at hk2;split at hk2
        ·simp only[JuC] at hk2;subst hk2;simp only[Run] at hr2;cases hr2
        ·cases hk2
       | exit id =>
        simp only at hk2;split at hk2
        ·rename_i r hkr;simp only[JuC] at hk2;subst hk2;obtain⟨o',ho',hr3⟩:=hr2;cases ho';exact hQ (.exit id) s' n' r ρ2 a2 w2 g2 (by omega) hag4 hkr hr3 hS2 hH2 hC2 (hd2.trans hda) (hz2.trans hza)
        ·cases hk2
       | ret =>
        simp only at hk2;split at hk2
        ·rename_i r hkr;simp only[JuC] at hk2;subst hk2;obtain⟨o',ho',hr3⟩:=hr2;cases ho';exact hQ .ret s' n' r ρ2 a2 w2 g2 (by omega) hag4 hkr hr3 hS2 hH2 hC2 (hd2.trans hda) (hz2.trans hza)
        ·cases hk2
    obtain⟨gi,hSi,hHi,hCi⟩:=Jgx hl t.1 hS1 hH1 hC1;exact key N _ gi a w hr (fun ρ' hag hset=>WE hinit hag hset hl hSi hHi hCi) rfl rfl
   ·cases h
 | _=>intro s n k R ρ o a w g Q h;simp[sxC] at h
end
end Go.Tm
end
section
namespace Go.Tm
open Go.IntKind (i64)
def JkN:D→Bool
 | .v (.slice none 0 0)=>false
 | x=>x.one
def Sh1.toV:Sh1→D→Option V
 | .i k,.v (.int k' n)=>if k=k' then some (.i n) else none
 | .b,.v (.bool t)=>some (.b t)
 | .s,.s es=>some (.l es)
 | .d,x=>if JkN x then some (.d x) else none
 | _,_=>none
def XR:List Sh1→List D→Nat→Env→Option Env
 | [],[],_,ρ=>some ρ
 | a::as,d::ds,n,ρ=>match a.toV d with
  | some v=>XR as ds (n+1) (upd ρ n v)
  | none=>none
 | _,_,_,_=>none
def Sh.bind:Sh→D→Nat→Env→Option Env
 | .one a,d,n,ρ=>XR [a] [d] n ρ
 | .g as,.g cs,n,ρ=>XR as cs n ρ
 | .q as,.q cs,n,ρ=>XR as cs n ρ
 | _,_,_,_=>none
def XT (B : Tb) : I → Env → Option Env
  | .chk b,ρ=>if bol ρ b then some ρ else none
  | .head sz l,ρ=>if Yc sz (lst ρ l) then some ρ else none
  | .fl l,ρ=>if JH (lst ρ l) then some ρ else none
  | .get e sh n,ρ=>sh.bind (dat ρ e) n ρ
  | .idx l i sh n,ρ=>if 0≤int ρ i then match (lst ρ l)[(int ρ i).toNat]? with
      | some d=>sh.bind d n ρ
      | none=>none
    else none
  | .call f as rs n,ρ=>match B.call f (as.map (dat ρ)) with
    | some ds=>XR rs ds n ρ
    | none=>none
  | .prim p as r n,ρ=>match Kc p (as.map (dat ρ)) with
    | some d=>XR [r] [d] n ρ
    | none=>none
  | .callv e as ar rs n,ρ=>match dat ρ e with
    | .f fn caps=>if B.ar fn=some (ar++caps.map fun _=>none) then match B.call fn (as.map (dat ρ)++caps.map D.norm) with
        | some ds=>XR rs ds n ρ
        | none=>none
      else none
    | _=>none
def UH (f:List V→Option Oc):Nat→List V→Option Oc
 | 0,_=>none
 | n+1,vs=>match f vs with
  | some (.next vs')=>UH f n vs'
  | some (.esc o)=>some o
  | _=>none
def XP:Nat→List V→Env→Env
 | _,[],ρ=>ρ
 | c,v::vs,ρ=>XP (c+1) vs (upd ρ c v)
open Classical in
noncomputable def JG (B:Tb) (N:Nat):R→Env→Option Oc
 | .i x r,ρ=>match XT B x ρ with
  | some ρ'=>JG B N r ρ'
  | none=>none
 | .ite b x y,ρ=>if bol ρ b then JG B N x ρ else JG B N y ρ
 | .nilq _ l x y,ρ=>match lst ρ l with
  | []=>if JG B N x ρ=JG B N y ρ then JG B N y ρ else none
  | _::_=>JG B N y ρ
 | .loop c init body,ρ=>UH (fun vs=>JG B N body (XP c vs ρ)) N (init.map (den ρ))
 | .next vs,ρ=>some (.next (vs.map (den ρ)))
 | .done vs,ρ=>some (.done (vs.map (dat ρ)))
 | .esc r,ρ=>match JG B N r ρ with
  | some o=>some (.esc o)
  | none=>none
def I.wf (c:Nat):I→Bool
 | .chk b=>b.under c
 | .head _ l=>l.under c
 | .fl l=>l.under c
 | .get e _ n=>e.under c&&n == c
 | .idx l i _ n=>l.under c&&i.under c&&n == c
 | .call _ as _ n=>as.all (E.under c)&&n == c
 | .callv e as _ _ n=>e.under c&&as.all (E.under c)&&n == c
 | .prim _ as _ n=>as.all (E.under c)&&n == c
def I.size:I→Nat
 | .chk _ | .head _ _ | .fl _=>0
 | .get _ sh _ | .idx _ _ sh _=>sh.size
 | .call _ _ rs _ | .callv _ _ _ rs _=>rs.length
 | .prim _ _ _ _=>1
def R.wf:R→Nat→List Nat→Bool
 | .i x r,c,st=>x.wf c&&r.wf (c+x.size) st
 | .ite b x y,c,st=>b.under c&&x.wf c st&&y.wf c st
 | .nilq c' l x y,c,st=>c' == c&&l.under c&&x.wf c st&&y.wf c st
 | .loop c' init body,c,st=>c' == c&&init.all (E.under c)&&body.wf (c+init.length) (init.length::st)
 | .next vs,c,st=>vs.all (E.under c)&&st.head? == some vs.length
 | .done vs,c,_=>vs.all (E.under c)
 | .esc r,c,st=>r.wf c st.tail
def Oc.conf:Oc→List Nat→Prop
 | .next vs,st=>st.head? = some vs.length
 | .done _,_=>True
 | .esc o,st=>o.conf st.tail
section
variable {B:Tb} {N:Nat}
theorem Jqs {a:Sh1} {d:D} {v:V} {n:Nat} {ρ:Env} (h:a.toV d=some v) (hr:ρ n=v):dat ρ (a.expr n)=d:=by
 unfold Sh1.toV at h;split at h
 ·split at h
  ·rename_i hk;subst hk;simp only[JuC] at h;subst h;show D.v (.int _ (V.int (ρ n)))=_;rw[hr];rfl
  ·cases h
 ·simp only[JuC] at h;subst h;show D.v (.bool (V.bool (ρ n)))=_;rw[hr];rfl
 ·simp only[JuC] at h;subst h;show D.s (V.lst (ρ n))=_;rw[hr];rfl
 ·split at h
  ·rename_i hx;simp only[JuC] at h;subst h;show XJ (V.dat (ρ n))=_;rw[hr];show XJ d=d;unfold JkN at hx;split at hx
   ·cases hx
   ·rename_i hne;rw[Uq hx];unfold D.norm;split
    ·exact absurd rfl hne
    ·rfl
  ·cases h
 ·cases h
theorem X3 :∀(as:List Sh1) (ds:List D) (n:Nat) (ρ ρ':Env),XR as ds n ρ=some ρ'→as.length=ds.length∧Jw n ρ ρ'∧∀ρ2,Jw (n+as.length) ρ' ρ2→(Jz as n).map (dat ρ2)=ds
 | [],[],n,ρ,ρ',h=>by
  simp only[XR,JuC] at h;subst h;exact⟨rfl,Jw.rfl',fun _ _=>rfl⟩
 | [],_::_,n,ρ,ρ',h=>by simp[XR] at h
 | _::_,[],n,ρ,ρ',h=>by simp[XR] at h
 | a::as,d::ds,n,ρ,ρ',h=>by
  simp only[XR] at h;split at h
  ·rename_i v hv;obtain⟨h1,h2,h3⟩:=X3 as ds (n+1) _ ρ' h;refine⟨by simp[h1],fun j hj=>?_,fun ρ2 h4=>?_⟩
   ·rw[h2 j (by omega),uO1 _ _ (by omega)]
   ·simp only[Jz,JuL];rw[h3 ρ2 (by rw[show n+1+as.length=n+(a::as).length by simp;omega];exact h4)]
    congr 1
    refine Jqs hv ?_;rw[h4 n (by simp),h2 n (by omega),uS1]
  ·cases h
theorem JdN {sh:Sh} {d:D} {n:Nat} {ρ ρ':Env} (h:sh.bind d n ρ=some ρ'):Jw n ρ ρ'∧∀ρ2,Jw (n+sh.size) ρ' ρ2→dat ρ2 (sh.expr n)=d:=by
 unfold Sh.bind at h;split at h
 ·obtain⟨_,h2,h3⟩:=X3 _ _ _ _ _ h;refine⟨h2,fun ρ2 h4=>?_⟩;have:=h3 ρ2 h4;simp only[Jz,JuL,List.map_nil,List.cons.injEq,and_true] at this;exact this
 ·obtain⟨_,h2,h3⟩:=X3 _ _ _ _ _ h;refine⟨h2,fun ρ2 h4=>?_⟩;show D.g (lst ρ2 (J5 _))=_;rw[JD,h3 ρ2 h4]
 ·obtain⟨_,h2,h3⟩:=X3 _ _ _ _ _ h;refine⟨h2,fun ρ2 h4=>?_⟩;show D.q (lst ρ2 (J5 _))=_;rw[JD,h3 ρ2 h4]
 ·cases h
theorem Ja7 {f:Env→E→D} {c:Nat} {ρ ρ':Env} (hf :∀e,e.under c=true→f ρ' e=f ρ e) {as:List E} (h:as.all (E.under c)=true):as.map (f ρ')=as.map (f ρ) :=
 JuZ fun e he=>hf e (JuQ.1 h e he)
theorem Uc {c:Nat} {ρ ρ':Env} (h:Jw c ρ ρ') (e:E) (hu:e.under c=true):dat ρ' e=dat ρ e:=by unfold dat;rw[Yg h e hu]
theorem Ja0 {c:Nat} {ρ ρ':Env} (h:Jw c ρ ρ') (e:E) (hu:e.under c=true):lst ρ' e=lst ρ e:=by unfold lst;rw[Yg h e hu]
theorem Jmo {c:Nat} {ρ ρ':Env} (h:Jw c ρ ρ') (e:E) (hu:e.under c=true):int ρ' e=int ρ e:=by unfold int;rw[Yg h e hu]
theorem Jbp {c:Nat} {ρ ρ':Env} (h:Jw c ρ ρ') (e:E) (hu:e.under c=true):bol ρ' e=bol ρ e:=by unfold bol;rw[Yg h e hu]
theorem JnM {x:I} {c:Nat} {ρ ρ':Env} (h:XT B x ρ=some ρ') (hw:x.wf c=true):Jw c ρ ρ'∧∀ρ2,Jw (c+x.size) ρ' ρ2→x.holds B ρ2:=by
 cases x with
 | chk b =>
  simp only[XT] at h;split at h
  ·rename_i hb;simp only[JuC] at h;subst h;exact⟨Jw.rfl',fun ρ2 h2=>by show bol ρ2 b=true;rw[Jbp h2 b hw];exact hb⟩
  ·cases h
 | head sz l =>
  simp only[XT] at h;split at h
  ·rename_i hb;simp only[JuC] at h;subst h;exact⟨Jw.rfl',fun ρ2 h2=>by show Yc sz (lst ρ2 l)=true;rw[Ja0 h2 l hw];exact hb⟩
  ·cases h
 | fl l =>
  simp only[XT] at h;split at h
  ·rename_i hb;simp only[JuC] at h;subst h;exact⟨Jw.rfl',fun ρ2 h2=>by show JH (lst ρ2 l)=true;rw[Ja0 h2 l hw];exact hb⟩
  ·cases h
 | get e sh n =>
  simp only[I.wf,JuD,beq_iff_eq] at hw;obtain⟨hu,rfl⟩:=hw;simp only[XT] at h;obtain⟨h1,h2⟩:=JdN h;refine⟨h1,fun ρ2 h3=>?_⟩;show dat ρ2 e=dat ρ2 (sh.expr n);rw[h2 ρ2 h3,Uc (h1.trans (h3.le (by omega))) e hu]
 | idx l i sh n =>
  simp only[I.wf,JuD,beq_iff_eq] at hw;obtain⟨⟨hu,hu2⟩,rfl⟩:=hw;simp only[XT] at h;split at h
  ·rename_i h0;split at h
   ·rename_i d hd;obtain⟨h1,h2⟩:=JdN h;refine⟨h1,fun ρ2 h3=>?_⟩;have ha:=h1.trans (h3.le (by omega));show 0≤int ρ2 i∧(lst ρ2 l)[(int ρ2 i).toNat]? = some (dat ρ2 (sh.expr n));rw[h2 ρ2 h3,Jmo ha i hu2,Ja0 ha l hu];exact⟨h0,hd⟩
   ·cases h
  ·cases h
 | call f as rs n =>
  simp only[I.wf,JuD,beq_iff_eq] at hw;obtain⟨hu,rfl⟩:=hw;simp only[XT] at h;split at h
  ·rename_i ds hds;obtain⟨_,h1,h2⟩:=X3 _ _ _ _ _ h;refine⟨h1,fun ρ2 h3=>?_⟩;have ha:=h1.trans (h3.le (by omega));show B.call f (as.map (dat ρ2))=some ((Jz rs n).map (dat ρ2));rw[h2 ρ2 h3,Ja7 (f:=dat) (fun e he=>Uc ha e he) hu];exact hds
  ·cases h
 | prim p as r n =>
  simp only[I.wf,JuD,beq_iff_eq] at hw;obtain⟨hu,rfl⟩:=hw;simp only[XT] at h;split at h
  ·rename_i d hds;obtain⟨_,h1,h2⟩:=X3 _ _ _ _ _ h;refine⟨h1,fun ρ2 h3=>?_⟩;have ha:=h1.trans (h3.le (by omega));have h4:=h2 ρ2 h3;show Kc p (as.map (dat ρ2))=some (dat ρ2 (r.expr n));rw[Ja7 (f:=dat) (fun e he=>Uc ha e he) hu,hds];have h5:[d]=[dat ρ2 (r.expr n)]:=by simpa[Jz] using h4.symm
   simp only[List.cons.injEq,and_true] at h5;rw[h5]
  ·cases h
 | callv e as ar rs n =>
  simp only[I.wf,JuD,beq_iff_eq] at hw;obtain⟨⟨hu,hu2⟩,rfl⟩:=hw;simp only[XT] at h;split at h
  ·rename_i fn caps hd;split at h
   ·rename_i har;split at h
    ·rename_i ds hds;obtain⟨_,h1,h2⟩:=X3 _ _ _ _ _ h;refine⟨h1,fun ρ2 h3=>?_⟩;have ha:=h1.trans (h3.le (by omega));refine⟨fn,caps,by rw[Uc ha e hu];exact hd,har,?_⟩;rw[h2 ρ2 h3,Ja7 (f:=dat) (fun e he=>Uc ha e he) hu2];exact hds
    ·cases h
   ·cases h
  ·cases h
theorem Jbn :∀(vs:List V) (c:Nat) (ρ:Env),Jw c ρ (XP c vs ρ)∧JbQ c vs (XP c vs ρ)
 | [],c,ρ=>⟨Jw.rfl',fun j v h=>by simp at h⟩
 | v::vs,c,ρ=>by
  obtain⟨h1,h2⟩:=Jbn vs (c+1) (upd ρ c v);refine⟨fun j hj=>?_,fun j u hj=>?_⟩
  ·show XP (c+1) vs (upd ρ c v) j=ρ j;rw[h1 j (by omega),uO1 _ _ (by omega)]
  ·show XP (c+1) vs (upd ρ c v) (c+j)=u;cases j with
   | zero =>
    simp at hj;subst hj;rw[h1 (c+0) (by omega)];exact uS1 _ _ _
   | succ j =>
    have:=h2 j u (by simpa using hj);rw[←this];congr 1;omega
theorem JmY :∀(r:R) (c:Nat) (st:List Nat) (ρ:Env) (o:Oc),JG B N r ρ=some o→r.wf c st=true→o.conf st:=by
 intro r
 induction r with
 | i x r ih =>
  intro c st ρ o h hw;simp only[R.wf,JuD] at hw;simp only[JG] at h;split at h
  ·exact ih _ st _ o h hw.2
  ·cases h
 | ite b x y ihx ihy =>
  intro c st ρ o h hw;simp only[R.wf,JuD] at hw;simp only[JG] at h;split at h
  ·exact ihx c st ρ o h hw.1.2
  ·exact ihy c st ρ o h hw.2
 | nilq c' l x y ihx ihy =>
  intro c st ρ o h hw;simp only[R.wf,JuD] at hw;simp only[JG] at h;split at h
  ·split at h
   ·exact ihy c st ρ o h hw.2
   ·cases h
  ·exact ihy c st ρ o h hw.2
 | loop c' init body ih =>
  intro c st ρ o h hw;simp only[R.wf,JuD] at hw;simp only[JG] at h;have key :∀(n:Nat) (vs:List V),UH (fun vs=>JG B N body (XP c' vs ρ)) n vs=some o→o.conf st:=by
   intro n
   induction n with
   | zero=>intro vs h;cases h
   | succ n ihn =>
    intro vs h;simp only[UH] at h;split at h
    ·exact ihn _ h
    ·rename_i o' h1;simp only[JuC] at h;subst h;have:=ih _ (init.length::st) _ _ h1 hw.2;exact this
    ·cases h
  exact key N _ h
 | next vs =>
  intro c st ρ o h hw;simp only[JG,JuC] at h;subst h;simp only[R.wf,JuD,beq_iff_eq] at hw;simpa[Oc.conf] using hw.2
 | done vs =>
  intro c st ρ o h hw;simp only[JG,JuC] at h;subst h;trivial
 | esc r ih =>
  intro c st ρ o h hw;simp only[JG] at h;split at h
  ·rename_i o' h1;simp only[JuC] at h;subst h;exact ih c st.tail ρ o' h1 hw
  ·cases h
theorem Jb9 :∀(r:R) (c:Nat) (st:List Nat) (ρ:Env) (o:Oc),JG B N r ρ=some o→r.wf c st=true→∃ ρ',Jw c ρ ρ'∧Run B N r ρ' o:=by
 intro r
 induction r with
 | i x r ih =>
  intro c st ρ o h hw;simp only[R.wf,JuD] at hw;simp only[JG] at h;split at h
  ·rename_i ρ1 h1;obtain⟨h2,h3⟩:=JnM h1 hw.1;obtain⟨ρ',h4,h5⟩:=ih _ st ρ1 o h hw.2;exact⟨ρ',h2.trans (h4.le (by omega)),h3 ρ' h4,h5⟩
  ·cases h
 | ite b x y ihx ihy =>
  intro c st ρ o h hw;simp only[R.wf,JuD] at hw;simp only[JG] at h;split at h
  ·rename_i hb;obtain⟨ρ',h1,h2⟩:=ihx c st ρ o h hw.1.2;exact⟨ρ',h1,by simp only[Run,Jbp h1 b hw.1.1,hb,if_true];exact h2⟩
  ·rename_i hb;obtain⟨ρ',h1,h2⟩:=ihy c st ρ o h hw.2;refine⟨ρ',h1,?_⟩;simp only[Run,Jbp h1 b hw.1.1];rw[if_neg hb];exact h2
 | nilq c' l x y ihx ihy =>
  intro c st ρ o h hw;simp only[R.wf,JuD,beq_iff_eq] at hw;obtain⟨⟨⟨rfl,hu⟩,hwx⟩,hwy⟩:=hw;simp only[JG] at h;refine⟨ρ,Jw.rfl',?_⟩;simp only[Run];split at h
  ·split at h
   ·rename_i he;exact⟨ihy _ st ρ o h hwy,fun _=>ihx _ st ρ o (by rw[he];exact h) hwx⟩
   ·cases h
  ·rename_i hl;exact⟨ihy _ st ρ o h hwy,fun e=>by rw[e] at hl;cases hl⟩
 | loop c' init body ih =>
  intro c st ρ o h hw;simp only[R.wf,JuD,beq_iff_eq] at hw;obtain⟨⟨rfl,hu⟩,hw⟩:=hw;simp only[JG] at h;refine⟨ρ,Jw.rfl',?_⟩;simp only[Run];have key :∀(n:Nat) (vs:List V),vs.length=init.length→UH (fun vs=>JG B N body (XP c' vs ρ)) n vs=some o→Jcw (fun vs o1=>∃ ρ',Jw c' ρ ρ'∧JbQ c' vs ρ'∧Run B N body ρ' o1) n vs o:=by
   intro n
   induction n with
   | zero=>intro vs _ h;cases h
   | succ n ihn =>
    intro vs hlen h;simp only[UH] at h;obtain⟨s1,s2⟩:=Jbn vs c' ρ;have keep :∀ρ',Jw (c'+init.length) (XP c' vs ρ) ρ'→Jw c' ρ ρ'∧JbQ c' vs ρ':=fun ρ' ha =>
     ⟨s1.trans (ha.le (by omega)),fun j v hj=>by
      have hlt:j<vs.length:=(JuE.1 hj).1;rw[ha (c'+j) (by omega)];exact s2 j v hj⟩
    split at h
    ·rename_i vs' h1;obtain⟨ρ',h2,h3⟩:=ih _ _ _ _ h1 hw;obtain⟨h4,h5⟩:=keep ρ' h2;have hcf:=JmY _ _ _ _ _ h1 hw;simp only[Oc.conf,List.head?_cons,JuC] at hcf;exact .inl ⟨vs',⟨ρ',h4,h5,h3⟩,ihn vs' hcf.symm h⟩
    ·rename_i o' h1;simp only[JuC] at h;subst h;obtain⟨ρ',h2,h3⟩:=ih _ _ _ _ h1 hw;obtain⟨h4,h5⟩:=keep ρ' h2;exact .inr ⟨ρ',h4,h5,h3⟩
    ·cases h
  exact key N _ (by simp) h
 | next vs =>
  intro c st ρ o h hw;simp only[JG,JuC] at h;subst h;exact⟨ρ,Jw.rfl',rfl⟩
 | done vs =>
  intro c st ρ o h hw;simp only[JG,JuC] at h;subst h;exact⟨ρ,Jw.rfl',rfl⟩
 | esc r ih =>
  intro c st ρ o h hw;simp only[JG] at h;split at h
  ·rename_i o' h1;simp only[JuC] at h;subst h;obtain⟨ρ',h2,h3⟩:=ih c _ ρ o' h1 hw;exact⟨ρ',h2,o',rfl,h3⟩
  ·cases h
end
end Go.Tm
end

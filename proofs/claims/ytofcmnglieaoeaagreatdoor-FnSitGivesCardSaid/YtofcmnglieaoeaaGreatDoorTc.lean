import Derived.Test.YtofcmnglieaoeaaGreatDoorTb
set_option linter.unusedVariables false
set_option linter.unusedSimpArgs false
section
namespace Go.Tm
open Go.IntKind (i64)
def ZD (i:Nat):List Ji→Yd
 | []=>[]
 | o::os=>(i,o)::ZD (i+1) os
theorem Zj :∀(os:List Ji) (a k:Nat),(ZD a os).lookup k=if a≤k then os[k-a]? else none
 | [],a,k=>by simp[ZD]
 | o::os,a,k=>by
  simp only[ZD,List.lookup_cons]
  by_cases h:k=a
  ·subst h;simp
  ·have hb:(k == a)=false:=by simpa using h
   rw[hb,Zj os (a+1) k]
   by_cases hlt:a≤k
   ·have e:k-a=(k-(a+1))+1:=by omega
    rw[if_pos (by omega),if_pos hlt,e,List.getElem?_cons_succ]
   ·rw[if_neg (by omega),if_neg hlt]
theorem JcK (ρ:Env) (os:List Ji):γm ρ (ZD 0 os)=Xq (JF 0 (os.map (γO ρ))):=by
 funext k
 simp only[γm,Xq,XD,Zj,Nat.zero_le,if_true,Nat.sub_zero,JuD]
mutual
def SV.lv:SV→List E
 | .d e=>[e]
 | .g cs=>slv cs
 | .t cs=>slv cs
 | .f _ cs=>slv cs
 | _=>[]
def slv:List SV→List E
 | []=>[]
 | c::cs=>SV.lv c++slv cs
end
mutual
def SV.lv2:SV→List E
 | .d e=>[e]
 | .g cs=>JeH cs
 | .t cs=>JeH cs
 | .f _ cs=>JeH cs
 | .o _ l=>[.s l]
 | .e _ l i _=>[.s l,.vi .i64 i]
 | _=>[]
def JeH:List SV→List E
 | []=>[]
 | c::cs=>SV.lv2 c++JeH cs
end
def Ji.lv:Ji→List E
 | .box cs=>slv cs
 | .arr _ _ l _ _=>[.s l]
 | .dead=>[]
def Ji.lv2:Ji→List E
 | .box cs=>JeH cs
 | .arr _ _ l _ _=>[.s l]
 | .dead=>[]
section
variable {ρ ρ':Env}
mutual
theorem Jsf :∀v:SV,γX ρ v=γX ρ' v→∀e∈v.lv,dat ρ e=dat ρ' e
 | .d e,h,e',he=>by
  simp only[SV.lv,JuA] at he;subst he;simp only[γX] at h;injection h
 | .g cs,h,e',he=>by simp only[γX] at h;injection h with h;exact Jbq cs h e' (by simpa[SV.lv] using he)
 | .t cs,h,e',he=>by simp only[γX] at h;injection h with h;exact Jbq cs h e' (by simpa[SV.lv] using he)
 | .f _ cs,h,e',he=>by simp only[γX] at h;injection h with _ h;exact Jbq cs h e' (by simpa[SV.lv] using he)
 | .o _ _,_,e',he=>by simp[SV.lv] at he
 | .p _ _,_,e',he=>by simp[SV.lv] at he
 | .e _ _ _ _,_,e',he=>by simp[SV.lv] at he
 | .u,_,e',he=>by simp[SV.lv] at he
theorem Jbq :∀cs:List SV,γXs ρ cs=γXs ρ' cs→∀e∈slv cs,dat ρ e=dat ρ' e
 | [],_,e',he=>by simp[slv] at he
 | c::cs,h,e',he=>by
  simp only[γXs,List.cons.injEq] at h;simp only[slv,Jun] at he;rcases he with he | he
  ·exact Jsf c h.1 e' he
  ·exact Jbq cs h.2 e' he
end
mutual
theorem JoN :∀v:SV,(∀e∈v.lv2,dat ρ e=dat ρ' e)→γX ρ v=γX ρ' v
 | .d e,h=>by simp only[γX];rw[h e (by simp[SV.lv2])]
 | .g cs,h=>by simp only[γX];rw[VS cs (fun e he=>h e (by simpa[SV.lv2] using he))]
 | .t cs,h=>by simp only[γX];rw[VS cs (fun e he=>h e (by simpa[SV.lv2] using he))]
 | .f _ cs,h=>by simp only[γX];rw[VS cs (fun e he=>h e (by simpa[SV.lv2] using he))]
 | .o _ l,h=>by simp only[γX];rw[Jiu (h (.s l) (by simp[SV.lv2]))]
 | .p _ _,_=>rfl
 | .e _ l i _,h=>by
  simp only[γX];rw[Jiu (h (.s l) (by simp[SV.lv2]))];have:D.v (.int .i64 (int ρ i))=D.v (.int .i64 (int ρ' i)):=h (.vi .i64 i) (by simp[SV.lv2]);simp only[D.v.injEq,Value.int.injEq,true_and] at this;rw[this]
 | .u,_=>rfl
theorem VS :∀cs:List SV,(∀e∈JeH cs,dat ρ e=dat ρ' e)→γXs ρ cs=γXs ρ' cs
 | [],_=>rfl
 | c::cs,h=>by
  simp only[γXs];rw[JoN c (fun e he=>h e (by simp[JeH,he])),VS cs (fun e he=>h e (by simp[JeH,he]))]
end
theorem JqT (o:Ji) (h:γO ρ o=γO ρ' o) :∀e∈o.lv,dat ρ e=dat ρ' e:=by
 intro e he;cases o with
 | box cs=>simp only[γO] at h;injection h with h;exact Jbq cs h e he
 | arr ty sz l dp rw =>
  simp only[Ji.lv,JuA] at he;subst he;simp only[γO] at h;injection h with _ _ h;show D.s (lst ρ l)=D.s (lst ρ' l);rw[h]
 | dead=>simp[Ji.lv] at he
theorem Jk4 (o:Ji) (h :∀e∈o.lv2,dat ρ e=dat ρ' e):γO ρ o=γO ρ' o:=by
 cases o with
 | box cs=>simp only[γO];rw[VS cs h]
 | arr ty sz l dp rw=>simp only[γO];rw[Jiu (h (.s l) (by simp[Ji.lv2]))]
 | dead=>rfl
end
def Q3.rel (s:Q3) (F:List D→Option (List D)) (xs:List X) (os:List Obj) (r:X×Mem):Prop :=
 ∃ ρ1 ρ2,xs=γXs ρ1 s.args∧os=s.objs.map (γO ρ1)∧F ((Jz s.ins 0).map (dat ρ1))=some ((Jz s.outs 0).map (dat ρ2))∧r=(γX ρ2 s.res,γm ρ2 (ZD 0 s.robjs))
def Q3.ok (s:Q3):Bool :=
 let ls:=slv s.args++s.objs.flatMap Ji.lv
 let os:=Jz s.outs 0
 (Jz s.ins 0).all (fun e=>ls.any fun x=>x.same e)&&(s.res.lv2++s.robjs.flatMap Ji.lv2).all (fun e=>os.any fun x=>x.same e)
theorem Jdm {l:List E} {e:E} (h:l.any (fun x=>x.same e)=true) : ∃ x∈l,∀ρ,dat ρ x=dat ρ e:=by
 obtain⟨x,hx,hs⟩:=List.any_eq_true.1 h;exact⟨x,hx,fun ρ=>JnC hs ρ⟩
theorem Q3.rel_one {s:Q3} (hs:s.ok=true) {F:List D→Option (List D)} {xs:List X} {os:List Obj} {r r':X×Mem} (h:s.rel F xs os r) (h':s.rel F xs os r'):r=r':=by
 obtain⟨ρ1,ρ2,hx,ho,hF,rfl⟩:=h;obtain⟨σ1,σ2,hx',ho',hF',rfl⟩:=h';unfold Q3.ok at hs;simp only[Jui] at hs;have hin:(Jz s.ins 0).map (dat ρ1)=(Jz s.ins 0).map (dat σ1):=by
  refine JuE fun e he=>?_;obtain⟨x,hxm,hxe⟩:=Jdm (Juv.1 hs.1 e he);rw[←hxe,←hxe];rcases Jun.1 hxm with hm | hm
  ·exact Jbq s.args (hx.symm.trans hx') x hm
  ·obtain⟨o,hom,hxo⟩:=List.mem_flatMap.1 hm;have:s.objs.map (γO ρ1)=s.objs.map (γO σ1):=ho.symm.trans ho';exact JqT o (List.map_inj_left.1 this o hom) x hxo
 rw[hin,hF'] at hF;simp only[Juh] at hF;have hout :∀e∈s.res.lv2++s.robjs.flatMap Ji.lv2,dat ρ2 e=dat σ2 e:=by
  intro e he;obtain⟨x,hxm,hxe⟩:=Jdm (Juv.1 hs.2 e he);rw[←hxe,←hxe];exact(List.map_inj_left.1 hF x hxm).symm
 have e1:γX ρ2 s.res=γX σ2 s.res:=JoN _ fun e he=>hout e (by simp[he]);have e2:γm ρ2 (ZD 0 s.robjs)=γm σ2 (ZD 0 s.robjs):=by
  rw[JcK,JcK]
  congr 2
  exact JuE fun o ho=>Jk4 o fun e he=>hout e (List.mem_append_right _ (List.mem_flatMap.2 ⟨o,ho,he⟩))
 rw[e1,e2]
open Classical in
noncomputable def YM (s:Q3) (F:List D→Option (List D)):Kp:=fun xs os=>if h : ∃ r,s.rel F xs os r then some h.choose else none
theorem Jae {s:Q3} (hs:s.ok=true) {F:List D→Option (List D)} {xs:List X} {os:List Obj} {r:X×Mem} (h:s.rel F xs os r):YM s F xs os=some r:=by
 unfold YM;have hex : ∃ r,s.rel F xs os r:=⟨r,h⟩;rw[dif_pos hex,Q3.rel_one hs hex.choose_spec h]
theorem V3 {s:Q3} {F:List D→Option (List D)} {xs:List X} {os:List Obj} {r:X×Mem} (h:YM s F xs os=some r):s.rel F xs os r:=by
 unfold YM at h;split at h
 ·rename_i hex;simp only[Juh] at h;subst h;exact hex.choose_spec
 ·cases h
def E.up (n:Nat):E→E
 | .v j=> .v (n+j)
 | .da j=> .da (n+j)
 | .z m=> .z m
 | .tt=> .tt
 | .ff=> .ff
 | .bin o k x y=> .bin o k (x.up n) (y.up n)
 | .cmp o x y=> .cmp o (x.up n) (y.up n)
 | .not x=> .not (x.up n)
 | .beq x y=> .beq (x.up n) (y.up n)
 | .len l=> .len (l.up n)
 | .cv k x=> .cv k (x.up n)
 | .vi k x=> .vi k (x.up n)
 | .vb x=> .vb (x.up n)
 | .vc x=> .vc x
 | .s l=> .s (l.up n)
 | .g l=> .g (l.up n)
 | .q l=> .q (l.up n)
 | .fn f l=> .fn f (l.up n)
 | .nil=> .nil
 | .cons x l=> .cons (x.up n) (l.up n)
 | .app x y=> .app (x.up n) (y.up n)
 | .rep x y=> .rep (x.up n) (y.up n)
 | .set x y w=> .set (x.up n) (y.up n) (w.up n)
 | .take x y=> .take (x.up n) (y.up n)
theorem Jgl (ρ:Env) (n:Nat) :∀e:E,den ρ (e.up n)=den (fun j=>ρ (n+j)) e:=by
 intro e
 induction e <;> simp only[E.up,den, *]
mutual
def SV.up (n:Nat):SV→SV
 | .d e=> .d (e.up n)
 | .g cs=> .g (sup n cs)
 | .o k l=> .o k (l.up n)
 | .p k off=> .p k off
 | .e k l i off=> .e k (l.up n) (i.up n) off
 | .f fn cs=> .f fn (sup n cs)
 | .t cs=> .t (sup n cs)
 | .u=> .u
def sup (n:Nat):List SV→List SV
 | []=>[]
 | c::cs=>SV.up n c::sup n cs
end
mutual
theorem SV.up_ok (ρ:Env) (n:Nat) :∀v:SV,γX ρ (v.up n)=γX (fun j=>ρ (n+j)) v
 | .d e=>by simp only[SV.up,γX,dat,Jgl]
 | .g cs=>by simp only[SV.up,γX,Jdu ρ n cs]
 | .o k l=>by simp only[SV.up,γX,lst,Jgl]
 | .p k off=>rfl
 | .e k l i off=>by simp only[SV.up,γX,lst,int,Jgl]
 | .f fn cs=>by simp only[SV.up,γX,Jdu ρ n cs]
 | .t cs=>by simp only[SV.up,γX,Jdu ρ n cs]
 | .u=>rfl
theorem Jdu (ρ:Env) (n:Nat) :∀cs:List SV,γXs ρ (sup n cs)=γXs (fun j=>ρ (n+j)) cs
 | []=>rfl
 | c::cs=>by simp only[sup,γXs,SV.up_ok ρ n c,Jdu ρ n cs]
end
def Ji.up (n:Nat):Ji→Ji
 | .box cs=> .box (sup n cs)
 | .arr ty sz l dp rw=> .arr ty sz (l.up n) dp rw
 | .dead=> .dead
theorem Ji.up_ok (ρ:Env) (n:Nat) (o:Ji):γO ρ (o.up n)=γO (fun j=>ρ (n+j)) o:=by
 cases o with
 | box cs=>simp only[Ji.up,γO,Jdu]
 | arr ty sz l dp rw=>simp only[Ji.up,γO,lst,Jgl]
 | dead=>rfl
theorem JdH (ρ:Env) :∀(as:List Sh1) (n m:Nat),(Jz as (n+m)).map (dat ρ)=(Jz as m).map (dat fun j=>ρ (n+j))
 | [],n,m=>rfl
 | a::as,n,m=>by
  simp only[Jz,Juq];rw[show n+m+1=n+(m+1) by omega,JdH ρ as n (m+1)]
  congr 1
  cases a <;> rfl
def VI {α:Type}:List Key→(List Ji→SMP α)→SMP α
 | [],c=>c []
 | k::ks,c=> .get k fun o=>VI ks fun os=>c (o::os)
def JgE {α:Type}:List (Key×Ji)→SMP α→SMP α
 | [],c=>c
 | (k,o)::l,c=> .put k o (JgE l c)
def JcN {α:Type}:List (Key×Ji)→SMP α→SMP α
 | [],c=>c
 | (k,o)::l,c=> .new k o (JcN l c)
section
variable {B:Tb} {ρ:Env}
theorem Kl {α β:Type} {f:α→β} :∀(ks:List Key) (c:List Ji→SMP α) (c':List Obj→MP β),(∀os,(c os).Ok B ρ f (c' (os.map (γO ρ))))→(VI ks c).Ok B ρ f (Jei ks c')
 | [],c,c',h=>h []
 | k::ks,c,c',h=>⟨_,rfl,fun o=>Kl ks _ _ fun os=>h (o::os)⟩
theorem Jd6 {α β:Type} {f:α→β} :∀(l:List (Key×Ji)) (c:SMP α) (c':MP β),c.Ok B ρ f c'→(JgE l c).Ok B ρ f (Jdb (l.map fun p=>(p.1,γO ρ p.2)) c')
 | [],c,c',h=>h
 | (k,o)::l,c,c',h=>⟨_,rfl,Jd6 l c c' h⟩
theorem Wu {α β:Type} {f:α→β} :∀(l:List (Key×Ji)) (c:SMP α) (c':MP β),c.Ok B ρ f c'→(JcN l c).Ok B ρ f (Jhl (l.map fun p=>(p.1,γO ρ p.2)) c')
 | [],c,c',h=>h
 | (k,o)::l,c,c',h=>⟨_,rfl,Wu l c c' h⟩
def JnZ (ins:List Sh1) (bs:List (Nat×E)):Nat→List E
 | j=>match ins with
  | []=>[]
  | a::as=>(match bs.lookup j with
   | some x=>(match a with | .i k=>E.vi k x | .b=> .vb x | .d=>x | .s=> .s x)
   | none=> .vc .nilFunc)::JnZ as bs (j+1)
def Jh2 (ins:List Sh1) (bs:List (Nat×E)):Nat→Bool
 | j=>match ins with
  | []=>true
  | a::as=>(match bs.lookup j with
   | some x=>(match a with | .d=>x.isOne&&Wv x | _=>true)
   | none=>false)&&Jh2 as bs (j+1)
theorem Jgv :∀(ins:List Sh1) (bs:List (Nat×E)) (j:Nat),Jh2 ins bs j=true→(JnZ ins bs j).map (dat ρ)=(Jz ins j).map (dat (YJ 0 ρ bs))
 | [],bs,j,_=>rfl
 | a::as,bs,j,h=>by
  unfold Jh2 at h;simp only[Jui] at h;unfold JnZ;simp only[Jz,Juq,Jgv as bs (j+1) h.2]
  congr 1
  cases hl:bs.lookup j with
  | none=>rw[hl] at h;simp at h
  | some x =>
   have he:YJ 0 ρ bs j=den ρ x:=by simp[YJ,hl]
   cases a with
   | i k=>show D.v (.int k (den ρ x).int)=D.v (.int k (YJ 0 ρ bs j).int);rw[he]
   | b=>show D.v (.bool (den ρ x).bool)=D.v (.bool (YJ 0 ρ bs j).bool);rw[he]
   | s=>show D.s (den ρ x).lst=D.s (YJ 0 ρ bs j).lst;rw[he]
   | d =>
    show dat ρ x=XN (YJ 0 ρ bs j).dat;rw[he];rw[hl] at h;simp only[Jui] at h;show dat ρ x=XN (dat ρ x);rw[Uo (J6 h.1.1 ρ),Ja3 h.1.2]
def VU (s : Q3) (f : FuncId) (kb : Key) (xs : List SV) (L : List Key) (os : List Ji) : SMP SV :=
  if (Yc xs ++ os.flatMap Ji.names).all L.contains then
    match mv.mvs s.args (Jbb (at? L) (Kv (holds? (L.zip os)) xs)),mos s.objs (os.map fun o=>(JgS (holds? (L.zip os)) o).ren (at? L)) with
    | some ps,some qs=>match Jjt 0 (ps++qs) with
      | some bs=>if JbJ bs&&Jh2 s.ins bs 0 then
          let n:=L.length
          let news:=Yv [] ((s.res.names++(s.robjs.take n).flatMap Ji.names).filter fun k=>n≤k)
          let all:=List.range n++news
          if all == List.range s.robjs.length&&(s.res.names++s.robjs.flatMap Ji.names).all all.contains&&Nat.ble news.length 16 then
            .ask (fun a=> .call f (JnZ s.ins bs 0) s.outs a) s.outs.length fun a =>
              let back:=fun k=>(L++(List.range news.length).map (kb + ·)).getD (at? all k) 0
              let os':=s.robjs.map (Ji.up a)
              JgE (L.zip ((os'.take n).map (Ji.ren back)))
                (JcN (((List.range news.length).map (kb + ·)).zip ((os'.drop n).map (Ji.ren back))) (.ret ((s.res.up a).ren back)))
          else .fail
        else .fail
      | none=> .fail
    | _,_=> .fail
  else .fail
mutual
def JjE (look:Key→Option E):SV→List (E×E)
 | .o k l=>match look k with
  | some l'=>if l.lsame l' then [] else [(l,l')]
  | none=>[]
 | .g cs=>Ko look cs
 | .t cs=>Ko look cs
 | .f _ cs=>Ko look cs
 | _=>[]
def Ko (look:Key→Option E):List SV→List (E×E)
 | []=>[]
 | c::cs=>JjE look c++Ko look cs
end
mutual
def JbA (look:Key→Option E):SV→SV
 | .o k l=>match look k with
  | some l'=> .o k l'
  | none=> .o k l
 | .g cs=> .g (Ks look cs)
 | .t cs=> .t (Ks look cs)
 | .f fn cs=> .f fn (Ks look cs)
 | v=>v
def Ks (look:Key→Option E):List SV→List SV
 | []=>[]
 | c::cs=>JbA look c::Ks look cs
end
mutual
theorem Jnf (ρ:Env) (look:Key→Option E) :∀v:SV,(∀p∈JjE look v,(lst ρ p.1).length=(lst ρ p.2).length)→γX ρ (JbA look v)=γX ρ v
 | .o k l,h=>by
  simp only[JbA];simp only[JjE] at h;split
  ·rename_i l' hk;rw[hk] at h;simp only at h
   by_cases hl:l.lsame l'=true
   ·simp only[γX,lL1 hl ρ]
   ·rw[if_neg hl] at h;simp only[γX,h (l,l') (by simp)]
  ·rfl
 | .g cs,h=>by simp only[JbA,γX,Y7 ρ look cs h]
 | .t cs,h=>by simp only[JbA,γX,Y7 ρ look cs h]
 | .f _ cs,h=>by simp only[JbA,γX,Y7 ρ look cs h]
 | .e _ _ _ _,_=>rfl
 | .d _,_=>rfl
 | .p _ _,_=>rfl
 | .u,_=>rfl
theorem Y7 (ρ:Env) (look:Key→Option E) :∀cs:List SV,(∀p∈Ko look cs,(lst ρ p.1).length=(lst ρ p.2).length)→γXs ρ (Ks look cs)=γXs ρ cs
 | [],_=>rfl
 | c::cs,h=>by
  simp only[Ko,Jun] at h;simp only[Ks,γXs,Jnf ρ look c (fun p hp=>h p (.inl hp)),Y7 ρ look cs (fun p hp=>h p (.inr hp))]
end
def Jat {α:Type}:List (E×E)→SMP α→SMP α
 | [],c=>c
 | (l,l')::ps,c=> .ask (fun _=> .chk (.cmp .eq (.len l) (.len l'))) 0 fun _=>Jat ps c
theorem Vk {B:Tb} {ρ:Env} {α β:Type} {f:α→β} {c:SMP α} {q:MP β} :∀ps:List (E×E),((∀p∈ps,(lst ρ p.1).length=(lst ρ p.2).length)→c.Ok B ρ f q)→(Jat ps c).Ok B ρ f q
 | [],h=>h (by simp)
 | (l,l')::ps,h=>by
  intro n hn;refine Vk ps fun hp=>h fun p hm=>?_;rcases JuB.1 hm with rfl | hm
  ·have h:decide (((lst ρ l).length:Int)=((lst ρ l').length:Int))=true:=hn;have h:((lst ρ l).length:Int)=((lst ρ l').length:Int):=by simpa using h
   show (lst ρ l).length=(lst ρ l').length;omega
  ·exact hp p hm
mutual
def SV.flE:SV→Bool
 | .d (.vi _ _)=>true
 | .d (.vb _)=>true
 | .g cs=>Jpb cs
 | .t cs=>Jpb cs
 | .o _ _=>true
 | _=>false
def Jpb:List SV→Bool
 | []=>true
 | c::cs=>SV.flE c&&Jpb cs
end
mutual
theorem JnF (ρ:Env) :∀v:SV,v.flE=true→(γX ρ v).fl=true
 | .d e,h=>by cases e <;> simp[SV.flE] at h <;> simp[γX,X.fl,dat,den,V.dat,flat]
 | .g cs,h=>by simp only[γX,X.fl];exact Jg0 ρ cs (by simpa[SV.flE] using h)
 | .t cs,h=>by simp only[γX,X.fl];exact Jg0 ρ cs (by simpa[SV.flE] using h)
 | .o k l,_=>rfl
 | .p _ _,h=>by simp[SV.flE] at h
 | .e _ _ _ _,h=>by simp[SV.flE] at h
 | .f _ _,h=>by simp[SV.flE] at h
 | .u,h=>by simp[SV.flE] at h
theorem Jg0 (ρ:Env) :∀vs:List SV,Jpb vs=true→Jkj (γXs ρ vs)=true
 | [],_=>rfl
 | v::vs,h=>by
  simp only[Jpb,Jui] at h;simp only[γXs,Jkj,JnF ρ v h.1,Jg0 ρ vs h.2,Bool.and_self]
end
def Ji.deepen:Ji→Ji
 | .arr ty sz l _ rw=> .arr ty sz l true rw
 | o=>o
theorem JlN (ρ:Env) (o:Ji):γO ρ o.deepen=(γO ρ o).deepen:=by cases o <;> rfl
theorem JgT (o:Ji):o.deepen.names=o.names:=by cases o <;> rfl
theorem Jm3 (n:Nat) (o:Ji):(o.up n).deepen=(o.deepen).up n:=by cases o <;> rfl
def Jhu {α:Type}:List Ji→SMP α→SMP α
 | [],c=>c
 | .arr _ _ l dp rw::os,c=>if rw then(if dp then Jhu os c else .ask (fun _=> .fl l) 0 fun _=>Jhu os c) else .fail
 | _::_,_=> .fail
theorem Jes {α β:Type} {f:α→β} {q:MP β} {c:SMP α} :∀(os:List Ji),((∀o∈os,Kz (some (γO ρ o))=true)→c.Ok B ρ f q)→(Jhu os c).Ok B ρ f q
 | [],h=>h (fun _ h=>by simp at h)
 | .arr ty sz l dp rw::os,h=>by
  simp only[Jhu];cases rw with
  | false=>trivial
  | true =>
   simp only[if_true];cases dp with
   | true =>
    simp only[if_true];refine Jes os fun ho=>h fun o hm=>?_;rcases JuB.1 hm with rfl | hm
    ·simp[γO,Kz]
    ·exact ho o hm
   | false =>
    simp only[Juy,if_false];intro n hn;simp only[I.holds] at hn;refine Jes os fun ho=>h fun o hm=>?_;rcases JuB.1 hm with rfl | hm
    ·simp[γO,Kz,hn]
    ·exact ho o hm
 | .box _::_,_=>trivial
 | .dead::_,_=>trivial
def Jbe (s:Q3) (f:FuncId) (kb:Key) (xs:List SV):SMP SV :=
 match mv.mvs s.args xs,s.objs with
 | some ps,[]=>match Jjt 0 ps with
  | some bs=>if JbJ bs&&Jh2 s.ins bs 0 then
    let news:=Yv [] (s.res.names.filter fun k=>decide (0≤k))
    if news == List.range s.robjs.length&&(s.res.names++s.robjs.flatMap Ji.names).all news.contains&&Nat.ble news.length 16&&s.res.flE then
     .ask (fun a=> .call f (JnZ s.ins bs 0) s.outs a) s.outs.length fun a =>
      let back:=fun k=>((List.range news.length).map (kb + ·)).getD (at? news k) 0
      let os':=s.robjs.map (Ji.up a)
      Jhu os' (JcN (((List.range news.length).map (kb + ·)).zip ((os'.map Ji.deepen).map (Ji.ren back))) (.ret ((s.res.up a).ren back)))
    else .fail
   else .fail
  | none=> .fail
 | _,_=> .fail
def Jky (s:Q3) (f:FuncId) (kb:Key) (xs0:List SV):SMP SV :=
 if Jh5 xs0 then
  let xs:=JhC xs0
  let ks:=Yv [] (Yc xs)
  VI ks fun os=>let L:=Yv ks (os.flatMap Ji.names);VI L fun os=>Jat (Ko (holds? (L.zip os)) xs) (VU s f kb (Ks (holds? (L.zip os)) xs) L os)
 else .fail
def JgK (s:Q3) (f:FuncId) (kb:Key) (xs:List SV):SMP SV :=
 let ks:=Yv [] (Yc xs)
 VI ks fun os=>let L:=Yv ks (os.flatMap Ji.names);VI L fun os=>Jat (Ko (holds? (L.zip os)) xs) (VU s f kb (Ks (holds? (L.zip os)) xs) L os)
theorem Qz (ρ:Env) :∀os:List Ji,(os.map (γO ρ)).flatMap Obj.names=os.flatMap Ji.names
 | []=>rfl
 | o::os=>by simp only[Juq,List.flatMap_cons,JfS,Qz ρ os]
theorem Jc3 {α:Type} (f:Key→Option α) (l:List α) (h :∀i,f i=l[i]?):(List.range l.length).mapM f=some l:=by
 have key :∀(n a:Nat),a+n=l.length→(List.range' a n).mapM f=some (l.drop a):=by
  intro n
  induction n with
  | zero=>intro a ha;simp at ha;subst ha;simp
  | succ n ih =>
   intro a ha;have hlt:a<l.length:=by omega
   rw[List.range'_succ,List.mapM_cons,h a,Jut hlt,ih (a+1) (by omega),List.drop_eq_getElem_cons hlt];rfl
 rw[List.range_eq_range'];have:=key l.length 0 (by omega);simpa using this
theorem VB {α:Type} (l:List Key) (os:List α) {β:Type} (g:α→β):(l.zip os).map (fun p=>(p.1,g p.2))=l.zip (os.map g):=by
 rw[List.zip_map_right];rfl
theorem Jhv {m:Mem} (os:List Obj) (n:Nat) (h :∀i,m i=os[i]?):YH m n=(os.take n).flatMap Obj.names:=by
 induction n with
 | zero=>simp[YH]
 | succ n ih =>
  unfold YH at ih ⊢;rw[List.range_succ,List.flatMap_append,ih,List.take_add_one,List.flatMap_append];simp only[List.flatMap_cons,List.flatMap_nil,List.append_nil,h n];cases os[n]? <;> simp
theorem JaV {s:Q3} (hs:s.ok=true) (f:FuncId) (kb:Key) (xs:List SV) (L:List Key) (os:List Ji) :
  (VU s f kb xs L os).Ok B ρ (γX ρ) (ZW (YM s (B.call f)) kb (γXs ρ xs) L (os.map (γO ρ))):=by
 unfold VU;split
 ·rename_i hclo;split
  ·rename_i ps qs hps hqs
   ·split
    ·rename_i bs hbs;split
     ·rename_i hc;simp only[Jui] at hc;simp only;split
      ·rename_i hall;simp only[Jui] at hall;obtain⟨⟨hall1,hall2⟩,hlen⟩:=hall;have hall1:List.range L.length++Yv [] ((s.res.names++(s.robjs.take L.length).flatMap Ji.names).filter fun k=>L.length≤k)=List.range s.robjs.length:=by simpa using hall1
       intro a hcall;simp only[I.holds] at hcall;have hargs:γXs (YJ 0 ρ bs) s.args=Vv (at? L) (γXs ρ xs):=by
        rw[←Ze ρ (holds? (L.zip os)) xs,VQ];exact Wy _ _ _ hps fun q hq=>JgR hbs hc.1 (by simp[hq])
       have hobjs:s.objs.map (γO (YJ 0 ρ bs))=(os.map (γO ρ)).map (Obj.ren (at? L)):=by
        rw[JoK _ _ _ hqs fun q hq=>JgR hbs hc.1 (by simp[hq])];simp only[List.map_map];exact JuE fun o _=>by simp only[Function.comp];rw[←Jan,JfF]
       have hF:B.call f ((Jz s.ins 0).map (dat (YJ 0 ρ bs)))=some ((Jz s.outs 0).map (dat fun j=>ρ (a+j))):=by
        rw[←Jgv _ _ _ hc.2,hcall]
        congr 1
        exact JdH ρ s.outs a 0
       have hspec:=Jae hs (F:=B.call f) ⟨YJ 0 ρ bs,fun j=>ρ (a+j),hargs.symm,hobjs.symm,hF,rfl⟩;unfold ZW;rw[Yw,Qz,if_pos hclo,hspec];simp only[K9];have hm1 :∀i,γm (fun j=>ρ (a+j)) (ZD 0 s.robjs) i=(s.robjs.map (γO fun j=>ρ (a+j)))[i]?:=by
        intro i;simp only[γm,Zj,Nat.zero_le,if_true,Nat.sub_zero,JuD]
       have hbn:YH (γm (fun j=>ρ (a+j)) (ZD 0 s.robjs)) L.length=(s.robjs.take L.length).flatMap Ji.names:=by rw[Jhv _ _ hm1,←List.map_take,Qz]
       rw[hbn];have hmap:(List.range L.length++Yv [] ((s.res.names++(s.robjs.take L.length).flatMap Ji.names).filter fun k=>decide (L.length≤k))).mapM (γm (fun j=>ρ (a+j)) (ZD 0 s.robjs))=some (s.robjs.map (γO fun j=>ρ (a+j))):=by
        rw[hall1,←Jc3 _ _ hm1,Jur]
       rw[hmap];simp only[Qz];have hlen':(Yv [] ((s.res.names++(s.robjs.take L.length).flatMap Ji.names).filter fun k=>decide (L.length≤k))).length≤16:=Nat.le_of_ble_eq_true hlen;rw[if_pos (by rw[Jui];exact⟨hall2,by simpa using hlen'⟩)];have hren :∀(back:Key→Key) (l:List Ji),(l.map (γO fun j=>ρ (a+j))).map (Obj.ren back)=((l.map (Ji.up a)).map (Ji.ren back)).map (γO ρ):=by
        intro back l;simp only[List.map_map];exact JuE fun o _=>by simp only[Function.comp,←Jan,Ji.up_ok]
       simp only[←List.map_take,←List.map_drop];rw[hren,hren,←VB _ _ (γO ρ),←VB _ _ (γO ρ)];refine Jd6 _ _ _ (Wu _ _ _ ?_);simp only[SMP.Ok,←Jd1,SV.up_ok]
      ·trivial
     ·trivial
    ·trivial
  ·trivial
 ·trivial
theorem Jl7 {s:Q3} (hs:s.ok=true) (f:FuncId) (kb:Key) (xs:List SV):(Jky s f kb xs).Ok B ρ (γX ρ) (JkQ (YM s (B.call f)) kb (γXs ρ xs)):=by
 unfold Jky JkQ Wx;split
 ·rename_i ho;rw[JdJ ρ xs ho];simp only[Yw];refine Kl _ _ _ fun os=>?_;simp only[Qz];refine Kl _ _ _ fun os=>Vk _ fun hp=>?_;rw[←Y7 ρ _ _ hp];exact JaV hs f kb _ _ _
 ·trivial
theorem JkJ {s:Q3} (hs:s.ok=true) (f:FuncId) (kb:Key) (xs:List SV):(JgK s f kb xs).Ok B ρ (γX ρ) (Wx (YM s (B.call f)) kb (γXs ρ xs)):=by
 unfold JgK Wx;simp only[Yw];refine Kl _ _ _ fun os=>?_;simp only[Qz];refine Kl _ _ _ fun os=>Vk _ fun hp=>?_;rw[←Y7 ρ _ _ hp];exact JaV hs f kb _ _ _
theorem JgD {s:Q3} (hs:s.ok=true) (f:FuncId) (kb:Key) (xs:List SV) (ds:List D) (hds:ds.map X.ofD1=γXs ρ xs) :
  (Jbe s f kb xs).Ok B ρ (γX ρ) (Vb (YM s (B.call f)) kb ds):=by
 unfold Jbe;split
 ·rename_i ps hps hobjs0;split
  ·rename_i bs hbs;split
   ·rename_i hc;simp only[Jui] at hc;simp only;split
    ·rename_i hall;simp only[Jui] at hall;obtain⟨⟨⟨hall1,hall2⟩,hlen⟩,hfl⟩:=hall;have hall1:Yv [] (s.res.names.filter fun k=>decide (0≤k))=List.range s.robjs.length:=by simpa using hall1
     intro a hcall;simp only[I.holds] at hcall;refine Jes _ fun hflat=>?_;have hargs:γXs (YJ 0 ρ bs) s.args=γXs ρ xs:=Wy _ _ _ hps fun q hq=>JgR hbs hc.1 hq;have hF:B.call f ((Jz s.ins 0).map (dat (YJ 0 ρ bs)))=some ((Jz s.outs 0).map (dat fun j=>ρ (a+j))):=by
      rw[←Jgv _ _ _ hc.2,hcall]
      congr 1
      exact JdH ρ s.outs a 0
     have hspec:=Jae hs (F:=B.call f) (xs:=γXs ρ xs) (os:=[]) ⟨YJ 0 ρ bs,fun j=>ρ (a+j),hargs.symm,by rw[hobjs0];rfl,hF,rfl⟩;have hm1 :∀i,γm (fun j=>ρ (a+j)) (ZD 0 s.robjs) i=(s.robjs.map (γO fun j=>ρ (a+j)))[i]?:=by
      intro i;simp only[γm,Zj,Nat.zero_le,if_true,Nat.sub_zero,JuD]
     have hmemn :∀k,k∈s.res.names↔k<s.robjs.length:=by
      intro k;have:k∈Yv [] (s.res.names.filter fun k=>decide (0≤k))↔k∈s.res.names:=by rw[JaC];simp
      rw[←this,hall1,List.mem_range]
     have hfo :∀k∈s.res.names,Kz (γm (fun j=>ρ (a+j)) (ZD 0 s.robjs) k)=true:=by
      intro k hk;rw[hm1,JuD];have hlt:=(hmemn k).1 hk;rw[Jut hlt,Juk];have:=hflat (Ji.up a s.robjs[k]) (List.mem_map_of_mem (List.getElem_mem hlt));rw[Ji.up_ok] at this;exact this
     have hfS:JlE (YM s (B.call f)) (ds.map X.ofD1)=some (γX (fun j=>ρ (a+j)) s.res,fun k=>if s.res.names.contains k then(γm (fun j=>ρ (a+j)) (ZD 0 s.robjs) k).map Obj.deepen else none):=by
      unfold JlE;rw[hds,hspec];simp only[K9];rw[if_pos];rw[Jui];exact⟨JnF _ _ hfl,Juv.2 hfo⟩
     unfold Vb ZW;rw[hfS];simp only[K9,Qp,YH,List.flatMap_nil,List.append_nil,List.all_nil,if_true,List.length_nil,List.range_zero,List.nil_append];have hm2 :∀i,(fun k=>if s.res.names.contains k then(γm (fun j=>ρ (a+j)) (ZD 0 s.robjs) k).map Obj.deepen else none) i=((s.robjs.map Ji.deepen).map (γO fun j=>ρ (a+j)))[i]?:=by
      intro i;simp only;split
      ·rw[hm1 i,JuD,JuD,JuD];cases s.robjs[i]? with
       | none=>rfl
       | some o=>simp only[Juk,JlN]
      ·rename_i hn;have : ¬i<s.robjs.length:=fun h=>hn (List.contains_iff_mem.2 ((hmemn i).2 h));rw[JuF (by simpa using this)]
     have hmap:(Yv [] (s.res.names.filter fun k=>decide (0≤k))).mapM (fun k=>if s.res.names.contains k then(γm (fun j=>ρ (a+j)) (ZD 0 s.robjs) k).map Obj.deepen else none)=some ((s.robjs.map Ji.deepen).map (γO fun j=>ρ (a+j))):=by
      rw[hall1,←Jc3 _ _ hm2,Jur,Jur]
     rw[hmap];have hdn:(s.robjs.map Ji.deepen).flatMap Ji.names=s.robjs.flatMap Ji.names:=by
      rw[List.flatMap_map]
      congr 1
      funext o
      exact JgT o
     simp only[Qz,hdn];have hlen':(Yv [] (s.res.names.filter fun k=>decide (0≤k))).length≤16:=Nat.le_of_ble_eq_true hlen;rw[if_pos (by rw[Jui];exact⟨hall2,by simpa using hlen'⟩)];have hren :∀(back:Key→Key) (l:List Ji),(l.map (γO fun j=>ρ (a+j))).map (Obj.ren back)=((l.map (Ji.up a)).map (Ji.ren back)).map (γO ρ):=by
      intro back l;simp only[List.map_map];exact JuE fun o _=>by simp only[Function.comp,←Jan,Ji.up_ok]
     simp only[List.zip_nil_left,Jdb,List.drop_zero];have hdu:(s.robjs.map Ji.deepen).map (Ji.up a)=(s.robjs.map (Ji.up a)).map Ji.deepen:=by
      rw[List.map_map,List.map_map];exact JuE fun o _=>(Jm3 a o).symm
     rw[hren,hdu,←VB _ _ (γO ρ)];refine Wu _ _ _ ?_;simp only[SMP.Ok,←Jd1,SV.up_ok]
    ·trivial
   ·trivial
  ·trivial
 ·trivial
end
end Go.Tm
end
section
namespace Go.Tm
open Go.IntKind (i64)
def Sh.ar:Sh→Option Nat
 | .g as=>some as.length
 | _=>none
def JqX (s:JjC):Option (List (Option Nat)) :=
 if s.flat&&s.pars.all noQ&&Nat.ble s.pars.length 30 then match s.res with
  | .one (.one _)=>some (s.pars.map Sh.ar)
  | _=>none
 else none
def JiP:Sig→Bool
 | .d s=>s.res.ok&&(!s.flat||s.res.leaves.all VN)
 | .x s=>s.ok
def Jqq:SV→Bool
 | .d _=>true
 | .g cs=>cs.all fun | .d _=>true | _=>false
 | _=>false
def Q3.mask (s:Q3):List Bool:=s.args.map Jqq
def Jra:SV→List Bool
 | .g cs=>if cs.any (fun | .o _ _=>true | _=>false) then cs.map fun | .d (.s _)=>true | _=>false else []
 | _=>[]
def Q3.gmask (s:Q3):List (List Bool):=s.args.map Jra
def Jju:SV→Bool
 | .d (.vc (.slice none 0 0))=>true
 | _=>false
def Q3.raw (s:Q3):Bool:=s.args.any Jju
noncomputable def X7 (sg:FuncId→Option Sig) (B:Tb):Tab where
 fns f:=match sg f with
  | some (.d s)=>some { F:=dspec s (B.call f),flat:=s.flat }
  | _=>none
 xfns f:=match sg f with
  | some (.x s)=>some (YM s (B.call f))
  | _=>none
 xmask f:=match sg f with
  | some (.x s)=>s.mask
  | _=>[]
 xgmask f:=match sg f with
  | some (.x s)=>s.gmask
  | _=>[]
 xraw f:=match sg f with
  | some (.x s)=>s.raw
  | _=>false
 xflat f:=match sg f with
  | some (.x s)=>s.flat
  | _=>false
structure BOk (sg:FuncId→Option Sig) (B:Tb):Prop where
 sig :∀f s,sg f=some s→JiP s=true
 ar :∀f a,B.ar f=some a→∃ s,sg f=some (.d s)∧JqX s=some a
def JkU (s:JjC) (f:FuncId) (es:List E):SMP SV:=match JD s.pars es with
 | some ls=> .ask (fun n=> .call f ls s.res.leaves n) s.res.leaves.length fun n=> .ret (s.res.sv n)
 | none=> .fail
def ofE:E→Option SV
 | .g l=>match l.list with
  | some cs=>some (.g (cs.map .d))
  | none=>none
 | e=>if e.isOne then some (.d e) else none
def Y6:List Bool→List SV→SMP (List SV)
 | b::bs,x::xs=>if b then(Jfv x).bind fun e=>match ofE e with
   | some v=>(Y6 bs xs).bind fun ys=> .ret (v::ys)
   | none=> .fail
  else(Y6 bs xs).bind fun ys=> .ret (x::ys)
 | _,xs=> .ret xs
def JgL (bs:List Bool):SV→SMP SV
 | .g cs=>(Y6 bs cs).bind fun ds=> .ret (.g ds)
 | x=> .ret x
def Uv:List (List Bool)→List SV→SMP (List SV)
 | bs::bss,x::xs=>(JgL bs x).bind fun y=>(Uv bss xs).bind fun ys=> .ret (y::ys)
 | _,xs=> .ret xs
def Ji.shal:Ji→Ji
 | .arr ty sz l _ rw=> .arr ty sz l false rw
 | o=>o
def Q3.shal (s:Q3):Q3:={ s with robjs:=s.robjs.take s.objs.length++(s.robjs.drop s.objs.length).map Ji.shal }
def Q3.by (s:Q3) (dp:Bool):Q3:=if dp then s else s.shal
def JjT (sg:FuncId→Option Sig) (dp bo:Bool) (kb:Key) (f:FuncId) (args:List SV):SMP SV:=match sg f with
 | some (.d s)=>if s.flat then(Jcv.spurs 40 args).bind fun es=>JkU s f es else(Jbs args).bind fun es=>JkU s f es
 | some (.x s)=>if s.flat||bo then(Jcv.spurs 40 args).bind fun es=>match es.mapM ofE with
   | some xs=>Jbe s f kb xs
   | none=> .fail
  else if s.raw then JgK (s.by dp) f kb args else(Y6 s.mask args).bind fun xs=>(Uv s.gmask xs).bind fun xs=>Jky (s.by dp) f kb xs
 | none=> .fail
def arE:E→Option Nat
 | .g l=>match l.list with
  | some cs=>some cs.length
  | none=>none
 | _=>none
def Vo:List E→Option (List E)
 | []=>some []
 | .g l::es=>match l.list with
  | some cs=>(Vo es).map (cs ++ ·)
  | none=>none
 | e::es=>(Vo es).map (e :: ·)
def VE:SV→Option E
 | .d e=>if e.isOne then some e.norm else none
 | .g cs=>if Nat.ble cs.length 20 then(cells cs).map fun l=> .g (J5 l) else none
 | _=>none
where
 cells:List SV→Option (List E)
  | []=>some []
  | .d e::cs=>if e.isOne then(cells cs).map (e.norm :: ·) else none
  | _=>none
def WA:List SV→Option (List E)
 | []=>some []
 | v::vs=>match VE v with
  | some e=>(WA vs).map (e :: ·)
  | none=>none
def Jo4 (n0:Nat) (args:List SV) (rs:Sh1):SMP SV :=
 if VN rs&&Nat.ble args.length 8 then match WA args with
  | some es=>match Vo es with
   | some ls=> .ask (fun n=> .callv (.da n0) ls (es.map arE) [rs] n) 1 fun n=> .ret (.d (rs.expr n))
   | none=> .fail
  | none=> .fail
 else .fail
section
variable {B:Tb} {ρ:Env} {sg:FuncId→Option Sig} {P:Program} {G:Qb}
theorem JbY :∀(n:Nat) (xs ys:List X),xs.length≤n→pur.purs n (xs++ys)=(pur.purs n xs).bind fun ds=>(pur.purs (n-xs.length) ys).bind fun es=> .ret (ds++es)
 | n,[],ys,_=>by
  have h1:pur.purs n ([]:List X) = .ret []:=by cases n <;> rfl
  rw[List.nil_append,h1];show _=(pur.purs n ys).bind fun es=> .ret es;generalize pur.purs n ys=p
  induction p with
  | ret a=>rfl
  | fail=>rfl
  | get k c ih=>simp only[MP.bind];congr 1;funext o;exact ih o
  | put k o c ih=>simp only[MP.bind];rw[←ih]
  | new k o c ih=>simp only[MP.bind];rw[←ih]
 | 0,x::xs,ys,h=>by simp at h
 | n+1,x::xs,ys,h=>by
  have ih:=JbY n xs ys (by simpa using h);have assoc :∀{α β γ:Type} (p:MP α) (f:α→MP β) (g:β→MP γ),(p.bind f).bind g=p.bind fun a=>(f a).bind g:=by
   intro α β γ p f g
   induction p with
   | ret a=>rfl
   | fail=>rfl
   | get k c ih=>simp only[MP.bind];congr 1;funext o;exact ih o
   | put k o c ih=>simp only[MP.bind];rw[ih]
   | new k o c ih=>simp only[MP.bind];rw[ih]
  show (pur n x).bind (fun d=>(pur.purs n (xs++ys)).bind fun ds=> .ret (d::ds))=((pur n x).bind fun d=>(pur.purs n xs).bind fun ds=> .ret (d::ds)).bind _;rw[ih];simp only[assoc,MP.bind,List.length_cons,Nat.add_sub_add_right,List.cons_append]
theorem JfL :∀(n:Nat) (ds:List D),ds.length<n→pur.purs n (ds.map X.d) = .ret (ds.map D.norm)
 | 0,ds,h=>by omega
 | n+1,[],h=>rfl
 | n+1,d::ds,h=>by
  show (pur n (.d d)).bind (fun d=>(pur.purs n (ds.map X.d)).bind fun ds=> .ret (d::ds))=_;have hlt:ds.length<n:=by simpa using h
  obtain⟨k,rfl⟩ : ∃ k,n=k+1:=⟨n-1,by omega⟩;rw[JfL (k+1) ds hlt];rfl
theorem JhA {s:JjC} (hs:JiP (.d s)=true) (f:FuncId) (es:List E) (fl:Bool) (hfl:fl=true→s.flat=true):(JkU s f es).Ok B ρ (γX ρ)
  (match dspec s (B.call f) (fEs ρ es) with
   | some r=>if fl then(if flat r then .ret (X.ofD r) else .fail) else .ret (X.ofD r)
   | none=> .fail):=by
 unfold JkU;cases hf:JD s.pars es with
 | none=>trivial
 | some ls =>
  intro n hn;simp only[I.holds] at hn;simp only[JiP,Jui] at hs;obtain⟨d,h1,h2⟩:=JmI ρ s.res n hs.1;have hd:dspec s (B.call f) (fEs ρ es)=some d:=by
   unfold dspec fEs;rw[UT ρ _ _ _ hf,Juw,hn,Juw,h1]
  rw[hd];simp only[SMP.Ok,←h2];cases fl with
  | false=>rfl
  | true =>
   have hpl:s.res.leaves.all VN=true:=by simpa[hfl rfl] using hs.2
   have:=Jip h1 (JcY ρ _ _ hpl);simp only[this,if_true]
theorem Jo2 {e:E} {v:SV} (h:ofE e=some v) (ρ:Env):X.ofD1 (dat ρ e)=γX ρ v:=by
 unfold ofE at h;split at h
 ·rename_i l;split at h
  ·rename_i cs hl;simp only[Juh] at h;subst h;show X.g ((lst ρ l).map .d)=X.g (γXs ρ (cs.map .d));rw[YU ρ _ _ hl,Jx,VK]
  ·cases h
 ·split at h
  ·rename_i ho;simp only[Juh] at h;subst h;rw[Jhz (J6 ho ρ)];rfl
  ·cases h
theorem Zu :∀(bs:List Bool) (xs:List SV),(Y6 bs xs).Ok B ρ (γXs ρ) (XP bs (xs.map (γX ρ)))
 | [],xs=>by
  cases xs <;> simp only[Y6,XP,List.map_nil,SMP.Ok,Jx]
 | _::_,[]=>rfl
 | b::bs,x::xs=>by
  simp only[Y6,XP,Juq];cases b with
  | true =>
   simp only[if_true];refine SMP.bind_ok (f:=dat ρ) (fun e=>?_) _ _ (Jjf x);cases he:ofE e with
   | none=>trivial
   | some v =>
    simp only[Jo2 he ρ];refine SMP.bind_ok (f:=γXs ρ) (fun ys=>?_) _ _ (Zu bs xs);rfl
  | false =>
   simp only[Juy,if_false];refine SMP.bind_ok (f:=γXs ρ) (fun ys=>?_) _ _ (Zu bs xs);rfl
theorem JjG (bs:List Bool) (x:SV):(JgL bs x).Ok B ρ (γX ρ) (Jbj bs (γX ρ x)):=by
 cases x with
 | g cs =>
  simp only[JgL,γX,Jbj];have h:=Zu (B:=B) (ρ:=ρ) bs cs;rw[←Jx] at h;refine SMP.bind_ok (f:=γXs ρ) (fun ds=>?_) _ _ h;rfl
 | _=>rfl
theorem Wg :∀(bs:List (List Bool)) (xs:List SV),(Uv bs xs).Ok B ρ (γXs ρ) (YD bs (γXs ρ xs))
 | [],xs=>by
  cases xs <;> rfl
 | _::_,[]=>rfl
 | b::bs,x::xs=>by
  simp only[Uv,γXs,YD];refine SMP.bind_ok (f:=γX ρ) (fun y=>?_) _ _ (JjG b x);refine SMP.bind_ok (f:=γXs ρ) (fun ys=>?_) _ _ (Wg bs xs);rfl
theorem Jle :∀(es:List E) (xs:List SV),es.mapM ofE=some xs→(fEs ρ es).map X.ofD1=γXs ρ xs
 | [],xs,h=>by
  simp at h;subst h;rfl
 | e::es,xs,h=>by
  simp only[List.mapM_cons,Option.bind_eq_bind] at h;cases he:ofE e with
  | none=>rw[he] at h;cases h
  | some v =>
   cases hr:es.mapM ofE with
   | none=>rw[he,hr] at h;cases h
   | some vs =>
    rw[he,hr] at h;simp only[Juw,pure,Juh] at h;subst h;show X.ofD1 (dat ρ e)::(fEs ρ es).map X.ofD1=γX ρ v::γXs ρ vs;rw[Jo2 he ρ,Jle es vs hr]
theorem JnU (o:Ji):o.shal.lv2=o.lv2:=by cases o <;> rfl
theorem JkR {s:Q3} (h:s.ok=true):s.shal.ok=true:=by
 unfold Q3.ok Q3.shal at *;have e:(s.robjs.take s.objs.length++(s.robjs.drop s.objs.length).map Ji.shal).flatMap Ji.lv2=s.robjs.flatMap Ji.lv2:=by
  conv=>rhs;rw[←List.take_append_drop s.objs.length s.robjs]
  rw[List.flatMap_append,List.flatMap_append,List.flatMap_map];simp only[JnU]
 simp only[e];exact h
theorem Jni {s:Q3} {ρ2:Env}:γm ρ2 (ZD 0 s.shal.robjs)=fun k=>if k<s.objs.length then γm ρ2 (ZD 0 s.robjs) k else(γm ρ2 (ZD 0 s.robjs) k).map Obj.shal:=by
 refine funext fun(k:Nat)=>?_;simp only[γm,Zj,Nat.zero_le,if_true,Nat.sub_zero,Q3.shal];have hs :∀o:Ji,γO ρ2 o.shal=(γO ρ2 o).shal:=fun o=>by cases o <;> rfl
 split
 ·rename_i hk
  by_cases hl:k<s.robjs.length
  ·rw[JuJ (by rw[Jux];omega),JuI hk]
  ·rw[JuF (l:=s.robjs) (by omega),JuF (by rw[Juo,Jux,Jur,List.length_drop];omega)]
 ·rename_i hk
  by_cases hl:s.objs.length≤s.robjs.length
  ·rw[JuK (by rw[Jux];omega),JuD,List.getElem?_drop,Jux,Nat.min_eq_left hl,show s.objs.length+(k-s.objs.length)=k by omega];cases s.robjs[k]? with
   | none=>rfl
   | some o=>simp[hs]
  ·rw[JuF (l:=s.robjs) (by omega),JuF (by rw[Juo,Jux,Jur,List.length_drop];omega)];rfl
theorem JmV {s:Q3} (h:s.ok=true) (F:List D→Option (List D)):Jd0 (YM s F)=YM s.shal F:=by
 funext xs os
 unfold Jd0;cases h0:YM s F xs os with
 | some r =>
  have hr:=V3 h0;have hr2:s.shal.rel F xs os (r.1,fun k=>if k<os.length then r.2 k else(r.2 k).map Obj.shal):=by
   obtain⟨ρ1,ρ2,h1,h2,h3,rfl⟩:=hr;refine⟨ρ1,ρ2,h1,h2,h3,?_⟩;rw[Jni,h2,Jur];rfl
  rw[Jae (JkR h) hr2];rfl
 | none =>
  cases h1:YM s.shal F xs os with
  | none=>rfl
  | some r =>
   obtain⟨ρ1,ρ2,a1,a2,a3,a4⟩:=V3 h1;have hr:s.rel F xs os (γX ρ2 s.res,γm ρ2 (ZD 0 s.robjs)):=⟨ρ1,ρ2,a1,a2,a3,rfl⟩;rw[Jae h hr] at h0;cases h0
theorem Jqe {s:Q3} (h:s.ok=true) (dp:Bool):(s.by dp).ok=true:=by
 cases dp
 ·exact JkR h
 ·exact h
theorem JlD {s:Q3} (h:s.ok=true) (dp:Bool) (F:List D→Option (List D)):(if dp=true then YM s F else Jd0 (YM s F))=YM (s.by dp) F:=by
 cases dp
 ·exact JmV h F
 ·rfl
theorem Jmu (hB:BOk sg B) (o:Oper) (f:FuncId) (args:List SV):(JjT sg (G.dp o) (G.bo o) (Jy o) f args).Ok B ρ (γX ρ) (Jad (X7 sg B) G o f (args.map (γX ρ))):=by
 unfold JjT Jad X7;simp only;cases hf:sg f with
 | none=>trivial
 | some s =>
  cases s with
  | d s =>
   simp only;split
   ·rename_i hfl;simp only[JaD];refine SMP.bind_ok (f:=fEs ρ) (fun es=>?_) _ _ (Kf 40 args);exact JhA (hB.sig f _ hf) f es true (fun _=>hfl)
   ·refine SMP.bind_ok (f:=fEs ρ) (fun es=>?_) _ _ (VY args);exact JhA (hB.sig f _ hf) f es false (fun h=>by cases h)
  | x s =>
   simp only;split
   ·simp only[JaD];refine SMP.bind_ok (f:=fEs ρ) (fun es=>?_) _ _ (Kf 40 args);cases he:es.mapM ofE with
    | none=>trivial
    | some xs=>exact JgD (hB.sig f _ hf) f (Jy o) xs _ (Jle es xs he)
   split
   ·rw[←Jx,JlD (hB.sig f _ hf)];exact JkJ (Jqe (hB.sig f _ hf) _) f (Jy o) args
   ·rw[JlD (hB.sig f _ hf)];exact SMP.bind_ok (f:=γXs ρ) (fun xs=>SMP.bind_ok (f:=γXs ρ) (fun xs=>Jl7 (Jqe (hB.sig f _ hf) _) f (Jy o) xs) _ _ (Wg _ xs)) _ _ (Zu _ args)
theorem Jh0 :∀(es ls:List E) (ss:List Sh) (caps:List D),Vo es=some ls→ss.map Sh.ar=es.map arE++caps.map (fun _=>none)→ss.all noQ=true →
  Jr ss (es.map (dat ρ)++caps)=some (ls.map (dat ρ)++caps)
 | [],ls,ss,caps,h,hs,hq=>by
  simp only[Vo,Juh] at h;subst h;simp only[List.map_nil,List.nil_append] at hs ⊢
  induction caps generalizing ss with
  | nil=>simp at hs;subst hs;rfl
  | cons c caps ih =>
   cases ss with
   | nil=>simp at hs
   | cons s ss =>
    simp only[Juq,List.cons.injEq] at hs;simp only[List.all_cons,Jui] at hq;cases s with
    | g as=>simp[Sh.ar] at hs
    | q as=>simp[noQ] at hq
    | one a=>simp only[Jr,ih ss hq.2 hs.2,Juk]
 | e::es,ls,ss,caps,h,hs,hq=>by
  cases ss with
  | nil=>simp at hs
  | cons s ss =>
   simp only[Juq,List.cons_append,List.cons.injEq] at hs;simp only[List.all_cons,Jui] at hq;have rest :∀ls',Vo es=some ls'→Jr ss (es.map (dat ρ)++caps)=some (ls'.map (dat ρ)++caps):=fun ls' h=>Jh0 es ls' ss caps h hs.2 hq.2;have one:arE e=none→(Vo es).map (e :: ·)=some ls→Jr (s::ss) ((e::es).map (dat ρ)++caps)=some (ls.map (dat ρ)++caps):=by
    intro ha h;cases hr:Vo es with
    | none=>simp[hr] at h
    | some ls' =>
     simp only[hr,Juk,Juh] at h;subst h;cases s with
     | g as=>rw[ha] at hs;simp[Sh.ar] at hs
     | q as=>simp[noQ] at hq
     | one a=>simp only[Juq,List.cons_append,Jr,rest ls' hr,Juk]
   cases e with
   | g l =>
    simp only[Vo] at h;split at h
    ·rename_i cs hl;cases hr:Vo es with
     | none=>simp[hr] at h
     | some ls' =>
      simp only[hr,Juk,Juh] at h;subst h;simp only[arE,hl] at hs;cases s with
      | one a=>simp[Sh.ar] at hs
      | q as=>simp[noQ] at hq
      | g as =>
       simp only[Sh.ar,Juh] at hs;show Jr (.g as::ss) (D.g (lst ρ l)::(es.map (dat ρ)++caps))=_;simp only[Jr,YU ρ _ _ hl,Jur,hs.1,if_true,rest ls' hr,Juk,List.map_append,List.append_assoc]
    ·cases h
   | _=>exact one rfl h
theorem Jda :∀(cs:List SV) (l:List E) (n:Nat),VE.cells cs=some l→cs.length<n→pur.purs n (cs.map (γX ρ)) = .ret (l.map (dat ρ))
 | [],l,n,h,hn=>by
  simp only[VE.cells,Juh] at h;subst h;cases n <;> rfl
 | c::cs,l,0,h,hn=>by simp at hn
 | c::cs,l,n+1,h,hn=>by
  cases c with
  | d e =>
   simp only[VE.cells] at h;split at h
   ·rename_i ho;cases hr:VE.cells cs with
    | none=>simp[hr] at h
    | some l' =>
     simp only[hr,Juk,Juh] at h;subst h;have hlt:cs.length<n:=by simpa using hn
     obtain⟨k,rfl⟩ : ∃ k,n=k+1:=⟨n-1,by omega⟩;show (pur (k+1) (X.d (dat ρ e))).bind (fun d=>(pur.purs (k+1) (cs.map (γX ρ))).bind fun ds=> .ret (d::ds))=_;rw[Jda cs l' (k+1) hr hlt];simp only[pur,MP.bind,Juq,Zk ho]
   ·cases h
  | _=>simp[VE.cells] at h
theorem JnA {v:SV} {e:E} {n:Nat} (h:VE v=some e) (hn:22≤n):pur n (γX ρ v) = .ret (dat ρ e):=by
 obtain⟨k,rfl⟩ : ∃ k,n=k+1:=⟨n-1,by omega⟩;cases v with
 | d e' =>
  simp only[VE] at h;split at h
  ·rename_i ho;simp only[Juh] at h;subst h;simp only[γX,pur,Zk ho]
  ·cases h
 | g cs =>
  simp only[VE] at h;split at h
  ·rename_i hl;have hl:cs.length≤20:=Nat.le_of_ble_eq_true hl;cases hc:VE.cells cs with
   | none=>simp[hc] at h
   | some l =>
    simp only[hc,Juk,Juh] at h;subst h;simp only[γX,pur,Jx,Jda cs l k hc (by omega),MP.bind];show MP.ret _=MP.ret (D.g (lst ρ (J5 l)));rw[JE]
  ·cases h
 | _=>simp[VE] at h
theorem Jf3 :∀(vs:List SV) (es:List E) (n:Nat),WA vs=some es→22+vs.length≤n→pur.purs n (vs.map (γX ρ)) = .ret (es.map (dat ρ))
 | [],es,n,h,hn=>by
  simp only[WA,Juh] at h;subst h;cases n <;> rfl
 | v::vs,es,0,h,hn=>by omega
 | v::vs,es,n+1,h,hn=>by
  simp only[WA] at h;split at h
  ·rename_i e he;cases hr:WA vs with
   | none=>simp[hr] at h
   | some es' =>
    simp only[hr,Juk,Juh] at h;subst h;simp only[List.length_cons] at hn;show (pur n (γX ρ v)).bind (fun d=>(pur.purs n (vs.map (γX ρ))).bind fun ds=> .ret (d::ds))=_;rw[JnA he (by omega),Jf3 vs es' n hr (by omega)];rfl
  ·cases h
theorem Joc (hB:BOk sg B) (o:Oper) (n0:Nat) (args:List SV) (rs:Sh1) :
  (Jo4 n0 args rs).Ok B ρ (γX ρ) (match X.d (dat ρ (.da n0)) with
   | .f fn cs=>Jad (X7 sg B) G o fn (args.map (γX ρ)++cs)
   | .d (.f fn cs)=>Jad (X7 sg B) G o fn (args.map (γX ρ)++cs.map X.d)
   | _=> .fail):=by
 unfold Jo4;split
 ·rename_i hpl;simp only[Jui] at hpl;have hlen:args.length≤8:=Nat.le_of_ble_eq_true hpl.2;cases hpe:WA args with
  | none=>trivial
  | some es =>
   simp only;cases hfe:Vo es with
   | none=>trivial
   | some ls =>
    intro n hn;obtain⟨fn,caps,hd,h2,h3⟩:=hn;rw[hd];simp only;obtain⟨s,hsg,hs⟩:=hB.ar fn _ h2;unfold JqX at hs;split at hs
    ·rename_i hcond;simp only[Jui] at hcond;obtain⟨⟨hflat,hnq⟩,h30⟩:=hcond;have h30:s.pars.length≤30:=Nat.le_of_ble_eq_true h30;split at hs
     ·rename_i a hres;simp only[Juh] at hs;unfold Jad X7;simp only[hsg,hflat,if_true,JaD];have hcl:caps.length≤30:=by
       have:=congrArg List.length hs;simp at this;omega
      rw[JbY 40 _ _ (by simp;omega),Jf3 args es 40 hpe (by omega),JfL _ caps (by simp;omega)];simp only[MP.bind];have hds:dspec s (B.call fn) (es.map (dat ρ)++caps.map D.norm)=some (dat ρ (rs.expr n)):=by
       unfold dspec;rw[Jh0 es ls s.pars (caps.map D.norm) hfe (by rw[hs];simp) hnq,Juw,h3,Juw,hres];simp only[Jz,Juq,List.map_nil,Zb,J6 (Za rs n) ρ,if_true]
      rw[hds];have hfl:flat (dat ρ (rs.expr n))=true:=by
       cases rs <;> first | rfl | (exact absurd hpl.1 (by simp[VN]))
      simp only[hfl,if_true,SMP.Ok,γX,Jge (J6 (Za rs n) ρ)]
     ·cases hs
    ·cases hs
 ·trivial
end
end Go.Tm
end
section
namespace Go.Tm
open Go.IntKind (i64)
def JaZ (l:E):E:=match l.list with
 | some cs=> .z cs.length
 | none=> .len l
def E.known:E→Option Bool
 | .tt=>some true
 | .ff=>some false
 | .cmp o (.z a) (.z b)=>some (o.sem a b)
 | _=>none
def KJ {α:Type} (b:E) (c:SMP α):SMP α:=match b.known with
 | some true=>c
 | some false=> .fail
 | none=> .ask (fun _=> .chk b) 0 fun _=>c
def Kw (P:Program) (e:TypeId):Option Nat:=(tz P e).map fun z=>if z.2.2=0 then 2 ^ 46 else 2 ^ 46 / z.2.2
def JoB {α:Type} (sz:Nat) (l:E) (c:SMP α):SMP α:=match l with
 | .nil=>c
 | .cons (.g x) _=>match x.list with
  | some cs=>if cs.length=sz then c else .fail
  | none=> .fail
 | .cons x _=>if x.isOne&&sz == 1 then c else .fail
 | _=> .ask (fun _=> .head sz l) 0 fun _=>c
def Wb:SV→Option (IntKind×E)
 | .d (.vi k e)=>some (k,e)
 | _=>none
section
variable {B:Tb} {ρ:Env} {sg:FuncId→Option Sig} {P:Program} {G:Qb}
theorem Zh (l:E):int ρ (JaZ l)=(lst ρ l).length:=by
 unfold JaZ;split
 ·rename_i cs h;rw[YU ρ _ _ h];simp[int,den,V.int]
 ·rfl
theorem ZR {b:E} {t:Bool} (h:b.known=some t):bol ρ b=t:=by
 unfold E.known at h;split at h <;> simp at h <;> subst h <;> rfl
theorem QR {α β:Type} {f:α→β} {b:E} {c:SMP α} {q:MP β} (h:bol ρ b=true→c.Ok B ρ f q):(KJ b c).Ok B ρ f q:=by
 unfold KJ;split
 ·rename_i hk;exact h (ZR hk)
 ·trivial
 ·intro n hn;exact h hn
theorem Jov {α β:Type} {f:α→β} {sz:Nat} {l:E} {c:SMP α} {q:MP β} (h:Yb sz (lst ρ l)=true→c.Ok B ρ f q):(JoB sz l c).Ok B ρ f q:=by
 unfold JoB;split
 ·exact h rfl
 ·rename_i x l';split
  ·rename_i cs hl;split
   ·rename_i hs;refine h ?_;show ((D.g (lst ρ x)).cells.length == sz)=true;rw[YU ρ _ _ hl];simp[D.cells,hs]
   ·trivial
  ·trivial
 ·rename_i x l' _;split
  ·rename_i hx;simp only[Jui] at hx;refine h ?_;show ((dat ρ x).cells.length == sz)=true;rw[JdL (J6 hx.1 ρ)];have:sz=1:=by simpa using hx.2
   subst this;rfl
  ·trivial
 ·intro n hn;exact h hn
theorem VV {e:TypeId} {m n:Nat} (h:Kw P e=some m) (hn:n≤m):Vx P e n=true:=by
 unfold Kw at h;unfold Vx;cases ht:tz P e with
 | none=>simp[ht] at h
 | some z =>
  obtain⟨a,b,c⟩:=z;simp only[ht,Juk,Juh] at h;simp only[decide_eq_true_eq];split at h
  ·rename_i hc;subst hc;exact⟨by simp,by omega⟩
  ·rename_i hc;have h1:n≤2 ^ 46 / c:=by omega
   have h2:n*c≤2 ^ 46:=(Nat.le_div_iff_mul_le (by omega)).1 h1;have h3:n≤n*c:=Nat.le_mul_of_pos_right n (by omega);exact⟨h2,by omega⟩
theorem Jqc {v:SV} {k:IntKind} {e:E} (h:Wb v=some (k,e)):γX ρ v = .d (.v (.int k (int ρ e))):=by
 unfold Wb at h;split at h
 ·simp only[Juh,Juz] at h;obtain⟨rfl,rfl⟩:=h;rfl
 ·cases h
theorem Y1 {v:SV} {k:IntKind} {e:E} (h:Wb v=some (k,e)):WG (γX ρ v)=some (int ρ e):=by rw[Jqc h];rfl
theorem ZZ (a b:E):bol ρ (.cmp .le a b)=decide (int ρ a≤int ρ b):=rfl
theorem JoV (a b:E):bol ρ (.cmp .lt a b)=decide (int ρ a<int ρ b):=rfl
theorem Joa (a b:E):bol ρ (.cmp .eq a b)=decide (int ρ a=int ρ b):=rfl
theorem JaA (n:Int):int ρ (.z n)=n:=rfl
def Jk0 (op:BinOp) (k:IntKind) (a b:E):SMP SV:=match op with
 | .add=> .ret (.d (.vi k (.bin .add k a b)))
 | .sub=> .ret (.d (.vi k (.bin .sub k a b)))
 | .mul=> .ret (.d (.vi k (.bin .mul k a b)))
 | .quo=>KJ (.not (.cmp .eq b (.z 0))) (.ret (.d (.vi k (.bin .quo k a b))))
 | .rem=>KJ (.not (.cmp .eq b (.z 0))) (.ret (.d (.vi k (.bin .rem k a b))))
 | .and=> .ret (.d (.vi k (.bin .and k a b)))
 | .or=> .ret (.d (.vi k (.bin .or k a b)))
 | .xor=> .ret (.d (.vi k (.bin .xor k a b)))
 | .eql=> .ret (.d (.vb (.cmp .eq a b)))
 | .neq=> .ret (.d (.vb (.not (.cmp .eq a b))))
 | .lss=> .ret (.d (.vb (.cmp .lt a b)))
 | .leq=> .ret (.d (.vb (.cmp .le a b)))
 | .gtr=> .ret (.d (.vb (.cmp .lt b a)))
 | .geq=> .ret (.d (.vb (.cmp .le b a)))
 | _=> .fail
theorem XJ {op:BinOp} {t:TypeId} {x y:Operand} {k:IntKind} {a b:Int} {v:Value} (h:JP P (do eqGuard op t x y (.int k a) (.int k b);binOp op t (.int k a) (.int k b))=some v) (ho:v.oneCell=true) :
  KZ (JP P (do eqGuard op t x y (.int k a) (.int k b);binOp op t (.int k a) (.int k b))) = .ret (.d (.v v)):=by
 rw[h];simp only[KZ,ho,if_true]
theorem JnR (op:BinOp) (t:TypeId) (x y:Operand) (k:IntKind) (a b:E):(Jk0 op k a b).Ok B ρ (γX ρ)
  (KZ (JP P (do eqGuard op t x y (.int k (int ρ a)) (.int k (int ρ b));binOp op t (.int k (int ρ a)) (.int k (int ρ b))))):=by
 cases op with
 | add=>exact XJ (by simp[eqGuard,binOp,Op.intArith];rfl) rfl
 | sub=>exact XJ (by simp[eqGuard,binOp,Op.intArith];rfl) rfl
 | mul=>exact XJ (by simp[eqGuard,binOp,Op.intArith];rfl) rfl
 | quo =>
  simp only[Jk0];refine QR fun h=>?_;have h:(!decide (int ρ b=0))=true:=h;have h : ¬int ρ b=0:=by simpa using h
  exact XJ (by simp[eqGuard,binOp,Op.intDiv,h];rfl) rfl
 | rem =>
  simp only[Jk0];refine QR fun h=>?_;have h:(!decide (int ρ b=0))=true:=h;have h : ¬int ρ b=0:=by simpa using h
  exact XJ (by simp[eqGuard,binOp,Op.intDiv,h];rfl) rfl
 | and=>exact XJ (by simp[eqGuard,binOp,Op.intBits];rfl) rfl
 | or=>exact XJ (by simp[eqGuard,binOp,Op.intBits];rfl) rfl
 | xor=>exact XJ (by simp[eqGuard,binOp,Op.intBits];rfl) rfl
 | eql=>exact XJ (by simp[eqGuard,binOp,Op.intCmp];rfl) rfl
 | neq=>exact XJ (by simp[eqGuard,binOp,Op.intCmp];rfl) rfl
 | lss=>exact XJ (by simp[eqGuard,binOp,Op.intCmp];rfl) rfl
 | leq=>exact XJ (by simp[eqGuard,binOp,Op.intCmp];rfl) rfl
 | gtr=>exact XJ (by simp[eqGuard,binOp,Op.intCmp];rfl) rfl
 | geq=>exact XJ (by simp[eqGuard,binOp,Op.intCmp];rfl) rfl
 | _=>trivial
def strE:E→Bool
 | .vc (.string _)=>true
 | .da _=>true
 | _=>false
def Jqw (P:Program) (op:BinOp) (t:TypeId) (a b:SV):SMP SV:=match a,b with
 | .d (.vi k x),.d (.vi k' y)=>if k=k' then Jk0 op k x y else .fail
 | .d (.vb x),.d (.vb y)=>match P.underlying t,op with
  | some .bool,.eql=> .ret (.d (.vb (.beq x y)))
  | some .bool,.neq=> .ret (.d (.vb (.not (.beq x y))))
  | _,_=> .fail
 | .d x,.d y=>if strE x&&strE y then match P.underlying t,op with
  | some .string,.add=> .ask (fun n=> .prim .cat [x,y] .d n) 1 fun n=> .ret (.d (.da n))
  | some .string,.eql=> .ask (fun n=> .prim .seq [x,y] .b n) 1 fun n=> .ret (.d (.vb (.v n)))
  | some .string,.neq=> .ask (fun n=> .prim .seq [x,y] .b n) 1 fun n=> .ret (.d (.vb (.not (.v n))))
  | _,_=> .fail
  else .fail
 | _,_=> .fail
theorem Joz {p:Jp7} {x y r:D} (hp:p = .cat∨p = .seq) (h:ZS p [x,y]=some r) : ∃ a b,x = .v (.string a)∧y = .v (.string b):=by
 rcases hp with rfl | rfl
 all_goals
  cases x with
  | v x=>cases x with
   | string a=>cases y with
    | v y=>cases y with
     | string b=>exact⟨a,b,rfl,rfl⟩
     | _=>simp[ZS] at h
    | _=>simp[ZS] at h
   | _=>simp[ZS] at h
  | _=>simp[ZS] at h
theorem Xb {α β:Type} (f:α→Sem β) :∀x:Sem α,JP P (x >>= f)=(JP P x).bind fun a=>JP P (f a)
 | .pure a=>rfl
 | .program k=>Xb f (k P)
 | .load _ _ _ | .store _ _ _ _ | .new _ _ | .shape _ _ | .freeze _ _ _ | .frozen _ _
 | .getObj _ _ | .setObj _ _ _ | .choose _ _ | .sys _ _ | .mark _ _ | .halt _=>rfl
theorem XK {t:TypeId} {d:TypeDesc} (h:P.underlying t=some d):JP P (underlying t)=some d:=by
 unfold underlying;rw[Xb];show (some P).bind _=_;simp only[Juw,h];rfl
theorem Jld {t:TypeId} (h:P.underlying t=some .bool) (a b:Bool):JP P (Op.equal t (.bool a) (.bool b))=some (a == b):=by
 show JP P (Op.equalIn (9999+1) t (.bool a) (.bool b))=_;unfold Op.equalIn;rw[Xb,XK h];rfl
theorem Jpn {t:TypeId} {x y:Operand} {u v:ByteArray} {r:D} (h:ZS .cat [.v (.string u),.v (.string v)]=some r) :
  JP P (do eqGuard .add t x y (.string u) (.string v);binOp .add t (.string u) (.string v))=some (.string (u++v))∧D.v (.string (u++v))=r:=by
 have h:(if u.size+v.size≤2 ^ 62 then some (D.v (.string (u++v))) else none)=some r:=h;split at h
 ·rename_i hz;simp only[Juh] at h;refine⟨?_,h⟩;show JP P (Op.stringOp .add u v)=_;have : ¬((u.size+v.size:Nat):Int) > i64.max:=by
   have:i64.max=9223372036854775807:=rfl;omega
  simp only[Op.stringOp,this,if_false];rfl
 ·cases h
theorem JpB (op:BinOp) (t:TypeId) (x y:Operand) (a b:SV):(Jqw P op t a b).Ok B ρ (γX ρ)
  (match γX ρ a,γX ρ b with
   | .d (.v a),.d (.v b)=>KZ (JP P (do eqGuard op t x y a b;binOp op t a b))
   | _,_=> .fail):=by
 unfold Jqw;split
 ·rename_i k a k' b;split
  ·rename_i hk;subst hk;exact JnR op t x y k a b
  ·trivial
 ·rename_i a b;split
  ·rename_i hu _;show KZ (JP P (do eqGuard .eql t x y (.bool (bol ρ a)) (.bool (bol ρ b));binOp .eql t (.bool (bol ρ a)) (.bool (bol ρ b))))=_;have:JP P (do eqGuard .eql t x y (.bool (bol ρ a)) (.bool (bol ρ b));binOp .eql t (.bool (bol ρ a)) (.bool (bol ρ b)))=some (.bool (bol ρ a == bol ρ b)):=by
    show JP P (Op.equal t (Value.bool (bol ρ a)) (Value.bool (bol ρ b)) >>= fun r=>pure (Value.bool r))=_;rw[Xb,Jld (by assumption)];rfl
   rw[this];rfl
  ·rename_i hu _;show KZ (JP P (do eqGuard .neq t x y (.bool (bol ρ a)) (.bool (bol ρ b));binOp .neq t (.bool (bol ρ a)) (.bool (bol ρ b))))=_;have:JP P (do eqGuard .neq t x y (.bool (bol ρ a)) (.bool (bol ρ b));binOp .neq t (.bool (bol ρ a)) (.bool (bol ρ b)))=some (.bool (!(bol ρ a == bol ρ b))):=by
    show JP P (Op.equal t (Value.bool (bol ρ a)) (Value.bool (bol ρ b)) >>= fun r=>pure (Value.bool (!r)))=_;rw[Xb,Jld (by assumption)];rfl
   rw[this];rfl
  ·trivial
 ·rename_i a b _ _;split
  ·split
   ·intro n hn;have hn:ZS .cat [dat ρ a,dat ρ b]=some (dat ρ (.da n)):=hn;obtain⟨u,v,ea,eb⟩:=Joz (.inl rfl) hn;rw[ea,eb] at hn;have hr:=Jpn (P:=P) (t:=t) (x:=x) (y:=y) hn;simp only[γX,ea,eb,hr.1];show MP.ret (X.d (.v (.string (u++v))))=MP.ret (X.d (dat ρ (.da n)));rw[hr.2]
   ·intro n hn;have hn:ZS .seq [dat ρ a,dat ρ b]=some (.v (.bool (bol ρ (.v n)))):=hn;obtain⟨u,v,ea,eb⟩:=Joz (.inr rfl) hn;rw[ea,eb] at hn;have hn:some (D.v (.bool (u.toList == v.toList)))=some (.v (.bool (bol ρ (.v n)))):=hn;simp only[Juh,D.v.injEq,Value.bool.injEq] at hn;simp only[γX,ea,eb];show MP.ret (X.d (.v (.bool (u.toList == v.toList))))=MP.ret (X.d (.v (.bool (bol ρ (.v n)))));rw[hn]
   ·intro n hn;have hn:ZS .seq [dat ρ a,dat ρ b]=some (.v (.bool (bol ρ (.v n)))):=hn;obtain⟨u,v,ea,eb⟩:=Joz (.inr rfl) hn;rw[ea,eb] at hn;have hn:some (D.v (.bool (u.toList == v.toList)))=some (.v (.bool (bol ρ (.v n)))):=hn;simp only[Juh,D.v.injEq,Value.bool.injEq] at hn;simp only[γX,ea,eb];show MP.ret (X.d (.v (.bool (!(u.toList == v.toList)))))=MP.ret (X.d (.v (.bool (!(bol ρ (.v n))))));rw[hn]
   ·trivial
  ·trivial
 ·trivial
def sun (op:UnOp) (a:SV):SMP SV:=match op,a with
 | .neg,.d (.vi k x)=> .ret (.d (.vi k (.bin .sub k (.z 0) x)))
 | .not,.d (.vb x)=> .ret (.d (.vb (match x with | .tt=> .ff | .ff=> .tt | .not y=>y | x=> .not x)))
 | _,_=> .fail
theorem JqV (op:UnOp) (a:SV):(sun op a).Ok B ρ (γX ρ) (match γX ρ a with
  | .d (.v a)=>KZ (JP P (Op.unary op a))
  | _=> .fail):=by
 unfold sun;split
 ·rfl
 ·rename_i x;show KZ (JP P (Op.unary .not (.bool (bol ρ x))))=_;have:bol ρ (match x with | .tt=> .ff | .ff=> .tt | .not y=>y | x=> .not x) = !bol ρ x:=by
   split <;> simp[bol,den,V.bool]
  show MP.ret (X.d (.v (.bool !(bol ρ x)))) = .ret (X.d (.v (.bool (bol ρ _))));rw[this]
 ·trivial
def Jo8 (P:Program) (s d:TypeId) (a:SV):SMP SV:=match a,P.underlying s,P.underlying d with
 | .d (.vi k x),some _,some (.int k')=> .ret (.d (.vi k' (.cv k' x)))
 | _,_,_=> .fail
theorem Jo3 (s d:TypeId) (a:SV):(Jo8 P s d a).Ok B ρ (γX ρ) (match γX ρ a with
  | .d (.v a)=>KZ (JP P (convert s d a))
  | _=> .fail):=by
 unfold Jo8;split
 ·rename_i k x u k' hs hd;show KZ (JP P (convert s d (.int k (int ρ x))))=_;have:JP P (convert s d (.int k (int ρ x)))=some (.int k' (k'.wrap (int ρ x))):=by
   unfold convert;rw[Xb,XK hs,Juw,Xb,XK hd,Juw];cases u <;> rfl
  rw[this];rfl
 ·trivial
def Jf1 (z:List Value):List E:=z.map fun v=>(KK v).norm
theorem Jem (z:List Value) (h:z.all (·.oneCell)=true):(Jf1 z).map (dat ρ)=z.map fun v=>(D.v v).norm:=by
 unfold Jf1;rw[List.map_map];refine JuE fun v hv=>?_;show dat ρ (KK v).norm=_;rw[Zk (JiC (Juv.1 h v hv)),Jbn]
theorem Jnr (z:List Value):(z.map fun v=>SV.d (KK v)).map (γX ρ)=z.map fun c=>X.d (.v c):=by
 rw[List.map_map];exact JuE fun v _=>by simp only[Function.comp,γX,Jbn]
def Jgk (k:Key) (ag:Bool) (sz:Nat) (ks:Kds):Nat→List (Nat×SV)→SMP (List E)
 | _,[]=> .ret []
 | i, (j, x) :: rest =>
   match Yp x with
   | some vs=>if vs.length=sz∧j=i∧vs.all Jig then(JgM k ks vs).bind fun ds=>match smk ag ds with
       | some d=>(Jgk k ag sz ks (i+1) rest).bind fun es=> .ret (d::es)
       | none=> .fail
     else .fail
   | none=> .fail
theorem JfY {k:Key} {ag:Bool} {sz:Nat} {ks:Kds} :∀(ps:List (Nat×SV)) (i:Nat),(Jgk k ag sz ks i ps).Ok B ρ (fun l=>l.map (dat ρ)) (Jd9 k ag sz ks i (ps.map fun p=>(p.1,γX ρ p.2)))
 | [],i=>rfl
 | (j,x)::rest,i=>by
  simp only[Jgk,Juq,Jd9];cases hc:Yp x with
  | none=>trivial
  | some vs =>
   simp only[KY hc,Jur];split
   ·rename_i hh;rw[if_pos ⟨hh.1,hh.2.1,VD hh.2.2 ρ⟩];refine SMP.bind_ok (f:=fun l=>l.map (dat ρ)) (fun ds=>?_) _ _ (Ja4 k _ vs);cases hm:smk ag ds with
    | none=>trivial
    | some d =>
     simp only[JdW hm];refine SMP.bind_ok (f:=fun l=>l.map (dat ρ)) (fun es=>?_) _ _ (JfY rest (i+1));rfl
   ·trivial
def Vc (P : Program) (dp : Bool) (key : Key) (t : TypeId) (n : Nat) (ps : List (Nat × SV)) : SMP SV := match J3 P t with
  | some e=>match QN P e,Vg P e,QB P e with
    | some sz,some ag,some z=>match smk ag (Jf1 z) with
      | some zd=>if n*sz≤2 ^ 24∧z.length=sz∧0<sz∧z.all (·.oneCell) then
          if Vh P dp e z&&ps.length == n&&n != 0 then
            .new key (.arr e sz .nil true true) ((Jgk key ag sz (QG P e) 0 ps).bind fun es=> .put key (.arr e sz (J5 es) true true) (.ret (.o key (J5 es))))
          else(Jhf ag sz (List.replicate n zd) true ps).bind fun es =>
            .new key (.arr e sz (J5 es.1) false true) (.ret (.o key (J5 es.1)))
        else .fail
      | none=> .fail
    | _,_,_=> .fail
  | none=> .fail
theorem Jdj {ag:Bool} {sz:Nat} :∀(ps:List (Nat×SV)) (es:List E) (dp:Bool) {f:List E×Bool→SMP SV} {g:List D×Bool→MP X},
  (∀r:List E×Bool,r.1.length=es.length→(f r).Ok B ρ (γX ρ) (g (fLB ρ r)))→((Jhf ag sz es dp ps).bind f).Ok B ρ (γX ρ) ((Jep ag sz (es.map (dat ρ)) dp (ps.map fun p=>(p.1,γX ρ p.2))).bind g)
 | [],es,dp,f,g,h=>h (es,dp) rfl
 | (i,x)::rest,es,dp,f,g,h=>by
  simp only[Jhf,Juq,Jep];cases hc:Yp x with
  | none=>trivial
  | some vs =>
   simp only[KY hc,Jur];split
   ·rename_i hh;rw[if_pos ⟨hh.1,hh.2.1,VD hh.2.2 ρ⟩];have assocS :∀{α β γ:Type} (p:SMP α) (f:α→SMP β) (g:β→SMP γ),(p.bind f).bind g=p.bind fun a=>(f a).bind g:=by
     intro α β γ p f g
     induction p with
     | ret a=>rfl
     | fail=>rfl
     | get k c ih=>simp only[SMP.bind];congr 1;funext o;exact ih o
     | put k o c ih=>simp only[SMP.bind];rw[ih]
     | new k o c ih=>simp only[SMP.bind];rw[ih]
     | ask i m c ih=>simp only[SMP.bind];congr 1;funext o;exact ih o
    have assoc :∀{α β γ:Type} (p:MP α) (f:α→MP β) (g:β→MP γ),(p.bind f).bind g=p.bind fun a=>(f a).bind g:=by
     intro α β γ p f g
     induction p with
     | ret a=>rfl
     | fail=>rfl
     | get k c ih=>simp only[MP.bind];congr 1;funext o;exact ih o
     | put k o c ih=>simp only[MP.bind];rw[ih]
     | new k o c ih=>simp only[MP.bind];rw[ih]
    rw[assocS,assoc];refine SMP.bind_ok (f:=fLB ρ) (fun ds=>?_) _ _ (Ve vs);cases hm:smk ag ds.1 with
    | none=>trivial
    | some d =>
     simp only[fLB,JdW hm];have:=Jdj (ag:=ag) (sz:=sz) rest (es.set i d) (dp&&ds.2) (f:=f) (g:=g) fun r hr=>h r (by simpa using hr);rw[List.map_set] at this;exact this
   ·trivial
theorem JdY (dp:Bool) (key:Key) (t:TypeId) (n:Nat) (ps:List (Nat×SV)):(Vc P dp key t n ps).Ok B ρ (γX ρ) (match J3 P t with
  | some e=>match QN P e,Vg P e,QB P e with
   | some sz,some ag,some z=>match D.mk ag (z.map fun v=>(D.v v).norm) with
    | some zd=>if n*sz≤2 ^ 24∧z.length=sz∧0<sz∧z.all (·.oneCell) then
      if Vh P dp e z&&ps.length == n&&n != 0 then
      .new key (.arr e sz [] true true) ((Jd9 key ag sz (QG P e) 0 (ps.map fun p=>(p.1,γX ρ p.2))).bind fun es =>
       .put key (.arr e sz es true true) (.ret (.o key es.length)))
      else(Jep ag sz (List.replicate n zd) true (ps.map fun p=>(p.1,γX ρ p.2))).bind fun es =>
       .new key (.arr e sz es.1 false true) (.ret (.o key n))
     else .fail
    | none=> .fail
   | _,_,_=> .fail
  | none=> .fail):=by
 unfold Vc;split
 ·rename_i e he;split
  ·rename_i sz ag z h1 h2 h3;cases hz:smk ag (Jf1 z) with
   | none=>trivial
   | some zd =>
    simp only;split
    ·rename_i hc;have hmk:=JdW hz ρ;rw[Jem z hc.2.2.2] at hmk;simp only[hmk];split
     ·refine⟨_,rfl,?_⟩;refine SMP.bind_ok (f:=fun l=>l.map (dat ρ)) (fun es=>?_) _ _ (JfY ps 0);refine⟨_,by rw[γO,JE],?_⟩;simp only[SMP.Ok,γX,JE]
     rw[←List.map_replicate];refine Jdj ps _ true fun r hr=>?_;refine⟨_,by rw[γO,JE];rfl,?_⟩;simp only[SMP.Ok,γX,JE,Jur,hr,List.length_replicate]
    ·trivial
  ·trivial
 ·trivial
def Jmj (n x:E):E:=match n with
 | .z m=>if 0≤m∧m≤64 then J5 (List.replicate m.toNat x) else .rep n x
 | _=> .rep n x
theorem JcD (n x:E):lst ρ (Jmj n x)=List.replicate (int ρ n).toNat (dat ρ x):=by
 unfold Jmj;split
 ·split
  ·rw[JE,List.map_replicate];rfl
  ·rfl
 ·rfl
def WF (P : Program) (dp : Bool) (key : Key) (t : TypeId) (l c : SV) : SMP SV := match J3 P t,Wb l,Wb c with
  | some e,some (_,l),some (_,c)=>match QN P e,Vg P e,QB P e with
    | some sz,some ag,some z=>match smk ag (Jf1 z),Kw P e with
      | some zd,some m=>if l.same c∧z.length=sz∧0<sz∧z.all (·.oneCell) then
          KJ (.cmp .le (.z 0) l) (KJ (.cmp .le l (.z m)) (.new key (.arr e sz (Jmj l zd) (Vh P dp e z) true) (.ret (.o key (Jmj l zd)))))
        else .fail
      | _,_=> .fail
    | _,_,_=> .fail
  | _,_,_=> .fail
theorem JeI (dp:Bool) (key:Key) (t:TypeId) (l c:SV):(WF P dp key t l c).Ok B ρ (γX ρ) (match J3 P t,WG (γX ρ l),WG (γX ρ c) with
  | some e,some l,some c=>match QN P e,Vg P e,QB P e with
   | some sz,some ag,some z=>match D.mk ag (z.map fun v=>(D.v v).norm) with
    | some zd=>if 0≤l∧l=c∧Vx P e l.toNat∧z.length=sz∧0<sz∧z.all (·.oneCell) then
      .new key (.arr e sz (List.replicate l.toNat zd) (Vh P dp e z) true) (.ret (.o key l.toNat))
     else .fail
    | none=> .fail
   | _,_,_=> .fail
  | _,_,_=> .fail):=by
 unfold WF;split
 ·rename_i e kl l' kc c' he hl hc;rw[Y1 hl,Y1 hc,he];simp only;split
  ·rename_i sz ag z h1 h2 h3;split
   ·rename_i zd m hz hm;split
    ·rename_i hcond;have hmk:=JdW hz ρ;rw[Jem z hcond.2.2.2] at hmk;simp only[hmk];refine QR fun h0=>QR fun h4=>?_;rw[ZZ,decide_eq_true_eq,JaA] at h0 h4;have hlc:int ρ l'=int ρ c':=by unfold int;rw[V2 _ _ hcond.1]
     rw[if_pos ⟨h0,hlc,VV hm (by omega),hcond.2⟩];refine⟨_,by rw[γO,JcD],?_⟩;simp only[SMP.Ok,γX,JcD,List.length_replicate]
    ·trivial
   ·trivial
  ·trivial
 ·trivial
def JoT (v:SV):Bool:=match v with
 | .d (.vc (.slice none 0 0))=>true
 | _=>false
theorem Jog {v:SV} (h:JoT v=true):γX ρ v = .d (.v (.slice none 0 0)):=by
 unfold JoT at h;split at h
 ·rfl
 ·cases h
def JdS (P:Program) (key:Key) (t t':TypeId) (a b:SV):SMP SV:=match P.underlying t' with
 | some (.int _) => if JoT a then match J3 P t,Wb b with
   | some e,some (_,l)=>match QN P e,Vg P e,QB P e with
     | some sz,some ag,some z=>match smk ag (Jf1 z),Kw P e with
       | some zd,some m=>if z.length=sz∧0<sz∧z.all (·.oneCell) then
           KJ (.cmp .lt (.z 0) l) (KJ (.cmp .le l (.z m)) (.new key (.arr e sz (Jmj l zd) false true) (.ret (.o key (Jmj l zd)))))
         else .fail
       | _,_=> .fail
     | _,_,_=> .fail
   | _,_=> .fail
   else .fail
 | _=> .fail
theorem JhE {o:Oper} (t t':TypeId) (a b:SV):(JdS P (Jy o) t t' a b).Ok B ρ (γX ρ) (Ja1 P o t t' (γX ρ a) (γX ρ b)):=by
 unfold JdS;split
 ·rename_i kx hkx;split
  ·rename_i ha;split
   ·rename_i e kl l' he hl;unfold Ja1;rw[Jog ha,hkx];simp only;rw[Y1 hl,he];simp only;split
    ·rename_i sz ag z h1 h2 h3;split
     ·rename_i zd m hz hm;split
      ·rename_i hcond;have hmk:=JdW hz ρ;rw[Jem z hcond.2.2] at hmk;rw[h1,h2,h3];simp only[hmk];refine QR fun h0=>QR fun h4=>?_;rw[ZZ,decide_eq_true_eq] at h4;rw[JoV,decide_eq_true_eq] at h0;rw[JaA] at h0 h4;rw[if_pos ⟨h0,VV hm (by omega),hcond⟩];refine⟨_,by rw[γO,JcD],?_⟩;simp only[SMP.Ok,γX,JcD,List.length_replicate]
      ·trivial
     ·trivial
    ·trivial
   ·trivial
  ·trivial
 ·trivial
def Jok (P:Program) (key:Key) (t:TypeId) (x:SV) (lo hi mx:Option SV):SMP SV:=match lo,hi,mx with
 | none,some hv,none=>match Wb hv,J3 P t with
  | some (_,h),some e=>if(QN P e).isSome then match x with
   | .d (.s l)=>KJ (.cmp .le (.z 0) h) (KJ (.cmp .le h (JaZ l)) (.ret (.d (.s (.take l h)))))
   | .o k l=> .get k fun
    | .arr ty sz l' _ true=>if l.lsame l' then KJ (.cmp .le (.z 0) h) (KJ (.cmp .le h (JaZ l'))
     (.put k .dead (.new key (.arr ty sz (.take l' h) false true) (.ret (.o key (.take l' h)))))) else .fail
    | _=> .fail
   | .d (.vc (.slice none 0 0))=>match h with
    | .z 0=> .ret (.d (.vc (.slice none 0 0)))
    | _=> .fail
   | _=> .fail
   else .fail
  | _,_=> .fail
 | _,_,_=> .fail
def Jqg (P:Program) (key:Key) (t:TypeId) (x:SV) (lo hi:Option SV) (mx:SV):SMP SV:=match lo,hi with
 | none,some hv=>match Wb hv,Wb mx,J3 P t with
  | some (_,h),some (_,q),some e=>if(QN P e).isSome then match x with
   | .o k l=> .get k fun
    | .arr ty sz l' dp true=>if l.lsame l' then KJ (.cmp .eq h (JaZ l')) (KJ (.cmp .eq q (JaZ l'))
     (.put k .dead (.new key (.arr ty sz l' dp true) (.ret (.o key l'))))) else .fail
    | _=> .fail
   | _=> .fail
   else .fail
  | _,_,_=> .fail
 | _,_=> .fail
theorem JnO {o:Oper} (t:TypeId) (x:SV) (lo hi:Option SV) (mx:SV):(Jqg P (Jy o) t x lo hi mx).Ok B ρ (γX ρ) (JkS P o t (γX ρ x) (lo.map (γX ρ)) (hi.map (γX ρ)) (γX ρ mx)):=by
 cases lo with
 | some _=>trivial
 | none =>
 cases hi with
 | none=>trivial
 | some hv =>
 show SMP.Ok B ρ (γX ρ) (match Wb hv,Wb mx,J3 P t with
  | some (_,h),some (_,q),some e=>if(QN P e).isSome then _ else .fail
  | _,_,_=> .fail) _
 cases hh:Wb hv with
 | none=>trivial
 | some kh =>
  obtain⟨kh,h⟩:=kh;cases hq:Wb mx with
  | none=>trivial
  | some kq =>
   obtain⟨kq,q⟩:=kq;cases he:J3 P t with
   | none=>trivial
   | some e =>
    simp only;have hix:=Y1 (ρ:=ρ) hh;have hiq:=Y1 (ρ:=ρ) hq;split
    ·rename_i hsz;cases x with
     | o k l =>
      simp only[γX,JkS,Option.map_none,Juk,hix,hiq,he];refine⟨_,rfl,fun ob=>?_⟩;cases ob with
      | arr ty sz l' dp rw =>
       cases rw with
       | false=>trivial
       | true =>
        simp only[γO];split
        ·rename_i hl;refine QR fun h0=>QR fun h4=>?_;rw[Joa,decide_eq_true_eq,Zh] at h0;rw[Joa,decide_eq_true_eq,Zh] at h4;rw[if_pos ⟨lL1 hl ρ,h0,h4,hsz⟩];refine⟨_,rfl,_,rfl,?_⟩;show MP.ret _=MP.ret (X.o _ (lst ρ l').length);rw[lL1 hl ρ]
        ·trivial
      | _=>trivial
     | _=>trivial
    ·trivial
theorem JmA {o:Oper} (t:TypeId) (x:SV) (lo hi mx:Option SV):(Jok P (Jy o) t x lo hi mx).Ok B ρ (γX ρ) (Un P o t (γX ρ x) (lo.map (γX ρ)) (hi.map (γX ρ)) (mx.map (γX ρ))):=by
 cases lo with
 | some _=>trivial
 | none =>
 cases hi with
 | none=>trivial
 | some hv =>
 cases mx with
 | some _=>trivial
 | none =>
 show SMP.Ok B ρ (γX ρ) (match Wb hv,J3 P t with
  | some (_,h),some e=>if(QN P e).isSome then _ else .fail
  | _,_=> .fail) _
 cases hh:Wb hv with
 | none=>trivial
 | some kh =>
  obtain⟨kh,h⟩:=kh;cases he:J3 P t with
  | none=>trivial
  | some e =>
   simp only;have hix:=Y1 (ρ:=ρ) hh;split
   ·rename_i hsz;cases x with
    | d e' =>
     cases e' with
     | s l =>
      refine QR fun h0=>QR fun h4=>?_;rw[ZZ,decide_eq_true_eq,JaA] at h0;rw[ZZ,decide_eq_true_eq,Zh] at h4;show Un P o t (.d (.s (lst ρ l))) none (some (γX ρ hv)) none=_;simp only[Un,Juk,hix,he];rw[if_pos ⟨h0,h4,hsz⟩];rfl
     | vc v =>
      split <;> rename_i heq <;> try trivial
      all_goals try (cases heq;done)
      cases heq;split
      ·show Un P o t (.d (.v (.slice none 0 0))) none (some (γX ρ hv)) none=_;simp only[Un,Juk,hix,he];rw[if_pos ⟨rfl,hsz⟩];rfl
      ·trivial
     | _=>trivial
    | o k l =>
     simp only[γX,Un,Option.map_none,Juk,hix,he];refine⟨_,rfl,fun ob=>?_⟩;cases ob with
     | arr ty sz l' dp rw =>
      cases rw with
      | false=>trivial
      | true =>
       simp only[γO];split
       ·rename_i hl;refine QR fun h0=>QR fun h4=>?_;rw[ZZ,decide_eq_true_eq,JaA] at h0;rw[ZZ,decide_eq_true_eq,Zh] at h4;rw[if_pos ⟨lL1 hl ρ,h0,h4,hsz⟩];refine⟨_,rfl,_,rfl,?_⟩;show MP.ret _=MP.ret (X.o _ ((lst ρ l').take (int ρ h).toNat).length);rw[Jux,Nat.min_eq_left (by omega)]
       ·trivial
     | _=>trivial
    | _=>trivial
   ·trivial
def WO (P:Program) (t:TypeId) (x:SV) (i:Nat):SMP SV:=match Z9 P t i with
 | some (off,n)=>if n=0 then .fail else match x with
  | .p k off'=> .ret (.p k (off'+off))
  | .e k l j off'=> .get k fun
   | .arr _ _ l' _ _=>if l.lsame l' then .ret (.e k l j (off'+off)) else .fail
   | _=> .fail
  | .d (.q l)=>match l.list with
   | some cs=>if off<cs.length then .ret (.d (.q (J5 (cs.drop off)))) else .fail
   | none=> .fail
  | .d (.da a)=>match Jej P 8 t with
   | some as=>if off<as.length then .ask (fun n=> .get (.da a) (.q as) n) as.length fun n=> .ret (.d (.q (J5 ((Jz as n).drop off)))) else .fail
   | none=> .fail
  | _=> .fail
 | none=> .fail
theorem JeE (t:TypeId) (x:SV) (i:Nat):(WO P t x i).Ok B ρ (γX ρ) (match Z9 P t i with
  | some (off,n)=>if n=0 then .fail else match γX ρ x with
   | .p k off'=> .ret (.p k (off'+off))
   | .e k n' j off'=> .get k fun
    | .arr _ _ es _ _=>if n'=es.length then .ret (.e k n' j (off'+off)) else .fail
    | _=> .fail
   | .d (.q cs)=>if off<cs.length then .ret (.d (.q (cs.drop off))) else .fail
   | _=> .fail
  | none=> .fail):=by
 unfold WO;cases hf:Z9 P t i with
 | none=>trivial
 | some p =>
  obtain⟨off,n⟩:=p;simp only;split
  ·trivial
  ·rename_i hn;cases x with
   | p k off'=>rfl
   | e k l j off' =>
    refine⟨_,rfl,fun o=>?_⟩;cases o with
    | arr ty sz l' dp rw =>
     simp only[γO];split
     ·rename_i hl;rw[if_pos (lL1 hl ρ)];rfl
     ·trivial
    | _=>trivial
   | d e =>
    cases e with
    | q l =>
     simp only;split
     ·rename_i cs hl;split
      ·rename_i hlt;show (if off<(lst ρ l).length then MP.ret (X.d (.q ((lst ρ l).drop off))) else .fail)=_;rw[YU ρ _ _ hl,if_pos (by simpa using hlt)];show _=MP.ret (X.d (.q (lst ρ (J5 (cs.drop off)))));rw[JE,List.map_drop]
      ·trivial
     ·trivial
    | da a =>
     simp only;split
     ·rename_i as has;split
      ·rename_i hlt;intro n' hn';simp only[I.holds,Sh.expr] at hn';simp only[γX,hn'];show (if off<(lst ρ (J5 (Jz as n'))).length then MP.ret (X.d (.q ((lst ρ (J5 (Jz as n'))).drop off))) else .fail)=_;rw[JE,if_pos (by simpa[Q9] using hlt)];show _=MP.ret (X.d (.q (lst ρ (J5 ((Jz as n').drop off)))));rw[JE,List.map_drop]
      ·trivial
     ·trivial
    | _=>trivial
   | _=>trivial
def W4 (P:Program) (t:TypeId) (x i:SV):SMP SV:=match J3 P t,Wb i with
 | some e,some (_,j)=>match QN P e,x with
  | some sz,.d (.s l)=>match JhM P e with
   | some (.q _)=> .fail
   | some sh=>if sh.size=sz then .ask (fun n=> .idx l j sh n) sh.size fun n=> .ret (.d (.q (J5 (sh.cells n)))) else .fail
   | none=> .fail
  | some sz,.o k l=>KJ (.cmp .le (.z 0) j) (KJ (.cmp .lt j (JaZ l)) (.get k fun
   | .arr ty sz' l' _ _=>if l.lsame l'∧ty=e∧sz'=sz then .ret (.e k l j 0) else if ty=e∧sz'=sz then KJ (.cmp .eq (.len l) (.len l')) (.ret (.e k l' j 0)) else .fail
   | _=> .fail))
  | _,_=> .fail
 | _,_=> .fail
theorem JgN (sh:Sh) (hq :∀as,sh≠ .q as) (n:Nat):(sh.cells n).length=sh.size:=by
 cases sh with
 | one a=>rfl
 | g as=>exact Q9 as n
 | q as=>exact absurd rfl (hq as)
theorem JeJ (t:TypeId) (x i:SV):(W4 P t x i).Ok B ρ (γX ρ) (match J3 P t,WG (γX ρ i) with
  | some e,some j=>match QN P e,γX ρ x with
   | some sz,.d (.s es)=>if 0≤j then match es[j.toNat]? with
     | some e=>if e.cells.length=sz then .ret (.d (.q e.cells)) else .fail
     | none=> .fail
    else .fail
   | some sz,.o k n=>if 0≤j∧j<n then .get k fun
     | .arr ty sz' es _ _=>if n=es.length∧ty=e∧sz'=sz then .ret (.e k n j.toNat 0) else .fail
     | _=> .fail
    else .fail
   | _,_=> .fail
  | _,_=> .fail):=by
 unfold W4;split
 ·rename_i e kj j he hj;rw[Y1 hj,he];simp only;cases hsz:QN P e with
  | none=>trivial
  | some sz =>
   cases x with
   | d ex =>
    cases ex with
    | s l =>
     simp only;cases hs:JhM P e with
     | none=>trivial
     | some sh =>
      have key :∀hq :∀as,sh≠ .q as,SMP.Ok B ρ (γX ρ) (if sh.size=sz then .ask (fun n=> .idx l j sh n) sh.size fun n=> .ret (.d (.q (J5 (sh.cells n)))) else .fail)
        (if 0≤int ρ j then match (lst ρ l)[(int ρ j).toNat]? with
         | some e=>if e.cells.length=sz then .ret (X.d (.q e.cells)) else .fail
         | none=> .fail
        else .fail):=by
       intro hq;split
       ·rename_i hsize;intro n hn;obtain⟨h0,h1⟩:=hn;rw[if_pos h0,h1];simp only[JhW hq,Jur,JgN sh hq,hsize,if_true,SMP.Ok,γX];show _=MP.ret (X.d (.q (lst ρ (J5 (sh.cells n)))));rw[JE]
       ·trivial
      cases sh with
      | q as=>trivial
      | one a=>exact key (fun as h=>by cases h)
      | g as=>exact key (fun as h=>by cases h)
    | _=>trivial
   | o k l =>
    refine QR fun h0=>QR fun h1=>?_;rw[ZZ,decide_eq_true_eq,JaA] at h0;rw[JoV,decide_eq_true_eq,Zh] at h1;simp only[γX];rw[if_pos ⟨h0,h1⟩];refine⟨_,rfl,fun o=>?_⟩;cases o with
    | arr ty sz' l' dp rw =>
     simp only[γO];split
     ·rename_i hc;rw[if_pos ⟨lL1 hc.1 ρ,hc.2⟩];rfl
     ·split
      ·rename_i hc;refine QR fun hl=>?_;have hl:decide (((lst ρ l).length:Int)=((lst ρ l').length:Int))=true:=hl;have hl:(lst ρ l).length=(lst ρ l').length:=by
        have:((lst ρ l).length:Int)=((lst ρ l').length:Int):=by simpa using hl
        omega
       rw[if_pos ⟨hl,hc⟩];simp only[SMP.Ok,γX,hl]
      ·trivial
    | _=>trivial
   | _=>trivial
 ·trivial
def JjS (P:Program) (t:TypeId) (x:SV) (i:Nat):SMP SV:=match Z9 P t i,US P t i,x with
 | some (off,n),some true,.g cs=> .ret (.g ((cs.drop off).take n))
 | some (off,_),some false,.g cs=>match cs[off]? with
  | some c=> .ret c
  | none=> .fail
 | _,_,_=> .fail
theorem JmR (t:TypeId) (x:SV) (i:Nat):(JjS P t x i).Ok B ρ (γX ρ) (match Z9 P t i,US P t i,γX ρ x with
  | some (off,n),some true,.g cs=> .ret (.g ((cs.drop off).take n))
  | some (off,_),some false,.g cs=>match cs[off]? with
   | some c=> .ret c
   | none=> .fail
  | _,_,_=> .fail):=by
 unfold JjS;split
 ·rename_i off n cs h1 h2;rw[h1,h2];simp only[γX,Jx,SMP.Ok,List.map_take,List.map_drop]
 ·rename_i off n cs h1 h2;rw[h1,h2];simp only[γX,Jx,JuD];cases hc:cs[off]? with
  | none=>trivial
  | some c=>rfl
 ·trivial
def JgU:SV→SMP (E×Bool)
 | .d (.s l)=> .ret (l,false)
 | .d (.vc (.slice none 0 0))=> .ret (.nil,true)
 | .o k l=> .get k fun
  | .arr _ _ l' dp rw=>if l.lsame l'∧(dp&&rw)=false then .ret (l',false) else .fail
  | _=> .fail
 | _=> .fail
def fEB (ρ:Env) (p:E×Bool):List D×Bool:=(lst ρ p.1,p.2)
theorem JjI (v:SV):(JgU v).Ok B ρ (fEB ρ) (Jhi (γX ρ v)):=by
 unfold JgU;split
 ·rfl
 ·rfl
 ·refine⟨_,rfl,fun o=>?_⟩;cases o with
  | arr ty sz l' dp rw =>
   simp only[γO];split
   ·rename_i h;rw[if_pos ⟨lL1 h.1 ρ,by simp[h.2]⟩];rfl
   ·trivial
  | _=>trivial
 ·trivial
def Z6 (P : Program) (key : Key) (t : TypeId) (a b : SV) : SMP SV := match J3 P t with
  | none=> .fail
  | some e => match QN P e,Kw P e with
    | some sz,some m=>if 0<sz∧(QB P e).map (·.length)=some sz then(JgU b).bind fun f=>KJ (.cmp .le (JaZ f.1) (.z m)) (JoB sz f.1 (match a with
        | .d (.vc (.slice none 0 0))=>match f.1 with
          | .cons x l=> .new key (.arr e sz (.cons x l) false true) (.ret (.o key (.cons x l)))
          | _=> .fail
        | .o k l=> .get k fun
          | .arr ty sz' l' false true=>if l.lsame l'∧ty=e∧sz'=sz then
              KJ (.cmp .le (JaZ (.app l' f.1)) (.z m)) (.put k (.arr e sz (.app l' f.1) false true) (.ret (.o k (.app l' f.1))))
            else .fail
          | _=> .fail
        | _=> .fail))
      else .fail
    | _,_=> .fail
def Jc2 (P:Program) (key:Key) (t:TypeId) (a b:SV) (k j:Key) (l l2:E) (o1 o2:Ji):SMP SV:=match o1,o2 with
 | .arr ty sz l' true true,.arr ty' sz' f true true=>match J3 P t with
  | some e=>match Kw P e,f with
   | some m,.cons x r=>if l.lsame l'∧l2.lsame (.cons x r)∧ty=e∧ty'=e∧sz'=sz∧QN P e=some sz∧(QB P e).map (·.length)=some sz then
     KJ (.cmp .le (JaZ (.app l' (.cons x r))) (.z m)) (.put j .dead (.put k (.arr e sz (.app l' (.cons x r)) true true) (.ret (.o k (.app l' (.cons x r))))))
    else .fail
   | _,_=> .fail
  | none=> .fail
 | _,_=>Z6 P key t a b
def JdE (P:Program) (key:Key) (t:TypeId) (a b:SV) (j:Key) (l2:E) (o2:Ji):SMP SV:=match o2 with
 | .arr ty' sz' f true true=>match J3 P t with
  | some e=>match Kw P e,f with
   | some m,.cons x r=>if l2.lsame (.cons x r)∧ty'=e∧QN P e=some sz'∧(QB P e).map (·.length)=some sz' then
     KJ (.cmp .le (JaZ (.cons x r)) (.z m)) (.new key (.arr e sz' .nil true true) (.put j .dead (.put key (.arr e sz' (.cons x r) true true) (.ret (.o key (.cons x r))))))
    else .fail
   | _,_=> .fail
  | none=> .fail
 | _=>Z6 P key t a b
def Jg2 (P:Program) (dp:Bool) (key:Key) (t:TypeId) (a b:SV):SMP SV:=match a,b with
 | .o k l,.o j l2=>if k=j then Z6 P key t a b else .get k fun o1=> .get j fun o2=>Jc2 P key t a b k j l l2 o1 o2
 | .d (.vc (.slice none 0 0)),.o j l2=>if dp=true then .get j fun o2=>JdE P key t a b j l2 o2 else Z6 P key t a b
 | .d _,.o _ _=> .fail
 | _,_=>Z6 P key t a b
end
end Go.Tm
end
section
namespace Go.Tm
open Go.IntKind (i64)
section
variable {B:Tb} {ρ:Env} {sg:FuncId→Option Sig} {P:Program} {G:Qb}
theorem U5 {o:Oper} (t:TypeId) (a b:SV):(Z6 P (Jy o) t a b).Ok B ρ (γX ρ) (XZ P o t (γX ρ a) (γX ρ b)):=by
 unfold Z6 XZ;cases he:J3 P t with
 | none=>trivial
 | some e =>
  simp only;cases hsz:QN P e with
  | none=>trivial
  | some sz =>
   cases hm:Kw P e with
   | none=>trivial
   | some m =>
    simp only;split
    ·rename_i hc;refine SMP.bind_ok (f:=fEB ρ) (fun f=>?_) _ _ (JjI b);obtain⟨fl,fb⟩:=f;refine QR fun h1=>Jov fun h2=>?_;rw[ZZ,decide_eq_true_eq,Zh,JaA] at h1;have h1:((lst ρ fl).length:Int)≤m:=h1;have hcond:Vx P e (fEB ρ (fl,fb)).1.length=true∧Yb sz (fEB ρ (fl,fb)).1=true∧0<sz∧(QB P e).map (·.length)=some sz :=
      ⟨VV hm (by show (lst ρ fl).length≤m;omega),h2,hc.1,hc.2⟩
     rw[if_pos hcond];split
     ·split
      ·rename_i x l hfl;have hfl:fl = .cons x l:=hfl;subst hfl;have hne : ¬(fEB ρ (E.cons x l,fb)).1=[]:=by
        show ¬(dat ρ x::lst ρ l)=[];simp
       show SMP.Ok B ρ (γX ρ) _ (if(fEB ρ (E.cons x l,fb)).1=[] then _ else _);rw[if_neg hne];exact⟨_,rfl,rfl⟩
      ·trivial
     ·rename_i k l;refine⟨_,rfl,fun ob=>?_⟩;cases ob with
      | arr ty sz' l' dp rw =>
       cases rw with
       | false=>cases dp <;> trivial
       | true =>
        cases dp with
        | true=>trivial
        | false =>
         simp only[γO];split
         ·rename_i hh;refine QR fun h3=>?_;rw[ZZ,decide_eq_true_eq,Zh,JaA] at h3;have h3:((lst ρ (.app l' fl)).length:Int)≤m:=h3;have hlen:(lst ρ (.app l' fl)).length=(lst ρ l').length+(lst ρ fl).length:=by
           show (lst ρ l'++lst ρ fl).length=_;simp
          have hcond2:(lst ρ l).length=(lst ρ l').length∧ty=e∧sz'=sz∧Vx P e ((lst ρ l).length+(fEB ρ (fl,fb)).1.length)=true :=
           ⟨lL1 hh.1 ρ,hh.2.1,hh.2.2,by rw[lL1 hh.1 ρ];exact VV hm (by show (lst ρ l').length+(lst ρ fl).length≤m;omega)⟩
          rw[if_pos hcond2];refine⟨_,rfl,?_⟩;show MP.ret (X.o k ((lst ρ l).length+(lst ρ fl).length))=_;simp only[SMP.Ok,γX,hlen,lL1 hh.1 ρ]
         ·trivial
      | _=>trivial
     ·trivial
    ·trivial
theorem JiO {o:Oper} (t:TypeId) (a b:SV) (k j:Key) (l l2:E) (o1 o2:Ji):(Jc2 P (Jy o) t a b k j l l2 o1 o2).Ok B ρ (γX ρ) (match γO ρ o1,γO ρ o2 with
  | .arr ty sz es true true,.arr ty' sz' fs true true=>match J3 P t with
   | some e=>if(lst ρ l).length=es.length∧(lst ρ l2).length=fs.length∧ty=e∧ty'=e∧sz'=sz∧QN P e=some sz∧fs≠[]∧Vx P e ((lst ρ l).length+(lst ρ l2).length)∧(QB P e).map (·.length)=some sz then
     .put j .dead (.put k (.arr e sz (es++fs) true true) (.ret (.o k ((lst ρ l).length+(lst ρ l2).length))))
    else .fail
   | none=> .fail
  | _,_=>XZ P o t (γX ρ a) (γX ρ b)):=by
 have h0:=U5 (B:=B) (ρ:=ρ) (P:=P) (o:=o) t a b;cases o1 with
 | arr ty sz l' dp rw=>cases o2 with
  | arr ty' sz' f dp' rw' =>
   cases dp <;> cases rw <;> cases dp' <;> cases rw' <;> first | exact h0 | skip
   simp only[γO,Jc2];cases he:J3 P t with
   | none=>trivial
   | some e =>
    simp only;split
    ·rename_i m x r hm;split
     ·rename_i hc;refine QR fun h3=>?_;rw[ZZ,decide_eq_true_eq,Zh,JaA] at h3;have h3:((lst ρ (.app l' (.cons x r))).length:Int)≤m:=h3;have hlen:(lst ρ (.app l' (.cons x r))).length=(lst ρ l').length+(lst ρ (.cons x r)).length:=by
       show (lst ρ l'++lst ρ (.cons x r)).length=_;simp
      have hl1:=lL1 hc.1 ρ;have hl2:=lL1 hc.2.1 ρ;have hne:lst ρ (.cons x r)≠[]:=by
       show dat ρ x::lst ρ r≠[];simp
      rw[if_pos ⟨hl1,hl2,hc.2.2.1,hc.2.2.2.1,hc.2.2.2.2.1,hc.2.2.2.2.2.1,hne,VV hm (by rw[hl1,hl2];omega),hc.2.2.2.2.2.2⟩];refine⟨_,rfl,⟨_,rfl,?_⟩⟩;simp only[SMP.Ok,γX,hlen,hl1,hl2]
     ·trivial
    ·trivial
  | _=>cases dp <;> cases rw <;> exact h0
 | _=>exact h0
theorem JhI {o:Oper} (t:TypeId) (a b:SV) (j:Key) (l2:E) (o2:Ji):(JdE P (Jy o) t a b j l2 o2).Ok B ρ (γX ρ) (match γO ρ o2 with
  | .arr ty' sz' fs true true=>match J3 P t with
   | some e=>if(lst ρ l2).length=fs.length∧ty'=e∧QN P e=some sz'∧fs≠[]∧Vx P e (lst ρ l2).length∧(QB P e).map (·.length)=some sz' then
     .new (Jy o) (.arr e sz' [] true true) (.put j .dead (.put (Jy o) (.arr e sz' fs true true) (.ret (.o (Jy o) (lst ρ l2).length))))
    else .fail
   | none=> .fail
  | _=>XZ P o t (γX ρ a) (γX ρ b)):=by
 have h0:=U5 (B:=B) (ρ:=ρ) (P:=P) (o:=o) t a b;cases o2 with
 | arr ty' sz' f dp' rw' =>
  cases dp' <;> cases rw' <;> first | exact h0 | skip
  simp only[γO,JdE];cases he:J3 P t with
  | none=>trivial
  | some e =>
   simp only;split
   ·rename_i m x r hm;split
    ·rename_i hc;refine QR fun h3=>?_;rw[ZZ,decide_eq_true_eq,Zh,JaA] at h3;have h3:((lst ρ (.cons x r)).length:Int)≤m:=h3;have hl2:=lL1 hc.1 ρ;have hne:lst ρ (.cons x r)≠[]:=by
      show dat ρ x::lst ρ r≠[];simp
     rw[if_pos ⟨hl2,hc.2.1,hc.2.2.1,hne,VV hm (by rw[hl2];omega),hc.2.2.2⟩];refine⟨_,rfl,⟨_,rfl,⟨_,rfl,?_⟩⟩⟩;simp only[SMP.Ok,γX,hl2]
    ·trivial
   ·trivial
 | _=>exact h0
theorem JjB {o:Oper} (dp:Bool) (t:TypeId) (a b:SV):(Jg2 P dp (Jy o) t a b).Ok B ρ (γX ρ) (JcM P dp o t (γX ρ a) (γX ρ b)):=by
 have h0:=U5 (B:=B) (ρ:=ρ) (P:=P) (o:=o) t a b;unfold Jg2;split
 ·rename_i k l j l2;show SMP.Ok B ρ (γX ρ) _ (if k=j then _ else _);split
  ·exact h0
  ·refine⟨_,rfl,fun o1=>⟨_,rfl,fun o2=>?_⟩⟩;exact JiO t (.o k l) (.o j l2) k j l l2 o1 o2
 ·rename_i j l2;show SMP.Ok B ρ (γX ρ) _ (if dp=true then _ else _);split
  ·refine⟨_,rfl,fun o2=>?_⟩;exact JhI t (.d (.vc (.slice none 0 0))) (.o j l2) j l2 o2
  ·exact h0
 ·trivial
 ·rename_i h1 _ h2;unfold JcM;split
  ·rename_i e1 e2;cases a <;> simp only[γX] at e1 <;> try cases e1
   cases b <;> simp only[γX] at e2 <;> try cases e2
   exact(h1 _ _ _ _ rfl rfl).elim
  ·rename_i e1 e2;cases a <;> simp only[γX] at e1 <;> try cases e1
   cases b <;> simp only[γX] at e2 <;> try cases e2
   exact(h2 _ _ _ rfl rfl).elim
  ·exact h0
def Jfs:SV→SMP E
 | .d (.s l)=> .ret l
 | .d (.vc (.slice none 0 0))=> .ret .nil
 | .o k l=> .get k fun
  | .arr _ _ l' _ _=>if l.lsame l' then .ret l' else .fail
  | _=> .fail
 | _=> .fail
theorem Jnv (v:SV):(Jfs v).Ok B ρ (lst ρ) (JdT (γX ρ v)):=by
 unfold Jfs;split
 ·rfl
 ·rfl
 ·refine⟨_,rfl,fun o=>?_⟩;cases o with
  | arr ty sz l' dp rw =>
   simp only[γO];split
   ·rename_i h;rw[if_pos (lL1 h ρ)];rfl
   ·trivial
  | _=>trivial
 ·trivial
def JiN (P:Program) (sg:FuncId→Option Sig) (dp bo:Bool) (o:Oper) (sl:SSl):SMP SV :=
 let r:=sop sl
 match o.op with
 | .move x | .assign x=> .ret (r x)
 | .pick c a b=>match r c with
  | .d (.vb e)=>match e.known with
   | some true=> .ret (r a)
   | some false=> .ret (r b)
   | none=> .fail
  | _=> .fail
 | .alloc t=>match QB P t with
  | some z=>if z.all (·.oneCell) then .new (Jy o) (.box (z.map fun v=> .d (KK v))) (.ret (.p (Jy o) 0)) else .fail
  | none=> .fail
 | .box _ x=>match Yp (r x) with
  | some cs=> .new (Jy o) (.box cs) (.ret (.p (Jy o) 0))
  | none=> .fail
 | .build t ps=>match QB P t,JgJ P t with
  | some z,some pl=>if z.all (·.oneCell) then match Jec pl (z.map fun v=> .d (KK v)) (ps.toList.map fun p=>(p.1,r p.2)) with
   | some cs=> .ret (.g cs)
   | none=> .fail
   else .fail
  | _,_=> .fail
 | .buildSlice t n ps=>Vc P dp (Jy o) t n (ps.toList.map fun p=>(p.1,r p.2))
 | .load t a=>Jgt P t (r a)
 | .store t a x=>Jhc P t (r a) (r x)
 | .nilCheck x=>match r x with
  | .p k off=> .ret (.p k off)
  | .d (.q l)=> .ret (.d (.q l))
  | .f fn cs=> .ret (.f fn cs)
  | .d (.fn f l)=> .ret (.d (.fn f l))
  | _=> .fail
 | .binOp op t x y _=>Jqw P op t (r x) (r y)
 | .unOp op _ x=>sun op (r x)
 | .convert s d x=>Jo8 P s d (r x)
 | .makeFunc (.func f) fs cs=>if fs.isEmpty then .ret (.f f (cs.toList.map r)) else .fail
 | .makeSlice t l c=>WF P dp (Jy o) t (r l) (r c)
 | .slice t x lo hi mx=>match mx with
  | none=>Jok P (Jy o) t (r x) (lo.map r) (hi.map r) none
  | some q=>Jqg P (Jy o) t (r x) (lo.map r) (hi.map r) (r q)
 | .fieldAddr t x i=>WO P t (r x) i
 | .field t x i=>JjS P t (r x) i
 | .indexAddr t x i=>W4 P t (r x) (r i)
 | .extract x i=>match r x with
  | .t cs=>match cs[i]? with
   | some c=> .ret c
   | none=> .fail
  | _=> .fail
 | .call c=>match c.callee with
  | .builtin .len=>match c.args.toList,c.argTypes.toList with
   | [p],[t]=>match J3 P t with
    | some _=>(Jfs (r p)).bind fun l=> .ret (.d (.vi .i64 (JaZ l)))
    | none=> .fail
   | _,_=> .fail
  | .builtin .append=>match c.args.toList,c.argTypes.toList with
   | [p,q],[t,t']=>if t'=t then Jg2 P dp (Jy o) t (r p) (r q) else JdS P (Jy o) t t' (r p) (r q)
   | _,_=> .fail
  | .builtin .cap=>match c.args.toList,c.argTypes.toList with
   | [p],[t]=>if Jju (r p) then match J3 P t with
    | some _=> .ret (.d (.vi .i64 (.z 0)))
    | none=> .fail
    else .fail
   | _,_=> .fail
  | .value f=>match r f with
   | .f fn cs=>JjT sg dp bo (Jy o) fn (c.args.toList.map r++cs)
   | .d (.da n)=>Jo4 n (c.args.toList.map r) (sh1 P o.type)
   | _=> .fail
  | _=> .fail
 | _=> .fail
theorem Jf5 (ρ:Env) (sl:SSl) (ps:List (Nat×Operand)):(ps.map fun p=>(p.1,opX (γs ρ sl) p.2))=(ps.map fun p=>(p.1,sop sl p.2)).map fun p=>(p.1,γX ρ p.2):=by
 rw[List.map_map];exact JuE fun p _=>by simp only[Function.comp,QJ]
theorem JlK (ρ:Env) (sl:SSl) (l:List Operand):l.map (opX (γs ρ sl))=(l.map (sop sl)).map (γX ρ):=by
 rw[List.map_map];exact JuE fun p _=>by simp only[Function.comp,QJ]
theorem JpA (hB:BOk sg B) (o:Oper) (sl:SSl):(JiN P sg (G.dp o) (G.bo o) o sl).Ok B ρ (γX ρ) (opM P (X7 sg B) G (γs ρ sl) o):=by
 unfold JiN opM;cases o.op with
 | move x=>simp only[QJ];rfl
 | assign x=>simp only[QJ];rfl
 | pick c a b =>
  simp only[QJ];split
  ·rename_i e h;split
   ·rename_i hk;rw[h];have:=ZR (ρ:=ρ) hk;rw[show γX ρ (.d (.vb e)) = .d (.v (.bool (bol ρ e))) from rfl,this];rfl
   ·rename_i hk;rw[h];have:=ZR (ρ:=ρ) hk;rw[show γX ρ (.d (.vb e)) = .d (.v (.bool (bol ρ e))) from rfl,this];rfl
   ·trivial
  ·trivial
 | alloc t =>
  simp only;split
  ·rename_i z hz;split
   ·rename_i h;rw[hz];simp only[h,if_true];refine⟨_,by rw[γO,Jx,Jnr];rfl,rfl⟩
   ·trivial
  ·trivial
 | box t x =>
  simp only[QJ];split
  ·rename_i cs h;rw[KY h];exact⟨_,by rw[γO,Jx];rfl,rfl⟩
  ·trivial
 | build t ps =>
  simp only[Jf5];split
  ·rename_i z pl hz hpl;split
   ·rename_i h;split
    ·rename_i cs hcs;have:=JeY (ρ:=ρ) _ _ _ hcs;rw[Jnr] at this;rw[hz,hpl];simp only[h,if_true];rw[this];simp only[SMP.Ok,γX,Jx]
    ·trivial
   ·trivial
  ·trivial
 | buildSlice t n ps=>simp only[Jf5];have h:=JdY (B:=B) (ρ:=ρ) (P:=P) (G.dp o) (Jy o) t n (ps.toList.map fun p=>(p.1,sop sl p.2));rw[Jur] at h;exact h
 | load t a=>simp only[QJ];exact JfO t _
 | store t a x=>simp only[QJ];exact JkG t _ _
 | nilCheck x =>
  simp only[QJ];split
  ·rename_i h;rw[h];rfl
  ·rename_i h;rw[h];rfl
  ·rename_i h;rw[h];rfl
  ·rename_i h;rw[h];rfl
  ·trivial
 | binOp op t x y t'=>simp only[QJ];exact JpB op t x y _ _
 | unOp op t x=>simp only[QJ];exact JqV op _
 | convert s d x=>simp only[QJ];exact Jo3 s d _
 | makeFunc fn fs cs =>
  cases fn with
  | func f =>
   simp only;split
   ·rename_i h;simp only[JlK,SMP.Ok,γX,Jx]
   ·trivial
  | _=>trivial
 | makeSlice t l c=>simp only[QJ];exact JeI _ _ t _ _
 | slice t x lo hi mx =>
  simp only[QJ];have e :∀q:Option Operand,q.map (opX (γs ρ sl))=(q.map (sop sl)).map (γX ρ):=fun q=>by cases q <;> simp[QJ]
  cases mx with
  | none=>simp only[];rw[e,e];exact JmA t _ _ _ none
  | some q=>simp only[];rw[e,e];exact JnO t _ _ _ _
 | fieldAddr t x i=>simp only[QJ];exact JeE t _ i
 | field t x i=>simp only[QJ];exact JmR t _ i
 | indexAddr t x i=>simp only[QJ];exact JeJ t _ _
 | extract x i =>
  simp only[QJ];split
  ·rename_i cs h;rw[h];simp only[γX,Jx,JuD];cases hc:cs[i]? with
   | none=>trivial
   | some c=>rfl
  ·trivial
 | call c =>
  simp only;cases c.callee with
  | builtin b =>
   cases b with
   | len =>
    simp only[QJ];split
    ·rename_i p t hp ht;rw[hp,ht];simp only;split
     ·rename_i e he;have key:((Jfs (sop sl p)).bind fun l=> .ret (.d (.vi .i64 (JaZ l)))).Ok B ρ (γX ρ) ((JdT (γX ρ (sop sl p))).bind fun es=> .ret (.d (.v (goInt es.length)))):=by
       refine SMP.bind_ok (f:=lst ρ) (fun l=>?_) _ _ (Jnv _);show MP.ret (X.d (.v (.int .i64 ((lst ρ l).length:Int))))=MP.ret (X.d (.v (.int .i64 (int ρ (JaZ l)))));rw[Zh]
      by_cases hs : ∃ s,γX ρ (sop sl p) = .d (.v (.string s))
      ·obtain⟨s,hs⟩:=hs;have:Jfs (sop sl p) = .fail:=by
        unfold Jfs;split
        ·rename_i h;rw[h] at hs;exact absurd hs (by simp[γX,dat,den,V.dat])
        ·rename_i h;rw[h] at hs;exact absurd hs (by simp[γX,dat,den,V.dat])
        ·rename_i h;rw[h] at hs;exact absurd hs (by simp[γX])
        ·rfl
       rw[this];trivial
      ·split
       ·rename_i s h;exact absurd ⟨_,h⟩ hs
       ·rw[he];exact key
     ·trivial
    ·trivial
   | append =>
    simp only[QJ];split
    ·rename_i p q t t' hp ht;rw[hp,ht];simp only;split
     ·rename_i htt;exact JjB _ t _ _
     ·exact JhE t _ _ _
    ·trivial
   | cap =>
    simp only[QJ];split
    ·rename_i p t hp ht;rw[hp,ht];simp only;split
     ·rename_i hn;split
      ·rename_i e he;have hv:sop sl p = .d (.vc (.slice none 0 0)):=by
        revert hn
        unfold Jju;split
        ·rename_i h;intro _;exact h
        ·intro h;cases h
       rw[hv,he];rfl
      ·trivial
     ·trivial
    ·trivial
   | _=>trivial
  | value f =>
   simp only[QJ,JlK];split
   ·rename_i fn cs h;rw[h];simp only[γX];rw[Jx,←List.map_append];exact Jmu hB o fn _
   ·rename_i n h;rw[h];exact Joc hB o n _ _
   ·trivial
  | invoke _ _=>trivial
 | _=>trivial
end
end Go.Tm
end
section
namespace Go.Tm
open Go.IntKind (i64)
structure SSt where
 sl:SSl
 m:Yd
inductive Wt where
 | yes | no | fork (d:Tmp) (b:E) (want:Bool) | bad
def Jq7:Option SV→Option E
 | some (.d (.vb b))=>some b
 | _=>none
def Jkd:Option SV→Bool
 | some (.t [])=>true
 | _=>false
def ZC (ops : Array Oper) (sl : SSl) (o : Oper) : Wt := match o.guard with
  | none=> .yes
  | some (j,want)=>match (ops[j]?).bind (·.dst) with
    | some d=>match Jq7 (sl.lookup d) with
      | some b=>match b.known with
        | some t=>if t == want then .yes else .no
        | none=> .fork d b want
      | none=>if Jkd (sl.lookup d) then .no else .bad
    | none=> .bad
def Jij (sl:SSl) (dst:Option Tmp) (v:SV):SSl:=match dst with
 | some d=>(d,v)::sl
 | none=>sl
def JaP:List I→R→R
 | [],r=>r
 | i::is,r=> .i i (JaP is r)
def Ue (t:Bool):E:=if t then .tt else .ff
abbrev Trs:=List (List (Key×Bool))
def Z4 (P : Program) (sg : FuncId → Option Sig) (dp bo : Oper → Bool) (ops : Array Oper) : List Nat → SSl → Yd → Nat → Trs → (SSl → Yd → Nat → Trs → Option R) → Option R
  | [],sl,m,n,trs,k=>k sl m n trs.reverse
  | i::l,sl,m,n,trs,k=>match ops[i]? with
    | none=>none
    | some o =>
      let go:=fun(sl:SSl) (b:Bool)=>if b then match (JiN P sg (dp o) (bo o) o sl).run m n with
          | some r=>match Z4 P sg dp bo ops l (Jij sl o.dst r.val) r.m r.n (r.tr::trs) k with
            | some R=>some (JaP r.is R)
            | none=>none
          | none=>none
        else Z4 P sg dp bo ops l (Jij sl o.dst (.t [])) m n ([]::trs) k
      match ZC ops sl o with
      | .yes=>go sl true
      | .no=>go sl false
      | .fork d b want=>match go ((d,.d (.vb .tt))::sl) want,go ((d,.d (.vb .ff))::sl) (!want) with
        | some x,some y=>some (.ite b x y)
        | _,_=>none
      | .bad=>none
section
variable {B:Tb} {ρ:Env} {sg:FuncId→Option Sig} {P:Program} {G:Qb} {ops:Array Oper} {N:Nat}
theorem Vs :∀(is:List I) (r:R) (o:Oc),Run B N (JaP is r) ρ o→(∀i∈is,i.holds B ρ)∧Run B N r ρ o
 | [],r,o,h=>⟨fun i hi=>by simp at hi,h⟩
 | i::is,r,o,h=>by
  obtain⟨h1,h2⟩:=h;obtain⟨h3,h4⟩:=Vs is r o h2;exact⟨fun j hj=>by
   rcases JuB.1 hj with rfl | hj
   ·exact h1
   ·exact h3 j hj,h4⟩
theorem JkV (sl:SSl) (dst:Option Tmp) (v:SV):UP (γs ρ sl) dst (γX ρ v)=γs ρ (Jij sl dst v):=by
 cases dst with
 | none=>rfl
 | some d=>exact(JcB ρ sl d v).symm
theorem Je7 {sl:SSl} {d:Tmp} {v:SV} (h:sl.lookup d=some v):γs ρ sl d=γX ρ v:=by unfold γs;rw[h]
theorem Jlu {sl:SSl} {d:Tmp} {b:E} {t:Bool} (h:sl.lookup d=some (.d (.vb b))) (ht:bol ρ b=t):γs ρ ((d,.d (.vb (Ue t)))::sl)=γs ρ sl:=by
 rw[JcB]
 funext j
 unfold upd;split
 ·rename_i hj;subst hj;rw[Je7 h];show X.d (.v (.bool (bol ρ (Ue t))))=X.d (.v (.bool (bol ρ b)));rw[ht];cases t <;> rfl
 ·rfl
theorem Jg1 {sl:SSl} {d:Tmp} {b:E} (h:Jq7 (sl.lookup d)=some b):γs ρ sl d=X.d (.v (.bool (bol ρ b)))∧sl.lookup d=some (.d (.vb b)):=by
 unfold Jq7 at h;split at h
 ·rename_i b' hl;simp only[Juh] at h;subst h;exact⟨by rw[Je7 hl];rfl,hl⟩
 ·cases h
theorem Jhm {sl:SSl} {o:Oper} (h:ZC ops sl o = .yes):Q1 ops (γs ρ sl) o=some true:=by
 unfold ZC at h;unfold Q1;split at h
 ·rename_i hg;rw[hg]
 ·rename_i j want hg;rw[hg];simp only;split at h
  ·rename_i d hd;rw[hd];simp only;split at h
   ·rename_i b hb;rw[(Jg1 (ρ:=ρ) hb).1];split at h
    ·rename_i t ht;split at h
     ·rename_i hw;rw[ZR ht];simpa using hw
     ·cases h
    ·cases h
   ·split at h <;> cases h
  ·cases h
theorem JlY {sl:SSl} {d:Tmp} (h:Jkd (sl.lookup d)=true):γs ρ sl d=X.t []:=by
 unfold Jkd at h;split at h
 ·rename_i hl;rw[Je7 hl];rfl
 ·cases h
theorem JjA {sl:SSl} {o:Oper} (h:ZC ops sl o = .no):Q1 ops (γs ρ sl) o=some false:=by
 unfold ZC at h;unfold Q1;split at h
 ·cases h
 ·rename_i j want hg;rw[hg];simp only;split at h
  ·rename_i d hd;rw[hd];simp only;split at h
   ·rename_i b hb;rw[(Jg1 (ρ:=ρ) hb).1];split at h
    ·rename_i t ht;split at h
     ·cases h
     ·rename_i hw;rw[ZR ht];simpa using hw
    ·cases h
   ·split at h
    ·rename_i h0;rw[JlY (ρ:=ρ) h0]
    ·cases h
  ·cases h
theorem JgV {sl:SSl} {o:Oper} {d:Tmp} {b:E} {want:Bool} (h:ZC ops sl o = .fork d b want):sl.lookup d=some (.d (.vb b))∧Q1 ops (γs ρ sl) o=some (bol ρ b == want):=by
 unfold ZC at h;unfold Q1;split at h
 ·cases h
 ·rename_i j want' hg;rw[hg];simp only;split at h
  ·rename_i d' hd;rw[hd];simp only;split at h
   ·rename_i b' hb;obtain⟨h1,h2⟩:=Jg1 (ρ:=ρ) hb;rw[h1];split at h
    ·split at h <;> cases h
    ·cases h;exact⟨h2,rfl⟩
   ·split at h <;> cases h
  ·cases h
theorem W7 (hB : BOk sg B) : ∀ (l : List Nat) (sl : SSl) (m : Yd) (n : Nat) (trs : Trs) (k : SSl → Yd → Nat → Trs → Option R) (R : R) (o : Oc),Z4 P sg G.dp G.bo ops l sl m n trs k = some R → Run B N R ρ o →
    ∃ sl' m' n' tl R',X9 P (X7 sg B) G ops l ⟨γs ρ sl,γm ρ m⟩=some (⟨γs ρ sl',γm ρ m'⟩,tl)∧k sl' m' n' (trs.reverse++tl)=some R'∧Run B N R' ρ o
  | [],sl,m,n,trs,k,R,o,h,hr=>⟨sl,m,n,[],R,rfl,by simpa[Z4] using h,hr⟩
  | i::l,sl,m,n,trs,k,R,o,h,hr=>by
    have ih:=W7 hB l
    simp only[Z4] at h
    cases hi:ops[i]? with
    | none=>simp[hi] at h
    | some op =>
      simp only[hi] at h
      have yes :∀(sl:SSl) (R:Go.Tm.R),(match (JiN P sg (G.dp op) (G.bo op) op sl).run m n with
          | some r=>match Z4 P sg G.dp G.bo ops l (Jij sl op.dst r.val) r.m r.n (r.tr::trs) k with
            | some R=>some (JaP r.is R)
            | none=>none
          | none=>none)=some R→Run B N R ρ o→Q1 ops (γs ρ sl) op=some true →
          ∃ sl' m' n' tl R',X9 P (X7 sg B) G ops (i::l) ⟨γs ρ sl,γm ρ m⟩=some (⟨γs ρ sl',γm ρ m'⟩,tl)∧k sl' m' n' (trs.reverse++tl)=some R'∧Run B N R' ρ o:=by
        intro sl R h hr hw
        split at h
        · rename_i r hrun
          split at h
          · rename_i R1 h1
            simp only[Juh] at h;subst h
            obtain⟨his,hr⟩:=Vs _ _ _ hr
            have hT:=SMP.run_ok _ _ _ _ _ (JpA (G:=G) (P:=P) hB op sl) hrun his
            obtain⟨sl',m',n',tl,R',e1,e2,e3⟩:=ih _ _ _ _ k R1 o h1 hr
            refine⟨sl',m',n',r.tr::tl,R',?_,by simpa using e2,e3⟩
            simp only[X9,hi,evM,hw,hT,JkV,e1]
          · cases h
        · cases h
      have no :∀(sl:SSl) (R:Go.Tm.R),Z4 P sg G.dp G.bo ops l (Jij sl op.dst (.t [])) m n ([]::trs) k=some R→Run B N R ρ o→Q1 ops (γs ρ sl) op=some false →
          ∃ sl' m' n' tl R',X9 P (X7 sg B) G ops (i::l) ⟨γs ρ sl,γm ρ m⟩=some (⟨γs ρ sl',γm ρ m'⟩,tl)∧k sl' m' n' (trs.reverse++tl)=some R'∧Run B N R' ρ o:=by
        intro sl R h hr hw
        obtain⟨sl',m',n',tl,R',e1,e2,e3⟩:=ih _ _ _ _ k R o h hr
        refine⟨sl',m',n',[]::tl,R',?_,by simpa using e2,e3⟩
        have e0:UP (γs ρ sl) op.dst (.t [])=γs ρ (Jij sl op.dst (.t [])):=JkV sl op.dst (.t [])
        simp only[X9,hi,evM,hw,MP.runT,e0,e1]
      cases hsw:ZC ops sl op with
      | yes =>
        simp only[hsw,if_true] at h
        exact yes sl R h hr (Jhm hsw)
      | no =>
        simp only[hsw,Juy,if_false] at h
        exact no sl R h hr (JjA hsw)
      | bad=>simp[hsw] at h
      | fork d b want =>
        simp only[hsw] at h
        obtain⟨hd,hw⟩:=JgV (ρ:=ρ) hsw
        split at h
        · rename_i x y hx hy
          simp only[Juh] at h;subst h
          have part :∀(t:Bool) (w:Bool) (z:Go.Tm.R),bol ρ b=t→(t == want)=w→(if w=true then(match (JiN P sg (G.dp op) (G.bo op) op ((d,.d (.vb (Ue t)))::sl)).run m n with
                | some r=>match Z4 P sg G.dp G.bo ops l (Jij ((d,.d (.vb (Ue t)))::sl) op.dst r.val) r.m r.n (r.tr::trs) k with
                  | some R=>some (JaP r.is R)
                  | none=>none
                | none=>none) else Z4 P sg G.dp G.bo ops l (Jij ((d,.d (.vb (Ue t)))::sl) op.dst (.t [])) m n ([]::trs) k)=some z→Run B N z ρ o →
              ∃ sl' m' n' tl R',X9 P (X7 sg B) G ops (i::l) ⟨γs ρ sl,γm ρ m⟩=some (⟨γs ρ sl',γm ρ m'⟩,tl)∧k sl' m' n' (trs.reverse++tl)=some R'∧Run B N R' ρ o:=by
            intro t w z ht hwt hz hrz
            have hk:=Jlu hd ht
            rw[←hk]
            rw[←hk,ht] at hw
            cases w with
            | true=>simp only[if_true] at hz;exact yes _ z hz hrz (by rw[hw,hwt])
            | false=>simp only[Juy,if_false] at hz;exact no _ z hz hrz (by rw[hw,hwt])
          simp only[Run] at hr
          cases hb:bol ρ b with
          | true =>
            rw[hb] at hr
            exact part true want x hb (by cases want <;> rfl) hx hr
          | false =>
            rw[hb] at hr
            simp only[Juy,if_false] at hr
            exact part false (!want) y hb (by cases want <;> rfl) hy hr
        · cases h
theorem Uz {T:Tab} :∀(l:List Nat) (st st':St) (tl:Trs),X9 P T G ops l st=some (st',tl)→UL P T G ops l st=some st'
 | [],st,st',tl,h=>by
  simp only[X9,Juh,Juz] at h;simp only[UL,h.1]
 | i::l,st,st',tl,h=>by
  simp only[X9] at h;split at h
  ·cases h
  ·rename_i o ho;split at h
   ·cases h
   ·rename_i p hp;split at h
    ·cases h
    ·rename_i x m1 t1 hr;split at h
     ·cases h
     ·rename_i st2 ts h2;simp only[Juh,Juz] at h;obtain⟨rfl,rfl⟩:=h;rw[MP.runT_eq] at hr;cases hrun:p.run st.m with
      | none=>simp[hrun] at hr
      | some q =>
       obtain⟨x',m'⟩:=q;simp only[hrun,Juk,Juh,Juz] at hr;obtain⟨rfl,rfl,_⟩:=hr;have:=(JaJ ho hp hrun).1;simp only[UL,this];exact Uz l _ _ _ h2
end
end Go.Tm
end
section
namespace Go.Tm
open Go.IntKind (i64)
section
variable {P:Program} {c:Cx P} {g:Gh} {m mk:Mem} {w:World} {a:Act} {ρ ρ':Env}
def JmN (m mk:Mem) (k:Key):Prop:=mk k=m k∨∃ cs cs',m k=some (.box cs)∧mk k=some (.box cs')
mutual
theorem Jlt (hM :∀b,Mut g mk b→Mut g m b) :∀(x:X) (v:Value),(∀k∈x.names,JmN m mk k)→VX c g m w x v→VX c g mk w x v
 | .d x,v,_,⟨fp,h1,h2⟩=>⟨fp,h1,fun b hb=>⟨fun h=>(h2 b hb).1 (hM b h),(h2 b hb).2⟩⟩
 | .g cs,v,hn,⟨vs,e,h,h1⟩=>⟨vs,e,UF hM cs vs (fun k hk=>hn k (by simpa[X.names] using hk)) h,h1⟩
 | .t cs,v,hn,⟨vs,e,h⟩=>⟨vs,e,UF hM cs vs (fun k hk=>hn k (by simpa[X.names] using hk)) h⟩
 | .f fn cs,v,hn,⟨vs,e,h⟩=>⟨vs,e,UF hM cs vs (fun k hk=>hn k (by simpa[X.names] using hk)) h⟩
 | .o k n,v,hn,⟨h1,⟨o,ho,hb⟩,h2⟩=>by
  have e:mk k=m k:=by
   rcases hn k (by simp[X.names]) with e | ⟨cs,cs',h,_⟩
   ·exact e
   ·rw[ho] at h;cases h;exact absurd rfl (hb cs)
  exact⟨h1,⟨o,by rw[e];exact ho,hb⟩,fun ty sz es dp rw h=>h2 ty sz es dp rw (by rw[←e];exact h)⟩
 | .p k off,v,hn,⟨cs,b,h1,h2,h3⟩=>by
  rcases hn k (by simp[X.names]) with e | ⟨cs1,cs2,_,h⟩
  ·exact⟨cs,b,by rw[e];exact h1,h2,h3⟩
  ·exact⟨cs2,b,h,h2,h3⟩
 | .e k n i off,v,hn,⟨h1,⟨o,ho,hb⟩,h2⟩=>by
  have e:mk k=m k:=by
   rcases hn k (by simp[X.names]) with e | ⟨cs,cs',h,_⟩
   ·exact e
   ·rw[ho] at h;cases h;exact absurd rfl (hb cs)
  exact⟨h1,⟨o,by rw[e];exact ho,hb⟩,fun ty sz es dp rw h=>h2 ty sz es dp rw (by rw[←e];exact h)⟩
 | .u,_,_,_=>trivial
theorem UF (hM :∀b,Mut g mk b→Mut g m b) :∀(xs:List X) (vs:List Value),(∀k∈Qp xs,JmN m mk k)→VXs c g m w xs vs→VXs c g mk w xs vs
 | [],_,_,h=>h
 | x::xs,vs,hn,⟨v,vs',e,h1,h2⟩=>⟨v,vs',e,Jlt hM x v (fun k hk=>hn k (by simp[Qp,hk])) h1,UF hM xs vs' (fun k hk=>hn k (by simp[Qp,hk])) h2⟩
end
def Um:SV→SV→SV
 | .d (.vc _),v=>v
 | .d _,.d e=> .d e.norm
 | .g ps,.g vs=> .g (go ps vs)
 | _,v=>v
where
 go:List SV→List SV→List SV
 | p::ps,v::vs=>Um p v::go ps vs
 | _,vs=>vs
theorem E_norm_dat (ρ:Env) (e:E):dat ρ e.norm=dat ρ e∨dat ρ e.norm=(dat ρ e).norm:=by
 unfold E.norm;split
 ·exact .inr rfl
 ·exact .inl rfl
mutual
theorem Jfz :∀(p v:SV) (u:Value),VX c g m w (γX ρ v) u→VX c g m w (γX ρ (Um p v)) u
 | .d p,v,u,h=>by
  cases p with
  | vc _=>exact h
  | _ =>
   cases v with
   | d e =>
    rcases E_norm_dat ρ e with h1 | h1
    ·simp only[Um,γX,h1];exact h
    ·simp only[Um,γX,h1];exact Jli (.d _) u h
   | _=>exact h
 | .g ps,v,u,h=>by
  cases v with
  | g vs =>
   obtain⟨us,e,h1,h2⟩:=h;exact⟨us,e,WJ ps vs us h1,h2⟩
  | _=>exact h
 | .o _ _,v,u,h=>h
 | .p _ _,v,u,h=>h
 | .e _ _ _ _,v,u,h=>h
 | .f _ _,v,u,h=>h
 | .t _,v,u,h=>h
 | .u,v,u,h=>h
theorem WJ :∀(ps vs:List SV) (us:List Value),VXs c g m w (γXs ρ vs) us→VXs c g m w (γXs ρ (Um.go ps vs)) us
 | [],vs,us,h=>h
 | _::_,[],us,h=>h
 | p::ps,v::vs,us,⟨u,us',e,h1,h2⟩=>⟨u,us',e,Jfz p v u h1,WJ ps vs us' h2⟩
end
def Jb3:Ji→Ji→Ji
 | .box ps,.box vs=> .box (Um.go ps vs)
 | _,o=>o
def Jcx:SSl→SSl→Option (List (E×E))
 | [],_=>some []
 | (t,p)::ts,sl=>match sl.lookup t with
  | some v=>match mv p (Um p v) with
   | some l=>match Jcx ts sl with
    | some l'=>some (l++l')
    | none=>none
   | none=>none
  | none=>none
def JgB:Yd→Yd→Option (List (E×E))
 | [],_=>some []
 | (k,p)::ts,m=>match m.lookup k with
  | some o=>match mo p (Jb3 p o) with
   | some l=>match JgB ts m with
    | some l'=>some (l++l')
    | none=>none
   | none=>none
  | none=>none
def UV (m:Yd) (k:Key):Bool:=(m.lookup k).isSome
def Jdn (cn cnt:Nat) (t s:SSt) (nl:Nat):Option (List E):=match Jcx t.sl s.sl,JgB t.m s.m with
 | some p,some q=>match Jjt cn (p++q) with
  | some bs=>if JbJ bs&&bs.all (fun b=>Nat.blt b.1 (cn+cnt))&&(t.sl.flatMap (fun x=>x.2.names)++t.m.flatMap fun x=>x.2.names).all (UV t.m)&&(List.range nl).all (UV t.m)
   then(List.range cnt).mapM fun i=>bs.lookup (cn+i) else none
  | none=>none
 | _,_=>none
def SSt.fresh (s:SSt):SSt:=⟨s.sl.map fun p=>(p.1,U2 (holds? s.m) p.2),s.m.map fun p=>(p.1,JgS (holds? s.m) p.2)⟩
def JcE (cn cnt:Nat) (t s:SSt) (nl:Nat):Option (List E):=Jdn cn cnt t s.fresh nl
theorem Zc {α:Type} (f:α→α) :∀(l:List (Nat×α)) (k:Nat),(l.map fun p=>(p.1,f p.2)).lookup k=(l.lookup k).map f
 | [],k=>rfl
 | (j,x)::l,k=>by
  simp only[Juq,List.lookup_cons]
  by_cases h:k=j
  ·subst h;simp
  ·have hb:(k == j)=false:=by simpa using h
   simp only[hb,Zc f l k]
theorem Jjh (ρ:Env) (s:SSt):γs ρ s.fresh.sl=γs ρ s.sl∧γm ρ s.fresh.m=γm ρ s.m:=by
 refine⟨?_,?_⟩
 ·funext t
  unfold γs SSt.fresh;simp only[Zc];cases s.sl.lookup t with
  | none=>rfl
  | some v=>exact Je0 ρ _ v
 ·funext k
  unfold γm SSt.fresh;simp only[Zc,Option.map_map];cases s.m.lookup k with
  | none=>rfl
  | some o=>simp only[Juk,Function.comp,JfF]
theorem JcZ :∀(t sl:SSl) (l:List (E×E)),Jcx t sl=some l→∀x∈t,∃ v l',sl.lookup x.1=some v∧mv x.2 (Um x.2 v)=some l'∧∀q∈l',q∈l
 | [],sl,l,h,x,hx=>by simp at hx
 | (t,p)::ts,sl,l,h,x,hx=>by
  simp only[Jcx] at h;split at h
  ·rename_i v hv;split at h
   ·rename_i l1 h1;split at h
    ·rename_i l2 h2;simp only[Juh] at h;subst h;rcases JuB.1 hx with rfl | hx
     ·exact⟨v,l1,hv,h1,fun q hq=>by simp[hq]⟩
     ·obtain⟨v',l',e1,e2,e3⟩:=JcZ ts sl l2 h2 x hx;exact⟨v',l',e1,e2,fun q hq=>by simp[e3 q hq]⟩
    ·cases h
   ·cases h
  ·cases h
theorem Jfq :∀(t m:Yd) (l:List (E×E)),JgB t m=some l→∀x∈t,∃ v l',m.lookup x.1=some v∧mo x.2 (Jb3 x.2 v)=some l'∧∀q∈l',q∈l
 | [],sl,l,h,x,hx=>by simp at hx
 | (t,p)::ts,sl,l,h,x,hx=>by
  simp only[JgB] at h;split at h
  ·rename_i v hv;split at h
   ·rename_i l1 h1;split at h
    ·rename_i l2 h2;simp only[Juh] at h;subst h;rcases JuB.1 hx with rfl | hx
     ·exact⟨v,l1,hv,h1,fun q hq=>by simp[hq]⟩
     ·obtain⟨v',l',e1,e2,e3⟩:=Jfq ts sl l2 h2 x hx;exact⟨v',l',e1,e2,fun q hq=>by simp[e3 q hq]⟩
    ·cases h
   ·cases h
  ·cases h
theorem Yo {α:Type} :∀(l:List (Nat×α)) (k:Nat) (v:α),l.lookup k=some v→(k,v)∈l
 | [],k,v,h=>by simp at h
 | (j,x)::l,k,v,h=>by
  simp only[List.lookup_cons] at h
  by_cases hk:k=j
  ·subst hk;simp at h;subst h;simp
  ·have hb:(k == j)=false:=by simpa using hk
   rw[hb] at h;simp[Yo l k v h]
theorem Jla {α:Type} {f:Nat→Option α} :∀(n a:Nat) (l:List α),(List.range' a n).mapM f=some l→∀i,i<n→∃ x,f (a+i)=some x∧l[i]? = some x
 | 0,a,l,h,i,hi=>by omega
 | n+1,a,l,h,i,hi=>by
  rw[List.range'_succ,List.mapM_cons] at h;cases hf:f a with
  | none=>simp[hf] at h
  | some x =>
   cases hr:(List.range' (a+1) n).mapM f with
   | none=>simp[hf,hr] at h
   | some l' =>
    simp[hf,hr] at h;subst h;cases i with
    | zero=>exact⟨x,hf,rfl⟩
    | succ i =>
     obtain⟨y,h1,h2⟩:=Jla n (a+1) l' hr i (by omega);exact⟨y,by rw[←h1];congr 1;omega,by simpa using h2⟩
theorem JdR {p o:Ji}:(∃ cs cs',γO ρ o = .box cs∧γO ρ (Jb3 p o) = .box cs'∧∀us,VXs c g m w cs us→VXs c g m w cs' us)∨(γO ρ (Jb3 p o)=γO ρ o∧∀cs,γO ρ o≠ .box cs):=by
 cases o with
 | box vs =>
  cases p with
  | box ps=>exact .inl ⟨_,_,rfl,rfl,fun us h=>WJ ps vs us h⟩
  | _=>exact .inl ⟨_,_,rfl,rfl,fun us h=>h⟩
 | arr ty sz l dp rw=>exact .inr ⟨by cases p <;> rfl,fun cs=>by simp[γO]⟩
 | dead=>exact .inr ⟨by cases p <;> rfl,fun cs=>by simp[γO]⟩
theorem Ji2 {cn cnt:Nat} {t s:SSt} {nl:Nat} {vs:List E} (h:Jdn cn cnt t s nl=some vs) (ha:Jv cn ρ ρ') (hset:Jb4 cn (vs.map (den ρ)) ρ')
  {g0:Gh} {m0:Mem} {w0:World} (hl :∀k,m0 k≠none→k<nl) (hS:Sim c g (γm ρ s.m) w) (hH:Jt c g (γm ρ s.m) w (γs ρ s.sl) a) (hC:Jf c g0 m0 w0 g (γm ρ s.m) w) :
  Sim c g (γm ρ' t.m) w∧Jt c g (γm ρ' t.m) w (γs ρ' t.sl) a∧Jf c g0 m0 w0 g (γm ρ' t.m) w:=by
 unfold Jdn at h;split at h
 ·rename_i p q hp hq;split at h
  ·rename_i bs hbs;split at h
   ·rename_i hc;simp only[Jui] at hc;obtain⟨⟨⟨hcon,hlt⟩,hclo⟩,hlent⟩:=hc;rw[List.range_eq_range'] at h;have hat:=Jla cnt 0 vs h;have hρ :∀b∈bs,cn≤b.1→ρ' b.1=den ρ b.2:=by
     intro b hb hcb;have h1:=Juv.1 hlt b hb;have h1:b.1<cn+cnt:=Nat.lt_of_succ_le (Nat.le_of_ble_eq_true h1);obtain⟨x,e1,e2⟩:=hat (b.1-cn) (by omega);have e1:bs.lookup b.1=some x:=by rw[←e1];congr 1;omega
     have h2:=hset (b.1-cn) (den ρ x) (by rw[JuD,e2];rfl);rw[show cn+(b.1-cn)=b.1 by omega] at h2;have h3:=Juv.1 hcon b hb;rw[e1] at h3;rw[h2];exact V2 _ _ h3 ρ
    have hpair :∀z∈p++q,dat ρ' z.1=dat ρ z.2:=by
     intro z hz;obtain⟨r,h1,h2⟩:=JcX _ _ hbs z hz;refine JoY h1 ha fun j x hr=>?_;subst hr;exact hρ (j,x) (h2 _ rfl) (JoU h1)
    have hobj :∀k po,t.m.lookup k=some po→∃ o,s.m.lookup k=some o∧γO ρ' po=γO ρ (Jb3 po o):=by
     intro k po hk;obtain⟨o,l',e1,e2,e3⟩:=Jfq _ _ _ hq (k,po) (Yo _ _ _ hk);exact⟨o,e1,Jqh e2 fun z hz=>hpair z (by simp[e3 z hz])⟩
    have hmk :∀k o',γm ρ' t.m k=some o'→∃ po o,t.m.lookup k=some po∧s.m.lookup k=some o∧o'=γO ρ (Jb3 po o):=by
     intro k o' hk;unfold γm at hk;cases hl':t.m.lookup k with
     | none=>rw[hl'] at hk;cases hk
     | some po =>
      rw[hl'] at hk;simp only[Juk,Juh] at hk;obtain⟨o,e1,e2⟩:=hobj k po hl';exact⟨po,o,rfl,e1,by rw[←hk,e2]⟩
    have hrw :∀po o:Ji,(γO ρ (Jb3 po o)).rw=(γO ρ o).rw:=by
     intro po o;cases o with
     | box vs=>cases po <;> rfl
     | _=>cases po <;> rfl
    have hM :∀b,Mut g (γm ρ' t.m) b→Mut g (γm ρ s.m) b:=by
     rintro b ⟨k,o',hk,hr,hb⟩;obtain⟨po,o,_,e2,rfl⟩:=hmk k o' hk;refine⟨k,γO ρ o,Xd e2,by rw[←hrw po];exact hr,?_⟩;have hdp:(γO ρ (Jb3 po o)).dpw=(γO ρ o).dpw:=by
      cases o with
      | box vs=>cases po <;> rfl
      | _=>cases po <;> rfl
     unfold Blk at hb ⊢;rw[hdp] at hb;exact hb
    have hlike :∀k,UV t.m k=true→JmN (γm ρ s.m) (γm ρ' t.m) k:=by
     intro k hk;obtain⟨po,hpo⟩:=Option.isSome_iff_exists.1 hk;obtain⟨o,e1,e2⟩:=hobj k po hpo;rw[JmN,Xd e1,Xd hpo,e2];rcases JdR (c:=c) (g:=g) (m:=γm ρ s.m) (w:=w) (ρ:=ρ) (p:=po) (o:=o) with ⟨cs,cs',h1,h2,_⟩ | ⟨h1,_⟩
     ·exact .inr ⟨cs,cs',by rw[h1],by rw[h2]⟩
     ·exact .inl (by rw[h1])
    have hnames :∀x∈t.sl,∀k∈x.2.names,UV t.m k=true:=by
     intro x hx k hk;exact Juv.1 hclo k (List.mem_append_left _ (List.mem_flatMap.2 ⟨x,hx,hk⟩))
    have hmnames :∀x∈t.m,∀k∈x.2.names,UV t.m k=true:=by
     intro x hx k hk;exact Juv.1 hclo k (List.mem_append_right _ (List.mem_flatMap.2 ⟨x,hx,hk⟩))
    refine⟨Sim.restrict hS fun k o' hk=>?_,fun tt=>?_,⟨hC.size,fun b h1 h2 h3=>⟨(hC.pure b h1 h2 h3).1,fun hm=>(hC.pure b h1 h2 h3).2 (hM b hm)⟩,fun k cs hk=>?_,fun k ty sz es dp rw hk=>?_,fun k hk=>?_⟩⟩
    ·obtain⟨po,o,e1,e2,rfl⟩:=hmk k o' hk;refine⟨⟨_,Xd e2,(hrw po o).symm⟩,fun cs hcs=>?_,fun ty sz es dp rw he=>?_⟩
     ·rcases JdR (c:=c) (g:=g) (m:=γm ρ s.m) (w:=w) (ρ:=ρ) (p:=po) (o:=o) with ⟨cs1,cs2,h1,h2,h3⟩ | ⟨h1,h2⟩
      ·rw[h2] at hcs;cases hcs;obtain⟨b,us,ty,a1,a2,a3,a4⟩:=hS.box k cs1 (by rw[Xd e2,h1]);refine⟨b,us,ty,a1,a2,UF hM _ _ (fun j hj=>hlike j ?_) (h3 us a3),a4⟩;have hx:(γO ρ' po).names=po.names:=JfS ρ' po;have hn:po.names=Qp cs:=by
        have hob:γO ρ' po = .box cs:=by
         have:=hk;rw[Xd e1,h2] at this;exact Option.some.inj this
        rw[←hx,hob];rfl
       exact hmnames (k,po) (Yo _ _ _ e1) j (by rw[hn];exact hj)
      ·rw[h1] at hcs;exact absurd hcs (h2 cs)
     ·rcases JdR (c:=c) (g:=g) (m:=γm ρ s.m) (w:=w) (ρ:=ρ) (p:=po) (o:=o) with ⟨cs1,cs2,h1,h2,h3⟩ | ⟨h1,h2⟩
      ·rw[h2] at he;cases he
      ·rw[Xd e2,h1]
    ·unfold γs;cases hlk:t.sl.lookup tt with
     | none=>trivial
     | some pv =>
      simp only;obtain⟨v,l',e1,e2,e3⟩:=JcZ _ _ _ hp (tt,pv) (Yo _ _ _ hlk);have hv:=hH tt;rw[Je7 e1] at hv;have e4:γX ρ' pv=γX ρ (Um pv v):=Jqi _ _ _ e2 fun z hz=>hpair z (by simp[e3 z hz]);rw[e4];refine Jlt hM _ _ (fun k hk=>hlike k ?_) (Jfz pv v _ hv);rw[←e4,K9] at hk;exact hnames (tt,pv) (Yo _ _ _ hlk) k hk
    ·have hkey:UV t.m k=true:=Juv.1 hlent k (List.mem_range.2 (hl k (by rw[hk];simp)));obtain⟨⟨cs',h1⟩,h2⟩:=hC.box k cs hk;refine⟨?_,h2⟩;rcases hlike k hkey with e | ⟨a1,a2,_,e⟩
     ·exact⟨cs',by rw[e];exact h1⟩
     ·exact⟨a2,e⟩
    ·have hkey:UV t.m k=true:=Juv.1 hlent k (List.mem_range.2 (hl k (by rw[hk];simp)));rcases hlike k hkey with e | ⟨a1,a2,e1,e⟩
     ·rw[e];exact hC.arr k ty sz es dp rw hk
     ·rcases hC.arr k ty sz es dp rw hk with h1 | ⟨_,_,_,h1,_⟩
      ·rw[e1] at h1;cases h1
      ·rw[e1] at h1;cases h1
    ·have hkey:UV t.m k=true:=Juv.1 hlent k (List.mem_range.2 (hl k (by rw[hk];simp)));rcases hlike k hkey with e | ⟨a1,a2,e1,e⟩
     ·rw[e];exact hC.dead k hk
     ·have:=hC.dead k hk;rw[e1] at this;cases this
   ·cases h
  ·cases h
 ·cases h
theorem WM {cn cnt:Nat} {t s:SSt} {nl:Nat} {vs:List E} (h:JcE cn cnt t s nl=some vs) (ha:Jv cn ρ ρ') (hset:Jb4 cn (vs.map (den ρ)) ρ')
  {g0:Gh} {m0:Mem} {w0:World} (hl :∀k,m0 k≠none→k<nl) (hS:Sim c g (γm ρ s.m) w) (hH:Jt c g (γm ρ s.m) w (γs ρ s.sl) a) (hC:Jf c g0 m0 w0 g (γm ρ s.m) w) :
  Sim c g (γm ρ' t.m) w∧Jt c g (γm ρ' t.m) w (γs ρ' t.sl) a∧Jf c g0 m0 w0 g (γm ρ' t.m) w:=by
 obtain⟨e1,e2⟩:=Jjh ρ s;exact Ji2 h ha hset hl (by rw[e2];exact hS) (by rw[e1,e2];exact hH) (by rw[e2];exact hC)
def X1 (keep:List Tmp) (sl:SSl):SSl:=keep.filterMap fun t=>match sl.lookup t with
 | some v=>some (t,v)
 | none=>none
theorem Jnq (keep:List Tmp) (sl:SSl) (t:Tmp):(X1 keep sl).lookup t=none∨(X1 keep sl).lookup t=sl.lookup t:=by
 induction keep with
 | nil=>exact .inl rfl
 | cons s keep ih =>
  unfold X1 at ih ⊢;cases h:sl.lookup s with
  | none=>rw[List.filterMap_cons_none (by rw[h])];exact ih
  | some v =>
   rw[List.filterMap_cons_some (b:=(s,v)) (by rw[h])];simp only[List.lookup_cons]
   by_cases hts:t=s
   ·subst hts;right;simp[h]
   ·have hb:(t == s)=false:=by simpa using hts
    rw[hb];exact ih
theorem Jc1 (keep:List Tmp) {sl:SSl} (h:Jt c g m w (γs ρ sl) a):Jt c g m w (γs ρ (X1 keep sl)) a:=by
 intro t;have ht:=h t;unfold γs at ht ⊢;rcases Jnq keep sl t with e | e
 ·rw[e];trivial
 ·rw[e];exact ht
inductive Loc where
 | slot (t:Tmp)
 | cell (k:Key) (off:Nat)
 | kill (k:Key)
structure JiH where
 at_:Loc
 key:Key
 ty:TypeId
 sz:Nat
 dp:Bool:=false
 mv:Bool:=false
def Jfi (o:JiH) (s:SSt):SSt:=if(s.m.lookup o.key).isSome then s else match o.at_ with
 | .slot t=>match s.sl.lookup t with
  | some (.d (.vc (.slice none 0 0)))=>⟨(t,.o o.key .nil)::s.sl,(o.key,.arr o.ty o.sz .nil o.dp true)::s.m⟩
  | some (.o j l)=>if o.mv then match s.m.lookup j with
   | some (.arr ty sz l' dp true)=>if l.lsame l' then ⟨(t,.o o.key l')::s.sl,(o.key,.arr ty sz l' dp true)::(j,.dead)::s.m⟩ else s
   | _=>s
   else s
  | _=>s
 | .cell k off=>match s.m.lookup k with
  | some (.box cs)=>match cs[off]? with
   | some (.d (.vc (.slice none 0 0)))=>⟨s.sl,(k,.box (cs.set off (.o o.key .nil)))::(o.key,.arr o.ty o.sz .nil o.dp true)::s.m⟩
   | some (.o j l)=>if o.mv then match s.m.lookup j with
    | some (.arr ty sz l' dp true)=>if l.lsame l' then ⟨s.sl,(k,.box (cs.set off (.o o.key l')))::(o.key,.arr ty sz l' dp true)::(j,.dead)::s.m⟩ else s
    | _=>s
    else s
   | _=>s
  | _=>s
 | .kill j=>match s.m.lookup j with
  | some (.arr ty sz l' dp true)=>⟨s.sl,(o.key,.arr ty sz l' dp true)::(j,.dead)::s.m⟩
  | _=>s
theorem Jn9 {key j:Key} {ty:TypeId} {sz:Nat} {es:List D} {dp:Bool} (hS:Sim c g m w) (hk:m key=none) (hj:m j=some (.arr ty sz es dp true)) :
  ∃ g',Sim c g' (upd (upd m j (some .dead)) key (some (.arr ty sz es dp true))) w∧Jf c g m w g' (upd (upd m j (some .dead)) key (some (.arr ty sz es dp true))) w∧g'.hd key=g.hd j:=by
 have hjk:j≠key:=fun e=>by subst e;rw[hk] at hj;cases hj
 let g':Gh:={ bl:=upd g.bl key (g.bl j),hd:=upd g.hd key (g.hd j),fd:=upd g.fd key (g.fd j),ow:=fun b=>if g.ow b=some j then some key else g.ow b }
 have hget :∀k o,upd (upd m j (some .dead)) key (some (.arr ty sz es dp true)) k=some o→(k=key∧o = .arr ty sz es dp true)∨(k≠key∧k=j∧o = .dead)∨(k≠key∧k≠j∧m k=some o):=fun k o h=>by
  by_cases e:k=key
  ·subst e;rw[uS1] at h;cases h;exact .inl ⟨rfl,rfl⟩
  ·rw[uO1 _ _ e] at h
   by_cases e2:k=j
   ·subst e2;rw[uS1] at h;cases h;exact .inr (.inl ⟨e,rfl,rfl⟩)
   ·rw[uO1 _ _ e2] at h;exact .inr (.inr ⟨e,e2,h⟩)
 have hB :∀k o b,upd (upd m j (some .dead)) key (some (.arr ty sz es dp true)) k=some o→o.rw=true→Blk g' k o b→∃ k0,m k0=some o∧Blk g k0 o b∧((k=key∧k0=j)∨(k0=k∧k≠key∧k≠j)):=fun k o b h hrw hb=>by
  rcases hget k o h with ⟨rfl,rfl⟩ | ⟨_,_,rfl⟩ | ⟨h1,h2,h3⟩
  ·exact⟨j,hj,by unfold Blk at hb ⊢;simpa only[g',uS1] using hb,.inl ⟨rfl,rfl⟩⟩
  ·cases hrw
  ·exact⟨k,h3,by unfold Blk at hb ⊢;simpa only[g',uO1 _ _ h1] using hb,.inr ⟨rfl,h1,h2⟩⟩
 have hM :∀b,Mut g' (upd (upd m j (some .dead)) key (some (.arr ty sz es dp true))) b→Mut g m b:=by
  rintro b ⟨k,o,h,hrw,hb⟩;obtain⟨k0,h1,h2,_⟩:=hB k o b h hrw hb;exact⟨k0,o,h1,hrw,h2⟩
 have hok :∀fp,J9 c g m fp→J9 c g' (upd (upd m j (some .dead)) key (some (.arr ty sz es dp true))) fp:=fun fp hf b hb=>⟨fun hm=>(hf b hb).1 (hM b hm),(hf b hb).2⟩;have hC:Jf c g m w g' (upd (upd m j (some .dead)) key (some (.arr ty sz es dp true))) w:=by
  refine⟨Nat.le_refl _,fun b h1 _ _=>⟨rfl,fun h=>h1 (hM b h)⟩,fun k cs h=>?_,fun k ty' sz' es' dp' rw h=>?_,fun k h=>?_⟩
  ·have e:k≠key:=fun e=>by subst e;rw[hk] at h;cases h
   have e2:k≠j:=fun e=>by subst e;rw[hj] at h;cases h
   exact⟨⟨cs,by rw[uO1 _ _ e,uO1 _ _ e2];exact h⟩,uO1 _ _ e⟩
  ·have e:k≠key:=fun e=>by subst e;rw[hk] at h;cases h
   by_cases e2:k=j
   ·subst e2;exact .inl (by rw[uO1 _ _ e,uS1])
   ·exact .inr ⟨es',dp',rw,by rw[uO1 _ _ e,uO1 _ _ e2];exact h,.inl ⟨rfl,uO1 _ _ e,uO1 _ _ e⟩⟩
  ·have e:k≠key:=fun e=>by subst e;rw[hk] at h;cases h
   have e2:k≠j:=fun e=>by subst e;rw[hj] at h;cases h
   rw[uO1 _ _ e,uO1 _ _ e2];exact h
 refine⟨g',⟨hS.frame,fun k cs h=>?_,fun k ty' sz' es' dp' rw h=>?_,fun k ty' sz' es' h=>?_,fun k o b h hrw hb=>?_,fun b k h=>?_⟩,hC,uS1 _ _ _⟩
 ·rcases hget k _ h with ⟨_,e⟩ | ⟨_,_,e⟩ | ⟨h1,h2,h3⟩
  ·cases e
  ·cases e
  ·obtain⟨b,vs,ty,q1,q2,q3,q4⟩:=hS.box k cs h3;exact⟨b,vs,ty,(uO1 _ _ h1).trans q1,q2,QK hC _ _ q3,q4⟩
 ·rcases hget k _ h with ⟨rfl,e⟩ | ⟨_,_,e⟩ | ⟨h1,h2,h3⟩
  ·cases e;obtain⟨q1,q2,q3⟩:=hS.arr j _ _ _ _ _ hj;have e1:g'.bl k=g.bl j:=uS1 _ _ _;have e2:g'.hd k=g.hd j:=uS1 _ _ _;have e3:g'.fd k=g.fd j:=uS1 _ _ _;refine⟨by unfold JaQ at q1 ⊢;rw[e1,e2,e3];exact q1,fun hd=>by rw[e3];exact hok _ (q2 hd),(fun(h:true=false)=>by cases h)⟩
  ·cases e
  ·obtain⟨q1,q2,q3⟩:=hS.arr k _ _ _ _ _ h3;have e1:g'.bl k=g.bl k:=uO1 _ _ h1;have e2:g'.hd k=g.hd k:=uO1 _ _ h1;have e3:g'.fd k=g.fd k:=uO1 _ _ h1;refine⟨by unfold JaQ at q1 ⊢;rw[e1,e2,e3];exact q1,fun hd=>by rw[e3];exact hok _ (q2 hd),fun hr b hb=>hok _ (q3 hr b (by rw[←e1];exact hb))⟩
 ·rcases hget k _ h with ⟨rfl,e⟩ | ⟨_,_,e⟩ | ⟨h1,h2,h3⟩
  ·cases e;have e1:g'.bl k=g.bl j:=uS1 _ _ _;have e3:g'.fd k=g.fd j:=uS1 _ _ _;rw[e1,e3];exact hS.deep j _ _ _ hj
  ·cases e
  ·have e1:g'.bl k=g.bl k:=uO1 _ _ h1;have e3:g'.fd k=g.fd k:=uO1 _ _ h1;rw[e1,e3];exact hS.deep k _ _ _ h3
 ·obtain⟨k0,h1,h2,h3⟩:=hB k o b h hrw hb;have ho:=hS.own k0 o b h1 hrw h2;show (if g.ow b=some j then some key else g.ow b)=some k;rw[ho];rcases h3 with ⟨rfl,rfl⟩ | ⟨rfl,_,h4⟩
  ·rw[if_pos rfl]
  ·rw[if_neg (fun e=>h4 (Option.some.inj e))]
 ·have h':(if g.ow b=some j then some key else g.ow b)=some k:=h;split at h'
  ·rename_i e;exact hS.live b j e
  ·exact hS.live b k h'
theorem Jlp :∀(xs:List X) (vs:List Value) (i:Nat) (x:X) (v:Value),VXs c g m w xs vs→vs[i]? = some v→VX c g m w x v→VXs c g m w (xs.set i x) vs
 | [],vs,i,x,v,h,_,_=>h
 | y::xs,vs,0,x,v,⟨u,us,e,h1,h2⟩,hv,hx=>by
  subst e;simp at hv;subst hv;exact⟨u,us,rfl,hx,h2⟩
 | y::xs,vs,i+1,x,v,⟨u,us,e,h1,h2⟩,hv,hx=>by
  subst e;exact⟨u,us,rfl,h1,Jlp xs us i x v h2 (by simpa using hv) hx⟩
theorem Jek :∀(xs:List X) (vs:List Value) (i:Nat) (x:X),VXs c g m w xs vs→xs[i]? = some x→∃ v,vs[i]? = some v∧VX c g m w x v
 | [],vs,i,x,h,hx=>by simp at hx
 | y::xs,vs,0,x,⟨u,us,e,h1,h2⟩,hx=>by
  subst e;simp at hx;subst hx;exact⟨u,rfl,h1⟩
 | y::xs,vs,i+1,x,⟨u,us,e,h1,h2⟩,hx=>by
  subst e;obtain⟨v,h3,h4⟩:=Jek xs us i x h2 (by simpa using hx);exact⟨v,by simpa using h3,h4⟩
theorem Jj1 {m1:Mem} {k:Key} {off:Nat} {cs:List X} {x:X} (h1:Sim c g m1 w) (hbox:m1 k=some (.box cs))
  (hx :∀b us ty,g.bl k=some b→w.heap[b]? = some (.cells us.toArray ty (0,0))→VXs c g m1 w cs us→∃ u,us[off]? = some u∧VX c g m1 w x u) :
  Sim c g (upd m1 k (some (.box (cs.set off x)))) w∧(∀y v,VX c g m1 w y v→VX c g (upd m1 k (some (.box (cs.set off x)))) w y v)∧Jf c g m1 w g (upd m1 k (some (.box (cs.set off x)))) w:=by
 have hlike :∀j,JmN m1 (upd m1 k (some (.box (cs.set off x)))) j:=by
  intro j
  by_cases e:j=k
  ·subst e;exact .inr ⟨_,_,hbox,uS1 _ _ _⟩
  ·exact .inl (uO1 _ _ e)
 have hM :∀b,Mut g (upd m1 k (some (.box (cs.set off x)))) b→Mut g m1 b:=by
  rintro b ⟨j,ob,a1,a2,a3⟩
  by_cases e:j=k
  ·subst e;rw[uS1] at a1;cases a1;exact⟨j,_,hbox,rfl,.inl (a3.resolve_right fun h=>by cases h.1)⟩
  ·rw[uO1 _ _ e] at a1;exact⟨j,ob,a1,a2,a3⟩
 refine⟨Sim.restrict h1 fun j ob hj=>?_,fun y v h=>Jlt hM _ _ (fun i _=>hlike i) h,⟨Nat.le_refl _,fun b q1 _ _=>⟨rfl,fun hm=>q1 (hM b hm)⟩,fun j cs' hj=>?_,fun j ty sz es dp rw hj=>?_,fun j hj=>?_⟩⟩
 ·by_cases e:j=k
  ·subst e;rw[uS1] at hj;simp only[Juh] at hj;subst hj;refine⟨⟨_,hbox,rfl⟩,fun cs' hcs=>?_,fun _ _ _ _ _ he=>by cases he⟩;cases hcs;obtain⟨b,us,ty,a1,a2,a3,a4⟩:=h1.box j _ hbox;obtain⟨u,hu,hvu⟩:=hx b us ty a1 a2 a3;exact⟨b,us,ty,a1,a2,UF hM _ _ (fun i _=>hlike i) (Jlp _ _ _ _ _ a3 hu hvu),a4⟩
  ·rw[uO1 _ _ e] at hj;refine⟨⟨ob,hj,rfl⟩,fun cs' hcs=>?_,fun _ _ _ _ _ _=>hj⟩;subst hcs;obtain⟨b,us,ty,a1,a2,a3,a4⟩:=h1.box j _ hj;exact⟨b,us,ty,a1,a2,UF hM _ _ (fun i _=>hlike i) a3,a4⟩
 ·refine⟨?_,rfl⟩;rcases hlike j with e | ⟨_,cs2,_,e⟩
  ·exact⟨cs',by rw[e];exact hj⟩
  ·exact⟨cs2,e⟩
 ·rcases hlike j with e | ⟨_,cs2,e1,e⟩
  ·rw[e];exact .inr ⟨_,_,_,hj,.inl ⟨rfl,rfl,rfl⟩⟩
  ·rw[e1] at hj;cases hj
 ·rcases hlike j with e | ⟨_,cs2,e1,e⟩
  ·rw[e];exact hj
  ·rw[e1] at hj;cases hj
theorem Jns (o:JiH) {s:SSt} {g0:Gh} {m0:Mem} {w0:World} (hS:Sim c g (γm ρ s.m) w) (hH:Jt c g (γm ρ s.m) w (γs ρ s.sl) a) (hC:Jf c g0 m0 w0 g (γm ρ s.m) w) :
  ∃ g',Sim c g' (γm ρ (Jfi o s).m) w∧Jt c g' (γm ρ (Jfi o s).m) w (γs ρ (Jfi o s).sl) a∧Jf c g0 m0 w0 g' (γm ρ (Jfi o s).m) w:=by
 have same : ∃ g',Sim c g' (γm ρ s.m) w∧Jt c g' (γm ρ s.m) w (γs ρ s.sl) a∧Jf c g0 m0 w0 g' (γm ρ s.m) w:=⟨g,hS,hH,hC⟩;have slot :∀(t:Tmp) (x:SV) (mm:Yd) (g':Gh),Sim c g' (γm ρ mm) w→Jf c g (γm ρ s.m) w g' (γm ρ mm) w→VX c g' (γm ρ mm) w (γX ρ x) (a.tmps.getD t undef) →
   ∃ g',Sim c g' (γm ρ mm) w∧Jt c g' (γm ρ mm) w (γs ρ ((t,x)::s.sl)) a∧Jf c g0 m0 w0 g' (γm ρ mm) w:=fun t x mm g' h1 h2 h3=>by
  refine⟨g',h1,fun j=>?_,hC.trans h2⟩;rw[JcB];unfold upd;split
  ·rename_i hj;subst hj;exact h3
  ·exact Q6 h2 _ _ (hH j)
 have cell :∀(k:Key) (off:Nat) (cs:List SV) (x:SV) (mm:Yd) (g':Gh),Sim c g' (γm ρ mm) w→Jf c g (γm ρ s.m) w g' (γm ρ mm) w→γm ρ mm k=some (.box (γXs ρ cs)) →
   (∀b us ty,g'.bl k=some b→w.heap[b]? = some (.cells us.toArray ty (0,0))→VXs c g' (γm ρ mm) w (γXs ρ cs) us→∃ u,us[off]? = some u∧VX c g' (γm ρ mm) w (γX ρ x) u) →
   ∃ g',Sim c g' (γm ρ ((k,.box (cs.set off x))::mm)) w∧Jt c g' (γm ρ ((k,.box (cs.set off x))::mm)) w (γs ρ s.sl) a∧Jf c g0 m0 w0 g' (γm ρ ((k,.box (cs.set off x))::mm)) w:=fun k off cs x mm g' h1 h2 hbox hx=>by
  obtain⟨q1,q2,q3⟩:=Jj1 h1 hbox hx;have e:γm ρ ((k,.box (cs.set off x))::mm)=upd (γm ρ mm) k (some (.box ((γXs ρ cs).set off (γX ρ x)))):=by
   rw[YT];simp only[γO,Jx,List.map_set]
  rw[e];exact⟨g',q1,fun j=>q2 _ _ (Q6 h2 _ _ (hH j)),(hC.trans h2).trans q3⟩
 unfold Jfi;split
 ·exact same
 ·rename_i hk;have hk:γm ρ s.m o.key=none:=by
   cases h:s.m.lookup o.key with
   | none=>exact Jlr h
   | some _=>rw[h] at hk;exact absurd rfl hk
  obtain⟨g',h1,h2,h3,_⟩:=JjJ (ty:=o.ty) (sz:=o.sz) (dp:=o.dp) hS hk;have hcons:γm ρ ((o.key,.arr o.ty o.sz .nil o.dp true)::s.m)=upd (γm ρ s.m) o.key (some (.arr o.ty o.sz [] o.dp true)):=YT _ _ _ _;rw[←hcons] at h1 h2 h3;have ren :∀(j:Key) (l l':E) (ty:TypeId) (sz:Nat) (dp:Bool),s.m.lookup j=some (.arr ty sz l' dp true)→l.lsame l'=true →
    ∃ g',Sim c g' (γm ρ ((o.key,.arr ty sz l' dp true)::(j,.dead)::s.m)) w∧Jf c g (γm ρ s.m) w g' (γm ρ ((o.key,.arr ty sz l' dp true)::(j,.dead)::s.m)) w ∧
     ∀v,VX c g (γm ρ s.m) w (.o j (lst ρ l).length) v→VX c g' (γm ρ ((o.key,.arr ty sz l' dp true)::(j,.dead)::s.m)) w (.o o.key (lst ρ l').length) v:=fun j l l' ty sz dp hj hl=>by
   have hj':=Xd (ρ:=ρ) hj;have e:γm ρ ((o.key,.arr ty sz l' dp true)::(j,.dead)::s.m)=upd (upd (γm ρ s.m) j (some .dead)) o.key (some (.arr ty sz (lst ρ l') dp true)):=by
    rw[YT,YT];rfl
   obtain⟨g2,a1,a2,a3⟩:=Jn9 hS hk hj';rw[e];refine⟨g2,a1,a2,fun v hv=>⟨hv.1,⟨_,uS1 _ _ _,by simp⟩,fun ty' sz' es' dp' rw' he=>?_⟩⟩;rw[uS1] at he;cases he;exact⟨Nat.le_refl _,fun _=>by rw[a3];exact(hv.2.2 _ _ _ _ _ hj').2 (lL1 hl ρ)⟩
  split
  ·rename_i t hat;split
   ·rename_i hl;refine slot t _ _ g' h1 h2 ?_;have hv:=hH t;rw[Je7 hl] at hv;have hv:a.tmps.getD t undef=QC:=(Qk hv).1;rw[hv];exact h3
   ·rename_i j l hl;split
    ·split
     ·rename_i ty sz l' dp hj;split
      ·rename_i hll;obtain⟨g2,a1,a2,a3⟩:=ren j l l' ty sz dp hj hll;have hv:=hH t;rw[Je7 hl] at hv;exact slot t (.o o.key l') _ g2 a1 a2 (a3 _ hv)
      ·exact same
     ·exact same
    ·exact same
   ·exact same
  ·rename_i k off hat;split
   ·rename_i cs hl;have hke:k≠o.key:=fun e=>by
     subst e;rw[Xd hl] at hk;cases hk
    split
    ·rename_i hoff;have hbox:γm ρ ((o.key,.arr o.ty o.sz .nil o.dp true)::s.m) k=some (.box (γXs ρ cs)):=by
      rw[hcons,uO1 _ _ hke,Xd hl];rfl
     refine cell k off cs (.o o.key .nil) _ g' h1 h2 hbox fun b us ty _ _ a3=>?_;have hget:(γXs ρ cs)[off]? = some (.d (.v QC)):=by rw[Jx,JuD,hoff];rfl
     obtain⟨u,hu,hvu⟩:=Jek _ _ _ _ a3 hget;have hu':u=QC:=(Qk hvu).1;subst hu';exact⟨_,hu,h3⟩
    ·rename_i j l hoff;split
     ·split
      ·rename_i ty sz l' dp hj;split
       ·rename_i hll;obtain⟨g2,a1,a2,a3⟩:=ren j l l' ty sz dp hj hll;have hkj:k≠j:=fun e=>by subst e;rw[hl] at hj;cases hj
        have hbox:γm ρ ((o.key,.arr ty sz l' dp true)::(j,.dead)::s.m) k=some (.box (γXs ρ cs)):=by
         rw[YT,YT,uO1 _ _ hke,uO1 _ _ hkj,Xd hl];rfl
        refine cell k off cs (.o o.key l') _ g2 a1 a2 hbox fun b us ty q1 q2 _=>?_;obtain⟨b0,us0,ty0,r1,r2,r3,_⟩:=hS.box k (γXs ρ cs) (by rw[Xd hl];rfl);rw[(a2.box k _ (by rw[Xd hl];rfl)).2,r1] at q1;cases q1;rw[r2] at q2;have e:us0=us:=by
         simp only[Juh,Go.Obj.cells.injEq] at q2;have:=congrArg Array.toList q2.1;simpa using this
        subst e;have hget:(γXs ρ cs)[off]? = some (.o j (lst ρ l).length):=by rw[Jx,JuD,hoff];rfl
        obtain⟨u,hu,hvu⟩:=Jek _ _ _ _ r3 hget;exact⟨u,hu,a3 u hvu⟩
       ·exact same
      ·exact same
     ·exact same
    ·exact same
   ·exact same
  ·rename_i j hat;split
   ·rename_i ty sz l' dp hj;have hj':=Xd (ρ:=ρ) hj;have e:γm ρ ((o.key,.arr ty sz l' dp true)::(j,.dead)::s.m)=upd (upd (γm ρ s.m) j (some .dead)) o.key (some (.arr ty sz (lst ρ l') dp true)):=by
     rw[YT,YT];rfl
    obtain⟨g2,a1,a2,_⟩:=Jn9 hS hk hj';rw[←e] at a1 a2;exact⟨g2,a1,fun t=>Q6 a2 _ _ (hH t),hC.trans a2⟩
   ·exact same
end
end Go.Tm
end
section
namespace Go.Tm
open Go.IntKind (i64)
section
variable {P:Program} {c:Cx P} {g:Gh} {m mk:Mem} {w:World} {a:Act} {ρ ρ':Env}
def sw (a b k:Key):Key:=bif Nat.beq k a then b else bif Nat.beq k b then a else k
theorem sw_a (a b:Key):sw a b a=b:=by simp[sw]
theorem sw_b (a b:Key):sw a b b=a:=by
 unfold sw
 by_cases h:b=a
 ·subst h;simp
 ·have:Nat.beq b a=false:=Bool.eq_false_iff.2 fun e=>h (Nat.eq_of_beq_eq_true e);simp[this]
theorem JqI {a b k:Key} (h1:k≠a) (h2:k≠b):sw a b k=k:=by
 have e1:Nat.beq k a=false:=Bool.eq_false_iff.2 fun e=>h1 (Nat.eq_of_beq_eq_true e);have e2:Nat.beq k b=false:=Bool.eq_false_iff.2 fun e=>h2 (Nat.eq_of_beq_eq_true e);simp[sw,e1,e2]
theorem JiU (a b k:Key):sw a b (sw a b k)=k:=by
 by_cases h1:k=a
 ·subst h1;rw[sw_a,sw_b]
 ·by_cases h2:k=b
  ·subst h2;rw[sw_b,sw_a]
  ·rw[JqI h1 h2,JqI h1 h2]
def swK (a b:Key) (s:SSt):SSt:=⟨s.sl.map fun p=>(p.1,p.2.ren (sw a b)),s.m.map fun p=>(sw a b p.1,p.2.ren (sw a b))⟩
theorem JfQ {α:Type} (a b:Key) (f:α→α) :∀(l:List (Nat×α)) (k:Nat),(l.map fun p=>(sw a b p.1,f p.2)).lookup k=(l.lookup (sw a b k)).map f
 | [],k=>rfl
 | (j,x)::l,k=>by
  simp only[Juq,List.lookup_cons]
  by_cases h:sw a b k=j
  ·subst h;rw[JiU];simp
  ·have h2 : ¬k=sw a b j:=fun e=>h (by rw[e,JiU]);have hb:(k == sw a b j)=false:=by simpa using h2
   have hb':(sw a b k == j)=false:=by simpa using h
   simp only[hb,hb',JfQ a b f l k]
theorem JqW (x y:Key) {nl:Nat} (hx:nl≤x) (hy:nl≤y) {s:SSt} {g0:Gh} {m0:Mem} {w0:World} (hl :∀k,m0 k≠none→k<nl) (hS:Sim c g (γm ρ s.m) w) (hH:Jt c g (γm ρ s.m) w (γs ρ s.sl) a) (hC:Jf c g0 m0 w0 g (γm ρ s.m) w) :
  ∃ g',Sim c g' (γm ρ (swK x y s).m) w∧Jt c g' (γm ρ (swK x y s).m) w (γs ρ (swK x y s).sl) a∧Jf c g0 m0 w0 g' (γm ρ (swK x y s).m) w:=by
 have hm :∀k,γm ρ (swK x y s).m k=(γm ρ s.m (sw x y k)).map (Obj.ren (sw x y)):=by
  intro k;unfold γm swK;simp only[JfQ,Option.map_map];cases s.m.lookup (sw x y k) with
  | none=>rfl
  | some o=>simp only[Juk,Function.comp,Jan]
 have hs :∀t,γs ρ (swK x y s).sl t=(γs ρ s.sl t).ren (sw x y):=by
  intro t;unfold γs swK;simp only[Zc];cases s.sl.lookup t with
  | none=>rfl
  | some v=>simp only[Juk,Jd1]
 generalize γm ρ (swK x y s).m=m2 at *;generalize γs ρ (swK x y s).sl=sl2 at *;generalize γm ρ s.m=m at *
 let g':Gh:=⟨fun k=>g.bl (sw x y k),fun k=>g.hd (sw x y k),fun k=>g.fd (sw x y k),fun b=>(g.ow b).map (sw x y)⟩
 have hMut :∀b,Mut g' m2 b→Mut g m b:=by
  rintro b ⟨k,o,hk,hr,hb⟩;rw[hm] at hk;cases ho:m (sw x y k) with
  | none=>rw[ho] at hk;cases hk
  | some o0 =>
   rw[ho] at hk;simp only[Juk,Juh] at hk;exact⟨_,o0,ho,by rw[←JbF (ρ:=sw x y) o0,hk];exact hr,UQ (g:=g) (k:=sw x y k) hb rfl rfl (by rw[←hk,VH])⟩
 have hF :∀fp,(∀b∈fp,b<w.heap.size)→J9 c g m fp→J9 c g' m2 fp:=fun fp _ hf b hb=>⟨fun h=>(hf b hb).1 (hMut b h),(hf b hb).2⟩;have hat :∀k,True→m2 (sw x y k)=(m k).map (Obj.ren (sw x y))∧g'.bl (sw x y k)=g.bl k∧g'.hd (sw x y k)=g.hd k∧g'.fd (sw x y k)=g.fd k:=by
  intro k _;refine⟨by rw[hm,JiU],?_,?_,?_⟩ <;> simp only[g',JiU]
 have hPart:Jon c g m w c g' m2 (sw x y) (sw x y) (fun _=>True):=⟨fun k o _=>⟨trivial,JiU _ _ _⟩,hat,fun _ _ _ _ _ _=>trivial⟩;refine⟨g',hPart.sim hS hS.frame hF (fun k b _ how=>by simp only[g',how,Juk]) (fun b k hb=>?_),fun t=>?_,?_⟩
 ·cases ho:g.ow b with
  | none=>simp[g',ho] at hb
  | some k0=>exact hS.live b k0 ho
 ·rw[hs];exact Jdh (K:=fun _=>True) (fun k hk=>⟨(hat k hk).1,(hat k hk).2.1,(hat k hk).2.2.1⟩) hF _ _ (fun _ _=>trivial) (hH t)
 ·have hne :∀k,m0 k≠none→sw x y k=k:=fun k hk=>by
   have:=hl k hk;exact JqI (Nat.ne_of_lt (Nat.lt_of_lt_of_le this hx)) (Nat.ne_of_lt (Nat.lt_of_lt_of_le this hy))
  refine⟨hC.size,fun b h1 h2 h3=>⟨(hC.pure b h1 h2 h3).1,fun h=>(hC.pure b h1 h2 h3).2 (hMut b h)⟩,fun k cs hk=>?_,fun k ty sz es dp rw hk=>?_,fun k hk=>?_⟩
  ·have he:=hne k (by rw[hk];simp);obtain⟨⟨cs',h1⟩,h2⟩:=hC.box k cs hk;exact⟨⟨Vv (sw x y) cs',by rw[hm,he,h1];rfl⟩,by simp only[g',he];exact h2⟩
  ·have he:=hne k (by rw[hk];simp);rcases hC.arr k ty sz es dp rw hk with h | ⟨es',dp',rw',h1,h2⟩
   ·exact .inl (by rw[hm,he,h];rfl)
   ·refine .inr ⟨es',dp',rw',by rw[hm,he,h1];rfl,?_⟩;simp only[g',he];exact h2
  ·have he:=hne k (by rw[hk];simp);rw[hm,he,hC.dead k hk];rfl
theorem JnJ {m2:Mem} (hS:Sim c g m w) (h :∀j,m2 j=m j∨∃ cs cs',m j=some (.box cs)∧m2 j=some (.box cs')∧∀us,VXs c g m w cs us→VXs c g m w cs' us) :
  Sim c g m2 w∧(∀x v,VX c g m w x v→VX c g m2 w x v)∧∀g0 m0 w0,Jf c g0 m0 w0 g m w→Jf c g0 m0 w0 g m2 w:=by
 have hlike :∀j,JmN m m2 j:=fun j=>by
  rcases h j with e | ⟨cs,cs',e1,e2,_⟩
  ·exact .inl e
  ·exact .inr ⟨cs,cs',e1,e2⟩
 have hM :∀b,Mut g m2 b→Mut g m b:=by
  rintro b ⟨k,o,hk,hr,hb⟩;rcases h k with e | ⟨cs,cs',e1,e2,_⟩
  ·exact⟨k,o,by rw[←e];exact hk,hr,hb⟩
  ·rw[e2] at hk;cases hk;exact⟨k,_,e1,rfl,.inl (hb.resolve_right fun h=>by cases h.1)⟩
 have hVX :∀x v,VX c g m w x v→VX c g m2 w x v:=fun x v hx=>Jlt hM x v (fun k _=>hlike k) hx;refine⟨Sim.restrict hS fun k o hk=>?_,hVX,fun g0 m0 w0 hC=>⟨hC.size,fun b h1 h2 h3=>⟨(hC.pure b h1 h2 h3).1,fun hm=>(hC.pure b h1 h2 h3).2 (hM b hm)⟩,fun k cs hk=>?_,fun k ty sz es dp rw hk=>?_,fun k hk=>?_⟩⟩
 ·rcases h k with e | ⟨cs,cs',e1,e2,e3⟩
  ·rw[e] at hk;refine⟨⟨o,hk,rfl⟩,fun cs hcs=>?_,fun _ _ _ _ _ _=>hk⟩;subst hcs;obtain⟨b,us,ty,a1,a2,a3,a4⟩:=hS.box k cs hk;exact⟨b,us,ty,a1,a2,UF hM _ _ (fun i _=>hlike i) a3,a4⟩
  ·rw[e2] at hk;simp only[Juh] at hk;subst hk;refine⟨⟨_,e1,rfl⟩,fun cs1 hcs=>?_,fun _ _ _ _ _ he=>by cases he⟩;cases hcs;obtain⟨b,us,ty,a1,a2,a3,a4⟩:=hS.box k cs e1;exact⟨b,us,ty,a1,a2,UF hM _ _ (fun i _=>hlike i) (e3 us a3),a4⟩
 ·obtain⟨⟨cs1,e1⟩,e2⟩:=hC.box k cs hk;refine⟨?_,e2⟩;rcases hlike k with e | ⟨_,cs2,_,e⟩
  ·exact⟨cs1,by rw[e];exact e1⟩
  ·exact⟨cs2,e⟩
 ·have:=hC.arr k ty sz es dp rw hk;rcases hlike k with e | ⟨_,cs2,e1,e⟩
  ·rw[e];exact this
  ·rcases this with h | ⟨_,_,_,h,_⟩
   ·rw[e1] at h;cases h
   ·rw[e1] at h;cases h
 ·have:=hC.dead k hk;rcases hlike k with e | ⟨_,cs2,e1,e⟩
  ·rw[e];exact this
  ·rw[e1] at this;cases this
mutual
def tkV (k:Key) (l:E):SV→SV
 | .o j x=>bif Nat.beq j k&&x.same l then .d (.s l) else .o j x
 | .g cs=> .g (JlP k l cs)
 | .t cs=> .t (JlP k l cs)
 | .f fn cs=> .f fn (JlP k l cs)
 | v=>v
def JlP (k:Key) (l:E):List SV→List SV
 | []=>[]
 | c::cs=>tkV k l c::JlP k l cs
end
def tkO (k:Key) (l:E):Ji→Ji
 | .box cs=> .box (JlP k l cs)
 | o=>o
mutual
theorem JoO {k:Key} {l:E} (h :∀v,VX c g m w (.o k (lst ρ l).length) v→VX c g m w (.d (.s (lst ρ l))) v) :∀(x:SV) (v:Value),VX c g m w (γX ρ x) v→VX c g m w (γX ρ (tkV k l x)) v
 | .o j x,v,hv=>by
  simp only[tkV];cases hb:Nat.beq j k&&x.same l with
  | false=>exact hv
  | true =>
   simp only[Jui,Nat.beq_eq] at hb;obtain⟨rfl,h2⟩:=hb;simp only[cond_true,γX] at hv ⊢;rw[Jia h2] at hv;exact h v hv
 | .g cs,v,⟨vs,e,h1,h2⟩=>⟨vs,e,Jak h cs vs h1,h2⟩
 | .t cs,v,⟨vs,e,h1⟩=>⟨vs,e,Jak h cs vs h1⟩
 | .f fn cs,v,⟨vs,e,h1⟩=>⟨vs,e,Jak h cs vs h1⟩
 | .d _,v,h1=>h1
 | .p _ _,v,h1=>h1
 | .e _ _ _ _,v,h1=>h1
 | .u,v,h1=>h1
theorem Jak {k:Key} {l:E} (h :∀v,VX c g m w (.o k (lst ρ l).length) v→VX c g m w (.d (.s (lst ρ l))) v) :∀(xs:List SV) (vs:List Value),VXs c g m w (γXs ρ xs) vs→VXs c g m w (γXs ρ (JlP k l xs)) vs
 | [],vs,hv=>hv
 | x::xs,vs,⟨v,vs',e,h1,h2⟩=>⟨v,vs',e,JoO h x v h1,Jak h xs vs' h2⟩
end
def Jfg (k:Key) (s:SSt):SSt:=match s.m.lookup k with
 | some (.arr ty sz l _ _)=>⟨s.sl.map fun p=>(p.1,tkV k l p.2),((k,.arr ty sz l false false)::s.m).map fun p=>(p.1,tkO k l p.2)⟩
 | _=>s
theorem JnY (k:Key) {s:SSt} {g0:Gh} {m0:Mem} {w0:World} (hS:Sim c g (γm ρ s.m) w) (hH:Jt c g (γm ρ s.m) w (γs ρ s.sl) a) (hC:Jf c g0 m0 w0 g (γm ρ s.m) w) :
  ∃ g',Sim c g' (γm ρ (Jfg k s).m) w∧Jt c g' (γm ρ (Jfg k s).m) w (γs ρ (Jfg k s).sl) a∧Jf c g0 m0 w0 g' (γm ρ (Jfg k s).m) w:=by
 unfold Jfg;split
 ·rename_i ty sz l dp rw hk;have hmk:=Xd (ρ:=ρ) hk;have hm1:γm ρ ((k,.arr ty sz l false false)::s.m)=upd (γm ρ s.m) k (some (.arr ty sz (lst ρ l) false false)):=YT _ _ _ _;have hm2 :∀j,γm ρ (((k,.arr ty sz l false false)::s.m).map fun p=>(p.1,tkO k l p.2)) j=(((k,.arr ty sz l false false)::s.m).lookup j).map fun o=>γO ρ (tkO k l o):=by
   intro j;unfold γm;rw[Zc,Option.map_map];rfl
  have hm1' :∀j,γm ρ ((k,.arr ty sz l false false)::s.m) j=(((k,.arr ty sz l false false)::s.m).lookup j).map (γO ρ):=fun j=>rfl;generalize γm ρ (((k,.arr ty sz l false false)::s.m).map fun p=>(p.1,tkO k l p.2))=m2 at *;have hrun:(take (.o k (lst ρ l).length)).run (γm ρ s.m)=some (.s (lst ρ l),upd (γm ρ s.m) k (some (.arr ty sz (lst ρ l) false false))):=by
   simp only[take,MP.run,hmk];simp only[γO,if_true,MP.run,hmk]
  have hhd:VX c g (γm ρ s.m) w (.o k (lst ρ l).length) (g.hd k):=by
   obtain⟨h1,_,_⟩:=hS.arr k ty sz (lst ρ l) dp rw hmk;refine⟨?_,⟨_,hmk,by simp[γO]⟩,fun ty1 sz1 es1 dp1 rw1 h=>?_⟩
   ·rcases h1 with ⟨_,h,_⟩ | ⟨b,cap,cs,_,h,_⟩
    ·rw[h];rfl
    ·rw[h];rfl
   ·rw[hmk] at h;simp only[γO,Juh,Obj.arr.injEq] at h;obtain⟨_,_,rfl,_⟩:=h;exact⟨Nat.le_refl _,fun _=>rfl⟩
  obtain⟨hRd,hS1,hC1⟩:=WY _ _ _ _ _ hS hhd hrun;have hH1 :∀x v,VX c g (γm ρ s.m) w x v→VX c g (upd (γm ρ s.m) k (some (.arr ty sz (lst ρ l) false false))) w x v:=fun x v=>Q6 hC1 x v;have hC2:=hC.trans hC1;rw[hm1] at hm1';have hu:upd (γm ρ s.m) k (some (.arr ty sz (lst ρ l) false false)) k=some (.arr ty sz (lst ρ l) false false):=uS1 _ _ _;have hH:Jt c g (upd (γm ρ s.m) k (some (.arr ty sz (lst ρ l) false false))) w (γs ρ s.sl) a:=fun t=>hH1 _ _ (hH t);generalize upd (γm ρ s.m) k (some (.arr ty sz (lst ρ l) false false))=m1 at *;have htk :∀v,VX c g m1 w (.o k (lst ρ l).length) v→VX c g m1 w (.d (.s (lst ρ l))) v:=by
   rintro v ⟨_,_,h⟩;have:=(h _ _ _ _ _ hu).2 rfl;rw[this];exact hRd
  obtain⟨r1,r2,r3⟩:=JnJ (m2:=m2) hS1 fun j=>by
   rw[hm1',hm2];cases ((k,Ji.arr ty sz l false false)::s.m).lookup j with
   | none=>exact .inl rfl
   | some o =>
    cases o with
    | box cs=>exact .inr ⟨_,_,rfl,rfl,fun us h=>Jak htk cs us h⟩
    | _=>exact .inl rfl
  refine⟨g,r1,fun t=>r2 _ _ ?_,r3 _ _ _ hC2⟩;have hv:=hH t;unfold γs at hv ⊢;rw[Zc];cases hlk:s.sl.lookup t with
  | none=>trivial
  | some x =>
   rw[hlk] at hv;exact JoO htk x _ hv
 ·exact⟨g,hS,hH,hC⟩
mutual
def misV:SV→SV→List (Key×Option Key)
 | .o k _,.o j _=>bif Nat.beq k j then [] else [(j,some k)]
 | .d (.s _),.o j _=>[(j,none)]
 | .g ps,.g vs=>JkL ps vs
 | .t ps,.t vs=>JkL ps vs
 | _,_=>[]
def JkL:List SV→List SV→List (Key×Option Key)
 | p::ps,v::vs=>misV p v++JkL ps vs
 | _,_=>[]
end
def Jjg (nl:Nat) (q:Key×Option Key) (s:SSt):SSt:=match q with
 | (j,some k)=>bif Nat.ble nl j&&Nat.ble nl k then swK k j s else s
 | (j,none)=>bif Nat.ble nl j then Jfg j s else s
def JdU (nl:Nat) (t:Tmp) (p:SV):Nat→SSt→SSt
 | 0,s=>s
 | n+1,s=>match s.sl.lookup t with
  | some v=>match misV p v with
   | q::_=>JdU nl t p n (Jjg nl q s)
   | []=>s
  | none=>s
def Jj6 (nl:Nat) (k:Key) (ps:List SV):Nat→SSt→SSt
 | 0,s=>s
 | n+1,s=>match s.m.lookup k with
  | some (.box vs)=>match JkL ps vs with
   | q::_=>Jj6 nl k ps n (Jjg nl q s)
   | []=>s
  | _=>s
def Jbd (nl:Nat):SSl→SSt→SSt
 | [],s=>s
 | (t,p)::l,s=>Jbd nl l (JdU nl t p 16 s)
def Jc5 (nl:Nat):Yd→SSt→SSt
 | [],s=>s
 | (k,.box ps)::l,s=>Jc5 nl l (Jj6 nl k ps 16 s)
 | _::l,s=>Jc5 nl l s
def SSt.like (nl:Nat) (t s:SSt):SSt:=Jc5 nl t.m (Jbd nl t.sl s.fresh)
section
variable {g0:Gh} {m0:Mem} {w0:World} {nl:Nat} (hl :∀k,m0 k≠none→k<nl)
include hl
theorem Jk8 (q:Key×Option Key) {g:Gh} {s:SSt} (hS:Sim c g (γm ρ s.m) w) (hH:Jt c g (γm ρ s.m) w (γs ρ s.sl) a) (hC:Jf c g0 m0 w0 g (γm ρ s.m) w) :
  ∃ g',Sim c g' (γm ρ (Jjg nl q s).m) w∧Jt c g' (γm ρ (Jjg nl q s).m) w (γs ρ (Jjg nl q s).sl) a∧Jf c g0 m0 w0 g' (γm ρ (Jjg nl q s).m) w:=by
 obtain⟨j,o⟩:=q;cases o with
 | some k =>
  simp only[Jjg];cases hb:Nat.ble nl j&&Nat.ble nl k with
  | false=>exact⟨g,hS,hH,hC⟩
  | true =>
   simp only[Jui,Nat.ble_eq] at hb;exact JqW k j hb.2 hb.1 hl hS hH hC
 | none =>
  simp only[Jjg];cases hb:Nat.ble nl j with
  | false=>exact⟨g,hS,hH,hC⟩
  | true=>exact JnY j hS hH hC
theorem JhX (t:Tmp) (p:SV) :∀(n:Nat) {g:Gh} {s:SSt},Sim c g (γm ρ s.m) w→Jt c g (γm ρ s.m) w (γs ρ s.sl) a→Jf c g0 m0 w0 g (γm ρ s.m) w →
  ∃ g',Sim c g' (γm ρ (JdU nl t p n s).m) w∧Jt c g' (γm ρ (JdU nl t p n s).m) w (γs ρ (JdU nl t p n s).sl) a∧Jf c g0 m0 w0 g' (γm ρ (JdU nl t p n s).m) w
 | 0,g,s,hS,hH,hC=>⟨g,hS,hH,hC⟩
 | n+1,g,s,hS,hH,hC=>by
  simp only[JdU];split
  ·split
   ·obtain⟨g1,h1,h2,h3⟩:=Jk8 hl _ hS hH hC;exact JhX t p n h1 h2 h3
   ·exact⟨g,hS,hH,hC⟩
  ·exact⟨g,hS,hH,hC⟩
theorem JkW (k:Key) (ps:List SV) :∀(n:Nat) {g:Gh} {s:SSt},Sim c g (γm ρ s.m) w→Jt c g (γm ρ s.m) w (γs ρ s.sl) a→Jf c g0 m0 w0 g (γm ρ s.m) w →
  ∃ g',Sim c g' (γm ρ (Jj6 nl k ps n s).m) w∧Jt c g' (γm ρ (Jj6 nl k ps n s).m) w (γs ρ (Jj6 nl k ps n s).sl) a∧Jf c g0 m0 w0 g' (γm ρ (Jj6 nl k ps n s).m) w
 | 0,g,s,hS,hH,hC=>⟨g,hS,hH,hC⟩
 | n+1,g,s,hS,hH,hC=>by
  simp only[Jj6];split
  ·split
   ·obtain⟨g1,h1,h2,h3⟩:=Jk8 hl _ hS hH hC;exact JkW k ps n h1 h2 h3
   ·exact⟨g,hS,hH,hC⟩
  ·exact⟨g,hS,hH,hC⟩
theorem Jfu :∀(l:SSl) {g:Gh} {s:SSt},Sim c g (γm ρ s.m) w→Jt c g (γm ρ s.m) w (γs ρ s.sl) a→Jf c g0 m0 w0 g (γm ρ s.m) w →
  ∃ g',Sim c g' (γm ρ (Jbd nl l s).m) w∧Jt c g' (γm ρ (Jbd nl l s).m) w (γs ρ (Jbd nl l s).sl) a∧Jf c g0 m0 w0 g' (γm ρ (Jbd nl l s).m) w
 | [],g,s,hS,hH,hC=>⟨g,hS,hH,hC⟩
 | (t,p)::l,g,s,hS,hH,hC=>by
  obtain⟨g1,h1,h2,h3⟩:=JhX hl t p 16 hS hH hC;exact Jfu l h1 h2 h3
theorem W9 :∀(l:Yd) {g:Gh} {s:SSt},Sim c g (γm ρ s.m) w→Jt c g (γm ρ s.m) w (γs ρ s.sl) a→Jf c g0 m0 w0 g (γm ρ s.m) w →
  ∃ g',Sim c g' (γm ρ (Jc5 nl l s).m) w∧Jt c g' (γm ρ (Jc5 nl l s).m) w (γs ρ (Jc5 nl l s).sl) a∧Jf c g0 m0 w0 g' (γm ρ (Jc5 nl l s).m) w
 | [],g,s,hS,hH,hC=>⟨g,hS,hH,hC⟩
 | (k,.box ps)::l,g,s,hS,hH,hC=>by
  obtain⟨g1,h1,h2,h3⟩:=JkW hl k ps 16 hS hH hC;exact W9 l h1 h2 h3
 | (k,.arr _ _ _ _ _)::l,g,s,hS,hH,hC=>W9 l hS hH hC
 | (k,.dead)::l,g,s,hS,hH,hC=>W9 l hS hH hC
theorem Jgd (t:SSt) {s:SSt} {g:Gh} (hS:Sim c g (γm ρ s.m) w) (hH:Jt c g (γm ρ s.m) w (γs ρ s.sl) a) (hC:Jf c g0 m0 w0 g (γm ρ s.m) w) :
  ∃ g',Sim c g' (γm ρ (SSt.like nl t s).m) w∧Jt c g' (γm ρ (SSt.like nl t s).m) w (γs ρ (SSt.like nl t s).sl) a∧Jf c g0 m0 w0 g' (γm ρ (SSt.like nl t s).m) w:=by
 obtain⟨e1,e2⟩:=Jjh ρ s;obtain⟨g1,h1,h2,h3⟩:=Jfu hl t.sl (s:=s.fresh) (by rw[e2];exact hS) (by rw[e1,e2];exact hH) (by rw[e2];exact hC);exact W9 hl t.m h1 h2 h3
end
end
end Go.Tm
end
section
open Go.RowKit
namespace Go.Tm
open Go.IntKind (i64)
structure Inn where
 t:TypeId
 a:Operand
 xk:Tmp
 tS:Tmp
 tK:Tmp
 tR:Tmp
 tD:Tmp
 f:FuncId
def KO (ops:Array Oper):Option Inn :=
 match ops[ops.size-4]?,ops[ops.size-3]?,ops[ops.size-2]?,ops[ops.size-1]? with
 | some ⟨some tS,.load t a,_,_,_,none⟩,some ⟨some tK,.move (.tmp xk),_,_,_,none⟩,some ⟨some tR,.call cl,_,_,_,none⟩,some ⟨some tD,.assign (.tmp r),_,_,_,none⟩ =>
  match cl.callee,cl.args.toList with
  | .value (.func f),[.tmp s,.tmp k]=>if 4≤ops.size∧s=tS∧k=tK∧r=tR∧xk≠tS∧tS≠tK then some ⟨t,a,xk,tS,tK,tR,tD,f⟩ else none
  | _,_=>none
 | _,_,_,_=>none
def VJ (_:Program) (_:FuncId→Option Sig) (_:Inn) (_:SSl) (_:Yd) (_:Nat):Option (List I×SSl×Yd×Nat):=none
section
variable {B:Tb} {ρ:Env} {sg:FuncId→Option Sig} {P:Program} {ops:Array Oper} {c:Cx P} {g:Gh} {w:World} {a:Act} {Q:Exit→Act→World→Prop}
theorem JjN (hB:BOk sg B) (hT0:Wj c (X7 sg B)) {q:Inn} {sl sl':SSl} {m m':Yd} {n n':Nat} {is:List I} (hS:Sim c g (γm ρ m) w) (hH:Jt c g (γm ρ m) w (γs ρ sl) a) (hd:UG a.tmps.size ops=true)
  (hq:KO ops=some q) (h:VJ P sg q sl m n=some (is,sl',m',n')) (his :∀i∈is,i.holds B ρ)
  (hQ :∀a' w' g',Sim c g' (γm ρ m') w'→Jt c g' (γm ρ m') w' (γs ρ sl') a'→Jf c g (γm ρ m) w g' (γm ρ m') w'→a'.defers=a.defers→a'.tmps.size=a.tmps.size→Q .normal a' w') :
  4≤ops.size∧wpOps P ops Q [ops.size-4,ops.size-3,ops.size-2,ops.size-1] a w:=by
 unfold VJ at h;cases h
theorem JgH {q:Inn} {sl sl':SSl} {m m':Yd} {n n':Nat} {is:List I} (hmono :∀(p:SMP SV) (m:Yd) (n:Nat) (r:JpR SV),p.run m n=some r→n≤r.n) (h:VJ P sg q sl m n=some (is,sl',m',n')):n≤n':=by
 unfold VJ at h;cases h
end
end Go.Tm
end
section
namespace Go.Tm
open Go.IntKind (i64)
inductive Out where
 | norm
 | exit (id:Nat)
 | ret
def Out.exitOf:Out→Exit
 | .norm=> .normal
 | .exit id=> .exit id
 | .ret=> .ret
structure Jea where
 slots:List Tmp:=[]
 cells:List (Key×Nat):=[]
 arrs:List Key:=[]
 drop:List Tmp:=[]
 dropk:List Key:=[]
structure Ke where
 keep:List Tmp:=[]
 nl:Nat:=0
 own:List (Nat×JiH):=[]
 loops:List (Nat×Jea):=[]
 deep:Bool:=false
 no:List Tmp:=[]
 inner:List Nat:=[]
 bor:List Tmp:=[]
def Ke.dp (H:Ke):Oper→Bool:=Qb.dp { deep:=H.deep,no:=H.no,bor:=H.bor }
def Ke.bo (H:Ke):Oper→Bool:=Qb.bo { deep:=H.deep,no:=H.no,bor:=H.bor }
def Jrd:SV→Nat→SV×Nat
 | .d (.vi k _),n=>(.d (.vi k (.v n)),n+1)
 | .d (.vb _),n=>(.d (.vb (.v n)),n+1)
 | .d (.s _),n=>(.d (.s (.v n)),n+1)
 | .d (.vc (.slice none 0 0)),n=>(.d (.s (.v n)),n+1)
 | .d _,n=>(.d (.da n),n+1)
 | .o _ _,n=>(.d (.s (.v n)),n+1)
 | .g cs,n=>let r:=go cs n; (.g r.1,r.2)
 | v,n=>(v,n)
where
 go:List SV→Nat→List SV×Nat
  | [],n=>([],n)
  | c::cs,n=>let r:=Jrd c n;let q:=go cs r.2; (r.1::q.1,q.2)
def reO (k:Key) (l l':E):SV→SV
 | .o j x=>if j == k&&x.same l then .o j l' else .o j x
 | .g cs=> .g (go cs)
 | v=>v
where
 go:List SV→List SV
  | []=>[]
  | c::cs=>reO k l l' c::go cs
def JrC (k:Key) (l l':E):Ji→Ji
 | .box cs=> .box (reO.go k l l' cs)
 | o=>o
def Jhb:List Key→SSt→Nat→SSt×Nat
 | [],s,n=>(s,n)
 | k::ks,s,n=>match s.m.lookup k with
  | some (.arr ty sz l dp rw) =>
   let s':SSt:=⟨s.sl.map fun p=>(p.1,reO k l (.v n) p.2),s.m.map fun p=>if p.1 == k then(k,.arr ty sz (.v n) dp rw) else(p.1,JrC k l (.v n) p.2)⟩
   Jhb ks s' (n+1)
  | _=>Jhb ks s n
def Jdt (vs:List Tmp):SSl→Nat→SSl×Nat
 | [],n=>([],n)
 | (t,v)::sl,n=>if vs.contains t then let r:=Jrd v n;let q:=Jdt vs sl r.2; ((t,r.1)::q.1,q.2) else let q:=Jdt vs sl n; ((t,v)::q.1,q.2)
def Jas:List (Key×Nat)→Yd→Nat→Yd×Nat
 | [],m,n=>(m,n)
 | (k,off)::cs,m,n=>match m.lookup k with
  | some (.box xs)=>match xs[off]? with
   | some v=>let r:=Jrd v n;Jas cs ((k,.box (xs.set off r.1))::m) r.2
   | none=>Jas cs m n
  | _=>Jas cs m n
def JiX {α:Type}:List (Nat×α)→List Nat→List (Nat×α)
 | [],_=>[]
 | (k,v)::l,JgW=>if JgW.contains k then JiX l JgW else(k,v)::JiX l (k::JgW)
def genT (h:Jea) (s:SSt) (n:Nat):SSt×Nat :=
 let s:=s.fresh
 let s0:SSt:=⟨(JiX s.sl []).filter fun p=>!h.drop.contains p.1,(JiX s.m []).filter fun p=>!h.dropk.contains p.1⟩
 let a:=Jhb h.arrs s0 n
 let b:=Jdt h.slots a.1.sl a.2
 let c:=Jas h.cells a.1.m b.2
 (⟨b.1,JiX c.1 []⟩,c.2-n)
def YP:Code→Nat
 | .region id _ _=>id
 | .seq a _=>YP a
 | .block _ a=>YP a
 | .cond _ a _=>YP a
 | .loop a=>YP a
 | _=>1000000
def Zg (l:List (Nat×JiH)) (id:Nat) (s:SSt):SSt:=l.foldl (fun s o=>if o.1 == id then Jfi o.2 s else s) s
def JiQ (H:Ke) (id:Nat):Jea:=(H.loops.lookup id).getD {}
def Jpv (c:Operand) (t:Bool) (s:SSt):SSt:=match c with
 | .tmp d=>⟨(d,.d (.vb (Ue t)))::s.sl,s.m⟩
 | _=>s
def JgG (ops:Array Oper) (draw:Bool) (tl:Trs):Bool:=!draw||(sok ops&&(un ops).all fun p=>apart (tl.getD p.1 []) (tl.getD p.2 []))
mutual
def SV.under (c:Nat):SV→Bool
 | .d e=>e.under c
 | .g cs=>WQ c cs
 | .o _ l=>l.under c
 | .p _ _=>true
 | .e _ l i _=>l.under c&&i.under c
 | .f _ cs=>WQ c cs
 | .t cs=>WQ c cs
 | .u=>true
def WQ (c:Nat):List SV→Bool
 | []=>true
 | v::vs=>v.under c&&WQ c vs
end
def Ji.under (c:Nat):Ji→Bool
 | .box cs=>WQ c cs
 | .arr _ _ l _ _=>l.under c
 | .dead=>true
def SSt.under (c:Nat) (s:SSt):Bool:=s.sl.all (fun p=>p.2.under c)&&s.m.all (fun p=>p.2.under c)
mutual
theorem Jii {c:Nat} {ρ ρ':Env} (h:Jv c ρ ρ') :∀v:SV,v.under c=true→γX ρ' v=γX ρ v
 | .d e,hu=>by simp only[γX,dat];rw[Ye h e (by simpa[SV.under] using hu)]
 | .g cs,hu=>by simp only[γX];rw[Ud h cs (by simpa[SV.under] using hu)]
 | .t cs,hu=>by simp only[γX];rw[Ud h cs (by simpa[SV.under] using hu)]
 | .f _ cs,hu=>by simp only[γX];rw[Ud h cs (by simpa[SV.under] using hu)]
 | .o _ l,hu=>by simp only[γX,lst];rw[Ye h l (by simpa[SV.under] using hu)]
 | .p _ _,_=>rfl
 | .e _ l i _,hu=>by
  simp only[SV.under,Jui] at hu;simp only[γX,lst,int];rw[Ye h l hu.1,Ye h i hu.2]
 | .u,_=>rfl
theorem Ud {c:Nat} {ρ ρ':Env} (h:Jv c ρ ρ') :∀vs:List SV,WQ c vs=true→γXs ρ' vs=γXs ρ vs
 | [],_=>rfl
 | v::vs,hu=>by
  simp only[WQ,Jui] at hu;simp only[γXs];rw[Jii h v hu.1,Ud h vs hu.2]
end
theorem Joo {c:Nat} {ρ ρ':Env} (h:Jv c ρ ρ') (o:Ji) (hu:o.under c=true):γO ρ' o=γO ρ o:=by
 cases o with
 | box cs=>simp only[γO];rw[Ud h cs hu]
 | arr ty sz l dp rw=>simp only[γO,lst];rw[Ye h l hu]
 | dead=>rfl
theorem Jo9 {c:Nat} {ρ ρ':Env} (h:Jv c ρ ρ') {s:SSt} (hu:s.under c=true):γs ρ' s.sl=γs ρ s.sl∧γm ρ' s.m=γm ρ s.m:=by
 unfold SSt.under at hu;simp only[Jui] at hu;refine⟨?_,?_⟩
 ·funext t
  unfold γs;cases hl:s.sl.lookup t with
  | none=>rfl
  | some v=>exact Jii h v (Juv.1 hu.1 (t,v) (Yo _ _ _ hl))
 ·funext k
  unfold γm;cases hl:s.m.lookup k with
  | none=>rfl
  | some v=>simp only[Juk];rw[Joo h v (Juv.1 hu.2 (k,v) (Yo _ _ _ hl))]
def JqN (ops:Array Oper):Bool:=ops.toList.any fun o=>o.guard.isNone&&(match o.op with | .panic _=>true | _=>false)
def Jcw (P:Program) (ops:Array Oper) (draw:Bool):Option (Tmp×Operand):=if draw then none else match ops[ops.size-1]? with
 | some ⟨some d,.binOp .eql t x (.const (.slice none 0 0)) _,_,_,_,none⟩=>match P.underlying t with
  | some (.slice _)=>some (d,x)
  | _=>none
 | _=>none
def sxC (P:Program) (sg:FuncId→Option Sig) (H:Ke):Code→SSt→Nat→(Out→SSt→Nat→Option R)→Option R
 | .skip,s,n,k=>k .norm s n
 | .region id ops draw,s,n,k=>if JqN ops then some (.i (.chk .ff) (.done [])) else
  let s:=Zg H.own id s
  match if H.inner.contains id && !draw then KO ops else none with
  | some q=>Z4 P sg H.dp H.bo ops (List.range' 0 (ops.size-4)) s.sl s.m n [] fun sl m n _=>match VJ P sg q sl m n with
   | some r=>match k .norm ⟨X1 H.keep r.2.1,r.2.2.1⟩ r.2.2.2 with
    | some x=>some (JaP r.1 x)
    | none=>none
   | none=>none
  | none =>
  match Jcw P ops draw with
  | none=>Z4 P sg H.dp H.bo ops (List.range' 0 ops.size) s.sl s.m n [] fun sl m n tl =>
   match JgG ops draw tl with
   | true=>k .norm ⟨X1 H.keep sl,m⟩ n
   | false=>none
  | some (d,x)=>Z4 P sg H.dp H.bo ops (List.range' 0 (ops.size-1)) s.sl s.m n [] fun sl m n _=>match sop sl x with
   | .d (.s l)=>if SSt.under n ⟨sl,m⟩ then match k .norm ⟨X1 H.keep ((d,.d (.vb .tt))::sl),m⟩ n,k .norm ⟨X1 H.keep ((d,.d (.vb .ff))::sl),m⟩ n with
    | some x,some y=>some (.nilq n l x y)
    | _,_=>none
    else none
   | _=>none
 | .seq a b,s,n,k=>sxC P sg H a s n fun o s' n'=>match o with
  | .norm=>sxC P sg H b s' n' k
  | o=>k o s' n'
 | .cond c a b,s,n,k=>match sop s.sl c with
  | .d (.vb e)=>match e.known with
   | some true=>sxC P sg H a s n k
   | some false=>sxC P sg H b s n k
   | none=>match sxC P sg H a (Jpv c true s) n k,sxC P sg H b (Jpv c false s) n k with
    | some x,some y=>some (.ite e x y)
    | _,_=>none
  | _=>none
 | .block id a,s,n,k=>sxC P sg H a s n fun o s' n'=>match o with
  | .exit j=>if j=id then k .norm s' n' else k (.exit j) s' n'
  | o=>k o s' n'
 | .loop a,s,n,k =>
  let s:=Zg H.own (YP a) s
  let t:=genT (JiQ H (YP a)) s n
  match JcE n t.2 t.1 (SSt.like H.nl t.1 s) H.nl with
  | none=>none
  | some init=>match sxC P sg H a t.1 (n+t.2) (fun o s' n'=>match o with
    | .norm=>match JcE n t.2 t.1 (SSt.like H.nl t.1 s') H.nl with
     | some vs=>some (.next vs)
     | none=>none
    | o=>match k o s' n' with
     | some r=>some (.esc r)
     | none=>none) with
   | some body=>some (.loop n init body)
   | none=>none
 | .exit id,s,n,k=>k (.exit id) s n
 | .ret,s,n,k=>k .ret s n
 | _,_,_,_=>none
section
variable {B:Tb} {ρ:Env} {sg:FuncId→Option Sig} {P:Program} {G:Qb} {N:Nat}
theorem SMP.run_mono {α:Type} :∀(p:SMP α) (m:Yd) (n:Nat) (r:JpR α),p.run m n=some r→n≤r.n
 | .ret a,m,n,r,h=>by simp only[SMP.run,Juh] at h;subst h;exact Nat.le_refl _
 | .fail,_,_,_,h=>by cases h
 | .get k c,m,n,r,h=>by
  simp only[SMP.run] at h;split at h
  ·split at h
   ·rename_i r1 h1;simp only[Juh] at h;subst h;show n≤r1.n;exact SMP.run_mono _ _ _ r1 h1
   ·cases h
  ·cases h
 | .put k o c,m,n,r,h=>by
  simp only[SMP.run] at h;split at h
  ·split at h
   ·rename_i r1 h1;simp only[Juh] at h;subst h;show n≤r1.n;exact SMP.run_mono _ _ _ r1 h1
   ·cases h
  ·cases h
 | .new k o c,m,n,r,h=>by
  simp only[SMP.run] at h;split at h
  ·cases h
  ·split at h
   ·rename_i r1 h1;simp only[Juh] at h;subst h;show n≤r1.n;exact SMP.run_mono _ _ _ r1 h1
   ·cases h
 | .ask i j c,m,n,r,h=>by
  simp only[SMP.run] at h;split at h
  ·rename_i r1 h1;simp only[Juh] at h;subst h;have:=SMP.run_mono _ _ _ _ h1;show n≤r1.n;omega
  ·cases h
theorem Up {dp bo:Oper→Bool} {ops:Array Oper} (n0:Nat) (k k':SSl→Yd→Nat→Trs→Option R) (hk :∀sl m n t,n0≤n→k sl m n t=k' sl m n t) :∀(l:List Nat) (sl:SSl) (m:Yd) (n:Nat) (trs:Trs),n0≤n →
  Z4 P sg dp bo ops l sl m n trs k=Z4 P sg dp bo ops l sl m n trs k'
 | [],sl,m,n,trs,h=>hk _ _ _ _ h
 | i::l,sl,m,n,trs,h=>by
  have ih:=Up (dp:=dp) (bo:=bo) (ops:=ops) n0 k k' hk l;simp only[Z4];cases ops[i]? with
  | none=>rfl
  | some o =>
   dsimp only
   generalize ZC ops sl o=wt;cases wt with
   | yes =>
    simp only[if_true];cases hr:(JiN P sg (dp o) (bo o) o sl).run m n with
    | none=>rfl
    | some r =>
     simp only;rw[ih _ _ _ _ (Nat.le_trans h (SMP.run_mono _ _ _ _ hr))]
   | no=>simp only[Juy,if_false];rw[ih _ _ _ _ h]
   | bad=>rfl
   | fork d b want =>
    cases want with
    | true =>
     simp only[Bool.not_true,Juy,if_false,if_true];rw[ih _ _ _ _ h];cases hr:(JiN P sg (dp o) (bo o) o ((d,.d (.vb .tt))::sl)).run m n with
     | none=>rfl
     | some r =>
      simp only;rw[ih _ _ _ _ (Nat.le_trans h (SMP.run_mono _ _ _ _ hr))]
    | false =>
     simp only[Bool.not_false,Juy,if_false,if_true];rw[ih _ _ _ _ h];cases hr:(JiN P sg (dp o) (bo o) o ((d,.d (.vb .ff))::sl)).run m n with
     | none=>rfl
     | some r =>
      simp only;rw[ih _ _ _ _ (Nat.le_trans h (SMP.run_mono _ _ _ _ hr))]
theorem Jjv {ops:Array Oper} {draw:Bool} {d:Tmp} {x:Operand} (h:Jcw P ops draw=some (d,x)) :
  0<ops.size∧draw=false∧∃ t:TypeId,(∃ e,P.underlying t=some (.slice e))∧∃ o,ops[ops.size-1]? = some o∧o.dst=some d∧o.guard=none∧∃ y,o.op = .binOp .eql t x (.const (.slice none 0 0)) y:=by
 unfold Jcw at h;split at h
 ·cases h
 ·rename_i hd;have hd:draw=false:=by simpa using hd
  split at h
  ·rename_i d' t x' y ty pos af ho;split at h
   ·rename_i e he;simp only[Juh,Juz] at h;obtain⟨rfl,rfl⟩:=h;have hlt:=(Juu.1 ho).1;exact⟨by omega,hd,t,⟨e,he⟩,_,ho,rfl,rfl,_,rfl⟩
   ·cases h
  ·cases h
theorem JqS {t e:TypeId} (h:P.underlying t=some (.slice e)) (A:Option Addr) (l cap:Nat):JP P (Op.equal t (.slice A l cap) (.slice none 0 0))=some A.isNone:=by
 show JP P (Op.equalIn (9999+1) t _ _)=_;unfold Op.equalIn;rw[Xb,XK h];cases A <;> rfl
theorem JnH {a:Act} {w:World} {o:Oper} {t:TypeId} {x:Operand} {A:Option Addr} {l cap:Nat} (ht : ∃ e,P.underlying t=some (.slice e)) (ho : ∃ y,o.op = .binOp .eql t x (.const (.slice none 0 0)) y) (hA:a.eval x = .slice A l cap) :
  (execOp a.eval o).run P w = .ok (.value (.bool A.isNone)) w:=by
 obtain⟨e,ht⟩:=ht;obtain⟨y,ho⟩:=ho;have h1:JP P (do eqGuard .eql t x (.const (.slice none 0 0)) (.slice A l cap) (.slice none 0 0);binOp .eql t (.slice A l cap) (.slice none 0 0))=some (.bool A.isNone):=by
  show JP P (Op.equal t (.slice A l cap) (.slice none 0 0) >>= fun r=>pure (Value.bool r))=_;rw[Xb,JqS ht];rfl
 have h2:=Yt _ _ w h1;have hc:a.eval (.const (.slice none 0 0)) = .slice none 0 0:=rfl;unfold execOp;rw[ho];simp only[hA,hc,Sem.run_bind] at h2 ⊢;rw[h2];rfl
theorem W3 {T:Tab} {G:Qb} {ops:Array Oper} {c:Cx P} {Q:Exit→Act→World→Prop} (hT:Wj c T) :∀(l l2:List Nat) (st st':St) (g:Gh) (a:Act) (w:World),Sim c g st.m w→Jt c g st.m w st.sl a→UG a.tmps.size ops=true→UL P T G ops l st=some st' →
  (∀a' w' g',Sim c g' st'.m w'→Jt c g' st'.m w' st'.sl a'→Jf c g st.m w g' st'.m w'→a'.defers=a.defers→a'.tmps.size=a.tmps.size→wpOps P ops Q l2 a' w')→wpOps P ops Q (l++l2) a w
 | [],l2,st,st',g,a,w,hS,hsl,_,h,hQ=>by
  simp only[UL,Juh] at h;subst h;exact hQ a w g hS hsl (.refl _ _ _ _) rfl rfl
 | i::l,l2,st,st',g,a,w,hS,hsl,hd,h,hQ=>by
  simp only[UL] at h;split at h
  ·rename_i st1 h1;rw[List.cons_append,wpOps_cons];refine WS hT hS hsl hd h1 fun a' w' g' hS' hsl' hC1 e1 e2=>?_;refine W3 hT l l2 st1 st' g' a' w' hS' hsl' (by rw[e2];exact hd) h fun a'' w'' g'' h3 h4 hC2 h5 h6=>hQ a'' w'' g'' h3 h4 (hC1.trans hC2) (h5.trans e1) (h6.trans e2)
  ·cases h
theorem JnX {s:SSt} {c:Operand} {e:E} (h:sop s.sl c = .d (.vb e)):opX (γs ρ s.sl) c=X.d (.v (.bool (bol ρ e))):=by
 rw[QJ,h];rfl
theorem Jlz {s:SSt} {c:Operand} {e:E} {t:Bool} (h:sop s.sl c = .d (.vb e)) (hk:e.known=none) (ht:bol ρ e=t):γs ρ (Jpv c t s).sl=γs ρ s.sl∧(Jpv c t s).m=s.m:=by
 cases c with
 | tmp d =>
  refine⟨?_,rfl⟩;have hl:s.sl.lookup d=some (.d (.vb e)):=by
   simp only[sop] at h;cases hl:s.sl.lookup d with
   | none=>rw[hl] at h;cases h
   | some v=>rw[hl] at h;exact congrArg some h
  exact Jlu hl ht
 | _=>exact⟨rfl,rfl⟩
theorem ZF {c:Cx P} {w:World} {a:Act} (id:Nat) {g0:Gh} {m0:Mem} {w0:World} :∀(l:List (Nat×JiH)) (s:SSt) (g:Gh),Sim c g (γm ρ s.m) w→Jt c g (γm ρ s.m) w (γs ρ s.sl) a→Jf c g0 m0 w0 g (γm ρ s.m) w →
  ∃ g',Sim c g' (γm ρ (Zg l id s).m) w∧Jt c g' (γm ρ (Zg l id s).m) w (γs ρ (Zg l id s).sl) a∧Jf c g0 m0 w0 g' (γm ρ (Zg l id s).m) w
 | [],s,g,hS,hH,hC=>⟨g,hS,hH,hC⟩
 | o::l,s,g,hS,hH,hC=>by
  unfold Zg;simp only[List.foldl_cons]
  by_cases ho:(o.1 == id)=true
  ·rw[if_pos ho];obtain⟨g',h1,h2,h3⟩:=Jns o.2 hS hH hC;exact ZF id l _ g' h1 h2 h3
  ·rw[if_neg ho];exact ZF id l _ g hS hH hC
theorem Jv.trans {c:Nat} {ρ1 ρ2 ρ3:Env} (h:Jv c ρ1 ρ2) (h':Jv c ρ2 ρ3):Jv c ρ1 ρ3:=fun j hj=>(h' j hj).trans (h j hj)
theorem Jv.le {c d:Nat} {ρ1 ρ2:Env} (h:Jv d ρ1 ρ2) (hc:c≤d):Jv c ρ1 ρ2:=fun j hj=>h j (by omega)
theorem Jv.rfl' {c:Nat} {ρ:Env}:Jv c ρ ρ:=fun _ _=>rfl
theorem Jv.symm {c:Nat} {ρ1 ρ2:Env} (h:Jv c ρ1 ρ2):Jv c ρ2 ρ1:=fun j hj=>(h j hj).symm
theorem Jnw (hB:BOk sg B) {c:Cx P} (hT:Wj c (X7 sg B)) (hm:P.follows .mixedOrders=true) (H:Ke) {g0:Gh} {m0:Mem} {w0:World} (hl :∀k,m0 k≠none→k<H.nl) :
  ∀(C:Code) (s:SSt) (n:Nat) (k:Out→SSt→Nat→Option R) (R:R) (ρ:Env) (o:Oc) (a:Act) (w:World) (g:Gh) (Q:Exit→Act→World→Prop),
  sxC P sg H C s n k=some R→Run B N R ρ o→Sim c g (γm ρ s.m) w→Jt c g (γm ρ s.m) w (γs ρ s.sl) a→Jf c g0 m0 w0 g (γm ρ s.m) w→codeOk a.tmps.size C=true →
  (∀ex s' n' R' ρ' a' w' g',n≤n'→Jv n ρ ρ'→k ex s' n'=some R'→Run B N R' ρ' o→Sim c g' (γm ρ' s'.m) w'→Jt c g' (γm ρ' s'.m) w' (γs ρ' s'.sl) a'→Jf c g0 m0 w0 g' (γm ρ' s'.m) w'→a'.defers=a.defers→a'.tmps.size=a.tmps.size→Q ex.exitOf a' w') →
  C.wp P Q a w:=by
 intro C
 induction C with
 | skip =>
  intro s n k R ρ o a w g Q h hr hS hH hC hc hQ;exact wp_skip (hQ .norm s n R ρ a w g (Nat.le_refl _) Jv.rfl' h hr hS hH hC rfl rfl)
 | exit id =>
  intro s n k R ρ o a w g Q h hr hS hH hC hc hQ;exact wp_exit (hQ (.exit id) s n R ρ a w g (Nat.le_refl _) Jv.rfl' h hr hS hH hC rfl rfl)
 | ret =>
  intro s n k R ρ o a w g Q h hr hS hH hC hc hQ;exact wp_ret (hQ .ret s n R ρ a w g (Nat.le_refl _) Jv.rfl' h hr hS hH hC rfl rfl)
 | region id ops draw =>
  intro s n k R ρ o a w g Q h hr hS hH hC hc hQ;simp only[sxC] at h;split at h
  ·simp only[Juh] at h;subst h;obtain⟨h1,_⟩:=hr;exact absurd h1 (by simp[I.holds,bol,den,V.bool])
  obtain⟨g1,hS1,hH1,hC1⟩:=ZF id H.own s g hS hH hC;generalize Zg H.own id s=s1 at *;cases hin:(if H.inner.contains id && !draw then KO ops else none) with
  | some q =>
   rw[hin] at h;simp only at h;have hq:draw=false∧KO ops=some q:=by
    split at hin
    ·rename_i hcc;simp only[Jui,Bool.not_eq_true'] at hcc;exact⟨hcc.2,hin⟩
    ·cases hin
   obtain⟨rfl,hq⟩:=hq;rw[Up n _ (fun sl m n' tl=>if n≤n' then(match VJ P sg q sl m n' with
    | some r=>match k .norm ⟨X1 H.keep r.2.1,r.2.2.1⟩ r.2.2.2 with
     | some x=>some (JaP r.1 x)
     | none=>none
    | none=>none) else none)
    (fun sl m n' t hn=>by rw[if_pos hn]) _ _ _ _ _ (Nat.le_refl n)] at h
   obtain⟨sl',m',n',tl,R',e1,e2,e3⟩:=W7 (G:={ deep:=H.deep,no:=H.no,bor:=H.bor }) (N:=N) (ρ:=ρ) hB _ _ _ _ _ _ R o h hr;split at e2
   ·rename_i hn;split at e2
    ·rename_i r hsx;obtain⟨is,sl2,m2,n2⟩:=r;split at e2
     ·rename_i R2 hk2;simp only[Juh] at e2;subst e2;obtain⟨his,hr2⟩:=Vs _ _ _ e3;have hn2:n'≤n2:=JgH (fun p m n r h=>SMP.run_mono p m n r h) hsx;refine wp_region ?_;have hsz4:4≤ops.size:=by
       unfold KO at hq;split at hq
       ·split at hq
        ·split at hq
         ·rename_i hc4;exact hc4.1
         ·cases hq
        ·cases hq
       ·cases hq
      have hrange:List.range ops.size=List.range' 0 (ops.size-4)++[ops.size-4,ops.size-3,ops.size-2,ops.size-1]:=by
       rw[List.range_eq_range'];have:ops.size=(ops.size-4)+1+1+1+1:=by omega
       conv=>lhs;rw[this,List.range'_concat,List.range'_concat,List.range'_concat,List.range'_concat]
       simp only[List.append_assoc,List.singleton_append,Nat.zero_add,Nat.one_mul,List.append_cancel_left_eq];rw[show ops.size-3=ops.size-4+1 by omega,show ops.size-2=ops.size-4+2 by omega,show ops.size-1=ops.size-4+3 by omega];rfl
      rw[hrange];refine W3 hT _ [ops.size-4,ops.size-3,ops.size-2,ops.size-1] _ _ _ _ _ hS1 hH1 hc (Uz (G:={ deep:=H.deep,no:=H.no,bor:=H.bor }) _ _ _ _ e1) fun a' w' g' hS2 hH2 hC2 hd2 hz2=>?_;have hc':UG a'.tmps.size ops=true:=by rw[hz2];exact hc
      refine(JjN hB hT hS2 hH2 hc' hq hsx his fun a'' w'' g'' h1 h2 h3 h4 h5=>?_).2;exact hQ .norm _ n2 R2 ρ a'' w'' g'' (Nat.le_trans hn hn2) Jv.rfl' hk2 hr2 h1 (Jc1 H.keep h2) ((hC1.trans hC2).trans h3) (h4.trans hd2) (h5.trans hz2)
     ·cases e2
    ·cases e2
   ·cases e2
  | none =>
  rw[hin] at h;simp only at h;cases hnl:Jcw P ops draw with
  | some dx =>
   obtain⟨d,x⟩:=dx;rw[hnl] at h;simp only at h;obtain⟨ho,hdr,t,ht,o0,hop,hod,hog,hopp⟩:=Jjv hnl;subst hdr;rw[Up n _ (fun sl m n' tl=>if n≤n' then(match sop sl x with
    | .d (.s l)=>if SSt.under n' ⟨sl,m⟩ then match k .norm ⟨X1 H.keep ((d,.d (.vb .tt))::sl),m⟩ n',k .norm ⟨X1 H.keep ((d,.d (.vb .ff))::sl),m⟩ n' with
     | some x,some y=>some (.nilq n' l x y)
     | _,_=>none
     else none
    | _=>none) else none)
    (fun sl m n' t hn=>by rw[if_pos hn]) _ _ _ _ _ (Nat.le_refl n)] at h
   obtain⟨sl',m',n',tl,R',e1,e2,e3⟩:=W7 (G:={ deep:=H.deep,no:=H.no,bor:=H.bor }) (N:=N) (ρ:=ρ) hB _ _ _ _ _ _ R o h hr;split at e2
   ·rename_i hn;split at e2
    ·rename_i l hl;split at e2
     ·rename_i hund;split at e2
      ·rename_i R1 R2 hk1 hk2;simp only[Juh] at e2;subst e2;obtain⟨⟨ρy,hay,hry⟩,hx⟩:=e3;refine wp_region ?_;have hrange:List.range ops.size=List.range' 0 (ops.size-1)++[ops.size-1]:=by
        rw[List.range_eq_range'];have:ops.size=(ops.size-1)+1:=by omega
        conv=>lhs;rw[this,List.range'_concat]
        simp
       rw[hrange];refine W3 hT _ [ops.size-1] _ _ _ _ _ hS1 hH1 hc (Uz (G:={ deep:=H.deep,no:=H.no,bor:=H.bor }) _ _ _ _ e1) fun a' w' g' hS2 hH2 hC2 hd2 hz2=>?_;rw[wpOps_cons];have hv:=oX1 hH2 x;rw[QJ,hl] at hv;obtain⟨fp,⟨A,cap,hA,hle,hrest⟩,hok⟩:=hv;have hexec:(execOp a'.eval o0).run P w' = .ok (.value (.bool A.isNone)) w':=JnH ht hopp hA;have hdlt:d<a'.tmps.size:=by
        have h0:UG a.tmps.size ops=true:=hc;have:=Array.all_eq_true_iff_forall_mem.1 h0 o0 (Array.mem_of_getElem? hop);rw[hod] at this;rw[hz2];simpa using this
       unfold wpOp;rw[hop];have hwant:Region.wanted o0 (yielded ops a'.tmps)=true:=by unfold Region.wanted;rw[hog]
       simp only[hwant,if_true];refine .inl ?_;unfold Oper.wp;rw[hexec];show wpOps P ops Q [] (a'.put o0.dst (.bool A.isNone)) w';have hput :∀(tb:Bool),A.isNone=tb→Jt c g' (γm ρ m') w' (γs ρ ((d,.d (.vb (Ue tb)))::sl')) (a'.put o0.dst (.bool A.isNone)):=by
        intro tb htb;rw[JcB,htb];have:=Jt.put (o:=o0) (x:=γX ρ (.d (.vb (Ue tb)))) (v:= .bool tb) hH2 (.refl _ _ _ _) (fun d' hd'=>by rw[hod] at hd';cases hd';exact hdlt) (by
         show VX c g' _ w' (X.d (.v (.bool (bol ρ (Ue tb))))) _;have:bol ρ (Ue tb)=tb:=by cases tb <;> rfl
         rw[this];exact⟨[],⟨rfl,rfl,rfl⟩,fun b hb=>by simp at hb⟩)
        rw[hod] at this ⊢;exact this
       have hC3:=hC1.trans hC2;have fin :∀(tb:Bool) (Rb:Go.Tm.R) (ρb:Env),A.isNone=tb→Jv n' ρ ρb→k .norm ⟨X1 H.keep ((d,.d (.vb (Ue tb)))::sl'),m'⟩ n'=some Rb→Run B N Rb ρb o→Q .normal (a'.put o0.dst (.bool A.isNone)) w':=by
        intro tb Rb ρb htb hab hkb hrb;have hund2:SSt.under n' ⟨(d,.d (.vb (Ue tb)))::sl',m'⟩=true:=by
         unfold SSt.under at hund ⊢;simp only[Jui,List.all_cons] at hund ⊢;exact⟨⟨by cases tb <;> rfl,hund.1⟩,hund.2⟩
        obtain⟨u1,u2⟩:=Jo9 hab hund2;refine hQ .norm _ n' Rb ρb _ w' g' hn (hab.le hn) hkb hrb (by rw[u2];exact hS2) (Jc1 H.keep ?_) (by rw[u2];exact hC3) ((W0 _ _ _).trans hd2) ((Jdy _ _ _).trans hz2);rw[u2];show Jt c g' _ w' (γs ρb ((d,.d (.vb (Ue tb)))::sl')) _;rw[u1];exact hput tb htb
       cases hA':A.isNone with
       | true =>
        have hnil:lst ρ l=[]:=by
         rcases hrest with ⟨h1,_⟩ | ⟨b,o,sz,fp',h1,_⟩
         ·exact h1
         ·rw[h1] at hA';cases hA'
        obtain⟨ρx,hax,hrx⟩:=hx hnil;have:=fin true R1 ρx hA' hax hk1 hrx;rw[hA'] at this;exact this
       | false =>
        have:=fin false R2 ρy hA' hay hk2 hry;rw[hA'] at this;exact this
      ·cases e2
     ·cases e2
    ·cases e2
   ·cases e2
  | none =>
  rw[hnl] at h;simp only at h;rw[Up n _ (fun sl m n' tl=>if n≤n' then(match JgG ops draw tl with | true=>k .norm ⟨X1 H.keep sl,m⟩ n' | false=>none) else none)
   (fun sl m n' t hn=>by rw[if_pos hn]) _ _ _ _ _ (Nat.le_refl n)] at h
  obtain⟨sl',m',n',tl,R',e1,e2,e3⟩:=W7 (G:={ deep:=H.deep,no:=H.no,bor:=H.bor }) (N:=N) (ρ:=ρ) hB _ _ _ _ _ _ R o h hr;simp only[List.reverse_nil,List.nil_append] at e2;split at e2
  ·rename_i hn;cases hd:JgG ops draw tl with
   | false=>rw[hd] at e2;cases e2
   | true =>
    rw[hd] at e2;have hreg:JaY P (X7 sg B) { deep:=H.deep,no:=H.no,bor:=H.bor } id ops draw ⟨γs ρ s1.sl,γm ρ s1.m⟩=some ⟨γs ρ sl',γm ρ m'⟩:=by
     unfold JaY;cases draw with
     | false =>
      simp only[Juy,if_false];exact Uz _ _ _ _ e1
     | true =>
      simp only[if_true,e1];unfold JgG at hd;simp only[Bool.not_true,Bool.false_or] at hd;simp only[hd,if_true]
    refine Jg9 hT hm (g0:=g0) (m0:=m0) (w0:=w0) hC1 hS1 hH1 hc hreg fun a' w' g' h1 h2 h3 h4 h5=>?_;exact hQ .norm _ n' R' ρ a' w' g' hn Jv.rfl' e2 e3 h1 (Jc1 H.keep h2) h3 h4 h5
  ·cases e2
 | seq x y ihx ihy =>
  intro s n k R ρ o a w g Q h hr hS hH hC hc hQ;simp only[codeOk,Jui] at hc;simp only[sxC] at h;refine wp_seq ?_;refine ihx s n _ R ρ o a w g _ h hr hS hH hC hc.1 fun ex s' n' R' ρ' a' w' g' hn hag hk hr' hS' hH' hC' hd hz=>?_;cases ex with
  | norm =>
   refine ihy s' n' k R' ρ' o a' w' g' Q hk hr' hS' hH' hC' (by rw[hz];exact hc.2) fun ex s2 n2 R2 ρ2 a2 w2 g2 hn2 hag2 hk2 hr2 hS2 hH2 hC2 hd2 hz2=>?_;exact hQ ex s2 n2 R2 ρ2 a2 w2 g2 (Nat.le_trans hn hn2) (hag.trans (hag2.le hn)) hk2 hr2 hS2 hH2 hC2 (hd2.trans hd) (hz2.trans hz)
  | exit id=>exact hQ (.exit id) s' n' R' ρ' a' w' g' hn hag hk hr' hS' hH' hC' hd hz
  | ret=>exact hQ .ret s' n' R' ρ' a' w' g' hn hag hk hr' hS' hH' hC' hd hz
 | cond b x y ihx ihy =>
  intro s n k R ρ o a w g Q h hr hS hH hC hc hQ;simp only[codeOk,Jui] at hc;simp only[sxC] at h;split at h
  ·rename_i e he;have hv:=oX1 hH b;rw[JnX he] at hv;have hv:=(Qk hv).1;refine wp_cond hv ?_;split at h
   ·rename_i hk;rw[ZR hk];simp only[if_true];exact ihx s n k R ρ o a w g Q h hr hS hH hC hc.1 hQ
   ·rename_i hk;rw[ZR hk];simp only[Juy,if_false];exact ihy s n k R ρ o a w g Q h hr hS hH hC hc.2 hQ
   ·rename_i hk;split at h
    ·rename_i x' y' hx hy;simp only[Juh] at h;subst h;simp only[Run] at hr;cases hb:bol ρ e with
     | true =>
      rw[hb] at hr;simp only[if_true] at hr ⊢;obtain⟨e1,e2⟩:=Jlz (t:=true) he hk hb;exact ihx _ n k x' ρ o a w g Q hx hr (by rw[e2];exact hS) (by rw[e1,e2];exact hH) (by rw[e2];exact hC) hc.1 hQ
     | false =>
      rw[hb] at hr;simp only[Juy,if_false] at hr ⊢;obtain⟨e1,e2⟩:=Jlz (t:=false) he hk hb;exact ihy _ n k y' ρ o a w g Q hy hr (by rw[e2];exact hS) (by rw[e1,e2];exact hH) (by rw[e2];exact hC) hc.2 hQ
    ·cases h
  ·cases h
 | block id x ih =>
  intro s n k R ρ o a w g Q h hr hS hH hC hc hQ;simp only[codeOk] at hc;simp only[sxC] at h;refine wp_block ?_;refine ih s n _ R ρ o a w g _ h hr hS hH hC hc fun ex s' n' R' ρ' a' w' g' hn hag hk hr' hS' hH' hC' hd hz=>?_;cases ex with
  | norm=>exact hQ .norm s' n' R' ρ' a' w' g' hn hag hk hr' hS' hH' hC' hd hz
  | ret=>exact hQ .ret s' n' R' ρ' a' w' g' hn hag hk hr' hS' hH' hC' hd hz
  | exit j =>
   simp only at hk;split at hk
   ·rename_i hj;have:=hQ .norm s' n' R' ρ' a' w' g' hn hag hk hr' hS' hH' hC' hd hz;simpa[Exit.inBlock,Out.exitOf,hj] using this
   ·rename_i hj;have:=hQ (.exit j) s' n' R' ρ' a' w' g' hn hag hk hr' hS' hH' hC' hd hz;simpa[Exit.inBlock,Out.exitOf,hj] using this
 | loop x ih =>
  intro s n k R ρ o a w g Q h hr hS hH hC hc hQ;simp only[codeOk] at hc;simp only[sxC] at h;obtain⟨g1,hS1,hH1,hC1⟩:=ZF (YP x) H.own s g hS hH hC;generalize Zg H.own (YP x) s=s1 at *;generalize genT (JiQ H (YP x)) s1 n=t at *;split at h
  ·cases h
  ·rename_i init hinit;split at h
   ·rename_i body hbody;simp only[Juh] at h;subst h;simp only[Run] at hr;refine wp_loop_rounds N ?_;have key :∀(j:Nat) (vs:List V) (g:Gh) (a':Act) (w:World),JcH (fun vs o1=>∃ ρ',Jv n ρ ρ'∧Jb4 n vs ρ'∧Run B N body ρ' o1) j vs o →
      (∀ρ',Jv n ρ ρ'→Jb4 n vs ρ'→Sim c g (γm ρ' t.1.m) w∧Jt c g (γm ρ' t.1.m) w (γs ρ' t.1.sl) a'∧Jf c g0 m0 w0 g (γm ρ' t.1.m) w) →
      a'.defers=a.defers→a'.tmps.size=a.tmps.size→Code.rounds P x Q j a' w:=by
     intro j
     induction j with
     | zero=>intro vs g a' w hrel;exact hrel.elim
     | succ j ihj =>
      intro vs g a' w hrel hst hda hza;rw[rounds_succ];rcases hrel with ⟨vs',⟨ρ',hag,hset,hrun⟩,hrel⟩ | ⟨ρ',hag,hset,hrun⟩
      ·obtain⟨q1,q2,q3⟩:=hst ρ' hag hset;refine ih t.1 (n+t.2) _ body ρ' _ a' w g _ hbody hrun q1 q2 q3 (by rw[hza];exact hc) fun ex s' n' R' ρ2 a2 w2 g2 hn2 hag2 hk2 hr2 hS2 hH2 hC2 hd2 hz2=>?_;cases ex with
       | norm =>
        simp only at hk2;split at hk2
        ·rename_i vsE hvs;simp only[Juh] at hk2;subst hk2;simp only[Run,Oc.next.injEq] at hr2;subst hr2;obtain⟨g3,hS3,hH3,hC3⟩:=Jgd hl t.1 hS2 hH2 hC2;refine ihj _ g3 a2 w2 hrel (fun ρ3 hag3 hset3=>?_) (hd2.trans hda) (hz2.trans hza);have hag4:Jv n ρ ρ2:=hag.trans (hag2.le (by omega));exact WM hvs (hag4.symm.trans hag3) hset3 hl hS3 hH3 hC3
        ·cases hk2
       | exit id =>
        simp only at hk2;split at hk2
        ·simp only[Juh] at hk2;subst hk2;obtain⟨o',ho',_⟩:=hr2;cases ho'
        ·cases hk2
       | ret =>
        simp only at hk2;split at hk2
        ·simp only[Juh] at hk2;subst hk2;obtain⟨o',ho',_⟩:=hr2;cases ho'
        ·cases hk2
      ·obtain⟨q1,q2,q3⟩:=hst ρ' hag hset;refine ih t.1 (n+t.2) _ body ρ' _ a' w g _ hbody hrun q1 q2 q3 (by rw[hza];exact hc) fun ex s' n' R' ρ2 a2 w2 g2 hn2 hag2 hk2 hr2 hS2 hH2 hC2 hd2 hz2=>?_;have hag4:Jv n ρ ρ2:=hag.trans (hag2.le (by omega));cases ex with
       | norm =>
        simp only at hk2;split at hk2
        ·simp only[Juh] at hk2;subst hk2;simp only[Run] at hr2;cases hr2
        ·cases hk2
       | exit id =>
        simp only at hk2;split at hk2
        ·rename_i r hkr;simp only[Juh] at hk2;subst hk2;obtain⟨o',ho',hr3⟩:=hr2;cases ho';exact hQ (.exit id) s' n' r ρ2 a2 w2 g2 (by omega) hag4 hkr hr3 hS2 hH2 hC2 (hd2.trans hda) (hz2.trans hza)
        ·cases hk2
       | ret =>
        simp only at hk2;split at hk2
        ·rename_i r hkr;simp only[Juh] at hk2;subst hk2;obtain⟨o',ho',hr3⟩:=hr2;cases ho';exact hQ .ret s' n' r ρ2 a2 w2 g2 (by omega) hag4 hkr hr3 hS2 hH2 hC2 (hd2.trans hda) (hz2.trans hza)
        ·cases hk2
    obtain⟨gi,hSi,hHi,hCi⟩:=Jgd hl t.1 hS1 hH1 hC1;exact key N _ gi a w hr (fun ρ' hag hset=>WM hinit hag hset hl hSi hHi hCi) rfl rfl
   ·cases h
 | _=>intro s n k R ρ o a w g Q h;simp[sxC] at h
end
end Go.Tm
end
section
namespace Go.Tm
open Go.IntKind (i64)
def JlG:D→Bool
 | .v (.slice none 0 0)=>false
 | x=>x.one
def Sh1.toV:Sh1→D→Option V
 | .i k,.v (.int k' n)=>if k=k' then some (.i n) else none
 | .b,.v (.bool t)=>some (.b t)
 | .s,.s es=>some (.l es)
 | .d,x=>if JlG x then some (.d x) else none
 | _,_=>none
def XQ:List Sh1→List D→Nat→Env→Option Env
 | [],[],_,ρ=>some ρ
 | a::as,d::ds,n,ρ=>match a.toV d with
  | some v=>XQ as ds (n+1) (upd ρ n v)
  | none=>none
 | _,_,_,_=>none
def Sh.bind:Sh→D→Nat→Env→Option Env
 | .one a,d,n,ρ=>XQ [a] [d] n ρ
 | .g as,.g cs,n,ρ=>XQ as cs n ρ
 | .q as,.q cs,n,ρ=>XQ as cs n ρ
 | _,_,_,_=>none
def XV (B : Tb) : I → Env → Option Env
  | .chk b,ρ=>if bol ρ b then some ρ else none
  | .head sz l,ρ=>if Yb sz (lst ρ l) then some ρ else none
  | .fl l,ρ=>if JI (lst ρ l) then some ρ else none
  | .get e sh n,ρ=>sh.bind (dat ρ e) n ρ
  | .idx l i sh n,ρ=>if 0≤int ρ i then match (lst ρ l)[(int ρ i).toNat]? with
      | some d=>sh.bind d n ρ
      | none=>none
    else none
  | .call f as rs n,ρ=>match B.call f (as.map (dat ρ)) with
    | some ds=>XQ rs ds n ρ
    | none=>none
  | .prim p as r n,ρ=>match ZS p (as.map (dat ρ)) with
    | some d=>XQ [r] [d] n ρ
    | none=>none
  | .callv e as ar rs n,ρ=>match dat ρ e with
    | .f fn caps=>if B.ar fn=some (ar++caps.map fun _=>none) then match B.call fn (as.map (dat ρ)++caps.map D.norm) with
        | some ds=>XQ rs ds n ρ
        | none=>none
      else none
    | _=>none
def UH (f:List V→Option Oc):Nat→List V→Option Oc
 | 0,_=>none
 | n+1,vs=>match f vs with
  | some (.next vs')=>UH f n vs'
  | some (.esc o)=>some o
  | _=>none
def XT:Nat→List V→Env→Env
 | _,[],ρ=>ρ
 | c,v::vs,ρ=>XT (c+1) vs (upd ρ c v)
open Classical in
noncomputable def JH (B:Tb) (N:Nat):R→Env→Option Oc
 | .i x r,ρ=>match XV B x ρ with
  | some ρ'=>JH B N r ρ'
  | none=>none
 | .ite b x y,ρ=>if bol ρ b then JH B N x ρ else JH B N y ρ
 | .nilq _ l x y,ρ=>match lst ρ l with
  | []=>if JH B N x ρ=JH B N y ρ then JH B N y ρ else none
  | _::_=>JH B N y ρ
 | .loop c init body,ρ=>UH (fun vs=>JH B N body (XT c vs ρ)) N (init.map (den ρ))
 | .next vs,ρ=>some (.next (vs.map (den ρ)))
 | .done vs,ρ=>some (.done (vs.map (dat ρ)))
 | .esc r,ρ=>match JH B N r ρ with
  | some o=>some (.esc o)
  | none=>none
def I.wf (c:Nat):I→Bool
 | .chk b=>b.under c
 | .head _ l=>l.under c
 | .fl l=>l.under c
 | .get e _ n=>e.under c&&n == c
 | .idx l i _ n=>l.under c&&i.under c&&n == c
 | .call _ as _ n=>as.all (E.under c)&&n == c
 | .callv e as _ _ n=>e.under c&&as.all (E.under c)&&n == c
 | .prim _ as _ n=>as.all (E.under c)&&n == c
def I.size:I→Nat
 | .chk _ | .head _ _ | .fl _=>0
 | .get _ sh _ | .idx _ _ sh _=>sh.size
 | .call _ _ rs _ | .callv _ _ _ rs _=>rs.length
 | .prim _ _ _ _=>1
def R.wf:R→Nat→List Nat→Bool
 | .i x r,c,st=>x.wf c&&r.wf (c+x.size) st
 | .ite b x y,c,st=>b.under c&&x.wf c st&&y.wf c st
 | .nilq c' l x y,c,st=>c' == c&&l.under c&&x.wf c st&&y.wf c st
 | .loop c' init body,c,st=>c' == c&&init.all (E.under c)&&body.wf (c+init.length) (init.length::st)
 | .next vs,c,st=>vs.all (E.under c)&&st.head? == some vs.length
 | .done vs,c,_=>vs.all (E.under c)
 | .esc r,c,st=>r.wf c st.tail
def Oc.conf:Oc→List Nat→Prop
 | .next vs,st=>st.head? = some vs.length
 | .done _,_=>True
 | .esc o,st=>o.conf st.tail
section
variable {B:Tb} {N:Nat}
theorem Jrc {a:Sh1} {d:D} {v:V} {n:Nat} {ρ:Env} (h:a.toV d=some v) (hr:ρ n=v):dat ρ (a.expr n)=d:=by
 unfold Sh1.toV at h;split at h
 ·split at h
  ·rename_i hk;subst hk;simp only[Juh] at h;subst h;show D.v (.int _ (V.int (ρ n)))=_;rw[hr];rfl
  ·cases h
 ·simp only[Juh] at h;subst h;show D.v (.bool (V.bool (ρ n)))=_;rw[hr];rfl
 ·simp only[Juh] at h;subst h;show D.s (V.lst (ρ n))=_;rw[hr];rfl
 ·split at h
  ·rename_i hx;simp only[Juh] at h;subst h;show XN (V.dat (ρ n))=_;rw[hr];show XN d=d;unfold JlG at hx;split at hx
   ·cases hx
   ·rename_i hne;rw[Uo hx];unfold D.norm;split
    ·exact absurd rfl hne
    ·rfl
  ·cases h
 ·cases h
theorem X2 :∀(as:List Sh1) (ds:List D) (n:Nat) (ρ ρ':Env),XQ as ds n ρ=some ρ'→as.length=ds.length∧Jv n ρ ρ'∧∀ρ2,Jv (n+as.length) ρ' ρ2→(Jz as n).map (dat ρ2)=ds
 | [],[],n,ρ,ρ',h=>by
  simp only[XQ,Juh] at h;subst h;exact⟨rfl,Jv.rfl',fun _ _=>rfl⟩
 | [],_::_,n,ρ,ρ',h=>by simp[XQ] at h
 | _::_,[],n,ρ,ρ',h=>by simp[XQ] at h
 | a::as,d::ds,n,ρ,ρ',h=>by
  simp only[XQ] at h;split at h
  ·rename_i v hv;obtain⟨h1,h2,h3⟩:=X2 as ds (n+1) _ ρ' h;refine⟨by simp[h1],fun j hj=>?_,fun ρ2 h4=>?_⟩
   ·rw[h2 j (by omega),uO1 _ _ (by omega)]
   ·simp only[Jz,Juq];rw[h3 ρ2 (by rw[show n+1+as.length=n+(a::as).length by simp;omega];exact h4)]
    congr 1
    refine Jrc hv ?_;rw[h4 n (by simp),h2 n (by omega),uS1]
  ·cases h
theorem Jel {sh:Sh} {d:D} {n:Nat} {ρ ρ':Env} (h:sh.bind d n ρ=some ρ'):Jv n ρ ρ'∧∀ρ2,Jv (n+sh.size) ρ' ρ2→dat ρ2 (sh.expr n)=d:=by
 unfold Sh.bind at h;split at h
 ·obtain⟨_,h2,h3⟩:=X2 _ _ _ _ _ h;refine⟨h2,fun ρ2 h4=>?_⟩;have:=h3 ρ2 h4;simp only[Jz,Juq,List.map_nil,List.cons.injEq,and_true] at this;exact this
 ·obtain⟨_,h2,h3⟩:=X2 _ _ _ _ _ h;refine⟨h2,fun ρ2 h4=>?_⟩;show D.g (lst ρ2 (J5 _))=_;rw[JE,h3 ρ2 h4]
 ·obtain⟨_,h2,h3⟩:=X2 _ _ _ _ _ h;refine⟨h2,fun ρ2 h4=>?_⟩;show D.q (lst ρ2 (J5 _))=_;rw[JE,h3 ρ2 h4]
 ·cases h
theorem Jbc {f:Env→E→D} {c:Nat} {ρ ρ':Env} (hf :∀e,e.under c=true→f ρ' e=f ρ e) {as:List E} (h:as.all (E.under c)=true):as.map (f ρ')=as.map (f ρ) :=
 JuE fun e he=>hf e (Juv.1 h e he)
theorem K2 {c:Nat} {ρ ρ':Env} (h:Jv c ρ ρ') (e:E) (hu:e.under c=true):dat ρ' e=dat ρ e:=by unfold dat;rw[Ye h e hu]
theorem Jbt {c:Nat} {ρ ρ':Env} (h:Jv c ρ ρ') (e:E) (hu:e.under c=true):lst ρ' e=lst ρ e:=by unfold lst;rw[Ye h e hu]
theorem JlR {c:Nat} {ρ ρ':Env} (h:Jv c ρ ρ') (e:E) (hu:e.under c=true):int ρ' e=int ρ e:=by unfold int;rw[Ye h e hu]
theorem Jbu {c:Nat} {ρ ρ':Env} (h:Jv c ρ ρ') (e:E) (hu:e.under c=true):bol ρ' e=bol ρ e:=by unfold bol;rw[Ye h e hu]
theorem Jow {x:I} {c:Nat} {ρ ρ':Env} (h:XV B x ρ=some ρ') (hw:x.wf c=true):Jv c ρ ρ'∧∀ρ2,Jv (c+x.size) ρ' ρ2→x.holds B ρ2:=by
 cases x with
 | chk b =>
  simp only[XV] at h;split at h
  ·rename_i hb;simp only[Juh] at h;subst h;exact⟨Jv.rfl',fun ρ2 h2=>by show bol ρ2 b=true;rw[Jbu h2 b hw];exact hb⟩
  ·cases h
 | head sz l =>
  simp only[XV] at h;split at h
  ·rename_i hb;simp only[Juh] at h;subst h;exact⟨Jv.rfl',fun ρ2 h2=>by show Yb sz (lst ρ2 l)=true;rw[Jbt h2 l hw];exact hb⟩
  ·cases h
 | fl l =>
  simp only[XV] at h;split at h
  ·rename_i hb;simp only[Juh] at h;subst h;exact⟨Jv.rfl',fun ρ2 h2=>by show JI (lst ρ2 l)=true;rw[Jbt h2 l hw];exact hb⟩
  ·cases h
 | get e sh n =>
  simp only[I.wf,Jui,beq_iff_eq] at hw;obtain⟨hu,rfl⟩:=hw;simp only[XV] at h;obtain⟨h1,h2⟩:=Jel h;refine⟨h1,fun ρ2 h3=>?_⟩;show dat ρ2 e=dat ρ2 (sh.expr n);rw[h2 ρ2 h3,K2 (h1.trans (h3.le (by omega))) e hu]
 | idx l i sh n =>
  simp only[I.wf,Jui,beq_iff_eq] at hw;obtain⟨⟨hu,hu2⟩,rfl⟩:=hw;simp only[XV] at h;split at h
  ·rename_i h0;split at h
   ·rename_i d hd;obtain⟨h1,h2⟩:=Jel h;refine⟨h1,fun ρ2 h3=>?_⟩;have ha:=h1.trans (h3.le (by omega));show 0≤int ρ2 i∧(lst ρ2 l)[(int ρ2 i).toNat]? = some (dat ρ2 (sh.expr n));rw[h2 ρ2 h3,JlR ha i hu2,Jbt ha l hu];exact⟨h0,hd⟩
   ·cases h
  ·cases h
 | call f as rs n =>
  simp only[I.wf,Jui,beq_iff_eq] at hw;obtain⟨hu,rfl⟩:=hw;simp only[XV] at h;split at h
  ·rename_i ds hds;obtain⟨_,h1,h2⟩:=X2 _ _ _ _ _ h;refine⟨h1,fun ρ2 h3=>?_⟩;have ha:=h1.trans (h3.le (by omega));show B.call f (as.map (dat ρ2))=some ((Jz rs n).map (dat ρ2));rw[h2 ρ2 h3,Jbc (f:=dat) (fun e he=>K2 ha e he) hu];exact hds
  ·cases h
 | prim p as r n =>
  simp only[I.wf,Jui,beq_iff_eq] at hw;obtain⟨hu,rfl⟩:=hw;simp only[XV] at h;split at h
  ·rename_i d hds;obtain⟨_,h1,h2⟩:=X2 _ _ _ _ _ h;refine⟨h1,fun ρ2 h3=>?_⟩;have ha:=h1.trans (h3.le (by omega));have h4:=h2 ρ2 h3;show ZS p (as.map (dat ρ2))=some (dat ρ2 (r.expr n));rw[Jbc (f:=dat) (fun e he=>K2 ha e he) hu,hds];have h5:[d]=[dat ρ2 (r.expr n)]:=by simpa[Jz] using h4.symm
   simp only[List.cons.injEq,and_true] at h5;rw[h5]
  ·cases h
 | callv e as ar rs n =>
  simp only[I.wf,Jui,beq_iff_eq] at hw;obtain⟨⟨hu,hu2⟩,rfl⟩:=hw;simp only[XV] at h;split at h
  ·rename_i fn caps hd;split at h
   ·rename_i har;split at h
    ·rename_i ds hds;obtain⟨_,h1,h2⟩:=X2 _ _ _ _ _ h;refine⟨h1,fun ρ2 h3=>?_⟩;have ha:=h1.trans (h3.le (by omega));refine⟨fn,caps,by rw[K2 ha e hu];exact hd,har,?_⟩;rw[h2 ρ2 h3,Jbc (f:=dat) (fun e he=>K2 ha e he) hu2];exact hds
    ·cases h
   ·cases h
  ·cases h
theorem Jbw :∀(vs:List V) (c:Nat) (ρ:Env),Jv c ρ (XT c vs ρ)∧Jb4 c vs (XT c vs ρ)
 | [],c,ρ=>⟨Jv.rfl',fun j v h=>by simp at h⟩
 | v::vs,c,ρ=>by
  obtain⟨h1,h2⟩:=Jbw vs (c+1) (upd ρ c v);refine⟨fun j hj=>?_,fun j u hj=>?_⟩
  ·show XT (c+1) vs (upd ρ c v) j=ρ j;rw[h1 j (by omega),uO1 _ _ (by omega)]
  ·show XT (c+1) vs (upd ρ c v) (c+j)=u;cases j with
   | zero =>
    simp at hj;subst hj;rw[h1 (c+0) (by omega)];exact uS1 _ _ _
   | succ j =>
    have:=h2 j u (by simpa using hj);rw[←this];congr 1;omega
theorem JlS :∀(r:R) (c:Nat) (st:List Nat) (ρ:Env) (o:Oc),JH B N r ρ=some o→r.wf c st=true→o.conf st:=by
 intro r
 induction r with
 | i x r ih =>
  intro c st ρ o h hw;simp only[R.wf,Jui] at hw;simp only[JH] at h;split at h
  ·exact ih _ st _ o h hw.2
  ·cases h
 | ite b x y ihx ihy =>
  intro c st ρ o h hw;simp only[R.wf,Jui] at hw;simp only[JH] at h;split at h
  ·exact ihx c st ρ o h hw.1.2
  ·exact ihy c st ρ o h hw.2
 | nilq c' l x y ihx ihy =>
  intro c st ρ o h hw;simp only[R.wf,Jui] at hw;simp only[JH] at h;split at h
  ·split at h
   ·exact ihy c st ρ o h hw.2
   ·cases h
  ·exact ihy c st ρ o h hw.2
 | loop c' init body ih =>
  intro c st ρ o h hw;simp only[R.wf,Jui] at hw;simp only[JH] at h;have key :∀(n:Nat) (vs:List V),UH (fun vs=>JH B N body (XT c' vs ρ)) n vs=some o→o.conf st:=by
   intro n
   induction n with
   | zero=>intro vs h;cases h
   | succ n ihn =>
    intro vs h;simp only[UH] at h;split at h
    ·exact ihn _ h
    ·rename_i o' h1;simp only[Juh] at h;subst h;have:=ih _ (init.length::st) _ _ h1 hw.2;exact this
    ·cases h
  exact key N _ h
 | next vs =>
  intro c st ρ o h hw;simp only[JH,Juh] at h;subst h;simp only[R.wf,Jui,beq_iff_eq] at hw;simpa[Oc.conf] using hw.2
 | done vs =>
  intro c st ρ o h hw;simp only[JH,Juh] at h;subst h;trivial
 | esc r ih =>
  intro c st ρ o h hw;simp only[JH] at h;split at h
  ·rename_i o' h1;simp only[Juh] at h;subst h;exact ih c st.tail ρ o' h1 hw
  ·cases h
theorem Jb9 :∀(r:R) (c:Nat) (st:List Nat) (ρ:Env) (o:Oc),JH B N r ρ=some o→r.wf c st=true→∃ ρ',Jv c ρ ρ'∧Run B N r ρ' o:=by
 intro r
 induction r with
 | i x r ih =>
  intro c st ρ o h hw;simp only[R.wf,Jui] at hw;simp only[JH] at h;split at h
  ·rename_i ρ1 h1;obtain⟨h2,h3⟩:=Jow h1 hw.1;obtain⟨ρ',h4,h5⟩:=ih _ st ρ1 o h hw.2;exact⟨ρ',h2.trans (h4.le (by omega)),h3 ρ' h4,h5⟩
  ·cases h
 | ite b x y ihx ihy =>
  intro c st ρ o h hw;simp only[R.wf,Jui] at hw;simp only[JH] at h;split at h
  ·rename_i hb;obtain⟨ρ',h1,h2⟩:=ihx c st ρ o h hw.1.2;exact⟨ρ',h1,by simp only[Run,Jbu h1 b hw.1.1,hb,if_true];exact h2⟩
  ·rename_i hb;obtain⟨ρ',h1,h2⟩:=ihy c st ρ o h hw.2;refine⟨ρ',h1,?_⟩;simp only[Run,Jbu h1 b hw.1.1];rw[if_neg hb];exact h2
 | nilq c' l x y ihx ihy =>
  intro c st ρ o h hw;simp only[R.wf,Jui,beq_iff_eq] at hw;obtain⟨⟨⟨rfl,hu⟩,hwx⟩,hwy⟩:=hw;simp only[JH] at h;refine⟨ρ,Jv.rfl',?_⟩;simp only[Run];split at h
  ·split at h
   ·rename_i he;exact⟨ihy _ st ρ o h hwy,fun _=>ihx _ st ρ o (by rw[he];exact h) hwx⟩
   ·cases h
  ·rename_i hl;exact⟨ihy _ st ρ o h hwy,fun e=>by rw[e] at hl;cases hl⟩
 | loop c' init body ih =>
  intro c st ρ o h hw;simp only[R.wf,Jui,beq_iff_eq] at hw;obtain⟨⟨rfl,hu⟩,hw⟩:=hw;simp only[JH] at h;refine⟨ρ,Jv.rfl',?_⟩;simp only[Run];have key :∀(n:Nat) (vs:List V),vs.length=init.length→UH (fun vs=>JH B N body (XT c' vs ρ)) n vs=some o→JcH (fun vs o1=>∃ ρ',Jv c' ρ ρ'∧Jb4 c' vs ρ'∧Run B N body ρ' o1) n vs o:=by
   intro n
   induction n with
   | zero=>intro vs _ h;cases h
   | succ n ihn =>
    intro vs hlen h;simp only[UH] at h;obtain⟨s1,s2⟩:=Jbw vs c' ρ;have keep :∀ρ',Jv (c'+init.length) (XT c' vs ρ) ρ'→Jv c' ρ ρ'∧Jb4 c' vs ρ':=fun ρ' ha =>
     ⟨s1.trans (ha.le (by omega)),fun j v hj=>by
      have hlt:j<vs.length:=(Juj.1 hj).1;rw[ha (c'+j) (by omega)];exact s2 j v hj⟩
    split at h
    ·rename_i vs' h1;obtain⟨ρ',h2,h3⟩:=ih _ _ _ _ h1 hw;obtain⟨h4,h5⟩:=keep ρ' h2;have hcf:=JlS _ _ _ _ _ h1 hw;simp only[Oc.conf,List.head?_cons,Juh] at hcf;exact .inl ⟨vs',⟨ρ',h4,h5,h3⟩,ihn vs' hcf.symm h⟩
    ·rename_i o' h1;simp only[Juh] at h;subst h;obtain⟨ρ',h2,h3⟩:=ih _ _ _ _ h1 hw;obtain⟨h4,h5⟩:=keep ρ' h2;exact .inr ⟨ρ',h4,h5,h3⟩
    ·cases h
  exact key N _ (by simp) h
 | next vs =>
  intro c st ρ o h hw;simp only[JH,Juh] at h;subst h;exact⟨ρ,Jv.rfl',rfl⟩
 | done vs =>
  intro c st ρ o h hw;simp only[JH,Juh] at h;subst h;exact⟨ρ,Jv.rfl',rfl⟩
 | esc r ih =>
  intro c st ρ o h hw;simp only[JH] at h;split at h
  ·rename_i o' h1;simp only[Juh] at h;subst h;obtain⟨ρ',h2,h3⟩:=ih c _ ρ o' h1 hw;exact⟨ρ',h2,o',rfl,h3⟩
  ·cases h
end
end Go.Tm
end

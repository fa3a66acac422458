import Derived.Test.YtgpjnnkmmplicabGreatDoorTb
set_option linter.unusedVariables false
set_option linter.unusedSimpArgs false
section
namespace Go.Tm
open Go.IntKind (i64)
def Ze (i:Nat):List Je→XE
 | []=>[]
 | o::os=>(i,o)::Ze (i+1) os
theorem YX :∀(os:List Je) (a k:Nat),(Ze a os).lookup k=if a≤k then os[k-a]? else none
 | [],a,k=>by simp[Ze]
 | o::os,a,k=>by
  simp only[Ze,List.lookup_cons]
  by_cases h:k=a
  ·subst h;simp
  ·have hb:(k == a)=false:=by simpa using h
   rw[hb,YX os (a+1) k]
   by_cases hlt:a≤k
   ·have e:k-a=(k-(a+1))+1:=by omega
    rw[if_pos (by omega),if_pos hlt,e,List.getElem?_cons_succ]
   ·rw[if_neg (by omega),if_neg hlt]
theorem Jb0 (ρ:Env) (os:List Je):γm ρ (Ze 0 os)=Qz (Jq 0 (os.map (γO ρ))):=by
 funext k
 simp only[γm,Qz,QZ,YX,Nat.zero_le,if_true,Nat.sub_zero,JrZ]
mutual
def SV.lv:SV→List E
 | .d e=>(UJ e).getD [e]
 | .g cs=>slv cs
 | .t cs=>slv cs
 | .f _ cs=>slv cs
 | _=>[]
def slv:List SV→List E
 | []=>[]
 | c::cs=>SV.lv c++slv cs
end
mutual
def SV.lv2:SV→List E
 | .d e=>(UJ e).getD [e]
 | .g cs=>JdY cs
 | .t cs=>JdY cs
 | .f _ cs=>JdY cs
 | .o _ l=>[.s l]
 | .e _ l i _=>[.s l,.vi .i64 i]
 | _=>[]
def JdY:List SV→List E
 | []=>[]
 | c::cs=>SV.lv2 c++JdY cs
end
def Je.lv:Je→List E
 | .box cs=>slv cs
 | .arr _ _ l _ _=>[.s l]
 | .dead=>[]
def Je.lv2:Je→List E
 | .box cs=>JdY cs
 | .arr _ _ l _ _=>[.s l]
 | .dead=>[]
section
variable {ρ ρ':Env}
mutual
theorem Jqk :∀v:SV,γX ρ v=γX ρ' v→∀e∈v.lv,dat ρ e=dat ρ' e
 | .d e,h,e',he=>by
  simp only[γX] at h;injection h with h;simp only[SV.lv] at he;cases hq:UJ e with
  | none=>rw[hq] at he;simp only[Option.getD_none,JrW] at he;subst he;exact h
  | some es =>
   rw[hq] at he;rw[Zk hq,Zk hq] at h
   injection h with h
   exact List.map_inj_left.1 h e' he
 | .g cs,h,e',he=>by simp only[γX] at h;injection h with h;exact Jbe cs h e' (by simpa[SV.lv] using he)
 | .t cs,h,e',he=>by simp only[γX] at h;injection h with h;exact Jbe cs h e' (by simpa[SV.lv] using he)
 | .f _ cs,h,e',he=>by simp only[γX] at h;injection h with _ h;exact Jbe cs h e' (by simpa[SV.lv] using he)
 | .o _ _,_,e',he=>by simp[SV.lv] at he
 | .p _ _,_,e',he=>by simp[SV.lv] at he
 | .e _ _ _ _,_,e',he=>by simp[SV.lv] at he
 | .u,_,e',he=>by simp[SV.lv] at he
theorem Jbe :∀cs:List SV,γXs ρ cs=γXs ρ' cs→∀e∈slv cs,dat ρ e=dat ρ' e
 | [],_,e',he=>by simp[slv] at he
 | c::cs,h,e',he=>by
  simp only[γXs,List.cons.injEq] at h;simp only[slv,JrJ] at he;rcases he with he | he
  ·exact Jqk c h.1 e' he
  ·exact Jbe cs h.2 e' he
end
mutual
theorem Jn6 :∀v:SV,(∀e∈v.lv2,dat ρ e=dat ρ' e)→γX ρ v=γX ρ' v
 | .d e,h=>by
  simp only[SV.lv2] at h;simp only[γX];cases hq:UJ e with
  | none=>rw[hq] at h;rw[h e (by simp)]
  | some es =>
   rw[hq] at h;have e1:es.map (dat ρ)=es.map (dat ρ'):=Jr0 fun x hx=>h x hx;rw[Zk hq,Zk hq,e1]
 | .g cs,h=>by simp only[γX];rw[Vt cs (fun e he=>h e (by simpa[SV.lv2] using he))]
 | .t cs,h=>by simp only[γX];rw[Vt cs (fun e he=>h e (by simpa[SV.lv2] using he))]
 | .f _ cs,h=>by simp only[γX];rw[Vt cs (fun e he=>h e (by simpa[SV.lv2] using he))]
 | .o _ l,h=>by simp only[γX];rw[Jhc (h (.s l) (by simp[SV.lv2]))]
 | .p _ _,_=>rfl
 | .e _ l i _,h=>by
  simp only[γX];rw[Jhc (h (.s l) (by simp[SV.lv2]))];have:D.v (.int .i64 (int ρ i))=D.v (.int .i64 (int ρ' i)):=h (.vi .i64 i) (by simp[SV.lv2]);simp only[D.v.injEq,Value.int.injEq,true_and] at this;rw[this]
 | .u,_=>rfl
theorem Vt :∀cs:List SV,(∀e∈JdY cs,dat ρ e=dat ρ' e)→γXs ρ cs=γXs ρ' cs
 | [],_=>rfl
 | c::cs,h=>by
  simp only[γXs];rw[Jn6 c (fun e he=>h e (by simp[JdY,he])),Vt cs (fun e he=>h e (by simp[JdY,he]))]
end
theorem Jqb (o:Je) (h:γO ρ o=γO ρ' o) :∀e∈o.lv,dat ρ e=dat ρ' e:=by
 intro e he;cases o with
 | box cs=>simp only[γO] at h;injection h with h;exact Jbe cs h e he
 | arr ty sz l dp rw =>
  simp only[Je.lv,JrW] at he;subst he;simp only[γO] at h;injection h with _ _ h;show D.s (lst ρ l)=D.s (lst ρ' l);rw[h]
 | dead=>simp[Je.lv] at he
theorem Jku (o:Je) (h :∀e∈o.lv2,dat ρ e=dat ρ' e):γO ρ o=γO ρ' o:=by
 cases o with
 | box cs=>simp only[γO];rw[Vt cs h]
 | arr ty sz l dp rw=>simp only[γO];rw[Jhc (h (.s l) (by simp[Je.lv2]))]
 | dead=>rfl
end
def Ql.rel (s:Ql) (F:List D→Option (List D)) (xs:List X) (os:List Obj) (r:X×Mem):Prop :=
 ∃ ρ1 ρ2,xs=γXs ρ1 s.args∧os=s.objs.map (γO ρ1)∧F ((Ju s.ins 0).map (dat ρ1))=some ((Ju s.outs 0).map (dat ρ2))∧r=(γX ρ2 s.res,γm ρ2 (Ze 0 s.robjs))
def Ql.ok (s:Ql):Bool :=
 let ls:=slv s.args++s.objs.flatMap Je.lv
 let os:=Ju s.outs 0
 (Ju s.ins 0).all (fun e=>ls.any fun x=>x.same e)&&(s.res.lv2++s.robjs.flatMap Je.lv2).all (fun e=>os.any fun x=>x.same e)
theorem JdP {l:List E} {e:E} (h:l.any (fun x=>x.same e)=true) : ∃ x∈l,∀ρ,dat ρ x=dat ρ e:=by
 obtain⟨x,hx,hs⟩:=List.any_eq_true.1 h;exact⟨x,hx,fun ρ=>JmK hs ρ⟩
theorem Ql.rel_one {s:Ql} (hs:s.ok=true) {F:List D→Option (List D)} {xs:List X} {os:List Obj} {r r':X×Mem} (h:s.rel F xs os r) (h':s.rel F xs os r'):r=r':=by
 obtain⟨ρ1,ρ2,hx,ho,hF,rfl⟩:=h;obtain⟨σ1,σ2,hx',ho',hF',rfl⟩:=h';unfold Ql.ok at hs;simp only[JrE] at hs;have hin:(Ju s.ins 0).map (dat ρ1)=(Ju s.ins 0).map (dat σ1):=by
  refine Jr0 fun e he=>?_;obtain⟨x,hxm,hxe⟩:=JdP (JrR.1 hs.1 e he);rw[←hxe,←hxe];rcases JrJ.1 hxm with hm | hm
  ·exact Jbe s.args (hx.symm.trans hx') x hm
  ·obtain⟨o,hom,hxo⟩:=List.mem_flatMap.1 hm;have:s.objs.map (γO ρ1)=s.objs.map (γO σ1):=ho.symm.trans ho';exact Jqb o (List.map_inj_left.1 this o hom) x hxo
 rw[hin,hF'] at hF;simp only[JrD] at hF;have hout :∀e∈s.res.lv2++s.robjs.flatMap Je.lv2,dat ρ2 e=dat σ2 e:=by
  intro e he;obtain⟨x,hxm,hxe⟩:=JdP (JrR.1 hs.2 e he);rw[←hxe,←hxe];exact(List.map_inj_left.1 hF x hxm).symm
 have e1:γX ρ2 s.res=γX σ2 s.res:=Jn6 _ fun e he=>hout e (by simp[he]);have e2:γm ρ2 (Ze 0 s.robjs)=γm σ2 (Ze 0 s.robjs):=by
  rw[Jb0,Jb0]
  congr 2
  exact Jr0 fun o ho=>Jku o fun e he=>hout e (List.mem_append_right _ (List.mem_flatMap.2 ⟨o,ho,he⟩))
 rw[e1,e2]
open Classical in
noncomputable def Q1 (s:Ql) (F:List D→Option (List D)):Y0:=fun xs os=>if h : ∃ r,s.rel F xs os r then some h.choose else none
theorem Jad {s:Ql} (hs:s.ok=true) {F:List D→Option (List D)} {xs:List X} {os:List Obj} {r:X×Mem} (h:s.rel F xs os r):Q1 s F xs os=some r:=by
 unfold Q1;have hex : ∃ r,s.rel F xs os r:=⟨r,h⟩;rw[dif_pos hex,Ql.rel_one hs hex.choose_spec h]
theorem Ku {s:Ql} {F:List D→Option (List D)} {xs:List X} {os:List Obj} {r:X×Mem} (h:Q1 s F xs os=some r):s.rel F xs os r:=by
 unfold Q1 at h;split at h
 ·rename_i hex;simp only[JrD] at h;subst h;exact hex.choose_spec
 ·cases h
def E.up (n:Nat):E→E
 | .v j=> .v (n+j)
 | .da j=> .da (n+j)
 | .z m=> .z m
 | .tt=> .tt
 | .ff=> .ff
 | .bin o k x y=> .bin o k (x.up n) (y.up n)
 | .cmp o x y=> .cmp o (x.up n) (y.up n)
 | .not x=> .not (x.up n)
 | .beq x y=> .beq (x.up n) (y.up n)
 | .len l=> .len (l.up n)
 | .cv k x=> .cv k (x.up n)
 | .vi k x=> .vi k (x.up n)
 | .vb x=> .vb (x.up n)
 | .vc x=> .vc x
 | .s l=> .s (l.up n)
 | .g l=> .g (l.up n)
 | .q l=> .q (l.up n)
 | .fn f l=> .fn f (l.up n)
 | .nil=> .nil
 | .cons x l=> .cons (x.up n) (l.up n)
 | .app x y=> .app (x.up n) (y.up n)
 | .rep x y=> .rep (x.up n) (y.up n)
 | .set x y w=> .set (x.up n) (y.up n) (w.up n)
 | .take x y=> .take (x.up n) (y.up n)
theorem JgK (ρ:Env) (n:Nat) :∀e:E,den ρ (e.up n)=den (fun j=>ρ (n+j)) e:=by
 intro e
 induction e <;> simp only[E.up,den, *]
mutual
def SV.up (n:Nat):SV→SV
 | .d e=> .d (e.up n)
 | .g cs=> .g (sup n cs)
 | .o k l=> .o k (l.up n)
 | .p k off=> .p k off
 | .e k l i off=> .e k (l.up n) (i.up n) off
 | .f fn cs=> .f fn (sup n cs)
 | .t cs=> .t (sup n cs)
 | .u=> .u
def sup (n:Nat):List SV→List SV
 | []=>[]
 | c::cs=>SV.up n c::sup n cs
end
mutual
theorem SV.up_ok (ρ:Env) (n:Nat) :∀v:SV,γX ρ (v.up n)=γX (fun j=>ρ (n+j)) v
 | .d e=>by simp only[SV.up,γX,dat,JgK]
 | .g cs=>by simp only[SV.up,γX,Jcu ρ n cs]
 | .o k l=>by simp only[SV.up,γX,lst,JgK]
 | .p k off=>rfl
 | .e k l i off=>by simp only[SV.up,γX,lst,int,JgK]
 | .f fn cs=>by simp only[SV.up,γX,Jcu ρ n cs]
 | .t cs=>by simp only[SV.up,γX,Jcu ρ n cs]
 | .u=>rfl
theorem Jcu (ρ:Env) (n:Nat) :∀cs:List SV,γXs ρ (sup n cs)=γXs (fun j=>ρ (n+j)) cs
 | []=>rfl
 | c::cs=>by simp only[sup,γXs,SV.up_ok ρ n c,Jcu ρ n cs]
end
def Je.up (n:Nat):Je→Je
 | .box cs=> .box (sup n cs)
 | .arr ty sz l dp rw=> .arr ty sz (l.up n) dp rw
 | .dead=> .dead
theorem Je.up_ok (ρ:Env) (n:Nat) (o:Je):γO ρ (o.up n)=γO (fun j=>ρ (n+j)) o:=by
 cases o with
 | box cs=>simp only[Je.up,γO,Jcu]
 | arr ty sz l dp rw=>simp only[Je.up,γO,lst,JgK]
 | dead=>rfl
theorem JcM (ρ:Env) :∀(as:List Sh1) (n m:Nat),(Ju as (n+m)).map (dat ρ)=(Ju as m).map (dat fun j=>ρ (n+j))
 | [],n,m=>rfl
 | a::as,n,m=>by
  simp only[Ju,JrM];rw[show n+m+1=n+(m+1) by omega,JcM ρ as n (m+1)]
  congr 1
  cases a <;> rfl
def VA {α:Type}:List Key→(List Je→SMP α)→SMP α
 | [],c=>c []
 | k::ks,c=> .get k fun o=>VA ks fun os=>c (o::os)
def JfE {α:Type}:List (Key×Je)→SMP α→SMP α
 | [],c=>c
 | (k,o)::l,c=> .put k o (JfE l c)
def JbY {α:Type}:List (Key×Je)→SMP α→SMP α
 | [],c=>c
 | (k,o)::l,c=> .new k o (JbY l c)
section
variable {B:Tb} {ρ:Env}
theorem Zv {α β:Type} {f:α→β} :∀(ks:List Key) (c:List Je→SMP α) (c':List Obj→MP β),(∀os,(c os).Ok B ρ f (c' (os.map (γO ρ))))→(VA ks c).Ok B ρ f (Jck ks c')
 | [],c,c',h=>h []
 | k::ks,c,c',h=>⟨_,rfl,fun o=>Zv ks _ _ fun os=>h (o::os)⟩
theorem JcX {α β:Type} {f:α→β} :∀(l:List (Key×Je)) (c:SMP α) (c':MP β),c.Ok B ρ f c'→(JfE l c).Ok B ρ f (Jdj (l.map fun p=>(p.1,γO ρ p.2)) c')
 | [],c,c',h=>h
 | (k,o)::l,c,c',h=>⟨_,rfl,JcX l c c' h⟩
theorem Ww {α β:Type} {f:α→β} :∀(l:List (Key×Je)) (c:SMP α) (c':MP β),c.Ok B ρ f c'→(JbY l c).Ok B ρ f (Jf9 (l.map fun p=>(p.1,γO ρ p.2)) c')
 | [],c,c',h=>h
 | (k,o)::l,c,c',h=>⟨_,rfl,Ww l c c' h⟩
def JmZ (ins:List Sh1) (bs:List (Nat×E)):Nat→List E
 | j=>match ins with
  | []=>[]
  | a::as=>(match bs.lookup j with
   | some x=>(match a with | .i k=>E.vi k x | .b=> .vb x | .d=>x | .s=> .s x)
   | none=> .vc .nilFunc)::JmZ as bs (j+1)
def JhR (ins:List Sh1) (bs:List (Nat×E)):Nat→Bool
 | j=>match ins with
  | []=>true
  | a::as=>(match bs.lookup j with
   | some x=>(match a with | .d=>x.isOne&&Wh x | _=>true)
   | none=>false)&&JhR as bs (j+1)
theorem Jf0 :∀(ins:List Sh1) (bs:List (Nat×E)) (j:Nat),JhR ins bs j=true→(JmZ ins bs j).map (dat ρ)=(Ju ins j).map (dat (Yk 0 ρ bs))
 | [],bs,j,_=>rfl
 | a::as,bs,j,h=>by
  unfold JhR at h;simp only[JrE] at h;unfold JmZ;simp only[Ju,JrM,Jf0 as bs (j+1) h.2]
  congr 1
  cases hl:bs.lookup j with
  | none=>rw[hl] at h;simp at h
  | some x =>
   have he:Yk 0 ρ bs j=den ρ x:=by simp[Yk,hl]
   cases a with
   | i k=>show D.v (.int k (den ρ x).int)=D.v (.int k (Yk 0 ρ bs j).int);rw[he]
   | b=>show D.v (.bool (den ρ x).bool)=D.v (.bool (Yk 0 ρ bs j).bool);rw[he]
   | s=>show D.s (den ρ x).lst=D.s (Yk 0 ρ bs j).lst;rw[he]
   | d =>
    show dat ρ x=QY (Yk 0 ρ bs j).dat;rw[he];rw[hl] at h;simp only[JrE] at h;show dat ρ x=QY (dat ρ x);rw[Uc (JL h.1.1 ρ),JaA h.1.2]
def KO (s : Ql) (f : FuncId) (kb : Key) (xs : List SV) (L : List Key) (os : List Je) : SMP SV :=
  if (XF xs ++ os.flatMap Je.names).all L.contains then
    match mv.mvs s.args (JaG (at? L) (Kd (holds? (L.zip os)) xs)),mos s.objs (os.map fun o=>(JfB (holds? (L.zip os)) o).ren (at? L)) with
    | some ps,some qs=>match Jjq 0 (ps++qs) with
      | some bs=>if JaH bs&&JhR s.ins bs 0 then
          let n:=L.length
          let news:=XJ [] ((s.res.names++(s.robjs.take n).flatMap Je.names).filter fun k=>n≤k)
          let all:=List.range n++news
          if all == List.range s.robjs.length&&(s.res.names++s.robjs.flatMap Je.names).all all.contains&&Nat.ble news.length 16 then
            .ask (fun a=> .call f (JmZ s.ins bs 0) s.outs a) s.outs.length fun a =>
              let back:=fun k=>(L++(List.range news.length).map (kb + ·)).getD (at? all k) 0
              let os':=s.robjs.map (Je.up a)
              JfE (L.zip ((os'.take n).map (Je.ren back)))
                (JbY (((List.range news.length).map (kb + ·)).zip ((os'.drop n).map (Je.ren back))) (.ret ((s.res.up a).ren back)))
          else .fail
        else .fail
      | none=> .fail
    | _,_=> .fail
  else .fail
mutual
def Jjz (look:Key→Option E):SV→List (E×E)
 | .o k l=>match look k with
  | some l'=>if l.lsame l' then [] else [(l,l')]
  | none=>[]
 | .g cs=>ZX look cs
 | .t cs=>ZX look cs
 | .f _ cs=>ZX look cs
 | _=>[]
def ZX (look:Key→Option E):List SV→List (E×E)
 | []=>[]
 | c::cs=>Jjz look c++ZX look cs
end
mutual
def JaD (look:Key→Option E):SV→SV
 | .o k l=>match look k with
  | some l'=> .o k l'
  | none=> .o k l
 | .g cs=> .g (Z4 look cs)
 | .t cs=> .t (Z4 look cs)
 | .f fn cs=> .f fn (Z4 look cs)
 | v=>v
def Z4 (look:Key→Option E):List SV→List SV
 | []=>[]
 | c::cs=>JaD look c::Z4 look cs
end
mutual
theorem Jlh (ρ:Env) (look:Key→Option E) :∀v:SV,(∀p∈Jjz look v,(lst ρ p.1).length=(lst ρ p.2).length)→γX ρ (JaD look v)=γX ρ v
 | .o k l,h=>by
  simp only[JaD];simp only[Jjz] at h;split
  ·rename_i l' hk;rw[hk] at h;simp only at h
   by_cases hl:l.lsame l'=true
   ·simp only[γX,lL1 hl ρ]
   ·rw[if_neg hl] at h;simp only[γX,h (l,l') (by simp)]
  ·rfl
 | .g cs,h=>by simp only[JaD,γX,Yz ρ look cs h]
 | .t cs,h=>by simp only[JaD,γX,Yz ρ look cs h]
 | .f _ cs,h=>by simp only[JaD,γX,Yz ρ look cs h]
 | .e _ _ _ _,_=>rfl
 | .d _,_=>rfl
 | .p _ _,_=>rfl
 | .u,_=>rfl
theorem Yz (ρ:Env) (look:Key→Option E) :∀cs:List SV,(∀p∈ZX look cs,(lst ρ p.1).length=(lst ρ p.2).length)→γXs ρ (Z4 look cs)=γXs ρ cs
 | [],_=>rfl
 | c::cs,h=>by
  simp only[ZX,JrJ] at h;simp only[Z4,γXs,Jlh ρ look c (fun p hp=>h p (.inl hp)),Yz ρ look cs (fun p hp=>h p (.inr hp))]
end
def WY {α:Type}:List (E×E)→SMP α→SMP α
 | [],c=>c
 | (l,l')::ps,c=> .ask (fun _=> .chk (.cmp .eq (.len l) (.len l'))) 0 fun _=>WY ps c
theorem UK {B:Tb} {ρ:Env} {α β:Type} {f:α→β} {c:SMP α} {q:MP β} :∀ps:List (E×E),((∀p∈ps,(lst ρ p.1).length=(lst ρ p.2).length)→c.Ok B ρ f q)→(WY ps c).Ok B ρ f q
 | [],h=>h (by simp)
 | (l,l')::ps,h=>by
  intro n hn;refine UK ps fun hp=>h fun p hm=>?_;rcases JrX.1 hm with rfl | hm
  ·have h:decide (((lst ρ l).length:Int)=((lst ρ l').length:Int))=true:=hn;have h:((lst ρ l).length:Int)=((lst ρ l').length:Int):=by simpa using h
   show (lst ρ l).length=(lst ρ l').length;omega
  ·exact hp p hm
mutual
def SV.flE:SV→Bool
 | .d (.vi _ _)=>true
 | .d (.vb _)=>true
 | .g cs=>JnM cs
 | .t cs=>JnM cs
 | .o _ _=>true
 | _=>false
def JnM:List SV→Bool
 | []=>true
 | c::cs=>SV.flE c&&JnM cs
end
mutual
theorem Jmt (ρ:Env) :∀v:SV,v.flE=true→(γX ρ v).fl=true
 | .d e,h=>by cases e <;> simp[SV.flE] at h <;> simp[γX,X.fl,dat,den,V.dat,flat]
 | .g cs,h=>by simp only[γX,X.fl];exact JfV ρ cs (by simpa[SV.flE] using h)
 | .t cs,h=>by simp only[γX,X.fl];exact JfV ρ cs (by simpa[SV.flE] using h)
 | .o k l,_=>rfl
 | .p _ _,h=>by simp[SV.flE] at h
 | .e _ _ _ _,h=>by simp[SV.flE] at h
 | .f _ _,h=>by simp[SV.flE] at h
 | .u,h=>by simp[SV.flE] at h
theorem JfV (ρ:Env) :∀vs:List SV,JnM vs=true→Ji6 (γXs ρ vs)=true
 | [],_=>rfl
 | v::vs,h=>by
  simp only[JnM,JrE] at h;simp only[γXs,Ji6,Jmt ρ v h.1,JfV ρ vs h.2,Bool.and_self]
end
def Je.deepen:Je→Je
 | .arr ty sz l _ rw=> .arr ty sz l true rw
 | o=>o
theorem JkW (ρ:Env) (o:Je):γO ρ o.deepen=(γO ρ o).deepen:=by cases o <;> rfl
theorem Jgd (o:Je):o.deepen.names=o.names:=by cases o <;> rfl
theorem JkV (n:Nat) (o:Je):(o.up n).deepen=(o.deepen).up n:=by cases o <;> rfl
def JgU {α:Type}:List Je→SMP α→SMP α
 | [],c=>c
 | .arr _ _ l dp rw::os,c=>if rw then(if dp then JgU os c else .ask (fun _=> .fl l) 0 fun _=>JgU os c) else .fail
 | _::_,_=> .fail
theorem Jdm {α β:Type} {f:α→β} {q:MP β} {c:SMP α} :∀(os:List Je),((∀o∈os,Kb (some (γO ρ o))=true)→c.Ok B ρ f q)→(JgU os c).Ok B ρ f q
 | [],h=>h (fun _ h=>by simp at h)
 | .arr ty sz l dp rw::os,h=>by
  simp only[JgU];cases rw with
  | false=>trivial
  | true =>
   simp only[if_true];cases dp with
   | true =>
    simp only[if_true];refine Jdm os fun ho=>h fun o hm=>?_;rcases JrX.1 hm with rfl | hm
    ·simp[γO,Kb]
    ·exact ho o hm
   | false =>
    simp only[JrU,if_false];intro n hn;simp only[I.holds] at hn;refine Jdm os fun ho=>h fun o hm=>?_;rcases JrX.1 hm with rfl | hm
    ·simp[γO,Kb,hn]
    ·exact ho o hm
 | .box _::_,_=>trivial
 | .dead::_,_=>trivial
def Q8 (s : Ql) (f : FuncId) (kb : Key) (xs : List SV) : SMP SV :=
  match mv.mvs s.args xs,s.objs with
  | some ps,[]=>match Jjq 0 ps with
    | some bs=>if JaH bs&&JhR s.ins bs 0 then
        let news:=XJ [] (s.res.names.filter fun k=>decide (0≤k))
        if news == List.range s.robjs.length&&(s.res.names++s.robjs.flatMap Je.names).all news.contains&&Nat.ble news.length 16&&s.res.flE then
          .ask (fun a=> .call f (JmZ s.ins bs 0) s.outs a) s.outs.length fun a =>
            let back:=fun k=>((List.range news.length).map (kb + ·)).getD (at? news k) 0
            let os':=s.robjs.map (Je.up a)
            JgU os' (JbY (((List.range news.length).map (kb + ·)).zip ((os'.map Je.deepen).map (Je.ren back))) (.ret ((s.res.up a).ren back)))
        else .fail
      else .fail
    | none=> .fail
  | _,_=> .fail
def JiX (s:Ql) (f:FuncId) (kb:Key) (xs0:List SV):SMP SV :=
 if JhZ xs0 then
  let xs:=Jid xs0
  let ks:=XJ [] (XF xs)
  VA ks fun os=>let L:=XJ ks (os.flatMap Je.names);VA L fun os=>WY (ZX (holds? (L.zip os)) xs) (KO s f kb (Z4 (holds? (L.zip os)) xs) L os)
 else .fail
def JfD (s:Ql) (f:FuncId) (kb:Key) (xs:List SV):SMP SV :=
 let ks:=XJ [] (XF xs)
 VA ks fun os=>let L:=XJ ks (os.flatMap Je.names);VA L fun os=>WY (ZX (holds? (L.zip os)) xs) (KO s f kb (Z4 (holds? (L.zip os)) xs) L os)
theorem Qc (ρ:Env) :∀os:List Je,(os.map (γO ρ)).flatMap Obj.names=os.flatMap Je.names
 | []=>rfl
 | o::os=>by simp only[JrM,List.flatMap_cons,Jey,Qc ρ os]
theorem JcJ {α:Type} (f:Key→Option α) (l:List α) (h :∀i,f i=l[i]?):(List.range l.length).mapM f=some l:=by
 have key :∀(n a:Nat),a+n=l.length→(List.range' a n).mapM f=some (l.drop a):=by
  intro n
  induction n with
  | zero=>intro a ha;simp at ha;subst ha;simp
  | succ n ih =>
   intro a ha;have hlt:a<l.length:=by omega
   rw[List.range'_succ,List.mapM_cons,h a,JrP hlt,ih (a+1) (by omega),List.drop_eq_getElem_cons hlt];rfl
 rw[List.range_eq_range'];have:=key l.length 0 (by omega);simpa using this
theorem UP {α:Type} (l:List Key) (os:List α) {β:Type} (g:α→β):(l.zip os).map (fun p=>(p.1,g p.2))=l.zip (os.map g):=by
 rw[List.zip_map_right];rfl
theorem Jhp {m:Mem} (os:List Obj) (n:Nat) (h :∀i,m i=os[i]?):XK m n=(os.take n).flatMap Obj.names:=by
 induction n with
 | zero=>simp[XK]
 | succ n ih =>
  unfold XK at ih ⊢;rw[List.range_succ,List.flatMap_append,ih,List.take_add_one,List.flatMap_append];simp only[List.flatMap_cons,List.flatMap_nil,List.append_nil,h n];cases os[n]? <;> simp
theorem K9 {s:Ql} (hs:s.ok=true) (f:FuncId) (kb:Key) (xs:List SV) (L:List Key) (os:List Je) :
  (KO s f kb xs L os).Ok B ρ (γX ρ) (QX (Q1 s (B.call f)) kb (γXs ρ xs) L (os.map (γO ρ))):=by
 unfold KO;split
 ·rename_i hclo;split
  ·rename_i ps qs hps hqs
   ·split
    ·rename_i bs hbs;split
     ·rename_i hc;simp only[JrE] at hc;simp only;split
      ·rename_i hall;simp only[JrE] at hall;obtain⟨⟨hall1,hall2⟩,hlen⟩:=hall;have hall1:List.range L.length++XJ [] ((s.res.names++(s.robjs.take L.length).flatMap Je.names).filter fun k=>L.length≤k)=List.range s.robjs.length:=by simpa using hall1
       intro a hcall;simp only[I.holds] at hcall;have hargs:γXs (Yk 0 ρ bs) s.args=Uu (at? L) (γXs ρ xs):=by
        rw[←YJ ρ (holds? (L.zip os)) xs,VB];exact V9 _ _ _ hps fun q hq=>JgL hbs hc.1 (by simp[hq])
       have hobjs:s.objs.map (γO (Yk 0 ρ bs))=(os.map (γO ρ)).map (Obj.ren (at? L)):=by
        rw[Jnc _ _ _ hqs fun q hq=>JgL hbs hc.1 (by simp[hq])];simp only[List.map_map];exact Jr0 fun o _=>by simp only[Function.comp];rw[←Jaj,JeH]
       have hF:B.call f ((Ju s.ins 0).map (dat (Yk 0 ρ bs)))=some ((Ju s.outs 0).map (dat fun j=>ρ (a+j))):=by
        rw[←Jf0 _ _ _ hc.2,hcall]
        congr 1
        exact JcM ρ s.outs a 0
       have hspec:=Jad hs (F:=B.call f) ⟨Yk 0 ρ bs,fun j=>ρ (a+j),hargs.symm,hobjs.symm,hF,rfl⟩;unfold QX;rw[X4,Qc,if_pos hclo,hspec];simp only[KN];have hm1 :∀i,γm (fun j=>ρ (a+j)) (Ze 0 s.robjs) i=(s.robjs.map (γO fun j=>ρ (a+j)))[i]?:=by
        intro i;simp only[γm,YX,Nat.zero_le,if_true,Nat.sub_zero,JrZ]
       have hbn:XK (γm (fun j=>ρ (a+j)) (Ze 0 s.robjs)) L.length=(s.robjs.take L.length).flatMap Je.names:=by rw[Jhp _ _ hm1,←List.map_take,Qc]
       rw[hbn];have hmap:(List.range L.length++XJ [] ((s.res.names++(s.robjs.take L.length).flatMap Je.names).filter fun k=>decide (L.length≤k))).mapM (γm (fun j=>ρ (a+j)) (Ze 0 s.robjs))=some (s.robjs.map (γO fun j=>ρ (a+j))):=by
        rw[hall1,←JcJ _ _ hm1,JrN]
       rw[hmap];simp only[Qc];have hlen':(XJ [] ((s.res.names++(s.robjs.take L.length).flatMap Je.names).filter fun k=>decide (L.length≤k))).length≤16:=Nat.le_of_ble_eq_true hlen;rw[if_pos (by rw[JrE];exact⟨hall2,by simpa using hlen'⟩)];have hren :∀(back:Key→Key) (l:List Je),(l.map (γO fun j=>ρ (a+j))).map (Obj.ren back)=((l.map (Je.up a)).map (Je.ren back)).map (γO ρ):=by
        intro back l;simp only[List.map_map];exact Jr0 fun o _=>by simp only[Function.comp,←Jaj,Je.up_ok]
       simp only[←List.map_take,←List.map_drop];rw[hren,hren,←UP _ _ (γO ρ),←UP _ _ (γO ρ)];refine JcX _ _ _ (Ww _ _ _ ?_);simp only[SMP.Ok,←JdA,SV.up_ok]
      ·trivial
     ·trivial
    ·trivial
  ·trivial
 ·trivial
theorem Jl2 {s:Ql} (hs:s.ok=true) (f:FuncId) (kb:Key) (xs:List SV):(JiX s f kb xs).Ok B ρ (γX ρ) (Jkq (Q1 s (B.call f)) kb (γXs ρ xs)):=by
 unfold JiX Jkq Wz;split
 ·rename_i ho;rw[Jc0 ρ xs ho];simp only[X4];refine Zv _ _ _ fun os=>?_;simp only[Qc];refine Zv _ _ _ fun os=>UK _ fun hp=>?_;rw[←Yz ρ _ _ hp];exact K9 hs f kb _ _ _
 ·trivial
theorem JjK {s:Ql} (hs:s.ok=true) (f:FuncId) (kb:Key) (xs:List SV):(JfD s f kb xs).Ok B ρ (γX ρ) (Wz (Q1 s (B.call f)) kb (γXs ρ xs)):=by
 unfold JfD Wz;simp only[X4];refine Zv _ _ _ fun os=>?_;simp only[Qc];refine Zv _ _ _ fun os=>UK _ fun hp=>?_;rw[←Yz ρ _ _ hp];exact K9 hs f kb _ _ _
theorem WX {s:Ql} (hs:s.ok=true) (f:FuncId) (kb:Key) (xs:List SV) (ds:List D) (hds:ds.map X.ofD1=γXs ρ xs) :
  (Q8 s f kb xs).Ok B ρ (γX ρ) (Kx (Q1 s (B.call f)) kb ds):=by
 unfold Q8;split
 ·rename_i ps hps hobjs0;split
  ·rename_i bs hbs;split
   ·rename_i hc;simp only[JrE] at hc;simp only;split
    ·rename_i hall;simp only[JrE] at hall;obtain⟨⟨⟨hall1,hall2⟩,hlen⟩,hfl⟩:=hall;have hall1:XJ [] (s.res.names.filter fun k=>decide (0≤k))=List.range s.robjs.length:=by simpa using hall1
     intro a hcall;simp only[I.holds] at hcall;refine Jdm _ fun hflat=>?_;have hargs:γXs (Yk 0 ρ bs) s.args=γXs ρ xs:=V9 _ _ _ hps fun q hq=>JgL hbs hc.1 hq;have hF:B.call f ((Ju s.ins 0).map (dat (Yk 0 ρ bs)))=some ((Ju s.outs 0).map (dat fun j=>ρ (a+j))):=by
      rw[←Jf0 _ _ _ hc.2,hcall]
      congr 1
      exact JcM ρ s.outs a 0
     have hspec:=Jad hs (F:=B.call f) (xs:=γXs ρ xs) (os:=[]) ⟨Yk 0 ρ bs,fun j=>ρ (a+j),hargs.symm,by rw[hobjs0];rfl,hF,rfl⟩;have hm1 :∀i,γm (fun j=>ρ (a+j)) (Ze 0 s.robjs) i=(s.robjs.map (γO fun j=>ρ (a+j)))[i]?:=by
      intro i;simp only[γm,YX,Nat.zero_le,if_true,Nat.sub_zero,JrZ]
     have hmemn :∀k,k∈s.res.names↔k<s.robjs.length:=by
      intro k;have:k∈XJ [] (s.res.names.filter fun k=>decide (0≤k))↔k∈s.res.names:=by rw[Jag];simp
      rw[←this,hall1,List.mem_range]
     have hfo :∀k∈s.res.names,Kb (γm (fun j=>ρ (a+j)) (Ze 0 s.robjs) k)=true:=by
      intro k hk;rw[hm1,JrZ];have hlt:=(hmemn k).1 hk;rw[JrP hlt,JrG];have:=hflat (Je.up a s.robjs[k]) (List.mem_map_of_mem (List.getElem_mem hlt));rw[Je.up_ok] at this;exact this
     have hfS:Jkz (Q1 s (B.call f)) (ds.map X.ofD1)=some (γX (fun j=>ρ (a+j)) s.res,fun k=>if s.res.names.contains k then(γm (fun j=>ρ (a+j)) (Ze 0 s.robjs) k).map Obj.deepen else none):=by
      unfold Jkz;rw[hds,hspec];simp only[KN];rw[if_pos];rw[JrE];exact⟨Jmt _ _ hfl,JrR.2 hfo⟩
     unfold Kx QX;rw[hfS];simp only[KN,J2,XK,List.flatMap_nil,List.append_nil,List.all_nil,if_true,List.length_nil,List.range_zero,List.nil_append];have hm2 :∀i,(fun k=>if s.res.names.contains k then(γm (fun j=>ρ (a+j)) (Ze 0 s.robjs) k).map Obj.deepen else none) i=((s.robjs.map Je.deepen).map (γO fun j=>ρ (a+j)))[i]?:=by
      intro i;simp only;split
      ·rw[hm1 i,JrZ,JrZ,JrZ];cases s.robjs[i]? with
       | none=>rfl
       | some o=>simp only[JrG,JkW]
      ·rename_i hn;have : ¬i<s.robjs.length:=fun h=>hn (List.contains_iff_mem.2 ((hmemn i).2 h));rw[Jr1 (by simpa using this)]
     have hmap:(XJ [] (s.res.names.filter fun k=>decide (0≤k))).mapM (fun k=>if s.res.names.contains k then(γm (fun j=>ρ (a+j)) (Ze 0 s.robjs) k).map Obj.deepen else none)=some ((s.robjs.map Je.deepen).map (γO fun j=>ρ (a+j))):=by
      rw[hall1,←JcJ _ _ hm2,JrN,JrN]
     rw[hmap];have hdn:(s.robjs.map Je.deepen).flatMap Je.names=s.robjs.flatMap Je.names:=by
      rw[List.flatMap_map]
      congr 1
      funext o
      exact Jgd o
     simp only[Qc,hdn];have hlen':(XJ [] (s.res.names.filter fun k=>decide (0≤k))).length≤16:=Nat.le_of_ble_eq_true hlen;rw[if_pos (by rw[JrE];exact⟨hall2,by simpa using hlen'⟩)];have hren :∀(back:Key→Key) (l:List Je),(l.map (γO fun j=>ρ (a+j))).map (Obj.ren back)=((l.map (Je.up a)).map (Je.ren back)).map (γO ρ):=by
      intro back l;simp only[List.map_map];exact Jr0 fun o _=>by simp only[Function.comp,←Jaj,Je.up_ok]
     simp only[List.zip_nil_left,Jdj,List.drop_zero];have hdu:(s.robjs.map Je.deepen).map (Je.up a)=(s.robjs.map (Je.up a)).map Je.deepen:=by
      rw[List.map_map,List.map_map];exact Jr0 fun o _=>(JkV a o).symm
     rw[hren,hdu,←UP _ _ (γO ρ)];refine Ww _ _ _ ?_;simp only[SMP.Ok,←JdA,SV.up_ok]
    ·trivial
   ·trivial
  ·trivial
 ·trivial
end
end Go.Tm
end
section
namespace Go.Tm
open Go.IntKind (i64)
def Sh.ar:Sh→Option Nat
 | .g as=>some as.length
 | _=>none
def JpR (s:JjM):Option (List (Option Nat)) :=
 if s.flat&&s.pars.all noQ&&Nat.ble s.pars.length 30 then match s.res with
  | .one (.one _)=>some (s.pars.map Sh.ar)
  | _=>none
 else none
def JiF:Sig→Bool
 | .d s=>s.res.ok&&(!s.flat||s.res.leaves.all Vw)
 | .x s=>s.ok
 | .b _ s=>s.ok
 | .h=>true
def bId (f:FuncId):FuncId:=f+1000000
def JpV:SV→Bool
 | .d _=>true
 | .g cs=>cs.all fun | .d _=>true | _=>false
 | _=>false
def Ql.mask (s:Ql):List Bool:=s.args.map JpV
def JpX:SV→List Bool
 | .g cs=>if cs.any (fun | .o _ _=>true | _=>false) then cs.map fun | .d (.s _)=>true | _=>false else []
 | _=>[]
def Ql.gmask (s:Ql):List (List Bool):=s.args.map JpX
def JiH:SV→Bool
 | .d (.vc (.slice none 0 0))=>true
 | _=>false
def Ql.raw (s:Ql):Bool:=s.args.any JiH
noncomputable def QJ (sg:FuncId→Option Sig) (B:Tb):Tab where
 fns f:=match sg f with
  | some (.d s)=>some { F:=dspec s (B.call f),flat:=s.flat }
  | _=>none
 xfns f:=match sg f with
  | some (.x s)=>some (Q1 s (B.call f))
  | _=>none
 xmask f:=match sg f with
  | some (.x s)=>s.mask
  | _=>[]
 xgmask f:=match sg f with
  | some (.x s)=>s.gmask
  | _=>[]
 xraw f:=match sg f with
  | some (.x s)=>s.raw
  | _=>false
 xflat f:=match sg f with
  | some (.x s)=>s.flat
  | _=>false
 bfns f:=match sg (bId f) with
  | some (.b f' s)=>if f'=f then some (Q1 s (B.call (bId f))) else none
  | _=>none
structure BOk (sg:FuncId→Option Sig) (B:Tb):Prop where
 sig :∀f s,sg f=some s→JiF s=true
 ar :∀f a,B.ar f=some a→∃ s,sg f=some (.d s)∧JpR s=some a
def Jkt (s:JjM) (f:FuncId) (es:List E):SMP SV:=match Jw s.pars es with
 | some ls=> .ask (fun n=> .call f ls s.res.leaves n) s.res.leaves.length fun n=> .ret (s.res.sv n)
 | none=> .fail
def ofE:E→Option SV
 | .g l=>match l.list with
  | some cs=>some (.g (cs.map .d))
  | none=>none
 | e=>if e.isOne then some (.d e) else none
def YN:List Bool→List SV→SMP (List SV)
 | b::bs,x::xs=>if b then(Jeq x).bind fun e=>match ofE e with
   | some v=>(YN bs xs).bind fun ys=> .ret (v::ys)
   | none=> .fail
  else(YN bs xs).bind fun ys=> .ret (x::ys)
 | _,xs=> .ret xs
def JfJ (bs:List Bool):SV→SMP SV
 | .g cs=>(YN bs cs).bind fun ds=> .ret (.g ds)
 | x=> .ret x
def Ui:List (List Bool)→List SV→SMP (List SV)
 | bs::bss,x::xs=>(JfJ bs x).bind fun y=>(Ui bss xs).bind fun ys=> .ret (y::ys)
 | _,xs=> .ret xs
def Je.shal:Je→Je
 | .arr ty sz l _ rw=> .arr ty sz l false rw
 | o=>o
def Ql.shal (s:Ql):Ql:={ s with robjs:=s.robjs.take s.objs.length++(s.robjs.drop s.objs.length).map Je.shal }
def Ql.by (s:Ql) (dp:Bool):Ql:=if dp then s else s.shal
def JiZ (sg:FuncId→Option Sig) (dp bo:Bool) (kb:Key) (f:FuncId) (args:List SV):SMP SV:=match sg f with
 | some (.d s)=>if s.flat then(JbM.spurs 40 args).bind fun es=>Jkt s f es else(JaL args).bind fun es=>Jkt s f es
 | some (.x s)=>if s.flat||bo then(JbM.spurs 40 args).bind fun es=>match es.mapM ofE with
   | some xs=>if bo then(match sg (bId f) with
    | some (.b f' s')=>if f'=f then Q8 s' (bId f) kb xs else Q8 s f kb xs
    | _=>Q8 s f kb xs) else Q8 s f kb xs
   | none=> .fail
  else if s.raw then JfD (s.by dp) f kb args else(YN s.mask args).bind fun xs=>(Ui s.gmask xs).bind fun xs=>JiX (s.by dp) f kb xs
 | _=> .fail
def arE:E→Option Nat
 | .g l=>match l.list with
  | some cs=>some cs.length
  | none=>none
 | _=>none
def Vh:List E→Option (List E)
 | []=>some []
 | .g l::es=>match l.list with
  | some cs=>(Vh es).map (cs ++ ·)
  | none=>none
 | e::es=>(Vh es).map (e :: ·)
def Uy:SV→Option E
 | .d e=>if e.isOne then some e.norm else none
 | .g cs=>if Nat.ble cs.length 20 then(cells cs).map fun l=> .g (JO l) else none
 | _=>none
where
 cells:List SV→Option (List E)
  | []=>some []
  | .d e::cs=>if e.isOne then(cells cs).map (e.norm :: ·) else none
  | _=>none
def Wx:List SV→Option (List E)
 | []=>some []
 | v::vs=>match Uy v with
  | some e=>(Wx vs).map (e :: ·)
  | none=>none
def Jmz (n0:Nat) (args:List SV) (rs:Sh1):SMP SV :=
 if Vw rs&&Nat.ble args.length 8 then match Wx args with
  | some es=>match Vh es with
   | some ls=> .ask (fun n=> .callv (.da n0) ls (es.map arE) [rs] n) 1 fun n=> .ret (.d (rs.expr n))
   | none=> .fail
  | none=> .fail
 else .fail
section
variable {B:Tb} {ρ:Env} {sg:FuncId→Option Sig} {P:Program} {G:JQ}
theorem Jbx :∀(n:Nat) (xs ys:List X),xs.length≤n→pur.purs n (xs++ys)=(pur.purs n xs).bind fun ds=>(pur.purs (n-xs.length) ys).bind fun es=> .ret (ds++es)
 | n,[],ys,_=>by
  have h1:pur.purs n ([]:List X) = .ret []:=by cases n <;> rfl
  rw[List.nil_append,h1];show _=(pur.purs n ys).bind fun es=> .ret es;generalize pur.purs n ys=p
  induction p with
  | ret a=>rfl
  | fail=>rfl
  | get k c ih=>simp only[MP.bind];congr 1;funext o;exact ih o
  | put k o c ih=>simp only[MP.bind];rw[←ih]
  | new k o c ih=>simp only[MP.bind];rw[←ih]
 | 0,x::xs,ys,h=>by simp at h
 | n+1,x::xs,ys,h=>by
  have ih:=Jbx n xs ys (by simpa using h);have assoc :∀{α β γ:Type} (p:MP α) (f:α→MP β) (g:β→MP γ),(p.bind f).bind g=p.bind fun a=>(f a).bind g:=by
   intro α β γ p f g
   induction p with
   | ret a=>rfl
   | fail=>rfl
   | get k c ih=>simp only[MP.bind];congr 1;funext o;exact ih o
   | put k o c ih=>simp only[MP.bind];rw[ih]
   | new k o c ih=>simp only[MP.bind];rw[ih]
  show (pur n x).bind (fun d=>(pur.purs n (xs++ys)).bind fun ds=> .ret (d::ds))=((pur n x).bind fun d=>(pur.purs n xs).bind fun ds=> .ret (d::ds)).bind _;rw[ih];simp only[assoc,MP.bind,List.length_cons,Nat.add_sub_add_right,List.cons_append]
theorem JeE :∀(n:Nat) (ds:List D),ds.length<n→pur.purs n (ds.map X.d) = .ret (ds.map D.norm)
 | 0,ds,h=>by omega
 | n+1,[],h=>rfl
 | n+1,d::ds,h=>by
  show (pur n (.d d)).bind (fun d=>(pur.purs n (ds.map X.d)).bind fun ds=> .ret (d::ds))=_;have hlt:ds.length<n:=by simpa using h
  obtain⟨k,rfl⟩ : ∃ k,n=k+1:=⟨n-1,by omega⟩;rw[JeE (k+1) ds hlt];rfl
theorem JiG {s:JjM} (hs:JiF (.d s)=true) (f:FuncId) (es:List E) (fl:Bool) (hfl:fl=true→s.flat=true):(Jkt s f es).Ok B ρ (γX ρ)
  (match dspec s (B.call f) (fEs ρ es) with
   | some r=>if fl then(if flat r then .ret (X.ofD r) else .fail) else .ret (X.ofD r)
   | none=> .fail):=by
 unfold Jkt;cases hf:Jw s.pars es with
 | none=>trivial
 | some ls =>
  intro n hn;simp only[I.holds] at hn;simp only[JiF,JrE] at hs;obtain⟨d,h1,h2⟩:=JlF ρ s.res n hs.1;have hd:dspec s (B.call f) (fEs ρ es)=some d:=by
   unfold dspec fEs;rw[UU ρ _ _ _ hf,JrS,hn,JrS,h1]
  rw[hd];simp only[SMP.Ok,←h2];cases fl with
  | false=>rfl
  | true =>
   have hpl:s.res.leaves.all Vw=true:=by simpa[hfl rfl] using hs.2
   have:=Jh2 h1 (Jde ρ _ _ hpl);simp only[this,if_true]
theorem Jm8 {e:E} {v:SV} (h:ofE e=some v) (ρ:Env):X.ofD1 (dat ρ e)=γX ρ v:=by
 unfold ofE at h;split at h
 ·rename_i l;split at h
  ·rename_i cs hl;simp only[JrD] at h;subst h;show X.g ((lst ρ l).map .d)=X.g (γXs ρ (cs.map .d));rw[XP ρ _ _ hl,Jr,VK]
  ·cases h
 ·split at h
  ·rename_i ho;simp only[JrD] at h;subst h;rw[Jhx (JL ho ρ)];rfl
  ·cases h
theorem Y8 :∀(bs:List Bool) (xs:List SV),(YN bs xs).Ok B ρ (γXs ρ) (Xl bs (xs.map (γX ρ)))
 | [],xs=>by
  cases xs <;> simp only[YN,Xl,List.map_nil,SMP.Ok,Jr]
 | _::_,[]=>rfl
 | b::bs,x::xs=>by
  simp only[YN,Xl,JrM];cases b with
  | true =>
   simp only[if_true];refine SMP.bind_ok (f:=dat ρ) (fun e=>?_) _ _ (JhS x);cases he:ofE e with
   | none=>trivial
   | some v =>
    simp only[Jm8 he ρ];refine SMP.bind_ok (f:=γXs ρ) (fun ys=>?_) _ _ (Y8 bs xs);rfl
  | false =>
   simp only[JrU,if_false];refine SMP.bind_ok (f:=γXs ρ) (fun ys=>?_) _ _ (Y8 bs xs);rfl
theorem Jjt (bs:List Bool) (x:SV):(JfJ bs x).Ok B ρ (γX ρ) (JaP bs (γX ρ x)):=by
 cases x with
 | g cs =>
  simp only[JfJ,γX,JaP];have h:=Y8 (B:=B) (ρ:=ρ) bs cs;rw[←Jr] at h;refine SMP.bind_ok (f:=γXs ρ) (fun ds=>?_) _ _ h;rfl
 | _=>rfl
theorem VY :∀(bs:List (List Bool)) (xs:List SV),(Ui bs xs).Ok B ρ (γXs ρ) (Yc bs (γXs ρ xs))
 | [],xs=>by
  cases xs <;> rfl
 | _::_,[]=>rfl
 | b::bs,x::xs=>by
  simp only[Ui,γXs,Yc];refine SMP.bind_ok (f:=γX ρ) (fun y=>?_) _ _ (Jjt b x);refine SMP.bind_ok (f:=γXs ρ) (fun ys=>?_) _ _ (VY bs xs);rfl
theorem JkO :∀(es:List E) (xs:List SV),es.mapM ofE=some xs→(fEs ρ es).map X.ofD1=γXs ρ xs
 | [],xs,h=>by
  simp at h;subst h;rfl
 | e::es,xs,h=>by
  simp only[List.mapM_cons,Option.bind_eq_bind] at h;cases he:ofE e with
  | none=>rw[he] at h;cases h
  | some v =>
   cases hr:es.mapM ofE with
   | none=>rw[he,hr] at h;cases h
   | some vs =>
    rw[he,hr] at h;simp only[JrS,pure,JrD] at h;subst h;show X.ofD1 (dat ρ e)::(fEs ρ es).map X.ofD1=γX ρ v::γXs ρ vs;rw[Jm8 he ρ,JkO es vs hr]
theorem Jnh (o:Je):o.shal.lv2=o.lv2:=by cases o <;> rfl
theorem Jj7 {s:Ql} (h:s.ok=true):s.shal.ok=true:=by
 unfold Ql.ok Ql.shal at *;have e:(s.robjs.take s.objs.length++(s.robjs.drop s.objs.length).map Je.shal).flatMap Je.lv2=s.robjs.flatMap Je.lv2:=by
  conv=>rhs;rw[←List.take_append_drop s.objs.length s.robjs]
  rw[List.flatMap_append,List.flatMap_append,List.flatMap_map];simp only[Jnh]
 simp only[e];exact h
theorem JnR {s:Ql} {ρ2:Env}:γm ρ2 (Ze 0 s.shal.robjs)=fun k=>if k<s.objs.length then γm ρ2 (Ze 0 s.robjs) k else(γm ρ2 (Ze 0 s.robjs) k).map Obj.shal:=by
 refine funext fun(k:Nat)=>?_;simp only[γm,YX,Nat.zero_le,if_true,Nat.sub_zero,Ql.shal];have hs :∀o:Je,γO ρ2 o.shal=(γO ρ2 o).shal:=fun o=>by cases o <;> rfl
 split
 ·rename_i hk
  by_cases hl:k<s.robjs.length
  ·rw[Jr5 (by rw[JrT];omega),Jr4 hk]
  ·rw[Jr1 (l:=s.robjs) (by omega),Jr1 (by rw[JrK,JrT,JrN,List.length_drop];omega)]
 ·rename_i hk
  by_cases hl:s.objs.length≤s.robjs.length
  ·rw[Jr6 (by rw[JrT];omega),JrZ,List.getElem?_drop,JrT,Nat.min_eq_left hl,show s.objs.length+(k-s.objs.length)=k by omega];cases s.robjs[k]? with
   | none=>rfl
   | some o=>simp[hs]
  ·rw[Jr1 (l:=s.robjs) (by omega),Jr1 (by rw[JrK,JrT,JrN,List.length_drop];omega)];rfl
theorem Jla {s:Ql} (h:s.ok=true) (F:List D→Option (List D)):Jdl (Q1 s F)=Q1 s.shal F:=by
 funext xs os
 unfold Jdl;cases h0:Q1 s F xs os with
 | some r =>
  have hr:=Ku h0;have hr2:s.shal.rel F xs os (r.1,fun k=>if k<os.length then r.2 k else(r.2 k).map Obj.shal):=by
   obtain⟨ρ1,ρ2,h1,h2,h3,rfl⟩:=hr;refine⟨ρ1,ρ2,h1,h2,h3,?_⟩;rw[JnR,h2,JrN];rfl
  rw[Jad (Jj7 h) hr2];rfl
 | none =>
  cases h1:Q1 s.shal F xs os with
  | none=>rfl
  | some r =>
   obtain⟨ρ1,ρ2,a1,a2,a3,a4⟩:=Ku h1;have hr:s.rel F xs os (γX ρ2 s.res,γm ρ2 (Ze 0 s.robjs)):=⟨ρ1,ρ2,a1,a2,a3,rfl⟩;rw[Jad h hr] at h0;cases h0
theorem Jpq {s:Ql} (h:s.ok=true) (dp:Bool):(s.by dp).ok=true:=by
 cases dp
 ·exact Jj7 h
 ·exact h
theorem Jkd {s:Ql} (h:s.ok=true) (dp:Bool) (F:List D→Option (List D)):(if dp=true then Q1 s F else Jdl (Q1 s F))=Q1 (s.by dp) F:=by
 cases dp
 ·exact Jla h F
 ·rfl
theorem Jo8 (hB:BOk sg B) {s:Ql} (hs:s.ok=true) (bo:Bool) (f:FuncId) (kb:Key) (xs:List SV) (ds:List D) (hds:ds.map X.ofD1=γXs ρ xs) :
  SMP.Ok B ρ (γX ρ) (if bo then(match sg (bId f) with
   | some (.b f' s')=>if f'=f then Q8 s' (bId f) kb xs else Q8 s f kb xs
   | _=>Q8 s f kb xs) else Q8 s f kb xs) (Kx ((QJ sg B).sel bo f (Q1 s (B.call f))) kb ds):=by
 have h0:=WX hs f kb xs ds hds (B:=B);unfold Tab.sel QJ;simp only;cases bo with
 | false=>exact h0
 | true =>
  simp only[if_true];cases hb:sg (bId f) with
  | none=>exact h0
  | some s'=>cases s' with
   | b f' s' =>
    simp only;split
    ·exact WX (s:=s') (hB.sig (bId f) _ hb) (bId f) kb xs ds hds
    ·exact h0
   | _=>exact h0
theorem JlB (hB:BOk sg B) (o:Oper) (f:FuncId) (args:List SV):(JiZ sg (G.dp o) (G.bo o) (Jt o) f args).Ok B ρ (γX ρ) (Jak (QJ sg B) G o f (args.map (γX ρ))):=by
 unfold JiZ Jak QJ;simp only;cases hf:sg f with
 | none=>trivial
 | some s =>
  cases s with
  | d s =>
   simp only;split
   ·rename_i hfl;simp only[WZ];refine SMP.bind_ok (f:=fEs ρ) (fun es=>?_) _ _ (Zq 40 args);exact JiG (hB.sig f _ hf) f es true (fun _=>hfl)
   ·refine SMP.bind_ok (f:=fEs ρ) (fun es=>?_) _ _ (VM args);exact JiG (hB.sig f _ hf) f es false (fun h=>by cases h)
  | x s =>
   simp only;split
   ·simp only[WZ];refine SMP.bind_ok (f:=fEs ρ) (fun es=>?_) _ _ (Zq 40 args);cases he:es.mapM ofE with
    | none=>trivial
    | some xs=>exact Jo8 hB (hB.sig f _ hf) (G.bo o) f (Jt o) xs _ (JkO es xs he)
   split
   ·rw[←Jr,Jkd (hB.sig f _ hf)];exact JjK (Jpq (hB.sig f _ hf) _) f (Jt o) args
   ·rw[Jkd (hB.sig f _ hf)];exact SMP.bind_ok (f:=γXs ρ) (fun xs=>SMP.bind_ok (f:=γXs ρ) (fun xs=>Jl2 (Jpq (hB.sig f _ hf) _) f (Jt o) xs) _ _ (VY _ xs)) _ _ (Y8 _ args)
  | b f s=>trivial
  | h=>trivial
theorem JgR :∀(es ls:List E) (ss:List Sh) (caps:List D),Vh es=some ls→ss.map Sh.ar=es.map arE++caps.map (fun _=>none)→ss.all noQ=true →
  Jj ss (es.map (dat ρ)++caps)=some (ls.map (dat ρ)++caps)
 | [],ls,ss,caps,h,hs,hq=>by
  simp only[Vh,JrD] at h;subst h;simp only[List.map_nil,List.nil_append] at hs ⊢
  induction caps generalizing ss with
  | nil=>simp at hs;subst hs;rfl
  | cons c caps ih =>
   cases ss with
   | nil=>simp at hs
   | cons s ss =>
    simp only[JrM,List.cons.injEq] at hs;simp only[List.all_cons,JrE] at hq;cases s with
    | g as=>simp[Sh.ar] at hs
    | q as=>simp[noQ] at hq
    | one a=>simp only[Jj,ih ss hq.2 hs.2,JrG]
 | e::es,ls,ss,caps,h,hs,hq=>by
  cases ss with
  | nil=>simp at hs
  | cons s ss =>
   simp only[JrM,List.cons_append,List.cons.injEq] at hs;simp only[List.all_cons,JrE] at hq;have rest :∀ls',Vh es=some ls'→Jj ss (es.map (dat ρ)++caps)=some (ls'.map (dat ρ)++caps):=fun ls' h=>JgR es ls' ss caps h hs.2 hq.2;have one:arE e=none→(Vh es).map (e :: ·)=some ls→Jj (s::ss) ((e::es).map (dat ρ)++caps)=some (ls.map (dat ρ)++caps):=by
    intro ha h;cases hr:Vh es with
    | none=>simp[hr] at h
    | some ls' =>
     simp only[hr,JrG,JrD] at h;subst h;cases s with
     | g as=>rw[ha] at hs;simp[Sh.ar] at hs
     | q as=>simp[noQ] at hq
     | one a=>simp only[JrM,List.cons_append,Jj,rest ls' hr,JrG]
   cases e with
   | g l =>
    simp only[Vh] at h;split at h
    ·rename_i cs hl;cases hr:Vh es with
     | none=>simp[hr] at h
     | some ls' =>
      simp only[hr,JrG,JrD] at h;subst h;simp only[arE,hl] at hs;cases s with
      | one a=>simp[Sh.ar] at hs
      | q as=>simp[noQ] at hq
      | g as =>
       simp only[Sh.ar,JrD] at hs;show Jj (.g as::ss) (D.g (lst ρ l)::(es.map (dat ρ)++caps))=_;simp only[Jj,XP ρ _ _ hl,JrN,hs.1,if_true,rest ls' hr,JrG,List.map_append,List.append_assoc]
    ·cases h
   | _=>exact one rfl h
theorem Jdx :∀(cs:List SV) (l:List E) (n:Nat),Uy.cells cs=some l→cs.length<n→pur.purs n (cs.map (γX ρ)) = .ret (l.map (dat ρ))
 | [],l,n,h,hn=>by
  simp only[Uy.cells,JrD] at h;subst h;cases n <;> rfl
 | c::cs,l,0,h,hn=>by simp at hn
 | c::cs,l,n+1,h,hn=>by
  cases c with
  | d e =>
   simp only[Uy.cells] at h;split at h
   ·rename_i ho;cases hr:Uy.cells cs with
    | none=>simp[hr] at h
    | some l' =>
     simp only[hr,JrG,JrD] at h;subst h;have hlt:cs.length<n:=by simpa using hn
     obtain⟨k,rfl⟩ : ∃ k,n=k+1:=⟨n-1,by omega⟩;show (pur (k+1) (X.d (dat ρ e))).bind (fun d=>(pur.purs (k+1) (cs.map (γX ρ))).bind fun ds=> .ret (d::ds))=_;rw[Jdx cs l' (k+1) hr hlt];simp only[pur,MP.bind,JrM,YU ho]
   ·cases h
  | _=>simp[Uy.cells] at h
theorem Jok {v:SV} {e:E} {n:Nat} (h:Uy v=some e) (hn:22≤n):pur n (γX ρ v) = .ret (dat ρ e):=by
 obtain⟨k,rfl⟩ : ∃ k,n=k+1:=⟨n-1,by omega⟩;cases v with
 | d e' =>
  simp only[Uy] at h;split at h
  ·rename_i ho;simp only[JrD] at h;subst h;simp only[γX,pur,YU ho]
  ·cases h
 | g cs =>
  simp only[Uy] at h;split at h
  ·rename_i hl;have hl:cs.length≤20:=Nat.le_of_ble_eq_true hl;cases hc:Uy.cells cs with
   | none=>simp[hc] at h
   | some l =>
    simp only[hc,JrG,JrD] at h;subst h;simp only[γX,pur,Jr,Jdx cs l k hc (by omega),MP.bind];show MP.ret _=MP.ret (D.g (lst ρ (JO l)));rw[Jv]
  ·cases h
 | _=>simp[Uy] at h
theorem JeX :∀(vs:List SV) (es:List E) (n:Nat),Wx vs=some es→22+vs.length≤n→pur.purs n (vs.map (γX ρ)) = .ret (es.map (dat ρ))
 | [],es,n,h,hn=>by
  simp only[Wx,JrD] at h;subst h;cases n <;> rfl
 | v::vs,es,0,h,hn=>by omega
 | v::vs,es,n+1,h,hn=>by
  simp only[Wx] at h;split at h
  ·rename_i e he;cases hr:Wx vs with
   | none=>simp[hr] at h
   | some es' =>
    simp only[hr,JrG,JrD] at h;subst h;simp only[List.length_cons] at hn;show (pur n (γX ρ v)).bind (fun d=>(pur.purs n (vs.map (γX ρ))).bind fun ds=> .ret (d::ds))=_;rw[Jok he (by omega),JeX vs es' n hr (by omega)];rfl
  ·cases h
theorem JmD (hB:BOk sg B) (o:Oper) (n0:Nat) (args:List SV) (rs:Sh1) :
  (Jmz n0 args rs).Ok B ρ (γX ρ) (match X.d (dat ρ (.da n0)) with
   | .f fn cs=>Jak (QJ sg B) G o fn (args.map (γX ρ)++cs)
   | .d (.f fn cs)=>Jak (QJ sg B) G o fn (args.map (γX ρ)++cs.map X.d)
   | _=> .fail):=by
 unfold Jmz;split
 ·rename_i hpl;simp only[JrE] at hpl;have hlen:args.length≤8:=Nat.le_of_ble_eq_true hpl.2;cases hpe:Wx args with
  | none=>trivial
  | some es =>
   simp only;cases hfe:Vh es with
   | none=>trivial
   | some ls =>
    intro n hn;obtain⟨fn,caps,hd,h2,h3⟩:=hn;rw[hd];simp only;obtain⟨s,hsg,hs⟩:=hB.ar fn _ h2;unfold JpR at hs;split at hs
    ·rename_i hcond;simp only[JrE] at hcond;obtain⟨⟨hflat,hnq⟩,h30⟩:=hcond;have h30:s.pars.length≤30:=Nat.le_of_ble_eq_true h30;split at hs
     ·rename_i a hres;simp only[JrD] at hs;unfold Jak QJ;simp only[hsg,hflat,if_true,WZ];have hcl:caps.length≤30:=by
       have:=congrArg List.length hs;simp at this;omega
      rw[Jbx 40 _ _ (by simp;omega),JeX args es 40 hpe (by omega),JeE _ caps (by simp;omega)];simp only[MP.bind];have hds:dspec s (B.call fn) (es.map (dat ρ)++caps.map D.norm)=some (dat ρ (rs.expr n)):=by
       unfold dspec;rw[JgR es ls s.pars (caps.map D.norm) hfe (by rw[hs];simp) hnq,JrS,h3,JrS,hres];simp only[Ju,JrM,List.map_nil,Yx,JL (YK rs n) ρ,if_true]
      rw[hds];have hfl:flat (dat ρ (rs.expr n))=true:=by
       cases rs <;> first | rfl | (exact absurd hpl.1 (by simp[Vw]))
      simp only[hfl,if_true,SMP.Ok,γX,Jf5 (JL (YK rs n) ρ)]
     ·cases hs
    ·cases hs
 ·trivial
end
end Go.Tm
end
section
namespace Go.Tm
open Go.IntKind (i64)
def WD (l:E):E:=match l.list with
 | some cs=> .z cs.length
 | none=> .len l
def E.known:E→Option Bool
 | .tt=>some true
 | .ff=>some false
 | .cmp o (.z a) (.z b)=>some (o.sem a b)
 | _=>none
def Kl {α:Type} (b:E) (c:SMP α):SMP α:=match b.known with
 | some true=>c
 | some false=> .fail
 | none=> .ask (fun _=> .chk b) 0 fun _=>c
def Z9 (P:Program) (e:TypeId):Option Nat:=(tz P e).map fun z=>if z.2.2=0 then 2 ^ 46 else 2 ^ 46 / z.2.2
def Jov {α:Type} (sz:Nat) (l:E) (c:SMP α):SMP α:=match l with
 | .nil=>c
 | .cons (.g x) _=>match x.list with
  | some cs=>if cs.length=sz then c else .fail
  | none=> .fail
 | .cons x _=>if x.isOne&&sz == 1 then c else .fail
 | _=> .ask (fun _=> .head sz l) 0 fun _=>c
def VQ:SV→Option (IntKind×E)
 | .d (.vi k e)=>some (k,e)
 | _=>none
section
variable {B:Tb} {ρ:Env} {sg:FuncId→Option Sig} {P:Program} {G:JQ}
theorem YP (l:E):int ρ (WD l)=(lst ρ l).length:=by
 unfold WD;split
 ·rename_i cs h;rw[XP ρ _ _ h];simp[int,den,V.int]
 ·rfl
theorem Zw {b:E} {t:Bool} (h:b.known=some t):bol ρ b=t:=by
 unfold E.known at h;split at h <;> simp at h <;> subst h <;> rfl
theorem Qq {α β:Type} {f:α→β} {b:E} {c:SMP α} {q:MP β} (h:bol ρ b=true→c.Ok B ρ f q):(Kl b c).Ok B ρ f q:=by
 unfold Kl;split
 ·rename_i hk;exact h (Zw hk)
 ·trivial
 ·intro n hn;exact h hn
theorem Joo {α β:Type} {f:α→β} {sz:Nat} {l:E} {c:SMP α} {q:MP β} (h:XZ sz (lst ρ l)=true→c.Ok B ρ f q):(Jov sz l c).Ok B ρ f q:=by
 unfold Jov;split
 ·exact h rfl
 ·rename_i x l';split
  ·rename_i cs hl;split
   ·rename_i hs;refine h ?_;show ((D.g (lst ρ x)).cells.length == sz)=true;rw[XP ρ _ _ hl];simp[D.cells,hs]
   ·trivial
  ·trivial
 ·rename_i x l' _;split
  ·rename_i hx;simp only[JrE] at hx;refine h ?_;show ((dat ρ x).cells.length == sz)=true;rw[Jcf (JL hx.1 ρ)];have:sz=1:=by simpa using hx.2
   subst this;rfl
  ·trivial
 ·intro n hn;exact h hn
theorem Vz {e:TypeId} {m n:Nat} (h:Z9 P e=some m) (hn:n≤m):Vf P e n=true:=by
 unfold Z9 at h;unfold Vf;cases ht:tz P e with
 | none=>simp[ht] at h
 | some z =>
  obtain⟨a,b,c⟩:=z;simp only[ht,JrG,JrD] at h;simp only[decide_eq_true_eq];split at h
  ·rename_i hc;subst hc;exact⟨by simp,by omega⟩
  ·rename_i hc;have h1:n≤2 ^ 46 / c:=by omega
   have h2:n*c≤2 ^ 46:=(Nat.le_div_iff_mul_le (by omega)).1 h1;have h3:n≤n*c:=Nat.le_mul_of_pos_right n (by omega);exact⟨h2,by omega⟩
theorem Jo3 {v:SV} {k:IntKind} {e:E} (h:VQ v=some (k,e)):γX ρ v = .d (.v (.int k (int ρ e))):=by
 unfold VQ at h;split at h
 ·simp only[JrD,JrV] at h;obtain⟨rfl,rfl⟩:=h;rfl
 ·cases h
theorem YH {v:SV} {k:IntKind} {e:E} (h:VQ v=some (k,e)):Wd (γX ρ v)=some (int ρ e):=by rw[Jo3 h];rfl
theorem Zn (a b:E):bol ρ (.cmp .le a b)=decide (int ρ a≤int ρ b):=rfl
theorem Jnn (a b:E):bol ρ (.cmp .lt a b)=decide (int ρ a<int ρ b):=rfl
theorem JmH (a b:E):bol ρ (.cmp .eq a b)=decide (int ρ a=int ρ b):=rfl
theorem WI (n:Int):int ρ (.z n)=n:=rfl
def Jky (op:BinOp) (k:IntKind) (a b:E):SMP SV:=match op with
 | .add=> .ret (.d (.vi k (.bin .add k a b)))
 | .sub=> .ret (.d (.vi k (.bin .sub k a b)))
 | .mul=> .ret (.d (.vi k (.bin .mul k a b)))
 | .quo=>Kl (.not (.cmp .eq b (.z 0))) (.ret (.d (.vi k (.bin .quo k a b))))
 | .rem=>Kl (.not (.cmp .eq b (.z 0))) (.ret (.d (.vi k (.bin .rem k a b))))
 | .and=> .ret (.d (.vi k (.bin .and k a b)))
 | .or=> .ret (.d (.vi k (.bin .or k a b)))
 | .xor=> .ret (.d (.vi k (.bin .xor k a b)))
 | .eql=> .ret (.d (.vb (.cmp .eq a b)))
 | .neq=> .ret (.d (.vb (.not (.cmp .eq a b))))
 | .lss=> .ret (.d (.vb (.cmp .lt a b)))
 | .leq=> .ret (.d (.vb (.cmp .le a b)))
 | .gtr=> .ret (.d (.vb (.cmp .lt b a)))
 | .geq=> .ret (.d (.vb (.cmp .le b a)))
 | _=> .fail
theorem Q9 {op:BinOp} {t:TypeId} {x y:Operand} {k:IntKind} {a b:Int} {v:Value} (h:JC P (do eqGuard op t x y (.int k a) (.int k b);binOp op t (.int k a) (.int k b))=some v) (ho:v.oneCell=true) :
  KH (JC P (do eqGuard op t x y (.int k a) (.int k b);binOp op t (.int k a) (.int k b))) = .ret (.d (.v v)):=by
 rw[h];simp only[KH,ho,if_true]
theorem JmX (op:BinOp) (t:TypeId) (x y:Operand) (k:IntKind) (a b:E):(Jky op k a b).Ok B ρ (γX ρ)
  (KH (JC P (do eqGuard op t x y (.int k (int ρ a)) (.int k (int ρ b));binOp op t (.int k (int ρ a)) (.int k (int ρ b))))):=by
 cases op with
 | add=>exact Q9 (by simp[eqGuard,binOp,Op.intArith];rfl) rfl
 | sub=>exact Q9 (by simp[eqGuard,binOp,Op.intArith];rfl) rfl
 | mul=>exact Q9 (by simp[eqGuard,binOp,Op.intArith];rfl) rfl
 | quo =>
  simp only[Jky];refine Qq fun h=>?_;have h:(!decide (int ρ b=0))=true:=h;have h : ¬int ρ b=0:=by simpa using h
  exact Q9 (by simp[eqGuard,binOp,Op.intDiv,h];rfl) rfl
 | rem =>
  simp only[Jky];refine Qq fun h=>?_;have h:(!decide (int ρ b=0))=true:=h;have h : ¬int ρ b=0:=by simpa using h
  exact Q9 (by simp[eqGuard,binOp,Op.intDiv,h];rfl) rfl
 | and=>exact Q9 (by simp[eqGuard,binOp,Op.intBits];rfl) rfl
 | or=>exact Q9 (by simp[eqGuard,binOp,Op.intBits];rfl) rfl
 | xor=>exact Q9 (by simp[eqGuard,binOp,Op.intBits];rfl) rfl
 | eql=>exact Q9 (by simp[eqGuard,binOp,Op.intCmp];rfl) rfl
 | neq=>exact Q9 (by simp[eqGuard,binOp,Op.intCmp];rfl) rfl
 | lss=>exact Q9 (by simp[eqGuard,binOp,Op.intCmp];rfl) rfl
 | leq=>exact Q9 (by simp[eqGuard,binOp,Op.intCmp];rfl) rfl
 | gtr=>exact Q9 (by simp[eqGuard,binOp,Op.intCmp];rfl) rfl
 | geq=>exact Q9 (by simp[eqGuard,binOp,Op.intCmp];rfl) rfl
 | _=>trivial
def strE:E→Bool
 | .vc (.string _)=>true
 | .da _=>true
 | _=>false
def JpT (P:Program) (op:BinOp) (t:TypeId) (a b:SV):SMP SV:=match a,b with
 | .d (.vi k x),.d (.vi k' y)=>if k=k' then Jky op k x y else .fail
 | .d (.vb x),.d (.vb y)=>match P.underlying t,op with
  | some .bool,.eql=> .ret (.d (.vb (.beq x y)))
  | some .bool,.neq=> .ret (.d (.vb (.not (.beq x y))))
  | _,_=> .fail
 | .d x,.d y=>if strE x&&strE y then match P.underlying t,op with
  | some .string,.add=> .ask (fun n=> .prim .cat [x,y] .d n) 1 fun n=> .ret (.d (.da n))
  | some .string,.eql=> .ask (fun n=> .prim .seq [x,y] .b n) 1 fun n=> .ret (.d (.vb (.v n)))
  | some .string,.neq=> .ask (fun n=> .prim .seq [x,y] .b n) 1 fun n=> .ret (.d (.vb (.not (.v n))))
  | _,_=> .fail
  else .fail
 | _,_=> .fail
theorem Jnx {p:Jpe} {x y r:D} (hp:p = .cat∨p = .seq) (h:ZC p [x,y]=some r) : ∃ a b,x = .v (.string a)∧y = .v (.string b):=by
 rcases hp with rfl | rfl
 all_goals
  cases x with
  | v x=>cases x with
   | string a=>cases y with
    | v y=>cases y with
     | string b=>exact⟨a,b,rfl,rfl⟩
     | _=>simp[ZC] at h
    | _=>simp[ZC] at h
   | _=>simp[ZC] at h
  | _=>simp[ZC] at h
theorem QE {α β:Type} (f:α→Sem β) :∀x:Sem α,JC P (x >>= f)=(JC P x).bind fun a=>JC P (f a)
 | .pure a=>rfl
 | .program k=>QE f (k P)
 | .load _ _ _ | .store _ _ _ _ | .new _ _ | .shape _ _ | .freeze _ _ _ | .frozen _ _
 | .getObj _ _ | .setObj _ _ _ | .choose _ _ | .sys _ _ | .mark _ _ | .halt _=>rfl
theorem Xe {t:TypeId} {d:TypeDesc} (h:P.underlying t=some d):JC P (underlying t)=some d:=by
 unfold underlying;rw[QE];show (some P).bind _=_;simp only[JrS,h];rfl
theorem JkL {t:TypeId} (h:P.underlying t=some .bool) (a b:Bool):JC P (Op.equal t (.bool a) (.bool b))=some (a == b):=by
 show JC P (Op.equalIn (9999+1) t (.bool a) (.bool b))=_;unfold Op.equalIn;rw[QE,Xe h];rfl
theorem Jo9 {t:TypeId} {x y:Operand} {u v:ByteArray} {r:D} (h:ZC .cat [.v (.string u),.v (.string v)]=some r) :
  JC P (do eqGuard .add t x y (.string u) (.string v);binOp .add t (.string u) (.string v))=some (.string (u++v))∧D.v (.string (u++v))=r:=by
 have h:(if u.size+v.size≤2 ^ 62 then some (D.v (.string (u++v))) else none)=some r:=h;split at h
 ·rename_i hz;simp only[JrD] at h;refine⟨?_,h⟩;show JC P (Op.stringOp .add u v)=_;have : ¬((u.size+v.size:Nat):Int) > i64.max:=by
   have:i64.max=9223372036854775807:=rfl;omega
  simp only[Op.stringOp,this,if_false];rfl
 ·cases h
theorem JoB (op:BinOp) (t:TypeId) (x y:Operand) (a b:SV):(JpT P op t a b).Ok B ρ (γX ρ)
  (match γX ρ a,γX ρ b with
   | .d (.v a),.d (.v b)=>KH (JC P (do eqGuard op t x y a b;binOp op t a b))
   | _,_=> .fail):=by
 unfold JpT;split
 ·rename_i k a k' b;split
  ·rename_i hk;subst hk;exact JmX op t x y k a b
  ·trivial
 ·rename_i a b;split
  ·rename_i hu _;show KH (JC P (do eqGuard .eql t x y (.bool (bol ρ a)) (.bool (bol ρ b));binOp .eql t (.bool (bol ρ a)) (.bool (bol ρ b))))=_;have:JC P (do eqGuard .eql t x y (.bool (bol ρ a)) (.bool (bol ρ b));binOp .eql t (.bool (bol ρ a)) (.bool (bol ρ b)))=some (.bool (bol ρ a == bol ρ b)):=by
    show JC P (Op.equal t (Value.bool (bol ρ a)) (Value.bool (bol ρ b)) >>= fun r=>pure (Value.bool r))=_;rw[QE,JkL (by assumption)];rfl
   rw[this];rfl
  ·rename_i hu _;show KH (JC P (do eqGuard .neq t x y (.bool (bol ρ a)) (.bool (bol ρ b));binOp .neq t (.bool (bol ρ a)) (.bool (bol ρ b))))=_;have:JC P (do eqGuard .neq t x y (.bool (bol ρ a)) (.bool (bol ρ b));binOp .neq t (.bool (bol ρ a)) (.bool (bol ρ b)))=some (.bool (!(bol ρ a == bol ρ b))):=by
    show JC P (Op.equal t (Value.bool (bol ρ a)) (Value.bool (bol ρ b)) >>= fun r=>pure (Value.bool (!r)))=_;rw[QE,JkL (by assumption)];rfl
   rw[this];rfl
  ·trivial
 ·rename_i a b _ _;split
  ·split
   ·intro n hn;have hn:ZC .cat [dat ρ a,dat ρ b]=some (dat ρ (.da n)):=hn;obtain⟨u,v,ea,eb⟩:=Jnx (.inl rfl) hn;rw[ea,eb] at hn;have hr:=Jo9 (P:=P) (t:=t) (x:=x) (y:=y) hn;simp only[γX,ea,eb,hr.1];show MP.ret (X.d (.v (.string (u++v))))=MP.ret (X.d (dat ρ (.da n)));rw[hr.2]
   ·intro n hn;have hn:ZC .seq [dat ρ a,dat ρ b]=some (.v (.bool (bol ρ (.v n)))):=hn;obtain⟨u,v,ea,eb⟩:=Jnx (.inr rfl) hn;rw[ea,eb] at hn;have hn:some (D.v (.bool (u.toList == v.toList)))=some (.v (.bool (bol ρ (.v n)))):=hn;simp only[JrD,D.v.injEq,Value.bool.injEq] at hn;simp only[γX,ea,eb];show MP.ret (X.d (.v (.bool (u.toList == v.toList))))=MP.ret (X.d (.v (.bool (bol ρ (.v n)))));rw[hn]
   ·intro n hn;have hn:ZC .seq [dat ρ a,dat ρ b]=some (.v (.bool (bol ρ (.v n)))):=hn;obtain⟨u,v,ea,eb⟩:=Jnx (.inr rfl) hn;rw[ea,eb] at hn;have hn:some (D.v (.bool (u.toList == v.toList)))=some (.v (.bool (bol ρ (.v n)))):=hn;simp only[JrD,D.v.injEq,Value.bool.injEq] at hn;simp only[γX,ea,eb];show MP.ret (X.d (.v (.bool (!(u.toList == v.toList)))))=MP.ret (X.d (.v (.bool (!(bol ρ (.v n))))));rw[hn]
   ·trivial
  ·trivial
 ·trivial
def sun (op:UnOp) (a:SV):SMP SV:=match op,a with
 | .neg,.d (.vi k x)=> .ret (.d (.vi k (.bin .sub k (.z 0) x)))
 | .not,.d (.vb x)=> .ret (.d (.vb (match x with | .tt=> .ff | .ff=> .tt | .not y=>y | x=> .not x)))
 | _,_=> .fail
theorem JpC (op:UnOp) (a:SV):(sun op a).Ok B ρ (γX ρ) (match γX ρ a with
  | .d (.v a)=>KH (JC P (Op.unary op a))
  | _=> .fail):=by
 unfold sun;split
 ·rfl
 ·rename_i x;show KH (JC P (Op.unary .not (.bool (bol ρ x))))=_;have:bol ρ (match x with | .tt=> .ff | .ff=> .tt | .not y=>y | x=> .not x) = !bol ρ x:=by
   split <;> simp[bol,den,V.bool]
  show MP.ret (X.d (.v (.bool !(bol ρ x)))) = .ret (X.d (.v (.bool (bol ρ _))));rw[this]
 ·trivial
def JmV (P:Program) (s d:TypeId) (a:SV):SMP SV:=match a,P.underlying s,P.underlying d with
 | .d (.vi k x),some _,some (.int k')=> .ret (.d (.vi k' (.cv k' x)))
 | _,_,_=> .fail
theorem Jol (s d:TypeId) (a:SV):(JmV P s d a).Ok B ρ (γX ρ) (match γX ρ a with
  | .d (.v a)=>KH (JC P (convert s d a))
  | _=> .fail):=by
 unfold JmV;split
 ·rename_i k x u k' hs hd;show KH (JC P (convert s d (.int k (int ρ x))))=_;have:JC P (convert s d (.int k (int ρ x)))=some (.int k' (k'.wrap (int ρ x))):=by
   unfold convert;rw[QE,Xe hs,JrS,QE,Xe hd,JrS];cases u <;> rfl
  rw[this];rfl
 ·trivial
def Je0 (z:List Value):List E:=z.map fun v=>(Kh v).norm
theorem JcY (z:List Value) (h:z.all (·.oneCell)=true):(Je0 z).map (dat ρ)=z.map fun v=>(D.v v).norm:=by
 unfold Je0;rw[List.map_map];refine Jr0 fun v hv=>?_;show dat ρ (Kh v).norm=_;rw[YU (Jiz (JrR.1 h v hv)),JaX]
theorem Jot (z:List Value):(z.map fun v=>SV.d (Kh v)).map (γX ρ)=z.map fun c=>X.d (.v c):=by
 rw[List.map_map];exact Jr0 fun v _=>by simp only[Function.comp,γX,JaX]
def Jgm (k:Key) (ag:Bool) (sz:Nat) (ks:Kds):Nat→List (Nat×SV)→SMP (List E)
 | _,[]=> .ret []
 | i, (j, x) :: rest =>
   match XX x with
   | some vs=>if vs.length=sz∧j=i∧vs.all Ji0 then(Jgx k ks vs).bind fun ds=>match smk ag ds with
       | some d=>(Jgm k ag sz ks (i+1) rest).bind fun es=> .ret (d::es)
       | none=> .fail
     else .fail
   | none=> .fail
theorem JeG {k:Key} {ag:Bool} {sz:Nat} {ks:Kds} :∀(ps:List (Nat×SV)) (i:Nat),(Jgm k ag sz ks i ps).Ok B ρ (fun l=>l.map (dat ρ)) (Jda k ag sz ks i (ps.map fun p=>(p.1,γX ρ p.2)))
 | [],i=>rfl
 | (j,x)::rest,i=>by
  simp only[Jgm,JrM,Jda];cases hc:XX x with
  | none=>trivial
  | some vs =>
   simp only[KQ hc,JrN];split
   ·rename_i hh;rw[if_pos ⟨hh.1,hh.2.1,Jao hh.2.2 ρ⟩];refine SMP.bind_ok (f:=fun l=>l.map (dat ρ)) (fun ds=>?_) _ _ (JaO k _ vs);cases hm:smk ag ds with
    | none=>trivial
    | some d =>
     simp only[Jdf hm];refine SMP.bind_ok (f:=fun l=>l.map (dat ρ)) (fun es=>?_) _ _ (JeG rest (i+1));rfl
   ·trivial
def U9 (P : Program) (dp : Bool) (key : Key) (t : TypeId) (n : Nat) (ps : List (Nat × SV)) : SMP SV := match JK P t with
  | some e=>match Qm P e,Ys P e,J6 P e with
    | some sz,some ag,some z=>match smk ag (Je0 z) with
      | some zd=>if n*sz≤2 ^ 24∧z.length=sz∧0<sz∧z.all (·.oneCell) then
          if UZ P dp e z&&ps.length == n&&n != 0 then
            .new key (.arr e sz .nil true true) ((Jgm key ag sz (JF P e) 0 ps).bind fun es=> .put key (.arr e sz (JO es) true true) (.ret (.o key (JO es))))
          else(Jgf ag sz (List.replicate n zd) true ps).bind fun es =>
            .new key (.arr e sz (JO es.1) false true) (.ret (.o key (JO es.1)))
        else .fail
      | none=> .fail
    | _,_,_=> .fail
  | none=> .fail
theorem JdL {ag:Bool} {sz:Nat} :∀(ps:List (Nat×SV)) (es:List E) (dp:Bool) {f:List E×Bool→SMP SV} {g:List D×Bool→MP X},
  (∀r:List E×Bool,r.1.length=es.length→(f r).Ok B ρ (γX ρ) (g (fLB ρ r)))→((Jgf ag sz es dp ps).bind f).Ok B ρ (γX ρ) ((Jcg ag sz (es.map (dat ρ)) dp (ps.map fun p=>(p.1,γX ρ p.2))).bind g)
 | [],es,dp,f,g,h=>h (es,dp) rfl
 | (i,x)::rest,es,dp,f,g,h=>by
  simp only[Jgf,JrM,Jcg];cases hc:XX x with
  | none=>trivial
  | some vs =>
   simp only[KQ hc,JrN];split
   ·rename_i hh;rw[if_pos ⟨hh.1,hh.2.1,Jao hh.2.2 ρ⟩];have assocS :∀{α β γ:Type} (p:SMP α) (f:α→SMP β) (g:β→SMP γ),(p.bind f).bind g=p.bind fun a=>(f a).bind g:=by
     intro α β γ p f g
     induction p with
     | ret a=>rfl
     | fail=>rfl
     | get k c ih=>simp only[SMP.bind];congr 1;funext o;exact ih o
     | put k o c ih=>simp only[SMP.bind];rw[ih]
     | new k o c ih=>simp only[SMP.bind];rw[ih]
     | ask i m c ih=>simp only[SMP.bind];congr 1;funext o;exact ih o
    have assoc :∀{α β γ:Type} (p:MP α) (f:α→MP β) (g:β→MP γ),(p.bind f).bind g=p.bind fun a=>(f a).bind g:=by
     intro α β γ p f g
     induction p with
     | ret a=>rfl
     | fail=>rfl
     | get k c ih=>simp only[MP.bind];congr 1;funext o;exact ih o
     | put k o c ih=>simp only[MP.bind];rw[ih]
     | new k o c ih=>simp only[MP.bind];rw[ih]
    rw[assocS,assoc];refine SMP.bind_ok (f:=fLB ρ) (fun ds=>?_) _ _ (U8 vs);cases hm:smk ag ds.1 with
    | none=>trivial
    | some d =>
     simp only[fLB,Jdf hm];have:=JdL (ag:=ag) (sz:=sz) rest (es.set i d) (dp&&ds.2) (f:=f) (g:=g) fun r hr=>h r (by simpa using hr);rw[List.map_set] at this;exact this
   ·trivial
theorem JdH (dp:Bool) (key:Key) (t:TypeId) (n:Nat) (ps:List (Nat×SV)):(U9 P dp key t n ps).Ok B ρ (γX ρ) (match JK P t with
  | some e=>match Qm P e,Ys P e,J6 P e with
   | some sz,some ag,some z=>match D.mk ag (z.map fun v=>(D.v v).norm) with
    | some zd=>if n*sz≤2 ^ 24∧z.length=sz∧0<sz∧z.all (·.oneCell) then
      if UZ P dp e z&&ps.length == n&&n != 0 then
      .new key (.arr e sz [] true true) ((Jda key ag sz (JF P e) 0 (ps.map fun p=>(p.1,γX ρ p.2))).bind fun es =>
       .put key (.arr e sz es true true) (.ret (.o key es.length)))
      else(Jcg ag sz (List.replicate n zd) true (ps.map fun p=>(p.1,γX ρ p.2))).bind fun es =>
       .new key (.arr e sz es.1 false true) (.ret (.o key n))
     else .fail
    | none=> .fail
   | _,_,_=> .fail
  | none=> .fail):=by
 unfold U9;split
 ·rename_i e he;split
  ·rename_i sz ag z h1 h2 h3;cases hz:smk ag (Je0 z) with
   | none=>trivial
   | some zd =>
    simp only;split
    ·rename_i hc;have hmk:=Jdf hz ρ;rw[JcY z hc.2.2.2] at hmk;simp only[hmk];split
     ·refine⟨_,rfl,?_⟩;refine SMP.bind_ok (f:=fun l=>l.map (dat ρ)) (fun es=>?_) _ _ (JeG ps 0);refine⟨_,by rw[γO,Jv],?_⟩;simp only[SMP.Ok,γX,Jv]
     rw[←List.map_replicate];refine JdL ps _ true fun r hr=>?_;refine⟨_,by rw[γO,Jv];rfl,?_⟩;simp only[SMP.Ok,γX,Jv,JrN,hr,List.length_replicate]
    ·trivial
  ·trivial
 ·trivial
def Jl1 (n x:E):E:=match n with
 | .z m=>if 0≤m∧m≤64 then JO (List.replicate m.toNat x) else .rep n x
 | _=> .rep n x
theorem Jb8 (n x:E):lst ρ (Jl1 n x)=List.replicate (int ρ n).toNat (dat ρ x):=by
 unfold Jl1;split
 ·split
  ·rw[Jv,List.map_replicate];rfl
  ·rfl
 ·rfl
def We (P : Program) (dp : Bool) (key : Key) (t : TypeId) (l c : SV) : SMP SV := match JK P t,VQ l,VQ c with
  | some e,some (_,l),some (_,c)=>match Qm P e,Ys P e,J6 P e with
    | some sz,some ag,some z=>match smk ag (Je0 z),Z9 P e with
      | some zd,some m=>if l.same c∧z.length=sz∧0<sz∧z.all (·.oneCell) then
          Kl (.cmp .le (.z 0) l) (Kl (.cmp .le l (.z m)) (.new key (.arr e sz (Jl1 l zd) (UZ P dp e z) true) (.ret (.o key (Jl1 l zd)))))
        else .fail
      | _,_=> .fail
    | _,_,_=> .fail
  | _,_,_=> .fail
theorem Jec (dp:Bool) (key:Key) (t:TypeId) (l c:SV):(We P dp key t l c).Ok B ρ (γX ρ) (match JK P t,Wd (γX ρ l),Wd (γX ρ c) with
  | some e,some l,some c=>match Qm P e,Ys P e,J6 P e with
   | some sz,some ag,some z=>match D.mk ag (z.map fun v=>(D.v v).norm) with
    | some zd=>if 0≤l∧l=c∧Vf P e l.toNat∧z.length=sz∧0<sz∧z.all (·.oneCell) then
      .new key (.arr e sz (List.replicate l.toNat zd) (UZ P dp e z) true) (.ret (.o key l.toNat))
     else .fail
    | none=> .fail
   | _,_,_=> .fail
  | _,_,_=> .fail):=by
 unfold We;split
 ·rename_i e kl l' kc c' he hl hc;rw[YH hl,YH hc,he];simp only;split
  ·rename_i sz ag z h1 h2 h3;split
   ·rename_i zd m hz hm;split
    ·rename_i hcond;have hmk:=Jdf hz ρ;rw[JcY z hcond.2.2.2] at hmk;simp only[hmk];refine Qq fun h0=>Qq fun h4=>?_;rw[Zn,decide_eq_true_eq,WI] at h0 h4;have hlc:int ρ l'=int ρ c':=by unfold int;rw[VH _ _ hcond.1]
     rw[if_pos ⟨h0,hlc,Vz hm (by omega),hcond.2⟩];refine⟨_,by rw[γO,Jb8],?_⟩;simp only[SMP.Ok,γX,Jb8,List.length_replicate]
    ·trivial
   ·trivial
  ·trivial
 ·trivial
def Jne (v:SV):Bool:=match v with
 | .d (.vc (.slice none 0 0))=>true
 | _=>false
theorem Joq {v:SV} (h:Jne v=true):γX ρ v = .d (.v (.slice none 0 0)):=by
 unfold Jne at h;split at h
 ·rfl
 ·cases h
def JcH (P:Program) (key:Key) (t t':TypeId) (a b:SV):SMP SV:=match P.underlying t' with
 | some (.int _) => if Jne a then match JK P t,VQ b with
   | some e,some (_,l)=>match Qm P e,Ys P e,J6 P e with
     | some sz,some ag,some z=>match smk ag (Je0 z),Z9 P e with
       | some zd,some m=>if z.length=sz∧0<sz∧z.all (·.oneCell) then
           Kl (.cmp .lt (.z 0) l) (Kl (.cmp .le l (.z m)) (.new key (.arr e sz (Jl1 l zd) false true) (.ret (.o key (Jl1 l zd)))))
         else .fail
       | _,_=> .fail
     | _,_,_=> .fail
   | _,_=> .fail
   else .fail
 | _=> .fail
theorem Jir {o:Oper} (t t':TypeId) (a b:SV):(JcH P (Jt o) t t' a b).Ok B ρ (γX ρ) (WV P o t t' (γX ρ a) (γX ρ b)):=by
 unfold JcH;split
 ·rename_i kx hkx;split
  ·rename_i ha;split
   ·rename_i e kl l' he hl;unfold WV;rw[Joq ha,hkx];simp only;rw[YH hl,he];simp only;split
    ·rename_i sz ag z h1 h2 h3;split
     ·rename_i zd m hz hm;split
      ·rename_i hcond;have hmk:=Jdf hz ρ;rw[JcY z hcond.2.2] at hmk;rw[h1,h2,h3];simp only[hmk];refine Qq fun h0=>Qq fun h4=>?_;rw[Zn,decide_eq_true_eq] at h4;rw[Jnn,decide_eq_true_eq] at h0;rw[WI] at h0 h4;rw[if_pos ⟨h0,Vz hm (by omega),hcond⟩];refine⟨_,by rw[γO,Jb8],?_⟩;simp only[SMP.Ok,γX,Jb8,List.length_replicate]
      ·trivial
     ·trivial
    ·trivial
   ·trivial
  ·trivial
 ·trivial
def Jm6 (P:Program) (key:Key) (t:TypeId) (x:SV) (lo hi mx:Option SV):SMP SV:=match lo,hi,mx with
 | none,some hv,none=>match VQ hv,JK P t with
  | some (_,h),some e=>if(Qm P e).isSome then match x with
   | .d (.s l)=>Kl (.cmp .le (.z 0) h) (Kl (.cmp .le h (WD l)) (.ret (.d (.s (.take l h)))))
   | .o k l=> .get k fun
    | .arr ty sz l' _ true=>if l.lsame l' then Kl (.cmp .le (.z 0) h) (Kl (.cmp .le h (WD l'))
     (.put k .dead (.new key (.arr ty sz (.take l' h) false true) (.ret (.o key (.take l' h)))))) else .fail
    | _=> .fail
   | .d (.vc (.slice none 0 0))=>match h with
    | .z 0=> .ret (.d (.vc (.slice none 0 0)))
    | _=> .fail
   | _=> .fail
   else .fail
  | _,_=> .fail
 | _,_,_=> .fail
def Jpy (P:Program) (key:Key) (t:TypeId) (x:SV) (lo hi:Option SV) (mx:SV):SMP SV:=match lo,hi with
 | none,some hv=>match VQ hv,VQ mx,JK P t with
  | some (_,h),some (_,q),some e=>if(Qm P e).isSome then match x with
   | .o k l=> .get k fun
    | .arr ty sz l' dp true=>if l.lsame l' then Kl (.cmp .eq h (WD l')) (Kl (.cmp .eq q (WD l'))
     (.put k .dead (.new key (.arr ty sz l' dp true) (.ret (.o key l'))))) else .fail
    | _=> .fail
   | _=> .fail
   else .fail
  | _,_,_=> .fail
 | _,_=> .fail
theorem JnY {o:Oper} (t:TypeId) (x:SV) (lo hi:Option SV) (mx:SV):(Jpy P (Jt o) t x lo hi mx).Ok B ρ (γX ρ) (JkH P o t (γX ρ x) (lo.map (γX ρ)) (hi.map (γX ρ)) (γX ρ mx)):=by
 cases lo with
 | some _=>trivial
 | none =>
 cases hi with
 | none=>trivial
 | some hv =>
 show SMP.Ok B ρ (γX ρ) (match VQ hv,VQ mx,JK P t with
  | some (_,h),some (_,q),some e=>if(Qm P e).isSome then _ else .fail
  | _,_,_=> .fail) _
 cases hh:VQ hv with
 | none=>trivial
 | some kh =>
  obtain⟨kh,h⟩:=kh;cases hq:VQ mx with
  | none=>trivial
  | some kq =>
   obtain⟨kq,q⟩:=kq;cases he:JK P t with
   | none=>trivial
   | some e =>
    simp only;have hix:=YH (ρ:=ρ) hh;have hiq:=YH (ρ:=ρ) hq;split
    ·rename_i hsz;cases x with
     | o k l =>
      simp only[γX,JkH,Option.map_none,JrG,hix,hiq,he];refine⟨_,rfl,fun ob=>?_⟩;cases ob with
      | arr ty sz l' dp rw =>
       cases rw with
       | false=>trivial
       | true =>
        simp only[γO];split
        ·rename_i hl;refine Qq fun h0=>Qq fun h4=>?_;rw[JmH,decide_eq_true_eq,YP] at h0;rw[JmH,decide_eq_true_eq,YP] at h4;rw[if_pos ⟨lL1 hl ρ,h0,h4,hsz⟩];refine⟨_,rfl,_,rfl,?_⟩;show MP.ret _=MP.ret (X.o _ (lst ρ l').length);rw[lL1 hl ρ]
        ·trivial
      | _=>trivial
     | _=>trivial
    ·trivial
theorem JlT {o:Oper} (t:TypeId) (x:SV) (lo hi mx:Option SV):(Jm6 P (Jt o) t x lo hi mx).Ok B ρ (γX ρ) (K6 P o t (γX ρ x) (lo.map (γX ρ)) (hi.map (γX ρ)) (mx.map (γX ρ))):=by
 cases lo with
 | some _=>trivial
 | none =>
 cases hi with
 | none=>trivial
 | some hv =>
 cases mx with
 | some _=>trivial
 | none =>
 show SMP.Ok B ρ (γX ρ) (match VQ hv,JK P t with
  | some (_,h),some e=>if(Qm P e).isSome then _ else .fail
  | _,_=> .fail) _
 cases hh:VQ hv with
 | none=>trivial
 | some kh =>
  obtain⟨kh,h⟩:=kh;cases he:JK P t with
  | none=>trivial
  | some e =>
   simp only;have hix:=YH (ρ:=ρ) hh;split
   ·rename_i hsz;cases x with
    | d e' =>
     cases e' with
     | s l =>
      refine Qq fun h0=>Qq fun h4=>?_;rw[Zn,decide_eq_true_eq,WI] at h0;rw[Zn,decide_eq_true_eq,YP] at h4;show K6 P o t (.d (.s (lst ρ l))) none (some (γX ρ hv)) none=_;simp only[K6,JrG,hix,he];rw[if_pos ⟨h0,h4,hsz⟩];rfl
     | vc v =>
      split <;> rename_i heq <;> try trivial
      all_goals try (cases heq;done)
      cases heq;split
      ·show K6 P o t (.d (.v (.slice none 0 0))) none (some (γX ρ hv)) none=_;simp only[K6,JrG,hix,he];rw[if_pos ⟨rfl,hsz⟩];rfl
      ·trivial
     | _=>trivial
    | o k l =>
     simp only[γX,K6,Option.map_none,JrG,hix,he];refine⟨_,rfl,fun ob=>?_⟩;cases ob with
     | arr ty sz l' dp rw =>
      cases rw with
      | false=>trivial
      | true =>
       simp only[γO];split
       ·rename_i hl;refine Qq fun h0=>Qq fun h4=>?_;rw[Zn,decide_eq_true_eq,WI] at h0;rw[Zn,decide_eq_true_eq,YP] at h4;rw[if_pos ⟨lL1 hl ρ,h0,h4,hsz⟩];refine⟨_,rfl,_,rfl,?_⟩;show MP.ret _=MP.ret (X.o _ ((lst ρ l').take (int ρ h).toNat).length);rw[JrT,Nat.min_eq_left (by omega)]
       ·trivial
     | _=>trivial
    | _=>trivial
   ·trivial
def Wb (P:Program) (t:TypeId) (x:SV) (i:Nat):SMP SV:=match Zr P t i with
 | some (off,n)=>if n=0 then .fail else match x with
  | .p k off'=> .ret (.p k (off'+off))
  | .e k l j off'=> .get k fun
   | .arr _ _ l' _ _=>if l.lsame l' then .ret (.e k l j (off'+off)) else .fail
   | _=> .fail
  | .d (.q l)=>match l.list with
   | some cs=>if off<cs.length then .ret (.d (.q (JO (cs.drop off)))) else .fail
   | none=> .fail
  | .d (.da a)=>match Jcl P 8 t with
   | some as=>if off<as.length then .ask (fun n=> .get (.da a) (.q as) n) as.length fun n=> .ret (.d (.q (JO ((Ju as n).drop off)))) else .fail
   | none=> .fail
  | _=> .fail
 | none=> .fail
theorem Jd1 (t:TypeId) (x:SV) (i:Nat):(Wb P t x i).Ok B ρ (γX ρ) (match Zr P t i with
  | some (off,n)=>if n=0 then .fail else match γX ρ x with
   | .p k off'=> .ret (.p k (off'+off))
   | .e k n' j off'=> .get k fun
    | .arr _ _ es _ _=>if n'=es.length then .ret (.e k n' j (off'+off)) else .fail
    | _=> .fail
   | .d (.q cs)=>if off<cs.length then .ret (.d (.q (cs.drop off))) else .fail
   | _=> .fail
  | none=> .fail):=by
 unfold Wb;cases hf:Zr P t i with
 | none=>trivial
 | some p =>
  obtain⟨off,n⟩:=p;simp only;split
  ·trivial
  ·rename_i hn;cases x with
   | p k off'=>rfl
   | e k l j off' =>
    refine⟨_,rfl,fun o=>?_⟩;cases o with
    | arr ty sz l' dp rw =>
     simp only[γO];split
     ·rename_i hl;rw[if_pos (lL1 hl ρ)];rfl
     ·trivial
    | _=>trivial
   | d e =>
    cases e with
    | q l =>
     simp only;split
     ·rename_i cs hl;split
      ·rename_i hlt;show (if off<(lst ρ l).length then MP.ret (X.d (.q ((lst ρ l).drop off))) else .fail)=_;rw[XP ρ _ _ hl,if_pos (by simpa using hlt)];show _=MP.ret (X.d (.q (lst ρ (JO (cs.drop off)))));rw[Jv,List.map_drop]
      ·trivial
     ·trivial
    | da a =>
     simp only;split
     ·rename_i as has;split
      ·rename_i hlt;intro n' hn';simp only[I.holds,Sh.expr] at hn';simp only[γX,hn'];show (if off<(lst ρ (JO (Ju as n'))).length then MP.ret (X.d (.q ((lst ρ (JO (Ju as n'))).drop off))) else .fail)=_;rw[Jv,if_pos (by simpa[QB] using hlt)];show _=MP.ret (X.d (.q (lst ρ (JO ((Ju as n').drop off)))));rw[Jv,List.map_drop]
      ·trivial
     ·trivial
    | _=>trivial
   | _=>trivial
def Wg (P:Program) (t:TypeId) (x i:SV):SMP SV:=match JK P t,VQ i with
 | some e,some (_,j)=>match Qm P e,x with
  | some sz,.d (.s l)=>match Jgh P e with
   | some (.q _)=> .fail
   | some sh=>if sh.size=sz then .ask (fun n=> .idx l j sh n) sh.size fun n=> .ret (.d (.q (JO (sh.cells n)))) else .fail
   | none=> .fail
  | some sz,.o k l=>Kl (.cmp .le (.z 0) j) (Kl (.cmp .lt j (WD l)) (.get k fun
   | .arr ty sz' l' _ _=>if l.lsame l'∧ty=e∧sz'=sz then .ret (.e k l j 0) else if ty=e∧sz'=sz then Kl (.cmp .eq (.len l) (.len l')) (.ret (.e k l' j 0)) else .fail
   | _=> .fail))
  | _,_=> .fail
 | _,_=> .fail
theorem Jfm (sh:Sh) (hq :∀as,sh≠ .q as) (n:Nat):(sh.cells n).length=sh.size:=by
 cases sh with
 | one a=>rfl
 | g as=>exact QB as n
 | q as=>exact absurd rfl (hq as)
theorem JdW (t:TypeId) (x i:SV):(Wg P t x i).Ok B ρ (γX ρ) (match JK P t,Wd (γX ρ i) with
  | some e,some j=>match Qm P e,γX ρ x with
   | some sz,.d (.s es)=>if 0≤j then match es[j.toNat]? with
     | some e=>if e.cells.length=sz then .ret (.d (.q e.cells)) else .fail
     | none=> .fail
    else .fail
   | some sz,.o k n=>if 0≤j∧j<n then .get k fun
     | .arr ty sz' es _ _=>if n=es.length∧ty=e∧sz'=sz then .ret (.e k n j.toNat 0) else .fail
     | _=> .fail
    else .fail
   | _,_=> .fail
  | _,_=> .fail):=by
 unfold Wg;split
 ·rename_i e kj j he hj;rw[YH hj,he];simp only;cases hsz:Qm P e with
  | none=>trivial
  | some sz =>
   cases x with
   | d ex =>
    cases ex with
    | s l =>
     simp only;cases hs:Jgh P e with
     | none=>trivial
     | some sh =>
      have key :∀hq :∀as,sh≠ .q as,SMP.Ok B ρ (γX ρ) (if sh.size=sz then .ask (fun n=> .idx l j sh n) sh.size fun n=> .ret (.d (.q (JO (sh.cells n)))) else .fail)
        (if 0≤int ρ j then match (lst ρ l)[(int ρ j).toNat]? with
         | some e=>if e.cells.length=sz then .ret (X.d (.q e.cells)) else .fail
         | none=> .fail
        else .fail):=by
       intro hq;split
       ·rename_i hsize;intro n hn;obtain⟨h0,h1⟩:=hn;rw[if_pos h0,h1];simp only[Jcv hq,JrN,Jfm sh hq,hsize,if_true,SMP.Ok,γX];show _=MP.ret (X.d (.q (lst ρ (JO (sh.cells n)))));rw[Jv]
       ·trivial
      cases sh with
      | q as=>trivial
      | one a=>exact key (fun as h=>by cases h)
      | g as=>exact key (fun as h=>by cases h)
    | _=>trivial
   | o k l =>
    refine Qq fun h0=>Qq fun h1=>?_;rw[Zn,decide_eq_true_eq,WI] at h0;rw[Jnn,decide_eq_true_eq,YP] at h1;simp only[γX];rw[if_pos ⟨h0,h1⟩];refine⟨_,rfl,fun o=>?_⟩;cases o with
    | arr ty sz' l' dp rw =>
     simp only[γO];split
     ·rename_i hc;rw[if_pos ⟨lL1 hc.1 ρ,hc.2⟩];rfl
     ·split
      ·rename_i hc;refine Qq fun hl=>?_;have hl:decide (((lst ρ l).length:Int)=((lst ρ l').length:Int))=true:=hl;have hl:(lst ρ l).length=(lst ρ l').length:=by
        have:((lst ρ l).length:Int)=((lst ρ l').length:Int):=by simpa using hl
        omega
       rw[if_pos ⟨hl,hc⟩];simp only[SMP.Ok,γX,hl]
      ·trivial
    | _=>trivial
   | _=>trivial
 ·trivial
def Jjd (P:Program) (t:TypeId) (x:SV) (i:Nat):SMP SV:=match Zr P t i,UN P t i,x with
 | some (off,n),some true,.g cs=> .ret (.g ((cs.drop off).take n))
 | some (off,_),some false,.g cs=>match cs[off]? with
  | some c=> .ret c
  | none=> .fail
 | _,_,_=> .fail
theorem JkR (t:TypeId) (x:SV) (i:Nat):(Jjd P t x i).Ok B ρ (γX ρ) (match Zr P t i,UN P t i,γX ρ x with
  | some (off,n),some true,.g cs=> .ret (.g ((cs.drop off).take n))
  | some (off,_),some false,.g cs=>match cs[off]? with
   | some c=> .ret c
   | none=> .fail
  | _,_,_=> .fail):=by
 unfold Jjd;split
 ·rename_i off n cs h1 h2;rw[h1,h2];simp only[γX,Jr,SMP.Ok,List.map_take,List.map_drop]
 ·rename_i off n cs h1 h2;rw[h1,h2];simp only[γX,Jr,JrZ];cases hc:cs[off]? with
  | none=>trivial
  | some c=>rfl
 ·trivial
def JfY:SV→SMP (E×Bool)
 | .d (.s l)=> .ret (l,false)
 | .d (.vc (.slice none 0 0))=> .ret (.nil,true)
 | .o k l=> .get k fun
  | .arr _ _ l' dp rw=>if l.lsame l'∧(dp&&rw)=false then .ret (l',false) else .fail
  | _=> .fail
 | _=> .fail
def fEB (ρ:Env) (p:E×Bool):List D×Bool:=(lst ρ p.1,p.2)
theorem JjP (v:SV):(JfY v).Ok B ρ (fEB ρ) (Jgy (γX ρ v)):=by
 unfold JfY;split
 ·rfl
 ·rfl
 ·refine⟨_,rfl,fun o=>?_⟩;cases o with
  | arr ty sz l' dp rw =>
   simp only[γO];split
   ·rename_i h;rw[if_pos ⟨lL1 h.1 ρ,by simp[h.2]⟩];rfl
   ·trivial
  | _=>trivial
 ·trivial
def ZG (P : Program) (key : Key) (t : TypeId) (a b : SV) : SMP SV := match JK P t with
  | none=> .fail
  | some e => match Qm P e,Z9 P e with
    | some sz,some m=>if 0<sz∧(J6 P e).map (·.length)=some sz then(JfY b).bind fun f=>Kl (.cmp .le (WD f.1) (.z m)) (Jov sz f.1 (match a with
        | .d (.vc (.slice none 0 0))=>match f.1 with
          | .cons x l=> .new key (.arr e sz (.cons x l) false true) (.ret (.o key (.cons x l)))
          | _=> .fail
        | .o k l=> .get k fun
          | .arr ty sz' l' false true=>if l.lsame l'∧ty=e∧sz'=sz then
              Kl (.cmp .le (WD (.app l' f.1)) (.z m)) (.put k (.arr e sz (.app l' f.1) false true) (.ret (.o k (.app l' f.1))))
            else .fail
          | _=> .fail
        | _=> .fail))
      else .fail
    | _,_=> .fail
def Jce (P:Program) (key:Key) (t:TypeId) (a b:SV) (k j:Key) (l l2:E) (o1 o2:Je):SMP SV:=match o1,o2 with
 | .arr ty sz l' true true,.arr ty' sz' f true true=>match JK P t with
  | some e=>match Z9 P e,f with
   | some m,.cons x r=>if l.lsame l'∧l2.lsame (.cons x r)∧ty=e∧ty'=e∧sz'=sz∧Qm P e=some sz∧(J6 P e).map (·.length)=some sz then
     Kl (.cmp .le (WD (.app l' (.cons x r))) (.z m)) (.put j .dead (.put k (.arr e sz (.app l' (.cons x r)) true true) (.ret (.o k (.app l' (.cons x r))))))
    else .fail
   | _,_=> .fail
  | none=> .fail
 | _,_=>ZG P key t a b
def Jcx (P:Program) (key:Key) (t:TypeId) (a b:SV) (j:Key) (l2:E) (o2:Je):SMP SV:=match o2 with
 | .arr ty' sz' f true true=>match JK P t with
  | some e=>match Z9 P e,f with
   | some m,.cons x r=>if l2.lsame (.cons x r)∧ty'=e∧Qm P e=some sz'∧(J6 P e).map (·.length)=some sz' then
     Kl (.cmp .le (WD (.cons x r)) (.z m)) (.new key (.arr e sz' .nil true true) (.put j .dead (.put key (.arr e sz' (.cons x r) true true) (.ret (.o key (.cons x r))))))
    else .fail
   | _,_=> .fail
  | none=> .fail
 | _=>ZG P key t a b
def JgD (P:Program) (dp:Bool) (key:Key) (t:TypeId) (a b:SV):SMP SV:=match a,b with
 | .o k l,.o j l2=>if k=j then ZG P key t a b else .get k fun o1=> .get j fun o2=>Jce P key t a b k j l l2 o1 o2
 | .d (.vc (.slice none 0 0)),.o j l2=>if dp=true then .get j fun o2=>Jcx P key t a b j l2 o2 else ZG P key t a b
 | .d _,.o _ _=> .fail
 | _,_=>ZG P key t a b
end
end Go.Tm
end
section
namespace Go.Tm
open Go.IntKind (i64)
section
variable {B:Tb} {ρ:Env} {sg:FuncId→Option Sig} {P:Program} {G:JQ}
theorem UR {o:Oper} (t:TypeId) (a b:SV):(ZG P (Jt o) t a b).Ok B ρ (γX ρ) (Xp P o t (γX ρ a) (γX ρ b)):=by
 unfold ZG Xp;cases he:JK P t with
 | none=>trivial
 | some e =>
  simp only;cases hsz:Qm P e with
  | none=>trivial
  | some sz =>
   cases hm:Z9 P e with
   | none=>trivial
   | some m =>
    simp only;split
    ·rename_i hc;refine SMP.bind_ok (f:=fEB ρ) (fun f=>?_) _ _ (JjP b);obtain⟨fl,fb⟩:=f;refine Qq fun h1=>Joo fun h2=>?_;rw[Zn,decide_eq_true_eq,YP,WI] at h1;have h1:((lst ρ fl).length:Int)≤m:=h1;have hcond:Vf P e (fEB ρ (fl,fb)).1.length=true∧XZ sz (fEB ρ (fl,fb)).1=true∧0<sz∧(J6 P e).map (·.length)=some sz :=
      ⟨Vz hm (by show (lst ρ fl).length≤m;omega),h2,hc.1,hc.2⟩
     rw[if_pos hcond];split
     ·split
      ·rename_i x l hfl;have hfl:fl = .cons x l:=hfl;subst hfl;have hne : ¬(fEB ρ (E.cons x l,fb)).1=[]:=by
        show ¬(dat ρ x::lst ρ l)=[];simp
       show SMP.Ok B ρ (γX ρ) _ (if(fEB ρ (E.cons x l,fb)).1=[] then _ else _);rw[if_neg hne];exact⟨_,rfl,rfl⟩
      ·trivial
     ·rename_i k l;refine⟨_,rfl,fun ob=>?_⟩;cases ob with
      | arr ty sz' l' dp rw =>
       cases rw with
       | false=>cases dp <;> trivial
       | true =>
        cases dp with
        | true=>trivial
        | false =>
         simp only[γO];split
         ·rename_i hh;refine Qq fun h3=>?_;rw[Zn,decide_eq_true_eq,YP,WI] at h3;have h3:((lst ρ (.app l' fl)).length:Int)≤m:=h3;have hlen:(lst ρ (.app l' fl)).length=(lst ρ l').length+(lst ρ fl).length:=by
           show (lst ρ l'++lst ρ fl).length=_;simp
          have hcond2:(lst ρ l).length=(lst ρ l').length∧ty=e∧sz'=sz∧Vf P e ((lst ρ l).length+(fEB ρ (fl,fb)).1.length)=true :=
           ⟨lL1 hh.1 ρ,hh.2.1,hh.2.2,by rw[lL1 hh.1 ρ];exact Vz hm (by show (lst ρ l').length+(lst ρ fl).length≤m;omega)⟩
          rw[if_pos hcond2];refine⟨_,rfl,?_⟩;show MP.ret (X.o k ((lst ρ l).length+(lst ρ fl).length))=_;simp only[SMP.Ok,γX,hlen,lL1 hh.1 ρ]
         ·trivial
      | _=>trivial
     ·trivial
    ·trivial
theorem Jho {o:Oper} (t:TypeId) (a b:SV) (k j:Key) (l l2:E) (o1 o2:Je):(Jce P (Jt o) t a b k j l l2 o1 o2).Ok B ρ (γX ρ) (match γO ρ o1,γO ρ o2 with
  | .arr ty sz es true true,.arr ty' sz' fs true true=>match JK P t with
   | some e=>if(lst ρ l).length=es.length∧(lst ρ l2).length=fs.length∧ty=e∧ty'=e∧sz'=sz∧Qm P e=some sz∧fs≠[]∧Vf P e ((lst ρ l).length+(lst ρ l2).length)∧(J6 P e).map (·.length)=some sz then
     .put j .dead (.put k (.arr e sz (es++fs) true true) (.ret (.o k ((lst ρ l).length+(lst ρ l2).length))))
    else .fail
   | none=> .fail
  | _,_=>Xp P o t (γX ρ a) (γX ρ b)):=by
 have h0:=UR (B:=B) (ρ:=ρ) (P:=P) (o:=o) t a b;cases o1 with
 | arr ty sz l' dp rw=>cases o2 with
  | arr ty' sz' f dp' rw' =>
   cases dp <;> cases rw <;> cases dp' <;> cases rw' <;> first | exact h0 | skip
   simp only[γO,Jce];cases he:JK P t with
   | none=>trivial
   | some e =>
    simp only;split
    ·rename_i m x r hm;split
     ·rename_i hc;refine Qq fun h3=>?_;rw[Zn,decide_eq_true_eq,YP,WI] at h3;have h3:((lst ρ (.app l' (.cons x r))).length:Int)≤m:=h3;have hlen:(lst ρ (.app l' (.cons x r))).length=(lst ρ l').length+(lst ρ (.cons x r)).length:=by
       show (lst ρ l'++lst ρ (.cons x r)).length=_;simp
      have hl1:=lL1 hc.1 ρ;have hl2:=lL1 hc.2.1 ρ;have hne:lst ρ (.cons x r)≠[]:=by
       show dat ρ x::lst ρ r≠[];simp
      rw[if_pos ⟨hl1,hl2,hc.2.2.1,hc.2.2.2.1,hc.2.2.2.2.1,hc.2.2.2.2.2.1,hne,Vz hm (by rw[hl1,hl2];omega),hc.2.2.2.2.2.2⟩];refine⟨_,rfl,⟨_,rfl,?_⟩⟩;simp only[SMP.Ok,γX,hlen,hl1,hl2]
     ·trivial
    ·trivial
  | _=>cases dp <;> cases rw <;> exact h0
 | _=>exact h0
theorem Jis {o:Oper} (t:TypeId) (a b:SV) (j:Key) (l2:E) (o2:Je):(Jcx P (Jt o) t a b j l2 o2).Ok B ρ (γX ρ) (match γO ρ o2 with
  | .arr ty' sz' fs true true=>match JK P t with
   | some e=>if(lst ρ l2).length=fs.length∧ty'=e∧Qm P e=some sz'∧fs≠[]∧Vf P e (lst ρ l2).length∧(J6 P e).map (·.length)=some sz' then
     .new (Jt o) (.arr e sz' [] true true) (.put j .dead (.put (Jt o) (.arr e sz' fs true true) (.ret (.o (Jt o) (lst ρ l2).length))))
    else .fail
   | none=> .fail
  | _=>Xp P o t (γX ρ a) (γX ρ b)):=by
 have h0:=UR (B:=B) (ρ:=ρ) (P:=P) (o:=o) t a b;cases o2 with
 | arr ty' sz' f dp' rw' =>
  cases dp' <;> cases rw' <;> first | exact h0 | skip
  simp only[γO,Jcx];cases he:JK P t with
  | none=>trivial
  | some e =>
   simp only;split
   ·rename_i m x r hm;split
    ·rename_i hc;refine Qq fun h3=>?_;rw[Zn,decide_eq_true_eq,YP,WI] at h3;have h3:((lst ρ (.cons x r)).length:Int)≤m:=h3;have hl2:=lL1 hc.1 ρ;have hne:lst ρ (.cons x r)≠[]:=by
      show dat ρ x::lst ρ r≠[];simp
     rw[if_pos ⟨hl2,hc.2.1,hc.2.2.1,hne,Vz hm (by rw[hl2];omega),hc.2.2.2⟩];refine⟨_,rfl,⟨_,rfl,⟨_,rfl,?_⟩⟩⟩;simp only[SMP.Ok,γX,hl2]
    ·trivial
   ·trivial
 | _=>exact h0
theorem JiJ {o:Oper} (dp:Bool) (t:TypeId) (a b:SV):(JgD P dp (Jt o) t a b).Ok B ρ (γX ρ) (Jb1 P dp o t (γX ρ a) (γX ρ b)):=by
 have h0:=UR (B:=B) (ρ:=ρ) (P:=P) (o:=o) t a b;unfold JgD;split
 ·rename_i k l j l2;show SMP.Ok B ρ (γX ρ) _ (if k=j then _ else _);split
  ·exact h0
  ·refine⟨_,rfl,fun o1=>⟨_,rfl,fun o2=>?_⟩⟩;exact Jho t (.o k l) (.o j l2) k j l l2 o1 o2
 ·rename_i j l2;show SMP.Ok B ρ (γX ρ) _ (if dp=true then _ else _);split
  ·refine⟨_,rfl,fun o2=>?_⟩;exact Jis t (.d (.vc (.slice none 0 0))) (.o j l2) j l2 o2
  ·exact h0
 ·trivial
 ·rename_i h1 _ h2;unfold Jb1;split
  ·rename_i e1 e2;cases a <;> simp only[γX] at e1 <;> try cases e1
   cases b <;> simp only[γX] at e2 <;> try cases e2
   exact(h1 _ _ _ _ rfl rfl).elim
  ·rename_i e1 e2;cases a <;> simp only[γX] at e1 <;> try cases e1
   cases b <;> simp only[γX] at e2 <;> try cases e2
   exact(h2 _ _ _ rfl rfl).elim
  ·exact h0
def Jek:SV→SMP E
 | .d (.s l)=> .ret l
 | .d (.vc (.slice none 0 0))=> .ret .nil
 | .o k l=> .get k fun
  | .arr _ _ l' _ _=>if l.lsame l' then .ret l' else .fail
  | _=> .fail
 | _=> .fail
theorem Jnq (v:SV):(Jek v).Ok B ρ (lst ρ) (JcI (γX ρ v)):=by
 unfold Jek;split
 ·rfl
 ·rfl
 ·refine⟨_,rfl,fun o=>?_⟩;cases o with
  | arr ty sz l' dp rw =>
   simp only[γO];split
   ·rename_i h;rw[if_pos (lL1 h ρ)];rfl
   ·trivial
  | _=>trivial
 ·trivial
def JhT (P:Program) (sg:FuncId→Option Sig) (dp bo:Bool) (o:Oper) (sl:SSl):SMP SV :=
 let r:=sop sl
 match o.op with
 | .move x | .assign x=> .ret (r x)
 | .pick c a b=>match r c with
  | .d (.vb e)=>match e.known with
   | some true=> .ret (r a)
   | some false=> .ret (r b)
   | none=> .fail
  | _=> .fail
 | .alloc t=>match J6 P t with
  | some z=>if z.all (·.oneCell) then .new (Jt o) (.box (z.map fun v=> .d (Kh v))) (.ret (.p (Jt o) 0)) else .fail
  | none=> .fail
 | .box _ x=>match XX (r x) with
  | some cs=> .new (Jt o) (.box cs) (.ret (.p (Jt o) 0))
  | none=> .fail
 | .build t ps=>match J6 P t,JgC P t with
  | some z,some pl=>if z.all (·.oneCell) then match JcS pl (z.map fun v=> .d (Kh v)) (ps.toList.map fun p=>(p.1,r p.2)) with
   | some cs=> .ret (.g cs)
   | none=> .fail
   else .fail
  | _,_=> .fail
 | .buildSlice t n ps=>U9 P dp (Jt o) t n (ps.toList.map fun p=>(p.1,r p.2))
 | .load t a=>Jgl P t (r a)
 | .store t a x=>JgI P t (r a) (r x)
 | .nilCheck x=>match r x with
  | .p k off=> .ret (.p k off)
  | .d (.q l)=> .ret (.d (.q l))
  | .f fn cs=> .ret (.f fn cs)
  | .d (.fn f l)=> .ret (.d (.fn f l))
  | _=> .fail
 | .binOp op t x y _=>JpT P op t (r x) (r y)
 | .unOp op _ x=>sun op (r x)
 | .convert s d x=>JmV P s d (r x)
 | .makeFunc (.func f) fs cs=>if fs.isEmpty then .ret (.f f (cs.toList.map r)) else .fail
 | .makeSlice t l c=>We P dp (Jt o) t (r l) (r c)
 | .slice t x lo hi mx=>match mx with
  | none=>Jm6 P (Jt o) t (r x) (lo.map r) (hi.map r) none
  | some q=>Jpy P (Jt o) t (r x) (lo.map r) (hi.map r) (r q)
 | .fieldAddr t x i=>Wb P t (r x) i
 | .field t x i=>Jjd P t (r x) i
 | .indexAddr t x i=>Wg P t (r x) (r i)
 | .extract x i=>match r x with
  | .t cs=>match cs[i]? with
   | some c=> .ret c
   | none=> .fail
  | _=> .fail
 | .call c=>match c.callee with
  | .builtin .len=>match c.args.toList,c.argTypes.toList with
   | [p],[t]=>match JK P t with
    | some _=>(Jek (r p)).bind fun l=> .ret (.d (.vi .i64 (WD l)))
    | none=> .fail
   | _,_=> .fail
  | .builtin .append=>match c.args.toList,c.argTypes.toList with
   | [p,q],[t,t']=>if t'=t then JgD P dp (Jt o) t (r p) (r q) else JcH P (Jt o) t t' (r p) (r q)
   | _,_=> .fail
  | .builtin .cap=>match c.args.toList,c.argTypes.toList with
   | [p],[t]=>if JiH (r p) then match JK P t with
    | some _=> .ret (.d (.vi .i64 (.z 0)))
    | none=> .fail
    else .fail
   | _,_=> .fail
  | .value f=>match r f with
   | .f fn cs=>JiZ sg dp bo (Jt o) fn (c.args.toList.map r++cs)
   | .d (.da n)=>Jmz n (c.args.toList.map r) (sh1 P o.type)
   | _=> .fail
  | _=> .fail
 | _=> .fail
theorem JeJ (ρ:Env) (sl:SSl) (ps:List (Nat×Operand)):(ps.map fun p=>(p.1,opX (γs ρ sl) p.2))=(ps.map fun p=>(p.1,sop sl p.2)).map fun p=>(p.1,γX ρ p.2):=by
 rw[List.map_map];exact Jr0 fun p _=>by simp only[Function.comp,Qa]
theorem Jkj (ρ:Env) (sl:SSl) (l:List Operand):l.map (opX (γs ρ sl))=(l.map (sop sl)).map (γX ρ):=by
 rw[List.map_map];exact Jr0 fun p _=>by simp only[Function.comp,Qa]
theorem Jpf (hB:BOk sg B) (o:Oper) (sl:SSl):(JhT P sg (G.dp o) (G.bo o) o sl).Ok B ρ (γX ρ) (opM P (QJ sg B) G (γs ρ sl) o):=by
 unfold JhT opM;cases o.op with
 | move x=>simp only[Qa];rfl
 | assign x=>simp only[Qa];rfl
 | pick c a b =>
  simp only[Qa];split
  ·rename_i e h;split
   ·rename_i hk;rw[h];have:=Zw (ρ:=ρ) hk;rw[show γX ρ (.d (.vb e)) = .d (.v (.bool (bol ρ e))) from rfl,this];rfl
   ·rename_i hk;rw[h];have:=Zw (ρ:=ρ) hk;rw[show γX ρ (.d (.vb e)) = .d (.v (.bool (bol ρ e))) from rfl,this];rfl
   ·trivial
  ·trivial
 | alloc t =>
  simp only;split
  ·rename_i z hz;split
   ·rename_i h;rw[hz];simp only[h,if_true];refine⟨_,by rw[γO,Jr,Jot];rfl,rfl⟩
   ·trivial
  ·trivial
 | box t x =>
  simp only[Qa];split
  ·rename_i cs h;rw[KQ h];exact⟨_,by rw[γO,Jr];rfl,rfl⟩
  ·trivial
 | build t ps =>
  simp only[JeJ];split
  ·rename_i z pl hz hpl;split
   ·rename_i h;split
    ·rename_i cs hcs;have:=JeN (ρ:=ρ) _ _ _ hcs;rw[Jot] at this;rw[hz,hpl];simp only[h,if_true];rw[this];simp only[SMP.Ok,γX,Jr]
    ·trivial
   ·trivial
  ·trivial
 | buildSlice t n ps=>simp only[JeJ];have h:=JdH (B:=B) (ρ:=ρ) (P:=P) (G.dp o) (Jt o) t n (ps.toList.map fun p=>(p.1,sop sl p.2));rw[JrN] at h;exact h
 | load t a=>simp only[Qa];exact JeI t _
 | store t a x=>simp only[Qa];exact Jjj t _ _
 | nilCheck x =>
  simp only[Qa];split
  ·rename_i h;rw[h];rfl
  ·rename_i h;rw[h];rfl
  ·rename_i h;rw[h];rfl
  ·rename_i h;rw[h];rfl
  ·trivial
 | binOp op t x y t'=>simp only[Qa];exact JoB op t x y _ _
 | unOp op t x=>simp only[Qa];exact JpC op _
 | convert s d x=>simp only[Qa];exact Jol s d _
 | makeFunc fn fs cs =>
  cases fn with
  | func f =>
   simp only;split
   ·rename_i h;simp only[Jkj,SMP.Ok,γX,Jr]
   ·trivial
  | _=>trivial
 | makeSlice t l c=>simp only[Qa];exact Jec _ _ t _ _
 | slice t x lo hi mx =>
  simp only[Qa];have e :∀q:Option Operand,q.map (opX (γs ρ sl))=(q.map (sop sl)).map (γX ρ):=fun q=>by cases q <;> simp[Qa]
  cases mx with
  | none=>simp only[];rw[e,e];exact JlT t _ _ _ none
  | some q=>simp only[];rw[e,e];exact JnY t _ _ _ _
 | fieldAddr t x i=>simp only[Qa];exact Jd1 t _ i
 | field t x i=>simp only[Qa];exact JkR t _ i
 | indexAddr t x i=>simp only[Qa];exact JdW t _ _
 | extract x i =>
  simp only[Qa];split
  ·rename_i cs h;rw[h];simp only[γX,Jr,JrZ];cases hc:cs[i]? with
   | none=>trivial
   | some c=>rfl
  ·trivial
 | call c =>
  simp only;cases c.callee with
  | builtin b =>
   cases b with
   | len =>
    simp only[Qa];split
    ·rename_i p t hp ht;rw[hp,ht];simp only;split
     ·rename_i e he;have key:((Jek (sop sl p)).bind fun l=> .ret (.d (.vi .i64 (WD l)))).Ok B ρ (γX ρ) ((JcI (γX ρ (sop sl p))).bind fun es=> .ret (.d (.v (goInt es.length)))):=by
       refine SMP.bind_ok (f:=lst ρ) (fun l=>?_) _ _ (Jnq _);show MP.ret (X.d (.v (.int .i64 ((lst ρ l).length:Int))))=MP.ret (X.d (.v (.int .i64 (int ρ (WD l)))));rw[YP]
      by_cases hs : ∃ s,γX ρ (sop sl p) = .d (.v (.string s))
      ·obtain⟨s,hs⟩:=hs;have:Jek (sop sl p) = .fail:=by
        unfold Jek;split
        ·rename_i h;rw[h] at hs;exact absurd hs (by simp[γX,dat,den,V.dat])
        ·rename_i h;rw[h] at hs;exact absurd hs (by simp[γX,dat,den,V.dat])
        ·rename_i h;rw[h] at hs;exact absurd hs (by simp[γX])
        ·rfl
       rw[this];trivial
      ·split
       ·rename_i s h;exact absurd ⟨_,h⟩ hs
       ·rw[he];exact key
     ·trivial
    ·trivial
   | append =>
    simp only[Qa];split
    ·rename_i p q t t' hp ht;rw[hp,ht];simp only;split
     ·rename_i htt;exact JiJ _ t _ _
     ·exact Jir t _ _ _
    ·trivial
   | cap =>
    simp only[Qa];split
    ·rename_i p t hp ht;rw[hp,ht];simp only;split
     ·rename_i hn;split
      ·rename_i e he;have hv:sop sl p = .d (.vc (.slice none 0 0)):=by
        revert hn
        unfold JiH;split
        ·rename_i h;intro _;exact h
        ·intro h;cases h
       rw[hv,he];rfl
      ·trivial
     ·trivial
    ·trivial
   | _=>trivial
  | value f =>
   simp only[Qa,Jkj];split
   ·rename_i fn cs h;rw[h];simp only[γX];rw[Jr,←List.map_append];exact JlB hB o fn _
   ·rename_i n h;rw[h];exact JmD hB o n _ _
   ·trivial
  | invoke _ _=>trivial
 | _=>trivial
end
end Go.Tm
end
section
namespace Go.Tm
open Go.IntKind (i64)
structure SSt where
 sl:SSl
 m:XE
inductive Wt where
 | yes | no | fork (d:Tmp) (b:E) (want:Bool) | bad
def Jp0:Option SV→Option E
 | some (.d (.vb b))=>some b
 | _=>none
def JjE:Option SV→Bool
 | some (.t [])=>true
 | _=>false
def Zc (ops : Array Oper) (sl : SSl) (o : Oper) : Wt := match o.guard with
  | none=> .yes
  | some (j,want)=>match (ops[j]?).bind (·.dst) with
    | some d=>match Jp0 (sl.lookup d) with
      | some b=>match b.known with
        | some t=>if t == want then .yes else .no
        | none=> .fork d b want
      | none=>if JjE (sl.lookup d) then .no else .bad
    | none=> .bad
def JhB (sl:SSl) (dst:Option Tmp) (v:SV):SSl:=match dst with
 | some d=>(d,v)::sl
 | none=>sl
def V1:List I→R→R
 | [],r=>r
 | i::is,r=> .i i (V1 is r)
def KI (t:Bool):E:=if t then .tt else .ff
abbrev Trs:=List (List (Key×Bool))
def Yt (P : Program) (sg : FuncId → Option Sig) (dp bo : Oper → Bool) (ops : Array Oper) : List Nat → SSl → XE → Nat → Trs → (SSl → XE → Nat → Trs → Option R) → Option R
  | [],sl,m,n,trs,k=>k sl m n trs.reverse
  | i::l,sl,m,n,trs,k=>match ops[i]? with
    | none=>none
    | some o =>
      let go:=fun(sl:SSl) (b:Bool)=>if b then match (JhT P sg (dp o) (bo o) o sl).run m n with
          | some r=>match Yt P sg dp bo ops l (JhB sl o.dst r.val) r.m r.n (r.tr::trs) k with
            | some R=>some (V1 r.is R)
            | none=>none
          | none=>none
        else Yt P sg dp bo ops l (JhB sl o.dst (.t [])) m n ([]::trs) k
      match Zc ops sl o with
      | .yes=>go sl true
      | .no=>go sl false
      | .fork d b want=>match go ((d,.d (.vb .tt))::sl) want,go ((d,.d (.vb .ff))::sl) (!want) with
        | some x,some y=>some (.ite b x y)
        | _,_=>none
      | .bad=>none
section
variable {B:Tb} {ρ:Env} {sg:FuncId→Option Sig} {P:Program} {G:JQ} {ops:Array Oper} {N:Nat}
theorem Kp :∀(is:List I) (r:R) (o:Oc),Run B N (V1 is r) ρ o→(∀i∈is,i.holds B ρ)∧Run B N r ρ o
 | [],r,o,h=>⟨fun i hi=>by simp at hi,h⟩
 | i::is,r,o,h=>by
  obtain⟨h1,h2⟩:=h;obtain⟨h3,h4⟩:=Kp is r o h2;exact⟨fun j hj=>by
   rcases JrX.1 hj with rfl | hj
   ·exact h1
   ·exact h3 j hj,h4⟩
theorem Jkl (sl:SSl) (dst:Option Tmp) (v:SV):UL (γs ρ sl) dst (γX ρ v)=γs ρ (JhB sl dst v):=by
 cases dst with
 | none=>rfl
 | some d=>exact(Kc ρ sl d v).symm
theorem Je1 {sl:SSl} {d:Tmp} {v:SV} (h:sl.lookup d=some v):γs ρ sl d=γX ρ v:=by unfold γs;rw[h]
theorem JjX {sl:SSl} {d:Tmp} {b:E} {t:Bool} (h:sl.lookup d=some (.d (.vb b))) (ht:bol ρ b=t):γs ρ ((d,.d (.vb (KI t)))::sl)=γs ρ sl:=by
 rw[Kc]
 funext j
 unfold upd;split
 ·rename_i hj;subst hj;rw[Je1 h];show X.d (.v (.bool (bol ρ (KI t))))=X.d (.v (.bool (bol ρ b)));rw[ht];cases t <;> rfl
 ·rfl
theorem Jfx {sl:SSl} {d:Tmp} {b:E} (h:Jp0 (sl.lookup d)=some b):γs ρ sl d=X.d (.v (.bool (bol ρ b)))∧sl.lookup d=some (.d (.vb b)):=by
 unfold Jp0 at h;split at h
 ·rename_i b' hl;simp only[JrD] at h;subst h;exact⟨by rw[Je1 hl];rfl,hl⟩
 ·cases h
theorem JhN {sl:SSl} {o:Oper} (h:Zc ops sl o = .yes):Qw ops (γs ρ sl) o=some true:=by
 unfold Zc at h;unfold Qw;split at h
 ·rename_i hg;rw[hg]
 ·rename_i j want hg;rw[hg];simp only;split at h
  ·rename_i d hd;rw[hd];simp only;split at h
   ·rename_i b hb;rw[(Jfx (ρ:=ρ) hb).1];split at h
    ·rename_i t ht;split at h
     ·rename_i hw;rw[Zw ht];simpa using hw
     ·cases h
    ·cases h
   ·split at h <;> cases h
  ·cases h
theorem JlS {sl:SSl} {d:Tmp} (h:JjE (sl.lookup d)=true):γs ρ sl d=X.t []:=by
 unfold JjE at h;split at h
 ·rename_i hl;rw[Je1 hl];rfl
 ·cases h
theorem Ji5 {sl:SSl} {o:Oper} (h:Zc ops sl o = .no):Qw ops (γs ρ sl) o=some false:=by
 unfold Zc at h;unfold Qw;split at h
 ·cases h
 ·rename_i j want hg;rw[hg];simp only;split at h
  ·rename_i d hd;rw[hd];simp only;split at h
   ·rename_i b hb;rw[(Jfx (ρ:=ρ) hb).1];split at h
    ·rename_i t ht;split at h
     ·cases h
     ·rename_i hw;rw[Zw ht];simpa using hw
    ·cases h
   ·split at h
    ·rename_i h0;rw[JlS (ρ:=ρ) h0]
    ·cases h
  ·cases h
theorem Jfn {sl:SSl} {o:Oper} {d:Tmp} {b:E} {want:Bool} (h:Zc ops sl o = .fork d b want):sl.lookup d=some (.d (.vb b))∧Qw ops (γs ρ sl) o=some (bol ρ b == want):=by
 unfold Zc at h;unfold Qw;split at h
 ·cases h
 ·rename_i j want' hg;rw[hg];simp only;split at h
  ·rename_i d' hd;rw[hd];simp only;split at h
   ·rename_i b' hb;obtain⟨h1,h2⟩:=Jfx (ρ:=ρ) hb;rw[h1];split at h
    ·split at h <;> cases h
    ·cases h;exact⟨h2,rfl⟩
   ·split at h <;> cases h
  ·cases h
theorem Jaa (hB:BOk sg B) :∀(l:List Nat) (sl:SSl) (m:XE) (n:Nat) (trs:Trs) (k:SSl→XE→Nat→Trs→Option R) (R:R) (o:Oc),Yt P sg G.dp G.bo ops l sl m n trs k=some R→Run B N R ρ o →
  ∃ sl' m' n' tl R',XH P (QJ sg B) G ops l ⟨γs ρ sl,γm ρ m⟩=some (⟨γs ρ sl',γm ρ m'⟩,tl)∧k sl' m' n' (trs.reverse++tl)=some R'∧Run B N R' ρ o
 | [],sl,m,n,trs,k,R,o,h,hr=>⟨sl,m,n,[],R,rfl,by simpa[Yt] using h,hr⟩
 | i::l,sl,m,n,trs,k,R,o,h,hr=>by
  have ih:=Jaa hB l;simp only[Yt] at h;cases hi:ops[i]? with
  | none=>simp[hi] at h
  | some op =>
   simp only[hi] at h;have yes :∀(sl:SSl) (R:Go.Tm.R),(match (JhT P sg (G.dp op) (G.bo op) op sl).run m n with
     | some r=>match Yt P sg G.dp G.bo ops l (JhB sl op.dst r.val) r.m r.n (r.tr::trs) k with
      | some R=>some (V1 r.is R)
      | none=>none
     | none=>none)=some R→Run B N R ρ o→Qw ops (γs ρ sl) op=some true →
     ∃ sl' m' n' tl R',XH P (QJ sg B) G ops (i::l) ⟨γs ρ sl,γm ρ m⟩=some (⟨γs ρ sl',γm ρ m'⟩,tl)∧k sl' m' n' (trs.reverse++tl)=some R'∧Run B N R' ρ o:=by
    intro sl R h hr hw;split at h
    ·rename_i r hrun;split at h
     ·rename_i R1 h1;simp only[JrD] at h;subst h;obtain⟨his,hr⟩:=Kp _ _ _ hr;have hT:=SMP.run_ok _ _ _ _ _ (Jpf (G:=G) (P:=P) hB op sl) hrun his;obtain⟨sl',m',n',tl,R',e1,e2,e3⟩:=ih _ _ _ _ k R1 o h1 hr;refine⟨sl',m',n',r.tr::tl,R',?_,by simpa using e2,e3⟩;simp only[XH,hi,evM,hw,hT,Jkl,e1]
     ·cases h
    ·cases h
   have no :∀(sl:SSl) (R:Go.Tm.R),Yt P sg G.dp G.bo ops l (JhB sl op.dst (.t [])) m n ([]::trs) k=some R→Run B N R ρ o→Qw ops (γs ρ sl) op=some false →
     ∃ sl' m' n' tl R',XH P (QJ sg B) G ops (i::l) ⟨γs ρ sl,γm ρ m⟩=some (⟨γs ρ sl',γm ρ m'⟩,tl)∧k sl' m' n' (trs.reverse++tl)=some R'∧Run B N R' ρ o:=by
    intro sl R h hr hw;obtain⟨sl',m',n',tl,R',e1,e2,e3⟩:=ih _ _ _ _ k R o h hr;refine⟨sl',m',n',[]::tl,R',?_,by simpa using e2,e3⟩;have e0:UL (γs ρ sl) op.dst (.t [])=γs ρ (JhB sl op.dst (.t [])):=Jkl sl op.dst (.t []);simp only[XH,hi,evM,hw,MP.runT,e0,e1]
   cases hsw:Zc ops sl op with
   | yes =>
    simp only[hsw,if_true] at h;exact yes sl R h hr (JhN hsw)
   | no =>
    simp only[hsw,JrU,if_false] at h;exact no sl R h hr (Ji5 hsw)
   | bad=>simp[hsw] at h
   | fork d b want =>
    simp only[hsw] at h;obtain⟨hd,hw⟩:=Jfn (ρ:=ρ) hsw;split at h
    ·rename_i x y hx hy;simp only[JrD] at h;subst h;have part :∀(t:Bool) (w:Bool) (z:Go.Tm.R),bol ρ b=t→(t == want)=w→(if w=true then(match (JhT P sg (G.dp op) (G.bo op) op ((d,.d (.vb (KI t)))::sl)).run m n with
        | some r=>match Yt P sg G.dp G.bo ops l (JhB ((d,.d (.vb (KI t)))::sl) op.dst r.val) r.m r.n (r.tr::trs) k with
         | some R=>some (V1 r.is R)
         | none=>none
        | none=>none) else Yt P sg G.dp G.bo ops l (JhB ((d,.d (.vb (KI t)))::sl) op.dst (.t [])) m n ([]::trs) k)=some z→Run B N z ρ o →
       ∃ sl' m' n' tl R',XH P (QJ sg B) G ops (i::l) ⟨γs ρ sl,γm ρ m⟩=some (⟨γs ρ sl',γm ρ m'⟩,tl)∧k sl' m' n' (trs.reverse++tl)=some R'∧Run B N R' ρ o:=by
      intro t w z ht hwt hz hrz;have hk:=JjX hd ht;rw[←hk];rw[←hk,ht] at hw;cases w with
      | true=>simp only[if_true] at hz;exact yes _ z hz hrz (by rw[hw,hwt])
      | false=>simp only[JrU,if_false] at hz;exact no _ z hz hrz (by rw[hw,hwt])
     simp only[Run] at hr;cases hb:bol ρ b with
     | true =>
      rw[hb] at hr;exact part true want x hb (by cases want <;> rfl) hx hr
     | false =>
      rw[hb] at hr;simp only[JrU,if_false] at hr;exact part false (!want) y hb (by cases want <;> rfl) hy hr
    ·cases h
theorem K5 {T:Tab} :∀(l:List Nat) (st st':St) (tl:Trs),XH P T G ops l st=some (st',tl)→UY P T G ops l st=some st'
 | [],st,st',tl,h=>by
  simp only[XH,JrD,JrV] at h;simp only[UY,h.1]
 | i::l,st,st',tl,h=>by
  simp only[XH] at h;split at h
  ·cases h
  ·rename_i o ho;split at h
   ·cases h
   ·rename_i p hp;split at h
    ·cases h
    ·rename_i x m1 t1 hr;split at h
     ·cases h
     ·rename_i st2 ts h2;simp only[JrD,JrV] at h;obtain⟨rfl,rfl⟩:=h;rw[MP.runT_eq] at hr;cases hrun:p.run st.m with
      | none=>simp[hrun] at hr
      | some q =>
       obtain⟨x',m'⟩:=q;simp only[hrun,JrG,JrD,JrV] at hr;obtain⟨rfl,rfl,_⟩:=hr;have:=(Jai ho hp hrun).1;simp only[UY,this];exact K5 l _ _ _ h2
end
end Go.Tm
end
section
namespace Go.Tm
open Go.IntKind (i64)
section
variable {P:Program} {c:Cx P} {g:Gh} {m mk:Mem} {w:World} {a:Act} {ρ ρ':Env}
def Jlp (m mk:Mem) (k:Key):Prop:=mk k=m k∨∃ cs cs',m k=some (.box cs)∧mk k=some (.box cs')
mutual
theorem JkA (hM :∀b,Mut g mk b→Mut g m b) :∀(x:X) (v:Value),(∀k∈x.names,Jlp m mk k)→VX c g m w x v→VX c g mk w x v
 | .d x,v,_,⟨fp,h1,h2⟩=>⟨fp,h1,fun b hb=>⟨fun h=>(h2 b hb).1 (hM b h),(h2 b hb).2⟩⟩
 | .g cs,v,hn,⟨vs,e,h,h1⟩=>⟨vs,e,KX hM cs vs (fun k hk=>hn k (by simpa[X.names] using hk)) h,h1⟩
 | .t cs,v,hn,⟨vs,e,h⟩=>⟨vs,e,KX hM cs vs (fun k hk=>hn k (by simpa[X.names] using hk)) h⟩
 | .f fn cs,v,hn,⟨vs,e,h⟩=>⟨vs,e,KX hM cs vs (fun k hk=>hn k (by simpa[X.names] using hk)) h⟩
 | .o k n,v,hn,⟨h1,⟨o,ho,hb⟩,h2⟩=>by
  have e:mk k=m k:=by
   rcases hn k (by simp[X.names]) with e | ⟨cs,cs',h,_⟩
   ·exact e
   ·rw[ho] at h;cases h;exact absurd rfl (hb cs)
  exact⟨h1,⟨o,by rw[e];exact ho,hb⟩,fun ty sz es dp rw h=>h2 ty sz es dp rw (by rw[←e];exact h)⟩
 | .p k off,v,hn,⟨cs,b,h1,h2,h3⟩=>by
  rcases hn k (by simp[X.names]) with e | ⟨cs1,cs2,_,h⟩
  ·exact⟨cs,b,by rw[e];exact h1,h2,h3⟩
  ·exact⟨cs2,b,h,h2,h3⟩
 | .e k n i off,v,hn,⟨h1,⟨o,ho,hb⟩,h2⟩=>by
  have e:mk k=m k:=by
   rcases hn k (by simp[X.names]) with e | ⟨cs,cs',h,_⟩
   ·exact e
   ·rw[ho] at h;cases h;exact absurd rfl (hb cs)
  exact⟨h1,⟨o,by rw[e];exact ho,hb⟩,fun ty sz es dp rw h=>h2 ty sz es dp rw (by rw[←e];exact h)⟩
 | .u,_,_,_=>trivial
theorem KX (hM :∀b,Mut g mk b→Mut g m b) :∀(xs:List X) (vs:List Value),(∀k∈J2 xs,Jlp m mk k)→VXs c g m w xs vs→VXs c g mk w xs vs
 | [],_,_,h=>h
 | x::xs,vs,hn,⟨v,vs',e,h1,h2⟩=>⟨v,vs',e,JkA hM x v (fun k hk=>hn k (by simp[J2,hk])) h1,KX hM xs vs' (fun k hk=>hn k (by simp[J2,hk])) h2⟩
end
def Ue:SV→SV→SV
 | .d (.vc _),v=>v
 | .d _,.d e=> .d e.norm
 | .g ps,.g vs=> .g (go ps vs)
 | .t ps,.t vs=> .t (go ps vs)
 | _,v=>v
where
 go:List SV→List SV→List SV
 | p::ps,v::vs=>Ue p v::go ps vs
 | _,vs=>vs
theorem E_norm_dat (ρ:Env) (e:E):dat ρ e.norm=dat ρ e∨dat ρ e.norm=(dat ρ e).norm:=by
 unfold E.norm;split
 ·exact .inr rfl
 ·exact .inl rfl
mutual
theorem Je9 :∀(p v:SV) (u:Value),VX c g m w (γX ρ v) u→VX c g m w (γX ρ (Ue p v)) u
 | .d p,v,u,h=>by
  cases p with
  | vc _=>exact h
  | _ =>
   cases v with
   | d e =>
    rcases E_norm_dat ρ e with h1 | h1
    ·simp only[Ue,γX,h1];exact h
    ·simp only[Ue,γX,h1];exact Jj6 (.d _) u h
   | _=>exact h
 | .g ps,v,u,h=>by
  cases v with
  | g vs =>
   obtain⟨us,e,h1,h2⟩:=h;exact⟨us,e,KZ ps vs us h1,h2⟩
  | _=>exact h
 | .o _ _,v,u,h=>h
 | .p _ _,v,u,h=>h
 | .e _ _ _ _,v,u,h=>h
 | .f _ _,v,u,h=>h
 | .t ps,v,u,h=>by
  cases v with
  | t vs =>
   obtain⟨us,e,h2⟩:=h;exact⟨us,e,KZ ps vs us h2⟩
  | _=>exact h
 | .u,v,u,h=>h
theorem KZ :∀(ps vs:List SV) (us:List Value),VXs c g m w (γXs ρ vs) us→VXs c g m w (γXs ρ (Ue.go ps vs)) us
 | [],vs,us,h=>h
 | _::_,[],us,h=>h
 | p::ps,v::vs,us,⟨u,us',e,h1,h2⟩=>⟨u,us',e,Je9 p v u h1,KZ ps vs us' h2⟩
end
def Jbn:Je→Je→Je
 | .box ps,.box vs=> .box (Ue.go ps vs)
 | _,o=>o
def Jb2:SSl→SSl→Option (List (E×E))
 | [],_=>some []
 | (t,p)::ts,sl=>match sl.lookup t with
  | some v=>match mv p (Ue p v) with
   | some l=>match Jb2 ts sl with
    | some l'=>some (l++l')
    | none=>none
   | none=>none
  | none=>none
def JfR:XE→XE→Option (List (E×E))
 | [],_=>some []
 | (k,p)::ts,m=>match m.lookup k with
  | some o=>match mo p (Jbn p o) with
   | some l=>match JfR ts m with
    | some l'=>some (l++l')
    | none=>none
   | none=>none
  | none=>none
def UH (m:XE) (k:Key):Bool:=(m.lookup k).isSome
def Jct (cn cnt:Nat) (t s:SSt) (nl:Nat):Option (List E):=match Jb2 t.sl s.sl,JfR t.m s.m with
 | some p,some q=>match Jjq cn (p++q) with
  | some bs=>if JaH bs&&bs.all (fun b=>Nat.blt b.1 (cn+cnt))&&(t.sl.flatMap (fun x=>x.2.names)++t.m.flatMap fun x=>x.2.names).all (UH t.m)&&(List.range nl).all (UH t.m)
   then(List.range cnt).mapM fun i=>bs.lookup (cn+i) else none
  | none=>none
 | _,_=>none
def SSt.fresh (s:SSt):SSt:=⟨s.sl.map fun p=>(p.1,UG (holds? s.m) p.2),s.m.map fun p=>(p.1,JfB (holds? s.m) p.2)⟩
def Jb3 (cn cnt:Nat) (t s:SSt) (nl:Nat):Option (List E):=Jct cn cnt t s.fresh nl
theorem YD {α:Type} (f:α→α) :∀(l:List (Nat×α)) (k:Nat),(l.map fun p=>(p.1,f p.2)).lookup k=(l.lookup k).map f
 | [],k=>rfl
 | (j,x)::l,k=>by
  simp only[JrM,List.lookup_cons]
  by_cases h:k=j
  ·subst h;simp
  ·have hb:(k == j)=false:=by simpa using h
   simp only[hb,YD f l k]
theorem JhL (ρ:Env) (s:SSt):γs ρ s.fresh.sl=γs ρ s.sl∧γm ρ s.fresh.m=γm ρ s.m:=by
 refine⟨?_,?_⟩
 ·funext t
  unfold γs SSt.fresh;simp only[YD];cases s.sl.lookup t with
  | none=>rfl
  | some v=>exact Jeo ρ _ v
 ·funext k
  unfold γm SSt.fresh;simp only[YD,Option.map_map];cases s.m.lookup k with
  | none=>rfl
  | some o=>simp only[JrG,Function.comp,JeH]
theorem JdK :∀(t sl:SSl) (l:List (E×E)),Jb2 t sl=some l→∀x∈t,∃ v l',sl.lookup x.1=some v∧mv x.2 (Ue x.2 v)=some l'∧∀q∈l',q∈l
 | [],sl,l,h,x,hx=>by simp at hx
 | (t,p)::ts,sl,l,h,x,hx=>by
  simp only[Jb2] at h;split at h
  ·rename_i v hv;split at h
   ·rename_i l1 h1;split at h
    ·rename_i l2 h2;simp only[JrD] at h;subst h;rcases JrX.1 hx with rfl | hx
     ·exact⟨v,l1,hv,h1,fun q hq=>by simp[hq]⟩
     ·obtain⟨v',l',e1,e2,e3⟩:=JdK ts sl l2 h2 x hx;exact⟨v',l',e1,e2,fun q hq=>by simp[e3 q hq]⟩
    ·cases h
   ·cases h
  ·cases h
theorem JeZ :∀(t m:XE) (l:List (E×E)),JfR t m=some l→∀x∈t,∃ v l',m.lookup x.1=some v∧mo x.2 (Jbn x.2 v)=some l'∧∀q∈l',q∈l
 | [],sl,l,h,x,hx=>by simp at hx
 | (t,p)::ts,sl,l,h,x,hx=>by
  simp only[JfR] at h;split at h
  ·rename_i v hv;split at h
   ·rename_i l1 h1;split at h
    ·rename_i l2 h2;simp only[JrD] at h;subst h;rcases JrX.1 hx with rfl | hx
     ·exact⟨v,l1,hv,h1,fun q hq=>by simp[hq]⟩
     ·obtain⟨v',l',e1,e2,e3⟩:=JeZ ts sl l2 h2 x hx;exact⟨v',l',e1,e2,fun q hq=>by simp[e3 q hq]⟩
    ·cases h
   ·cases h
  ·cases h
theorem X0 {α:Type} :∀(l:List (Nat×α)) (k:Nat) (v:α),l.lookup k=some v→(k,v)∈l
 | [],k,v,h=>by simp at h
 | (j,x)::l,k,v,h=>by
  simp only[List.lookup_cons] at h
  by_cases hk:k=j
  ·subst hk;simp at h;subst h;simp
  ·have hb:(k == j)=false:=by simpa using hk
   rw[hb] at h;simp[X0 l k v h]
theorem Jkv {α:Type} {f:Nat→Option α} :∀(n a:Nat) (l:List α),(List.range' a n).mapM f=some l→∀i,i<n→∃ x,f (a+i)=some x∧l[i]? = some x
 | 0,a,l,h,i,hi=>by omega
 | n+1,a,l,h,i,hi=>by
  rw[List.range'_succ,List.mapM_cons] at h;cases hf:f a with
  | none=>simp[hf] at h
  | some x =>
   cases hr:(List.range' (a+1) n).mapM f with
   | none=>simp[hf,hr] at h
   | some l' =>
    simp[hf,hr] at h;subst h;cases i with
    | zero=>exact⟨x,hf,rfl⟩
    | succ i =>
     obtain⟨y,h1,h2⟩:=Jkv n (a+1) l' hr i (by omega);exact⟨y,by rw[←h1];congr 1;omega,by simpa using h2⟩
theorem Jco {p o:Je}:(∃ cs cs',γO ρ o = .box cs∧γO ρ (Jbn p o) = .box cs'∧∀us,VXs c g m w cs us→VXs c g m w cs' us)∨(γO ρ (Jbn p o)=γO ρ o∧∀cs,γO ρ o≠ .box cs):=by
 cases o with
 | box vs =>
  cases p with
  | box ps=>exact .inl ⟨_,_,rfl,rfl,fun us h=>KZ ps vs us h⟩
  | _=>exact .inl ⟨_,_,rfl,rfl,fun us h=>h⟩
 | arr ty sz l dp rw=>exact .inr ⟨by cases p <;> rfl,fun cs=>by simp[γO]⟩
 | dead=>exact .inr ⟨by cases p <;> rfl,fun cs=>by simp[γO]⟩
theorem Jii {cn cnt:Nat} {t s:SSt} {nl:Nat} {vs:List E} (h:Jct cn cnt t s nl=some vs) (ha:Jp cn ρ ρ') (hset:JbC cn (vs.map (den ρ)) ρ')
  {g0:Gh} {m0:Mem} {w0:World} (hl :∀k,m0 k≠none→k<nl) (hS:Sim c g (γm ρ s.m) w) (hH:Jm c g (γm ρ s.m) w (γs ρ s.sl) a) (hC:Jb c g0 m0 w0 g (γm ρ s.m) w) :
  Sim c g (γm ρ' t.m) w∧Jm c g (γm ρ' t.m) w (γs ρ' t.sl) a∧Jb c g0 m0 w0 g (γm ρ' t.m) w:=by
 unfold Jct at h;split at h
 ·rename_i p q hp hq;split at h
  ·rename_i bs hbs;split at h
   ·rename_i hc;simp only[JrE] at hc;obtain⟨⟨⟨hcon,hlt⟩,hclo⟩,hlent⟩:=hc;rw[List.range_eq_range'] at h;have hat:=Jkv cnt 0 vs h;have hρ :∀b∈bs,cn≤b.1→ρ' b.1=den ρ b.2:=by
     intro b hb hcb;have h1:=JrR.1 hlt b hb;have h1:b.1<cn+cnt:=Nat.lt_of_succ_le (Nat.le_of_ble_eq_true h1);obtain⟨x,e1,e2⟩:=hat (b.1-cn) (by omega);have e1:bs.lookup b.1=some x:=by rw[←e1];congr 1;omega
     have h2:=hset (b.1-cn) (den ρ x) (by rw[JrZ,e2];rfl);rw[show cn+(b.1-cn)=b.1 by omega] at h2;have h3:=JrR.1 hcon b hb;rw[e1] at h3;rw[h2];exact VH _ _ h3 ρ
    have hpair :∀z∈p++q,dat ρ' z.1=dat ρ z.2:=by
     intro z hz;obtain⟨r,h1,h2⟩:=Jc4 _ _ hbs z hz;refine Joc h1 ha fun j x hr=>?_;subst hr;exact hρ (j,x) (h2 _ rfl) (Jnv h1)
    have hobj :∀k po,t.m.lookup k=some po→∃ o,s.m.lookup k=some o∧γO ρ' po=γO ρ (Jbn po o):=by
     intro k po hk;obtain⟨o,l',e1,e2,e3⟩:=JeZ _ _ _ hq (k,po) (X0 _ _ _ hk);exact⟨o,e1,Jpt e2 fun z hz=>hpair z (by simp[e3 z hz])⟩
    have hmk :∀k o',γm ρ' t.m k=some o'→∃ po o,t.m.lookup k=some po∧s.m.lookup k=some o∧o'=γO ρ (Jbn po o):=by
     intro k o' hk;unfold γm at hk;cases hl':t.m.lookup k with
     | none=>rw[hl'] at hk;cases hk
     | some po =>
      rw[hl'] at hk;simp only[JrG,JrD] at hk;obtain⟨o,e1,e2⟩:=hobj k po hl';exact⟨po,o,rfl,e1,by rw[←hk,e2]⟩
    have hrw :∀po o:Je,(γO ρ (Jbn po o)).rw=(γO ρ o).rw:=by
     intro po o;cases o with
     | box vs=>cases po <;> rfl
     | _=>cases po <;> rfl
    have hM :∀b,Mut g (γm ρ' t.m) b→Mut g (γm ρ s.m) b:=by
     rintro b ⟨k,o',hk,hr,hb⟩;obtain⟨po,o,_,e2,rfl⟩:=hmk k o' hk;refine⟨k,γO ρ o,JX e2,by rw[←hrw po];exact hr,?_⟩;have hdp:(γO ρ (Jbn po o)).dpw=(γO ρ o).dpw:=by
      cases o with
      | box vs=>cases po <;> rfl
      | _=>cases po <;> rfl
     unfold Blk at hb ⊢;rw[hdp] at hb;exact hb
    have hlike :∀k,UH t.m k=true→Jlp (γm ρ s.m) (γm ρ' t.m) k:=by
     intro k hk;obtain⟨po,hpo⟩:=Option.isSome_iff_exists.1 hk;obtain⟨o,e1,e2⟩:=hobj k po hpo;rw[Jlp,JX e1,JX hpo,e2];rcases Jco (c:=c) (g:=g) (m:=γm ρ s.m) (w:=w) (ρ:=ρ) (p:=po) (o:=o) with ⟨cs,cs',h1,h2,_⟩ | ⟨h1,_⟩
     ·exact .inr ⟨cs,cs',by rw[h1],by rw[h2]⟩
     ·exact .inl (by rw[h1])
    have hnames :∀x∈t.sl,∀k∈x.2.names,UH t.m k=true:=by
     intro x hx k hk;exact JrR.1 hclo k (List.mem_append_left _ (List.mem_flatMap.2 ⟨x,hx,hk⟩))
    have hmnames :∀x∈t.m,∀k∈x.2.names,UH t.m k=true:=by
     intro x hx k hk;exact JrR.1 hclo k (List.mem_append_right _ (List.mem_flatMap.2 ⟨x,hx,hk⟩))
    refine⟨Sim.restrict hS fun k o' hk=>?_,fun tt=>?_,⟨hC.size,fun b h1 h2 h3=>⟨(hC.pure b h1 h2 h3).1,fun hm=>(hC.pure b h1 h2 h3).2 (hM b hm)⟩,fun k cs hk=>?_,fun k ty sz es dp rw hk=>?_,fun k hk=>?_⟩⟩
    ·obtain⟨po,o,e1,e2,rfl⟩:=hmk k o' hk;refine⟨⟨_,JX e2,(hrw po o).symm⟩,fun cs hcs=>?_,fun ty sz es dp rw he=>?_⟩
     ·rcases Jco (c:=c) (g:=g) (m:=γm ρ s.m) (w:=w) (ρ:=ρ) (p:=po) (o:=o) with ⟨cs1,cs2,h1,h2,h3⟩ | ⟨h1,h2⟩
      ·rw[h2] at hcs;cases hcs;obtain⟨b,us,ty,a1,a2,a3,a4⟩:=hS.box k cs1 (by rw[JX e2,h1]);refine⟨b,us,ty,a1,a2,KX hM _ _ (fun j hj=>hlike j ?_) (h3 us a3),a4⟩;have hx:(γO ρ' po).names=po.names:=Jey ρ' po;have hn:po.names=J2 cs:=by
        have hob:γO ρ' po = .box cs:=by
         have:=hk;rw[JX e1,h2] at this;exact Option.some.inj this
        rw[←hx,hob];rfl
       exact hmnames (k,po) (X0 _ _ _ e1) j (by rw[hn];exact hj)
      ·rw[h1] at hcs;exact absurd hcs (h2 cs)
     ·rcases Jco (c:=c) (g:=g) (m:=γm ρ s.m) (w:=w) (ρ:=ρ) (p:=po) (o:=o) with ⟨cs1,cs2,h1,h2,h3⟩ | ⟨h1,h2⟩
      ·rw[h2] at he;cases he
      ·rw[JX e2,h1]
    ·unfold γs;cases hlk:t.sl.lookup tt with
     | none=>trivial
     | some pv =>
      simp only;obtain⟨v,l',e1,e2,e3⟩:=JdK _ _ _ hp (tt,pv) (X0 _ _ _ hlk);have hv:=hH tt;rw[Je1 e1] at hv;have e4:γX ρ' pv=γX ρ (Ue pv v):=Jpu _ _ _ e2 fun z hz=>hpair z (by simp[e3 z hz]);rw[e4];refine JkA hM _ _ (fun k hk=>hlike k ?_) (Je9 pv v _ hv);rw[←e4,KN] at hk;exact hnames (tt,pv) (X0 _ _ _ hlk) k hk
    ·have hkey:UH t.m k=true:=JrR.1 hlent k (List.mem_range.2 (hl k (by rw[hk];simp)));obtain⟨⟨cs',h1⟩,h2⟩:=hC.box k cs hk;refine⟨?_,h2⟩;rcases hlike k hkey with e | ⟨a1,a2,_,e⟩
     ·exact⟨cs',by rw[e];exact h1⟩
     ·exact⟨a2,e⟩
    ·have hkey:UH t.m k=true:=JrR.1 hlent k (List.mem_range.2 (hl k (by rw[hk];simp)));rcases hlike k hkey with e | ⟨a1,a2,e1,e⟩
     ·rw[e];exact hC.arr k ty sz es dp rw hk
     ·rcases hC.arr k ty sz es dp rw hk with h1 | ⟨_,_,_,h1,_⟩
      ·rw[e1] at h1;cases h1
      ·rw[e1] at h1;cases h1
    ·have hkey:UH t.m k=true:=JrR.1 hlent k (List.mem_range.2 (hl k (by rw[hk];simp)));rcases hlike k hkey with e | ⟨a1,a2,e1,e⟩
     ·rw[e];exact hC.dead k hk
     ·have:=hC.dead k hk;rw[e1] at this;cases this
   ·cases h
  ·cases h
 ·cases h
theorem Wy {cn cnt:Nat} {t s:SSt} {nl:Nat} {vs:List E} (h:Jb3 cn cnt t s nl=some vs) (ha:Jp cn ρ ρ') (hset:JbC cn (vs.map (den ρ)) ρ')
  {g0:Gh} {m0:Mem} {w0:World} (hl :∀k,m0 k≠none→k<nl) (hS:Sim c g (γm ρ s.m) w) (hH:Jm c g (γm ρ s.m) w (γs ρ s.sl) a) (hC:Jb c g0 m0 w0 g (γm ρ s.m) w) :
  Sim c g (γm ρ' t.m) w∧Jm c g (γm ρ' t.m) w (γs ρ' t.sl) a∧Jb c g0 m0 w0 g (γm ρ' t.m) w:=by
 obtain⟨e1,e2⟩:=JhL ρ s;exact Jii h ha hset hl (by rw[e2];exact hS) (by rw[e1,e2];exact hH) (by rw[e2];exact hC)
def QN (keep:List Tmp) (sl:SSl):SSl:=keep.filterMap fun t=>match sl.lookup t with
 | some v=>some (t,v)
 | none=>none
theorem Joj (keep:List Tmp) (sl:SSl) (t:Tmp):(QN keep sl).lookup t=none∨(QN keep sl).lookup t=sl.lookup t:=by
 induction keep with
 | nil=>exact .inl rfl
 | cons s keep ih =>
  unfold QN at ih ⊢;cases h:sl.lookup s with
  | none=>rw[List.filterMap_cons_none (by rw[h])];exact ih
  | some v =>
   rw[List.filterMap_cons_some (b:=(s,v)) (by rw[h])];simp only[List.lookup_cons]
   by_cases hts:t=s
   ·subst hts;right;simp[h]
   ·have hb:(t == s)=false:=by simpa using hts
    rw[hb];exact ih
theorem JdE (keep:List Tmp) {sl:SSl} (h:Jm c g m w (γs ρ sl) a):Jm c g m w (γs ρ (QN keep sl)) a:=by
 intro t;have ht:=h t;unfold γs at ht ⊢;rcases Joj keep sl t with e | e
 ·rw[e];trivial
 ·rw[e];exact ht
inductive Loc where
 | slot (t:Tmp)
 | cell (k:Key) (off:Nat)
 | kill (k:Key)
 | frz (k:Key) (off:Nat)
structure Jg0 where
 at_:Loc
 key:Key
 ty:TypeId
 sz:Nat
 dp:Bool:=false
 mv:Bool:=false
def Jeu (o:Jg0) (s:SSt):SSt:=if(s.m.lookup o.key).isSome then s else match o.at_ with
 | .slot t=>match s.sl.lookup t with
  | some (.d (.vc (.slice none 0 0)))=>⟨(t,.o o.key .nil)::s.sl,(o.key,.arr o.ty o.sz .nil o.dp true)::s.m⟩
  | some (.o j l)=>if o.mv then match s.m.lookup j with
   | some (.arr ty sz l' dp true)=>if l.lsame l' then ⟨(t,.o o.key l')::s.sl,(o.key,.arr ty sz l' (dp&&o.dp) true)::(j,.dead)::s.m⟩ else s
   | _=>s
   else s
  | _=>s
 | .cell k off=>match s.m.lookup k with
  | some (.box cs)=>match cs[off]? with
   | some (.d (.vc (.slice none 0 0)))=>⟨s.sl,(k,.box (cs.set off (.o o.key .nil)))::(o.key,.arr o.ty o.sz .nil o.dp true)::s.m⟩
   | some (.o j l)=>if o.mv then match s.m.lookup j with
    | some (.arr ty sz l' dp true)=>if l.lsame l' then ⟨s.sl,(k,.box (cs.set off (.o o.key l')))::(o.key,.arr ty sz l' (dp&&o.dp) true)::(j,.dead)::s.m⟩ else s
    | _=>s
    else s
   | _=>s
  | _=>s
 | .kill j=>match s.m.lookup j with
  | some (.arr ty sz l' dp true)=>⟨s.sl,(o.key,.arr ty sz l' dp true)::(j,.dead)::s.m⟩
  | some (.arr _ _ _ _ false)=>⟨s.sl,(j,.dead)::s.m⟩
  | _=>s
 | .frz k off=>match s.m.lookup k with
  | some (.box cs)=>match cs[off]? with
   | some (.o j l)=>match s.m.lookup j with
    | some (.arr ty sz l' _ _)=>if l.lsame l' then ⟨s.sl,(k,.box (cs.set off (.d (.s l'))))::(j,.arr ty sz l' false false)::s.m⟩ else s
    | _=>s
   | _=>s
  | _=>s
theorem JoK {j:Key} {ty:TypeId} {sz:Nat} {es:List D} {dp:Bool} (hS:Sim c g m w) (hj:m j=some (.arr ty sz es dp false)) :
  Sim c g (upd m j (some .dead)) w∧Jb c g m w g (upd m j (some .dead)) w:=by
 have hM :∀b,Mut g (upd m j (some .dead)) b→Mut g m b:=by
  rintro b ⟨k,o,h,hrw,hb⟩
  by_cases e:k=j
  ·subst e;rw[uS1] at h;cases h;cases hrw
  ·rw[uO1 _ _ e] at h;exact⟨k,o,h,hrw,hb⟩
 have hC:Jb c g m w g (upd m j (some .dead)) w:=by
  refine⟨Nat.le_refl _,fun b h1 _ _=>⟨rfl,fun h=>h1 (hM b h)⟩,fun k cs h=>?_,fun k ty' sz' es' dp' rw h=>?_,fun k h=>?_⟩
  ·have e:k≠j:=fun e=>by subst e;rw[hj] at h;cases h
   exact⟨⟨cs,by rw[uO1 _ _ e];exact h⟩,rfl⟩
  ·by_cases e:k=j
   ·subst e;exact .inl (uS1 _ _ _)
   ·exact .inr ⟨es',dp',rw,by rw[uO1 _ _ e];exact h,.inl ⟨rfl,rfl,rfl⟩⟩
  ·have e:k≠j:=fun e=>by subst e;rw[hj] at h;cases h
   rw[uO1 _ _ e];exact h
 refine⟨hS.restrict fun k o h=>?_,hC⟩
 by_cases e:k=j
 ·subst e;rw[uS1] at h;cases h;exact⟨⟨_,hj,rfl⟩,(fun cs h=>by cases h),(fun _ _ _ _ _ h=>by cases h)⟩
 ·rw[uO1 _ _ e] at h;refine⟨⟨o,h,rfl⟩,fun cs hcs=>?_,fun _ _ _ _ _ _=>h⟩;subst hcs;obtain⟨b,vs,ty,q1,q2,q3,q4⟩:=hS.box k cs h;exact⟨b,vs,ty,q1,q2,Qe hC _ _ q3,q4⟩
theorem Jm5 {key j:Key} {ty:TypeId} {sz:Nat} {es:List D} {dp:Bool} (hS:Sim c g m w) (hk:m key=none) (hj:m j=some (.arr ty sz es dp true)) :
  ∃ g',Sim c g' (upd (upd m j (some .dead)) key (some (.arr ty sz es dp true))) w∧Jb c g m w g' (upd (upd m j (some .dead)) key (some (.arr ty sz es dp true))) w∧g'.hd key=g.hd j:=by
 have hjk:j≠key:=fun e=>by subst e;rw[hk] at hj;cases hj
 let g':Gh:={ bl:=upd g.bl key (g.bl j),hd:=upd g.hd key (g.hd j),fd:=upd g.fd key (g.fd j),ow:=fun b=>if g.ow b=some j then some key else g.ow b }
 have hget :∀k o,upd (upd m j (some .dead)) key (some (.arr ty sz es dp true)) k=some o→(k=key∧o = .arr ty sz es dp true)∨(k≠key∧k=j∧o = .dead)∨(k≠key∧k≠j∧m k=some o):=fun k o h=>by
  by_cases e:k=key
  ·subst e;rw[uS1] at h;cases h;exact .inl ⟨rfl,rfl⟩
  ·rw[uO1 _ _ e] at h
   by_cases e2:k=j
   ·subst e2;rw[uS1] at h;cases h;exact .inr (.inl ⟨e,rfl,rfl⟩)
   ·rw[uO1 _ _ e2] at h;exact .inr (.inr ⟨e,e2,h⟩)
 have hB :∀k o b,upd (upd m j (some .dead)) key (some (.arr ty sz es dp true)) k=some o→o.rw=true→Blk g' k o b→∃ k0,m k0=some o∧Blk g k0 o b∧((k=key∧k0=j)∨(k0=k∧k≠key∧k≠j)):=fun k o b h hrw hb=>by
  rcases hget k o h with ⟨rfl,rfl⟩ | ⟨_,_,rfl⟩ | ⟨h1,h2,h3⟩
  ·exact⟨j,hj,by unfold Blk at hb ⊢;simpa only[g',uS1] using hb,.inl ⟨rfl,rfl⟩⟩
  ·cases hrw
  ·exact⟨k,h3,by unfold Blk at hb ⊢;simpa only[g',uO1 _ _ h1] using hb,.inr ⟨rfl,h1,h2⟩⟩
 have hM :∀b,Mut g' (upd (upd m j (some .dead)) key (some (.arr ty sz es dp true))) b→Mut g m b:=by
  rintro b ⟨k,o,h,hrw,hb⟩;obtain⟨k0,h1,h2,_⟩:=hB k o b h hrw hb;exact⟨k0,o,h1,hrw,h2⟩
 have hok :∀fp,JP c g m fp→JP c g' (upd (upd m j (some .dead)) key (some (.arr ty sz es dp true))) fp:=fun fp hf b hb=>⟨fun hm=>(hf b hb).1 (hM b hm),(hf b hb).2⟩;have hC:Jb c g m w g' (upd (upd m j (some .dead)) key (some (.arr ty sz es dp true))) w:=by
  refine⟨Nat.le_refl _,fun b h1 _ _=>⟨rfl,fun h=>h1 (hM b h)⟩,fun k cs h=>?_,fun k ty' sz' es' dp' rw h=>?_,fun k h=>?_⟩
  ·have e:k≠key:=fun e=>by subst e;rw[hk] at h;cases h
   have e2:k≠j:=fun e=>by subst e;rw[hj] at h;cases h
   exact⟨⟨cs,by rw[uO1 _ _ e,uO1 _ _ e2];exact h⟩,uO1 _ _ e⟩
  ·have e:k≠key:=fun e=>by subst e;rw[hk] at h;cases h
   by_cases e2:k=j
   ·subst e2;exact .inl (by rw[uO1 _ _ e,uS1])
   ·exact .inr ⟨es',dp',rw,by rw[uO1 _ _ e,uO1 _ _ e2];exact h,.inl ⟨rfl,uO1 _ _ e,uO1 _ _ e⟩⟩
  ·have e:k≠key:=fun e=>by subst e;rw[hk] at h;cases h
   have e2:k≠j:=fun e=>by subst e;rw[hj] at h;cases h
   rw[uO1 _ _ e,uO1 _ _ e2];exact h
 refine⟨g',⟨hS.frame,fun k cs h=>?_,fun k ty' sz' es' dp' rw h=>?_,fun k ty' sz' es' h=>?_,fun k o b h hrw hb=>?_,fun b k h=>?_⟩,hC,uS1 _ _ _⟩
 ·rcases hget k _ h with ⟨_,e⟩ | ⟨_,_,e⟩ | ⟨h1,h2,h3⟩
  ·cases e
  ·cases e
  ·obtain⟨b,vs,ty,q1,q2,q3,q4⟩:=hS.box k cs h3;exact⟨b,vs,ty,(uO1 _ _ h1).trans q1,q2,Qe hC _ _ q3,q4⟩
 ·rcases hget k _ h with ⟨rfl,e⟩ | ⟨_,_,e⟩ | ⟨h1,h2,h3⟩
  ·cases e;obtain⟨q1,q2,q3⟩:=hS.arr j _ _ _ _ _ hj;have e1:g'.bl k=g.bl j:=uS1 _ _ _;have e2:g'.hd k=g.hd j:=uS1 _ _ _;have e3:g'.fd k=g.fd j:=uS1 _ _ _;refine⟨by unfold V4 at q1 ⊢;rw[e1,e2,e3];exact q1,fun hd=>by rw[e3];exact hok _ (q2 hd),(fun(h:true=false)=>by cases h)⟩
  ·cases e
  ·obtain⟨q1,q2,q3⟩:=hS.arr k _ _ _ _ _ h3;have e1:g'.bl k=g.bl k:=uO1 _ _ h1;have e2:g'.hd k=g.hd k:=uO1 _ _ h1;have e3:g'.fd k=g.fd k:=uO1 _ _ h1;refine⟨by unfold V4 at q1 ⊢;rw[e1,e2,e3];exact q1,fun hd=>by rw[e3];exact hok _ (q2 hd),fun hr b hb=>hok _ (q3 hr b (by rw[←e1];exact hb))⟩
 ·rcases hget k _ h with ⟨rfl,e⟩ | ⟨_,_,e⟩ | ⟨h1,h2,h3⟩
  ·cases e;have e1:g'.bl k=g.bl j:=uS1 _ _ _;have e3:g'.fd k=g.fd j:=uS1 _ _ _;rw[e1,e3];exact hS.deep j _ _ _ hj
  ·cases e
  ·have e1:g'.bl k=g.bl k:=uO1 _ _ h1;have e3:g'.fd k=g.fd k:=uO1 _ _ h1;rw[e1,e3];exact hS.deep k _ _ _ h3
 ·obtain⟨k0,h1,h2,h3⟩:=hB k o b h hrw hb;have ho:=hS.own k0 o b h1 hrw h2;show (if g.ow b=some j then some key else g.ow b)=some k;rw[ho];rcases h3 with ⟨rfl,rfl⟩ | ⟨rfl,_,h4⟩
  ·rw[if_pos rfl]
  ·rw[if_neg (fun e=>h4 (Option.some.inj e))]
 ·have h':(if g.ow b=some j then some key else g.ow b)=some k:=h;split at h'
  ·rename_i e;exact hS.live b j e
  ·exact hS.live b k h'
theorem JkP :∀(xs:List X) (vs:List Value) (i:Nat) (x:X) (v:Value),VXs c g m w xs vs→vs[i]? = some v→VX c g m w x v→VXs c g m w (xs.set i x) vs
 | [],vs,i,x,v,h,_,_=>h
 | y::xs,vs,0,x,v,⟨u,us,e,h1,h2⟩,hv,hx=>by
  subst e;simp at hv;subst hv;exact⟨u,us,rfl,hx,h2⟩
 | y::xs,vs,i+1,x,v,⟨u,us,e,h1,h2⟩,hv,hx=>by
  subst e;exact⟨u,us,rfl,h1,JkP xs us i x v h2 (by simpa using hv) hx⟩
theorem W6 :∀(xs:List X) (vs:List Value) (i:Nat) (x:X),VXs c g m w xs vs→xs[i]? = some x→∃ v,vs[i]? = some v∧VX c g m w x v
 | [],vs,i,x,h,hx=>by simp at hx
 | y::xs,vs,0,x,⟨u,us,e,h1,h2⟩,hx=>by
  subst e;simp at hx;subst hx;exact⟨u,rfl,h1⟩
 | y::xs,vs,i+1,x,⟨u,us,e,h1,h2⟩,hx=>by
  subst e;obtain⟨v,h3,h4⟩:=W6 xs us i x h2 (by simpa using hx);exact⟨v,by simpa using h3,h4⟩
theorem Ji9 {m1:Mem} {k:Key} {off:Nat} {cs:List X} {x:X} (h1:Sim c g m1 w) (hbox:m1 k=some (.box cs))
  (hx :∀b us ty,g.bl k=some b→w.heap[b]? = some (.cells us.toArray ty (0,0))→VXs c g m1 w cs us→∃ u,us[off]? = some u∧VX c g m1 w x u) :
  Sim c g (upd m1 k (some (.box (cs.set off x)))) w∧(∀y v,VX c g m1 w y v→VX c g (upd m1 k (some (.box (cs.set off x)))) w y v)∧Jb c g m1 w g (upd m1 k (some (.box (cs.set off x)))) w:=by
 have hlike :∀j,Jlp m1 (upd m1 k (some (.box (cs.set off x)))) j:=by
  intro j
  by_cases e:j=k
  ·subst e;exact .inr ⟨_,_,hbox,uS1 _ _ _⟩
  ·exact .inl (uO1 _ _ e)
 have hM :∀b,Mut g (upd m1 k (some (.box (cs.set off x)))) b→Mut g m1 b:=by
  rintro b ⟨j,ob,a1,a2,a3⟩
  by_cases e:j=k
  ·subst e;rw[uS1] at a1;cases a1;exact⟨j,_,hbox,rfl,.inl (a3.resolve_right fun h=>by cases h.1)⟩
  ·rw[uO1 _ _ e] at a1;exact⟨j,ob,a1,a2,a3⟩
 refine⟨Sim.restrict h1 fun j ob hj=>?_,fun y v h=>JkA hM _ _ (fun i _=>hlike i) h,⟨Nat.le_refl _,fun b q1 _ _=>⟨rfl,fun hm=>q1 (hM b hm)⟩,fun j cs' hj=>?_,fun j ty sz es dp rw hj=>?_,fun j hj=>?_⟩⟩
 ·by_cases e:j=k
  ·subst e;rw[uS1] at hj;simp only[JrD] at hj;subst hj;refine⟨⟨_,hbox,rfl⟩,fun cs' hcs=>?_,fun _ _ _ _ _ he=>by cases he⟩;cases hcs;obtain⟨b,us,ty,a1,a2,a3,a4⟩:=h1.box j _ hbox;obtain⟨u,hu,hvu⟩:=hx b us ty a1 a2 a3;exact⟨b,us,ty,a1,a2,KX hM _ _ (fun i _=>hlike i) (JkP _ _ _ _ _ a3 hu hvu),a4⟩
  ·rw[uO1 _ _ e] at hj;refine⟨⟨ob,hj,rfl⟩,fun cs' hcs=>?_,fun _ _ _ _ _ _=>hj⟩;subst hcs;obtain⟨b,us,ty,a1,a2,a3,a4⟩:=h1.box j _ hj;exact⟨b,us,ty,a1,a2,KX hM _ _ (fun i _=>hlike i) a3,a4⟩
 ·refine⟨?_,rfl⟩;rcases hlike j with e | ⟨_,cs2,_,e⟩
  ·exact⟨cs',by rw[e];exact hj⟩
  ·exact⟨cs2,e⟩
 ·rcases hlike j with e | ⟨_,cs2,e1,e⟩
  ·rw[e];exact .inr ⟨_,_,_,hj,.inl ⟨rfl,rfl,rfl⟩⟩
  ·rw[e1] at hj;cases hj
 ·rcases hlike j with e | ⟨_,cs2,e1,e⟩
  ·rw[e];exact hj
  ·rw[e1] at hj;cases hj
theorem JmJ (o:Jg0) {s:SSt} {g0:Gh} {m0:Mem} {w0:World} (hS:Sim c g (γm ρ s.m) w) (hH:Jm c g (γm ρ s.m) w (γs ρ s.sl) a) (hC:Jb c g0 m0 w0 g (γm ρ s.m) w) :
  ∃ g',Sim c g' (γm ρ (Jeu o s).m) w∧Jm c g' (γm ρ (Jeu o s).m) w (γs ρ (Jeu o s).sl) a∧Jb c g0 m0 w0 g' (γm ρ (Jeu o s).m) w:=by
 have same : ∃ g',Sim c g' (γm ρ s.m) w∧Jm c g' (γm ρ s.m) w (γs ρ s.sl) a∧Jb c g0 m0 w0 g' (γm ρ s.m) w:=⟨g,hS,hH,hC⟩;have slot :∀(t:Tmp) (x:SV) (mm:XE) (g':Gh),Sim c g' (γm ρ mm) w→Jb c g (γm ρ s.m) w g' (γm ρ mm) w→VX c g' (γm ρ mm) w (γX ρ x) (a.tmps.getD t undef) →
   ∃ g',Sim c g' (γm ρ mm) w∧Jm c g' (γm ρ mm) w (γs ρ ((t,x)::s.sl)) a∧Jb c g0 m0 w0 g' (γm ρ mm) w:=fun t x mm g' h1 h2 h3=>by
  refine⟨g',h1,fun j=>?_,hC.trans h2⟩;rw[Kc];unfold upd;split
  ·rename_i hj;subst hj;exact h3
  ·exact Qv h2 _ _ (hH j)
 have cell :∀(k:Key) (off:Nat) (cs:List SV) (x:SV) (mm:XE) (g':Gh),Sim c g' (γm ρ mm) w→Jb c g (γm ρ s.m) w g' (γm ρ mm) w→γm ρ mm k=some (.box (γXs ρ cs)) →
   (∀b us ty,g'.bl k=some b→w.heap[b]? = some (.cells us.toArray ty (0,0))→VXs c g' (γm ρ mm) w (γXs ρ cs) us→∃ u,us[off]? = some u∧VX c g' (γm ρ mm) w (γX ρ x) u) →
   ∃ g',Sim c g' (γm ρ ((k,.box (cs.set off x))::mm)) w∧Jm c g' (γm ρ ((k,.box (cs.set off x))::mm)) w (γs ρ s.sl) a∧Jb c g0 m0 w0 g' (γm ρ ((k,.box (cs.set off x))::mm)) w:=fun k off cs x mm g' h1 h2 hbox hx=>by
  obtain⟨q1,q2,q3⟩:=Ji9 h1 hbox hx;have e:γm ρ ((k,.box (cs.set off x))::mm)=upd (γm ρ mm) k (some (.box ((γXs ρ cs).set off (γX ρ x)))):=by
   rw[QU];simp only[γO,Jr,List.map_set]
  rw[e];exact⟨g',q1,fun j=>q2 _ _ (Qv h2 _ _ (hH j)),(hC.trans h2).trans q3⟩
 unfold Jeu;split
 ·exact same
 ·rename_i hk;have hk:γm ρ s.m o.key=none:=by
   cases h:s.m.lookup o.key with
   | none=>exact JkB h
   | some _=>rw[h] at hk;exact absurd rfl hk
  obtain⟨g',h1,h2,h3,_⟩:=JjN (ty:=o.ty) (sz:=o.sz) (dp:=o.dp) hS hk;have hcons:γm ρ ((o.key,.arr o.ty o.sz .nil o.dp true)::s.m)=upd (γm ρ s.m) o.key (some (.arr o.ty o.sz [] o.dp true)):=QU _ _ _ _;rw[←hcons] at h1 h2 h3;have ren :∀(j:Key) (l l':E) (ty:TypeId) (sz:Nat) (dp:Bool),s.m.lookup j=some (.arr ty sz l' dp true)→l.lsame l'=true →
    ∃ g',Sim c g' (γm ρ ((o.key,.arr ty sz l' (dp&&o.dp) true)::(j,.dead)::s.m)) w∧Jb c g (γm ρ s.m) w g' (γm ρ ((o.key,.arr ty sz l' (dp&&o.dp) true)::(j,.dead)::s.m)) w ∧
     ∀v,VX c g (γm ρ s.m) w (.o j (lst ρ l).length) v→VX c g' (γm ρ ((o.key,.arr ty sz l' (dp&&o.dp) true)::(j,.dead)::s.m)) w (.o o.key (lst ρ l').length) v:=fun j l l' ty sz dp hj hl=>by
   have hj':=JX (ρ:=ρ) hj;have e:γm ρ ((o.key,.arr ty sz l' (dp&&o.dp) true)::(j,.dead)::s.m)=upd (upd (γm ρ s.m) j (some .dead)) o.key (some (.arr ty sz (lst ρ l') (dp&&o.dp) true)):=by
    rw[QU,QU];rfl
   obtain⟨g2,a1,a2,a3⟩:=Jm5 hS hk hj';obtain⟨b1,b2⟩:=Sim.shallow (m':=upd (upd (γm ρ s.m) j (some .dead)) o.key (some (.arr ty sz (lst ρ l') (dp&&o.dp) true))) a1 (fun k=>by
    by_cases hke:k=o.key
    ·subst hke;cases hd:o.dp with
     | true=>exact .inl (by rw[Bool.and_true])
     | false=>exact .inr ⟨_,_,_,_,_,uS1 _ _ _,by rw[uS1,Bool.and_false]⟩
    ·exact .inl (by rw[uO1 _ _ hke,uO1 _ _ hke]))
   rw[e];refine⟨g2,b1,a2.trans b2,fun v hv=>⟨hv.1,⟨_,uS1 _ _ _,by simp⟩,fun ty' sz' es' dp' rw' he=>?_⟩⟩;rw[uS1] at he;cases he;exact⟨Nat.le_refl _,fun _=>by rw[a3];exact(hv.2.2 _ _ _ _ _ hj').2 (lL1 hl ρ)⟩
  split
  ·rename_i t hat;split
   ·rename_i hl;refine slot t _ _ g' h1 h2 ?_;have hv:=hH t;rw[Je1 hl] at hv;have hv:a.tmps.getD t undef=Qd:=(JW hv).1;rw[hv];exact h3
   ·rename_i j l hl;split
    ·split
     ·rename_i ty sz l' dp hj;split
      ·rename_i hll;obtain⟨g2,a1,a2,a3⟩:=ren j l l' ty sz dp hj hll;have hv:=hH t;rw[Je1 hl] at hv;exact slot t (.o o.key l') _ g2 a1 a2 (a3 _ hv)
      ·exact same
     ·exact same
    ·exact same
   ·exact same
  ·rename_i k off hat;split
   ·rename_i cs hl;have hke:k≠o.key:=fun e=>by
     subst e;rw[JX hl] at hk;cases hk
    split
    ·rename_i hoff;have hbox:γm ρ ((o.key,.arr o.ty o.sz .nil o.dp true)::s.m) k=some (.box (γXs ρ cs)):=by
      rw[hcons,uO1 _ _ hke,JX hl];rfl
     refine cell k off cs (.o o.key .nil) _ g' h1 h2 hbox fun b us ty _ _ a3=>?_;have hget:(γXs ρ cs)[off]? = some (.d (.v Qd)):=by rw[Jr,JrZ,hoff];rfl
     obtain⟨u,hu,hvu⟩:=W6 _ _ _ _ a3 hget;have hu':u=Qd:=(JW hvu).1;subst hu';exact⟨_,hu,h3⟩
    ·rename_i j l hoff;split
     ·split
      ·rename_i ty sz l' dp hj;split
       ·rename_i hll;obtain⟨g2,a1,a2,a3⟩:=ren j l l' ty sz dp hj hll;have hkj:k≠j:=fun e=>by subst e;rw[hl] at hj;cases hj
        have hbox:γm ρ ((o.key,.arr ty sz l' (dp&&o.dp) true)::(j,.dead)::s.m) k=some (.box (γXs ρ cs)):=by
         rw[QU,QU,uO1 _ _ hke,uO1 _ _ hkj,JX hl];rfl
        refine cell k off cs (.o o.key l') _ g2 a1 a2 hbox fun b us ty q1 q2 _=>?_;obtain⟨b0,us0,ty0,r1,r2,r3,_⟩:=hS.box k (γXs ρ cs) (by rw[JX hl];rfl);rw[(a2.box k _ (by rw[JX hl];rfl)).2,r1] at q1;cases q1;rw[r2] at q2;have e:us0=us:=by
         simp only[JrD,Go.Obj.cells.injEq] at q2;have:=congrArg Array.toList q2.1;simpa using this
        subst e;have hget:(γXs ρ cs)[off]? = some (.o j (lst ρ l).length):=by rw[Jr,JrZ,hoff];rfl
        obtain⟨u,hu,hvu⟩:=W6 _ _ _ _ r3 hget;exact⟨u,hu,a3 u hvu⟩
       ·exact same
      ·exact same
     ·exact same
    ·exact same
   ·exact same
  ·rename_i j hat;split
   ·rename_i ty sz l' dp hj;have hj':=JX (ρ:=ρ) hj;have e:γm ρ ((o.key,.arr ty sz l' dp true)::(j,.dead)::s.m)=upd (upd (γm ρ s.m) j (some .dead)) o.key (some (.arr ty sz (lst ρ l') dp true)):=by
     rw[QU,QU];rfl
    obtain⟨g2,a1,a2,_⟩:=Jm5 hS hk hj';rw[←e] at a1 a2;exact⟨g2,a1,fun t=>Qv a2 _ _ (hH t),hC.trans a2⟩
   ·rename_i ty sz l' dp hj;have hj':=JX (ρ:=ρ) hj;obtain⟨a1,a2⟩:=JoK hS hj';have e:γm ρ ((j,.dead)::s.m)=upd (γm ρ s.m) j (some .dead):=QU _ _ _ _;rw[←e] at a1 a2;exact⟨g,a1,fun t=>Qv a2 _ _ (hH t),hC.trans a2⟩
   ·exact same
  ·rename_i k off hat;split
   ·rename_i cs hl;split
    ·rename_i j l hoff;split
     ·rename_i ty sz l' dp rw0 hj;split
      ·rename_i hll;have hkj:k≠j:=fun e=>by subst e;rw[hl] at hj;cases hj
       have hj':=JX (ρ:=ρ) hj;have hboxs:γm ρ s.m k=some (.box (γXs ρ cs)):=by rw[JX hl];rfl
       obtain⟨b0,us0,ty0,r1,r2,r3,_⟩:=hS.box k (γXs ρ cs) hboxs;have hget:(γXs ρ cs)[off]? = some (.o j (lst ρ l).length):=by rw[Jr,JrZ,hoff];rfl
       obtain⟨u,hu,hvu⟩:=W6 _ _ _ _ r3 hget;have htake:(take (.o j (lst ρ l).length)).run (γm ρ s.m)=some (.s (lst ρ l'),upd (γm ρ s.m) j (some (.arr ty sz (lst ρ l') false false))):=by
        simp[take,MP.run,hj',γO,lL1 hll ρ]
       obtain⟨⟨fp,t1,t2⟩,t3,t4⟩:=Ua (.o j (lst ρ l).length) u _ _ _ hS hvu htake;have e:γm ρ ((j,.arr ty sz l' false false)::s.m)=upd (γm ρ s.m) j (some (.arr ty sz (lst ρ l') false false)):=QU _ _ _ _;rw[←e] at t2 t3 t4;have hbox:γm ρ ((j,.arr ty sz l' false false)::s.m) k=some (.box (γXs ρ cs)):=by rw[e,uO1 _ _ hkj,hboxs]
       refine cell k off cs (.d (.s l')) _ g t3 t4 hbox fun b us ty1 q1 q2 _=>?_;rw[r1] at q1;cases q1;rw[r2] at q2;have e2:us0=us:=by
        simp only[JrD,Go.Obj.cells.injEq] at q2;have:=congrArg Array.toList q2.1;simpa using this
       subst e2;exact⟨u,hu,fp,t1,t2⟩
      ·exact same
     ·exact same
    ·exact same
   ·exact same
end
end Go.Tm
end
section
namespace Go.Tm
open Go.IntKind (i64)
section
variable {P:Program} {c:Cx P} {g:Gh} {m mk:Mem} {w:World} {a:Act} {ρ ρ':Env}
def sw (a b k:Key):Key:=bif Nat.beq k a then b else bif Nat.beq k b then a else k
theorem sw_a (a b:Key):sw a b a=b:=by simp[sw]
theorem sw_b (a b:Key):sw a b b=a:=by
 unfold sw
 by_cases h:b=a
 ·subst h;simp
 ·have:Nat.beq b a=false:=Bool.eq_false_iff.2 fun e=>h (Nat.eq_of_beq_eq_true e);simp[this]
theorem Jqa {a b k:Key} (h1:k≠a) (h2:k≠b):sw a b k=k:=by
 have e1:Nat.beq k a=false:=Bool.eq_false_iff.2 fun e=>h1 (Nat.eq_of_beq_eq_true e);have e2:Nat.beq k b=false:=Bool.eq_false_iff.2 fun e=>h2 (Nat.eq_of_beq_eq_true e);simp[sw,e1,e2]
theorem Jiv (a b k:Key):sw a b (sw a b k)=k:=by
 by_cases h1:k=a
 ·subst h1;rw[sw_a,sw_b]
 ·by_cases h2:k=b
  ·subst h2;rw[sw_b,sw_a]
  ·rw[Jqa h1 h2,Jqa h1 h2]
def swK (a b:Key) (s:SSt):SSt:=⟨s.sl.map fun p=>(p.1,p.2.ren (sw a b)),s.m.map fun p=>(sw a b p.1,p.2.ren (sw a b))⟩
theorem Jew {α:Type} (a b:Key) (f:α→α) :∀(l:List (Nat×α)) (k:Nat),(l.map fun p=>(sw a b p.1,f p.2)).lookup k=(l.lookup (sw a b k)).map f
 | [],k=>rfl
 | (j,x)::l,k=>by
  simp only[JrM,List.lookup_cons]
  by_cases h:sw a b k=j
  ·subst h;rw[Jiv];simp
  ·have h2 : ¬k=sw a b j:=fun e=>h (by rw[e,Jiv]);have hb:(k == sw a b j)=false:=by simpa using h2
   have hb':(sw a b k == j)=false:=by simpa using h
   simp only[hb,hb',Jew a b f l k]
theorem JpE (x y:Key) {nl:Nat} (hx:nl≤x) (hy:nl≤y) {s:SSt} {g0:Gh} {m0:Mem} {w0:World} (hl :∀k,m0 k≠none→k<nl) (hS:Sim c g (γm ρ s.m) w) (hH:Jm c g (γm ρ s.m) w (γs ρ s.sl) a) (hC:Jb c g0 m0 w0 g (γm ρ s.m) w) :
  ∃ g',Sim c g' (γm ρ (swK x y s).m) w∧Jm c g' (γm ρ (swK x y s).m) w (γs ρ (swK x y s).sl) a∧Jb c g0 m0 w0 g' (γm ρ (swK x y s).m) w:=by
 have hm :∀k,γm ρ (swK x y s).m k=(γm ρ s.m (sw x y k)).map (Obj.ren (sw x y)):=by
  intro k;unfold γm swK;simp only[Jew,Option.map_map];cases s.m.lookup (sw x y k) with
  | none=>rfl
  | some o=>simp only[JrG,Function.comp,Jaj]
 have hs :∀t,γs ρ (swK x y s).sl t=(γs ρ s.sl t).ren (sw x y):=by
  intro t;unfold γs swK;simp only[YD];cases s.sl.lookup t with
  | none=>rfl
  | some v=>simp only[JrG,JdA]
 generalize γm ρ (swK x y s).m=m2 at *;generalize γs ρ (swK x y s).sl=sl2 at *;generalize γm ρ s.m=m at *
 let g':Gh:=⟨fun k=>g.bl (sw x y k),fun k=>g.hd (sw x y k),fun k=>g.fd (sw x y k),fun b=>(g.ow b).map (sw x y)⟩
 have hMut :∀b,Mut g' m2 b→Mut g m b:=by
  rintro b ⟨k,o,hk,hr,hb⟩;rw[hm] at hk;cases ho:m (sw x y k) with
  | none=>rw[ho] at hk;cases hk
  | some o0 =>
   rw[ho] at hk;simp only[JrG,JrD] at hk;exact⟨_,o0,ho,by rw[←Jbb (ρ:=sw x y) o0,hk];exact hr,U2 (g:=g) (k:=sw x y k) hb rfl rfl (by rw[←hk,Vs])⟩
 have hF :∀fp,(∀b∈fp,b<w.heap.size)→JP c g m fp→JP c g' m2 fp:=fun fp _ hf b hb=>⟨fun h=>(hf b hb).1 (hMut b h),(hf b hb).2⟩;have hat :∀k,True→m2 (sw x y k)=(m k).map (Obj.ren (sw x y))∧g'.bl (sw x y k)=g.bl k∧g'.hd (sw x y k)=g.hd k∧g'.fd (sw x y k)=g.fd k:=by
  intro k _;refine⟨by rw[hm,Jiv],?_,?_,?_⟩ <;> simp only[g',Jiv]
 have hPart:JmE c g m w c g' m2 (sw x y) (sw x y) (fun _=>True):=⟨fun k o _=>⟨trivial,Jiv _ _ _⟩,hat,fun _ _ _ _ _ _=>trivial⟩;refine⟨g',hPart.sim hS hS.frame hF (fun k b _ how=>by simp only[g',how,JrG]) (fun b k hb=>?_),fun t=>?_,?_⟩
 ·cases ho:g.ow b with
  | none=>simp[g',ho] at hb
  | some k0=>exact hS.live b k0 ho
 ·rw[hs];exact JdF (K:=fun _=>True) (fun k hk=>⟨(hat k hk).1,(hat k hk).2.1,(hat k hk).2.2.1⟩) hF _ _ (fun _ _=>trivial) (hH t)
 ·have hne :∀k,m0 k≠none→sw x y k=k:=fun k hk=>by
   have:=hl k hk;exact Jqa (Nat.ne_of_lt (Nat.lt_of_lt_of_le this hx)) (Nat.ne_of_lt (Nat.lt_of_lt_of_le this hy))
  refine⟨hC.size,fun b h1 h2 h3=>⟨(hC.pure b h1 h2 h3).1,fun h=>(hC.pure b h1 h2 h3).2 (hMut b h)⟩,fun k cs hk=>?_,fun k ty sz es dp rw hk=>?_,fun k hk=>?_⟩
  ·have he:=hne k (by rw[hk];simp);obtain⟨⟨cs',h1⟩,h2⟩:=hC.box k cs hk;exact⟨⟨Uu (sw x y) cs',by rw[hm,he,h1];rfl⟩,by simp only[g',he];exact h2⟩
  ·have he:=hne k (by rw[hk];simp);rcases hC.arr k ty sz es dp rw hk with h | ⟨es',dp',rw',h1,h2⟩
   ·exact .inl (by rw[hm,he,h];rfl)
   ·refine .inr ⟨es',dp',rw',by rw[hm,he,h1];rfl,?_⟩;simp only[g',he];exact h2
  ·have he:=hne k (by rw[hk];simp);rw[hm,he,hC.dead k hk];rfl
theorem JnA {m2:Mem} (hS:Sim c g m w) (h :∀j,m2 j=m j∨∃ cs cs',m j=some (.box cs)∧m2 j=some (.box cs')∧∀us,VXs c g m w cs us→VXs c g m w cs' us) :
  Sim c g m2 w∧(∀x v,VX c g m w x v→VX c g m2 w x v)∧∀g0 m0 w0,Jb c g0 m0 w0 g m w→Jb c g0 m0 w0 g m2 w:=by
 have hlike :∀j,Jlp m m2 j:=fun j=>by
  rcases h j with e | ⟨cs,cs',e1,e2,_⟩
  ·exact .inl e
  ·exact .inr ⟨cs,cs',e1,e2⟩
 have hM :∀b,Mut g m2 b→Mut g m b:=by
  rintro b ⟨k,o,hk,hr,hb⟩;rcases h k with e | ⟨cs,cs',e1,e2,_⟩
  ·exact⟨k,o,by rw[←e];exact hk,hr,hb⟩
  ·rw[e2] at hk;cases hk;exact⟨k,_,e1,rfl,.inl (hb.resolve_right fun h=>by cases h.1)⟩
 have hVX :∀x v,VX c g m w x v→VX c g m2 w x v:=fun x v hx=>JkA hM x v (fun k _=>hlike k) hx;refine⟨Sim.restrict hS fun k o hk=>?_,hVX,fun g0 m0 w0 hC=>⟨hC.size,fun b h1 h2 h3=>⟨(hC.pure b h1 h2 h3).1,fun hm=>(hC.pure b h1 h2 h3).2 (hM b hm)⟩,fun k cs hk=>?_,fun k ty sz es dp rw hk=>?_,fun k hk=>?_⟩⟩
 ·rcases h k with e | ⟨cs,cs',e1,e2,e3⟩
  ·rw[e] at hk;refine⟨⟨o,hk,rfl⟩,fun cs hcs=>?_,fun _ _ _ _ _ _=>hk⟩;subst hcs;obtain⟨b,us,ty,a1,a2,a3,a4⟩:=hS.box k cs hk;exact⟨b,us,ty,a1,a2,KX hM _ _ (fun i _=>hlike i) a3,a4⟩
  ·rw[e2] at hk;simp only[JrD] at hk;subst hk;refine⟨⟨_,e1,rfl⟩,fun cs1 hcs=>?_,fun _ _ _ _ _ he=>by cases he⟩;cases hcs;obtain⟨b,us,ty,a1,a2,a3,a4⟩:=hS.box k cs e1;exact⟨b,us,ty,a1,a2,KX hM _ _ (fun i _=>hlike i) (e3 us a3),a4⟩
 ·obtain⟨⟨cs1,e1⟩,e2⟩:=hC.box k cs hk;refine⟨?_,e2⟩;rcases hlike k with e | ⟨_,cs2,_,e⟩
  ·exact⟨cs1,by rw[e];exact e1⟩
  ·exact⟨cs2,e⟩
 ·have:=hC.arr k ty sz es dp rw hk;rcases hlike k with e | ⟨_,cs2,e1,e⟩
  ·rw[e];exact this
  ·rcases this with h | ⟨_,_,_,h,_⟩
   ·rw[e1] at h;cases h
   ·rw[e1] at h;cases h
 ·have:=hC.dead k hk;rcases hlike k with e | ⟨_,cs2,e1,e⟩
  ·rw[e];exact this
  ·rw[e1] at this;cases this
mutual
def tkV (k:Key) (l:E):SV→SV
 | .o j x=>bif Nat.beq j k&&x.same l then .d (.s l) else .o j x
 | .g cs=> .g (Jld k l cs)
 | .t cs=> .t (Jld k l cs)
 | .f fn cs=> .f fn (Jld k l cs)
 | v=>v
def Jld (k:Key) (l:E):List SV→List SV
 | []=>[]
 | c::cs=>tkV k l c::Jld k l cs
end
def tkO (k:Key) (l:E):Je→Je
 | .box cs=> .box (Jld k l cs)
 | o=>o
mutual
theorem Joh {k:Key} {l:E} (h :∀v,VX c g m w (.o k (lst ρ l).length) v→VX c g m w (.d (.s (lst ρ l))) v) :∀(x:SV) (v:Value),VX c g m w (γX ρ x) v→VX c g m w (γX ρ (tkV k l x)) v
 | .o j x,v,hv=>by
  simp only[tkV];cases hb:Nat.beq j k&&x.same l with
  | false=>exact hv
  | true =>
   simp only[JrE,Nat.beq_eq] at hb;obtain⟨rfl,h2⟩:=hb;simp only[cond_true,γX] at hv ⊢;rw[Jhz h2] at hv;exact h v hv
 | .g cs,v,⟨vs,e,h1,h2⟩=>⟨vs,e,WT h cs vs h1,h2⟩
 | .t cs,v,⟨vs,e,h1⟩=>⟨vs,e,WT h cs vs h1⟩
 | .f fn cs,v,⟨vs,e,h1⟩=>⟨vs,e,WT h cs vs h1⟩
 | .d _,v,h1=>h1
 | .p _ _,v,h1=>h1
 | .e _ _ _ _,v,h1=>h1
 | .u,v,h1=>h1
theorem WT {k:Key} {l:E} (h :∀v,VX c g m w (.o k (lst ρ l).length) v→VX c g m w (.d (.s (lst ρ l))) v) :∀(xs:List SV) (vs:List Value),VXs c g m w (γXs ρ xs) vs→VXs c g m w (γXs ρ (Jld k l xs)) vs
 | [],vs,hv=>hv
 | x::xs,vs,⟨v,vs',e,h1,h2⟩=>⟨v,vs',e,Joh h x v h1,WT h xs vs' h2⟩
end
def JeO (k:Key) (s:SSt):SSt:=match s.m.lookup k with
 | some (.arr ty sz l _ _)=>⟨s.sl.map fun p=>(p.1,tkV k l p.2),((k,.arr ty sz l false false)::s.m).map fun p=>(p.1,tkO k l p.2)⟩
 | _=>s
theorem Jmu (k:Key) {s:SSt} {g0:Gh} {m0:Mem} {w0:World} (hS:Sim c g (γm ρ s.m) w) (hH:Jm c g (γm ρ s.m) w (γs ρ s.sl) a) (hC:Jb c g0 m0 w0 g (γm ρ s.m) w) :
  ∃ g',Sim c g' (γm ρ (JeO k s).m) w∧Jm c g' (γm ρ (JeO k s).m) w (γs ρ (JeO k s).sl) a∧Jb c g0 m0 w0 g' (γm ρ (JeO k s).m) w:=by
 unfold JeO;split
 ·rename_i ty sz l dp rw hk;have hmk:=JX (ρ:=ρ) hk;have hm1:γm ρ ((k,.arr ty sz l false false)::s.m)=upd (γm ρ s.m) k (some (.arr ty sz (lst ρ l) false false)):=QU _ _ _ _;have hm2 :∀j,γm ρ (((k,.arr ty sz l false false)::s.m).map fun p=>(p.1,tkO k l p.2)) j=(((k,.arr ty sz l false false)::s.m).lookup j).map fun o=>γO ρ (tkO k l o):=by
   intro j;unfold γm;rw[YD,Option.map_map];rfl
  have hm1' :∀j,γm ρ ((k,.arr ty sz l false false)::s.m) j=(((k,.arr ty sz l false false)::s.m).lookup j).map (γO ρ):=fun j=>rfl;generalize γm ρ (((k,.arr ty sz l false false)::s.m).map fun p=>(p.1,tkO k l p.2))=m2 at *;have hrun:(take (.o k (lst ρ l).length)).run (γm ρ s.m)=some (.s (lst ρ l),upd (γm ρ s.m) k (some (.arr ty sz (lst ρ l) false false))):=by
   simp only[take,MP.run,hmk];simp only[γO,if_true,MP.run,hmk]
  have hhd:VX c g (γm ρ s.m) w (.o k (lst ρ l).length) (g.hd k):=by
   obtain⟨h1,_,_⟩:=hS.arr k ty sz (lst ρ l) dp rw hmk;refine⟨?_,⟨_,hmk,by simp[γO]⟩,fun ty1 sz1 es1 dp1 rw1 h=>?_⟩
   ·rcases h1 with ⟨_,h,_⟩ | ⟨b,cap,cs,_,h,_⟩
    ·rw[h];rfl
    ·rw[h];rfl
   ·rw[hmk] at h;simp only[γO,JrD,Obj.arr.injEq] at h;obtain⟨_,_,rfl,_⟩:=h;exact⟨Nat.le_refl _,fun _=>rfl⟩
  obtain⟨hRd,hS1,hC1⟩:=Ua _ _ _ _ _ hS hhd hrun;have hH1 :∀x v,VX c g (γm ρ s.m) w x v→VX c g (upd (γm ρ s.m) k (some (.arr ty sz (lst ρ l) false false))) w x v:=fun x v=>Qv hC1 x v;have hC2:=hC.trans hC1;rw[hm1] at hm1';have hu:upd (γm ρ s.m) k (some (.arr ty sz (lst ρ l) false false)) k=some (.arr ty sz (lst ρ l) false false):=uS1 _ _ _;have hH:Jm c g (upd (γm ρ s.m) k (some (.arr ty sz (lst ρ l) false false))) w (γs ρ s.sl) a:=fun t=>hH1 _ _ (hH t);generalize upd (γm ρ s.m) k (some (.arr ty sz (lst ρ l) false false))=m1 at *;have htk :∀v,VX c g m1 w (.o k (lst ρ l).length) v→VX c g m1 w (.d (.s (lst ρ l))) v:=by
   rintro v ⟨_,_,h⟩;have:=(h _ _ _ _ _ hu).2 rfl;rw[this];exact hRd
  obtain⟨r1,r2,r3⟩:=JnA (m2:=m2) hS1 fun j=>by
   rw[hm1',hm2];cases ((k,Je.arr ty sz l false false)::s.m).lookup j with
   | none=>exact .inl rfl
   | some o =>
    cases o with
    | box cs=>exact .inr ⟨_,_,rfl,rfl,fun us h=>WT htk cs us h⟩
    | _=>exact .inl rfl
  refine⟨g,r1,fun t=>r2 _ _ ?_,r3 _ _ _ hC2⟩;have hv:=hH t;unfold γs at hv ⊢;rw[YD];cases hlk:s.sl.lookup t with
  | none=>trivial
  | some x =>
   rw[hlk] at hv;exact Joh htk x _ hv
 ·exact⟨g,hS,hH,hC⟩
mutual
def misV:SV→SV→List (Key×Option Key)
 | .o k _,.o j _=>bif Nat.beq k j then [] else [(j,some k)]
 | .d (.s _),.o j _=>[(j,none)]
 | .g ps,.g vs=>Jj1 ps vs
 | .t ps,.t vs=>Jj1 ps vs
 | _,_=>[]
def Jj1:List SV→List SV→List (Key×Option Key)
 | p::ps,v::vs=>misV p v++Jj1 ps vs
 | _,_=>[]
end
def Jil (nl:Nat) (q:Key×Option Key) (s:SSt):SSt:=match q with
 | (j,some k)=>bif Nat.ble nl j&&Nat.ble nl k then swK k j s else s
 | (j,none)=>bif Nat.ble nl j then JeO j s else s
def JdN (nl:Nat) (t:Tmp) (p:SV):Nat→SSt→SSt
 | 0,s=>s
 | n+1,s=>match s.sl.lookup t with
  | some v=>match misV p v with
   | q::_=>JdN nl t p n (Jil nl q s)
   | []=>s
  | none=>s
def Ji3 (nl:Nat) (k:Key) (ps:List SV):Nat→SSt→SSt
 | 0,s=>s
 | n+1,s=>match s.m.lookup k with
  | some (.box vs)=>match Jj1 ps vs with
   | q::_=>Ji3 nl k ps n (Jil nl q s)
   | []=>s
  | _=>s
def Jbd (nl:Nat):SSl→SSt→SSt
 | [],s=>s
 | (t,p)::l,s=>Jbd nl l (JdN nl t p 16 s)
def Jds (nl:Nat):XE→SSt→SSt
 | [],s=>s
 | (k,.box ps)::l,s=>Jds nl l (Ji3 nl k ps 16 s)
 | _::l,s=>Jds nl l s
def SSt.like (nl:Nat) (t s:SSt):SSt:=Jds nl t.m (Jbd nl t.sl s.fresh)
section
variable {g0:Gh} {m0:Mem} {w0:World} {nl:Nat} (hl :∀k,m0 k≠none→k<nl)
include hl
theorem JjT (q:Key×Option Key) {g:Gh} {s:SSt} (hS:Sim c g (γm ρ s.m) w) (hH:Jm c g (γm ρ s.m) w (γs ρ s.sl) a) (hC:Jb c g0 m0 w0 g (γm ρ s.m) w) :
  ∃ g',Sim c g' (γm ρ (Jil nl q s).m) w∧Jm c g' (γm ρ (Jil nl q s).m) w (γs ρ (Jil nl q s).sl) a∧Jb c g0 m0 w0 g' (γm ρ (Jil nl q s).m) w:=by
 obtain⟨j,o⟩:=q;cases o with
 | some k =>
  simp only[Jil];cases hb:Nat.ble nl j&&Nat.ble nl k with
  | false=>exact⟨g,hS,hH,hC⟩
  | true =>
   simp only[JrE,Nat.ble_eq] at hb;exact JpE k j hb.2 hb.1 hl hS hH hC
 | none =>
  simp only[Jil];cases hb:Nat.ble nl j with
  | false=>exact⟨g,hS,hH,hC⟩
  | true=>exact Jmu j hS hH hC
theorem JgY (t:Tmp) (p:SV) :∀(n:Nat) {g:Gh} {s:SSt},Sim c g (γm ρ s.m) w→Jm c g (γm ρ s.m) w (γs ρ s.sl) a→Jb c g0 m0 w0 g (γm ρ s.m) w →
  ∃ g',Sim c g' (γm ρ (JdN nl t p n s).m) w∧Jm c g' (γm ρ (JdN nl t p n s).m) w (γs ρ (JdN nl t p n s).sl) a∧Jb c g0 m0 w0 g' (γm ρ (JdN nl t p n s).m) w
 | 0,g,s,hS,hH,hC=>⟨g,hS,hH,hC⟩
 | n+1,g,s,hS,hH,hC=>by
  simp only[JdN];split
  ·split
   ·obtain⟨g1,h1,h2,h3⟩:=JjT hl _ hS hH hC;exact JgY t p n h1 h2 h3
   ·exact⟨g,hS,hH,hC⟩
  ·exact⟨g,hS,hH,hC⟩
theorem JkN (k:Key) (ps:List SV) :∀(n:Nat) {g:Gh} {s:SSt},Sim c g (γm ρ s.m) w→Jm c g (γm ρ s.m) w (γs ρ s.sl) a→Jb c g0 m0 w0 g (γm ρ s.m) w →
  ∃ g',Sim c g' (γm ρ (Ji3 nl k ps n s).m) w∧Jm c g' (γm ρ (Ji3 nl k ps n s).m) w (γs ρ (Ji3 nl k ps n s).sl) a∧Jb c g0 m0 w0 g' (γm ρ (Ji3 nl k ps n s).m) w
 | 0,g,s,hS,hH,hC=>⟨g,hS,hH,hC⟩
 | n+1,g,s,hS,hH,hC=>by
  simp only[Ji3];split
  ·split
   ·obtain⟨g1,h1,h2,h3⟩:=JjT hl _ hS hH hC;exact JkN k ps n h1 h2 h3
   ·exact⟨g,hS,hH,hC⟩
  ·exact⟨g,hS,hH,hC⟩
theorem Jfd :∀(l:SSl) {g:Gh} {s:SSt},Sim c g (γm ρ s.m) w→Jm c g (γm ρ s.m) w (γs ρ s.sl) a→Jb c g0 m0 w0 g (γm ρ s.m) w →
  ∃ g',Sim c g' (γm ρ (Jbd nl l s).m) w∧Jm c g' (γm ρ (Jbd nl l s).m) w (γs ρ (Jbd nl l s).sl) a∧Jb c g0 m0 w0 g' (γm ρ (Jbd nl l s).m) w
 | [],g,s,hS,hH,hC=>⟨g,hS,hH,hC⟩
 | (t,p)::l,g,s,hS,hH,hC=>by
  obtain⟨g1,h1,h2,h3⟩:=JgY hl t p 16 hS hH hC;exact Jfd l h1 h2 h3
theorem Jat :∀(l:XE) {g:Gh} {s:SSt},Sim c g (γm ρ s.m) w→Jm c g (γm ρ s.m) w (γs ρ s.sl) a→Jb c g0 m0 w0 g (γm ρ s.m) w →
  ∃ g',Sim c g' (γm ρ (Jds nl l s).m) w∧Jm c g' (γm ρ (Jds nl l s).m) w (γs ρ (Jds nl l s).sl) a∧Jb c g0 m0 w0 g' (γm ρ (Jds nl l s).m) w
 | [],g,s,hS,hH,hC=>⟨g,hS,hH,hC⟩
 | (k,.box ps)::l,g,s,hS,hH,hC=>by
  obtain⟨g1,h1,h2,h3⟩:=JkN hl k ps 16 hS hH hC;exact Jat l h1 h2 h3
 | (k,.arr _ _ _ _ _)::l,g,s,hS,hH,hC=>Jat l hS hH hC
 | (k,.dead)::l,g,s,hS,hH,hC=>Jat l hS hH hC
theorem JfW (t:SSt) {s:SSt} {g:Gh} (hS:Sim c g (γm ρ s.m) w) (hH:Jm c g (γm ρ s.m) w (γs ρ s.sl) a) (hC:Jb c g0 m0 w0 g (γm ρ s.m) w) :
  ∃ g',Sim c g' (γm ρ (SSt.like nl t s).m) w∧Jm c g' (γm ρ (SSt.like nl t s).m) w (γs ρ (SSt.like nl t s).sl) a∧Jb c g0 m0 w0 g' (γm ρ (SSt.like nl t s).m) w:=by
 obtain⟨e1,e2⟩:=JhL ρ s;obtain⟨g1,h1,h2,h3⟩:=Jfd hl t.sl (s:=s.fresh) (by rw[e2];exact hS) (by rw[e1,e2];exact hH) (by rw[e2];exact hC);exact Jat hl t.m h1 h2 h3
end
end
end Go.Tm
end
section
namespace Go.Tm
open Go.IntKind (i64)
section
variable {P:Program} {c:Cx P} {g:Gh} {m:Mem} {w:World}
theorem JeP :∀(ds:List D) (ks:Kds) (vs:List Value) (fp:List Nat) (j:Nat) (d:D),ZR P w ds ks vs fp→ds[j]? = some d →
  ∃ v A f B,vs[j]? = some v∧fp=A++f++B∧Ow P w d (ks.drop j) v f∧v.oneCell=true ∧
   ∀(w':World) (d':D) (f':List Nat),(∀q∈A++B,w'.heap[q]? = w.heap[q]?)→Ow P w' d' (ks.drop j) v f'→ZR P w' (ds.set j d') ks vs (A++f'++B)
 | [],_,_,_,j,d,_,hj=>by simp at hj
 | e::cs,ks,vs,fp,0,d,⟨v,vs',f1,f2,he,hf,h1,h2,h3⟩,hj=>by
  subst he;simp at hj;subst hj;exact⟨v,[],f1,f2,rfl,by simp[hf],Jgq h3 h1,h3,fun w' d' f' hs hO=>⟨v,vs',f',f2,rfl,by simp,Jmv h3 hO,JaE _ _ _ _ (fun q hq=>hs q (by simpa using hq)) h2,h3⟩⟩
 | e::cs,ks,vs,fp,j+1,d,⟨v,vs',f1,f2,he,hf,h1,h2,h3⟩,hj=>by
  subst he;obtain⟨u,A,f,B,a1,a2,a3,a4,a5⟩:=JeP cs _ vs' f2 j d h2 (by simpa using hj);rw[List.drop_drop,Nat.add_comm] at a3;refine⟨u,f1++A,f,B,by simpa using a1,by rw[hf,a2];simp,a3,a4,fun w' d' f' hs hO=>?_⟩;refine⟨v,vs',f1,A++f'++B,rfl,by simp,Jaf _ _ _ _ (fun q hq=>hs q (by simp[hq])) h1,?_,h3⟩;exact a5 w' d' f' (fun q hq=>hs q (by simp only[JrJ] at hq ⊢;rcases hq with h | h <;> simp[h])) (by rw[List.drop_drop,Nat.add_comm];exact hO)
theorem JjI {α:Type} (cs:List α) (off:Nat) (d:α) (h:off<cs.length):Jd cs off [d]=cs.set off d:=by
 unfold Jd;rw[List.set_eq_take_append_cons_drop,if_pos h];simp
theorem Jhk {α:Type} (vs:List α) (i n:Nat) (h:i+n≤vs.length):Jd vs i ((vs.drop i).take n)=vs:=by
 unfold Jd;have hl:((vs.drop i).take n).length=n:=by simp;omega
 rw[hl,List.append_assoc,show vs.drop (i+n)=(vs.drop i).drop n by rw[List.drop_drop],List.take_append_drop,List.take_append_drop]
theorem JoD {e d:D} {ks:Kds} {val:Value} {fe:List Nat} {off:Nat} (h:Ow P w e ks val fe) (ho :∀u∈val.cells.toList,u.oneCell=true) (hd:e.cells[off]? = some d) :
  ∃ v A f B,val.cells.toList[off]? = some v∧fe=A++f++B∧Ow P w d (ks.drop off) v f∧v.oneCell=true ∧
   ∀(w':World) (d' e':D) (f':List Nat),(∀q∈A++B,w'.heap[q]? = w.heap[q]?)→Ow P w' d' (ks.drop off) v f'→e.put off [d']=some e'→Ow P w' e' ks val (A++f'++B):=by
 by_cases hg : ∃ cs,e = .g cs
 ·obtain⟨cs,rfl⟩:=hg;obtain⟨vs,rfl,hr⟩:=h;obtain⟨v,A,f,B,a1,a2,a3,a4,a5⟩:=JeP cs ks vs fe off d hr hd;refine⟨v,A,f,B,by simpa[Value.cells] using a1,a2,a3,a4,fun w' d' e' f' hs hO hp=>?_⟩;simp only[D.put] at hp;split at hp
  ·simp only[JrD] at hp;subst hp;have hlt:off<cs.length:=(JrF.1 hd).1;rw[JjI _ _ _ hlt];exact⟨vs,rfl,a5 w' d' f' hs hO⟩
  ·cases hp
 ·have hcell:e.cells=[e]:=by cases e <;> first | rfl | exact absurd ⟨_,rfl⟩ hg
  rw[hcell] at hd;have hoff:off=0:=by
   cases off with
   | zero=>rfl
   | succ n=>simp at hd
  subst hoff;simp only[List.getElem?_cons_zero,JrD] at hd;subst hd;have hval:val.cells.toList=[val]∧val.oneCell=true:=by
   cases e with
   | v x=>obtain⟨rfl,h1,_⟩:=h;exact⟨by rw[Yv h1],h1⟩
   | g cs=>exact absurd ⟨_,rfl⟩ hg
   | s es =>
    obtain⟨_,_,_,⟨rfl,_⟩ | ⟨_,_,_,_,rfl,_⟩⟩:=h <;> exact⟨rfl,rfl⟩
   | q _=>exact h.elim
   | f _ _=>exact h.elim
   | t _=>exact h.elim
  refine⟨val,[],fe,[],by rw[hval.1];rfl,by simp,h,hval.2,fun w' d' e' f' hs hO hp=>?_⟩;have hde:d'=e':=by
   cases e <;> simp only[D.put] at hp <;> first
    | exact absurd ⟨_,rfl⟩ hg
    | (simp only[JrD] at hp;exact hp)
  subst hde;simpa using hO
theorem JiO {es:List D} {ks:Kds} {sz:Nat} {vals:List Value} {fp:List Nat} {i off:Nat} {e d:D} (h:YY P w es ks sz vals fp) (hi:es[i]? = some e) (hd:e.cells[off]? = some d) :
  ∃ hv A f B,vals[i*sz+off]? = some hv∧fp=A++f++B∧Ow P w d (ks.drop off) hv f∧hv.oneCell=true ∧
   ∀(w':World) (d' e':D) (f':List Nat),(∀q∈A++B,w'.heap[q]? = w.heap[q]?)→Ow P w' d' (ks.drop off) hv f'→e.put off [d']=some e'→YY P w' (es.set i e') ks sz vals (A++f'++B):=by
 obtain⟨X,fe,Q,val,hfp,h1,h2,hvalc,h5,hset⟩:=Jbc es ks sz vals fp i e h hi;obtain⟨v,A,f,B,a1,a2,a3,a4,a5⟩:=JoD h1 h5 hd;have hlen:=JN _ _ _ _ (VC _ _ _ _ _ h);have hilt:i<es.length:=(JrF.1 hi).1;have hisz:i*sz+sz≤es.length*sz:=by rw[←Nat.succ_mul];exact Nat.mul_le_mul_right _ hilt
 have hofflt:off<sz:=by
  have:=(JrF.1 a1).1;rw[JrO,h2] at this;exact this
 refine⟨v,X++A,f,B++Q,?_,by rw[hfp,a2];simp,a3,a4,fun w' d' e' f' hs hO hp=>?_⟩
 ·rw[hvalc,Jr4 hofflt,List.getElem?_drop] at a1;exact a1
 ·have:=hset w' e' val (A++f'++B) (fun q hq=>hs q (by simp only[JrJ] at hq ⊢;rcases hq with h | h <;> simp[h])) (a5 w' d' e' f' (fun q hq=>hs q (by simp only[JrJ] at hq ⊢;rcases hq with h | h <;> simp[h])) hO hp) h2 h5;rw[hvalc,Jhk _ _ _ (by omega)] at this;simpa using this
theorem JhV {f:FuncId} {S:Y0} {k:Key} {ty ity:TypeId} {sz isz i off b:Nat} {es es1 es2:List D} {e e' kd r:D} {kv:Value} {m1:Mem} {Φ:Fix P} (hX:FnX P Φ f S) (hΦ:Φ.ok c) (hS:Sim c g m w)
  (hk:m k=some (.arr ty sz es true true)) (hb:g.bl k=some b) (hi:es[i]? = some e) (hc:e.cells[off]? = some (.s es1)) (hkd:(JF P ty)[off]? = some (some (ity,isz))) (hkv:Rd w kd kv [])
  (hs:S [.o 0 es1.length,.d kd] [.arr ity isz es1 true true]=some (.d r,m1)) (hfr:flat r=true) (hm1:m1 0=some (.arr ity isz es2 true true)) (hl:es2.length=es1.length) (hp:e.put off [.s es2]=some e') :
  ∃ hv,w.cell? ⟨b,i*sz+off,none⟩=some hv∧hv.oneCell=true∧Calls P f #[hv,kv] w fun ex w'=>∃ v g',ex = .returned v∧Sim c g' (upd m k (some (.arr ty sz (es.set i e') true true))) w' ∧
   Jb c g m w g' (upd m k (some (.arr ty sz (es.set i e') true true))) w'∧Rd w' r v []:=by
 obtain⟨harr,_,_⟩:=hS.arr k ty sz es true true hk;obtain⟨hnd,hdp⟩:=hS.deep k ty sz es hk;obtain⟨hbfd,hOw⟩:=hdp b hb;rcases harr with ⟨hbl0,_,_,_⟩ | ⟨b',cap,cs,hb',hhd,hcap,hmax,hh,hsize,hrd⟩
 ·rw[hb] at hbl0;cases hbl0
 rw[hb] at hb';cases hb';have hle:es.length*sz≤cs.size:=Nat.le_trans (Nat.mul_le_mul_right _ hcap) hsize;have hvo:YY P w es (JF P ty) sz (cs.toList.take (es.length*sz)) (g.fd k):=ZM es _ sz b 0 _ _ hOw (by simp;omega) (fun j hj=>by
  simp only[JrT,JrO] at hj;rw[Nat.zero_add,Jr4 (by omega)];simp[World.cell?,hh])
 obtain⟨hv,A,f1,B,hvj,hfd,hO,hone,hset⟩:=JiO hvo hi hc;have hcell:w.cell? ⟨b,i*sz+off,none⟩=some hv:=by
  have hlt:=(JrF.1 hvj).1;simp only[JrT,JrO] at hlt;rw[Jr4 (by omega)] at hvj;simpa[World.cell?,hh] using hvj
 refine⟨hv,hcell,hone,?_⟩;have hsize0:=hOw;have hownk :∀q∈g.fd k,g.ow q=some k∧Mut g m q:=fun q hq=>by
  have hB:Blk g k (.arr ty sz es true true) q:= .inr ⟨rfl,hq⟩;exact⟨hS.own k _ q hk rfl hB,k,_,hk,rfl,hB⟩
 have hownb:g.ow b=some k:=hS.own k _ b hk rfl (.inl hb);have hmutb:Mut g m b:=⟨k,_,hk,rfl,.inl hb⟩;have hnd':=hnd;rw[hfd] at hnd';have hf1 :∀q∈f1,q∈g.fd k:=fun q hq=>by rw[hfd];simp[hq]
 have hAB :∀q∈A++B,q∈g.fd k∧q∉f1:=fun q hq=>by
  rw[hfd];simp only[List.nodup_append,JrJ] at hnd' hq ⊢;obtain⟨⟨_,_,h3⟩,_,h5⟩:=hnd';rcases hq with hq | hq
  ·exact⟨.inl (.inl hq),fun h=>h3 q hq q h rfl⟩
  ·exact⟨.inr hq,fun h=>h5 q (.inr h) q hq rfl⟩
 have hf1nd:f1.Nodup:=by
  simp only[List.nodup_append] at hnd';exact hnd'.1.2.1
 have hlt :∀q∈g.fd k,q<w.heap.size:=fun q hq=>(hS.live q k (hownk q hq).1).1;obtain⟨ty',sz',hkh,hO⟩:=hO;have hty:ty'=ity∧sz'=isz:=by
  rw[List.head?_drop,hkd] at hkh;simp only[JrD,JrV] at hkh;exact⟨hkh.1.symm,hkh.2.symm⟩
 obtain⟨rfl,rfl⟩:=hty
 let g1:Gh:={ bl:=fun _=>f1.head?,hd:=fun _=>hv,fd:=fun _=>f1.tail,ow:=fun q=>if q∈f1 then some 0 else none }
 let c2:Cx P:={ w0:=w,A:=f1,par:=f1,parA:=fun _ h=>h }
 generalize hmm:Qz (Jq 0 [Obj.arr ty' sz' es1 true true])=mm;have hmm0:mm 0=some (.arr ty' sz' es1 true true):=by rw[←hmm];rfl
 have hmmj :∀j o,mm j=some o→j=0∧o = .arr ty' sz' es1 true true:=fun j o h=>by
  rw[←hmm] at h;unfold Qz Jq Jq at h;cases j with
  | zero=>simp[List.lookup] at h;exact⟨rfl,h.symm⟩
  | succ j=>simp[List.lookup] at h
 have hArr:V4 w g1 0 ty' sz' es1∧∀q,g1.bl 0=some q→q∉g1.fd 0∧JbS P w es1 (JF P ty') sz' q 0 (g1.fd 0):=by
  rcases hO with ⟨e1,e2,e3⟩ | ⟨b1,cap1,cs1,fp1,e1,e2,e3,e4,e5,e6,e7⟩
  ·subst e3;exact⟨.inl ⟨rfl,e1,e2,rfl⟩,fun q hq=>by cases hq⟩
  ·subst e6;refine⟨.inr ⟨b1,cap1,cs1,rfl,e1,e2,e3,e4,e5,JbZ _ _ _ _ _ _ e7⟩,fun q hq=>?_⟩;cases hq;exact⟨(List.nodup_cons.1 hf1nd).1,e7⟩
 have hblk1 :∀q,(g1.bl 0=some q∨q∈g1.fd 0)→q∈f1:=fun q hq=>by
  cases f1 with
  | nil=>simp[g1] at hq
  | cons x xs=>simpa[g1,eq_comm] using hq
 have hSim:Sim c2 g1 mm w:=by
  refine⟨⟨rfl,rfl,rfl,Nat.le_refl _,fun _ _ _=>rfl⟩,fun j cs' hj=>?_,fun j t s e d r hj=>?_,fun j t s e hj=>?_,fun j o q hj _ hq=>?_,fun q j hq=>?_⟩
  ·cases (hmmj j _ hj).2
  ·obtain⟨rfl,h2⟩:=hmmj j _ hj;cases h2;exact⟨hArr.1,(fun h=>by cases h),(fun h=>by cases h)⟩
  ·obtain⟨rfl,h2⟩:=hmmj j _ hj;cases h2;refine⟨?_,hArr.2⟩;show f1.tail.Nodup;exact List.Nodup.sublist (List.tail_sublist _) hf1nd
  ·obtain⟨rfl,h2⟩:=hmmj j _ hj;subst h2;have:q∈f1:=hblk1 q (hq.imp id fun h=>h.2);show (if q∈f1 then some 0 else none)=some 0;rw[if_pos this]
  ·have hq:(if q∈f1 then some 0 else none)=some j:=hq;split at hq
   ·rename_i h;exact⟨hlt q (hf1 q h),.inr h⟩
   ·cases hq
 have hV:VXs c2 g1 mm w [.o 0 es1.length,.d kd] [hv,kv]:=by
  refine⟨hv,[kv],rfl,⟨hone,⟨_,hmm0,fun cs=>by simp⟩,fun t s e d r h=>?_⟩,kv,[],rfl,⟨[],hkv,fun b hb=>by simp at hb⟩,rfl⟩;rw[hmm0] at h;cases h;exact⟨Nat.le_refl _,fun _=>rfl⟩
 have hΦ2:Φ.ok c2:=⟨hS.inv hΦ,fun b hb hp=>by
  have ho:=hS.own k _ b hk rfl (.inr ⟨rfl,hf1 b hp⟩);rcases (hS.live b k ho).2 with h1 | h1
  ·exact absurd (Φ.lt _ hΦ.1 b hb) (by omega)
  ·exact hΦ.2 b hb h1⟩
 refine(hX.2 c2 g1 [Obj.arr ty' sz' es1 true true] mm w _ [hv,kv] (.d r) m1 hΦ2 hmm.symm rfl hSim hV hs).mono ?_;rintro ex w' ⟨v,g2,rfl,hS2,hC2,fpr,hrr,_⟩;obtain rfl:=YO r v fpr hfr hrr;have harr2:=hC2.arr 0 _ _ _ _ _ hmm0;rw[hm1] at harr2;have hhb:g2.hd 0=hv∧g2.bl 0=f1.head?:=by
  rcases harr2 with h | ⟨es',dp',rw',h,h'⟩
  ·cases h
  ·cases h;rcases h' with ⟨_,h1,h2⟩ | h'
   ·exact⟨h1,h2⟩
   ·omega
 obtain⟨hA2,_,_⟩:=hS2.arr 0 _ _ _ _ _ hm1;obtain⟨hn2,hd2⟩:=hS2.deep 0 _ _ _ hm1;have hf2 : ∃ f2:List Nat,Ow P w' (.s es2) ((JF P ty).drop off) hv f2∧f2.Nodup∧∀q∈f2,g2.ow q=some 0:=by
  have hhead:((JF P ty).drop off).head? = some (some (ty',sz')):=by rw[List.head?_drop];exact hkd
  rcases hA2 with ⟨a1,a2,a3,a4⟩ | ⟨b1,cap1,cs1,a1,a2,a3,a4,a5,a6,a7⟩
  ·exact⟨[],⟨ty',sz',hhead,.inl ⟨by rw[←hhb.1,a2];rfl,a3,rfl⟩⟩,List.nodup_nil,fun _ h=>by simp at h⟩
  ·refine⟨b1::g2.fd 0,⟨ty',sz',hhead,.inr ⟨b1,cap1,cs1,g2.fd 0,by rw[←hhb.1,a2],a3,a4,a5,a6,rfl,(hd2 b1 a1).2⟩⟩,List.nodup_cons.2 ⟨(hd2 b1 a1).1,hn2⟩,fun q hq=>?_⟩;refine hS2.own 0 _ q hm1 rfl ?_;rcases JrX.1 hq with rfl | hq
   ·exact .inl a1
   ·exact .inr ⟨rfl,hq⟩
 obtain⟨f2,hO2,hf2nd,hf2ow⟩:=hf2;have hf2in :∀q∈f2,q<w'.heap.size∧(w.heap.size≤q∨q∈f1):=fun q hq=>hS2.live q 0 (hf2ow q hq);have hkeep :∀q,q<w.heap.size→q∉f1→w'.heap[q]? = w.heap[q]?:=fun q h1 h2=>hS2.frame.block q h1 h2;have hszw:w.heap.size≤w'.heap.size:=hC2.size;have hnew:=hset w' (.s es2) e' f2 (fun q hq=>hkeep q (hlt q (hAB q hq).1) (hAB q hq).2) hO2 hp;have hblt:b<w.heap.size:=(hS.live b k hownb).1;have hbf1:b∉f1:=fun h=>hbfd (hf1 b h);have hbsame:=hkeep b hblt hbf1;have hcells :∀j,j<(cs.toList.take (es.length*sz)).length→w'.cell? ⟨b,0+j,none⟩=(cs.toList.take (es.length*sz))[j]?:=fun j hj=>by
  simp only[JrT,JrO] at hj;rw[Nat.zero_add,Jr4 (by omega)];simp[World.cell?,hbsame,hh]
 let g':Gh:={ g with fd:=upd g.fd k (A++f2++B),ow:=fun q=>if q∈f2 then some k else g.ow q }
 have hfdk:g'.fd k=A++f2++B:=uS1 _ _ _;have hfdin :∀q∈A++f2++B,(q∈A++B)∨q∈f2:=fun q hq=>by
  simp only[JrJ] at hq ⊢;rcases hq with (h | h) | h <;> simp[h]
 have hf2lt :∀q∈f2,q<w.heap.size→q∈f1:=fun q hq hlt'=>by
  rcases (hf2in q hq).2 with h | h
  ·omega
  ·exact h
 have hC:Jb c g m w g' (upd m k (some (.arr ty sz (es.set i e') true true))) w':=by
  refine⟨hszw,fun q h1 h2 h3=>⟨hkeep q h3 (fun h=>h1 (hownk q (hf1 q h)).2),?_⟩,fun j cs' hj=>?_,fun j t1 s1 e1 d1 r1 hj=>?_,fun j hj=>?_⟩
  ·rintro⟨j,o,hj,hrw,hbl⟩
   by_cases hjk:j=k
   ·subst hjk;rw[uS1] at hj;cases hj;rcases hbl with hbl | ⟨_,hbl⟩
    ·rw[show g'.bl j=g.bl j from rfl,hb] at hbl;cases hbl;exact h1 hmutb
    ·rw[hfdk] at hbl;rcases hfdin q hbl with h | h
     ·exact h1 (hownk q (hAB q h).1).2
     ·exact h1 (hownk q (hf1 q (hf2lt q h h3))).2
   ·rw[uO1 _ _ hjk] at hj;have hbl:Blk g j o q:=by unfold Blk at hbl ⊢;simpa only[g',uO1 _ _ hjk] using hbl
    exact h1 ⟨j,o,hj,hrw,hbl⟩
  ·have hjk:j≠k:=fun e=>by subst e;rw[hk] at hj;cases hj
   exact⟨⟨cs',by rw[uO1 _ _ hjk];exact hj⟩,rfl⟩
  ·by_cases hjk:j=k
   ·subst hjk;rw[hk] at hj;cases hj;exact .inr ⟨_,true,true,uS1 _ _ _,.inl ⟨by simp,rfl,rfl⟩⟩
   ·exact .inr ⟨e1,d1,r1,by rw[uO1 _ _ hjk];exact hj,.inl ⟨rfl,rfl,rfl⟩⟩
  ·have hjk:j≠k:=fun e=>by subst e;rw[hk] at hj;cases hj
   rw[uO1 _ _ hjk];exact hj
 refine⟨v,g',rfl,?_,hC,hrr⟩;refine hS.step (uS1 _ _ _) (fun j hj=> .inl (uO1 _ _ hj)) hC ?_ (fun j hj=>⟨rfl,rfl,uO1 _ _ hj⟩) (fun q j o hj0 hrw hq hjk _=>?_) (fun q j hq=>?_) ?_
 ·refine hS.frame.grow hS2.frame.os hS2.frame.tape hS2.frame.output hszw fun q hq hq0 hqp=>hkeep q hq fun h=>?_;rcases (hS.live q k (hownk q (hf1 q h)).1).2 with h' | h'
  ·omega
  ·exact hqp h'
 ·have hoj:=hS.own j o q hj0 hrw hq;have hlq:=(hS.live q j hoj).1;have hqf1:q∉f1:=fun h=>by
   have:=(hownk q (hf1 q h)).1;rw[hoj] at this;cases this;exact hjk rfl
  refine⟨hkeep q hlq hqf1,?_⟩;show (if q∈f2 then some k else g.ow q)=some j;rw[if_neg (fun h=>hqf1 (hf2lt q h hlq))];exact hoj
 ·have hq:(if q∈f2 then some k else g.ow q)=some j:=hq;split at hq
  ·rename_i h;obtain⟨h1,h2⟩:=hf2in q h;refine⟨h1,?_⟩;rcases h2 with h2 | h2
   ·exact .inl (Nat.le_trans hS.frame.size h2)
   ·exact(hS.live q k (hownk q (hf1 q h2)).1).2
  ·have:=hS.live q j hq;exact⟨by omega,this.2⟩
 ·have hndF:(A++f2++B).Nodup:=by
   simp only[List.nodup_append,JrJ] at hnd' ⊢;obtain⟨⟨a1,_,_⟩,a4,a5⟩:=hnd';refine⟨⟨a1,hf2nd,fun x hx y hy e=>?_⟩,a4,fun x hx y hy e=>?_⟩
   ·subst e;have:=hAB x (by simp[hx]);exact this.2 (hf2lt x hy (hlt x this.1))
   ·subst e;rcases hx with hx | hx
    ·exact a5 x (.inl hx) x hy rfl
    ·have:=hAB x (by simp[hy]);exact this.2 (hf2lt x hx (hlt x this.1))
  have hbF:b∉A++f2++B:=fun h=>by
   rcases hfdin b h with h | h
   ·exact hbfd (hAB b h).1
   ·exact hbf1 (hf2lt b h hblt)
  have hOwF:JbS P w' (es.set i e') (JF P ty) sz b 0 (A++f2++B):=Zz _ _ _ _ _ _ _ hnew hcells;refine⟨.inr ⟨b,cap,cs,hb,by simpa using hhd,by simpa using hcap,hmax,hbsame.trans hh,hsize,?_⟩,(fun h=>by cases h),(fun h=>by cases h),fun _ q hq=>?_,fun _ _=>?_⟩
  ·rw[hfdk];exact JbZ _ _ _ _ _ _ hOwF
  ·show (if q∈f2 then some k else g.ow q)=some k;rcases hq with hq | ⟨_,hq⟩
   ·rw[show g'.bl k=g.bl k from rfl,hb] at hq;cases hq;rw[if_neg (fun h=>hbf1 (hf2lt b h hblt))];exact hownb
   ·rw[hfdk] at hq;split
    ·rfl
    ·rename_i hn;rcases hfdin q hq with h | h
     ·exact(hownk q (hAB q h).1).1
     ·exact absurd h hn
  ·rw[hfdk];refine⟨hndF,fun q hq=>?_⟩;rw[show g'.bl k=g.bl k from rfl,hb] at hq;cases hq;exact⟨hbF,hOwF⟩
theorem JnI {S:Y0} {kb:Key} {n:Nat} {kd r:D} {o o2:Obj} {m1:Mem} (ho:o.names=[]) (h:(QX S kb [.o 0 n,.d kd] [0] [o]).run (upd (fun _=>none) 0 (some o))=some (.d r,m1)) (h1:m1 0=some o2) (ho2 :∀cs,o2≠ .box cs) (hor :∀ρ,o.ren ρ=o) :
  ∃ m2,S [.o 0 n,.d kd] [o]=some (.d r,m2)∧m2 0=some o2:=by
 unfold QX at h;split at h
 ·have e1:Uu (at? [0]) [X.o 0 n,X.d kd]=[X.o 0 n,X.d kd]:=rfl;have e2:[o].map (Obj.ren (at? [0]))=[o]:=by simp[hor]
  rw[e1,e2] at h;split at h
  ·simp[MP.run] at h
  ·rename_i x1 m2 hs;simp only at h;split at h
   ·simp[MP.run] at h
   ·rename_i os' hos';split at h
    ·have h3:=Va _ _ _ _ h;obtain⟨h4,hfr⟩:=Ux _ _ _ _ h3;simp only[MP.run,JrD,JrV] at h4;obtain⟨h5,h6⟩:=h4;have hx1:x1 = .d r:=by cases x1 <;> simp[X.ren] at h5 <;> rw[h5]
     subst hx1;generalize XJ [] (((X.d r).names++XK m2 [0].length).filter fun k=>decide ([0].length≤k))=news at *;obtain⟨_,hg⟩:=Uw _ _ hos';obtain⟨hm,hne⟩:=hg 0 0 rfl;cases os' with
     | nil=>exact absurd rfl hne
     | cons q tl =>
      have hm:m2 0=some q:=hm;refine⟨m2,hs,?_⟩;rw[←h6,Yo _ _ _ (fun p hp e=>by
       have:=hfr p hp;rw[e] at this;simp[Yy,upd] at this)] at h1
      simp only[List.length_singleton,Yy,List.take_succ_cons,List.take_zero,JrM,List.map_nil,List.zip_cons_cons,List.zip_nil_left,List.foldl_cons,List.foldl_nil,uS1,JrD] at h1;rw[hm];cases q with
      | box cs=>rw[←h1] at ho2;exact absurd rfl (ho2 _)
      | arr=>rw[←h1];rfl
      | dead=>rw[←h1];rfl
    ·simp[MP.run] at h
 ·simp[MP.run] at h
end
end Go.Tm
end
section
open Go.RowKit
namespace Go.Tm
open Go.IntKind (i64)
section
variable {P:Program} {c:Cx P} {g:Gh} {m:Mem} {w:World} {a:Act} {sl:QI} {ops:Array Oper} {Q:Exit→Act→World→Prop}
theorem Jdy {o:Oper} {i:Nat} {v:Value} {K:Act→World→Prop} (ho:ops[i]? = some o) (hg:o.guard=none) (hexec:(execOp a.eval o).run P w = .ok (.value v) w) (hK:K (a.put o.dst v) w):wpOp P ops Q i K a w:=by
 unfold wpOp;rw[ho];have hwant:Region.wanted o (yielded ops a.tmps)=true:=by unfold Region.wanted;rw[hg]
 simp only[hwant,if_true];refine .inl ?_;unfold Oper.wp;rw[hexec];exact hK
theorem JlM {o1 o2 o3 o4:Oper} {i1 i2 i3 i4:Nat} {t:TypeId} {aO:Operand} {xk tS tK tR tD:Tmp} {cl:Call} {f:FuncId} {S:Y0} {k:Key} {n i off:Nat} {ty ity:TypeId} {sz isz:Nat} {es es1 es2:List D} {e e' kd r:D} {m1:Mem}
  (h1:ops[i1]? = some o1) (h2:ops[i2]? = some o2) (h3:ops[i3]? = some o3) (h4:ops[i4]? = some o4) (g1:o1.guard=none) (g2:o2.guard=none) (g3:o3.guard=none) (g4:o4.guard=none)
  (e1:o1.op = .load t aO) (d1:o1.dst=some tS) (e2:o2.op = .move (.tmp xk)) (d2:o2.dst=some tK) (e3:o3.op = .call cl) (hcl:cl.callee = .value (.func f)) (hargs:cl.args.toList=[.tmp tS,.tmp tK]) (d3:o3.dst=some tR)
  (e4:o4.op = .assign (.tmp tR)) (d4:o4.dst=some tD) (hne:xk≠tS) (hne2:tS≠tK)
  {Φ:Fix P} (hX:FnX P Φ f S) (hΦ:Φ.ok c) (hS:Sim c g m w) (hsl:Jm c g m w sl a) (hd:Ka a.tmps.size ops=true) (hax:opX sl aO = .e k n i off) (hk:m k=some (.arr ty sz es true true)) (hn:n=es.length) (hi:es[i]? = some e)
  (hc:e.cells[off]? = some (.s es1)) (hkd:(JF P ty)[off]? = some (some (ity,isz))) (ht:Ys P t=some false) (hkx:sl xk = .d kd) (hkf:flat kd=true)
  (hs:S [.o 0 es1.length,.d kd] [.arr ity isz es1 true true]=some (.d r,m1)) (hfr:flat r=true) (hm1:m1 0=some (.arr ity isz es2 true true)) (hl:es2.length=es1.length) (hp:e.put off [.s es2]=some e')
  (hQ :∀a' w' g',Sim c g' (upd m k (some (.arr ty sz (es.set i e') true true))) w'→Jm c g' (upd m k (some (.arr ty sz (es.set i e') true true))) w' (upd (upd (upd (upd sl tS .u) tK (.d kd)) tR (.d r)) tD (.d r)) a' →
   Jb c g m w g' (upd m k (some (.arr ty sz (es.set i e') true true))) w'→a'.defers=a.defers→a'.tmps.size=a.tmps.size→Q .normal a' w') :
  wpOps P ops Q [i1,i2,i3,i4] a w:=by
 have hds :∀(j:Nat) (o:Oper) (d:Tmp),ops[j]? = some o→o.dst=some d→d<a.tmps.size:=fun j o d hj hod=>by
  have:=Array.all_eq_true_iff_forall_mem.1 hd o (Array.mem_of_getElem? hj);rw[hod] at this;simpa using this
 have hp0:=oX1 hsl aO;rw[hax] at hp0;obtain⟨b,hb,hpv⟩:=(hp0.2.2 _ _ _ _ _ hk).2 hn;have hkv:=hsl xk;rw[hkx] at hkv;obtain⟨fpk,hkr,_⟩:=hkv;obtain rfl:=YO _ _ _ hkf hkr;obtain⟨hv,hcell,hone,hcalls⟩:=JhV hX hΦ hS hk hb hi hc hkd hkr hs hfr hm1 hl hp;rw[wpOps_cons];have hx1:(execOp a.eval o1).run P w = .ok (.value hv) w:=by
  have hu:(Instr.loadAt t (a.eval aO)).run P w = .ok hv w:=by
   rw[hpv];simp[Instr.loadAt,Instr.sureAddr,loadVar,Uv ht,hcell]
  unfold execOp;rw[e1];simp[hu]
 refine Jdy h1 g1 hx1 ?_;have hsl1:=Jm.put (o:=o1) (x:= .u) (v:=hv) hsl (.refl _ _ _ _) (fun d hd'=>hds i1 o1 d h1 hd') trivial;rw[d1] at hsl1 ⊢;have hz1:=ZJ a (some tS) hv;have hf1:=XV a (some tS) hv;have hS1:(a.put (some tS) hv).eval (.tmp tS)=hv:=by
  have:=hds i1 o1 tS h1 d1;show (a.tmps.setIfInBounds tS hv).getD tS undef=hv;simp[this]
 have hK1:(a.put (some tS) hv).eval (.tmp xk)=a.tmps.getD xk undef:=by
  show (a.tmps.setIfInBounds tS hv).getD xk undef=_;simp[Array.getElem?_setIfInBounds_ne (Ne.symm hne)]
 generalize a.put (some tS) hv=a1 at *;rw[wpOps_cons];have hx2:(execOp a1.eval o2).run P w = .ok (.value (a.tmps.getD xk undef)) w:=by
  unfold execOp;rw[e2];simp[hK1]
 refine Jdy h2 g2 hx2 ?_;have hsl2:=Jm.put (o:=o2) (x:= .d kd) (v:=a.tmps.getD xk undef) hsl1 (.refl _ _ _ _) (fun d hd'=>by rw[hz1];exact hds i2 o2 d h2 hd') ⟨[],hkr,fun b hb=>by simp at hb⟩;rw[d2] at hsl2 ⊢;have hz2:=ZJ a1 (some tK) (a.tmps.getD xk undef);have hf2:=XV a1 (some tK) (a.tmps.getD xk undef);have hS2:(a1.put (some tK) (a.tmps.getD xk undef)).eval (.tmp tS)=hv:=by
  show (a1.tmps.setIfInBounds tK _).getD tS undef=hv;have:(a1.tmps.setIfInBounds tK (a.tmps.getD xk undef)).getD tS undef=a1.tmps.getD tS undef:=by
   simp[Array.getElem?_setIfInBounds_ne (Ne.symm hne2)]
  rw[this];exact hS1
 have hK2:(a1.put (some tK) (a.tmps.getD xk undef)).eval (.tmp tK)=a.tmps.getD xk undef:=by
  have:=hds i2 o2 tK h2 d2;show (a1.tmps.setIfInBounds tK _).getD tK undef=_;rw[←hz1] at this;simp[this]
 generalize a1.put (some tK) (a.tmps.getD xk undef)=a2 at *;rw[wpOps_cons];have hx3:(execOp a2.eval o3).run P w=(callFunc f #[hv,a.tmps.getD xk undef]).run P w:=by
  have hexec:execOp a2.eval o3=(do let d ←resolve a2.eval cl o3.type;invoke d.target d.args):=by unfold execOp;rw[e3]
  obtain⟨vs,hfv,hcs⟩:=oX1 hsl2 (.func f);have hvs:vs=[]:=hcs;subst hvs;rw[hexec];simp only[resolve,hcl,hfv,Deferred.ofValue,Sem.run_bind,Sem.run_pure,Result.andThen_ok,invoke]
  congr 2
  apply Array.ext';simp[hargs,hS2,hK2]
 unfold wpOp;rw[h3];have hwant:Region.wanted o3 (yielded ops a2.tmps)=true:=by unfold Region.wanted;rw[g3]
 simp only[hwant,if_true];refine .inl ?_;unfold Oper.wp;rw[hx3,hX.1];refine hcalls.mono ?_;rintro ex w' ⟨v,g',rfl,hS',hC',hrr⟩;show wpOps P ops Q [i4] (a2.put o3.dst v) w';have hsl3:=Jm.put (o:=o3) (x:= .d r) (v:=v) hsl2 hC' (fun d hd'=>by rw[hz2,hz1];exact hds i3 o3 d h3 hd') ⟨[],hrr,fun b hb=>by simp at hb⟩;rw[d3] at hsl3 ⊢;have hz3:=ZJ a2 (some tR) v;have hf3:=XV a2 (some tR) v;have hR3:(a2.put (some tR) v).eval (.tmp tR)=v:=by
  have:=hds i3 o3 tR h3 d3;show (a2.tmps.setIfInBounds tR v).getD tR undef=v;rw[←hz1,←hz2] at this;simp[this]
 generalize a2.put (some tR) v=a3 at *;rw[wpOps_cons];have hx4:(execOp a3.eval o4).run P w' = .ok (.value v) w':=by
  unfold execOp;rw[e4];simp[hR3]
 refine Jdy h4 g4 hx4 ?_;have hsl4:=Jm.put (o:=o4) (x:= .d r) (v:=v) hsl3 (.refl _ _ _ _) (fun d hd'=>by rw[hz3,hz2,hz1];exact hds i4 o4 d h4 hd') ⟨[],hrr,fun b hb=>by simp at hb⟩;rw[d4] at hsl4 ⊢;exact hQ _ w' g' hS' hsl4 hC' (by rw[XV,hf3,hf2,hf1]) (by rw[ZJ,hz3,hz2,hz1])
end
end Go.Tm
end
section
open Go.RowKit
namespace Go.Tm
open Go.IntKind (i64)
structure Inn where
 t:TypeId
 a:Operand
 xk:Tmp
 tS:Tmp
 tK:Tmp
 tR:Tmp
 tD:Tmp
 f:FuncId
def Zl (ops:Array Oper):Option Inn :=
 match ops[ops.size-4]?,ops[ops.size-3]?,ops[ops.size-2]?,ops[ops.size-1]? with
 | some ⟨some tS,.load t a,_,_,_,none⟩,some ⟨some tK,.move (.tmp xk),_,_,_,none⟩,some ⟨some tR,.call cl,_,_,_,none⟩,some ⟨some tD,.assign (.tmp r),_,_,_,none⟩ =>
  match cl.callee,cl.args.toList with
  | .value (.func f),[.tmp s,.tmp k]=>if 4≤ops.size∧s=tS∧k=tK∧r=tR∧xk≠tS∧tS≠tK then some ⟨t,a,xk,tS,tK,tR,tD,f⟩ else none
  | _,_=>none
 | _,_,_,_=>none
def Vq (P : Program) (sg : FuncId → Option Sig) (q : Inn) (sl : SSl) (m : XE) (n : Nat) : Option (List I × SSl × XE × Nat) :=
  match sop sl q.a,sl.lookup q.xk,sg q.f with
  | .e kk l i off,some (.d (.vi kd x)),some (.x s) =>
    match m.lookup kk with
    | some (.arr ty sz l' true true) =>
      match Jgh P ty,(JF P ty)[off]? with
      | some (.q _),_=>none
      | some sh,some (some (ity,isz)) =>
        if l.lsame l'∧Ys P q.t=some false then
          match (sh.cells n)[off]? with
          | some (.s x1) =>
            match (KO s q.f 0 [.o 0 x1,.d (.vi kd x)] [0] [.arr ity isz x1 true true]).run [(0,.arr ity isz x1 true true)] (n+sh.size) with
            | some r =>
              match r.val,r.m.lookup 0 with
              | .d (.vi kr y),some (.arr ity' isz' x2 true true) =>
                match E.put (sh.cells n) sh.agg off [.s x2] with
                | some e'=>if ity'=ity∧isz'=isz then
                    some (.idx l' i sh n::(r.is++[.chk (.cmp .eq (.len x2) (.len x1))]),(q.tD,.d (.vi kr y))::(q.tR,.d (.vi kr y))::(q.tK,.d (.vi kd x))::(q.tS,.u)::sl,(kk,.arr ty sz (.set l' i e') true true)::m,r.n)
                  else none
                | none=>none
              | _,_=>none
            | none=>none
          | _=>none
        else none
      | _,_=>none
    | _=>none
  | _,_,_=>none
section
variable {B:Tb} {ρ:Env} {sg:FuncId→Option Sig} {P:Program} {ops:Array Oper} {c:Cx P} {g:Gh} {w:World} {a:Act} {Q:Exit→Act→World→Prop}
theorem JiN (hB:BOk sg B) (hT0:UF c (QJ sg B)) {q:Inn} {sl sl':SSl} {m m':XE} {n n':Nat} {is:List I} (hS:Sim c g (γm ρ m) w) (hH:Jm c g (γm ρ m) w (γs ρ sl) a) (hd:Ka a.tmps.size ops=true)
  (hq:Zl ops=some q) (h:Vq P sg q sl m n=some (is,sl',m',n')) (his :∀i∈is,i.holds B ρ)
  (hQ :∀a' w' g',Sim c g' (γm ρ m') w'→Jm c g' (γm ρ m') w' (γs ρ sl') a'→Jb c g (γm ρ m) w g' (γm ρ m') w'→a'.defers=a.defers→a'.tmps.size=a.tmps.size→Q .normal a' w') :
  4≤ops.size∧wpOps P ops Q [ops.size-4,ops.size-3,ops.size-2,ops.size-1] a w:=by
 obtain⟨Φ,hΦ,hT⟩:=hT0;unfold Zl at hq;split at hq
 ·rename_i tS t aO ty1 p1 af1 tK xk ty2 p2 af2 tR cl ty3 p3 af3 tD r0 ty4 p4 af4 h1 h2 h3 h4;split at hq
  ·rename_i f s0 k0 hcl hargs;split at hq
   ·rename_i hc;obtain⟨hsz4,rfl,rfl,rfl,hne,hne2⟩:=hc;simp only[JrD] at hq;subst hq;refine⟨hsz4,?_⟩;unfold Vq at h;simp only at h;split at h
    ·rename_i kk l i off kd x s hsa hxk hsg;split at h
     ·rename_i ty sz l' hmk;split at h
      ·cases h
      ·rename_i sh ity isz hnq hsh hkd;split at h
       ·rename_i hlt;split at h
        ·rename_i x1 hx1;split at h
         ·rename_i r hr;split at h
          ·rename_i kr y ity' isz' x2 hrv hrm;split at h
           ·rename_i e' he';split at h
            ·rename_i hit;obtain⟨rfl,rfl⟩:=hit;simp only[JrD,JrV] at h;obtain⟨rfl,rfl,rfl,rfl⟩:=h;have hq' :∀as,sh≠ .q as:=fun as e=>hnq as e;obtain⟨h0,hidx⟩:=his _ (List.mem_cons_self ..);have hchk:=his (.chk (.cmp .eq (.len x2) (.len x1))) (by simp);have hlen:(lst ρ x2).length=(lst ρ x1).length:=by
              have hh:decide (((lst ρ x2).length:Int)=((lst ρ x1).length:Int))=true:=hchk;have:=of_decide_eq_true hh;omega
             have hX:FnX P Φ f (Q1 s (B.call f)):=hT.xfns f _ (by simp[QJ,hsg]);have hso:s.ok=true:=hB.sig f _ hsg;have hrun:=SMP.run_ok _ _ _ _ r (K9 hso f 0 [.o 0 x1,.d (.vi kd x)] [0] [.arr ity' isz' x1 true true]) hr (fun i hi=>his i (by simp[hi]));rw[MP.runT_eq] at hrun;have hmem:γm ρ [(0,Je.arr ity' isz' x1 true true)]=upd (fun _=>none) 0 (some (.arr ity' isz' (lst ρ x1) true true)):=by
              rw[QU];rfl
             rw[hmem] at hrun;have hrun2:(QX (Q1 s (B.call f)) 0 [.o 0 (lst ρ x1).length,.d (dat ρ (.vi kd x))] [0] [.arr ity' isz' (lst ρ x1) true true]).run (upd (fun _=>none) 0 (some (.arr ity' isz' (lst ρ x1) true true)))=some (.d (dat ρ (.vi kr y)),γm ρ r.m):=by
              have e0:(QX (Q1 s (B.call f)) 0 (γXs ρ [.o 0 x1,.d (.vi kd x)]) [0] ([Je.arr ity' isz' x1 true true].map (γO ρ))).run (upd (fun _=>none) 0 (some (.arr ity' isz' (lst ρ x1) true true)))=some (γX ρ r.val,γm ρ r.m):=by
               cases hz:(QX (Q1 s (B.call f)) 0 (γXs ρ [.o 0 x1,.d (.vi kd x)]) [0] ([Je.arr ity' isz' x1 true true].map (γO ρ))).run (upd (fun _=>none) 0 (some (.arr ity' isz' (lst ρ x1) true true))) with
               | none=>rw[hz] at hrun;simp at hrun
               | some z =>
                rw[hz] at hrun;simp only[JrG,JrD,JrV] at hrun;obtain⟨e1,e2,_⟩:=hrun;rw[←e1,←e2]
              rw[hrv] at e0;exact e0
             obtain⟨m2,hs,hm2⟩:=JnI (o2:= .arr ity' isz' (lst ρ x2) true true) rfl hrun2 (JX hrm) (fun cs=>by simp) (fun _=>rfl);have hcells:=Jcv hq' ρ n;have hc1:(dat ρ (sh.expr n)).cells[off]? = some (.s (lst ρ x1)):=by
              rw[hcells,JrZ,hx1];rfl
             have hput:=E_put hq' he' ρ;have hmF:γm ρ ((kk,.arr ty sz (.set l' i e') true true)::m)=upd (γm ρ m) kk (some (.arr ty sz ((lst ρ l').set (int ρ i).toNat (dat ρ e')) true true)):=QU _ _ _ _;have hslF:γs ρ ((tD,.d (.vi kr y))::(r0,.d (.vi kr y))::(k0,.d (.vi kd x))::(s0,.u)::sl)=upd (upd (upd (upd (γs ρ sl) s0 .u) k0 (.d (dat ρ (.vi kd x)))) r0 (.d (dat ρ (.vi kr y)))) tD (.d (dat ρ (.vi kr y))):=by
              rw[Kc,Kc,Kc,Kc];rfl
             rw[hmF,hslF] at hQ;refine JlM h1 h2 h3 h4 rfl rfl rfl rfl rfl rfl rfl rfl rfl hcl hargs rfl rfl rfl hne hne2 hX hΦ hS hH hd (by rw[Qa,hsa];rfl) (JX hmk) (lL1 hlt.1 ρ) hidx hc1 hkd hlt.2 (by show γs ρ sl xk=_;unfold γs;rw[hxk];rfl) rfl hs rfl hm2 hlen hput hQ
            ·cases h
           ·cases h
          ·cases h
         ·cases h
        ·cases h
       ·cases h
      ·cases h
     ·cases h
    ·cases h
   ·cases hq
  ·cases hq
 ·cases hq
theorem Jgk {q:Inn} {sl sl':SSl} {m m':XE} {n n':Nat} {is:List I} (hmono :∀(p:SMP SV) (m:XE) (n:Nat) (r:JoY SV),p.run m n=some r→n≤r.n) (h:Vq P sg q sl m n=some (is,sl',m',n')):n≤n':=by
 unfold Vq at h
 repeat' split at h
 all_goals first
  | (cases h;done)
  | (simp only [JrD,JrV] at h
     obtain⟨_,_,_,rfl⟩:=h
     have:=hmono _ _ _ _ (by assumption)
     omega)
end
end Go.Tm
end

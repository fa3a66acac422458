import Derived.Wp
import Derived.Calls
import Derived.Orders
import Derived.Below
import Derived.Laws.Cells
import Derived.Laws.Sem
import Derived.Laws.AppendOwn
import Derived.Laws.Tables
import Derived.Laws.CopyRow
import Derived.Laws.IdiomRangeMap
import Derived.Deep.Upon
import Derived.Laws.MakeOwn
set_option linter.unusedVariables false
set_option linter.unusedSimpArgs false
section
namespace Go.Tm
open Go.IntKind (i64)
theorem Jq8:type_of% @Option.some.injEq:=@Option.some.injEq
theorem Jq9:type_of% @Bool.and_eq_true:=@Bool.and_eq_true
theorem Jra:type_of% @List.getElem?_eq_some_iff:=@List.getElem?_eq_some_iff
theorem Jrb:type_of% @Option.map_some:=@Option.map_some
theorem Jrc:type_of% @List.getD_eq_getElem?_getD:=@List.getD_eq_getElem?_getD
theorem Jrd:type_of% @List.take_of_length_le:=@List.take_of_length_le
theorem Jre:type_of% @List.mem_append:=@List.mem_append
theorem Jrf:type_of% @List.length_append:=@List.length_append
theorem Jrg:type_of% @List.mem_of_getElem?:=@List.mem_of_getElem?
theorem Jrh:type_of% @List.map_cons:=@List.map_cons
theorem Jri:type_of% @List.length_map:=@List.length_map
theorem Jrj:type_of% @Array.length_toList:=@Array.length_toList
theorem Jrk:type_of% @List.getElem?_eq_getElem:=@List.getElem?_eq_getElem
theorem Jrl:type_of% @Array.getElem?_eq_some_iff:=@Array.getElem?_eq_some_iff
theorem Jrm:type_of% @List.all_eq_true:=@List.all_eq_true
theorem Jrn:type_of% @Option.bind_some:=@Option.bind_some
theorem Jro:type_of% @List.length_take:=@List.length_take
theorem Jrp:type_of% @Bool.false_eq_true:=@Bool.false_eq_true
theorem Jrq:type_of% @Prod.mk.injEq:=@Prod.mk.injEq
theorem Jrr:type_of% @List.mem_singleton:=@List.mem_singleton
theorem Jrs:type_of% @List.mem_cons:=@List.mem_cons
theorem Jrt:type_of% @Bool.true_and:=@Bool.true_and
theorem Jru:type_of% @List.getElem?_map:=@List.getElem?_map
theorem Jrv:type_of% @List.map_congr_left:=@List.map_congr_left
theorem Jrw:type_of% @List.getElem?_eq_none:=@List.getElem?_eq_none
theorem Jrx:type_of% @List.mem_of_mem_take:=@List.mem_of_mem_take
theorem Jry:type_of% @List.mem_or_eq_of_mem_set:=@List.mem_or_eq_of_mem_set
theorem Jrz:type_of% @List.getElem?_take_of_lt:=@List.getElem?_take_of_lt
theorem JrA:type_of% @List.getElem?_append_left:=@List.getElem?_append_left
theorem JrB:type_of% @List.getElem?_append_right:=@List.getElem?_append_right
inductive D where
 | v (x:Value)
 | g (cs:List D)
 | s (es:List D)
 | q (cs:List D)
 | f (fn:FuncId) (caps:List D)
 | t (cs:List D)
 deriving Inhabited
abbrev Key:=Nat
inductive X where
 | d (x:D)
 | g (cs:List X)
 | o (k:Key) (n:Nat)
 | p (k:Key) (off:Nat)
 | e (k:Key) (n i off:Nat)
 | f (fn:FuncId) (caps:List X)
 | t (cs:List X)
 | u
 deriving Inhabited
inductive Obj where
 | box (cs:List X)
 | arr (ty:TypeId) (sz:Nat) (es:List D) (deep rw:Bool)
 | dead
 deriving Inhabited
abbrev Mem:=Key→Option Obj
abbrev QM:=Tmp→X
def upd {α:Type} (f:Nat→α) (k:Nat) (x:α):Nat→α:=fun j=>if j=k then x else f j
def D.cells:D→List D
 | .g cs=>cs
 | x=>[x]
def D.one:D→Bool
 | .g _ | .t _=>false
 | .v x=>x.oneCell
 | _=>true
def D.norm:D→D
 | .v (.slice none 0 0)=> .s []
 | x=>x
def X.ofD1:D→X
 | .g cs=> .g (cs.map .d)
 | x=> .d x
def X.ofD:D→X
 | .t cs=> .t (cs.map X.ofD1)
 | x=>X.ofD1 x
def X.one:X→Bool
 | .d x=>x.one
 | .o _ _ | .p _ _ | .e _ _ _ _ | .f _ _=>true
 | _=>false
def X.cells:X→Option (List X)
 | .g cs=>some cs
 | .d (.g cs)=>some (cs.map .d)
 | .u | .t _ | .d (.t _)=>none
 | x=>some [x]
inductive MP (α:Type) where
 | ret (a:α)
 | fail
 | get (k:Key) (c:Obj→MP α)
 | put (k:Key) (o:Obj) (c:MP α)
 | new (k:Key) (o:Obj) (c:MP α)
def MP.bind {α β:Type}:MP α→(α→MP β)→MP β
 | .ret a,h=>h a
 | .fail,_=> .fail
 | .get k c,h=> .get k fun o=>(c o).bind h
 | .put k o c,h=> .put k o (c.bind h)
 | .new k o c,h=> .new k o (c.bind h)
instance:Monad MP where
 pure:=MP.ret
 bind:=MP.bind
def MP.run {α:Type}:MP α→Mem→Option (α×Mem)
 | .ret a,m=>some (a,m)
 | .fail,_=>none
 | .get k c,m=>match m k with
  | some o=>(c o).run m
  | none=>none
 | .put k o c,m=>match m k with
  | some _=>c.run (upd m k (some o))
  | none=>none
 | .new k o c,m=>match m k with
  | some _=>none
  | none=>c.run (upd m k (some o))
def MP.guard (b:Bool):MP Unit:=if b then .ret () else .fail
def JF {α:Type} (P:Program):Sem α→Option α
 | .pure a=>some a
 | .program k=>JF P (k P)
 | _=>none
def Kf:Option Value→MP X
 | some v=>if v.oneCell then .ret (.d (.v v)) else .fail
 | none=> .fail
def tz (P:Program) (t:TypeId):Option (Option Value×Nat×Nat):=(P.info? t).map fun j=>(j.zero,j.size,j.bytes)
def Qo (P:Program) (t:TypeId):Option Nat:=(tz P t).map (·.2.1)
def J8 (P:Program) (t:TypeId):Option (List Value):=(tz P t).bind fun z=>z.1.map fun v=>v.cells.toList
def Yf (P:Program) (t:TypeId):Option Bool:=match P.underlying t with
 | some (.struct _) | some (.array _ _)=>some true
 | some _=>some false
 | none=>none
def JN (P:Program) (t:TypeId):Option TypeId:=match P.underlying t with
 | some (.slice e)=>some e
 | _=>none
def Jgf (P:Program) (t:TypeId):Option (List (Nat×Nat)):=match P.underlying t with
 | some (.struct fs)=>fs.toList.mapM fun f=>(P.info? f.type).map fun i=>(f.offset,i.size)
 | _=>none
def Zd (P:Program) (t:TypeId) (i:Nat):Option (Nat×Nat):=match P.underlying t with
 | some (.struct fs)=>(fs[i]?).bind fun f=>(Qo P f.type).map fun n=>(f.offset,n)
 | _=>none
def D.ofCells:Bool→List D→D
 | true,cs=> .g cs
 | false,cs=>cs.headD (.v (.tuple #[]))
def Uy (P:Program) (t:TypeId) (i:Nat):Option Bool:=match P.underlying t with
 | some (.struct fs)=>(fs[i]?).bind fun f=>Yf P f.type
 | _=>none
def D.mk:Bool→List D→Option D
 | true,cs=>some (.g cs)
 | false,[c]=>if c.one then some c else none
 | false,_=>none
def Je {α:Type} (cs:List α) (off:Nat) (vs:List α):List α:=cs.take off++vs++cs.drop (off+vs.length)
def kinds (P:Program):Nat→TypeId→Option (List (Option (TypeId×Nat)))
 | 0,_=>none
 | n+1,t=>match P.underlying t with
  | some (.struct fs)=>(fs.toList.mapM fun f=>kinds P n f.type).map List.flatten
  | some (.array _ _)=>none
  | some (.slice e)=>(Qo P e).map fun s=>[some (e,s)]
  | some _=>some [none]
  | none=>none
def JG (P:Program) (t:TypeId):List (Option (TypeId×Nat)):=(kinds P 8 t).getD []
abbrev Kds:=List (Option (TypeId×Nat))
def zOk:Kds→List Value→Bool
 | _,[]=>true
 | ks,v::vs=>(match v with | .slice none 0 0=>(ks.headD none).isSome | _=>true)&&zOk (ks.drop 1) vs
def pur:Nat→X→MP D
 | 0,_=> .fail
 | _+1,.d x=> .ret x.norm
 | _+1,.o k n=> .get k fun
  | .arr _ _ es _ _=>if n=es.length then .ret (.s es) else .fail
  | _=> .fail
 | n+1,.p k off=> .get k fun
  | .box cs=>if off<cs.length then(purs n (cs.drop off)).bind fun ds=> .ret (.q ds) else .fail
  | _=> .fail
 | _+1,.e _ _ _ _=> .fail
 | n+1,.f fn caps=>if caps.all X.one then(purs n caps).bind fun ds=> .ret (.f fn ds) else .fail
 | n+1,.g cs=>(purs n cs).bind fun ds=> .ret (.g ds)
 | n+1,.t cs=>(purs n cs).bind fun ds=> .ret (.t ds)
 | _+1,.u=> .fail
where
 purs:Nat→List X→MP (List D)
 | _,[]=> .ret []
 | 0,_=> .fail
 | n+1,x::xs=>(pur n x).bind fun d=>(purs n xs).bind fun ds=> .ret (d::ds)
def VG:X→MP (D×Bool)
 | .d x=> .ret (x.norm,false)
 | .o k n=> .get k fun
  | .arr ty sz es dp rw=>if n=es.length then .put k (.arr ty sz es false false) (.ret (.s es,dp&&rw)) else .fail
  | _=> .fail
 | _=> .fail
def We:List X→MP (List D×Bool)
 | []=> .ret ([],true)
 | x::xs=>(VG x).bind fun d=>(We xs).bind fun ds=> .ret (d.1::ds.1,d.2&&ds.2)
def JcW (pl:List (Nat×Nat)) (cs:List X):List (Nat×X)→Option (List X)
 | []=>some cs
 | (i,x)::rest =>
  match pl[i]?,x.cells with
  | some (off,n),some vs=>if vs.length=n∧off+n≤cs.length then JcW pl (Je cs off vs) rest else none
  | _,_=>none
def JbQ (agg:Bool) (sz:Nat) (es:List D) (deep:Bool):List (Nat×X)→MP (List D×Bool)
 | []=> .ret (es,deep)
 | (i,x)::rest =>
  match x.cells with
  | some vs=>if vs.length=sz∧i<es.length∧vs.all X.one then(We vs).bind fun ds=>match D.mk agg ds.1 with
    | some d=>JbQ agg sz (es.set i d) (deep&&ds.2) rest
    | none=> .fail
   else .fail
  | none=> .fail
def plain:D→Bool
 | .v _=>true
 | .g cs=>cs.all fun | .v _=>true | _=>false
 | _=>false
def Qb:Value:= .slice none 0 0
mutual
def flat:D→Bool
 | .v _=>true
 | .g cs=>JA cs
 | .t cs=>JA cs
 | _=>false
def JA:List D→Bool
 | []=>true
 | c::cs=>flat c&&JA cs
end
def JfM:X→MP (List D×Bool)
 | .d (.s es)=> .ret (es,false)
 | .d (.v (.slice none 0 0))=> .ret ([],true)
 | .o k n=> .get k fun
  | .arr _ _ es dp rw=>if n=es.length∧(!(dp&&rw)||JA es)=true then .ret (es,false) else .fail
  | _=> .fail
 | _=> .fail
structure JpH where
 F:List D→Option D
 flat:Bool:=false
structure Tab where
 fns:FuncId→Option JpH
 xfns:FuncId→Option (List X→List Obj→Option (X×Mem)):=fun _=>none
 xmask:FuncId→List Bool:=fun _=>[]
 xgmask:FuncId→List (List Bool):=fun _=>[]
 xraw:FuncId→Bool:=fun _=>false
 xflat:FuncId→Bool:=fun _=>false
 bfns:FuncId→Option (List X→List Obj→Option (X×Mem)):=fun _=>none
def Tab.sel (T:Tab) (bo:Bool) (f:FuncId) (S:List X→List Obj→Option (X×Mem)):List X→List Obj→Option (X×Mem):=if bo then(T.bfns f).getD S else S
structure JW where
 lent:Nat:=0
 slots:List Tmp:=[]
 keys:List Key:=[]
 own:List Tmp:=[]
 kill:Nat→List Key:=fun _=>[]
 deep:Bool:=false
 no:List Tmp:=[]
 bor:List Tmp:=[]
def JW.dp (G:JW) (o:Oper):Bool:=G.deep && !G.no.contains (o.dst.getD 0)
def JW.bo (G:JW) (o:Oper):Bool:=G.bor.contains (o.dst.getD 0)
def Uv (P:Program) (b:Bool) (e:TypeId) (z:List Value):Bool:=b&&zOk (JG P e) z
def opX (sl:QM):Operand→X
 | .tmp t=>sl t
 | .const v=>if v.oneCell then .d (.v v) else .u
 | .func f=> .f f []
 | .global _=> .u
def Jt (o:Oper):Key:=16*o.dst.getD 0
def VY:X→Option Int
 | .d (.v (.int _ n))=>some n
 | _=>none
def Jcf:X→MP (List D)
 | .d (.s es)=> .ret es
 | .d (.v (.slice none 0 0))=> .ret []
 | .o k n=> .get k fun
  | .arr _ _ es _ _=>if n=es.length then .ret es else .fail
  | _=> .fail
 | _=> .fail
def X.val:X→Option Value
 | .d (.v x)=>some x
 | _=>none
def Jgi (deep:Bool) (ds:List D):List X:=ds.map fun d=>if deep && !flat d then .u else .d d
def YC:X→MP (List X)
 | .d (.q cs)=> .ret (cs.map .d)
 | .p k off=> .get k fun
  | .box cs=> .ret (cs.drop off)
  | _=> .fail
 | .e k n i off=> .get k fun
  | .arr _ _ es dp rw=>match es[i]? with
   | some e=>if n=es.length then .ret ((Jgi (dp&&rw) e.cells).drop off) else .fail
   | none=> .fail
  | _=> .fail
 | _=> .fail
def Jex (P:Program) (t:TypeId) (a:X):MP X :=
 match Yf P t,Qo P t with
 | some true,some n=>(YC a).bind fun cs=>if n≤cs.length then .ret (.g (cs.take n)) else .fail
 | some false,some _=>(YC a).bind fun cs=>match cs with | c::_=> .ret c | []=> .fail
 | _,_=> .fail
def D.put (e:D) (off:Nat) (ds:List D):Option D:=match e with
 | .g cs=>if off+ds.length≤cs.length then some (.g (Je cs off ds)) else none
 | _=>match off,ds with
  | 0,[d]=>some d
  | _,_=>none
def Jg8 (k:Key) (kd:Option (TypeId×Nat)):X→MP D
 | .d (.v (.slice none 0 0))=>if kd.isSome then .ret (.s []) else .fail
 | .d d=>if flat d then .ret d else .fail
 | .o j n=> .get j fun
  | .arr ty sz es dp true=>if n=es.length∧(dp||JA es)=true∧kd=some (ty,sz)∧j≠k then .put j .dead (.ret (.s es)) else .fail
  | _=> .fail
 | _=> .fail
def JhN (k:Key):Kds→List X→MP (List D)
 | _,[]=> .ret []
 | ks,x::xs=>(Jg8 k (ks.headD none) x).bind fun d=>(JhN k (ks.drop 1) xs).bind fun ds=> .ret (d::ds)
def Jc2 (k:Key) (ag:Bool) (sz:Nat) (ks:Kds):Nat→List (Nat×X)→MP (List D)
 | _,[]=> .ret []
 | i, (j, x) :: rest =>
   match x.cells with
   | some vs=>if vs.length=sz∧j=i∧vs.all X.one then(JhN k ks vs).bind fun ds=>match D.mk ag ds with
       | some d=>(Jc2 k ag sz ks (i+1) rest).bind fun es=> .ret (d::es)
       | none=> .fail
     else .fail
   | none=> .fail
def Je4 (P:Program) (t:TypeId) (a v:X):MP X :=
 match v.cells,Qo P t with
 | some vs,some n=>if vs.length=n then match a with
   | .p k off=> .get k fun
    | .box cs=>if off+n≤cs.length then .put k (.box (Je cs off vs)) (.ret .u) else .fail
    | _=> .fail
   | .e k m i off=> .get k fun
    | .arr ty0 _ _ true true=>(JhN k ((JG P ty0).drop off) vs).bind fun ds=> .get k fun
     | .arr ty sz es true true=>match es[i]? with
      | some e=>match e.put off ds with
       | some e'=>if m=es.length∧ty=ty0 then .put k (.arr ty sz (es.set i e') true true) (.ret .u) else .fail
       | none=> .fail
      | none=> .fail
     | _=> .fail
    | _=>(We vs).bind fun ds=> .get k fun
     | .arr ty sz es dp true=>match es[i]? with
      | some e=>match e.put off ds.1 with
       | some e'=>if m=es.length then .put k (.arr ty sz (es.set i e') (dp&&JA ds.1) true) (.ret .u) else .fail
       | none=> .fail
      | none=> .fail
     | _=> .fail
   | _=> .fail
  else .fail
 | _,_=> .fail
def XP (sz:Nat):List D→Bool
 | []=>true
 | e::_=>e.cells.length == sz
def Ue (P:Program) (e:TypeId) (n:Nat):Bool:=match tz P e with
 | some (_,_,b)=>decide (n*b≤2 ^ 46∧n≤2 ^ 46)
 | none=>false
def Xj (P : Program) (o : Oper) (t : TypeId) (a b : X) : MP X :=
  match JN P t with
  | none=> .fail
  | some e=>match Qo P e with
    | none=> .fail
    | some sz=>(JfM b).bind fun f=>if Ue P e f.1.length∧XP sz f.1∧0<sz∧(J8 P e).map (·.length)=some sz then match a with
      | .d (.v (.slice none 0 0))=>if f.1=[] then .ret a else .new (Jt o) (.arr e sz f.1 false true) (.ret (.o (Jt o) f.1.length))
      | .o k n=> .get k fun
        | .arr ty sz' es dp true=>if n=es.length∧ty=e∧sz'=sz∧Ue P e (n+f.1.length) then
            .put k (.arr e sz (es++f.1) (dp&&JA f.1) true) (.ret (.o k (n+f.1.length)))
          else .fail
        | _=> .fail
      | _=> .fail
      else .fail
def JbF (P:Program) (dp:Bool) (o:Oper) (t:TypeId) (a b:X):MP X:=match a,b with
 | .o k n,.o j n'=>if k=j then Xj P o t a b else .get k fun o1=> .get j fun o2=>match o1,o2 with
  | .arr ty sz es true true,.arr ty' sz' fs true true=>match JN P t with
   | some e=>if n=es.length∧n'=fs.length∧ty=e∧ty'=e∧sz'=sz∧Qo P e=some sz∧fs≠[]∧Ue P e (n+n')∧(J8 P e).map (·.length)=some sz then
     .put j .dead (.put k (.arr e sz (es++fs) true true) (.ret (.o k (n+n'))))
    else .fail
   | none=> .fail
  | _,_=>Xj P o t a b
 | .d (.v (.slice none 0 0)),.o j n' => if dp = true then .get j fun
     | .arr ty' sz' fs true true=>match JN P t with
       | some e=>if n'=fs.length∧ty'=e∧Qo P e=some sz'∧fs≠[]∧Ue P e n'∧(J8 P e).map (·.length)=some sz' then
           .new (Jt o) (.arr e sz' [] true true) (.put j .dead (.put (Jt o) (.arr e sz' fs true true) (.ret (.o (Jt o) n'))))
         else .fail
       | none=> .fail
     | _=>Xj P o t a b
   else Xj P o t a b
 | _,_=>Xj P o t a b
def W4 (P : Program) (o : Oper) (t t' : TypeId) (a b : X) : MP X :=
  match P.underlying t',a with
  | some (.int _),.d (.v (.slice none 0 0)) => match JN P t,VY b with
    | some e,some l=>match Qo P e,Yf P e,J8 P e with
      | some sz,some ag,some z=>match D.mk ag (z.map fun v=>(D.v v).norm) with
        | some zd=>if 0<l∧Ue P e l.toNat∧z.length=sz∧0<sz∧z.all (·.oneCell) then
            .new (Jt o) (.arr e sz (List.replicate l.toNat zd) false true) (.ret (.o (Jt o) l.toNat))
          else .fail
        | none=> .fail
      | _,_,_=> .fail
    | _,_=> .fail
  | _,_=> .fail
def KE (P : Program) (o : Oper) (t : TypeId) (x : X) (lo hi mx : Option X) : MP X :=
  match x with
  | .d (.s es)=>match lo,hi.map VY,mx,JN P t with
    | none,some (some h),none,some e=>if 0≤h∧h≤es.length∧(Qo P e).isSome then .ret (.d (.s (es.take h.toNat))) else .fail
    | _,_,_,_=> .fail
  | .o k n=>match lo,hi.map VY,mx,JN P t with
    | none,some (some h),none,some e=> .get k fun
      | .arr ty sz es _ true=>if n=es.length∧0≤h∧h≤es.length∧(Qo P e).isSome then
          .put k .dead (.new (Jt o) (.arr ty sz (es.take h.toNat) false true) (.ret (.o (Jt o) h.toNat)))
        else .fail
      | _=> .fail
    | _,_,_,_=> .fail
  | .d (.v (.slice none 0 0))=>match lo,hi.map VY,mx,JN P t with
    | none,some (some h),none,some e=>if h=0∧(Qo P e).isSome then .ret (.d (.v (.slice none 0 0))) else .fail
    | _,_,_,_=> .fail
  | _=> .fail
def JjZ (P:Program) (o:Oper) (t:TypeId) (x:X) (lo hi:Option X) (mx:X):MP X :=
 match x with
 | .o k n=>match lo,hi.map VY,VY mx,JN P t with
  | none,some (some h),some q,some e=> .get k fun
   | .arr ty sz es dp true=>if n=es.length∧h=es.length∧q=es.length∧(Qo P e).isSome then
     .put k .dead (.new (Jt o) (.arr ty sz es dp true) (.ret (.o (Jt o) n)))
    else .fail
   | _=> .fail
  | _,_,_,_=> .fail
 | _=> .fail
def WE (xs:List X):MP (List D):=pur.purs 40 xs
mutual
def take:X→MP D
 | .d x=> .ret x.norm
 | .g cs=>(JcC cs).bind fun ds=> .ret (.g ds)
 | .f fn cs=>if cs.all X.one then(JcC cs).bind fun ds=> .ret (.f fn ds) else .fail
 | .o k n=> .get k fun
  | .arr ty sz es _ _=>if n=es.length then .put k (.arr ty sz es false false) (.ret (.s es)) else .fail
  | _=> .fail
 | _=> .fail
def JcC:List X→MP (List D)
 | []=> .ret []
 | c::cs=>(take c).bind fun d=>(JcC cs).bind fun ds=> .ret (d::ds)
end
mutual
def X.names:X→List Key
 | .o k _=>[k]
 | .p k _=>[k]
 | .e k _ _ _=>[k]
 | .g cs=>J4 cs
 | .t cs=>J4 cs
 | .f _ cs=>J4 cs
 | _=>[]
def J4:List X→List Key
 | []=>[]
 | c::cs=>X.names c++J4 cs
end
mutual
def X.ren (ρ:Key→Key):X→X
 | .o k n=> .o (ρ k) n
 | .p k off=> .p (ρ k) off
 | .e k n i off=> .e (ρ k) n i off
 | .g cs=> .g (K0 ρ cs)
 | .t cs=> .t (K0 ρ cs)
 | .f fn cs=> .f fn (K0 ρ cs)
 | x=>x
def K0 (ρ:Key→Key):List X→List X
 | []=>[]
 | c::cs=>X.ren ρ c::K0 ρ cs
end
def Obj.names:Obj→List Key
 | .box cs=>J4 cs
 | _=>[]
def Obj.ren (ρ:Key→Key):Obj→Obj
 | .box cs=> .box (K0 ρ cs)
 | o=>o
def XC:List Key→List Key→List Key
 | acc,[]=>acc
 | acc,k::ks=>XC (if acc.contains k then acc else acc++[k]) ks
def Jda {α:Type}:List Key→(List Obj→MP α)→MP α
 | [],c=>c []
 | k::ks,c=> .get k fun o=>Jda ks fun os=>c (o::os)
def Jco {α:Type}:List (Key×Obj)→MP α→MP α
 | [],c=>c
 | (k,o)::l,c=> .put k o (Jco l c)
def Jfc {α:Type}:List (Key×Obj)→MP α→MP α
 | [],c=>c
 | (k,o)::l,c=> .new k o (Jfc l c)
def at? (L:List Key) (k:Key):Nat:=L.idxOf k
def Jr (i:Nat):List Obj→List (Nat×Obj)
 | []=>[]
 | o::os=>(i,o)::Jr (i+1) os
abbrev YF:=List X→List Obj→Option (X×Mem)
def QG (l:List (Nat×Obj)):Mem:=fun k=>l.lookup k
def XI (m:Mem) (n:Nat):List Key:=(List.range n).flatMap fun k=>match m k with
 | some o=>o.names
 | none=>[]
def Q5 (S : YF) (kb : Key) (xs : List X) (L : List Key) (os : List Obj) : MP X :=
  if (J4 xs ++ os.flatMap Obj.names).all L.contains then
    match S (K0 (at? L) xs) (os.map (Obj.ren (at? L))) with
    | none=> .fail
    | some (x,m1) =>
      let n:=L.length
      let news:=XC [] ((x.names++XI m1 n).filter fun k=>n≤k)
      let all:=List.range n++news
      match all.mapM m1 with
      | none=> .fail
      | some os' =>
        if (x.names ++ os'.flatMap Obj.names).all all.contains && news.length ≤ 16 then
          let back:=fun k=>(L++(List.range news.length).map (kb + ·)).getD (at? all k) 0
          Jco (L.zip ((os'.take n).map (Obj.ren back)))
            (Jfc (((List.range news.length).map (kb + ·)).zip ((os'.drop n).map (Obj.ren back))) (.ret (x.ren back)))
        else .fail
  else .fail
mutual
def X.norm:X→X
 | .d x=> .d x.norm
 | .g cs=> .g (JeG cs)
 | x=>x
def JeG:List X→List X
 | []=>[]
 | c::cs=>X.norm c::JeG cs
end
def VK (S:YF) (kb:Key) (xs:List X):MP X :=
 let ks:=XC [] (J4 xs)
 Jda ks fun os=>let L:=XC ks (os.flatMap Obj.names);Jda L fun os=>Q5 S kb xs L os
def JjK (S:YF) (kb:Key) (xs:List X):MP X:=VK S kb (JeG xs)
def Xo:List Bool→List X→MP (List X)
 | b::bs,x::xs=>if b then(take x).bind fun d=>(Xo bs xs).bind fun ys=> .ret (X.ofD1 d::ys) else(Xo bs xs).bind fun ys=> .ret (x::ys)
 | _,xs=> .ret xs
def Jav (bs:List Bool):X→MP X
 | .g cs=>(Xo bs cs).bind fun ds=> .ret (.g ds)
 | x=> .ret x
def XV:List (List Bool)→List X→MP (List X)
 | bs::bss,x::xs=>(Jav bs x).bind fun y=>(XV bss xs).bind fun ys=> .ret (y::ys)
 | _,xs=> .ret xs
mutual
def X.fl:X→Bool
 | .d x=>flat x
 | .g cs=>JiH cs
 | .t cs=>JiH cs
 | .o _ _=>true
 | _=>false
def JiH:List X→Bool
 | []=>true
 | c::cs=>X.fl c&&JiH cs
end
def ZD:Option Obj→Bool
 | some (.arr _ _ es dp true)=>dp||JA es
 | _=>false
def Obj.deepen:Obj→Obj
 | .arr ty sz es _ rw=> .arr ty sz es true rw
 | o=>o
def JjP (S:YF) (xs:List X):Option (X×Mem):=match S xs [] with
 | some (x,m1)=>if x.fl&&x.names.all (fun k=>ZD (m1 k)) then some (x,fun k=>if x.names.contains k then(m1 k).map Obj.deepen else none) else none
 | none=>none
def Z1 (S:YF) (kb:Key) (ds:List D):MP X:=Q5 (fun _ _=>JjP S (ds.map X.ofD1)) kb [] [] []
def Obj.shal:Obj→Obj
 | .arr ty sz es _ rw=> .arr ty sz es false rw
 | o=>o
def Jca (S:YF):YF:=fun xs os=>(S xs os).map fun r=>(r.1,fun k=>if k<os.length then r.2 k else(r.2 k).map Obj.shal)
def WQ (T : Tab) (G : JW) (o : Oper) (f : FuncId) (args : List X) : MP X :=
  match T.fns f with
  | some S=>if S.flat then(WE args).bind fun ds=>match S.F ds with
        | some r=>if flat r then .ret (X.ofD r) else .fail
        | none=> .fail
      else(JcC args).bind fun ds=>match S.F ds with
        | some r=> .ret (X.ofD r)
        | none=> .fail
  | none=>match T.xfns f with
    | some S=>if T.xflat f||G.bo o then(WE args).bind fun ds=>Z1 (T.sel (G.bo o) f S) (Jt o) ds else let S:=if G.dp o then S else Jca S;if T.xraw f then VK S (Jt o) args else(Xo (T.xmask f) args).bind fun xs=>(XV (T.xgmask f) xs).bind fun xs=>JjK S (Jt o) xs
    | none=> .fail
def opM (P:Program) (T:Tab) (G:JW) (sl:QM) (o:Oper):MP X :=
 let ρ:=opX sl
 match o.op with
 | .move x | .assign x=> .ret (ρ x)
 | .pick c a b=>match ρ c with
  | .d (.v (.bool t))=> .ret (if t then ρ a else ρ b)
  | _=> .fail
 | .alloc t=>match J8 P t with
  | some z=>if z.all (·.oneCell) then .new (Jt o) (.box (z.map fun c=> .d (.v c))) (.ret (.p (Jt o) 0)) else .fail
  | none=> .fail
 | .box _ x=>match (ρ x).cells with
  | some cs=> .new (Jt o) (.box cs) (.ret (.p (Jt o) 0))
  | none=> .fail
 | .build t ps=>match J8 P t,Jgf P t with
  | some z,some pl=>if z.all (·.oneCell) then match JcW pl (z.map fun c=> .d (.v c)) (ps.toList.map fun p=>(p.1,ρ p.2)) with
   | some cs=> .ret (.g cs)
   | none=> .fail
   else .fail
  | _,_=> .fail
 | .buildSlice t n ps=>match JN P t with
  | some e=>match Qo P e,Yf P e,J8 P e with
   | some sz,some ag,some z=>match D.mk ag (z.map fun v=>(D.v v).norm) with
    | some zd=>if n*sz≤2 ^ 24∧z.length=sz∧0<sz∧z.all (·.oneCell) then if Uv P (G.dp o) e z&&ps.toList.length == n&&n != 0 then
      .new (Jt o) (.arr e sz [] true true) ((Jc2 (Jt o) ag sz (JG P e) 0 (ps.toList.map fun p=>(p.1,ρ p.2))).bind fun es =>
       .put (Jt o) (.arr e sz es true true) (.ret (.o (Jt o) es.length)))
      else(JbQ ag sz (List.replicate n zd) true (ps.toList.map fun p=>(p.1,ρ p.2))).bind fun es =>
       .new (Jt o) (.arr e sz es.1 false true) (.ret (.o (Jt o) n))
     else .fail
    | none=> .fail
   | _,_,_=> .fail
  | none=> .fail
 | .load t a=>Jex P t (ρ a)
 | .store t a x=>Je4 P t (ρ a) (ρ x)
 | .nilCheck x=>match ρ x with
  | .p k off=> .ret (.p k off)
  | .d (.q cs)=> .ret (.d (.q cs))
  | .f fn cs=> .ret (.f fn cs)
  | .d (.f fn cs)=> .ret (.d (.f fn cs))
  | _=> .fail
 | .binOp op t x y _=>match ρ x,ρ y with
  | .d (.v a),.d (.v b)=>Kf (JF P (do eqGuard op t x y a b;binOp op t a b))
  | _,_=> .fail
 | .unOp op _ x=>match ρ x with
  | .d (.v a)=>Kf (JF P (Op.unary op a))
  | _=> .fail
 | .convert s d x=>match ρ x with
  | .d (.v a)=>Kf (JF P (convert s d a))
  | _=> .fail
 | .makeFunc (.func f) fs cs=>if fs.isEmpty then .ret (.f f (cs.toList.map ρ)) else .fail
 | .makeSlice t l c=>match JN P t,VY (ρ l),VY (ρ c) with
  | some e,some l,some c=>match Qo P e,Yf P e,J8 P e with
   | some sz,some ag,some z=>match D.mk ag (z.map fun v=>(D.v v).norm) with
    | some zd=>if 0≤l∧l=c∧Ue P e l.toNat∧z.length=sz∧0<sz∧z.all (·.oneCell) then
      .new (Jt o) (.arr e sz (List.replicate l.toNat zd) (Uv P (G.dp o) e z) true) (.ret (.o (Jt o) l.toNat))
     else .fail
    | none=> .fail
   | _,_,_=> .fail
  | _,_,_=> .fail
 | .slice t x lo hi mx=>match mx with
  | none=>KE P o t (ρ x) (lo.map ρ) (hi.map ρ) none
  | some q=>JjZ P o t (ρ x) (lo.map ρ) (hi.map ρ) (ρ q)
 | .fieldAddr t x i=>match Zd P t i with
  | some (off,n)=>if n=0 then .fail else match ρ x with
   | .p k off'=> .ret (.p k (off'+off))
   | .e k n' j off'=> .get k fun
    | .arr _ _ es _ _=>if n'=es.length then .ret (.e k n' j (off'+off)) else .fail
    | _=> .fail
   | .d (.q cs)=>if off<cs.length then .ret (.d (.q (cs.drop off))) else .fail
   | _=> .fail
  | none=> .fail
 | .field t x i=>match Zd P t i,Uy P t i,ρ x with
  | some (off,n),some true,.g cs=> .ret (.g ((cs.drop off).take n))
  | some (off,_),some false,.g cs=>match cs[off]? with
   | some c=> .ret c
   | none=> .fail
  | _,_,_=> .fail
 | .indexAddr t x i=>match JN P t,VY (ρ i) with
  | some e,some j=>match Qo P e,ρ x with
   | some sz,.d (.s es)=>if 0≤j then match es[j.toNat]? with
     | some e=>if e.cells.length=sz then .ret (.d (.q e.cells)) else .fail
     | none=> .fail
    else .fail
   | some sz,.o k n=>if 0≤j∧j<n then .get k fun
     | .arr ty sz' es _ _=>if n=es.length∧ty=e∧sz'=sz then .ret (.e k n j.toNat 0) else .fail
     | _=> .fail
    else .fail
   | _,_=> .fail
  | _,_=> .fail
 | .index t x i=>match ρ x,ρ i with
  | .d (.v a),.d (.v b)=>Kf (JF P (Instr.index t a b))
  | _,_=> .fail
 | .extract x i=>match ρ x with
  | .t cs=>match cs[i]? with
   | some c=> .ret c
   | none=> .fail
  | _=> .fail
 | .call c=>match c.callee with
  | .builtin .len=>match c.args.toList,c.argTypes.toList with
   | [p],[t]=>match ρ p with
    | .d (.v (.string s))=>Kf (JF P (Builtin.len_ #[t] o.type #[.string s]))
    | x=>match JN P t with
     | some _=>(Jcf x).bind fun es=> .ret (.d (.v (goInt es.length)))
     | none=> .fail
   | _,_=> .fail
  | .builtin .append=>match c.args.toList,c.argTypes.toList with
   | [p,q],[t,t']=>if t'=t then JbF P (G.dp o) o t (ρ p) (ρ q) else W4 P o t t' (ρ p) (ρ q)
   | _,_=> .fail
  | .builtin .cap=>match c.args.toList,c.argTypes.toList with
   | [p],[t]=>match ρ p,JN P t with
    | .d (.v (.slice none 0 0)),some _=> .ret (.d (.v (goInt 0)))
    | _,_=> .fail
   | _,_=> .fail
  | .value f=>match ρ f with
   | .f fn cs=>WQ T G o fn (c.args.toList.map ρ++cs)
   | .d (.f fn cs)=>WQ T G o fn (c.args.toList.map ρ++cs.map .d)
   | _=> .fail
  | _=> .fail
 | _=> .fail
structure St where
 sl:QM
 m:Mem
def ofL (l:List (Nat×X)):QM:=fun t=>(l.lookup t).getD .u
def memL (l:List (Nat×Obj)):Mem:=fun k=>l.lookup k
mutual
def erase (live:Key→Bool):X→X
 | .o k n=>if live k then .o k n else .u
 | .p k off=>if live k then .p k off else .u
 | .e k n i off=>if live k then .e k n i off else .u
 | .g cs=> .g (Jcd live cs)
 | .t cs=> .t (Jcd live cs)
 | .f fn cs=> .f fn (Jcd live cs)
 | x=>x
def Jcd (live:Key→Bool):List X→List X
 | []=>[]
 | c::cs=>erase live c::Jcd live cs
end
def Obj.erase (live:Key→Bool):Obj→Obj
 | .box cs=> .box (Jcd live cs)
 | o=>o
def St.keep (G:JW) (drop:List Key) (st:St):St :=
 let ks:=((List.range G.lent).filter fun k=>(st.m k).isSome)++G.keys.filter fun k=>!drop.contains k&&(match st.m k with | some .dead | none=>false | _=>true)
 ⟨ofL (G.slots.map fun t=>(t,erase ks.contains (st.sl t))),memL (ks.filterMap fun k=>(st.m k).map fun o=>(k,o.erase ks.contains))⟩
def Jn6:Op→Bool
 | .alloc _ | .box _ _ | .buildSlice _ _ _ | .makeSlice _ _ _ | .slice _ _ _ _ _=>true
 | _=>false
def Jm8 (G:JW) (o:Oper):Bool:=Jn6 o.op||(match o.op with | .call _=>G.own.contains (o.dst.getD 0) | _=>false)
def St.enter (G:JW) (id:Nat) (ops:Array Oper) (st:St):St :=
 let ds:=(ops.toList.filter (Jm8 G)).map fun o=>o.dst.getD 0
 if ds=[]&&G.kill id=[] then st else st.keep G (G.kill id++G.keys.filter fun k=>ds.contains (k / 16))
def Qx (ops:Array Oper) (sl:QM) (o:Oper):Option Bool:=match o.guard with
 | none=>some true
 | some (j,want)=>match (ops[j]?).bind (·.dst) with
  | some d=>match sl d with
   | .d (.v (.bool b))=>some (b == want)
   | .t []=>some false
   | _=>none
  | none=>none
def Uw (sl:QM) (dst:Option Tmp) (x:X):QM:=match dst with
 | some d=>upd sl d x
 | none=>sl
def Jbl (P:Program) (T:Tab) (G:JW) (ops:Array Oper) (i:Nat) (st:St):Option St:=match ops[i]? with
 | none=>none
 | some o=>match Qx ops st.sl o with
  | some true=>match (opM P T G st.sl o).run st.m with
   | some (x,m)=>some ⟨Uw st.sl o.dst x,m⟩
   | none=>none
  | some false=>some ⟨Uw st.sl o.dst (.t []),st.m⟩
  | none=>none
def UA (P:Program) (T:Tab) (G:JW) (ops:Array Oper):List Nat→St→Option St
 | [],st=>some st
 | i::l,st=>match Jbl P T G ops i st with
  | some st'=>UA P T G ops l st'
  | none=>none
end Go.Tm
end
section
namespace Go.Tm
open Go.IntKind (i64)
mutual
def Rd (w:World):D→Value→List Nat→Prop
 | .v x,val,fp=>val=x∧x.oneCell=true∧fp=[]
 | .g cs,val,fp=>∃ vs:List Value,val = .agg vs.toArray∧Xx w cs vs fp
 | .s es,val,fp=>∃ A cap,val = .slice A es.length cap∧es.length≤cap ∧
  ((es=[]∧fp=[])∨∃ b o sz fp',A=some ⟨b,o,none⟩∧b<w.heap.size∧fp=b::fp'∧Ky w es sz b o fp')
 | .q cs,val,fp=>∃ b o fp',val = .pointer (some ⟨b,o,none⟩)∧b<w.heap.size∧fp=b::fp'∧JdN w cs b o fp'
 | .f fn caps,val,fp=>∃ vs:List Value,val = .func (.func fn) #[] vs.toArray∧Xx w caps vs fp
 | .t cs,val,fp=>∃ vs:List Value,val = .tuple vs.toArray∧ZR w cs vs fp
def Xx (w:World):List D→List Value→List Nat→Prop
 | [],vs,fp=>vs=[]∧fp=[]
 | c::cs,vs,fp=>∃ v vs' f1 f2,vs=v::vs'∧fp=f1++f2∧Rd w c v f1∧Xx w cs vs' f2∧v.oneCell=true
def ZR (w:World):List D→List Value→List Nat→Prop
 | [],vs,fp=>vs=[]∧fp=[]
 | c::cs,vs,fp=>∃ v vs' f1 f2,vs=v::vs'∧fp=f1++f2∧Rd w c v f1∧ZR w cs vs' f2
def JdN (w:World):List D→Nat→Nat→List Nat→Prop
 | [],_,_,fp=>fp=[]
 | c::cs,b,o,fp=>∃ v f1 f2,w.cell? ⟨b,o,none⟩=some v∧fp=f1++f2∧Rd w c v f1∧JdN w cs b (o+1) f2∧v.oneCell=true
def Ky (w:World):List D→Nat→Nat→Nat→List Nat→Prop
 | [],_,_,_,fp=>fp=[]
 | e::es,sz,b,o,fp=>∃ val f1 f2,fp=f1++f2∧Rd w e val f1∧val.cells.size=sz ∧
  (∀j,j<sz→w.cell? ⟨b,o+j,none⟩=val.cells[j]?)∧Ky w es sz b (o+sz) f2∧∀u∈val.cells.toList,u.oneCell=true
end
theorem JaH {w w':World} {b o:Nat} (h:w'.heap[b]? = w.heap[b]?):w'.cell? ⟨b,o,none⟩=w.cell? ⟨b,o,none⟩:=by
 simp only[World.cell?,h]
mutual
theorem UW {w w':World} :∀(x:D) (val:Value) (fp:List Nat),w.heap.size≤w'.heap.size→(∀b∈fp,w'.heap[b]? = w.heap[b]?)→Rd w x val fp→Rd w' x val fp
 | .v x,val,fp,_,_,h=>h
 | .g cs,val,fp,hz,hs,⟨vs,e,h⟩=>⟨vs,e,W5 cs vs fp hz hs h⟩
 | .s es,val,fp,hz,hs,⟨A,cap,e,hl,h⟩=>⟨A,cap,e,hl,by
  rcases h with h | ⟨b,o,sz,fp',hA,hb,rfl,h⟩
  ·exact .inl h
  ·exact .inr ⟨b,o,sz,fp',hA,by omega,rfl,Kc es sz b o fp' hz (hs b (by simp)) (fun c hc=>hs c (by simp[hc])) h⟩⟩
 | .q cs,val,fp,hz,hs,⟨b,o,fp',e,hb,hf,h⟩=>by
  subst hf;exact⟨b,o,fp',e,by omega,rfl,Jeq cs b o fp' hz (hs b (by simp)) (fun c hc=>hs c (by simp[hc])) h⟩
 | .f fn caps,val,fp,hz,hs,⟨vs,e,h⟩=>⟨vs,e,W5 caps vs fp hz hs h⟩
 | .t cs,val,fp,hz,hs,⟨vs,e,h⟩=>⟨vs,e,Jem cs vs fp hz hs h⟩
theorem W5 {w w':World} :∀(cs:List D) (vs:List Value) (fp:List Nat),w.heap.size≤w'.heap.size→(∀b∈fp,w'.heap[b]? = w.heap[b]?)→Xx w cs vs fp→Xx w' cs vs fp
 | [],_,_,_,_,h=>h
 | c::cs,vs,fp,hz,hs,⟨v,vs',f1,f2,e,hf,h1,h2,h3⟩=>by
  subst hf;exact⟨v,vs',f1,f2,e,rfl,UW c v f1 hz (fun b hb=>hs b (by simp[hb])) h1,W5 cs vs' f2 hz (fun b hb=>hs b (by simp[hb])) h2,h3⟩
theorem Jem {w w':World} :∀(cs:List D) (vs:List Value) (fp:List Nat),w.heap.size≤w'.heap.size→(∀b∈fp,w'.heap[b]? = w.heap[b]?)→ZR w cs vs fp→ZR w' cs vs fp
 | [],_,_,_,_,h=>h
 | c::cs,vs,fp,hz,hs,⟨v,vs',f1,f2,e,hf,h1,h2⟩=>by
  subst hf;exact⟨v,vs',f1,f2,e,rfl,UW c v f1 hz (fun b hb=>hs b (by simp[hb])) h1,Jem cs vs' f2 hz (fun b hb=>hs b (by simp[hb])) h2⟩
theorem Jeq {w w':World} :∀(cs:List D) (b o:Nat) (fp:List Nat),w.heap.size≤w'.heap.size→w'.heap[b]? = w.heap[b]?→(∀b∈fp,w'.heap[b]? = w.heap[b]?)→JdN w cs b o fp→JdN w' cs b o fp
 | [],_,_,_,_,_,_,h=>h
 | c::cs,b,o,fp,hz,hb,hs,⟨v,f1,f2,hc,hf,h1,h2,h3⟩=>by
  subst hf;exact⟨v,f1,f2,(JaH hb).trans hc,rfl,UW c v f1 hz (fun b hb=>hs b (by simp[hb])) h1,Jeq cs b (o+1) f2 hz hb (fun b hb=>hs b (by simp[hb])) h2,h3⟩
theorem Kc {w w':World} :∀(es:List D) (sz b o:Nat) (fp:List Nat),w.heap.size≤w'.heap.size→w'.heap[b]? = w.heap[b]?→(∀b∈fp,w'.heap[b]? = w.heap[b]?)→Ky w es sz b o fp→Ky w' es sz b o fp
 | [],_,_,_,_,_,_,_,h=>h
 | e::es,sz,b,o,fp,hz,hb,hs,⟨val,f1,f2,hf,h1,hsz,hc,h2,h3⟩=>by
  subst hf;exact⟨val,f1,f2,rfl,UW e val f1 hz (fun b hb=>hs b (by simp[hb])) h1,hsz,fun j hj=>(JaH hb).trans (hc j hj),Kc es sz b (o+sz) f2 hz hb (fun b hb=>hs b (by simp[hb])) h2,h3⟩
end
mutual
theorem Wq {w:World} :∀(x:D) (val:Value) (fp:List Nat),Rd w x val fp→∀b∈fp,b<w.heap.size
 | .v x,val,fp,h,b,hb=>by obtain⟨_,_,rfl⟩:=h;simp at hb
 | .g cs,val,fp,⟨vs,_,h⟩,b,hb=>Jbs cs vs fp h b hb
 | .s es,val,fp,⟨A,cap,_,_,h⟩,b,hb=>by
  rcases h with ⟨_,rfl⟩ | ⟨c,o,sz,fp',_,hc,rfl,h⟩
  ·simp at hb
  ·rcases Jrs.1 hb with rfl | hb
   ·exact hc
   ·exact ZI es sz c o fp' h b hb
 | .q cs,val,fp,⟨c,o,fp',_,hc,hf,h⟩,b,hb=>by
  subst hf;rcases Jrs.1 hb with rfl | hb
  ·exact hc
  ·exact Jkt cs c o fp' h b hb
 | .f fn caps,val,fp,⟨vs,_,h⟩,b,hb=>Jbs caps vs fp h b hb
 | .t cs,val,fp,⟨vs,_,h⟩,b,hb=>Je1 cs vs fp h b hb
theorem Jbs {w:World} :∀(cs:List D) (vs:List Value) (fp:List Nat),Xx w cs vs fp→∀b∈fp,b<w.heap.size
 | [],_,fp,h,b,hb=>by obtain⟨_,rfl⟩:=h;simp at hb
 | c::cs,vs,fp,⟨v,vs',f1,f2,_,hf,h1,h2,_⟩,b,hb=>by
  subst hf;rcases Jre.1 hb with hb | hb
  ·exact Wq c v f1 h1 b hb
  ·exact Jbs cs vs' f2 h2 b hb
theorem Je1 {w:World} :∀(cs:List D) (vs:List Value) (fp:List Nat),ZR w cs vs fp→∀b∈fp,b<w.heap.size
 | [],_,fp,h,b,hb=>by obtain⟨_,rfl⟩:=h;simp at hb
 | c::cs,vs,fp,⟨v,vs',f1,f2,_,hf,h1,h2⟩,b,hb=>by
  subst hf;rcases Jre.1 hb with hb | hb
  ·exact Wq c v f1 h1 b hb
  ·exact Je1 cs vs' f2 h2 b hb
theorem Jkt {w:World} :∀(cs:List D) (b o:Nat) (fp:List Nat),JdN w cs b o fp→∀c∈fp,c<w.heap.size
 | [],_,_,fp,h,b,hb=>by rw[show fp=[] from h] at hb;simp at hb
 | c::cs,b,o,fp,⟨v,f1,f2,_,hf,h1,h2,_⟩,k,hk=>by
  subst hf;rcases Jre.1 hk with hk | hk
  ·exact Wq c v f1 h1 k hk
  ·exact Jkt cs b (o+1) f2 h2 k hk
theorem ZI {w:World} :∀(es:List D) (sz b o:Nat) (fp:List Nat),Ky w es sz b o fp→∀c∈fp,c<w.heap.size
 | [],_,_,_,fp,h,b,hb=>by rw[show fp=[] from h] at hb;simp at hb
 | e::es,sz,b,o,fp,⟨val,f1,f2,hf,h1,_,_,h2,_⟩,k,hk=>by
  subst hf;rcases Jre.1 hk with hk | hk
  ·exact Wq e val f1 h1 k hk
  ·exact ZI es sz b (o+sz) f2 h2 k hk
end
theorem Qc {w:World} :∀(cs:List D) (vs:List Value) (fp:List Nat),Xx w cs vs fp→vs.length=cs.length
 | [],vs,fp,h=>by obtain⟨rfl,_⟩:=h;rfl
 | c::cs,vs,fp,⟨v,vs',f1,f2,e,_,_,h2,_⟩=>by subst e;simp[Qc cs vs' f2 h2]
theorem Yw {w:World} :∀(cs:List D) (vs:List Value) (fp:List Nat),Xx w cs vs fp→∀v∈vs,v.oneCell=true
 | [],vs,fp,h,v,hv=>by obtain⟨rfl,_⟩:=h;simp at hv
 | c::cs,vs,fp,⟨u,vs',f1,f2,e,_,_,h2,h3⟩,v,hv=>by
  subst e;rcases Jrs.1 hv with rfl | hv
  ·exact h3
  ·exact Yw cs vs' f2 h2 v hv
theorem Uo {w:World} {e:D} {val:Value} {fp:List Nat} (h:Rd w e val fp) (ho :∀u∈val.cells.toList,u.oneCell=true):Xx w e.cells val.cells.toList fp:=by
 cases e with
 | g cs=>obtain⟨vs,rfl,h⟩:=h;simpa[D.cells,Value.cells] using h
 | v x =>
  obtain⟨rfl,h1,rfl⟩:=h;have:val.cells = #[val]:=by cases val <;> simp_all [Value.cells,Value.oneCell]
  rw[this];exact⟨val,[],[],[],rfl,rfl,⟨rfl,h1,rfl⟩,⟨rfl,rfl⟩,h1⟩
 | s es =>
  have h':=h;obtain⟨A,cap,rfl,_⟩:=h;exact⟨_,[],fp,[],rfl,by simp,h',⟨rfl,rfl⟩,rfl⟩
 | q cs =>
  have h':=h;obtain⟨b,o,fp',rfl,_⟩:=h;exact⟨_,[],fp,[],rfl,by simp,h',⟨rfl,rfl⟩,rfl⟩
 | f fn caps =>
  have h':=h;obtain⟨vs,rfl,_⟩:=h;exact⟨_,[],fp,[],rfl,by simp,h',⟨rfl,rfl⟩,rfl⟩
 | t cs =>
  obtain⟨vs,rfl,_⟩:=h;have:=ho (.tuple vs.toArray) (by simp[Value.cells]);simp[Value.oneCell] at this
theorem JjF {w:World} :∀(cs:List D) (vs:List Value) (b o:Nat) (fp:List Nat),Xx w cs vs fp→(∀j,j<vs.length→w.cell? ⟨b,o+j,none⟩=vs[j]?)→JdN w cs b o fp
 | [],vs,b,o,fp,h,_=>h.2
 | c::cs,vs,b,o,fp,⟨v,vs',f1,f2,e,hf,h1,h2,h3⟩,hc=>by
  subst e;refine⟨v,f1,f2,by simpa using hc 0 (by simp),hf,h1,?_,h3⟩;exact(JjF cs vs' b (o+1) f2 h2 (fun j hj=>by
   have:=hc (j+1) (by simpa using hj);rw[show o+1+j=o+(j+1) by omega];simpa using this))
theorem Jdn {w:World} :∀(es:List D) (sz b o:Nat) (fp:List Nat) (i:Nat) (e:D),Ky w es sz b o fp→es[i]? = some e →
  ∃ val f,Rd w e val f∧val.cells.size=sz∧(∀j,j<sz→w.cell? ⟨b,o+i*sz+j,none⟩=val.cells[j]?)∧(∀c∈f,c∈fp)∧∀u∈val.cells.toList,u.oneCell=true
 | [],_,_,_,_,i,e,_,hi=>by simp at hi
 | e::es,sz,b,o,fp,0,e',⟨val,f1,f2,hf,h1,hsz,hc,h2,h3⟩,hi=>by
  simp at hi;subst hi;subst hf;exact⟨val,f1,h1,hsz,fun j hj=>by simpa using hc j hj,fun c hc=>by simp[hc],h3⟩
 | e::es,sz,b,o,fp,i+1,e',⟨val,f1,f2,hf,h1,hsz,hc,h2,h3⟩,hi=>by
  subst hf;obtain⟨v,f,a1,a2,a3,a4,a5⟩:=Jdn es sz b (o+sz) f2 i e' h2 (by simpa using hi);exact⟨v,f,a1,a2,fun j hj=>by rw[show o+(i+1)*sz+j=o+sz+i*sz+j by rw[Nat.succ_mul];omega];exact a3 j hj,fun c hc=>by simp[a4 c hc],a5⟩
theorem WZ {w:World} {x:D} {v:Value} {fp:List Nat} (h:Rd w x v fp):Rd w x.norm v fp:=by
 unfold D.norm;split
 ·obtain⟨rfl,_,rfl⟩:=h;exact⟨none,0,rfl,Nat.le_refl _,.inl ⟨rfl,rfl⟩⟩
 ·exact h
section
variable {w:World}
mutual
theorem YB :∀(d:D) (v:Value) (fp:List Nat),flat d=true→Rd w d v fp→fp=[]
 | .v x,v,fp,_,h=>h.2.2
 | .g cs,v,fp,hf,⟨vs,_,h⟩=>Jao cs vs fp hf h
 | .t cs,v,fp,hf,⟨vs,_,h⟩=>Jej cs vs fp hf h
 | .s _,v,fp,hf,h=>by simp[flat] at hf
 | .q _,v,fp,hf,h=>by simp[flat] at hf
 | .f _ _,v,fp,hf,h=>by simp[flat] at hf
theorem Jao :∀(ds:List D) (vs:List Value) (fp:List Nat),JA ds=true→Xx w ds vs fp→fp=[]
 | [],vs,fp,_,h=>h.2
 | d::ds,vs,fp,hf,⟨v,vs',f1,f2,e,hfp,h1,h2,_⟩=>by
  simp only[JA,Jq9] at hf;rw[hfp,YB d v f1 hf.1 h1,Jao ds vs' f2 hf.2 h2];rfl
theorem Jej :∀(ds:List D) (vs:List Value) (fp:List Nat),JA ds=true→ZR w ds vs fp→fp=[]
 | [],vs,fp,_,h=>h.2
 | d::ds,vs,fp,hf,⟨v,vs',f1,f2,e,hfp,h1,h2⟩=>by
  simp only[JA,Jq9] at hf;rw[hfp,YB d v f1 hf.1 h1,Jej ds vs' f2 hf.2 h2];rfl
end
end
end Go.Tm
end
section
namespace Go.Tm
open Go.IntKind (i64)
mutual
def Ow (P : Program) (w : World) : D → Kds → Value → List Nat → Prop
  | .v x,_,val,fp=>val=x∧x.oneCell=true∧fp=[]
  | .g cs,ks,val,fp=>∃ vs:List Value,val = .agg vs.toArray∧ZA P w cs ks vs fp
  | .s es,ks,val,fp=>∃ ty sz,ks.head? = some (some (ty,sz))∧((val = .slice none 0 0∧es=[]∧fp=[]) ∨
      ∃ b cap cs fp',val = .slice (some ⟨b,0,none⟩) es.length cap∧es.length≤cap∧cap≤maxLen∧w.heap[b]? = some (.cells cs ty (0,0))∧cap*sz≤cs.size∧fp=b::fp' ∧
        Jbn P w es (JG P ty) sz b 0 fp')
  | .q _,_,_,_=>False
  | .f _ _,_,_,_=>False
  | .t _,_,_,_=>False
def ZA (P:Program) (w:World):List D→Kds→List Value→List Nat→Prop
 | [],_,vs,fp=>vs=[]∧fp=[]
 | c::cs,ks,vs,fp=>∃ v vs' f1 f2,vs=v::vs'∧fp=f1++f2∧Ow P w c (ks.take 1) v f1∧ZA P w cs (ks.drop 1) vs' f2∧v.oneCell=true
def Jbn (P:Program) (w:World):List D→Kds→Nat→Nat→Nat→List Nat→Prop
 | [],_,_,_,_,fp=>fp=[]
 | e::es,ks,sz,b,o,fp=>∃ val f1 f2,fp=f1++f2∧Ow P w e ks val f1∧val.cells.size=sz ∧
  (∀j,j<sz→w.cell? ⟨b,o+j,none⟩=val.cells[j]?)∧Jbn P w es ks sz b (o+sz) f2∧∀u∈val.cells.toList,u.oneCell=true
end
section
variable {P:Program} {w w':World}
mutual
theorem Jjy :∀(x:D) (ks:Kds) (val:Value) (fp:List Nat),Ow P w x ks val fp→Rd w x val fp
 | .v x,ks,val,fp,h=>h
 | .g cs,ks,val,fp,⟨vs,e,h⟩=>⟨vs,e,Kx cs ks vs fp h⟩
 | .s es,ks,val,fp,⟨ty,sz,_,h⟩=>by
  rcases h with ⟨e,rfl,hf⟩ | ⟨b,cap,cs,fp',e,h1,h2,h3,h4,hf,h⟩
  ·exact⟨none,0,e,Nat.le_refl _,.inl ⟨rfl,hf⟩⟩
  ·exact⟨_,cap,e,h1,.inr ⟨b,0,sz,fp',rfl,(Jrl.1 h3).1,hf,JbJ es _ sz b 0 fp' h⟩⟩
theorem Kx :∀(cs:List D) (ks:Kds) (vs:List Value) (fp:List Nat),ZA P w cs ks vs fp→Xx w cs vs fp
 | [],_,_,_,h=>h
 | c::cs,ks,vs,fp,⟨v,vs',f1,f2,e,hf,h1,h2,h3⟩=>⟨v,vs',f1,f2,e,hf,Jjy c _ v f1 h1,Kx cs _ vs' f2 h2,h3⟩
theorem JbJ :∀(es:List D) (ks:Kds) (sz b o:Nat) (fp:List Nat),Jbn P w es ks sz b o fp→Ky w es sz b o fp
 | [],_,_,_,_,_,h=>h
 | e::es,ks,sz,b,o,fp,⟨val,f1,f2,hf,h1,hsz,hc,h2,h3⟩=>⟨val,f1,f2,hf,Jjy e ks val f1 h1,hsz,hc,JbJ es ks sz b (o+sz) f2 h2,h3⟩
end
mutual
theorem Wg :∀(x:D) (ks:Kds) (val:Value) (fp:List Nat),(∀b∈fp,w'.heap[b]? = w.heap[b]?)→Ow P w x ks val fp→Ow P w' x ks val fp
 | .v x,ks,val,fp,_,h=>h
 | .g cs,ks,val,fp,hs,⟨vs,e,h⟩=>⟨vs,e,Jaa cs ks vs fp hs h⟩
 | .s es,ks,val,fp,hs,⟨ty,sz,hk,h⟩=>by
  refine⟨ty,sz,hk,?_⟩;rcases h with h | ⟨b,cap,cs,fp',e,h1,h2,h3,h4,hf,h⟩
  ·exact .inl h
  ·subst hf;exact .inr ⟨b,cap,cs,fp',e,h1,h2,(hs b (by simp)).trans h3,h4,rfl,Z6 es _ sz b 0 fp' (hs b (by simp)) (fun q hq=>hs q (by simp[hq])) h⟩
theorem Jaa :∀(cs:List D) (ks:Kds) (vs:List Value) (fp:List Nat),(∀b∈fp,w'.heap[b]? = w.heap[b]?)→ZA P w cs ks vs fp→ZA P w' cs ks vs fp
 | [],_,_,_,_,h=>h
 | c::cs,ks,vs,fp,hs,⟨v,vs',f1,f2,e,hf,h1,h2,h3⟩=>by
  subst hf;exact⟨v,vs',f1,f2,e,rfl,Wg c _ v f1 (fun b hb=>hs b (by simp[hb])) h1,Jaa cs _ vs' f2 (fun b hb=>hs b (by simp[hb])) h2,h3⟩
theorem Z6 :∀(es:List D) (ks:Kds) (sz b o:Nat) (fp:List Nat),w'.heap[b]? = w.heap[b]?→(∀b∈fp,w'.heap[b]? = w.heap[b]?)→Jbn P w es ks sz b o fp→Jbn P w' es ks sz b o fp
 | [],_,_,_,_,_,_,_,h=>h
 | e::es,ks,sz,b,o,fp,hb,hs,⟨val,f1,f2,hf,h1,hsz,hc,h2,h3⟩=>by
  subst hf;exact⟨val,f1,f2,rfl,Wg e ks val f1 (fun b hb=>hs b (by simp[hb])) h1,hsz,fun j hj=>(JaH hb).trans (hc j hj),Z6 es ks sz b (o+sz) f2 hb (fun b hb=>hs b (by simp[hb])) h2,h3⟩
end
theorem JjC {d:D} {v:Value} {fp:List Nat} (ks:Kds) (hf:flat d=true) (ho:v.oneCell=true) (h:Rd w d v fp):Ow P w d ks v fp:=by
 cases d with
 | v x=>exact h
 | g cs=>obtain⟨vs,rfl,_⟩:=h;simp[Value.oneCell] at ho
 | t cs=>obtain⟨vs,rfl,_⟩:=h;simp[Value.oneCell] at ho
 | _=>simp[flat] at hf
theorem JaD :∀(cs:List D) (ks:Kds) (vs:List Value) (fp:List Nat),JA cs=true→Xx w cs vs fp→ZA P w cs ks vs fp
 | [],_,_,_,_,h=>h
 | c::cs,ks,vs,fp,hf,⟨v,vs',f1,f2,e,hfp,h1,h2,h3⟩=>by
  simp only[JA,Jq9] at hf;exact⟨v,vs',f1,f2,e,hfp,JjC _ hf.1 h3 h1,JaD cs _ vs' f2 hf.2 h2,h3⟩
theorem Jic {e:D} {val:Value} {fp:List Nat} (ks:Kds) (hf:flat e=true) (ho :∀u∈val.cells.toList,u.oneCell=true) (h:Rd w e val fp):Ow P w e ks val fp:=by
 cases e with
 | v x=>exact h
 | g cs =>
  obtain⟨vs,rfl,h⟩:=h;exact⟨vs,rfl,JaD cs ks vs fp (by simpa[flat] using hf) h⟩
 | t cs =>
  obtain⟨vs,rfl,_⟩:=h;have:=ho (.tuple vs.toArray) (by simp[Value.cells]);simp[Value.oneCell] at this
 | _=>simp[flat] at hf
theorem JaN :∀(es:List D) (ks:Kds) (sz b o:Nat) (fp:List Nat),JA es=true→Ky w es sz b o fp→Jbn P w es ks sz b o fp
 | [],_,_,_,_,_,_,h=>h
 | e::es,ks,sz,b,o,fp,hf,⟨val,f1,f2,hfp,h1,hsz,hc,h2,h3⟩=>by
  simp only[JA,Jq9] at hf;exact⟨val,f1,f2,hfp,Jic ks hf.1 h3 h1,hsz,hc,JaN es ks sz b (o+sz) f2 hf.2 h2,h3⟩
end
end Go.Tm
end
section
namespace Go.Tm
open Go.IntKind (i64)
structure Gh where
 bl:Key→Option Nat
 hd:Key→Value
 fd:Key→List Nat
 ow:Nat→Option Key
variable {P:Program}
structure Cx (P:Program) where
 w0:World
 A:List Nat
 par:List Nat
 parA :∀b∈par,b∈A
def Obj.rw:Obj→Bool
 | .box _=>true
 | .arr _ _ _ _ rw=>rw
 | .dead=>false
def Obj.dpw:Obj→Bool
 | .arr _ _ _ dp rw=>dp&&rw
 | _=>false
def Blk (g:Gh) (k:Key) (o:Obj) (b:Nat):Prop:=g.bl k=some b∨(o.dpw=true∧b∈g.fd k)
def Mut (g:Gh) (m:Mem) (b:Nat):Prop:=∃ k o,m k=some o∧o.rw=true∧Blk g k o b
def JV (c:Cx P) (g:Gh) (m:Mem) (fp:List Nat):Prop:=∀b∈fp,¬Mut g m b∧(b∈c.A∨c.w0.heap.size≤b)
mutual
def VX (c:Cx P) (g:Gh) (m:Mem) (w:World):X→Value→Prop
 | .d x,v=>∃ fp,Rd w x v fp∧JV c g m fp
 | .g cs,v=>∃ vs:List Value,v = .agg vs.toArray∧VXs c g m w cs vs∧∀u∈vs,u.oneCell=true
 | .t cs,v=>∃ vs:List Value,v = .tuple vs.toArray∧VXs c g m w cs vs
 | .f fn cs,v=>∃ vs:List Value,v = .func (.func fn) #[] vs.toArray∧VXs c g m w cs vs
 | .o k n,v=>v.oneCell=true∧(∃ o,m k=some o∧∀cs,o≠ .box cs)∧∀ty sz es dp rw,m k=some (.arr ty sz es dp rw)→n≤es.length∧(n=es.length→v=g.hd k)
 | .p k off,v=>∃ cs b,m k=some (.box cs)∧g.bl k=some b∧v = .pointer (some ⟨b,off,none⟩)
 | .e k n i off,v=>v.oneCell=true∧(∃ o,m k=some o∧∀cs,o≠ .box cs)∧∀ty sz es dp rw,m k=some (.arr ty sz es dp rw)→n≤es.length∧(n=es.length→∃ b,g.bl k=some b∧v = .pointer (some ⟨b,i*sz+off,none⟩))
 | .u,_=>True
def VXs (c:Cx P) (g:Gh) (m:Mem) (w:World):List X→List Value→Prop
 | [],vs=>vs=[]
 | x::xs,vs=>∃ v vs',vs=v::vs'∧VX c g m w x v∧VXs c g m w xs vs'
end
structure Jc (c:Cx P) (g:Gh) (m:Mem) (w:World) (g':Gh) (m':Mem) (w':World):Prop where
 size:w.heap.size≤w'.heap.size
 pure :∀b,¬Mut g m b→(b∈c.A∨c.w0.heap.size≤b)→b<w.heap.size→w'.heap[b]? = w.heap[b]?∧¬Mut g' m' b
 box :∀k cs,m k=some (.box cs)→(∃ cs',m' k=some (.box cs'))∧g'.bl k=g.bl k
 arr :∀k ty sz es dp rw,m k=some (.arr ty sz es dp rw)→m' k=some .dead∨∃ es' dp' rw',m' k=some (.arr ty sz es' dp' rw') ∧
  ((es'.length=es.length∧g'.hd k=g.hd k∧g'.bl k=g.bl k)∨es.length<es'.length)
 dead :∀k,m k=some .dead→m' k=some .dead
theorem Qi {c:Cx P} {g g':Gh} {m m':Mem} {w w':World} (h:Jc c g m w g' m' w') {fp:List Nat} (hl :∀b∈fp,b<w.heap.size) (hf:JV c g m fp) :
  JV c g' m' fp∧∀b∈fp,w'.heap[b]? = w.heap[b]? :=
 ⟨fun b hb=>⟨(h.pure b (hf b hb).1 (hf b hb).2 (hl b hb)).2,(hf b hb).2⟩,fun b hb=>(h.pure b (hf b hb).1 (hf b hb).2 (hl b hb)).1⟩
mutual
theorem Qy {c:Cx P} {g g':Gh} {m m':Mem} {w w':World} (h:Jc c g m w g' m' w') :∀(x:X) (v:Value),VX c g m w x v→VX c g' m' w' x v
 | .d x,v,⟨fp,hr,hf⟩ =>
  have:=Qi h (Wq x v fp hr) hf
  ⟨fp,UW x v fp h.size this.2 hr,this.1⟩
 | .g cs,v,⟨vs,e,hv,h1⟩=>⟨vs,e,Qe h cs vs hv,h1⟩
 | .t cs,v,⟨vs,e,hv⟩=>⟨vs,e,Qe h cs vs hv⟩
 | .f fn cs,v,⟨vs,e,hv⟩=>⟨vs,e,Qe h cs vs hv⟩
 | .o k n,v,⟨h1c,⟨o,ho,hb⟩,hv⟩=>by
  cases o with
  | box cs=>exact absurd rfl (hb cs)
  | dead=>exact⟨h1c,⟨.dead,h.dead k ho,by simp⟩,fun ty sz es dp rw e=>by rw[h.dead k ho] at e;cases e⟩
  | arr ty sz es dp rw =>
   obtain⟨h1,h2⟩:=hv ty sz es dp rw ho;rcases h.arr k ty sz es dp rw ho with e | ⟨es',dp',rw',e,hh⟩
   ·exact⟨h1c,⟨_,e,by simp⟩,fun ty sz es dp rw e'=>by rw[e] at e';cases e'⟩
   ·refine⟨h1c,⟨_,e,by simp⟩,fun ty1 sz1 es1 dp1 rw1 e'=>?_⟩;rw[e] at e';cases e';rcases hh with ⟨a,b,_⟩ | a
    ·exact⟨by omega,fun hn=>by rw[b];exact h2 (by omega)⟩
    ·exact⟨by omega,fun hn=>by omega⟩
 | .p k off,v,⟨cs,b,hm,hb,hv⟩=>by
  obtain⟨⟨cs',e⟩,e'⟩:=h.box k cs hm;exact⟨cs',b,e,e'.trans hb,hv⟩
 | .e k n i off,v,⟨h1c,⟨o,ho,hb⟩,hv⟩=>by
  cases o with
  | box cs=>exact absurd rfl (hb cs)
  | dead=>exact⟨h1c,⟨.dead,h.dead k ho,by simp⟩,fun ty sz es dp rw e=>by rw[h.dead k ho] at e;cases e⟩
  | arr ty sz es dp rw =>
   obtain⟨h1,h2⟩:=hv ty sz es dp rw ho;rcases h.arr k ty sz es dp rw ho with e | ⟨es',dp',rw',e,hh⟩
   ·exact⟨h1c,⟨_,e,by simp⟩,fun ty sz es dp rw e'=>by rw[e] at e';cases e'⟩
   ·refine⟨h1c,⟨_,e,by simp⟩,fun ty1 sz1 es1 dp1 rw1 e'=>?_⟩;rw[e] at e';cases e';rcases hh with ⟨a,b,d⟩ | a
    ·exact⟨by omega,fun hn=>by rw[d];exact h2 (by omega)⟩
    ·exact⟨by omega,fun hn=>by omega⟩
 | .u,_,_=>trivial
theorem Qe {c:Cx P} {g g':Gh} {m m':Mem} {w w':World} (h:Jc c g m w g' m' w') :∀(xs:List X) (vs:List Value),VXs c g m w xs vs→VXs c g' m' w' xs vs
 | [],_,e=>e
 | x::xs,vs,⟨v,vs',e,h1,h2⟩=>⟨v,vs',e,Qy h x v h1,Qe h xs vs' h2⟩
end
def Vq (w:World) (g:Gh) (k:Key) (ty:TypeId) (sz:Nat) (es:List D):Prop :=
 (g.bl k=none∧g.hd k=Qb∧es=[]∧g.fd k=[]) ∨
 ∃ b cap cs,g.bl k=some b∧g.hd k = .slice (some ⟨b,0,none⟩) es.length cap∧es.length≤cap∧cap≤maxLen ∧
  w.heap[b]? = some (.cells cs ty (0,0))∧cap*sz≤cs.size∧Ky w es sz b 0 (g.fd k)
structure Yd (c:Cx P) (w:World):Prop where
 os:w.os=c.w0.os
 tape:w.tape=c.w0.tape
 output:w.output=c.w0.output
 size:c.w0.heap.size≤w.heap.size
 block :∀b,b<c.w0.heap.size→b∉c.par→w.heap[b]? = c.w0.heap[b]?
structure Sim (c:Cx P) (g:Gh) (m:Mem) (w:World):Prop where
 frame:Yd c w
 box :∀k cs,m k=some (.box cs)→∃ b vs ty,g.bl k=some b∧w.heap[b]? = some (.cells vs.toArray ty (0,0))∧VXs c g m w cs vs∧∀u∈vs,u.oneCell=true
 arr :∀k ty sz es dp rw,m k=some (.arr ty sz es dp rw)→Vq w g k ty sz es∧((dp&&rw)=false→JV c g m (g.fd k))∧(rw=false→∀b,g.bl k=some b→JV c g m [b])
 deep :∀k ty sz es,m k=some (.arr ty sz es true true)→(g.fd k).Nodup∧∀b,g.bl k=some b→b∉g.fd k∧Jbn P w es (JG P ty) sz b 0 (g.fd k)
 own :∀k o b,m k=some o→o.rw=true→Blk g k o b→g.ow b=some k
 live :∀b k,g.ow b=some k→b<w.heap.size∧(c.w0.heap.size≤b∨b∈c.par)
structure Fix (P:Program) where
 S:List Nat
 I:World→Prop
 lt :∀w,I w→∀b∈S,b<w.heap.size
 keep :∀w w',I w→(∀b∈S,w'.heap[b]? = w.heap[b]?)→I w'
def Fix.none (P:Program):Fix P:=⟨[],fun _=>True,fun _ _ _ h=>by simp at h,fun _ _ _ _=>trivial⟩
def Fix.ok (Φ:Fix P) (c:Cx P):Prop:=Φ.I c.w0∧∀b∈Φ.S,b∉c.par
theorem Sim.inv {Φ:Fix P} {c:Cx P} {g:Gh} {m:Mem} {w:World} (hS:Sim c g m w) (h:Φ.ok c):Φ.I w :=
 Φ.keep c.w0 w h.1 fun b hb=>hS.frame.block b (Φ.lt _ h.1 b hb) (h.2 b hb)
end Go.Tm
end
section
namespace Go.Tm
open Go.IntKind (i64)
theorem XR {α:Type} {P:Program} :∀(e:Sem α) (a:α) (w:World),JF P e=some a→e.run P w = .ok a w
 | .pure a,b,w,h=>by simp only[JF,Jq8] at h;subst h;rfl
 | .program k,b,w,h=>by simp only[JF] at h;exact XR (k P) b w h
 | .load _ _ _,_,_,h | .store _ _ _ _,_,_,h | .new _ _,_,_,h | .shape _ _,_,_,h | .freeze _ _ _,_,_,h | .frozen _ _,_,_,h
 | .getObj _ _,_,_,h | .setObj _ _ _,_,_,h | .choose _ _,_,_,h | .sys _ _,_,_,h | .mark _ _,_,_,h | .halt _,_,_,h=>by simp[JF] at h
theorem MP.run_bind {α β:Type} (h:α→MP β) :∀(x:MP α) (m:Mem),(x.bind h).run m=match x.run m with
  | some (a,m')=>(h a).run m'
  | none=>none
 | .ret a,m=>rfl
 | .fail,m=>rfl
 | .get k c,m=>by
  simp only[MP.bind,MP.run];cases m k with
  | none=>rfl
  | some o=>exact MP.run_bind h (c o) m
 | .put k o c,m=>by
  simp only[MP.bind,MP.run];cases m k with
  | none=>rfl
  | some _=>exact MP.run_bind h c _
 | .new k o c,m=>by
  simp only[MP.bind,MP.run];cases m k with
  | none=>exact MP.run_bind h c _
  | some _=>rfl
theorem MP.bind_some {α β:Type} {h:α→MP β} {x:MP α} {m:Mem} {r:β×Mem} (e:(x.bind h).run m=some r) :
  ∃ a m',x.run m=some (a,m')∧(h a).run m'=some r:=by
 rw[MP.run_bind] at e;cases hx:x.run m with
 | none=>rw[hx] at e;cases e
 | some p=>obtain⟨a,m'⟩:=p;rw[hx] at e;exact⟨a,m',rfl,e⟩
theorem MP.get_some {α:Type} {k:Key} {c:Obj→MP α} {m:Mem} {r:α×Mem} (e:(MP.get k c).run m=some r) :
  ∃ o,m k=some o∧(c o).run m=some r:=by
 simp only[MP.run] at e;cases h:m k with
 | none=>rw[h] at e;cases e
 | some o=>rw[h] at e;exact⟨o,rfl,e⟩
section
variable {P:Program} {c:Cx P} {g:Gh} {m:Mem} {w:World}
theorem Jc.refl (c:Cx P) (g:Gh) (m:Mem) (w:World):Jc c g m w g m w :=
 ⟨Nat.le_refl _,fun b h _ _=>⟨rfl,h⟩,fun k cs h=>⟨⟨cs,h⟩,rfl⟩,fun k ty sz es dp rw h=> .inr ⟨es,dp,rw,h,.inl ⟨rfl,rfl,rfl⟩⟩,fun _ h=>h⟩
theorem Jj9 :∀(cs:List D) (vs:List Value) (fp:List Nat),Xx w cs vs fp→JV c g m fp→VXs c g m w (cs.map X.d) vs
 | [],_,_,h,_=>h.1
 | _::ds,_,_,⟨v,vs',f1,f2,e,hf,h1,h2,_⟩,ho=>by
  subst hf;exact⟨v,vs',e,⟨f1,h1,fun b hb=>ho b (by simp[hb])⟩,Jj9 ds vs' f2 h2 (fun b hb=>ho b (by simp[hb]))⟩
theorem JhZ (deep:Bool) :∀(cs:List D) (vs:List Value) (fp:List Nat),Xx w cs vs fp→(deep=false→JV c g m fp)→VXs c g m w (Jgi deep cs) vs
 | [],_,_,h,_=>h.1
 | d::ds,_,_,⟨v,vs',f1,f2,e,hf,h1,h2,_⟩,ho=>by
  subst hf;have ih:=JhZ deep ds vs' f2 h2 (fun hd b hb=>ho hd b (by simp[hb]));refine⟨v,vs',e,?_,ih⟩;show VX c g m w (if deep && !flat d then .u else .d d) v;cases hd:deep with
  | false=>exact⟨f1,h1,fun b hb=>ho hd b (by simp[hb])⟩
  | true =>
   cases hf:flat d with
   | false=>trivial
   | true=>exact⟨f1,h1,fun b hb=>by rw[YB d v f1 hf h1] at hb;simp at hb⟩
theorem Jfo :∀(x:D) (v:Value) (fp:List Nat),Rd w x v fp→JV c g m fp→VX c g m w (X.ofD1 x) v:=by
 intro x v fp h ho;cases x with
 | g cs =>
  obtain⟨vs,rfl,h⟩:=h;exact⟨vs,rfl,Jj9 cs vs fp h ho,Yw cs vs fp h⟩
 | v x=>exact⟨fp,h,ho⟩
 | s es=>exact⟨fp,h,ho⟩
 | q cs=>exact⟨fp,h,ho⟩
 | f fn caps=>exact⟨fp,h,ho⟩
 | t cs=>exact⟨fp,h,ho⟩
theorem JbR :∀(cs:List D) (vs:List Value) (fp:List Nat),ZR w cs vs fp→JV c g m fp→VXs c g m w (cs.map X.ofD1) vs
 | [],vs,fp,h,_=>h.1
 | d::ds,vs,fp,⟨v,vs',f1,f2,e,hf,h1,h2⟩,ho=>by
  subst hf;exact⟨v,vs',e,Jfo d v f1 h1 (fun b hb=>ho b (by simp[hb])),JbR ds vs' f2 h2 (fun b hb=>ho b (by simp[hb]))⟩
theorem JlX (x:D) (v:Value) (fp:List Nat) (h:Rd w x v fp) (ho:JV c g m fp):VX c g m w (X.ofD x) v:=by
 cases x with
 | t cs=>obtain⟨vs,rfl,h⟩:=h;exact⟨vs,rfl,JbR cs vs fp h ho⟩
 | g cs=>exact Jfo (.g cs) v fp h ho
 | v x=>exact⟨fp,h,ho⟩
 | s es=>exact⟨fp,h,ho⟩
 | q cs=>exact⟨fp,h,ho⟩
 | f fn caps=>exact⟨fp,h,ho⟩
theorem Jbe :∀(cs:List D) (b o:Nat) (fp:List Nat),JdN w cs b o fp→JV c g m fp →
  ∃ vs:List Value,vs.length=cs.length∧VXs c g m w (cs.map X.d) vs∧(∀j v,vs[j]? = some v→w.cell? ⟨b,o+j,none⟩=some v)∧∀u∈vs,u.oneCell=true
 | [],b,o,fp,_,_=>⟨[],rfl,rfl,by simp,by simp⟩
 | d::ds,b,o,fp,⟨v,f1,f2,hc,hf,h1,h2,h3⟩,ho=>by
  subst hf;obtain⟨vs,hl,hv,hcs,hone⟩:=Jbe ds b (o+1) f2 h2 (fun b hb=>ho b (by simp[hb]));refine⟨v::vs,by simp[hl],⟨v,vs,rfl,⟨f1,h1,fun b hb=>ho b (by simp[hb])⟩,hv⟩,fun j u hj=>?_,fun u hu=>(Jrs.1 hu).elim (fun e=>e▸h3) (hone u)⟩;cases j with
  | zero=>simpa using hj▸hc
  | succ j =>
   have:=hcs j u (by simpa using hj);rw[show o+(j+1)=o+1+j by omega];exact this
theorem Qp :∀(xs:List X) (vs:List Value),VXs c g m w xs vs→vs.length=xs.length
 | [],vs,h=>by rw[show vs=[] from h];rfl
 | x::xs,vs,⟨v,vs',e,_,h⟩=>by subst e;simp[Qp xs vs' h]
theorem Jgb :∀(xs:List X) (vs:List Value) (i:Nat) (x:X),VXs c g m w xs vs→xs[i]? = some x→∃ v,vs[i]? = some v∧VX c g m w x v
 | [],_,i,x,_,h=>by simp at h
 | y::ys,vs,0,x,⟨v,vs',e,h1,_⟩,h=>by subst e;simp at h;subst h;exact⟨v,rfl,h1⟩
 | y::ys,vs,i+1,x,⟨v,vs',e,_,h2⟩,h=>by subst e;simpa using Jgb ys vs' i x h2 (by simpa using h)
theorem Z8 :∀(n:Nat) (xs:List X) (vs:List Value),VXs c g m w xs vs→VXs c g m w (xs.drop n) (vs.drop n)
 | 0,_,_,h=>h
 | n+1,[],vs,h=>by rw[show vs=[] from h];rfl
 | n+1,x::xs,vs,⟨v,vs',e,_,h2⟩=>by subst e;simpa using Z8 n xs vs' h2
theorem Wz :∀(n:Nat) (xs:List X) (vs:List Value),VXs c g m w xs vs→VXs c g m w (xs.take n) (vs.take n)
 | 0,_,_,_=>by simp[VXs]
 | n+1,[],vs,h=>by rw[show vs=[] from h];simp[VXs]
 | n+1,x::xs,vs,⟨v,vs',e,h1,h2⟩=>by subst e;exact⟨v,vs'.take n,by simp,h1,Wz n xs vs' h2⟩
theorem Zf :∀(xs:List X) (vs:List Value) (ys:List X) (us:List Value),VXs c g m w xs vs→VXs c g m w ys us→VXs c g m w (xs++ys) (vs++us)
 | [],vs,ys,us,h,h'=>by rw[show vs=[] from h];exact h'
 | x::xs,vs,ys,us,⟨v,vs',e,h1,h2⟩,h'=>by subst e;exact⟨v,vs'++us,rfl,h1,Zf xs vs' ys us h2 h'⟩
theorem Vx {b o:Nat} {vs:List Value} {ty:TypeId} {fz:Nat×Nat} (h:w.heap[b]? = some (.cells vs.toArray ty fz)):w.cell? ⟨b,o,none⟩=vs[o]?:=by
 simp[World.cell?,h]
theorem Vo {x:X} {v:Value} {cs:List X} {m':Mem} (hS:Sim c g m w) (hx:VX c g m w x v) (h:(YC x).run m=some (cs,m')) :
  m'=m∧((∃ b off vs,v = .pointer (some ⟨b,off,none⟩)∧VXs c g m w cs vs∧(∀j u,vs[j]? = some u→w.cell? ⟨b,off+j,none⟩=some u)∧∀u∈vs,u.oneCell=true)):=by
 cases x with
 | d x =>
  cases x with
  | q ds =>
   simp only[YC,MP.run,Jq8,Jrq] at h;obtain⟨rfl,rfl⟩:=h;obtain⟨fp,⟨b,o,fp',rfl,hb,rfl,hr⟩,ho⟩:=hx;obtain⟨vs,_,h1,h2,h3⟩:=Jbe ds b o fp' hr (fun b hb=>ho b (by simp[hb]));exact⟨rfl,b,o,vs,rfl,h1,h2,h3⟩
  | _=>simp[YC,MP.run] at h
 | p k off =>
  obtain⟨o,ho,h⟩:=MP.get_some h;obtain⟨cs0,b,hm,hb,rfl⟩:=hx;rw[ho] at hm;cases hm;simp only[MP.run,Jq8,Jrq] at h;obtain⟨rfl,rfl⟩:=h;obtain⟨b',vs,ty,hb',hh,hv,hone⟩:=hS.box k cs0 ho;rw[hb] at hb';cases hb';refine⟨rfl,b,off,vs.drop off,rfl,Z8 off cs0 vs hv,fun j u hj=>?_,fun u hu=>hone u (List.mem_of_mem_drop hu)⟩;rw[Vx hh];simpa using hj
 | e k n i off =>
  obtain⟨o,ho,h⟩:=MP.get_some h;cases o with
  | arr ty sz es dp rw =>
   simp only at h;cases hi:es[i]? with
   | none=>simp[hi,MP.run] at h
   | some e =>
    simp only[hi] at h;split at h
    ·rename_i hn;simp only[MP.run,Jq8,Jrq] at h;obtain⟨rfl,rfl⟩:=h;obtain⟨b,hb,rfl⟩:=(hx.2.2 ty sz es dp rw ho).2 hn;obtain⟨harr,hok,_⟩:=hS.arr k ty sz es dp rw ho;rcases harr with ⟨_,_,rfl,_⟩ | ⟨b',cap,cur,hb',_,_,_,hh,hcs,hr⟩
     ·simp at hi
     rw[hb] at hb';cases hb';obtain⟨val,f,h1,h2,h3,h4,h5⟩:=Jdn es sz b 0 (g.fd k) i e hr hi;have hv:=JhZ (dp&&rw) e.cells val.cells.toList f (Uo h1 h5) (fun hd b hb=>hok hd b (h4 b hb));refine⟨rfl,b,i*sz+off,val.cells.toList.drop off,rfl,?_,fun j u hj=>?_,fun u hu=>h5 u (List.mem_of_mem_drop hu)⟩
     ·exact Z8 off _ _ hv
     ·rw[List.getElem?_drop] at hj;have hlt:off+j<sz:=by
       rw[←h2];have:=(Jra.1 hj).1;simpa using this
      have:=h3 (off+j) hlt;rw[Nat.zero_add] at this;rw[show i*sz+off+j=i*sz+(off+j) by omega,this];simpa using hj
    ·simp[MP.run] at h
  | _=>simp[MP.run] at h
 | _=>simp[YC,MP.run] at h
end
end Go.Tm
end
section
namespace Go.Tm
open Go.IntKind (i64)
section
variable {P:Program} {c:Cx P} {g:Gh} {m:Mem} {w:World} {a:Act} {sl:QM} {o:Oper}
def Qf (P:Program) (c:Cx P) (g:Gh) (m:Mem) (w:World) (a:Act) (o:Oper) (x:X) (m':Mem):Prop :=
 o.wp P a w (fun a' w'=>∃ v g',a'=a.put o.dst v∧Sim c g' m' w'∧Jc c g m w g' m' w'∧VX c g' m' w' x v) fun _ _ _=>False
theorem Qf.value {x:X} {m':Mem} {v:Value} {w':World} {g':Gh} (h:(execOp a.eval o).run P w = .ok (.value v) w') (hS:Sim c g' m' w') (hC:Jc c g m w g' m' w')
  (hx:VX c g' m' w' x v):Qf P c g m w a o x m':=by
 unfold Qf Oper.wp;rw[h];exact⟨v,g',rfl,hS,hC,hx⟩
theorem Qf.look {x:X} {v:Value} (h:(execOp a.eval o).run P w = .ok (.value v) w) (hS:Sim c g m w) (hx:VX c g m w x v):Qf P c g m w a o x m :=
 .value h hS (.refl _ _ _ _) hx
theorem Qf.skip {m':Mem} {w':World} {g':Gh} (h:(execOp a.eval o).run P w = .ok .skip w') (hS:Sim c g' m' w') (hC:Jc c g m w g' m' w') :
  Qf P c g m w a o .u m':=by
 unfold Qf Oper.wp;rw[h];exact⟨undef,g',rfl,hS,hC,trivial⟩
def Jl (c:Cx P) (g:Gh) (m:Mem) (w:World) (sl:QM) (a:Act):Prop:=∀t,VX c g m w (sl t) (a.tmps.getD t undef)
theorem oX1 (h:Jl c g m w sl a) :∀x:Operand,VX c g m w (opX sl x) (a.eval x)
 | .tmp t=>h t
 | .const v=>by
  simp only[opX];split
  ·rename_i hv;exact⟨[],⟨rfl,hv,rfl⟩,fun b hb=>by simp at hb⟩
  ·trivial
 | .func f=>⟨[],rfl,rfl⟩
 | .global _=>trivial
theorem K2 {t:TypeId} {b:Bool} (h:Yf P t=some b):(isAgg t).run P w = .ok b w:=by
 unfold Yf at h;unfold isAgg;cases hu:P.underlying t with
 | none=>simp[hu] at h
 | some d =>
  rw[hu] at h;cases d <;> simp at h <;> subst h <;> simp[underlying,hu]
theorem Z7 {t:TypeId} {n:Nat} (h:Qo P t=some n) : ∃ i,P.info? t=some i∧i.size=n:=by
 unfold Qo tz at h;cases hi:P.info? t with
 | none=>simp[hi] at h
 | some i=>simp[hi] at h;exact⟨i,rfl,h⟩
theorem Xi {t:TypeId} {n:Nat} (h:Qo P t=some n):(sizeOf t).run P w = .ok n w:=by
 obtain⟨i,hi,rfl⟩:=Z7 h;simp[sizeOf,typeInfo,hi]
theorem JT {t e:TypeId} (h:JN P t=some e):P.underlying t=some (.slice e):=by
 unfold JN at h;split at h
 ·rename_i h';simp at h;subst h;exact h'
 ·cases h
theorem Zv {t:TypeId} {z:List Value} (h:J8 P t=some z) : ∃ i v,P.info? t=some i∧i.zero=some v∧v.cells.toList=z:=by
 unfold J8 tz at h;cases hi:P.info? t with
 | none=>simp[hi] at h
 | some i =>
  simp[hi] at h;obtain⟨v,hv,rfl⟩:=h;exact⟨i,v,rfl,hv,by simp⟩
theorem X4 (b o n:Nat):(⟨b,o,none⟩:Addr).add n=⟨b,o+n,none⟩:=by
 unfold Addr.add;split
 ·rename_i h;subst h;rfl
 ·rfl
theorem Ja5 {t:TypeId} {x y:X} {v:Value} {m':Mem} (hS:Sim c g m w) (hx:VX c g m w x v) (h:(Jex P t x).run m=some (y,m')) :
  m'=m∧∃ u,(Instr.loadAt t v).run P w = .ok u w∧VX c g m w y u:=by
 unfold Jex at h;split at h
 ·rename_i n ha hn;obtain⟨cs,m1,h1,h2⟩:=MP.bind_some h;obtain⟨rfl,b,off,vs,rfl,hv,hc,hone⟩:=Vo hS hx h1;split at h2
  ·rename_i hle;simp only[MP.run,Jq8,Jrq] at h2;obtain⟨rfl,rfl⟩:=h2;have hl:=Qp cs vs hv;refine⟨rfl,.agg (vs.take n).toArray,?_,vs.take n,rfl,Wz n cs vs hv,fun u hu=>hone u (Jrx hu)⟩;have hr:=run_loadCells_list (P:=P) (w:=w) ⟨b,off,none⟩ (vs.take n) (fun j u hj=>by
    rw[X4];rw[List.getElem?_take] at hj;split at hj
    ·exact hc j u hj
    ·cases hj)
   have hlen:(vs.take n).length=n:=by rw[Jro];omega
   rw[hlen] at hr;simp[Instr.loadAt,Instr.sureAddr,loadVar,K2 ha,Xi hn,hr]
  ·simp[MP.run] at h2
 ·rename_i n ha hn;obtain⟨cs,m1,h1,h2⟩:=MP.bind_some h;obtain⟨rfl,b,off,vs,rfl,hv,hc,hone⟩:=Vo hS hx h1;cases cs with
  | nil=>simp[MP.run] at h2
  | cons x xs =>
   simp only[MP.run,Jq8,Jrq] at h2;obtain⟨rfl,rfl⟩:=h2;obtain⟨u,us,rfl,hu,_⟩:=hv;refine⟨rfl,u,?_,hu⟩;have:=hc 0 u rfl;simp only[Nat.add_zero] at this;simp[Instr.loadAt,Instr.sureAddr,loadVar,K2 ha,this]
 ·simp[MP.run] at h
theorem Kb {r:Option Value} {y:X} {m':Mem} (h:(Kf r).run m=some (y,m')) : ∃ v,r=some v∧v.oneCell=true∧y = .d (.v v)∧m'=m:=by
 cases r with
 | none=>simp[Kf,MP.run] at h
 | some v =>
  simp only[Kf] at h;split at h
  ·rename_i hv;simp only[MP.run,Jq8,Jrq] at h;exact⟨v,rfl,hv,h.1.symm,h.2.symm⟩
  ·simp[MP.run] at h
theorem Jdc {v:Value} (h:v.oneCell=true):VX c g m w (.d (.v v)) v:=⟨[],⟨rfl,h,rfl⟩,fun b hb=>by simp at hb⟩
theorem J0 {x v:Value} (h:VX c g m w (.d (.v x)) v):v=x∧x.oneCell=true:=by
 obtain⟨fp,⟨rfl,h1,_⟩,_⟩:=h;exact⟨rfl,h1⟩
theorem Ym {v:Value} (h:v.oneCell=true):v.cells = #[v]:=by cases v <;> simp_all [Value.cells,Value.oneCell]
theorem XX {x:X} {v:Value} {cs:List X} (hx:VX c g m w x v) (h:x.cells=some cs):VXs c g m w cs v.cells.toList∧∀u∈v.cells.toList,u.oneCell=true:=by
 have one :∀{y:X} {u:Value},VX c g m w y u→u.oneCell=true→VXs c g m w [y] u.cells.toList∧∀z∈u.cells.toList,z.oneCell=true:=fun hy hu=>by
  rw[Ym hu];exact⟨⟨_,[],rfl,hy,rfl⟩,by simpa using hu⟩
 cases x with
 | d x =>
  cases x with
  | g ds=>simp[X.cells] at h;subst h;obtain⟨fp,⟨vs,rfl,hr⟩,ho⟩:=hx;exact⟨by simpa[Value.cells] using Jj9 ds vs fp hr ho,by simpa[Value.cells] using Yw ds vs fp hr⟩
  | t ds=>simp[X.cells] at h
  | v u=>simp[X.cells] at h;subst h;have h':=hx;obtain⟨fp,⟨rfl,h1,_⟩,_⟩:=hx;exact one h' h1
  | s es=>simp[X.cells] at h;subst h;have h':=hx;obtain⟨fp,⟨A,cap,rfl,_⟩,_⟩:=hx;exact one h' rfl
  | q cs=>simp[X.cells] at h;subst h;have h':=hx;obtain⟨fp,⟨b,o,fp',rfl,_⟩,_⟩:=hx;exact one h' rfl
  | f fn cs=>simp[X.cells] at h;subst h;have h':=hx;obtain⟨fp,⟨vs,rfl,_⟩,_⟩:=hx;exact one h' rfl
 | g ds=>simp[X.cells] at h;subst h;obtain⟨vs,rfl,hr,h1⟩:=hx;exact⟨by simpa[Value.cells] using hr,by simpa[Value.cells] using h1⟩
 | o k n=>simp[X.cells] at h;subst h;exact one hx hx.1
 | p k off=>simp[X.cells] at h;subst h;have h':=hx;obtain⟨_,_,_,_,rfl⟩:=hx;exact one h' rfl
 | e k n i off=>simp[X.cells] at h;subst h;exact one hx hx.1
 | f fn cs=>simp[X.cells] at h;subst h;have h':=hx;obtain⟨vs,rfl,_⟩:=hx;exact one h' rfl
 | t cs=>simp[X.cells] at h
 | u=>simp[X.cells] at h
theorem JhD {α:Type} (xs:List α) (i:Nat) (v:α) (l:List α) (h:i<xs.length):Je (xs.set i v) (i+1) l=Je xs i (v::l):=by
 have h1:(xs.set i v).take (i+1)=xs.take i++[v]:=by
  rw[List.take_succ_eq_append_getElem (by simpa using h),List.take_set_of_le (Nat.le_refl i)];simp
 have h2:(xs.set i v).drop (i+1+l.length)=xs.drop (i+(v::l).length):=by
  rw[List.drop_set_of_lt (by omega)];congr 1;simp;omega
 unfold Je;rw[h1,h2];simp
theorem US (off:Nat) :∀(l:List Value) (k:Nat) (arr:Array Value),off+k+l.length≤arr.size →
  ((l.zipIdx k).foldl (fun cs p=>cs.setIfInBounds (off+p.2) p.1) arr).toList=Je arr.toList (off+k) l
 | [],k,arr,_=>by simp[Je]
 | v::l,k,arr,h=>by
  simp only[List.length_cons] at h;rw[List.zipIdx_cons,List.foldl_cons,US off l (k+1) _ (by simp;omega),Array.toList_setIfInBounds,
   show off+(k+1)=off+k+1 by omega,JhD _ _ _ _ (by simp;omega)]
theorem Jdk {cs vs:List X} {us ws:List Value} {off:Nat} (h:VXs c g m w cs us) (h':VXs c g m w vs ws):VXs c g m w (Je cs off vs) (Je us off ws):=by
 have:=Qp vs ws h';unfold Je;rw[this];exact Zf _ _ _ _ (Zf _ _ _ _ (Wz off cs us h) h') (Z8 _ cs us h)
theorem JaS {pl:List (Nat×Nat)} :∀(ps:List (Nat×X)) (qs:List (Nat×Value)) (cs:List X) (arr:Array Value) (cs':List X),
  qs.length=ps.length→(∀(i:Nat) (p:Nat×X) (q:Nat×Value),ps[i]? = some p→qs[i]? = some q→p.1=q.1∧VX c g m w p.2 q.2)→VXs c g m w cs arr.toList→(∀u∈arr.toList,u.oneCell=true)→JcW pl cs ps=some cs' →
  ∃ arr',Instr.fill (pl.toArray[·]?) arr qs=some arr'∧VXs c g m w cs' arr'.toList∧∀u∈arr'.toList,u.oneCell=true
 | [],[],cs,arr,cs',_,_,hv,ho,h=>by simp[JcW] at h;subst h;exact⟨arr,rfl,hv,ho⟩
 | [],_::_,_,_,_,hl,_,_,_,_=>by simp at hl
 | _::_,[],_,_,_,hl,_,_,_,_=>by simp at hl
 | (i,x)::ps,(j,v)::qs,cs,arr,cs',hl,hr,hv,ho,h=>by
  obtain⟨hij,hx⟩:=hr 0 _ _ rfl rfl;simp only at hij;subst hij;simp only[JcW] at h;split at h
  ·rename_i off n vs hp hc;split at h
   ·rename_i hn;obtain⟨hcs,hone⟩:=XX hx hc;have hlen:=Qp _ _ hcs;have hcl:=Qp _ _ hv;simp only[Jrj] at hlen hcl;have hp':pl.toArray[i]? = some (off,n):=by simpa using hp
    have hfold:=US off v.cells.toList 0 arr (by simp;omega);have hv':=Jdk (off:=off) hv hcs;have e:(v.cells.zipIdx.foldl (fun cs p=>cs.setIfInBounds (off+p.2) p.1) arr).toList=Je arr.toList off v.cells.toList:=by
     rw[←Array.foldl_toList,Array.toList_zipIdx];simpa using hfold
    obtain⟨arr',h1,h2⟩:=JaS ps qs _ (v.cells.zipIdx.foldl (fun cs p=>cs.setIfInBounds (off+p.2) p.1) arr) cs' (by simpa using hl)
     (fun k p q a b=>hr (k+1) p q (by simpa using a) (by simpa using b)) (e▸hv') (by
      rw[e];intro u hu;unfold Je at hu;rcases Jre.1 hu with hu | hu
      ·rcases Jre.1 hu with hu | hu
       ·exact ho u (Jrx hu)
       ·exact hone u hu
      ·exact ho u (List.mem_of_mem_drop hu)) h
    refine⟨arr',?_,h2⟩;simp only[Instr.fill,hp'];rw[if_neg (by simp;omega)];exact h1
   ·cases h
  ·cases h
end
end Go.Tm
end
section
namespace Go.Tm
open Go.IntKind (i64)
section
variable {P:Program} {T:Tab} {G:JW} {c:Cx P} {g:Gh} {m m':Mem} {w:World} {a:Act} {sl:QM} {o:Oper} {x:X}
theorem JkJ (hS:Sim c g m w) (hsl:Jl c g m w sl a) {op:BinOp} {t t':TypeId} {p q:Operand} (ho:o.op = .binOp op t p q t')
  (h:(opM P T G sl o).run m=some (x,m')):Qf P c g m w a o x m':=by
 unfold opM at h;rw[ho] at h;simp only at h;have hp:=oX1 hsl p;have hq:=oX1 hsl q;split at h
 ·rename_i u v e1 e2;obtain⟨r,hr,h1,rfl,rfl⟩:=Kb h;rw[e1] at hp;rw[e2] at hq;have hu:=(J0 hp).1;have hv:=(J0 hq).1;refine .look (v:=r) ?_ hS (Jdc h1);have:=XR _ _ w hr;unfold execOp;rw[ho];simp only[hu,hv];simp only[Sem.run_bind] at this ⊢;rw[this];rfl
 ·simp[MP.run] at h
theorem Jm7 (hS:Sim c g m w) (hsl:Jl c g m w sl a) {op:UnOp} {t:TypeId} {p:Operand} (ho:o.op = .unOp op t p)
  (h:(opM P T G sl o).run m=some (x,m')):Qf P c g m w a o x m':=by
 unfold opM at h;rw[ho] at h;simp only at h;have hp:=oX1 hsl p;split at h
 ·rename_i u e1;obtain⟨r,hr,h1,rfl,rfl⟩:=Kb h;rw[e1] at hp;have hu:=(J0 hp).1;refine .look (v:=r) ?_ hS (Jdc h1);have:=XR _ _ w hr;unfold execOp;rw[ho];simp only[hu,Sem.run_bind,this];rfl
 ·simp[MP.run] at h
theorem Jgp (hS:Sim c g m w) (hsl:Jl c g m w sl a) {s d:TypeId} {p:Operand} (ho:o.op = .convert s d p)
  (h:(opM P T G sl o).run m=some (x,m')):Qf P c g m w a o x m':=by
 unfold opM at h;rw[ho] at h;simp only at h;have hp:=oX1 hsl p;split at h
 ·rename_i u e1;obtain⟨r,hr,h1,rfl,rfl⟩:=Kb h;rw[e1] at hp;have hu:=(J0 hp).1;refine .look (v:=r) ?_ hS (Jdc h1);have:=XR _ _ w hr;unfold execOp;rw[ho];simp only[hu,Sem.run_bind,this];rfl
 ·simp[MP.run] at h
theorem Jle (hS:Sim c g m w) (hsl:Jl c g m w sl a) {t:TypeId} {p q:Operand} (ho:o.op = .index t p q)
  (h:(opM P T G sl o).run m=some (x,m')):Qf P c g m w a o x m':=by
 unfold opM at h;rw[ho] at h;simp only at h;have hp:=oX1 hsl p;have hq:=oX1 hsl q;split at h
 ·rename_i u v e1 e2;obtain⟨r,hr,h1,rfl,rfl⟩:=Kb h;rw[e1] at hp;rw[e2] at hq;have hu:=(J0 hp).1;have hv:=(J0 hq).1;refine .look (v:=r) ?_ hS (Jdc h1);have:=XR _ _ w hr;unfold execOp;rw[ho];simp only[hu,hv,Sem.run_bind,this];rfl
 ·simp[MP.run] at h
theorem Jhj (hS:Sim c g m w) (hsl:Jl c g m w sl a) {p:Operand} (ho:o.op = .move p∨o.op = .assign p)
  (h:(opM P T G sl o).run m=some (x,m')):Qf P c g m w a o x m':=by
 have hp:=oX1 hsl p;rcases ho with ho | ho
 all_goals
  unfold opM at h;rw[ho] at h;simp only[MP.run,Jq8,Jrq] at h;obtain⟨rfl,rfl⟩:=h;exact .look (by unfold execOp;rw[ho];rfl) hS hp
theorem JnH (hS:Sim c g m w) (hsl:Jl c g m w sl a) {p q r:Operand} (ho:o.op = .pick p q r)
  (h:(opM P T G sl o).run m=some (x,m')):Qf P c g m w a o x m':=by
 have hp:=oX1 hsl p;unfold opM at h;rw[ho] at h;simp only at h;split at h
 ·rename_i t e1;rw[e1] at hp;have hu:=(J0 hp).1;simp only[MP.run,Jq8,Jrq] at h;obtain⟨rfl,rfl⟩:=h;refine .look (v:=if t then a.eval q else a.eval r) ?_ hS ?_
  ·unfold execOp;rw[ho];cases t <;> simp[hu,asBool]
  ·cases t
   ·exact oX1 hsl r
   ·exact oX1 hsl q
 ·simp[MP.run] at h
theorem JfU (hS:Sim c g m w) (hsl:Jl c g m w sl a) {p:Operand} (ho:o.op = .nilCheck p)
  (h:(opM P T G sl o).run m=some (x,m')):Qf P c g m w a o x m':=by
 have hp:=oX1 hsl p;unfold opM at h;rw[ho] at h;simp only at h;split at h
 ·rename_i k off e;rw[e] at hp;simp only[MP.run,Jq8,Jrq] at h;obtain⟨rfl,rfl⟩:=h;have hp':=hp;obtain⟨_,b,_,_,hv⟩:=hp;exact .look (v:=a.eval p) (by unfold execOp;rw[ho];simp[hv]) hS hp'
 ·rename_i cs e;rw[e] at hp;simp only[MP.run,Jq8,Jrq] at h;obtain⟨rfl,rfl⟩:=h;have hp':=hp;obtain⟨_,⟨b,off,_,hv,_⟩,_⟩:=hp;exact .look (v:=a.eval p) (by unfold execOp;rw[ho];simp[hv]) hS hp'
 ·rename_i fn cs e;rw[e] at hp;simp only[MP.run,Jq8,Jrq] at h;obtain⟨rfl,rfl⟩:=h;have hp':=hp;obtain⟨vs,hv,_⟩:=hp;exact .look (v:=a.eval p) (by unfold execOp;rw[ho];simp[hv]) hS hp'
 ·rename_i fn cs e;rw[e] at hp;simp only[MP.run,Jq8,Jrq] at h;obtain⟨rfl,rfl⟩:=h;have hp':=hp;obtain⟨_,⟨vs,hv,_⟩,_⟩:=hp;exact .look (v:=a.eval p) (by unfold execOp;rw[ho];simp[hv]) hS hp'
 ·simp[MP.run] at h
theorem JjV {l:List Operand} (hsl:Jl c g m w sl a):VXs c g m w (l.map (opX sl)) (l.map a.eval):=by
 induction l with
 | nil=>rfl
 | cons y ys ih=>exact⟨_,_,rfl,oX1 hsl y,ih⟩
theorem Jf2 (hS:Sim c g m w) (hsl:Jl c g m w sl a) {fn:Fn} {fs cs:Array Operand} (ho:o.op = .makeFunc fn fs cs)
  (h:(opM P T G sl o).run m=some (x,m')):Qf P c g m w a o x m':=by
 unfold opM at h;rw[ho] at h;simp only at h;cases fn with
 | func f =>
  simp only at h;split at h
  ·rename_i he;have hfs:fs = #[]:=by simpa using he
   subst hfs;simp only[MP.run,Jq8,Jrq] at h;obtain⟨rfl,rfl⟩:=h;refine .look (v:= .func (.func f) #[] (cs.map a.eval)) (by unfold execOp;rw[ho];simp[Instr.makeFunc]) hS ⟨cs.toList.map a.eval,?_,JjV hsl⟩;rw[←Array.toList_map]
  ·simp[MP.run] at h
 | _=>simp[MP.run] at h
theorem JgH (hS:Sim c g m w) (hsl:Jl c g m w sl a) {p:Operand} {i:Nat} (ho:o.op = .extract p i)
  (h:(opM P T G sl o).run m=some (x,m')):Qf P c g m w a o x m':=by
 have hp:=oX1 hsl p;unfold opM at h;rw[ho] at h;simp only at h;split at h
 ·rename_i cs e;rw[e] at hp;obtain⟨vs,hv,hvs⟩:=hp;split at h
  ·rename_i y hy;simp only[MP.run,Jq8,Jrq] at h;obtain⟨rfl,rfl⟩:=h;obtain⟨u,hu,hx⟩:=Jgb cs vs i y hvs hy;exact .look (v:=u) (by unfold execOp;rw[ho];simp[hv,Instr.extract,hu]) hS hx
  ·simp[MP.run] at h
 ·simp[MP.run] at h
theorem Jim (hS:Sim c g m w) (hsl:Jl c g m w sl a) {t:TypeId} {p:Operand} (ho:o.op = .load t p)
  (h:(opM P T G sl o).run m=some (x,m')):Qf P c g m w a o x m':=by
 have hp:=oX1 hsl p;unfold opM at h;rw[ho] at h;simp only at h;obtain⟨rfl,u,hu,hx⟩:=Ja5 hS hp h;exact .look (v:=u) (by unfold execOp;rw[ho];simp[hu]) hS hx
theorem Jjk (hS:Sim c g m w) (hsl:Jl c g m w sl a) {t:TypeId} {ps:Array (Nat×Operand)} (ho:o.op = .build t ps)
  (h:(opM P T G sl o).run m=some (x,m')):Qf P c g m w a o x m':=by
 unfold opM at h;rw[ho] at h;simp only at h;split at h
 ·rename_i z pl hz hpl;split at h
  ·rename_i hone;split at h
   ·rename_i cs hcs;simp only[MP.run,Jq8,Jrq] at h;obtain⟨rfl,rfl⟩:=h;obtain⟨i,zv,hi,hzv,hzc⟩:=Zv hz;have hzone :∀u∈zv.cells.toList,u.oneCell=true:=by rw[hzc];simpa using hone
    have hz':VXs c g m w (z.map fun c=>X.d (.v c)) zv.cells.toList:=by
     rw[hzc];clear hzc hz hcs hzone
     induction z with
     | nil=>rfl
     | cons u us ih =>
      simp only[List.all_cons,Jq9] at hone;exact⟨u,us,rfl,Jdc hone.1,ih hone.2⟩
    obtain⟨arr',h1,h2⟩:=JaS (pl:=pl) (ps.toList.map fun p=>(p.1,opX sl p.2)) (ps.toList.map fun p=>(p.1,a.eval p.2)) _ zv.cells cs (by simp)
     (fun i p q hp hq=>by
      rw[Jru] at hp hq;cases hps:ps.toList[i]? with
      | none=>rw[hps] at hp;simp at hp
      | some y =>
       rw[hps] at hp hq;simp only[Jrb,Jq8] at hp hq;subst hp;subst hq;exact⟨rfl,oX1 hsl y.2⟩) hz' hzone hcs
    refine .look (v:= .agg arr') ?_ hS ⟨arr'.toList,by simp,h2.1,h2.2⟩;have hb:P.built t (ps.map fun(i,x)=>(i,a.eval x)).toList=some arr':=by
     unfold Jgf at hpl;split at hpl
     ·rename_i fs hu;unfold Program.built;simp only[hi,hu,hzv,hpl];rw[Array.toList_map];exact h1
     ·cases hpl
    have:=run_build (P:=P) w t _ _ hb;unfold execOp;rw[ho];simp only[Sem.run_bind];rw[this];rfl
   ·simp[MP.run] at h
  ·simp[MP.run] at h
 ·simp[MP.run] at h
end
end Go.Tm
end
section
namespace Go.Tm
open Go.IntKind (i64)
section
variable {P:Program} {T:Tab} {G:JW} {c:Cx P} {g:Gh} {m m':Mem} {w:World} {a:Act} {sl:QM} {o:Oper} {x:X}
theorem Jbb {t:TypeId} {i off n:Nat} (h:Zd P t i=some (off,n)) : ∃ fs f,P.underlying t=some (.struct fs)∧fs[i]? = some f∧f.offset=off∧Qo P f.type=some n:=by
 unfold Zd at h;split at h
 ·rename_i fs hu;cases hf:fs[i]? with
  | none=>simp[hf] at h
  | some f =>
   simp only[hf,Jrn] at h;cases hs:Qo P f.type with
   | none=>simp[hs] at h
   | some k=>simp[hs] at h;exact⟨fs,f,hu,hf,h.1,by rw[h.2] at hs;exact hs⟩
 ·cases h
theorem UM {t:TypeId} {i off n b k:Nat} (h:Zd P t i=some (off,n)) (hn:n≠0) :
  (Instr.fieldAt t (.pointer (some ⟨b,k,none⟩)) i).run P w = .ok (.pointer (some ⟨b,k+off,none⟩)) w:=by
 obtain⟨fs,f,hu,hf,rfl,hs⟩:=Jbb h;simp[Instr.fieldAt,run_underlying hu,hf,Instr.sureAddr,fieldPlace,Xi hs,hn,X4]
theorem JdR :∀(n:Nat) (cs:List D) (b o:Nat) (fp:List Nat),JdN w cs b o fp→∃ fp',JdN w (cs.drop n) b (o+n) fp'∧∀k∈fp',k∈fp
 | 0,cs,b,o,fp,h=>⟨fp,h,fun _ h=>h⟩
 | n+1,[],b,o,fp,h=>⟨fp,h,fun _ h=>h⟩
 | n+1,d::ds,b,o,fp,⟨v,f1,f2,_,hf,_,h2,_⟩=>by
  subst hf;obtain⟨fp',h3,h4⟩:=JdR n ds b (o+1) f2 h2;exact⟨fp',by rw[show o+(n+1)=o+1+n by omega];exact h3,fun k hk=>by simp[h4 k hk]⟩
theorem JdG (hS:Sim c g m w) (hsl:Jl c g m w sl a) {t:TypeId} {p:Operand} {i:Nat} (ho:o.op = .fieldAddr t p i)
  (h:(opM P T G sl o).run m=some (x,m')):Qf P c g m w a o x m':=by
 have hp:=oX1 hsl p;unfold opM at h;rw[ho] at h;simp only at h;split at h
 ·rename_i off n hf;split at h
  ·simp[MP.run] at h
  ·rename_i hn;split at h
   ·rename_i k off' e;rw[e] at hp;simp only[MP.run,Jq8,Jrq] at h;obtain⟨rfl,rfl⟩:=h;obtain⟨cs,b,h1,h2,hv⟩:=hp;exact .look (v:= .pointer (some ⟨b,off'+off,none⟩)) (by unfold execOp;rw[ho];simp[hv,UM hf hn]) hS ⟨cs,b,h1,h2,rfl⟩
   ·rename_i k n' j off' e;rw[e] at hp;obtain⟨ob,hob,h⟩:=MP.get_some h;cases ob with
    | arr ty sz es dp rw =>
     simp only at h;split at h
     ·rename_i hn';simp only[MP.run,Jq8,Jrq] at h;obtain⟨rfl,rfl⟩:=h;obtain⟨b,hb,hv⟩:=(hp.2.2 ty sz es dp rw hob).2 hn';refine .look (v:= .pointer (some ⟨b,j*sz+off'+off,none⟩)) (by unfold execOp;rw[ho];simp[hv,UM hf hn]) hS ⟨rfl,⟨_,hob,by simp⟩,fun ty1 sz1 es1 dp1 rw1 h1=>?_⟩;rw[hob] at h1;cases h1;exact⟨by omega,fun _=>⟨b,hb,by rw[Nat.add_assoc]⟩⟩
     ·simp[MP.run] at h
    | _=>simp[MP.run] at h
   ·rename_i cs e;rw[e] at hp;split at h
    ·rename_i hlt;simp only[MP.run,Jq8,Jrq] at h;obtain⟨rfl,rfl⟩:=h;obtain⟨fp,⟨b,k,fp',hv,hb,rfl,hr⟩,hok⟩:=hp;obtain⟨fp2,h3,h4⟩:=JdR off cs b k fp' hr;exact .look (v:= .pointer (some ⟨b,k+off,none⟩)) (by unfold execOp;rw[ho];simp[hv,UM hf hn]) hS
      ⟨b::fp2,⟨b,k+off,fp2,rfl,hb,rfl,h3⟩,fun q hq=>by
       rcases Jrs.1 hq with rfl | hq
       ·exact hok _ (by simp)
       ·exact hok q (by simp[h4 q hq])⟩
    ·simp[MP.run] at h
   ·simp[MP.run] at h
 ·simp[MP.run] at h
theorem Je0 {v:Value} {es:List D} (hS:Sim c g m w) (hx:VX c g m w x v) (h:(Jcf x).run m=some (es,m')) :
  m'=m∧∃ A cap,v = .slice A es.length cap:=by
 unfold Jcf at h;split at h
 ·simp only[MP.run,Jq8,Jrq] at h;obtain⟨rfl,rfl⟩:=h;obtain⟨fp,⟨A,cap,rfl,_⟩,_⟩:=hx;exact⟨rfl,A,cap,rfl⟩
 ·simp only[MP.run,Jq8,Jrq] at h;obtain⟨rfl,rfl⟩:=h;exact⟨rfl,none,0,(J0 hx).1⟩
 ·rename_i k n;obtain⟨ob,hob,h⟩:=MP.get_some h;cases ob with
  | arr ty sz es' dp rw =>
   simp only at h;split at h
   ·rename_i hn;simp only[MP.run,Jq8,Jrq] at h;obtain⟨rfl,rfl⟩:=h;have hv:=(hx.2.2 ty sz es' dp rw hob).2 hn;rcases (hS.arr k ty sz es' dp rw hob).1 with ⟨_,e,rfl,_⟩ | ⟨b,cap,cs,_,e,_⟩
    ·exact⟨rfl,none,0,by rw[hv,e];rfl⟩
    ·exact⟨rfl,_,cap,by rw[hv,e]⟩
   ·simp[MP.run] at h
  | _=>simp[MP.run] at h
 ·simp[MP.run] at h
theorem QW {v:Value} {n:Int} (hx:VX c g m w x v) (h:VY x=some n) : ∃ k,v = .int k n:=by
 unfold VY at h;split at h
 ·rename_i k n' ;simp at h;subst h;exact⟨k,(J0 hx).1⟩
 ·cases h
theorem JaQ {t e:TypeId} {A:Addr} {len cap sz:Nat} {k:IntKind} {j:Int} (he:JN P t=some e) (hs:Qo P e=some sz) (h0:0≤j) (h1:j<len) :
  (Instr.indexAt t (.slice (some A) len cap) (.int k j)).run P w = .ok (.pointer (some (A.add (j.toNat*sz)))) w:=by
 simp[Instr.indexAt,asIntOf,run_underlying (JT he),Xi hs,h0,h1]
theorem JdD (hS:Sim c g m w) (hsl:Jl c g m w sl a) {t:TypeId} {p q:Operand} (ho:o.op = .indexAddr t p q)
  (h:(opM P T G sl o).run m=some (x,m')):Qf P c g m w a o x m':=by
 have hp:=oX1 hsl p;have hq:=oX1 hsl q;unfold opM at h;rw[ho] at h;simp only at h;split at h
 ·rename_i e j he hj;obtain⟨kk,hqv⟩:=QW hq hj;split at h
  ·rename_i sz es hsz hpx;rw[hpx] at hp;split at h
   ·rename_i h0;split at h
    ·rename_i e' hi;split at h
     ·rename_i hlen;simp only[MP.run,Jq8,Jrq] at h;obtain⟨rfl,rfl⟩:=h;obtain⟨fp,⟨A,cap,hv,hcap,hh⟩,hok⟩:=hp;rcases hh with ⟨rfl,_⟩ | ⟨b,off,sz',fp',rfl,hb,rfl,hr⟩
      ·simp at hi
      obtain⟨val,f,h1,h2,h3,h4,h5⟩:=Jdn es sz' b off fp' j.toNat e' hr hi;have hc:=Uo h1 h5;have hcl:=Qc _ _ _ hc;have hsz':sz'=sz:=by rw[←h2,←hlen,←hcl];simp
      subst hsz';have hlt:j<(es.length:Int):=by have:=(Jra.1 hi).1;omega
      refine .look (v:= .pointer (some ⟨b,off+j.toNat*sz',none⟩)) ?_ hS ⟨b::f,⟨b,_,f,rfl,hb,rfl,JjF _ _ b _ f hc (fun i hi=>?_)⟩,fun q hq=>?_⟩
      ·unfold execOp;rw[ho];simp[hv,hqv,JaQ he hsz h0 hlt,X4]
      ·have:=h3 i (by rw[←h2];simpa using hi);rw[this];simp
      ·rcases Jrs.1 hq with rfl | hq
       ·exact hok _ (by simp)
       ·exact hok q (by simp[h4 q hq])
     ·simp[MP.run] at h
    ·simp[MP.run] at h
   ·simp[MP.run] at h
  ·rename_i sz k n hsz hpx;rw[hpx] at hp;split at h
   ·rename_i hjn;obtain⟨ob,hob,h⟩:=MP.get_some h;cases ob with
    | arr ty sz' es dp rw =>
     simp only at h;split at h
     ·rename_i hn;simp only[MP.run,Jq8,Jrq] at h;obtain⟨rfl,rfl⟩:=h;obtain⟨hn,rfl,rfl⟩:=hn;have hv:=(hp.2.2 _ _ es dp rw hob).2 hn;rcases (hS.arr k _ _ es dp rw hob).1 with ⟨_,e,rfl,_⟩ | ⟨b,cap,cs,hbl,e,_⟩
      ·simp at hn;omega
      ·refine .look (v:= .pointer (some ⟨b,j.toNat*sz',none⟩)) ?_ hS ⟨rfl,⟨_,hob,by simp⟩,fun ty1 sz1 es1 dp1 rw1 h1=>?_⟩
       ·rw[e] at hv;unfold execOp;rw[ho];simp[hv,hqv,JaQ he hsz hjn.1 (hn▸hjn.2),X4]
       ·rw[hob] at h1;cases h1;exact⟨by omega,fun _=>⟨b,hbl,by simp⟩⟩
     ·simp[MP.run] at h
    | _=>simp[MP.run] at h
   ·simp[MP.run] at h
  ·simp[MP.run] at h
 ·simp[MP.run] at h
end
end Go.Tm
end
section
namespace Go.Tm
open Go.IntKind (i64)
theorem uS1 {α:Type} (f:Nat→α) (k:Nat) (x:α):upd f k x k=x:=by simp[upd]
theorem uO1 {α:Type} (f:Nat→α) {k j:Nat} (x:α) (h:j≠k):upd f k x j=f j:=by simp[upd,h]
section
variable {P:Program} {c:Cx P} {g g':Gh} {m m':Mem} {w w':World} {k:Key}
def JoL (c:Cx P) (g:Gh) (m:Mem) (w:World) (k:Key):Obj→Prop
 | .box cs=>∃ b vs ty,g.bl k=some b∧w.heap[b]? = some (.cells vs.toArray ty (0,0))∧VXs c g m w cs vs∧g.ow b=some k∧∀u∈vs,u.oneCell=true
 | .arr ty sz es dp rw=>Vq w g k ty sz es∧((dp&&rw)=false→JV c g m (g.fd k))∧(rw=false→∀b,g.bl k=some b→JV c g m [b])∧(rw=true→∀b,Blk g k (.arr ty sz es dp rw) b→g.ow b=some k) ∧
  (dp=true→rw=true→(g.fd k).Nodup∧∀b,g.bl k=some b→b∉g.fd k∧Jbn P w es (JG P ty) sz b 0 (g.fd k))
 | .dead=>True
theorem Sim.step {o':Obj} (hS:Sim c g m w) (hmk:m' k=some o') (hmo :∀j,j≠k→m' j=m j∨m' j=some .dead) (hC:Jc c g m w g' m' w') (hf:Yd c w')
  (same :∀j,j≠k→g'.bl j=g.bl j∧g'.hd j=g.hd j∧g'.fd j=g.fd j)
  (blocks :∀b j o,m j=some o→o.rw=true→Blk g j o b→j≠k→m' j=some o→w'.heap[b]? = w.heap[b]?∧g'.ow b=some j)
  (live' :∀b j,g'.ow b=some j→b<w'.heap.size∧(c.w0.heap.size≤b∨b∈c.par))
  (this:JoL c g' m' w' k o'):Sim c g' m' w':=by
 have hmo :∀j o,j≠k→m' j=some o→o≠ .dead→m j=some o:=fun j o hj h hd=>by
  rcases hmo j hj with e | e
  ·rw[←e];exact h
  ·rw[e] at h;cases h;exact absurd rfl hd
 refine⟨hf,fun j cs hj=>?_,fun j ty sz es dp rw hj=>?_,fun j ty sz es hj=>?_,fun j o b hj hd hb=>?_,live'⟩
 ·by_cases hjk:j=k
  ·subst hjk;rw[hmk] at hj;cases hj;obtain⟨b,vs,ty,h1,h2,h3,_,h5⟩:=this;exact⟨b,vs,ty,h1,h2,h3,h5⟩
  ·have hj':=hj
   replace hj:=hmo j _ hjk hj (by simp)
   obtain⟨b,vs,ty,h1,h2,h3,h5⟩:=hS.box j cs hj;exact⟨b,vs,ty,(same j hjk).1.trans h1,((blocks b j _ hj rfl (.inl h1) hjk hj').1).trans h2,Qe hC cs vs h3,h5⟩
 ·by_cases hjk:j=k
  ·subst hjk;rw[hmk] at hj;cases hj;exact⟨this.1,this.2.1,this.2.2.1⟩
  ·have hj':=hj
   replace hj:=hmo j _ hjk hj (by simp)
   obtain⟨h1,h2,h2'⟩:=hS.arr j ty sz es dp rw hj;obtain⟨e1,e2,e3⟩:=same j hjk;rcases h1 with ⟨a1,a2,a3,a4⟩ | ⟨b,cap,cs,a1,a2,a3,a4,a5,a6,a7⟩
   ·exact⟨.inl ⟨e1.trans a1,e2.trans a2,a3,e3.trans a4⟩,by rw[e3,a4];exact fun _ b hb=>by simp at hb,fun _ b hb=>by rw[e1,a1] at hb;cases hb⟩
   ·have hbl:w'.heap[b]? = w.heap[b]?∧(rw=false→JV c g' m' [b]):=by
     have hlt:b<w.heap.size:=(Jrl.1 a5).1;cases rw with
     | true=>exact⟨(blocks b j _ hj rfl (.inl a1) hjk hj').1,by simp⟩
     | false =>
      obtain⟨h3,h4⟩:=Qi hC (fp:=[b]) (by simpa using hlt) (h2' rfl b a1);exact⟨h4 b (by simp),fun _=>h3⟩
    have hl:=ZI es sz b 0 (g.fd j) a7;have h34:((dp&&rw)=false→JV c g' m' (g.fd j))∧∀b∈g.fd j,w'.heap[b]? = w.heap[b]?:=by
     cases hd:(dp&&rw) with
     | false =>
      obtain⟨h3,h4⟩:=Qi hC hl (h2 hd);exact⟨fun _=>h3,h4⟩
     | true =>
      have hrw:rw=true:=by simp only[Jq9] at hd;exact hd.2
      exact⟨by simp,fun q hq=>(blocks q j _ hj hrw (.inr ⟨hd,hq⟩) hjk hj').1⟩
    obtain⟨h3,h4⟩:=h34;exact⟨.inr ⟨b,cap,cs,e1.trans a1,e2.trans a2,a3,a4,hbl.1.trans a5,a6,by rw[e3];exact Kc es sz b 0 _ hC.size hbl.1 h4 a7⟩,by rw[e3];exact h3,
     fun hr b' hb'=>by rw[e1,a1] at hb';cases hb';exact hbl.2 hr⟩
 ·by_cases hjk:j=k
  ·subst hjk;rw[hmk] at hj;cases hj;exact this.2.2.2.2 rfl rfl
  ·have hj':=hj
   replace hj:=hmo j _ hjk hj (by simp)
   obtain⟨e1,_,e3⟩:=same j hjk;rw[e1,e3];obtain⟨d1,d2⟩:=hS.deep j ty sz es hj;exact⟨d1,fun b hb=>⟨(d2 b hb).1,Z6 _ _ _ _ _ _ (blocks b j _ hj rfl (.inl hb) hjk hj').1 (fun q hq=>(blocks q j _ hj rfl (.inr ⟨rfl,hq⟩) hjk hj').1) (d2 b hb).2⟩⟩
 ·by_cases hjk:j=k
  ·subst hjk;obtain rfl:o'=o:=by rw[hmk] at hj;exact Option.some.inj hj
   cases o' with
   | box cs =>
    obtain⟨b',vs,ty,h1,_,_,h4,_⟩:=this;rcases hb with hb | hb
    ·rw[h1] at hb;cases hb;exact h4
    ·cases hb.1
   | arr ty sz es dp rw=>exact this.2.2.2.1 hd b hb
   | dead=>cases hd
  ·have hj':=hj
   replace hj:=hmo j _ hjk hj (fun e=>by rw[e] at hd;cases hd)
   have hb:Blk g j o b:=by unfold Blk at hb ⊢;rw[(same j hjk).1,(same j hjk).2.2] at hb;exact hb
   exact(blocks b j o hj hd hb hjk hj').2
def Gh.new (g:Gh) (k:Key) (b:Nat) (v:Value) (f:List Nat):Gh:={ bl:=upd g.bl k (some b),hd:=upd g.hd k v,fd:=upd g.fd k f,ow:=upd g.ow b (some k) }
theorem Jc.new {o':Obj} {b:Nat} {v:Value} {f:List Nat} (hS:Sim c g m w) (hk:m k=none) (hb:w.heap.size≤b) (hsz:w.heap.size≤w'.heap.size)
  (hw :∀j,j<w.heap.size→w'.heap[j]? = w.heap[j]?) (hfd:o'.dpw=true→f=[]):Jc c g m w (g.new k b v f) (upd m k (some o')) w':=by
 have ne :∀{j:Key} {o:Obj},m j=some o→j≠k:=fun h e=>by rw[e,hk] at h;cases h
 refine⟨hsz,fun i h1 h2 h3=>⟨hw i h3,?_⟩,fun j cs hj=>?_,fun j ty sz es dp rw hj=>?_,fun j hj=>?_⟩
 ·rintro⟨j,o,hj,hrw,hbl⟩
  by_cases hjk:j=k
  ·subst hjk;rw[uS1] at hj;cases hj;rcases hbl with hbl | ⟨hd,hbl⟩
   ·simp only[Gh.new,uS1,Jq8] at hbl;omega
   ·simp only[Gh.new,uS1,hfd hd] at hbl;simp at hbl
  ·rw[uO1 _ _ hjk] at hj;unfold Blk at hbl;simp only[Gh.new,uO1 _ _ hjk] at hbl;exact h1 ⟨j,o,hj,hrw,hbl⟩
 ·have:=ne hj;exact⟨⟨cs,by rw[uO1 _ _ this];exact hj⟩,by simp only[Gh.new,uO1 _ _ this]⟩
 ·have:=ne hj;exact .inr ⟨es,dp,rw,by rw[uO1 _ _ this];exact hj,.inl ⟨rfl,by simp only[Gh.new,uO1 _ _ this],by simp only[Gh.new,uO1 _ _ this]⟩⟩
 ·have:=ne hj;rw[uO1 _ _ this];exact hj
theorem Yd.grow {c:Cx P} (hf:Yd c w) (h1:w'.os=w.os) (h2:w'.tape=w.tape) (h3:w'.output=w.output) (hsz:w.heap.size≤w'.heap.size)
  (hw :∀j,j<w.heap.size→j<c.w0.heap.size→j∉c.par→w'.heap[j]? = w.heap[j]?):Yd c w' :=
 ⟨h1.trans hf.os,h2.trans hf.tape,h3.trans hf.output,Nat.le_trans hf.size hsz,fun b hb hp=>(hw b (Nat.lt_of_lt_of_le hb hf.size) hb hp).trans (hf.block b hb hp)⟩
theorem Sim.newBlock {o':Obj} {v:Value} {f:List Nat} (hS:Sim c g m w) (hk:m k=none) (hsz:w'.heap.size=w.heap.size+1)
  (hw :∀j,j<w.heap.size→w'.heap[j]? = w.heap[j]?) (hf:Yd c w') (hfd:o'.dpw=true→f=[]) (this:JoL c (g.new k w.heap.size v f) (upd m k (some o')) w' k o') :
  Sim c (g.new k w.heap.size v f) (upd m k (some o')) w'∧Jc c g m w (g.new k w.heap.size v f) (upd m k (some o')) w':=by
 have hC:Jc c g m w (g.new k w.heap.size v f) (upd m k (some o')) w':= .new hS hk (Nat.le_refl _) (by omega) hw hfd;refine⟨hS.step (uS1 _ _ _) (fun j hj=> .inl (uO1 _ _ hj)) hC hf (fun j hj=>⟨uO1 _ _ hj,uO1 _ _ hj,uO1 _ _ hj⟩) (fun b j o hj0 hrw hb hj _=>?_) (fun b j hb=>?_) this,hC⟩
 ·have hb:=hS.own j o b hj0 hrw hb;have hlt:=(hS.live b j hb).1;exact⟨hw b hlt,by simp only[Gh.new];rw[uO1 _ _ (by omega)];exact hb⟩
 ·simp only[Gh.new] at hb
  by_cases hbs:b=w.heap.size
  ·subst hbs;exact⟨by omega,.inl hS.frame.size⟩
  ·rw[uO1 _ _ hbs] at hb;have:=hS.live b j hb;exact⟨by omega,this.2⟩
theorem QK (w:World) (o:Go.Obj):(w.alloc o).heap.size=w.heap.size+1:=by
 show (w.heap.push o).size=_;simp
theorem Yd.alloc (hf:Yd c w) (o:Go.Obj):Yd c (w.alloc o) :=
 hf.grow rfl rfl rfl (by rw[QK];omega) (fun j hj _ _=>heap_alloc_old w o hj)
theorem WK {cs:List X} {vs:List Value} {ty:TypeId} (hS:Sim c g m w) (hk:m k=none) (hv:VXs c g m w cs vs) (hone :∀u∈vs,u.oneCell=true) :
  ∃ g',Sim c g' (upd m k (some (.box cs))) (w.alloc (.cells vs.toArray ty (0,0)))∧Jc c g m w g' (upd m k (some (.box cs))) (w.alloc (.cells vs.toArray ty (0,0))) ∧
   VX c g' (upd m k (some (.box cs))) (w.alloc (.cells vs.toArray ty (0,0))) (.p k 0) (.pointer (some ⟨w.heap.size,0,none⟩)):=by
 have hC:Jc c g m w (g.new k w.heap.size Qb []) (upd m k (some (.box cs))) (w.alloc (.cells vs.toArray ty (0,0))) :=
  .new hS hk (Nat.le_refl _) (by rw[QK];omega) (fun j hj=>heap_alloc_old w _ hj) (fun h=>by cases h)
 obtain⟨h1,h2⟩:=hS.newBlock (o':= .box cs) (v:=Qb) (f:=[]) (w':=w.alloc (.cells vs.toArray ty (0,0))) hk (QK _ _) (fun j hj=>heap_alloc_old w _ hj) (hS.frame.alloc _) (fun h=>by cases h)
  ⟨w.heap.size,vs,ty,uS1 _ _ _,heap_alloc_new w _,Qe hC cs vs hv,uS1 _ _ _,hone⟩
 exact⟨_,h1,h2,cs,w.heap.size,uS1 _ _ _,uS1 _ _ _,rfl⟩
end
end Go.Tm
end
section
namespace Go.Tm
open Go.IntKind (i64)
section
variable {P:Program} {T:Tab} {G:JW} {c:Cx P} {g:Gh} {m m':Mem} {w:World} {a:Act} {sl:QM} {o:Oper} {x:X}
theorem MP.new_some {α:Type} {k:Key} {ob:Obj} {c:MP α} {m:Mem} {r:α×Mem} (e:(MP.new k ob c).run m=some r):m k=none∧c.run (upd m k (some ob))=some r:=by
 simp only[MP.run] at e;cases h:m k with
 | none=>rw[h] at e;exact⟨rfl,e⟩
 | some o=>rw[h] at e;cases e
theorem MP.put_some {α:Type} {k:Key} {ob:Obj} {c:MP α} {m:Mem} {r:α×Mem} (e:(MP.put k ob c).run m=some r):(∃ o,m k=some o)∧c.run (upd m k (some ob))=some r:=by
 simp only[MP.run] at e;cases h:m k with
 | none=>rw[h] at e;cases e
 | some o=>rw[h] at e;exact⟨⟨o,rfl⟩,e⟩
theorem rS1 {α:Type} {a:α} {m:Mem} {r:α×Mem} (e:(MP.ret a).run m=some r):r=(a,m):=by
 simp only[MP.run,Jq8] at e;exact e.symm
theorem Jew {t:TypeId} {v:Value} {i:TypeInfo} (hi:P.info? t=some i) (hz:i.zero=some v):(zeroValue t).run P w = .ok v w:=by
 simp[zeroValue,typeInfo,hi,hz]
theorem JnT {z:List Value} (hone:z.all (·.oneCell)=true):VXs c g m w (z.map fun c=>X.d (.v c)) z:=by
 induction z with
 | nil=>rfl
 | cons u us ih =>
  simp only[List.all_cons,Jq9] at hone;exact⟨u,us,rfl,Jdc hone.1,ih hone.2⟩
theorem Jc8 (t:TypeId) (v:Value):(newVar t v).run P w = .ok ⟨w.heap.size,0,none⟩ (w.alloc (.cells v.cells t)):=by
 simp only[newVar,newRow,Sem.run_bind,run_newObj,Result.andThen_ok];rfl
theorem Jg7 (hS:Sim c g m w) {t:TypeId} (ho:o.op = .alloc t)
  (h:(opM P T G sl o).run m=some (x,m')):Qf P c g m w a o x m':=by
 unfold opM at h;rw[ho] at h;simp only at h;split at h
 ·rename_i z hz;split at h
  ·rename_i hone;obtain⟨hk,h⟩:=MP.new_some h;obtain⟨i,zv,hi,hzv,hzc⟩:=Zv hz;obtain⟨g',h1,h2,h3⟩:=WK (ty:=t) hS hk (JnT (c:=c) (g:=g) (m:=m) (w:=w) hone) (by simpa using hone);cases rS1 h;refine .value (g':=g') ?_ h1 h2 h3;rw[←hzc];unfold execOp;rw[ho];simp[Instr.alloc,Jew hi hzv,Jc8]
  ·simp[MP.run] at h
 ·simp[MP.run] at h
theorem JkE (hS:Sim c g m w) (hsl:Jl c g m w sl a) {t:TypeId} {p:Operand} (ho:o.op = .box t p)
  (h:(opM P T G sl o).run m=some (x,m')):Qf P c g m w a o x m':=by
 have hp:=oX1 hsl p;unfold opM at h;rw[ho] at h;simp only at h;split at h
 ·rename_i cs hcs;obtain⟨hk,h⟩:=MP.new_some h;obtain⟨g',h1,h2,h3⟩:=WK (ty:=t) hS hk (XX hp hcs).1 (XX hp hcs).2;cases rS1 h;refine .value (g':=g') ?_ h1 h2 h3;unfold execOp;rw[ho];simp[Instr.box,Jc8]
 ·simp[MP.run] at h
theorem JkQ {v:Value} (hx:VX c g m w x v) (h:x.one=true):v.oneCell=true:=by
 cases x with
 | d x =>
  cases x with
  | v u=>exact(J0 hx).1▸(J0 hx).2
  | s es=>obtain⟨_,⟨_,_,rfl,_⟩,_⟩:=hx;rfl
  | q cs=>obtain⟨_,⟨_,_,_,rfl,_⟩,_⟩:=hx;rfl
  | f fn cs=>obtain⟨_,⟨_,rfl,_⟩,_⟩:=hx;rfl
  | g cs=>simp[X.one,D.one] at h
  | t cs=>simp[X.one,D.one] at h
 | o k n=>exact hx.1
 | p k off=>obtain⟨_,_,_,_,rfl⟩:=hx;rfl
 | e k n i off=>exact hx.1
 | f fn cs=>obtain⟨_,rfl,_⟩:=hx;rfl
 | g cs=>simp[X.one] at h
 | t cs=>simp[X.one] at h
 | u=>simp[X.one] at h
theorem Jb0 :∀(xs:List X) (vs:List Value),VXs c g m w xs vs→xs.all X.one=true→∀v∈vs,v.oneCell'=true
 | [],vs,h,_,v,hv=>by rw[show vs=[] from h] at hv;simp at hv
 | x::xs,vs,⟨u,us,e,h1,h2⟩,h,v,hv=>by
  subst e;simp only[List.all_cons,Jq9] at h;rcases Jrs.1 hv with rfl | hv
  ·have:=JkQ h1 h.1;cases v <;> simp_all [Value.oneCell,Value.oneCell']
  ·exact Jb0 xs us h2 h.2 v hv
theorem JaX (xs:List X) (vs:List Value) (h:VXs c g m w xs vs) (ho:xs.all X.one=true) :∀v∈vs,v.oneCell=true:=fun v hv=>by
 have:=Jb0 xs vs h ho v hv;cases v <;> simp_all [Value.oneCell,Value.oneCell']
theorem UH {us vs:List Value} {off:Nat} (h1 :∀u∈us,u.oneCell=true) (h2 :∀u∈vs,u.oneCell=true) :∀u∈Je us off vs,u.oneCell=true:=fun u hu=>by
 unfold Je at hu;rcases Jre.1 hu with hu | hu
 ·rcases Jre.1 hu with hu | hu
  ·exact h1 u (Jrx hu)
  ·exact h2 u hu
 ·exact h1 u (List.mem_of_mem_drop hu)
theorem Jfl {k:Key} {cs vs:List X} {us:List Value} {off:Nat} {b:Nat} (hS:Sim c g m w) (hk:m k=some (.box cs)) (hb:g.bl k=some b) (hv:VXs c g m w vs us)
  (hone :∀u∈us,u.oneCell=true) (hle:off+vs.length≤cs.length) :
  ∃ w',(storeCells ⟨b,off,none⟩ us).run P w = .ok () w'∧Sim c g (upd m k (some (.box (Je cs off vs)))) w'∧Jc c g m w g (upd m k (some (.box (Je cs off vs)))) w':=by
 obtain⟨b',cur,ty,hb',hh,hcv,hcone⟩:=hS.box k cs hk;rw[hb] at hb';cases hb';have hl1:=Qp _ _ hv;have hl2:=Qp _ _ hcv;have hrun:=run_storeCells_at (P:=P) b off ty us 0 cur.toArray w hh (by simp;omega) hone;simp only[Nat.add_zero] at hrun;have hlt:b<w.heap.size:=(Jrl.1 hh).1;have hown:=hS.own k _ b hk rfl (.inl hb);have hmut:Mut g m b:=⟨k,_,hk,rfl,.inl hb⟩;have hC:Jc c g m w g (upd m k (some (.box (Je cs off vs)))) (w.setRow b (Je cur off us).toArray):=by
  refine⟨by simp,fun i h1 _ _=>⟨setRow_other w b i _ (fun e=>h1 (e▸hmut)),?_⟩,fun j cs' hj=>?_,fun j ty sz es dp rw hj=>?_,fun j hj=>?_⟩
  ·rintro⟨j,o,hj,hrw,hbl⟩
   by_cases hjk:j=k
   ·subst hjk;rw[uS1] at hj;cases hj;rcases hbl with hbl | hbl
    ·rw[hb] at hbl;cases hbl;exact h1 hmut
    ·cases hbl.1
   ·rw[uO1 _ _ hjk] at hj;exact h1 ⟨j,o,hj,hrw,hbl⟩
  ·by_cases hjk:j=k
   ·subst hjk;exact⟨⟨_,uS1 _ _ _⟩,rfl⟩
   ·exact⟨⟨cs',by rw[uO1 _ _ hjk];exact hj⟩,rfl⟩
  ·have hjk:j≠k:=fun e=>by subst e;rw[hk] at hj;cases hj
   exact .inr ⟨es,dp,rw,by rw[uO1 _ _ hjk];exact hj,.inl ⟨rfl,rfl,rfl⟩⟩
  ·have hjk:j≠k:=fun e=>by subst e;rw[hk] at hj;cases hj
   rw[uO1 _ _ hjk];exact hj
 have hw:Je cur off us=cur.toArray.toList.take off++us++cur.toArray.toList.drop (off+us.length):=by simp[Je]
 refine⟨w.setRow b (Je cur off us).toArray,by rw[hw];exact hrun,?_,hC⟩;have hlive:=hS.live b k hown;refine hS.step (uS1 _ _ _) (fun j hj=> .inl (uO1 _ _ hj)) hC ?_ (fun j _=>⟨rfl,rfl,rfl⟩) (fun b' j o hj0 hrw hb' hjk _=>?_) (fun b' j hj=>?_) ?_
 ·refine hS.frame.grow rfl rfl rfl (by simp) (fun j _ hj hp=>setRow_other w b j _ (fun e=>?_));subst e;rcases hlive.2 with h | h
  ·omega
  ·exact hp h
 ·have hj:=hS.own j o b' hj0 hrw hb';exact⟨setRow_other w b b' _ (fun e=>by subst e;rw[hown] at hj;cases hj;exact hjk rfl),hj⟩
 ·have:=hS.live b' j hj;simpa using this
 ·exact⟨b,Je cur off us,ty,hb,setRow_heap w b _ _ ty _ hh,Qe hC _ _ (Jdk hcv hv),hown,fun u hu=>UH hcone hone u hu⟩
theorem JjX {k:Key} {o o':Obj} {q:Nat} (hS:Sim c g m w) (hk:m k=some o) (hrw:o.rw=true) (hq:Blk g k o q) (ho':o'.rw=false) :
  ¬Mut g (upd m k (some o')) q∧(q∈c.A∨c.w0.heap.size≤q):=by
 have hown:=hS.own k _ q hk hrw hq;refine⟨?_,?_⟩
 ·rintro⟨j,p,hj,hrw',hbl⟩
  by_cases hjk:j=k
  ·subst hjk;rw[uS1] at hj;cases hj;rw[ho'] at hrw';cases hrw'
  ·rw[uO1 _ _ hjk] at hj;have:=hS.own j p q hj hrw' hbl;rw[hown] at this;cases this;exact hjk rfl
 ·rcases (hS.live q k hown).2 with h | h
  ·exact .inr h
  ·exact .inl (c.parA q h)
theorem Jdz {k:Key} {ty:TypeId} {sz:Nat} {es:List D} {dp rw:Bool} (hS:Sim c g m w) (hk:m k=some (.arr ty sz es dp rw)) :
  Sim c g (upd m k (some (.arr ty sz es false false))) w∧Jc c g m w g (upd m k (some (.arr ty sz es false false))) w:=by
 have hC:Jc c g m w g (upd m k (some (.arr ty sz es false false))) w:=by
  refine⟨Nat.le_refl _,fun i h1 _ _=>⟨rfl,?_⟩,fun j cs' hj=>?_,fun j ty' sz' es' dp' rw' hj=>?_,fun j hj=>?_⟩
  ·rintro⟨j,o,hj,hrw,hbl⟩
   by_cases hjk:j=k
   ·subst hjk;rw[uS1] at hj;cases hj;cases hrw
   ·rw[uO1 _ _ hjk] at hj;exact h1 ⟨j,o,hj,hrw,hbl⟩
  ·have hjk:j≠k:=fun e=>by subst e;rw[hk] at hj;cases hj
   exact⟨⟨cs',by rw[uO1 _ _ hjk];exact hj⟩,rfl⟩
  ·by_cases hjk:j=k
   ·subst hjk;rw[hk] at hj;cases hj;exact .inr ⟨es,false,false,uS1 _ _ _,.inl ⟨rfl,rfl,rfl⟩⟩
   ·exact .inr ⟨es',dp',rw',by rw[uO1 _ _ hjk];exact hj,.inl ⟨rfl,rfl,rfl⟩⟩
  ·have hjk:j≠k:=fun e=>by subst e;rw[hk] at hj;cases hj
   rw[uO1 _ _ hjk];exact hj
 obtain⟨h1,h2,h3⟩:=hS.arr k ty sz es dp rw hk;refine⟨hS.step (uS1 _ _ _) (fun j hj=> .inl (uO1 _ _ hj)) hC hS.frame (fun j _=>⟨rfl,rfl,rfl⟩) (fun b j o hj hrw hb _ _=>⟨rfl,hS.own j o b hj hrw hb⟩) hS.live ⟨h1,fun _=>?_,fun _ b hb=>?_,(fun(h:false=true)=>by cases h),(fun(h:false=true)=>by cases h)⟩,hC⟩
 ·cases hd:(dp&&rw) with
  | true =>
   have hrw:rw=true:=by simp only[Jq9] at hd;exact hd.2
   exact fun b hb=>JjX hS hk hrw (.inr ⟨hd,hb⟩) rfl
  | false =>
   have h2:=h2 hd;rcases h1 with ⟨_,_,_,e⟩ | ⟨b,cap,cs,_,_,_,_,_,_,hr⟩
   ·rw[e];exact fun b hb=>by simp at hb
   ·exact(Qi hC (ZI es sz b 0 _ hr) h2).1
 ·rcases h1 with ⟨e,_⟩ | ⟨b',cap,cs,hb',_,_,_,hh,_,_⟩
  ·rw[e] at hb;cases hb
  rw[hb] at hb';cases hb';have hlt:b<w.heap.size:=(Jrl.1 hh).1;cases rw with
  | false=>exact(Qi hC (fp:=[b]) (by simpa using hlt) (h3 rfl b hb)).1
  | true =>
   intro q hq;simp only[Jrr] at hq;subst hq;exact JjX hS hk rfl (.inl hb) rfl
end
end Go.Tm
end
section
namespace Go.Tm
open Go.IntKind (i64)
def Xy (w:World):List D→Nat→List Value→List Nat→Prop
 | [],_,vals,fp=>vals=[]∧fp=[]
 | e::es,sz,vals,fp=>∃ val v2 f1 f2,vals=val.cells.toList++v2∧val.cells.size=sz∧fp=f1++f2∧Rd w e val f1∧Xy w es sz v2 f2∧∀u∈val.cells.toList,u.oneCell=true
section
variable {P:Program} {T:Tab} {G:JW} {c:Cx P} {g:Gh} {m m':Mem} {w:World} {a:Act} {sl:QM} {o:Oper} {x:X}
theorem JO :∀(es:List D) (sz:Nat) (vals:List Value) (fp:List Nat),Xy w es sz vals fp→vals.length=es.length*sz
 | [],_,_,_,h=>by rw[h.1];simp
 | e::es,sz,vals,fp,⟨val,v2,f1,f2,e1,hs,_,_,h,_⟩=>by
  subst e1;simp only[Jrf,Jrj,hs,JO es sz v2 f2 h,List.length_cons,Nat.succ_mul];omega
theorem KP :∀(es:List D) (sz b off:Nat) (vals:List Value) (fp:List Nat),Xy w es sz vals fp→(∀j,j<vals.length→w.cell? ⟨b,off+j,none⟩=vals[j]?)→Ky w es sz b off fp
 | [],_,_,_,_,_,h,_=>h.2
 | e::es,sz,b,off,vals,fp,⟨val,v2,f1,f2,e1,hs,e2,h1,h2,h3⟩,hc=>by
  subst e1;refine⟨val,f1,f2,e2,h1,hs,fun j hj=>?_,KP es sz b (off+sz) v2 f2 h2 fun j hj=>?_,h3⟩
  ·have:=hc j (by simp;omega);rw[this,JrA (by simp;omega)];simp
  ·have:=hc (sz+j) (by simp;omega);rw[show off+sz+j=off+(sz+j) by omega,this,JrB (by simp;omega)];simp[hs]
theorem VH :∀(es:List D) (sz b off:Nat) (vals:List Value) (fp:List Nat),Ky w es sz b off fp→vals.length=es.length*sz→(∀j,j<vals.length→w.cell? ⟨b,off+j,none⟩=vals[j]?)→Xy w es sz vals fp
 | [],sz,_,_,vals,_,h,hl,_=>⟨by simpa using hl,h⟩
 | e::es,sz,b,off,vals,fp,⟨val,f1,f2,e2,h1,hs,hc1,h2,h3⟩,hl,hc=>by
  rw[List.length_cons,Nat.succ_mul] at hl;have e1:vals.take sz=val.cells.toList:=by
   apply List.ext_getElem?;intro j
   by_cases hj:j<sz
   ·rw[Jrz hj,←hc j (by omega),hc1 j hj];simp
   ·rw[Jrw (by simp;omega),Jrw (by simp;omega)]
  refine⟨val,vals.drop sz,f1,f2,by rw[←e1,List.take_append_drop],hs,e2,h1,VH es sz b (off+sz) (vals.drop sz) f2 h2 (by simp;omega) (fun j hj=>?_),h3⟩;rw[List.getElem?_drop,←hc (sz+j) (by simp at hj;omega),show off+sz+j=off+(sz+j) by omega]
theorem JaW :∀(es fs:List D) (sz:Nat) (vs us:List Value) (f1 f2:List Nat),Xy w es sz vs f1→Xy w fs sz us f2→Xy w (es++fs) sz (vs++us) (f1++f2)
 | [],fs,sz,vs,us,f1,f2,h,h'=>by rw[h.1,h.2];exact h'
 | e::es,fs,sz,vs,us,f1,f2,⟨val,v2,g1,g2,e1,hs,e2,h1,h2,h3⟩,h'=>by
  subst e1;subst e2;exact⟨val,v2++us,g1,g2++f2,by simp,hs,by simp,h1,JaW es fs sz v2 us g2 f2 h2 h',h3⟩
theorem Jha :∀(es:List D) (sz:Nat) (vals:List Value) (fp:List Nat) (i:Nat) (e:D) (val:Value) (f:List Nat),Xy w es sz vals fp→i<es.length→Rd w e val f→val.cells.size=sz→(∀u∈val.cells.toList,u.oneCell=true) →
  ∃ fp',Xy w (es.set i e) sz (Je vals (i*sz) val.cells.toList) fp'∧∀b∈fp',b∈fp∨b∈f
 | [],_,_,_,i,_,_,_,_,hi,_,_,_=>by simp at hi
 | e0::es,sz,vals,fp,0,e,val,f,⟨val0,v2,f1,f2,e1,hs,e2,h1,h2,h3⟩,_,he,hsz,hone=>by
  subst e1;subst e2;refine⟨f++f2,⟨val,v2,f,f2,?_,hsz,rfl,he,h2,hone⟩,fun b hb=>?_⟩
  ·simp[Je,hsz,hs]
  ·rcases Jre.1 hb with h | h
   ·exact .inr h
   ·exact .inl (by simp[h])
 | e0::es,sz,vals,fp,i+1,e,val,f,⟨val0,v2,f1,f2,e1,hs,e2,h1,h2,h5⟩,hi,he,hsz,hone=>by
  subst e1;subst e2;obtain⟨fp',h3,h4⟩:=Jha es sz v2 f2 i e val f h2 (by simpa using hi) he hsz hone;refine⟨f1++fp',⟨val0,_,f1,fp',?_,hs,rfl,h1,h3,h5⟩,fun b hb=>?_⟩
  ·have hl:val0.cells.toList.length=sz:=by simpa using hs
   simp only[Je];rw[show (i+1)*sz=val0.cells.toList.length+i*sz by rw[hl,Nat.succ_mul];omega];rw[List.take_length_add_append,Nat.add_assoc,List.drop_length_add_append];simp
  ·rcases Jre.1 hb with h | h
   ·exact .inl (by simp[h])
   ·rcases h4 b h with h | h
    ·exact .inl (by simp[h])
    ·exact .inr h
theorem W8 :∀(es:List D) (sz:Nat) (vals:List Value) (fp:List Nat),Xy w es sz vals fp→JA es=true→fp=[]
 | [],_,_,_,h,_=>h.2
 | e::es,sz,vals,fp,⟨val,v2,f1,f2,e1,hs,e2,h1,h2,h3⟩,hf=>by
  simp only[JA,Jq9] at hf;rw[e2,YB e val f1 hf.1 h1,W8 es sz v2 f2 h2 hf.2];rfl
def Jbp (fp f fp':List Nat):Prop:=∃ A X B,fp=A++X++B∧fp'=A++f++B
theorem Jbp.mem {fp f fp':List Nat} (h:Jbp fp f fp') :∀b∈fp',b∈fp∨b∈f:=by
 obtain⟨A,X,B,rfl,rfl⟩:=h;intro b hb;simp only[Jre] at hb ⊢;rcases hb with (hb | hb) | hb
 ·exact .inl (.inl (.inl hb))
 ·exact .inr hb
 ·exact .inl (.inr hb)
theorem Jbp.nodup {fp f fp':List Nat} (h:Jbp fp f fp') (h1:fp.Nodup) (h2:f.Nodup) (h3 :∀b∈f,b∉fp):fp'.Nodup:=by
 obtain⟨A,X,B,rfl,rfl⟩:=h;simp only[List.nodup_append,Jre,not_or] at h1 h3 ⊢;obtain⟨⟨a1,a2,a3⟩,a4,a5⟩:=h1;refine⟨⟨a1,h2,fun x hx y hy e=>?_⟩,a4,fun x hx y hy e=>?_⟩
 ·subst e;exact(h3 x hy).1.1 hx
 ·subst e;rcases hx with hx | hx
  ·exact a5 x (.inl hx) x hy rfl
  ·exact(h3 x hx).2 hy
theorem Jbp.within {fe f fe':List Nat} (h:Jbp fe f fe') (P Q:List Nat):Jbp (P++fe++Q) f (P++fe'++Q):=by
 obtain⟨A,X,B,rfl,rfl⟩:=h;exact⟨P++A,X,B++Q,by simp,by simp⟩
theorem JeM :∀(es:List D) (sz:Nat) (vals:List Value) (fp:List Nat) (i:Nat) (e:D),Xy w es sz vals fp→es[i]? = some e →
  ∃ P fe Q val,fp=P++fe++Q∧Rd w e val fe∧val.cells.size=sz∧val.cells.toList=(vals.drop (i*sz)).take sz∧(∀u∈val.cells.toList,u.oneCell=true) ∧
   ∀(e':D) (val':Value) (fe':List Nat),Rd w e' val' fe'→val'.cells.size=sz→(∀u∈val'.cells.toList,u.oneCell=true)→Xy w (es.set i e') sz (Je vals (i*sz) val'.cells.toList) (P++fe'++Q)
 | [],_,_,_,i,_,_,hi=>by simp at hi
 | e0::es,sz,vals,fp,0,e,⟨val0,v2,f1,f2,e1,hs,e2,h1,h2,h3⟩,hi=>by
  subst e1;subst e2;simp only[List.getElem?_cons_zero,Jq8] at hi;subst hi;have hl:val0.cells.toList.length=sz:=by simpa using hs
  refine⟨[],f1,f2,val0,by simp,h1,hs,by simp[hl],h3,fun e' val' fe' h4 h5 h6=>⟨val',v2,fe',f2,?_,h5,by simp,h4,h2,h6⟩⟩;simp[Je,h5,hs]
 | e0::es,sz,vals,fp,i+1,e,⟨val0,v2,f1,f2,e1,hs,e2,h1,h2,h5⟩,hi=>by
  subst e1;subst e2;obtain⟨P,fe,Q,val,a1,a2,a3,a4,a5,a6⟩:=JeM es sz v2 f2 i e h2 (by simpa using hi);have hl:val0.cells.toList.length=sz:=by simpa using hs
  refine⟨f1++P,fe,Q,val,by rw[a1];simp,a2,a3,?_,a5,fun e' val' fe' h6 h7 h8=>?_⟩
  ·rw[a4,show (i+1)*sz=val0.cells.toList.length+i*sz by rw[hl,Nat.succ_mul];omega,List.drop_length_add_append]
  ·refine⟨val0,Je v2 (i*sz) val'.cells.toList,f1,P++fe'++Q,?_,hs,by simp,h1,a6 e' val' fe' h6 h7 h8,h5⟩;simp only[Je];rw[show (i+1)*sz=val0.cells.toList.length+i*sz by rw[hl,Nat.succ_mul];omega];rw[List.take_length_add_append,Nat.add_assoc,List.drop_length_add_append];simp
theorem Jpv {d:D} {val:Value} {fp:List Nat} (h:Rd w d val fp) (ho:d.one=true):val.oneCell=true:=by
 cases d with
 | v x=>exact h.1▸h.2.1
 | s es=>obtain⟨_,_,rfl,_⟩:=h;rfl
 | q cs=>obtain⟨_,_,_,rfl,_⟩:=h;rfl
 | f fn cs=>obtain⟨_,rfl,_⟩:=h;rfl
 | g cs=>simp[D.one] at ho
 | t cs=>simp[D.one] at ho
theorem XT :∀(ds:List D) (vs:List Value) (fp:List Nat),ZR w ds vs fp→(∀u∈vs,u.oneCell=true)→Xx w ds vs fp
 | [],_,_,h,_=>h
 | d::ds,vs,fp,⟨v,vs',f1,f2,e,hf,h1,h2⟩,ho=>by
  subst e;exact⟨v,vs',f1,f2,rfl,hf,h1,XT ds vs' f2 h2 (fun u hu=>ho u (by simp[hu])),ho v (by simp)⟩
theorem WO {ag:Bool} {ds:List D} {vs:List Value} {fp:List Nat} {d:D} (h:ZR w ds vs fp) (hone :∀u∈vs,u.oneCell=true) (hm:D.mk ag ds=some d) :
  ∃ val,Rd w d val fp∧val.cells.toList=vs:=by
 cases ag with
 | true=>simp[D.mk] at hm;subst hm;exact⟨.agg vs.toArray,⟨vs,rfl,XT ds vs fp h hone⟩,by simp[Value.cells]⟩
 | false =>
  cases ds with
  | nil=>simp[D.mk] at hm
  | cons d0 ds =>
   cases ds with
   | nil =>
    simp only[D.mk] at hm;split at hm
    ·rename_i ho;simp at hm;subst hm;obtain⟨v,vs',f1,f2,rfl,rfl,h1,h2⟩:=h;obtain⟨rfl,rfl⟩:=h2;exact⟨v,by simpa using h1,by rw[Ym (Jpv h1 ho)]⟩
    ·cases hm
   | cons _ _=>simp[D.mk] at hm
theorem WB {v:Value} {d:D} {dp:Bool} (hS:Sim c g m w) (hx:VX c g m w x v) (h:(VG x).run m=some ((d,dp),m')) :
  (∃ fp,Rd w d v fp∧JV c g m' fp)∧Sim c g m' w∧Jc c g m w g m' w:=by
 cases x with
 | d x =>
  cases rS1 h;obtain⟨fp,h1,h2⟩:=hx;exact⟨⟨fp,WZ h1,h2⟩,hS,.refl _ _ _ _⟩
 | o k n =>
  obtain⟨ob,hob,h⟩:=MP.get_some h;cases ob with
  | arr ty sz es dp' rw =>
   simp only at h;split at h
   ·rename_i hn;obtain⟨_,h⟩:=MP.put_some h;cases rS1 h;obtain⟨h1,h2⟩:=Jdz hS hob;obtain⟨h3,h4,h5⟩:=h1.arr k ty sz es false false (uS1 _ _ _);have hv:=(hx.2.2 ty sz es dp' rw hob).2 hn;refine⟨?_,h1,h2⟩;rcases h3 with ⟨_,e,rfl,e2⟩ | ⟨b,cap,cs,hb,e,hle,_,hh,_,hr⟩
    ·exact⟨[],⟨none,0,by rw[hv,e];rfl,by simp,.inl ⟨rfl,rfl⟩⟩,fun b hb=>by simp at hb⟩
    ·exact⟨b::g.fd k,⟨_,cap,by rw[hv,e],hle,.inr ⟨b,0,sz,_,rfl,(Jrl.1 hh).1,rfl,hr⟩⟩,fun q hq=>by
      rcases Jrs.1 hq with rfl | hq
      ·exact h5 rfl _ hb _ (by simp)
      ·exact h4 rfl q hq⟩
   ·simp[MP.run] at h
  | _=>simp[MP.run] at h
 | _=>simp[VG,MP.run] at h
theorem Jc.trans {g1 g2:Gh} {m1 m2:Mem} {w1 w2:World} (h:Jc c g m w g1 m1 w1) (h':Jc c g1 m1 w1 g2 m2 w2):Jc c g m w g2 m2 w2:=by
 refine⟨Nat.le_trans h.size h'.size,fun b h1 h2 h3=>?_,fun k cs hk=>?_,fun k ty sz es dp rw hk=>?_,fun k hk=>h'.dead k (h.dead k hk)⟩
 ·obtain⟨a1,a2⟩:=h.pure b h1 h2 h3;obtain⟨b1,b2⟩:=h'.pure b a2 h2 (Nat.lt_of_lt_of_le h3 h.size);exact⟨b1.trans a1,b2⟩
 ·obtain⟨⟨cs',e⟩,e'⟩:=h.box k cs hk;obtain⟨e2,e3⟩:=h'.box k cs' e;exact⟨e2,e3.trans e'⟩
 ·rcases h.arr k ty sz es dp rw hk with e | ⟨es',dp',rw',e,hh⟩
  ·exact .inl (h'.dead k e)
  ·rcases h'.arr k ty sz es' dp' rw' e with e2 | ⟨es2,dp2,rw2,e2,hh2⟩
   ·exact .inl e2
   ·refine .inr ⟨es2,dp2,rw2,e2,?_⟩;rcases hh with ⟨a1,a2,a3⟩ | a1
    ·rcases hh2 with ⟨b1,b2,b3⟩ | b1
     ·exact .inl ⟨b1.trans a1,b2.trans a2,b3.trans a3⟩
     ·exact .inr (by omega)
    ·rcases hh2 with ⟨b1,_⟩ | b1
     ·exact .inr (by omega)
     ·exact .inr (by omega)
theorem ZT :∀(xs:List X) (vs:List Value) (ds:List D) (dp:Bool) (m m':Mem),Sim c g m w→VXs c g m w xs vs→(We xs).run m=some ((ds,dp),m') →
  (∃ fp,ZR w ds vs fp∧JV c g m' fp)∧Sim c g m' w∧Jc c g m w g m' w
 | [],vs,ds,dp,m,m',hS,hv,h=>by
  cases rS1 h;rw[show vs=[] from hv];exact⟨⟨[],⟨rfl,rfl⟩,fun b hb=>by simp at hb⟩,hS,.refl _ _ _ _⟩
 | x::xs,vs,ds,dp,m,m',hS,⟨v,vs',e,h1,h2⟩,h=>by
  subst e;obtain⟨⟨d,b1⟩,m1,ha,h⟩:=MP.bind_some h;obtain⟨⟨fp,hr,ho⟩,hS1,hC1⟩:=WB hS h1 ha;obtain⟨⟨ds',b2⟩,m2,hb,h⟩:=MP.bind_some h;cases rS1 h;obtain⟨⟨fp2,hr2,ho2⟩,hS2,hC2⟩:=ZT xs vs' ds' b2 m1 m' hS1 (Qe hC1 _ _ h2) hb;have:=Qi hC2 (Wq _ _ _ hr) ho;refine⟨⟨fp++fp2,⟨v,vs',fp,fp2,rfl,rfl,hr,hr2⟩,fun b hb=>?_⟩,hS2,hC1.trans hC2⟩;rcases Jre.1 hb with hb | hb
  ·exact this.1 b hb
  ·exact ho2 b hb
end
end Go.Tm
end
section
namespace Go.Tm
open Go.IntKind (i64)
def YH (P:Program) (w:World):List D→Kds→Nat→List Value→List Nat→Prop
 | [],_,_,vals,fp=>vals=[]∧fp=[]
 | e::es,ks,sz,vals,fp=>∃ val v2 f1 f2,vals=val.cells.toList++v2∧val.cells.size=sz∧fp=f1++f2∧Ow P w e ks val f1∧YH P w es ks sz v2 f2∧∀u∈val.cells.toList,u.oneCell=true
section
variable {P:Program} {w w':World}
theorem Vf :∀(es:List D) (ks:Kds) (sz:Nat) (vals:List Value) (fp:List Nat),YH P w es ks sz vals fp→Xy w es sz vals fp
 | [],_,_,_,_,h=>h
 | e::es,ks,sz,vals,fp,⟨val,v2,f1,f2,e1,hs,e2,h1,h2,h3⟩=>⟨val,v2,f1,f2,e1,hs,e2,Jjy _ _ _ _ h1,Vf es ks sz v2 f2 h2,h3⟩
theorem Zc :∀(es:List D) (ks:Kds) (sz b off:Nat) (vals:List Value) (fp:List Nat),YH P w es ks sz vals fp→(∀j,j<vals.length→w.cell? ⟨b,off+j,none⟩=vals[j]?)→Jbn P w es ks sz b off fp
 | [],_,_,_,_,_,_,h,_=>h.2
 | e::es,ks,sz,b,off,vals,fp,⟨val,v2,f1,f2,e1,hs,e2,h1,h2,h3⟩,hc=>by
  subst e1;refine⟨val,f1,f2,e2,h1,hs,fun j hj=>?_,Zc es ks sz b (off+sz) v2 f2 h2 fun j hj=>?_,h3⟩
  ·have:=hc j (by simp;omega);rw[this,JrA (by simp;omega)];simp
  ·have:=hc (sz+j) (by simp;omega);rw[show off+sz+j=off+(sz+j) by omega,this,JrB (by simp;omega)];simp[hs]
theorem Zk :∀(es:List D) (ks:Kds) (sz b off:Nat) (vals:List Value) (fp:List Nat),Jbn P w es ks sz b off fp→vals.length=es.length*sz→(∀j,j<vals.length→w.cell? ⟨b,off+j,none⟩=vals[j]?)→YH P w es ks sz vals fp
 | [],_,sz,_,_,vals,_,h,hl,_=>⟨by simpa using hl,h⟩
 | e::es,ks,sz,b,off,vals,fp,⟨val,f1,f2,e2,h1,hs,hc1,h2,h3⟩,hl,hc=>by
  rw[List.length_cons,Nat.succ_mul] at hl;have e1:vals.take sz=val.cells.toList:=by
   apply List.ext_getElem?;intro j
   by_cases hj:j<sz
   ·rw[Jrz hj,←hc j (by omega),hc1 j hj];simp
   ·rw[Jrw (by simp;omega),Jrw (by simp;omega)]
  refine⟨val,vals.drop sz,f1,f2,by rw[←e1,List.take_append_drop],hs,e2,h1,Zk es ks sz b (off+sz) (vals.drop sz) f2 h2 (by simp;omega) (fun j hj=>?_),h3⟩;rw[List.getElem?_drop,←hc (sz+j) (by simp at hj;omega),show off+sz+j=off+(sz+j) by omega]
theorem JaU :∀(es fs:List D) (ks:Kds) (sz:Nat) (vs us:List Value) (f1 f2:List Nat),YH P w es ks sz vs f1→YH P w fs ks sz us f2→YH P w (es++fs) ks sz (vs++us) (f1++f2)
 | [],fs,ks,sz,vs,us,f1,f2,h,h'=>by rw[h.1,h.2];exact h'
 | e::es,fs,ks,sz,vs,us,f1,f2,⟨val,v2,g1,g2,e1,hs,e2,h1,h2,h3⟩,h'=>by
  subst e1;subst e2;exact⟨val,v2++us,g1,g2++f2,by simp,hs,by simp,h1,JaU es fs ks sz v2 us g2 f2 h2 h',h3⟩
theorem Ke :∀(es:List D) (ks:Kds) (sz:Nat) (vals:List Value) (fp:List Nat),(∀b∈fp,w'.heap[b]? = w.heap[b]?)→YH P w es ks sz vals fp→YH P w' es ks sz vals fp
 | [],_,_,_,_,_,h=>h
 | e::es,ks,sz,vals,fp,hs,⟨val,v2,f1,f2,e1,hs1,e2,h1,h2,h3⟩=>by
  subst e2;exact⟨val,v2,f1,f2,e1,hs1,rfl,Wg _ _ _ _ (fun b hb=>hs b (by simp[hb])) h1,Ke es ks sz v2 f2 (fun b hb=>hs b (by simp[hb])) h2,h3⟩
theorem Jd6 :∀(es:List D) (ks:Kds) (sz:Nat) (vals:List Value) (fp:List Nat),JA es=true→Xy w es sz vals fp→YH P w es ks sz vals fp
 | [],_,_,_,_,_,h=>h
 | e::es,ks,sz,vals,fp,hf,⟨val,v2,f1,f2,e1,hs,e2,h1,h2,h3⟩=>by
  simp only[JA,Jq9] at hf;exact⟨val,v2,f1,f2,e1,hs,e2,Jic ks hf.1 h3 h1,Jd6 es ks sz v2 f2 hf.2 h2,h3⟩
theorem Uf {d:D} {val:Value} {ks:Kds} {sz:Nat} (h:Ow P w d ks val []) (hs:val.cells.size=sz) (ho :∀u∈val.cells.toList,u.oneCell=true) :
  ∀n,YH P w (List.replicate n d) ks sz (List.replicate n val.cells.toList).flatten []
 | 0=>⟨rfl,rfl⟩
 | n+1=>⟨val,_,[],[],by rw[List.replicate_succ,List.flatten_cons],hs,rfl,h,Uf h hs ho n,ho⟩
theorem Jal :∀(es:List D) (ks:Kds) (sz:Nat) (vals:List Value) (fp:List Nat) (i:Nat) (e:D),YH P w es ks sz vals fp→es[i]? = some e →
  ∃ X fe Q val,fp=X++fe++Q∧Ow P w e ks val fe∧val.cells.size=sz∧val.cells.toList=(vals.drop (i*sz)).take sz∧(∀u∈val.cells.toList,u.oneCell=true) ∧
   ∀(w':World) (e':D) (val':Value) (fe':List Nat),(∀b∈X++Q,w'.heap[b]? = w.heap[b]?)→Ow P w' e' ks val' fe'→val'.cells.size=sz→(∀u∈val'.cells.toList,u.oneCell=true) →
    YH P w' (es.set i e') ks sz (Je vals (i*sz) val'.cells.toList) (X++fe'++Q)
 | [],_,_,_,_,i,_,_,hi=>by simp at hi
 | e0::es,ks,sz,vals,fp,0,e,⟨val0,v2,f1,f2,e1,hs,e2,h1,h2,h3⟩,hi=>by
  subst e1;subst e2;simp only[List.getElem?_cons_zero,Jq8] at hi;subst hi;have hl:val0.cells.toList.length=sz:=by simpa using hs
  refine⟨[],f1,f2,val0,by simp,h1,hs,by simp[hl],h3,fun w' e' val' fe' hw h4 h5 h6=>⟨val',v2,fe',f2,?_,h5,by simp,h4,Ke _ _ _ _ _ (by simpa using hw) h2,h6⟩⟩;simp[Je,h5,hs]
 | e0::es,ks,sz,vals,fp,i+1,e,⟨val0,v2,f1,f2,e1,hs,e2,h1,h2,h5⟩,hi=>by
  subst e1;subst e2;obtain⟨X,fe,Q,val,a1,a2,a3,a4,a5,a6⟩:=Jal es ks sz v2 f2 i e h2 (by simpa using hi);have hl:val0.cells.toList.length=sz:=by simpa using hs
  refine⟨f1++X,fe,Q,val,by rw[a1];simp,a2,a3,?_,a5,fun w' e' val' fe' hw h6 h7 h8=>?_⟩
  ·rw[a4,show (i+1)*sz=val0.cells.toList.length+i*sz by rw[hl,Nat.succ_mul];omega,List.drop_length_add_append]
  ·refine⟨val0,Je v2 (i*sz) val'.cells.toList,f1,X++fe'++Q,?_,hs,by simp,Wg _ _ _ _ (fun b hb=>hw b (by simp[hb])) h1,a6 w' e' val' fe' (fun b hb=>hw b (by simp only[Jre] at hb ⊢;rcases hb with h | h <;> simp[h])) h6 h7 h8,h5⟩;simp only[Je];rw[show (i+1)*sz=val0.cells.toList.length+i*sz by rw[hl,Nat.succ_mul];omega];rw[List.take_length_add_append,Nat.add_assoc,List.drop_length_add_append];simp
theorem Um :∀(ds es:List D) (ks:Kds) (vs us:List Value) (f1 f2:List Nat),ZA P w ds ks vs f1→ZA P w es (ks.drop ds.length) us f2→ZA P w (ds++es) ks (vs++us) (f1++f2)
 | [],es,ks,vs,us,f1,f2,h,h'=>by rw[h.1,h.2];exact h'
 | d::ds,es,ks,vs,us,f1,f2,⟨v,vs',g1,g2,e,hf,h1,h2,h3⟩,h'=>by
  subst e;subst hf;exact⟨v,vs'++us,g1,g2++f2,rfl,by simp,h1,Um ds es _ vs' us g2 f2 h2 (by rw[List.drop_drop,Nat.add_comm];exact h'),h3⟩
theorem Jcu :∀(n:Nat) (ds:List D) (ks:Kds) (vs:List Value) (fp:List Nat),ZA P w ds ks vs fp→∃ f1 f2,ZA P w (ds.take n) ks (vs.take n) f1∧ZA P w (ds.drop n) (ks.drop n) (vs.drop n) f2∧fp=f1++f2
 | 0,ds,ks,vs,fp,h=>⟨[],fp,⟨rfl,rfl⟩,h,rfl⟩
 | n+1,[],ks,vs,fp,h=>by rw[h.1,h.2];exact⟨[],[],⟨rfl,rfl⟩,⟨rfl,rfl⟩,rfl⟩
 | n+1,d::ds,ks,vs,fp,⟨v,vs',g1,g2,e,hf,h1,h2,h3⟩=>by
  subst e;subst hf;obtain⟨f1,f2,a1,a2,a3⟩:=Jcu n ds _ vs' g2 h2;exact⟨g1++f1,f2,⟨v,vs'.take n,g1,f1,by simp,rfl,h1,a1,h3⟩,by rw[List.drop_drop,Nat.add_comm] at a2;simpa using a2,by rw[a3];simp⟩
theorem JgP {ds es:List D} {ks:Kds} {vs us:List Value} {f1 f2:List Nat} {off:Nat} (ho:off+es.length≤ds.length) (h:ZA P w ds ks vs f1) (h':ZA P w es (ks.drop off) us f2) :
  ∃ fp,ZA P w (Je ds off es) ks (Je vs off us) fp∧Jbp f1 f2 fp:=by
 have hl:us.length=es.length:=Qc _ _ _ (Kx _ _ _ _ h');obtain⟨a,r,h1,hr,e1⟩:=Jcu off ds ks vs f1 h;obtain⟨x,b,_,h2,e2⟩:=Jcu us.length (ds.drop off) _ (vs.drop off) r hr;rw[List.drop_drop,List.drop_drop,List.drop_drop] at h2;unfold Je;rw[←hl];refine⟨a++f2++b,Um _ _ _ _ _ _ _ (Um _ _ _ _ _ _ _ h1 ?_) ?_,a,x,b,by rw[e1,e2];simp,rfl⟩
 ·rw[Jro,Nat.min_eq_left (by omega)];exact h'
 ·rw[Jrf,Jro,Nat.min_eq_left (by omega),←hl];exact h2
theorem Je5 {d:D} {ks:Kds} {v:Value} {fp:List Nat} (ho:v.oneCell=true) (h:Ow P w d (ks.take 1) v fp):Ow P w d ks v fp:=by
 cases d with
 | v x=>exact h
 | g cs=>obtain⟨vs,rfl,_⟩:=h;simp[Value.oneCell] at ho
 | s es =>
  obtain⟨ty,sz,hk,h⟩:=h;exact⟨ty,sz,by cases ks <;> simp_all,h⟩
 | _=>exact h
theorem Jnd {d:D} {ks:Kds} {v:Value} {fp:List Nat} (ho:v.oneCell=true) (h:Ow P w d ks v fp):Ow P w d (ks.take 1) v fp:=by
 cases d with
 | v x=>exact h
 | g cs=>obtain⟨vs,rfl,_⟩:=h;simp[Value.oneCell] at ho
 | s es =>
  obtain⟨ty,sz,hk,h⟩:=h;exact⟨ty,sz,by cases ks <;> simp_all,h⟩
 | _=>exact h
theorem JiA {e e':D} {off:Nat} {ks:Kds} {ds:List D} {val:Value} {us:List Value} {f1 f2:List Nat} (h:Ow P w e ks val f1) (hvo :∀u∈val.cells.toList,u.oneCell=true) (hd:ZA P w ds (ks.drop off) us f2) (hp:e.put off ds=some e') :
  ∃ val' fp,Ow P w e' ks val' fp∧val'.cells.toList=Je val.cells.toList off us∧off+us.length≤val.cells.size∧Jbp f1 f2 fp:=by
 have hl:=Qc _ _ _ (Kx _ _ _ _ hd);have hones:=Yw _ _ _ (Kx _ _ _ _ hd)
 by_cases hg : ∃ cs,e = .g cs
 ·obtain⟨cs,rfl⟩:=hg;obtain⟨vs,rfl,hr⟩:=h;simp only[D.put] at hp;split at hp
  ·rename_i hle;simp only[Jq8] at hp;subst hp;obtain⟨fp,h1,h2⟩:=JgP (off:=off) hle hr hd;refine⟨.agg (Je vs off us).toArray,fp,⟨_,rfl,h1⟩,by simp[Value.cells],?_,h2⟩;have:=Qc _ _ _ (Kx _ _ _ _ hr);simp[Value.cells];omega
  ·cases hp
 ·have hc:=Qc _ _ _ (Uo (Jjy _ _ _ _ h) hvo);have hcell:e.cells=[e]:=by cases e <;> first | rfl | exact absurd ⟨_,rfl⟩ hg
  rw[hcell] at hc;have hput:off=0∧ds=[e']:=by
   cases e <;> simp only[D.put] at hp <;> first
    | exact absurd ⟨_,rfl⟩ hg
    | (split at hp <;> simp_all)
  obtain⟨rfl,rfl⟩:=hput;obtain⟨v,vs',g1,g2,rfl,rfl,h1,h2,h3⟩:=hd;obtain⟨rfl,rfl⟩:=h2;refine⟨v,g1,Je5 h3 h1,?_,by simpa using Nat.le_of_eq hc.symm,[],f1,[],by simp,by simp⟩;rw[Ym h3];simp only[Jrj,List.length_singleton] at hc;have:val.cells.toList.drop 1=[]:=List.eq_nil_of_length_eq_zero (by simp[hc]);simp[Je,this]
theorem Jd0 :∀(z:List Value) (ks:Kds),zOk ks z=true→z.all (·.oneCell)=true→ZA P w (z.map fun v=>(D.v v).norm) ks z []
 | [],_,_,_=>⟨rfl,rfl⟩
 | v::vs,ks,hz,h=>by
  simp only[List.all_cons,Jq9,zOk] at h hz;refine⟨v,vs,[],[],rfl,rfl,?_,Jd0 vs _ hz.2 h.2,h.1⟩;show Ow P w (D.v v).norm (ks.take 1) v [];unfold D.norm;split
  ·rename_i e;cases e;have h1:=hz.1;simp only at h1;cases ks with
   | nil=>simp at h1
   | cons k ks =>
    cases k with
    | none=>simp at h1
    | some q=>exact⟨q.1,q.2,rfl,.inl ⟨rfl,rfl,rfl⟩⟩
  ·exact⟨rfl,h.1,rfl⟩
theorem JeI {ag:Bool} {ks:Kds} {ds:List D} {vs:List Value} {fp:List Nat} {d:D} (h:ZA P w ds ks vs fp) (hm:D.mk ag ds=some d) :
  ∃ val,Ow P w d ks val fp∧val.cells.toList=vs:=by
 cases ag with
 | true=>simp[D.mk] at hm;subst hm;exact⟨.agg vs.toArray,⟨vs,rfl,h⟩,by simp[Value.cells]⟩
 | false =>
  cases ds with
  | nil=>simp[D.mk] at hm
  | cons d0 ds =>
   cases ds with
   | nil =>
    simp only[D.mk] at hm;split at hm
    ·rename_i ho;simp at hm;subst hm;obtain⟨v,vs',f1,f2,rfl,rfl,h1,h2,h3⟩:=h;obtain⟨rfl,rfl⟩:=h2;exact⟨v,by simpa using Je5 h3 h1,by rw[Ym h3]⟩
    ·cases hm
   | cons _ _=>simp[D.mk] at hm
end
end Go.Tm
end
section
namespace Go.Tm
open Go.IntKind (i64)
section
variable {P:Program} {T:Tab} {G:JW} {c:Cx P} {g:Gh} {m m':Mem} {w w':World} {a:Act} {sl:QM} {o:Oper} {x:X}
theorem UY :∀(es:List D) (sz:Nat) (vals:List Value) (fp:List Nat),w.heap.size≤w'.heap.size→(∀b∈fp,w'.heap[b]? = w.heap[b]?)→Xy w es sz vals fp→Xy w' es sz vals fp
 | [],_,_,_,_,_,h=>h
 | e::es,sz,vals,fp,hz,hs,⟨val,v2,f1,f2,e1,hsz,e2,h1,h2,h3⟩=>by
  subst e2;exact⟨val,v2,f1,f2,e1,hsz,rfl,UW e val f1 hz (fun b hb=>hs b (by simp[hb])) h1,UY es sz v2 f2 hz (fun b hb=>hs b (by simp[hb])) h2,h3⟩
theorem WN :∀(es:List D) (sz:Nat) (vals:List Value) (fp:List Nat),Xy w es sz vals fp→∀b∈fp,b<w.heap.size
 | [],_,_,_,h,b,hb=>by rw[h.2] at hb;simp at hb
 | e::es,sz,vals,fp,⟨val,v2,f1,f2,_,_,e2,h1,h2,_⟩,b,hb=>by
  subst e2;rcases Jre.1 hb with hb | hb
  ·exact Wq e val f1 h1 b hb
  ·exact WN es sz v2 f2 h2 b hb
theorem JdY :∀(es:List D) (sz:Nat) (vals:List Value) (fp:List Nat),Xy w es sz vals fp→∀u∈vals,u.oneCell=true
 | [],_,_,_,h,u,hu=>by rw[h.1] at hu;simp at hu
 | e::es,sz,vals,fp,⟨val,v2,f1,f2,e1,_,_,_,h2,h3⟩,u,hu=>by
  subst e1;rcases Jre.1 hu with hu | hu
  ·exact h3 u hu
  ·exact JdY es sz v2 f2 h2 u hu
theorem one' {v:Value} (h:v.oneCell=true):v.oneCell'=true:=by cases v <;> simp_all [Value.oneCell,Value.oneCell']
theorem Ja9 {ag:Bool} {sz:Nat} :∀(ps:List (Nat×X)) (qs:List (Nat×Value)) (es:List D) (dp:Bool) (arr:Array Value) (fp:List Nat) (es':List D) (dp':Bool) (m m':Mem),
  qs.length=ps.length→(∀(i:Nat) (p:Nat×X) (q:Nat×Value),ps[i]? = some p→qs[i]? = some q→p.1=q.1∧VX c g m w p.2 q.2)→Sim c g m w→Xy w es sz arr.toList fp→JV c g m fp →
  (JbQ ag sz es dp ps).run m=some ((es',dp'),m') →
  ∃ arr' fp',Instr.fill (fun i=>some (i*sz,sz)) arr qs=some arr'∧Xy w es' sz arr'.toList fp'∧JV c g m' fp'∧Sim c g m' w∧Jc c g m w g m' w∧es'.length=es.length
 | [],[],es,dp,arr,fp,es',dp',m,m',_,_,hS,hv,ho,h=>by
  cases rS1 h;exact⟨arr,fp,rfl,hv,ho,hS,.refl _ _ _ _,rfl⟩
 | [],_::_,_,_,_,_,_,_,_,_,hl,_,_,_,_,_=>by simp at hl
 | _::_,[],_,_,_,_,_,_,_,_,hl,_,_,_,_,_=>by simp at hl
 | (i,x)::ps,(j,v)::qs,es,dp,arr,fp,es',dp',m,m',hl,hr,hS,hv,ho,h=>by
  obtain⟨hij,hx⟩:=hr 0 _ _ rfl rfl;simp only at hij;subst hij;simp only[JbQ] at h;split at h
  ·rename_i vs hc;split at h
   ·rename_i hn;obtain⟨hn,hi,hone⟩:=hn;obtain⟨hcs,hcone⟩:=XX hx hc;have hlen:=Qp _ _ hcs;obtain⟨⟨ds,b1⟩,m1,ha,h⟩:=MP.bind_some h;obtain⟨⟨fp1,hr1,ho1⟩,hS1,hC1⟩:=ZT vs v.cells.toList ds b1 m m1 hS hcs ha;split at h
    ·rename_i d hd;obtain⟨val,hval,hvc⟩:=WO hr1 hcone hd;have hsz:val.cells.size=sz:=by rw[←Jrj,hvc,hlen,hn]
     obtain⟨fp2,hv2,hsub⟩:=Jha es sz arr.toList fp i d val fp1 hv hi hval hsz (by rw[hvc];exact hcone);have hlen2:=JO _ _ _ _ hv;simp only[Jrj] at hlen2 hlen;have hvsz:v.cells.size=sz:=by omega
     have hle:i*sz+sz≤arr.size:=by rw[hlen2,←Nat.succ_mul];exact Nat.mul_le_mul_right _ hi
     have hfold:=US (i*sz) v.cells.toList 0 arr (by simp;omega);have e:(v.cells.zipIdx.foldl (fun cs p=>cs.setIfInBounds (i*sz+p.2) p.1) arr).toList=Je arr.toList (i*sz) v.cells.toList:=by
      rw[←Array.foldl_toList,Array.toList_zipIdx];simpa using hfold
     have hok2:JV c g m1 fp2:=by
      have h0:=(Qi hC1 (WN _ _ _ _ hv) ho).1;intro b hb;rcases hsub b hb with hb | hb
      ·exact h0 b hb
      ·exact ho1 b hb
     obtain⟨arr',fp',h1,h2,h3,h4,h5,h6⟩:=Ja9 ps qs (es.set i d) (dp&&b1) (v.cells.zipIdx.foldl (fun cs p=>cs.setIfInBounds (i*sz+p.2) p.1) arr) fp2 es' dp' m1 m' (by simpa using hl)
      (fun k p q a b=>by
       obtain⟨a1,a2⟩:=hr (k+1) p q (by simpa using a) (by simpa using b);exact⟨a1,Qy hC1 _ _ a2⟩) hS1 (by rw[e,←hvc];exact hv2) hok2 h
     refine⟨arr',fp',?_,h2,h3,h4,hC1.trans h5,by simpa using h6⟩;simp only[Instr.fill];rw[if_neg (by simp;omega)];exact h1
    ·simp[MP.run] at h
   ·simp[MP.run] at h
  ·simp[MP.run] at h
theorem Y5 {k:Key} {ty:TypeId} {sz:Nat} {es:List D} {dp:Bool} {vals:List Value} {fp:List Nat} {cap:Nat} (hS:Sim c g m w) (hk:m k=none) (hf:Yd c w') (hsz:w'.heap.size=w.heap.size+1)
  (hw :∀j,j<w.heap.size→w'.heap[j]? = w.heap[j]?) (hnew : ∃ cs:Array Value,w'.heap[w.heap.size]? = some (.cells cs ty (0,0))∧cs.size=cap*sz∧cs.toList.take (es.length*sz)=vals)
  (hcap:es.length≤cap) (hmax:cap≤maxLen) (hv:Xy w es sz vals fp) (ho:JV c g m fp) (hdp:dp=true→fp=[]∧YH P w es (JG P ty) sz vals fp) :
  ∃ g',Sim c g' (upd m k (some (.arr ty sz es dp true))) w'∧Jc c g m w g' (upd m k (some (.arr ty sz es dp true))) w' ∧
   VX c g' (upd m k (some (.arr ty sz es dp true))) w' (.o k es.length) (.slice (some ⟨w.heap.size,0,none⟩) es.length cap):=by
 obtain⟨cs,hcs,hsize,htake⟩:=hnew;have hlen:=JO _ _ _ _ hv;have hC:Jc c g m w (g.new k w.heap.size (.slice (some ⟨w.heap.size,0,none⟩) es.length cap) fp) (upd m k (some (.arr ty sz es dp true))) w' :=
  .new hS hk (Nat.le_refl _) (by omega) hw (fun h=>(hdp (by simpa[Obj.dpw] using h)).1)
 have hfd:(g.new k w.heap.size (.slice (some ⟨w.heap.size,0,none⟩) es.length cap) fp).fd k=fp:=by simp[Gh.new,uS1]
 have hbl:(g.new k w.heap.size (.slice (some ⟨w.heap.size,0,none⟩) es.length cap) fp).bl k=some w.heap.size:=by simp[Gh.new,uS1]
 have hhd:(g.new k w.heap.size (.slice (some ⟨w.heap.size,0,none⟩) es.length cap) fp).hd k = .slice (some ⟨w.heap.size,0,none⟩) es.length cap:=by simp[Gh.new,uS1]
 have hmono:=Qi hC (WN _ _ _ _ hv) ho;have hcell :∀j,j<vals.length→w'.cell? ⟨w.heap.size,0+j,none⟩=vals[j]?:=fun j hj=>by
  rw[Nat.zero_add];have:vals[j]? = cs.toList[j]?:=by rw[←htake,Jrz (by omega)]
  rw[this];simp[World.cell?,hcs]
 obtain⟨h1,h2⟩:=hS.newBlock (o':= .arr ty sz es dp true) (v:= .slice (some ⟨w.heap.size,0,none⟩) es.length cap) (f:=fp) (w':=w') hk hsz hw hf (fun h=>(hdp (by simpa[Obj.dpw] using h)).1)
  ⟨.inr ⟨w.heap.size,cap,cs,hbl,hhd,hcap,hmax,hcs,Nat.le_of_eq hsize.symm,by rw[hfd];exact KP _ _ _ _ _ _ (UY _ _ _ _ (by omega) hmono.2 hv) hcell⟩,
   fun _=>by rw[hfd];exact hmono.1,(fun(h:true=false)=>by cases h),fun _ b hb=>by
    rcases hb with hb | ⟨hd,hb⟩
    ·rw[hbl] at hb;cases hb;simp[Gh.new,uS1]
    ·rw[hfd,(hdp (by simpa[Obj.dpw] using hd)).1] at hb;simp at hb,
   fun hd _=>by
    rw[hfd];refine⟨by rw[(hdp hd).1];exact List.nodup_nil,fun b hb=>⟨by rw[(hdp hd).1];simp,?_⟩⟩;rw[hbl] at hb;cases hb;exact Zc _ _ _ _ _ _ _ (Ke _ _ _ _ _ hmono.2 (hdp hd).2) hcell⟩
 refine⟨_,h1,h2,rfl,⟨_,uS1 _ _ _,by simp⟩,fun ty1 sz1 es1 dp1 rw1 e=>?_⟩;rw[uS1] at e;cases e;exact⟨Nat.le_refl _,fun _=>hhd.symm⟩
theorem X9 {d:D} {val:Value} {sz:Nat} (h:Rd w d val []) (hs:val.cells.size=sz) (ho :∀u∈val.cells.toList,u.oneCell=true) :
  ∀n,Xy w (List.replicate n d) sz (List.replicate n val.cells.toList).flatten []
 | 0=>⟨rfl,rfl⟩
 | n+1=>⟨val,_,[],[],by rw[List.replicate_succ,List.flatten_cons],hs,rfl,h,X9 h hs ho n,ho⟩
theorem Va :∀(z:List Value),z.all (·.oneCell)=true→ZR w (z.map fun v=>(D.v v).norm) z []
 | [],_=>⟨rfl,rfl⟩
 | v::vs,h=>by
  simp only[List.all_cons,Jq9] at h;exact⟨v,vs,[],[],rfl,rfl,WZ ⟨rfl,h.1,rfl⟩,Va vs h.2⟩
theorem VM (zs:Array Value) (n:Nat) (hz:0<zs.size):((Array.range (n*zs.size)).map (fun i=>zs[i % zs.size]!)).toList=(List.replicate n zs.toList).flatten:=by
 apply List.ext_getElem?;intro i
 induction n generalizing i with
 | zero=>simp
 | succ n ih =>
  rw[List.replicate_succ,List.flatten_cons]
  by_cases hi:i<zs.size
  ·rw[JrA (by simpa using hi)];have hlt:i<(n+1)*zs.size:=by rw[Nat.succ_mul];omega
   simp[hlt,Nat.mod_eq_of_lt hi,hi]
  ·rw[JrB (by simpa using hi),←ih];simp only[Jrj,Array.toList_map,Jru,Array.toList_range]
   by_cases hlt:i<(n+1)*zs.size
   ·rw[List.getElem?_range hlt,List.getElem?_range (by rw[Nat.succ_mul] at hlt;omega)];simp only[Jrb]
    congr 2
    have:i=(i-zs.size)+zs.size:=by omega
    conv=>lhs;rw[this]
    simp
   ·rw[Jrw (by simpa using hlt),Jrw (by rw[Nat.succ_mul] at hlt;simp;omega)]
end
end Go.Tm
end
section
namespace Go.Tm
open Go.IntKind (i64)
structure UC (g:Gh) (k:Key) (m0 m1:Mem) (mv:List Key) (f:List Nat):Prop where
 out :∀j,j∉mv→m1 j=m0 j
 gone :∀j∈mv,j≠k∧m1 j=some .dead∧∃ ty sz es dp,m0 j=some (.arr ty sz es dp true)
 nodup:f.Nodup
 blk :∀b∈f,∃ j∈mv,∃ o,m0 j=some o∧o.rw=true∧Blk g j o b
section
variable {P:Program} {c:Cx P} {g:Gh} {m:Mem} {w:World} {k:Key}
theorem UC.nil {m0:Mem}:UC g k m0 m0 [] []:=⟨fun _ _=>rfl,fun _ h=>by simp at h,List.nodup_nil,fun _ h=>by simp at h⟩
theorem Wy {es:List D} {sz b o:Nat} {fp:List Nat}:JA es=true→Ky w es sz b o fp→fp=[]:=by
 induction es generalizing o fp with
 | nil=>intro _ h;exact h
 | cons e es ih =>
  intro hf h;obtain⟨val,f1,f2,hfp,h1,_,_,h2,_⟩:=h;simp only[JA,Jq9] at hf;rw[hfp,YB e val f1 hf.1 h1,ih hf.2 h2];rfl
theorem Jgn (hS:Sim c g m w) {kd:Option (TypeId×Nat)} {x:X} {v:Value} {d:D} {m0 m1:Mem} (hm :∀j o,m0 j=some o→o≠ .dead→m j=some o) (hx:VX c g m w x v) (hone:v.oneCell=true)
  (h:(Jg8 k kd x).run m0=some (d,m1)) : ∃ mv f,UC g k m0 m1 mv f∧Ow P w d [kd] v f:=by
 cases x with
 | d x =>
  obtain⟨fp,hr,_⟩:=hx;unfold Jg8 at h;split at h
  ·rename_i e;cases e;split at h
   ·rename_i hk;cases rS1 h;obtain⟨rfl,_,_⟩:=hr;cases kd with
    | none=>simp at hk
    | some q=>exact⟨[],[],.nil,q.1,q.2,rfl,.inl ⟨rfl,rfl,rfl⟩⟩
   ·simp[MP.run] at h
  ·rename_i d' _ e;cases e;split at h
   ·rename_i hf;cases rS1 h;have:=YB _ _ _ hf hr;subst this;exact⟨[],[],.nil,JjC _ hf hone hr⟩
   ·simp[MP.run] at h
  all_goals simp_all [MP.run]
 | o j n =>
  obtain⟨ob,hob,h⟩:=MP.get_some h;cases ob with
  | arr ty sz es dp rw =>
   cases rw with
   | false=>simp[MP.run] at h
   | true =>
    simp only at h;split at h
    ·rename_i hc;obtain⟨hn,hdf,hkd,hjk⟩:=hc;obtain⟨_,h⟩:=MP.put_some h;cases rS1 h;have hmj:=hm j _ hob (by simp);have hv:=(hx.2.2 ty sz es dp true hmj).2 hn;obtain⟨harr,_,_⟩:=hS.arr j ty sz es dp true hmj;rcases harr with ⟨hbl,hhd,rfl,hfd⟩ | ⟨b,cap,cs,hb,hhd,hcap,hmax,hh,hsize,hr⟩
     ·refine⟨[j],[],⟨fun i hi=>uO1 _ _ (by simpa using hi),fun i hi=>?_,List.nodup_nil,fun _ h=>by simp at h⟩,ty,sz,by rw[hkd];rfl,.inl ⟨by rw[hv,hhd];rfl,rfl,rfl⟩⟩;simp only[Jrr] at hi;subst hi;exact⟨hjk,uS1 _ _ _,_,_,_,_,hob⟩
     ·have hfl:dp=false→g.fd j=[]:=fun hd=>Wy (by simpa[hd] using hdf) hr;refine⟨[j],b::g.fd j,⟨fun i hi=>uO1 _ _ (by simpa using hi),fun i hi=>?_,?_,fun q hq=>⟨j,by simp,_,hob,rfl,?_⟩⟩,ty,sz,by rw[hkd];rfl,.inr ⟨b,cap,cs,g.fd j,by rw[hv,hhd],hcap,hmax,hh,hsize,rfl,?_⟩⟩
      ·simp only[Jrr] at hi;subst hi;exact⟨hjk,uS1 _ _ _,_,_,_,_,hob⟩
      ·cases dp with
       | false=>rw[hfl rfl];simp
       | true =>
        obtain⟨h1,h2⟩:=hS.deep j ty sz es hmj;exact List.nodup_cons.2 ⟨(h2 b hb).1,h1⟩
      ·rcases Jrs.1 hq with rfl | hq
       ·exact .inl hb
       ·cases dp with
        | false=>rw[hfl rfl] at hq;simp at hq
        | true=>exact .inr ⟨rfl,hq⟩
      ·cases dp with
       | false=>exact JaN _ _ _ _ _ _ (by simpa using hdf) hr
       | true=>exact((hS.deep j ty sz es hmj).2 b hb).2
    ·simp[MP.run] at h
  | _=>simp[MP.run] at h
 | _=>simp[Jg8,MP.run] at h
theorem UC.after {m0 m2:Mem} {mv1:List Key} {f1:List Nat} (hM1:UC g k m0 m2 mv1 f1) (hm :∀j o,m0 j=some o→o≠ .dead→m j=some o) :∀j o,m2 j=some o→o≠ .dead→m j=some o:=fun j o hj hd=>by
 by_cases hjm:j∈mv1
 ·rw[(hM1.gone j hjm).2.1] at hj;cases hj;exact absurd rfl hd
 ·rw[hM1.out j hjm] at hj;exact hm j o hj hd
theorem UC.append {m0 m2 m1:Mem} {mv1 mv2:List Key} {f1 f2:List Nat} (hM1:UC g k m0 m2 mv1 f1) (hS:Sim c g m w) (hm :∀j o,m0 j=some o→o≠ .dead→m j=some o) (hM2:UC g k m2 m1 mv2 f2) :
  UC g k m0 m1 (mv1++mv2) (f1++f2)∧∀j o,m2 j=some o→o≠ .dead→m j=some o:=by
 have hm2 :∀j o,m2 j=some o→o≠ .dead→m j=some o:=fun j o hj hd=>by
  by_cases hjm:j∈mv1
  ·rw[(hM1.gone j hjm).2.1] at hj;cases hj;exact absurd rfl hd
  ·rw[hM1.out j hjm] at hj;exact hm j o hj hd
 have hnew :∀j o,m2 j=some o→o≠ .dead→m0 j=some o∧j∉mv1:=fun j o hj hd=>by
  by_cases hjm:j∈mv1
  ·rw[(hM1.gone j hjm).2.1] at hj;cases hj;exact absurd rfl hd
  ·rw[hM1.out j hjm] at hj;exact⟨hj,hjm⟩
 refine⟨⟨fun j hj=>?_,fun j hj=>?_,?_,fun b hb=>?_⟩,hm2⟩
 ·simp only[Jre,not_or] at hj;rw[hM2.out j hj.2,hM1.out j hj.1]
 ·by_cases hj2:j∈mv2
  ·obtain⟨a1,a2,ty,sz,es,dp,a3⟩:=hM2.gone j hj2;exact⟨a1,a2,ty,sz,es,dp,(hnew j _ a3 (by simp)).1⟩
  ·have hj1:j∈mv1:=by simpa[hj2] using hj
   obtain⟨a1,a2,a3⟩:=hM1.gone j hj1;exact⟨a1,by rw[hM2.out j hj2];exact a2,a3⟩
 ·refine List.nodup_append.2 ⟨hM1.nodup,hM2.nodup,fun x hx y hy e=>?_⟩;subst e;obtain⟨j1,hj1,o1,ho1,hr1,hb1⟩:=hM1.blk x hx;obtain⟨j2,hj2,o2,ho2,hr2,hb2⟩:=hM2.blk x hy;have e1:=hS.own j1 o1 x (hm j1 o1 ho1 (fun e=>by rw[e] at hr1;cases hr1)) hr1 hb1;have e2:=hS.own j2 o2 x (hm2 j2 o2 ho2 (fun e=>by rw[e] at hr2;cases hr2)) hr2 hb2;rw[e1] at e2;cases e2;exact(hnew j1 o2 ho2 (fun e=>by rw[e] at hr2;cases hr2)).2 hj1
 ·rcases Jre.1 hb with hb | hb
  ·obtain⟨j,hj,h⟩:=hM1.blk b hb;exact⟨j,by simp[hj],h⟩
  ·obtain⟨j,hj,o,ho,hr,hbb⟩:=hM2.blk b hb;exact⟨j,by simp[hj],o,(hnew j o ho (fun e=>by rw[e] at hr;cases hr)).1,hr,hbb⟩
theorem Ur (hS:Sim c g m w) :∀(xs:List X) (ks:Kds) (vs:List Value) (ds:List D) (m0 m1:Mem),(∀j o,m0 j=some o→o≠ .dead→m j=some o)→VXs c g m w xs vs→(∀u∈vs,u.oneCell=true) →
  (JhN k ks xs).run m0=some (ds,m1)→∃ mv f,UC g k m0 m1 mv f∧ZA P w ds ks vs f
 | [],ks,vs,ds,m0,m1,_,hv,_,h=>by
  cases rS1 h;rw[show vs=[] from hv];exact⟨[],[],.nil,rfl,rfl⟩
 | x::xs,ks,vs,ds,m0,m1,hm,⟨v,vs',e,h1,h2⟩,hone,h=>by
  subst e;obtain⟨d,m2,ha,h⟩:=MP.bind_some h;obtain⟨ds',m3,hb,h⟩:=MP.bind_some h;cases rS1 h;obtain⟨mv1,f1,hM1,hO1⟩:=Jgn hS hm h1 (hone v (by simp)) ha;have hm2:=hM1.after hm;obtain⟨mv2,f2,hM2,hO2⟩:=Ur hS xs (ks.drop 1) vs' ds' m2 m1 hm2 h2 (fun u hu=>hone u (by simp[hu])) hb;refine⟨mv1++mv2,f1++f2,(hM1.append hS hm hM2).1,v,vs',f1,f2,rfl,rfl,?_,hO2,hone v (by simp)⟩;cases ks with
  | nil =>
   cases d with
   | s es=>obtain⟨_,_,hk,_⟩:=hO1;simp at hk
   | g cs=>obtain⟨us,e,_⟩:=hO1;have:=hone v (by simp);rw[e] at this;simp[Value.oneCell] at this
   | _=>exact hO1
  | cons kd ks=>exact hO1
theorem JhX {α:Type} (xs a b:List α) (i:Nat) (h:i+a.length≤xs.length):Je (Je xs i a) (i+a.length) b=Je xs i (a++b):=by
 unfold Je;have e1:(xs.take i++a).length=i+a.length:=by simp;omega
 rw[List.take_left' e1,←List.drop_drop,List.drop_left' e1,List.drop_drop,Jrf];simp[Nat.add_assoc]
theorem Ja0 (hS:Sim c g m w) {ag:Bool} {sz:Nat} {ks:Kds} :∀(ps:List (Nat×X)) (qs:List (Nat×Value)) (i:Nat) (es:List D) (arr:Array Value) (m0 m1:Mem),
  qs.length=ps.length→(∀(i:Nat) (p:Nat×X) (q:Nat×Value),ps[i]? = some p→qs[i]? = some q→p.1=q.1∧VX c g m w p.2 q.2)→(∀j o,m0 j=some o→o≠ .dead→m j=some o) →
  (i+ps.length)*sz≤arr.size→(Jc2 k ag sz ks i ps).run m0=some (es,m1) →
  ∃ mv f vals arr',UC g k m0 m1 mv f∧YH P w es ks sz vals f∧Instr.fill (fun i=>some (i*sz,sz)) arr qs=some arr'∧arr'.toList=Je arr.toList (i*sz) vals∧es.length=ps.length
 | [],[],i,es,arr,m0,m1,_,_,_,_,h=>by
  cases rS1 h;exact⟨[],[],[],arr,.nil,⟨rfl,rfl⟩,rfl,by simp[Je],rfl⟩
 | [],_::_,_,_,_,_,_,hl,_,_,_,_=>by simp at hl
 | _::_,[],_,_,_,_,_,hl,_,_,_,_=>by simp at hl
 | (j,x)::ps,(j',v)::qs,i,es,arr,m0,m1,hl,hr,hm,hle,h=>by
  obtain⟨hij,hx⟩:=hr 0 _ _ rfl rfl;simp only at hij;subst hij;simp only[Jc2] at h;split at h
  ·rename_i vs hc;split at h
   ·rename_i hn;obtain⟨hn,rfl,hone⟩:=hn;obtain⟨hcs,hcone⟩:=XX hx hc;have hlen:=Qp _ _ hcs;obtain⟨ds,m2,ha,h⟩:=MP.bind_some h;obtain⟨mv1,f1,hM1,hO1⟩:=Ur hS vs ks v.cells.toList ds m0 m2 hm hcs hcone ha;split at h
    ·rename_i d hd;obtain⟨val,hval,hvc⟩:=JeI hO1 hd;have hsz:val.cells.size=sz:=by rw[←Jrj,hvc,hlen,hn]
     obtain⟨es2,m3,hb,h⟩:=MP.bind_some h;cases rS1 h;simp only[Jrj] at hlen;have hvsz:v.cells.size=sz:=by omega
     simp only[List.length_cons] at hle;have hle1:j*sz+sz≤arr.size:=by
      have:(j+1)*sz≤(j+(ps.length+1))*sz:=Nat.mul_le_mul_right _ (by omega);rw[Nat.succ_mul] at this;omega
     have hfold:=US (j*sz) v.cells.toList 0 arr (by simp;omega);have e:(v.cells.zipIdx.foldl (fun cs p=>cs.setIfInBounds (j*sz+p.2) p.1) arr).toList=Je arr.toList (j*sz) v.cells.toList:=by
      rw[←Array.foldl_toList,Array.toList_zipIdx];simpa using hfold
     have esz:(v.cells.zipIdx.foldl (fun cs p=>cs.setIfInBounds (j*sz+p.2) p.1) arr).size=arr.size:=by
      rw[←Jrj,e];simp[Je];omega
     obtain⟨mv2,f2,vals,arr',hM2,hO2,h1,h2,h3⟩:=Ja0 hS ps qs (j+1) es2 (v.cells.zipIdx.foldl (fun cs p=>cs.setIfInBounds (j*sz+p.2) p.1) arr) m2 m1 (by simpa using hl)
      (fun k p q a b=>hr (k+1) p q (by simpa using a) (by simpa using b)) (hM1.after hm) (by rw[esz];rw[show j+1+ps.length=j+(ps.length+1) by omega];exact hle) hb
     refine⟨mv1++mv2,f1++f2,v.cells.toList++vals,arr',(hM1.append hS hm hM2).1,⟨val,vals,f1,f2,by rw[hvc],hsz,rfl,hval,hO2,by rw[hvc];exact hcone⟩,?_,?_,by simpa using h3⟩
     ·simp only[Instr.fill];rw[if_neg (by simp;omega)];exact h1
     ·rw[h2,e,Nat.succ_mul,←JhX _ _ _ _ (by simp;omega)];simp[hvsz]
    ·simp[MP.run] at h
   ·simp[MP.run] at h
  ·simp[MP.run] at h
end
end Go.Tm
end
section
namespace Go.Tm
open Go.IntKind (i64)
section
variable {P:Program} {T:Tab} {G:JW} {c:Cx P} {g:Gh} {m m':Mem} {w w':World} {a:Act} {sl:QM} {o:Oper} {x:X}
theorem Jg4 (hsl:Jl c g m w sl a) (ps:Array (Nat×Operand)) :∀(i:Nat) (p:Nat×X) (q:Nat×Value),(ps.toList.map fun p=>(p.1,opX sl p.2))[i]? = some p→(ps.toList.map fun p=>(p.1,a.eval p.2))[i]? = some q →
  p.1=q.1∧VX c g m w p.2 q.2:=fun i p q hp hq=>by
 rw[Jru] at hp hq;cases hps:ps.toList[i]? with
 | none=>rw[hps] at hp;simp at hp
 | some y =>
  rw[hps] at hp hq;simp only[Jrb,Jq8] at hp hq;subst hp;subst hq;exact⟨rfl,oX1 hsl y.2⟩
theorem JmS {α:Type} (f:Nat→α):(Array.range 0).map f = #[]:=Array.eq_empty_of_size_eq_zero (by simp)
theorem Up {t e:TypeId} {n sz:Nat} {i:TypeInfo} {zv:Value} {parts:Array (Nat×Value)} {arr:Array Value} (ht:P.underlying t=some (.slice e)) (hsz:Qo P e=some sz) (hn:n*sz≤2 ^ 24)
  (hi:P.info? e=some i) (hz:i.zero=some zv) (h:Instr.fill (fun i=>some (i*sz,sz)) ((Array.range (n*sz)).map (fun i=>zv.cells[i % zv.cells.size]!)) parts.toList=some arr) :
  (Instr.buildSlice t n parts).run P w = .ok (.slice (some ⟨w.heap.size,0,none⟩) n n) (w.alloc (.cells arr e)):=by
 have hn' : ¬(2 ^ 24<n*sz):=by omega
 unfold Instr.buildSlice
 by_cases h0:n*sz=0
 ·rw[h0,JmS] at h;simp only[Sem.run_bind,run_underlying ht,Result.andThen_ok,Xi hsz,h0];simp[JmS,h,newRow]
 ·simp only[Sem.run_bind,run_underlying ht,Result.andThen_ok,Xi hsz];simp only[gt_iff_lt,hn',h0,if_false,Sem.run_bind,Jew hi hz,Result.andThen_ok,Sem.run_pure,h];simp[newRow]
theorem Jbk (hS:Sim c g m w) (hsl:Jl c g m w sl a) {t:TypeId} {p q:Operand} (ho:o.op = .makeSlice t p q)
  (h:(opM P T G sl o).run m=some (x,m')):Qf P c g m w a o x m':=by
 have hp:=oX1 hsl p;have hq:=oX1 hsl q;unfold opM at h;rw[ho] at h;simp only at h;split at h
 ·rename_i e l l' he hl hl';obtain⟨k1,hpv⟩:=QW hp hl;obtain⟨k2,hqv⟩:=QW hq hl';split at h
  ·rename_i sz ag z hsz hag hz;split at h
   ·rename_i zd hzd;split at h
    ·rename_i hcond;obtain⟨h0,rfl,hroom,hzl,hpos,hone⟩:=hcond;obtain⟨i,zv,hi,hzv,hzc⟩:=Zv hz;have hone' :∀u∈z,u.oneCell=true:=by simpa using hone
     obtain⟨val,hval,hvc⟩:=WO (w:=w) (Va z hone) hone' hzd;have hzs:zv.cells.size=sz:=by rw[←Jrj,hzc,hzl]
     have hvs:val.cells.size=sz:=by rw[←Jrj,hvc,hzl]
     obtain⟨n,rfl⟩:=Int.eq_ofNat_of_zero_le h0;simp only[Int.toNat_natCast] at *;have hrep:=X9 hval hvs (by rw[hvc];exact hone') n;have harr:((Array.range (n*sz)).map (fun i=>zv.cells[i % zv.cells.size]!)).toList=(List.replicate n val.cells.toList).flatten:=by
      rw[←hzs,VM zv.cells n (by omega),hvc,hzc]
     obtain⟨i',hi',hsz'⟩:=Z7 hsz;rw[hi] at hi';cases hi';unfold Ue tz at hroom;simp only[hi,Jrb,decide_eq_true_eq] at hroom;obtain⟨hr1,hr2⟩:=hroom;obtain⟨hk,h⟩:=MP.new_some h;have hlen:=JO _ _ _ _ hrep;obtain⟨g',h7,h8,h9⟩:=Y5 (k:=Jt o) (ty:=e) (sz:=sz) (es:=List.replicate n zd) (dp:=Uv P (G.dp o) e z) (cap:=n) (w':=w.alloc (.cells ((Array.range (n*sz)).map (fun i=>zv.cells[i % zv.cells.size]!)) e)) hS hk (hS.frame.alloc _) (QK _ _) (fun j hj=>heap_alloc_old w _ hj)
      ⟨_,heap_alloc_new w _,by simp,by rw[harr,Jrd (by rw[hlen];simp)]⟩ (by simp) (by unfold maxLen;omega) hrep (fun b hb=>by simp at hb) (fun hd=>⟨rfl,by
       simp only[Uv,Jq9] at hd;obtain⟨val2,hO,hc2⟩:=JeI (Jd0 (w:=w) z (JG P e) hd.2 hone) hzd;have hvs2:val2.cells.size=sz:=by rw[←Jrj,hc2,hzl]
       have:=Uf hO hvs2 (by rw[hc2];exact hone') n;rw[hc2] at this;rw[hvc];exact this⟩)
     cases rS1 h;rw[List.length_replicate] at h9;refine .value (g':=g') ?_ h7 h8 h9;have hrun:=run_make (P:=P) w t e i zv (JT he) hi hzv k1 k2 n n (by omega) (Int.le_refl _) (by have:=hr1;push_cast at *;rw[Int.mul_comm];omega) (by omega);simp only[Int.toNat_natCast,hsz',madeCells] at hrun;unfold execOp;rw[ho];simp only[hpv,hqv,Sem.run_bind];rw[hrun];rfl
    ·simp[MP.run] at h
   ·simp[MP.run] at h
  ·simp[MP.run] at h
 ·simp[MP.run] at h
theorem Ut {t:TypeId} {n b off:Nat} {v:Value} {w':World} (hn:Qo P t=some n) (hv:v.cells.size=n) (h:(storeCells ⟨b,off,none⟩ v.cells.toList).run P w = .ok () w') :
  (Instr.storeAt t (.pointer (some ⟨b,off,none⟩)) v).run P w = .ok () w':=by
 simp[Instr.storeAt,Instr.sureAddr,storeVar,Xi hn,hv,h]
theorem Vy {α:Type} (xs:List α) (i off:Nat) (us:List α) (sz:Nat) (h:i+sz≤xs.length) (ho:off+us.length≤sz) :
  Je xs i (Je ((xs.drop i).take sz) off us)=Je xs (i+off) us:=by
 have hl:((xs.drop i).take sz).length=sz:=by simp;omega
 unfold Je;simp only[Jrf,Jro,List.length_drop,hl];rw[show min off sz=off by omega];have e1:xs.take (i+off)=xs.take i++((xs.drop i).take sz).take off:=by
  rw[List.take_take,show min off sz=off by omega,List.take_add]
 rw[e1,show i+(off+us.length+(sz-(off+us.length)))=i+sz by omega];have e2:xs.drop (i+off+us.length)=((xs.drop i).take sz).drop (off+us.length)++xs.drop (i+sz):=by
  rw[List.drop_take,List.drop_drop,show xs.drop (i+sz)=(xs.drop (i+(off+us.length))).drop (sz-(off+us.length)) by rw[List.drop_drop];congr 1;omega,List.take_append_drop]
  congr 1;omega
 rw[e2];simp
theorem ZH :∀(ds es:List D) (vs us:List Value) (f1 f2:List Nat),Xx w ds vs f1→Xx w es us f2→Xx w (ds++es) (vs++us) (f1++f2)
 | [],es,vs,us,f1,f2,h,h'=>by rw[h.1,h.2];exact h'
 | d::ds,es,vs,us,f1,f2,⟨v,vs',g1,g2,e,hf,h1,h2,h3⟩,h'=>by
  subst e;subst hf;exact⟨v,vs'++us,g1,g2++f2,rfl,by simp,h1,ZH ds es vs' us g2 f2 h2 h',h3⟩
theorem Jb3 :∀(n:Nat) (ds:List D) (vs:List Value) (fp:List Nat),Xx w ds vs fp→∃ f1 f2,Xx w (ds.take n) (vs.take n) f1∧Xx w (ds.drop n) (vs.drop n) f2∧fp=f1++f2
 | 0,ds,vs,fp,h=>⟨[],fp,⟨rfl,rfl⟩,h,rfl⟩
 | n+1,[],vs,fp,h=>by rw[h.1,h.2];exact⟨[],[],⟨rfl,rfl⟩,⟨rfl,rfl⟩,rfl⟩
 | n+1,d::ds,vs,fp,⟨v,vs',g1,g2,e,hf,h1,h2,h3⟩=>by
  subst e;subst hf;obtain⟨f1,f2,a1,a2,a3⟩:=Jb3 n ds vs' g2 h2;exact⟨g1++f1,f2,⟨v,vs'.take n,g1,f1,by simp,rfl,h1,a1,h3⟩,by simpa using a2,by rw[a3];simp⟩
theorem JgO {ds es:List D} {vs us:List Value} {f1 f2:List Nat} {off:Nat} (h:Xx w ds vs f1) (h':Xx w es us f2) :
  ∃ fp,Xx w (Je ds off es) (Je vs off us) fp∧Jbp f1 f2 fp:=by
 have hl:=Qc _ _ _ h';obtain⟨a,r,h1,hr,e1⟩:=Jb3 off ds vs f1 h;obtain⟨x,b,_,h2,e2⟩:=Jb3 us.length (ds.drop off) (vs.drop off) r hr;rw[List.drop_drop,List.drop_drop] at h2;unfold Je;rw[←hl];exact⟨a++f2++b,ZH _ _ _ _ _ _ (ZH _ _ _ _ _ _ h1 h') h2,a,x,b,by rw[e1,e2];simp,rfl⟩
theorem Jiv {e e':D} {off:Nat} {ds:List D} {val:Value} {us:List Value} {f1 f2:List Nat} (h:Rd w e val f1) (hvo :∀u∈val.cells.toList,u.oneCell=true) (hd:Xx w ds us f2) (hp:e.put off ds=some e') :
  ∃ val' fp,Rd w e' val' fp∧val'.cells.toList=Je val.cells.toList off us∧off+us.length≤val.cells.size∧Jbp f1 f2 fp:=by
 have hl:=Qc _ _ _ hd;have hones:=Yw _ _ _ hd
 by_cases hg : ∃ cs,e = .g cs
 ·obtain⟨cs,rfl⟩:=hg;obtain⟨vs,rfl,hr⟩:=h;simp only[D.put] at hp;split at hp
  ·rename_i hle;simp only[Jq8] at hp;subst hp;obtain⟨fp,h1,h2⟩:=JgO (off:=off) hr hd;refine⟨.agg (Je vs off us).toArray,fp,⟨_,rfl,h1⟩,by simp[Value.cells],?_,h2⟩;have:=Qc _ _ _ hr;simp[Value.cells];omega
  ·cases hp
 ·have hc:=Qc _ _ _ (Uo h hvo);have hcell:e.cells=[e]:=by cases e <;> first | rfl | exact absurd ⟨_,rfl⟩ hg
  rw[hcell] at hc;have hput:off=0∧ds=[e']:=by
   cases e <;> simp only[D.put] at hp <;> first
    | exact absurd ⟨_,rfl⟩ hg
    | (split at hp <;> simp_all)
  obtain⟨rfl,rfl⟩:=hput;obtain⟨v,vs',g1,g2,rfl,rfl,h1,h2,h3⟩:=hd;obtain⟨rfl,rfl⟩:=h2;refine⟨v,g1,h1,?_,by simpa using Nat.le_of_eq hc.symm,[],f1,[],by simp,by simp⟩;rw[Ym h3];simp only[Jrj,List.length_singleton] at hc;have:val.cells.toList.drop 1=[]:=List.eq_nil_of_length_eq_zero (by simp[hc]);simp[Je,this]
theorem Ji4 {key:Key} {ty:TypeId} {sz:Nat} {dp:Bool} (hS:Sim c g m w) (hk:m key=none) :
  ∃ g',Sim c g' (upd m key (some (.arr ty sz [] dp true))) w∧Jc c g m w g' (upd m key (some (.arr ty sz [] dp true))) w∧VX c g' (upd m key (some (.arr ty sz [] dp true))) w (.o key 0) Qb∧g'.bl key=none∧g'.fd key=[]:=by
 let g':Gh:={ bl:=upd g.bl key none,hd:=upd g.hd key Qb,fd:=upd g.fd key [],ow:=g.ow }
 have hM :∀b,Mut g' (upd m key (some (.arr ty sz [] dp true))) b→Mut g m b:=by
  rintro b ⟨k,o,h1,h2,h3⟩
  by_cases e:k=key
  ·subst e;have:g'.bl k=none:=uS1 _ _ _;rw[uS1] at h1;cases h1;rcases h3 with h3 | h3
   ·rw[this] at h3;cases h3
   ·have:g'.fd k=[]:=uS1 _ _ _;rw[this] at h3;simp at h3
  ·rw[uO1 _ _ e] at h1;have h3:Blk g k o b:=by unfold Blk at h3 ⊢;simpa only[g',uO1 _ _ e] using h3
   exact⟨k,o,h1,h2,h3⟩
 have hC:Jc c g m w g' (upd m key (some (.arr ty sz [] dp true))) w:=by
  refine⟨Nat.le_refl _,fun b h1 _ _=>⟨rfl,fun h=>h1 (hM b h)⟩,fun k cs h=>?_,fun k ty' sz' es dp' rw h=>?_,fun k h=>?_⟩
  ·have e:k≠key:=fun e=>by subst e;rw[hk] at h;cases h
   exact⟨⟨cs,by rw[uO1 _ _ e];exact h⟩,uO1 _ _ e⟩
  ·have e:k≠key:=fun e=>by subst e;rw[hk] at h;cases h
   exact .inr ⟨es,dp',rw,by rw[uO1 _ _ e];exact h,.inl ⟨rfl,uO1 _ _ e,uO1 _ _ e⟩⟩
  ·have e:k≠key:=fun e=>by subst e;rw[hk] at h;cases h
   rw[uO1 _ _ e];exact h
 refine⟨g',?_,hC,⟨rfl,⟨_,uS1 _ _ _,by simp⟩,fun ty' sz' es dp' rw h=>?_⟩,uS1 _ _ _,uS1 _ _ _⟩
 ·refine Sim.step hS (k:=key) (uS1 _ _ _) (fun j hj=> .inl (uO1 _ _ hj)) hC hS.frame (fun j hj=>⟨uO1 _ _ hj,uO1 _ _ hj,uO1 _ _ hj⟩)
   (fun b j o h1 h2 h3 hj _=>⟨rfl,hS.own j o b h1 h2 h3⟩) hS.live ?_
  refine⟨.inl ⟨uS1 _ _ _,uS1 _ _ _,rfl,uS1 _ _ _⟩,fun _ b hb=>?_,(fun(h:true=false)=>by cases h),fun _ b hb=>?_,fun _ _=>?_⟩
  ·have:g'.fd key=[]:=uS1 _ _ _;rw[this] at hb;simp at hb
  ·have:g'.bl key=none:=uS1 _ _ _;rcases hb with hb | hb
   ·rw[this] at hb;cases hb
   ·have:g'.fd key=[]:=uS1 _ _ _;rw[this] at hb;simp at hb
  ·have e1:g'.fd key=[]:=uS1 _ _ _;have e2:g'.bl key=none:=uS1 _ _ _;rw[e1,e2];exact⟨List.nodup_nil,fun b hb=>by cases hb⟩
 ·rw[uS1] at h;cases h;exact⟨Nat.le_refl _,fun _=>(uS1 g.hd key Qb).symm⟩
theorem Wi {k:Key} {ty:TypeId} {sz:Nat} {es:List D} {dp dp':Bool} {i off b:Nat} {e e':D} {ds:List D} {us:List Value} {f2:List Nat} {mv:List Key} {m1:Mem}
  (hS:Sim c g m w) (hk:m k=some (.arr ty sz es dp true)) (hb:g.bl k=some b) (hi:es[i]? = some e) (hp:e.put off ds=some e') (hd:Xx w ds us f2)
  (hm1 :∀j,j∉mv→m1 j=m j) (hmv :∀j∈mv,j≠k∧m1 j=some .dead∧∃ ty sz es dp,m j=some (.arr ty sz es dp true))
  (hmode:(dp'=false∧JV c g m f2∧mv=[])∨(dp'=true∧dp=true∧f2.Nodup∧(∀b∈f2,∃ j∈mv,∃ o,m j=some o∧o.rw=true∧Blk g j o b)∧ZA P w ds ((JG P ty).drop off) us f2)) :
  ∃ w' g',(storeCells ⟨b,i*sz+off,none⟩ us).run P w = .ok () w'∧Sim c g' (upd m1 k (some (.arr ty sz (es.set i e') dp' true))) w'∧Jc c g m w g' (upd m1 k (some (.arr ty sz (es.set i e') dp' true))) w':=by
 obtain⟨harr,hok,_⟩:=hS.arr k ty sz es dp true hk;have hdeep:dp=true→(g.fd k).Nodup∧∀b,g.bl k=some b→b∉g.fd k:=fun h=>by subst h;exact⟨(hS.deep k ty sz es hk).1,fun b hb=>((hS.deep k ty sz es hk).2 b hb).1⟩
 rcases harr with ⟨_,_,rfl,_⟩ | ⟨b',cap,cs,hb',hhd,hcap,hmax,hh,hsize,hr⟩
 ·simp at hi
 rw[hb] at hb';cases hb';have hilt:i<es.length:=(Jra.1 hi).1;have hle:es.length*sz≤cs.size:=Nat.le_trans (Nat.mul_le_mul_right _ hcap) hsize;have hvals:Xy w es sz (cs.toList.take (es.length*sz)) (g.fd k):=VH es sz b 0 _ _ hr (by simp;omega) (fun j hj=>by
  simp only[Jro,Jrj] at hj;rw[Nat.zero_add,Jrz (by omega)];simp[World.cell?,hh])
 have hones:=Yw _ _ _ hd;have hisz:i*sz+sz≤es.length*sz:=by rw[←Nat.succ_mul];exact Nat.mul_le_mul_right _ hilt
 have hput : ∃ fp',Xy w (es.set i e') sz (Je (cs.toList.take (es.length*sz)) (i*sz+off) us) fp'∧Jbp (g.fd k) f2 fp'∧off+us.length≤sz ∧
   (dp'=true→YH P w (es.set i e') (JG P ty) sz (Je (cs.toList.take (es.length*sz)) (i*sz+off) us) fp'):=by
  rcases hmode with ⟨hd0,_⟩ | ⟨hd1,hd2,_,_,hO⟩
  ·obtain⟨P0,f1,Q0,val,hfd,h1,h2,hvalc,h5,hset⟩:=JeM es sz _ _ i e hvals hi;obtain⟨val',fp,hv',hc',hle',hsub⟩:=Jiv h1 h5 hd hp;have hsz':val'.cells.size=sz:=by
    rw[←Jrj,hc'];simp only[Je,Jrf,Jro,List.length_drop,Jrj];omega
   have hv2:=hset e' val' fp hv' hsz' (by rw[hc'];exact UH h5 hones);rw[hc',hvalc,Vy _ _ _ _ _ (by simp;omega) (by omega)] at hv2;exact⟨_,hv2,by rw[hfd];exact hsub.within P0 Q0,by omega,fun h=>by rw[hd0] at h;cases h⟩
  ·subst hd2;have hvo:YH P w es (JG P ty) sz (cs.toList.take (es.length*sz)) (g.fd k):=Zk es _ sz b 0 _ _ ((hS.deep k ty sz es hk).2 b hb).2 (by simp;omega) (fun j hj=>by
    simp only[Jro,Jrj] at hj;rw[Nat.zero_add,Jrz (by omega)];simp[World.cell?,hh])
   obtain⟨P0,f1,Q0,val,hfd,h1,h2,hvalc,h5,hset⟩:=Jal es _ sz _ _ i e hvo hi;obtain⟨val',fp,hv',hc',hle',hsub⟩:=JiA h1 h5 hO hp;have hsz':val'.cells.size=sz:=by
    rw[←Jrj,hc'];simp only[Je,Jrf,Jro,List.length_drop,Jrj];omega
   have hv2:=hset w e' val' fp (fun _ _=>rfl) hv' hsz' (by rw[hc'];exact UH h5 hones);rw[hc',hvalc,Vy _ _ _ _ _ (by simp;omega) (by omega)] at hv2;exact⟨_,Vf _ _ _ _ _ hv2,by rw[hfd];exact hsub.within P0 Q0,by omega,fun _=>hv2⟩
 obtain⟨fp',hv2,hrepl,hle',hov⟩:=hput;have hrun:=run_storeCells_at (P:=P) b (i*sz+off) ty us 0 cs w hh (by omega) (fun v hv=>one' (hones v hv));simp only[Nat.add_zero] at hrun;have hblt:b<w.heap.size:=(Jrl.1 hh).1;have hown:=hS.own k _ b hk rfl (.inl hb);have hmut:Mut g m b:=⟨k,_,hk,rfl,.inl hb⟩;have hlive:=hS.live b k hown;have hown2:dp'=true→∀q∈f2,∃ j∈mv,j≠k∧g.ow q=some j∧Mut g m q:=fun h q hq=>by
  rcases hmode with ⟨h',_⟩ | ⟨_,_,_,h4⟩
  ·rw[h'] at h;cases h
  ·obtain⟨j,hj,o,ho,hrw,hbl⟩:=h4.1 q hq;exact⟨j,hj,(hmv j hj).1,hS.own j o q ho hrw hbl,j,o,ho,hrw,hbl⟩
 have hownk:dp=true→∀q∈g.fd k,g.ow q=some k∧Mut g m q:=fun h q hq=>by
  have hB:Blk g k (.arr ty sz es dp true) q:= .inr ⟨by simp[Obj.dpw,h],hq⟩;exact⟨hS.own k _ q hk rfl hB,k,_,hk,rfl,hB⟩
 have hdpd:dp'=true→dp=true:=fun h=>by
  rcases hmode with ⟨h',_⟩ | ⟨_,h',_⟩
  ·rw[h'] at h;cases h
  ·exact h'
 have hneb :∀q∈fp',q≠b:=by
  intro q hq e;subst e;rcases hrepl.mem q hq with h | h
  ·cases hdp:dp with
   | true=>exact(hdeep hdp).2 q hb h
   | false=>exact(hok (by simp[hdp]) q h).1 hmut
  ·rcases hmode with ⟨_,h',_⟩ | ⟨h',_⟩
   ·exact(h' q h).1 hmut
   ·obtain⟨j,_,hjk,ho,_⟩:=hown2 h' q h;rw[hown] at ho;cases ho;exact hjk rfl
 let g':Gh:={ g with fd:=upd g.fd k fp',ow:=fun q=>if dp'=true∧q∈f2 then some k else g.ow q }
 have hmk :∀j,j≠k→upd m1 k (some (.arr ty sz (es.set i e') dp' true)) j=m j∨upd m1 k (some (.arr ty sz (es.set i e') dp' true)) j=some .dead:=fun j hj=>by
  rw[uO1 _ _ hj]
  by_cases hjm:j∈mv
  ·exact .inr (hmv j hjm).2.1
  ·exact .inl (hm1 j hjm)
 have hC:Jc c g m w g' (upd m1 k (some (.arr ty sz (es.set i e') dp' true))) (w.setRow b (Je cs.toList (i*sz+off) us).toArray):=by
  refine⟨by simp,fun q h1 _ _=>⟨setRow_other w b q _ (fun e=>h1 (e▸hmut)),?_⟩,fun j cs' hj=>?_,fun j ty1 sz1 es1 dp1 rw1 hj=>?_,fun j hj=>?_⟩
  ·rintro⟨j,o,hj,hrw,hbl⟩
   by_cases hjk:j=k
   ·subst hjk;rw[uS1] at hj;cases hj;rcases hbl with hbl | ⟨hdp,hbl⟩
    ·rw[show g'.bl j=g.bl j from rfl,hb] at hbl;cases hbl;exact h1 hmut
    ·have hdp':dp'=true:=by simpa[Obj.dpw] using hdp
     have hbl:q∈fp':=by simpa only[g',uS1] using hbl
     rcases hrepl.mem q hbl with h | h
     ·exact h1 (hownk (hdpd hdp') q h).2
     ·obtain⟨_,_,_,_,h⟩:=hown2 hdp' q h;exact h1 h
   ·have hbl:Blk g j o q:=by unfold Blk at hbl ⊢;simpa only[g',uO1 _ _ hjk] using hbl
    rcases hmk j hjk with e | e
    ·rw[e] at hj;exact h1 ⟨j,o,hj,hrw,hbl⟩
    ·rw[e] at hj;cases hj;cases hrw
  ·have hjk:j≠k:=fun e=>by subst e;rw[hk] at hj;cases hj
   refine⟨⟨cs',?_⟩,rfl⟩;rw[uO1 _ _ hjk,hm1 j (fun h=>by obtain⟨_,_,_,_,h⟩:=(hmv j h).2.2;rw[hj] at h;cases h)];exact hj
  ·by_cases hjk:j=k
   ·subst hjk;rw[hk] at hj;cases hj;exact .inr ⟨_,dp',true,uS1 _ _ _,.inl ⟨by simp,rfl,rfl⟩⟩
   ·rcases hmk j hjk with e | e
    ·exact .inr ⟨es1,dp1,rw1,e.trans hj,.inl ⟨rfl,rfl,rfl⟩⟩
    ·exact .inl e
  ·have hjk:j≠k:=fun e=>by subst e;rw[hk] at hj;cases hj
   rcases hmk j hjk with e | e
   ·exact e.trans hj
   ·exact e
 have hw:Je cs.toList (i*sz+off) us=cs.toList.take (i*sz+off)++us++cs.toList.drop (i*sz+off+us.length):=rfl;have hsame :∀q∈fp',(w.setRow b (Je cs.toList (i*sz+off) us).toArray).heap[q]? = w.heap[q]?:=fun q hq=>setRow_other w b q _ (hneb q hq);have hokfp:dp'=false→JV c g' (upd m1 k (some (.arr ty sz (es.set i e') dp' true))) fp':=by
  intro hdp' q hq;have hok2:JV c g m f2:=by
   rcases hmode with ⟨_,a,_⟩ | ⟨h,_⟩
   ·exact a
   ·rw[h] at hdp';cases hdp'
  rcases hrepl.mem q hq with h | h
  ·cases hdp:dp with
   | false=>exact(Qi hC (fp:=[q]) (by simpa using WN _ _ _ _ hvals q h) (fun x hx=>by simp at hx;subst hx;exact hok (by simp[hdp]) x h)).1 q (by simp)
   | true =>
    have ho:=(hownk hdp q h).1;refine⟨?_,?_⟩
    ·rintro⟨j,o,hj,hrw,hbl⟩
     by_cases hjk:j=k
     ·subst hjk;rw[uS1] at hj;cases hj;rcases hbl with hbl | ⟨hd',_⟩
      ·exact(hdeep hdp).2 q hbl h
      ·simp[Obj.dpw,hdp'] at hd'
     ·have hbl:Blk g j o q:=by unfold Blk at hbl ⊢;simpa only[g',uO1 _ _ hjk] using hbl
      rcases hmk j hjk with e | e
      ·rw[e] at hj;have:=hS.own j o q hj hrw hbl;rw[ho] at this;cases this;exact hjk rfl
      ·rw[e] at hj;cases hj;cases hrw
    ·rcases (hS.live q k ho).2 with h | h
     ·exact .inr h
     ·exact .inl (c.parA q h)
  ·exact(Qi hC (fp:=[q]) (by
    have:=Jbs _ _ _ hd q h;simpa using this) (fun x hx=>by simp at hx;subst hx;exact hok2 x h)).1 q (by simp)
 have hcellnew :∀j,j<(Je (cs.toList.take (es.length*sz)) (i*sz+off) us).length→(w.setRow b (Je cs.toList (i*sz+off) us).toArray).cell? ⟨b,0+j,none⟩=(Je (cs.toList.take (es.length*sz)) (i*sz+off) us)[j]?:=fun j hj=>by
  have hlenv:=JO _ _ _ _ hv2;rw[List.length_set] at hlenv;rw[Nat.zero_add,cell_setRow_same w b j cs _ ty (0,0) hh];have e1:Je cs.toList (i*sz+off) us=Je (cs.toList.take (es.length*sz)) (i*sz+off) us++cs.toList.drop (es.length*sz):=by
   unfold Je;rw[List.take_take,show min (i*sz+off) (es.length*sz)=i*sz+off by omega,List.append_assoc,List.append_assoc,List.append_assoc];have e2:cs.toList.drop (i*sz+off+us.length)=(cs.toList.take (es.length*sz)).drop (i*sz+off+us.length)++cs.toList.drop (es.length*sz):=by
    rw[List.drop_take,show cs.toList.drop (es.length*sz)=(cs.toList.drop (i*sz+off+us.length)).drop (es.length*sz-(i*sz+off+us.length)) by rw[List.drop_drop];congr 1;omega,List.take_append_drop]
   rw[e2]
  rw[List.getElem?_toArray,e1,JrA hj]
 refine⟨w.setRow b (Je cs.toList (i*sz+off) us).toArray,g',by rw[hw];exact hrun,?_,hC⟩;refine hS.step (uS1 _ _ _) hmk hC ?_ (fun j hj=>⟨rfl,rfl,uO1 _ _ hj⟩) (fun b' j o hj0 hrw hb' hjk hj'=>?_) (fun b' j hj=>?_) ?_
 ·refine hS.frame.grow rfl rfl rfl (by simp) (fun j _ hj hp=>setRow_other w b j _ (fun e=>?_));subst e;rcases hlive.2 with h | h
  ·omega
  ·exact hp h
 ·have hj:=hS.own j o b' hj0 hrw hb';refine⟨setRow_other w b b' _ (fun e=>by subst e;rw[hown] at hj;cases hj;exact hjk rfl),?_⟩;show (if dp'=true∧b'∈f2 then some k else g.ow b')=some j;rw[if_neg]
  ·exact hj
  ·rintro⟨hd1,hq⟩;obtain⟨j2,hj2,_,ho,_⟩:=hown2 hd1 b' hq;rw[hj] at ho;cases ho;rw[uO1 _ _ hjk,(hmv j hj2).2.1] at hj';cases hj';cases hrw
 ·have hj:(if dp'=true∧b'∈f2 then some k else g.ow b')=some j:=hj;split at hj
  ·rename_i hc;obtain⟨j2,_,_,ho,_⟩:=hown2 hc.1 b' hc.2;have:=hS.live b' j2 ho;simpa using this
  ·have:=hS.live b' j hj;simpa using this
 ·have hrow:=setRow_heap w b cs (Je cs.toList (i*sz+off) us).toArray ty (0,0) hh;have hfd':g'.fd k=fp':=by simp only[g',uS1]
  refine⟨.inr ⟨b,cap,_,hb,by simpa using hhd,by simpa using hcap,hmax,hrow,?_,?_⟩,fun h=>by rw[hfd'];exact hokfp (by simpa using h),(fun(h:true=false)=>by cases h),fun _ b' hb'=>?_,fun hd1 _=>?_⟩
  ·rw[List.size_toArray,Je];simp only[Jrf,Jro,List.length_drop,Jrj];omega
  ·rw[hfd'];exact KP _ _ _ _ _ _ (UY _ _ _ _ (by simp) hsame hv2) hcellnew
  ·show (if dp'=true∧b'∈f2 then some k else g.ow b')=some k;rcases hb' with hb' | ⟨hd1,hb'⟩
   ·rw[show g'.bl k=g.bl k from rfl,hb] at hb';cases hb';split
    ·rfl
    ·exact hown
   ·have hd1:dp'=true:=by simpa[Obj.dpw] using hd1
    rw[hfd'] at hb';split
    ·rfl
    ·rename_i hn;rcases hrepl.mem b' hb' with h | h
     ·exact(hownk (hdpd hd1) b' h).1
     ·exact absurd ⟨hd1,h⟩ hn
  ·rw[hfd'];rcases hmode with ⟨h,_⟩ | ⟨_,hd2,hn,_⟩
   ·rw[h] at hd1;cases hd1
   refine⟨hrepl.nodup (hdeep hd2).1 hn fun q hq hq2=>?_,fun q hq=>?_⟩
   ·obtain⟨j2,_,hne,ho,_⟩:=hown2 hd1 q hq;rw[(hownk hd2 q hq2).1] at ho;cases ho;exact hne rfl
   ·rw[show g'.bl k=g.bl k from rfl,hb] at hq;cases hq;exact⟨fun hq2=>hneb b hq2 rfl,Zc _ _ _ _ _ _ _ (Ke _ _ _ _ _ hsame (hov hd1)) hcellnew⟩
theorem Jhw (hS:Sim c g m w) (hsl:Jl c g m w sl a) {t:TypeId} {p q:Operand} (ho:o.op = .store t p q)
  (h:(opM P T G sl o).run m=some (x,m')):Qf P c g m w a o x m':=by
 have hp:=oX1 hsl p;have hq:=oX1 hsl q;unfold opM at h;rw[ho] at h;simp only[Je4] at h;split at h
 ·rename_i vs n hvs hn;obtain⟨hcs,hcone⟩:=XX hq hvs;have hlen:=Qp _ _ hcs;simp only[Jrj] at hlen;split at h
  ·rename_i hcond;have hvn:=hcond;split at h
   ·rename_i k off hpx;rw[hpx] at hp;obtain⟨cs0,b,hm,hb,hpv⟩:=hp;obtain⟨ob,hob,h⟩:=MP.get_some h;rw[hm] at hob;cases hob;simp only at h;split at h
    ·rename_i hle;obtain⟨w',hrun,hS',hC'⟩:=Jfl (P:=P) (off:=off) hS hm hb hcs hcone (by omega);obtain⟨_,h⟩:=MP.put_some h;cases rS1 h;refine .skip (w':=w') (g':=g) ?_ hS' hC';unfold execOp;rw[ho];simp only[hpv,Sem.run_bind];rw[Ut hn (by omega) hrun];rfl
    ·simp[MP.run] at h
   ·rename_i k n' i off hpx;rw[hpx] at hp;obtain⟨ob0,hob0,h⟩:=MP.get_some h;split at h
    ·rename_i ty0 sz0 es0;obtain⟨ds,m1,ha,h⟩:=MP.bind_some h;obtain⟨mv,f,hM,hO⟩:=Ur hS vs _ _ ds m m1 (fun _ _ h _=>h) hcs hcone ha;obtain⟨ob,hob,h⟩:=MP.get_some h;have hkm:k∉mv:=fun hk=>(hM.gone k hk).1 rfl;rw[hM.out k hkm,hob0] at hob;cases hob;simp only at h;split at h
     ·rename_i e hi;split at h
      ·rename_i e' he';split at h
       ·rename_i hn';obtain⟨b,hb,hpv⟩:=(hp.2.2 _ _ _ _ true hob0).2 hn'.1;have hrv:=Kx _ _ _ _ hO;obtain⟨w',g',hrun,hS',hC'⟩:=Wi (P:=P) (dp':=true) (mv:=mv) (m1:=m1) hS hob0 hb hi he' hrv hM.out hM.gone (.inr ⟨rfl,rfl,hM.nodup,hM.blk,hO⟩);obtain⟨_,h⟩:=MP.put_some h;cases rS1 h;refine .skip (w':=w') (g':=g') ?_ hS' hC';unfold execOp;rw[ho];simp only[hpv,Sem.run_bind];rw[Ut hn (by omega) hrun];rfl
       ·simp[MP.run] at h
      ·simp[MP.run] at h
     ·simp[MP.run] at h
    ·clear hob0;obtain⟨⟨ds,b1⟩,m1,ha,h⟩:=MP.bind_some h;obtain⟨⟨fp1,hr1,ho1⟩,hS1,hC1⟩:=ZT vs _ ds b1 m m1 hS hcs ha;have hp1:=Qy hC1 _ _ hp;obtain⟨ob,hob,h⟩:=MP.get_some h;cases ob with
     | arr ty sz es dp rw =>
      cases rw with
      | false=>simp[MP.run] at h
      | true =>
       simp only at h;split at h
       ·rename_i e hi;split at h
        ·rename_i e' he';split at h
         ·rename_i hn';obtain⟨b,hb,hpv⟩:=(hp1.2.2 ty sz es dp true hob).2 hn';have hrv:=XT _ _ _ hr1 hcone;obtain⟨w',g',hrun,hS',hC'⟩:=Wi (P:=P) (dp':=dp&&JA ds) (mv:=[]) (m1:=m1) hS1 hob hb hi he' hrv (fun _ _=>rfl) (fun _ h=>by simp at h) (by
           cases hdp:(dp&&JA ds) with
           | false=>exact .inl ⟨rfl,ho1,rfl⟩
           | true =>
            simp only[Jq9] at hdp;have e0:=Jao ds _ _ hdp.2 hrv;subst e0;exact .inr ⟨rfl,hdp.1,List.nodup_nil,fun _ h=>by simp at h,JaD _ _ _ _ hdp.2 hrv⟩)
          obtain⟨_,h⟩:=MP.put_some h;cases rS1 h;refine .skip (w':=w') (g':=g') ?_ hS' (hC1.trans hC');unfold execOp;rw[ho];simp only[hpv,Sem.run_bind];rw[Ut hn (by omega) hrun];rfl
         ·simp[MP.run] at h
        ·simp[MP.run] at h
       ·simp[MP.run] at h
     | _=>simp[MP.run] at h
   ·simp[MP.run] at h
  ·simp[MP.run] at h
 ·simp[MP.run] at h
end
end Go.Tm
end
section
namespace Go.Tm
open Go.IntKind (i64)
section
variable {P:Program} {T:Tab} {G:JW} {c:Cx P} {g:Gh} {m m':Mem} {w w':World} {a:Act} {sl:QM} {o:Oper} {x:X}
theorem Jfh {v:Value} {es:List D} {dp:Bool} (hS:Sim c g m w) (hx:VX c g m w x v) (h:(JfM x).run m=some ((es,dp),m')) :
  Sim c g m' w∧Jc c g m w g m' w∧∃ A cap,v = .slice A es.length cap∧(es=[]∨∃ b off sz vals fp,A=some ⟨b,off,none⟩∧Xy w es sz vals fp∧JV c g m' fp∧∀j u,vals[j]? = some u→w.cell? ⟨b,off+j,none⟩=some u):=by
 have rv :∀{es:List D} {sz b off:Nat} {fp:List Nat},Ky w es sz b off fp→∃ vals,Xy w es sz vals fp∧∀j u,vals[j]? = some u→w.cell? ⟨b,off+j,none⟩=some u:=by
  intro es
  induction es with
  | nil=>intro sz b off fp h;exact⟨[],⟨rfl,h⟩,by simp⟩
  | cons e es ih =>
   intro sz b off fp h;obtain⟨val,f1,f2,hf,h1,hs,hc,h2,h3⟩:=h;obtain⟨vals,a1,a2⟩:=ih h2;refine⟨val.cells.toList++vals,⟨val,vals,f1,f2,rfl,hs,hf,h1,a1,h3⟩,fun j u hj=>?_⟩
   by_cases hjs:j<sz
   ·rw[JrA (by simp;omega)] at hj;rw[hc j hjs];simpa using hj
   ·rw[JrB (by simp;omega)] at hj;have:=a2 _ u hj;simp only[Jrj,hs] at this;rw[show off+sz+(j-sz)=off+j by omega] at this;exact this
 unfold JfM at h;split at h
 ·rename_i es';cases rS1 h;obtain⟨fp,⟨A,cap,rfl,hle,hh⟩,hok⟩:=hx;refine⟨hS,.refl _ _ _ _,A,cap,rfl,?_⟩;rcases hh with ⟨rfl,_⟩ | ⟨b,off,sz,fp',rfl,_,rfl,hr⟩
  ·exact .inl rfl
  ·obtain⟨vals,a1,a2⟩:=rv hr;exact .inr ⟨b,off,sz,vals,fp',rfl,a1,fun q hq=>hok q (by simp[hq]),a2⟩
 ·cases rS1 h;exact⟨hS,.refl _ _ _ _,none,0,(J0 hx).1,.inl rfl⟩
 ·rename_i k n;obtain⟨ob,hob,h⟩:=MP.get_some h;cases ob with
  | arr ty sz es' dp' rw =>
   simp only at h;split at h
   ·rename_i hn;cases rS1 h;obtain⟨h3,h4,h5⟩:=hS.arr k ty sz es dp' rw hob;have hv:=(hx.2.2 ty sz es dp' rw hob).2 hn.1;refine⟨hS,.refl _ _ _ _,?_⟩;rcases h3 with ⟨_,e,rfl,e2⟩ | ⟨b,cap,cs,hb,e,hle,_,hh,_,hr⟩
    ·exact⟨none,0,by rw[hv,e];rfl,.inl rfl⟩
    ·obtain⟨vals,a1,a2⟩:=rv hr;refine⟨_,cap,by rw[hv,e],.inr ⟨b,0,sz,vals,_,rfl,a1,?_,a2⟩⟩;cases hd:(dp'&&rw) with
     | false=>exact h4 hd
     | true =>
      have hfl:=hn.2;rw[hd] at hfl;rw[W8 _ _ _ _ a1 (by simpa using hfl)];exact fun q hq=>by simp at hq
   ·simp[MP.run] at h
  | _=>simp[MP.run] at h
 ·simp[MP.run] at h
theorem V8 {sz sz':Nat} {es:List D} {vals:List Value} {fp:List Nat} (h:Xy w es sz' vals fp) (hh:XP sz es=true) (hne:es≠[]):sz'=sz:=by
 cases es with
 | nil=>exact absurd rfl hne
 | cons e es =>
  obtain⟨val,v2,f1,f2,_,hs,_,h1,_,h3⟩:=h;have:=Qc _ _ _ (Uo h1 h3);simp only[XP,beq_iff_eq] at hh;simp only[Jrj] at this;omega
theorem Yd.drew (hf:Yd c w):Yd c w.drew:=⟨hf.os,hf.tape,hf.output,hf.size,hf.block⟩
theorem Zr {t e:TypeId} {i:TypeInfo} {ty:TypeId} (ht:P.underlying t=some (.slice e)) (hi:P.info? e=some i) {base A:Option Addr} {n cap cap':Nat} (hle:n≤cap) :
  (Builtin.append_ #[t,t] ty #[.slice base n cap,.slice A 0 cap']).run P w = .ok (.slice base n cap) w:=by
 cases base <;> cases A <;> simp[Builtin.append_,run_underlying ht,sizeOf,typeInfo,hi,Builtin.lenOf,hle,Builtin.firstCells,loadCells,loadCellsFrom,storeCells]
theorem Jho {k:Key} {ty:TypeId} {sz:Nat} {es fs:List D} {dp dp':Bool} {vals:List Value} {fp:List Nat} {mv:List Key} {m1:Mem} {v':Value} {w':World} {b' capN:Nat} {cs':Array Value}
  (hS:Sim c g m w) (hk:m k=some (.arr ty sz es dp true))
  (hv:Xy w fs sz vals fp) (hm1 :∀j,j∉mv→m1 j=m j) (hmv :∀j∈mv,j≠k∧m1 j=some .dead∧∃ ty sz es dp,m j=some (.arr ty sz es dp true))
  (hmode:(dp'=false∧JV c g m fp∧mv=[])∨(dp'=true∧dp=true∧fp.Nodup∧(∀b∈fp,∃ j∈mv,∃ o,m j=some o∧o.rw=true∧Blk g j o b)∧YH P w fs (JG P ty) sz vals fp))
  (hne:fs≠[]) (hv':v' = .slice (some ⟨b',0,none⟩) (es.length+fs.length) capN)
  (hcapN:es.length+fs.length≤capN) (hcapM:capN≤maxLen) (hh':w'.heap[b']? = some (.cells cs' ty (0,0))) (hsize':capN*sz≤cs'.size)
  (hkey : ∃ vs0,Xy w es sz vs0 (g.fd k)∧(dp=true→YH P w es (JG P ty) sz vs0 (g.fd k))∧cs'.toList.take ((es.length+fs.length)*sz)=vs0++vals)
  (hwhere:(g.bl k=some b'∧w'.heap.size=w.heap.size∧∀q,q≠b'→w'.heap[q]? = w.heap[q]?)∨(b'=w.heap.size∧w'.heap.size=w.heap.size+1∧∀q,q<w.heap.size→w'.heap[q]? = w.heap[q]?))
  (ho1:w'.os=w.os) (ho2:w'.tape=w.tape) (ho3:w'.output=w.output) :
  ∃ g',Sim c g' (upd m1 k (some (.arr ty sz (es++fs) dp' true))) w' ∧
   Jc c g m w g' (upd m1 k (some (.arr ty sz (es++fs) dp' true))) w'∧VX c g' (upd m1 k (some (.arr ty sz (es++fs) dp' true))) w' (.o k (es.length+fs.length)) v':=by
 obtain⟨harr,hokf,_⟩:=hS.arr k ty sz es dp true hk;have hdeep:dp=true→(g.fd k).Nodup∧∀b,g.bl k=some b→b∉g.fd k:=fun h=>by subst h;exact⟨(hS.deep k ty sz es hk).1,fun b hb=>((hS.deep k ty sz es hk).2 b hb).1⟩
 have hpos:0<fs.length:=List.length_pos_iff.2 hne;have hlv:=JO _ _ _ _ hv;obtain⟨vs0,hvs0,hvs1,htake⟩:=hkey;have hall:=JaW _ _ _ _ _ _ _ hvs0 hv;have hown2:dp'=true→∀q∈fp,∃ j∈mv,j≠k∧g.ow q=some j∧Mut g m q:=fun h q hq=>by
  rcases hmode with ⟨h',_⟩ | ⟨_,_,_,h4⟩
  ·rw[h'] at h;cases h
  ·obtain⟨j,hj,o,ho,hrw,hbl⟩:=h4.1 q hq;exact⟨j,hj,(hmv j hj).1,hS.own j o q ho hrw hbl,j,o,ho,hrw,hbl⟩
 have hownk:dp=true→∀q∈g.fd k,g.ow q=some k∧Mut g m q:=fun h q hq=>by
  have hB:Blk g k (.arr ty sz es dp true) q:= .inr ⟨by simp[Obj.dpw,h],hq⟩;exact⟨hS.own k _ q hk rfl hB,k,_,hk,rfl,hB⟩
 have hdpd:dp'=true→dp=true:=fun h=>by
  rcases hmode with ⟨h',_⟩ | ⟨_,h',_⟩
  ·rw[h'] at h;cases h
  ·exact h'
 have hown :∀q,g.bl k=some q→g.ow q=some k:=fun q hq=>hS.own k _ q hk rfl (.inl hq);have hmut :∀q,g.bl k=some q→Mut g m q:=fun q hq=>⟨k,_,hk,rfl,.inl hq⟩;have hltall :∀q∈g.fd k++fp,q<w.heap.size:=WN _ _ _ _ hall;have hneb :∀q∈g.fd k++fp,q≠b':=by
  intro q hq e;subst e;rcases hwhere with ⟨h1,_,_⟩ | ⟨h1,_,_⟩
  ·rcases Jre.1 hq with h | h
   ·cases hdp:dp with
    | true=>exact(hdeep hdp).2 q h1 h
    | false=>exact(hokf (by simp[hdp]) q h).1 (hmut q h1)
   ·rcases hmode with ⟨_,h',_⟩ | ⟨h',_⟩
    ·exact(h' q h).1 (hmut q h1)
    ·obtain⟨j,_,hjk,ho,_⟩:=hown2 h' q h;rw[hown q h1] at ho;cases ho;exact hjk rfl
  ·have:=hltall q hq;omega
 let g':Gh:={ bl:=upd g.bl k (some b'),hd:=upd g.hd k v',fd:=upd g.fd k (g.fd k++fp),ow:=upd (fun q=>if dp'=true∧q∈fp then some k else g.ow q) b' (some k) }
 have hmk :∀j,j≠k→upd m1 k (some (.arr ty sz (es++fs) dp' true)) j=m j∨upd m1 k (some (.arr ty sz (es++fs) dp' true)) j=some .dead:=fun j hj=>by
  rw[uO1 _ _ hj]
  by_cases hjm:j∈mv
  ·exact .inr (hmv j hjm).2.1
  ·exact .inl (hm1 j hjm)
 have hblk :∀j o q,j≠k→Blk g' j o q→Blk g j o q:=fun j o q hjk h=>by
  unfold Blk at h ⊢;simpa only[g',uO1 _ _ hjk] using h
 have hsame :∀q,q<w.heap.size→¬Mut g m q→w'.heap[q]? = w.heap[q]?:=fun q hq hm=>by
  rcases hwhere with ⟨h1,_,h3⟩ | ⟨_,_,h3⟩
  ·exact h3 q (fun e=>hm (e▸hmut b' h1))
  ·exact h3 q hq
 have hsame2 :∀q∈g.fd k++fp,w'.heap[q]? = w.heap[q]?:=fun q hq=>by
  rcases hwhere with ⟨_,_,h3⟩ | ⟨_,_,h3⟩
  ·exact h3 q (hneb q hq)
  ·exact h3 q (hltall q hq)
 have hszw:w.heap.size≤w'.heap.size:=by rcases hwhere with ⟨_,h,_⟩ | ⟨_,h,_⟩ <;> omega
 have hC:Jc c g m w g' (upd m1 k (some (.arr ty sz (es++fs) dp' true))) w':=by
  refine⟨hszw,fun q h1 h2 h3=>⟨hsame q h3 h1,?_⟩,fun j cs' hj=>?_,fun j ty1 sz1 es1 dp1 rw1 hj=>?_,fun j hj=>?_⟩
  ·rintro⟨j,o,hj,hrw,hbl⟩
   by_cases hjk:j=k
   ·subst hjk;rw[uS1] at hj;cases hj;rcases hbl with hbl | ⟨hdp,hbl⟩
    ·simp only[g',uS1,Jq8] at hbl;subst hbl;rcases hwhere with ⟨h,_,_⟩ | ⟨h,_,_⟩
     ·exact h1 (hmut _ h)
     ·omega
    ·have hdp':dp'=true:=by simpa[Obj.dpw] using hdp
     have hbl:q∈g.fd j++fp:=by simpa only[g',uS1] using hbl
     rcases Jre.1 hbl with h | h
     ·exact h1 (hownk (hdpd hdp') q h).2
     ·obtain⟨_,_,_,_,h⟩:=hown2 hdp' q h;exact h1 h
   ·have hbl:=hblk j o q hjk hbl;rcases hmk j hjk with e | e
    ·rw[e] at hj;exact h1 ⟨j,o,hj,hrw,hbl⟩
    ·rw[e] at hj;cases hj;cases hrw
  ·have hjk:j≠k:=fun e=>by subst e;rw[hk] at hj;cases hj
   refine⟨⟨cs',?_⟩,uO1 _ _ hjk⟩;rw[uO1 _ _ hjk,hm1 j (fun h=>by obtain⟨_,_,_,_,h⟩:=(hmv j h).2.2;rw[hj] at h;cases h)];exact hj
  ·by_cases hjk:j=k
   ·subst hjk;rw[hk] at hj;cases hj;exact .inr ⟨_,dp',true,uS1 _ _ _,.inr (by simp;omega)⟩
   ·rcases hmk j hjk with e | e
    ·exact .inr ⟨es1,dp1,rw1,e.trans hj,.inl ⟨rfl,uO1 _ _ hjk,uO1 _ _ hjk⟩⟩
    ·exact .inl e
  ·have hjk:j≠k:=fun e=>by subst e;rw[hk] at hj;cases hj
   rcases hmk j hjk with e | e
   ·exact e.trans hj
   ·exact e
 have hokall:dp'=false→JV c g' (upd m1 k (some (.arr ty sz (es++fs) dp' true))) (g.fd k++fp):=by
  intro hdp' q hq;have hok2:JV c g m fp:=by
   rcases hmode with ⟨_,a,_⟩ | ⟨h,_⟩
   ·exact a
   ·rw[h] at hdp';cases hdp'
  rcases Jre.1 hq with h | h
  ·cases hdp:dp with
   | false=>exact(Qi hC (fp:=[q]) (by simpa using hltall q hq) (fun x hx=>by simp at hx;subst hx;exact hokf (by simp[hdp]) x h)).1 q (by simp)
   | true =>
    have ho:=(hownk hdp q h).1;refine⟨?_,?_⟩
    ·rintro⟨j,o,hj,hrw,hbl⟩
     by_cases hjk:j=k
     ·subst hjk;rw[uS1] at hj;cases hj;rcases hbl with hbl | ⟨hd',_⟩
      ·simp only[g',uS1,Jq8] at hbl;exact hneb q hq hbl.symm
      ·simp[Obj.dpw,hdp'] at hd'
     ·have hbl:=hblk j o q hjk hbl;rcases hmk j hjk with e | e
      ·rw[e] at hj;have:=hS.own j o q hj hrw hbl;rw[ho] at this;cases this;exact hjk rfl
      ·rw[e] at hj;cases hj;cases hrw
    ·rcases (hS.live q k ho).2 with h | h
     ·exact .inr h
     ·exact .inl (c.parA q h)
  ·exact(Qi hC (fp:=[q]) (by simpa using hltall q hq) (fun x hx=>by simp at hx;subst hx;exact hok2 x h)).1 q (by simp)
 have hlive0 :∀q,g.bl k=some q→q<w.heap.size∧(c.w0.heap.size≤q∨q∈c.par):=fun q hq=>hS.live q k (hown q hq);have hS':Sim c g' (upd m1 k (some (.arr ty sz (es++fs) dp' true))) w':=by
  refine hS.step (uS1 _ _ _) hmk hC ?_ (fun j hj=>⟨uO1 _ _ hj,uO1 _ _ hj,uO1 _ _ hj⟩) (fun q j o hj0 hrw hb' hjk hj'=>?_) (fun q j hj=>?_) ?_
  ·refine hS.frame.grow ho1 ho2 ho3 hszw (fun q hq hq0 hp=>?_);rcases hwhere with ⟨h1,_,h3⟩ | ⟨_,_,h3⟩
   ·exact h3 q (fun e=>by
     subst e;rcases (hlive0 q h1).2 with h | h
     ·omega
     ·exact hp h)
   ·exact h3 q hq
  ·have hj:=hS.own j o q hj0 hrw hb';have hlt:=(hS.live q j hj).1;have hne2 : ¬(dp'=true∧q∈fp):=by
    rintro⟨hd1,hq⟩;obtain⟨j2,hj2,_,ho,_⟩:=hown2 hd1 q hq;rw[hj] at ho;cases ho;rw[uO1 _ _ hjk,(hmv j hj2).2.1] at hj';cases hj';cases hrw
   rcases hwhere with ⟨h1,_,h3⟩ | ⟨h1,_,h3⟩
   ·have hne':q≠b':=fun e=>by subst e;rw[hown q h1] at hj;cases hj;exact hjk rfl
    exact⟨h3 q hne',by simp only[g',uO1 _ _ hne',if_neg hne2];exact hj⟩
   ·have hne':q≠b':=by omega
    exact⟨h3 q hlt,by simp only[g',uO1 _ _ hne',if_neg hne2];exact hj⟩
  ·by_cases hq:q=b'
   ·subst hq;rcases hwhere with ⟨h1,h2,_⟩ | ⟨h1,h2,_⟩
    ·have:=hlive0 q h1;exact⟨by omega,this.2⟩
    ·exact⟨by omega,.inl (by rw[h1];exact hS.frame.size)⟩
   ·simp only[g',uO1 _ _ hq] at hj;split at hj
    ·rename_i hc;obtain⟨j2,_,_,ho,_⟩:=hown2 hc.1 q hc.2;have:=hS.live q j2 ho;exact⟨by omega,this.2⟩
    ·have:=hS.live q j hj;exact⟨by omega,this.2⟩
  ·have hfd':g'.fd k=g.fd k++fp:=by simp only[g',uS1]
   have hcellnew :∀j,j<(vs0++vals).length→w'.cell? ⟨b',0+j,none⟩=(vs0++vals)[j]?:=fun j hj=>by
    have hlen:=JO _ _ _ _ hall;simp only[Jrf] at hlen hj;rw[Nat.zero_add,←htake,Jrz (by omega)];simp[World.cell?,hh']
   refine⟨.inr ⟨b',capN,cs',by simp[g',uS1],by simp[g',uS1,hv'],by simpa using hcapN,hcapM,hh',hsize',?_⟩,fun h=>by rw[hfd'];exact hokall (by simpa using h),(fun(h:true=false)=>by cases h),fun _ q hq=>?_,fun hd1 _=>?_⟩
   ·rw[hfd'];exact KP _ _ _ _ _ _ (UY _ _ _ _ hszw hsame2 hall) hcellnew
   ·by_cases hqb:q=b'
    ·subst hqb;simp[g',uS1]
    ·rcases hq with hq | ⟨hd1,hq⟩
     ·simp only[g',uS1,Jq8] at hq;exact absurd hq.symm hqb
     ·have hd1:dp'=true:=by simpa[Obj.dpw] using hd1
      rw[hfd'] at hq;simp only[g',uO1 _ _ hqb];split
      ·rfl
      ·rename_i hn;rcases Jre.1 hq with h | h
       ·exact(hownk (hdpd hd1) q h).1
       ·exact absurd ⟨hd1,h⟩ hn
   ·rw[hfd'];rcases hmode with ⟨h,_⟩ | ⟨_,hd2,hn,_,hO⟩
    ·rw[h] at hd1;cases hd1
    refine⟨List.nodup_append.2 ⟨(hdeep hd2).1,hn,fun x hx y hy e=>?_⟩,fun q hq=>?_⟩
    ·subst e;obtain⟨j2,_,hne,ho,_⟩:=hown2 hd1 x hy;rw[(hownk hd2 x hx).1] at ho;cases ho;exact hne rfl
    ·simp only[g',uS1,Jq8] at hq;subst hq;exact⟨fun hq2=>hneb _ hq2 rfl,Zc _ _ _ _ _ _ _ (Ke _ _ _ _ _ hsame2 (JaU _ _ _ _ _ _ _ _ (hvs1 hd2) hO)) hcellnew⟩
 refine⟨g',hS',hC,by rw[hv'];rfl,⟨_,uS1 _ _ _,by simp⟩,fun ty1 sz1 es1 dp1 rw1 e=>?_⟩;rw[uS1] at e;cases e;exact⟨by simp,fun _=>by simp[g',uS1]⟩
theorem Vs {k:Key} {ty:TypeId} {sz:Nat} {es fs:List D} {dp dp':Bool} {t rty:TypeId} {i:TypeInfo} {z:Value} {b off cap':Nat} {vals:List Value} {fp:List Nat} {mv:List Key} {m1:Mem}
  (hS:Sim c g m w) (hk:m k=some (.arr ty sz es dp true)) (ht:P.underlying t=some (.slice ty)) (hi:P.info? ty=some i) (hz:i.zero=some z) (hsz:i.size=sz) (hzs:z.cells.size=sz)
  (hv:Xy w fs sz vals fp) (hm1 :∀j,j∉mv→m1 j=m j) (hmv :∀j∈mv,j≠k∧m1 j=some .dead∧∃ ty sz es dp,m j=some (.arr ty sz es dp true))
  (hmode:(dp'=false∧JV c g m fp∧mv=[])∨(dp'=true∧dp=true∧fp.Nodup∧(∀b∈fp,∃ j∈mv,∃ o,m j=some o∧o.rw=true∧Blk g j o b)∧YH P w fs (JG P ty) sz vals fp))
  (hcells :∀j u,vals[j]? = some u→w.cell? ⟨b,off+j,none⟩=some u) (hne:fs≠[])
  (hroom:(es.length+fs.length)*i.bytes≤2 ^ 46) (hmax:es.length+fs.length≤2 ^ 46) :
  ∃ v' w' g',(Builtin.append_ #[t,t] rty #[g.hd k,.slice (some ⟨b,off,none⟩) fs.length cap']).run P w = .ok v' w'∧Sim c g' (upd m1 k (some (.arr ty sz (es++fs) dp' true))) w' ∧
   Jc c g m w g' (upd m1 k (some (.arr ty sz (es++fs) dp' true))) w'∧VX c g' (upd m1 k (some (.arr ty sz (es++fs) dp' true))) w' (.o k (es.length+fs.length)) v':=by
 obtain⟨harr,hokf,_⟩:=hS.arr k ty sz es dp true hk;have hdeep:dp=true→(g.fd k).Nodup∧∀b,g.bl k=some b→b∉g.fd k:=fun h=>by subst h;exact⟨(hS.deep k ty sz es hk).1,fun b hb=>((hS.deep k ty sz es hk).2 b hb).1⟩
 have hpos:0<fs.length:=List.length_pos_iff.2 hne;have hlv:=JO _ _ _ _ hv;have hnews :∀j u,vals[j]? = some u→w.cell? ((⟨b,off,none⟩:Addr).add j)=some u:=fun j u hj=>by rw[X4];exact hcells j u hj
 have hl:vals.length=fs.length*i.size:=by rw[hlv,hsz]
 have hmaxL:es.length+fs.length≤maxLen:=by unfold maxLen;omega
 have key : ∃ (v':Value) (w':World) (b' capN:Nat) (cs':Array Value),(Builtin.append_ #[t,t] rty #[g.hd k,.slice (some ⟨b,off,none⟩) fs.length cap']).run P w = .ok v' w'∧v' = .slice (some ⟨b',0,none⟩) (es.length+fs.length) capN ∧
   es.length+fs.length≤capN∧capN≤maxLen∧w'.heap[b']? = some (.cells cs' ty (0,0))∧capN*sz≤cs'.size∧(∃ vs0,Xy w es sz vs0 (g.fd k)∧(dp=true→YH P w es (JG P ty) sz vs0 (g.fd k))∧cs'.toList.take ((es.length+fs.length)*sz)=vs0++vals) ∧
   ((g.bl k=some b'∧w'.heap.size=w.heap.size∧∀q,q≠b'→w'.heap[q]? = w.heap[q]?)∨(b'=w.heap.size∧w'.heap.size=w.heap.size+1∧∀q,q<w.heap.size→w'.heap[q]? = w.heap[q]?)) ∧
   w'.os=w.os∧w'.tape=w.tape∧w'.output=w.output:=by
  rcases harr with ⟨hbl,hhd,rfl,hfd⟩ | ⟨b0,cap,cs,hbl,hhd,hcap,hcm,hh,hsize,hr⟩
  ·have hrun:=run_append_nil (P:=P) w t rty ty i z ht hi hz ⟨b,off,none⟩ fs.length cap' vals hl hnews hpos (by simp at hmax;omega) (by simp at hroom;omega);have hge:=grownCap_ge w fs.length 0 ty;refine⟨_,_,w.heap.size,grownCap w fs.length 0 ty,vals.toArray++Builtin.zeroCells z.cells (grownCap w fs.length 0 ty-fs.length),?_,rfl,by simpa using hge,grownCap_le_maxLen w _ _ _ (by simpa using hmaxL),heap_alloc_new w.drew _,?_,⟨[],⟨rfl,hfd⟩,fun _=>⟨rfl,hfd⟩,?_⟩,
    .inr ⟨rfl,QK _ _,fun q hq=>heap_alloc_old w.drew _ hq⟩,rfl,rfl,rfl⟩
   ·rw[hhd];simpa[Qb] using hrun
   ·refine Nat.le_of_eq (Eq.symm ?_);rw[Array.size_append,size_zeroCells,List.size_toArray,hlv,hzs,←Nat.add_mul];congr 1;omega
   ·simp only[List.length_nil,Nat.zero_add,Array.toList_append,List.nil_append];rw[List.take_append_of_le_length (by simp[hlv]),Jrd (by simp[hlv])]
  ·have hle:es.length*sz≤cs.size:=Nat.le_trans (Nat.mul_le_mul_right _ hcap) hsize;have hvals:Xy w es sz (cs.toList.take (es.length*sz)) (g.fd k):=VH es sz b0 0 _ _ hr (by simp;omega) (fun j hj=>by
    simp only[Jro,Jrj] at hj;rw[Nat.zero_add,Jrz (by omega)];simp[World.cell?,hh])
   have hvo:dp=true→YH P w es (JG P ty) sz (cs.toList.take (es.length*sz)) (g.fd k):=fun hd=>by
    subst hd;exact Zk es _ sz b0 0 _ _ ((hS.deep k ty sz es hk).2 b0 hbl).2 (by simp;omega) (fun j hj=>by
     simp only[Jro,Jrj] at hj;rw[Nat.zero_add,Jrz (by omega)];simp[World.cell?,hh])
   have hones :∀u∈vals,u.oneCell'=true:=fun u hu=>one' (JdY _ _ _ _ hv u hu)
   by_cases hfit:es.length+fs.length≤cap
   ·have hfl:es.length*i.size+vals.length≤cs.size:=by rw[hl,hsz,←Nat.add_mul];exact Nat.le_trans (Nat.mul_le_mul_right _ hfit) hsize
    have hrun:=run_append_room (P:=P) w t rty ty i ht hi b0 es.length cap cs hh ⟨b,off,none⟩ fs.length cap' vals hl hnews hones hfit hfl;refine⟨_,_,b0,cap,_,by rw[hhd];exact hrun,rfl,hfit,hcm,setRow_heap w b0 cs _ ty _ hh,?_,⟨_,hvals,hvo,?_⟩,.inl ⟨hbl,by simp,fun q hq=>setRow_other w b0 q _ hq⟩,rfl,rfl,rfl⟩
    ·simp only[List.size_toArray,Jrf,Jro,List.length_drop,Jrj];omega
    ·simp only[hsz] at *;rw[Nat.add_mul,←hlv];have e1:(cs.toList.take (es.length*sz)++vals).length=es.length*sz+vals.length:=by simp;omega
     rw[←e1];exact List.take_left
   ·have hol:(cs.toList.take (es.length*sz)).length=es.length*i.size:=by simp[hsz];omega
    have holds :∀j u,(cs.toList.take (es.length*sz))[j]? = some u→w.cell? ((⟨b0,0,none⟩:Addr).add j)=some u:=fun j u hj=>by
     rw[X4,Nat.zero_add];rw[List.getElem?_take] at hj;split at hj
     ·simp only[World.cell?,hh];simpa using hj
     ·cases hj
    have hrun:=run_append_grow (P:=P) w t rty ty i z ht hi hz ⟨b0,0,none⟩ es.length cap _ hol holds ⟨b,off,none⟩ fs.length cap' vals hl hnews (by omega) (by push_cast;omega) (growslice_fits (by omega) (by omega));have hge:=grownCap_ge w (es.length+fs.length) cap ty;refine⟨_,_,w.heap.size,_,_,by rw[hhd];exact hrun,rfl,hge,grownCap_le_maxLen w _ _ _ hmaxL,heap_alloc_new w.drew _,?_,⟨_,hvals,hvo,?_⟩,.inr ⟨rfl,QK _ _,fun q hq=>heap_alloc_old w.drew _ hq⟩,rfl,rfl,rfl⟩
    ·refine Nat.le_of_eq (Eq.symm ?_);rw[Array.size_append,Array.size_append,size_zeroCells,List.size_toArray,List.size_toArray,hlv,hzs,hol,hsz,←Nat.add_mul,←Nat.add_mul];congr 1;omega
    ·simp only[Array.toList_append];rw[List.take_append_of_le_length (by simp[hlv,Nat.add_mul];omega),Jrd (by simp[hlv,Nat.add_mul];omega)]
 obtain⟨v',w',b',capN,cs',hrun,hv',hcapN,hcapM,hh',hsize',hkey,hwhere,ho1,ho2,ho3⟩:=key;obtain⟨g',h1,h2,h3⟩:=Jho hS hk hv hm1 hmv hmode hne hv' hcapN hcapM hh' hsize' hkey hwhere ho1 ho2 ho3;exact⟨v',w',g',hrun,h1,h2,h3⟩
theorem U0 {e:TypeId} {n:Nat} (h:Ue P e n=true) : ∃ i,P.info? e=some i∧n*i.bytes≤2 ^ 46∧n≤2 ^ 46:=by
 unfold Ue tz at h;cases hi:P.info? e with
 | none=>simp[hi] at h
 | some i=>simp[hi] at h;exact⟨i,rfl,by omega,by omega⟩
theorem Je8 {k:Key} {ty:TypeId} {sz:Nat} {fs:List D} {dp:Bool} {t rty:TypeId} {i:TypeInfo} {z:Value} {b off cap':Nat} {vals:List Value} {fp:List Nat}
  (hS:Sim c g m w) (hk:m k=none) (ht:P.underlying t=some (.slice ty)) (hi:P.info? ty=some i) (hz:i.zero=some z) (hsz:i.size=sz) (hzs:z.cells.size=sz)
  (hv:Xy w fs sz vals fp) (hok:JV c g m fp) (hdp:dp=true→fp=[]∧YH P w fs (JG P ty) sz vals fp) (hcells :∀j u,vals[j]? = some u→w.cell? ⟨b,off+j,none⟩=some u) (hne:fs≠[])
  (hroom:fs.length*i.bytes≤2 ^ 46) (hmax:fs.length≤2 ^ 46) :
  ∃ v' w' g',(Builtin.append_ #[t,t] rty #[Qb,.slice (some ⟨b,off,none⟩) fs.length cap']).run P w = .ok v' w'∧Sim c g' (upd m k (some (.arr ty sz fs dp true))) w' ∧
   Jc c g m w g' (upd m k (some (.arr ty sz fs dp true))) w'∧VX c g' (upd m k (some (.arr ty sz fs dp true))) w' (.o k fs.length) v':=by
 have hpos:0<fs.length:=List.length_pos_iff.2 hne;have hlv:=JO _ _ _ _ hv;have hnews :∀j u,vals[j]? = some u→w.cell? ((⟨b,off,none⟩:Addr).add j)=some u:=fun j u hj=>by rw[X4];exact hcells j u hj
 have hl:vals.length=fs.length*i.size:=by rw[hlv,hsz]
 have hrun:=run_append_nil (P:=P) w t rty ty i z ht hi hz ⟨b,off,none⟩ fs.length cap' vals hl hnews hpos (by omega) (by omega);have hge:=grownCap_ge w fs.length 0 ty;obtain⟨g',h1,h2,h3⟩:=Y5 (k:=k) (ty:=ty) (sz:=sz) (es:=fs) (dp:=dp) (vals:=vals) (cap:=grownCap w fs.length 0 ty) (w':=w.drew.alloc (.cells (vals.toArray++Builtin.zeroCells z.cells (grownCap w fs.length 0 ty-fs.length)) ty)) hS hk
  (hS.frame.drew.alloc _) (QK _ _) (fun j hj=>heap_alloc_old w.drew _ hj) ⟨_,heap_alloc_new w.drew _,by rw[Array.size_append,size_zeroCells,List.size_toArray,hlv,hzs,←Nat.add_mul];congr 1;omega,by
   rw[Array.toList_append,List.take_append_of_le_length (by simp[hlv]),Jrd (by simp[hlv])]⟩ hge (grownCap_le_maxLen w _ _ _ (by unfold maxLen;omega)) hv hok hdp
 exact⟨_,_,g',by simpa[Qb] using hrun,h1,h2,h3⟩
theorem Jat (w:World) {t tx ty e:TypeId} {i:TypeInfo} {z:Value} {kx kn:IntKind} (ht:P.underlying t=some (.slice e)) (hx:P.underlying tx=some (.int kx)) (hi:P.info? e=some i) (hz:i.zero=some z)
  (n:Nat) (h0:0<n) (hn:n≤2 ^ 46) (h48:n*i.bytes≤2 ^ 46) (hsz:0<i.size) :
  (Builtin.append_ #[t,tx] ty #[.slice none 0 0,.int kn n]).run P w =
   .ok (.slice (some ⟨w.heap.size,0,none⟩) n (grownCap w n 0 e)) (w.drew.alloc (.cells (Builtin.zeroCells z.cells n++Builtin.zeroCells z.cells (grownCap w n 0 e-n)) e)):=by
 have hw:i64.wrap (n:Int)=n:=by rw[IntKind.wrap_i64];omega
 have hn':n≠0:=by omega
 have h63' : ¬(9223372036854775807<(n:Int)):=by omega
 have h48' : ¬(281474976710656<Builtin.nextslicecap n 0*i.bytes):=by rw[nextslicecap_zero h0];omega
 have h48'' : ¬(281474976710656<(n:Int)*(i.bytes:Int)):=by
  have:((n*i.bytes:Nat):Int)≤2 ^ 46:=by exact_mod_cast h48
  push_cast at this
  omega
 have hs':i.size≠0:=by omega
 have hneg : ¬((n:Int)<0):=by omega
 simp[Builtin.append_,run_underlying ht,run_underlying hx,sizeOf,typeInfo,zeroValue,hi,hz,asInt,asIntOf,hw,hneg,h48'',hn',h63',h48',hs',Question.forced,run_firstCells_none,newRow,grownCap];intro e0;rcases Nat.mul_eq_zero.1 e0 with e1 | e1 <;> omega
theorem JhY (hS:Sim c g m w) (hsl:Jl c g m w sl a) {cl:Call} {p q:Operand} {t t':TypeId} (ho:o.op = .call cl) (hcl:cl.callee = .builtin .append) (hargs:cl.args = #[p,q]) (htys:cl.argTypes = #[t,t'])
  (h:(W4 P o t t' (opX sl p) (opX sl q)).run m=some (x,m')):Qf P c g m w a o x m':=by
 have hp:=oX1 hsl p;have hq:=oX1 hsl q;have hexec:execOp a.eval o=(do let d ←resolve a.eval cl o.type;invoke d.target d.args):=by unfold execOp;rw[ho]
 have hrunOf :∀(v':Value) (w':World),(Builtin.append_ #[t,t'] o.type #[a.eval p,a.eval q]).run P w = .ok v' w'→(execOp a.eval o).run P w = .ok (.value v') w':=fun v' w' hr=>by
  rw[hexec];simp[resolve,hcl,hargs,htys,invoke,builtin,hr]
 unfold W4 at h;split at h
 ·rename_i kx hkx hax;rw[hax] at hp;have hpv:=(J0 hp).1;split at h
  ·rename_i e l he hl;obtain⟨k1,hqv⟩:=QW hq hl;split at h
   ·rename_i sz ag z hsz hag hz;split at h
    ·rename_i zd hzd;split at h
     ·rename_i hcond;obtain⟨h0,hroom,hzl,hpos,hone⟩:=hcond;obtain⟨i,zv,hi,hzv,hzc⟩:=Zv hz;have hone' :∀u∈z,u.oneCell=true:=by simpa using hone
      obtain⟨val,hval,hvc⟩:=WO (w:=w) (Va z hone) hone' hzd;have hzs:zv.cells.size=sz:=by rw[←Jrj,hzc,hzl]
      have hvs:val.cells.size=sz:=by rw[←Jrj,hvc,hzl]
      obtain⟨n,rfl⟩:=Int.eq_ofNat_of_zero_le (show 0≤l by omega);simp only[Int.toNat_natCast] at *;have hrep:=X9 hval hvs (by rw[hvc];exact hone') n;have harr:(Builtin.zeroCells zv.cells n).toList=(List.replicate n val.cells.toList).flatten:=by
       have:=VM zv.cells n (by omega);unfold Builtin.zeroCells;rw[this,hvc,hzc]
      obtain⟨i',hi',hsz'⟩:=Z7 hsz;rw[hi] at hi';cases hi';obtain⟨i',hi',hr1,hr2⟩:=U0 hroom;rw[hi] at hi';cases hi';obtain⟨hk,h⟩:=MP.new_some h;have hlen:=JO _ _ _ _ hrep;have hge:=grownCap_ge w n 0 e;obtain⟨g',h7,h8,h9⟩:=Y5 (k:=Jt o) (ty:=e) (sz:=sz) (es:=List.replicate n zd) (dp:=false) (cap:=grownCap w n 0 e) (w':=w.drew.alloc (.cells (Builtin.zeroCells zv.cells n++Builtin.zeroCells zv.cells (grownCap w n 0 e-n)) e)) hS hk
       (hS.frame.drew.alloc _) (QK _ _) (fun j hj=>heap_alloc_old w.drew _ hj)
       ⟨_,heap_alloc_new w.drew _,by rw[Array.size_append,size_zeroCells,size_zeroCells,hzs,←Nat.add_mul];congr 1;omega,by
        rw[Array.toList_append,harr,List.take_append_of_le_length (by rw[hlen];simp),Jrd (by rw[hlen];simp)]⟩ (by simpa using hge) (grownCap_le_maxLen w _ _ _ (by unfold maxLen;omega)) hrep (fun b hb=>by simp at hb) (fun h=>by cases h)
      cases rS1 h;rw[List.length_replicate] at h9;have hrun:=Jat (P:=P) w (kn:=k1) (ty:=o.type) (JT he) hkx hi hzv n (by omega) hr2 hr1 (by omega);refine .value (g':=g') (hrunOf _ _ (by rw[hpv,hqv];exact hrun)) h7 h8 h9
     ·simp[MP.run] at h
    ·simp[MP.run] at h
   ·simp[MP.run] at h
  ·simp[MP.run] at h
 ·simp[MP.run] at h
theorem YG (hS : Sim c g m w) (hsl : Jl c g m w sl a) {cl : Call} {s1 s2 : Operand} {t2 : TypeId} (ho : o.op = .call cl) (hcl : cl.callee = .builtin .append) (hargs : cl.args = #[s1,s2]) (htys : cl.argTypes = #[t2,t2])
    (h:(Xj P o t2 (opX sl s1) (opX sl s2)).run m=some (x,m')):Qf P c g m w a o x m':=by
  have hp:=oX1 hsl s1;have hq:=oX1 hsl s2
  unfold Xj at h
  split at h
  · simp[MP.run] at h
  · rename_i e he
    split at h
    · simp[MP.run] at h
    · rename_i sz hsz'
      obtain⟨⟨fs,dpf⟩,m1,htake,h⟩:=MP.bind_some h
      obtain⟨hS1,hC1,A,cap',hqv,hfs⟩:=Jfh hS hq htake
      have hp1:=Qy hC1 _ _ hp
      split at h
      · rename_i hcond
        obtain⟨hroomf,hhead,hpos,hzl⟩:=hcond
        obtain⟨i,hi,hi1,hi2⟩:=U0 hroomf
        obtain⟨i',hi',hsize⟩:=Z7 hsz'
        rw[hi] at hi';cases hi'
        obtain⟨z,hz,hzc⟩ : ∃ z,i.zero=some z∧z.cells.size=sz:=by
          unfold J8 tz at hzl
          simp only[hi,Jrb,Jrn] at hzl
          cases hzz:i.zero with
          | none=>simp[hzz] at hzl
          | some z=>simp[hzz] at hzl;exact⟨z,rfl,hzl⟩
        have hexec:execOp a.eval o=(do let d ←resolve a.eval cl o.type;invoke d.target d.args):=by unfold execOp;rw[ho]
        have hrunOf :∀(v':Value) (w':World),(Builtin.append_ #[t2,t2] o.type #[a.eval s1,a.eval s2]).run P w = .ok v' w'→(execOp a.eval o).run P w = .ok (.value v') w':=fun v' w' hr=>by
          rw[hexec]
          simp[resolve,hcl,hargs,htys,invoke,builtin,hr]
        split at h
        · rename_i hax
          rw[hax] at hp1
          have hpv:=(J0 hp1).1
          split at h
          · rename_i hnil
            simp only at hnil
            subst hnil
            cases rS1 h
            refine .value (v:=Qb) (g':=g) (hrunOf _ _ ?_) hS1 hC1 (by rw[hax];exact Jdc rfl)
            rw[hpv,hqv];exact Zr (JT he) hi (Nat.le_refl 0)
          · rename_i hne
            simp only at hne
            rcases hfs with rfl | ⟨b,off,sz',vals,fp,rfl,hv,hok,hcells⟩
            · exact absurd rfl hne
            obtain rfl:=V8 hv hhead hne
            obtain⟨hk,h⟩:=MP.new_some h
            obtain⟨v',w',g',hrun,h1,h2,h3⟩:=Je8 (P:=P) (rty:=o.type) (dp:=false) (cap':=cap') hS1 hk (JT he) hi hz hsize hzc hv hok (fun h=>by cases h) hcells hne hi1 hi2
            cases rS1 h
            exact .value (hrunOf _ _ (by rw[hpv,hqv];exact hrun)) h1 (hC1.trans h2) h3
        · rename_i k n hax
          rw[hax] at hp1
          obtain⟨ob,hob,h'⟩:=MP.get_some h
          clear h;have h:=h';clear h'
          cases ob with
          | arr ty sz0 es dp rw =>
            cases rw with
            | false=>simp[MP.run] at h
            | true =>
              simp only at h
              split at h
              · rename_i hcond
                obtain⟨hn,rfl,rfl,hroom⟩:=hcond
                obtain⟨i',hi',hr1,hr2⟩:=U0 hroom
                rw[hi] at hi';cases hi'
                have hpv:=(hp1.2.2 _ _ es dp true hob).2 hn
                obtain⟨harr,_⟩:=hS1.arr k _ _ es dp true hob
                obtain⟨_,h⟩:=MP.put_some h
                cases rS1 h
                by_cases hne:fs=[]
                · subst hne
                  have hupd:upd m1 k (some (.arr ty sz0 (es++[]) dp true))=m1:=by
                    funext j
                    unfold upd
                    split
                    · rename_i hj;subst hj;rw[List.append_nil,hob]
                    · rfl
                  have hup2:upd m1 k (some (.arr ty sz0 (es++(([]:List D),dpf).fst) (dp&&JA (([]:List D),dpf).fst) true))=m1:=by simpa[JA] using hupd
                  rw[hup2]
                  refine .value (v:=g.hd k) (g':=g) (hrunOf _ _ ?_) hS1 hC1 (by rw[←hpv];exact hp1)
                  rw[hpv,hqv]
                  rcases harr with ⟨_,e,_,_⟩ | ⟨_,cap,_,_,e,hle,_⟩
                  · rw[e];exact Zr (JT he) hi (Nat.le_refl 0)
                  · rw[e];exact Zr (JT he) hi hle
                · rcases hfs with rfl | ⟨b,off,sz',vals,fp,rfl,hv,hok,hcells⟩
                  · exact absurd rfl hne
                  obtain rfl:=V8 hv hhead hne
                  obtain⟨v',w',g',hrun,h1,h2,h3⟩:=Vs (P:=P) (rty:=o.type) (dp':=dp&&JA fs) (cap':=cap') (mv:=[]) (m1:=m1) hS1 hob (JT he) hi hz hsize hzc hv (fun _ _=>rfl) (fun _ h=>by simp at h) (by
                    cases hdp:(dp&&JA fs) with
                    | false=>exact .inl ⟨rfl,hok,rfl⟩
                    | true =>
                      simp only[Jq9] at hdp
                      have e0:=W8 _ _ _ _ hv hdp.2
                      subst e0
                      exact .inr ⟨rfl,hdp.1,List.nodup_nil,fun _ h=>by simp at h,Jd6 _ _ _ _ _ hdp.2 hv⟩) hcells hne (by rw[←hn];exact hr1) (by rw[←hn];exact hr2)
                  exact .value (hrunOf _ _ (by rw[hpv,hqv];exact hrun)) h1 (hC1.trans h2) (by rw[hn];exact h3)
              · simp[MP.run] at h
          | _=>simp[MP.run] at h
        · simp[MP.run] at h
      · simp[MP.run] at h
theorem ZZ {k j:Key} {e:TypeId} {sz:Nat} {es fs:List D} {t rty:TypeId} {v1 v2:Value} (hS:Sim c g m w) (hkj:k≠j) (hk:m k=some (.arr e sz es true true)) (hj:m j=some (.arr e sz fs true true))
  (he:JN P t=some e) (hsz:Qo P e=some sz) (hne:fs≠[]) (hroom:Ue P e (es.length+fs.length)=true) (hzl:(J8 P e).map (·.length)=some sz) (h1:v1=g.hd k) (h2:v2=g.hd j) :
  ∃ v' w' g',(Builtin.append_ #[t,t] rty #[v1,v2]).run P w = .ok v' w'∧Sim c g' (upd (upd m j (some .dead)) k (some (.arr e sz (es++fs) true true))) w' ∧
   Jc c g m w g' (upd (upd m j (some .dead)) k (some (.arr e sz (es++fs) true true))) w'∧VX c g' (upd (upd m j (some .dead)) k (some (.arr e sz (es++fs) true true))) w' (.o k (es.length+fs.length)) v':=by
 obtain⟨i,hi,hr1,hr2⟩:=U0 hroom;obtain⟨i',hi',hsize⟩:=Z7 hsz;rw[hi] at hi';cases hi';obtain⟨z,hz,hzc⟩ : ∃ z,i.zero=some z∧z.cells.size=sz:=by
  unfold J8 tz at hzl;simp only[hi,Jrb,Jrn] at hzl;cases hzz:i.zero with
  | none=>simp[hzz] at hzl
  | some z=>simp[hzz] at hzl;exact⟨z,rfl,hzl⟩
 obtain⟨harr,_,_⟩:=hS.arr j _ _ fs true true hj;rcases harr with ⟨_,_,e0,_⟩ | ⟨b,cap,cs,hb,hhd,hcap,hmax,hh,hsize2,hr⟩
 ·exact absurd e0 hne
 obtain⟨hnd,hdp⟩:=hS.deep j _ _ fs hj;have hle:fs.length*sz≤cs.size:=Nat.le_trans (Nat.mul_le_mul_right _ hcap) hsize2;have hcl2 :∀q,q<(cs.toList.take (fs.length*sz)).length→w.cell? ⟨b,0+q,none⟩=(cs.toList.take (fs.length*sz))[q]?:=fun q hq=>by
  simp only[Jro,Jrj] at hq;rw[Nat.zero_add,Jrz (by omega)];simp[World.cell?,hh]
 have hO:=Zk fs _ sz b 0 _ _ (hdp b hb).2 (by simp;omega) hcl2;rw[h1,h2,hhd];exact Vs (P:=P) (dp':=true) (mv:=[j]) (m1:=upd m j (some .dead)) (b:=b) (off:=0) hS hk (JT he) hi hz hsize hzc (Vf _ _ _ _ _ hO)
  (fun q hq=>uO1 _ _ (by simpa using hq)) (fun q hq=>by
   simp only[Jrr] at hq;subst hq;exact⟨fun e=>hkj e.symm,uS1 _ _ _,_,_,_,_,hj⟩)
  (.inr ⟨rfl,rfl,hnd,fun q hq=>⟨j,by simp,_,hj,rfl,.inr ⟨rfl,hq⟩⟩,hO⟩)
  (fun q u hq=>by
   rw[hcl2 q (Jra.1 hq).1];exact hq) hne hr1 hr2
theorem JfO (hS:Sim c g m w) (hsl:Jl c g m w sl a) {cl:Call} (ho:o.op = .call cl) (hcl:cl.callee = .builtin .append)
  (h:(opM P T G sl o).run m=some (x,m')):Qf P c g m w a o x m':=by
 unfold opM at h;rw[ho] at h;simp only[hcl] at h;split at h
 case h_2=>simp[MP.run] at h
 rename_i s1 s2 t1 t2 hal htl;have hargs:cl.args = #[s1,s2]:=by rw[←hal]
 have htys:cl.argTypes = #[t1,t2]:=by rw[←htl]
 have hp:=oX1 hsl s1;have hq:=oX1 hsl s2;split at h
 ·rename_i heq;subst heq;have hexec:execOp a.eval o=(do let d ←resolve a.eval cl o.type;invoke d.target d.args):=by unfold execOp;rw[ho]
  have hrunOf :∀(v':Value) (w':World),(Builtin.append_ #[t2,t2] o.type #[a.eval s1,a.eval s2]).run P w = .ok v' w'→(execOp a.eval o).run P w = .ok (.value v') w':=fun v' w' hr=>by
   rw[hexec];simp[resolve,hcl,hargs,htys,invoke,builtin,hr]
  unfold JbF at h;split at h
  ·rename_i k n j n' hax hbx;rw[hax] at hp;rw[hbx] at hq;split at h
   ·exact YG hS hsl ho hcl hargs htys h
   ·rename_i hkj;obtain⟨o1,hk,h⟩:=MP.get_some h;obtain⟨o2,hj,h⟩:=MP.get_some h;split at h
    ·rename_i ty sz es ty' sz' fs _;split at h
     ·rename_i e he;split at h
      ·rename_i hcond;obtain⟨hn,hn',rfl,rfl,rfl,hsz,hne,hroom,hzl⟩:=hcond;obtain⟨_,h⟩:=MP.put_some h;obtain⟨_,h⟩:=MP.put_some h;cases rS1 h;obtain⟨v',w',g',hrun,h1,h2,h3⟩:=ZZ (rty:=o.type) hS hkj hk hj he hsz hne (by rw[←hn,←hn'];exact hroom) hzl ((hp.2.2 _ _ es true true hk).2 hn) ((hq.2.2 _ _ fs true true hj).2 hn');exact .value (hrunOf _ _ hrun) h1 h2 (by rw[hn,hn'];exact h3)
      ·simp[MP.run] at h
     ·simp[MP.run] at h
    ·exact YG hS hsl ho hcl hargs htys h
  ·rename_i j n' hax hbx;rw[hax] at hp;rw[hbx] at hq;split at h
   ·obtain⟨o2,hj,h⟩:=MP.get_some h;split at h
    ·rename_i ty' sz' fs;split at h
     ·rename_i e he;split at h
      ·rename_i hcond;obtain⟨hn',rfl,hsz,hne,hroom,hzl⟩:=hcond;obtain⟨hknone,h⟩:=MP.new_some h;obtain⟨_,h⟩:=MP.put_some h;obtain⟨_,h⟩:=MP.put_some h;cases rS1 h;have hkj:Jt o≠j:=fun e0=>by rw[e0,hj] at hknone;cases hknone
       obtain⟨g1,hS1,hC1,_,hbl,hfd⟩:=Ji4 (ty:=ty') (sz:=sz') (dp:=true) hS hknone;have hj1:upd m (Jt o) (some (.arr ty' sz' [] true true)) j=some (.arr ty' sz' fs true true):=by rw[uO1 _ _ (fun e0=>hkj e0.symm)];exact hj
       have hhd:g1.hd (Jt o)=Qb:=by
        obtain⟨harr,_,_⟩:=hS1.arr (Jt o) _ _ _ _ _ (uS1 _ _ _);rcases harr with ⟨_,e0,_,_⟩ | ⟨b,_,_,e0,_⟩
        ·exact e0
        ·rw[hbl] at e0;cases e0
       have hq1:=Qy hC1 _ _ hq;obtain⟨v',w',g',hrun,h1,h2,h3⟩:=ZZ (rty:=o.type) (es:=[]) hS1 hkj (uS1 _ _ _) hj1 he hsz hne (by rw[List.length_nil,Nat.zero_add,←hn'];exact hroom) hzl (v1:=a.eval s1) (by rw[(J0 hp).1,hhd];rfl) ((hq1.2.2 _ _ fs true true hj1).2 hn');simp only[List.nil_append,List.length_nil,Nat.zero_add] at h1 h2 h3;refine .value (hrunOf _ _ hrun) h1 (hC1.trans h2) (by rw[hn'];exact h3)
      ·simp[MP.run] at h
     ·simp[MP.run] at h
    ·exact YG hS hsl ho hcl hargs htys h
   ·exact YG hS hsl ho hcl hargs htys h
  ·exact YG hS hsl ho hcl hargs htys h
 ·exact JhY hS hsl ho hcl hargs htys h
theorem Jan (hS:Sim c g m w) (hsl:Jl c g m w sl a) {t:TypeId} {n:Nat} {ps:Array (Nat×Operand)} (ho:o.op = .buildSlice t n ps)
  (h:(opM P T G sl o).run m=some (x,m')):Qf P c g m w a o x m':=by
 unfold opM at h;rw[ho] at h;simp only at h;split at h
 ·rename_i e he;split at h
  ·rename_i sz ag z hsz hag hz;split at h
   ·rename_i zd hzd;split at h
    ·rename_i hcond;obtain⟨hn,hzl,hpos,hone⟩:=hcond;obtain⟨i,zv,hi,hzv,hzc⟩:=Zv hz;have hone' :∀u∈z,u.oneCell=true:=by simpa using hone
     obtain⟨val,hval,hvc⟩:=WO (w:=w) (Va z hone) hone' hzd;have hzs:zv.cells.size=sz:=by rw[←Jrj,hzc,hzl]
     have hvs:val.cells.size=sz:=by rw[←Jrj,hvc,hzl]
     have hrep:=X9 hval hvs (by rw[hvc];exact hone') n;have harr:((Array.range (n*sz)).map (fun i=>zv.cells[i % zv.cells.size]!)).toList=(List.replicate n val.cells.toList).flatten:=by
      rw[←hzs,VM zv.cells n (by omega),hvc,hzc]
     split at h
     ·rename_i hdeep;simp only[Jq9,beq_iff_eq,bne_iff_ne,ne_eq] at hdeep;obtain⟨⟨_,hpn⟩,hn0⟩:=hdeep;obtain⟨hk,h⟩:=MP.new_some h;obtain⟨g1,hS1,hC1,_,hbl,hfd⟩:=Ji4 (ty:=e) (sz:=sz) (dp:=true) hS hk;obtain⟨es,m1,hfill,h⟩:=MP.bind_some h;obtain⟨hput,h⟩:=MP.put_some h;cases rS1 h;have hasz:((Array.range (n*sz)).map (fun i=>zv.cells[i % zv.cells.size]!)).size=n*sz:=by simp
      have hpl:(ps.toList.map fun p=>(p.1,opX sl p.2)).length=n:=by simpa using hpn
      obtain⟨mv,f,vals,arr',hM,hO,hfillR,harr',hlen⟩:=Ja0 hS1 (ps.toList.map fun p=>(p.1,opX sl p.2)) (ps.toList.map fun p=>(p.1,a.eval p.2)) 0 es ((Array.range (n*sz)).map (fun i=>zv.cells[i % zv.cells.size]!)) _ m1 (by simp)
       (fun i p q a b=>by obtain⟨h1,h2⟩:=Jg4 hsl ps i p q a b;exact⟨h1,Qy hC1 _ _ h2⟩) (fun _ _ h _=>h) (by rw[hasz,hpl];simp) hfill
      have hvl:=JO _ _ _ _ (Vf _ _ _ _ _ hO);rw[hpl] at hlen;have harrl:arr'.toList=vals:=by
       rw[harr'];simp only[Je,Nat.zero_mul,List.take_zero,List.nil_append];rw[List.drop_eq_nil_of_le (by rw[Jrj,hasz,hvl,hlen];omega),List.append_nil]
      have harrs:arr'.size=n*sz:=by rw[←Jrj,harrl,hvl,hlen]
      have hne:es≠[]:=fun e0=>by rw[e0] at hlen;simp at hlen;omega
      obtain⟨g',h7,h8,h9⟩:=Jho (c:=c) (w':=w.alloc (.cells arr' e)) (capN:=n) (cs':=arr') (b':=w.heap.size) hS1 (uS1 _ _ _) (Vf _ _ _ _ _ hO) hM.out hM.gone (dp':=true)
       (.inr ⟨rfl,rfl,hM.nodup,hM.blk,hO⟩) hne rfl (by simp[hlen]) (by unfold maxLen;have:=Nat.le_mul_of_pos_right n hpos;omega) (heap_alloc_new w _) (Nat.le_of_eq harrs.symm)
       ⟨[],⟨rfl,hfd⟩,fun _=>⟨rfl,hfd⟩,by rw[harrl,List.nil_append,Jrd (by rw[hvl];simp)]⟩
       (.inr ⟨rfl,QK _ _,fun j hj=>heap_alloc_old w _ hj⟩) rfl rfl rfl
      simp only[List.nil_append,List.length_nil,Nat.zero_add] at h7 h8 h9;rw[hlen] at h9 ⊢;refine .value (g':=g') ?_ h7 (hC1.trans h8) h9;unfold execOp;rw[ho];simp only[Sem.run_bind];rw[Up (JT he) hsz hn hi hzv (by rw[Array.toList_map];exact hfillR)];rfl
     obtain⟨⟨es,dp⟩,m1,hfill,h⟩:=MP.bind_some h;obtain⟨arr',fp',h1,h2,h3,h4,h5,h6⟩:=Ja9 _ (ps.toList.map fun p=>(p.1,a.eval p.2)) (List.replicate n zd) true ((Array.range (n*sz)).map (fun i=>zv.cells[i % zv.cells.size]!)) [] es dp m m1 (by simp)
      (Jg4 hsl ps) hS (by rw[harr];exact hrep) (fun b hb=>by simp at hb) hfill
     obtain⟨hk,h⟩:=MP.new_some h;have hlen:=JO _ _ _ _ h2;have hesl:es.length=n:=by simpa using h6
     obtain⟨g',h7,h8,h9⟩:=Y5 (k:=Jt o) (ty:=e) (sz:=sz) (es:=es) (dp:=false) (vals:=arr'.toList) (cap:=es.length) (w':=w.alloc (.cells arr' e)) h4 hk (h4.frame.alloc _) (QK _ _) (fun j hj=>heap_alloc_old w _ hj)
      ⟨arr',heap_alloc_new w _,by simpa using hlen,by rw[Jrd (Nat.le_of_eq hlen)]⟩ (Nat.le_refl _)
      (by unfold maxLen;have:=Nat.le_mul_of_pos_right n hpos;omega) h2 h3 (fun h=>by cases h)
     cases rS1 h;rw[hesl] at h9;refine .value (g':=g') ?_ h7 (h5.trans h8) h9;unfold execOp;rw[ho];simp only[Sem.run_bind];rw[Up (JT he) hsz hn hi hzv (by rw[Array.toList_map];exact h1)];rfl
    ·simp[MP.run] at h
   ·simp[MP.run] at h
  ·simp[MP.run] at h
 ·simp[MP.run] at h
end
end Go.Tm
end

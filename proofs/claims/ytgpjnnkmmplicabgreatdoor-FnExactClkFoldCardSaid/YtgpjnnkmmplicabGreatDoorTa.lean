import Derived.Wp
import Derived.Calls
import Derived.Orders
import Derived.Below
import Derived.Laws.Cells
import Derived.Laws.Sem
import Derived.Laws.AppendOwn
import Derived.Laws.Tables
import Derived.Laws.CopyRow
import Derived.Laws.IdiomRangeMap
import Derived.Deep.Upon
import Derived.Laws.MakeOwn
set_option linter.unusedVariables false
set_option linter.unusedSimpArgs false
section
namespace Go.Tm
open Go.IntKind (i64)
theorem JrD:type_of% @Option.some.injEq:=@Option.some.injEq
theorem JrE:type_of% @Bool.and_eq_true:=@Bool.and_eq_true
theorem JrF:type_of% @List.getElem?_eq_some_iff:=@List.getElem?_eq_some_iff
theorem JrG:type_of% @Option.map_some:=@Option.map_some
theorem JrH:type_of% @List.getD_eq_getElem?_getD:=@List.getD_eq_getElem?_getD
theorem JrI:type_of% @List.take_of_length_le:=@List.take_of_length_le
theorem JrJ:type_of% @List.mem_append:=@List.mem_append
theorem JrK:type_of% @List.length_append:=@List.length_append
theorem JrL:type_of% @List.mem_of_getElem?:=@List.mem_of_getElem?
theorem JrM:type_of% @List.map_cons:=@List.map_cons
theorem JrN:type_of% @List.length_map:=@List.length_map
theorem JrO:type_of% @Array.length_toList:=@Array.length_toList
theorem JrP:type_of% @List.getElem?_eq_getElem:=@List.getElem?_eq_getElem
theorem JrQ:type_of% @Array.getElem?_eq_some_iff:=@Array.getElem?_eq_some_iff
theorem JrR:type_of% @List.all_eq_true:=@List.all_eq_true
theorem JrS:type_of% @Option.bind_some:=@Option.bind_some
theorem JrT:type_of% @List.length_take:=@List.length_take
theorem JrU:type_of% @Bool.false_eq_true:=@Bool.false_eq_true
theorem JrV:type_of% @Prod.mk.injEq:=@Prod.mk.injEq
theorem JrW:type_of% @List.mem_singleton:=@List.mem_singleton
theorem JrX:type_of% @List.mem_cons:=@List.mem_cons
theorem JrY:type_of% @Bool.true_and:=@Bool.true_and
theorem JrZ:type_of% @List.getElem?_map:=@List.getElem?_map
theorem Jr0:type_of% @List.map_congr_left:=@List.map_congr_left
theorem Jr1:type_of% @List.getElem?_eq_none:=@List.getElem?_eq_none
theorem Jr2:type_of% @List.mem_of_mem_take:=@List.mem_of_mem_take
theorem Jr3:type_of% @List.mem_or_eq_of_mem_set:=@List.mem_or_eq_of_mem_set
theorem Jr4:type_of% @List.getElem?_take_of_lt:=@List.getElem?_take_of_lt
theorem Jr5:type_of% @List.getElem?_append_left:=@List.getElem?_append_left
theorem Jr6:type_of% @List.getElem?_append_right:=@List.getElem?_append_right
inductive D where
 | v (x:Value)
 | g (cs:List D)
 | s (es:List D)
 | q (cs:List D)
 | f (fn:FuncId) (caps:List D)
 | t (cs:List D)
 deriving Inhabited
abbrev Key:=Nat
inductive X where
 | d (x:D)
 | g (cs:List X)
 | o (k:Key) (n:Nat)
 | p (k:Key) (off:Nat)
 | e (k:Key) (n i off:Nat)
 | f (fn:FuncId) (caps:List X)
 | t (cs:List X)
 | u
 deriving Inhabited
inductive Obj where
 | box (cs:List X)
 | arr (ty:TypeId) (sz:Nat) (es:List D) (deep rw:Bool)
 | dead
 deriving Inhabited
abbrev Mem:=Key→Option Obj
abbrev QI:=Tmp→X
def upd {α:Type} (f:Nat→α) (k:Nat) (x:α):Nat→α:=fun j=>if j=k then x else f j
def D.cells:D→List D
 | .g cs=>cs
 | x=>[x]
def D.one:D→Bool
 | .g _ | .t _=>false
 | .v x=>x.oneCell
 | _=>true
def D.norm:D→D
 | .v (.slice none 0 0)=> .s []
 | x=>x
def X.ofD1:D→X
 | .g cs=> .g (cs.map .d)
 | x=> .d x
def X.ofD:D→X
 | .t cs=> .t (cs.map X.ofD1)
 | x=>X.ofD1 x
def X.one:X→Bool
 | .d x=>x.one
 | .o _ _ | .p _ _ | .e _ _ _ _ | .f _ _=>true
 | _=>false
def X.cells:X→Option (List X)
 | .g cs=>some cs
 | .d (.g cs)=>some (cs.map .d)
 | .u | .t _ | .d (.t _)=>none
 | x=>some [x]
inductive MP (α:Type) where
 | ret (a:α)
 | fail
 | get (k:Key) (c:Obj→MP α)
 | put (k:Key) (o:Obj) (c:MP α)
 | new (k:Key) (o:Obj) (c:MP α)
def MP.bind {α β:Type}:MP α→(α→MP β)→MP β
 | .ret a,h=>h a
 | .fail,_=> .fail
 | .get k c,h=> .get k fun o=>(c o).bind h
 | .put k o c,h=> .put k o (c.bind h)
 | .new k o c,h=> .new k o (c.bind h)
instance:Monad MP where
 pure:=MP.ret
 bind:=MP.bind
def MP.run {α:Type}:MP α→Mem→Option (α×Mem)
 | .ret a,m=>some (a,m)
 | .fail,_=>none
 | .get k c,m=>match m k with
  | some o=>(c o).run m
  | none=>none
 | .put k o c,m=>match m k with
  | some _=>c.run (upd m k (some o))
  | none=>none
 | .new k o c,m=>match m k with
  | some _=>none
  | none=>c.run (upd m k (some o))
def MP.guard (b:Bool):MP Unit:=if b then .ret () else .fail
def JC {α:Type} (P:Program):Sem α→Option α
 | .pure a=>some a
 | .program k=>JC P (k P)
 | _=>none
def KH:Option Value→MP X
 | some v=>if v.oneCell then .ret (.d (.v v)) else .fail
 | none=> .fail
def tz (P:Program) (t:TypeId):Option (Option Value×Nat×Nat):=(P.info? t).map fun j=>(j.zero,j.size,j.bytes)
def Qm (P:Program) (t:TypeId):Option Nat:=(tz P t).map (·.2.1)
def J6 (P:Program) (t:TypeId):Option (List Value):=(tz P t).bind fun z=>z.1.map fun v=>v.cells.toList
def Ys (P:Program) (t:TypeId):Option Bool:=match P.underlying t with
 | some (.struct _) | some (.array _ _)=>some true
 | some _=>some false
 | none=>none
def JK (P:Program) (t:TypeId):Option TypeId:=match P.underlying t with
 | some (.slice e)=>some e
 | _=>none
def JgC (P:Program) (t:TypeId):Option (List (Nat×Nat)):=match P.underlying t with
 | some (.struct fs)=>fs.toList.mapM fun f=>(P.info? f.type).map fun i=>(f.offset,i.size)
 | _=>none
def Zr (P:Program) (t:TypeId) (i:Nat):Option (Nat×Nat):=match P.underlying t with
 | some (.struct fs)=>(fs[i]?).bind fun f=>(Qm P f.type).map fun n=>(f.offset,n)
 | _=>none
def D.ofCells:Bool→List D→D
 | true,cs=> .g cs
 | false,cs=>cs.headD (.v (.tuple #[]))
def UN (P:Program) (t:TypeId) (i:Nat):Option Bool:=match P.underlying t with
 | some (.struct fs)=>(fs[i]?).bind fun f=>Ys P f.type
 | _=>none
def D.mk:Bool→List D→Option D
 | true,cs=>some (.g cs)
 | false,[c]=>if c.one then some c else none
 | false,_=>none
def Jd {α:Type} (cs:List α) (off:Nat) (vs:List α):List α:=cs.take off++vs++cs.drop (off+vs.length)
def kinds (P:Program):Nat→TypeId→Option (List (Option (TypeId×Nat)))
 | 0,_=>none
 | n+1,t=>match P.underlying t with
  | some (.struct fs)=>(fs.toList.mapM fun f=>kinds P n f.type).map List.flatten
  | some (.array _ _)=>none
  | some (.slice e)=>(Qm P e).map fun s=>[some (e,s)]
  | some _=>some [none]
  | none=>none
def JF (P:Program) (t:TypeId):List (Option (TypeId×Nat)):=(kinds P 8 t).getD []
abbrev Kds:=List (Option (TypeId×Nat))
def zOk:Kds→List Value→Bool
 | _,[]=>true
 | ks,v::vs=>(match v with | .slice none 0 0=>(ks.headD none).isSome | _=>true)&&zOk (ks.drop 1) vs
def pur:Nat→X→MP D
 | 0,_=> .fail
 | _+1,.d x=> .ret x.norm
 | _+1,.o k n=> .get k fun
  | .arr _ _ es _ _=>if n=es.length then .ret (.s es) else .fail
  | _=> .fail
 | n+1,.p k off=> .get k fun
  | .box cs=>if off<cs.length then(purs n (cs.drop off)).bind fun ds=> .ret (.q ds) else .fail
  | _=> .fail
 | _+1,.e _ _ _ _=> .fail
 | n+1,.f fn caps=>if caps.all X.one then(purs n caps).bind fun ds=> .ret (.f fn ds) else .fail
 | n+1,.g cs=>(purs n cs).bind fun ds=> .ret (.g ds)
 | n+1,.t cs=>(purs n cs).bind fun ds=> .ret (.t ds)
 | _+1,.u=> .fail
where
 purs:Nat→List X→MP (List D)
 | _,[]=> .ret []
 | 0,_=> .fail
 | n+1,x::xs=>(pur n x).bind fun d=>(purs n xs).bind fun ds=> .ret (d::ds)
def Wf:X→MP (D×Bool)
 | .d x=> .ret (x.norm,false)
 | .o k n=> .get k fun
  | .arr ty sz es dp rw=>if n=es.length then .put k (.arr ty sz es false false) (.ret (.s es,dp&&rw)) else .fail
  | _=> .fail
 | _=> .fail
def W3:List X→MP (List D×Bool)
 | []=> .ret ([],true)
 | x::xs=>(Wf x).bind fun d=>(W3 xs).bind fun ds=> .ret (d.1::ds.1,d.2&&ds.2)
def Jcm (pl:List (Nat×Nat)) (cs:List X):List (Nat×X)→Option (List X)
 | []=>some cs
 | (i,x)::rest =>
  match pl[i]?,x.cells with
  | some (off,n),some vs=>if vs.length=n∧off+n≤cs.length then Jcm pl (Jd cs off vs) rest else none
  | _,_=>none
def Jcg (agg:Bool) (sz:Nat) (es:List D) (deep:Bool):List (Nat×X)→MP (List D×Bool)
 | []=> .ret (es,deep)
 | (i,x)::rest =>
  match x.cells with
  | some vs=>if vs.length=sz∧i<es.length∧vs.all X.one then(W3 vs).bind fun ds=>match D.mk agg ds.1 with
    | some d=>Jcg agg sz (es.set i d) (deep&&ds.2) rest
    | none=> .fail
   else .fail
  | none=> .fail
def plain:D→Bool
 | .v _=>true
 | .g cs=>cs.all fun | .v _=>true | _=>false
 | _=>false
def Qd:Value:= .slice none 0 0
mutual
def flat:D→Bool
 | .v _=>true
 | .g cs=>Jy cs
 | .t cs=>Jy cs
 | _=>false
def Jy:List D→Bool
 | []=>true
 | c::cs=>flat c&&Jy cs
end
def Jgy:X→MP (List D×Bool)
 | .d (.s es)=> .ret (es,false)
 | .d (.v (.slice none 0 0))=> .ret ([],true)
 | .o k n=> .get k fun
  | .arr _ _ es dp rw=>if n=es.length∧(!(dp&&rw)||Jy es)=true then .ret (es,false) else .fail
  | _=> .fail
 | _=> .fail
structure Jqm where
 F:List D→Option D
 flat:Bool:=false
structure Tab where
 fns:FuncId→Option Jqm
 xfns:FuncId→Option (List X→List Obj→Option (X×Mem)):=fun _=>none
 xmask:FuncId→List Bool:=fun _=>[]
 xgmask:FuncId→List (List Bool):=fun _=>[]
 xraw:FuncId→Bool:=fun _=>false
 xflat:FuncId→Bool:=fun _=>false
 bfns:FuncId→Option (List X→List Obj→Option (X×Mem)):=fun _=>none
def Tab.sel (T:Tab) (bo:Bool) (f:FuncId) (S:List X→List Obj→Option (X×Mem)):List X→List Obj→Option (X×Mem):=if bo then(T.bfns f).getD S else S
structure JQ where
 lent:Nat:=0
 slots:List Tmp:=[]
 keys:List Key:=[]
 own:List Tmp:=[]
 kill:Nat→List Key:=fun _=>[]
 deep:Bool:=false
 no:List Tmp:=[]
 bor:List Tmp:=[]
def JQ.dp (G:JQ) (o:Oper):Bool:=G.deep && !G.no.contains (o.dst.getD 0)
def JQ.bo (G:JQ) (o:Oper):Bool:=G.bor.contains (o.dst.getD 0)
def UZ (P:Program) (b:Bool) (e:TypeId) (z:List Value):Bool:=b&&zOk (JF P e) z
def opX (sl:QI):Operand→X
 | .tmp t=>sl t
 | .const v=>if v.oneCell then .d (.v v) else .u
 | .func f=> .f f []
 | .global _=> .u
def Jt (o:Oper):Key:=16*o.dst.getD 0
def Wd:X→Option Int
 | .d (.v (.int _ n))=>some n
 | _=>none
def JcI:X→MP (List D)
 | .d (.s es)=> .ret es
 | .d (.v (.slice none 0 0))=> .ret []
 | .o k n=> .get k fun
  | .arr _ _ es _ _=>if n=es.length then .ret es else .fail
  | _=> .fail
 | _=> .fail
def X.val:X→Option Value
 | .d (.v x)=>some x
 | _=>none
def Jf2 (deep:Bool) (ds:List D):List X:=ds.map fun d=>if deep && !flat d then .u else .d d
def YT:X→MP (List X)
 | .d (.q cs)=> .ret (cs.map .d)
 | .p k off=> .get k fun
  | .box cs=> .ret (cs.drop off)
  | _=> .fail
 | .e k n i off=> .get k fun
  | .arr _ _ es dp rw=>match es[i]? with
   | some e=>if n=es.length then .ret ((Jf2 (dp&&rw) e.cells).drop off) else .fail
   | none=> .fail
  | _=> .fail
 | _=> .fail
def Jfh (P:Program) (t:TypeId) (a:X):MP X :=
 match Ys P t,Qm P t with
 | some true,some n=>(YT a).bind fun cs=>if n≤cs.length then .ret (.g (cs.take n)) else .fail
 | some false,some _=>(YT a).bind fun cs=>match cs with | c::_=> .ret c | []=> .fail
 | _,_=> .fail
def D.put (e:D) (off:Nat) (ds:List D):Option D:=match e with
 | .g cs=>if off+ds.length≤cs.length then some (.g (Jd cs off ds)) else none
 | _=>match off,ds with
  | 0,[d]=>some d
  | _,_=>none
def Jhh (k:Key) (kd:Option (TypeId×Nat)):X→MP D
 | .d (.v (.slice none 0 0))=>if kd.isSome then .ret (.s []) else .fail
 | .d d=>if flat d then .ret d else .fail
 | .o j n=> .get j fun
  | .arr ty sz es dp true=>if n=es.length∧(dp||Jy es)=true∧kd=some (ty,sz)∧j≠k then .put j .dead (.ret (.s es)) else .fail
  | _=> .fail
 | _=> .fail
def JhP (k:Key):Kds→List X→MP (List D)
 | _,[]=> .ret []
 | ks,x::xs=>(Jhh k (ks.headD none) x).bind fun d=>(JhP k (ks.drop 1) xs).bind fun ds=> .ret (d::ds)
def Jda (k:Key) (ag:Bool) (sz:Nat) (ks:Kds):Nat→List (Nat×X)→MP (List D)
 | _,[]=> .ret []
 | i, (j, x) :: rest =>
   match x.cells with
   | some vs=>if vs.length=sz∧j=i∧vs.all X.one then(JhP k ks vs).bind fun ds=>match D.mk ag ds with
       | some d=>(Jda k ag sz ks (i+1) rest).bind fun es=> .ret (d::es)
       | none=> .fail
     else .fail
   | none=> .fail
def Jf6 (P:Program) (t:TypeId) (a v:X):MP X :=
 match v.cells,Qm P t with
 | some vs,some n=>if vs.length=n then match a with
   | .p k off=> .get k fun
    | .box cs=>if off+n≤cs.length then .put k (.box (Jd cs off vs)) (.ret .u) else .fail
    | _=> .fail
   | .e k m i off=> .get k fun
    | .arr ty0 _ _ true true=>(JhP k ((JF P ty0).drop off) vs).bind fun ds=> .get k fun
     | .arr ty sz es true true=>match es[i]? with
      | some e=>match e.put off ds with
       | some e'=>if m=es.length∧ty=ty0 then .put k (.arr ty sz (es.set i e') true true) (.ret .u) else .fail
       | none=> .fail
      | none=> .fail
     | _=> .fail
    | _=>(W3 vs).bind fun ds=> .get k fun
     | .arr ty sz es dp true=>match es[i]? with
      | some e=>match e.put off ds.1 with
       | some e'=>if m=es.length then .put k (.arr ty sz (es.set i e') (dp&&Jy ds.1) true) (.ret .u) else .fail
       | none=> .fail
      | none=> .fail
     | _=> .fail
   | _=> .fail
  else .fail
 | _,_=> .fail
def XZ (sz:Nat):List D→Bool
 | []=>true
 | e::_=>e.cells.length == sz
def Vf (P:Program) (e:TypeId) (n:Nat):Bool:=match tz P e with
 | some (_,_,b)=>decide (n*b≤2 ^ 46∧n≤2 ^ 46)
 | none=>false
def Xp (P : Program) (o : Oper) (t : TypeId) (a b : X) : MP X :=
  match JK P t with
  | none=> .fail
  | some e=>match Qm P e with
    | none=> .fail
    | some sz=>(Jgy b).bind fun f=>if Vf P e f.1.length∧XZ sz f.1∧0<sz∧(J6 P e).map (·.length)=some sz then match a with
      | .d (.v (.slice none 0 0))=>if f.1=[] then .ret a else .new (Jt o) (.arr e sz f.1 false true) (.ret (.o (Jt o) f.1.length))
      | .o k n=> .get k fun
        | .arr ty sz' es dp true=>if n=es.length∧ty=e∧sz'=sz∧Vf P e (n+f.1.length) then
            .put k (.arr e sz (es++f.1) (dp&&Jy f.1) true) (.ret (.o k (n+f.1.length)))
          else .fail
        | _=> .fail
      | _=> .fail
      else .fail
def Jb1 (P:Program) (dp:Bool) (o:Oper) (t:TypeId) (a b:X):MP X:=match a,b with
 | .o k n,.o j n'=>if k=j then Xp P o t a b else .get k fun o1=> .get j fun o2=>match o1,o2 with
  | .arr ty sz es true true,.arr ty' sz' fs true true=>match JK P t with
   | some e=>if n=es.length∧n'=fs.length∧ty=e∧ty'=e∧sz'=sz∧Qm P e=some sz∧fs≠[]∧Vf P e (n+n')∧(J6 P e).map (·.length)=some sz then
     .put j .dead (.put k (.arr e sz (es++fs) true true) (.ret (.o k (n+n'))))
    else .fail
   | none=> .fail
  | _,_=>Xp P o t a b
 | .d (.v (.slice none 0 0)),.o j n' => if dp = true then .get j fun
     | .arr ty' sz' fs true true=>match JK P t with
       | some e=>if n'=fs.length∧ty'=e∧Qm P e=some sz'∧fs≠[]∧Vf P e n'∧(J6 P e).map (·.length)=some sz' then
           .new (Jt o) (.arr e sz' [] true true) (.put j .dead (.put (Jt o) (.arr e sz' fs true true) (.ret (.o (Jt o) n'))))
         else .fail
       | none=> .fail
     | _=>Xp P o t a b
   else Xp P o t a b
 | _,_=>Xp P o t a b
def WV (P : Program) (o : Oper) (t t' : TypeId) (a b : X) : MP X :=
  match P.underlying t',a with
  | some (.int _),.d (.v (.slice none 0 0)) => match JK P t,Wd b with
    | some e,some l=>match Qm P e,Ys P e,J6 P e with
      | some sz,some ag,some z=>match D.mk ag (z.map fun v=>(D.v v).norm) with
        | some zd=>if 0<l∧Vf P e l.toNat∧z.length=sz∧0<sz∧z.all (·.oneCell) then
            .new (Jt o) (.arr e sz (List.replicate l.toNat zd) false true) (.ret (.o (Jt o) l.toNat))
          else .fail
        | none=> .fail
      | _,_,_=> .fail
    | _,_=> .fail
  | _,_=> .fail
def K6 (P : Program) (o : Oper) (t : TypeId) (x : X) (lo hi mx : Option X) : MP X :=
  match x with
  | .d (.s es)=>match lo,hi.map Wd,mx,JK P t with
    | none,some (some h),none,some e=>if 0≤h∧h≤es.length∧(Qm P e).isSome then .ret (.d (.s (es.take h.toNat))) else .fail
    | _,_,_,_=> .fail
  | .o k n=>match lo,hi.map Wd,mx,JK P t with
    | none,some (some h),none,some e=> .get k fun
      | .arr ty sz es _ true=>if n=es.length∧0≤h∧h≤es.length∧(Qm P e).isSome then
          .put k .dead (.new (Jt o) (.arr ty sz (es.take h.toNat) false true) (.ret (.o (Jt o) h.toNat)))
        else .fail
      | _=> .fail
    | _,_,_,_=> .fail
  | .d (.v (.slice none 0 0))=>match lo,hi.map Wd,mx,JK P t with
    | none,some (some h),none,some e=>if h=0∧(Qm P e).isSome then .ret (.d (.v (.slice none 0 0))) else .fail
    | _,_,_,_=> .fail
  | _=> .fail
def JkH (P:Program) (o:Oper) (t:TypeId) (x:X) (lo hi:Option X) (mx:X):MP X :=
 match x with
 | .o k n=>match lo,hi.map Wd,Wd mx,JK P t with
  | none,some (some h),some q,some e=> .get k fun
   | .arr ty sz es dp true=>if n=es.length∧h=es.length∧q=es.length∧(Qm P e).isSome then
     .put k .dead (.new (Jt o) (.arr ty sz es dp true) (.ret (.o (Jt o) n)))
    else .fail
   | _=> .fail
  | _,_,_,_=> .fail
 | _=> .fail
def WZ (xs:List X):MP (List D):=pur.purs 40 xs
mutual
def take:X→MP D
 | .d x=> .ret x.norm
 | .g cs=>(Jcp cs).bind fun ds=> .ret (.g ds)
 | .f fn cs=>if cs.all X.one then(Jcp cs).bind fun ds=> .ret (.f fn ds) else .fail
 | .o k n=> .get k fun
  | .arr ty sz es _ _=>if n=es.length then .put k (.arr ty sz es false false) (.ret (.s es)) else .fail
  | _=> .fail
 | _=> .fail
def Jcp:List X→MP (List D)
 | []=> .ret []
 | c::cs=>(take c).bind fun d=>(Jcp cs).bind fun ds=> .ret (d::ds)
end
mutual
def X.names:X→List Key
 | .o k _=>[k]
 | .p k _=>[k]
 | .e k _ _ _=>[k]
 | .g cs=>J2 cs
 | .t cs=>J2 cs
 | .f _ cs=>J2 cs
 | _=>[]
def J2:List X→List Key
 | []=>[]
 | c::cs=>X.names c++J2 cs
end
mutual
def X.ren (ρ:Key→Key):X→X
 | .o k n=> .o (ρ k) n
 | .p k off=> .p (ρ k) off
 | .e k n i off=> .e (ρ k) n i off
 | .g cs=> .g (Uu ρ cs)
 | .t cs=> .t (Uu ρ cs)
 | .f fn cs=> .f fn (Uu ρ cs)
 | x=>x
def Uu (ρ:Key→Key):List X→List X
 | []=>[]
 | c::cs=>X.ren ρ c::Uu ρ cs
end
def Obj.names:Obj→List Key
 | .box cs=>J2 cs
 | _=>[]
def Obj.ren (ρ:Key→Key):Obj→Obj
 | .box cs=> .box (Uu ρ cs)
 | o=>o
def XJ:List Key→List Key→List Key
 | acc,[]=>acc
 | acc,k::ks=>XJ (if acc.contains k then acc else acc++[k]) ks
def Jck {α:Type}:List Key→(List Obj→MP α)→MP α
 | [],c=>c []
 | k::ks,c=> .get k fun o=>Jck ks fun os=>c (o::os)
def Jdj {α:Type}:List (Key×Obj)→MP α→MP α
 | [],c=>c
 | (k,o)::l,c=> .put k o (Jdj l c)
def Jf9 {α:Type}:List (Key×Obj)→MP α→MP α
 | [],c=>c
 | (k,o)::l,c=> .new k o (Jf9 l c)
def at? (L:List Key) (k:Key):Nat:=L.idxOf k
def Jq (i:Nat):List Obj→List (Nat×Obj)
 | []=>[]
 | o::os=>(i,o)::Jq (i+1) os
abbrev Y0:=List X→List Obj→Option (X×Mem)
def Qz (l:List (Nat×Obj)):Mem:=fun k=>l.lookup k
def XK (m:Mem) (n:Nat):List Key:=(List.range n).flatMap fun k=>match m k with
 | some o=>o.names
 | none=>[]
def QX (S : Y0) (kb : Key) (xs : List X) (L : List Key) (os : List Obj) : MP X :=
  if (J2 xs ++ os.flatMap Obj.names).all L.contains then
    match S (Uu (at? L) xs) (os.map (Obj.ren (at? L))) with
    | none=> .fail
    | some (x,m1) =>
      let n:=L.length
      let news:=XJ [] ((x.names++XK m1 n).filter fun k=>n≤k)
      let all:=List.range n++news
      match all.mapM m1 with
      | none=> .fail
      | some os' =>
        if (x.names ++ os'.flatMap Obj.names).all all.contains && news.length ≤ 16 then
          let back:=fun k=>(L++(List.range news.length).map (kb + ·)).getD (at? all k) 0
          Jdj (L.zip ((os'.take n).map (Obj.ren back)))
            (Jf9 (((List.range news.length).map (kb + ·)).zip ((os'.drop n).map (Obj.ren back))) (.ret (x.ren back)))
        else .fail
  else .fail
mutual
def X.norm:X→X
 | .d x=> .d x.norm
 | .g cs=> .g (Jei cs)
 | x=>x
def Jei:List X→List X
 | []=>[]
 | c::cs=>X.norm c::Jei cs
end
def Wz (S:Y0) (kb:Key) (xs:List X):MP X :=
 let ks:=XJ [] (J2 xs)
 Jck ks fun os=>let L:=XJ ks (os.flatMap Obj.names);Jck L fun os=>QX S kb xs L os
def Jkq (S:Y0) (kb:Key) (xs:List X):MP X:=Wz S kb (Jei xs)
def Xl:List Bool→List X→MP (List X)
 | b::bs,x::xs=>if b then(take x).bind fun d=>(Xl bs xs).bind fun ys=> .ret (X.ofD1 d::ys) else(Xl bs xs).bind fun ys=> .ret (x::ys)
 | _,xs=> .ret xs
def JaP (bs:List Bool):X→MP X
 | .g cs=>(Xl bs cs).bind fun ds=> .ret (.g ds)
 | x=> .ret x
def Yc:List (List Bool)→List X→MP (List X)
 | bs::bss,x::xs=>(JaP bs x).bind fun y=>(Yc bss xs).bind fun ys=> .ret (y::ys)
 | _,xs=> .ret xs
mutual
def X.fl:X→Bool
 | .d x=>flat x
 | .g cs=>Ji6 cs
 | .t cs=>Ji6 cs
 | .o _ _=>true
 | _=>false
def Ji6:List X→Bool
 | []=>true
 | c::cs=>X.fl c&&Ji6 cs
end
def Kb:Option Obj→Bool
 | some (.arr _ _ es dp true)=>dp||Jy es
 | _=>false
def Obj.deepen:Obj→Obj
 | .arr ty sz es _ rw=> .arr ty sz es true rw
 | o=>o
def Jkz (S:Y0) (xs:List X):Option (X×Mem):=match S xs [] with
 | some (x,m1)=>if x.fl&&x.names.all (fun k=>Kb (m1 k)) then some (x,fun k=>if x.names.contains k then(m1 k).map Obj.deepen else none) else none
 | none=>none
def Kx (S:Y0) (kb:Key) (ds:List D):MP X:=QX (fun _ _=>Jkz S (ds.map X.ofD1)) kb [] [] []
def Obj.shal:Obj→Obj
 | .arr ty sz es _ rw=> .arr ty sz es false rw
 | o=>o
def Jdl (S:Y0):Y0:=fun xs os=>(S xs os).map fun r=>(r.1,fun k=>if k<os.length then r.2 k else(r.2 k).map Obj.shal)
def Jak (T:Tab) (G:JQ) (o:Oper) (f:FuncId) (args:List X):MP X :=
 match T.fns f with
 | some S=>if S.flat then(WZ args).bind fun ds=>match S.F ds with
   | some r=>if flat r then .ret (X.ofD r) else .fail
   | none=> .fail
  else(Jcp args).bind fun ds=>match S.F ds with
   | some r=> .ret (X.ofD r)
   | none=> .fail
 | none=>match T.xfns f with
  | some S=>if T.xflat f||G.bo o then(WZ args).bind fun ds=>Kx (T.sel (G.bo o) f S) (Jt o) ds else let S:=if G.dp o then S else Jdl S;if T.xraw f then Wz S (Jt o) args else(Xl (T.xmask f) args).bind fun xs=>(Yc (T.xgmask f) xs).bind fun xs=>Jkq S (Jt o) xs
  | none=> .fail
def opM (P:Program) (T:Tab) (G:JQ) (sl:QI) (o:Oper):MP X :=
 let ρ:=opX sl
 match o.op with
 | .move x | .assign x=> .ret (ρ x)
 | .pick c a b=>match ρ c with
  | .d (.v (.bool t))=> .ret (if t then ρ a else ρ b)
  | _=> .fail
 | .alloc t=>match J6 P t with
  | some z=>if z.all (·.oneCell) then .new (Jt o) (.box (z.map fun c=> .d (.v c))) (.ret (.p (Jt o) 0)) else .fail
  | none=> .fail
 | .box _ x=>match (ρ x).cells with
  | some cs=> .new (Jt o) (.box cs) (.ret (.p (Jt o) 0))
  | none=> .fail
 | .build t ps=>match J6 P t,JgC P t with
  | some z,some pl=>if z.all (·.oneCell) then match Jcm pl (z.map fun c=> .d (.v c)) (ps.toList.map fun p=>(p.1,ρ p.2)) with
   | some cs=> .ret (.g cs)
   | none=> .fail
   else .fail
  | _,_=> .fail
 | .buildSlice t n ps=>match JK P t with
  | some e=>match Qm P e,Ys P e,J6 P e with
   | some sz,some ag,some z=>match D.mk ag (z.map fun v=>(D.v v).norm) with
    | some zd=>if n*sz≤2 ^ 24∧z.length=sz∧0<sz∧z.all (·.oneCell) then if UZ P (G.dp o) e z&&ps.toList.length == n&&n != 0 then
      .new (Jt o) (.arr e sz [] true true) ((Jda (Jt o) ag sz (JF P e) 0 (ps.toList.map fun p=>(p.1,ρ p.2))).bind fun es =>
       .put (Jt o) (.arr e sz es true true) (.ret (.o (Jt o) es.length)))
      else(Jcg ag sz (List.replicate n zd) true (ps.toList.map fun p=>(p.1,ρ p.2))).bind fun es =>
       .new (Jt o) (.arr e sz es.1 false true) (.ret (.o (Jt o) n))
     else .fail
    | none=> .fail
   | _,_,_=> .fail
  | none=> .fail
 | .load t a=>Jfh P t (ρ a)
 | .store t a x=>Jf6 P t (ρ a) (ρ x)
 | .nilCheck x=>match ρ x with
  | .p k off=> .ret (.p k off)
  | .d (.q cs)=> .ret (.d (.q cs))
  | .f fn cs=> .ret (.f fn cs)
  | .d (.f fn cs)=> .ret (.d (.f fn cs))
  | _=> .fail
 | .binOp op t x y _=>match ρ x,ρ y with
  | .d (.v a),.d (.v b)=>KH (JC P (do eqGuard op t x y a b;binOp op t a b))
  | _,_=> .fail
 | .unOp op _ x=>match ρ x with
  | .d (.v a)=>KH (JC P (Op.unary op a))
  | _=> .fail
 | .convert s d x=>match ρ x with
  | .d (.v a)=>KH (JC P (convert s d a))
  | _=> .fail
 | .makeFunc (.func f) fs cs=>if fs.isEmpty then .ret (.f f (cs.toList.map ρ)) else .fail
 | .makeSlice t l c=>match JK P t,Wd (ρ l),Wd (ρ c) with
  | some e,some l,some c=>match Qm P e,Ys P e,J6 P e with
   | some sz,some ag,some z=>match D.mk ag (z.map fun v=>(D.v v).norm) with
    | some zd=>if 0≤l∧l=c∧Vf P e l.toNat∧z.length=sz∧0<sz∧z.all (·.oneCell) then
      .new (Jt o) (.arr e sz (List.replicate l.toNat zd) (UZ P (G.dp o) e z) true) (.ret (.o (Jt o) l.toNat))
     else .fail
    | none=> .fail
   | _,_,_=> .fail
  | _,_,_=> .fail
 | .slice t x lo hi mx=>match mx with
  | none=>K6 P o t (ρ x) (lo.map ρ) (hi.map ρ) none
  | some q=>JkH P o t (ρ x) (lo.map ρ) (hi.map ρ) (ρ q)
 | .fieldAddr t x i=>match Zr P t i with
  | some (off,n)=>if n=0 then .fail else match ρ x with
   | .p k off'=> .ret (.p k (off'+off))
   | .e k n' j off'=> .get k fun
    | .arr _ _ es _ _=>if n'=es.length then .ret (.e k n' j (off'+off)) else .fail
    | _=> .fail
   | .d (.q cs)=>if off<cs.length then .ret (.d (.q (cs.drop off))) else .fail
   | _=> .fail
  | none=> .fail
 | .field t x i=>match Zr P t i,UN P t i,ρ x with
  | some (off,n),some true,.g cs=> .ret (.g ((cs.drop off).take n))
  | some (off,_),some false,.g cs=>match cs[off]? with
   | some c=> .ret c
   | none=> .fail
  | _,_,_=> .fail
 | .indexAddr t x i=>match JK P t,Wd (ρ i) with
  | some e,some j=>match Qm P e,ρ x with
   | some sz,.d (.s es)=>if 0≤j then match es[j.toNat]? with
     | some e=>if e.cells.length=sz then .ret (.d (.q e.cells)) else .fail
     | none=> .fail
    else .fail
   | some sz,.o k n=>if 0≤j∧j<n then .get k fun
     | .arr ty sz' es _ _=>if n=es.length∧ty=e∧sz'=sz then .ret (.e k n j.toNat 0) else .fail
     | _=> .fail
    else .fail
   | _,_=> .fail
  | _,_=> .fail
 | .index t x i=>match ρ x,ρ i with
  | .d (.v a),.d (.v b)=>KH (JC P (Instr.index t a b))
  | _,_=> .fail
 | .extract x i=>match ρ x with
  | .t cs=>match cs[i]? with
   | some c=> .ret c
   | none=> .fail
  | _=> .fail
 | .call c=>match c.callee with
  | .builtin .len=>match c.args.toList,c.argTypes.toList with
   | [p],[t]=>match ρ p with
    | .d (.v (.string s))=>KH (JC P (Builtin.len_ #[t] o.type #[.string s]))
    | x=>match JK P t with
     | some _=>(JcI x).bind fun es=> .ret (.d (.v (goInt es.length)))
     | none=> .fail
   | _,_=> .fail
  | .builtin .append=>match c.args.toList,c.argTypes.toList with
   | [p,q],[t,t']=>if t'=t then Jb1 P (G.dp o) o t (ρ p) (ρ q) else WV P o t t' (ρ p) (ρ q)
   | _,_=> .fail
  | .builtin .cap=>match c.args.toList,c.argTypes.toList with
   | [p],[t]=>match ρ p,JK P t with
    | .d (.v (.slice none 0 0)),some _=> .ret (.d (.v (goInt 0)))
    | _,_=> .fail
   | _,_=> .fail
  | .value f=>match ρ f with
   | .f fn cs=>Jak T G o fn (c.args.toList.map ρ++cs)
   | .d (.f fn cs)=>Jak T G o fn (c.args.toList.map ρ++cs.map .d)
   | _=> .fail
  | _=> .fail
 | _=> .fail
structure St where
 sl:QI
 m:Mem
def ofL (l:List (Nat×X)):QI:=fun t=>(l.lookup t).getD .u
def memL (l:List (Nat×Obj)):Mem:=fun k=>l.lookup k
mutual
def erase (live:Key→Bool):X→X
 | .o k n=>if live k then .o k n else .u
 | .p k off=>if live k then .p k off else .u
 | .e k n i off=>if live k then .e k n i off else .u
 | .g cs=> .g (Jc2 live cs)
 | .t cs=> .t (Jc2 live cs)
 | .f fn cs=> .f fn (Jc2 live cs)
 | x=>x
def Jc2 (live:Key→Bool):List X→List X
 | []=>[]
 | c::cs=>erase live c::Jc2 live cs
end
def Obj.erase (live:Key→Bool):Obj→Obj
 | .box cs=> .box (Jc2 live cs)
 | o=>o
def St.keep (G:JQ) (drop:List Key) (st:St):St :=
 let ks:=((List.range G.lent).filter fun k=>(st.m k).isSome)++G.keys.filter fun k=>!drop.contains k&&(match st.m k with | some .dead | none=>false | _=>true)
 ⟨ofL (G.slots.map fun t=>(t,erase ks.contains (st.sl t))),memL (ks.filterMap fun k=>(st.m k).map fun o=>(k,o.erase ks.contains))⟩
def JoA:Op→Bool
 | .alloc _ | .box _ _ | .buildSlice _ _ _ | .makeSlice _ _ _ | .slice _ _ _ _ _=>true
 | _=>false
def Jm1 (G:JQ) (o:Oper):Bool:=JoA o.op||(match o.op with | .call _=>G.own.contains (o.dst.getD 0) | _=>false)
def St.enter (G:JQ) (id:Nat) (ops:Array Oper) (st:St):St :=
 let ds:=(ops.toList.filter (Jm1 G)).map fun o=>o.dst.getD 0
 if ds=[]&&G.kill id=[] then st else st.keep G (G.kill id++G.keys.filter fun k=>ds.contains (k / 16))
def Qw (ops:Array Oper) (sl:QI) (o:Oper):Option Bool:=match o.guard with
 | none=>some true
 | some (j,want)=>match (ops[j]?).bind (·.dst) with
  | some d=>match sl d with
   | .d (.v (.bool b))=>some (b == want)
   | .t []=>some false
   | _=>none
  | none=>none
def UL (sl:QI) (dst:Option Tmp) (x:X):QI:=match dst with
 | some d=>upd sl d x
 | none=>sl
def JbH (P:Program) (T:Tab) (G:JQ) (ops:Array Oper) (i:Nat) (st:St):Option St:=match ops[i]? with
 | none=>none
 | some o=>match Qw ops st.sl o with
  | some true=>match (opM P T G st.sl o).run st.m with
   | some (x,m)=>some ⟨UL st.sl o.dst x,m⟩
   | none=>none
  | some false=>some ⟨UL st.sl o.dst (.t []),st.m⟩
  | none=>none
def UY (P:Program) (T:Tab) (G:JQ) (ops:Array Oper):List Nat→St→Option St
 | [],st=>some st
 | i::l,st=>match JbH P T G ops i st with
  | some st'=>UY P T G ops l st'
  | none=>none
end Go.Tm
end
section
namespace Go.Tm
open Go.IntKind (i64)
mutual
def Rd (w:World):D→Value→List Nat→Prop
 | .v x,val,fp=>val=x∧x.oneCell=true∧fp=[]
 | .g cs,val,fp=>∃ vs:List Value,val = .agg vs.toArray∧XI w cs vs fp
 | .s es,val,fp=>∃ A cap,val = .slice A es.length cap∧es.length≤cap ∧
  ((es=[]∧fp=[])∨∃ b o sz fp',A=some ⟨b,o,none⟩∧b<w.heap.size∧fp=b::fp'∧Ub w es sz b o fp')
 | .q cs,val,fp=>∃ b o fp',val = .pointer (some ⟨b,o,none⟩)∧b<w.heap.size∧fp=b::fp'∧Jd0 w cs b o fp'
 | .f fn caps,val,fp=>∃ vs:List Value,val = .func (.func fn) #[] vs.toArray∧XI w caps vs fp
 | .t cs,val,fp=>∃ vs:List Value,val = .tuple vs.toArray∧Kn w cs vs fp
def XI (w:World):List D→List Value→List Nat→Prop
 | [],vs,fp=>vs=[]∧fp=[]
 | c::cs,vs,fp=>∃ v vs' f1 f2,vs=v::vs'∧fp=f1++f2∧Rd w c v f1∧XI w cs vs' f2∧v.oneCell=true
def Kn (w:World):List D→List Value→List Nat→Prop
 | [],vs,fp=>vs=[]∧fp=[]
 | c::cs,vs,fp=>∃ v vs' f1 f2,vs=v::vs'∧fp=f1++f2∧Rd w c v f1∧Kn w cs vs' f2
def Jd0 (w:World):List D→Nat→Nat→List Nat→Prop
 | [],_,_,fp=>fp=[]
 | c::cs,b,o,fp=>∃ v f1 f2,w.cell? ⟨b,o,none⟩=some v∧fp=f1++f2∧Rd w c v f1∧Jd0 w cs b (o+1) f2∧v.oneCell=true
def Ub (w:World):List D→Nat→Nat→Nat→List Nat→Prop
 | [],_,_,_,fp=>fp=[]
 | e::es,sz,b,o,fp=>∃ val f1 f2,fp=f1++f2∧Rd w e val f1∧val.cells.size=sz ∧
  (∀j,j<sz→w.cell? ⟨b,o+j,none⟩=val.cells[j]?)∧Ub w es sz b (o+sz) f2∧∀u∈val.cells.toList,u.oneCell=true
end
theorem JaW {w w':World} {b o:Nat} (h:w'.heap[b]? = w.heap[b]?):w'.cell? ⟨b,o,none⟩=w.cell? ⟨b,o,none⟩:=by
 simp only[World.cell?,h]
mutual
theorem Vo {w w':World} :∀(x:D) (val:Value) (fp:List Nat),w.heap.size≤w'.heap.size→(∀b∈fp,w'.heap[b]? = w.heap[b]?)→Rd w x val fp→Rd w' x val fp
 | .v x,val,fp,_,_,h=>h
 | .g cs,val,fp,hz,hs,⟨vs,e,h⟩=>⟨vs,e,JaU cs vs fp hz hs h⟩
 | .s es,val,fp,hz,hs,⟨A,cap,e,hl,h⟩=>⟨A,cap,e,hl,by
  rcases h with h | ⟨b,o,sz,fp',hA,hb,rfl,h⟩
  ·exact .inl h
  ·exact .inr ⟨b,o,sz,fp',hA,by omega,rfl,Kz es sz b o fp' hz (hs b (by simp)) (fun c hc=>hs c (by simp[hc])) h⟩⟩
 | .q cs,val,fp,hz,hs,⟨b,o,fp',e,hb,hf,h⟩=>by
  subst hf;exact⟨b,o,fp',e,by omega,rfl,Je3 cs b o fp' hz (hs b (by simp)) (fun c hc=>hs c (by simp[hc])) h⟩
 | .f fn caps,val,fp,hz,hs,⟨vs,e,h⟩=>⟨vs,e,JaU caps vs fp hz hs h⟩
 | .t cs,val,fp,hz,hs,⟨vs,e,h⟩=>⟨vs,e,Jev cs vs fp hz hs h⟩
theorem JaU {w w':World} :∀(cs:List D) (vs:List Value) (fp:List Nat),w.heap.size≤w'.heap.size→(∀b∈fp,w'.heap[b]? = w.heap[b]?)→XI w cs vs fp→XI w' cs vs fp
 | [],_,_,_,_,h=>h
 | c::cs,vs,fp,hz,hs,⟨v,vs',f1,f2,e,hf,h1,h2,h3⟩=>by
  subst hf;exact⟨v,vs',f1,f2,e,rfl,Vo c v f1 hz (fun b hb=>hs b (by simp[hb])) h1,JaU cs vs' f2 hz (fun b hb=>hs b (by simp[hb])) h2,h3⟩
theorem Jev {w w':World} :∀(cs:List D) (vs:List Value) (fp:List Nat),w.heap.size≤w'.heap.size→(∀b∈fp,w'.heap[b]? = w.heap[b]?)→Kn w cs vs fp→Kn w' cs vs fp
 | [],_,_,_,_,h=>h
 | c::cs,vs,fp,hz,hs,⟨v,vs',f1,f2,e,hf,h1,h2⟩=>by
  subst hf;exact⟨v,vs',f1,f2,e,rfl,Vo c v f1 hz (fun b hb=>hs b (by simp[hb])) h1,Jev cs vs' f2 hz (fun b hb=>hs b (by simp[hb])) h2⟩
theorem Je3 {w w':World} :∀(cs:List D) (b o:Nat) (fp:List Nat),w.heap.size≤w'.heap.size→w'.heap[b]? = w.heap[b]?→(∀b∈fp,w'.heap[b]? = w.heap[b]?)→Jd0 w cs b o fp→Jd0 w' cs b o fp
 | [],_,_,_,_,_,_,h=>h
 | c::cs,b,o,fp,hz,hb,hs,⟨v,f1,f2,hc,hf,h1,h2,h3⟩=>by
  subst hf;exact⟨v,f1,f2,(JaW hb).trans hc,rfl,Vo c v f1 hz (fun b hb=>hs b (by simp[hb])) h1,Je3 cs b (o+1) f2 hz hb (fun b hb=>hs b (by simp[hb])) h2,h3⟩
theorem Kz {w w':World} :∀(es:List D) (sz b o:Nat) (fp:List Nat),w.heap.size≤w'.heap.size→w'.heap[b]? = w.heap[b]?→(∀b∈fp,w'.heap[b]? = w.heap[b]?)→Ub w es sz b o fp→Ub w' es sz b o fp
 | [],_,_,_,_,_,_,_,h=>h
 | e::es,sz,b,o,fp,hz,hb,hs,⟨val,f1,f2,hf,h1,hsz,hc,h2,h3⟩=>by
  subst hf;exact⟨val,f1,f2,rfl,Vo e val f1 hz (fun b hb=>hs b (by simp[hb])) h1,hsz,fun j hj=>(JaW hb).trans (hc j hj),Kz es sz b (o+sz) f2 hz hb (fun b hb=>hs b (by simp[hb])) h2,h3⟩
end
mutual
theorem Jax {w:World} :∀(x:D) (val:Value) (fp:List Nat),Rd w x val fp→∀b∈fp,b<w.heap.size
 | .v x,val,fp,h,b,hb=>by obtain⟨_,_,rfl⟩:=h;simp at hb
 | .g cs,val,fp,⟨vs,_,h⟩,b,hb=>JbX cs vs fp h b hb
 | .s es,val,fp,⟨A,cap,_,_,h⟩,b,hb=>by
  rcases h with ⟨_,rfl⟩ | ⟨c,o,sz,fp',_,hc,rfl,h⟩
  ·simp at hb
  ·rcases JrX.1 hb with rfl | hb
   ·exact hc
   ·exact Z7 es sz c o fp' h b hb
 | .q cs,val,fp,⟨c,o,fp',_,hc,hf,h⟩,b,hb=>by
  subst hf;rcases JrX.1 hb with rfl | hb
  ·exact hc
  ·exact JjW cs c o fp' h b hb
 | .f fn caps,val,fp,⟨vs,_,h⟩,b,hb=>JbX caps vs fp h b hb
 | .t cs,val,fp,⟨vs,_,h⟩,b,hb=>Jfu cs vs fp h b hb
theorem JbX {w:World} :∀(cs:List D) (vs:List Value) (fp:List Nat),XI w cs vs fp→∀b∈fp,b<w.heap.size
 | [],_,fp,h,b,hb=>by obtain⟨_,rfl⟩:=h;simp at hb
 | c::cs,vs,fp,⟨v,vs',f1,f2,_,hf,h1,h2,_⟩,b,hb=>by
  subst hf;rcases JrJ.1 hb with hb | hb
  ·exact Jax c v f1 h1 b hb
  ·exact JbX cs vs' f2 h2 b hb
theorem Jfu {w:World} :∀(cs:List D) (vs:List Value) (fp:List Nat),Kn w cs vs fp→∀b∈fp,b<w.heap.size
 | [],_,fp,h,b,hb=>by obtain⟨_,rfl⟩:=h;simp at hb
 | c::cs,vs,fp,⟨v,vs',f1,f2,_,hf,h1,h2⟩,b,hb=>by
  subst hf;rcases JrJ.1 hb with hb | hb
  ·exact Jax c v f1 h1 b hb
  ·exact Jfu cs vs' f2 h2 b hb
theorem JjW {w:World} :∀(cs:List D) (b o:Nat) (fp:List Nat),Jd0 w cs b o fp→∀c∈fp,c<w.heap.size
 | [],_,_,fp,h,b,hb=>by rw[show fp=[] from h] at hb;simp at hb
 | c::cs,b,o,fp,⟨v,f1,f2,_,hf,h1,h2,_⟩,k,hk=>by
  subst hf;rcases JrJ.1 hk with hk | hk
  ·exact Jax c v f1 h1 k hk
  ·exact JjW cs b (o+1) f2 h2 k hk
theorem Z7 {w:World} :∀(es:List D) (sz b o:Nat) (fp:List Nat),Ub w es sz b o fp→∀c∈fp,c<w.heap.size
 | [],_,_,_,fp,h,b,hb=>by rw[show fp=[] from h] at hb;simp at hb
 | e::es,sz,b,o,fp,⟨val,f1,f2,hf,h1,_,_,h2,_⟩,k,hk=>by
  subst hf;rcases JrJ.1 hk with hk | hk
  ·exact Jax e val f1 h1 k hk
  ·exact Z7 es sz b (o+sz) f2 h2 k hk
end
theorem J7 {w:World} :∀(cs:List D) (vs:List Value) (fp:List Nat),XI w cs vs fp→vs.length=cs.length
 | [],vs,fp,h=>by obtain⟨rfl,_⟩:=h;rfl
 | c::cs,vs,fp,⟨v,vs',f1,f2,e,_,_,h2,_⟩=>by subst e;simp[J7 cs vs' f2 h2]
theorem YG {w:World} :∀(cs:List D) (vs:List Value) (fp:List Nat),XI w cs vs fp→∀v∈vs,v.oneCell=true
 | [],vs,fp,h,v,hv=>by obtain⟨rfl,_⟩:=h;simp at hv
 | c::cs,vs,fp,⟨u,vs',f1,f2,e,_,_,h2,h3⟩,v,hv=>by
  subst e;rcases JrX.1 hv with rfl | hv
  ·exact h3
  ·exact YG cs vs' f2 h2 v hv
theorem UT {w:World} {e:D} {val:Value} {fp:List Nat} (h:Rd w e val fp) (ho :∀u∈val.cells.toList,u.oneCell=true):XI w e.cells val.cells.toList fp:=by
 cases e with
 | g cs=>obtain⟨vs,rfl,h⟩:=h;simpa[D.cells,Value.cells] using h
 | v x =>
  obtain⟨rfl,h1,rfl⟩:=h;have:val.cells = #[val]:=by cases val <;> simp_all [Value.cells,Value.oneCell]
  rw[this];exact⟨val,[],[],[],rfl,rfl,⟨rfl,h1,rfl⟩,⟨rfl,rfl⟩,h1⟩
 | s es =>
  have h':=h;obtain⟨A,cap,rfl,_⟩:=h;exact⟨_,[],fp,[],rfl,by simp,h',⟨rfl,rfl⟩,rfl⟩
 | q cs =>
  have h':=h;obtain⟨b,o,fp',rfl,_⟩:=h;exact⟨_,[],fp,[],rfl,by simp,h',⟨rfl,rfl⟩,rfl⟩
 | f fn caps =>
  have h':=h;obtain⟨vs,rfl,_⟩:=h;exact⟨_,[],fp,[],rfl,by simp,h',⟨rfl,rfl⟩,rfl⟩
 | t cs =>
  obtain⟨vs,rfl,_⟩:=h;have:=ho (.tuple vs.toArray) (by simp[Value.cells]);simp[Value.oneCell] at this
theorem JjQ {w:World} :∀(cs:List D) (vs:List Value) (b o:Nat) (fp:List Nat),XI w cs vs fp→(∀j,j<vs.length→w.cell? ⟨b,o+j,none⟩=vs[j]?)→Jd0 w cs b o fp
 | [],vs,b,o,fp,h,_=>h.2
 | c::cs,vs,b,o,fp,⟨v,vs',f1,f2,e,hf,h1,h2,h3⟩,hc=>by
  subst e;refine⟨v,f1,f2,by simpa using hc 0 (by simp),hf,h1,?_,h3⟩;exact(JjQ cs vs' b (o+1) f2 h2 (fun j hj=>by
   have:=hc (j+1) (by simpa using hj);rw[show o+1+j=o+(j+1) by omega];simpa using this))
theorem Jci {w:World} :∀(es:List D) (sz b o:Nat) (fp:List Nat) (i:Nat) (e:D),Ub w es sz b o fp→es[i]? = some e →
  ∃ val f,Rd w e val f∧val.cells.size=sz∧(∀j,j<sz→w.cell? ⟨b,o+i*sz+j,none⟩=val.cells[j]?)∧(∀c∈f,c∈fp)∧∀u∈val.cells.toList,u.oneCell=true
 | [],_,_,_,_,i,e,_,hi=>by simp at hi
 | e::es,sz,b,o,fp,0,e',⟨val,f1,f2,hf,h1,hsz,hc,h2,h3⟩,hi=>by
  simp at hi;subst hi;subst hf;exact⟨val,f1,h1,hsz,fun j hj=>by simpa using hc j hj,fun c hc=>by simp[hc],h3⟩
 | e::es,sz,b,o,fp,i+1,e',⟨val,f1,f2,hf,h1,hsz,hc,h2,h3⟩,hi=>by
  subst hf;obtain⟨v,f,a1,a2,a3,a4,a5⟩:=Jci es sz b (o+sz) f2 i e' h2 (by simpa using hi);exact⟨v,f,a1,a2,fun j hj=>by rw[show o+(i+1)*sz+j=o+sz+i*sz+j by rw[Nat.succ_mul];omega];exact a3 j hj,fun c hc=>by simp[a4 c hc],a5⟩
theorem Jac {w:World} {x:D} {v:Value} {fp:List Nat} (h:Rd w x v fp):Rd w x.norm v fp:=by
 unfold D.norm;split
 ·obtain⟨rfl,_,rfl⟩:=h;exact⟨none,0,rfl,Nat.le_refl _,.inl ⟨rfl,rfl⟩⟩
 ·exact h
section
variable {w:World}
mutual
theorem YO :∀(d:D) (v:Value) (fp:List Nat),flat d=true→Rd w d v fp→fp=[]
 | .v x,v,fp,_,h=>h.2.2
 | .g cs,v,fp,hf,⟨vs,_,h⟩=>JaJ cs vs fp hf h
 | .t cs,v,fp,hf,⟨vs,_,h⟩=>Jem cs vs fp hf h
 | .s _,v,fp,hf,h=>by simp[flat] at hf
 | .q _,v,fp,hf,h=>by simp[flat] at hf
 | .f _ _,v,fp,hf,h=>by simp[flat] at hf
theorem JaJ :∀(ds:List D) (vs:List Value) (fp:List Nat),Jy ds=true→XI w ds vs fp→fp=[]
 | [],vs,fp,_,h=>h.2
 | d::ds,vs,fp,hf,⟨v,vs',f1,f2,e,hfp,h1,h2,_⟩=>by
  simp only[Jy,JrE] at hf;rw[hfp,YO d v f1 hf.1 h1,JaJ ds vs' f2 hf.2 h2];rfl
theorem Jem :∀(ds:List D) (vs:List Value) (fp:List Nat),Jy ds=true→Kn w ds vs fp→fp=[]
 | [],vs,fp,_,h=>h.2
 | d::ds,vs,fp,hf,⟨v,vs',f1,f2,e,hfp,h1,h2⟩=>by
  simp only[Jy,JrE] at hf;rw[hfp,YO d v f1 hf.1 h1,Jem ds vs' f2 hf.2 h2];rfl
end
end
end Go.Tm
end
section
namespace Go.Tm
open Go.IntKind (i64)
mutual
def Ow (P : Program) (w : World) : D → Kds → Value → List Nat → Prop
  | .v x,_,val,fp=>val=x∧x.oneCell=true∧fp=[]
  | .g cs,ks,val,fp=>∃ vs:List Value,val = .agg vs.toArray∧ZR P w cs ks vs fp
  | .s es,ks,val,fp=>∃ ty sz,ks.head? = some (some (ty,sz))∧((val = .slice none 0 0∧es=[]∧fp=[]) ∨
      ∃ b cap cs fp',val = .slice (some ⟨b,0,none⟩) es.length cap∧es.length≤cap∧cap≤maxLen∧w.heap[b]? = some (.cells cs ty (0,0))∧cap*sz≤cs.size∧fp=b::fp' ∧
        JbS P w es (JF P ty) sz b 0 fp')
  | .q _,_,_,_=>False
  | .f _ _,_,_,_=>False
  | .t _,_,_,_=>False
def ZR (P:Program) (w:World):List D→Kds→List Value→List Nat→Prop
 | [],_,vs,fp=>vs=[]∧fp=[]
 | c::cs,ks,vs,fp=>∃ v vs' f1 f2,vs=v::vs'∧fp=f1++f2∧Ow P w c (ks.take 1) v f1∧ZR P w cs (ks.drop 1) vs' f2∧v.oneCell=true
def JbS (P:Program) (w:World):List D→Kds→Nat→Nat→Nat→List Nat→Prop
 | [],_,_,_,_,fp=>fp=[]
 | e::es,ks,sz,b,o,fp=>∃ val f1 f2,fp=f1++f2∧Ow P w e ks val f1∧val.cells.size=sz ∧
  (∀j,j<sz→w.cell? ⟨b,o+j,none⟩=val.cells[j]?)∧JbS P w es ks sz b (o+sz) f2∧∀u∈val.cells.toList,u.oneCell=true
end
section
variable {P:Program} {w w':World}
mutual
theorem Jkh :∀(x:D) (ks:Kds) (val:Value) (fp:List Nat),Ow P w x ks val fp→Rd w x val fp
 | .v x,ks,val,fp,h=>h
 | .g cs,ks,val,fp,⟨vs,e,h⟩=>⟨vs,e,Uh cs ks vs fp h⟩
 | .s es,ks,val,fp,⟨ty,sz,_,h⟩=>by
  rcases h with ⟨e,rfl,hf⟩ | ⟨b,cap,cs,fp',e,h1,h2,h3,h4,hf,h⟩
  ·exact⟨none,0,e,Nat.le_refl _,.inl ⟨rfl,hf⟩⟩
  ·exact⟨_,cap,e,h1,.inr ⟨b,0,sz,fp',rfl,(JrQ.1 h3).1,hf,JbZ es _ sz b 0 fp' h⟩⟩
theorem Uh :∀(cs:List D) (ks:Kds) (vs:List Value) (fp:List Nat),ZR P w cs ks vs fp→XI w cs vs fp
 | [],_,_,_,h=>h
 | c::cs,ks,vs,fp,⟨v,vs',f1,f2,e,hf,h1,h2,h3⟩=>⟨v,vs',f1,f2,e,hf,Jkh c _ v f1 h1,Uh cs _ vs' f2 h2,h3⟩
theorem JbZ :∀(es:List D) (ks:Kds) (sz b o:Nat) (fp:List Nat),JbS P w es ks sz b o fp→Ub w es sz b o fp
 | [],_,_,_,_,_,h=>h
 | e::es,ks,sz,b,o,fp,⟨val,f1,f2,hf,h1,hsz,hc,h2,h3⟩=>⟨val,f1,f2,hf,Jkh e ks val f1 h1,hsz,hc,JbZ es ks sz b (o+sz) f2 h2,h3⟩
end
mutual
theorem Jaf :∀(x:D) (ks:Kds) (val:Value) (fp:List Nat),(∀b∈fp,w'.heap[b]? = w.heap[b]?)→Ow P w x ks val fp→Ow P w' x ks val fp
 | .v x,ks,val,fp,_,h=>h
 | .g cs,ks,val,fp,hs,⟨vs,e,h⟩=>⟨vs,e,JaE cs ks vs fp hs h⟩
 | .s es,ks,val,fp,hs,⟨ty,sz,hk,h⟩=>by
  refine⟨ty,sz,hk,?_⟩;rcases h with h | ⟨b,cap,cs,fp',e,h1,h2,h3,h4,hf,h⟩
  ·exact .inl h
  ·subst hf;exact .inr ⟨b,cap,cs,fp',e,h1,h2,(hs b (by simp)).trans h3,h4,rfl,Ks es _ sz b 0 fp' (hs b (by simp)) (fun q hq=>hs q (by simp[hq])) h⟩
theorem JaE :∀(cs:List D) (ks:Kds) (vs:List Value) (fp:List Nat),(∀b∈fp,w'.heap[b]? = w.heap[b]?)→ZR P w cs ks vs fp→ZR P w' cs ks vs fp
 | [],_,_,_,_,h=>h
 | c::cs,ks,vs,fp,hs,⟨v,vs',f1,f2,e,hf,h1,h2,h3⟩=>by
  subst hf;exact⟨v,vs',f1,f2,e,rfl,Jaf c _ v f1 (fun b hb=>hs b (by simp[hb])) h1,JaE cs _ vs' f2 (fun b hb=>hs b (by simp[hb])) h2,h3⟩
theorem Ks :∀(es:List D) (ks:Kds) (sz b o:Nat) (fp:List Nat),w'.heap[b]? = w.heap[b]?→(∀b∈fp,w'.heap[b]? = w.heap[b]?)→JbS P w es ks sz b o fp→JbS P w' es ks sz b o fp
 | [],_,_,_,_,_,_,_,h=>h
 | e::es,ks,sz,b,o,fp,hb,hs,⟨val,f1,f2,hf,h1,hsz,hc,h2,h3⟩=>by
  subst hf;exact⟨val,f1,f2,rfl,Jaf e ks val f1 (fun b hb=>hs b (by simp[hb])) h1,hsz,fun j hj=>(JaW hb).trans (hc j hj),Ks es ks sz b (o+sz) f2 hb (fun b hb=>hs b (by simp[hb])) h2,h3⟩
end
theorem JkM {d:D} {v:Value} {fp:List Nat} (ks:Kds) (hf:flat d=true) (ho:v.oneCell=true) (h:Rd w d v fp):Ow P w d ks v fp:=by
 cases d with
 | v x=>exact h
 | g cs=>obtain⟨vs,rfl,_⟩:=h;simp[Value.oneCell] at ho
 | t cs=>obtain⟨vs,rfl,_⟩:=h;simp[Value.oneCell] at ho
 | _=>simp[flat] at hf
theorem JaQ :∀(cs:List D) (ks:Kds) (vs:List Value) (fp:List Nat),Jy cs=true→XI w cs vs fp→ZR P w cs ks vs fp
 | [],_,_,_,_,h=>h
 | c::cs,ks,vs,fp,hf,⟨v,vs',f1,f2,e,hfp,h1,h2,h3⟩=>by
  simp only[Jy,JrE] at hf;exact⟨v,vs',f1,f2,e,hfp,JkM _ hf.1 h3 h1,JaQ cs _ vs' f2 hf.2 h2,h3⟩
theorem Jh9 {e:D} {val:Value} {fp:List Nat} (ks:Kds) (hf:flat e=true) (ho :∀u∈val.cells.toList,u.oneCell=true) (h:Rd w e val fp):Ow P w e ks val fp:=by
 cases e with
 | v x=>exact h
 | g cs =>
  obtain⟨vs,rfl,h⟩:=h;exact⟨vs,rfl,JaQ cs ks vs fp (by simpa[flat] using hf) h⟩
 | t cs =>
  obtain⟨vs,rfl,_⟩:=h;have:=ho (.tuple vs.toArray) (by simp[Value.cells]);simp[Value.oneCell] at this
 | _=>simp[flat] at hf
theorem Jbg :∀(es:List D) (ks:Kds) (sz b o:Nat) (fp:List Nat),Jy es=true→Ub w es sz b o fp→JbS P w es ks sz b o fp
 | [],_,_,_,_,_,_,h=>h
 | e::es,ks,sz,b,o,fp,hf,⟨val,f1,f2,hfp,h1,hsz,hc,h2,h3⟩=>by
  simp only[Jy,JrE] at hf;exact⟨val,f1,f2,hfp,Jh9 ks hf.1 h3 h1,hsz,hc,Jbg es ks sz b (o+sz) f2 hf.2 h2,h3⟩
end
end Go.Tm
end
section
namespace Go.Tm
open Go.IntKind (i64)
structure Gh where
 bl:Key→Option Nat
 hd:Key→Value
 fd:Key→List Nat
 ow:Nat→Option Key
variable {P:Program}
structure Cx (P:Program) where
 w0:World
 A:List Nat
 par:List Nat
 parA :∀b∈par,b∈A
def Obj.rw:Obj→Bool
 | .box _=>true
 | .arr _ _ _ _ rw=>rw
 | .dead=>false
def Obj.dpw:Obj→Bool
 | .arr _ _ _ dp rw=>dp&&rw
 | _=>false
def Blk (g:Gh) (k:Key) (o:Obj) (b:Nat):Prop:=g.bl k=some b∨(o.dpw=true∧b∈g.fd k)
def Mut (g:Gh) (m:Mem) (b:Nat):Prop:=∃ k o,m k=some o∧o.rw=true∧Blk g k o b
def JP (c:Cx P) (g:Gh) (m:Mem) (fp:List Nat):Prop:=∀b∈fp,¬Mut g m b∧(b∈c.A∨c.w0.heap.size≤b)
mutual
def VX (c:Cx P) (g:Gh) (m:Mem) (w:World):X→Value→Prop
 | .d x,v=>∃ fp,Rd w x v fp∧JP c g m fp
 | .g cs,v=>∃ vs:List Value,v = .agg vs.toArray∧VXs c g m w cs vs∧∀u∈vs,u.oneCell=true
 | .t cs,v=>∃ vs:List Value,v = .tuple vs.toArray∧VXs c g m w cs vs
 | .f fn cs,v=>∃ vs:List Value,v = .func (.func fn) #[] vs.toArray∧VXs c g m w cs vs
 | .o k n,v=>v.oneCell=true∧(∃ o,m k=some o∧∀cs,o≠ .box cs)∧∀ty sz es dp rw,m k=some (.arr ty sz es dp rw)→n≤es.length∧(n=es.length→v=g.hd k)
 | .p k off,v=>∃ cs b,m k=some (.box cs)∧g.bl k=some b∧v = .pointer (some ⟨b,off,none⟩)
 | .e k n i off,v=>v.oneCell=true∧(∃ o,m k=some o∧∀cs,o≠ .box cs)∧∀ty sz es dp rw,m k=some (.arr ty sz es dp rw)→n≤es.length∧(n=es.length→∃ b,g.bl k=some b∧v = .pointer (some ⟨b,i*sz+off,none⟩))
 | .u,_=>True
def VXs (c:Cx P) (g:Gh) (m:Mem) (w:World):List X→List Value→Prop
 | [],vs=>vs=[]
 | x::xs,vs=>∃ v vs',vs=v::vs'∧VX c g m w x v∧VXs c g m w xs vs'
end
structure Jb (c:Cx P) (g:Gh) (m:Mem) (w:World) (g':Gh) (m':Mem) (w':World):Prop where
 size:w.heap.size≤w'.heap.size
 pure :∀b,¬Mut g m b→(b∈c.A∨c.w0.heap.size≤b)→b<w.heap.size→w'.heap[b]? = w.heap[b]?∧¬Mut g' m' b
 box :∀k cs,m k=some (.box cs)→(∃ cs',m' k=some (.box cs'))∧g'.bl k=g.bl k
 arr :∀k ty sz es dp rw,m k=some (.arr ty sz es dp rw)→m' k=some .dead∨∃ es' dp' rw',m' k=some (.arr ty sz es' dp' rw') ∧
  ((es'.length=es.length∧g'.hd k=g.hd k∧g'.bl k=g.bl k)∨es.length<es'.length)
 dead :∀k,m k=some .dead→m' k=some .dead
theorem Qj {c:Cx P} {g g':Gh} {m m':Mem} {w w':World} (h:Jb c g m w g' m' w') {fp:List Nat} (hl :∀b∈fp,b<w.heap.size) (hf:JP c g m fp) :
  JP c g' m' fp∧∀b∈fp,w'.heap[b]? = w.heap[b]? :=
 ⟨fun b hb=>⟨(h.pure b (hf b hb).1 (hf b hb).2 (hl b hb)).2,(hf b hb).2⟩,fun b hb=>(h.pure b (hf b hb).1 (hf b hb).2 (hl b hb)).1⟩
mutual
theorem Qv {c:Cx P} {g g':Gh} {m m':Mem} {w w':World} (h:Jb c g m w g' m' w') :∀(x:X) (v:Value),VX c g m w x v→VX c g' m' w' x v
 | .d x,v,⟨fp,hr,hf⟩ =>
  have:=Qj h (Jax x v fp hr) hf
  ⟨fp,Vo x v fp h.size this.2 hr,this.1⟩
 | .g cs,v,⟨vs,e,hv,h1⟩=>⟨vs,e,Qe h cs vs hv,h1⟩
 | .t cs,v,⟨vs,e,hv⟩=>⟨vs,e,Qe h cs vs hv⟩
 | .f fn cs,v,⟨vs,e,hv⟩=>⟨vs,e,Qe h cs vs hv⟩
 | .o k n,v,⟨h1c,⟨o,ho,hb⟩,hv⟩=>by
  cases o with
  | box cs=>exact absurd rfl (hb cs)
  | dead=>exact⟨h1c,⟨.dead,h.dead k ho,by simp⟩,fun ty sz es dp rw e=>by rw[h.dead k ho] at e;cases e⟩
  | arr ty sz es dp rw =>
   obtain⟨h1,h2⟩:=hv ty sz es dp rw ho;rcases h.arr k ty sz es dp rw ho with e | ⟨es',dp',rw',e,hh⟩
   ·exact⟨h1c,⟨_,e,by simp⟩,fun ty sz es dp rw e'=>by rw[e] at e';cases e'⟩
   ·refine⟨h1c,⟨_,e,by simp⟩,fun ty1 sz1 es1 dp1 rw1 e'=>?_⟩;rw[e] at e';cases e';rcases hh with ⟨a,b,_⟩ | a
    ·exact⟨by omega,fun hn=>by rw[b];exact h2 (by omega)⟩
    ·exact⟨by omega,fun hn=>by omega⟩
 | .p k off,v,⟨cs,b,hm,hb,hv⟩=>by
  obtain⟨⟨cs',e⟩,e'⟩:=h.box k cs hm;exact⟨cs',b,e,e'.trans hb,hv⟩
 | .e k n i off,v,⟨h1c,⟨o,ho,hb⟩,hv⟩=>by
  cases o with
  | box cs=>exact absurd rfl (hb cs)
  | dead=>exact⟨h1c,⟨.dead,h.dead k ho,by simp⟩,fun ty sz es dp rw e=>by rw[h.dead k ho] at e;cases e⟩
  | arr ty sz es dp rw =>
   obtain⟨h1,h2⟩:=hv ty sz es dp rw ho;rcases h.arr k ty sz es dp rw ho with e | ⟨es',dp',rw',e,hh⟩
   ·exact⟨h1c,⟨_,e,by simp⟩,fun ty sz es dp rw e'=>by rw[e] at e';cases e'⟩
   ·refine⟨h1c,⟨_,e,by simp⟩,fun ty1 sz1 es1 dp1 rw1 e'=>?_⟩;rw[e] at e';cases e';rcases hh with ⟨a,b,d⟩ | a
    ·exact⟨by omega,fun hn=>by rw[d];exact h2 (by omega)⟩
    ·exact⟨by omega,fun hn=>by omega⟩
 | .u,_,_=>trivial
theorem Qe {c:Cx P} {g g':Gh} {m m':Mem} {w w':World} (h:Jb c g m w g' m' w') :∀(xs:List X) (vs:List Value),VXs c g m w xs vs→VXs c g' m' w' xs vs
 | [],_,e=>e
 | x::xs,vs,⟨v,vs',e,h1,h2⟩=>⟨v,vs',e,Qv h x v h1,Qe h xs vs' h2⟩
end
def V4 (w:World) (g:Gh) (k:Key) (ty:TypeId) (sz:Nat) (es:List D):Prop :=
 (g.bl k=none∧g.hd k=Qd∧es=[]∧g.fd k=[]) ∨
 ∃ b cap cs,g.bl k=some b∧g.hd k = .slice (some ⟨b,0,none⟩) es.length cap∧es.length≤cap∧cap≤maxLen ∧
  w.heap[b]? = some (.cells cs ty (0,0))∧cap*sz≤cs.size∧Ub w es sz b 0 (g.fd k)
structure Yi (c:Cx P) (w:World):Prop where
 os:w.os=c.w0.os
 tape:w.tape=c.w0.tape
 output:w.output=c.w0.output
 size:c.w0.heap.size≤w.heap.size
 block :∀b,b<c.w0.heap.size→b∉c.par→w.heap[b]? = c.w0.heap[b]?
structure Sim (c:Cx P) (g:Gh) (m:Mem) (w:World):Prop where
 frame:Yi c w
 box :∀k cs,m k=some (.box cs)→∃ b vs ty,g.bl k=some b∧w.heap[b]? = some (.cells vs.toArray ty (0,0))∧VXs c g m w cs vs∧∀u∈vs,u.oneCell=true
 arr :∀k ty sz es dp rw,m k=some (.arr ty sz es dp rw)→V4 w g k ty sz es∧((dp&&rw)=false→JP c g m (g.fd k))∧(rw=false→∀b,g.bl k=some b→JP c g m [b])
 deep :∀k ty sz es,m k=some (.arr ty sz es true true)→(g.fd k).Nodup∧∀b,g.bl k=some b→b∉g.fd k∧JbS P w es (JF P ty) sz b 0 (g.fd k)
 own :∀k o b,m k=some o→o.rw=true→Blk g k o b→g.ow b=some k
 live :∀b k,g.ow b=some k→b<w.heap.size∧(c.w0.heap.size≤b∨b∈c.par)
structure Fix (P:Program) where
 S:List Nat
 I:World→Prop
 lt :∀w,I w→∀b∈S,b<w.heap.size
 keep :∀w w',I w→(∀b∈S,w'.heap[b]? = w.heap[b]?)→I w'
def Fix.none (P:Program):Fix P:=⟨[],fun _=>True,fun _ _ _ h=>by simp at h,fun _ _ _ _=>trivial⟩
def Fix.ok (Φ:Fix P) (c:Cx P):Prop:=Φ.I c.w0∧∀b∈Φ.S,b∉c.par
theorem Sim.inv {Φ:Fix P} {c:Cx P} {g:Gh} {m:Mem} {w:World} (hS:Sim c g m w) (h:Φ.ok c):Φ.I w :=
 Φ.keep c.w0 w h.1 fun b hb=>hS.frame.block b (Φ.lt _ h.1 b hb) (h.2 b hb)
end Go.Tm
end
section
namespace Go.Tm
open Go.IntKind (i64)
theorem XY {α:Type} {P:Program} :∀(e:Sem α) (a:α) (w:World),JC P e=some a→e.run P w = .ok a w
 | .pure a,b,w,h=>by simp only[JC,JrD] at h;subst h;rfl
 | .program k,b,w,h=>by simp only[JC] at h;exact XY (k P) b w h
 | .load _ _ _,_,_,h | .store _ _ _ _,_,_,h | .new _ _,_,_,h | .shape _ _,_,_,h | .freeze _ _ _,_,_,h | .frozen _ _,_,_,h
 | .getObj _ _,_,_,h | .setObj _ _ _,_,_,h | .choose _ _,_,_,h | .sys _ _,_,_,h | .mark _ _,_,_,h | .halt _,_,_,h=>by simp[JC] at h
theorem MP.run_bind {α β:Type} (h:α→MP β) :∀(x:MP α) (m:Mem),(x.bind h).run m=match x.run m with
  | some (a,m')=>(h a).run m'
  | none=>none
 | .ret a,m=>rfl
 | .fail,m=>rfl
 | .get k c,m=>by
  simp only[MP.bind,MP.run];cases m k with
  | none=>rfl
  | some o=>exact MP.run_bind h (c o) m
 | .put k o c,m=>by
  simp only[MP.bind,MP.run];cases m k with
  | none=>rfl
  | some _=>exact MP.run_bind h c _
 | .new k o c,m=>by
  simp only[MP.bind,MP.run];cases m k with
  | none=>exact MP.run_bind h c _
  | some _=>rfl
theorem MP.bind_some {α β:Type} {h:α→MP β} {x:MP α} {m:Mem} {r:β×Mem} (e:(x.bind h).run m=some r) :
  ∃ a m',x.run m=some (a,m')∧(h a).run m'=some r:=by
 rw[MP.run_bind] at e;cases hx:x.run m with
 | none=>rw[hx] at e;cases e
 | some p=>obtain⟨a,m'⟩:=p;rw[hx] at e;exact⟨a,m',rfl,e⟩
theorem MP.get_some {α:Type} {k:Key} {c:Obj→MP α} {m:Mem} {r:α×Mem} (e:(MP.get k c).run m=some r) :
  ∃ o,m k=some o∧(c o).run m=some r:=by
 simp only[MP.run] at e;cases h:m k with
 | none=>rw[h] at e;cases e
 | some o=>rw[h] at e;exact⟨o,rfl,e⟩
section
variable {P:Program} {c:Cx P} {g:Gh} {m:Mem} {w:World}
theorem Jb.refl (c:Cx P) (g:Gh) (m:Mem) (w:World):Jb c g m w g m w :=
 ⟨Nat.le_refl _,fun b h _ _=>⟨rfl,h⟩,fun k cs h=>⟨⟨cs,h⟩,rfl⟩,fun k ty sz es dp rw h=> .inr ⟨es,dp,rw,h,.inl ⟨rfl,rfl,rfl⟩⟩,fun _ h=>h⟩
theorem Jko :∀(cs:List D) (vs:List Value) (fp:List Nat),XI w cs vs fp→JP c g m fp→VXs c g m w (cs.map X.d) vs
 | [],_,_,h,_=>h.1
 | _::ds,_,_,⟨v,vs',f1,f2,e,hf,h1,h2,_⟩,ho=>by
  subst hf;exact⟨v,vs',e,⟨f1,h1,fun b hb=>ho b (by simp[hb])⟩,Jko ds vs' f2 h2 (fun b hb=>ho b (by simp[hb]))⟩
theorem Jg8 (deep:Bool) :∀(cs:List D) (vs:List Value) (fp:List Nat),XI w cs vs fp→(deep=false→JP c g m fp)→VXs c g m w (Jf2 deep cs) vs
 | [],_,_,h,_=>h.1
 | d::ds,_,_,⟨v,vs',f1,f2,e,hf,h1,h2,_⟩,ho=>by
  subst hf;have ih:=Jg8 deep ds vs' f2 h2 (fun hd b hb=>ho hd b (by simp[hb]));refine⟨v,vs',e,?_,ih⟩;show VX c g m w (if deep && !flat d then .u else .d d) v;cases hd:deep with
  | false=>exact⟨f1,h1,fun b hb=>ho hd b (by simp[hb])⟩
  | true =>
   cases hf:flat d with
   | false=>trivial
   | true=>exact⟨f1,h1,fun b hb=>by rw[YO d v f1 hf h1] at hb;simp at hb⟩
theorem JfX :∀(x:D) (v:Value) (fp:List Nat),Rd w x v fp→JP c g m fp→VX c g m w (X.ofD1 x) v:=by
 intro x v fp h ho;cases x with
 | g cs =>
  obtain⟨vs,rfl,h⟩:=h;exact⟨vs,rfl,Jko cs vs fp h ho,YG cs vs fp h⟩
 | v x=>exact⟨fp,h,ho⟩
 | s es=>exact⟨fp,h,ho⟩
 | q cs=>exact⟨fp,h,ho⟩
 | f fn caps=>exact⟨fp,h,ho⟩
 | t cs=>exact⟨fp,h,ho⟩
theorem Jcs :∀(cs:List D) (vs:List Value) (fp:List Nat),Kn w cs vs fp→JP c g m fp→VXs c g m w (cs.map X.ofD1) vs
 | [],vs,fp,h,_=>h.1
 | d::ds,vs,fp,⟨v,vs',f1,f2,e,hf,h1,h2⟩,ho=>by
  subst hf;exact⟨v,vs',e,JfX d v f1 h1 (fun b hb=>ho b (by simp[hb])),Jcs ds vs' f2 h2 (fun b hb=>ho b (by simp[hb]))⟩
theorem Jms (x:D) (v:Value) (fp:List Nat) (h:Rd w x v fp) (ho:JP c g m fp):VX c g m w (X.ofD x) v:=by
 cases x with
 | t cs=>obtain⟨vs,rfl,h⟩:=h;exact⟨vs,rfl,Jcs cs vs fp h ho⟩
 | g cs=>exact JfX (.g cs) v fp h ho
 | v x=>exact⟨fp,h,ho⟩
 | s es=>exact⟨fp,h,ho⟩
 | q cs=>exact⟨fp,h,ho⟩
 | f fn caps=>exact⟨fp,h,ho⟩
theorem JbD :∀(cs:List D) (b o:Nat) (fp:List Nat),Jd0 w cs b o fp→JP c g m fp →
  ∃ vs:List Value,vs.length=cs.length∧VXs c g m w (cs.map X.d) vs∧(∀j v,vs[j]? = some v→w.cell? ⟨b,o+j,none⟩=some v)∧∀u∈vs,u.oneCell=true
 | [],b,o,fp,_,_=>⟨[],rfl,rfl,by simp,by simp⟩
 | d::ds,b,o,fp,⟨v,f1,f2,hc,hf,h1,h2,h3⟩,ho=>by
  subst hf;obtain⟨vs,hl,hv,hcs,hone⟩:=JbD ds b (o+1) f2 h2 (fun b hb=>ho b (by simp[hb]));refine⟨v::vs,by simp[hl],⟨v,vs,rfl,⟨f1,h1,fun b hb=>ho b (by simp[hb])⟩,hv⟩,fun j u hj=>?_,fun u hu=>(JrX.1 hu).elim (fun e=>e▸h3) (hone u)⟩;cases j with
  | zero=>simpa using hj▸hc
  | succ j =>
   have:=hcs j u (by simpa using hj);rw[show o+(j+1)=o+1+j by omega];exact this
theorem Qr :∀(xs:List X) (vs:List Value),VXs c g m w xs vs→vs.length=xs.length
 | [],vs,h=>by rw[show vs=[] from h];rfl
 | x::xs,vs,⟨v,vs',e,_,h⟩=>by subst e;simp[Qr xs vs' h]
theorem Jgg :∀(xs:List X) (vs:List Value) (i:Nat) (x:X),VXs c g m w xs vs→xs[i]? = some x→∃ v,vs[i]? = some v∧VX c g m w x v
 | [],_,i,x,_,h=>by simp at h
 | y::ys,vs,0,x,⟨v,vs',e,h1,_⟩,h=>by subst e;simp at h;subst h;exact⟨v,rfl,h1⟩
 | y::ys,vs,i+1,x,⟨v,vs',e,_,h2⟩,h=>by subst e;simpa using Jgg ys vs' i x h2 (by simpa using h)
theorem Ko :∀(n:Nat) (xs:List X) (vs:List Value),VXs c g m w xs vs→VXs c g m w (xs.drop n) (vs.drop n)
 | 0,_,_,h=>h
 | n+1,[],vs,h=>by rw[show vs=[] from h];rfl
 | n+1,x::xs,vs,⟨v,vs',e,_,h2⟩=>by subst e;simpa using Ko n xs vs' h2
theorem Jam :∀(n:Nat) (xs:List X) (vs:List Value),VXs c g m w xs vs→VXs c g m w (xs.take n) (vs.take n)
 | 0,_,_,_=>by simp[VXs]
 | n+1,[],vs,h=>by rw[show vs=[] from h];simp[VXs]
 | n+1,x::xs,vs,⟨v,vs',e,h1,h2⟩=>by subst e;exact⟨v,vs'.take n,by simp,h1,Jam n xs vs' h2⟩
theorem Zp :∀(xs:List X) (vs:List Value) (ys:List X) (us:List Value),VXs c g m w xs vs→VXs c g m w ys us→VXs c g m w (xs++ys) (vs++us)
 | [],vs,ys,us,h,h'=>by rw[show vs=[] from h];exact h'
 | x::xs,vs,ys,us,⟨v,vs',e,h1,h2⟩,h'=>by subst e;exact⟨v,vs'++us,rfl,h1,Zp xs vs' ys us h2 h'⟩
theorem V0 {b o:Nat} {vs:List Value} {ty:TypeId} {fz:Nat×Nat} (h:w.heap[b]? = some (.cells vs.toArray ty fz)):w.cell? ⟨b,o,none⟩=vs[o]?:=by
 simp[World.cell?,h]
theorem V2 {x:X} {v:Value} {cs:List X} {m':Mem} (hS:Sim c g m w) (hx:VX c g m w x v) (h:(YT x).run m=some (cs,m')) :
  m'=m∧((∃ b off vs,v = .pointer (some ⟨b,off,none⟩)∧VXs c g m w cs vs∧(∀j u,vs[j]? = some u→w.cell? ⟨b,off+j,none⟩=some u)∧∀u∈vs,u.oneCell=true)):=by
 cases x with
 | d x =>
  cases x with
  | q ds =>
   simp only[YT,MP.run,JrD,JrV] at h;obtain⟨rfl,rfl⟩:=h;obtain⟨fp,⟨b,o,fp',rfl,hb,rfl,hr⟩,ho⟩:=hx;obtain⟨vs,_,h1,h2,h3⟩:=JbD ds b o fp' hr (fun b hb=>ho b (by simp[hb]));exact⟨rfl,b,o,vs,rfl,h1,h2,h3⟩
  | _=>simp[YT,MP.run] at h
 | p k off =>
  obtain⟨o,ho,h⟩:=MP.get_some h;obtain⟨cs0,b,hm,hb,rfl⟩:=hx;rw[ho] at hm;cases hm;simp only[MP.run,JrD,JrV] at h;obtain⟨rfl,rfl⟩:=h;obtain⟨b',vs,ty,hb',hh,hv,hone⟩:=hS.box k cs0 ho;rw[hb] at hb';cases hb';refine⟨rfl,b,off,vs.drop off,rfl,Ko off cs0 vs hv,fun j u hj=>?_,fun u hu=>hone u (List.mem_of_mem_drop hu)⟩;rw[V0 hh];simpa using hj
 | e k n i off =>
  obtain⟨o,ho,h⟩:=MP.get_some h;cases o with
  | arr ty sz es dp rw =>
   simp only at h;cases hi:es[i]? with
   | none=>simp[hi,MP.run] at h
   | some e =>
    simp only[hi] at h;split at h
    ·rename_i hn;simp only[MP.run,JrD,JrV] at h;obtain⟨rfl,rfl⟩:=h;obtain⟨b,hb,rfl⟩:=(hx.2.2 ty sz es dp rw ho).2 hn;obtain⟨harr,hok,_⟩:=hS.arr k ty sz es dp rw ho;rcases harr with ⟨_,_,rfl,_⟩ | ⟨b',cap,cur,hb',_,_,_,hh,hcs,hr⟩
     ·simp at hi
     rw[hb] at hb';cases hb';obtain⟨val,f,h1,h2,h3,h4,h5⟩:=Jci es sz b 0 (g.fd k) i e hr hi;have hv:=Jg8 (dp&&rw) e.cells val.cells.toList f (UT h1 h5) (fun hd b hb=>hok hd b (h4 b hb));refine⟨rfl,b,i*sz+off,val.cells.toList.drop off,rfl,?_,fun j u hj=>?_,fun u hu=>h5 u (List.mem_of_mem_drop hu)⟩
     ·exact Ko off _ _ hv
     ·rw[List.getElem?_drop] at hj;have hlt:off+j<sz:=by
       rw[←h2];have:=(JrF.1 hj).1;simpa using this
      have:=h3 (off+j) hlt;rw[Nat.zero_add] at this;rw[show i*sz+off+j=i*sz+(off+j) by omega,this];simpa using hj
    ·simp[MP.run] at h
  | _=>simp[MP.run] at h
 | _=>simp[YT,MP.run] at h
end
end Go.Tm
end
section
namespace Go.Tm
open Go.IntKind (i64)
section
variable {P:Program} {c:Cx P} {g:Gh} {m:Mem} {w:World} {a:Act} {sl:QI} {o:Oper}
def Qi (P:Program) (c:Cx P) (g:Gh) (m:Mem) (w:World) (a:Act) (o:Oper) (x:X) (m':Mem):Prop :=
 o.wp P a w (fun a' w'=>∃ v g',a'=a.put o.dst v∧Sim c g' m' w'∧Jb c g m w g' m' w'∧VX c g' m' w' x v) fun _ _ _=>False
theorem Qi.value {x:X} {m':Mem} {v:Value} {w':World} {g':Gh} (h:(execOp a.eval o).run P w = .ok (.value v) w') (hS:Sim c g' m' w') (hC:Jb c g m w g' m' w')
  (hx:VX c g' m' w' x v):Qi P c g m w a o x m':=by
 unfold Qi Oper.wp;rw[h];exact⟨v,g',rfl,hS,hC,hx⟩
theorem Qi.look {x:X} {v:Value} (h:(execOp a.eval o).run P w = .ok (.value v) w) (hS:Sim c g m w) (hx:VX c g m w x v):Qi P c g m w a o x m :=
 .value h hS (.refl _ _ _ _) hx
theorem Qi.skip {m':Mem} {w':World} {g':Gh} (h:(execOp a.eval o).run P w = .ok .skip w') (hS:Sim c g' m' w') (hC:Jb c g m w g' m' w') :
  Qi P c g m w a o .u m':=by
 unfold Qi Oper.wp;rw[h];exact⟨undef,g',rfl,hS,hC,trivial⟩
def Jm (c:Cx P) (g:Gh) (m:Mem) (w:World) (sl:QI) (a:Act):Prop:=∀t,VX c g m w (sl t) (a.tmps.getD t undef)
theorem oX1 (h:Jm c g m w sl a) :∀x:Operand,VX c g m w (opX sl x) (a.eval x)
 | .tmp t=>h t
 | .const v=>by
  simp only[opX];split
  ·rename_i hv;exact⟨[],⟨rfl,hv,rfl⟩,fun b hb=>by simp at hb⟩
  ·trivial
 | .func f=>⟨[],rfl,rfl⟩
 | .global _=>trivial
theorem Uv {t:TypeId} {b:Bool} (h:Ys P t=some b):(isAgg t).run P w = .ok b w:=by
 unfold Ys at h;unfold isAgg;cases hu:P.underlying t with
 | none=>simp[hu] at h
 | some d =>
  rw[hu] at h;cases d <;> simp at h <;> subst h <;> simp[underlying,hu]
theorem KL {t:TypeId} {n:Nat} (h:Qm P t=some n) : ∃ i,P.info? t=some i∧i.size=n:=by
 unfold Qm tz at h;cases hi:P.info? t with
 | none=>simp[hi] at h
 | some i=>simp[hi] at h;exact⟨i,rfl,h⟩
theorem Xn {t:TypeId} {n:Nat} (h:Qm P t=some n):(sizeOf t).run P w = .ok n w:=by
 obtain⟨i,hi,rfl⟩:=KL h;simp[sizeOf,typeInfo,hi]
theorem JM {t e:TypeId} (h:JK P t=some e):P.underlying t=some (.slice e):=by
 unfold JK at h;split at h
 ·rename_i h';simp at h;subst h;exact h'
 ·cases h
theorem ZO {t:TypeId} {z:List Value} (h:J6 P t=some z) : ∃ i v,P.info? t=some i∧i.zero=some v∧v.cells.toList=z:=by
 unfold J6 tz at h;cases hi:P.info? t with
 | none=>simp[hi] at h
 | some i =>
  simp[hi] at h;obtain⟨v,hv,rfl⟩:=h;exact⟨i,v,rfl,hv,by simp⟩
theorem Yg (b o n:Nat):(⟨b,o,none⟩:Addr).add n=⟨b,o+n,none⟩:=by
 unfold Addr.add;split
 ·rename_i h;subst h;rfl
 ·rfl
theorem JbA {t:TypeId} {x y:X} {v:Value} {m':Mem} (hS:Sim c g m w) (hx:VX c g m w x v) (h:(Jfh P t x).run m=some (y,m')) :
  m'=m∧∃ u,(Instr.loadAt t v).run P w = .ok u w∧VX c g m w y u:=by
 unfold Jfh at h;split at h
 ·rename_i n ha hn;obtain⟨cs,m1,h1,h2⟩:=MP.bind_some h;obtain⟨rfl,b,off,vs,rfl,hv,hc,hone⟩:=V2 hS hx h1;split at h2
  ·rename_i hle;simp only[MP.run,JrD,JrV] at h2;obtain⟨rfl,rfl⟩:=h2;have hl:=Qr cs vs hv;refine⟨rfl,.agg (vs.take n).toArray,?_,vs.take n,rfl,Jam n cs vs hv,fun u hu=>hone u (Jr2 hu)⟩;have hr:=run_loadCells_list (P:=P) (w:=w) ⟨b,off,none⟩ (vs.take n) (fun j u hj=>by
    rw[Yg];rw[List.getElem?_take] at hj;split at hj
    ·exact hc j u hj
    ·cases hj)
   have hlen:(vs.take n).length=n:=by rw[JrT];omega
   rw[hlen] at hr;simp[Instr.loadAt,Instr.sureAddr,loadVar,Uv ha,Xn hn,hr]
  ·simp[MP.run] at h2
 ·rename_i n ha hn;obtain⟨cs,m1,h1,h2⟩:=MP.bind_some h;obtain⟨rfl,b,off,vs,rfl,hv,hc,hone⟩:=V2 hS hx h1;cases cs with
  | nil=>simp[MP.run] at h2
  | cons x xs =>
   simp only[MP.run,JrD,JrV] at h2;obtain⟨rfl,rfl⟩:=h2;obtain⟨u,us,rfl,hu,_⟩:=hv;refine⟨rfl,u,?_,hu⟩;have:=hc 0 u rfl;simp only[Nat.add_zero] at this;simp[Instr.loadAt,Instr.sureAddr,loadVar,Uv ha,this]
 ·simp[MP.run] at h
theorem Ky {r:Option Value} {y:X} {m':Mem} (h:(KH r).run m=some (y,m')) : ∃ v,r=some v∧v.oneCell=true∧y = .d (.v v)∧m'=m:=by
 cases r with
 | none=>simp[KH,MP.run] at h
 | some v =>
  simp only[KH] at h;split at h
  ·rename_i hv;simp only[MP.run,JrD,JrV] at h;exact⟨v,rfl,hv,h.1.symm,h.2.symm⟩
  ·simp[MP.run] at h
theorem JdJ {v:Value} (h:v.oneCell=true):VX c g m w (.d (.v v)) v:=⟨[],⟨rfl,h,rfl⟩,fun b hb=>by simp at hb⟩
theorem JW {x v:Value} (h:VX c g m w (.d (.v x)) v):v=x∧x.oneCell=true:=by
 obtain⟨fp,⟨rfl,h1,_⟩,_⟩:=h;exact⟨rfl,h1⟩
theorem Yv {v:Value} (h:v.oneCell=true):v.cells = #[v]:=by cases v <;> simp_all [Value.cells,Value.oneCell]
theorem X7 {x:X} {v:Value} {cs:List X} (hx:VX c g m w x v) (h:x.cells=some cs):VXs c g m w cs v.cells.toList∧∀u∈v.cells.toList,u.oneCell=true:=by
 have one :∀{y:X} {u:Value},VX c g m w y u→u.oneCell=true→VXs c g m w [y] u.cells.toList∧∀z∈u.cells.toList,z.oneCell=true:=fun hy hu=>by
  rw[Yv hu];exact⟨⟨_,[],rfl,hy,rfl⟩,by simpa using hu⟩
 cases x with
 | d x =>
  cases x with
  | g ds=>simp[X.cells] at h;subst h;obtain⟨fp,⟨vs,rfl,hr⟩,ho⟩:=hx;exact⟨by simpa[Value.cells] using Jko ds vs fp hr ho,by simpa[Value.cells] using YG ds vs fp hr⟩
  | t ds=>simp[X.cells] at h
  | v u=>simp[X.cells] at h;subst h;have h':=hx;obtain⟨fp,⟨rfl,h1,_⟩,_⟩:=hx;exact one h' h1
  | s es=>simp[X.cells] at h;subst h;have h':=hx;obtain⟨fp,⟨A,cap,rfl,_⟩,_⟩:=hx;exact one h' rfl
  | q cs=>simp[X.cells] at h;subst h;have h':=hx;obtain⟨fp,⟨b,o,fp',rfl,_⟩,_⟩:=hx;exact one h' rfl
  | f fn cs=>simp[X.cells] at h;subst h;have h':=hx;obtain⟨fp,⟨vs,rfl,_⟩,_⟩:=hx;exact one h' rfl
 | g ds=>simp[X.cells] at h;subst h;obtain⟨vs,rfl,hr,h1⟩:=hx;exact⟨by simpa[Value.cells] using hr,by simpa[Value.cells] using h1⟩
 | o k n=>simp[X.cells] at h;subst h;exact one hx hx.1
 | p k off=>simp[X.cells] at h;subst h;have h':=hx;obtain⟨_,_,_,_,rfl⟩:=hx;exact one h' rfl
 | e k n i off=>simp[X.cells] at h;subst h;exact one hx hx.1
 | f fn cs=>simp[X.cells] at h;subst h;have h':=hx;obtain⟨vs,rfl,_⟩:=hx;exact one h' rfl
 | t cs=>simp[X.cells] at h
 | u=>simp[X.cells] at h
theorem Jh5 {α:Type} (xs:List α) (i:Nat) (v:α) (l:List α) (h:i<xs.length):Jd (xs.set i v) (i+1) l=Jd xs i (v::l):=by
 have h1:(xs.set i v).take (i+1)=xs.take i++[v]:=by
  rw[List.take_succ_eq_append_getElem (by simpa using h),List.take_set_of_le (Nat.le_refl i)];simp
 have h2:(xs.set i v).drop (i+1+l.length)=xs.drop (i+(v::l).length):=by
  rw[List.drop_set_of_lt (by omega)];congr 1;simp;omega
 unfold Jd;rw[h1,h2];simp
theorem Vy (off:Nat) :∀(l:List Value) (k:Nat) (arr:Array Value),off+k+l.length≤arr.size →
  ((l.zipIdx k).foldl (fun cs p=>cs.setIfInBounds (off+p.2) p.1) arr).toList=Jd arr.toList (off+k) l
 | [],k,arr,_=>by simp[Jd]
 | v::l,k,arr,h=>by
  simp only[List.length_cons] at h;rw[List.zipIdx_cons,List.foldl_cons,Vy off l (k+1) _ (by simp;omega),Array.toList_setIfInBounds,
   show off+(k+1)=off+k+1 by omega,Jh5 _ _ _ _ (by simp;omega)]
theorem JcF {cs vs:List X} {us ws:List Value} {off:Nat} (h:VXs c g m w cs us) (h':VXs c g m w vs ws):VXs c g m w (Jd cs off vs) (Jd us off ws):=by
 have:=Qr vs ws h';unfold Jd;rw[this];exact Zp _ _ _ _ (Zp _ _ _ _ (Jam off cs us h) h') (Ko _ cs us h)
theorem JbE {pl:List (Nat×Nat)} :∀(ps:List (Nat×X)) (qs:List (Nat×Value)) (cs:List X) (arr:Array Value) (cs':List X),
  qs.length=ps.length→(∀(i:Nat) (p:Nat×X) (q:Nat×Value),ps[i]? = some p→qs[i]? = some q→p.1=q.1∧VX c g m w p.2 q.2)→VXs c g m w cs arr.toList→(∀u∈arr.toList,u.oneCell=true)→Jcm pl cs ps=some cs' →
  ∃ arr',Instr.fill (pl.toArray[·]?) arr qs=some arr'∧VXs c g m w cs' arr'.toList∧∀u∈arr'.toList,u.oneCell=true
 | [],[],cs,arr,cs',_,_,hv,ho,h=>by simp[Jcm] at h;subst h;exact⟨arr,rfl,hv,ho⟩
 | [],_::_,_,_,_,hl,_,_,_,_=>by simp at hl
 | _::_,[],_,_,_,hl,_,_,_,_=>by simp at hl
 | (i,x)::ps,(j,v)::qs,cs,arr,cs',hl,hr,hv,ho,h=>by
  obtain⟨hij,hx⟩:=hr 0 _ _ rfl rfl;simp only at hij;subst hij;simp only[Jcm] at h;split at h
  ·rename_i off n vs hp hc;split at h
   ·rename_i hn;obtain⟨hcs,hone⟩:=X7 hx hc;have hlen:=Qr _ _ hcs;have hcl:=Qr _ _ hv;simp only[JrO] at hlen hcl;have hp':pl.toArray[i]? = some (off,n):=by simpa using hp
    have hfold:=Vy off v.cells.toList 0 arr (by simp;omega);have hv':=JcF (off:=off) hv hcs;have e:(v.cells.zipIdx.foldl (fun cs p=>cs.setIfInBounds (off+p.2) p.1) arr).toList=Jd arr.toList off v.cells.toList:=by
     rw[←Array.foldl_toList,Array.toList_zipIdx];simpa using hfold
    obtain⟨arr',h1,h2⟩:=JbE ps qs _ (v.cells.zipIdx.foldl (fun cs p=>cs.setIfInBounds (off+p.2) p.1) arr) cs' (by simpa using hl)
     (fun k p q a b=>hr (k+1) p q (by simpa using a) (by simpa using b)) (e▸hv') (by
      rw[e];intro u hu;unfold Jd at hu;rcases JrJ.1 hu with hu | hu
      ·rcases JrJ.1 hu with hu | hu
       ·exact ho u (Jr2 hu)
       ·exact hone u hu
      ·exact ho u (List.mem_of_mem_drop hu)) h
    refine⟨arr',?_,h2⟩;simp only[Instr.fill,hp'];rw[if_neg (by simp;omega)];exact h1
   ·cases h
  ·cases h
end
end Go.Tm
end
section
namespace Go.Tm
open Go.IntKind (i64)
section
variable {P:Program} {T:Tab} {G:JQ} {c:Cx P} {g:Gh} {m m':Mem} {w:World} {a:Act} {sl:QI} {o:Oper} {x:X}
theorem Jll (hS:Sim c g m w) (hsl:Jm c g m w sl a) {op:BinOp} {t t':TypeId} {p q:Operand} (ho:o.op = .binOp op t p q t')
  (h:(opM P T G sl o).run m=some (x,m')):Qi P c g m w a o x m':=by
 unfold opM at h;rw[ho] at h;simp only at h;have hp:=oX1 hsl p;have hq:=oX1 hsl q;split at h
 ·rename_i u v e1 e2;obtain⟨r,hr,h1,rfl,rfl⟩:=Ky h;rw[e1] at hp;rw[e2] at hq;have hu:=(JW hp).1;have hv:=(JW hq).1;refine .look (v:=r) ?_ hS (JdJ h1);have:=XY _ _ w hr;unfold execOp;rw[ho];simp only[hu,hv];simp only[Sem.run_bind] at this ⊢;rw[this];rfl
 ·simp[MP.run] at h
theorem JnO (hS:Sim c g m w) (hsl:Jm c g m w sl a) {op:UnOp} {t:TypeId} {p:Operand} (ho:o.op = .unOp op t p)
  (h:(opM P T G sl o).run m=some (x,m')):Qi P c g m w a o x m':=by
 unfold opM at h;rw[ho] at h;simp only at h;have hp:=oX1 hsl p;split at h
 ·rename_i u e1;obtain⟨r,hr,h1,rfl,rfl⟩:=Ky h;rw[e1] at hp;have hu:=(JW hp).1;refine .look (v:=r) ?_ hS (JdJ h1);have:=XY _ _ w hr;unfold execOp;rw[ho];simp only[hu,Sem.run_bind,this];rfl
 ·simp[MP.run] at h
theorem JhY (hS:Sim c g m w) (hsl:Jm c g m w sl a) {s d:TypeId} {p:Operand} (ho:o.op = .convert s d p)
  (h:(opM P T G sl o).run m=some (x,m')):Qi P c g m w a o x m':=by
 unfold opM at h;rw[ho] at h;simp only at h;have hp:=oX1 hsl p;split at h
 ·rename_i u e1;obtain⟨r,hr,h1,rfl,rfl⟩:=Ky h;rw[e1] at hp;have hu:=(JW hp).1;refine .look (v:=r) ?_ hS (JdJ h1);have:=XY _ _ w hr;unfold execOp;rw[ho];simp only[hu,Sem.run_bind,this];rfl
 ·simp[MP.run] at h
theorem Jmj (hS:Sim c g m w) (hsl:Jm c g m w sl a) {t:TypeId} {p q:Operand} (ho:o.op = .index t p q)
  (h:(opM P T G sl o).run m=some (x,m')):Qi P c g m w a o x m':=by
 unfold opM at h;rw[ho] at h;simp only at h;have hp:=oX1 hsl p;have hq:=oX1 hsl q;split at h
 ·rename_i u v e1 e2;obtain⟨r,hr,h1,rfl,rfl⟩:=Ky h;rw[e1] at hp;rw[e2] at hq;have hu:=(JW hp).1;have hv:=(JW hq).1;refine .look (v:=r) ?_ hS (JdJ h1);have:=XY _ _ w hr;unfold execOp;rw[ho];simp only[hu,hv,Sem.run_bind,this];rfl
 ·simp[MP.run] at h
theorem Jh0 (hS:Sim c g m w) (hsl:Jm c g m w sl a) {p:Operand} (ho:o.op = .move p∨o.op = .assign p)
  (h:(opM P T G sl o).run m=some (x,m')):Qi P c g m w a o x m':=by
 have hp:=oX1 hsl p;rcases ho with ho | ho
 all_goals
  unfold opM at h;rw[ho] at h;simp only[MP.run,JrD,JrV] at h;obtain⟨rfl,rfl⟩:=h;exact .look (by unfold execOp;rw[ho];rfl) hS hp
theorem Jog (hS:Sim c g m w) (hsl:Jm c g m w sl a) {p q r:Operand} (ho:o.op = .pick p q r)
  (h:(opM P T G sl o).run m=some (x,m')):Qi P c g m w a o x m':=by
 have hp:=oX1 hsl p;unfold opM at h;rw[ho] at h;simp only at h;split at h
 ·rename_i t e1;rw[e1] at hp;have hu:=(JW hp).1;simp only[MP.run,JrD,JrV] at h;obtain⟨rfl,rfl⟩:=h;refine .look (v:=if t then a.eval q else a.eval r) ?_ hS ?_
  ·unfold execOp;rw[ho];cases t <;> simp[hu,asBool]
  ·cases t
   ·exact oX1 hsl r
   ·exact oX1 hsl q
 ·simp[MP.run] at h
theorem Jfz (hS:Sim c g m w) (hsl:Jm c g m w sl a) {p:Operand} (ho:o.op = .nilCheck p)
  (h:(opM P T G sl o).run m=some (x,m')):Qi P c g m w a o x m':=by
 have hp:=oX1 hsl p;unfold opM at h;rw[ho] at h;simp only at h;split at h
 ·rename_i k off e;rw[e] at hp;simp only[MP.run,JrD,JrV] at h;obtain⟨rfl,rfl⟩:=h;have hp':=hp;obtain⟨_,b,_,_,hv⟩:=hp;exact .look (v:=a.eval p) (by unfold execOp;rw[ho];simp[hv]) hS hp'
 ·rename_i cs e;rw[e] at hp;simp only[MP.run,JrD,JrV] at h;obtain⟨rfl,rfl⟩:=h;have hp':=hp;obtain⟨_,⟨b,off,_,hv,_⟩,_⟩:=hp;exact .look (v:=a.eval p) (by unfold execOp;rw[ho];simp[hv]) hS hp'
 ·rename_i fn cs e;rw[e] at hp;simp only[MP.run,JrD,JrV] at h;obtain⟨rfl,rfl⟩:=h;have hp':=hp;obtain⟨vs,hv,_⟩:=hp;exact .look (v:=a.eval p) (by unfold execOp;rw[ho];simp[hv]) hS hp'
 ·rename_i fn cs e;rw[e] at hp;simp only[MP.run,JrD,JrV] at h;obtain⟨rfl,rfl⟩:=h;have hp':=hp;obtain⟨_,⟨vs,hv,_⟩,_⟩:=hp;exact .look (v:=a.eval p) (by unfold execOp;rw[ho];simp[hv]) hS hp'
 ·simp[MP.run] at h
theorem JkK {l:List Operand} (hsl:Jm c g m w sl a):VXs c g m w (l.map (opX sl)) (l.map a.eval):=by
 induction l with
 | nil=>rfl
 | cons y ys ih=>exact⟨_,_,rfl,oX1 hsl y,ih⟩
theorem Jgj (hS:Sim c g m w) (hsl:Jm c g m w sl a) {fn:Fn} {fs cs:Array Operand} (ho:o.op = .makeFunc fn fs cs)
  (h:(opM P T G sl o).run m=some (x,m')):Qi P c g m w a o x m':=by
 unfold opM at h;rw[ho] at h;simp only at h;cases fn with
 | func f =>
  simp only at h;split at h
  ·rename_i he;have hfs:fs = #[]:=by simpa using he
   subst hfs;simp only[MP.run,JrD,JrV] at h;obtain⟨rfl,rfl⟩:=h;refine .look (v:= .func (.func f) #[] (cs.map a.eval)) (by unfold execOp;rw[ho];simp[Instr.makeFunc]) hS ⟨cs.toList.map a.eval,?_,JkK hsl⟩;rw[←Array.toList_map]
  ·simp[MP.run] at h
 | _=>simp[MP.run] at h
theorem Jih (hS:Sim c g m w) (hsl:Jm c g m w sl a) {p:Operand} {i:Nat} (ho:o.op = .extract p i)
  (h:(opM P T G sl o).run m=some (x,m')):Qi P c g m w a o x m':=by
 have hp:=oX1 hsl p;unfold opM at h;rw[ho] at h;simp only at h;split at h
 ·rename_i cs e;rw[e] at hp;obtain⟨vs,hv,hvs⟩:=hp;split at h
  ·rename_i y hy;simp only[MP.run,JrD,JrV] at h;obtain⟨rfl,rfl⟩:=h;obtain⟨u,hu,hx⟩:=Jgg cs vs i y hvs hy;exact .look (v:=u) (by unfold execOp;rw[ho];simp[hv,Instr.extract,hu]) hS hx
  ·simp[MP.run] at h
 ·simp[MP.run] at h
theorem JjC (hS:Sim c g m w) (hsl:Jm c g m w sl a) {t:TypeId} {p:Operand} (ho:o.op = .load t p)
  (h:(opM P T G sl o).run m=some (x,m')):Qi P c g m w a o x m':=by
 have hp:=oX1 hsl p;unfold opM at h;rw[ho] at h;simp only at h;obtain⟨rfl,u,hu,hx⟩:=JbA hS hp h;exact .look (v:=u) (by unfold execOp;rw[ho];simp[hu]) hS hx
theorem JjO (hS:Sim c g m w) (hsl:Jm c g m w sl a) {t:TypeId} {ps:Array (Nat×Operand)} (ho:o.op = .build t ps)
  (h:(opM P T G sl o).run m=some (x,m')):Qi P c g m w a o x m':=by
 unfold opM at h;rw[ho] at h;simp only at h;split at h
 ·rename_i z pl hz hpl;split at h
  ·rename_i hone;split at h
   ·rename_i cs hcs;simp only[MP.run,JrD,JrV] at h;obtain⟨rfl,rfl⟩:=h;obtain⟨i,zv,hi,hzv,hzc⟩:=ZO hz;have hzone :∀u∈zv.cells.toList,u.oneCell=true:=by rw[hzc];simpa using hone
    have hz':VXs c g m w (z.map fun c=>X.d (.v c)) zv.cells.toList:=by
     rw[hzc];clear hzc hz hcs hzone
     induction z with
     | nil=>rfl
     | cons u us ih =>
      simp only[List.all_cons,JrE] at hone;exact⟨u,us,rfl,JdJ hone.1,ih hone.2⟩
    obtain⟨arr',h1,h2⟩:=JbE (pl:=pl) (ps.toList.map fun p=>(p.1,opX sl p.2)) (ps.toList.map fun p=>(p.1,a.eval p.2)) _ zv.cells cs (by simp)
     (fun i p q hp hq=>by
      rw[JrZ] at hp hq;cases hps:ps.toList[i]? with
      | none=>rw[hps] at hp;simp at hp
      | some y =>
       rw[hps] at hp hq;simp only[JrG,JrD] at hp hq;subst hp;subst hq;exact⟨rfl,oX1 hsl y.2⟩) hz' hzone hcs
    refine .look (v:= .agg arr') ?_ hS ⟨arr'.toList,by simp,h2.1,h2.2⟩;have hb:P.built t (ps.map fun(i,x)=>(i,a.eval x)).toList=some arr':=by
     unfold JgC at hpl;split at hpl
     ·rename_i fs hu;unfold Program.built;simp only[hi,hu,hzv,hpl];rw[Array.toList_map];exact h1
     ·cases hpl
    have:=run_build (P:=P) w t _ _ hb;unfold execOp;rw[ho];simp only[Sem.run_bind];rw[this];rfl
   ·simp[MP.run] at h
  ·simp[MP.run] at h
 ·simp[MP.run] at h
end
end Go.Tm
end
section
namespace Go.Tm
open Go.IntKind (i64)
section
variable {P:Program} {T:Tab} {G:JQ} {c:Cx P} {g:Gh} {m m':Mem} {w:World} {a:Act} {sl:QI} {o:Oper} {x:X}
theorem Jbt {t:TypeId} {i off n:Nat} (h:Zr P t i=some (off,n)) : ∃ fs f,P.underlying t=some (.struct fs)∧fs[i]? = some f∧f.offset=off∧Qm P f.type=some n:=by
 unfold Zr at h;split at h
 ·rename_i fs hu;cases hf:fs[i]? with
  | none=>simp[hf] at h
  | some f =>
   simp only[hf,JrS] at h;cases hs:Qm P f.type with
   | none=>simp[hs] at h
   | some k=>simp[hs] at h;exact⟨fs,f,hu,hf,h.1,by rw[h.2] at hs;exact hs⟩
 ·cases h
theorem U7 {t:TypeId} {i off n b k:Nat} (h:Zr P t i=some (off,n)) (hn:n≠0) :
  (Instr.fieldAt t (.pointer (some ⟨b,k,none⟩)) i).run P w = .ok (.pointer (some ⟨b,k+off,none⟩)) w:=by
 obtain⟨fs,f,hu,hf,rfl,hs⟩:=Jbt h;simp[Instr.fieldAt,run_underlying hu,hf,Instr.sureAddr,fieldPlace,Xn hs,hn,Yg]
theorem Jfg :∀(n:Nat) (cs:List D) (b o:Nat) (fp:List Nat),Jd0 w cs b o fp→∃ fp',Jd0 w (cs.drop n) b (o+n) fp'∧∀k∈fp',k∈fp
 | 0,cs,b,o,fp,h=>⟨fp,h,fun _ h=>h⟩
 | n+1,[],b,o,fp,h=>⟨fp,h,fun _ h=>h⟩
 | n+1,d::ds,b,o,fp,⟨v,f1,f2,_,hf,_,h2,_⟩=>by
  subst hf;obtain⟨fp',h3,h4⟩:=Jfg n ds b (o+1) f2 h2;exact⟨fp',by rw[show o+(n+1)=o+1+n by omega];exact h3,fun k hk=>by simp[h4 k hk]⟩
theorem Jef (hS:Sim c g m w) (hsl:Jm c g m w sl a) {t:TypeId} {p:Operand} {i:Nat} (ho:o.op = .fieldAddr t p i)
  (h:(opM P T G sl o).run m=some (x,m')):Qi P c g m w a o x m':=by
 have hp:=oX1 hsl p;unfold opM at h;rw[ho] at h;simp only at h;split at h
 ·rename_i off n hf;split at h
  ·simp[MP.run] at h
  ·rename_i hn;split at h
   ·rename_i k off' e;rw[e] at hp;simp only[MP.run,JrD,JrV] at h;obtain⟨rfl,rfl⟩:=h;obtain⟨cs,b,h1,h2,hv⟩:=hp;exact .look (v:= .pointer (some ⟨b,off'+off,none⟩)) (by unfold execOp;rw[ho];simp[hv,U7 hf hn]) hS ⟨cs,b,h1,h2,rfl⟩
   ·rename_i k n' j off' e;rw[e] at hp;obtain⟨ob,hob,h⟩:=MP.get_some h;cases ob with
    | arr ty sz es dp rw =>
     simp only at h;split at h
     ·rename_i hn';simp only[MP.run,JrD,JrV] at h;obtain⟨rfl,rfl⟩:=h;obtain⟨b,hb,hv⟩:=(hp.2.2 ty sz es dp rw hob).2 hn';refine .look (v:= .pointer (some ⟨b,j*sz+off'+off,none⟩)) (by unfold execOp;rw[ho];simp[hv,U7 hf hn]) hS ⟨rfl,⟨_,hob,by simp⟩,fun ty1 sz1 es1 dp1 rw1 h1=>?_⟩;rw[hob] at h1;cases h1;exact⟨by omega,fun _=>⟨b,hb,by rw[Nat.add_assoc]⟩⟩
     ·simp[MP.run] at h
    | _=>simp[MP.run] at h
   ·rename_i cs e;rw[e] at hp;split at h
    ·rename_i hlt;simp only[MP.run,JrD,JrV] at h;obtain⟨rfl,rfl⟩:=h;obtain⟨fp,⟨b,k,fp',hv,hb,rfl,hr⟩,hok⟩:=hp;obtain⟨fp2,h3,h4⟩:=Jfg off cs b k fp' hr;exact .look (v:= .pointer (some ⟨b,k+off,none⟩)) (by unfold execOp;rw[ho];simp[hv,U7 hf hn]) hS
      ⟨b::fp2,⟨b,k+off,fp2,rfl,hb,rfl,h3⟩,fun q hq=>by
       rcases JrX.1 hq with rfl | hq
       ·exact hok _ (by simp)
       ·exact hok q (by simp[h4 q hq])⟩
    ·simp[MP.run] at h
   ·simp[MP.run] at h
 ·simp[MP.run] at h
theorem Jgv {v:Value} {es:List D} (hS:Sim c g m w) (hx:VX c g m w x v) (h:(JcI x).run m=some (es,m')) :
  m'=m∧∃ A cap,v = .slice A es.length cap:=by
 unfold JcI at h;split at h
 ·simp only[MP.run,JrD,JrV] at h;obtain⟨rfl,rfl⟩:=h;obtain⟨fp,⟨A,cap,rfl,_⟩,_⟩:=hx;exact⟨rfl,A,cap,rfl⟩
 ·simp only[MP.run,JrD,JrV] at h;obtain⟨rfl,rfl⟩:=h;exact⟨rfl,none,0,(JW hx).1⟩
 ·rename_i k n;obtain⟨ob,hob,h⟩:=MP.get_some h;cases ob with
  | arr ty sz es' dp rw =>
   simp only at h;split at h
   ·rename_i hn;simp only[MP.run,JrD,JrV] at h;obtain⟨rfl,rfl⟩:=h;have hv:=(hx.2.2 ty sz es' dp rw hob).2 hn;rcases (hS.arr k ty sz es' dp rw hob).1 with ⟨_,e,rfl,_⟩ | ⟨b,cap,cs,_,e,_⟩
    ·exact⟨rfl,none,0,by rw[hv,e];rfl⟩
    ·exact⟨rfl,_,cap,by rw[hv,e]⟩
   ·simp[MP.run] at h
  | _=>simp[MP.run] at h
 ·simp[MP.run] at h
theorem QT {v:Value} {n:Int} (hx:VX c g m w x v) (h:Wd x=some n) : ∃ k,v = .int k n:=by
 unfold Wd at h;split at h
 ·rename_i k n' ;simp at h;subst h;exact⟨k,(JW hx).1⟩
 ·cases h
theorem Jbi {t e:TypeId} {A:Addr} {len cap sz:Nat} {k:IntKind} {j:Int} (he:JK P t=some e) (hs:Qm P e=some sz) (h0:0≤j) (h1:j<len) :
  (Instr.indexAt t (.slice (some A) len cap) (.int k j)).run P w = .ok (.pointer (some (A.add (j.toNat*sz)))) w:=by
 simp[Instr.indexAt,asIntOf,run_underlying (JM he),Xn hs,h0,h1]
theorem Jd8 (hS:Sim c g m w) (hsl:Jm c g m w sl a) {t:TypeId} {p q:Operand} (ho:o.op = .indexAddr t p q)
  (h:(opM P T G sl o).run m=some (x,m')):Qi P c g m w a o x m':=by
 have hp:=oX1 hsl p;have hq:=oX1 hsl q;unfold opM at h;rw[ho] at h;simp only at h;split at h
 ·rename_i e j he hj;obtain⟨kk,hqv⟩:=QT hq hj;split at h
  ·rename_i sz es hsz hpx;rw[hpx] at hp;split at h
   ·rename_i h0;split at h
    ·rename_i e' hi;split at h
     ·rename_i hlen;simp only[MP.run,JrD,JrV] at h;obtain⟨rfl,rfl⟩:=h;obtain⟨fp,⟨A,cap,hv,hcap,hh⟩,hok⟩:=hp;rcases hh with ⟨rfl,_⟩ | ⟨b,off,sz',fp',rfl,hb,rfl,hr⟩
      ·simp at hi
      obtain⟨val,f,h1,h2,h3,h4,h5⟩:=Jci es sz' b off fp' j.toNat e' hr hi;have hc:=UT h1 h5;have hcl:=J7 _ _ _ hc;have hsz':sz'=sz:=by rw[←h2,←hlen,←hcl];simp
      subst hsz';have hlt:j<(es.length:Int):=by have:=(JrF.1 hi).1;omega
      refine .look (v:= .pointer (some ⟨b,off+j.toNat*sz',none⟩)) ?_ hS ⟨b::f,⟨b,_,f,rfl,hb,rfl,JjQ _ _ b _ f hc (fun i hi=>?_)⟩,fun q hq=>?_⟩
      ·unfold execOp;rw[ho];simp[hv,hqv,Jbi he hsz h0 hlt,Yg]
      ·have:=h3 i (by rw[←h2];simpa using hi);rw[this];simp
      ·rcases JrX.1 hq with rfl | hq
       ·exact hok _ (by simp)
       ·exact hok q (by simp[h4 q hq])
     ·simp[MP.run] at h
    ·simp[MP.run] at h
   ·simp[MP.run] at h
  ·rename_i sz k n hsz hpx;rw[hpx] at hp;split at h
   ·rename_i hjn;obtain⟨ob,hob,h⟩:=MP.get_some h;cases ob with
    | arr ty sz' es dp rw =>
     simp only at h;split at h
     ·rename_i hn;simp only[MP.run,JrD,JrV] at h;obtain⟨rfl,rfl⟩:=h;obtain⟨hn,rfl,rfl⟩:=hn;have hv:=(hp.2.2 _ _ es dp rw hob).2 hn;rcases (hS.arr k _ _ es dp rw hob).1 with ⟨_,e,rfl,_⟩ | ⟨b,cap,cs,hbl,e,_⟩
      ·simp at hn;omega
      ·refine .look (v:= .pointer (some ⟨b,j.toNat*sz',none⟩)) ?_ hS ⟨rfl,⟨_,hob,by simp⟩,fun ty1 sz1 es1 dp1 rw1 h1=>?_⟩
       ·rw[e] at hv;unfold execOp;rw[ho];simp[hv,hqv,Jbi he hsz hjn.1 (hn▸hjn.2),Yg]
       ·rw[hob] at h1;cases h1;exact⟨by omega,fun _=>⟨b,hbl,by simp⟩⟩
     ·simp[MP.run] at h
    | _=>simp[MP.run] at h
   ·simp[MP.run] at h
  ·simp[MP.run] at h
 ·simp[MP.run] at h
end
end Go.Tm
end
section
namespace Go.Tm
open Go.IntKind (i64)
theorem uS1 {α:Type} (f:Nat→α) (k:Nat) (x:α):upd f k x k=x:=by simp[upd]
theorem uO1 {α:Type} (f:Nat→α) {k j:Nat} (x:α) (h:j≠k):upd f k x j=f j:=by simp[upd,h]
section
variable {P:Program} {c:Cx P} {g g':Gh} {m m':Mem} {w w':World} {k:Key}
def Jpx (c:Cx P) (g:Gh) (m:Mem) (w:World) (k:Key):Obj→Prop
 | .box cs=>∃ b vs ty,g.bl k=some b∧w.heap[b]? = some (.cells vs.toArray ty (0,0))∧VXs c g m w cs vs∧g.ow b=some k∧∀u∈vs,u.oneCell=true
 | .arr ty sz es dp rw=>V4 w g k ty sz es∧((dp&&rw)=false→JP c g m (g.fd k))∧(rw=false→∀b,g.bl k=some b→JP c g m [b])∧(rw=true→∀b,Blk g k (.arr ty sz es dp rw) b→g.ow b=some k) ∧
  (dp=true→rw=true→(g.fd k).Nodup∧∀b,g.bl k=some b→b∉g.fd k∧JbS P w es (JF P ty) sz b 0 (g.fd k))
 | .dead=>True
theorem Sim.step {o':Obj} (hS:Sim c g m w) (hmk:m' k=some o') (hmo :∀j,j≠k→m' j=m j∨m' j=some .dead) (hC:Jb c g m w g' m' w') (hf:Yi c w')
  (same :∀j,j≠k→g'.bl j=g.bl j∧g'.hd j=g.hd j∧g'.fd j=g.fd j)
  (blocks :∀b j o,m j=some o→o.rw=true→Blk g j o b→j≠k→m' j=some o→w'.heap[b]? = w.heap[b]?∧g'.ow b=some j)
  (live' :∀b j,g'.ow b=some j→b<w'.heap.size∧(c.w0.heap.size≤b∨b∈c.par))
  (this:Jpx c g' m' w' k o'):Sim c g' m' w':=by
 have hmo :∀j o,j≠k→m' j=some o→o≠ .dead→m j=some o:=fun j o hj h hd=>by
  rcases hmo j hj with e | e
  ·rw[←e];exact h
  ·rw[e] at h;cases h;exact absurd rfl hd
 refine⟨hf,fun j cs hj=>?_,fun j ty sz es dp rw hj=>?_,fun j ty sz es hj=>?_,fun j o b hj hd hb=>?_,live'⟩
 ·by_cases hjk:j=k
  ·subst hjk;rw[hmk] at hj;cases hj;obtain⟨b,vs,ty,h1,h2,h3,_,h5⟩:=this;exact⟨b,vs,ty,h1,h2,h3,h5⟩
  ·have hj':=hj
   replace hj:=hmo j _ hjk hj (by simp)
   obtain⟨b,vs,ty,h1,h2,h3,h5⟩:=hS.box j cs hj;exact⟨b,vs,ty,(same j hjk).1.trans h1,((blocks b j _ hj rfl (.inl h1) hjk hj').1).trans h2,Qe hC cs vs h3,h5⟩
 ·by_cases hjk:j=k
  ·subst hjk;rw[hmk] at hj;cases hj;exact⟨this.1,this.2.1,this.2.2.1⟩
  ·have hj':=hj
   replace hj:=hmo j _ hjk hj (by simp)
   obtain⟨h1,h2,h2'⟩:=hS.arr j ty sz es dp rw hj;obtain⟨e1,e2,e3⟩:=same j hjk;rcases h1 with ⟨a1,a2,a3,a4⟩ | ⟨b,cap,cs,a1,a2,a3,a4,a5,a6,a7⟩
   ·exact⟨.inl ⟨e1.trans a1,e2.trans a2,a3,e3.trans a4⟩,by rw[e3,a4];exact fun _ b hb=>by simp at hb,fun _ b hb=>by rw[e1,a1] at hb;cases hb⟩
   ·have hbl:w'.heap[b]? = w.heap[b]?∧(rw=false→JP c g' m' [b]):=by
     have hlt:b<w.heap.size:=(JrQ.1 a5).1;cases rw with
     | true=>exact⟨(blocks b j _ hj rfl (.inl a1) hjk hj').1,by simp⟩
     | false =>
      obtain⟨h3,h4⟩:=Qj hC (fp:=[b]) (by simpa using hlt) (h2' rfl b a1);exact⟨h4 b (by simp),fun _=>h3⟩
    have hl:=Z7 es sz b 0 (g.fd j) a7;have h34:((dp&&rw)=false→JP c g' m' (g.fd j))∧∀b∈g.fd j,w'.heap[b]? = w.heap[b]?:=by
     cases hd:(dp&&rw) with
     | false =>
      obtain⟨h3,h4⟩:=Qj hC hl (h2 hd);exact⟨fun _=>h3,h4⟩
     | true =>
      have hrw:rw=true:=by simp only[JrE] at hd;exact hd.2
      exact⟨by simp,fun q hq=>(blocks q j _ hj hrw (.inr ⟨hd,hq⟩) hjk hj').1⟩
    obtain⟨h3,h4⟩:=h34;exact⟨.inr ⟨b,cap,cs,e1.trans a1,e2.trans a2,a3,a4,hbl.1.trans a5,a6,by rw[e3];exact Kz es sz b 0 _ hC.size hbl.1 h4 a7⟩,by rw[e3];exact h3,
     fun hr b' hb'=>by rw[e1,a1] at hb';cases hb';exact hbl.2 hr⟩
 ·by_cases hjk:j=k
  ·subst hjk;rw[hmk] at hj;cases hj;exact this.2.2.2.2 rfl rfl
  ·have hj':=hj
   replace hj:=hmo j _ hjk hj (by simp)
   obtain⟨e1,_,e3⟩:=same j hjk;rw[e1,e3];obtain⟨d1,d2⟩:=hS.deep j ty sz es hj;exact⟨d1,fun b hb=>⟨(d2 b hb).1,Ks _ _ _ _ _ _ (blocks b j _ hj rfl (.inl hb) hjk hj').1 (fun q hq=>(blocks q j _ hj rfl (.inr ⟨rfl,hq⟩) hjk hj').1) (d2 b hb).2⟩⟩
 ·by_cases hjk:j=k
  ·subst hjk;obtain rfl:o'=o:=by rw[hmk] at hj;exact Option.some.inj hj
   cases o' with
   | box cs =>
    obtain⟨b',vs,ty,h1,_,_,h4,_⟩:=this;rcases hb with hb | hb
    ·rw[h1] at hb;cases hb;exact h4
    ·cases hb.1
   | arr ty sz es dp rw=>exact this.2.2.2.1 hd b hb
   | dead=>cases hd
  ·have hj':=hj
   replace hj:=hmo j _ hjk hj (fun e=>by rw[e] at hd;cases hd)
   have hb:Blk g j o b:=by unfold Blk at hb ⊢;rw[(same j hjk).1,(same j hjk).2.2] at hb;exact hb
   exact(blocks b j o hj hd hb hjk hj').2
def Gh.new (g:Gh) (k:Key) (b:Nat) (v:Value) (f:List Nat):Gh:={ bl:=upd g.bl k (some b),hd:=upd g.hd k v,fd:=upd g.fd k f,ow:=upd g.ow b (some k) }
theorem Jb.new {o':Obj} {b:Nat} {v:Value} {f:List Nat} (hS:Sim c g m w) (hk:m k=none) (hb:w.heap.size≤b) (hsz:w.heap.size≤w'.heap.size)
  (hw :∀j,j<w.heap.size→w'.heap[j]? = w.heap[j]?) (hfd:o'.dpw=true→f=[]):Jb c g m w (g.new k b v f) (upd m k (some o')) w':=by
 have ne :∀{j:Key} {o:Obj},m j=some o→j≠k:=fun h e=>by rw[e,hk] at h;cases h
 refine⟨hsz,fun i h1 h2 h3=>⟨hw i h3,?_⟩,fun j cs hj=>?_,fun j ty sz es dp rw hj=>?_,fun j hj=>?_⟩
 ·rintro⟨j,o,hj,hrw,hbl⟩
  by_cases hjk:j=k
  ·subst hjk;rw[uS1] at hj;cases hj;rcases hbl with hbl | ⟨hd,hbl⟩
   ·simp only[Gh.new,uS1,JrD] at hbl;omega
   ·simp only[Gh.new,uS1,hfd hd] at hbl;simp at hbl
  ·rw[uO1 _ _ hjk] at hj;unfold Blk at hbl;simp only[Gh.new,uO1 _ _ hjk] at hbl;exact h1 ⟨j,o,hj,hrw,hbl⟩
 ·have:=ne hj;exact⟨⟨cs,by rw[uO1 _ _ this];exact hj⟩,by simp only[Gh.new,uO1 _ _ this]⟩
 ·have:=ne hj;exact .inr ⟨es,dp,rw,by rw[uO1 _ _ this];exact hj,.inl ⟨rfl,by simp only[Gh.new,uO1 _ _ this],by simp only[Gh.new,uO1 _ _ this]⟩⟩
 ·have:=ne hj;rw[uO1 _ _ this];exact hj
theorem Yi.grow {c:Cx P} (hf:Yi c w) (h1:w'.os=w.os) (h2:w'.tape=w.tape) (h3:w'.output=w.output) (hsz:w.heap.size≤w'.heap.size)
  (hw :∀j,j<w.heap.size→j<c.w0.heap.size→j∉c.par→w'.heap[j]? = w.heap[j]?):Yi c w' :=
 ⟨h1.trans hf.os,h2.trans hf.tape,h3.trans hf.output,Nat.le_trans hf.size hsz,fun b hb hp=>(hw b (Nat.lt_of_lt_of_le hb hf.size) hb hp).trans (hf.block b hb hp)⟩
theorem Sim.newBlock {o':Obj} {v:Value} {f:List Nat} (hS:Sim c g m w) (hk:m k=none) (hsz:w'.heap.size=w.heap.size+1)
  (hw :∀j,j<w.heap.size→w'.heap[j]? = w.heap[j]?) (hf:Yi c w') (hfd:o'.dpw=true→f=[]) (this:Jpx c (g.new k w.heap.size v f) (upd m k (some o')) w' k o') :
  Sim c (g.new k w.heap.size v f) (upd m k (some o')) w'∧Jb c g m w (g.new k w.heap.size v f) (upd m k (some o')) w':=by
 have hC:Jb c g m w (g.new k w.heap.size v f) (upd m k (some o')) w':= .new hS hk (Nat.le_refl _) (by omega) hw hfd;refine⟨hS.step (uS1 _ _ _) (fun j hj=> .inl (uO1 _ _ hj)) hC hf (fun j hj=>⟨uO1 _ _ hj,uO1 _ _ hj,uO1 _ _ hj⟩) (fun b j o hj0 hrw hb hj _=>?_) (fun b j hb=>?_) this,hC⟩
 ·have hb:=hS.own j o b hj0 hrw hb;have hlt:=(hS.live b j hb).1;exact⟨hw b hlt,by simp only[Gh.new];rw[uO1 _ _ (by omega)];exact hb⟩
 ·simp only[Gh.new] at hb
  by_cases hbs:b=w.heap.size
  ·subst hbs;exact⟨by omega,.inl hS.frame.size⟩
  ·rw[uO1 _ _ hbs] at hb;have:=hS.live b j hb;exact⟨by omega,this.2⟩
theorem QH (w:World) (o:Go.Obj):(w.alloc o).heap.size=w.heap.size+1:=by
 show (w.heap.push o).size=_;simp
theorem Yi.alloc (hf:Yi c w) (o:Go.Obj):Yi c (w.alloc o) :=
 hf.grow rfl rfl rfl (by rw[QH];omega) (fun j hj _ _=>heap_alloc_old w o hj)
theorem WU {cs:List X} {vs:List Value} {ty:TypeId} (hS:Sim c g m w) (hk:m k=none) (hv:VXs c g m w cs vs) (hone :∀u∈vs,u.oneCell=true) :
  ∃ g',Sim c g' (upd m k (some (.box cs))) (w.alloc (.cells vs.toArray ty (0,0)))∧Jb c g m w g' (upd m k (some (.box cs))) (w.alloc (.cells vs.toArray ty (0,0))) ∧
   VX c g' (upd m k (some (.box cs))) (w.alloc (.cells vs.toArray ty (0,0))) (.p k 0) (.pointer (some ⟨w.heap.size,0,none⟩)):=by
 have hC:Jb c g m w (g.new k w.heap.size Qd []) (upd m k (some (.box cs))) (w.alloc (.cells vs.toArray ty (0,0))) :=
  .new hS hk (Nat.le_refl _) (by rw[QH];omega) (fun j hj=>heap_alloc_old w _ hj) (fun h=>by cases h)
 obtain⟨h1,h2⟩:=hS.newBlock (o':= .box cs) (v:=Qd) (f:=[]) (w':=w.alloc (.cells vs.toArray ty (0,0))) hk (QH _ _) (fun j hj=>heap_alloc_old w _ hj) (hS.frame.alloc _) (fun h=>by cases h)
  ⟨w.heap.size,vs,ty,uS1 _ _ _,heap_alloc_new w _,Qe hC cs vs hv,uS1 _ _ _,hone⟩
 exact⟨_,h1,h2,cs,w.heap.size,uS1 _ _ _,uS1 _ _ _,rfl⟩
end
end Go.Tm
end
section
namespace Go.Tm
open Go.IntKind (i64)
section
variable {P:Program} {T:Tab} {G:JQ} {c:Cx P} {g:Gh} {m m':Mem} {w:World} {a:Act} {sl:QI} {o:Oper} {x:X}
theorem MP.new_some {α:Type} {k:Key} {ob:Obj} {c:MP α} {m:Mem} {r:α×Mem} (e:(MP.new k ob c).run m=some r):m k=none∧c.run (upd m k (some ob))=some r:=by
 simp only[MP.run] at e;cases h:m k with
 | none=>rw[h] at e;exact⟨rfl,e⟩
 | some o=>rw[h] at e;cases e
theorem MP.put_some {α:Type} {k:Key} {ob:Obj} {c:MP α} {m:Mem} {r:α×Mem} (e:(MP.put k ob c).run m=some r):(∃ o,m k=some o)∧c.run (upd m k (some ob))=some r:=by
 simp only[MP.run] at e;cases h:m k with
 | none=>rw[h] at e;cases e
 | some o=>rw[h] at e;exact⟨⟨o,rfl⟩,e⟩
theorem rS1 {α:Type} {a:α} {m:Mem} {r:α×Mem} (e:(MP.ret a).run m=some r):r=(a,m):=by
 simp only[MP.run,JrD] at e;exact e.symm
theorem Jej {t:TypeId} {v:Value} {i:TypeInfo} (hi:P.info? t=some i) (hz:i.zero=some v):(zeroValue t).run P w = .ok v w:=by
 simp[zeroValue,typeInfo,hi,hz]
theorem Jn5 {z:List Value} (hone:z.all (·.oneCell)=true):VXs c g m w (z.map fun c=>X.d (.v c)) z:=by
 induction z with
 | nil=>rfl
 | cons u us ih =>
  simp only[List.all_cons,JrE] at hone;exact⟨u,us,rfl,JdJ hone.1,ih hone.2⟩
theorem Jdz (t:TypeId) (v:Value):(newVar t v).run P w = .ok ⟨w.heap.size,0,none⟩ (w.alloc (.cells v.cells t)):=by
 simp only[newVar,newRow,Sem.run_bind,run_newObj,Result.andThen_ok];rfl
theorem Jha (hS:Sim c g m w) {t:TypeId} (ho:o.op = .alloc t)
  (h:(opM P T G sl o).run m=some (x,m')):Qi P c g m w a o x m':=by
 unfold opM at h;rw[ho] at h;simp only at h;split at h
 ·rename_i z hz;split at h
  ·rename_i hone;obtain⟨hk,h⟩:=MP.new_some h;obtain⟨i,zv,hi,hzv,hzc⟩:=ZO hz;obtain⟨g',h1,h2,h3⟩:=WU (ty:=t) hS hk (Jn5 (c:=c) (g:=g) (m:=m) (w:=w) hone) (by simpa using hone);cases rS1 h;refine .value (g':=g') ?_ h1 h2 h3;rw[←hzc];unfold execOp;rw[ho];simp[Instr.alloc,Jej hi hzv,Jdz]
  ·simp[MP.run] at h
 ·simp[MP.run] at h
theorem Jk3 (hS:Sim c g m w) (hsl:Jm c g m w sl a) {t:TypeId} {p:Operand} (ho:o.op = .box t p)
  (h:(opM P T G sl o).run m=some (x,m')):Qi P c g m w a o x m':=by
 have hp:=oX1 hsl p;unfold opM at h;rw[ho] at h;simp only at h;split at h
 ·rename_i cs hcs;obtain⟨hk,h⟩:=MP.new_some h;obtain⟨g',h1,h2,h3⟩:=WU (ty:=t) hS hk (X7 hp hcs).1 (X7 hp hcs).2;cases rS1 h;refine .value (g':=g') ?_ h1 h2 h3;unfold execOp;rw[ho];simp[Instr.box,Jdz]
 ·simp[MP.run] at h
theorem Jk4 {v:Value} (hx:VX c g m w x v) (h:x.one=true):v.oneCell=true:=by
 cases x with
 | d x =>
  cases x with
  | v u=>exact(JW hx).1▸(JW hx).2
  | s es=>obtain⟨_,⟨_,_,rfl,_⟩,_⟩:=hx;rfl
  | q cs=>obtain⟨_,⟨_,_,_,rfl,_⟩,_⟩:=hx;rfl
  | f fn cs=>obtain⟨_,⟨_,rfl,_⟩,_⟩:=hx;rfl
  | g cs=>simp[X.one,D.one] at h
  | t cs=>simp[X.one,D.one] at h
 | o k n=>exact hx.1
 | p k off=>obtain⟨_,_,_,_,rfl⟩:=hx;rfl
 | e k n i off=>exact hx.1
 | f fn cs=>obtain⟨_,rfl,_⟩:=hx;rfl
 | g cs=>simp[X.one] at h
 | t cs=>simp[X.one] at h
 | u=>simp[X.one] at h
theorem JdD :∀(xs:List X) (vs:List Value),VXs c g m w xs vs→xs.all X.one=true→∀v∈vs,v.oneCell'=true
 | [],vs,h,_,v,hv=>by rw[show vs=[] from h] at hv;simp at hv
 | x::xs,vs,⟨u,us,e,h1,h2⟩,h,v,hv=>by
  subst e;simp only[List.all_cons,JrE] at h;rcases JrX.1 hv with rfl | hv
  ·have:=Jk4 h1 h.1;cases v <;> simp_all [Value.oneCell,Value.oneCell']
  ·exact JdD xs us h2 h.2 v hv
theorem Jbw (xs:List X) (vs:List Value) (h:VXs c g m w xs vs) (ho:xs.all X.one=true) :∀v∈vs,v.oneCell=true:=fun v hv=>by
 have:=JdD xs vs h ho v hv;cases v <;> simp_all [Value.oneCell,Value.oneCell']
theorem UX {us vs:List Value} {off:Nat} (h1 :∀u∈us,u.oneCell=true) (h2 :∀u∈vs,u.oneCell=true) :∀u∈Jd us off vs,u.oneCell=true:=fun u hu=>by
 unfold Jd at hu;rcases JrJ.1 hu with hu | hu
 ·rcases JrJ.1 hu with hu | hu
  ·exact h1 u (Jr2 hu)
  ·exact h2 u hu
 ·exact h1 u (List.mem_of_mem_drop hu)
theorem JfF {k:Key} {cs vs:List X} {us:List Value} {off:Nat} {b:Nat} (hS:Sim c g m w) (hk:m k=some (.box cs)) (hb:g.bl k=some b) (hv:VXs c g m w vs us)
  (hone :∀u∈us,u.oneCell=true) (hle:off+vs.length≤cs.length) :
  ∃ w',(storeCells ⟨b,off,none⟩ us).run P w = .ok () w'∧Sim c g (upd m k (some (.box (Jd cs off vs)))) w'∧Jb c g m w g (upd m k (some (.box (Jd cs off vs)))) w':=by
 obtain⟨b',cur,ty,hb',hh,hcv,hcone⟩:=hS.box k cs hk;rw[hb] at hb';cases hb';have hl1:=Qr _ _ hv;have hl2:=Qr _ _ hcv;have hrun:=run_storeCells_at (P:=P) b off ty us 0 cur.toArray w hh (by simp;omega) hone;simp only[Nat.add_zero] at hrun;have hlt:b<w.heap.size:=(JrQ.1 hh).1;have hown:=hS.own k _ b hk rfl (.inl hb);have hmut:Mut g m b:=⟨k,_,hk,rfl,.inl hb⟩;have hC:Jb c g m w g (upd m k (some (.box (Jd cs off vs)))) (w.setRow b (Jd cur off us).toArray):=by
  refine⟨by simp,fun i h1 _ _=>⟨setRow_other w b i _ (fun e=>h1 (e▸hmut)),?_⟩,fun j cs' hj=>?_,fun j ty sz es dp rw hj=>?_,fun j hj=>?_⟩
  ·rintro⟨j,o,hj,hrw,hbl⟩
   by_cases hjk:j=k
   ·subst hjk;rw[uS1] at hj;cases hj;rcases hbl with hbl | hbl
    ·rw[hb] at hbl;cases hbl;exact h1 hmut
    ·cases hbl.1
   ·rw[uO1 _ _ hjk] at hj;exact h1 ⟨j,o,hj,hrw,hbl⟩
  ·by_cases hjk:j=k
   ·subst hjk;exact⟨⟨_,uS1 _ _ _⟩,rfl⟩
   ·exact⟨⟨cs',by rw[uO1 _ _ hjk];exact hj⟩,rfl⟩
  ·have hjk:j≠k:=fun e=>by subst e;rw[hk] at hj;cases hj
   exact .inr ⟨es,dp,rw,by rw[uO1 _ _ hjk];exact hj,.inl ⟨rfl,rfl,rfl⟩⟩
  ·have hjk:j≠k:=fun e=>by subst e;rw[hk] at hj;cases hj
   rw[uO1 _ _ hjk];exact hj
 have hw:Jd cur off us=cur.toArray.toList.take off++us++cur.toArray.toList.drop (off+us.length):=by simp[Jd]
 refine⟨w.setRow b (Jd cur off us).toArray,by rw[hw];exact hrun,?_,hC⟩;have hlive:=hS.live b k hown;refine hS.step (uS1 _ _ _) (fun j hj=> .inl (uO1 _ _ hj)) hC ?_ (fun j _=>⟨rfl,rfl,rfl⟩) (fun b' j o hj0 hrw hb' hjk _=>?_) (fun b' j hj=>?_) ?_
 ·refine hS.frame.grow rfl rfl rfl (by simp) (fun j _ hj hp=>setRow_other w b j _ (fun e=>?_));subst e;rcases hlive.2 with h | h
  ·omega
  ·exact hp h
 ·have hj:=hS.own j o b' hj0 hrw hb';exact⟨setRow_other w b b' _ (fun e=>by subst e;rw[hown] at hj;cases hj;exact hjk rfl),hj⟩
 ·have:=hS.live b' j hj;simpa using this
 ·exact⟨b,Jd cur off us,ty,hb,setRow_heap w b _ _ ty _ hh,Qe hC _ _ (JcF hcv hv),hown,fun u hu=>UX hcone hone u hu⟩
theorem JjV {k:Key} {o o':Obj} {q:Nat} (hS:Sim c g m w) (hk:m k=some o) (hrw:o.rw=true) (hq:Blk g k o q) (ho':o'.rw=false) :
  ¬Mut g (upd m k (some o')) q∧(q∈c.A∨c.w0.heap.size≤q):=by
 have hown:=hS.own k _ q hk hrw hq;refine⟨?_,?_⟩
 ·rintro⟨j,p,hj,hrw',hbl⟩
  by_cases hjk:j=k
  ·subst hjk;rw[uS1] at hj;cases hj;rw[ho'] at hrw';cases hrw'
  ·rw[uO1 _ _ hjk] at hj;have:=hS.own j p q hj hrw' hbl;rw[hown] at this;cases this;exact hjk rfl
 ·rcases (hS.live q k hown).2 with h | h
  ·exact .inr h
  ·exact .inl (c.parA q h)
theorem JdZ {k:Key} {ty:TypeId} {sz:Nat} {es:List D} {dp rw:Bool} (hS:Sim c g m w) (hk:m k=some (.arr ty sz es dp rw)) :
  Sim c g (upd m k (some (.arr ty sz es false false))) w∧Jb c g m w g (upd m k (some (.arr ty sz es false false))) w:=by
 have hC:Jb c g m w g (upd m k (some (.arr ty sz es false false))) w:=by
  refine⟨Nat.le_refl _,fun i h1 _ _=>⟨rfl,?_⟩,fun j cs' hj=>?_,fun j ty' sz' es' dp' rw' hj=>?_,fun j hj=>?_⟩
  ·rintro⟨j,o,hj,hrw,hbl⟩
   by_cases hjk:j=k
   ·subst hjk;rw[uS1] at hj;cases hj;cases hrw
   ·rw[uO1 _ _ hjk] at hj;exact h1 ⟨j,o,hj,hrw,hbl⟩
  ·have hjk:j≠k:=fun e=>by subst e;rw[hk] at hj;cases hj
   exact⟨⟨cs',by rw[uO1 _ _ hjk];exact hj⟩,rfl⟩
  ·by_cases hjk:j=k
   ·subst hjk;rw[hk] at hj;cases hj;exact .inr ⟨es,false,false,uS1 _ _ _,.inl ⟨rfl,rfl,rfl⟩⟩
   ·exact .inr ⟨es',dp',rw',by rw[uO1 _ _ hjk];exact hj,.inl ⟨rfl,rfl,rfl⟩⟩
  ·have hjk:j≠k:=fun e=>by subst e;rw[hk] at hj;cases hj
   rw[uO1 _ _ hjk];exact hj
 obtain⟨h1,h2,h3⟩:=hS.arr k ty sz es dp rw hk;refine⟨hS.step (uS1 _ _ _) (fun j hj=> .inl (uO1 _ _ hj)) hC hS.frame (fun j _=>⟨rfl,rfl,rfl⟩) (fun b j o hj hrw hb _ _=>⟨rfl,hS.own j o b hj hrw hb⟩) hS.live ⟨h1,fun _=>?_,fun _ b hb=>?_,(fun(h:false=true)=>by cases h),(fun(h:false=true)=>by cases h)⟩,hC⟩
 ·cases hd:(dp&&rw) with
  | true =>
   have hrw:rw=true:=by simp only[JrE] at hd;exact hd.2
   exact fun b hb=>JjV hS hk hrw (.inr ⟨hd,hb⟩) rfl
  | false =>
   have h2:=h2 hd;rcases h1 with ⟨_,_,_,e⟩ | ⟨b,cap,cs,_,_,_,_,_,_,hr⟩
   ·rw[e];exact fun b hb=>by simp at hb
   ·exact(Qj hC (Z7 es sz b 0 _ hr) h2).1
 ·rcases h1 with ⟨e,_⟩ | ⟨b',cap,cs,hb',_,_,_,hh,_,_⟩
  ·rw[e] at hb;cases hb
  rw[hb] at hb';cases hb';have hlt:b<w.heap.size:=(JrQ.1 hh).1;cases rw with
  | false=>exact(Qj hC (fp:=[b]) (by simpa using hlt) (h3 rfl b hb)).1
  | true =>
   intro q hq;simp only[JrW] at hq;subst hq;exact JjV hS hk rfl (.inl hb) rfl
end
end Go.Tm
end
section
namespace Go.Tm
open Go.IntKind (i64)
def XG (w:World):List D→Nat→List Value→List Nat→Prop
 | [],_,vals,fp=>vals=[]∧fp=[]
 | e::es,sz,vals,fp=>∃ val v2 f1 f2,vals=val.cells.toList++v2∧val.cells.size=sz∧fp=f1++f2∧Rd w e val f1∧XG w es sz v2 f2∧∀u∈val.cells.toList,u.oneCell=true
section
variable {P:Program} {T:Tab} {G:JQ} {c:Cx P} {g:Gh} {m m':Mem} {w:World} {a:Act} {sl:QI} {o:Oper} {x:X}
theorem JN :∀(es:List D) (sz:Nat) (vals:List Value) (fp:List Nat),XG w es sz vals fp→vals.length=es.length*sz
 | [],_,_,_,h=>by rw[h.1];simp
 | e::es,sz,vals,fp,⟨val,v2,f1,f2,e1,hs,_,_,h,_⟩=>by
  subst e1;simp only[JrK,JrO,hs,JN es sz v2 f2 h,List.length_cons,Nat.succ_mul];omega
theorem K2 :∀(es:List D) (sz b off:Nat) (vals:List Value) (fp:List Nat),XG w es sz vals fp→(∀j,j<vals.length→w.cell? ⟨b,off+j,none⟩=vals[j]?)→Ub w es sz b off fp
 | [],_,_,_,_,_,h,_=>h.2
 | e::es,sz,b,off,vals,fp,⟨val,v2,f1,f2,e1,hs,e2,h1,h2,h3⟩,hc=>by
  subst e1;refine⟨val,f1,f2,e2,h1,hs,fun j hj=>?_,K2 es sz b (off+sz) v2 f2 h2 fun j hj=>?_,h3⟩
  ·have:=hc j (by simp;omega);rw[this,Jr5 (by simp;omega)];simp
  ·have:=hc (sz+j) (by simp;omega);rw[show off+sz+j=off+(sz+j) by omega,this,Jr6 (by simp;omega)];simp[hs]
theorem WC :∀(es:List D) (sz b off:Nat) (vals:List Value) (fp:List Nat),Ub w es sz b off fp→vals.length=es.length*sz→(∀j,j<vals.length→w.cell? ⟨b,off+j,none⟩=vals[j]?)→XG w es sz vals fp
 | [],sz,_,_,vals,_,h,hl,_=>⟨by simpa using hl,h⟩
 | e::es,sz,b,off,vals,fp,⟨val,f1,f2,e2,h1,hs,hc1,h2,h3⟩,hl,hc=>by
  rw[List.length_cons,Nat.succ_mul] at hl;have e1:vals.take sz=val.cells.toList:=by
   apply List.ext_getElem?;intro j
   by_cases hj:j<sz
   ·rw[Jr4 hj,←hc j (by omega),hc1 j hj];simp
   ·rw[Jr1 (by simp;omega),Jr1 (by simp;omega)]
  refine⟨val,vals.drop sz,f1,f2,by rw[←e1,List.take_append_drop],hs,e2,h1,WC es sz b (off+sz) (vals.drop sz) f2 h2 (by simp;omega) (fun j hj=>?_),h3⟩;rw[List.getElem?_drop,←hc (sz+j) (by simp at hj;omega),show off+sz+j=off+(sz+j) by omega]
theorem JbF :∀(es fs:List D) (sz:Nat) (vs us:List Value) (f1 f2:List Nat),XG w es sz vs f1→XG w fs sz us f2→XG w (es++fs) sz (vs++us) (f1++f2)
 | [],fs,sz,vs,us,f1,f2,h,h'=>by rw[h.1,h.2];exact h'
 | e::es,fs,sz,vs,us,f1,f2,⟨val,v2,g1,g2,e1,hs,e2,h1,h2,h3⟩,h'=>by
  subst e1;subst e2;exact⟨val,v2++us,g1,g2++f2,by simp,hs,by simp,h1,JbF es fs sz v2 us g2 f2 h2 h',h3⟩
theorem JhH :∀(es:List D) (sz:Nat) (vals:List Value) (fp:List Nat) (i:Nat) (e:D) (val:Value) (f:List Nat),XG w es sz vals fp→i<es.length→Rd w e val f→val.cells.size=sz→(∀u∈val.cells.toList,u.oneCell=true) →
  ∃ fp',XG w (es.set i e) sz (Jd vals (i*sz) val.cells.toList) fp'∧∀b∈fp',b∈fp∨b∈f
 | [],_,_,_,i,_,_,_,_,hi,_,_,_=>by simp at hi
 | e0::es,sz,vals,fp,0,e,val,f,⟨val0,v2,f1,f2,e1,hs,e2,h1,h2,h3⟩,_,he,hsz,hone=>by
  subst e1;subst e2;refine⟨f++f2,⟨val,v2,f,f2,?_,hsz,rfl,he,h2,hone⟩,fun b hb=>?_⟩
  ·simp[Jd,hsz,hs]
  ·rcases JrJ.1 hb with h | h
   ·exact .inr h
   ·exact .inl (by simp[h])
 | e0::es,sz,vals,fp,i+1,e,val,f,⟨val0,v2,f1,f2,e1,hs,e2,h1,h2,h5⟩,hi,he,hsz,hone=>by
  subst e1;subst e2;obtain⟨fp',h3,h4⟩:=JhH es sz v2 f2 i e val f h2 (by simpa using hi) he hsz hone;refine⟨f1++fp',⟨val0,_,f1,fp',?_,hs,rfl,h1,h3,h5⟩,fun b hb=>?_⟩
  ·have hl:val0.cells.toList.length=sz:=by simpa using hs
   simp only[Jd];rw[show (i+1)*sz=val0.cells.toList.length+i*sz by rw[hl,Nat.succ_mul];omega];rw[List.take_length_add_append,Nat.add_assoc,List.drop_length_add_append];simp
  ·rcases JrJ.1 hb with h | h
   ·exact .inl (by simp[h])
   ·rcases h4 b h with h | h
    ·exact .inl (by simp[h])
    ·exact .inr h
theorem JaZ :∀(es:List D) (sz:Nat) (vals:List Value) (fp:List Nat),XG w es sz vals fp→Jy es=true→fp=[]
 | [],_,_,_,h,_=>h.2
 | e::es,sz,vals,fp,⟨val,v2,f1,f2,e1,hs,e2,h1,h2,h3⟩,hf=>by
  simp only[Jy,JrE] at hf;rw[e2,YO e val f1 hf.1 h1,JaZ es sz v2 f2 h2 hf.2];rfl
def JbP (fp f fp':List Nat):Prop:=∃ A X B,fp=A++X++B∧fp'=A++f++B
theorem JbP.mem {fp f fp':List Nat} (h:JbP fp f fp') :∀b∈fp',b∈fp∨b∈f:=by
 obtain⟨A,X,B,rfl,rfl⟩:=h;intro b hb;simp only[JrJ] at hb ⊢;rcases hb with (hb | hb) | hb
 ·exact .inl (.inl (.inl hb))
 ·exact .inr hb
 ·exact .inl (.inr hb)
theorem JbP.nodup {fp f fp':List Nat} (h:JbP fp f fp') (h1:fp.Nodup) (h2:f.Nodup) (h3 :∀b∈f,b∉fp):fp'.Nodup:=by
 obtain⟨A,X,B,rfl,rfl⟩:=h;simp only[List.nodup_append,JrJ,not_or] at h1 h3 ⊢;obtain⟨⟨a1,a2,a3⟩,a4,a5⟩:=h1;refine⟨⟨a1,h2,fun x hx y hy e=>?_⟩,a4,fun x hx y hy e=>?_⟩
 ·subst e;exact(h3 x hy).1.1 hx
 ·subst e;rcases hx with hx | hx
  ·exact a5 x (.inl hx) x hy rfl
  ·exact(h3 x hx).2 hy
theorem JbP.within {fe f fe':List Nat} (h:JbP fe f fe') (P Q:List Nat):JbP (P++fe++Q) f (P++fe'++Q):=by
 obtain⟨A,X,B,rfl,rfl⟩:=h;exact⟨P++A,X,B++Q,by simp,by simp⟩
theorem JeK :∀(es:List D) (sz:Nat) (vals:List Value) (fp:List Nat) (i:Nat) (e:D),XG w es sz vals fp→es[i]? = some e →
  ∃ P fe Q val,fp=P++fe++Q∧Rd w e val fe∧val.cells.size=sz∧val.cells.toList=(vals.drop (i*sz)).take sz∧(∀u∈val.cells.toList,u.oneCell=true) ∧
   ∀(e':D) (val':Value) (fe':List Nat),Rd w e' val' fe'→val'.cells.size=sz→(∀u∈val'.cells.toList,u.oneCell=true)→XG w (es.set i e') sz (Jd vals (i*sz) val'.cells.toList) (P++fe'++Q)
 | [],_,_,_,i,_,_,hi=>by simp at hi
 | e0::es,sz,vals,fp,0,e,⟨val0,v2,f1,f2,e1,hs,e2,h1,h2,h3⟩,hi=>by
  subst e1;subst e2;simp only[List.getElem?_cons_zero,JrD] at hi;subst hi;have hl:val0.cells.toList.length=sz:=by simpa using hs
  refine⟨[],f1,f2,val0,by simp,h1,hs,by simp[hl],h3,fun e' val' fe' h4 h5 h6=>⟨val',v2,fe',f2,?_,h5,by simp,h4,h2,h6⟩⟩;simp[Jd,h5,hs]
 | e0::es,sz,vals,fp,i+1,e,⟨val0,v2,f1,f2,e1,hs,e2,h1,h2,h5⟩,hi=>by
  subst e1;subst e2;obtain⟨P,fe,Q,val,a1,a2,a3,a4,a5,a6⟩:=JeK es sz v2 f2 i e h2 (by simpa using hi);have hl:val0.cells.toList.length=sz:=by simpa using hs
  refine⟨f1++P,fe,Q,val,by rw[a1];simp,a2,a3,?_,a5,fun e' val' fe' h6 h7 h8=>?_⟩
  ·rw[a4,show (i+1)*sz=val0.cells.toList.length+i*sz by rw[hl,Nat.succ_mul];omega,List.drop_length_add_append]
  ·refine⟨val0,Jd v2 (i*sz) val'.cells.toList,f1,P++fe'++Q,?_,hs,by simp,h1,a6 e' val' fe' h6 h7 h8,h5⟩;simp only[Jd];rw[show (i+1)*sz=val0.cells.toList.length+i*sz by rw[hl,Nat.succ_mul];omega];rw[List.take_length_add_append,Nat.add_assoc,List.drop_length_add_append];simp
theorem JpD {d:D} {val:Value} {fp:List Nat} (h:Rd w d val fp) (ho:d.one=true):val.oneCell=true:=by
 cases d with
 | v x=>exact h.1▸h.2.1
 | s es=>obtain⟨_,_,rfl,_⟩:=h;rfl
 | q cs=>obtain⟨_,_,_,rfl,_⟩:=h;rfl
 | f fn cs=>obtain⟨_,rfl,_⟩:=h;rfl
 | g cs=>simp[D.one] at ho
 | t cs=>simp[D.one] at ho
theorem XW :∀(ds:List D) (vs:List Value) (fp:List Nat),Kn w ds vs fp→(∀u∈vs,u.oneCell=true)→XI w ds vs fp
 | [],_,_,h,_=>h
 | d::ds,vs,fp,⟨v,vs',f1,f2,e,hf,h1,h2⟩,ho=>by
  subst e;exact⟨v,vs',f1,f2,rfl,hf,h1,XW ds vs' f2 h2 (fun u hu=>ho u (by simp[hu])),ho v (by simp)⟩
theorem Jab {ag:Bool} {ds:List D} {vs:List Value} {fp:List Nat} {d:D} (h:Kn w ds vs fp) (hone :∀u∈vs,u.oneCell=true) (hm:D.mk ag ds=some d) :
  ∃ val,Rd w d val fp∧val.cells.toList=vs:=by
 cases ag with
 | true=>simp[D.mk] at hm;subst hm;exact⟨.agg vs.toArray,⟨vs,rfl,XW ds vs fp h hone⟩,by simp[Value.cells]⟩
 | false =>
  cases ds with
  | nil=>simp[D.mk] at hm
  | cons d0 ds =>
   cases ds with
   | nil =>
    simp only[D.mk] at hm;split at hm
    ·rename_i ho;simp at hm;subst hm;obtain⟨v,vs',f1,f2,rfl,rfl,h1,h2⟩:=h;obtain⟨rfl,rfl⟩:=h2;exact⟨v,by simpa using h1,by rw[Yv (JpD h1 ho)]⟩
    ·cases hm
   | cons _ _=>simp[D.mk] at hm
theorem Jal {v:Value} {d:D} {dp:Bool} (hS:Sim c g m w) (hx:VX c g m w x v) (h:(Wf x).run m=some ((d,dp),m')) :
  (∃ fp,Rd w d v fp∧JP c g m' fp)∧Sim c g m' w∧Jb c g m w g m' w:=by
 cases x with
 | d x =>
  cases rS1 h;obtain⟨fp,h1,h2⟩:=hx;exact⟨⟨fp,Jac h1,h2⟩,hS,.refl _ _ _ _⟩
 | o k n =>
  obtain⟨ob,hob,h⟩:=MP.get_some h;cases ob with
  | arr ty sz es dp' rw =>
   simp only at h;split at h
   ·rename_i hn;obtain⟨_,h⟩:=MP.put_some h;cases rS1 h;obtain⟨h1,h2⟩:=JdZ hS hob;obtain⟨h3,h4,h5⟩:=h1.arr k ty sz es false false (uS1 _ _ _);have hv:=(hx.2.2 ty sz es dp' rw hob).2 hn;refine⟨?_,h1,h2⟩;rcases h3 with ⟨_,e,rfl,e2⟩ | ⟨b,cap,cs,hb,e,hle,_,hh,_,hr⟩
    ·exact⟨[],⟨none,0,by rw[hv,e];rfl,by simp,.inl ⟨rfl,rfl⟩⟩,fun b hb=>by simp at hb⟩
    ·exact⟨b::g.fd k,⟨_,cap,by rw[hv,e],hle,.inr ⟨b,0,sz,_,rfl,(JrQ.1 hh).1,rfl,hr⟩⟩,fun q hq=>by
      rcases JrX.1 hq with rfl | hq
      ·exact h5 rfl _ hb _ (by simp)
      ·exact h4 rfl q hq⟩
   ·simp[MP.run] at h
  | _=>simp[MP.run] at h
 | _=>simp[Wf,MP.run] at h
theorem Jb.trans {g1 g2:Gh} {m1 m2:Mem} {w1 w2:World} (h:Jb c g m w g1 m1 w1) (h':Jb c g1 m1 w1 g2 m2 w2):Jb c g m w g2 m2 w2:=by
 refine⟨Nat.le_trans h.size h'.size,fun b h1 h2 h3=>?_,fun k cs hk=>?_,fun k ty sz es dp rw hk=>?_,fun k hk=>h'.dead k (h.dead k hk)⟩
 ·obtain⟨a1,a2⟩:=h.pure b h1 h2 h3;obtain⟨b1,b2⟩:=h'.pure b a2 h2 (Nat.lt_of_lt_of_le h3 h.size);exact⟨b1.trans a1,b2⟩
 ·obtain⟨⟨cs',e⟩,e'⟩:=h.box k cs hk;obtain⟨e2,e3⟩:=h'.box k cs' e;exact⟨e2,e3.trans e'⟩
 ·rcases h.arr k ty sz es dp rw hk with e | ⟨es',dp',rw',e,hh⟩
  ·exact .inl (h'.dead k e)
  ·rcases h'.arr k ty sz es' dp' rw' e with e2 | ⟨es2,dp2,rw2,e2,hh2⟩
   ·exact .inl e2
   ·refine .inr ⟨es2,dp2,rw2,e2,?_⟩;rcases hh with ⟨a1,a2,a3⟩ | a1
    ·rcases hh2 with ⟨b1,b2,b3⟩ | b1
     ·exact .inl ⟨b1.trans a1,b2.trans a2,b3.trans a3⟩
     ·exact .inr (by omega)
    ·rcases hh2 with ⟨b1,_⟩ | b1
     ·exact .inr (by omega)
     ·exact .inr (by omega)
theorem Ki :∀(xs:List X) (vs:List Value) (ds:List D) (dp:Bool) (m m':Mem),Sim c g m w→VXs c g m w xs vs→(W3 xs).run m=some ((ds,dp),m') →
  (∃ fp,Kn w ds vs fp∧JP c g m' fp)∧Sim c g m' w∧Jb c g m w g m' w
 | [],vs,ds,dp,m,m',hS,hv,h=>by
  cases rS1 h;rw[show vs=[] from hv];exact⟨⟨[],⟨rfl,rfl⟩,fun b hb=>by simp at hb⟩,hS,.refl _ _ _ _⟩
 | x::xs,vs,ds,dp,m,m',hS,⟨v,vs',e,h1,h2⟩,h=>by
  subst e;obtain⟨⟨d,b1⟩,m1,ha,h⟩:=MP.bind_some h;obtain⟨⟨fp,hr,ho⟩,hS1,hC1⟩:=Jal hS h1 ha;obtain⟨⟨ds',b2⟩,m2,hb,h⟩:=MP.bind_some h;cases rS1 h;obtain⟨⟨fp2,hr2,ho2⟩,hS2,hC2⟩:=Ki xs vs' ds' b2 m1 m' hS1 (Qe hC1 _ _ h2) hb;have:=Qj hC2 (Jax _ _ _ hr) ho;refine⟨⟨fp++fp2,⟨v,vs',fp,fp2,rfl,rfl,hr,hr2⟩,fun b hb=>?_⟩,hS2,hC1.trans hC2⟩;rcases JrJ.1 hb with hb | hb
  ·exact this.1 b hb
  ·exact ho2 b hb
end
end Go.Tm
end
section
namespace Go.Tm
open Go.IntKind (i64)
def YY (P:Program) (w:World):List D→Kds→Nat→List Value→List Nat→Prop
 | [],_,_,vals,fp=>vals=[]∧fp=[]
 | e::es,ks,sz,vals,fp=>∃ val v2 f1 f2,vals=val.cells.toList++v2∧val.cells.size=sz∧fp=f1++f2∧Ow P w e ks val f1∧YY P w es ks sz v2 f2∧∀u∈val.cells.toList,u.oneCell=true
section
variable {P:Program} {w w':World}
theorem VC :∀(es:List D) (ks:Kds) (sz:Nat) (vals:List Value) (fp:List Nat),YY P w es ks sz vals fp→XG w es sz vals fp
 | [],_,_,_,_,h=>h
 | e::es,ks,sz,vals,fp,⟨val,v2,f1,f2,e1,hs,e2,h1,h2,h3⟩=>⟨val,v2,f1,f2,e1,hs,e2,Jkh _ _ _ _ h1,VC es ks sz v2 f2 h2,h3⟩
theorem Zz :∀(es:List D) (ks:Kds) (sz b off:Nat) (vals:List Value) (fp:List Nat),YY P w es ks sz vals fp→(∀j,j<vals.length→w.cell? ⟨b,off+j,none⟩=vals[j]?)→JbS P w es ks sz b off fp
 | [],_,_,_,_,_,_,h,_=>h.2
 | e::es,ks,sz,b,off,vals,fp,⟨val,v2,f1,f2,e1,hs,e2,h1,h2,h3⟩,hc=>by
  subst e1;refine⟨val,f1,f2,e2,h1,hs,fun j hj=>?_,Zz es ks sz b (off+sz) v2 f2 h2 fun j hj=>?_,h3⟩
  ·have:=hc j (by simp;omega);rw[this,Jr5 (by simp;omega)];simp
  ·have:=hc (sz+j) (by simp;omega);rw[show off+sz+j=off+(sz+j) by omega,this,Jr6 (by simp;omega)];simp[hs]
theorem ZM :∀(es:List D) (ks:Kds) (sz b off:Nat) (vals:List Value) (fp:List Nat),JbS P w es ks sz b off fp→vals.length=es.length*sz→(∀j,j<vals.length→w.cell? ⟨b,off+j,none⟩=vals[j]?)→YY P w es ks sz vals fp
 | [],_,sz,_,_,vals,_,h,hl,_=>⟨by simpa using hl,h⟩
 | e::es,ks,sz,b,off,vals,fp,⟨val,f1,f2,e2,h1,hs,hc1,h2,h3⟩,hl,hc=>by
  rw[List.length_cons,Nat.succ_mul] at hl;have e1:vals.take sz=val.cells.toList:=by
   apply List.ext_getElem?;intro j
   by_cases hj:j<sz
   ·rw[Jr4 hj,←hc j (by omega),hc1 j hj];simp
   ·rw[Jr1 (by simp;omega),Jr1 (by simp;omega)]
  refine⟨val,vals.drop sz,f1,f2,by rw[←e1,List.take_append_drop],hs,e2,h1,ZM es ks sz b (off+sz) (vals.drop sz) f2 h2 (by simp;omega) (fun j hj=>?_),h3⟩;rw[List.getElem?_drop,←hc (sz+j) (by simp at hj;omega),show off+sz+j=off+(sz+j) by omega]
theorem Jbr :∀(es fs:List D) (ks:Kds) (sz:Nat) (vs us:List Value) (f1 f2:List Nat),YY P w es ks sz vs f1→YY P w fs ks sz us f2→YY P w (es++fs) ks sz (vs++us) (f1++f2)
 | [],fs,ks,sz,vs,us,f1,f2,h,h'=>by rw[h.1,h.2];exact h'
 | e::es,fs,ks,sz,vs,us,f1,f2,⟨val,v2,g1,g2,e1,hs,e2,h1,h2,h3⟩,h'=>by
  subst e1;subst e2;exact⟨val,v2++us,g1,g2++f2,by simp,hs,by simp,h1,Jbr es fs ks sz v2 us g2 f2 h2 h',h3⟩
theorem Kt :∀(es:List D) (ks:Kds) (sz:Nat) (vals:List Value) (fp:List Nat),(∀b∈fp,w'.heap[b]? = w.heap[b]?)→YY P w es ks sz vals fp→YY P w' es ks sz vals fp
 | [],_,_,_,_,_,h=>h
 | e::es,ks,sz,vals,fp,hs,⟨val,v2,f1,f2,e1,hs1,e2,h1,h2,h3⟩=>by
  subst e2;exact⟨val,v2,f1,f2,e1,hs1,rfl,Jaf _ _ _ _ (fun b hb=>hs b (by simp[hb])) h1,Kt es ks sz v2 f2 (fun b hb=>hs b (by simp[hb])) h2,h3⟩
theorem JeM :∀(es:List D) (ks:Kds) (sz:Nat) (vals:List Value) (fp:List Nat),Jy es=true→XG w es sz vals fp→YY P w es ks sz vals fp
 | [],_,_,_,_,_,h=>h
 | e::es,ks,sz,vals,fp,hf,⟨val,v2,f1,f2,e1,hs,e2,h1,h2,h3⟩=>by
  simp only[Jy,JrE] at hf;exact⟨val,v2,f1,f2,e1,hs,e2,Jh9 ks hf.1 h3 h1,JeM es ks sz v2 f2 hf.2 h2,h3⟩
theorem Vd {d:D} {val:Value} {ks:Kds} {sz:Nat} (h:Ow P w d ks val []) (hs:val.cells.size=sz) (ho :∀u∈val.cells.toList,u.oneCell=true) :
  ∀n,YY P w (List.replicate n d) ks sz (List.replicate n val.cells.toList).flatten []
 | 0=>⟨rfl,rfl⟩
 | n+1=>⟨val,_,[],[],by rw[List.replicate_succ,List.flatten_cons],hs,rfl,h,Vd h hs ho n,ho⟩
theorem Jbc :∀(es:List D) (ks:Kds) (sz:Nat) (vals:List Value) (fp:List Nat) (i:Nat) (e:D),YY P w es ks sz vals fp→es[i]? = some e →
  ∃ X fe Q val,fp=X++fe++Q∧Ow P w e ks val fe∧val.cells.size=sz∧val.cells.toList=(vals.drop (i*sz)).take sz∧(∀u∈val.cells.toList,u.oneCell=true) ∧
   ∀(w':World) (e':D) (val':Value) (fe':List Nat),(∀b∈X++Q,w'.heap[b]? = w.heap[b]?)→Ow P w' e' ks val' fe'→val'.cells.size=sz→(∀u∈val'.cells.toList,u.oneCell=true) →
    YY P w' (es.set i e') ks sz (Jd vals (i*sz) val'.cells.toList) (X++fe'++Q)
 | [],_,_,_,_,i,_,_,hi=>by simp at hi
 | e0::es,ks,sz,vals,fp,0,e,⟨val0,v2,f1,f2,e1,hs,e2,h1,h2,h3⟩,hi=>by
  subst e1;subst e2;simp only[List.getElem?_cons_zero,JrD] at hi;subst hi;have hl:val0.cells.toList.length=sz:=by simpa using hs
  refine⟨[],f1,f2,val0,by simp,h1,hs,by simp[hl],h3,fun w' e' val' fe' hw h4 h5 h6=>⟨val',v2,fe',f2,?_,h5,by simp,h4,Kt _ _ _ _ _ (by simpa using hw) h2,h6⟩⟩;simp[Jd,h5,hs]
 | e0::es,ks,sz,vals,fp,i+1,e,⟨val0,v2,f1,f2,e1,hs,e2,h1,h2,h5⟩,hi=>by
  subst e1;subst e2;obtain⟨X,fe,Q,val,a1,a2,a3,a4,a5,a6⟩:=Jbc es ks sz v2 f2 i e h2 (by simpa using hi);have hl:val0.cells.toList.length=sz:=by simpa using hs
  refine⟨f1++X,fe,Q,val,by rw[a1];simp,a2,a3,?_,a5,fun w' e' val' fe' hw h6 h7 h8=>?_⟩
  ·rw[a4,show (i+1)*sz=val0.cells.toList.length+i*sz by rw[hl,Nat.succ_mul];omega,List.drop_length_add_append]
  ·refine⟨val0,Jd v2 (i*sz) val'.cells.toList,f1,X++fe'++Q,?_,hs,by simp,Jaf _ _ _ _ (fun b hb=>hw b (by simp[hb])) h1,a6 w' e' val' fe' (fun b hb=>hw b (by simp only[JrJ] at hb ⊢;rcases hb with h | h <;> simp[h])) h6 h7 h8,h5⟩;simp only[Jd];rw[show (i+1)*sz=val0.cells.toList.length+i*sz by rw[hl,Nat.succ_mul];omega];rw[List.take_length_add_append,Nat.add_assoc,List.drop_length_add_append];simp
theorem UM :∀(ds es:List D) (ks:Kds) (vs us:List Value) (f1 f2:List Nat),ZR P w ds ks vs f1→ZR P w es (ks.drop ds.length) us f2→ZR P w (ds++es) ks (vs++us) (f1++f2)
 | [],es,ks,vs,us,f1,f2,h,h'=>by rw[h.1,h.2];exact h'
 | d::ds,es,ks,vs,us,f1,f2,⟨v,vs',g1,g2,e,hf,h1,h2,h3⟩,h'=>by
  subst e;subst hf;exact⟨v,vs'++us,g1,g2++f2,rfl,by simp,h1,UM ds es _ vs' us g2 f2 h2 (by rw[List.drop_drop,Nat.add_comm];exact h'),h3⟩
theorem Jdc :∀(n:Nat) (ds:List D) (ks:Kds) (vs:List Value) (fp:List Nat),ZR P w ds ks vs fp→∃ f1 f2,ZR P w (ds.take n) ks (vs.take n) f1∧ZR P w (ds.drop n) (ks.drop n) (vs.drop n) f2∧fp=f1++f2
 | 0,ds,ks,vs,fp,h=>⟨[],fp,⟨rfl,rfl⟩,h,rfl⟩
 | n+1,[],ks,vs,fp,h=>by rw[h.1,h.2];exact⟨[],[],⟨rfl,rfl⟩,⟨rfl,rfl⟩,rfl⟩
 | n+1,d::ds,ks,vs,fp,⟨v,vs',g1,g2,e,hf,h1,h2,h3⟩=>by
  subst e;subst hf;obtain⟨f1,f2,a1,a2,a3⟩:=Jdc n ds _ vs' g2 h2;exact⟨g1++f1,f2,⟨v,vs'.take n,g1,f1,by simp,rfl,h1,a1,h3⟩,by rw[List.drop_drop,Nat.add_comm] at a2;simpa using a2,by rw[a3];simp⟩
theorem Jg5 {ds es:List D} {ks:Kds} {vs us:List Value} {f1 f2:List Nat} {off:Nat} (ho:off+es.length≤ds.length) (h:ZR P w ds ks vs f1) (h':ZR P w es (ks.drop off) us f2) :
  ∃ fp,ZR P w (Jd ds off es) ks (Jd vs off us) fp∧JbP f1 f2 fp:=by
 have hl:us.length=es.length:=J7 _ _ _ (Uh _ _ _ _ h');obtain⟨a,r,h1,hr,e1⟩:=Jdc off ds ks vs f1 h;obtain⟨x,b,_,h2,e2⟩:=Jdc us.length (ds.drop off) _ (vs.drop off) r hr;rw[List.drop_drop,List.drop_drop,List.drop_drop] at h2;unfold Jd;rw[←hl];refine⟨a++f2++b,UM _ _ _ _ _ _ _ (UM _ _ _ _ _ _ _ h1 ?_) ?_,a,x,b,by rw[e1,e2];simp,rfl⟩
 ·rw[JrT,Nat.min_eq_left (by omega)];exact h'
 ·rw[JrK,JrT,Nat.min_eq_left (by omega),←hl];exact h2
theorem Jgq {d:D} {ks:Kds} {v:Value} {fp:List Nat} (ho:v.oneCell=true) (h:Ow P w d (ks.take 1) v fp):Ow P w d ks v fp:=by
 cases d with
 | v x=>exact h
 | g cs=>obtain⟨vs,rfl,_⟩:=h;simp[Value.oneCell] at ho
 | s es =>
  obtain⟨ty,sz,hk,h⟩:=h;exact⟨ty,sz,by cases ks <;> simp_all,h⟩
 | _=>exact h
theorem Jmv {d:D} {ks:Kds} {v:Value} {fp:List Nat} (ho:v.oneCell=true) (h:Ow P w d ks v fp):Ow P w d (ks.take 1) v fp:=by
 cases d with
 | v x=>exact h
 | g cs=>obtain⟨vs,rfl,_⟩:=h;simp[Value.oneCell] at ho
 | s es =>
  obtain⟨ty,sz,hk,h⟩:=h;exact⟨ty,sz,by cases ks <;> simp_all,h⟩
 | _=>exact h
theorem Jjw {e e':D} {off:Nat} {ks:Kds} {ds:List D} {val:Value} {us:List Value} {f1 f2:List Nat} (h:Ow P w e ks val f1) (hvo :∀u∈val.cells.toList,u.oneCell=true) (hd:ZR P w ds (ks.drop off) us f2) (hp:e.put off ds=some e') :
  ∃ val' fp,Ow P w e' ks val' fp∧val'.cells.toList=Jd val.cells.toList off us∧off+us.length≤val.cells.size∧JbP f1 f2 fp:=by
 have hl:=J7 _ _ _ (Uh _ _ _ _ hd);have hones:=YG _ _ _ (Uh _ _ _ _ hd)
 by_cases hg : ∃ cs,e = .g cs
 ·obtain⟨cs,rfl⟩:=hg;obtain⟨vs,rfl,hr⟩:=h;simp only[D.put] at hp;split at hp
  ·rename_i hle;simp only[JrD] at hp;subst hp;obtain⟨fp,h1,h2⟩:=Jg5 (off:=off) hle hr hd;refine⟨.agg (Jd vs off us).toArray,fp,⟨_,rfl,h1⟩,by simp[Value.cells],?_,h2⟩;have:=J7 _ _ _ (Uh _ _ _ _ hr);simp[Value.cells];omega
  ·cases hp
 ·have hc:=J7 _ _ _ (UT (Jkh _ _ _ _ h) hvo);have hcell:e.cells=[e]:=by cases e <;> first | rfl | exact absurd ⟨_,rfl⟩ hg
  rw[hcell] at hc;have hput:off=0∧ds=[e']:=by
   cases e <;> simp only[D.put] at hp <;> first
    | exact absurd ⟨_,rfl⟩ hg
    | (split at hp <;> simp_all)
  obtain⟨rfl,rfl⟩:=hput;obtain⟨v,vs',g1,g2,rfl,rfl,h1,h2,h3⟩:=hd;obtain⟨rfl,rfl⟩:=h2;refine⟨v,g1,Jgq h3 h1,?_,by simpa using Nat.le_of_eq hc.symm,[],f1,[],by simp,by simp⟩;rw[Yv h3];simp only[JrO,List.length_singleton] at hc;have:val.cells.toList.drop 1=[]:=List.eq_nil_of_length_eq_zero (by simp[hc]);simp[Jd,this]
theorem Jfe :∀(z:List Value) (ks:Kds),zOk ks z=true→z.all (·.oneCell)=true→ZR P w (z.map fun v=>(D.v v).norm) ks z []
 | [],_,_,_=>⟨rfl,rfl⟩
 | v::vs,ks,hz,h=>by
  simp only[List.all_cons,JrE,zOk] at h hz;refine⟨v,vs,[],[],rfl,rfl,?_,Jfe vs _ hz.2 h.2,h.1⟩;show Ow P w (D.v v).norm (ks.take 1) v [];unfold D.norm;split
  ·rename_i e;cases e;have h1:=hz.1;simp only at h1;cases ks with
   | nil=>simp at h1
   | cons k ks =>
    cases k with
    | none=>simp at h1
    | some q=>exact⟨q.1,q.2,rfl,.inl ⟨rfl,rfl,rfl⟩⟩
  ·exact⟨rfl,h.1,rfl⟩
theorem JeD {ag:Bool} {ks:Kds} {ds:List D} {vs:List Value} {fp:List Nat} {d:D} (h:ZR P w ds ks vs fp) (hm:D.mk ag ds=some d) :
  ∃ val,Ow P w d ks val fp∧val.cells.toList=vs:=by
 cases ag with
 | true=>simp[D.mk] at hm;subst hm;exact⟨.agg vs.toArray,⟨vs,rfl,h⟩,by simp[Value.cells]⟩
 | false =>
  cases ds with
  | nil=>simp[D.mk] at hm
  | cons d0 ds =>
   cases ds with
   | nil =>
    simp only[D.mk] at hm;split at hm
    ·rename_i ho;simp at hm;subst hm;obtain⟨v,vs',f1,f2,rfl,rfl,h1,h2,h3⟩:=h;obtain⟨rfl,rfl⟩:=h2;exact⟨v,by simpa using Jgq h3 h1,by rw[Yv h3]⟩
    ·cases hm
   | cons _ _=>simp[D.mk] at hm
end
end Go.Tm
end
section
namespace Go.Tm
open Go.IntKind (i64)
section
variable {P:Program} {T:Tab} {G:JQ} {c:Cx P} {g:Gh} {m m':Mem} {w w':World} {a:Act} {sl:QI} {o:Oper} {x:X}
theorem VI :∀(es:List D) (sz:Nat) (vals:List Value) (fp:List Nat),w.heap.size≤w'.heap.size→(∀b∈fp,w'.heap[b]? = w.heap[b]?)→XG w es sz vals fp→XG w' es sz vals fp
 | [],_,_,_,_,_,h=>h
 | e::es,sz,vals,fp,hz,hs,⟨val,v2,f1,f2,e1,hsz,e2,h1,h2,h3⟩=>by
  subst e2;exact⟨val,v2,f1,f2,e1,hsz,rfl,Vo e val f1 hz (fun b hb=>hs b (by simp[hb])) h1,VI es sz v2 f2 hz (fun b hb=>hs b (by simp[hb])) h2,h3⟩
theorem W5 :∀(es:List D) (sz:Nat) (vals:List Value) (fp:List Nat),XG w es sz vals fp→∀b∈fp,b<w.heap.size
 | [],_,_,_,h,b,hb=>by rw[h.2] at hb;simp at hb
 | e::es,sz,vals,fp,⟨val,v2,f1,f2,_,_,e2,h1,h2,_⟩,b,hb=>by
  subst e2;rcases JrJ.1 hb with hb | hb
  ·exact Jax e val f1 h1 b hb
  ·exact W5 es sz v2 f2 h2 b hb
theorem JeT :∀(es:List D) (sz:Nat) (vals:List Value) (fp:List Nat),XG w es sz vals fp→∀u∈vals,u.oneCell=true
 | [],_,_,_,h,u,hu=>by rw[h.1] at hu;simp at hu
 | e::es,sz,vals,fp,⟨val,v2,f1,f2,e1,_,_,_,h2,h3⟩,u,hu=>by
  subst e1;rcases JrJ.1 hu with hu | hu
  ·exact h3 u hu
  ·exact JeT es sz v2 f2 h2 u hu
theorem one' {v:Value} (h:v.oneCell=true):v.oneCell'=true:=by cases v <;> simp_all [Value.oneCell,Value.oneCell']
theorem Jby {ag : Bool} {sz : Nat} : ∀ (ps : List (Nat × X)) (qs : List (Nat × Value)) (es : List D) (dp : Bool) (arr : Array Value) (fp : List Nat) (es' : List D) (dp' : Bool) (m m' : Mem),
    qs.length=ps.length→(∀(i:Nat) (p:Nat×X) (q:Nat×Value),ps[i]? = some p→qs[i]? = some q→p.1=q.1∧VX c g m w p.2 q.2)→Sim c g m w→XG w es sz arr.toList fp→JP c g m fp →
    (Jcg ag sz es dp ps).run m=some ((es',dp'),m') →
    ∃ arr' fp',Instr.fill (fun i=>some (i*sz,sz)) arr qs=some arr'∧XG w es' sz arr'.toList fp'∧JP c g m' fp'∧Sim c g m' w∧Jb c g m w g m' w∧es'.length=es.length
  | [],[],es,dp,arr,fp,es',dp',m,m',_,_,hS,hv,ho,h=>by
    cases rS1 h;exact⟨arr,fp,rfl,hv,ho,hS,.refl _ _ _ _,rfl⟩
  | [],_::_,_,_,_,_,_,_,_,_,hl,_,_,_,_,_=>by simp at hl
  | _::_,[],_,_,_,_,_,_,_,_,hl,_,_,_,_,_=>by simp at hl
  | (i,x)::ps,(j,v)::qs,es,dp,arr,fp,es',dp',m,m',hl,hr,hS,hv,ho,h=>by
    obtain⟨hij,hx⟩:=hr 0 _ _ rfl rfl
    simp only at hij;subst hij
    simp only[Jcg] at h
    split at h
    · rename_i vs hc
      split at h
      · rename_i hn
        obtain⟨hn,hi,hone⟩:=hn
        obtain⟨hcs,hcone⟩:=X7 hx hc
        have hlen:=Qr _ _ hcs
        obtain⟨⟨ds,b1⟩,m1,ha,h⟩:=MP.bind_some h
        obtain⟨⟨fp1,hr1,ho1⟩,hS1,hC1⟩:=Ki vs v.cells.toList ds b1 m m1 hS hcs ha
        split at h
        · rename_i d hd
          obtain⟨val,hval,hvc⟩:=Jab hr1 hcone hd
          have hsz:val.cells.size=sz:=by rw[←JrO,hvc,hlen,hn]
          obtain⟨fp2,hv2,hsub⟩:=JhH es sz arr.toList fp i d val fp1 hv hi hval hsz (by rw[hvc];exact hcone)
          have hlen2:=JN _ _ _ _ hv
          simp only[JrO] at hlen2 hlen
          have hvsz:v.cells.size=sz:=by omega
          have hle:i*sz+sz≤arr.size:=by rw[hlen2,←Nat.succ_mul];exact Nat.mul_le_mul_right _ hi
          have hfold:=Vy (i*sz) v.cells.toList 0 arr (by simp;omega)
          have e:(v.cells.zipIdx.foldl (fun cs p=>cs.setIfInBounds (i*sz+p.2) p.1) arr).toList=Jd arr.toList (i*sz) v.cells.toList:=by
            rw[←Array.foldl_toList,Array.toList_zipIdx];simpa using hfold
          have hok2:JP c g m1 fp2:=by
            have h0:=(Qj hC1 (W5 _ _ _ _ hv) ho).1
            intro b hb
            rcases hsub b hb with hb | hb
            · exact h0 b hb
            · exact ho1 b hb
          obtain⟨arr',fp',h1,h2,h3,h4,h5,h6⟩:=Jby ps qs (es.set i d) (dp&&b1) (v.cells.zipIdx.foldl (fun cs p=>cs.setIfInBounds (i*sz+p.2) p.1) arr) fp2 es' dp' m1 m' (by simpa using hl)
            (fun k p q a b=>by
              obtain⟨a1,a2⟩:=hr (k+1) p q (by simpa using a) (by simpa using b)
              exact⟨a1,Qv hC1 _ _ a2⟩) hS1 (by rw[e,←hvc];exact hv2) hok2 h
          refine⟨arr',fp',?_,h2,h3,h4,hC1.trans h5,by simpa using h6⟩
          simp only[Instr.fill]
          rw[if_neg (by simp;omega)]
          exact h1
        · simp[MP.run] at h
      · simp[MP.run] at h
    · simp[MP.run] at h
theorem Zg {k:Key} {ty:TypeId} {sz:Nat} {es:List D} {dp:Bool} {vals:List Value} {fp:List Nat} {cap:Nat} (hS:Sim c g m w) (hk:m k=none) (hf:Yi c w') (hsz:w'.heap.size=w.heap.size+1)
  (hw :∀j,j<w.heap.size→w'.heap[j]? = w.heap[j]?) (hnew : ∃ cs:Array Value,w'.heap[w.heap.size]? = some (.cells cs ty (0,0))∧cs.size=cap*sz∧cs.toList.take (es.length*sz)=vals)
  (hcap:es.length≤cap) (hmax:cap≤maxLen) (hv:XG w es sz vals fp) (ho:JP c g m fp) (hdp:dp=true→fp=[]∧YY P w es (JF P ty) sz vals fp) :
  ∃ g',Sim c g' (upd m k (some (.arr ty sz es dp true))) w'∧Jb c g m w g' (upd m k (some (.arr ty sz es dp true))) w' ∧
   VX c g' (upd m k (some (.arr ty sz es dp true))) w' (.o k es.length) (.slice (some ⟨w.heap.size,0,none⟩) es.length cap):=by
 obtain⟨cs,hcs,hsize,htake⟩:=hnew;have hlen:=JN _ _ _ _ hv;have hC:Jb c g m w (g.new k w.heap.size (.slice (some ⟨w.heap.size,0,none⟩) es.length cap) fp) (upd m k (some (.arr ty sz es dp true))) w' :=
  .new hS hk (Nat.le_refl _) (by omega) hw (fun h=>(hdp (by simpa[Obj.dpw] using h)).1)
 have hfd:(g.new k w.heap.size (.slice (some ⟨w.heap.size,0,none⟩) es.length cap) fp).fd k=fp:=by simp[Gh.new,uS1]
 have hbl:(g.new k w.heap.size (.slice (some ⟨w.heap.size,0,none⟩) es.length cap) fp).bl k=some w.heap.size:=by simp[Gh.new,uS1]
 have hhd:(g.new k w.heap.size (.slice (some ⟨w.heap.size,0,none⟩) es.length cap) fp).hd k = .slice (some ⟨w.heap.size,0,none⟩) es.length cap:=by simp[Gh.new,uS1]
 have hmono:=Qj hC (W5 _ _ _ _ hv) ho;have hcell :∀j,j<vals.length→w'.cell? ⟨w.heap.size,0+j,none⟩=vals[j]?:=fun j hj=>by
  rw[Nat.zero_add];have:vals[j]? = cs.toList[j]?:=by rw[←htake,Jr4 (by omega)]
  rw[this];simp[World.cell?,hcs]
 obtain⟨h1,h2⟩:=hS.newBlock (o':= .arr ty sz es dp true) (v:= .slice (some ⟨w.heap.size,0,none⟩) es.length cap) (f:=fp) (w':=w') hk hsz hw hf (fun h=>(hdp (by simpa[Obj.dpw] using h)).1)
  ⟨.inr ⟨w.heap.size,cap,cs,hbl,hhd,hcap,hmax,hcs,Nat.le_of_eq hsize.symm,by rw[hfd];exact K2 _ _ _ _ _ _ (VI _ _ _ _ (by omega) hmono.2 hv) hcell⟩,
   fun _=>by rw[hfd];exact hmono.1,(fun(h:true=false)=>by cases h),fun _ b hb=>by
    rcases hb with hb | ⟨hd,hb⟩
    ·rw[hbl] at hb;cases hb;simp[Gh.new,uS1]
    ·rw[hfd,(hdp (by simpa[Obj.dpw] using hd)).1] at hb;simp at hb,
   fun hd _=>by
    rw[hfd];refine⟨by rw[(hdp hd).1];exact List.nodup_nil,fun b hb=>⟨by rw[(hdp hd).1];simp,?_⟩⟩;rw[hbl] at hb;cases hb;exact Zz _ _ _ _ _ _ _ (Kt _ _ _ _ _ hmono.2 (hdp hd).2) hcell⟩
 refine⟨_,h1,h2,rfl,⟨_,uS1 _ _ _,by simp⟩,fun ty1 sz1 es1 dp1 rw1 e=>?_⟩;rw[uS1] at e;cases e;exact⟨Nat.le_refl _,fun _=>hhd.symm⟩
theorem Yj {d:D} {val:Value} {sz:Nat} (h:Rd w d val []) (hs:val.cells.size=sz) (ho :∀u∈val.cells.toList,u.oneCell=true) :
  ∀n,XG w (List.replicate n d) sz (List.replicate n val.cells.toList).flatten []
 | 0=>⟨rfl,rfl⟩
 | n+1=>⟨val,_,[],[],by rw[List.replicate_succ,List.flatten_cons],hs,rfl,h,Yj h hs ho n,ho⟩
theorem VL :∀(z:List Value),z.all (·.oneCell)=true→Kn w (z.map fun v=>(D.v v).norm) z []
 | [],_=>⟨rfl,rfl⟩
 | v::vs,h=>by
  simp only[List.all_cons,JrE] at h;exact⟨v,vs,[],[],rfl,rfl,Jac ⟨rfl,h.1,rfl⟩,VL vs h.2⟩
theorem WB (zs:Array Value) (n:Nat) (hz:0<zs.size):((Array.range (n*zs.size)).map (fun i=>zs[i % zs.size]!)).toList=(List.replicate n zs.toList).flatten:=by
 apply List.ext_getElem?;intro i
 induction n generalizing i with
 | zero=>simp
 | succ n ih =>
  rw[List.replicate_succ,List.flatten_cons]
  by_cases hi:i<zs.size
  ·rw[Jr5 (by simpa using hi)];have hlt:i<(n+1)*zs.size:=by rw[Nat.succ_mul];omega
   simp[hlt,Nat.mod_eq_of_lt hi,hi]
  ·rw[Jr6 (by simpa using hi),←ih];simp only[JrO,Array.toList_map,JrZ,Array.toList_range]
   by_cases hlt:i<(n+1)*zs.size
   ·rw[List.getElem?_range hlt,List.getElem?_range (by rw[Nat.succ_mul] at hlt;omega)];simp only[JrG]
    congr 2
    have:i=(i-zs.size)+zs.size:=by omega
    conv=>lhs;rw[this]
    simp
   ·rw[Jr1 (by simpa using hlt),Jr1 (by rw[Nat.succ_mul] at hlt;simp;omega)]
end
end Go.Tm
end
section
namespace Go.Tm
open Go.IntKind (i64)
structure UE (g:Gh) (k:Key) (m0 m1:Mem) (mv:List Key) (f:List Nat):Prop where
 out :∀j,j∉mv→m1 j=m0 j
 gone :∀j∈mv,j≠k∧m1 j=some .dead∧∃ ty sz es dp,m0 j=some (.arr ty sz es dp true)
 nodup:f.Nodup
 blk :∀b∈f,∃ j∈mv,∃ o,m0 j=some o∧o.rw=true∧Blk g j o b
section
variable {P:Program} {c:Cx P} {g:Gh} {m:Mem} {w:World} {k:Key}
theorem UE.nil {m0:Mem}:UE g k m0 m0 [] []:=⟨fun _ _=>rfl,fun _ h=>by simp at h,List.nodup_nil,fun _ h=>by simp at h⟩
theorem Jav {es:List D} {sz b o:Nat} {fp:List Nat}:Jy es=true→Ub w es sz b o fp→fp=[]:=by
 induction es generalizing o fp with
 | nil=>intro _ h;exact h
 | cons e es ih =>
  intro hf h;obtain⟨val,f1,f2,hfp,h1,_,_,h2,_⟩:=h;simp only[Jy,JrE] at hf;rw[hfp,YO e val f1 hf.1 h1,ih hf.2 h2];rfl
theorem JhM (hS:Sim c g m w) {kd:Option (TypeId×Nat)} {x:X} {v:Value} {d:D} {m0 m1:Mem} (hm :∀j o,m0 j=some o→o≠ .dead→m j=some o) (hx:VX c g m w x v) (hone:v.oneCell=true)
  (h:(Jhh k kd x).run m0=some (d,m1)) : ∃ mv f,UE g k m0 m1 mv f∧Ow P w d [kd] v f:=by
 cases x with
 | d x =>
  obtain⟨fp,hr,_⟩:=hx;unfold Jhh at h;split at h
  ·rename_i e;cases e;split at h
   ·rename_i hk;cases rS1 h;obtain⟨rfl,_,_⟩:=hr;cases kd with
    | none=>simp at hk
    | some q=>exact⟨[],[],.nil,q.1,q.2,rfl,.inl ⟨rfl,rfl,rfl⟩⟩
   ·simp[MP.run] at h
  ·rename_i d' _ e;cases e;split at h
   ·rename_i hf;cases rS1 h;have:=YO _ _ _ hf hr;subst this;exact⟨[],[],.nil,JkM _ hf hone hr⟩
   ·simp[MP.run] at h
  all_goals simp_all [MP.run]
 | o j n =>
  obtain⟨ob,hob,h⟩:=MP.get_some h;cases ob with
  | arr ty sz es dp rw =>
   cases rw with
   | false=>simp[MP.run] at h
   | true =>
    simp only at h;split at h
    ·rename_i hc;obtain⟨hn,hdf,hkd,hjk⟩:=hc;obtain⟨_,h⟩:=MP.put_some h;cases rS1 h;have hmj:=hm j _ hob (by simp);have hv:=(hx.2.2 ty sz es dp true hmj).2 hn;obtain⟨harr,_,_⟩:=hS.arr j ty sz es dp true hmj;rcases harr with ⟨hbl,hhd,rfl,hfd⟩ | ⟨b,cap,cs,hb,hhd,hcap,hmax,hh,hsize,hr⟩
     ·refine⟨[j],[],⟨fun i hi=>uO1 _ _ (by simpa using hi),fun i hi=>?_,List.nodup_nil,fun _ h=>by simp at h⟩,ty,sz,by rw[hkd];rfl,.inl ⟨by rw[hv,hhd];rfl,rfl,rfl⟩⟩;simp only[JrW] at hi;subst hi;exact⟨hjk,uS1 _ _ _,_,_,_,_,hob⟩
     ·have hfl:dp=false→g.fd j=[]:=fun hd=>Jav (by simpa[hd] using hdf) hr;refine⟨[j],b::g.fd j,⟨fun i hi=>uO1 _ _ (by simpa using hi),fun i hi=>?_,?_,fun q hq=>⟨j,by simp,_,hob,rfl,?_⟩⟩,ty,sz,by rw[hkd];rfl,.inr ⟨b,cap,cs,g.fd j,by rw[hv,hhd],hcap,hmax,hh,hsize,rfl,?_⟩⟩
      ·simp only[JrW] at hi;subst hi;exact⟨hjk,uS1 _ _ _,_,_,_,_,hob⟩
      ·cases dp with
       | false=>rw[hfl rfl];simp
       | true =>
        obtain⟨h1,h2⟩:=hS.deep j ty sz es hmj;exact List.nodup_cons.2 ⟨(h2 b hb).1,h1⟩
      ·rcases JrX.1 hq with rfl | hq
       ·exact .inl hb
       ·cases dp with
        | false=>rw[hfl rfl] at hq;simp at hq
        | true=>exact .inr ⟨rfl,hq⟩
      ·cases dp with
       | false=>exact Jbg _ _ _ _ _ _ (by simpa using hdf) hr
       | true=>exact((hS.deep j ty sz es hmj).2 b hb).2
    ·simp[MP.run] at h
  | _=>simp[MP.run] at h
 | _=>simp[Jhh,MP.run] at h
theorem UE.after {m0 m2:Mem} {mv1:List Key} {f1:List Nat} (hM1:UE g k m0 m2 mv1 f1) (hm :∀j o,m0 j=some o→o≠ .dead→m j=some o) :∀j o,m2 j=some o→o≠ .dead→m j=some o:=fun j o hj hd=>by
 by_cases hjm:j∈mv1
 ·rw[(hM1.gone j hjm).2.1] at hj;cases hj;exact absurd rfl hd
 ·rw[hM1.out j hjm] at hj;exact hm j o hj hd
theorem UE.append {m0 m2 m1:Mem} {mv1 mv2:List Key} {f1 f2:List Nat} (hM1:UE g k m0 m2 mv1 f1) (hS:Sim c g m w) (hm :∀j o,m0 j=some o→o≠ .dead→m j=some o) (hM2:UE g k m2 m1 mv2 f2) :
  UE g k m0 m1 (mv1++mv2) (f1++f2)∧∀j o,m2 j=some o→o≠ .dead→m j=some o:=by
 have hm2 :∀j o,m2 j=some o→o≠ .dead→m j=some o:=fun j o hj hd=>by
  by_cases hjm:j∈mv1
  ·rw[(hM1.gone j hjm).2.1] at hj;cases hj;exact absurd rfl hd
  ·rw[hM1.out j hjm] at hj;exact hm j o hj hd
 have hnew :∀j o,m2 j=some o→o≠ .dead→m0 j=some o∧j∉mv1:=fun j o hj hd=>by
  by_cases hjm:j∈mv1
  ·rw[(hM1.gone j hjm).2.1] at hj;cases hj;exact absurd rfl hd
  ·rw[hM1.out j hjm] at hj;exact⟨hj,hjm⟩
 refine⟨⟨fun j hj=>?_,fun j hj=>?_,?_,fun b hb=>?_⟩,hm2⟩
 ·simp only[JrJ,not_or] at hj;rw[hM2.out j hj.2,hM1.out j hj.1]
 ·by_cases hj2:j∈mv2
  ·obtain⟨a1,a2,ty,sz,es,dp,a3⟩:=hM2.gone j hj2;exact⟨a1,a2,ty,sz,es,dp,(hnew j _ a3 (by simp)).1⟩
  ·have hj1:j∈mv1:=by simpa[hj2] using hj
   obtain⟨a1,a2,a3⟩:=hM1.gone j hj1;exact⟨a1,by rw[hM2.out j hj2];exact a2,a3⟩
 ·refine List.nodup_append.2 ⟨hM1.nodup,hM2.nodup,fun x hx y hy e=>?_⟩;subst e;obtain⟨j1,hj1,o1,ho1,hr1,hb1⟩:=hM1.blk x hx;obtain⟨j2,hj2,o2,ho2,hr2,hb2⟩:=hM2.blk x hy;have e1:=hS.own j1 o1 x (hm j1 o1 ho1 (fun e=>by rw[e] at hr1;cases hr1)) hr1 hb1;have e2:=hS.own j2 o2 x (hm2 j2 o2 ho2 (fun e=>by rw[e] at hr2;cases hr2)) hr2 hb2;rw[e1] at e2;cases e2;exact(hnew j1 o2 ho2 (fun e=>by rw[e] at hr2;cases hr2)).2 hj1
 ·rcases JrJ.1 hb with hb | hb
  ·obtain⟨j,hj,h⟩:=hM1.blk b hb;exact⟨j,by simp[hj],h⟩
  ·obtain⟨j,hj,o,ho,hr,hbb⟩:=hM2.blk b hb;exact⟨j,by simp[hj],o,(hnew j o ho (fun e=>by rw[e] at hr;cases hr)).1,hr,hbb⟩
theorem UQ (hS:Sim c g m w) :∀(xs:List X) (ks:Kds) (vs:List Value) (ds:List D) (m0 m1:Mem),(∀j o,m0 j=some o→o≠ .dead→m j=some o)→VXs c g m w xs vs→(∀u∈vs,u.oneCell=true) →
  (JhP k ks xs).run m0=some (ds,m1)→∃ mv f,UE g k m0 m1 mv f∧ZR P w ds ks vs f
 | [],ks,vs,ds,m0,m1,_,hv,_,h=>by
  cases rS1 h;rw[show vs=[] from hv];exact⟨[],[],.nil,rfl,rfl⟩
 | x::xs,ks,vs,ds,m0,m1,hm,⟨v,vs',e,h1,h2⟩,hone,h=>by
  subst e;obtain⟨d,m2,ha,h⟩:=MP.bind_some h;obtain⟨ds',m3,hb,h⟩:=MP.bind_some h;cases rS1 h;obtain⟨mv1,f1,hM1,hO1⟩:=JhM hS hm h1 (hone v (by simp)) ha;have hm2:=hM1.after hm;obtain⟨mv2,f2,hM2,hO2⟩:=UQ hS xs (ks.drop 1) vs' ds' m2 m1 hm2 h2 (fun u hu=>hone u (by simp[hu])) hb;refine⟨mv1++mv2,f1++f2,(hM1.append hS hm hM2).1,v,vs',f1,f2,rfl,rfl,?_,hO2,hone v (by simp)⟩;cases ks with
  | nil =>
   cases d with
   | s es=>obtain⟨_,_,hk,_⟩:=hO1;simp at hk
   | g cs=>obtain⟨us,e,_⟩:=hO1;have:=hone v (by simp);rw[e] at this;simp[Value.oneCell] at this
   | _=>exact hO1
  | cons kd ks=>exact hO1
theorem Jhn {α:Type} (xs a b:List α) (i:Nat) (h:i+a.length≤xs.length):Jd (Jd xs i a) (i+a.length) b=Jd xs i (a++b):=by
 unfold Jd;have e1:(xs.take i++a).length=i+a.length:=by simp;omega
 rw[List.take_left' e1,←List.drop_drop,List.drop_left' e1,List.drop_drop,JrK];simp[Nat.add_assoc]
theorem Jbv (hS:Sim c g m w) {ag:Bool} {sz:Nat} {ks:Kds} :∀(ps:List (Nat×X)) (qs:List (Nat×Value)) (i:Nat) (es:List D) (arr:Array Value) (m0 m1:Mem),
  qs.length=ps.length→(∀(i:Nat) (p:Nat×X) (q:Nat×Value),ps[i]? = some p→qs[i]? = some q→p.1=q.1∧VX c g m w p.2 q.2)→(∀j o,m0 j=some o→o≠ .dead→m j=some o) →
  (i+ps.length)*sz≤arr.size→(Jda k ag sz ks i ps).run m0=some (es,m1) →
  ∃ mv f vals arr',UE g k m0 m1 mv f∧YY P w es ks sz vals f∧Instr.fill (fun i=>some (i*sz,sz)) arr qs=some arr'∧arr'.toList=Jd arr.toList (i*sz) vals∧es.length=ps.length
 | [],[],i,es,arr,m0,m1,_,_,_,_,h=>by
  cases rS1 h;exact⟨[],[],[],arr,.nil,⟨rfl,rfl⟩,rfl,by simp[Jd],rfl⟩
 | [],_::_,_,_,_,_,_,hl,_,_,_,_=>by simp at hl
 | _::_,[],_,_,_,_,_,hl,_,_,_,_=>by simp at hl
 | (j,x)::ps,(j',v)::qs,i,es,arr,m0,m1,hl,hr,hm,hle,h=>by
  obtain⟨hij,hx⟩:=hr 0 _ _ rfl rfl;simp only at hij;subst hij;simp only[Jda] at h;split at h
  ·rename_i vs hc;split at h
   ·rename_i hn;obtain⟨hn,rfl,hone⟩:=hn;obtain⟨hcs,hcone⟩:=X7 hx hc;have hlen:=Qr _ _ hcs;obtain⟨ds,m2,ha,h⟩:=MP.bind_some h;obtain⟨mv1,f1,hM1,hO1⟩:=UQ hS vs ks v.cells.toList ds m0 m2 hm hcs hcone ha;split at h
    ·rename_i d hd;obtain⟨val,hval,hvc⟩:=JeD hO1 hd;have hsz:val.cells.size=sz:=by rw[←JrO,hvc,hlen,hn]
     obtain⟨es2,m3,hb,h⟩:=MP.bind_some h;cases rS1 h;simp only[JrO] at hlen;have hvsz:v.cells.size=sz:=by omega
     simp only[List.length_cons] at hle;have hle1:j*sz+sz≤arr.size:=by
      have:(j+1)*sz≤(j+(ps.length+1))*sz:=Nat.mul_le_mul_right _ (by omega);rw[Nat.succ_mul] at this;omega
     have hfold:=Vy (j*sz) v.cells.toList 0 arr (by simp;omega);have e:(v.cells.zipIdx.foldl (fun cs p=>cs.setIfInBounds (j*sz+p.2) p.1) arr).toList=Jd arr.toList (j*sz) v.cells.toList:=by
      rw[←Array.foldl_toList,Array.toList_zipIdx];simpa using hfold
     have esz:(v.cells.zipIdx.foldl (fun cs p=>cs.setIfInBounds (j*sz+p.2) p.1) arr).size=arr.size:=by
      rw[←JrO,e];simp[Jd];omega
     obtain⟨mv2,f2,vals,arr',hM2,hO2,h1,h2,h3⟩:=Jbv hS ps qs (j+1) es2 (v.cells.zipIdx.foldl (fun cs p=>cs.setIfInBounds (j*sz+p.2) p.1) arr) m2 m1 (by simpa using hl)
      (fun k p q a b=>hr (k+1) p q (by simpa using a) (by simpa using b)) (hM1.after hm) (by rw[esz];rw[show j+1+ps.length=j+(ps.length+1) by omega];exact hle) hb
     refine⟨mv1++mv2,f1++f2,v.cells.toList++vals,arr',(hM1.append hS hm hM2).1,⟨val,vals,f1,f2,by rw[hvc],hsz,rfl,hval,hO2,by rw[hvc];exact hcone⟩,?_,?_,by simpa using h3⟩
     ·simp only[Instr.fill];rw[if_neg (by simp;omega)];exact h1
     ·rw[h2,e,Nat.succ_mul,←Jhn _ _ _ _ (by simp;omega)];simp[hvsz]
    ·simp[MP.run] at h
   ·simp[MP.run] at h
  ·simp[MP.run] at h
end
end Go.Tm
end
section
namespace Go.Tm
open Go.IntKind (i64)
section
variable {P:Program} {T:Tab} {G:JQ} {c:Cx P} {g:Gh} {m m':Mem} {w w':World} {a:Act} {sl:QI} {o:Oper} {x:X}
theorem Jg7 (hsl:Jm c g m w sl a) (ps:Array (Nat×Operand)) :∀(i:Nat) (p:Nat×X) (q:Nat×Value),(ps.toList.map fun p=>(p.1,opX sl p.2))[i]? = some p→(ps.toList.map fun p=>(p.1,a.eval p.2))[i]? = some q →
  p.1=q.1∧VX c g m w p.2 q.2:=fun i p q hp hq=>by
 rw[JrZ] at hp hq;cases hps:ps.toList[i]? with
 | none=>rw[hps] at hp;simp at hp
 | some y =>
  rw[hps] at hp hq;simp only[JrG,JrD] at hp hq;subst hp;subst hq;exact⟨rfl,oX1 hsl y.2⟩
theorem Jos {α:Type} (f:Nat→α):(Array.range 0).map f = #[]:=Array.eq_empty_of_size_eq_zero (by simp)
theorem Vi {t e:TypeId} {n sz:Nat} {i:TypeInfo} {zv:Value} {parts:Array (Nat×Value)} {arr:Array Value} (ht:P.underlying t=some (.slice e)) (hsz:Qm P e=some sz) (hn:n*sz≤2 ^ 24)
  (hi:P.info? e=some i) (hz:i.zero=some zv) (h:Instr.fill (fun i=>some (i*sz,sz)) ((Array.range (n*sz)).map (fun i=>zv.cells[i % zv.cells.size]!)) parts.toList=some arr) :
  (Instr.buildSlice t n parts).run P w = .ok (.slice (some ⟨w.heap.size,0,none⟩) n n) (w.alloc (.cells arr e)):=by
 have hn' : ¬(2 ^ 24<n*sz):=by omega
 unfold Instr.buildSlice
 by_cases h0:n*sz=0
 ·rw[h0,Jos] at h;simp only[Sem.run_bind,run_underlying ht,Result.andThen_ok,Xn hsz,h0];simp[Jos,h,newRow]
 ·simp only[Sem.run_bind,run_underlying ht,Result.andThen_ok,Xn hsz];simp only[gt_iff_lt,hn',h0,if_false,Sem.run_bind,Jej hi hz,Result.andThen_ok,Sem.run_pure,h];simp[newRow]
theorem JbQ (hS:Sim c g m w) (hsl:Jm c g m w sl a) {t:TypeId} {p q:Operand} (ho:o.op = .makeSlice t p q)
  (h:(opM P T G sl o).run m=some (x,m')):Qi P c g m w a o x m':=by
 have hp:=oX1 hsl p;have hq:=oX1 hsl q;unfold opM at h;rw[ho] at h;simp only at h;split at h
 ·rename_i e l l' he hl hl';obtain⟨k1,hpv⟩:=QT hp hl;obtain⟨k2,hqv⟩:=QT hq hl';split at h
  ·rename_i sz ag z hsz hag hz;split at h
   ·rename_i zd hzd;split at h
    ·rename_i hcond;obtain⟨h0,rfl,hroom,hzl,hpos,hone⟩:=hcond;obtain⟨i,zv,hi,hzv,hzc⟩:=ZO hz;have hone' :∀u∈z,u.oneCell=true:=by simpa using hone
     obtain⟨val,hval,hvc⟩:=Jab (w:=w) (VL z hone) hone' hzd;have hzs:zv.cells.size=sz:=by rw[←JrO,hzc,hzl]
     have hvs:val.cells.size=sz:=by rw[←JrO,hvc,hzl]
     obtain⟨n,rfl⟩:=Int.eq_ofNat_of_zero_le h0;simp only[Int.toNat_natCast] at *;have hrep:=Yj hval hvs (by rw[hvc];exact hone') n;have harr:((Array.range (n*sz)).map (fun i=>zv.cells[i % zv.cells.size]!)).toList=(List.replicate n val.cells.toList).flatten:=by
      rw[←hzs,WB zv.cells n (by omega),hvc,hzc]
     obtain⟨i',hi',hsz'⟩:=KL hsz;rw[hi] at hi';cases hi';unfold Vf tz at hroom;simp only[hi,JrG,decide_eq_true_eq] at hroom;obtain⟨hr1,hr2⟩:=hroom;obtain⟨hk,h⟩:=MP.new_some h;have hlen:=JN _ _ _ _ hrep;obtain⟨g',h7,h8,h9⟩:=Zg (k:=Jt o) (ty:=e) (sz:=sz) (es:=List.replicate n zd) (dp:=UZ P (G.dp o) e z) (cap:=n) (w':=w.alloc (.cells ((Array.range (n*sz)).map (fun i=>zv.cells[i % zv.cells.size]!)) e)) hS hk (hS.frame.alloc _) (QH _ _) (fun j hj=>heap_alloc_old w _ hj)
      ⟨_,heap_alloc_new w _,by simp,by rw[harr,JrI (by rw[hlen];simp)]⟩ (by simp) (by unfold maxLen;omega) hrep (fun b hb=>by simp at hb) (fun hd=>⟨rfl,by
       simp only[UZ,JrE] at hd;obtain⟨val2,hO,hc2⟩:=JeD (Jfe (w:=w) z (JF P e) hd.2 hone) hzd;have hvs2:val2.cells.size=sz:=by rw[←JrO,hc2,hzl]
       have:=Vd hO hvs2 (by rw[hc2];exact hone') n;rw[hc2] at this;rw[hvc];exact this⟩)
     cases rS1 h;rw[List.length_replicate] at h9;refine .value (g':=g') ?_ h7 h8 h9;have hrun:=run_make (P:=P) w t e i zv (JM he) hi hzv k1 k2 n n (by omega) (Int.le_refl _) (by have:=hr1;push_cast at *;rw[Int.mul_comm];omega) (by omega);simp only[Int.toNat_natCast,hsz',madeCells] at hrun;unfold execOp;rw[ho];simp only[hpv,hqv,Sem.run_bind];rw[hrun];rfl
    ·simp[MP.run] at h
   ·simp[MP.run] at h
  ·simp[MP.run] at h
 ·simp[MP.run] at h
theorem U4 {t:TypeId} {n b off:Nat} {v:Value} {w':World} (hn:Qm P t=some n) (hv:v.cells.size=n) (h:(storeCells ⟨b,off,none⟩ v.cells.toList).run P w = .ok () w') :
  (Instr.storeAt t (.pointer (some ⟨b,off,none⟩)) v).run P w = .ok () w':=by
 simp[Instr.storeAt,Instr.sureAddr,storeVar,Xn hn,hv,h]
theorem VR {α:Type} (xs:List α) (i off:Nat) (us:List α) (sz:Nat) (h:i+sz≤xs.length) (ho:off+us.length≤sz) :
  Jd xs i (Jd ((xs.drop i).take sz) off us)=Jd xs (i+off) us:=by
 have hl:((xs.drop i).take sz).length=sz:=by simp;omega
 unfold Jd;simp only[JrK,JrT,List.length_drop,hl];rw[show min off sz=off by omega];have e1:xs.take (i+off)=xs.take i++((xs.drop i).take sz).take off:=by
  rw[List.take_take,show min off sz=off by omega,List.take_add]
 rw[e1,show i+(off+us.length+(sz-(off+us.length)))=i+sz by omega];have e2:xs.drop (i+off+us.length)=((xs.drop i).take sz).drop (off+us.length)++xs.drop (i+sz):=by
  rw[List.drop_take,List.drop_drop,show xs.drop (i+sz)=(xs.drop (i+(off+us.length))).drop (sz-(off+us.length)) by rw[List.drop_drop];congr 1;omega,List.take_append_drop]
  congr 1;omega
 rw[e2];simp
theorem ZY :∀(ds es:List D) (vs us:List Value) (f1 f2:List Nat),XI w ds vs f1→XI w es us f2→XI w (ds++es) (vs++us) (f1++f2)
 | [],es,vs,us,f1,f2,h,h'=>by rw[h.1,h.2];exact h'
 | d::ds,es,vs,us,f1,f2,⟨v,vs',g1,g2,e,hf,h1,h2,h3⟩,h'=>by
  subst e;subst hf;exact⟨v,vs'++us,g1,g2++f2,rfl,by simp,h1,ZY ds es vs' us g2 f2 h2 h',h3⟩
theorem JcD :∀(n:Nat) (ds:List D) (vs:List Value) (fp:List Nat),XI w ds vs fp→∃ f1 f2,XI w (ds.take n) (vs.take n) f1∧XI w (ds.drop n) (vs.drop n) f2∧fp=f1++f2
 | 0,ds,vs,fp,h=>⟨[],fp,⟨rfl,rfl⟩,h,rfl⟩
 | n+1,[],vs,fp,h=>by rw[h.1,h.2];exact⟨[],[],⟨rfl,rfl⟩,⟨rfl,rfl⟩,rfl⟩
 | n+1,d::ds,vs,fp,⟨v,vs',g1,g2,e,hf,h1,h2,h3⟩=>by
  subst e;subst hf;obtain⟨f1,f2,a1,a2,a3⟩:=JcD n ds vs' g2 h2;exact⟨g1++f1,f2,⟨v,vs'.take n,g1,f1,by simp,rfl,h1,a1,h3⟩,by simpa using a2,by rw[a3];simp⟩
theorem JhO {ds es:List D} {vs us:List Value} {f1 f2:List Nat} {off:Nat} (h:XI w ds vs f1) (h':XI w es us f2) :
  ∃ fp,XI w (Jd ds off es) (Jd vs off us) fp∧JbP f1 f2 fp:=by
 have hl:=J7 _ _ _ h';obtain⟨a,r,h1,hr,e1⟩:=JcD off ds vs f1 h;obtain⟨x,b,_,h2,e2⟩:=JcD us.length (ds.drop off) (vs.drop off) r hr;rw[List.drop_drop,List.drop_drop] at h2;unfold Jd;rw[←hl];exact⟨a++f2++b,ZY _ _ _ _ _ _ (ZY _ _ _ _ _ _ h1 h') h2,a,x,b,by rw[e1,e2];simp,rfl⟩
theorem Jjk {e e':D} {off:Nat} {ds:List D} {val:Value} {us:List Value} {f1 f2:List Nat} (h:Rd w e val f1) (hvo :∀u∈val.cells.toList,u.oneCell=true) (hd:XI w ds us f2) (hp:e.put off ds=some e') :
  ∃ val' fp,Rd w e' val' fp∧val'.cells.toList=Jd val.cells.toList off us∧off+us.length≤val.cells.size∧JbP f1 f2 fp:=by
 have hl:=J7 _ _ _ hd;have hones:=YG _ _ _ hd
 by_cases hg : ∃ cs,e = .g cs
 ·obtain⟨cs,rfl⟩:=hg;obtain⟨vs,rfl,hr⟩:=h;simp only[D.put] at hp;split at hp
  ·rename_i hle;simp only[JrD] at hp;subst hp;obtain⟨fp,h1,h2⟩:=JhO (off:=off) hr hd;refine⟨.agg (Jd vs off us).toArray,fp,⟨_,rfl,h1⟩,by simp[Value.cells],?_,h2⟩;have:=J7 _ _ _ hr;simp[Value.cells];omega
  ·cases hp
 ·have hc:=J7 _ _ _ (UT h hvo);have hcell:e.cells=[e]:=by cases e <;> first | rfl | exact absurd ⟨_,rfl⟩ hg
  rw[hcell] at hc;have hput:off=0∧ds=[e']:=by
   cases e <;> simp only[D.put] at hp <;> first
    | exact absurd ⟨_,rfl⟩ hg
    | (split at hp <;> simp_all)
  obtain⟨rfl,rfl⟩:=hput;obtain⟨v,vs',g1,g2,rfl,rfl,h1,h2,h3⟩:=hd;obtain⟨rfl,rfl⟩:=h2;refine⟨v,g1,h1,?_,by simpa using Nat.le_of_eq hc.symm,[],f1,[],by simp,by simp⟩;rw[Yv h3];simp only[JrO,List.length_singleton] at hc;have:val.cells.toList.drop 1=[]:=List.eq_nil_of_length_eq_zero (by simp[hc]);simp[Jd,this]
theorem JjN {key:Key} {ty:TypeId} {sz:Nat} {dp:Bool} (hS:Sim c g m w) (hk:m key=none) :
  ∃ g',Sim c g' (upd m key (some (.arr ty sz [] dp true))) w∧Jb c g m w g' (upd m key (some (.arr ty sz [] dp true))) w∧VX c g' (upd m key (some (.arr ty sz [] dp true))) w (.o key 0) Qd∧g'.bl key=none∧g'.fd key=[]:=by
 let g':Gh:={ bl:=upd g.bl key none,hd:=upd g.hd key Qd,fd:=upd g.fd key [],ow:=g.ow }
 have hM :∀b,Mut g' (upd m key (some (.arr ty sz [] dp true))) b→Mut g m b:=by
  rintro b ⟨k,o,h1,h2,h3⟩
  by_cases e:k=key
  ·subst e;have:g'.bl k=none:=uS1 _ _ _;rw[uS1] at h1;cases h1;rcases h3 with h3 | h3
   ·rw[this] at h3;cases h3
   ·have:g'.fd k=[]:=uS1 _ _ _;rw[this] at h3;simp at h3
  ·rw[uO1 _ _ e] at h1;have h3:Blk g k o b:=by unfold Blk at h3 ⊢;simpa only[g',uO1 _ _ e] using h3
   exact⟨k,o,h1,h2,h3⟩
 have hC:Jb c g m w g' (upd m key (some (.arr ty sz [] dp true))) w:=by
  refine⟨Nat.le_refl _,fun b h1 _ _=>⟨rfl,fun h=>h1 (hM b h)⟩,fun k cs h=>?_,fun k ty' sz' es dp' rw h=>?_,fun k h=>?_⟩
  ·have e:k≠key:=fun e=>by subst e;rw[hk] at h;cases h
   exact⟨⟨cs,by rw[uO1 _ _ e];exact h⟩,uO1 _ _ e⟩
  ·have e:k≠key:=fun e=>by subst e;rw[hk] at h;cases h
   exact .inr ⟨es,dp',rw,by rw[uO1 _ _ e];exact h,.inl ⟨rfl,uO1 _ _ e,uO1 _ _ e⟩⟩
  ·have e:k≠key:=fun e=>by subst e;rw[hk] at h;cases h
   rw[uO1 _ _ e];exact h
 refine⟨g',?_,hC,⟨rfl,⟨_,uS1 _ _ _,by simp⟩,fun ty' sz' es dp' rw h=>?_⟩,uS1 _ _ _,uS1 _ _ _⟩
 ·refine Sim.step hS (k:=key) (uS1 _ _ _) (fun j hj=> .inl (uO1 _ _ hj)) hC hS.frame (fun j hj=>⟨uO1 _ _ hj,uO1 _ _ hj,uO1 _ _ hj⟩)
   (fun b j o h1 h2 h3 hj _=>⟨rfl,hS.own j o b h1 h2 h3⟩) hS.live ?_
  refine⟨.inl ⟨uS1 _ _ _,uS1 _ _ _,rfl,uS1 _ _ _⟩,fun _ b hb=>?_,(fun(h:true=false)=>by cases h),fun _ b hb=>?_,fun _ _=>?_⟩
  ·have:g'.fd key=[]:=uS1 _ _ _;rw[this] at hb;simp at hb
  ·have:g'.bl key=none:=uS1 _ _ _;rcases hb with hb | hb
   ·rw[this] at hb;cases hb
   ·have:g'.fd key=[]:=uS1 _ _ _;rw[this] at hb;simp at hb
  ·have e1:g'.fd key=[]:=uS1 _ _ _;have e2:g'.bl key=none:=uS1 _ _ _;rw[e1,e2];exact⟨List.nodup_nil,fun b hb=>by cases hb⟩
 ·rw[uS1] at h;cases h;exact⟨Nat.le_refl _,fun _=>(uS1 g.hd key Qd).symm⟩
theorem WM {k:Key} {ty:TypeId} {sz:Nat} {es:List D} {dp dp':Bool} {i off b:Nat} {e e':D} {ds:List D} {us:List Value} {f2:List Nat} {mv:List Key} {m1:Mem}
  (hS:Sim c g m w) (hk:m k=some (.arr ty sz es dp true)) (hb:g.bl k=some b) (hi:es[i]? = some e) (hp:e.put off ds=some e') (hd:XI w ds us f2)
  (hm1 :∀j,j∉mv→m1 j=m j) (hmv :∀j∈mv,j≠k∧m1 j=some .dead∧∃ ty sz es dp,m j=some (.arr ty sz es dp true))
  (hmode:(dp'=false∧JP c g m f2∧mv=[])∨(dp'=true∧dp=true∧f2.Nodup∧(∀b∈f2,∃ j∈mv,∃ o,m j=some o∧o.rw=true∧Blk g j o b)∧ZR P w ds ((JF P ty).drop off) us f2)) :
  ∃ w' g',(storeCells ⟨b,i*sz+off,none⟩ us).run P w = .ok () w'∧Sim c g' (upd m1 k (some (.arr ty sz (es.set i e') dp' true))) w'∧Jb c g m w g' (upd m1 k (some (.arr ty sz (es.set i e') dp' true))) w':=by
 obtain⟨harr,hok,_⟩:=hS.arr k ty sz es dp true hk;have hdeep:dp=true→(g.fd k).Nodup∧∀b,g.bl k=some b→b∉g.fd k:=fun h=>by subst h;exact⟨(hS.deep k ty sz es hk).1,fun b hb=>((hS.deep k ty sz es hk).2 b hb).1⟩
 rcases harr with ⟨_,_,rfl,_⟩ | ⟨b',cap,cs,hb',hhd,hcap,hmax,hh,hsize,hr⟩
 ·simp at hi
 rw[hb] at hb';cases hb';have hilt:i<es.length:=(JrF.1 hi).1;have hle:es.length*sz≤cs.size:=Nat.le_trans (Nat.mul_le_mul_right _ hcap) hsize;have hvals:XG w es sz (cs.toList.take (es.length*sz)) (g.fd k):=WC es sz b 0 _ _ hr (by simp;omega) (fun j hj=>by
  simp only[JrT,JrO] at hj;rw[Nat.zero_add,Jr4 (by omega)];simp[World.cell?,hh])
 have hones:=YG _ _ _ hd;have hisz:i*sz+sz≤es.length*sz:=by rw[←Nat.succ_mul];exact Nat.mul_le_mul_right _ hilt
 have hput : ∃ fp',XG w (es.set i e') sz (Jd (cs.toList.take (es.length*sz)) (i*sz+off) us) fp'∧JbP (g.fd k) f2 fp'∧off+us.length≤sz ∧
   (dp'=true→YY P w (es.set i e') (JF P ty) sz (Jd (cs.toList.take (es.length*sz)) (i*sz+off) us) fp'):=by
  rcases hmode with ⟨hd0,_⟩ | ⟨hd1,hd2,_,_,hO⟩
  ·obtain⟨P0,f1,Q0,val,hfd,h1,h2,hvalc,h5,hset⟩:=JeK es sz _ _ i e hvals hi;obtain⟨val',fp,hv',hc',hle',hsub⟩:=Jjk h1 h5 hd hp;have hsz':val'.cells.size=sz:=by
    rw[←JrO,hc'];simp only[Jd,JrK,JrT,List.length_drop,JrO];omega
   have hv2:=hset e' val' fp hv' hsz' (by rw[hc'];exact UX h5 hones);rw[hc',hvalc,VR _ _ _ _ _ (by simp;omega) (by omega)] at hv2;exact⟨_,hv2,by rw[hfd];exact hsub.within P0 Q0,by omega,fun h=>by rw[hd0] at h;cases h⟩
  ·subst hd2;have hvo:YY P w es (JF P ty) sz (cs.toList.take (es.length*sz)) (g.fd k):=ZM es _ sz b 0 _ _ ((hS.deep k ty sz es hk).2 b hb).2 (by simp;omega) (fun j hj=>by
    simp only[JrT,JrO] at hj;rw[Nat.zero_add,Jr4 (by omega)];simp[World.cell?,hh])
   obtain⟨P0,f1,Q0,val,hfd,h1,h2,hvalc,h5,hset⟩:=Jbc es _ sz _ _ i e hvo hi;obtain⟨val',fp,hv',hc',hle',hsub⟩:=Jjw h1 h5 hO hp;have hsz':val'.cells.size=sz:=by
    rw[←JrO,hc'];simp only[Jd,JrK,JrT,List.length_drop,JrO];omega
   have hv2:=hset w e' val' fp (fun _ _=>rfl) hv' hsz' (by rw[hc'];exact UX h5 hones);rw[hc',hvalc,VR _ _ _ _ _ (by simp;omega) (by omega)] at hv2;exact⟨_,VC _ _ _ _ _ hv2,by rw[hfd];exact hsub.within P0 Q0,by omega,fun _=>hv2⟩
 obtain⟨fp',hv2,hrepl,hle',hov⟩:=hput;have hrun:=run_storeCells_at (P:=P) b (i*sz+off) ty us 0 cs w hh (by omega) (fun v hv=>one' (hones v hv));simp only[Nat.add_zero] at hrun;have hblt:b<w.heap.size:=(JrQ.1 hh).1;have hown:=hS.own k _ b hk rfl (.inl hb);have hmut:Mut g m b:=⟨k,_,hk,rfl,.inl hb⟩;have hlive:=hS.live b k hown;have hown2:dp'=true→∀q∈f2,∃ j∈mv,j≠k∧g.ow q=some j∧Mut g m q:=fun h q hq=>by
  rcases hmode with ⟨h',_⟩ | ⟨_,_,_,h4⟩
  ·rw[h'] at h;cases h
  ·obtain⟨j,hj,o,ho,hrw,hbl⟩:=h4.1 q hq;exact⟨j,hj,(hmv j hj).1,hS.own j o q ho hrw hbl,j,o,ho,hrw,hbl⟩
 have hownk:dp=true→∀q∈g.fd k,g.ow q=some k∧Mut g m q:=fun h q hq=>by
  have hB:Blk g k (.arr ty sz es dp true) q:= .inr ⟨by simp[Obj.dpw,h],hq⟩;exact⟨hS.own k _ q hk rfl hB,k,_,hk,rfl,hB⟩
 have hdpd:dp'=true→dp=true:=fun h=>by
  rcases hmode with ⟨h',_⟩ | ⟨_,h',_⟩
  ·rw[h'] at h;cases h
  ·exact h'
 have hneb :∀q∈fp',q≠b:=by
  intro q hq e;subst e;rcases hrepl.mem q hq with h | h
  ·cases hdp:dp with
   | true=>exact(hdeep hdp).2 q hb h
   | false=>exact(hok (by simp[hdp]) q h).1 hmut
  ·rcases hmode with ⟨_,h',_⟩ | ⟨h',_⟩
   ·exact(h' q h).1 hmut
   ·obtain⟨j,_,hjk,ho,_⟩:=hown2 h' q h;rw[hown] at ho;cases ho;exact hjk rfl
 let g':Gh:={ g with fd:=upd g.fd k fp',ow:=fun q=>if dp'=true∧q∈f2 then some k else g.ow q }
 have hmk :∀j,j≠k→upd m1 k (some (.arr ty sz (es.set i e') dp' true)) j=m j∨upd m1 k (some (.arr ty sz (es.set i e') dp' true)) j=some .dead:=fun j hj=>by
  rw[uO1 _ _ hj]
  by_cases hjm:j∈mv
  ·exact .inr (hmv j hjm).2.1
  ·exact .inl (hm1 j hjm)
 have hC:Jb c g m w g' (upd m1 k (some (.arr ty sz (es.set i e') dp' true))) (w.setRow b (Jd cs.toList (i*sz+off) us).toArray):=by
  refine⟨by simp,fun q h1 _ _=>⟨setRow_other w b q _ (fun e=>h1 (e▸hmut)),?_⟩,fun j cs' hj=>?_,fun j ty1 sz1 es1 dp1 rw1 hj=>?_,fun j hj=>?_⟩
  ·rintro⟨j,o,hj,hrw,hbl⟩
   by_cases hjk:j=k
   ·subst hjk;rw[uS1] at hj;cases hj;rcases hbl with hbl | ⟨hdp,hbl⟩
    ·rw[show g'.bl j=g.bl j from rfl,hb] at hbl;cases hbl;exact h1 hmut
    ·have hdp':dp'=true:=by simpa[Obj.dpw] using hdp
     have hbl:q∈fp':=by simpa only[g',uS1] using hbl
     rcases hrepl.mem q hbl with h | h
     ·exact h1 (hownk (hdpd hdp') q h).2
     ·obtain⟨_,_,_,_,h⟩:=hown2 hdp' q h;exact h1 h
   ·have hbl:Blk g j o q:=by unfold Blk at hbl ⊢;simpa only[g',uO1 _ _ hjk] using hbl
    rcases hmk j hjk with e | e
    ·rw[e] at hj;exact h1 ⟨j,o,hj,hrw,hbl⟩
    ·rw[e] at hj;cases hj;cases hrw
  ·have hjk:j≠k:=fun e=>by subst e;rw[hk] at hj;cases hj
   refine⟨⟨cs',?_⟩,rfl⟩;rw[uO1 _ _ hjk,hm1 j (fun h=>by obtain⟨_,_,_,_,h⟩:=(hmv j h).2.2;rw[hj] at h;cases h)];exact hj
  ·by_cases hjk:j=k
   ·subst hjk;rw[hk] at hj;cases hj;exact .inr ⟨_,dp',true,uS1 _ _ _,.inl ⟨by simp,rfl,rfl⟩⟩
   ·rcases hmk j hjk with e | e
    ·exact .inr ⟨es1,dp1,rw1,e.trans hj,.inl ⟨rfl,rfl,rfl⟩⟩
    ·exact .inl e
  ·have hjk:j≠k:=fun e=>by subst e;rw[hk] at hj;cases hj
   rcases hmk j hjk with e | e
   ·exact e.trans hj
   ·exact e
 have hw:Jd cs.toList (i*sz+off) us=cs.toList.take (i*sz+off)++us++cs.toList.drop (i*sz+off+us.length):=rfl;have hsame :∀q∈fp',(w.setRow b (Jd cs.toList (i*sz+off) us).toArray).heap[q]? = w.heap[q]?:=fun q hq=>setRow_other w b q _ (hneb q hq);have hokfp:dp'=false→JP c g' (upd m1 k (some (.arr ty sz (es.set i e') dp' true))) fp':=by
  intro hdp' q hq;have hok2:JP c g m f2:=by
   rcases hmode with ⟨_,a,_⟩ | ⟨h,_⟩
   ·exact a
   ·rw[h] at hdp';cases hdp'
  rcases hrepl.mem q hq with h | h
  ·cases hdp:dp with
   | false=>exact(Qj hC (fp:=[q]) (by simpa using W5 _ _ _ _ hvals q h) (fun x hx=>by simp at hx;subst hx;exact hok (by simp[hdp]) x h)).1 q (by simp)
   | true =>
    have ho:=(hownk hdp q h).1;refine⟨?_,?_⟩
    ·rintro⟨j,o,hj,hrw,hbl⟩
     by_cases hjk:j=k
     ·subst hjk;rw[uS1] at hj;cases hj;rcases hbl with hbl | ⟨hd',_⟩
      ·exact(hdeep hdp).2 q hbl h
      ·simp[Obj.dpw,hdp'] at hd'
     ·have hbl:Blk g j o q:=by unfold Blk at hbl ⊢;simpa only[g',uO1 _ _ hjk] using hbl
      rcases hmk j hjk with e | e
      ·rw[e] at hj;have:=hS.own j o q hj hrw hbl;rw[ho] at this;cases this;exact hjk rfl
      ·rw[e] at hj;cases hj;cases hrw
    ·rcases (hS.live q k ho).2 with h | h
     ·exact .inr h
     ·exact .inl (c.parA q h)
  ·exact(Qj hC (fp:=[q]) (by
    have:=JbX _ _ _ hd q h;simpa using this) (fun x hx=>by simp at hx;subst hx;exact hok2 x h)).1 q (by simp)
 have hcellnew :∀j,j<(Jd (cs.toList.take (es.length*sz)) (i*sz+off) us).length→(w.setRow b (Jd cs.toList (i*sz+off) us).toArray).cell? ⟨b,0+j,none⟩=(Jd (cs.toList.take (es.length*sz)) (i*sz+off) us)[j]?:=fun j hj=>by
  have hlenv:=JN _ _ _ _ hv2;rw[List.length_set] at hlenv;rw[Nat.zero_add,cell_setRow_same w b j cs _ ty (0,0) hh];have e1:Jd cs.toList (i*sz+off) us=Jd (cs.toList.take (es.length*sz)) (i*sz+off) us++cs.toList.drop (es.length*sz):=by
   unfold Jd;rw[List.take_take,show min (i*sz+off) (es.length*sz)=i*sz+off by omega,List.append_assoc,List.append_assoc,List.append_assoc];have e2:cs.toList.drop (i*sz+off+us.length)=(cs.toList.take (es.length*sz)).drop (i*sz+off+us.length)++cs.toList.drop (es.length*sz):=by
    rw[List.drop_take,show cs.toList.drop (es.length*sz)=(cs.toList.drop (i*sz+off+us.length)).drop (es.length*sz-(i*sz+off+us.length)) by rw[List.drop_drop];congr 1;omega,List.take_append_drop]
   rw[e2]
  rw[List.getElem?_toArray,e1,Jr5 hj]
 refine⟨w.setRow b (Jd cs.toList (i*sz+off) us).toArray,g',by rw[hw];exact hrun,?_,hC⟩;refine hS.step (uS1 _ _ _) hmk hC ?_ (fun j hj=>⟨rfl,rfl,uO1 _ _ hj⟩) (fun b' j o hj0 hrw hb' hjk hj'=>?_) (fun b' j hj=>?_) ?_
 ·refine hS.frame.grow rfl rfl rfl (by simp) (fun j _ hj hp=>setRow_other w b j _ (fun e=>?_));subst e;rcases hlive.2 with h | h
  ·omega
  ·exact hp h
 ·have hj:=hS.own j o b' hj0 hrw hb';refine⟨setRow_other w b b' _ (fun e=>by subst e;rw[hown] at hj;cases hj;exact hjk rfl),?_⟩;show (if dp'=true∧b'∈f2 then some k else g.ow b')=some j;rw[if_neg]
  ·exact hj
  ·rintro⟨hd1,hq⟩;obtain⟨j2,hj2,_,ho,_⟩:=hown2 hd1 b' hq;rw[hj] at ho;cases ho;rw[uO1 _ _ hjk,(hmv j hj2).2.1] at hj';cases hj';cases hrw
 ·have hj:(if dp'=true∧b'∈f2 then some k else g.ow b')=some j:=hj;split at hj
  ·rename_i hc;obtain⟨j2,_,_,ho,_⟩:=hown2 hc.1 b' hc.2;have:=hS.live b' j2 ho;simpa using this
  ·have:=hS.live b' j hj;simpa using this
 ·have hrow:=setRow_heap w b cs (Jd cs.toList (i*sz+off) us).toArray ty (0,0) hh;have hfd':g'.fd k=fp':=by simp only[g',uS1]
  refine⟨.inr ⟨b,cap,_,hb,by simpa using hhd,by simpa using hcap,hmax,hrow,?_,?_⟩,fun h=>by rw[hfd'];exact hokfp (by simpa using h),(fun(h:true=false)=>by cases h),fun _ b' hb'=>?_,fun hd1 _=>?_⟩
  ·rw[List.size_toArray,Jd];simp only[JrK,JrT,List.length_drop,JrO];omega
  ·rw[hfd'];exact K2 _ _ _ _ _ _ (VI _ _ _ _ (by simp) hsame hv2) hcellnew
  ·show (if dp'=true∧b'∈f2 then some k else g.ow b')=some k;rcases hb' with hb' | ⟨hd1,hb'⟩
   ·rw[show g'.bl k=g.bl k from rfl,hb] at hb';cases hb';split
    ·rfl
    ·exact hown
   ·have hd1:dp'=true:=by simpa[Obj.dpw] using hd1
    rw[hfd'] at hb';split
    ·rfl
    ·rename_i hn;rcases hrepl.mem b' hb' with h | h
     ·exact(hownk (hdpd hd1) b' h).1
     ·exact absurd ⟨hd1,h⟩ hn
  ·rw[hfd'];rcases hmode with ⟨h,_⟩ | ⟨_,hd2,hn,_⟩
   ·rw[h] at hd1;cases hd1
   refine⟨hrepl.nodup (hdeep hd2).1 hn fun q hq hq2=>?_,fun q hq=>?_⟩
   ·obtain⟨j2,_,hne,ho,_⟩:=hown2 hd1 q hq;rw[(hownk hd2 q hq2).1] at ho;cases ho;exact hne rfl
   ·rw[show g'.bl k=g.bl k from rfl,hb] at hq;cases hq;exact⟨fun hq2=>hneb b hq2 rfl,Zz _ _ _ _ _ _ _ (Kt _ _ _ _ _ hsame (hov hd1)) hcellnew⟩
theorem Jg9 (hS:Sim c g m w) (hsl:Jm c g m w sl a) {t:TypeId} {p q:Operand} (ho:o.op = .store t p q)
  (h:(opM P T G sl o).run m=some (x,m')):Qi P c g m w a o x m':=by
 have hp:=oX1 hsl p;have hq:=oX1 hsl q;unfold opM at h;rw[ho] at h;simp only[Jf6] at h;split at h
 ·rename_i vs n hvs hn;obtain⟨hcs,hcone⟩:=X7 hq hvs;have hlen:=Qr _ _ hcs;simp only[JrO] at hlen;split at h
  ·rename_i hcond;have hvn:=hcond;split at h
   ·rename_i k off hpx;rw[hpx] at hp;obtain⟨cs0,b,hm,hb,hpv⟩:=hp;obtain⟨ob,hob,h⟩:=MP.get_some h;rw[hm] at hob;cases hob;simp only at h;split at h
    ·rename_i hle;obtain⟨w',hrun,hS',hC'⟩:=JfF (P:=P) (off:=off) hS hm hb hcs hcone (by omega);obtain⟨_,h⟩:=MP.put_some h;cases rS1 h;refine .skip (w':=w') (g':=g) ?_ hS' hC';unfold execOp;rw[ho];simp only[hpv,Sem.run_bind];rw[U4 hn (by omega) hrun];rfl
    ·simp[MP.run] at h
   ·rename_i k n' i off hpx;rw[hpx] at hp;obtain⟨ob0,hob0,h⟩:=MP.get_some h;split at h
    ·rename_i ty0 sz0 es0;obtain⟨ds,m1,ha,h⟩:=MP.bind_some h;obtain⟨mv,f,hM,hO⟩:=UQ hS vs _ _ ds m m1 (fun _ _ h _=>h) hcs hcone ha;obtain⟨ob,hob,h⟩:=MP.get_some h;have hkm:k∉mv:=fun hk=>(hM.gone k hk).1 rfl;rw[hM.out k hkm,hob0] at hob;cases hob;simp only at h;split at h
     ·rename_i e hi;split at h
      ·rename_i e' he';split at h
       ·rename_i hn';obtain⟨b,hb,hpv⟩:=(hp.2.2 _ _ _ _ true hob0).2 hn'.1;have hrv:=Uh _ _ _ _ hO;obtain⟨w',g',hrun,hS',hC'⟩:=WM (P:=P) (dp':=true) (mv:=mv) (m1:=m1) hS hob0 hb hi he' hrv hM.out hM.gone (.inr ⟨rfl,rfl,hM.nodup,hM.blk,hO⟩);obtain⟨_,h⟩:=MP.put_some h;cases rS1 h;refine .skip (w':=w') (g':=g') ?_ hS' hC';unfold execOp;rw[ho];simp only[hpv,Sem.run_bind];rw[U4 hn (by omega) hrun];rfl
       ·simp[MP.run] at h
      ·simp[MP.run] at h
     ·simp[MP.run] at h
    ·clear hob0;obtain⟨⟨ds,b1⟩,m1,ha,h⟩:=MP.bind_some h;obtain⟨⟨fp1,hr1,ho1⟩,hS1,hC1⟩:=Ki vs _ ds b1 m m1 hS hcs ha;have hp1:=Qv hC1 _ _ hp;obtain⟨ob,hob,h⟩:=MP.get_some h;cases ob with
     | arr ty sz es dp rw =>
      cases rw with
      | false=>simp[MP.run] at h
      | true =>
       simp only at h;split at h
       ·rename_i e hi;split at h
        ·rename_i e' he';split at h
         ·rename_i hn';obtain⟨b,hb,hpv⟩:=(hp1.2.2 ty sz es dp true hob).2 hn';have hrv:=XW _ _ _ hr1 hcone;obtain⟨w',g',hrun,hS',hC'⟩:=WM (P:=P) (dp':=dp&&Jy ds) (mv:=[]) (m1:=m1) hS1 hob hb hi he' hrv (fun _ _=>rfl) (fun _ h=>by simp at h) (by
           cases hdp:(dp&&Jy ds) with
           | false=>exact .inl ⟨rfl,ho1,rfl⟩
           | true =>
            simp only[JrE] at hdp;have e0:=JaJ ds _ _ hdp.2 hrv;subst e0;exact .inr ⟨rfl,hdp.1,List.nodup_nil,fun _ h=>by simp at h,JaQ _ _ _ _ hdp.2 hrv⟩)
          obtain⟨_,h⟩:=MP.put_some h;cases rS1 h;refine .skip (w':=w') (g':=g') ?_ hS' (hC1.trans hC');unfold execOp;rw[ho];simp only[hpv,Sem.run_bind];rw[U4 hn (by omega) hrun];rfl
         ·simp[MP.run] at h
        ·simp[MP.run] at h
       ·simp[MP.run] at h
     | _=>simp[MP.run] at h
   ·simp[MP.run] at h
  ·simp[MP.run] at h
 ·simp[MP.run] at h
end
end Go.Tm
end
section
namespace Go.Tm
open Go.IntKind (i64)
section
variable {P:Program} {T:Tab} {G:JQ} {c:Cx P} {g:Gh} {m m':Mem} {w w':World} {a:Act} {sl:QI} {o:Oper} {x:X}
theorem JfU {v:Value} {es:List D} {dp:Bool} (hS:Sim c g m w) (hx:VX c g m w x v) (h:(Jgy x).run m=some ((es,dp),m')) :
  Sim c g m' w∧Jb c g m w g m' w∧∃ A cap,v = .slice A es.length cap∧(es=[]∨∃ b off sz vals fp,A=some ⟨b,off,none⟩∧XG w es sz vals fp∧JP c g m' fp∧∀j u,vals[j]? = some u→w.cell? ⟨b,off+j,none⟩=some u):=by
 have rv :∀{es:List D} {sz b off:Nat} {fp:List Nat},Ub w es sz b off fp→∃ vals,XG w es sz vals fp∧∀j u,vals[j]? = some u→w.cell? ⟨b,off+j,none⟩=some u:=by
  intro es
  induction es with
  | nil=>intro sz b off fp h;exact⟨[],⟨rfl,h⟩,by simp⟩
  | cons e es ih =>
   intro sz b off fp h;obtain⟨val,f1,f2,hf,h1,hs,hc,h2,h3⟩:=h;obtain⟨vals,a1,a2⟩:=ih h2;refine⟨val.cells.toList++vals,⟨val,vals,f1,f2,rfl,hs,hf,h1,a1,h3⟩,fun j u hj=>?_⟩
   by_cases hjs:j<sz
   ·rw[Jr5 (by simp;omega)] at hj;rw[hc j hjs];simpa using hj
   ·rw[Jr6 (by simp;omega)] at hj;have:=a2 _ u hj;simp only[JrO,hs] at this;rw[show off+sz+(j-sz)=off+j by omega] at this;exact this
 unfold Jgy at h;split at h
 ·rename_i es';cases rS1 h;obtain⟨fp,⟨A,cap,rfl,hle,hh⟩,hok⟩:=hx;refine⟨hS,.refl _ _ _ _,A,cap,rfl,?_⟩;rcases hh with ⟨rfl,_⟩ | ⟨b,off,sz,fp',rfl,_,rfl,hr⟩
  ·exact .inl rfl
  ·obtain⟨vals,a1,a2⟩:=rv hr;exact .inr ⟨b,off,sz,vals,fp',rfl,a1,fun q hq=>hok q (by simp[hq]),a2⟩
 ·cases rS1 h;exact⟨hS,.refl _ _ _ _,none,0,(JW hx).1,.inl rfl⟩
 ·rename_i k n;obtain⟨ob,hob,h⟩:=MP.get_some h;cases ob with
  | arr ty sz es' dp' rw =>
   simp only at h;split at h
   ·rename_i hn;cases rS1 h;obtain⟨h3,h4,h5⟩:=hS.arr k ty sz es dp' rw hob;have hv:=(hx.2.2 ty sz es dp' rw hob).2 hn.1;refine⟨hS,.refl _ _ _ _,?_⟩;rcases h3 with ⟨_,e,rfl,e2⟩ | ⟨b,cap,cs,hb,e,hle,_,hh,_,hr⟩
    ·exact⟨none,0,by rw[hv,e];rfl,.inl rfl⟩
    ·obtain⟨vals,a1,a2⟩:=rv hr;refine⟨_,cap,by rw[hv,e],.inr ⟨b,0,sz,vals,_,rfl,a1,?_,a2⟩⟩;cases hd:(dp'&&rw) with
     | false=>exact h4 hd
     | true =>
      have hfl:=hn.2;rw[hd] at hfl;rw[JaZ _ _ _ _ a1 (by simpa using hfl)];exact fun q hq=>by simp at hq
   ·simp[MP.run] at h
  | _=>simp[MP.run] at h
 ·simp[MP.run] at h
theorem WL {sz sz':Nat} {es:List D} {vals:List Value} {fp:List Nat} (h:XG w es sz' vals fp) (hh:XZ sz es=true) (hne:es≠[]):sz'=sz:=by
 cases es with
 | nil=>exact absurd rfl hne
 | cons e es =>
  obtain⟨val,v2,f1,f2,_,hs,_,h1,_,h3⟩:=h;have:=J7 _ _ _ (UT h1 h3);simp only[XZ,beq_iff_eq] at hh;simp only[JrO] at this;omega
theorem Yi.drew (hf:Yi c w):Yi c w.drew:=⟨hf.os,hf.tape,hf.output,hf.size,hf.block⟩
theorem Zs {t e:TypeId} {i:TypeInfo} {ty:TypeId} (ht:P.underlying t=some (.slice e)) (hi:P.info? e=some i) {base A:Option Addr} {n cap cap':Nat} (hle:n≤cap) :
  (Builtin.append_ #[t,t] ty #[.slice base n cap,.slice A 0 cap']).run P w = .ok (.slice base n cap) w:=by
 cases base <;> cases A <;> simp[Builtin.append_,run_underlying ht,sizeOf,typeInfo,hi,Builtin.lenOf,hle,Builtin.firstCells,loadCells,loadCellsFrom,storeCells]
theorem JhW {k:Key} {ty:TypeId} {sz:Nat} {es fs:List D} {dp dp':Bool} {vals:List Value} {fp:List Nat} {mv:List Key} {m1:Mem} {v':Value} {w':World} {b' capN:Nat} {cs':Array Value}
  (hS:Sim c g m w) (hk:m k=some (.arr ty sz es dp true))
  (hv:XG w fs sz vals fp) (hm1 :∀j,j∉mv→m1 j=m j) (hmv :∀j∈mv,j≠k∧m1 j=some .dead∧∃ ty sz es dp,m j=some (.arr ty sz es dp true))
  (hmode:(dp'=false∧JP c g m fp∧mv=[])∨(dp'=true∧dp=true∧fp.Nodup∧(∀b∈fp,∃ j∈mv,∃ o,m j=some o∧o.rw=true∧Blk g j o b)∧YY P w fs (JF P ty) sz vals fp))
  (hne:fs≠[]) (hv':v' = .slice (some ⟨b',0,none⟩) (es.length+fs.length) capN)
  (hcapN:es.length+fs.length≤capN) (hcapM:capN≤maxLen) (hh':w'.heap[b']? = some (.cells cs' ty (0,0))) (hsize':capN*sz≤cs'.size)
  (hkey : ∃ vs0,XG w es sz vs0 (g.fd k)∧(dp=true→YY P w es (JF P ty) sz vs0 (g.fd k))∧cs'.toList.take ((es.length+fs.length)*sz)=vs0++vals)
  (hwhere:(g.bl k=some b'∧w'.heap.size=w.heap.size∧∀q,q≠b'→w'.heap[q]? = w.heap[q]?)∨(b'=w.heap.size∧w'.heap.size=w.heap.size+1∧∀q,q<w.heap.size→w'.heap[q]? = w.heap[q]?))
  (ho1:w'.os=w.os) (ho2:w'.tape=w.tape) (ho3:w'.output=w.output) :
  ∃ g',Sim c g' (upd m1 k (some (.arr ty sz (es++fs) dp' true))) w' ∧
   Jb c g m w g' (upd m1 k (some (.arr ty sz (es++fs) dp' true))) w'∧VX c g' (upd m1 k (some (.arr ty sz (es++fs) dp' true))) w' (.o k (es.length+fs.length)) v':=by
 obtain⟨harr,hokf,_⟩:=hS.arr k ty sz es dp true hk;have hdeep:dp=true→(g.fd k).Nodup∧∀b,g.bl k=some b→b∉g.fd k:=fun h=>by subst h;exact⟨(hS.deep k ty sz es hk).1,fun b hb=>((hS.deep k ty sz es hk).2 b hb).1⟩
 have hpos:0<fs.length:=List.length_pos_iff.2 hne;have hlv:=JN _ _ _ _ hv;obtain⟨vs0,hvs0,hvs1,htake⟩:=hkey;have hall:=JbF _ _ _ _ _ _ _ hvs0 hv;have hown2:dp'=true→∀q∈fp,∃ j∈mv,j≠k∧g.ow q=some j∧Mut g m q:=fun h q hq=>by
  rcases hmode with ⟨h',_⟩ | ⟨_,_,_,h4⟩
  ·rw[h'] at h;cases h
  ·obtain⟨j,hj,o,ho,hrw,hbl⟩:=h4.1 q hq;exact⟨j,hj,(hmv j hj).1,hS.own j o q ho hrw hbl,j,o,ho,hrw,hbl⟩
 have hownk:dp=true→∀q∈g.fd k,g.ow q=some k∧Mut g m q:=fun h q hq=>by
  have hB:Blk g k (.arr ty sz es dp true) q:= .inr ⟨by simp[Obj.dpw,h],hq⟩;exact⟨hS.own k _ q hk rfl hB,k,_,hk,rfl,hB⟩
 have hdpd:dp'=true→dp=true:=fun h=>by
  rcases hmode with ⟨h',_⟩ | ⟨_,h',_⟩
  ·rw[h'] at h;cases h
  ·exact h'
 have hown :∀q,g.bl k=some q→g.ow q=some k:=fun q hq=>hS.own k _ q hk rfl (.inl hq);have hmut :∀q,g.bl k=some q→Mut g m q:=fun q hq=>⟨k,_,hk,rfl,.inl hq⟩;have hltall :∀q∈g.fd k++fp,q<w.heap.size:=W5 _ _ _ _ hall;have hneb :∀q∈g.fd k++fp,q≠b':=by
  intro q hq e;subst e;rcases hwhere with ⟨h1,_,_⟩ | ⟨h1,_,_⟩
  ·rcases JrJ.1 hq with h | h
   ·cases hdp:dp with
    | true=>exact(hdeep hdp).2 q h1 h
    | false=>exact(hokf (by simp[hdp]) q h).1 (hmut q h1)
   ·rcases hmode with ⟨_,h',_⟩ | ⟨h',_⟩
    ·exact(h' q h).1 (hmut q h1)
    ·obtain⟨j,_,hjk,ho,_⟩:=hown2 h' q h;rw[hown q h1] at ho;cases ho;exact hjk rfl
  ·have:=hltall q hq;omega
 let g':Gh:={ bl:=upd g.bl k (some b'),hd:=upd g.hd k v',fd:=upd g.fd k (g.fd k++fp),ow:=upd (fun q=>if dp'=true∧q∈fp then some k else g.ow q) b' (some k) }
 have hmk :∀j,j≠k→upd m1 k (some (.arr ty sz (es++fs) dp' true)) j=m j∨upd m1 k (some (.arr ty sz (es++fs) dp' true)) j=some .dead:=fun j hj=>by
  rw[uO1 _ _ hj]
  by_cases hjm:j∈mv
  ·exact .inr (hmv j hjm).2.1
  ·exact .inl (hm1 j hjm)
 have hblk :∀j o q,j≠k→Blk g' j o q→Blk g j o q:=fun j o q hjk h=>by
  unfold Blk at h ⊢;simpa only[g',uO1 _ _ hjk] using h
 have hsame :∀q,q<w.heap.size→¬Mut g m q→w'.heap[q]? = w.heap[q]?:=fun q hq hm=>by
  rcases hwhere with ⟨h1,_,h3⟩ | ⟨_,_,h3⟩
  ·exact h3 q (fun e=>hm (e▸hmut b' h1))
  ·exact h3 q hq
 have hsame2 :∀q∈g.fd k++fp,w'.heap[q]? = w.heap[q]?:=fun q hq=>by
  rcases hwhere with ⟨_,_,h3⟩ | ⟨_,_,h3⟩
  ·exact h3 q (hneb q hq)
  ·exact h3 q (hltall q hq)
 have hszw:w.heap.size≤w'.heap.size:=by rcases hwhere with ⟨_,h,_⟩ | ⟨_,h,_⟩ <;> omega
 have hC:Jb c g m w g' (upd m1 k (some (.arr ty sz (es++fs) dp' true))) w':=by
  refine⟨hszw,fun q h1 h2 h3=>⟨hsame q h3 h1,?_⟩,fun j cs' hj=>?_,fun j ty1 sz1 es1 dp1 rw1 hj=>?_,fun j hj=>?_⟩
  ·rintro⟨j,o,hj,hrw,hbl⟩
   by_cases hjk:j=k
   ·subst hjk;rw[uS1] at hj;cases hj;rcases hbl with hbl | ⟨hdp,hbl⟩
    ·simp only[g',uS1,JrD] at hbl;subst hbl;rcases hwhere with ⟨h,_,_⟩ | ⟨h,_,_⟩
     ·exact h1 (hmut _ h)
     ·omega
    ·have hdp':dp'=true:=by simpa[Obj.dpw] using hdp
     have hbl:q∈g.fd j++fp:=by simpa only[g',uS1] using hbl
     rcases JrJ.1 hbl with h | h
     ·exact h1 (hownk (hdpd hdp') q h).2
     ·obtain⟨_,_,_,_,h⟩:=hown2 hdp' q h;exact h1 h
   ·have hbl:=hblk j o q hjk hbl;rcases hmk j hjk with e | e
    ·rw[e] at hj;exact h1 ⟨j,o,hj,hrw,hbl⟩
    ·rw[e] at hj;cases hj;cases hrw
  ·have hjk:j≠k:=fun e=>by subst e;rw[hk] at hj;cases hj
   refine⟨⟨cs',?_⟩,uO1 _ _ hjk⟩;rw[uO1 _ _ hjk,hm1 j (fun h=>by obtain⟨_,_,_,_,h⟩:=(hmv j h).2.2;rw[hj] at h;cases h)];exact hj
  ·by_cases hjk:j=k
   ·subst hjk;rw[hk] at hj;cases hj;exact .inr ⟨_,dp',true,uS1 _ _ _,.inr (by simp;omega)⟩
   ·rcases hmk j hjk with e | e
    ·exact .inr ⟨es1,dp1,rw1,e.trans hj,.inl ⟨rfl,uO1 _ _ hjk,uO1 _ _ hjk⟩⟩
    ·exact .inl e
  ·have hjk:j≠k:=fun e=>by subst e;rw[hk] at hj;cases hj
   rcases hmk j hjk with e | e
   ·exact e.trans hj
   ·exact e
 have hokall:dp'=false→JP c g' (upd m1 k (some (.arr ty sz (es++fs) dp' true))) (g.fd k++fp):=by
  intro hdp' q hq;have hok2:JP c g m fp:=by
   rcases hmode with ⟨_,a,_⟩ | ⟨h,_⟩
   ·exact a
   ·rw[h] at hdp';cases hdp'
  rcases JrJ.1 hq with h | h
  ·cases hdp:dp with
   | false=>exact(Qj hC (fp:=[q]) (by simpa using hltall q hq) (fun x hx=>by simp at hx;subst hx;exact hokf (by simp[hdp]) x h)).1 q (by simp)
   | true =>
    have ho:=(hownk hdp q h).1;refine⟨?_,?_⟩
    ·rintro⟨j,o,hj,hrw,hbl⟩
     by_cases hjk:j=k
     ·subst hjk;rw[uS1] at hj;cases hj;rcases hbl with hbl | ⟨hd',_⟩
      ·simp only[g',uS1,JrD] at hbl;exact hneb q hq hbl.symm
      ·simp[Obj.dpw,hdp'] at hd'
     ·have hbl:=hblk j o q hjk hbl;rcases hmk j hjk with e | e
      ·rw[e] at hj;have:=hS.own j o q hj hrw hbl;rw[ho] at this;cases this;exact hjk rfl
      ·rw[e] at hj;cases hj;cases hrw
    ·rcases (hS.live q k ho).2 with h | h
     ·exact .inr h
     ·exact .inl (c.parA q h)
  ·exact(Qj hC (fp:=[q]) (by simpa using hltall q hq) (fun x hx=>by simp at hx;subst hx;exact hok2 x h)).1 q (by simp)
 have hlive0 :∀q,g.bl k=some q→q<w.heap.size∧(c.w0.heap.size≤q∨q∈c.par):=fun q hq=>hS.live q k (hown q hq);have hS':Sim c g' (upd m1 k (some (.arr ty sz (es++fs) dp' true))) w':=by
  refine hS.step (uS1 _ _ _) hmk hC ?_ (fun j hj=>⟨uO1 _ _ hj,uO1 _ _ hj,uO1 _ _ hj⟩) (fun q j o hj0 hrw hb' hjk hj'=>?_) (fun q j hj=>?_) ?_
  ·refine hS.frame.grow ho1 ho2 ho3 hszw (fun q hq hq0 hp=>?_);rcases hwhere with ⟨h1,_,h3⟩ | ⟨_,_,h3⟩
   ·exact h3 q (fun e=>by
     subst e;rcases (hlive0 q h1).2 with h | h
     ·omega
     ·exact hp h)
   ·exact h3 q hq
  ·have hj:=hS.own j o q hj0 hrw hb';have hlt:=(hS.live q j hj).1;have hne2 : ¬(dp'=true∧q∈fp):=by
    rintro⟨hd1,hq⟩;obtain⟨j2,hj2,_,ho,_⟩:=hown2 hd1 q hq;rw[hj] at ho;cases ho;rw[uO1 _ _ hjk,(hmv j hj2).2.1] at hj';cases hj';cases hrw
   rcases hwhere with ⟨h1,_,h3⟩ | ⟨h1,_,h3⟩
   ·have hne':q≠b':=fun e=>by subst e;rw[hown q h1] at hj;cases hj;exact hjk rfl
    exact⟨h3 q hne',by simp only[g',uO1 _ _ hne',if_neg hne2];exact hj⟩
   ·have hne':q≠b':=by omega
    exact⟨h3 q hlt,by simp only[g',uO1 _ _ hne',if_neg hne2];exact hj⟩
  ·by_cases hq:q=b'
   ·subst hq;rcases hwhere with ⟨h1,h2,_⟩ | ⟨h1,h2,_⟩
    ·have:=hlive0 q h1;exact⟨by omega,this.2⟩
    ·exact⟨by omega,.inl (by rw[h1];exact hS.frame.size)⟩
   ·simp only[g',uO1 _ _ hq] at hj;split at hj
    ·rename_i hc;obtain⟨j2,_,_,ho,_⟩:=hown2 hc.1 q hc.2;have:=hS.live q j2 ho;exact⟨by omega,this.2⟩
    ·have:=hS.live q j hj;exact⟨by omega,this.2⟩
  ·have hfd':g'.fd k=g.fd k++fp:=by simp only[g',uS1]
   have hcellnew :∀j,j<(vs0++vals).length→w'.cell? ⟨b',0+j,none⟩=(vs0++vals)[j]?:=fun j hj=>by
    have hlen:=JN _ _ _ _ hall;simp only[JrK] at hlen hj;rw[Nat.zero_add,←htake,Jr4 (by omega)];simp[World.cell?,hh']
   refine⟨.inr ⟨b',capN,cs',by simp[g',uS1],by simp[g',uS1,hv'],by simpa using hcapN,hcapM,hh',hsize',?_⟩,fun h=>by rw[hfd'];exact hokall (by simpa using h),(fun(h:true=false)=>by cases h),fun _ q hq=>?_,fun hd1 _=>?_⟩
   ·rw[hfd'];exact K2 _ _ _ _ _ _ (VI _ _ _ _ hszw hsame2 hall) hcellnew
   ·by_cases hqb:q=b'
    ·subst hqb;simp[g',uS1]
    ·rcases hq with hq | ⟨hd1,hq⟩
     ·simp only[g',uS1,JrD] at hq;exact absurd hq.symm hqb
     ·have hd1:dp'=true:=by simpa[Obj.dpw] using hd1
      rw[hfd'] at hq;simp only[g',uO1 _ _ hqb];split
      ·rfl
      ·rename_i hn;rcases JrJ.1 hq with h | h
       ·exact(hownk (hdpd hd1) q h).1
       ·exact absurd ⟨hd1,h⟩ hn
   ·rw[hfd'];rcases hmode with ⟨h,_⟩ | ⟨_,hd2,hn,_,hO⟩
    ·rw[h] at hd1;cases hd1
    refine⟨List.nodup_append.2 ⟨(hdeep hd2).1,hn,fun x hx y hy e=>?_⟩,fun q hq=>?_⟩
    ·subst e;obtain⟨j2,_,hne,ho,_⟩:=hown2 hd1 x hy;rw[(hownk hd2 x hx).1] at ho;cases ho;exact hne rfl
    ·simp only[g',uS1,JrD] at hq;subst hq;exact⟨fun hq2=>hneb _ hq2 rfl,Zz _ _ _ _ _ _ _ (Kt _ _ _ _ _ hsame2 (Jbr _ _ _ _ _ _ _ _ (hvs1 hd2) hO)) hcellnew⟩
 refine⟨g',hS',hC,by rw[hv'];rfl,⟨_,uS1 _ _ _,by simp⟩,fun ty1 sz1 es1 dp1 rw1 e=>?_⟩;rw[uS1] at e;cases e;exact⟨by simp,fun _=>by simp[g',uS1]⟩
theorem V3 {k:Key} {ty:TypeId} {sz:Nat} {es fs:List D} {dp dp':Bool} {t rty:TypeId} {i:TypeInfo} {z:Value} {b off cap':Nat} {vals:List Value} {fp:List Nat} {mv:List Key} {m1:Mem}
  (hS:Sim c g m w) (hk:m k=some (.arr ty sz es dp true)) (ht:P.underlying t=some (.slice ty)) (hi:P.info? ty=some i) (hz:i.zero=some z) (hsz:i.size=sz) (hzs:z.cells.size=sz)
  (hv:XG w fs sz vals fp) (hm1 :∀j,j∉mv→m1 j=m j) (hmv :∀j∈mv,j≠k∧m1 j=some .dead∧∃ ty sz es dp,m j=some (.arr ty sz es dp true))
  (hmode:(dp'=false∧JP c g m fp∧mv=[])∨(dp'=true∧dp=true∧fp.Nodup∧(∀b∈fp,∃ j∈mv,∃ o,m j=some o∧o.rw=true∧Blk g j o b)∧YY P w fs (JF P ty) sz vals fp))
  (hcells :∀j u,vals[j]? = some u→w.cell? ⟨b,off+j,none⟩=some u) (hne:fs≠[])
  (hroom:(es.length+fs.length)*i.bytes≤2 ^ 46) (hmax:es.length+fs.length≤2 ^ 46) :
  ∃ v' w' g',(Builtin.append_ #[t,t] rty #[g.hd k,.slice (some ⟨b,off,none⟩) fs.length cap']).run P w = .ok v' w'∧Sim c g' (upd m1 k (some (.arr ty sz (es++fs) dp' true))) w' ∧
   Jb c g m w g' (upd m1 k (some (.arr ty sz (es++fs) dp' true))) w'∧VX c g' (upd m1 k (some (.arr ty sz (es++fs) dp' true))) w' (.o k (es.length+fs.length)) v':=by
 obtain⟨harr,hokf,_⟩:=hS.arr k ty sz es dp true hk;have hdeep:dp=true→(g.fd k).Nodup∧∀b,g.bl k=some b→b∉g.fd k:=fun h=>by subst h;exact⟨(hS.deep k ty sz es hk).1,fun b hb=>((hS.deep k ty sz es hk).2 b hb).1⟩
 have hpos:0<fs.length:=List.length_pos_iff.2 hne;have hlv:=JN _ _ _ _ hv;have hnews :∀j u,vals[j]? = some u→w.cell? ((⟨b,off,none⟩:Addr).add j)=some u:=fun j u hj=>by rw[Yg];exact hcells j u hj
 have hl:vals.length=fs.length*i.size:=by rw[hlv,hsz]
 have hmaxL:es.length+fs.length≤maxLen:=by unfold maxLen;omega
 have key : ∃ (v':Value) (w':World) (b' capN:Nat) (cs':Array Value),(Builtin.append_ #[t,t] rty #[g.hd k,.slice (some ⟨b,off,none⟩) fs.length cap']).run P w = .ok v' w'∧v' = .slice (some ⟨b',0,none⟩) (es.length+fs.length) capN ∧
   es.length+fs.length≤capN∧capN≤maxLen∧w'.heap[b']? = some (.cells cs' ty (0,0))∧capN*sz≤cs'.size∧(∃ vs0,XG w es sz vs0 (g.fd k)∧(dp=true→YY P w es (JF P ty) sz vs0 (g.fd k))∧cs'.toList.take ((es.length+fs.length)*sz)=vs0++vals) ∧
   ((g.bl k=some b'∧w'.heap.size=w.heap.size∧∀q,q≠b'→w'.heap[q]? = w.heap[q]?)∨(b'=w.heap.size∧w'.heap.size=w.heap.size+1∧∀q,q<w.heap.size→w'.heap[q]? = w.heap[q]?)) ∧
   w'.os=w.os∧w'.tape=w.tape∧w'.output=w.output:=by
  rcases harr with ⟨hbl,hhd,rfl,hfd⟩ | ⟨b0,cap,cs,hbl,hhd,hcap,hcm,hh,hsize,hr⟩
  ·have hrun:=run_append_nil (P:=P) w t rty ty i z ht hi hz ⟨b,off,none⟩ fs.length cap' vals hl hnews hpos (by simp at hmax;omega) (by simp at hroom;omega);have hge:=grownCap_ge w fs.length 0 ty;refine⟨_,_,w.heap.size,grownCap w fs.length 0 ty,vals.toArray++Builtin.zeroCells z.cells (grownCap w fs.length 0 ty-fs.length),?_,rfl,by simpa using hge,grownCap_le_maxLen w _ _ _ (by simpa using hmaxL),heap_alloc_new w.drew _,?_,⟨[],⟨rfl,hfd⟩,fun _=>⟨rfl,hfd⟩,?_⟩,
    .inr ⟨rfl,QH _ _,fun q hq=>heap_alloc_old w.drew _ hq⟩,rfl,rfl,rfl⟩
   ·rw[hhd];simpa[Qd] using hrun
   ·refine Nat.le_of_eq (Eq.symm ?_);rw[Array.size_append,size_zeroCells,List.size_toArray,hlv,hzs,←Nat.add_mul];congr 1;omega
   ·simp only[List.length_nil,Nat.zero_add,Array.toList_append,List.nil_append];rw[List.take_append_of_le_length (by simp[hlv]),JrI (by simp[hlv])]
  ·have hle:es.length*sz≤cs.size:=Nat.le_trans (Nat.mul_le_mul_right _ hcap) hsize;have hvals:XG w es sz (cs.toList.take (es.length*sz)) (g.fd k):=WC es sz b0 0 _ _ hr (by simp;omega) (fun j hj=>by
    simp only[JrT,JrO] at hj;rw[Nat.zero_add,Jr4 (by omega)];simp[World.cell?,hh])
   have hvo:dp=true→YY P w es (JF P ty) sz (cs.toList.take (es.length*sz)) (g.fd k):=fun hd=>by
    subst hd;exact ZM es _ sz b0 0 _ _ ((hS.deep k ty sz es hk).2 b0 hbl).2 (by simp;omega) (fun j hj=>by
     simp only[JrT,JrO] at hj;rw[Nat.zero_add,Jr4 (by omega)];simp[World.cell?,hh])
   have hones :∀u∈vals,u.oneCell'=true:=fun u hu=>one' (JeT _ _ _ _ hv u hu)
   by_cases hfit:es.length+fs.length≤cap
   ·have hfl:es.length*i.size+vals.length≤cs.size:=by rw[hl,hsz,←Nat.add_mul];exact Nat.le_trans (Nat.mul_le_mul_right _ hfit) hsize
    have hrun:=run_append_room (P:=P) w t rty ty i ht hi b0 es.length cap cs hh ⟨b,off,none⟩ fs.length cap' vals hl hnews hones hfit hfl;refine⟨_,_,b0,cap,_,by rw[hhd];exact hrun,rfl,hfit,hcm,setRow_heap w b0 cs _ ty _ hh,?_,⟨_,hvals,hvo,?_⟩,.inl ⟨hbl,by simp,fun q hq=>setRow_other w b0 q _ hq⟩,rfl,rfl,rfl⟩
    ·simp only[List.size_toArray,JrK,JrT,List.length_drop,JrO];omega
    ·simp only[hsz] at *;rw[Nat.add_mul,←hlv];have e1:(cs.toList.take (es.length*sz)++vals).length=es.length*sz+vals.length:=by simp;omega
     rw[←e1];exact List.take_left
   ·have hol:(cs.toList.take (es.length*sz)).length=es.length*i.size:=by simp[hsz];omega
    have holds :∀j u,(cs.toList.take (es.length*sz))[j]? = some u→w.cell? ((⟨b0,0,none⟩:Addr).add j)=some u:=fun j u hj=>by
     rw[Yg,Nat.zero_add];rw[List.getElem?_take] at hj;split at hj
     ·simp only[World.cell?,hh];simpa using hj
     ·cases hj
    have hrun:=run_append_grow (P:=P) w t rty ty i z ht hi hz ⟨b0,0,none⟩ es.length cap _ hol holds ⟨b,off,none⟩ fs.length cap' vals hl hnews (by omega) (by push_cast;omega) (growslice_fits (by omega) (by omega));have hge:=grownCap_ge w (es.length+fs.length) cap ty;refine⟨_,_,w.heap.size,_,_,by rw[hhd];exact hrun,rfl,hge,grownCap_le_maxLen w _ _ _ hmaxL,heap_alloc_new w.drew _,?_,⟨_,hvals,hvo,?_⟩,.inr ⟨rfl,QH _ _,fun q hq=>heap_alloc_old w.drew _ hq⟩,rfl,rfl,rfl⟩
    ·refine Nat.le_of_eq (Eq.symm ?_);rw[Array.size_append,Array.size_append,size_zeroCells,List.size_toArray,List.size_toArray,hlv,hzs,hol,hsz,←Nat.add_mul,←Nat.add_mul];congr 1;omega
    ·simp only[Array.toList_append];rw[List.take_append_of_le_length (by simp[hlv,Nat.add_mul];omega),JrI (by simp[hlv,Nat.add_mul];omega)]
 obtain⟨v',w',b',capN,cs',hrun,hv',hcapN,hcapM,hh',hsize',hkey,hwhere,ho1,ho2,ho3⟩:=key;obtain⟨g',h1,h2,h3⟩:=JhW hS hk hv hm1 hmv hmode hne hv' hcapN hcapM hh' hsize' hkey hwhere ho1 ho2 ho3;exact⟨v',w',g',hrun,h1,h2,h3⟩
theorem VE {e:TypeId} {n:Nat} (h:Vf P e n=true) : ∃ i,P.info? e=some i∧n*i.bytes≤2 ^ 46∧n≤2 ^ 46:=by
 unfold Vf tz at h;cases hi:P.info? e with
 | none=>simp[hi] at h
 | some i=>simp[hi] at h;exact⟨i,rfl,by omega,by omega⟩
theorem JgJ {k:Key} {ty:TypeId} {sz:Nat} {fs:List D} {dp:Bool} {t rty:TypeId} {i:TypeInfo} {z:Value} {b off cap':Nat} {vals:List Value} {fp:List Nat}
  (hS:Sim c g m w) (hk:m k=none) (ht:P.underlying t=some (.slice ty)) (hi:P.info? ty=some i) (hz:i.zero=some z) (hsz:i.size=sz) (hzs:z.cells.size=sz)
  (hv:XG w fs sz vals fp) (hok:JP c g m fp) (hdp:dp=true→fp=[]∧YY P w fs (JF P ty) sz vals fp) (hcells :∀j u,vals[j]? = some u→w.cell? ⟨b,off+j,none⟩=some u) (hne:fs≠[])
  (hroom:fs.length*i.bytes≤2 ^ 46) (hmax:fs.length≤2 ^ 46) :
  ∃ v' w' g',(Builtin.append_ #[t,t] rty #[Qd,.slice (some ⟨b,off,none⟩) fs.length cap']).run P w = .ok v' w'∧Sim c g' (upd m k (some (.arr ty sz fs dp true))) w' ∧
   Jb c g m w g' (upd m k (some (.arr ty sz fs dp true))) w'∧VX c g' (upd m k (some (.arr ty sz fs dp true))) w' (.o k fs.length) v':=by
 have hpos:0<fs.length:=List.length_pos_iff.2 hne;have hlv:=JN _ _ _ _ hv;have hnews :∀j u,vals[j]? = some u→w.cell? ((⟨b,off,none⟩:Addr).add j)=some u:=fun j u hj=>by rw[Yg];exact hcells j u hj
 have hl:vals.length=fs.length*i.size:=by rw[hlv,hsz]
 have hrun:=run_append_nil (P:=P) w t rty ty i z ht hi hz ⟨b,off,none⟩ fs.length cap' vals hl hnews hpos (by omega) (by omega);have hge:=grownCap_ge w fs.length 0 ty;obtain⟨g',h1,h2,h3⟩:=Zg (k:=k) (ty:=ty) (sz:=sz) (es:=fs) (dp:=dp) (vals:=vals) (cap:=grownCap w fs.length 0 ty) (w':=w.drew.alloc (.cells (vals.toArray++Builtin.zeroCells z.cells (grownCap w fs.length 0 ty-fs.length)) ty)) hS hk
  (hS.frame.drew.alloc _) (QH _ _) (fun j hj=>heap_alloc_old w.drew _ hj) ⟨_,heap_alloc_new w.drew _,by rw[Array.size_append,size_zeroCells,List.size_toArray,hlv,hzs,←Nat.add_mul];congr 1;omega,by
   rw[Array.toList_append,List.take_append_of_le_length (by simp[hlv]),JrI (by simp[hlv])]⟩ hge (grownCap_le_maxLen w _ _ _ (by unfold maxLen;omega)) hv hok hdp
 exact⟨_,_,g',by simpa[Qd] using hrun,h1,h2,h3⟩
theorem Ja7 (w:World) {t tx ty e:TypeId} {i:TypeInfo} {z:Value} {kx kn:IntKind} (ht:P.underlying t=some (.slice e)) (hx:P.underlying tx=some (.int kx)) (hi:P.info? e=some i) (hz:i.zero=some z)
  (n:Nat) (h0:0<n) (hn:n≤2 ^ 46) (h48:n*i.bytes≤2 ^ 46) (hsz:0<i.size) :
  (Builtin.append_ #[t,tx] ty #[.slice none 0 0,.int kn n]).run P w =
   .ok (.slice (some ⟨w.heap.size,0,none⟩) n (grownCap w n 0 e)) (w.drew.alloc (.cells (Builtin.zeroCells z.cells n++Builtin.zeroCells z.cells (grownCap w n 0 e-n)) e)):=by
 have hw:i64.wrap (n:Int)=n:=by rw[IntKind.wrap_i64];omega
 have hn':n≠0:=by omega
 have h63' : ¬(9223372036854775807<(n:Int)):=by omega
 have h48' : ¬(281474976710656<Builtin.nextslicecap n 0*i.bytes):=by rw[nextslicecap_zero h0];omega
 have h48'' : ¬(281474976710656<(n:Int)*(i.bytes:Int)):=by
  have:((n*i.bytes:Nat):Int)≤2 ^ 46:=by exact_mod_cast h48
  push_cast at this
  omega
 have hs':i.size≠0:=by omega
 have hneg : ¬((n:Int)<0):=by omega
 simp[Builtin.append_,run_underlying ht,run_underlying hx,sizeOf,typeInfo,zeroValue,hi,hz,asInt,asIntOf,hw,hneg,h48'',hn',h63',h48',hs',Question.forced,run_firstCells_none,newRow,grownCap];intro e0;rcases Nat.mul_eq_zero.1 e0 with e1 | e1 <;> omega
theorem Jin (hS:Sim c g m w) (hsl:Jm c g m w sl a) {cl:Call} {p q:Operand} {t t':TypeId} (ho:o.op = .call cl) (hcl:cl.callee = .builtin .append) (hargs:cl.args = #[p,q]) (htys:cl.argTypes = #[t,t'])
  (h:(WV P o t t' (opX sl p) (opX sl q)).run m=some (x,m')):Qi P c g m w a o x m':=by
 have hp:=oX1 hsl p;have hq:=oX1 hsl q;have hexec:execOp a.eval o=(do let d ←resolve a.eval cl o.type;invoke d.target d.args):=by unfold execOp;rw[ho]
 have hrunOf :∀(v':Value) (w':World),(Builtin.append_ #[t,t'] o.type #[a.eval p,a.eval q]).run P w = .ok v' w'→(execOp a.eval o).run P w = .ok (.value v') w':=fun v' w' hr=>by
  rw[hexec];simp[resolve,hcl,hargs,htys,invoke,builtin,hr]
 unfold WV at h;split at h
 ·rename_i kx hkx hax;rw[hax] at hp;have hpv:=(JW hp).1;split at h
  ·rename_i e l he hl;obtain⟨k1,hqv⟩:=QT hq hl;split at h
   ·rename_i sz ag z hsz hag hz;split at h
    ·rename_i zd hzd;split at h
     ·rename_i hcond;obtain⟨h0,hroom,hzl,hpos,hone⟩:=hcond;obtain⟨i,zv,hi,hzv,hzc⟩:=ZO hz;have hone' :∀u∈z,u.oneCell=true:=by simpa using hone
      obtain⟨val,hval,hvc⟩:=Jab (w:=w) (VL z hone) hone' hzd;have hzs:zv.cells.size=sz:=by rw[←JrO,hzc,hzl]
      have hvs:val.cells.size=sz:=by rw[←JrO,hvc,hzl]
      obtain⟨n,rfl⟩:=Int.eq_ofNat_of_zero_le (show 0≤l by omega);simp only[Int.toNat_natCast] at *;have hrep:=Yj hval hvs (by rw[hvc];exact hone') n;have harr:(Builtin.zeroCells zv.cells n).toList=(List.replicate n val.cells.toList).flatten:=by
       have:=WB zv.cells n (by omega);unfold Builtin.zeroCells;rw[this,hvc,hzc]
      obtain⟨i',hi',hsz'⟩:=KL hsz;rw[hi] at hi';cases hi';obtain⟨i',hi',hr1,hr2⟩:=VE hroom;rw[hi] at hi';cases hi';obtain⟨hk,h⟩:=MP.new_some h;have hlen:=JN _ _ _ _ hrep;have hge:=grownCap_ge w n 0 e;obtain⟨g',h7,h8,h9⟩:=Zg (k:=Jt o) (ty:=e) (sz:=sz) (es:=List.replicate n zd) (dp:=false) (cap:=grownCap w n 0 e) (w':=w.drew.alloc (.cells (Builtin.zeroCells zv.cells n++Builtin.zeroCells zv.cells (grownCap w n 0 e-n)) e)) hS hk
       (hS.frame.drew.alloc _) (QH _ _) (fun j hj=>heap_alloc_old w.drew _ hj)
       ⟨_,heap_alloc_new w.drew _,by rw[Array.size_append,size_zeroCells,size_zeroCells,hzs,←Nat.add_mul];congr 1;omega,by
        rw[Array.toList_append,harr,List.take_append_of_le_length (by rw[hlen];simp),JrI (by rw[hlen];simp)]⟩ (by simpa using hge) (grownCap_le_maxLen w _ _ _ (by unfold maxLen;omega)) hrep (fun b hb=>by simp at hb) (fun h=>by cases h)
      cases rS1 h;rw[List.length_replicate] at h9;have hrun:=Ja7 (P:=P) w (kn:=k1) (ty:=o.type) (JM he) hkx hi hzv n (by omega) hr2 hr1 (by omega);refine .value (g':=g') (hrunOf _ _ (by rw[hpv,hqv];exact hrun)) h7 h8 h9
     ·simp[MP.run] at h
    ·simp[MP.run] at h
   ·simp[MP.run] at h
  ·simp[MP.run] at h
 ·simp[MP.run] at h
theorem YW (hS : Sim c g m w) (hsl : Jm c g m w sl a) {cl : Call} {s1 s2 : Operand} {t2 : TypeId} (ho : o.op = .call cl) (hcl : cl.callee = .builtin .append) (hargs : cl.args = #[s1,s2]) (htys : cl.argTypes = #[t2,t2])
    (h:(Xp P o t2 (opX sl s1) (opX sl s2)).run m=some (x,m')):Qi P c g m w a o x m':=by
  have hp:=oX1 hsl s1;have hq:=oX1 hsl s2
  unfold Xp at h
  split at h
  · simp[MP.run] at h
  · rename_i e he
    split at h
    · simp[MP.run] at h
    · rename_i sz hsz'
      obtain⟨⟨fs,dpf⟩,m1,htake,h⟩:=MP.bind_some h
      obtain⟨hS1,hC1,A,cap',hqv,hfs⟩:=JfU hS hq htake
      have hp1:=Qv hC1 _ _ hp
      split at h
      · rename_i hcond
        obtain⟨hroomf,hhead,hpos,hzl⟩:=hcond
        obtain⟨i,hi,hi1,hi2⟩:=VE hroomf
        obtain⟨i',hi',hsize⟩:=KL hsz'
        rw[hi] at hi';cases hi'
        obtain⟨z,hz,hzc⟩ : ∃ z,i.zero=some z∧z.cells.size=sz:=by
          unfold J6 tz at hzl
          simp only[hi,JrG,JrS] at hzl
          cases hzz:i.zero with
          | none=>simp[hzz] at hzl
          | some z=>simp[hzz] at hzl;exact⟨z,rfl,hzl⟩
        have hexec:execOp a.eval o=(do let d ←resolve a.eval cl o.type;invoke d.target d.args):=by unfold execOp;rw[ho]
        have hrunOf :∀(v':Value) (w':World),(Builtin.append_ #[t2,t2] o.type #[a.eval s1,a.eval s2]).run P w = .ok v' w'→(execOp a.eval o).run P w = .ok (.value v') w':=fun v' w' hr=>by
          rw[hexec]
          simp[resolve,hcl,hargs,htys,invoke,builtin,hr]
        split at h
        · rename_i hax
          rw[hax] at hp1
          have hpv:=(JW hp1).1
          split at h
          · rename_i hnil
            simp only at hnil
            subst hnil
            cases rS1 h
            refine .value (v:=Qd) (g':=g) (hrunOf _ _ ?_) hS1 hC1 (by rw[hax];exact JdJ rfl)
            rw[hpv,hqv];exact Zs (JM he) hi (Nat.le_refl 0)
          · rename_i hne
            simp only at hne
            rcases hfs with rfl | ⟨b,off,sz',vals,fp,rfl,hv,hok,hcells⟩
            · exact absurd rfl hne
            obtain rfl:=WL hv hhead hne
            obtain⟨hk,h⟩:=MP.new_some h
            obtain⟨v',w',g',hrun,h1,h2,h3⟩:=JgJ (P:=P) (rty:=o.type) (dp:=false) (cap':=cap') hS1 hk (JM he) hi hz hsize hzc hv hok (fun h=>by cases h) hcells hne hi1 hi2
            cases rS1 h
            exact .value (hrunOf _ _ (by rw[hpv,hqv];exact hrun)) h1 (hC1.trans h2) h3
        · rename_i k n hax
          rw[hax] at hp1
          obtain⟨ob,hob,h'⟩:=MP.get_some h
          clear h;have h:=h';clear h'
          cases ob with
          | arr ty sz0 es dp rw =>
            cases rw with
            | false=>simp[MP.run] at h
            | true =>
              simp only at h
              split at h
              · rename_i hcond
                obtain⟨hn,rfl,rfl,hroom⟩:=hcond
                obtain⟨i',hi',hr1,hr2⟩:=VE hroom
                rw[hi] at hi';cases hi'
                have hpv:=(hp1.2.2 _ _ es dp true hob).2 hn
                obtain⟨harr,_⟩:=hS1.arr k _ _ es dp true hob
                obtain⟨_,h⟩:=MP.put_some h
                cases rS1 h
                by_cases hne:fs=[]
                · subst hne
                  have hupd:upd m1 k (some (.arr ty sz0 (es++[]) dp true))=m1:=by
                    funext j
                    unfold upd
                    split
                    · rename_i hj;subst hj;rw[List.append_nil,hob]
                    · rfl
                  have hup2:upd m1 k (some (.arr ty sz0 (es++(([]:List D),dpf).fst) (dp&&Jy (([]:List D),dpf).fst) true))=m1:=by simpa[Jy] using hupd
                  rw[hup2]
                  refine .value (v:=g.hd k) (g':=g) (hrunOf _ _ ?_) hS1 hC1 (by rw[←hpv];exact hp1)
                  rw[hpv,hqv]
                  rcases harr with ⟨_,e,_,_⟩ | ⟨_,cap,_,_,e,hle,_⟩
                  · rw[e];exact Zs (JM he) hi (Nat.le_refl 0)
                  · rw[e];exact Zs (JM he) hi hle
                · rcases hfs with rfl | ⟨b,off,sz',vals,fp,rfl,hv,hok,hcells⟩
                  · exact absurd rfl hne
                  obtain rfl:=WL hv hhead hne
                  obtain⟨v',w',g',hrun,h1,h2,h3⟩:=V3 (P:=P) (rty:=o.type) (dp':=dp&&Jy fs) (cap':=cap') (mv:=[]) (m1:=m1) hS1 hob (JM he) hi hz hsize hzc hv (fun _ _=>rfl) (fun _ h=>by simp at h) (by
                    cases hdp:(dp&&Jy fs) with
                    | false=>exact .inl ⟨rfl,hok,rfl⟩
                    | true =>
                      simp only[JrE] at hdp
                      have e0:=JaZ _ _ _ _ hv hdp.2
                      subst e0
                      exact .inr ⟨rfl,hdp.1,List.nodup_nil,fun _ h=>by simp at h,JeM _ _ _ _ _ hdp.2 hv⟩) hcells hne (by rw[←hn];exact hr1) (by rw[←hn];exact hr2)
                  exact .value (hrunOf _ _ (by rw[hpv,hqv];exact hrun)) h1 (hC1.trans h2) (by rw[hn];exact h3)
              · simp[MP.run] at h
          | _=>simp[MP.run] at h
        · simp[MP.run] at h
      · simp[MP.run] at h
theorem KD {k j:Key} {e:TypeId} {sz:Nat} {es fs:List D} {t rty:TypeId} {v1 v2:Value} (hS:Sim c g m w) (hkj:k≠j) (hk:m k=some (.arr e sz es true true)) (hj:m j=some (.arr e sz fs true true))
  (he:JK P t=some e) (hsz:Qm P e=some sz) (hne:fs≠[]) (hroom:Vf P e (es.length+fs.length)=true) (hzl:(J6 P e).map (·.length)=some sz) (h1:v1=g.hd k) (h2:v2=g.hd j) :
  ∃ v' w' g',(Builtin.append_ #[t,t] rty #[v1,v2]).run P w = .ok v' w'∧Sim c g' (upd (upd m j (some .dead)) k (some (.arr e sz (es++fs) true true))) w' ∧
   Jb c g m w g' (upd (upd m j (some .dead)) k (some (.arr e sz (es++fs) true true))) w'∧VX c g' (upd (upd m j (some .dead)) k (some (.arr e sz (es++fs) true true))) w' (.o k (es.length+fs.length)) v':=by
 obtain⟨i,hi,hr1,hr2⟩:=VE hroom;obtain⟨i',hi',hsize⟩:=KL hsz;rw[hi] at hi';cases hi';obtain⟨z,hz,hzc⟩ : ∃ z,i.zero=some z∧z.cells.size=sz:=by
  unfold J6 tz at hzl;simp only[hi,JrG,JrS] at hzl;cases hzz:i.zero with
  | none=>simp[hzz] at hzl
  | some z=>simp[hzz] at hzl;exact⟨z,rfl,hzl⟩
 obtain⟨harr,_,_⟩:=hS.arr j _ _ fs true true hj;rcases harr with ⟨_,_,e0,_⟩ | ⟨b,cap,cs,hb,hhd,hcap,hmax,hh,hsize2,hr⟩
 ·exact absurd e0 hne
 obtain⟨hnd,hdp⟩:=hS.deep j _ _ fs hj;have hle:fs.length*sz≤cs.size:=Nat.le_trans (Nat.mul_le_mul_right _ hcap) hsize2;have hcl2 :∀q,q<(cs.toList.take (fs.length*sz)).length→w.cell? ⟨b,0+q,none⟩=(cs.toList.take (fs.length*sz))[q]?:=fun q hq=>by
  simp only[JrT,JrO] at hq;rw[Nat.zero_add,Jr4 (by omega)];simp[World.cell?,hh]
 have hO:=ZM fs _ sz b 0 _ _ (hdp b hb).2 (by simp;omega) hcl2;rw[h1,h2,hhd];exact V3 (P:=P) (dp':=true) (mv:=[j]) (m1:=upd m j (some .dead)) (b:=b) (off:=0) hS hk (JM he) hi hz hsize hzc (VC _ _ _ _ _ hO)
  (fun q hq=>uO1 _ _ (by simpa using hq)) (fun q hq=>by
   simp only[JrW] at hq;subst hq;exact⟨fun e=>hkj e.symm,uS1 _ _ _,_,_,_,_,hj⟩)
  (.inr ⟨rfl,rfl,hnd,fun q hq=>⟨j,by simp,_,hj,rfl,.inr ⟨rfl,hq⟩⟩,hO⟩)
  (fun q u hq=>by
   rw[hcl2 q (JrF.1 hq).1];exact hq) hne hr1 hr2
theorem Jfv (hS:Sim c g m w) (hsl:Jm c g m w sl a) {cl:Call} (ho:o.op = .call cl) (hcl:cl.callee = .builtin .append)
  (h:(opM P T G sl o).run m=some (x,m')):Qi P c g m w a o x m':=by
 unfold opM at h;rw[ho] at h;simp only[hcl] at h;split at h
 case h_2=>simp[MP.run] at h
 rename_i s1 s2 t1 t2 hal htl;have hargs:cl.args = #[s1,s2]:=by rw[←hal]
 have htys:cl.argTypes = #[t1,t2]:=by rw[←htl]
 have hp:=oX1 hsl s1;have hq:=oX1 hsl s2;split at h
 ·rename_i heq;subst heq;have hexec:execOp a.eval o=(do let d ←resolve a.eval cl o.type;invoke d.target d.args):=by unfold execOp;rw[ho]
  have hrunOf :∀(v':Value) (w':World),(Builtin.append_ #[t2,t2] o.type #[a.eval s1,a.eval s2]).run P w = .ok v' w'→(execOp a.eval o).run P w = .ok (.value v') w':=fun v' w' hr=>by
   rw[hexec];simp[resolve,hcl,hargs,htys,invoke,builtin,hr]
  unfold Jb1 at h;split at h
  ·rename_i k n j n' hax hbx;rw[hax] at hp;rw[hbx] at hq;split at h
   ·exact YW hS hsl ho hcl hargs htys h
   ·rename_i hkj;obtain⟨o1,hk,h⟩:=MP.get_some h;obtain⟨o2,hj,h⟩:=MP.get_some h;split at h
    ·rename_i ty sz es ty' sz' fs _;split at h
     ·rename_i e he;split at h
      ·rename_i hcond;obtain⟨hn,hn',rfl,rfl,rfl,hsz,hne,hroom,hzl⟩:=hcond;obtain⟨_,h⟩:=MP.put_some h;obtain⟨_,h⟩:=MP.put_some h;cases rS1 h;obtain⟨v',w',g',hrun,h1,h2,h3⟩:=KD (rty:=o.type) hS hkj hk hj he hsz hne (by rw[←hn,←hn'];exact hroom) hzl ((hp.2.2 _ _ es true true hk).2 hn) ((hq.2.2 _ _ fs true true hj).2 hn');exact .value (hrunOf _ _ hrun) h1 h2 (by rw[hn,hn'];exact h3)
      ·simp[MP.run] at h
     ·simp[MP.run] at h
    ·exact YW hS hsl ho hcl hargs htys h
  ·rename_i j n' hax hbx;rw[hax] at hp;rw[hbx] at hq;split at h
   ·obtain⟨o2,hj,h⟩:=MP.get_some h;split at h
    ·rename_i ty' sz' fs;split at h
     ·rename_i e he;split at h
      ·rename_i hcond;obtain⟨hn',rfl,hsz,hne,hroom,hzl⟩:=hcond;obtain⟨hknone,h⟩:=MP.new_some h;obtain⟨_,h⟩:=MP.put_some h;obtain⟨_,h⟩:=MP.put_some h;cases rS1 h;have hkj:Jt o≠j:=fun e0=>by rw[e0,hj] at hknone;cases hknone
       obtain⟨g1,hS1,hC1,_,hbl,hfd⟩:=JjN (ty:=ty') (sz:=sz') (dp:=true) hS hknone;have hj1:upd m (Jt o) (some (.arr ty' sz' [] true true)) j=some (.arr ty' sz' fs true true):=by rw[uO1 _ _ (fun e0=>hkj e0.symm)];exact hj
       have hhd:g1.hd (Jt o)=Qd:=by
        obtain⟨harr,_,_⟩:=hS1.arr (Jt o) _ _ _ _ _ (uS1 _ _ _);rcases harr with ⟨_,e0,_,_⟩ | ⟨b,_,_,e0,_⟩
        ·exact e0
        ·rw[hbl] at e0;cases e0
       have hq1:=Qv hC1 _ _ hq;obtain⟨v',w',g',hrun,h1,h2,h3⟩:=KD (rty:=o.type) (es:=[]) hS1 hkj (uS1 _ _ _) hj1 he hsz hne (by rw[List.length_nil,Nat.zero_add,←hn'];exact hroom) hzl (v1:=a.eval s1) (by rw[(JW hp).1,hhd];rfl) ((hq1.2.2 _ _ fs true true hj1).2 hn');simp only[List.nil_append,List.length_nil,Nat.zero_add] at h1 h2 h3;refine .value (hrunOf _ _ hrun) h1 (hC1.trans h2) (by rw[hn'];exact h3)
      ·simp[MP.run] at h
     ·simp[MP.run] at h
    ·exact YW hS hsl ho hcl hargs htys h
   ·exact YW hS hsl ho hcl hargs htys h
  ·exact YW hS hsl ho hcl hargs htys h
 ·exact Jin hS hsl ho hcl hargs htys h
theorem JaF (hS:Sim c g m w) (hsl:Jm c g m w sl a) {t:TypeId} {n:Nat} {ps:Array (Nat×Operand)} (ho:o.op = .buildSlice t n ps)
  (h:(opM P T G sl o).run m=some (x,m')):Qi P c g m w a o x m':=by
 unfold opM at h;rw[ho] at h;simp only at h;split at h
 ·rename_i e he;split at h
  ·rename_i sz ag z hsz hag hz;split at h
   ·rename_i zd hzd;split at h
    ·rename_i hcond;obtain⟨hn,hzl,hpos,hone⟩:=hcond;obtain⟨i,zv,hi,hzv,hzc⟩:=ZO hz;have hone' :∀u∈z,u.oneCell=true:=by simpa using hone
     obtain⟨val,hval,hvc⟩:=Jab (w:=w) (VL z hone) hone' hzd;have hzs:zv.cells.size=sz:=by rw[←JrO,hzc,hzl]
     have hvs:val.cells.size=sz:=by rw[←JrO,hvc,hzl]
     have hrep:=Yj hval hvs (by rw[hvc];exact hone') n;have harr:((Array.range (n*sz)).map (fun i=>zv.cells[i % zv.cells.size]!)).toList=(List.replicate n val.cells.toList).flatten:=by
      rw[←hzs,WB zv.cells n (by omega),hvc,hzc]
     split at h
     ·rename_i hdeep;simp only[JrE,beq_iff_eq,bne_iff_ne,ne_eq] at hdeep;obtain⟨⟨_,hpn⟩,hn0⟩:=hdeep;obtain⟨hk,h⟩:=MP.new_some h;obtain⟨g1,hS1,hC1,_,hbl,hfd⟩:=JjN (ty:=e) (sz:=sz) (dp:=true) hS hk;obtain⟨es,m1,hfill,h⟩:=MP.bind_some h;obtain⟨hput,h⟩:=MP.put_some h;cases rS1 h;have hasz:((Array.range (n*sz)).map (fun i=>zv.cells[i % zv.cells.size]!)).size=n*sz:=by simp
      have hpl:(ps.toList.map fun p=>(p.1,opX sl p.2)).length=n:=by simpa using hpn
      obtain⟨mv,f,vals,arr',hM,hO,hfillR,harr',hlen⟩:=Jbv hS1 (ps.toList.map fun p=>(p.1,opX sl p.2)) (ps.toList.map fun p=>(p.1,a.eval p.2)) 0 es ((Array.range (n*sz)).map (fun i=>zv.cells[i % zv.cells.size]!)) _ m1 (by simp)
       (fun i p q a b=>by obtain⟨h1,h2⟩:=Jg7 hsl ps i p q a b;exact⟨h1,Qv hC1 _ _ h2⟩) (fun _ _ h _=>h) (by rw[hasz,hpl];simp) hfill
      have hvl:=JN _ _ _ _ (VC _ _ _ _ _ hO);rw[hpl] at hlen;have harrl:arr'.toList=vals:=by
       rw[harr'];simp only[Jd,Nat.zero_mul,List.take_zero,List.nil_append];rw[List.drop_eq_nil_of_le (by rw[JrO,hasz,hvl,hlen];omega),List.append_nil]
      have harrs:arr'.size=n*sz:=by rw[←JrO,harrl,hvl,hlen]
      have hne:es≠[]:=fun e0=>by rw[e0] at hlen;simp at hlen;omega
      obtain⟨g',h7,h8,h9⟩:=JhW (c:=c) (w':=w.alloc (.cells arr' e)) (capN:=n) (cs':=arr') (b':=w.heap.size) hS1 (uS1 _ _ _) (VC _ _ _ _ _ hO) hM.out hM.gone (dp':=true)
       (.inr ⟨rfl,rfl,hM.nodup,hM.blk,hO⟩) hne rfl (by simp[hlen]) (by unfold maxLen;have:=Nat.le_mul_of_pos_right n hpos;omega) (heap_alloc_new w _) (Nat.le_of_eq harrs.symm)
       ⟨[],⟨rfl,hfd⟩,fun _=>⟨rfl,hfd⟩,by rw[harrl,List.nil_append,JrI (by rw[hvl];simp)]⟩
       (.inr ⟨rfl,QH _ _,fun j hj=>heap_alloc_old w _ hj⟩) rfl rfl rfl
      simp only[List.nil_append,List.length_nil,Nat.zero_add] at h7 h8 h9;rw[hlen] at h9 ⊢;refine .value (g':=g') ?_ h7 (hC1.trans h8) h9;unfold execOp;rw[ho];simp only[Sem.run_bind];rw[Vi (JM he) hsz hn hi hzv (by rw[Array.toList_map];exact hfillR)];rfl
     obtain⟨⟨es,dp⟩,m1,hfill,h⟩:=MP.bind_some h;obtain⟨arr',fp',h1,h2,h3,h4,h5,h6⟩:=Jby _ (ps.toList.map fun p=>(p.1,a.eval p.2)) (List.replicate n zd) true ((Array.range (n*sz)).map (fun i=>zv.cells[i % zv.cells.size]!)) [] es dp m m1 (by simp)
      (Jg7 hsl ps) hS (by rw[harr];exact hrep) (fun b hb=>by simp at hb) hfill
     obtain⟨hk,h⟩:=MP.new_some h;have hlen:=JN _ _ _ _ h2;have hesl:es.length=n:=by simpa using h6
     obtain⟨g',h7,h8,h9⟩:=Zg (k:=Jt o) (ty:=e) (sz:=sz) (es:=es) (dp:=false) (vals:=arr'.toList) (cap:=es.length) (w':=w.alloc (.cells arr' e)) h4 hk (h4.frame.alloc _) (QH _ _) (fun j hj=>heap_alloc_old w _ hj)
      ⟨arr',heap_alloc_new w _,by simpa using hlen,by rw[JrI (Nat.le_of_eq hlen)]⟩ (Nat.le_refl _)
      (by unfold maxLen;have:=Nat.le_mul_of_pos_right n hpos;omega) h2 h3 (fun h=>by cases h)
     cases rS1 h;rw[hesl] at h9;refine .value (g':=g') ?_ h7 (h5.trans h8) h9;unfold execOp;rw[ho];simp only[Sem.run_bind];rw[Vi (JM he) hsz hn hi hzv (by rw[Array.toList_map];exact h1)];rfl
    ·simp[MP.run] at h
   ·simp[MP.run] at h
  ·simp[MP.run] at h
 ·simp[MP.run] at h
end
end Go.Tm
end

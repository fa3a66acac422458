import Derived.Test.YtgpjnnkmmplicabGreatDoorTc
import Derived.IntWalk
import Derived.ChangeSame
import Derived.JoinedOf
import Derived.JoinedAt
import Derived.RowKit3
import Derived.ProofKit
import Derived.ChangeSlices
import Derived.Carry
import Derived.Lib.LaidTab
import Derived.Lib.ItoaNum
import Derived.Lib.Itoa
import Derived.LaidMore
import Derived.MakeChecks
import Derived.Stop.LaidErr
set_option linter.unusedVariables false
set_option linter.unusedSimpArgs false
section
namespace Go.Tm
open Go.IntKind (i64)
inductive Out where
 | norm
 | exit (id:Nat)
 | ret
def Out.exitOf:Out→Exit
 | .norm=> .normal
 | .exit id=> .exit id
 | .ret=> .ret
structure Jdv where
 slots:List Tmp:=[]
 cells:List (Key×Nat):=[]
 arrs:List Key:=[]
 drop:List Tmp:=[]
 dropk:List Key:=[]
structure Ye where
 keep:List Tmp:=[]
 nl:Nat:=0
 own:List (Nat×Jg0):=[]
 loops:List (Nat×Jdv):=[]
 deep:Bool:=false
 no:List Tmp:=[]
 inner:List Nat:=[]
 bor:List Tmp:=[]
 stop:List Nat:=[]
 alt:List (Nat×List I×Nat×E×List Tmp):=[]
def Ye.dp (H:Ye):Oper→Bool:=JQ.dp { deep:=H.deep,no:=H.no,bor:=H.bor }
def Ye.bo (H:Ye):Oper→Bool:=JQ.bo { deep:=H.deep,no:=H.no,bor:=H.bor }
def Ye.boW (H:Ye) (l:List Tmp):Oper→Bool:=JQ.bo { deep:=H.deep,no:=H.no,bor:=l }
def JpS:SV→Nat→SV×Nat
 | .d (.vi k _),n=>(.d (.vi k (.v n)),n+1)
 | .d (.vb _),n=>(.d (.vb (.v n)),n+1)
 | .d (.s _),n=>(.d (.s (.v n)),n+1)
 | .d (.vc (.slice none 0 0)),n=>(.d (.s (.v n)),n+1)
 | .d _,n=>(.d (.da n),n+1)
 | .o _ _,n=>(.d (.s (.v n)),n+1)
 | .g cs,n=>let r:=go cs n; (.g r.1,r.2)
 | v,n=>(v,n)
where
 go:List SV→Nat→List SV×Nat
  | [],n=>([],n)
  | c::cs,n=>let r:=JpS c n;let q:=go cs r.2; (r.1::q.1,q.2)
def reO (k:Key) (l l':E):SV→SV
 | .o j x=>if j == k&&x.same l then .o j l' else .o j x
 | .g cs=> .g (go cs)
 | v=>v
where
 go:List SV→List SV
  | []=>[]
  | c::cs=>reO k l l' c::go cs
def JqC (k:Key) (l l':E):Je→Je
 | .box cs=> .box (reO.go k l l' cs)
 | o=>o
def Jgc:List Key→SSt→Nat→SSt×Nat
 | [],s,n=>(s,n)
 | k::ks,s,n=>match s.m.lookup k with
  | some (.arr ty sz l dp rw) =>
   let s':SSt:=⟨s.sl.map fun p=>(p.1,reO k l (.v n) p.2),s.m.map fun p=>if p.1 == k then(k,.arr ty sz (.v n) dp rw) else(p.1,JqC k l (.v n) p.2)⟩
   Jgc ks s' (n+1)
  | _=>Jgc ks s n
def Jdb (vs:List Tmp):SSl→Nat→SSl×Nat
 | [],n=>([],n)
 | (t,v)::sl,n=>if vs.contains t then let r:=JpS v n;let q:=Jdb vs sl r.2; ((t,r.1)::q.1,q.2) else let q:=Jdb vs sl n; ((t,v)::q.1,q.2)
def WE:List (Key×Nat)→XE→Nat→XE×Nat
 | [],m,n=>(m,n)
 | (k,off)::cs,m,n=>match m.lookup k with
  | some (.box xs)=>match xs[off]? with
   | some v=>let r:=JpS v n;WE cs ((k,.box (xs.set off r.1))::m) r.2
   | none=>WE cs m n
  | _=>WE cs m n
def Jhq {α:Type}:List (Nat×α)→List Nat→List (Nat×α)
 | [],_=>[]
 | (k,v)::l,Jf2=>if Jf2.contains k then Jhq l Jf2 else(k,v)::Jhq l (k::Jf2)
def genT (h:Jdv) (s:SSt) (n:Nat):SSt×Nat :=
 let s:=s.fresh
 let s0:SSt:=⟨(Jhq s.sl []).filter fun p=>!h.drop.contains p.1,(Jhq s.m []).filter fun p=>!h.dropk.contains p.1⟩
 let a:=Jgc h.arrs s0 n
 let b:=Jdb h.slots a.1.sl a.2
 let c:=WE h.cells a.1.m b.2
 (⟨b.1,Jhq c.1 []⟩,c.2-n)
def Yf:Code→Nat
 | .region id _ _=>id
 | .seq a _=>Yf a
 | .block _ a=>Yf a
 | .cond _ a _=>Yf a
 | .loop a=>Yf a
 | _=>1000000
def Yw (l:List (Nat×Jg0)) (id:Nat) (s:SSt):SSt:=l.foldl (fun s o=>if o.1 == id then Jeu o.2 s else s) s
def Jhy (H:Ye) (id:Nat):Jdv:=(H.loops.lookup id).getD {}
def JoH (c:Operand) (t:Bool) (s:SSt):SSt:=match c with
 | .tmp d=>⟨(d,.d (.vb (KI t)))::s.sl,s.m⟩
 | _=>s
def Wn (ops:Array Oper) (draw:Bool) (tl:Trs):Bool:=!draw||(sok ops&&(un ops).all fun p=>apart (tl.getD p.1 []) (tl.getD p.2 []))
mutual
def SV.under (c:Nat):SV→Bool
 | .d e=>e.under c
 | .g cs=>Wc c cs
 | .o _ l=>l.under c
 | .p _ _=>true
 | .e _ l i _=>l.under c&&i.under c
 | .f _ cs=>Wc c cs
 | .t cs=>Wc c cs
 | .u=>true
def Wc (c:Nat):List SV→Bool
 | []=>true
 | v::vs=>v.under c&&Wc c vs
end
def Je.under (c:Nat):Je→Bool
 | .box cs=>Wc c cs
 | .arr _ _ l _ _=>l.under c
 | .dead=>true
def SSt.under (c:Nat) (s:SSt):Bool:=s.sl.all (fun p=>p.2.under c)&&s.m.all (fun p=>p.2.under c)
mutual
theorem Jg4 {c:Nat} {ρ ρ':Env} (h:Jp c ρ ρ') :∀v:SV,v.under c=true→γX ρ' v=γX ρ v
 | .d e,hu=>by simp only[γX,dat];rw[XR h e (by simpa[SV.under] using hu)]
 | .g cs,hu=>by simp only[γX];rw[KE h cs (by simpa[SV.under] using hu)]
 | .t cs,hu=>by simp only[γX];rw[KE h cs (by simpa[SV.under] using hu)]
 | .f _ cs,hu=>by simp only[γX];rw[KE h cs (by simpa[SV.under] using hu)]
 | .o _ l,hu=>by simp only[γX,lst];rw[XR h l (by simpa[SV.under] using hu)]
 | .p _ _,_=>rfl
 | .e _ l i _,hu=>by
  simp only[SV.under,JrE] at hu;simp only[γX,lst,int];rw[XR h l hu.1,XR h i hu.2]
 | .u,_=>rfl
theorem KE {c:Nat} {ρ ρ':Env} (h:Jp c ρ ρ') :∀vs:List SV,Wc c vs=true→γXs ρ' vs=γXs ρ vs
 | [],_=>rfl
 | v::vs,hu=>by
  simp only[Wc,JrE] at hu;simp only[γXs];rw[Jg4 h v hu.1,KE h vs hu.2]
end
theorem JmC {c:Nat} {ρ ρ':Env} (h:Jp c ρ ρ') (o:Je) (hu:o.under c=true):γO ρ' o=γO ρ o:=by
 cases o with
 | box cs=>simp only[γO];rw[KE h cs hu]
 | arr ty sz l dp rw=>simp only[γO,lst];rw[XR h l hu]
 | dead=>rfl
theorem JnX {c:Nat} {ρ ρ':Env} (h:Jp c ρ ρ') {s:SSt} (hu:s.under c=true):γs ρ' s.sl=γs ρ s.sl∧γm ρ' s.m=γm ρ s.m:=by
 unfold SSt.under at hu;simp only[JrE] at hu;refine⟨?_,?_⟩
 ·funext t
  unfold γs;cases hl:s.sl.lookup t with
  | none=>rfl
  | some v=>exact Jg4 h v (JrR.1 hu.1 (t,v) (X0 _ _ _ hl))
 ·funext k
  unfold γm;cases hl:s.m.lookup k with
  | none=>rfl
  | some v=>simp only[JrG];rw[JmC h v (JrR.1 hu.2 (k,v) (X0 _ _ _ hl))]
def JpF (ops:Array Oper):Bool:=ops.toList.any fun o=>o.guard.isNone&&(match o.op with | .panic _=>true | _=>false)
def Jcb (P:Program) (ops:Array Oper) (draw:Bool):Option (Tmp×Operand):=if draw then none else match ops[ops.size-1]? with
 | some ⟨some d,.binOp .eql t x (.const (.slice none 0 0)) _,_,_,_,none⟩=>match P.underlying t with
  | some (.slice _)=>some (d,x)
  | _=>none
 | _=>none
def sxC (P:Program) (sg:FuncId→Option Sig) (H:Ye):Code→SSt→Nat→(Out→SSt→Nat→Option R)→Option R
 | .skip,s,n,k=>k .norm s n
 | .region id ops draw,s,n,k=>if JpF ops||H.stop.contains id then some (.i (.chk .ff) (.done [])) else
  let s:=Yw H.own id s
  match H.alt.lookup id with
  | some (is,j,b,l)=>match (Yt P sg H.dp (H.boW l) ops (List.range' 0 ops.size) s.sl s.m (n+j) [] fun sl m n tl =>
    match Wn ops draw tl with
    | true=>k .norm ⟨QN H.keep sl,m⟩ n
    | false=>none),(Yt P sg H.dp (H.boW H.bor) ops (List.range' 0 ops.size) s.sl s.m (n+j) [] fun sl m n tl =>
    match Wn ops draw tl with
    | true=>k .norm ⟨QN H.keep sl,m⟩ n
    | false=>none) with
   | some x,some y=>some (V1 is (.ite b x y))
   | _,_=>none
  | none =>
  match if H.inner.contains id && !draw then Zl ops else none with
  | some q=>Yt P sg H.dp H.bo ops (List.range' 0 (ops.size-4)) s.sl s.m n [] fun sl m n _=>match Vq P sg q sl m n with
   | some r=>match k .norm ⟨QN H.keep r.2.1,r.2.2.1⟩ r.2.2.2 with
    | some x=>some (V1 r.1 x)
    | none=>none
   | none=>none
  | none =>
  match Jcb P ops draw with
  | none=>Yt P sg H.dp H.bo ops (List.range' 0 ops.size) s.sl s.m n [] fun sl m n tl =>
   match Wn ops draw tl with
   | true=>k .norm ⟨QN H.keep sl,m⟩ n
   | false=>none
  | some (d,x)=>Yt P sg H.dp H.bo ops (List.range' 0 (ops.size-1)) s.sl s.m n [] fun sl m n _=>match sop sl x with
   | .d (.s l)=>if SSt.under n ⟨sl,m⟩ then match k .norm ⟨QN H.keep ((d,.d (.vb .tt))::sl),m⟩ n,k .norm ⟨QN H.keep ((d,.d (.vb .ff))::sl),m⟩ n with
    | some x,some y=>some (.nilq n l x y)
    | _,_=>none
    else none
   | _=>none
 | .seq a b,s,n,k=>sxC P sg H a s n fun o s' n'=>match o with
  | .norm=>sxC P sg H b s' n' k
  | o=>k o s' n'
 | .cond c a b,s,n,k=>match sop s.sl c with
  | .d (.vb e)=>match e.known with
   | some true=>sxC P sg H a s n k
   | some false=>sxC P sg H b s n k
   | none=>match sxC P sg H a (JoH c true s) n k,sxC P sg H b (JoH c false s) n k with
    | some x,some y=>some (.ite e x y)
    | _,_=>none
  | _=>none
 | .block id a,s,n,k=>sxC P sg H a s n fun o s' n'=>match o with
  | .exit j=>if j=id then k .norm s' n' else k (.exit j) s' n'
  | o=>k o s' n'
 | .loop a,s,n,k =>
  let s:=Yw H.own (Yf a) s
  let t:=genT (Jhy H (Yf a)) s n
  match Jb3 n t.2 t.1 (SSt.like H.nl t.1 s) H.nl with
  | none=>none
  | some init=>match sxC P sg H a t.1 (n+t.2) (fun o s' n'=>match o with
    | .norm=>match Jb3 n t.2 t.1 (SSt.like H.nl t.1 s') H.nl with
     | some vs=>some (.next vs)
     | none=>none
    | o=>match k o s' n' with
     | some r=>some (.esc r)
     | none=>none) with
   | some body=>some (.loop n init body)
   | none=>none
 | .exit id,s,n,k=>k (.exit id) s n
 | .ret,s,n,k=>k .ret s n
 | _,_,_,_=>none
section
variable {B:Tb} {ρ:Env} {sg:FuncId→Option Sig} {P:Program} {G:JQ} {N:Nat}
theorem SMP.run_mono {α:Type} :∀(p:SMP α) (m:XE) (n:Nat) (r:JoY α),p.run m n=some r→n≤r.n
 | .ret a,m,n,r,h=>by simp only[SMP.run,JrD] at h;subst h;exact Nat.le_refl _
 | .fail,_,_,_,h=>by cases h
 | .get k c,m,n,r,h=>by
  simp only[SMP.run] at h;split at h
  ·split at h
   ·rename_i r1 h1;simp only[JrD] at h;subst h;show n≤r1.n;exact SMP.run_mono _ _ _ r1 h1
   ·cases h
  ·cases h
 | .put k o c,m,n,r,h=>by
  simp only[SMP.run] at h;split at h
  ·split at h
   ·rename_i r1 h1;simp only[JrD] at h;subst h;show n≤r1.n;exact SMP.run_mono _ _ _ r1 h1
   ·cases h
  ·cases h
 | .new k o c,m,n,r,h=>by
  simp only[SMP.run] at h;split at h
  ·cases h
  ·split at h
   ·rename_i r1 h1;simp only[JrD] at h;subst h;show n≤r1.n;exact SMP.run_mono _ _ _ r1 h1
   ·cases h
 | .ask i j c,m,n,r,h=>by
  simp only[SMP.run] at h;split at h
  ·rename_i r1 h1;simp only[JrD] at h;subst h;have:=SMP.run_mono _ _ _ _ h1;show n≤r1.n;omega
  ·cases h
theorem K4 {dp bo:Oper→Bool} {ops:Array Oper} (n0:Nat) (k k':SSl→XE→Nat→Trs→Option R) (hk :∀sl m n t,n0≤n→k sl m n t=k' sl m n t) :∀(l:List Nat) (sl:SSl) (m:XE) (n:Nat) (trs:Trs),n0≤n →
  Yt P sg dp bo ops l sl m n trs k=Yt P sg dp bo ops l sl m n trs k'
 | [],sl,m,n,trs,h=>hk _ _ _ _ h
 | i::l,sl,m,n,trs,h=>by
  have ih:=K4 (dp:=dp) (bo:=bo) (ops:=ops) n0 k k' hk l;simp only[Yt];cases ops[i]? with
  | none=>rfl
  | some o =>
   dsimp only
   generalize Zc ops sl o=wt;cases wt with
   | yes =>
    simp only[if_true];cases hr:(JhT P sg (dp o) (bo o) o sl).run m n with
    | none=>rfl
    | some r =>
     simp only;rw[ih _ _ _ _ (Nat.le_trans h (SMP.run_mono _ _ _ _ hr))]
   | no=>simp only[JrU,if_false];rw[ih _ _ _ _ h]
   | bad=>rfl
   | fork d b want =>
    cases want with
    | true =>
     simp only[Bool.not_true,JrU,if_false,if_true];rw[ih _ _ _ _ h];cases hr:(JhT P sg (dp o) (bo o) o ((d,.d (.vb .tt))::sl)).run m n with
     | none=>rfl
     | some r =>
      simp only;rw[ih _ _ _ _ (Nat.le_trans h (SMP.run_mono _ _ _ _ hr))]
    | false =>
     simp only[Bool.not_false,JrU,if_false,if_true];rw[ih _ _ _ _ h];cases hr:(JhT P sg (dp o) (bo o) o ((d,.d (.vb .ff))::sl)).run m n with
     | none=>rfl
     | some r =>
      simp only;rw[ih _ _ _ _ (Nat.le_trans h (SMP.run_mono _ _ _ _ hr))]
theorem Ji1 {ops:Array Oper} {draw:Bool} {d:Tmp} {x:Operand} (h:Jcb P ops draw=some (d,x)) :
  0<ops.size∧draw=false∧∃ t:TypeId,(∃ e,P.underlying t=some (.slice e))∧∃ o,ops[ops.size-1]? = some o∧o.dst=some d∧o.guard=none∧∃ y,o.op = .binOp .eql t x (.const (.slice none 0 0)) y:=by
 unfold Jcb at h;split at h
 ·cases h
 ·rename_i hd;have hd:draw=false:=by simpa using hd
  split at h
  ·rename_i d' t x' y ty pos af ho;split at h
   ·rename_i e he;simp only[JrD,JrV] at h;obtain⟨rfl,rfl⟩:=h;have hlt:=(JrQ.1 ho).1;exact⟨by omega,hd,t,⟨e,he⟩,_,ho,rfl,rfl,_,rfl⟩
   ·cases h
  ·cases h
theorem JpM {t e:TypeId} (h:P.underlying t=some (.slice e)) (A:Option Addr) (l cap:Nat):JC P (Op.equal t (.slice A l cap) (.slice none 0 0))=some A.isNone:=by
 show JC P (Op.equalIn (9999+1) t _ _)=_;unfold Op.equalIn;rw[QE,Xe h];cases A <;> rfl
theorem Jnw {a:Act} {w:World} {o:Oper} {t:TypeId} {x:Operand} {A:Option Addr} {l cap:Nat} (ht : ∃ e,P.underlying t=some (.slice e)) (ho : ∃ y,o.op = .binOp .eql t x (.const (.slice none 0 0)) y) (hA:a.eval x = .slice A l cap) :
  (execOp a.eval o).run P w = .ok (.value (.bool A.isNone)) w:=by
 obtain⟨e,ht⟩:=ht;obtain⟨y,ho⟩:=ho;have h1:JC P (do eqGuard .eql t x (.const (.slice none 0 0)) (.slice A l cap) (.slice none 0 0);binOp .eql t (.slice A l cap) (.slice none 0 0))=some (.bool A.isNone):=by
  show JC P (Op.equal t (.slice A l cap) (.slice none 0 0) >>= fun r=>pure (Value.bool r))=_;rw[QE,JpM ht];rfl
 have h2:=XY _ _ w h1;have hc:a.eval (.const (.slice none 0 0)) = .slice none 0 0:=rfl;unfold execOp;rw[ho];simp only[hA,hc,Sem.run_bind] at h2 ⊢;rw[h2];rfl
theorem Wo {T:Tab} {G:JQ} {ops:Array Oper} {c:Cx P} {Q:Exit→Act→World→Prop} (hT:UF c T) :∀(l l2:List Nat) (st st':St) (g:Gh) (a:Act) (w:World),Sim c g st.m w→Jm c g st.m w st.sl a→Ka a.tmps.size ops=true→UY P T G ops l st=some st' →
  (∀a' w' g',Sim c g' st'.m w'→Jm c g' st'.m w' st'.sl a'→Jb c g st.m w g' st'.m w'→a'.defers=a.defers→a'.tmps.size=a.tmps.size→wpOps P ops Q l2 a' w')→wpOps P ops Q (l++l2) a w
 | [],l2,st,st',g,a,w,hS,hsl,_,h,hQ=>by
  simp only[UY,JrD] at h;subst h;exact hQ a w g hS hsl (.refl _ _ _ _) rfl rfl
 | i::l,l2,st,st',g,a,w,hS,hsl,hd,h,hQ=>by
  simp only[UY] at h;split at h
  ·rename_i st1 h1;rw[List.cons_append,wpOps_cons];refine Wi hT hS hsl hd h1 fun a' w' g' hS' hsl' hC1 e1 e2=>?_;refine Wo hT l l2 st1 st' g' a' w' hS' hsl' (by rw[e2];exact hd) h fun a'' w'' g'' h3 h4 hC2 h5 h6=>hQ a'' w'' g'' h3 h4 (hC1.trans hC2) (h5.trans e1) (h6.trans e2)
  ·cases h
theorem Joi {s:SSt} {c:Operand} {e:E} (h:sop s.sl c = .d (.vb e)):opX (γs ρ s.sl) c=X.d (.v (.bool (bol ρ e))):=by
 rw[Qa,h];rfl
theorem JkF {s:SSt} {c:Operand} {e:E} {t:Bool} (h:sop s.sl c = .d (.vb e)) (hk:e.known=none) (ht:bol ρ e=t):γs ρ (JoH c t s).sl=γs ρ s.sl∧(JoH c t s).m=s.m:=by
 cases c with
 | tmp d =>
  refine⟨?_,rfl⟩;have hl:s.sl.lookup d=some (.d (.vb e)):=by
   simp only[sop] at h;cases hl:s.sl.lookup d with
   | none=>rw[hl] at h;cases h
   | some v=>rw[hl] at h;exact congrArg some h
  exact JjX hl ht
 | _=>exact⟨rfl,rfl⟩
theorem Zh {c:Cx P} {w:World} {a:Act} (id:Nat) {g0:Gh} {m0:Mem} {w0:World} :∀(l:List (Nat×Jg0)) (s:SSt) (g:Gh),Sim c g (γm ρ s.m) w→Jm c g (γm ρ s.m) w (γs ρ s.sl) a→Jb c g0 m0 w0 g (γm ρ s.m) w →
  ∃ g',Sim c g' (γm ρ (Yw l id s).m) w∧Jm c g' (γm ρ (Yw l id s).m) w (γs ρ (Yw l id s).sl) a∧Jb c g0 m0 w0 g' (γm ρ (Yw l id s).m) w
 | [],s,g,hS,hH,hC=>⟨g,hS,hH,hC⟩
 | o::l,s,g,hS,hH,hC=>by
  unfold Yw;simp only[List.foldl_cons]
  by_cases ho:(o.1 == id)=true
  ·rw[if_pos ho];obtain⟨g',h1,h2,h3⟩:=JmJ o.2 hS hH hC;exact Zh id l _ g' h1 h2 h3
  ·rw[if_neg ho];exact Zh id l _ g hS hH hC
theorem Jp.trans {c:Nat} {ρ1 ρ2 ρ3:Env} (h:Jp c ρ1 ρ2) (h':Jp c ρ2 ρ3):Jp c ρ1 ρ3:=fun j hj=>(h' j hj).trans (h j hj)
theorem Jp.le {c d:Nat} {ρ1 ρ2:Env} (h:Jp d ρ1 ρ2) (hc:c≤d):Jp c ρ1 ρ2:=fun j hj=>h j (by omega)
theorem Jp.rfl' {c:Nat} {ρ:Env}:Jp c ρ ρ:=fun _ _=>rfl
theorem Jp.symm {c:Nat} {ρ1 ρ2:Env} (h:Jp c ρ1 ρ2):Jp c ρ2 ρ1:=fun j hj=>(h j hj).symm
theorem Ug (hB:BOk sg B) {c:Cx P} (hT:UF c (QJ sg B)) (hm:P.follows .mixedOrders=true) (H:Ye) (bor:List Tmp) {g0:Gh} {m0:Mem} {w0:World}
  {id:Nat} {ops:Array Oper} {draw:Bool} {s1:SSt} {n:Nat} {k:Out→SSt→Nat→Option R} {r0:R} {ρ:Env} {o:Oc} {a:Act} {w:World} {g1:Gh} {Q:Exit→Act→World→Prop}
  (h:Yt P sg H.dp (H.boW bor) ops (List.range' 0 ops.size) s1.sl s1.m n [] (fun sl m n tl=>match Wn ops draw tl with | true=>k .norm ⟨QN H.keep sl,m⟩ n | false=>none)=some r0)
  (hr:Run B N r0 ρ o) (hS1:Sim c g1 (γm ρ s1.m) w) (hH1:Jm c g1 (γm ρ s1.m) w (γs ρ s1.sl) a) (hC1:Jb c g0 m0 w0 g1 (γm ρ s1.m) w) (hc:Ka a.tmps.size ops=true)
  (hQ :∀(s':SSt) (n':Nat) (R':R) (a':Act) (w':World) (g':Gh),n≤n'→k .norm s' n'=some R'→Run B N R' ρ o→Sim c g' (γm ρ s'.m) w'→Jm c g' (γm ρ s'.m) w' (γs ρ s'.sl) a'→Jb c g0 m0 w0 g' (γm ρ s'.m) w'→a'.defers=a.defers→a'.tmps.size=a.tmps.size→Q .normal a' w') :
  (Code.region id ops draw).wp P Q a w:=by
 rw[K4 n _ (fun sl m n' tl=>if n≤n' then(match Wn ops draw tl with | true=>k .norm ⟨QN H.keep sl,m⟩ n' | false=>none) else none)
  (fun sl m n' t hn=>by rw[if_pos hn]) _ _ _ _ _ (Nat.le_refl n)] at h
 obtain⟨sl',m',n',tl,R',e1,e2,e3⟩:=Jaa (G:={ deep:=H.deep,no:=H.no,bor:=bor }) (N:=N) (ρ:=ρ) hB _ _ _ _ _ _ r0 o h hr;simp only[List.reverse_nil,List.nil_append] at e2;split at e2
 ·rename_i hn;cases hd:Wn ops draw tl with
  | false=>rw[hd] at e2;cases e2
  | true =>
   rw[hd] at e2;have hreg:Jae P (QJ sg B) { deep:=H.deep,no:=H.no,bor:=bor } id ops draw ⟨γs ρ s1.sl,γm ρ s1.m⟩=some ⟨γs ρ sl',γm ρ m'⟩:=by
    unfold Jae;cases draw with
    | false =>
     simp only[JrU,if_false];exact K5 _ _ _ _ e1
    | true =>
     simp only[if_true,e1];unfold Wn at hd;simp only[Bool.not_true,Bool.false_or] at hd;simp only[hd,if_true]
   refine Jfr hT hm (g0:=g0) (m0:=m0) (w0:=w0) hC1 hS1 hH1 hc hreg fun a' w' g' h1 h2 h3 h4 h5=>?_;exact hQ _ n' R' a' w' g' hn e2 e3 h1 (JdE H.keep h2) h3 h4 h5
 ·cases e2
theorem Jn7 (hB:BOk sg B) {c:Cx P} (hT:UF c (QJ sg B)) (hm:P.follows .mixedOrders=true) (H:Ye) {g0:Gh} {m0:Mem} {w0:World} (hl :∀k,m0 k≠none→k<H.nl) :
  ∀(C:Code) (s:SSt) (n:Nat) (k:Out→SSt→Nat→Option R) (R:R) (ρ:Env) (o:Oc) (a:Act) (w:World) (g:Gh) (Q:Exit→Act→World→Prop),
  sxC P sg H C s n k=some R→Run B N R ρ o→Sim c g (γm ρ s.m) w→Jm c g (γm ρ s.m) w (γs ρ s.sl) a→Jb c g0 m0 w0 g (γm ρ s.m) w→codeOk a.tmps.size C=true →
  (∀ex s' n' R' ρ' a' w' g',n≤n'→Jp n ρ ρ'→k ex s' n'=some R'→Run B N R' ρ' o→Sim c g' (γm ρ' s'.m) w'→Jm c g' (γm ρ' s'.m) w' (γs ρ' s'.sl) a'→Jb c g0 m0 w0 g' (γm ρ' s'.m) w'→a'.defers=a.defers→a'.tmps.size=a.tmps.size→Q ex.exitOf a' w') →
  C.wp P Q a w:=by
 intro C
 induction C with
 | skip =>
  intro s n k R ρ o a w g Q h hr hS hH hC hc hQ;exact wp_skip (hQ .norm s n R ρ a w g (Nat.le_refl _) Jp.rfl' h hr hS hH hC rfl rfl)
 | exit id =>
  intro s n k R ρ o a w g Q h hr hS hH hC hc hQ;exact wp_exit (hQ (.exit id) s n R ρ a w g (Nat.le_refl _) Jp.rfl' h hr hS hH hC rfl rfl)
 | ret =>
  intro s n k R ρ o a w g Q h hr hS hH hC hc hQ;exact wp_ret (hQ .ret s n R ρ a w g (Nat.le_refl _) Jp.rfl' h hr hS hH hC rfl rfl)
 | region id ops draw =>
  intro s n k R ρ o a w g Q h hr hS hH hC hc hQ;simp only[sxC] at h;split at h
  ·simp only[JrD] at h;subst h;obtain⟨h1,_⟩:=hr;exact absurd h1 (by simp[I.holds,bol,den,V.bool])
  obtain⟨g1,hS1,hH1,hC1⟩:=Zh id H.own s g hS hH hC;generalize Yw H.own id s=s1 at *;cases hal:H.alt.lookup id with
  | some q =>
   obtain⟨is,j,b,l⟩:=q;rw[hal] at h;simp only at h;split at h
   ·rename_i x y hx hy;simp only[JrD] at h;subst h;obtain⟨_,hr2⟩:=Kp _ _ _ hr;simp only[Run] at hr2;cases hb:bol ρ b with
    | true =>
     rw[hb] at hr2;simp only[if_true] at hr2;exact Ug hB hT hm H l hx hr2 hS1 hH1 hC1 hc fun s' n' R' a' w' g' hn hk hr' q1 q2 q3 q4 q5=>hQ .norm s' n' R' ρ a' w' g' (by omega) Jp.rfl' hk hr' q1 q2 q3 q4 q5
    | false =>
     rw[hb] at hr2;simp only[JrU,if_false] at hr2;exact Ug hB hT hm H H.bor hy hr2 hS1 hH1 hC1 hc fun s' n' R' a' w' g' hn hk hr' q1 q2 q3 q4 q5=>hQ .norm s' n' R' ρ a' w' g' (by omega) Jp.rfl' hk hr' q1 q2 q3 q4 q5
   ·cases h
  | none =>
  rw[hal] at h;simp only at h;cases hin:(if H.inner.contains id && !draw then Zl ops else none) with
  | some q =>
   rw[hin] at h;simp only at h;have hq:draw=false∧Zl ops=some q:=by
    split at hin
    ·rename_i hcc;simp only[JrE,Bool.not_eq_true'] at hcc;exact⟨hcc.2,hin⟩
    ·cases hin
   obtain⟨rfl,hq⟩:=hq;rw[K4 n _ (fun sl m n' tl=>if n≤n' then(match Vq P sg q sl m n' with
    | some r=>match k .norm ⟨QN H.keep r.2.1,r.2.2.1⟩ r.2.2.2 with
     | some x=>some (V1 r.1 x)
     | none=>none
    | none=>none) else none)
    (fun sl m n' t hn=>by rw[if_pos hn]) _ _ _ _ _ (Nat.le_refl n)] at h
   obtain⟨sl',m',n',tl,R',e1,e2,e3⟩:=Jaa (G:={ deep:=H.deep,no:=H.no,bor:=H.bor }) (N:=N) (ρ:=ρ) hB _ _ _ _ _ _ R o h hr;split at e2
   ·rename_i hn;split at e2
    ·rename_i r hsx;obtain⟨is,sl2,m2,n2⟩:=r;split at e2
     ·rename_i R2 hk2;simp only[JrD] at e2;subst e2;obtain⟨his,hr2⟩:=Kp _ _ _ e3;have hn2:n'≤n2:=Jgk (fun p m n r h=>SMP.run_mono p m n r h) hsx;refine wp_region ?_;have hsz4:4≤ops.size:=by
       unfold Zl at hq;split at hq
       ·split at hq
        ·split at hq
         ·rename_i hc4;exact hc4.1
         ·cases hq
        ·cases hq
       ·cases hq
      have hrange:List.range ops.size=List.range' 0 (ops.size-4)++[ops.size-4,ops.size-3,ops.size-2,ops.size-1]:=by
       rw[List.range_eq_range'];have:ops.size=(ops.size-4)+1+1+1+1:=by omega
       conv=>lhs;rw[this,List.range'_concat,List.range'_concat,List.range'_concat,List.range'_concat]
       simp only[List.append_assoc,List.singleton_append,Nat.zero_add,Nat.one_mul,List.append_cancel_left_eq];rw[show ops.size-3=ops.size-4+1 by omega,show ops.size-2=ops.size-4+2 by omega,show ops.size-1=ops.size-4+3 by omega];rfl
      rw[hrange];refine Wo hT _ [ops.size-4,ops.size-3,ops.size-2,ops.size-1] _ _ _ _ _ hS1 hH1 hc (K5 (G:={ deep:=H.deep,no:=H.no,bor:=H.bor }) _ _ _ _ e1) fun a' w' g' hS2 hH2 hC2 hd2 hz2=>?_;have hc':Ka a'.tmps.size ops=true:=by rw[hz2];exact hc
      refine(JiN hB hT hS2 hH2 hc' hq hsx his fun a'' w'' g'' h1 h2 h3 h4 h5=>?_).2;exact hQ .norm _ n2 R2 ρ a'' w'' g'' (Nat.le_trans hn hn2) Jp.rfl' hk2 hr2 h1 (JdE H.keep h2) ((hC1.trans hC2).trans h3) (h4.trans hd2) (h5.trans hz2)
     ·cases e2
    ·cases e2
   ·cases e2
  | none =>
  rw[hin] at h;simp only at h;cases hnl:Jcb P ops draw with
  | some dx =>
   obtain⟨d,x⟩:=dx;rw[hnl] at h;simp only at h;obtain⟨ho,hdr,t,ht,o0,hop,hod,hog,hopp⟩:=Ji1 hnl;subst hdr;rw[K4 n _ (fun sl m n' tl=>if n≤n' then(match sop sl x with
    | .d (.s l)=>if SSt.under n' ⟨sl,m⟩ then match k .norm ⟨QN H.keep ((d,.d (.vb .tt))::sl),m⟩ n',k .norm ⟨QN H.keep ((d,.d (.vb .ff))::sl),m⟩ n' with
     | some x,some y=>some (.nilq n' l x y)
     | _,_=>none
     else none
    | _=>none) else none)
    (fun sl m n' t hn=>by rw[if_pos hn]) _ _ _ _ _ (Nat.le_refl n)] at h
   obtain⟨sl',m',n',tl,R',e1,e2,e3⟩:=Jaa (G:={ deep:=H.deep,no:=H.no,bor:=H.bor }) (N:=N) (ρ:=ρ) hB _ _ _ _ _ _ R o h hr;split at e2
   ·rename_i hn;split at e2
    ·rename_i l hl;split at e2
     ·rename_i hund;split at e2
      ·rename_i R1 R2 hk1 hk2;simp only[JrD] at e2;subst e2;obtain⟨⟨ρy,hay,hry⟩,hx⟩:=e3;refine wp_region ?_;have hrange:List.range ops.size=List.range' 0 (ops.size-1)++[ops.size-1]:=by
        rw[List.range_eq_range'];have:ops.size=(ops.size-1)+1:=by omega
        conv=>lhs;rw[this,List.range'_concat]
        simp
       rw[hrange];refine Wo hT _ [ops.size-1] _ _ _ _ _ hS1 hH1 hc (K5 (G:={ deep:=H.deep,no:=H.no,bor:=H.bor }) _ _ _ _ e1) fun a' w' g' hS2 hH2 hC2 hd2 hz2=>?_;rw[wpOps_cons];have hv:=oX1 hH2 x;rw[Qa,hl] at hv;obtain⟨fp,⟨A,cap,hA,hle,hrest⟩,hok⟩:=hv;have hexec:(execOp a'.eval o0).run P w' = .ok (.value (.bool A.isNone)) w':=Jnw ht hopp hA;have hdlt:d<a'.tmps.size:=by
        have h0:Ka a.tmps.size ops=true:=hc;have:=Array.all_eq_true_iff_forall_mem.1 h0 o0 (Array.mem_of_getElem? hop);rw[hod] at this;rw[hz2];simpa using this
       unfold wpOp;rw[hop];have hwant:Region.wanted o0 (yielded ops a'.tmps)=true:=by unfold Region.wanted;rw[hog]
       simp only[hwant,if_true];refine .inl ?_;unfold Oper.wp;rw[hexec];show wpOps P ops Q [] (a'.put o0.dst (.bool A.isNone)) w';have hput :∀(tb:Bool),A.isNone=tb→Jm c g' (γm ρ m') w' (γs ρ ((d,.d (.vb (KI tb)))::sl')) (a'.put o0.dst (.bool A.isNone)):=by
        intro tb htb;rw[Kc,htb];have:=Jm.put (o:=o0) (x:=γX ρ (.d (.vb (KI tb)))) (v:= .bool tb) hH2 (.refl _ _ _ _) (fun d' hd'=>by rw[hod] at hd';cases hd';exact hdlt) (by
         show VX c g' _ w' (X.d (.v (.bool (bol ρ (KI tb))))) _;have:bol ρ (KI tb)=tb:=by cases tb <;> rfl
         rw[this];exact⟨[],⟨rfl,rfl,rfl⟩,fun b hb=>by simp at hb⟩)
        rw[hod] at this ⊢;exact this
       have hC3:=hC1.trans hC2;have fin :∀(tb:Bool) (Rb:Go.Tm.R) (ρb:Env),A.isNone=tb→Jp n' ρ ρb→k .norm ⟨QN H.keep ((d,.d (.vb (KI tb)))::sl'),m'⟩ n'=some Rb→Run B N Rb ρb o→Q .normal (a'.put o0.dst (.bool A.isNone)) w':=by
        intro tb Rb ρb htb hab hkb hrb;have hund2:SSt.under n' ⟨(d,.d (.vb (KI tb)))::sl',m'⟩=true:=by
         unfold SSt.under at hund ⊢;simp only[JrE,List.all_cons] at hund ⊢;exact⟨⟨by cases tb <;> rfl,hund.1⟩,hund.2⟩
        obtain⟨u1,u2⟩:=JnX hab hund2;refine hQ .norm _ n' Rb ρb _ w' g' hn (hab.le hn) hkb hrb (by rw[u2];exact hS2) (JdE H.keep ?_) (by rw[u2];exact hC3) ((XV _ _ _).trans hd2) ((ZJ _ _ _).trans hz2);rw[u2];show Jm c g' _ w' (γs ρb ((d,.d (.vb (KI tb)))::sl')) _;rw[u1];exact hput tb htb
       cases hA':A.isNone with
       | true =>
        have hnil:lst ρ l=[]:=by
         rcases hrest with ⟨h1,_⟩ | ⟨b,o,sz,fp',h1,_⟩
         ·exact h1
         ·rw[h1] at hA';cases hA'
        obtain⟨ρx,hax,hrx⟩:=hx hnil;have:=fin true R1 ρx hA' hax hk1 hrx;rw[hA'] at this;exact this
       | false =>
        have:=fin false R2 ρy hA' hay hk2 hry;rw[hA'] at this;exact this
      ·cases e2
     ·cases e2
    ·cases e2
   ·cases e2
  | none =>
  rw[hnl] at h;simp only at h;exact Ug hB hT hm H H.bor h hr hS1 hH1 hC1 hc fun s' n' R' a' w' g' hn hk hr' q1 q2 q3 q4 q5=>hQ .norm s' n' R' ρ a' w' g' hn Jp.rfl' hk hr' q1 q2 q3 q4 q5
 | seq x y ihx ihy =>
  intro s n k R ρ o a w g Q h hr hS hH hC hc hQ;simp only[codeOk,JrE] at hc;simp only[sxC] at h;refine wp_seq ?_;refine ihx s n _ R ρ o a w g _ h hr hS hH hC hc.1 fun ex s' n' R' ρ' a' w' g' hn hag hk hr' hS' hH' hC' hd hz=>?_;cases ex with
  | norm =>
   refine ihy s' n' k R' ρ' o a' w' g' Q hk hr' hS' hH' hC' (by rw[hz];exact hc.2) fun ex s2 n2 R2 ρ2 a2 w2 g2 hn2 hag2 hk2 hr2 hS2 hH2 hC2 hd2 hz2=>?_;exact hQ ex s2 n2 R2 ρ2 a2 w2 g2 (Nat.le_trans hn hn2) (hag.trans (hag2.le hn)) hk2 hr2 hS2 hH2 hC2 (hd2.trans hd) (hz2.trans hz)
  | exit id=>exact hQ (.exit id) s' n' R' ρ' a' w' g' hn hag hk hr' hS' hH' hC' hd hz
  | ret=>exact hQ .ret s' n' R' ρ' a' w' g' hn hag hk hr' hS' hH' hC' hd hz
 | cond b x y ihx ihy =>
  intro s n k R ρ o a w g Q h hr hS hH hC hc hQ;simp only[codeOk,JrE] at hc;simp only[sxC] at h;split at h
  ·rename_i e he;have hv:=oX1 hH b;rw[Joi he] at hv;have hv:=(JW hv).1;refine wp_cond hv ?_;split at h
   ·rename_i hk;rw[Zw hk];simp only[if_true];exact ihx s n k R ρ o a w g Q h hr hS hH hC hc.1 hQ
   ·rename_i hk;rw[Zw hk];simp only[JrU,if_false];exact ihy s n k R ρ o a w g Q h hr hS hH hC hc.2 hQ
   ·rename_i hk;split at h
    ·rename_i x' y' hx hy;simp only[JrD] at h;subst h;simp only[Run] at hr;cases hb:bol ρ e with
     | true =>
      rw[hb] at hr;simp only[if_true] at hr ⊢;obtain⟨e1,e2⟩:=JkF (t:=true) he hk hb;exact ihx _ n k x' ρ o a w g Q hx hr (by rw[e2];exact hS) (by rw[e1,e2];exact hH) (by rw[e2];exact hC) hc.1 hQ
     | false =>
      rw[hb] at hr;simp only[JrU,if_false] at hr ⊢;obtain⟨e1,e2⟩:=JkF (t:=false) he hk hb;exact ihy _ n k y' ρ o a w g Q hy hr (by rw[e2];exact hS) (by rw[e1,e2];exact hH) (by rw[e2];exact hC) hc.2 hQ
    ·cases h
  ·cases h
 | block id x ih =>
  intro s n k R ρ o a w g Q h hr hS hH hC hc hQ;simp only[codeOk] at hc;simp only[sxC] at h;refine wp_block ?_;refine ih s n _ R ρ o a w g _ h hr hS hH hC hc fun ex s' n' R' ρ' a' w' g' hn hag hk hr' hS' hH' hC' hd hz=>?_;cases ex with
  | norm=>exact hQ .norm s' n' R' ρ' a' w' g' hn hag hk hr' hS' hH' hC' hd hz
  | ret=>exact hQ .ret s' n' R' ρ' a' w' g' hn hag hk hr' hS' hH' hC' hd hz
  | exit j =>
   simp only at hk;split at hk
   ·rename_i hj;have:=hQ .norm s' n' R' ρ' a' w' g' hn hag hk hr' hS' hH' hC' hd hz;simpa[Exit.inBlock,Out.exitOf,hj] using this
   ·rename_i hj;have:=hQ (.exit j) s' n' R' ρ' a' w' g' hn hag hk hr' hS' hH' hC' hd hz;simpa[Exit.inBlock,Out.exitOf,hj] using this
 | loop x ih =>
  intro s n k R ρ o a w g Q h hr hS hH hC hc hQ;simp only[codeOk] at hc;simp only[sxC] at h;obtain⟨g1,hS1,hH1,hC1⟩:=Zh (Yf x) H.own s g hS hH hC;generalize Yw H.own (Yf x) s=s1 at *;generalize genT (Jhy H (Yf x)) s1 n=t at *;split at h
  ·cases h
  ·rename_i init hinit;split at h
   ·rename_i body hbody;simp only[JrD] at h;subst h;simp only[Run] at hr;refine wp_loop_rounds N ?_;have key :∀(j:Nat) (vs:List V) (g:Gh) (a':Act) (w:World),Jcc (fun vs o1=>∃ ρ',Jp n ρ ρ'∧JbC n vs ρ'∧Run B N body ρ' o1) j vs o →
      (∀ρ',Jp n ρ ρ'→JbC n vs ρ'→Sim c g (γm ρ' t.1.m) w∧Jm c g (γm ρ' t.1.m) w (γs ρ' t.1.sl) a'∧Jb c g0 m0 w0 g (γm ρ' t.1.m) w) →
      a'.defers=a.defers→a'.tmps.size=a.tmps.size→Code.rounds P x Q j a' w:=by
     intro j
     induction j with
     | zero=>intro vs g a' w hrel;exact hrel.elim
     | succ j ihj =>
      intro vs g a' w hrel hst hda hza;rw[rounds_succ];rcases hrel with ⟨vs',⟨ρ',hag,hset,hrun⟩,hrel⟩ | ⟨ρ',hag,hset,hrun⟩
      ·obtain⟨q1,q2,q3⟩:=hst ρ' hag hset;refine ih t.1 (n+t.2) _ body ρ' _ a' w g _ hbody hrun q1 q2 q3 (by rw[hza];exact hc) fun ex s' n' R' ρ2 a2 w2 g2 hn2 hag2 hk2 hr2 hS2 hH2 hC2 hd2 hz2=>?_;cases ex with
       | norm =>
        simp only at hk2;split at hk2
        ·rename_i vsE hvs;simp only[JrD] at hk2;subst hk2;simp only[Run,Oc.next.injEq] at hr2;subst hr2;obtain⟨g3,hS3,hH3,hC3⟩:=JfW hl t.1 hS2 hH2 hC2;refine ihj _ g3 a2 w2 hrel (fun ρ3 hag3 hset3=>?_) (hd2.trans hda) (hz2.trans hza);have hag4:Jp n ρ ρ2:=hag.trans (hag2.le (by omega));exact Wy hvs (hag4.symm.trans hag3) hset3 hl hS3 hH3 hC3
        ·cases hk2
       | exit id =>
        simp only at hk2;split at hk2
        ·simp only[JrD] at hk2;subst hk2;obtain⟨o',ho',_⟩:=hr2;cases ho'
        ·cases hk2
       | ret =>
        simp only at hk2;split at hk2
        ·simp only[JrD] at hk2;subst hk2;obtain⟨o',ho',_⟩:=hr2;cases ho'
        ·cases hk2
      ·obtain⟨q1,q2,q3⟩:=hst ρ' hag hset;refine ih t.1 (n+t.2) _ body ρ' _ a' w g _ hbody hrun q1 q2 q3 (by rw[hza];exact hc) fun ex s' n' R' ρ2 a2 w2 g2 hn2 hag2 hk2 hr2 hS2 hH2 hC2 hd2 hz2=>?_;have hag4:Jp n ρ ρ2:=hag.trans (hag2.le (by omega));cases ex with
       | norm =>
        simp only at hk2;split at hk2
        ·simp only[JrD] at hk2;subst hk2;simp only[Run] at hr2;cases hr2
        ·cases hk2
       | exit id =>
        simp only at hk2;split at hk2
        ·rename_i r hkr;simp only[JrD] at hk2;subst hk2;obtain⟨o',ho',hr3⟩:=hr2;cases ho';exact hQ (.exit id) s' n' r ρ2 a2 w2 g2 (by omega) hag4 hkr hr3 hS2 hH2 hC2 (hd2.trans hda) (hz2.trans hza)
        ·cases hk2
       | ret =>
        simp only at hk2;split at hk2
        ·rename_i r hkr;simp only[JrD] at hk2;subst hk2;obtain⟨o',ho',hr3⟩:=hr2;cases ho';exact hQ .ret s' n' r ρ2 a2 w2 g2 (by omega) hag4 hkr hr3 hS2 hH2 hC2 (hd2.trans hda) (hz2.trans hza)
        ·cases hk2
    obtain⟨gi,hSi,hHi,hCi⟩:=JfW hl t.1 hS1 hH1 hC1;exact key N _ gi a w hr (fun ρ' hag hset=>Wy hinit hag hset hl hSi hHi hCi) rfl rfl
   ·cases h
 | _=>intro s n k R ρ o a w g Q h;simp[sxC] at h
end
end Go.Tm
end
section
namespace Go.Tm
open Go.IntKind (i64)
def Jkr:D→Bool
 | .v (.slice none 0 0)=>false
 | x=>x.one
def Sh1.toV:Sh1→D→Option V
 | .i k,.v (.int k' n)=>if k=k' then some (.i n) else none
 | .b,.v (.bool t)=>some (.b t)
 | .s,.s es=>some (.l es)
 | .d,x=>if Jkr x then some (.d x) else none
 | _,_=>none
def Xh:List Sh1→List D→Nat→Env→Option Env
 | [],[],_,ρ=>some ρ
 | a::as,d::ds,n,ρ=>match a.toV d with
  | some v=>Xh as ds (n+1) (upd ρ n v)
  | none=>none
 | _,_,_,_=>none
def Sh.bind:Sh→D→Nat→Env→Option Env
 | .one a,d,n,ρ=>Xh [a] [d] n ρ
 | .g as,.g cs,n,ρ=>Xh as cs n ρ
 | .q as,.q cs,n,ρ=>Xh as cs n ρ
 | _,_,_,_=>none
def Xk (B : Tb) : I → Env → Option Env
  | .chk b,ρ=>if bol ρ b then some ρ else none
  | .head sz l,ρ=>if XZ sz (lst ρ l) then some ρ else none
  | .fl l,ρ=>if Jy (lst ρ l) then some ρ else none
  | .get e sh n,ρ=>sh.bind (dat ρ e) n ρ
  | .idx l i sh n,ρ=>if 0≤int ρ i then match (lst ρ l)[(int ρ i).toNat]? with
      | some d=>sh.bind d n ρ
      | none=>none
    else none
  | .call f as rs n,ρ=>match B.call f (as.map (dat ρ)) with
    | some ds=>Xh rs ds n ρ
    | none=>none
  | .prim p as r n,ρ=>match ZC p (as.map (dat ρ)) with
    | some d=>Xh [r] [d] n ρ
    | none=>none
  | .callv e as ar rs n,ρ=>match dat ρ e with
    | .f fn caps=>if B.ar fn=some (ar++caps.map fun _=>none) then match B.call fn (as.map (dat ρ)++caps.map D.norm) with
        | some ds=>Xh rs ds n ρ
        | none=>none
      else none
    | _=>none
def Ul (f:List V→Option Oc):Nat→List V→Option Oc
 | 0,_=>none
 | n+1,vs=>match f vs with
  | some (.next vs')=>Ul f n vs'
  | some (.esc o)=>some o
  | _=>none
def Xr:Nat→List V→Env→Env
 | _,[],ρ=>ρ
 | c,v::vs,ρ=>Xr (c+1) vs (upd ρ c v)
open Classical in
noncomputable def Jx (B:Tb) (N:Nat):R→Env→Option Oc
 | .i x r,ρ=>match Xk B x ρ with
  | some ρ'=>Jx B N r ρ'
  | none=>none
 | .ite b x y,ρ=>if bol ρ b then Jx B N x ρ else Jx B N y ρ
 | .nilq _ l x y,ρ=>match lst ρ l with
  | []=>if Jx B N x ρ=Jx B N y ρ then Jx B N y ρ else none
  | _::_=>Jx B N y ρ
 | .loop c init body,ρ=>Ul (fun vs=>Jx B N body (Xr c vs ρ)) N (init.map (den ρ))
 | .next vs,ρ=>some (.next (vs.map (den ρ)))
 | .done vs,ρ=>some (.done (vs.map (dat ρ)))
 | .esc r,ρ=>match Jx B N r ρ with
  | some o=>some (.esc o)
  | none=>none
def I.wf (c:Nat):I→Bool
 | .chk b=>b.under c
 | .head _ l=>l.under c
 | .fl l=>l.under c
 | .get e _ n=>e.under c&&n == c
 | .idx l i _ n=>l.under c&&i.under c&&n == c
 | .call _ as _ n=>as.all (E.under c)&&n == c
 | .callv e as _ _ n=>e.under c&&as.all (E.under c)&&n == c
 | .prim _ as _ n=>as.all (E.under c)&&n == c
def I.size:I→Nat
 | .chk _ | .head _ _ | .fl _=>0
 | .get _ sh _ | .idx _ _ sh _=>sh.size
 | .call _ _ rs _ | .callv _ _ _ rs _=>rs.length
 | .prim _ _ _ _=>1
def R.wf:R→Nat→List Nat→Bool
 | .i x r,c,st=>x.wf c&&r.wf (c+x.size) st
 | .ite b x y,c,st=>b.under c&&x.wf c st&&y.wf c st
 | .nilq c' l x y,c,st=>c' == c&&l.under c&&x.wf c st&&y.wf c st
 | .loop c' init body,c,st=>c' == c&&init.all (E.under c)&&body.wf (c+init.length) (init.length::st)
 | .next vs,c,st=>vs.all (E.under c)&&st.head? == some vs.length
 | .done vs,c,_=>vs.all (E.under c)
 | .esc r,c,st=>r.wf c st.tail
def Oc.conf:Oc→List Nat→Prop
 | .next vs,st=>st.head? = some vs.length
 | .done _,_=>True
 | .esc o,st=>o.conf st.tail
section
variable {B:Tb} {N:Nat}
theorem JpQ {a:Sh1} {d:D} {v:V} {n:Nat} {ρ:Env} (h:a.toV d=some v) (hr:ρ n=v):dat ρ (a.expr n)=d:=by
 unfold Sh1.toV at h;split at h
 ·split at h
  ·rename_i hk;subst hk;simp only[JrD] at h;subst h;show D.v (.int _ (V.int (ρ n)))=_;rw[hr];rfl
  ·cases h
 ·simp only[JrD] at h;subst h;show D.v (.bool (V.bool (ρ n)))=_;rw[hr];rfl
 ·simp only[JrD] at h;subst h;show D.s (V.lst (ρ n))=_;rw[hr];rfl
 ·split at h
  ·rename_i hx;simp only[JrD] at h;subst h;show QY (V.dat (ρ n))=_;rw[hr];show QY d=d;unfold Jkr at hx;split at hx
   ·cases hx
   ·rename_i hne;rw[Uc hx];unfold D.norm;split
    ·exact absurd rfl hne
    ·rfl
  ·cases h
 ·cases h
theorem Xy :∀(as:List Sh1) (ds:List D) (n:Nat) (ρ ρ':Env),Xh as ds n ρ=some ρ'→as.length=ds.length∧Jp n ρ ρ'∧∀ρ2,Jp (n+as.length) ρ' ρ2→(Ju as n).map (dat ρ2)=ds
 | [],[],n,ρ,ρ',h=>by
  simp only[Xh,JrD] at h;subst h;exact⟨rfl,Jp.rfl',fun _ _=>rfl⟩
 | [],_::_,n,ρ,ρ',h=>by simp[Xh] at h
 | _::_,[],n,ρ,ρ',h=>by simp[Xh] at h
 | a::as,d::ds,n,ρ,ρ',h=>by
  simp only[Xh] at h;split at h
  ·rename_i v hv;obtain⟨h1,h2,h3⟩:=Xy as ds (n+1) _ ρ' h;refine⟨by simp[h1],fun j hj=>?_,fun ρ2 h4=>?_⟩
   ·rw[h2 j (by omega),uO1 _ _ (by omega)]
   ·simp only[Ju,JrM];rw[h3 ρ2 (by rw[show n+1+as.length=n+(a::as).length by simp;omega];exact h4)]
    congr 1
    refine JpQ hv ?_;rw[h4 n (by simp),h2 n (by omega),uS1]
  ·cases h
theorem JcT {sh:Sh} {d:D} {n:Nat} {ρ ρ':Env} (h:sh.bind d n ρ=some ρ'):Jp n ρ ρ'∧∀ρ2,Jp (n+sh.size) ρ' ρ2→dat ρ2 (sh.expr n)=d:=by
 unfold Sh.bind at h;split at h
 ·obtain⟨_,h2,h3⟩:=Xy _ _ _ _ _ h;refine⟨h2,fun ρ2 h4=>?_⟩;have:=h3 ρ2 h4;simp only[Ju,JrM,List.map_nil,List.cons.injEq,and_true] at this;exact this
 ·obtain⟨_,h2,h3⟩:=Xy _ _ _ _ _ h;refine⟨h2,fun ρ2 h4=>?_⟩;show D.g (lst ρ2 (JO _))=_;rw[Jv,h3 ρ2 h4]
 ·obtain⟨_,h2,h3⟩:=Xy _ _ _ _ _ h;refine⟨h2,fun ρ2 h4=>?_⟩;show D.q (lst ρ2 (JO _))=_;rw[Jv,h3 ρ2 h4]
 ·cases h
theorem Ja6 {f:Env→E→D} {c:Nat} {ρ ρ':Env} (hf :∀e,e.under c=true→f ρ' e=f ρ e) {as:List E} (h:as.all (E.under c)=true):as.map (f ρ')=as.map (f ρ) :=
 Jr0 fun e he=>hf e (JrR.1 h e he)
theorem KG {c:Nat} {ρ ρ':Env} (h:Jp c ρ ρ') (e:E) (hu:e.under c=true):dat ρ' e=dat ρ e:=by unfold dat;rw[XR h e hu]
theorem JaS {c:Nat} {ρ ρ':Env} (h:Jp c ρ ρ') (e:E) (hu:e.under c=true):lst ρ' e=lst ρ e:=by unfold lst;rw[XR h e hu]
theorem JlL {c:Nat} {ρ ρ':Env} (h:Jp c ρ ρ') (e:E) (hu:e.under c=true):int ρ' e=int ρ e:=by unfold int;rw[XR h e hu]
theorem Jay {c:Nat} {ρ ρ':Env} (h:Jp c ρ ρ') (e:E) (hu:e.under c=true):bol ρ' e=bol ρ e:=by unfold bol;rw[XR h e hu]
theorem Jnj {x:I} {c:Nat} {ρ ρ':Env} (h:Xk B x ρ=some ρ') (hw:x.wf c=true):Jp c ρ ρ'∧∀ρ2,Jp (c+x.size) ρ' ρ2→x.holds B ρ2:=by
 cases x with
 | chk b =>
  simp only[Xk] at h;split at h
  ·rename_i hb;simp only[JrD] at h;subst h;exact⟨Jp.rfl',fun ρ2 h2=>by show bol ρ2 b=true;rw[Jay h2 b hw];exact hb⟩
  ·cases h
 | head sz l =>
  simp only[Xk] at h;split at h
  ·rename_i hb;simp only[JrD] at h;subst h;exact⟨Jp.rfl',fun ρ2 h2=>by show XZ sz (lst ρ2 l)=true;rw[JaS h2 l hw];exact hb⟩
  ·cases h
 | fl l =>
  simp only[Xk] at h;split at h
  ·rename_i hb;simp only[JrD] at h;subst h;exact⟨Jp.rfl',fun ρ2 h2=>by show Jy (lst ρ2 l)=true;rw[JaS h2 l hw];exact hb⟩
  ·cases h
 | get e sh n =>
  simp only[I.wf,JrE,beq_iff_eq] at hw;obtain⟨hu,rfl⟩:=hw;simp only[Xk] at h;obtain⟨h1,h2⟩:=JcT h;refine⟨h1,fun ρ2 h3=>?_⟩;show dat ρ2 e=dat ρ2 (sh.expr n);rw[h2 ρ2 h3,KG (h1.trans (h3.le (by omega))) e hu]
 | idx l i sh n =>
  simp only[I.wf,JrE,beq_iff_eq] at hw;obtain⟨⟨hu,hu2⟩,rfl⟩:=hw;simp only[Xk] at h;split at h
  ·rename_i h0;split at h
   ·rename_i d hd;obtain⟨h1,h2⟩:=JcT h;refine⟨h1,fun ρ2 h3=>?_⟩;have ha:=h1.trans (h3.le (by omega));show 0≤int ρ2 i∧(lst ρ2 l)[(int ρ2 i).toNat]? = some (dat ρ2 (sh.expr n));rw[h2 ρ2 h3,JlL ha i hu2,JaS ha l hu];exact⟨h0,hd⟩
   ·cases h
  ·cases h
 | call f as rs n =>
  simp only[I.wf,JrE,beq_iff_eq] at hw;obtain⟨hu,rfl⟩:=hw;simp only[Xk] at h;split at h
  ·rename_i ds hds;obtain⟨_,h1,h2⟩:=Xy _ _ _ _ _ h;refine⟨h1,fun ρ2 h3=>?_⟩;have ha:=h1.trans (h3.le (by omega));show B.call f (as.map (dat ρ2))=some ((Ju rs n).map (dat ρ2));rw[h2 ρ2 h3,Ja6 (f:=dat) (fun e he=>KG ha e he) hu];exact hds
  ·cases h
 | prim p as r n =>
  simp only[I.wf,JrE,beq_iff_eq] at hw;obtain⟨hu,rfl⟩:=hw;simp only[Xk] at h;split at h
  ·rename_i d hds;obtain⟨_,h1,h2⟩:=Xy _ _ _ _ _ h;refine⟨h1,fun ρ2 h3=>?_⟩;have ha:=h1.trans (h3.le (by omega));have h4:=h2 ρ2 h3;show ZC p (as.map (dat ρ2))=some (dat ρ2 (r.expr n));rw[Ja6 (f:=dat) (fun e he=>KG ha e he) hu,hds];have h5:[d]=[dat ρ2 (r.expr n)]:=by simpa[Ju] using h4.symm
   simp only[List.cons.injEq,and_true] at h5;rw[h5]
  ·cases h
 | callv e as ar rs n =>
  simp only[I.wf,JrE,beq_iff_eq] at hw;obtain⟨⟨hu,hu2⟩,rfl⟩:=hw;simp only[Xk] at h;split at h
  ·rename_i fn caps hd;split at h
   ·rename_i har;split at h
    ·rename_i ds hds;obtain⟨_,h1,h2⟩:=Xy _ _ _ _ _ h;refine⟨h1,fun ρ2 h3=>?_⟩;have ha:=h1.trans (h3.le (by omega));refine⟨fn,caps,by rw[KG ha e hu];exact hd,har,?_⟩;rw[h2 ρ2 h3,Ja6 (f:=dat) (fun e he=>KG ha e he) hu2];exact hds
    ·cases h
   ·cases h
  ·cases h
theorem Ja8 :∀(vs:List V) (c:Nat) (ρ:Env),Jp c ρ (Xr c vs ρ)∧JbC c vs (Xr c vs ρ)
 | [],c,ρ=>⟨Jp.rfl',fun j v h=>by simp at h⟩
 | v::vs,c,ρ=>by
  obtain⟨h1,h2⟩:=Ja8 vs (c+1) (upd ρ c v);refine⟨fun j hj=>?_,fun j u hj=>?_⟩
  ·show Xr (c+1) vs (upd ρ c v) j=ρ j;rw[h1 j (by omega),uO1 _ _ (by omega)]
  ·show Xr (c+1) vs (upd ρ c v) (c+j)=u;cases j with
   | zero =>
    simp at hj;subst hj;rw[h1 (c+0) (by omega)];exact uS1 _ _ _
   | succ j =>
    have:=h2 j u (by simpa using hj);rw[←this];congr 1;omega
theorem JlW :∀(r:R) (c:Nat) (st:List Nat) (ρ:Env) (o:Oc),Jx B N r ρ=some o→r.wf c st=true→o.conf st:=by
 intro r
 induction r with
 | i x r ih =>
  intro c st ρ o h hw;simp only[R.wf,JrE] at hw;simp only[Jx] at h;split at h
  ·exact ih _ st _ o h hw.2
  ·cases h
 | ite b x y ihx ihy =>
  intro c st ρ o h hw;simp only[R.wf,JrE] at hw;simp only[Jx] at h;split at h
  ·exact ihx c st ρ o h hw.1.2
  ·exact ihy c st ρ o h hw.2
 | nilq c' l x y ihx ihy =>
  intro c st ρ o h hw;simp only[R.wf,JrE] at hw;simp only[Jx] at h;split at h
  ·split at h
   ·exact ihy c st ρ o h hw.2
   ·cases h
  ·exact ihy c st ρ o h hw.2
 | loop c' init body ih =>
  intro c st ρ o h hw;simp only[R.wf,JrE] at hw;simp only[Jx] at h;have key :∀(n:Nat) (vs:List V),Ul (fun vs=>Jx B N body (Xr c' vs ρ)) n vs=some o→o.conf st:=by
   intro n
   induction n with
   | zero=>intro vs h;cases h
   | succ n ihn =>
    intro vs h;simp only[Ul] at h;split at h
    ·exact ihn _ h
    ·rename_i o' h1;simp only[JrD] at h;subst h;have:=ih _ (init.length::st) _ _ h1 hw.2;exact this
    ·cases h
  exact key N _ h
 | next vs =>
  intro c st ρ o h hw;simp only[Jx,JrD] at h;subst h;simp only[R.wf,JrE,beq_iff_eq] at hw;simpa[Oc.conf] using hw.2
 | done vs =>
  intro c st ρ o h hw;simp only[Jx,JrD] at h;subst h;trivial
 | esc r ih =>
  intro c st ρ o h hw;simp only[Jx] at h;split at h
  ·rename_i o' h1;simp only[JrD] at h;subst h;exact ih c st.tail ρ o' h1 hw
  ·cases h
theorem Jbh :∀(r:R) (c:Nat) (st:List Nat) (ρ:Env) (o:Oc),Jx B N r ρ=some o→r.wf c st=true→∃ ρ',Jp c ρ ρ'∧Run B N r ρ' o:=by
 intro r
 induction r with
 | i x r ih =>
  intro c st ρ o h hw;simp only[R.wf,JrE] at hw;simp only[Jx] at h;split at h
  ·rename_i ρ1 h1;obtain⟨h2,h3⟩:=Jnj h1 hw.1;obtain⟨ρ',h4,h5⟩:=ih _ st ρ1 o h hw.2;exact⟨ρ',h2.trans (h4.le (by omega)),h3 ρ' h4,h5⟩
  ·cases h
 | ite b x y ihx ihy =>
  intro c st ρ o h hw;simp only[R.wf,JrE] at hw;simp only[Jx] at h;split at h
  ·rename_i hb;obtain⟨ρ',h1,h2⟩:=ihx c st ρ o h hw.1.2;exact⟨ρ',h1,by simp only[Run,Jay h1 b hw.1.1,hb,if_true];exact h2⟩
  ·rename_i hb;obtain⟨ρ',h1,h2⟩:=ihy c st ρ o h hw.2;refine⟨ρ',h1,?_⟩;simp only[Run,Jay h1 b hw.1.1];rw[if_neg hb];exact h2
 | nilq c' l x y ihx ihy =>
  intro c st ρ o h hw;simp only[R.wf,JrE,beq_iff_eq] at hw;obtain⟨⟨⟨rfl,hu⟩,hwx⟩,hwy⟩:=hw;simp only[Jx] at h;refine⟨ρ,Jp.rfl',?_⟩;simp only[Run];split at h
  ·split at h
   ·rename_i he;exact⟨ihy _ st ρ o h hwy,fun _=>ihx _ st ρ o (by rw[he];exact h) hwx⟩
   ·cases h
  ·rename_i hl;exact⟨ihy _ st ρ o h hwy,fun e=>by rw[e] at hl;cases hl⟩
 | loop c' init body ih =>
  intro c st ρ o h hw;simp only[R.wf,JrE,beq_iff_eq] at hw;obtain⟨⟨rfl,hu⟩,hw⟩:=hw;simp only[Jx] at h;refine⟨ρ,Jp.rfl',?_⟩;simp only[Run];have key :∀(n:Nat) (vs:List V),vs.length=init.length→Ul (fun vs=>Jx B N body (Xr c' vs ρ)) n vs=some o→Jcc (fun vs o1=>∃ ρ',Jp c' ρ ρ'∧JbC c' vs ρ'∧Run B N body ρ' o1) n vs o:=by
   intro n
   induction n with
   | zero=>intro vs _ h;cases h
   | succ n ihn =>
    intro vs hlen h;simp only[Ul] at h;obtain⟨s1,s2⟩:=Ja8 vs c' ρ;have keep :∀ρ',Jp (c'+init.length) (Xr c' vs ρ) ρ'→Jp c' ρ ρ'∧JbC c' vs ρ':=fun ρ' ha =>
     ⟨s1.trans (ha.le (by omega)),fun j v hj=>by
      have hlt:j<vs.length:=(JrF.1 hj).1;rw[ha (c'+j) (by omega)];exact s2 j v hj⟩
    split at h
    ·rename_i vs' h1;obtain⟨ρ',h2,h3⟩:=ih _ _ _ _ h1 hw;obtain⟨h4,h5⟩:=keep ρ' h2;have hcf:=JlW _ _ _ _ _ h1 hw;simp only[Oc.conf,List.head?_cons,JrD] at hcf;exact .inl ⟨vs',⟨ρ',h4,h5,h3⟩,ihn vs' hcf.symm h⟩
    ·rename_i o' h1;simp only[JrD] at h;subst h;obtain⟨ρ',h2,h3⟩:=ih _ _ _ _ h1 hw;obtain⟨h4,h5⟩:=keep ρ' h2;exact .inr ⟨ρ',h4,h5,h3⟩
    ·cases h
  exact key N _ (by simp) h
 | next vs =>
  intro c st ρ o h hw;simp only[Jx,JrD] at h;subst h;exact⟨ρ,Jp.rfl',rfl⟩
 | done vs =>
  intro c st ρ o h hw;simp only[Jx,JrD] at h;subst h;exact⟨ρ,Jp.rfl',rfl⟩
 | esc r ih =>
  intro c st ρ o h hw;simp only[Jx] at h;split at h
  ·rename_i o' h1;simp only[JrD] at h;subst h;obtain⟨ρ',h2,h3⟩:=ih c _ ρ o' h1 hw;exact⟨ρ',h2,o',rfl,h3⟩
  ·cases h
end
end Go.Tm
end
section
open Go.RowKit
namespace Go.Tm
open Go.IntKind (i64)
def ZN (i:Nat):List SV→SSl
 | []=>[]
 | v::vs=>(i,v)::ZN (i+1) vs
theorem VU :∀(vs:List SV) (a t:Nat),(ZN a vs).lookup t=if a≤t then vs[t-a]? else none
 | [],a,t=>by simp[ZN]
 | v::vs,a,t=>by
  simp only[ZN,List.lookup_cons]
  by_cases h:t=a
  ·subst h;simp
  ·have hb:(t == a)=false:=by simpa using h
   rw[hb,VU vs (a+1) t]
   by_cases hlt:a≤t
   ·have e:t-a=(t-(a+1))+1:=by omega
    rw[if_pos (by omega),if_pos hlt,e,List.getElem?_cons_succ]
   ·rw[if_neg (by omega),if_neg hlt]
theorem Jkc (ρ:Env) (vs:List SV) (t:Nat):γs ρ (ZN 0 vs) t=(γXs ρ vs).getD t .u:=by
 unfold γs;rw[VU];simp only[Nat.zero_le,if_true,Nat.sub_zero,Jr,JrH,JrZ];cases vs[t]? <;> rfl
def JjS (sl:SSl) (t:Tmp):SV:=match sl.lookup t with
 | some v=>v
 | none=> .u
def Jbl (P:Program) (sl:SSl):List ResultVar→SMP (List SV)
 | []=> .ret []
 | .tmp t::rs=>(Jbl P sl rs).bind fun xs=> .ret (JjS sl t::xs)
 | .cell a t::rs=>(Jgl P t (JjS sl a)).bind fun x=>(Jbl P sl rs).bind fun xs=> .ret (x::xs)
def Je7:Nat:=999999
def ZH:List Sh→List E→Bool
 | [],[]=>true
 | .one _::ss,e::es=>e.isOne&&ZH ss es
 | .g _::ss,.g _::es=>ZH ss es
 | _,_=>false
def RSh.list:RSh→List Sh
 | .one s=>[s]
 | .tup ss=>ss
def RSh.many:RSh→Bool
 | .tup ss=>ss.length != 1
 | _=>true
def Jpl (P:Program) (fn:Func) (r:RSh) (H:Ye) (s:SSt) (n:Nat):Option R :=
 let s:=Yw H.own Je7 s
 match ((Jbl P s.sl fn.results.toList).bind fun xs=>JbM.spurs 40 xs).run s.m n with
 | some q=>if ZH r.list q.val&&r.many then match Jw r.list q.val with
   | some ls=>some (V1 q.is (.done ls))
   | none=>none
  else none
 | none=>none
def sxD (P:Program) (sg:FuncId→Option Sig) (s:JjM) (H:Ye) (fn:Func) (C:Code):Option R :=
 sxC P sg H C ⟨ZN 0 (svs s.pars 0),[]⟩ (s.pars.flatMap Sh.leaves).length fun o st n=>match o with
  | .exit _=>none
  | _=>Jpl P fn s.res H st n
noncomputable def Y7 (B:Tb) (N:Nat) (ins:List Sh1) (r:R) (ls:List D):Option (List D):=match Xh ins ls 0 (fun _=> .i 0) with
 | some ρ=>match Jx B N r ρ with
  | some (.done ds)=>some ds
  | _=>none
 | none=>none
section
variable {B:Tb} {ρ:Env} {sg:FuncId→Option Sig} {P:Program} {N:Nat}
theorem Jik (sl:SSl) (t:Tmp):γX ρ (JjS sl t)=γs ρ sl t:=by
 unfold JjS γs;cases sl.lookup t <;> rfl
theorem WG {st:St} {sl:SSl} (hst:st.sl=γs ρ sl) :∀rs:List ResultVar,(Jbl P sl rs).Ok B ρ (fXs ρ) (JfN P st rs)
 | []=>rfl
 | .tmp t::rs=>by
  simp only[Jbl,JfN];refine SMP.bind_ok (f:=fXs ρ) (fun xs=>?_) _ _ (WG hst rs);simp only[SMP.Ok,fXs,JrM,Jik,hst]
 | .cell a t::rs=>by
  simp only[Jbl,JfN,hst,←Jik];refine SMP.bind_ok (f:=γX ρ) (fun x=>?_) _ _ (JeI t _);refine SMP.bind_ok (f:=fXs ρ) (fun xs=>?_) _ _ (WG hst rs);rfl
theorem UI :∀(ss:List Sh) (ds ls:List D) (n:Nat),Jj ss ds=some ls→(Ju (ss.flatMap Sh.leaves) n).map (dat ρ)=ls→(∀a,Sh.one a∈ss→True)→γXs ρ (svs ss n)=ds.map X.ofD
 | [],[],ls,n,_,_,_=>rfl
 | [],_::_,ls,n,h,_,_=>by simp[Jj] at h
 | .one a::ss,[],ls,n,h,_,_=>by simp[Jj] at h
 | .one a::ss,d::ds,ls,n,h,he,hh=>by
  simp only[Jj] at h;cases hs:Jj ss ds with
  | none=>simp[hs] at h
  | some ls' =>
   simp only[hs,JrG,JrD] at h;subst h;have he:dat ρ (a.expr n)::(Ju (ss.flatMap Sh.leaves) (n+1)).map (dat ρ)=d::ls':=he;simp only[List.cons.injEq] at he;have ih:=UI ss ds ls' (n+1) hs he.2 (fun _ _=>trivial);have ho:=JL (YK a n) ρ;rw[he.1] at ho;show X.d (dat ρ (a.expr n))::γXs ρ (svs ss (n+1))=X.ofD d::ds.map X.ofD;rw[ih,he.1,Jf5 ho]
 | .g as::ss,ds,ls,n,h,he,hh=>by
  match ds,h with
  | .g cs::ds,h =>
   simp only[Jj] at h;split at h
   ·rename_i hlen;cases hs:Jj ss ds with
    | none=>simp[hs] at h
    | some ls' =>
     simp only[hs,JrG,JrD] at h;subst h;simp only[List.flatMap_cons,Sh.leaves,KT,List.map_append] at he;obtain⟨e1,e2⟩:=List.append_inj he (by simp[QB,hlen]);have ih:=UI ss ds ls' (n+as.length) hs e2 (fun _ _=>trivial);show X.g (γXs ρ ((Ju as n).map .d))::γXs ρ (svs ss (n+as.length))=_;rw[ih,Jr,VK,e1];rfl
   ·cases h
 | .q as::ss,ds,ls,n,h,_,_=>by cases ds <;> simp[Jj] at h
theorem WA :∀(ss:List Sh) (es ls:List E),Jw ss es=some ls→ZH ss es=true→QP ss (ls.map (dat ρ))=some (es.map (dat ρ))
 | [],[],ls,h,_=>by simp only[Jw,JrD] at h;subst h;rfl
 | [],_::_,ls,h,_=>by simp[Jw] at h
 | .one a::ss,[],ls,h,_=>by simp[Jw] at h
 | .one a::ss,e::es,ls,h,ho=>by
  simp only[ZH,JrE] at ho;simp only[Jw] at h;cases hs:Jw ss es with
  | none=>simp[hs] at h
  | some ls' =>
   simp only[hs,JrG,JrD] at h;subst h;simp only[JrM,QP,JL ho.1 ρ,if_true,WA ss es ls' hs ho.2,JrG]
 | .g as::ss,es,ls,h,ho=>by
  match es,h with
  | .g l::es,h =>
   simp only[ZH] at ho;simp only[Jw] at h;split at h
   ·rename_i cs hl;split at h
    ·rename_i hlen;cases hs:Jw ss es with
     | none=>simp[hs] at h
     | some ls' =>
      simp only[hs,JrG,JrD] at h;subst h;simp only[List.map_append,QP,JrM];rw[if_pos (by simp[hlen]),List.drop_left' (by simp[hlen]),List.take_left' (by simp[hlen]),WA ss es ls' hs ho];show some (D.g (cs.map (dat ρ))::es.map (dat ρ))=some (D.g (lst ρ l)::es.map (dat ρ));rw[XP ρ _ _ hl]
    ·cases h
   ·cases h
 | .q as::ss,es,ls,h,_=>by cases es <;> simp[Jw] at h
theorem VF :∀(ss:List Sh) (es:List E),ZH ss es=true→es.length=ss.length
 | [],[],_=>rfl
 | [],_::_,h=>by simp[ZH] at h
 | .one a::ss,[],h=>by simp[ZH] at h
 | .one a::ss,e::es,h=>by
  simp only[ZH,JrE] at h;simp[VF ss es h.2]
 | .g as::ss,[],h=>by simp[ZH] at h
 | .g as::ss,e::es,h=>by
  cases e with
  | g l=>simp only[ZH] at h;simp[VF ss es h]
  | _=>simp[ZH] at h
 | .q as::ss,es,h=>by cases es <;> simp[ZH] at h
theorem Jbo {fn:Func} {tmps:Array Value} {w:World} {vs:List Value} (h:(fn.results.toList.mapM (Jnd tmps)).run P w = .ok vs w):(results fn tmps).run P w = .ok (JdT vs) w:=by
 have hres:results fn tmps=(fn.results.mapM (Jnd tmps) >>= fun vs=>pure (if h:vs.size=1 then vs[0] else .tuple vs)):=by
  unfold results
  congr 2
 rw[hres,Sem.run_bind,Array.mapM_eq_mapM_toList,Sem.run_map,h]
 match vs with
 | []=>rfl
 | [v]=>rfl
 | u::v::l=>simp[JdT]
def fnOf (P:Program) (f:FuncId):Option (Func×Code):=match P.funcs[f]? with
 | some fn=>match fn.body with
  | some C => if fn.name != "runtime.NumGoroutine" && codeOk fn.ntmps C then some (fn, C) else none
  | none=>none
 | none=>none
theorem fnOf_ok {f : FuncId} {fn : Func} {C : Code} (h : fnOf P f = some (fn, C)) : P.funcs[f]? = some fn ∧ fn.body = some C ∧ fn.name ≠ "runtime.NumGoroutine" ∧ codeOk fn.ntmps C = true := by
 unfold fnOf at h;split at h
 ·rename_i fn' hf;split at h
  ·rename_i C' hb;split at h
   ·rename_i hc;simp only[JrD,JrV] at h;obtain⟨rfl,rfl⟩:=h;simp only[JrE,bne_iff_ne,ne_eq] at hc;exact⟨hf,hb,hc.1,hc.2⟩
   ·cases h
  ·cases h
 ·cases h
theorem Jap {f:FuncId} {fn:Func} {C:Code} (h:fnOf P f=some (fn,C)) (args:Array Value) (w:World):(callFunc f args).run P w = .ok (.enter f args) w:=by
 obtain⟨hf,hb,hn,_⟩:=fnOf_ok h;unfold callFunc;simp[hf,hb,hn]
theorem JoI {fn:Func} {r:RSh} {H:Ye} {s:SSt} {n:Nat} {R:R} {o:Oc} {c:Cx P} {g:Gh} {a:Act} {w:World} {g0:Gh} {m0:Mem} {w0:World} (h:Jpl P fn r H s n=some R) (hr:Run B N R ρ o)
  (hS:Sim c g (γm ρ s.m) w) (hH:Jm c g (γm ρ s.m) w (γs ρ s.sl) a) (hC:Jb c g0 m0 w0 g (γm ρ s.m) w) :
  ∃ ds d v fp,o = .done ds∧Yx r ds=some d∧(results fn a.tmps).run P w = .ok v w∧Rd w d v fp∧Jqe c fp:=by
 unfold Jpl at h;obtain⟨g',hS,hH,_⟩:=Zh Je7 H.own s g hS hH hC;simp only at h;generalize Yw H.own Je7 s=s1 at *;split at h
 ·rename_i q hq;split at h
  ·rename_i hok;simp only[JrE] at hok;split at h
   ·rename_i ls hls;simp only[JrD] at h;subst h;obtain⟨his,hd⟩:=Kp _ _ _ hr;simp only[Run] at hd;subst hd;have hbind:((Jbl P s1.sl fn.results.toList).bind fun xs=>JbM.spurs 40 xs).Ok B ρ (fEs ρ) ((JfN P ⟨γs ρ s1.sl,γm ρ s1.m⟩ fn.results.toList).bind fun xs=>pur.purs 40 xs) :=
     SMP.bind_ok (f:=fXs ρ) (fun xs=>Zq 40 xs) _ _ (WG rfl _)
    have hrun:=SMP.run_ok _ _ _ _ _ hbind hq his;rw[MP.runT_eq] at hrun;cases hr2:((JfN P ⟨γs ρ s1.sl,γm ρ s1.m⟩ fn.results.toList).bind fun xs=>pur.purs 40 xs).run (γm ρ s1.m) with
    | none=>rw[hr2] at hrun;cases hrun
    | some p =>
     obtain⟨ds,m2⟩:=p;rw[hr2] at hrun;simp only[JrG,JrD,JrV] at hrun;obtain⟨xs,m1,h1,h2⟩:=MP.bind_some hr2;obtain⟨e1,vs,h3,h4⟩:=K8 (st:=⟨γs ρ s1.sl,γm ρ s1.m⟩) (P:=P) hS hH _ xs m1 h1;subst e1;obtain⟨_,fp,h5,h6⟩:=Xj 40 _ _ _ _ _ hS h4 h2;rw[hrun.1] at h5;have hres:=Jbo h3;have hvl:=JcG _ _ _ h5;cases r with
     | one sh =>
      have hlen:q.val.length=1:=VF _ _ hok.1
      match hqv:q.val,hlen with
      | [e],_ =>
       rw[hqv] at h5 hls hok hvl
       match vs,hvl with
       | [v],_ =>
        obtain⟨v',vs',f1,f2,ev,ef,hrd,h7⟩:=h5;simp only[List.cons.injEq] at ev;obtain⟨rfl,rfl⟩:=ev;refine⟨_,dat ρ e,v,f1,rfl,?_,hres,hrd,fun b hb=>h6 b (by rw[ef];simp[hb])⟩;cases sh with
        | one a =>
         simp only[RSh.list,Jw,JrG,JrD] at hls;subst hls;simp only[RSh.list,ZH,Bool.and_true,JrE] at hok;simp only[JrM,List.map_nil,Yx,JL hok.1 ρ,if_true]
        | g as =>
         cases e with
         | g l =>
          simp only[RSh.list,Jw] at hls;split at hls
          ·rename_i cs hcs;split at hls
           ·rename_i hlen2;simp only[JrG,JrD,List.append_nil] at hls;subst hls;show (if(cs.map (dat ρ)).length=as.length then some (D.g (cs.map (dat ρ))) else none)=some (D.g (lst ρ l));rw[if_pos (by simpa using hlen2),XP ρ _ _ hcs]
           ·cases hls
          ·cases hls
         | _=>simp[RSh.list,Jw] at hls
        | q as=>simp[RSh.list,Jw] at hls
     | tup ss =>
      have hsp:=WA ss q.val ls hls hok.1 (ρ:=ρ);have hne:ss.length≠1:=by simpa[RSh.many] using hok.2
      have hql:q.val.length=ss.length:=VF _ _ hok.1;refine⟨_,.t (q.val.map (dat ρ)),.tuple vs.toArray,fp,rfl,by simp only[Yx,hsp,JrG],?_,⟨vs,rfl,h5⟩,h6⟩;rw[hres]
      match vs,hvl with
      | [],_=>rfl
      | [v],hvl=>simp[fEs] at hvl;omega
      | u::v::l,_=>rfl
   ·cases h
  ·cases h
 ·cases h
theorem JpI (hB:BOk sg B) {Φ:Fix P} (hT:JeR P Φ (QJ sg B)) (hm:P.follows .mixedOrders=true) {s:JjM} {H:Ye} (hnl:H.nl=0) {f:FuncId} {fn:Func} {C:Code} (hf:fnOf P f=some (fn,C)) {R:R} (hR:sxD P sg s H fn C=some R)
  (hw:R.wf (s.pars.flatMap Sh.leaves).length []=true):FnOk P Φ f (dspec s (Y7 B N (s.pars.flatMap Sh.leaves) R)):=by
 obtain⟨hf1,hb,_,hk⟩:=fnOf_ok hf;refine⟨fun args w=>Jap hf args w,fun w ds vals fps r hΦ hr hFr=>?_⟩;refine calls_of_wp hf1 hb ?_;unfold dspec at hFr;cases hfl:Jj s.pars ds with
 | none=>rw[hfl] at hFr;cases hFr
 | some ls =>
  rw[hfl,JrS] at hFr;cases hev:Y7 B N (s.pars.flatMap Sh.leaves) R ls with
  | none=>rw[hev] at hFr;cases hFr
  | some os =>
   rw[hev,JrS] at hFr;unfold Y7 at hev;split at hev
   ·rename_i ρ1 hbind;split at hev
    ·rename_i ds' heval;simp only[JrD] at hev;subst hev;obtain⟨hl1,_,hl3⟩:=Xy _ _ _ _ _ hbind;obtain⟨ρ,hag,hrun⟩:=Jbh _ _ _ _ _ heval hw;have hexp:=hl3 ρ (by simpa using hag);have hsv:=UI s.pars ds ls 0 hfl hexp (fun _ _=>trivial)
     let c:Cx P:={ w0:=w,A:=fps,par:=[],parA:=fun _ h=>by simp at h }
     let g:Gh:=⟨fun _=>none,fun _=>undef,fun _=>[],fun _=>none⟩
     have hmem:γm ρ []=fun _=>none:=rfl;have hMut :∀b,¬Mut g (fun _=>none) b:=fun b ⟨k,o,hk,_⟩=>by cases hk
     have hS:Sim c g (fun _=>none) w:=⟨⟨rfl,rfl,rfl,Nat.le_refl _,fun _ _ _=>rfl⟩,fun k cs hk=>(by cases hk),fun k ty sz es dp rw hk=>(by cases hk),fun k ty sz es hk=>(by cases hk),fun k o b hk=>(by cases hk),fun b k hb=>(by cases hb)⟩;have hlen:=JcG ds vals fps hr;have hH:Jm c g (fun _=>none) w (γs ρ (ZN 0 (svs s.pars 0))) { tmps:=vals.toArray++Array.replicate (fn.ntmps-vals.toArray.size) undef,defers:=[] }:=by
      intro t;rw[Jkc,hsv];cases hd:ds[t]? with
      | none =>
       have:(ds.map X.ofD).getD t .u = .u:=by simp[hd]
       rw[this];trivial
      | some d =>
       obtain⟨v,f,h1,h2,h3⟩:=Jhl ds vals fps t d hr hd;have e1:(ds.map X.ofD).getD t .u=X.ofD d:=by simp[hd]
       have hlt:t<vals.length:=(JrF.1 h1).1;have e2:(vals.toArray++Array.replicate (fn.ntmps-vals.toArray.size) undef).getD t undef=v:=by
        rw[Array.getD_eq_getD_getElem?,Array.getElem?_append_left (by simpa using hlt)];simp[h1]
       rw[e1,e2];exact Jms d v f h2 fun b hb=>⟨hMut b,.inl (h3 b hb)⟩
     unfold sxD at hR;refine Jn7 (N:=N) hB ⟨Φ,⟨hΦ,fun _ _ hb=>by simp[c] at hb⟩,hT⟩ hm H (c:=c) (g0:=g) (m0:=fun _=>none) (w0:=w) (fun k hk=>absurd rfl hk) C ⟨ZN 0 (svs s.pars 0),[]⟩ _ _ R ρ _ _ w g _ hR hrun hS hH (.refl _ _ _ _) (JbB (by simp;omega) C hk)
      fun ex s' n' R' ρ' a' w' g' _ _ hk' hr' hS' hH' hC' hd' _=>?_
     have fin:Jpl P fn s.res H s' n'=some R'→a'.defers=[]∧∃ v,(results fn a'.tmps).run P w' = .ok v w'∧∃ val fp,Ending.returned v = .returned val∧Rd w' r val fp∧(∀b∈fp,b∈fps∨w.heap.size≤b)∧Below w.heap.size w w':=by
      intro hfin;obtain⟨ds2,d,v,fp,h1,h2,h3,h4,h5⟩:=JoI hfin hr' hS' hH' hC';simp only[Oc.done.injEq] at h1;subst h1;rw[h2] at hFr;simp only[JrD] at hFr;subst hFr;exact⟨hd',v,h3,v,fp,rfl,h4,h5,hS'.frame.os,hS'.frame.tape,hS'.frame.output,hS'.frame.size,fun k hk=>hS'.frame.block k hk (by simp[c])⟩
     cases ex with
     | norm=>exact fin hk'
     | ret=>exact fin hk'
     | exit id=>cases hk'
    ·cases hev
   ·cases hev
end
end Go.Tm
end
section
open Go.RowKit
namespace Go.Tm
open Go.IntKind (i64)
def JgZ:List SV→SV
 | [x]=>x
 | xs=> .t xs
def JoC:List Sh1→List E→List E
 | a::as,x::xs=>(match a with | .i k=>E.vi k x | .b=> .vb x | .d=>x | .s=> .s x)::JoC as xs
 | _,_=>[]
def Jen:List Sh1→List E→Bool
 | [],[]=>true
 | a::as,x::xs=>(match a with | .d=>Wh x | _=>true)&&Jen as xs
 | _,_=>false
mutual
def prsV:SV→SV→List (Key×Key)
 | .o i _,.o k _=>[(i,k)]
 | .p i _,.p k _=>[(i,k)]
 | .g ps,.g vs=>JkE ps vs
 | .t ps,.t vs=>JkE ps vs
 | _,_=>[]
def JkE:List SV→List SV→List (Key×Key)
 | p::ps,v::vs=>prsV p v++JkE ps vs
 | _,_=>[]
end
def prsO:Option Je→Option Je→List (Key×Key)
 | some (.box ps),some (.box vs)=>JkE ps vs
 | _,_=>[]
def Jka (nl:Nat) (res:SV) (robjs:List Je) (sv:SV) (m:XE):List Key :=
 let a:=prsV res sv
 let b:=a++(List.range robjs.length).flatMap fun i=>prsO robjs[i]? (match Nat.blt i nl with | true=>m.lookup i | false=>match a.lookup i with | some k=>m.lookup k | none=>none)
 (List.range' nl (robjs.length-nl)).filterMap fun i=>b.lookup i
def JpY (P:Program) (fn:Func) (s:Ql) (H:Ye) (st:SSt) (n:Nat):Option R :=
 let st:=Yw H.own Je7 st
 match (Jbl P st.sl fn.results.toList).run st.m n with
 | some q =>
  let sv:=JgZ q.val
  let nl:=s.objs.length
  let L:=List.range nl++XJ [] ((Jka nl s.res s.robjs sv q.m).filter fun k=>nl≤k)
  let back:=fun i=>L.getD i 0
  let t:SSt:=⟨[(0,s.res.ren back)],L.zip (s.robjs.map (Je.ren back))⟩
  if L.length=s.robjs.length∧(s.res.names++s.robjs.flatMap Je.names).all (fun k=>Nat.blt k L.length)=true then
   match Jb3 0 s.outs.length t (SSt.like nl t ⟨[(0,sv)],q.m⟩) nl with
   | some vs=>if Jen s.outs vs then some (V1 q.is (.done (JoC s.outs vs))) else none
   | none=>none
  else none
 | none=>none
def sxX (P:Program) (sg:FuncId→Option Sig) (s:Ql) (H:Ye) (fn:Func) (C:Code):Option R :=
 sxC P sg H C ⟨ZN 0 s.args,Ze 0 s.objs⟩ s.ins.length fun o st n=>match o with
  | .exit _=>none
  | _=>JpY P fn s H st n
def E.isVc:E→Bool
 | .vc _=>true
 | _=>false
theorem Jn9 {e:E} (h:e.isVc=true) (ρ ρ':Env):dat ρ e=dat ρ' e:=by
 cases e <;> first | rfl | cases h
def Ql.okIn (s:Ql):Bool :=
 let es:=Ju s.ins 0
 (JdY s.args++s.objs.flatMap Je.lv2).all fun e=>e.isVc||es.any fun x=>x.same e
section
variable {B:Tb} {ρ:Env} {sg:FuncId→Option Sig} {P:Program} {N:Nat}
theorem Jj2 {ρ ρ2:Env} :∀(as:List Sh1) (vs:List E) (n:Nat),Jen as vs=true→(∀j x,vs[j]? = some x→ρ2 (n+j)=den ρ x)→(JoC as vs).map (dat ρ)=(Ju as n).map (dat ρ2)
 | [],[],n,_,_=>rfl
 | [],_::_,n,h,_=>by simp[Jen] at h
 | _::_,[],n,h,_=>by simp[Jen] at h
 | a::as,x::xs,n,h,hv=>by
  simp only[Jen,JrE] at h;simp only[JoC,Ju,JrM];rw[Jj2 as xs (n+1) h.2 (fun j y hj=>by rw[←hv (j+1) y (by simpa using hj)];congr 1;omega)]
  congr 1
  have h0:ρ2 n=den ρ x:=hv 0 x rfl;cases a with
  | i k=>show D.v (.int k (den ρ x).int)=D.v (.int k (ρ2 n).int);rw[h0]
  | b=>show D.v (.bool (den ρ x).bool)=D.v (.bool (ρ2 n).bool);rw[h0]
  | s=>show D.s (den ρ x).lst=D.s (ρ2 n).lst;rw[h0]
  | d =>
   show dat ρ x=QY (ρ2 n).dat;rw[h0];show dat ρ x=QY (dat ρ x);have hn:=h.1;simp only at hn;have h1:x.isOne=true:=by
    unfold Wh at hn;split at hn
    ·cases hn
    ·exact hn
   rw[Uc (JL h1 ρ),JaA hn]
mutual
theorem Jhr {L:List Key} (hnd:L.Nodup) :∀v:SV,(∀k∈v.names,k<L.length)→(v.ren fun i=>L.getD i 0).ren (at? L)=v
 | .o k l,h=>by
  have hk:=h k (by simp[SV.names]);simp only[SV.ren]
  congr 1
  simp only[JrH,JrP hk,Option.getD_some];exact hnd.idxOf_getElem k hk
 | .p k off,h=>by
  have hk:=h k (by simp[SV.names]);simp only[SV.ren]
  congr 1
  simp only[JrH,JrP hk,Option.getD_some];exact hnd.idxOf_getElem k hk
 | .e k l i off,h=>by
  have hk:=h k (by simp[SV.names]);simp only[SV.ren]
  congr 1
  simp only[JrH,JrP hk,Option.getD_some];exact hnd.idxOf_getElem k hk
 | .g cs,h=>by simp only[SV.ren];rw[KS hnd cs (fun k hk=>h k (by simpa[SV.names] using hk))]
 | .t cs,h=>by simp only[SV.ren];rw[KS hnd cs (fun k hk=>h k (by simpa[SV.names] using hk))]
 | .f fn cs,h=>by simp only[SV.ren];rw[KS hnd cs (fun k hk=>h k (by simpa[SV.names] using hk))]
 | .d e,h=>rfl
 | .u,h=>rfl
theorem KS {L:List Key} (hnd:L.Nodup) :∀cs:List SV,(∀k∈XF cs,k<L.length)→JaG (at? L) (JaG (fun i=>L.getD i 0) cs)=cs
 | [],_=>rfl
 | c::cs,h=>by
  simp only[JaG];rw[Jhr hnd c (fun k hk=>h k (by simp[XF,hk])),KS hnd cs (fun k hk=>h k (by simp[XF,hk]))]
end
theorem Jl4 {L:List Key} (hnd:L.Nodup) (o:Je) (h :∀k∈o.names,k<L.length):(o.ren fun i=>L.getD i 0).ren (at? L)=o:=by
 cases o with
 | box cs=>simp only[Je.ren];rw[KS hnd cs h]
 | _=>rfl
mutual
theorem Jez (r:Key→Key) :∀v:SV,(v.ren r).names=v.names.map r
 | .o _ _=>rfl
 | .p _ _=>rfl
 | .e _ _ _ _=>rfl
 | .g cs=>by simp only[SV.ren,SV.names,Zu r cs]
 | .t cs=>by simp only[SV.ren,SV.names,Zu r cs]
 | .f _ cs=>by simp only[SV.ren,SV.names,Zu r cs]
 | .d _=>rfl
 | .u=>rfl
theorem Zu (r:Key→Key) :∀cs:List SV,XF (JaG r cs)=(XF cs).map r
 | []=>rfl
 | c::cs=>by simp only[JaG,XF,List.map_append,Jez r c,Zu r cs]
end
theorem JiM (r:Key→Key) (o:Je):(o.ren r).names=o.names.map r:=by
 cases o with
 | box cs=>exact Zu r cs
 | _=>rfl
theorem JpU {c:Cx P} {g:Gh} {w:World} {mt:Mem} {L:List Key} {os:List Obj} (hS:Sim c g mt w) (hos:L.mapM mt=some os) (hnd:L.Nodup) (hclo :∀k∈os.flatMap Obj.names,k∈L) :
  Sim c (g.lent L) (Qz (Jq 0 (os.map (Obj.ren (at? L))))) w ∧
   (∀b,Mut (g.lent L) (Qz (Jq 0 (os.map (Obj.ren (at? L))))) b→Mut g mt b) ∧
   (∀k∈L,Qz (Jq 0 (os.map (Obj.ren (at? L)))) (at? L k)=(mt k).map (Obj.ren (at? L))∧(g.lent L).bl (at? L k)=g.bl k∧(g.lent L).hd (at? L k)=g.hd k) ∧
   ∀x v,(∀k∈x.names,k∈L)→VX c g mt w x v→VX c (g.lent L) (Qz (Jq 0 (os.map (Obj.ren (at? L))))) w (x.ren (at? L)) v:=by
 obtain⟨hlen,hget⟩:=Uw L os hos;have hm :∀i,Qz (Jq 0 (os.map (Obj.ren (at? L)))) i=(L[i]?).bind fun k=>(mt k).map (Obj.ren (at? L)):=by
  intro i;simp only[Qz,QZ,Nat.zero_le,if_true,Nat.sub_zero,JrZ];cases hi:L[i]? with
  | none =>
   have:os[i]? = none:=by
    rw[List.getElem?_eq_none_iff] at hi ⊢;omega
   rw[this];rfl
  | some k =>
   rw[JrS,(hget i k hi).1]
 generalize Qz (Jq 0 (os.map (Obj.ren (at? L))))=mL at *;have hat :∀k∈L,mL (at? L k)=(mt k).map (Obj.ren (at? L))∧(g.lent L).bl (at? L k)=g.bl k∧(g.lent L).hd (at? L k)=g.hd k∧(g.lent L).fd (at? L k)=g.fd k:=by
  intro k hk;have:=ZT hk;simp only[hm,at?,Gh.lent,this,JrS,JrG,Option.getD_some,and_self]
 have hMut :∀b,Mut (g.lent L) mL b→Mut g mt b:=by
  rintro b ⟨i,o,hi,hrw,hb⟩;rw[hm] at hi;cases hL:L[i]? with
  | none=>simp[hL] at hi
  | some k =>
   simp only[hL,JrS] at hi;have e1:(g.lent L).bl i=g.bl k:=by simp only[Gh.lent,hL,JrS]
   have e2:(g.lent L).fd i=g.fd k:=by simp only[Gh.lent,hL,JrG,Option.getD_some]
   cases hmk:mt k with
   | none=>simp[hmk] at hi
   | some o0 =>
    simp only[hmk,JrG,JrD] at hi;exact⟨k,o0,hmk,by rw[←Jbb (ρ:=at? L) o0,hi];exact hrw,U2 hb e1 e2 (by rw[←hi,Vs])⟩
 have hF :∀fp,(∀b∈fp,b<w.heap.size)→JP c g mt fp→JP c (g.lent L) mL fp:=fun fp _ hf b hb =>
  ⟨fun h=>(hf b hb).1 (hMut b h),(hf b hb).2⟩
 have hPart:JmE c g mt w c (g.lent L) mL (at? L) (fun i=>L.getD i 0) (fun k=>k∈L):=by
  refine⟨fun i o hi=>?_,hat,fun k o hk hmk j hj=>hclo j ?_⟩
  ·rw[hm] at hi;cases hL:L[i]? with
   | none=>simp[hL] at hi
   | some k =>
    obtain⟨hlt,e⟩:=JrF.1 hL;have:L.getD i 0=k:=by simp[hL]
    simp only[this];subst e;exact⟨List.getElem_mem hlt,hnd.idxOf_getElem i hlt⟩
  ·have:=ZT hk;obtain⟨h1,h2⟩:=hget _ k this;rw[hmk] at h1;exact List.mem_flatMap.2 ⟨o,JrL h1.symm,hj⟩
 refine⟨hPart.sim hS hS.frame hF (fun k b hk how=>?_) (fun b i hb=>?_),hMut,fun k hk=>⟨(hat k hk).1,(hat k hk).2.1,(hat k hk).2.2.1⟩,
  fun x v hx hv=>JdF (K:=fun k=>k∈L) (fun k hk=>⟨(hat k hk).1,(hat k hk).2.1,(hat k hk).2.2.1⟩) hF x v hx hv⟩
 ·simp only[Gh.lent,how,JrS,hk,if_true];rfl
 ·simp only[Gh.lent] at hb;cases how:g.ow b with
  | none=>simp[how] at hb
  | some k =>
   simp only[how,JrS] at hb;split at hb
   ·exact hS.live b k how
   ·cases hb
theorem JcL {α:Type} :∀(L:List Nat) (os:List α) (i:Nat) (k:Nat),L.Nodup→L.length=os.length→L[i]? = some k→(L.zip os).lookup k=os[i]?
 | [],os,i,k,_,_,h=>by simp at h
 | j::L,[],i,k,_,hl,h=>by simp at hl
 | j::L,o::os,0,k,hn,hl,h=>by simp at h;subst h;simp
 | j::L,o::os,i+1,k,hn,hl,h=>by
  simp only[List.nodup_cons] at hn;have hk:L[i]? = some k:=by simpa using h
  have hne:k≠j:=fun e=>by subst e;exact hn.1 (JrL hk)
  have hb:(k == j)=false:=by simpa using hne
  simp only[List.zip_cons_cons,List.lookup_cons,hb];rw[JcL L os i k hn.2 (by simpa using hl) hk];simp
theorem Jkg {α:Type} {f:Key→Option α} :∀(L:List Key) (os:List α),L.length=os.length→(∀(i:Nat) (k:Key),L[i]? = some k→f k=os[i]?)→L.mapM f=some os
 | [],[],_,_=>rfl
 | [],_::_,h,_=>by simp at h
 | _::_,[],h,_=>by simp at h
 | k::L,o::os,h,hf=>by
  rw[List.mapM_cons,hf 0 k rfl,Jkg L os (by simpa using h) (fun i j hj=>by rw[hf (i+1) j (by simpa using hj)];simp)];rfl
theorem JmN (hB:BOk sg B) {Φ:Fix P} (hT:JeR P Φ (QJ sg B)) (hm:P.follows .mixedOrders=true) {s:Ql} (hs:s.ok=true) (hsi:s.okIn=true) {H:Ye} (hnl:H.nl=s.objs.length) {f:FuncId} {fn:Func} {C:Code} (hf:fnOf P f=some (fn,C))
  {R:R} (hR:sxX P sg s H fn C=some R) (hw:R.wf s.ins.length []=true):FnX P Φ f (Q1 s (Y7 B N s.ins R)):=by
 obtain⟨hf1,hb,_,hk⟩:=fnOf_ok hf;refine⟨fun args w=>Jap hf args w,fun c g os m w xs vals x m1 hΦ hmem hw0 hS hv hspec=>?_⟩;refine calls_of_wp hf1 hb ?_;have hrel:=Ku hspec;obtain⟨ρ1,ρ0,hx,ho,hF,_⟩:=id hrel;cases hev:Y7 B N s.ins R ((Ju s.ins 0).map (dat ρ1)) with
 | none=>rw[hev] at hF;cases hF
 | some outs =>
  unfold Y7 at hev;split at hev
  ·rename_i ρa hbind;split at hev
   ·rename_i ds' heval;simp only[JrD] at hev;subst hev;obtain⟨_,_,hl3⟩:=Xy _ _ _ _ _ hbind;obtain⟨ρ,hag,hrun⟩:=Jbh _ _ _ _ _ heval hw;have hexp:=hl3 ρ (by simpa using hag);have hleaf :∀e∈JdY s.args++s.objs.flatMap Je.lv2,dat ρ e=dat ρ1 e:=by
     intro e he;rcases Bool.or_eq_true_iff.1 (JrR.1 hsi e he) with hv | ha
     ·exact Jn9 hv _ _
     ·obtain⟨y,hy,hye⟩:=JdP ha;rw[←hye,←hye];exact List.map_inj_left.1 hexp y hy
    have hxs:γXs ρ s.args=xs:=by rw[hx];exact Vt _ fun e he=>hleaf e (by simp[he])
    have hos:s.objs.map (γO ρ)=os:=by
     rw[ho];exact Jr0 fun o hom=>Jku o fun e he=>hleaf e (List.mem_append_right _ (List.mem_flatMap.2 ⟨o,hom,he⟩))
    have hm0:γm ρ (Ze 0 s.objs)=m:=by rw[Jb0,hos,hmem]
    have hl :∀k,m k≠none→k<H.nl:=by
     intro k hk';rw[hmem] at hk';unfold Qz at hk';rw[QZ] at hk';simp only[Nat.zero_le,if_true,Nat.sub_zero] at hk';have:=(JrF.1 (Option.ne_none_iff_exists'.1 hk').choose_spec).1;rw[←hos,JrN] at this;rw[hnl];exact this
    have hH:Jm c g m w (γs ρ (ZN 0 s.args)) { tmps:=vals.toArray++Array.replicate (fn.ntmps-vals.toArray.size) undef,defers:=[] }:=by
     intro t;rw[Jkc,hxs];cases hd:xs[t]? with
     | none =>
      have:xs.getD t .u = .u:=by simp[hd]
      rw[this];trivial
     | some y =>
      obtain⟨v,h1,h2⟩:=Jmx xs vals t y hv hd;have e1:xs.getD t .u=y:=by simp[hd]
      have hlt:t<vals.length:=(JrF.1 h1).1;have e2:(vals.toArray++Array.replicate (fn.ntmps-vals.toArray.size) undef).getD t undef=v:=by
       rw[Array.getD_eq_getD_getElem?,Array.getElem?_append_left (by simpa using hlt)];simp[h1]
      rw[e1,e2];exact h2
    unfold sxX at hR;rw[←hm0] at hS hH;refine Jn7 (N:=N) hB ⟨Φ,hΦ,hT⟩ hm H (c:=c) (g0:=g) (m0:=m) (w0:=w) hl C ⟨ZN 0 s.args,Ze 0 s.objs⟩ _ _ R ρ _ _ w g _ hR hrun hS hH (by rw[hm0];exact .refl _ _ _ _) (JbB (by simp;omega) C hk)
     fun ex s' n' R' ρ' a' w' g' _ _ hk' hr' hS' hH' hC' hd' _=>?_
    have fin:JpY P fn s H s' n'=some R'→a'.defers=[]∧∃ v,(results fn a'.tmps).run P w' = .ok v w'∧∃ v' g',Ending.returned v = .returned v'∧Sim c g' m1 w'∧Jb c g m w g' m1 w'∧VX c g' m1 w' x v':=by
     intro h;unfold JpY at h;obtain⟨g2,hS2,hH2,hC2⟩:=Zh Je7 H.own s' g' hS' hH' hC';simp only at h;generalize Yw H.own Je7 s'=s1 at *;split at h
     ·rename_i q hq;split at h
      ·rename_i hcond;obtain⟨hLl,hnm⟩:=hcond;split at h
       ·rename_i vs hvs;split at h
        ·rename_i hout;simp only[JrD] at h;subst h;obtain⟨his,hd⟩:=Kp _ _ _ hr';simp only[Run,Oc.done.injEq] at hd;have hrunX:=SMP.run_ok _ _ _ _ _ (WG (B:=B) (P:=P) (st:=⟨γs ρ' s1.sl,γm ρ' s1.m⟩) rfl fn.results.toList) hq his;rw[MP.runT_eq] at hrunX;cases hr2:(JfN P ⟨γs ρ' s1.sl,γm ρ' s1.m⟩ fn.results.toList).run (γm ρ' s1.m) with
         | none=>rw[hr2] at hrunX;cases hrunX
         | some p =>
          obtain⟨ys,m2⟩:=p;rw[hr2] at hrunX;simp only[JrG,JrD,JrV] at hrunX;obtain⟨e1,vl,h3,h4⟩:=K8 (st:=⟨γs ρ' s1.sl,γm ρ' s1.m⟩) (P:=P) hS2 hH2 _ ys m2 hr2;have e1:m2=γm ρ' s1.m:=e1;have hqm:γm ρ' q.m=γm ρ' s1.m:=by rw[←hrunX.2.1,e1]
          have h4:VXs c g2 (γm ρ' s1.m) w' ys vl:=h4;have hvx:VX c g2 (γm ρ' s1.m) w' (γX ρ' (JgZ q.val)) (JdT vl):=by
           have hys:ys=q.val.map (γX ρ'):=hrunX.1;rw[hys] at h4;have hl:=Qr _ _ h4
           match hqv:q.val,vl,hl,h4 with
           | [],[],_,h4=>exact⟨[],rfl,h4⟩
           | [z],[v],_,⟨v',vs',e,h6,_⟩=>cases e;exact h6
           | z::y::l,u::v::l',_,h5=>exact⟨_,rfl,by rw[Jr];exact h5⟩
          have hres:=Jbo h3;generalize hL:List.range s.objs.length++XJ [] ((Jka s.objs.length s.res s.robjs (JgZ q.val) q.m).filter fun k=>s.objs.length≤k)=L at *;have hnd:L.Nodup:=by
           rw[←hL];refine List.nodup_append.2 ⟨List.nodup_range,ZL _ _ List.nodup_nil,fun a ha b hb=>?_⟩;rw[List.mem_range] at ha;rcases (Jag _ _ _).1 hb with h | h
           ·simp at h
           ·have:=(List.mem_filter.1 h).2;simp at this;omega
          have hlt :∀k,k<s.objs.length→L[k]? = some k:=by
           intro k hk;rw[←hL,Jr5 (by simpa using hk)];simp[hk]
          let act:Act:={ tmps:=#[JdT vl],defers:=[] }
          have hact:Jm c g2 (γm ρ' q.m) w' (γs ρ' [(0,JgZ q.val)]) act:=by
           intro t;cases t with
           | zero=>rw[hqm];exact hvx
           | succ t=>trivial
          let ρ2:Env:=Xr 0 (vs.map (den ρ')) fun _=> .i 0
          obtain⟨_,hset⟩:=Ja8 (vs.map (den ρ')) 0 (fun _=>V.i 0);obtain⟨g3,hS3,hH3,hC3⟩:=JfW (nl:=s.objs.length) (by rw[←hnl];exact hl) ⟨[(0,s.res.ren fun i=>L.getD i 0)],L.zip (s.robjs.map (Je.ren fun i=>L.getD i 0))⟩ (s:=⟨[(0,JgZ q.val)],q.m⟩) (by rw[hqm];exact hS2) hact (by rw[hqm];exact hC2);obtain⟨q1,q2,q3⟩:=Wy (ρ':=ρ2) hvs (fun j hj=>absurd hj (by omega)) hset (by rw[←hnl];exact hl) hS3 hH3 hC3;have hv2:VX c g3 (γm ρ2 (L.zip (s.robjs.map (Je.ren fun i=>L.getD i 0)))) w' (γX ρ2 (s.res.ren fun i=>L.getD i 0)) (JdT vl):=q2 0;have q1:Sim c g3 (γm ρ2 (L.zip (s.robjs.map (Je.ren fun i=>L.getD i 0)))) w':=q1;have q3:Jb c g m w g3 (γm ρ2 (L.zip (s.robjs.map (Je.ren fun i=>L.getD i 0)))) w':=q3;have houts:(Ju s.outs 0).map (dat ρ2)=ds':=by
           rw[hd];refine(Jj2 s.outs vs 0 hout fun j y hj=>?_).symm;exact hset j (den ρ' y) (by rw[JrZ,hj];rfl)
          have hrel2:s.rel (Y7 B N s.ins R) xs os (γX ρ2 s.res,γm ρ2 (Ze 0 s.robjs)):=by
           refine⟨ρ1,ρ2,hx,ho,?_,rfl⟩;unfold Y7;rw[hbind];simp only[heval,houts]
          have hone:=Ql.rel_one hs hrel hrel2;simp only[JrV] at hone;obtain⟨ex,em⟩:=hone;have hnm :∀k∈s.res.names++s.robjs.flatMap Je.names,k<L.length:=fun k hk=>Nat.lt_of_succ_le (Nat.le_of_ble_eq_true (JrR.1 hnm k hk));have hosM:L.mapM (γm ρ2 (L.zip (s.robjs.map (Je.ren fun i=>L.getD i 0))))=some ((s.robjs.map (Je.ren fun i=>L.getD i 0)).map (γO ρ2)):=by
           refine Jkg L _ (by simpa using hLl) fun i k hi=>?_;simp only[γm];rw[JcL L _ i k hnd (by simpa using hLl) hi];simp only[JrZ]
          have hrenamed:((s.robjs.map (Je.ren fun i=>L.getD i 0)).map (γO ρ2)).map (Obj.ren (at? L))=s.robjs.map (γO ρ2):=by
           simp only[List.map_map];refine Jr0 fun o hom=>?_;simp only[Function.comp,Jaj];rw[Jl4 hnd o fun k hk=>hnm k (List.mem_append_right _ (List.mem_flatMap.2 ⟨o,hom,hk⟩))]
          have hgetD :∀j,j<L.length→L.getD j 0∈L:=fun j hj=>by
           simp only[JrH,JrP hj,Option.getD_some];exact List.getElem_mem hj
          have hclo :∀k∈((s.robjs.map (Je.ren fun i=>L.getD i 0)).map (γO ρ2)).flatMap Obj.names,k∈L:=by
           intro k hk;rw[Qc] at hk;obtain⟨o,hom,hko⟩:=List.mem_flatMap.1 hk;obtain⟨o',ho',rfl⟩:=List.mem_map.1 hom;rw[JiM] at hko;obtain⟨j,hj,rfl⟩:=List.mem_map.1 hko;exact hgetD j (hnm j (List.mem_append_right _ (List.mem_flatMap.2 ⟨o',ho',hj⟩)))
          obtain⟨r1,r2,r3,r4⟩:=JpU q1 hosM hnd hclo;rw[hrenamed,←Jb0,←em] at r1 r2 r3 r4;have hvf:=r4 _ _ (fun k hk=>by
           rw[KN,Jez] at hk;obtain⟨j,hj,rfl⟩:=List.mem_map.1 hk;exact hgetD j (hnm j (by simp[hj]))) hv2
          rw[JdA,Jhr hnd _ (fun k hk=>hnm k (by simp[hk])),←ex] at hvf;refine⟨hd',JdT vl,hres,JdT vl,g3.lent L,rfl,r1,⟨q3.size,fun b h1 h2 h3=>⟨(q3.pure b h1 h2 h3).1,fun hm=>(q3.pure b h1 h2 h3).2 (r2 b hm)⟩,fun k cs hk=>?_,fun k ty sz es dp rw hk=>?_,fun k hk=>?_⟩,hvf⟩
          ·have hkl:k<s.objs.length:=by rw[←hnl];exact hl k (by rw[hk];simp)
           have hkL:=JrL (hlt k hkl);have hatk:at? L k=k:=by
            obtain⟨hlt',e⟩:=JrF.1 (hlt k hkl);have:=hnd.idxOf_getElem k hlt';rw[e] at this;exact this
           obtain⟨⟨cs',e1⟩,e2⟩:=q3.box k cs hk;obtain⟨a1,a2,a3⟩:=r3 k hkL;rw[hatk] at a1 a2;exact⟨⟨Uu (at? L) cs',by rw[a1,e1];rfl⟩,a2.trans e2⟩
          ·have hkl:k<s.objs.length:=by rw[←hnl];exact hl k (by rw[hk];simp)
           have hkL:=JrL (hlt k hkl);have hatk:at? L k=k:=by
            obtain⟨hlt',e⟩:=JrF.1 (hlt k hkl);have:=hnd.idxOf_getElem k hlt';rw[e] at this;exact this
           obtain⟨a1,a2,a3⟩:=r3 k hkL;rw[hatk] at a1 a2 a3;rcases q3.arr k ty sz es dp rw hk with e1 | ⟨es',dp',rw',e1,e2⟩
           ·exact .inl (by rw[a1,e1];rfl)
           ·exact .inr ⟨es',dp',rw',by rw[a1,e1];rfl,by rw[a2,a3];exact e2⟩
          ·have hkl:k<s.objs.length:=by rw[←hnl];exact hl k (by rw[hk];simp)
           have hkL:=JrL (hlt k hkl);have hatk:at? L k=k:=by
            obtain⟨hlt',e⟩:=JrF.1 (hlt k hkl);have:=hnd.idxOf_getElem k hlt';rw[e] at this;exact this
           obtain⟨a1,a2,a3⟩:=r3 k hkL;rw[hatk] at a1;rw[a1,q3.dead k hk];rfl
        ·cases h
       ·cases h
      ·cases h
     ·cases h
    cases ex with
    | norm=>exact fin hk'
    | ret=>exact fin hk'
    | exit id=>cases hk'
   ·cases hev
  ·cases hev
end
end Go.Tm
end
section
namespace Go.Tm
open Go.IntKind (i64)
inductive Body where
 | r (h:Ye) (r:R)
 | m (F:List D→Option (List D))
structure Ja where
 sig:Sig
 body:Body
abbrev VP:=List (FuncId×Ja)
def ZW:Sig→List Sh1
 | .d s=>s.pars.flatMap Sh.leaves
 | .x s=>s.ins
 | .b _ s=>s.ins
 | .h=>[]
def Kj (L:VP):FuncId→Option Sig:=fun f=>match L.lookup f with
 | some e=>some e.sig
 | none=>none
def arT (L:VP):FuncId→Option (List (Option Nat)):=fun f=>match L.lookup f with
 | some e=>match e.sig with
  | .d s=>JpR s
  | _=>none
 | none=>none
noncomputable def tbN (L:VP):Nat→Tb
 | 0=>{ call:=fun _ _=>none,ar:=arT L }
 | n+1=>{ call:=fun f=>match L.lookup f with
  | some ⟨s,.r _ r⟩=>Y7 (tbN L n) n (ZW s) r
  | some ⟨_,.m F⟩=>F
  | none=>fun _=>none,ar:=arT L }
def ZQ:Sig→Bool
 | .d s=>JiF (.d s)
 | .x s=>s.ok&&s.okIn
 | .b _ s=>s.ok&&s.okIn&&s.objs.isEmpty
 | .h=>true
def sxB (P:Program) (sg:FuncId→Option Sig) (s:Ql) (H:Ye):Option (Func×Code)→Option R
 | some (fn,C)=>if ZQ (.b 0 s) then(if H.nl == s.objs.length then sxX P sg s H fn C else none) else none
 | none=>none
def sxE (P:Program) (sg:FuncId→Option Sig) (f:FuncId) (s:Sig) (H:Ye):Option R:=match s with
 | .d s=>match fnOf P f with
  | some (fn,C)=>if ZQ (.d s) then(if H.nl == 0 then sxD P sg s H fn C else none) else none
  | none=>none
 | .x s=>match fnOf P f with
  | some (fn,C)=>if ZQ (.x s) then(if H.nl == s.objs.length then sxX P sg s H fn C else none) else none
  | none=>none
 | .b f s=>sxB P sg s H (fnOf P f)
 | .h=>none
def Jij (P:Program) (sg:FuncId→Option Sig) (f:FuncId) (e:Ja) (Φ:Fix P:= .none P):Prop:=match e with
 | ⟨s,.r H r⟩=>sxE P sg f s H=some r∧r.wf (ZW s).length []=true
 | ⟨s,.m F⟩=>ZQ s=true∧match s with
  | .d s=>(∀args w,(callFunc f args).run P w = .ok (.enter f args) w)∧FnOk P Φ f (dspec s F)
  | .x s=>(∀args w,(callFunc f args).run P w = .ok (.enter f args) w)∧FnX P Φ f (Q1 s F)
  | .b _ _=>False
  | .h=>True
def YS (P:Program) (sg:FuncId→Option Sig) (l:VP) (Φ:Fix P:= .none P):Prop:=match l with
 | []=>True
 | (f,e)::l=>Jij P sg f e Φ∧YS P sg l Φ
section
variable {P:Program} {L:VP} {Φ:Fix P}
theorem YS.at_ {sg:FuncId→Option Sig} :∀{l:VP},YS P sg l Φ→∀{f:FuncId} {e:Ja},l.lookup f=some e→Jij P sg f e Φ
 | (k,x)::l,⟨h1,h2⟩,f,e,h=>by
  simp only[List.lookup_cons] at h
  by_cases hf:f=k
  ·subst hf;simp at h;subst h;exact h1
  ·have hb:(f == k)=false:=by simpa using hf
   rw[hb] at h;exact YS.at_ h2 h
theorem Jij.sig {sg:FuncId→Option Sig} {f:FuncId} {s:Sig} {b:Body} (h:Jij P sg f ⟨s,b⟩ Φ):ZQ s=true:=by
 cases b with
 | m F=>exact h.1
 | r H r =>
  obtain⟨h,_⟩:=h;unfold sxE at h;cases s with
  | h=>rfl
  | b f s =>
   simp only at h;unfold sxB at h;split at h
   ·split at h
    ·assumption
    ·cases h
   ·cases h
  | d s =>
   simp only at h;split at h
   ·split at h
    ·assumption
    ·cases h
   ·cases h
  | x s =>
   simp only at h;split at h
   ·split at h
    ·assumption
    ·cases h
   ·cases h
theorem JnD {s:Sig} (h:ZQ s=true):JiF s=true:=by
 cases s with
 | d s=>exact h
 | x s=>simp only[ZQ,JrE] at h;exact h.1
 | b f s=>simp only[ZQ,JrE] at h;exact h.1.1
 | h=>rfl
theorem bOk (hL:YS P (Kj L) L Φ) (n:Nat):BOk (Kj L) (tbN L n):=by
 refine⟨fun f s h=>?_,fun f a h=>?_⟩
 ·unfold Kj at h;split at h
  ·rename_i e he;simp only[JrD] at h;subst h;obtain⟨s,b⟩:=e;exact JnD (hL.at_ he).sig
  ·cases h
 ·have har:(tbN L n).ar=arT L:=by cases n <;> rfl
  rw[har] at h;unfold arT at h;unfold Kj;split at h
  ·rename_i e he;split at h
   ·rename_i s hs;exact⟨s,by simp only[hs],h⟩
   ·cases h
  ·cases h
theorem Jqd {P:Program} {sg:FuncId→Option Sig} {f:FuncId} {s:Sig} {H:Ye} {r:R} (h:sxE P sg f s H=some r) (hs:(∃ x,s = .d x)∨∃ x,s = .x x) : ∃ fn C,fnOf P f=some (fn,C):=by
 unfold sxE at h;rcases hs with ⟨x,rfl⟩ | ⟨x,rfl⟩ <;>
 ·simp only at h;split at h
  ·rename_i fn C hf;exact⟨fn,C,hf⟩
  ·cases h
theorem Jki {P:Program} {sg:FuncId→Option Sig} {k f:FuncId} {s:Ql} {H:Ye} {r:R} (h:sxE P sg k (.b f s) H=some r) : ∃ fn C,fnOf P f=some (fn,C)∧ZQ (.b 0 s)=true∧H.nl=s.objs.length∧sxX P sg s H fn C=some r:=by
 have e:sxE P sg k (.b f s) H=sxB P sg s H (fnOf P f):=rfl;rw[e] at h;unfold sxB at h;split at h
 ·rename_i fn C hf;split at h
  ·rename_i hs;split at h
   ·rename_i hn;exact⟨fn,C,hf,hs,by simpa using hn,h⟩
   ·cases h
  ·cases h
 ·cases h
theorem Jqz (hm:P.follows .mixedOrders=true) (hL:YS P (Kj L) L Φ) :∀n,JeR P Φ (QJ (Kj L) (tbN L n)):=by
 have enter :∀f e,L.lookup f=some e→((∃ x,e.sig = .d x)∨∃ x,e.sig = .x x)→∀args w,(callFunc f args).run P w = .ok (.enter f args) w:=by
  intro f e he hs;obtain⟨s,b⟩:=e;have hg:=hL.at_ he;cases b with
  | m F =>
   rcases hs with ⟨x,hx⟩ | ⟨x,hx⟩
   ·simp only at hx;subst hx;exact hg.2.1
   ·simp only at hx;subst hx;exact hg.2.1
  | r H r =>
   obtain⟨h,_⟩:=hg;obtain⟨fn,C,hf⟩:=Jqd h hs;exact fun args w=>Jap hf args w
 intro n
 induction n with
 | zero =>
  refine⟨fun f S h=>?_,fun f S h=>?_,fun f S h=>?_⟩
  ·unfold QJ Kj at h;simp only at h;cases he:L.lookup f with
   | none=>simp[he] at h
   | some e =>
    simp only[he] at h;split at h
    ·rename_i s hs;simp only[JrD] at h;subst h;refine⟨enter f e he (.inl ⟨_,Option.some.inj hs⟩),fun w ds vals fps r _ _ hF=>?_⟩;unfold dspec at hF;cases hfl:Jj s.pars ds with
     | none=>simp[hfl] at hF
     | some ls=>simp only[hfl,JrS] at hF;cases hF
    ·cases h
  ·unfold QJ Kj at h;simp only at h;cases he:L.lookup f with
   | none=>simp[he] at h
   | some e =>
    simp only[he] at h;split at h
    ·rename_i s hs;simp only[JrD] at h;subst h;refine⟨enter f e he (.inr ⟨_,Option.some.inj hs⟩),fun c g os m w xs vals x m1 _ _ _ _ _ hsp=>?_⟩;obtain⟨_,_,_,_,hF,_⟩:=Ku hsp;cases hF
    ·cases h
  ·unfold QJ Kj at h;simp only at h;cases he:L.lookup (bId f) with
   | none=>simp[he] at h
   | some e =>
    simp only[he] at h;split at h
    ·rename_i f' s hs;split at h
     case isFalse=>cases h
     rename_i hff;subst hff;simp only[JrD] at h hs;subst h;obtain⟨s',b⟩:=e;simp only at hs;subst hs;have hg:=hL.at_ he;cases b with
     | m F=>exact hg.2.elim
     | r H r =>
      obtain⟨fn,C,hf,_⟩:=Jki hg.1;refine⟨fun args w=>Jap hf args w,fun c g os m w xs vals x m1 _ _ _ _ _ hsp=>?_⟩;obtain⟨_,_,_,_,hF,_⟩:=Ku hsp;cases hF
    ·cases h
 | succ n ih =>
  have hB:=bOk hL n;have hcall :∀f s H r,L.lookup f=some ⟨s,.r H r⟩→(tbN L (n+1)).call f=Y7 (tbN L n) n (ZW s) r:=by
   intro f s H r he;show (match L.lookup f with
   | some ⟨s,.r _ r⟩=>Y7 (tbN L n) n (ZW s) r
   | some ⟨_,.m F⟩=>F
   | none=>fun _=>none)=_
   rw[he]
  have hcallm :∀f s F,L.lookup f=some ⟨s,.m F⟩→(tbN L (n+1)).call f=F:=by
   intro f s F he;show (match L.lookup f with
   | some ⟨s,.r _ r⟩=>Y7 (tbN L n) n (ZW s) r
   | some ⟨_,.m F⟩=>F
   | none=>fun _=>none)=_
   rw[he]
  refine⟨fun f S h=>?_,fun f S h=>?_,fun f S h=>?_⟩
  ·unfold QJ Kj at h;simp only at h;cases he:L.lookup f with
   | none=>simp[he] at h
   | some e =>
    simp only[he] at h;split at h
    ·rename_i s hs;simp only[JrD] at h;subst h;obtain⟨s',b⟩:=e;simp only[JrD] at hs;subst hs;have hg:=hL.at_ he;cases b with
     | m F=>rw[hcallm f _ F he];exact hg.2.2
     | r H r =>
      rw[hcall f _ H r he];obtain⟨h,hw⟩:=hg;unfold sxE at h;simp only at h;split at h
      ·rename_i fn C hf;split at h
       ·split at h
        ·rename_i hn;exact JpI hB ih hm (by simpa using hn) hf h hw
        ·cases h
       ·cases h
      ·cases h
    ·cases h
  ·unfold QJ Kj at h;simp only at h;cases he:L.lookup f with
   | none=>simp[he] at h
   | some e =>
    simp only[he] at h;split at h
    ·rename_i s hs;simp only[JrD] at h;subst h;obtain⟨s',b⟩:=e;simp only[JrD] at hs;subst hs;have hg:=hL.at_ he;cases b with
     | m F=>rw[hcallm f _ F he];exact hg.2.2
     | r H r =>
      rw[hcall f _ H r he];obtain⟨h,hw⟩:=hg;unfold sxE at h;simp only at h;split at h
      ·rename_i fn C hf;split at h
       ·rename_i hsig;split at h
        ·rename_i hn;simp only[ZQ,JrE] at hsig;exact JmN hB ih hm hsig.1 hsig.2 (by simpa using hn) hf h hw
        ·cases h
       ·cases h
      ·cases h
    ·cases h
  ·unfold QJ Kj at h;simp only at h;cases he:L.lookup (bId f) with
   | none=>simp[he] at h
   | some e =>
    simp only[he] at h;split at h
    ·rename_i f' s hs;split at h
     case isFalse=>cases h
     rename_i hff;subst hff;simp only[JrD] at h hs;subst h;obtain⟨s',b⟩:=e;simp only at hs;subst hs;have hg:=hL.at_ he;cases b with
     | m F=>exact hg.2.elim
     | r H r =>
      rw[hcall _ _ H r he];obtain⟨h,hw⟩:=hg;obtain⟨fn,C,hf,hsig,hn,h⟩:=Jki h;simp only[ZQ,JrE] at hsig;exact JmN hB ih hm hsig.1.1 hsig.1.2 hn hf h hw
    ·cases h
end
end Go.Tm
end
section
namespace Go.Tm
open Go.IntKind (i64)
structure Tb.Le (B B':Tb):Prop where
 ar:B'.ar=B.ar
 call :∀f ds r,B.call f ds=some r→B'.call f ds=some r
theorem Tb.Le.refl (B:Tb):B.Le B:=⟨rfl,fun _ _ _ h=>h⟩
section
variable {B B':Tb} {N N':Nat} {L:VP}
theorem Jn4 (h:B.Le B') (x:I) (ρ ρ':Env) (he:Xk B x ρ=some ρ'):Xk B' x ρ=some ρ':=by
 cases x with
 | chk b=>exact he
 | head sz l=>exact he
 | fl l=>exact he
 | get e sh n=>exact he
 | idx l i sh n=>exact he
 | call f as rs n =>
  simp only[Xk] at he ⊢;cases hc:B.call f (as.map (dat ρ)) with
  | none=>rw[hc] at he;cases he
  | some ds=>rw[hc] at he;rw[h.call _ _ _ hc];exact he
 | prim p as r n=>exact he
 | callv e as ar rs n =>
  simp only[Xk] at he ⊢;split at he
  ·rename_i fn caps hd;split at he
   ·rename_i har;rw[h.ar,if_pos har];cases hc:B.call fn (as.map (dat ρ)++caps.map D.norm) with
    | none=>rw[hc] at he;cases he
    | some ds=>rw[hc] at he;rw[h.call _ _ _ hc];exact he
   ·cases he
  ·cases he
theorem JdG {f f':List V→Option Oc} (h :∀vs o,f vs=some o→f' vs=some o) :∀(n n':Nat) (vs:List V) (o:Oc),n≤n'→Ul f n vs=some o→Ul f' n' vs=some o
 | 0,_,_,_,_,he=>by cases he
 | n+1,0,_,_,hn,_=>by omega
 | n+1,n'+1,vs,o,hn,he=>by
  simp only[Ul] at he ⊢;cases hf:f vs with
  | none=>rw[hf] at he;cases he
  | some o1 =>
   rw[hf] at he;rw[h _ _ hf];cases o1 with
   | next vs'=>exact JdG h n n' vs' o (by omega) he
   | esc o'=>exact he
   | done ds=>cases he
theorem J8 (h:B.Le B') (hn:N≤N') :∀(r:R) (ρ:Env) (o:Oc),Jx B N r ρ=some o→Jx B' N' r ρ=some o
 | .i x r,ρ,o,he=>by
  simp only[Jx] at he ⊢;cases hx:Xk B x ρ with
  | none=>rw[hx] at he;cases he
  | some ρ' =>
   rw[hx] at he;rw[Jn4 h x ρ ρ' hx];exact J8 h hn r ρ' o he
 | .ite b x y,ρ,o,he=>by
  simp only[Jx] at he ⊢;cases hb:bol ρ b with
  | true=>rw[hb] at he;exact J8 h hn x ρ o he
  | false=>rw[hb] at he;exact J8 h hn y ρ o he
 | .nilq c l x y,ρ,o,he=>by
  simp only[Jx] at he ⊢;cases hl:lst ρ l with
  | nil =>
   rw[hl] at he;simp only at he ⊢;split at he
   ·rename_i e;rw[if_pos]
    ·exact J8 h hn y ρ o he
    ·rw[J8 h hn y ρ o he,J8 h hn x ρ o (e.trans he)]
   ·cases he
  | cons d l'=>rw[hl] at he;exact J8 h hn y ρ o he
 | .loop c init body,ρ,o,he=>by
  simp only[Jx] at he ⊢;exact JdG (fun vs o=>J8 h hn body (Xr c vs ρ) o) _ _ _ _ hn he
 | .next vs,ρ,o,he=>he
 | .done vs,ρ,o,he=>he
 | .esc r,ρ,o,he=>by
  simp only[Jx] at he ⊢;cases hr:Jx B N r ρ with
  | none=>rw[hr] at he;cases he
  | some o'=>rw[hr] at he;rw[J8 h hn r ρ o' hr];exact he
theorem JnG (h:B.Le B') (hn:N≤N') {ins:List Sh1} {r:R} {ls ds:List D} (he:Y7 B N ins r ls=some ds):Y7 B' N' ins r ls=some ds:=by
 unfold Y7 at he ⊢;cases hb:Xh ins ls 0 (fun _=> .i 0) with
 | none=>rw[hb] at he;cases he
 | some ρ =>
  rw[hb] at he;simp only at he ⊢;cases hr:Jx B N r ρ with
  | none=>rw[hr] at he;cases he
  | some o=>rw[hr] at he;rw[J8 h hn r ρ o hr];exact he
theorem JiQ (n:Nat):(tbN L n).ar=arT L:=by cases n <;> rfl
theorem Y5 :∀(n n':Nat),n≤n'→(tbN L n).Le (tbN L n')
 | 0,n',_=>⟨by rw[JiQ,JiQ],fun f ds r h=>by cases h⟩
 | n+1,0,h=>by omega
 | n+1,n'+1,h=>by
  refine⟨rfl,fun f ds r hc=>?_⟩;simp only[tbN] at hc ⊢;cases hf:L.lookup f with
  | none=>rw[hf] at hc;cases hc
  | some e =>
   rw[hf] at hc;obtain⟨s,b⟩:=e;cases b with
   | r H r'=>exact JnG (Y5 n n' (by omega)) (by omega) hc
   | m F=>exact hc
def Ev (L:VP) (f:FuncId) (as ds:List D):Prop:=∃ N,(tbN L N).call f as=some ds
theorem JrB {f:FuncId} {as ds ds':List D} (h:Ev L f as ds) (h':Ev L f as ds'):ds=ds':=by
 obtain⟨n,h⟩:=h;obtain⟨m,h'⟩:=h';have a:=(Y5 (L:=L) n (max n m) (Nat.le_max_left _ _)).call _ _ _ h;have b:=(Y5 (L:=L) m (max n m) (Nat.le_max_right _ _)).call _ _ _ h';rw[a] at b;exact Option.some.inj b
def Js (l:List V):Env:=fun k=>l.getD k (.i 0)
theorem JeV (l:List V) (v:V):upd (Js l) l.length v=Js (l++[v]):=by
 funext k
 unfold upd Js;simp only[JrH];split
 ·rename_i h;subst h;simp
 ·rename_i h
  by_cases hk:k<l.length
  ·rw[Jr5 hk]
  ·rw[Jr1 (by omega),Jr1 (by simp;omega)]
def Z8:List Sh1→List D→Option (List V)
 | [],[]=>some []
 | a::as,d::ds=>match a.toV d,Z8 as ds with
  | some v,some vs=>some (v::vs)
  | _,_=>none
 | _,_=>none
theorem YZ :∀(as:List Sh1) (ds:List D) (l vs:List V),Z8 as ds=some vs→Xh as ds l.length (Js l)=some (Js (l++vs))
 | [],[],l,vs,h=>by simp only[Z8,JrD] at h;subst h;simp[Xh]
 | [],_::_,l,vs,h=>by cases h
 | _::_,[],l,vs,h=>by cases h
 | a::as,d::ds,l,vs,h=>by
  simp only[Z8] at h;split at h
  ·rename_i v vs' h1 h2;simp only[JrD] at h;subst h;simp only[Xh,h1,JeV];have:=YZ as ds (l++[v]) vs' h2;simp only[JrK,List.length_singleton,List.append_assoc,List.singleton_append] at this;exact this
  ·cases h
def ZE:Sh→D→Option (List V)
 | .one a,d=>Z8 [a] [d]
 | .g as,.g cs=>Z8 as cs
 | .q as,.q cs=>Z8 as cs
 | _,_=>none
theorem JeU {sh:Sh} {d:D} {l vs:List V} (h:ZE sh d=some vs):sh.bind d l.length (Js l)=some (Js (l++vs)):=by
 cases sh with
 | one a=>exact YZ _ _ _ _ h
 | g as=>cases d <;> simp only[ZE] at h <;> first | exact YZ _ _ _ _ h | cases h
 | q as=>cases d <;> simp only[ZE] at h <;> first | exact YZ _ _ _ _ h | cases h
theorem U0 :∀(vs l:List V),Xr l.length vs (Js l)=Js (l++vs)
 | [],l=>by simp[Xr]
 | v::vs,l=>by
  simp only[Xr,JeV];have:=U0 vs (l++[v]);simp only[JrK,List.length_singleton,List.append_assoc,List.singleton_append] at this;exact this
def WR (L:VP) (r:R) (l:List V) (Q:Oc→Prop):Prop:=∃ N o,Jx (tbN L N) N r (Js l)=some o∧Q o
variable {r x y body:R} {l vs:List V} {Q Q':Oc→Prop} {n c:Nat}
theorem WR.mono (h:WR L r l Q) (hQ :∀o,Q o→Q' o):WR L r l Q':=by
 obtain⟨N,o,h1,h2⟩:=h;exact⟨N,o,h1,hQ o h2⟩
theorem Jrs {b:E} (hb:bol (Js l) b=true) (h:WR L r l Q):WR L (.i (.chk b) r) l Q:=by
 obtain⟨N,o,h1,h2⟩:=h;exact⟨N,o,by simp only[Jx,Xk,hb,if_true];exact h1,h2⟩
theorem Jro {sz:Nat} {e:E} (hb:XZ sz (lst (Js l) e)=true) (h:WR L r l Q):WR L (.i (.head sz e) r) l Q:=by
 obtain⟨N,o,h1,h2⟩:=h;exact⟨N,o,by simp only[Jx,Xk,hb,if_true];exact h1,h2⟩
theorem Jri {e:E} (hb:Jy (lst (Js l) e)=true) (h:WR L r l Q):WR L (.i (.fl e) r) l Q:=by
 obtain⟨N,o,h1,h2⟩:=h;exact⟨N,o,by simp only[Jx,Xk,hb,if_true];exact h1,h2⟩
theorem Jq6 {e:E} {sh:Sh} (hn:n=l.length) (hb:ZE sh (dat (Js l) e)=some vs) (h:WR L r (l++vs) Q):WR L (.i (.get e sh n) r) l Q:=by
 obtain⟨N,o,h1,h2⟩:=h;subst hn;exact⟨N,o,by simp only[Jx,Xk,JeU hb];exact h1,h2⟩
theorem Jq8 {e i:E} {sh:Sh} {d:D} (hn:n=l.length) (h0:0≤int (Js l) i) (hd:(lst (Js l) e)[(int (Js l) i).toNat]? = some d) (hb:ZE sh d=some vs) (h:WR L r (l++vs) Q) :
  WR L (.i (.idx e i sh n) r) l Q:=by
 obtain⟨N,o,h1,h2⟩:=h;subst hn;exact⟨N,o,by simp only[Jx,Xk,if_pos h0,hd,JeU hb];exact h1,h2⟩
theorem Jq4 {f:FuncId} {as:List E} {rs:List Sh1} {ds:List D} (hn:n=l.length) (hc:Ev L f (as.map (dat (Js l))) ds) (hb:Z8 rs ds=some vs) (h:WR L r (l++vs) Q) :
  WR L (.i (.call f as rs n) r) l Q:=by
 obtain⟨N,o,h1,h2⟩:=h;obtain⟨M,hM⟩:=hc;subst hn;refine⟨max N M,o,?_,h2⟩;have e1:=(Y5 (L:=L) M (max N M) (Nat.le_max_right _ _)).call _ _ _ hM;have e2:=J8 (Y5 (L:=L) N (max N M) (Nat.le_max_left N M)) (Nat.le_max_left N M) _ _ _ h1;simp only[Jx,Xk,e1,YZ _ _ _ _ hb];exact e2
theorem Jrl {p:Jpe} {as:List E} {r1:Sh1} {n:Nat} {d:D} (hn:n=l.length) (hp:ZC p (as.map (dat (Js l)))=some d) (hb:Z8 [r1] [d]=some vs) (h:WR L r (l++vs) Q):WR L (.i (.prim p as r1 n) r) l Q:=by
 obtain⟨N,o,h1,h2⟩:=h;subst hn;exact⟨N,o,by simp only[Jx,Xk,hp,YZ _ _ _ _ hb];exact h1,h2⟩
theorem Jq3 {e:E} {as:List E} {ar:List (Option Nat)} {rs:List Sh1} {fn:FuncId} {caps ds:List D} (hn:n=l.length) (he:dat (Js l) e = .f fn caps) (har:arT L fn=some (ar++caps.map fun _=>none))
  (hc:Ev L fn (as.map (dat (Js l))++caps.map D.norm) ds) (hb:Z8 rs ds=some vs) (h:WR L r (l++vs) Q):WR L (.i (.callv e as ar rs n) r) l Q:=by
 obtain⟨N,o,h1,h2⟩:=h;obtain⟨M,hM⟩:=hc;subst hn;refine⟨max N M,o,?_,h2⟩;have e1:=(Y5 (L:=L) M (max N M) (Nat.le_max_right _ _)).call _ _ _ hM;have e2:=J8 (Y5 (L:=L) N (max N M) (Nat.le_max_left N M)) (Nat.le_max_left N M) _ _ _ h1;simp only[Jx,Xk,he,JiQ,har,if_true,e1,YZ _ _ _ _ hb];exact e2
theorem Jry {b:E} (hx:bol (Js l) b=true→WR L x l Q) (hy:bol (Js l) b=false→WR L y l Q):WR L (.ite b x y) l Q:=by
 cases hb:bol (Js l) b with
 | true =>
  obtain⟨N,o,h1,h2⟩:=hx hb;exact⟨N,o,by simp only[Jx,hb,if_true];exact h1,h2⟩
 | false =>
  obtain⟨N,o,h1,h2⟩:=hy hb;exact⟨N,o,by simp only[Jx,hb,JrU,if_false];exact h1,h2⟩
theorem Jrj {b:E} (hb:bol (Js l) b=true) (hx:WR L x l Q):WR L (.ite b x y) l Q:=Jry (fun _=>hx) (fun h=>by rw[hb] at h;cases h)
theorem Jra {b:E} (hb:bol (Js l) b=false) (hy:WR L y l Q):WR L (.ite b x y) l Q:=Jry (fun h=>by rw[hb] at h;cases h) (fun _=>hy)
theorem Jrb {e:E} (o:Oc) (hx:lst (Js l) e=[]→WR L x l (· = o)) (hy:WR L y l (· = o)) (hQ:Q o):WR L (.nilq c e x y) l Q:=by
 obtain⟨N,_,h1,rfl⟩:=hy;cases hl:lst (Js l) e with
 | nil =>
  obtain⟨M,_,h2,rfl⟩:=hx hl;have e1:=J8 (Y5 (L:=L) N (max N M) (Nat.le_max_left N M)) (Nat.le_max_left N M) _ _ _ h1;have e2:=J8 (Y5 (L:=L) M (max N M) (Nat.le_max_right N M)) (Nat.le_max_right N M) _ _ _ h2;exact⟨max N M,_,by simp only[Jx,hl,e1,e2,if_true],hQ⟩
 | cons d l'=>exact⟨N,_,by simp only[Jx,hl];exact h1,hQ⟩
abbrev Rnd (Inv:Nat→List V→Prop) (Q:Oc→Prop) (n:Nat):Oc→Prop
 | .next vs=>∃ m,m<n∧Inv m vs
 | .esc o=>Q o
 | .done _=>False
theorem Jrr {init:List E} (Inv:Nat→List V→Prop) (hc:c=l.length) (n:Nat) (h0:Inv n (init.map (den (Js l)))) (hs :∀n vs,Inv n vs→WR L body (l++vs) (Rnd Inv Q n)):WR L (.loop c init body) l Q:=by
 subst hc;have key :∀(n:Nat) (vs:List V),Inv n vs→∃ N o,Ul (fun vs=>Jx (tbN L N) N body (Xr l.length vs (Js l))) N vs=some o∧Q o:=by
  intro n
  induction n using Nat.strongRecOn with
  | _ n ih =>
   intro vs hi;obtain⟨N,o,h1,h2⟩:=hs n vs hi;cases o with
   | done ds=>exact h2.elim
   | esc o =>
    refine⟨N+1,o,?_,h2⟩;have:=J8 (Y5 (L:=L) N (N+1) (by omega)) (show N≤N+1 by omega) _ _ _ h1;simp only[Ul,U0,this]
   | next vs' =>
    obtain⟨m,hm,hi'⟩:=h2;obtain⟨M,o,h3,h4⟩:=ih m hm vs' hi';refine⟨max N M+1,o,?_,h4⟩;have e1:=J8 (Y5 (L:=L) N (max N M+1) (by omega)) (show N≤max N M+1 by omega) _ _ _ h1;have e2:=JdG (f':=fun vs=>Jx (tbN L (max N M+1)) (max N M+1) body (Xr l.length vs (Js l)))
     (fun vs o=>J8 (Y5 (L:=L) M (max N M+1) (by omega)) (by omega) body (Xr l.length vs (Js l)) o) M (max N M) vs' o (by omega) h3
    rw[Ul];simp only[U0] at e2 ⊢;simp only[e1];exact e2
 obtain⟨N,o,h1,h2⟩:=key n _ h0;exact⟨N,o,by simp only[Jx];exact h1,h2⟩
theorem Jrp {es:List E} (h:Q (.next (es.map (den (Js l))))):WR L (.next es) l Q:=⟨0,_,rfl,h⟩
theorem JqZ {es:List E} (h:Q (.done (es.map (dat (Js l))))):WR L (.done es) l Q:=⟨0,_,rfl,h⟩
theorem Jrg (h:WR L r l fun o=>Q (.esc o)):WR L (.esc r) l Q:=by
 obtain⟨N,o,h1,h2⟩:=h;exact⟨N,.esc o,by simp only[Jx,h1],h2⟩
abbrev Fin (P:List D→Prop):Oc→Prop
 | .done ds=>P ds
 | _=>False
theorem Jrz {f:FuncId} {s:Sig} {H:Ye} {r:R} {as:List D} {P:List D→Prop} (hf:L.lookup f=some ⟨s,.r H r⟩) (hb:Z8 (ZW s) as=some vs) (h:WR L r vs (Fin P)) : ∃ ds,Ev L f as ds∧P ds:=by
 obtain⟨N,o,h1,h2⟩:=h;cases o with
 | done ds =>
  refine⟨ds,⟨N+1,?_⟩,h2⟩;have hb:=YZ _ _ [] vs hb;simp only[List.length_nil,List.nil_append] at hb;simp only[tbN,hf,Y7,show (fun _=>V.i 0:Env)=Js [] from by funext k;simp[Js],hb,h1]
 | _=>exact h2.elim
theorem JrA {f:FuncId} {s:Sig} {H:Ye} {r:R} {as ds:List D} (hf:L.lookup f=some ⟨s,.r H r⟩) (hb:Z8 (ZW s) as=some vs) (h:WR L r vs (Fin (· = ds))):Ev L f as ds:=by
 obtain⟨ds',h1,rfl⟩:=Jrz hf hb h;exact h1
theorem JrC {f:FuncId} {s:Sig} {F:List D→Option (List D)} {as ds:List D} (hf:L.lookup f=some ⟨s,.m F⟩) (h:F as=some ds):Ev L f as ds:=⟨1,by simp only[tbN,hf];exact h⟩
end
end Go.Tm
end
section
namespace Go.Tm
open Go.IntKind (i64)
abbrev dI (n:Int):D:= .v (.int .i64 n)
abbrev dB (t:Bool):D:= .v (.bool t)
def dL (l:List Int):List D:=l.map dI
def dLL (l:List (List Int)):List D:=l.map fun x=> .s (dL x)
theorem w64 {n:Int} (h1 : -9223372036854775808≤n) (h2:n≤9223372036854775807):i64.wrap n=n:=by rw[IntKind.wrap_i64];omega
section
variable {L:VP} {r x y body:R} {l vs:List V} {Q Q':Oc→Prop} {n c:Nat}
theorem Jq7 {b:E} (p:Prop) [Decidable p] (hb:bol (Js l) b=decide p) (hp:p) (h:WR L r l Q):WR L (.i (.chk b) r) l Q:=Jrs (by rw[hb];simpa using hp) h
theorem Jrx {b:E} (p:Prop) [Decidable p] (hb:bol (Js l) b=decide p) (hx:p→WR L x l Q) (hy : ¬p→WR L y l Q):WR L (.ite b x y) l Q :=
 Jry (fun h=>hx (by rw[hb] at h;simpa using h)) (fun h=>hy (by rw[hb] at h;simpa using h))
theorem Jq5 {b:E} (t:Bool) (hb:bol (Js l) b=t) (hx:t=true→WR L x l Q) (hy:t=false→WR L y l Q):WR L (.ite b x y) l Q :=
 Jry (fun h=>hx (by rw[←hb];exact h)) (fun h=>hy (by rw[←hb];exact h))
theorem Jrt {f:FuncId} {as:List E} {rs:List Sh1} {args ds:List D} (hn:n=l.length) (ha:as.map (dat (Js l))=args) (hc:Ev L f args ds) (hb:Z8 rs ds=some vs) (h:WR L r (l++vs) Q) :
 WR L (.i (.call f as rs n) r) l Q:=Jq4 hn (by rw[ha];exact hc) hb h
theorem Jq9 {e i:E} {sh:Sh} {ds:List D} {d:D} (k:Int) (hn:n=l.length) (he:lst (Js l) e=ds) (hi:int (Js l) i=k) (h0:0≤k) (hd:ds[k.toNat]? = some d) (hb:ZE sh d=some vs) (h:WR L r (l++vs) Q) :
 WR L (.i (.idx e i sh n) r) l Q:=Jq8 hn (by rw[hi];exact h0) (by rw[he,hi];exact hd) hb h
theorem Jrn {e:E} {N:Int} (ds:List D) (he:lst (Js l) e=ds) (h:(ds.length:Int)≤N) (hr:WR L r l Q):WR L (.i (.chk (.cmp .le (.len e) (.z N))) r) l Q:=by
 refine Jrs ?_ hr;show decide (((lst (Js l) e).length:Int)≤N)=true;rw[he];simpa using h
theorem JqY {es:List E} {ds:List D} (hd:es.map (dat (Js l))=ds) (h:Q (.done ds)):WR L (.done es) l Q:=JqZ (by rw[hd];exact h)
theorem Jrq {es:List E} {vs:List V} (hd:es.map (den (Js l))=vs) (h:Q (.next vs)):WR L (.next es) l Q:=Jrp (by rw[hd];exact h)
end
theorem Ke {l:List Int} {k:Int} (h0:0≤k) (h1:k<l.length):(dL l)[k.toNat]? = some (dI (l.getD k.toNat 0)):=by
 have:k.toNat<l.length:=by omega
 simp[dL,JrH,this]
theorem KU {l:List Int} {p:Int→Prop} (h :∀x∈l,p x) {k:Nat} (hk:k<l.length):p (l.getD k 0):=by
 rw[JrH,JrP hk];exact h _ (List.getElem_mem hk)
theorem dL1 (l:List Int):(dL l).length=l.length:=by simp[dL]
theorem K7 (l:List (List Int)):(dLL l).length=l.length:=by simp[dLL]
end Go.Tm
end
section
open Go.ChangeShapes Go.WideShapes Go.ChangeAt Go.RowKit
namespace Go.Tm
open Go.IntKind (i64)
section
variable {H:Type} {enc:TypeId×Value→H} {P:Program}
theorem Jd9 {f:Func} {s:ChangeSpec} {apart fresh handsOn again:Bool} {W W':World} {args:Array Value} {v:Value} {ds gs:List (DataW H)} {before pa pv:List MemPlace}
  (hW:DataW.Whole enc P f.params.toList s.vars apart W args.toList ds gs before)
  (hres :∀(b:Nat) (sp:Nat→Bool) (hd:Bool),DataW.TrodAll enc P W' b sp hd f.resultTypes.toList (v.resultList f.resultTypes.size) (s.fn H (ds++gs)).results [])
  (hargs :∀sp:Nat→Bool,(∀p∈before,sp p.block=true)→DataW.TrodAll enc P W' 0 sp true f.params.toList args.toList (s.fn H (ds++gs)).args pa)
  (hvars :∀sp:Nat→Bool,(∀p∈before,sp p.block=true)→DataW.TrodVars enc P W' sp s.vars (s.fn H (ds++gs)).vars pv)
  (hps:before=pa++pv) (hb:Below W.heap.size W W')
  (hok :∀(j:Nat) (t:TypeId) (r:Value),f.resultTypes[j]? = some t→(v.resultList f.resultTypes.size)[j]? = some r→Value.okWide P W' .any 0 t r) :
  s.post enc P f apart fresh handsOn again W args v W':=by
 have hlt :∀p∈before,p.block<W.heap.size:=fun p hp=>hW.lt p hp;have hold :∀p∈before,(fun b=>decide (b<W.heap.size)) p.block=true:=fun p hp=>by simpa using hlt p hp
 refine⟨ds,gs,before,[],pa,pv,hW,hres _ _ _,hargs _ hold,hvars _ hold,World.keptBut_mono (fun p hp=>⟨hp,?_⟩) (hb.frame (·∈before)),fun _=>?_⟩
 ·rw[hps,JrJ] at hp;exact Or.inr hp
 ·obtain⟨_,_,_,_,_,hz,hn⟩:=hW;refine⟨hok,_,_,([]++pa)++pv,⟨[]++pa,pv,trodAll_append (hargs _ (fun _ _=>rfl)) (hres _ _ _),hvars _ (fun _ _=>rfl),rfl,?_,?_⟩,?_⟩
  ·intro b off hp;have hin:MemPlace.cell b off∈before:=by rw[hps];simpa using hp
   rw[hb.frozen (hlt _ hin)];exact hz b off hin
  ·intro ha;have:=hn ha;rw[hps] at this;simpa using this
  ·intro p hp _;rw[hps];simpa using hp
end
end Go.Tm
end
section
open Go.ChangeShapes Go.WideShapes Go.ChangeAt Go.RowKit
namespace Go.Tm
open Go.IntKind (i64)
def JfS (P:Program):List Field→Nat→Bool
 | [],_=>true
 | f::fs,off=>Nat.beq f.offset off&&JfS P fs (off+P.cellsOf f.type)
def isAgg (P:Program) (t:TypeId):Bool:=match Ys P t with
 | some b=>b
 | none=>false
def VD (P:Program):List Field→Nat
 | []=>0
 | f::fs=>P.cellsOf f.type+VD P fs
def okT (P:Program):Nat→TypeId→Bool
 | 0,_=>false
 | n+1,t=>match P.underlying t with
  | some .bool=>true
  | some (.int _)=>true
  | some (.slice e)=>okT P n e&&Nat.blt 0 (P.cellsOf e)
  | some (.struct fs)=>JfS P fs.toList 0&&Nat.beq (P.cellsOf t) (VD P fs.toList)&&fs.toList.all fun f=>okT P n f.type
  | _=>false
def JoJ (T:TypeId→List D→Prop):List Field→List D→Prop
 | [],ds=>ds=[]
 | f::fs,ds=>∃ a b,ds=a++b∧T f.type a∧JoJ T fs b
def Ja2 (P:Program):Nat→TypeId→List D→Prop
 | 0,_,_=>False
 | n+1,t,ds=>match P.underlying t with
  | some .bool=>∃ b,ds=[.v (.bool b)]
  | some (.int k)=>∃ i,ds=[.v (.int k i)]
  | some (.slice e)=>∃ es,ds=[.s es]∧es.length≤maxLen∧∀x∈es,∃ cs,Ja2 P n e cs∧x=D.ofCells (isAgg P e) cs
  | some (.struct fs)=>JoJ (Ja2 P n) fs.toList ds
  | _=>False
section
variable {P:Program} {w:World}
theorem Jie {n:Nat} {t:TypeId} {ds:List D} (h:Ja2 P n t ds) (ha:isAgg P t=false) : ∃ d,ds=[d]:=by
 cases n with
 | zero=>exact h.elim
 | succ n =>
  unfold Ja2 at h;split at h
  ·obtain⟨b,rfl⟩:=h;exact⟨_,rfl⟩
  ·obtain⟨b,rfl⟩:=h;exact⟨_,rfl⟩
  ·obtain⟨b,rfl,_⟩:=h;exact⟨_,rfl⟩
  ·rename_i fs hu;simp[isAgg,Ys,hu] at ha
  ·exact h.elim
theorem Jo1 {ag:Bool} {ds:List D} {cs:List Value} {fp:List Nat} (h:XI w ds cs fp) (h1:ag=false→∃ d,ds=[d]) : ∃ val,Rd w (D.ofCells ag ds) val fp∧val.cells.toList=cs:=by
 cases ag with
 | true=>exact⟨.agg cs.toArray,⟨cs,rfl,h⟩,by simp[Value.cells]⟩
 | false =>
  obtain⟨d,rfl⟩:=h1 rfl;obtain⟨v,vs,f1,f2,rfl,rfl,h2,⟨rfl,rfl⟩,h3⟩:=h;exact⟨v,by simpa[D.ofCells] using h2,by rw[Yv h3]⟩
theorem Jh1 {ag:Bool} {T:List D→Prop} (hT:ag=false→∀ds,T ds→∃ d,ds=[d]) {b o sz:Nat} :∀(m k:Nat),
  (∀i,i<m→∃ cs:List Value,cs.length=sz∧(∀j,j<sz→w.cell? ⟨b,o+(k+i)*sz+j,none⟩=cs[j]?)∧∃ ds fp,XI w ds cs fp∧T ds) →
  ∃ es fp,Ub w es sz b (o+k*sz) fp∧es.length=m∧∀x∈es,∃ ds,T ds∧x=D.ofCells ag ds
 | 0,k,_=>⟨[],[],rfl,rfl,fun x hx=>by simp at hx⟩
 | m+1,k,h=>by
  obtain⟨cs,hl,hc,ds,fp,hr,ht⟩:=h 0 (by omega);obtain⟨val,hv,hvc⟩:=Jo1 hr (fun e=>hT e ds ht);obtain⟨es,fp2,h1,h2,h3⟩:=Jh1 hT m (k+1) fun i hi=>by
   have:=h (i+1) (by omega);rw[show k+(i+1)=k+1+i by omega] at this;exact this
  refine⟨D.ofCells ag ds::es,fp++fp2,⟨val,fp,fp2,rfl,hv,by rw[←JrO,hvc,hl],fun j hj=>?_,?_,fun u hu=>?_⟩,by simp[h2],fun x hx=>?_⟩
  ·have:=hc j hj;rw[Nat.add_zero] at this;rw[this,←hvc];simp
  ·rw[show o+k*sz+sz=o+(k+1)*sz by rw[Nat.succ_mul];omega];exact h1
  ·rw[hvc] at hu;exact YG _ _ _ hr u hu
  ·rcases JrX.1 hx with rfl | hx
   ·exact⟨ds,ht,rfl⟩
   ·exact h3 x hx
theorem Jel {T:TypeId→List D→Prop} {cs:List Value} :∀(l:List Field) (off:Nat),JfS P l off=true→off+VD P l=cs.length →
  (∀f∈l,∃ ds fp,XI w ds ((cs.drop f.offset).take (P.cellsOf f.type)) fp∧T f.type ds)→∃ ds fp,XI w ds (cs.drop off) fp∧JoJ T l ds
 | [],off,_,hs,_=>⟨[],[],by
  have hs:off=cs.length:=by simpa[VD] using hs
  rw[List.drop_eq_nil_of_le (by omega)];exact⟨rfl,rfl⟩,rfl⟩
 | f::l,off,hc,hs,h=>by
  simp only[JfS,JrE] at hc;have hoff:f.offset=off:=Nat.eq_of_beq_eq_true hc.1;obtain⟨ds,fp,h1,h2⟩:=h f (by simp);obtain⟨ds2,fp2,h3,h4⟩:=Jel l (off+P.cellsOf f.type) hc.2 (by simp only[VD] at hs;omega) (fun f' hf=>h f' (by simp[hf]));refine⟨ds++ds2,fp++fp2,?_,ds,ds2,rfl,h2,h4⟩;rw[hoff] at h1;have:=ZY _ _ _ _ _ _ h1 h3;rw[show cs.drop (off+P.cellsOf f.type)=(cs.drop off).drop (P.cellsOf f.type) by rw[List.drop_drop],List.take_append_drop] at this;exact this
theorem JgA {H:Type} {enc:TypeId×Value→H} {spare:Nat→Bool} {held:Bool} :∀(n:Nat) (t:TypeId) (fuel:Nat) (cs:List Value) (x:DataW H×List MemPlace),okT P n t=true →
  DataW.trod enc P w 0 spare held fuel t cs=some x→∃ ds fp,XI w ds cs fp∧Ja2 P n t ds
 | 0,t,fuel,cs,x,h,_=>by cases h
 | n+1,t,fuel,cs,x,hok,h=>by
  unfold okT at hok;unfold Ja2;split at hok
  ·rename_i hu;obtain⟨b,rfl,_⟩:=DataW.trod_bool hu h;exact⟨[.v (.bool b)],[],⟨.bool b,[],[],[],rfl,rfl,⟨rfl,rfl,rfl⟩,⟨rfl,rfl⟩,rfl⟩,b,rfl⟩
  ·rename_i k hu;obtain⟨i,rfl,_,_⟩:=DataW.trod_int hu h;exact⟨[.v (.int k i)],[],⟨.int k i,[],[],[],rfl,rfl,⟨rfl,rfl,rfl⟩,⟨rfl,rfl⟩,rfl⟩,i,rfl⟩
  ·rename_i e hu;simp only[JrE] at hok;have hpos:0<P.cellsOf e:=by rw[←Nat.blt_eq];exact hok.2
   rcases DataW.trod_slice hu h with ⟨rfl,_⟩ | ⟨a,len,cap,elems,rest,m,_,rfl,_,_,hle,hm,hlen,hel,_,_⟩
   ·exact⟨[.s []],[],⟨.slice none 0 0,[],[],[],rfl,rfl,⟨none,0,rfl,Nat.le_refl _,.inl ⟨rfl,rfl⟩⟩,⟨rfl,rfl⟩,rfl⟩,[],rfl,by simp,fun x hx=>by simp at hx⟩
   ·have each :∀i,i<len→∃ csi,w.cells? 0 (a.add (i*P.cellsOf e)) (P.cellsOf e)=some csi∧∃ ds fp,XI w ds csi fp∧Ja2 P n e ds:=fun i hi=>by
     have h1:=hel i hi;rw[JrP (by omega)] at h1;obtain⟨csi,h2,h3⟩:=Option.bind_eq_some_iff.1 h1;exact⟨csi,h2,JgA n e m csi _ hok.1 h3⟩
    by_cases h0:len=0
    ·subst h0;exact⟨[.s []],[],⟨.slice (some a) 0 cap,[],[],[],rfl,rfl,⟨some a,cap,rfl,hle,.inl ⟨rfl,rfl⟩⟩,⟨rfl,rfl⟩,rfl⟩,[],rfl,by simp,fun x hx=>by simp at hx⟩
    ·obtain⟨gb,go,gs⟩:=a;have hspot:gs=none∧gb<w.heap.size:=by
      obtain⟨csi,h2,_⟩:=each 0 (by omega);have hb:=World.cells?_block h2 hpos;obtain⟨_,hl,hc⟩:=World.cells?_some h2;have hc0:=hc 0 hpos;rw[JrP (by omega)] at hc0;have:=World.cell?_spot hc0;refine⟨by simpa[Addr.add] using this,?_⟩;rw[show (Addr.add ⟨gb,go,gs⟩ (0*P.cellsOf e)).block=gb by simp[Addr.add]] at hb;exact hb
     obtain⟨rfl,hblt⟩:=hspot;obtain⟨es,fp,h1,h2,h3⟩:=Jh1 (w:=w) (ag:=isAgg P e) (T:=Ja2 P n e) (fun ha ds ht=>Jie ht ha) (b:=gb) (o:=go) (sz:=P.cellsOf e) len 0 fun i hi=>by
      obtain⟨csi,h2,h3⟩:=each i hi;obtain⟨_,hl,hc⟩:=World.cells?_some h2;refine⟨csi,hl,fun j hj=>?_,h3⟩;have:=hc j hj;rw[Yg,Yg] at this;rw[←this,Nat.zero_add]
     refine⟨[.s es],gb::fp,⟨.slice (some ⟨gb,go,none⟩) len cap,[],gb::fp,[],rfl,by simp,⟨some ⟨gb,go,none⟩,cap,by rw[h2],by omega,.inr ⟨gb,go,P.cellsOf e,fp,rfl,hblt,rfl,by simpa using h1⟩⟩,⟨rfl,rfl⟩,rfl⟩,es,rfl,by omega,h3⟩
  ·rename_i fs hu;simp only[JrE] at hok;obtain⟨⟨hc1,hc2⟩,hc3⟩:=hok;have hc2:P.cellsOf t=VD P fs.toList:=Nat.eq_of_beq_eq_true hc2;obtain⟨xs,m,_,_,hl,hxl,hf⟩:=DataW.trod_struct hu h;obtain⟨ds,fp,h1,h2⟩:=Jel (P:=P) (w:=w) (T:=Ja2 P n) (cs:=cs) fs.toList 0 hc1 (by omega) fun f hfm=>by
    obtain⟨i,hi⟩:=List.getElem?_of_mem hfm;have hi':fs[i]? = some f:=by simpa using hi
    have h3:=hf i f hi';have hlt:=(JrQ.1 hi').1;rw[JrP (by omega)] at h3;exact JgA n f.type m _ _ (JrR.1 hc3 f hfm) h3
   exact⟨ds,fp,by simpa using h1,h2⟩
  ·cases hok
theorem JnV {H:Type} {enc:TypeId×Value→H} {t:TypeId} {d:DataW H} {ps:List MemPlace} {v:Value} {n:Nat} (hok:okT P n t=true) (hv:Value.okWide P w .any 0 t v) (h:DataW.Trod enc P w 0 (fun _=>true) true t v d ps) :
  ∃ ds fp,Rd w (D.ofCells (isAgg P t) ds) v fp∧Ja2 P n t ds:=by
 obtain⟨fuel,h⟩:=h;obtain⟨ds,fp,h1,h2⟩:=JgA n t fuel _ _ hok h;refine⟨ds,fp,?_,h2⟩;cases ha:isAgg P t with
 | true =>
  cases n with
  | zero=>cases hok
  | succ n =>
   unfold okT at hok;split at hok
   ·rename_i hu;simp[isAgg,Ys,hu] at ha
   ·rename_i hu;simp[isAgg,Ys,hu] at ha
   ·rename_i hu;simp[isAgg,Ys,hu] at ha
   ·rename_i fs hu;obtain⟨cs,rfl,_⟩:=okWide_struct hu hv;exact⟨cs.toList,by simp,by simpa[Value.cells] using h1⟩
   ·cases hok
 | false =>
  obtain⟨d0,rfl⟩:=Jie h2 ha;have hcv:v.cells.toList=[v]:=by
   cases n with
   | zero=>cases hok
   | succ n =>
    unfold okT at hok;split at hok
    ·rename_i hu;obtain⟨_,rfl⟩:=okWide_bool hu hv;rfl
    ·rename_i hu;obtain⟨_,rfl⟩:=okWide_int hu hv;rfl
    ·rename_i hu;obtain⟨_,_,_,rfl⟩:=okWide_slice hu hv;rfl
    ·rename_i fs hu;simp[isAgg,Ys,hu] at ha
    ·cases hok
  rw[hcv] at h1;obtain⟨v',vs,f1,f2,e,rfl,h3,⟨rfl,rfl⟩,_⟩:=h1;cases e;simpa[D.ofCells] using h3
def Jkf (P:Program) (n:Nat):List TypeId→List (List D)→Prop
 | [],dss=>dss=[]
 | t::ts,dss=>∃ ds rest,dss=ds::rest∧Ja2 P n t ds∧Jkf P n ts rest
def Jc9 (P:Program):List TypeId→List (List D)→List D
 | t::ts,ds::dss=>D.ofCells (isAgg P t) ds::Jc9 P ts dss
 | _,_=>[]
theorem Je2 {H:Type} {enc:TypeId×Value→H} {n:Nat} :∀(ts:List TypeId) (vs:List Value) (ds:List (DataW H)) (ps:List MemPlace),(∀t∈ts,okT P n t=true)→(∀(j:Nat) t v,ts[j]? = some t→vs[j]? = some v→Value.okWide P w .any 0 t v) →
  DataW.TrodAll enc P w 0 (fun _=>true) true ts vs ds ps→∃ dss fp,Kn w (Jc9 P ts dss) vs fp∧Jkf P n ts dss∧ds.length=ts.length
 | [],[],[],ps,_,_,_=>⟨[],[],⟨rfl,rfl⟩,rfl,rfl⟩
 | t::ts,v::vs,d::ds,ps,hok,hv,⟨p,q,h1,h2,_⟩=>by
  obtain⟨x,fp,h3,h4⟩:=JnV (hok t (by simp)) (hv 0 t v rfl rfl) h1;obtain⟨dss,fp2,h5,h6,h7⟩:=Je2 ts vs ds q (fun t ht=>hok t (by simp[ht])) (fun j t v h h'=>hv (j+1) t v (by simpa using h) (by simpa using h')) h2;exact⟨x::dss,fp++fp2,⟨v,vs,fp,fp2,rfl,rfl,h3,h5⟩,⟨x,dss,rfl,h4,h6⟩,by simp[h7]⟩
 | [],_::_,_,_,_,_,h=>h.elim
 | [],[],_::_,_,_,_,h=>h.elim
 | _::_,[],_,_,_,_,h=>h.elim
 | _::_,_::_,[],_,_,_,h=>h.elim
theorem VS {H:Type} {enc:TypeId×Value→H} (hlo:laidOutB P=true) {W W':World} {sp:Nat→Bool} :∀(ts:List TypeId) (vs:List Value) (ds:List (DataW H)) (ps:List MemPlace),(∀t∈ts,P.readableRec t=true∧t<P.types.size) →
  DataW.TrodAll enc P W 0 (fun _=>true) true ts vs ds ps→(∀p∈ps,W.sameAt W' p)→(∀p∈ps,sp p.block=true)→DataW.TrodAll enc P W' 0 sp true ts vs ds ps
 | [],[],[],ps,_,h,_,_=>h
 | t::ts,v::vs,d::ds,ps,hr,⟨p,q,h1,h2,e⟩,hs,hsp=>by
  subst e;exact⟨p,q,WideElems.Trod_stays hlo (hr t (by simp)).1 (hr t (by simp)).2 h1 (fun x hx=>hs x (by simp[hx])) (fun x hx=>hsp x (by simp[hx])),
   VS hlo ts vs ds q (fun t ht=>hr t (by simp[ht])) h2 (fun x hx=>hs x (by simp[hx])) (fun x hx=>hsp x (by simp[hx])),rfl⟩
 | [],_::_,_,_,_,h,_,_=>h.elim
 | [],[],_::_,_,_,h,_,_=>h.elim
 | _::_,[],_,_,_,h,_,_=>h.elim
 | _::_,_::_,[],_,_,h,_,_=>h.elim
theorem Jju {L:VP} {Φ:Fix P} (hm:P.follows .mixedOrders=true) (hL:YS P (Kj L) L Φ) (hI:Φ.I w) {f:FuncId} {fl:Bool} {pars:List Sh} (hs:Kj L f=some (.d ⟨pars,.one (.one .b),fl⟩)) {args ls:List D} (hfl:Jj pars args=some ls)
  (hEv:Ev L f ls [.v (.bool true)]) {vs:List Value} {fp:List Nat} (hr:Kn w args vs fp):Calls P f vs.toArray w fun e w'=>e = .returned (.bool true)∧Below w.heap.size w w':=by
 obtain⟨N,hN⟩:=hEv;have hfn:(QJ (Kj L) (tbN L N)).fns f=some { F:=dspec ⟨pars,.one (.one .b),fl⟩ ((tbN L N).call f),flat:=fl }:=by
  unfold QJ;simp only[hs]
 have h:=((Jqz hm hL N).fns f _ hfn).2 w args vs fp (.v (.bool true)) hI hr (by
  show (Jj pars args).bind _=_;rw[hfl];show (((tbN L N).call f ls).bind fun os=>Yx (.one (.one .b)) os)=_;rw[hN];rfl)
 refine h.mono fun e w' ⟨val,fp',he,hv,_,hb⟩=>?_;obtain⟨rfl,_⟩:=hv;exact⟨he,hb⟩
end
theorem JqA {C:Checked} {os:Os} {H:Type} {enc:TypeId×Value→H} {L:VP} {f:FuncId} {fn:Func} {s:ChangeSpec} {conds:List PathCond} {ts:List TypeId} {tb:TypeId} {pars:List Sh} {n:Nat} {fl fresh handsOn again:Bool} {Φ:Fix C.prog} {X:World→Array Value→Prop} (hXh :∀(w w':World) (args:Array Value),w.heap=w'.heap→X w args→X w' args) (hXI :∀w args,X w args→Φ.I w) (hown:ownKnob C.prog.godebug=none) (started:os.Started) (hi:C.prog.inits.idxOf? f=none) (hf:C.prog.funcs[f]? = some fn)
  (wit : ∃ (w:World) (tape:Tape) (i:Input),w.os=os∧World.Shaped C.prog (w.forCall tape i)∧i.vars=[]∧Input.okWide C.prog (w.forCall tape i) Reach.any w.heap.size f i ∧
   ((s.pre enc C.prog fn conds false (w.forCall tape i).memory i.args∧X (w.forCall tape i).memory i.args)∧sizedMet enc C.prog fn (OpenSpec.ofChange s) false (w.forCall tape i).memory i.args)∧Assume.holds {} C.prog (lone (Frame.enter C.prog f i.args CallKind.normal) [] (w.forCall tape i)))
  (hpar:fn.params.toList=ts) (hres:fn.resultTypes = #[tb]) (hokT:ts.all (okT C.prog n)=true) (htb:C.prog.underlying tb=some .bool)
  (hlo:laidOutB C.prog=true) (hread:ts.all (fun t=>C.prog.readableRec t&&Nat.blt t C.prog.types.size)=true) (hvars:s.vars=[]) (hs :∀ds:List (DataW H),ds.length=ts.length→s.fn H ds={ results:=[.lit (.bool true)],args:=ds })
  (hm:C.prog.follows .mixedOrders=true) (hL:YS C.prog (Kj L) L Φ) (hsg:Kj L f=some (.d ⟨pars,.one (.one .b),fl⟩))
  (hEv :∀dss,Jkf C.prog n ts dss→∃ ls,Jj pars (Jc9 C.prog ts dss)=some ls∧Ev L f ls [.v (.bool true)]) :
  ReturnsInHanded {} C os f .any (fun w args=>(s.pre enc C.prog fn conds false w args∧X w args)∧sizedMet enc C.prog fn (OpenSpec.ofChange s) false w args) (s.post enc C.prog fn false fresh handsOn again):=by
 refine returnsInHanded_of_change_and (C:=C) hXh hown started hi hf wit ?_;intro W base args ds gs before hval hW _ _ hx _;have hW':=hW;obtain⟨p,q,hA,hV,rfl,hfz,hnd⟩:=hW;have hA0:=hA;rw[hpar] at hA;rw[hvars] at hV;obtain⟨rfl,rfl⟩:=trodVars_none hV;obtain⟨dss,fp,hrd,hty,hlen⟩:=Je2 ts args.toList ds p (fun t ht=>JrR.1 hokT t ht) (fun j t v h1 h2=>hval j t v (by rw[←hpar] at h1;simpa using h1) (by simpa using h2)) hA;obtain⟨ls,hfl,hev⟩:=hEv dss hty;have hcall:=Jju hm hL (hXI W args hx) hsg hfl hev hrd;rw[Array.toArray_toList] at hcall;refine hcall.mono fun e W' ⟨he,hb⟩=>⟨_,he,?_⟩;have hlt :∀x∈p,x.block<W.heap.size:=fun x hx=>hW'.lt x (by simpa using hx);refine Jd9 (pa:=p) (pv:=[]) hW' (fun _ _ _=>?_) (fun sp hsp=>?_) (fun _ _=>by rw[hvars,List.append_nil,hs ds hlen];rfl) rfl hb ?_
 ·rw[List.append_nil,hs ds hlen,hres];exact trodAll_mk1 (shut_bool htb true)
 ·rw[List.append_nil,hs ds hlen,hpar];refine VS hlo ts args.toList ds p (fun t ht=>?_) hA (fun x hx=>hb.same (hlt x hx)) (fun x hx=>hsp x (by simpa using hx));have:=JrR.1 hread t ht;simp only[JrE] at this;exact⟨this.1,by rw[←Nat.blt_eq];exact this.2⟩
 ·exact ok_one hres rfl (okWide_bool_mk htb true)
inductive Ty where
 | i (k:IntKind)
 | b
 | sl (e:Ty)
 | st (fs:List Ty)
def Ty.agg:Ty→Bool
 | .st _=>true
 | _=>false
mutual
def Us:Ty→List D→Prop
 | .b,ds=>∃ b,ds=[.v (.bool b)]
 | .i k,ds=>∃ n,ds=[.v (.int k n)]
 | .sl e,ds=>∃ es,ds=[.s es]∧es.length≤maxLen∧∀x∈es,∃ cs,Us e cs∧x=D.ofCells e.agg cs
 | .st fs,ds=>Jnr fs ds
def Jnr:List Ty→List D→Prop
 | [],ds=>ds=[]
 | f::fs,ds=>∃ a b,ds=a++b∧Us f a∧Jnr fs b
end
def KY (T:TypeId→Option Ty):List Field→Option (List Ty)
 | []=>some []
 | f::fs=>match T f.type,KY T fs with
  | some a,some l=>some (a::l)
  | _,_=>none
def Wv (P:Program):Nat→TypeId→Option Ty
 | 0,_=>none
 | n+1,t=>match P.underlying t with
  | some .bool=>some .b
  | some (.int k)=>some (.i k)
  | some (.slice e)=>match Wv P n e with
   | some s=>some (.sl s)
   | none=>none
  | some (.struct fs)=>match KY (Wv P n) fs.toList with
   | some l=>some (.st l)
   | none=>none
  | _=>none
theorem Jer {P:Program} {n:Nat} {t:TypeId} {s:Ty} (h:Wv P n t=some s):isAgg P t=s.agg:=by
 cases n with
 | zero=>cases h
 | succ n =>
  unfold Wv at h;split at h
  ·rename_i hu;cases h;simp[isAgg,Ys,hu,Ty.agg]
  ·rename_i hu;cases h;simp[isAgg,Ys,hu,Ty.agg]
  ·rename_i hu;split at h
   ·cases h;simp[isAgg,Ys,hu,Ty.agg]
   ·cases h
  ·rename_i hu;split at h
   ·cases h;simp[isAgg,Ys,hu,Ty.agg]
   ·cases h
  ·cases h
theorem Jkx {T:TypeId→List D→Prop} {S:TypeId→Option Ty} (h :∀t s ds,S t=some s→T t ds→Us s ds) :∀(fs:List Field) (l:List Ty) (ds:List D),KY S fs=some l→JoJ T fs ds→Jnr l ds
 | [],l,ds,hl,ht=>by cases hl;exact ht
 | f::fs,l,ds,hl,⟨a,b,e,h1,h2⟩=>by
  simp only[KY] at hl;split at hl
  ·rename_i s l' hs hl';cases hl;exact⟨a,b,e,h _ _ _ hs h1,Jkx h fs l' b hl' h2⟩
  ·cases hl
theorem JfO {P:Program} :∀(n:Nat) (t:TypeId) (s:Ty) (ds:List D),Wv P n t=some s→Ja2 P n t ds→Us s ds
 | 0,_,_,_,h,_=>by cases h
 | n+1,t,s,ds,h,ht=>by
  unfold Wv at h;unfold Ja2 at ht;split at h
  ·rename_i hu;rw[hu] at ht;cases h;exact ht
  ·rename_i hu;rw[hu] at ht;cases h;exact ht
  ·rename_i e hu;rw[hu] at ht;split at h
   ·rename_i s' hs;cases h;obtain⟨es,h1,h2,h3⟩:=ht;refine⟨es,h1,h2,fun x hx=>?_⟩;obtain⟨cs,h4,h5⟩:=h3 x hx;exact⟨cs,JfO n e s' cs hs h4,by rw[←Jer hs];exact h5⟩
   ·cases h
  ·rename_i fs hu;rw[hu] at ht;split at h
   ·rename_i l hl;cases h;exact Jkx (fun t s ds=>JfO n t s ds) fs.toList l ds hl ht
   ·cases h
  ·cases h
def JoE:List Ty→List (List D)→Prop
 | [],dss=>dss=[]
 | s::ss,dss=>∃ ds rest,dss=ds::rest∧Us s ds∧JoE ss rest
def JgX:List Ty→List (List D)→List D
 | s::ss,ds::dss=>D.ofCells s.agg ds::JgX ss dss
 | _,_=>[]
def Jb7 (P:Program) (n:Nat):List TypeId→Option (List Ty)
 | []=>some []
 | t::ts=>match Wv P n t,Jb7 P n ts with
  | some s,some l=>some (s::l)
  | _,_=>none
theorem JkJ {P:Program} {n:Nat} :∀(ts:List TypeId) (ss:List Ty) (dss:List (List D)),Jb7 P n ts=some ss→Jkf P n ts dss→JoE ss dss∧Jc9 P ts dss=JgX ss dss
 | [],ss,dss,h,ht=>by
  cases h;rw[show dss=[] from ht];exact⟨rfl,rfl⟩
 | t::ts,ss,dss,h,⟨ds,rest,e,h1,h2⟩=>by
  subst e;simp only[Jb7] at h;split at h
  ·rename_i s l hs hl;cases h;obtain⟨h3,h4⟩:=JkJ ts l rest hl h2;exact⟨⟨ds,rest,rfl,JfO n t s ds hs h1,h3⟩,by simp only[Jc9,JgX,Jer hs,h4]⟩
  ·cases h
theorem liftSX {C:Checked} {os:Os} {H:Type} {enc:TypeId×Value→H} {L:VP} {f:FuncId} {fn:Func} {s:ChangeSpec} {conds:List PathCond} {ts:List TypeId} {ss:List Ty} {tb:TypeId} {pars:List Sh} {n:Nat} {fl fresh handsOn again:Bool} {Φ:Fix C.prog} {X:World→Array Value→Prop} (hXh :∀(w w':World) (args:Array Value),w.heap=w'.heap→X w args→X w' args) (hXI :∀w args,X w args→Φ.I w) (hown:ownKnob C.prog.godebug=none) (started:os.Started) (hi:C.prog.inits.idxOf? f=none) (hf:C.prog.funcs[f]? = some fn)
  (wit : ∃ (w:World) (tape:Tape) (i:Input),w.os=os∧World.Shaped C.prog (w.forCall tape i)∧i.vars=[]∧Input.okWide C.prog (w.forCall tape i) Reach.any w.heap.size f i ∧
   ((s.pre enc C.prog fn conds false (w.forCall tape i).memory i.args∧X (w.forCall tape i).memory i.args)∧sizedMet enc C.prog fn (OpenSpec.ofChange s) false (w.forCall tape i).memory i.args)∧Assume.holds {} C.prog (lone (Frame.enter C.prog f i.args CallKind.normal) [] (w.forCall tape i)))
  (hpar:fn.params.toList=ts) (hres:fn.resultTypes = #[tb]) (hokT:ts.all (okT C.prog n)=true) (hsh:Jb7 C.prog n ts=some ss) (htb:C.prog.underlying tb=some .bool)
  (hlo:laidOutB C.prog=true) (hread:ts.all (fun t=>C.prog.readableRec t&&Nat.blt t C.prog.types.size)=true) (hvars:s.vars=[]) (hs :∀ds:List (DataW H),ds.length=ts.length→s.fn H ds={ results:=[.lit (.bool true)],args:=ds })
  (hm:C.prog.follows .mixedOrders=true) (hL:YS C.prog (Kj L) L Φ) (hsg:Kj L f=some (.d ⟨pars,.one (.one .b),fl⟩))
  (hEv :∀dss,JoE ss dss→∃ ls,Jj pars (JgX ss dss)=some ls∧Ev L f ls [.v (.bool true)]) :
  ReturnsInHanded {} C os f .any (fun w args=>(s.pre enc C.prog fn conds false w args∧X w args)∧sizedMet enc C.prog fn (OpenSpec.ofChange s) false w args) (s.post enc C.prog fn false fresh handsOn again) :=
 JqA hXh hXI hown started hi hf wit hpar hres hokT htb hlo hread hvars hs hm hL hsg fun dss ht=>by
  obtain⟨h1,h2⟩:=JkJ ts ss dss hsh ht;rw[h2];exact hEv dss h1
theorem Wu {α:Type} {f:α→D} {p:α→Prop} :∀{es:List D},(∀x∈es,∃ y,p y∧x=f y)→∃ l:List α,es=l.map f∧∀y∈l,p y
 | [],_=>⟨[],rfl,fun y hy=>by simp at hy⟩
 | e::es,h=>by
  obtain⟨y,hy,rfl⟩:=h e (by simp);obtain⟨l,rfl,hl⟩:=Wu (es:=es) (fun x hx=>h x (by simp[hx]));exact⟨y::l,rfl,fun z hz=>by
   rcases JrX.1 hz with rfl | hz
   ·exact hy
   ·exact hl z hz⟩
end Go.Tm
end
section
namespace Go.Tm
open Go.IntKind (i64)
def Fix.tab (P:Program) (name:String) (k:IntKind) (zs:List Int):Fix P where
 S:=(P.globalNamed name).toList
 I w:=Lib.TabIs P w name k zs
 lt w h b hb:=by
  unfold Lib.TabIs World.var? at h;cases hg:P.globalNamed name with
  | none=>rw[hg] at hb;simp at hb
  | some g =>
   rw[hg] at hb h;simp only[Option.toList_some,JrW] at hb;subst hb;simp only[JrS] at h;split at h
   ·rename_i hc;exact(JrQ.1 hc).1
   ·cases h
 keep w w' h hs:=by
  unfold Lib.TabIs World.var? at h ⊢;cases hg:P.globalNamed name with
  | none=>rw[hg] at h;simp at h
  | some g =>
   rw[hg] at h hs;simp only[JrS] at h ⊢;rw[hs g (by simp)];exact h
end Go.Tm
end
section
open Go.RowKit
namespace Go.Tm
open Go.IntKind (i64)
def JbO:D→Option Int
 | .v (.int .i64 n)=>if -9223372036854775807≤n∧n≤9223372036854775807 then some n else none
 | _=>none
abbrev JbV (l:List UInt8):ByteArray:=⟨l.toArray⟩
def Qx (l:List UInt8):D:= .v (.string ⟨l.toArray⟩)
def J4 (l:List Int):List UInt8:=l.flatMap fun n=>32::Lib.itoa n
def joinedF:List D→Option (List D)
 | [.s es]=>if es.length≤4096 then(es.mapM JbO).map fun l=>[Qx (J4 l)] else none
 | _=>none
def digitsF:List D→Option (List D)
 | [d]=>(JbO d).map fun n=>[Qx (Lib.itoa n)]
 | _=>none
def Jd4:D→Int
 | .v (.int _ n)=>n
 | _=>0
def JfT:D→Bool
 | .g (.v (.bool b)::_)=>b
 | _=>false
def JpB:D→List Int
 | .g [_,.s a,_]=>a.map Jd4
 | _=>[]
def JeY (b:List Int) (l:List D):List Int:=l.foldl (fun v g=>if JfT g then List.zipWith (· + ·) v (JpB g) else v) b
def Jpw:List D→Option (List D)
 | [.v (.int _ r),.s b,.s gs]=>some [.v (.bool (!(gs.all JfT&&(decide (r≠200)&&(decide ((JeY (b.map Jd4) gs).length=3)&&(JeY (b.map Jd4) gs).all fun x=>decide (-10000≤x)&&decide (x≤10000))))))]
 | _=>none
theorem Je8 {d:D} {n:Int} (h:JbO d=some n):d = .v (.int .i64 n)∧-9223372036854775807≤n∧n≤9223372036854775807:=by
 unfold JbO at h;split at h
 ·split at h
  ·rename_i hb;simp only[JrD] at h;subst h;exact⟨rfl,hb⟩
  ·cases h
 ·cases h
theorem JiB :∀{es:List D} {l:List Int},es.mapM JbO=some l→es=l.map (fun n=>D.v (.int .i64 n))∧∀n∈l,-9223372036854775807≤n∧n≤9223372036854775807
 | [],l,h=>by simp at h;subst h;simp
 | e::es,l,h=>by
  simp only[List.mapM_cons,Option.bind_eq_bind,Option.bind_eq_some_iff,Option.pure_def,JrD] at h;obtain⟨n,h1,l',h2,rfl⟩:=h;obtain⟨rfl,hb⟩:=Je8 h1;obtain⟨rfl,hl⟩:=JiB h2;exact⟨rfl,by simpa using ⟨hb,hl⟩⟩
theorem Jbm :∀{l:List Int},(∀n∈l,-9223372036854775807≤n∧n≤9223372036854775807)→(l.map fun n=>D.v (.int .i64 n)).mapM JbO=some l
 | [],_=>rfl
 | n::l,h=>by
  have h1:=h n (by simp);have:JbO (.v (.int .i64 n))=some n:=by simp[JbO,h1]
  simp[this,Jbm (l:=l) fun m hm=>h m (by simp[hm])]
section
variable {P:Program} {Φ:Fix P} {f:FuncId}
theorem JeS {w:World} :∀(l:List Int) (b o:Nat) (fp:List Nat),Ub w (l.map fun n=>D.v (.int .i64 n)) 1 b o fp→∀i (h:i<l.length),w.cell? ⟨b,o+i,none⟩=some (.int .i64 l[i])
 | [],_,_,_,_,i,h=>by simp at h
 | n::l,b,o,fp,⟨val,f1,f2,_,⟨e,_,_⟩,_,hc,h2,_⟩,i,h=>by
  subst e;cases i with
  | zero=>have:=hc 0 (by omega);simpa[Value.cells] using this
  | succ i =>
   have:=JeS l b (o+1) f2 h2 i (by simpa using h);rw[show o+1+i=o+(i+1) by omega] at this;simpa using this
theorem Jo5 {w:World} {n:Int} {l:List D} {sz b o:Nat} {fp:List Nat} (h:Ub w (D.v (.int .i64 n)::l) sz b o fp):sz=1:=by
 obtain⟨val,f1,f2,_,⟨e,_,_⟩,hs,_⟩:=h;subst e;rw[←hs];rfl
theorem JlE (hen :∀args w,(callFunc f args).run P w = .ok (.enter f args) w)
  (hw :∀(A:Option Addr) (cap:Nat) (l:List Int) (w:World),Φ.I w→l.length≤4096→l.length≤cap→(∀n∈l,-9223372036854775807≤n∧n≤9223372036854775807) →
   (l=[]∨∃ b o,A=some ⟨b,o,none⟩∧b<w.heap.size∧∀i (h:i<l.length),w.cell? ⟨b,o+i,none⟩=some (.int .i64 l[i])) →
   Calls P f #[.slice A l.length cap] w fun e w'=>e = .returned (.string ⟨(J4 l).toArray⟩)∧Below w.heap.size w w') :
  FnOk P Φ f (dspec ⟨[.one .s],.one (.one .d),true⟩ joinedF):=by
 refine⟨hen,fun w ds vals fps r hI hr hF=>?_⟩;obtain⟨d,rfl⟩ : ∃ d,ds=[d]:=by
  unfold dspec at hF
  match ds,hF with
  | [],h=>simp[Jj] at h
  | [d],_=>exact⟨d,rfl⟩
  | _::_::_,h=>simp[Jj] at h
 obtain⟨v,vs,f1,f2,rfl,rfl,h1,rfl,rfl⟩:=hr;unfold dspec at hF;simp only[Jj,JrG,JrS] at hF;obtain⟨os,h2,h3⟩:=Option.bind_eq_some_iff.1 hF;unfold joinedF at h2;split at h2
 ·rename_i es e;simp only[List.cons.injEq,and_true] at e;subst e;split at h2
  ·rename_i hlen;obtain⟨l,hl,rfl⟩:=Option.map_eq_some_iff.1 h2;obtain⟨rfl,hb⟩:=JiB hl;have h3:some (Qx (J4 l))=some r:=h3;cases h3;obtain⟨A,cap,rfl,hc,hd⟩:=h1;simp only[JrN] at hlen hc ⊢;refine(hw A cap l w hI hlen hc hb ?_).mono ?_
   ·rcases hd with ⟨e,_⟩ | ⟨b,o,sz,fp',rfl,hbl,_,he⟩
    ·exact .inl (by simpa using e)
    ·cases l with
     | nil=>exact .inl rfl
     | cons n l =>
      have hsz:=Jo5 he;subst hsz;exact .inr ⟨b,o,rfl,hbl,JeS (n::l) b o fp' he⟩
   ·rintro e w' ⟨rfl,hbw⟩;exact⟨_,[],rfl,⟨rfl,rfl,rfl⟩,fun b hb=>by simp at hb,hbw⟩
  ·cases h2
 ·cases h2
theorem Jk6 (hen :∀args w,(callFunc f args).run P w = .ok (.enter f args) w)
  (hw :∀(n:Int) (w:World),-9223372036854775807≤n→n≤9223372036854775807 →
   Calls P f #[.int .i64 n] w fun e w'=>e = .returned (.string ⟨(Lib.itoa n).toArray⟩)∧Below w.heap.size w w') :
  FnOk P Φ f (dspec ⟨[.one (.i .i64)],.one (.one .d),true⟩ digitsF):=by
 refine⟨hen,fun w ds vals fps r hI hr hF=>?_⟩;obtain⟨d,rfl⟩ : ∃ d,ds=[d]:=by
  unfold dspec at hF
  match ds,hF with
  | [],h=>simp[Jj] at h
  | [d],_=>exact⟨d,rfl⟩
  | _::_::_,h=>simp[Jj] at h
 obtain⟨v,vs,f1,f2,rfl,rfl,h1,rfl,rfl⟩:=hr;unfold dspec at hF;simp only[Jj,JrG,JrS] at hF;obtain⟨os,h2,h3⟩:=Option.bind_eq_some_iff.1 hF;unfold digitsF at h2;split at h2
 ·rename_i d' e;simp only[List.cons.injEq,and_true] at e;subst e;obtain⟨n,hn,rfl⟩:=Option.map_eq_some_iff.1 h2;obtain⟨rfl,hb⟩:=Je8 hn;have h3:some (Qx (Lib.itoa n))=some r:=h3;cases h3;obtain⟨rfl,_,_⟩:=h1;refine(hw n w hb.1 hb.2).mono ?_;rintro e w' ⟨rfl,hbw⟩;exact⟨_,[],rfl,⟨rfl,rfl,rfl⟩,fun b hb=>by simp at hb,hbw⟩
 ·rename_i e;exact absurd rfl (e d)
end
end Go.Tm
end
section
open Go.ChangeShapes Go.WideShapes Go.ChangeAt Go.RowKit
namespace Go.Tm
open Go.IntKind (i64)
theorem JlQ {P:Program} {W:World} {name:String} {k:IntKind} {zs:List Int} {x y z:String×DataW Unit} {g:Nat} {t e:TypeId} {n:Nat} (hp:([x,y,z].all fun x=>x.2.handleName?.isNone)=true) (hz:z=(name,Lib.tabData k zs))
  (hg:P.globalNamed name=some g) (hty:(P.globals[g]?).map (·.type)=some t) (ht:P.underlying t=some (.array n e)) (he:P.underlying e=some (.int k)) (hce:P.cellsOf e=1) (hct:P.cellsOf t=n)
  (h:laidMetH P [x,y,z] W):Lib.TabIs P W name k zs:=by
 rw[MakeChecks.laidMetH_plain _ _ _ hp] at h;subst hz;exact Lib.tabIs_of_head hg hty ht he hce hct (laidMet.tail (laidMet.tail h))
end Go.Tm
end
section
namespace Go.Tm
open Go.IntKind (i64)
theorem Jb9 (l:List Int) (x:Int):dL l++[dI x]=dL (l++[x]):=by simp[dL]
theorem Kk (l:List Int) (k:Nat) (x:Int):(dL l).set k (dI x)=dL (l.set k x):=by simp[dL,List.map_set]
def Lim (m:Int) (l:List Int):Prop:=∀x∈l,-m≤x∧x≤m
theorem Lim.set {m:Int} {l:List Int} (h:Lim m l) {x:Int} (hx : -m≤x∧x≤m) (k:Nat):Lim m (l.set k x):=by
 intro y hy;rcases Jr3 hy with hy | hy
 ·exact h y hy
 ·subst hy;exact hx
theorem Lim.take {m:Int} {l:List Int} (h:Lim m l) (n:Nat):Lim m (l.take n):=fun y hy=>h y (Jr2 hy)
theorem Lim.mono {m m':Int} {l:List Int} (h:Lim m l) (hm:m≤m'):Lim m' l:=fun y hy=>⟨by have:=(h y hy).1;omega,by have:=(h y hy).2;omega⟩
structure Frm where
 c:List Int
 d:List Int
 k:Int
 deriving DecidableEq
def Frm.zero:Frm:=⟨[0,0,0],[0,0],0⟩
def Frm.none:Frm:=⟨[],[],0⟩
def Frm.cells (f:Frm):List D:=[.s (dL f.c),.s (dL f.d),dI f.k]
def Frm.g (f:Frm):D:= .g f.cells
def dF (l:List Frm):List D:=l.map Frm.g
structure Jc where
 kind:Int
 pot:Int
 skip:Int
 f:Frm
 deriving DecidableEq
def Jc.cells (l:Jc):List D:=[dI l.kind,dI l.pot,dI l.skip,.s (dL l.f.c),.s (dL l.f.d),dI l.f.k]
def Jc.g (l:Jc):D:= .g l.cells
def Ji (l:List Jc):List D:=l.map Jc.g
def Jf (l:List (List Jc)):List D:=l.map fun a=> .s (Ji a)
structure Row where
 guards:List Frm
 adds:List Frm
 tells:List Frm
 stop:Bool
 deriving DecidableEq
def Row.cells (r:Row):List D:=[.s (dF r.guards),.s (dF r.adds),.s (dF r.tells),dB r.stop]
def Row.g (r:Row):D:= .g r.cells
def JV (l:List Row):List D:=l.map Row.g
def inB (n a b:Int):Bool:=decide (a≤n)&&decide (n≤b)
def JE (n:Int) (most:Int) (l:List Int):Bool:=decide ((l.length:Int)=n)&&l.all fun x=>inB x (0-most) most
def Frm.ok (f:Frm):Bool:=JE 3 10000000 f.c&&JE 2 10000000 f.d&&inB f.k (-10000000) 10000000
def Frm.small (f:Frm):Bool:=JE 3 2 f.c&&JE 2 2 f.d&&inB f.k (-20) 20
def Jc.ok (l:Jc):Bool :=
 if l.kind=1 then decide (l.pot=0)&&inB l.skip 1 6&&l.f.small
 else if l.kind=2 then inB l.pot 0 2&&decide (l.skip=0)&&l.f.small
 else if l.kind=3 then decide (l.pot=0)&&decide (l.skip=0)&&l.f.small
 else decide (l.kind=4)&&decide (l.pot=0)&&decide (l.skip=0)&&decide (((l.f.c.length:Int)+l.f.d.length)=0)&&decide (l.f.k=0)
def XQ (a:List Jc):Nat:=a.countP fun l=>decide (l.kind=1)
def Qh (a:List Jc):Bool:=a.all Jc.ok&&decide ((a.length:Int)≤6)&&decide ((XQ a:Int)≤3)
def QK (as:List (List Jc)):Bool:=inB as.length 1 4&&as.all Qh
theorem JS (l:List Frm):(dF l).length=l.length:=by simp[dF]
theorem JU (l:List Jc):(Ji l).length=l.length:=by simp[Ji]
theorem QO (l:List (List Jc)):(Jf l).length=l.length:=by simp[Jf]
theorem X3 (l:List Row):(JV l).length=l.length:=by simp[JV]
theorem Jj8 {α:Type} {f:α→D} {l:List α} {k:Int} (h0:0≤k) (h1:k<l.length) : ∃ x,l[k.toNat]? = some x∧(l.map f)[k.toNat]? = some (f x):=by
 have:k.toNat<l.length:=by omega
 exact⟨l[k.toNat],by simp[this],by simp[this]⟩
theorem JG {n a b:Int}:inB n a b=true↔a≤n∧n≤b:=by simp[inB]
theorem JB {n m:Int} {l:List Int}:JE n m l=true↔(l.length:Int)=n∧∀x∈l,-m≤x∧x≤m:=by
 simp only[JE,JrE,decide_eq_true_eq,JrR,JG,Int.zero_sub]
theorem tS1 {α:Type} {l:List α} {k:Nat} {x:α} (h:l[k]? = some x):l.take (k+1)=l.take k++[x]:=by
 rw[List.take_add_one,h];rfl
theorem Q2 {α:Type} {p:α→Bool} {l:List α} {k:Nat} {x:α} (h:l[k]? = some x) (ha:(l.take k).all p=true) (hx:p x=true):(l.take (k+1)).all p=true:=by
 rw[tS1 h,List.all_append,ha];simp[hx]
theorem Za {α:Type} {p:α→Bool} {l:List α} {k:Nat} {x:α} (h:l[k]? = some x) (hx:p x=false):l.all p=false:=by
 apply Bool.eq_false_iff.2;intro ha;rw[JrR] at ha;rw[ha x (JrL h)] at hx;cases hx
end Go.Tm
end
section
namespace Go.Tm
open Go.IntKind (i64)
theorem ZU {n y A B:Int} (hn : -A≤n∧n≤A) (hy : -B≤y∧y≤B) : -(A*B)≤n*y∧n*y≤A*B:=by
 have h1:n.natAbs≤A.toNat:=by omega
 have h2:y.natAbs≤B.toNat:=by omega
 have h3:=Nat.mul_le_mul h1 h2;rw[←Int.natAbs_mul] at h3;have e:((A.toNat*B.toNat:Nat):Int)=A*B:=by
  rw[Int.natCast_mul,Int.toNat_of_nonneg (by omega),Int.toNat_of_nonneg (by omega)]
 omega
def JJ (a b:List Int) (n:Int):List Int:=List.zipWith (fun x y=>x+n*y) a b
def JI (a b:Frm) (n:Int):Frm:=⟨JJ a.c b.c n,JJ a.d b.d n,a.k+n*b.k⟩
def JA (v:Nat):Frm:=⟨[0,0,0].set v 1,[0,0],0⟩
def Qu (f:Frm):Frm:=let x:=JI Frm.zero f (-1); ⟨x.c,x.d,x.k-1⟩
def Jo (f:Frm) (pots:List Frm):Frm:=(List.zip pots f.c).foldl (fun x q=>JI x q.1 q.2) ⟨[0,0,0],f.d,f.k⟩
structure Std (M:Int) (f:Frm):Prop where
 c:f.c.length=3
 d:f.d.length=2
 lc:Lim M f.c
 ld:Lim M f.d
 k : -M≤f.k∧f.k≤M
theorem Std.mono {M M':Int} {f:Frm} (h:Std M f) (hm:M≤M'):Std M' f:=⟨h.c,h.d,h.lc.mono hm,h.ld.mono hm,by have:=h.k;omega⟩
theorem Std.fit {M:Int} {f:Frm} (h:Std M f):f.c.length≤2000000∧f.d.length≤2000000:=by have:=h.c;have:=h.d;omega
theorem UD (a b:List Int) (n:Int):(JJ a b n).length=min a.length b.length:=by simp[JJ]
theorem JhD {a b:List Int} {n:Int} {i:Nat} (h1:i<a.length) (h2:i<b.length):(JJ a b n)[i]? = some (a.getD i 0+n*b.getD i 0):=by
 unfold JJ;rw[List.getElem?_zipWith,JrP h1,JrP h2];simp[JrH,h1,h2]
theorem JcQ {a b:List Int} {n A B N:Int} (ha:Lim A a) (hb:Lim B b) (hn : -N≤n∧n≤N):Lim (A+N*B) (JJ a b n):=by
 intro x hx;simp only[JJ,List.mem_iff_getElem?,List.getElem?_zipWith] at hx;obtain⟨i,hi⟩:=hx;cases h1:a[i]? with
 | none=>simp[h1] at hi
 | some p =>
  cases h2:b[i]? with
  | none=>simp[h1,h2] at hi
  | some q =>
   simp only[h1,h2,JrD] at hi;subst hi;have hp:=ha p (JrL h1);have hq:=hb q (JrL h2);have:=ZU hn hq;omega
theorem Qs {a b:Frm} {n A B N:Int} (ha:Std A a) (hb:Std B b) (hn : -N≤n∧n≤N):Std (A+N*B) (JI a b n):=by
 refine⟨by simp[JI,UD,ha.c,hb.c],by simp[JI,UD,ha.d,hb.d],JcQ ha.lc hb.lc hn,JcQ ha.ld hb.ld hn,?_⟩;have h1:=ZU hn hb.k;have h2:=ha.k;show -(A+N*B)≤a.k+n*b.k∧a.k+n*b.k≤A+N*B;omega
theorem Xg:Std 0 Frm.zero:=⟨rfl,rfl,by intro x hx;simp[Frm.zero] at hx;omega,by intro x hx;simp[Frm.zero] at hx;omega,by simp[Frm.zero]⟩
theorem QW {v:Nat}:Std 1 (JA v):=by
 refine⟨by simp[JA],rfl,?_,by intro x hx;simp[JA] at hx;omega,by simp[JA]⟩;show Lim 1 ([0,0,0].set v 1);exact Lim.set (by intro x hx;simp at hx;omega) (by omega) v
theorem JaV {l:List Int} (h:l.length=3) : ∃ a b c,l=[a,b,c]:=by
 match l,h with
 | [a,b,c],_=>exact⟨a,b,c,rfl⟩
theorem JgS {l:List Int} (h:l.length=2) : ∃ a b,l=[a,b]:=by
 match l,h with
 | [a,b],_=>exact⟨a,b,rfl⟩
theorem Jfi {M:Int} {f:Frm} (h:Std M f):JI Frm.zero f 1=f:=by
 obtain⟨c,d,k⟩:=f;obtain⟨a,b,e,rfl⟩:=JaV h.c;obtain⟨p,q,rfl⟩:=JgS h.d;simp[JI,JJ,Frm.zero]
theorem Wq {M:Int} {f:Frm} (h:Std M f):Std (M+1) (Qu f):=by
 have:=Qs Xg h (n:=-1) (N:=1) (by omega);have h1:=this.k;exact⟨this.c,this.d,this.lc.mono (by omega),this.ld.mono (by omega),by
  show -(M+1)≤(JI Frm.zero f (-1)).k-1∧(JI Frm.zero f (-1)).k-1≤M+1;omega⟩
theorem Std.okF {M:Int} {f:Frm} (h:Std M f) (hm:M≤10000000):f.ok=true:=by
 have hk:=h.k;simp only[Frm.ok,JrE,JB,JG];exact⟨⟨⟨by rw[h.c];rfl,h.lc.mono hm⟩,⟨by rw[h.d];rfl,h.ld.mono hm⟩⟩,by omega⟩
theorem Q7 {f:Frm} (h:f.small=true):f.c.length=3∧f.d.length=2∧Lim 2 f.c∧Lim 2 f.d∧-20≤f.k∧f.k≤20:=by
 simp only[Frm.small,JrE,JB,JG] at h;obtain⟨⟨⟨h1,h2⟩,⟨h3,h4⟩⟩,h5,h6⟩:=h;exact⟨by omega,by omega,h2,h4,by omega,by omega⟩
theorem Jet {f:Frm} (h:f.small=true):Std 20 f:=by
 obtain⟨h1,h2,h3,h4,h5⟩:=Q7 h;exact⟨h1,h2,h3.mono (by omega),h4.mono (by omega),h5⟩
theorem JcB {f:Frm} {pots:List Frm} {M:Int} (hf:f.small=true) (hp :∀p∈pots,Std M p) (h0:0≤M) (i:Nat) (hi:i≤3) :
  Std (20+2*M*i) ((List.zip (pots.take i) (f.c.take i)).foldl (fun x q=>JI x q.1 q.2) ⟨[0,0,0],f.d,f.k⟩)∨pots.length<3:=by
 obtain⟨h1,h2,h3,h4,h5⟩:=Q7 hf
 by_cases hl:pots.length<3
 ·exact .inr hl
 left
 induction i with
 | zero=>exact⟨rfl,h2,by intro x hx;simp at hx;omega,h4.mono (by omega),by simpa using h5⟩
 | succ i ih =>
  have ih:=ih (by omega);have e1:pots[i]? = some pots[i]:=JrP (by omega);have e2:f.c[i]? = some f.c[i]:=JrP (by omega);rw[tS1 e1,tS1 e2,List.zip_append (by simp;omega),List.foldl_append];have:=Qs ih (hp _ (List.getElem_mem (show i<pots.length by omega))) (h3 _ (List.getElem_mem (show i<f.c.length by omega)));refine Std.mono this ?_
  push_cast
  rw[Int.mul_add];omega
theorem UC {f:Frm} {pots:List Frm} {M:Int} (hf:f.small=true) (hl:pots.length=3) (hp :∀p∈pots,Std M p) (h0:0≤M):Std (20+6*M) (Jo f pots):=by
 obtain⟨h1,_⟩:=Q7 hf;rcases JcB hf hp h0 3 (by omega) with h | h
 ·rw[JrI (by omega),JrI (by omega)] at h;exact h.mono (by omega)
 ·omega
def YL (p g t:List Frm):Row:=⟨g,[JI (p.getD 0 Frm.none) (JA 0) (-1),JI (p.getD 1 Frm.none) (JA 1) (-1),JI (p.getD 2 Frm.none) (JA 2) (-1)],t,false⟩
def walk (a:List Jc) (p g t:List Frm):List Row:=match a with
 | []=>[YL p g t]
 | l::rest =>
  if l.kind=4 then [⟨g,[],[],true⟩]
  else if l.kind=1 then walk rest p (g++[Jo l.f p]) t++walk (rest.drop l.skip.toNat) p (g++[Qu (Jo l.f p)]) t
  else if l.kind=2 then walk rest (p.set l.pot.toNat (JI (p.getD l.pot.toNat Frm.none) (Jo l.f p) 1)) g t
  else walk rest p g (t++[Jo l.f p])
termination_by a.length
decreasing_by all_goals (simp only[List.length_cons,List.length_drop];omega)
def Jz (a:List Jc):List Row:=if Qh a then walk a [JA 0,JA 1,JA 2] [] [] else []
theorem JhG (a:List Jc) (p g t:List Frm):(walk a p g t).length≤2 ^ a.length:=by
 generalize hn:a.length=n
 induction n using Nat.strongRecOn generalizing a p g t with
 | _ n ih =>
  cases a with
  | nil=>rw[walk];subst hn;simp
  | cons l rest =>
   simp only[List.length_cons] at hn;subst hn;have h1:1≤2 ^ rest.length:=Nat.one_le_two_pow;have h2:2 ^ (rest.length+1)=2 ^ rest.length+2 ^ rest.length:=by rw[Nat.pow_succ];omega
   rw[walk];split
   ·simp;omega
   split
   ·rw[JrK,h2];have e1:=ih rest.length (by omega) rest p (g++[Jo l.f p]) t rfl;have e2:=ih (rest.drop l.skip.toNat).length (by simp;omega) (rest.drop l.skip.toNat) p (g++[Qu (Jo l.f p)]) t rfl;have e3:2 ^ (rest.drop l.skip.toNat).length≤2 ^ rest.length:=Nat.pow_le_pow_right (by omega) (by simp);omega
   split
   ·have:=ih rest.length (by omega) rest (p.set l.pot.toNat (JI (p.getD l.pot.toNat Frm.none) (Jo l.f p) 1)) g t rfl;omega
   ·have:=ih rest.length (by omega) rest p g (t++[Jo l.f p]) rfl;omega
def Bd:Nat→Int
 | 0=>1
 | n+1=>7*Bd n+20
theorem YI :∀n,0≤Bd n
 | 0=>by simp[Bd]
 | n+1=>by have:=YI n;simp only[Bd];omega
theorem Jht {n:Nat} (h:n≤6):Bd n≤509809:=by
 match n,h with
 | 0,_ | 1,_ | 2,_ | 3,_ | 4,_ | 5,_ | 6,_=>decide
theorem Z1 {n m:Nat} (h:n≤m):Bd n≤Bd m:=by
 induction h with
 | refl=>exact Int.le_refl _
 | @step m h ih=>have:=YI m;simp only[Bd];omega
theorem QM (l:List Frm) (f:Frm):dF l++[f.g]=dF (l++[f]):=by simp[dF]
theorem Jlk (l:List Row):XZ 4 (JV l)=true:=by cases l <;> rfl
theorem JaC {l:List Frm} {i:Int} (h0:0≤i) (h1:i<l.length) : ∃ x,l[i.toNat]? = some x∧(dF l)[i.toNat]? = some x.g:=Jj8 h0 h1
theorem fill {S Z:List Int} {i:Nat} {s:Int} (hl:S.length=Z.length) (hs:S[i]? = some s):(S.take i++Z.drop i).set i s=S.take (i+1)++Z.drop (i+1):=by
 have hi:i<S.length:=(JrF.1 hs).1;have h1:(S.take i).length=i:=by simp;omega
 rw[tS1 hs,List.set_append_right _ _ (by omega),List.append_assoc,h1,Nat.sub_self,List.drop_eq_getElem_cons (by omega:i<Z.length)];rfl
end Go.Tm
end
section
namespace Go.Tm
open Go.IntKind (i64)
section
variable {L:VP} {r x y body:R} {l vs:List V} {Q Q':Oc→Prop} {c:Nat}
abbrev NxtP (f:Nat→List V) (P:Nat→Prop) (n i:Nat) (Q:Oc→Prop):Oc→Prop
 | .next vs=>i<n∧vs=f (i+1)∧P (i+1)
 | .esc o=>Q o
 | .done _=>False
theorem Jq0 {init:List E} (n:Nat) (f:Nat→List V) (P:Nat→Prop) (hc:c=l.length) (h0:init.map (den (Js l))=f 0) (hP:P 0)
  (hs :∀i,i≤n→P i→WR L body (l++f i) (NxtP f P n i Q)):WR L (.loop c init body) l Q:=by
 refine Jrr (fun m vs=>∃ i,i≤n∧m=n-i∧vs=f i∧P i) hc n ⟨0,by omega,by omega,h0,hP⟩ ?_;rintro m _ ⟨i,hi,hm,rfl,hp⟩;refine(hs i hi hp).mono ?_;intro o h;cases o with
 | next vs=>exact⟨n-(i+1),by have:=h.1;omega,i+1,h.1,rfl,h.2⟩
 | esc o=>exact h
 | done ds=>exact h
abbrev NxtS (S:Nat→List V→Prop) (n i:Nat) (Q:Oc→Prop):Oc→Prop
 | .next vs=>i<n∧S (i+1) vs
 | .esc o=>Q o
 | .done _=>False
theorem Jrf {init:List E} (n:Nat) (S:Nat→List V→Prop) (hc:c=l.length) (h0:S 0 (init.map (den (Js l))))
  (hs :∀i vs,i≤n→S i vs→WR L body (l++vs) (NxtS S n i Q)):WR L (.loop c init body) l Q:=by
 refine Jrr (fun m vs=>∃ i,i≤n∧m=n-i∧S i vs) hc n ⟨0,by omega,by omega,h0⟩ ?_;rintro m vs ⟨i,hi,hm,hp⟩;refine(hs i vs hi hp).mono ?_;intro o h;cases o with
 | next vs=>exact⟨n-(i+1),by have:=h.1;omega,i+1,h.1,rfl,h.2⟩
 | esc o=>exact h
 | done ds=>exact h
theorem Jru {b:E} {ds:List D} {m:Nat} (i:Nat) (he:ds.length=m) (hb:bol (Js l) b=decide ((i:Int)<(ds.length:Int))) (hx:i<m→WR L x l Q) (hy : ¬i<m→WR L y l Q):WR L (.ite b x y) l Q :=
 Jrx ((i:Int)<(ds.length:Int)) hb (fun h=>hx (by omega)) (fun h=>hy (by omega))
theorem Jrh {b:E} (i m:Nat) (hb:bol (Js l) b=decide ((i:Int)<(m:Int))) (hx:i<m→WR L x l Q) (hy : ¬i<m→WR L y l Q):WR L (.ite b x y) l Q :=
 Jrx ((i:Int)<(m:Int)) hb (fun h=>hx (by omega)) (fun h=>hy (by omega))
theorem Jrm {b:E} (t:Bool) (hb:bol (Js l) b = !t) (hx:t=false→WR L x l Q) (hy:t=true→WR L y l Q):WR L (.ite b x y) l Q :=
 Jry (fun h=>hx (by rw[hb] at h;simpa using h)) (fun h=>hy (by rw[hb] at h;simpa using h))
theorem Jrd {n:Nat} {e i:E} {sh:Sh} {ds:List D} {d:D} (k:Nat) (hd:ds[k]? = some d) (hn:n=l.length) (he:lst (Js l) e=ds) (hi:int (Js l) i=k) (hb:ZE sh d=some vs) (h:WR L r (l++vs) Q) :
 WR L (.i (.idx e i sh n) r) l Q:=Jq9 (ds:=ds) (k:Int) hn he hi (by omega) (by rw[Int.toNat_natCast];exact hd) hb h
theorem Jrv {b:E} (i:Nat) (hb:bol (Js l) b=decide ((0:Int)≤(i:Int))) (h:WR L r l Q):WR L (.i (.chk b) r) l Q:=Jq7 ((0:Int)≤(i:Int)) hb (by omega) h
theorem Jq2 {b:E} {ds:List D} (i:Nat) (hb:bol (Js l) b=decide ((i:Int)<(ds.length:Int))) (hi:i<ds.length) (h:WR L r l Q):WR L (.i (.chk b) r) l Q:=Jq7 ((i:Int)<(ds.length:Int)) hb (by omega) h
theorem Jrc {n:Nat} {b1 b2 e i:E} {sh:Sh} {ds:List D} {d:D} (k:Nat) (hd:ds[k]? = some d) (hb1:bol (Js l) b1=decide ((0:Int)≤(k:Int))) (hb2:bol (Js l) b2=decide ((k:Int)<(ds.length:Int)))
  (hn:n=l.length) (he:lst (Js l) e=ds) (hi:int (Js l) i=k) (hb:ZE sh d=some vs) (h:WR L r (l++vs) Q) :
  WR L (.i (.chk b1) (.i (.chk b2) (.i (.idx e i sh n) r))) l Q :=
 Jrv k hb1 (Jq2 k hb2 (JrF.1 hd).1 (Jrd k hd hn he hi hb h))
theorem Jrw {n:Nat} {f:FuncId} {as:List E} {rs:List Sh1} {args ds:List D} (hc:Ev L f args ds) (hn:n=l.length) (ha:as.map (dat (Js l))=args) (hb:Z8 rs ds=some vs) (h:WR L r (l++vs) Q) :
 WR L (.i (.call f as rs n) r) l Q:=Jq4 hn (by rw[ha];exact hc) hb h
theorem Jre {e:E} {N:Int} (ds:List D) (m:Nat) (hl:ds.length≤m) (hN:(m:Int)≤N) (he:lst (Js l) e=ds) (hr:WR L r l Q):WR L (.i (.chk (.cmp .le (.len e) (.z N))) r) l Q :=
 Jrn ds he (by omega) hr
theorem Jrk {a y:E} {N:Int} (ds:List D) (m:Nat) (hl:ds.length≤m) (hN:(m:Int)+1≤N) (he:lst (Js l) a=ds) (hr:WR L r l Q):WR L (.i (.chk (.cmp .le (.len (.app a (.cons y .nil))) (.z N))) r) l Q:=by
 refine Jrs ?_ hr;show decide (((lst (Js l) (.app a (.cons y .nil))).length:Int)≤N)=true;have:lst (Js l) (.app a (.cons y .nil))=lst (Js l) a++[dat (Js l) y]:=rfl;rw[this,he,JrK,List.length_singleton];simp only[decide_eq_true_eq];omega
def Jor (sh:Sh) (as:List E) (ar:List (Option Nat)) (k:Nat):R :=
 .loop 2 [(.z 0)] <|
  .ite (.cmp .lt (.v 2) (.len (.v 0)))
   (
    .i (.idx (.v 0) (.v 2) sh 3) <|
    .i (.callv (.da 1) as ar [.b] k) <|
    .ite (.v k)
     (
      .esc <|
      .done [(.vi .i64 (.v 2))])
     (
      .next [(.bin .add .i64 (.v 2) (.z 1))]))
   (
    .esc <|
    .done [(.vi .i64 (.z (-1)))])
theorem wS {i n:Nat} (h:i<n) (hn:n≤1000000000):i64.wrap ((i:Int)+1)=((i+1:Nat):Int):=by rw[w64 (by omega) (by omega)];rfl
theorem wS' {i:Nat} (hn:i≤1000000000):i64.wrap ((i:Int)+1)=((i+1:Nat):Int):=by rw[w64 (by omega) (by omega)];rfl
theorem sA1 {α:Type} {l:List α} {i:Nat} (h:i<l.length) : ∃ x,l[i]? = some x∧x∈l:=⟨l[i],by simp[h],List.getElem_mem h⟩
theorem mA1 {α:Type} {f:α→D} {l:List α} {i:Nat} {x:α} (h:l[i]? = some x):(l.map f)[i]? = some (f x):=by simp[h]
def Zy {α:Type} (p:α→Bool) (l:List α):Int:=match l.findIdx? p with
 | some i=>i
 | none=>-1
theorem JdQ {α:Type} {p:α→Bool} {l:List α} {i:Nat} {x:α} (h:l[i]? = some x) (hx:p x=true) (hn:(l.take i).any p=false):Zy p l=i:=by
 have hi:=(JrF.1 h).1;have:l.findIdx? p=some i:=by
  rw[List.findIdx?_eq_some_iff_getElem];refine⟨hi,?_,fun j hj=>?_⟩
  ·rw[JrP hi] at h;cases h;exact hx
  ·have hm:l[j]∈l.take i:=by
    rw[List.mem_iff_getElem?];exact⟨j,by rw[Jr4 hj,JrP]⟩
   simp only[List.any_eq_false] at hn;exact hn _ hm
 simp only[Zy,this]
theorem Jdh {α:Type} {p:α→Bool} {l:List α} (hn:l.any p=false):Zy p l = -1:=by
 have:l.findIdx? p=none:=by
  rw[List.findIdx?_eq_none_iff];intro x hx;simp only[List.any_eq_false] at hn;exact Bool.eq_false_iff.2 (hn x hx)
 simp only[Zy,this]
theorem WK {α:Type} (p:α→Bool) (l:List α):decide (0≤Zy p l)=l.any p:=by
 unfold Zy;cases h:l.findIdx? p with
 | some i =>
  simp only[List.findIdx?_eq_some_iff_getElem] at h;obtain⟨h1,h2,_⟩:=h;have:l.any p=true:=List.any_eq_true.2 ⟨_,List.getElem_mem h1,h2⟩;rw[this];simp
 | none =>
  rw[List.findIdx?_eq_none_iff] at h;have:l.any p=false:=by
   rw[List.any_eq_false];intro x hx;rw[h x hx];simp
  rw[this];rfl
theorem Jhg {α:Type} {p:α→Bool} {l:List α} {k:Nat} {x:α} (h:l[k]? = some x) (ha:(l.take k).any p=false) (hx:p x=false):(l.take (k+1)).any p=false:=by
 rw[tS1 h,List.any_append,ha];simp[hx]
theorem YM {α:Type} {f:FuncId} {H:Ye} {sh:Sh} {as:List E} {ar:List (Option Nat)} {k:Nat} {fn:FuncId} {caps:List D} {s:Sig} (enc:α→D) (p:α→Bool) (args:α→List D) (vsOf:α→List V) (l:List α)
  (hf:L.lookup f=some ⟨s,.r H (Jor sh as ar k)⟩) (hs:ZW s=[.s,.d]) (hlen:l.length≤2000000)
  (hcap:QY (.f fn caps) = .f fn caps)
  (hb :∀x∈l,ZE sh (enc x)=some (vsOf x)) (hk :∀x∈l,3+(vsOf x).length=k)
  (ha :∀(x:α) (v0 v1 v2:V),as.map (dat (Js ([v0,v1,v2]++vsOf x)))=args x) (har:arT L fn=some (ar++caps.map fun _=>none))
  (hc :∀x∈l,Ev L fn (args x++caps.map D.norm) [dB (p x)]) :
  Ev L f [.s (l.map enc),.f fn caps] [dI (Zy p l)]:=by
 refine JrA (vs:=[.l (l.map enc),.d (.f fn caps)]) hf (by rw[hs];rfl) ?_;refine Jq0 l.length (fun i=>[.i i]) (fun i=>(l.take i).any p=false) rfl rfl (by simp) fun i hi hn=>?_;refine Jru i (JrN (f:=enc) (as:=l)) rfl (fun h=>?_) (fun h=>?_)
 ·obtain⟨x,hx,hm⟩:=sA1 h;refine Jrd i (mA1 (f:=enc) hx) rfl rfl rfl (hb x hm) ?_;have hk':=hk x hm;refine Jq3 (fn:=fn) (caps:=caps) (ds:=[dB (p x)]) (vs:=[.b (p x)]) (by simp;omega) ?_ har ?_ rfl ?_
  ·exact hcap
  ·show Ev L fn (as.map (dat (Js ([V.l (l.map enc),.d (.f fn caps),.i i]++vsOf x)))++caps.map D.norm) [dB (p x)];rw[ha];exact hc x hm
  have e1 :∀(b:V) ,Js ([V.l (l.map enc),.d (.f fn caps),.i i]++vsOf x++[b]) k=b:=by
   intro b;unfold Js;rw[JrH,Jr6 (by simp;omega)];rw[show k-([V.l (l.map enc),.d (.f fn caps),.i i]++vsOf x).length=0 by simp;omega];rfl
  have e2 :∀(b:V) ,Js ([V.l (l.map enc),.d (.f fn caps),.i i]++vsOf x++[b]) 2 = .i i:=by intro b;rfl
  refine Jq5 (p x) (by show (den (Js ([V.l (l.map enc),.d (.f fn caps),.i i]++vsOf x++[V.b (p x)])) (.v k)).bool=p x;simp only[den,e1];rfl) (fun hp=>?_) (fun hp=>?_)
  ·refine Jrg (JqY (ds:=[dI i]) rfl ?_);rw[JdQ hx hp hn]
  ·refine Jrq (vs:=[.i ((i+1:Nat):Int)]) ?_ ⟨h,rfl,Jhg hx hn hp⟩;show [V.i (i64.wrap ((i:Int)+1))]=_;rw[wS h (by omega)]
 ·refine Jrg (JqY (ds:=[dI (-1)]) rfl ?_);rw[JrI (by omega)] at hn;rw[Jdh hn]
def JlV (f:FuncId):R :=
 .i (.call f [(.s (.v 0)),(.da 1)] [.i .i64] 2) <|
 .done [(.vb (.cmp .le (.z 0) (.v 2)))]
theorem X5 {α:Type} {f g:FuncId} {H:Ye} {s:Sig} {enc:α→D} {p:α→Bool} {l:List α} {fn:FuncId} {caps:List D} (hf:L.lookup f=some ⟨s,.r H (JlV g)⟩) (hs:ZW s=[.s,.d])
  (hcap:QY (.f fn caps) = .f fn caps) (h:Ev L g [.s (l.map enc),.f fn caps] [dI (Zy p l)]):Ev L f [.s (l.map enc),.f fn caps] [dB (l.any p)]:=by
 refine JrA (vs:=[.l (l.map enc),.d (.f fn caps)]) hf (by rw[hs];rfl) ?_;refine Jrw h rfl ?_ rfl ?_
 ·show [D.s (l.map enc),QY (.f fn caps)]=_;rw[hcap]
 ·refine JqZ ?_;show [dB (decide (0≤Zy p l))]=_;rw[WK]
def Jp4 (c sz:Nat) (N:Int):R :=
 .nilq c (.v 0)
  (
   .done [(.s .nil)])
  (
   .i (.chk (.cmp .le (.len (.v 0)) (.z N))) <|
   .i (.head sz (.v 0)) <|
   .i (.chk (.cmp .le (.len (.app .nil (.v 0))) (.z N))) <|
   .done [(.s (.app .nil (.v 0)))])
theorem Jow {f:FuncId} {H:Ye} {s:Sig} {c sz:Nat} {N:Int} {ds:List D} (hf:L.lookup f=some ⟨s,.r H (Jp4 c sz N)⟩) (hs:ZW s=[.s]) (hh:XZ sz ds=true) (hl:ds.length≤2000000) (hN:2000000≤N) :
  Ev L f [.s ds] [.s ds]:=by
 refine JrA (vs:=[.l ds]) hf (by rw[hs];rfl) ?_;refine Jrb (.done [.s ds]) (fun h=>?_) ?_ rfl
 ·refine JqZ ?_;have h:ds=[]:=h;subst h;rfl
 ·refine Jre ds 2000000 hl hN rfl ?_;refine Jro hh ?_;refine Jre ds 2000000 hl hN rfl ?_;exact JqZ rfl
end
theorem Q5 {α β:Type} {f:α→β} {l:List α} {k:Nat} {x:α} (h:l[k]? = some x):(l.take (k+1)).map f=(l.take k).map f++[f x]:=by rw[tS1 h];simp
theorem QR {α β:Type} {f:β→α→β} {b:β} {l:List α} {k:Nat} {x:α} (h:l[k]? = some x):(l.take (k+1)).foldl f b=f ((l.take k).foldl f b) x:=by rw[tS1 h];simp
theorem tA1 {α:Type} {l:List α} {i:Nat} (h : ¬i<l.length):l.take i=l:=JrI (by omega)
end Go.Tm
end
section
namespace Go.Tm
open Go.IntKind (i64)
theorem JmM {α:Type} {S Z:List α} {i:Nat} {s:α} (hl:S.length=Z.length) (hs:S[i]? = some s):(S.take i++Z.drop i).set i s=S.take (i+1)++Z.drop (i+1):=by
 have hi:i<S.length:=(JrF.1 hs).1;have h1:(S.take i).length=i:=by simp;omega
 rw[tS1 hs,List.set_append_right _ _ (by omega),List.append_assoc,h1,Nat.sub_self,List.drop_eq_getElem_cons (by omega:i<Z.length)];rfl
theorem JlG {α:Type} {S Z:List α} {i:Nat} {s:α} (hs:S[i]? = some s) (hz:Z[i]? = some s):S.take i++Z.drop i=S.take (i+1)++Z.drop (i+1):=by
 rw[tS1 hs];obtain⟨h1,h2⟩:=JrF.1 hz;rw[List.drop_eq_getElem_cons h1,h2,List.append_assoc];rfl
def dBl (l:List Bool):List D:=l.map dB
theorem JgN (l:List Bool):(dBl l).length=l.length:=by simp[dBl]
theorem Jkk (l:List Bool) (k:Nat) (x:Bool):(dBl l).set k (dB x)=dBl (l.set k x):=by simp[dBl,List.map_set]
theorem WN (l:List (List Int)) (x:List Int):dLL l++[.s (dL x)]=dLL (l++[x]):=by simp[dLL]
def YA:List Int→Int
 | []=>0
 | x::l=>if 0<x then 1 else if x<0 then -1 else YA l
def Jn (c:List Int):List Int:=c.map (YA c * ·)
theorem Jhj (l:List Int) (x:Int):YA (l++[x])=if YA l=0 then(if 0<x then 1 else if x<0 then -1 else 0) else YA l:=by
 induction l with
 | nil=>simp[YA]
 | cons y l ih =>
  simp only[List.cons_append,YA]
  by_cases h1:0<y
  ·simp[h1]
  ·by_cases h2:y<0
   ·simp[h1,h2]
   ·simp only[h1,h2,if_false];exact ih
theorem JnP {l:List Int} (h:YA l=0) :∀x∈l,x=0:=by
 induction l with
 | nil=>simp
 | cons y l ih =>
  simp only[YA] at h;split at h
  ·cases h
  ·split at h
   ·cases h
   ·intro x hx;rcases JrX.1 hx with rfl | hx
    ·omega
    ·exact ih h x hx
theorem Jgb (l:List Int):YA l=0∨YA l=1∨YA l = -1:=by
 induction l with
 | nil=>simp[YA]
 | cons y l ih =>
  simp only[YA];split
  ·simp
  ·split
   ·simp
   ·exact ih
theorem Jmm (l:List Int) (x:Int):Jn (l++[x])=Jn l++[YA (l++[x])*x]:=by
 have:l.map (YA (l++[x]) * ·)=l.map (YA l * ·):=by
  apply Jr0;intro y hy
  by_cases h:YA l=0
  ·rw[JnP h y hy];simp
  ·simp only[Jhj,if_neg h]
 simp only[Jn,List.map_append,this,JrM,List.map_nil]
theorem Jan (c:List Int):(Jn c).length=c.length:=by simp[Jn]
theorem Jn0 {M:Int} {c:List Int} (h:Lim M c):Lim M (Jn c):=by
 intro x hx;simp only[Jn,List.mem_map] at hx;obtain⟨y,hy,rfl⟩:=hx;have:=h y hy;rcases Jgb c with e | e | e <;> rw[e] <;> omega
def Up (l:List (List Int)) (p:List Int):Int:=Zy (fun q=>decide (q=p)) l
def KV (p:List Bool) (c:List Int):List Bool:=List.zipWith (fun b x=>b||decide (x≠0)) p c
def Qp (p:List Bool) (fs:List Frm):List Bool:=fs.foldl (fun p f=>KV p f.c) p
theorem W7 (p:List Bool) (c:List Int):(KV p c).length=min p.length c.length:=by simp[KV]
theorem ZA {p:List Bool} {fs:List Frm} (hp:p.length=3) (hf :∀f∈fs,f.c.length=3):(Qp p fs).length=3:=by
 induction fs generalizing p with
 | nil=>exact hp
 | cons f fs ih=>exact ih (by rw[W7];have:=hf f (by simp);omega) fun g hg=>hf g (by simp[hg])
def Jk (out:List (List Int)) (f:Frm):List (List Int):=if Up out (Jn f.c)<0∧Jn f.c≠[0,0,0] then out++[Jn f.c] else out
def Qo (s:List (List Int)×List Bool) (r:Row):List (List Int)×List Bool:=(r.guards.foldl Jk s.1,Qp (Qp s.2 r.adds) r.tells)
def XS (s:List (List Int)×List Bool) (act:List Jc):List (List Int)×List Bool:=(Jz act).foldl Qo s
def Yu:List (List Int):=[[1,0,0],[0,1,0],[0,0,1]]
def Wk (acts:List (List Jc)):List (List Int)×List Bool:=acts.foldl XS (Yu,[false,false,false])
def Jg (acts:List (List Jc)):List (List Int):=if QK acts then(Wk acts).1 else []
def JT (acts:List (List Jc)):List Bool:=if QK acts then(Wk acts).2 else []
theorem Jg1 (out:List (List Int)) (f:Frm):(Jk out f).length≤out.length+1:=by unfold Jk;split <;> simp
theorem Jiq {p:List Int→Prop} {out:List (List Int)} {f:Frm} (h :∀q∈out,p q) (hf:p (Jn f.c)) :∀q∈Jk out f,p q:=by
 unfold Jk;split
 ·intro q hq;rcases JrJ.1 hq with hq | hq
  ·exact h q hq
  ·simp at hq;subst hq;exact hf
 ·exact h
structure Kf (r:Row):Prop where
 g :∀f∈r.guards,Std 10000000 f
 a :∀f∈r.adds,Std 10000000 f
 t :∀f∈r.tells,Std 10000000 f
 gl:r.guards.length≤6
 tl:r.tells.length≤6
 al:r.adds.length≤3
 st:r.stop=true→r.adds=[]∧r.tells=[]
 ns:r.stop=false→r.adds.length=3
theorem QS {l:Jc} (h:l.ok=true) (h4 : ¬l.kind=4):l.f.small=true:=by
 unfold Jc.ok at h;split at h
 ·simp only[JrE] at h;exact h.2
 split at h
 ·simp only[JrE] at h;exact h.2
 split at h
 ·simp only[JrE] at h;exact h.2
 ·simp[h4] at h
theorem JdB {p:List Frm} {P:Frm→Prop} (hp:p.length=3) (h :∀f∈p,P f) {i:Nat} (hi:i<3):P (p.getD i Frm.none):=by
 rw[JrH,JrP (by omega)];exact h _ (List.getElem_mem _)
theorem JmG :∀(n:Nat) (a:List Jc) (p g t:List Frm) (j:Nat),a.length=n→(∀l∈a,l.ok=true)→j+n≤6→p.length=3→(∀f∈p,Std (Bd j) f)→(∀f∈g,Std 10000000 f)→(∀f∈t,Std 10000000 f)→g.length≤j→t.length≤j →
  ∀r∈walk a p g t,Kf r:=by
 intro n
 induction n using Nat.strongRecOn with
 | _ n ih =>
  intro a p g t j hn ha hj hp sp sg st lg lt r hr;cases a with
  | nil =>
   rw[walk] at hr;simp only[JrW] at hr;subst hr;have hB:=Jht (show j≤6 by omega);have hB0:=YI j;have ad :∀i,i<3→Std 10000000 (JI (p.getD i Frm.none) (JA i) (-1)):=fun i hi =>
    (Qs (JdB hp sp hi) QW (n:=-1) (N:=1) (by omega)).mono (by omega)
   refine⟨sg,?_,st,by show g.length≤6;omega,by show t.length≤6;omega,by simp[YL],fun h=>by simp[YL] at h,fun _=>rfl⟩;intro f hf;simp only[YL,JrX,List.not_mem_nil,or_false] at hf;rcases hf with rfl | rfl | rfl
   ·exact ad 0 (by omega)
   ·exact ad 1 (by omega)
   ·exact ad 2 (by omega)
  | cons l rest =>
   simp only[List.length_cons] at hn;have hok:=ha l (by simp);have har :∀x∈rest,x.ok=true:=fun x hx=>ha x (by simp[hx]);rw[walk] at hr;split at hr
   ·simp only[JrW] at hr;subst hr;exact⟨sg,by simp,by simp,by show g.length≤6;omega,by simp,by simp,fun _=>⟨rfl,rfl⟩,fun h=>by cases h⟩
   ·rename_i h4;have hB:=Jht (show j≤5+1 by omega);have hB0:=YI j;have hin:=UC (QS hok h4) hp sp hB0;have hin7:Std 10000000 (Jo l.f p):=hin.mono (by omega);have spB :∀f∈p,Std (Bd (j+1)) f:=fun f hf=>(sp f hf).mono (Z1 (by omega));have sn :∀{q:List Frm} {x:Frm},(∀f∈q,Std 10000000 f)→Std 10000000 x→∀f∈q++[x],Std 10000000 f:=by
     intro q x hq hx f hf;rcases JrJ.1 hf with hf | hf
     ·exact hq f hf
     ·simp at hf;subst hf;exact hx
    split at hr
    ·rcases JrJ.1 hr with hr | hr
     ·exact ih rest.length (by omega) rest p _ t (j+1) rfl har (by omega) hp spB (sn sg hin7) st (by simp;omega) (by omega) r hr
     ·refine ih (rest.drop l.skip.toNat).length (by simp;omega) (rest.drop l.skip.toNat) p _ t (j+1) rfl (fun x hx=>har x (List.mem_of_mem_drop hx)) (by simp;omega) hp spB (sn sg ((Wq hin).mono (by omega))) st (by simp;omega) (by omega) r hr
    split at hr
    ·refine ih rest.length (by omega) rest _ g t (j+1) rfl har (by omega) (by simp[hp]) ?_ sg st (by omega) (by omega) r hr;intro f hf;rcases Jr3 hf with hf | hf
     ·exact spB f hf
     ·subst hf
      by_cases hlt:l.pot.toNat<3
      ·exact(Qs (JdB hp sp hlt) hin (n:=1) (N:=1) (by omega)).mono (by simp only[Bd];omega)
      ·rw[List.set_eq_of_length_le (by omega)] at hf;exact spB _ hf
    ·exact ih rest.length (by omega) rest p g _ (j+1) rfl har (by omega) hp spB sg (sn st hin7) (by omega) (by simp;omega) r hr
theorem ZK {act:List Jc} (h:Qh act=true):act.length≤6∧∀l∈act,l.ok=true:=by
 simp only[Qh,JrE,decide_eq_true_eq,JrR] at h;exact⟨by omega,h.1.1⟩
theorem ZI {act:List Jc} :∀r∈Jz act,Kf r:=by
 intro r hr;unfold Jz at hr;split at hr
 ·rename_i h;obtain⟨h1,h2⟩:=ZK h;refine JmG act.length act _ [] [] 0 rfl h2 (by omega) rfl ?_ (by simp) (by simp) (by simp) (by simp) r hr;intro f hf;simp at hf;rcases hf with rfl | rfl | rfl <;> exact QW
 ·cases hr
theorem Uz (act:List Jc):(Jz act).length≤64:=by
 unfold Jz;split
 ·rename_i h;obtain⟨h1,h2⟩:=ZK h;exact Nat.le_trans (JhG _ _ _ _) (Nat.le_trans (Nat.pow_le_pow_right (by omega) h1) (by decide))
 ·simp
def J3 (l:List Int):Bool:=JE 3 10000 l
def XN (l:List Int):Bool:=JE 2 9 l
def QL (b g:List Int):Bool:=J3 b&&inB g.length 1 3&&g.all fun x=>inB x 0 50
def Xc (ps:List (List Int)):Bool:=ps.all fun p=>JE 3 10000000 p
def Xx (a:List Int):Bool:=JE 3 20000 a
def dot:List Int→List Int→Int
 | x::a,y::b=>x*y+dot a b
 | _,_=>0
def Km (give:Int) (a p:List Int):Bool:=inB (dot p a) (0-give) give
def keeps (b g:List Int) (ps:List (List Int)) (s:Int) (a:List Int):Bool :=
 QL b g&&Xc ps&&inB s 0 (g.length-1)&&Xx a&&ps.all (Km (g.getD s.toNat 0) a)
theorem Jop {a b:List Int} (x y:Int) (h:a.length=b.length):dot (a++[x]) (b++[y])=dot a b+x*y:=by
 induction a generalizing b with
 | nil=>cases b <;> simp[dot] at h ⊢
 | cons p a ih =>
  cases b with
  | nil=>simp at h
  | cons q b=>simp only[List.cons_append,dot,ih (by simpa using h)];omega
theorem Ud {a b:List Int} {A B:Int} (ha:Lim A a) (hb:Lim B b) (hA:0≤A) (hB:0≤B) : -(A*B*a.length)≤dot a b∧dot a b≤A*B*a.length:=by
 have hAB:0≤A*B:=Int.mul_nonneg hA hB
 induction a generalizing b with
 | nil=>simp[dot]
 | cons p a ih =>
  have h0:0≤A*B*(a.length:Int):=Int.mul_nonneg hAB (by omega);cases b with
  | nil =>
   simp only[dot,List.length_cons];have:0≤A*B*((a.length+1:Nat):Int):=Int.mul_nonneg hAB (by omega);omega
  | cons q b =>
   have h1:=ih (b:=b) (fun x hx=>ha x (by simp[hx])) (fun x hx=>hb x (by simp[hx]));have h2:=ZU (ha p (by simp)) (hb q (by simp));simp only[dot,List.length_cons];have e:A*B*((a.length+1:Nat):Int)=A*B*a.length+A*B:=by push_cast;rw[Int.mul_add];omega
   rw[e];omega
def Jpr {α:Type} (p:Nat→α→Bool) (l:List α):Bool:=l.zipIdx.all fun q=>p q.2 q.1
theorem Jqf {α:Type} {p:Nat→α→Bool} {l:List α}:Jpr p l=true↔∀(k:Nat) (x:α),l[k]? = some x→p k x=true:=by
 unfold Jpr;rw[JrR];constructor
 ·intro h k x hx;exact h (x,k) (by rw[List.mem_zipIdx_iff_getElem?];exact hx)
 ·intro h q hq;rw[List.mem_zipIdx_iff_getElem?] at hq;exact h _ _ hq
end Go.Tm
end
section
namespace Go.Tm
open Go.IntKind (i64)
theorem Vr {α:Type} {es:List α} {z:α} {i:Nat} (h:i<es.length):(es.take i++List.replicate (es.length-i) z)[i]? = some z:=by
 rw[Jr6 (by simp;omega)];simp only[JrT,List.getElem?_replicate];rw[if_pos (by omega)]
theorem KA {α:Type} {es:List α} {z x:α} {i:Nat} (h:es[i]? = some x):(es.take i++List.replicate (es.length-i) z).set i x=es.take (i+1)++List.replicate (es.length-(i+1)) z:=by
 have hi:i<es.length:=(JrF.1 h).1;rw[tS1 h,List.set_append_right _ _ (by simp;omega)];simp only[JrT,Nat.min_eq_left (Nat.le_of_lt hi),Nat.sub_self];rw[show es.length-i=(es.length-(i+1))+1 by omega,List.replicate_succ,List.set_cons_zero];simp
theorem Kr {α:Type} {es:List α} {z:α} {i:Nat} (h : ¬i<es.length):es.take i++List.replicate (es.length-i) z=es:=by
 rw[JrI (by omega),show es.length-i=0 by omega];simp
theorem YC {α:Type} {es:List α} {i:Nat} (x:α) (h:i<es.length):(es.set i x)[i]? = some x:=by simp[h]
def cnt (k:Int) (n:Nat):List Int:=(List.range n).map fun(i:Nat)=>k+(i:Int)
theorem YR (k:Int) (n:Nat):(cnt k n).length=n:=by simp[cnt]
theorem JjY (k:Int) {n i:Nat} (h:i<n):(cnt k n)[i]? = some (k+i):=by simp[cnt,h]
theorem JjU {α:Type} {as bs:List α} {x:α} {i:Nat} (hl:as.length=bs.length) (h:bs[i]? = some x):(as.take i++bs.drop i)[i]? = some x:=by
 have hi:i<bs.length:=(JrF.1 h).1;rw[Jr6 (by simp;omega),JrT,Nat.min_eq_left (by omega),Nat.sub_self,List.getElem?_drop];simpa using h
theorem Jhu {α:Type} {as bs:List α} {x:α} {i:Nat} (hl:as.length=bs.length) (h:as[i]? = some x):(as.take i++bs.drop i).set i x=as.take (i+1)++bs.drop (i+1):=by
 have hi:i<as.length:=(JrF.1 h).1;rw[tS1 h,List.set_append_right _ _ (by simp;omega)];simp only[JrT,Nat.min_eq_left (Nat.le_of_lt hi),Nat.sub_self];rw[List.drop_eq_getElem_cons (by omega:i<bs.length),List.set_cons_zero];simp
theorem JhU {α:Type} {as bs:List α} {i:Nat} (hl:as.length=bs.length) (h : ¬i<bs.length):as.take i++bs.drop i=as:=by
 rw[JrI (by omega),List.drop_eq_nil_of_le (by omega)];simp
theorem JhX {α:Type} {as bs:List α} {i:Nat} (hl:as.length=bs.length):(as.take i++bs.drop i).length=bs.length:=by simp;omega
def dec (left:Int) (n:Nat):Int:=if(n:Int)≤left then left-n else -1
theorem Xz {left:Int} {n m:Nat} (h : ¬dec left n<0):dec (dec left n) m=dec left (n+m):=by
 unfold dec at *;split at h
 ·rename_i h1;rw[if_pos h1]
  by_cases h2:(m:Int)≤left-n
  ·rw[if_pos h2,if_pos (by omega)];omega
  ·rw[if_neg h2,if_neg (by omega)]
 ·omega
theorem Y2 {left:Int} {n m:Nat} (h:dec left n<0) (h0:0≤left):dec left (n+m) = -1:=by
 unfold dec at *;split at h
 ·omega
 ·rw[if_neg (by omega)]
theorem Q6 {α:Type} (f:α→D) (h :∀x,flat (f x)=true) :∀l:List α,Jy (l.map f)=true
 | []=>rfl
 | x::l=>by simp[Jy,h x,Q6 f h l]
def JY {α:Type} (w:α→Nat) (mk:Int→α→α):Int→List α→List α
 | _,[]=>[]
 | k,x::l=>mk k x::JY w mk (k+w x) l
def wts {α:Type} (w:α→Nat) (l:List α):Nat:=(l.map w).sum
theorem Yb {α:Type} (w:α→Nat) (mk:Int→α→α) :∀(k:Int) (l:List α),(JY w mk k l).length=l.length
 | _,[]=>rfl
 | k,x::l=>by simp[JY,Yb w mk _ l]
theorem Ja3 {α:Type} (w:α→Nat) (mk:Int→α→α) :∀(k:Int) (l:List α) (i:Nat) (x:α),l[i]? = some x→(JY w mk k l)[i]? = some (mk (k+wts w (l.take i)) x)
 | _,[],i,x,h=>by simp at h
 | k,y::l,0,x,h=>by simp at h;subst h;simp[JY,wts]
 | k,y::l,i+1,x,h=>by
  have:=Ja3 w mk (k+w y) l i x (by simpa using h);simp only[JY,List.getElem?_cons_succ,this,List.take_succ_cons,wts,JrM,List.sum_cons]
  congr 2
  push_cast;omega
theorem Jif {α:Type} {w:α→Nat} {l:List α} {i:Nat} {x:α} (h:l[i]? = some x):wts w (l.take (i+1))=wts w (l.take i)+w x:=by unfold wts;rw[Q5 h];simp
theorem JhE {α:Type} (w:α→Nat) (l:List α) (i:Nat):wts w (l.take i)≤wts w l:=by
 unfold wts
 conv=>rhs;rw[←List.take_append_drop i l,List.map_append,List.sum_append]
 omega
def Jmn (body:R):R :=
 .loop 2 [.v 0,.v 1,.z 0] <|
  .ite (.cmp .lt (.v 4) (.len (.v 2))) body
   (.esc <| .done [.vi .i64 (.v 3),.s (.v 2)])
def Jmo (body:R):R :=
 .loop 2 [.v 1,.z 0] <|
  .ite (.cmp .lt (.v 3) (.len (.v 0))) body
   (.esc <| .done [.vi .i64 (.v 2)])
section
variable {L:VP} {α:Type} {f:FuncId} {s:Sig} {H:Ye} {body:R}
theorem Z2 (enc:α→D) (w:α→Nat) (mk:Int→α→α) (l:List α) (k:Int) (hf:L.lookup f=some ⟨s,.r H (Jmn body)⟩) (hs:ZW s=[.s,.i .i64]) (h0:0≤k) (h1:k+wts w l≤1000000000000) (hl:l.length≤2000000)
  (hb :∀(v0 v1:V) (es:List D) (i:Nat) (x:α) (q:Int),x∈l→es[i]? = some (enc x)→i<2000000→0≤q→q+w x≤1000000000000 →
   WR L body [v0,v1,.l es,.i q,.i i] (· = .next [.l (es.set i (enc (mk q x))),.i (q+w x),.i ((i+1:Nat):Int)])) :
  Ev L f [.s (l.map enc),dI k] [dI (k+wts w l),.s ((JY w mk k l).map enc)]:=by
 refine JrA (vs:=[.l (l.map enc),.i k]) hf (by rw[hs];rfl) ?_;have hc:((JY w mk k l).map enc).length=(l.map enc).length:=by rw[JrN,JrN,Yb]
 have hlen:(l.map enc).length=l.length:=JrN _;refine Jq0 l.length (fun i=>[.l (((JY w mk k l).map enc).take i++(l.map enc).drop i),.i (k+wts w (l.take i)),.i i]) (fun _=>True) rfl ?_ trivial fun i hi _=>?_
 ·show [V.l (l.map enc),V.i k,V.i 0]=_;simp[wts]
 simp only[List.cons_append,List.nil_append];refine Jru i (ds:=((JY w mk k l).map enc).take i++(l.map enc).drop i) ((JhX hc).trans hlen) rfl (fun h=>?_) (fun h=>Jrg (JqZ ?_))
 ·obtain⟨x,hx,hm⟩:=sA1 h;have hw:=JhE w l (i+1);have hw1:=Jif (w:=w) hx;refine(hb _ _ _ i x (k+wts w (l.take i)) hm (JjU hc (mA1 (f:=enc) hx)) (by omega) (by omega) (by omega)).mono fun o ho=>?_;subst ho;refine⟨h,?_,trivial⟩;show _=[V.l (((JY w mk k l).map enc).take (i+1)++(l.map enc).drop (i+1)),V.i (k+wts w (l.take (i+1))),V.i ((i+1:Nat):Int)];rw[Jhu hc (mA1 (f:=enc) (Ja3 w mk k l i x hx)),hw1];simp only[List.cons.injEq,V.i.injEq,and_true,true_and]
  push_cast;omega
 ·show [dI (k+wts w (l.take i)),D.s (((JY w mk k l).map enc).take i++(l.map enc).drop i)]=_;rw[JhU hc (by omega),tA1 h]
theorem ZZ (enc:α→D) (w:α→Nat) (mk:Int→α→α) (l:List α) (k:Int) (hf:L.lookup f=some ⟨s,.r H (Jmo body)⟩) (hs:ZW s=[.s,.i .i64]) (h0:0≤k) (h1:k+wts w l≤1000000000000) (hl:l.length≤2000000)
  (hb :∀(v1:V) (es:List D) (i:Nat) (x:α) (q:Int),x∈l→es[i]? = some (enc (mk q x))→i<2000000→0≤q→q+w x≤1000000000000 →
   WR L body [.l es,v1,.i q,.i i] (· = .next [.i (q+w x),.i ((i+1:Nat):Int)])) :
  Ev L f [.s ((JY w mk k l).map enc),dI k] [dI (k+wts w l)]:=by
 refine JrA (vs:=[.l ((JY w mk k l).map enc),.i k]) hf (by rw[hs];rfl) ?_;have hlen:((JY w mk k l).map enc).length=l.length:=by rw[JrN,Yb]
 refine Jq0 l.length (fun i=>[.i (k+wts w (l.take i)),.i i]) (fun _=>True) rfl ?_ trivial fun i hi _=>?_
 ·show [V.i k,V.i 0]=_;simp[wts]
 simp only[List.cons_append,List.nil_append];refine Jru i hlen rfl (fun h=>?_) (fun h=>Jrg (JqZ ?_))
 ·obtain⟨x,hx,hm⟩:=sA1 h;have hw:=JhE w l (i+1);have hw1:=Jif (w:=w) hx;refine(hb _ _ i x (k+wts w (l.take i)) hm (mA1 (f:=enc) (Ja3 w mk k l i x hx)) (by omega) (by omega) (by omega)).mono fun o ho=>?_;subst ho;refine⟨h,?_,trivial⟩;show _=[V.i (k+wts w (l.take (i+1))),V.i ((i+1:Nat):Int)];rw[hw1];simp only[List.cons.injEq,V.i.injEq,and_true,true_and]
  push_cast;omega
 ·show [dI (k+wts w (l.take i))]=_;rw[tA1 h]
end
structure Don where
 seq:Int
 code:Int
 tells:List Int
 deriving DecidableEq
def Don.cells (d:Don):List D:=[dI d.seq,dI d.code,.s (dL d.tells)]
def Don.g (d:Don):D:= .g d.cells
def dDs (l:List Don):List D:=l.map Don.g
def Don.w (d:Don):Nat:=2+d.tells.length
def Don.mk' (q:Int) (d:Don):Don:=⟨q,q+1,cnt (q+1+1) d.tells.length⟩
structure Got where
 has:Bool
 added:List Int
 seqs:List Int
 deriving DecidableEq
def Got.cells (d:Got):List D:=[dB d.has,.s (dL d.added),.s (dL d.seqs)]
def Got.g (d:Got):D:= .g d.cells
def dGs (l:List Got):List D:=l.map Got.g
def Got.w (d:Got):Nat:=1+d.added.length+d.seqs.length
def Got.mk' (q:Int) (d:Got):Got:=⟨decide (q.tmod 3=0),cnt (q+1) d.added.length,cnt (q+1+d.added.length) d.seqs.length⟩
structure Cal where
 client:Int
 seq:Int
 act:Int
 args:List Int
 deriving DecidableEq
def Cal.cells (d:Cal):List D:=[dI d.client,dI d.seq,dI d.act,.s (dL d.args)]
def Cal.g (d:Cal):D:= .g d.cells
def dCs (l:List Cal):List D:=l.map Cal.g
def Cal.w (d:Cal):Nat:=3+d.args.length
def Cal.mk' (q:Int) (d:Cal):Cal:=⟨q,q+1,q+1+1,cnt (q+1+1+1) d.args.length⟩
end Go.Tm
end
section
namespace Go.Tm
open Go.IntKind (i64)
def atF (f:Frm) (vals args:List Int):Int:=dot f.c vals+dot f.d args+f.k
theorem Jhm {a b v:List Int} {n:Int} (h:a.length=b.length):dot (JJ a b n) v=dot a v+n*dot b v:=by
 induction a generalizing b v with
 | nil=>cases b <;> simp[JJ,dot] at h ⊢
 | cons x a ih =>
  cases b with
  | nil=>simp at h
  | cons y b =>
   cases v with
   | nil=>simp[JJ,dot]
   | cons z v =>
    have:=ih (b:=b) (v:=v) (by simpa using h);simp only[JJ,List.zipWith_cons_cons,dot] at this ⊢;rw[this,Int.add_mul,Int.mul_add,Int.mul_assoc];omega
theorem UB {A B:Int} {a b:Frm} (ha:Std A a) (hb:Std B b) (n:Int) (v w:List Int):atF (JI a b n) v w=atF a v w+n*atF b v w:=by
 unfold atF JI;simp only;rw[Jhm (by rw[ha.c,hb.c]),Jhm (by rw[ha.d,hb.d]),Int.mul_add,Int.mul_add];omega
theorem Jo0 (v w:List Int):atF Frm.zero v w=0:=by
 have h :∀(n:Nat) (v:List Int),dot (List.replicate n 0) v=0:=by
  intro n
  induction n with
  | zero=>intro v;cases v <;> rfl
  | succ n ih=>intro v;cases v with
   | nil=>rfl
   | cons x v=>simp only[List.replicate_succ,dot,ih v];omega
 have h3:=h 3 v;have h2:=h 2 w;simp only[List.replicate] at h3 h2;simp only[atF,Frm.zero,h3,h2];omega
theorem JaT {v w:List Int} (hv:v.length=3) (hw:w.length=2) (i:Nat) (hi:i<3):atF (JA i) v w=v.getD i 0:=by
 obtain⟨a,b,c,rfl⟩:=JaV hv;obtain⟨d,e,rfl⟩:=JgS hw
 match i,hi with
 | 0,_ | 1,_ | 2,_=>simp[atF,JA,dot]
theorem Jmw {A:Int} {f:Frm} (hf:Std A f) (v w:List Int):atF (Qu f) v w = - atF f v w-1:=by
 have h:=UB Xg hf (-1) v w;rw[Jo0] at h;have e:atF (Qu f) v w=atF (JI Frm.zero f (-1)) v w-1:=by
  unfold atF Qu;simp only;omega
 rw[e,h];omega
def atL (p:List Frm) (v w:List Int):List Int:=p.map fun f=>atF f v w
theorem JoZ {M:Int} {f:Frm} {p:List Frm} (hf:f.small=true) (hl:p.length=3) (hp :∀q∈p,Std M q) (v w:List Int):atF (Jo f p) v w=atF f (atL p v w) w:=by
 obtain⟨h1,h2,_⟩:=Q7 hf
 match p,hl with
 | [q0,q1,q2],_ =>
  have s0:=hp q0 (by simp);have s1:=hp q1 (by simp);have s2:=hp q2 (by simp);obtain⟨fc,fd,fk⟩:=f;obtain⟨x,y,z,rfl⟩:=JaV h1;have hb:Std (fd.length*0+(Int.natAbs fk:Int)+((fd.map Int.natAbs).sum:Nat)) (⟨[0,0,0],fd,fk⟩:Frm):=by
   refine⟨rfl,h2,?_,?_,?_⟩
   ·intro x hx;simp at hx;omega
   ·intro x hx;have hs :∀(l:List Int),x∈l→x.natAbs≤(l.map Int.natAbs).sum:=by
     intro l
     induction l with
     | nil=>intro h;simp at h
     | cons y l ih =>
      intro h;simp only[JrM,List.sum_cons];rcases JrX.1 h with rfl | h
      ·omega
      ·have:=ih h;omega
    have:=hs fd hx;omega
   ·show _≤fk∧fk≤_;omega
  have e0:=Qs hb s0 (n:=x) (N:=x.natAbs) (by omega);have e1:=Qs e0 s1 (n:=y) (N:=y.natAbs) (by omega);simp only[Jo,List.zip_cons_cons,List.zip_nil_right,List.foldl_cons,List.foldl_nil,atL,JrM,List.map_nil];rw[UB e1 s2,UB e0 s1,UB hb s0];simp only[atF,dot];have hz:dot [0,0,0] v=0:=by
   cases v with
   | nil=>rfl
   | cons a v=>cases v with
    | nil=>simp[dot]
    | cons b v=>cases v with
     | nil=>simp[dot]
     | cons c v=>simp[dot]
  rw[hz];omega
structure Res where
 code:Int
 tells:List Int
 is:List Int
 deriving DecidableEq
def Je6 (was x tells:List Int):Res:=if J3 x then ⟨1,tells,x⟩ else ⟨3,[],was⟩
def run (was args:List Int) (a:List Jc) (x tells:List Int):Res:=match a with
 | []=>Je6 was x tells
 | l::rest =>
  if l.kind=4 then ⟨2,[],was⟩
  else if l.kind=1 then(if atF l.f x args<0 then run was args (rest.drop l.skip.toNat) x tells else run was args rest x tells)
  else if l.kind=2 then run was args rest (x.set l.pot.toNat (x.getD l.pot.toNat 0+atF l.f x args)) tells
  else run was args rest x (tells++[atF l.f x args])
termination_by a.length
decreasing_by all_goals (simp only[List.length_cons,List.length_drop];omega)
def Xo (a:List Jc) (vals args:List Int):Res:=if Qh a&&(J3 vals&&XN args) then run vals args a vals [] else ⟨0,[],[]⟩
def JR (r:Row) (v w:List Int):Bool:=r.guards.all fun f=>decide (0≤atF f v w)
def Jcr (r:Row) (v w:List Int):Res:=if r.stop then ⟨2,[],v⟩ else Je6 v (List.zipWith (· + ·) v (atL r.adds v w)) (atL r.tells v w)
theorem Jpc (p:List Frm) (v w:List Int) (i:Nat) (f:Frm):atL (p.set i f) v w=(atL p v w).set i (atF f v w):=by simp[atL,List.map_set]
theorem JnJ {p:List Frm} {v w:List Int} {i:Nat} (h:i<p.length):(atL p v w).getD i 0=atF (p.getD i Frm.none) v w:=by
 simp[atL,JrH,h]
theorem Jny {v w:List Int} (hv:v.length=3) (hw:w.length=2) :∀(n:Nat) (a:List Jc) (p g t:List Frm) (j:Nat),a.length=n→(∀l∈a,l.ok=true)→j+n≤6→p.length=3→(∀f∈p,Std (Bd j) f) →
  (if g.all (fun f=>decide (0≤atF f v w)) then ∃ (l1 l2:List Row) (r:Row),walk a p g t=l1++r::l2∧JR r v w=true∧(∀s∈l1,JR s v w=false)∧(∀s∈l2,JR s v w=false)∧Jcr r v w=run v w a (atL p v w) (atL t v w)
   else ∀s∈walk a p g t,JR s v w=false):=by
 intro n
 induction n using Nat.strongRecOn with
 | _ n ih =>
  intro a p g t j hn ha hj hp sp;cases a with
  | nil =>
   rw[walk,run];split
   ·rename_i hg;refine⟨[],[],YL p g t,rfl,hg,by simp,by simp,?_⟩;have e:List.zipWith (· + ·) v (atL (YL p g t).adds v w)=atL p v w:=by
     match p,hp with
     | [q0,q1,q2],_ =>
      obtain⟨a,b,c,rfl⟩:=JaV hv;have s0:=sp q0 (by simp);have s1:=sp q1 (by simp);have s2:=sp q2 (by simp);simp only[YL,atL,JrM,List.map_nil,List.zipWith_cons_cons,List.zipWith_nil_right,List.getD_cons_zero,List.getD_cons_succ];rw[UB s0 QW,UB s1 QW,UB s2 QW,JaT hv hw 0 (by omega),JaT hv hw 1 (by omega),JaT hv hw 2 (by omega)];simp only[List.getD_cons_zero,List.getD_cons_succ]
      congr 1
      ·omega
      ·congr 1
       ·omega
       ·congr 1;omega
    show Jcr (YL p g t) v w=_;simp only[Jcr,e];rfl
   ·rename_i hg;intro s hs;simp only[JrW] at hs;subst hs;simpa[JR,YL] using hg
  | cons l rest =>
   simp only[List.length_cons] at hn;have hok:=ha l (by simp);have har :∀x∈rest,x.ok=true:=fun x hx=>ha x (by simp[hx]);rw[walk,run]
   by_cases h4:l.kind=4
   ·simp only[if_pos h4];split
    ·rename_i hg;refine⟨[],[],⟨g,[],[],true⟩,rfl,hg,by simp,by simp,?_⟩;simp[Jcr]
    ·rename_i hg;intro s hs;simp only[JrW] at hs;subst hs;simpa[JR] using hg
   ·simp only[if_neg h4];have hB:=Jht (show j≤5+1 by omega);have hB0:=YI j;have hsm:=QS hok h4;have hin:=UC hsm hp sp hB0;have hat:=JoZ hsm hp sp v w;have spB :∀f∈p,Std (Bd (j+1)) f:=fun f hf=>(sp f hf).mono (Z1 (by omega))
    by_cases h1:l.kind=1
    ·simp only[if_pos h1];have i1:=ih rest.length (by omega) rest p (g++[Jo l.f p]) t (j+1) rfl har (by omega) hp spB;have i2:=ih (rest.drop l.skip.toNat).length (by simp;omega) (rest.drop l.skip.toNat) p (g++[Qu (Jo l.f p)]) t (j+1) rfl (fun x hx=>har x (List.mem_of_mem_drop hx)) (by simp;omega) hp spB;rw[List.all_append] at i1 i2;simp only[List.all_cons,List.all_nil,Bool.and_true] at i1 i2;rw[Jmw hin,hat] at i2;rw[hat] at i1;split
     ·rename_i hg;rw[hg,JrY] at i1 i2;split
      ·rename_i hlt;rw[if_neg (by simp;omega)] at i1;rw[if_pos (by simp;omega)] at i2;obtain⟨l1,l2,r,e1,e2,e3,e4,e5⟩:=i2;refine⟨walk rest p (g++[Jo l.f p]) t++l1,l2,r,by rw[e1,List.append_assoc],e2,?_,e4,e5⟩;intro s hs;rcases JrJ.1 hs with hs | hs
       ·exact i1 s hs
       ·exact e3 s hs
      ·rename_i hlt;rw[if_pos (by simp;omega)] at i1;rw[if_neg (by simp;omega)] at i2;obtain⟨l1,l2,r,e1,e2,e3,e4,e5⟩:=i1;refine⟨l1,l2++walk (rest.drop l.skip.toNat) p (g++[Qu (Jo l.f p)]) t,r,by rw[e1];simp,e2,e3,?_,e5⟩;intro s hs;rcases JrJ.1 hs with hs | hs
       ·exact e4 s hs
       ·exact i2 s hs
     ·rename_i hg;have hg:(g.all fun f=>decide (0≤atF f v w))=false:=by simpa using hg
      rw[hg,Bool.false_and,if_neg (by simp)] at i1 i2;intro s hs;rcases JrJ.1 hs with hs | hs
      ·exact i1 s hs
      ·exact i2 s hs
    simp only[if_neg h1]
    by_cases h2:l.kind=2
    ·simp only[if_pos h2];have hpt:l.pot.toNat<p.length:=by
      have:=hok;unfold Jc.ok at this;rw[if_neg (by omega),if_pos h2] at this;simp only[JrE,JG] at this;omega
     have hq:=JdB (i:=l.pot.toNat) hp sp (by omega);have hsum:Std (Bd (j+1)) (JI (p.getD l.pot.toNat Frm.none) (Jo l.f p) 1):=(Qs hq hin (n:=1) (N:=1) (by omega)).mono (by simp only[Bd];omega);have i1:=ih rest.length (by omega) rest (p.set l.pot.toNat (JI (p.getD l.pot.toNat Frm.none) (Jo l.f p) 1)) g t (j+1) rfl har (by omega) (by simp[hp]) (by
      intro f hf;rcases Jr3 hf with hf | hf
      ·exact spB f hf
      ·subst hf;exact hsum)
     rw[Jpc,UB hq hin,hat] at i1;rw[JnJ hpt,show atF l.f (atL p v w) w=1*atF l.f (atL p v w) w by omega];exact i1
    ·simp only[if_neg h2];have i1:=ih rest.length (by omega) rest p g (t++[Jo l.f p]) (j+1) rfl har (by omega) hp spB;have e:atL (t++[Jo l.f p]) v w=atL t v w++[atF l.f (atL p v w) w]:=by simp[atL,hat]
     rw[e] at i1;exact i1
theorem Jpm {a:List Jc} {v w:List Int} (ha:Qh a=true) (hv:v.length=3) (hw:w.length=2) :
  ∃ (l1 l2:List Row) (r:Row),Jz a=l1++r::l2∧JR r v w=true∧(∀s∈l1,JR s v w=false)∧(∀s∈l2,JR s v w=false)∧Jcr r v w=run v w a v []:=by
 obtain⟨h1,h2⟩:=ZK ha;have hpp :∀f∈[JA 0,JA 1,JA 2],Std (Bd 0) f:=by
  intro f hf';simp at hf';rcases hf' with rfl | rfl | rfl <;> exact QW
 have:=Jny hv hw a.length a [JA 0,JA 1,JA 2] [] [] 0 rfl h2 (by omega) rfl hpp;rw[if_pos (by rfl)] at this;have e:atL [JA 0,JA 1,JA 2] v w=v:=by
  obtain⟨a,b,c,rfl⟩:=JaV hv;simp only[atL,JrM,List.map_nil];rw[JaT hv hw 0 (by omega),JaT hv hw 1 (by omega),JaT hv hw 2 (by omega)];rfl
 rw[e] at this;rw[Jz,if_pos ha];exact this
def XB:Nat→Int
 | 0=>10000
 | n+1=>7*XB n+60
theorem Jc6 :∀n,0≤XB n
 | 0=>by simp[XB]
 | n+1=>by have:=Jc6 n;simp only[XB];omega
theorem Jnp {n:Nat} (h:n≤6):XB n≤2000000000:=by
 match n,h with
 | 0,_ | 1,_ | 2,_ | 3,_ | 4,_ | 5,_ | 6,_=>decide
theorem Vn {n m:Nat} (h:n≤m):XB n≤XB m:=by
 induction h with
 | refl=>exact Int.le_refl _
 | @step m h ih=>have:=Jc6 m;simp only[XB];omega
theorem Jc8 {f:Frm} {x w:List Int} {X:Int} (hf:f.small=true) (hx:Lim X x) (hw:Lim 9 w) (h0:0≤X) : -(6*X+56)≤atF f x w∧atF f x w≤6*X+56:=by
 obtain⟨h1,h2,h3,h4,h5⟩:=Q7 hf;have a:=Ud h3 hx (by omega) h0;have b:=Ud h4 hw (by omega) (by omega);rw[h1] at a;rw[h2] at b;unfold atF;omega
def orB (p:List Bool) (h:Nat→Bool):List Bool:=p.mapIdx fun i b=>b||h i
def V6 (h:Row→Nat→Bool) (as:List (List Jc)):List Bool:=as.foldl (fun p a=>(Jz a).foldl (fun p r=>orB p (h r)) p) [false,false,false]
theorem Zb (p:List Bool) (h:Nat→Bool):(orB p h).length=p.length:=by simp[orB]
theorem Wm {p:List Bool} {h:Nat→Bool} {i:Nat} {b:Bool} (hb:p[i]? = some b):(orB p h)[i]? = some (b||h i):=by simp[orB,List.getElem?_mapIdx,hb]
theorem Jng {p:List Bool} {h:Nat→Bool} {i:Nat} (hi:i<p.length):(orB p h).getD i false=(p.getD i false||h i):=by
 simp[orB,JrH,List.getElem?_mapIdx,hi]
theorem Vg (h:Row→Nat→Bool) (rs:List Row) (p:List Bool):(rs.foldl (fun p r=>orB p (h r)) p).length=p.length:=by
 induction rs generalizing p with
 | nil=>rfl
 | cons r rs ih=>simp only[List.foldl_cons];rw[ih,Zb]
theorem JoX (h:Row→Nat→Bool) (rs:List Row) (p:List Bool) {i:Nat} (hi:i<p.length):(rs.foldl (fun p r=>orB p (h r)) p).getD i false=(p.getD i false||rs.any fun r=>h r i):=by
 induction rs generalizing p with
 | nil=>simp
 | cons r rs ih =>
  simp only[List.foldl_cons,List.any_cons];rw[ih _ (by rw[Zb];exact hi),Jng hi,Bool.or_assoc]
theorem Jm0 (h:Row→Nat→Bool) (as:List (List Jc)):(V6 h as).length=3:=by
 unfold V6;generalize hp:[false,false,false]=p;have:p.length=3:=by subst hp;rfl
 clear hp
 induction as generalizing p with
 | nil=>exact this
 | cons a as ih=>exact ih _ (by rw[Vg];exact this)
theorem JqH (h:Row→Nat→Bool) (as:List (List Jc)) {i:Nat} (hi:i<3):(V6 h as).getD i false=as.any fun a=>(Jz a).any fun r=>h r i:=by
 have key :∀(as:List (List Jc)) (p:List Bool),p.length=3→(as.foldl (fun p a=>(Jz a).foldl (fun p r=>orB p (h r)) p) p).getD i false=(p.getD i false||as.any fun a=>(Jz a).any fun r=>h r i):=by
  intro as
  induction as with
  | nil=>intro p _;simp
  | cons a as ih =>
   intro p hp;simp only[List.foldl_cons,List.any_cons];rw[ih _ (by rw[Vg];exact hp),JoX _ _ _ (by omega),Bool.or_assoc]
 have:=key as [false,false,false] rfl;unfold V6;rw[this]
 match i,hi with
 | 0,_ | 1,_ | 2,_=>simp
def JqG (r:Row) (v:Nat):Bool:=!r.stop && !decide (r.adds.getD v Frm.none=Frm.zero)
def Y3 (r:Row) (v:Nat):Bool:=(r.adds++r.tells).any fun f=>decide (f.c.getD v 0≠0)
theorem Jio {p:List Bool} {fs:List Frm} (hp:p.length=3) (hf :∀f∈fs,f.c.length=3):Qp p fs=orB p fun v=>fs.any fun f=>decide (f.c.getD v 0≠0):=by
 induction fs generalizing p with
 | nil =>
  show p=_;apply List.ext_getElem?;intro i;cases h:p[i]? with
  | none=>simp[orB,List.getElem?_mapIdx,h]
  | some b=>rw[Wm h];simp
 | cons f fs ih =>
  show Qp (KV p f.c) fs=_;have h3:=hf f (by simp);rw[ih (by rw[W7];omega) fun g hg=>hf g (by simp[hg])];apply List.ext_getElem?;intro i
  by_cases hi:i<3
  ·obtain⟨b,hb⟩ : ∃ b,p[i]? = some b:=⟨p[i],by simp[show i<p.length by omega]⟩;obtain⟨n,hn⟩ : ∃ n,f.c[i]? = some n:=⟨f.c[i],by simp[show i<f.c.length by omega]⟩;have e:(KV p f.c)[i]? = some (b||decide (n≠0)):=by simp[KV,List.getElem?_zipWith,hb,hn]
   rw[Wm e,Wm hb];simp[JrH,hn,Bool.or_assoc]
  ·rw[Jr1 (by rw[Zb,W7];omega),Jr1 (by rw[Zb];omega)]
theorem Jlr {p:List Bool} {r:Row} (hp:p.length=3) (hr:Kf r):Qp (Qp p r.adds) r.tells=orB p (Y3 r):=by
 have h1 :∀f∈r.adds,f.c.length=3:=fun f hf=>(hr.a f hf).c;have h2 :∀f∈r.tells,f.c.length=3:=fun f hf=>(hr.t f hf).c;rw[Jio (ZA hp h1) h2,Jio hp h1];apply List.ext_getElem?;intro i;cases h:p[i]? with
 | none =>
  have : ¬i<p.length:=by simpa using h
  rw[Jr1 (by rw[Zb,Zb];omega),Jr1 (by rw[Zb];omega)]
 | some b=>rw[Wm (Wm h),Wm h];simp only[Y3,List.any_append,Bool.or_assoc]
theorem Jli (as:List (List Jc)):(Wk as).2=V6 Y3 as:=by
 have rows :∀(rs:List Row) (s:List (List Int)×List Bool),s.2.length=3→(∀r∈rs,Kf r)→(rs.foldl Qo s).2=rs.foldl (fun p r=>orB p (Y3 r)) s.2:=by
  intro rs
  induction rs with
  | nil=>intro s _ _;rfl
  | cons r rs ih =>
   intro s hs hr;have e:(Qo s r).2=orB s.2 (Y3 r):=Jlr hs (hr r (by simp));simp only[List.foldl_cons];rw[ih _ (by rw[e,Zb];exact hs) fun x hx=>hr x (by simp[hx]),e]
 have acts :∀(as:List (List Jc)) (s:List (List Int)×List Bool),s.2.length=3→(as.foldl XS s).2=as.foldl (fun p a=>(Jz a).foldl (fun p r=>orB p (Y3 r)) p) s.2:=by
  intro as
  induction as with
  | nil=>intro s _;rfl
  | cons a as ih =>
   intro s hs;have e:(XS s a).2=(Jz a).foldl (fun p r=>orB p (Y3 r)) s.2:=rows _ _ hs ZI;simp only[List.foldl_cons];rw[ih _ (by rw[e,Vg];exact hs),e]
 exact acts as _ rfl
end Go.Tm
end
section
namespace Go.Tm
open Go.IntKind (i64)
theorem Jgs (l:List (List Int)) (p:List Int):0≤Up l p↔p∈l:=by
 have:=WK (fun q=>decide (q=p)) l;unfold Up;constructor
 ·intro h;rw[decide_eq_true h] at this;obtain⟨q,h1,h2⟩:=List.any_eq_true.1 this.symm;have:q=p:=by simpa using h2
  subst this;exact h1
 ·intro h;have h2:l.any (fun q=>decide (q=p))=true:=List.any_eq_true.2 ⟨p,h,by simp⟩;rw[h2] at this;simpa using this
theorem JlH (l:List (List Int)) (p:List Int):Up l p<0↔p∉l:=by rw[←Jgs];omega
theorem Jjl (out:List (List Int)) (f:Frm):Jk out f=if Jn f.c∉out∧Jn f.c≠[0,0,0] then out++[Jn f.c] else out:=by
 unfold Jk;simp only[JlH]
structure Jca (out:List (List Int)):Prop where
 nodup:out.Nodup
 zero:[0,0,0]∉out
theorem Jit (fs:List Frm) :∀(out:List (List Int)),Jca out→Jca (fs.foldl Jk out)∧out <+: fs.foldl Jk out∧∀f∈fs,Jn f.c∈fs.foldl Jk out∨Jn f.c=[0,0,0]:=by
 induction fs with
 | nil=>intro out h;exact⟨h,List.prefix_refl _,by simp⟩
 | cons f fs ih =>
  intro out h;have h1:Jca (Jk out f)∧out <+: Jk out f∧(Jn f.c∈Jk out f∨Jn f.c=[0,0,0]):=by
   rw[Jjl];split
   ·rename_i hc;refine⟨⟨?_,?_⟩,List.prefix_append _ _,.inl (by simp)⟩
    ·rw[List.nodup_append];exact⟨h.nodup,by simp,fun a ha b hb=>by simp at hb;subst hb;intro e;subst e;exact hc.1 ha⟩
    ·intro hm;rcases JrJ.1 hm with hm | hm
     ·exact h.zero hm
     ·simp at hm;exact hc.2 hm.symm
   ·rename_i hc;refine⟨h,List.prefix_refl _,?_⟩
    by_cases hm:Jn f.c∈out
    ·exact .inl hm
    ·right;apply Classical.byContradiction;intro hz;exact hc ⟨hm,hz⟩
  obtain⟨a1,a2,a3⟩:=ih _ h1.1;refine⟨a1,h1.2.1.trans a2,?_⟩;intro g hg;rcases JrX.1 hg with rfl | hg
  ·rcases h1.2.2 with hm | hz
   ·exact .inl (a2.subset hm)
   ·exact .inr hz
  ·exact a3 g hg
def ZB (as:List (List Jc)):List Frm:=as.flatMap fun a=>(Jz a).flatMap Row.guards
theorem JiK (as:List (List Jc)):(Wk as).1=(ZB as).foldl Jk Yu:=by
 have rows :∀(rs:List Row) (s:List (List Int)×List Bool),(rs.foldl Qo s).1=(rs.flatMap Row.guards).foldl Jk s.1:=by
  intro rs
  induction rs with
  | nil=>intro s;rfl
  | cons r rs ih=>intro s;simp only[List.foldl_cons,List.flatMap_cons,List.foldl_append];rw[ih];rfl
 have acts :∀(as:List (List Jc)) (s:List (List Int)×List Bool),(as.foldl XS s).1=(ZB as).foldl Jk s.1:=by
  intro as
  induction as with
  | nil=>intro s;rfl
  | cons a as ih =>
   intro s;have e:(XS s a).1=((Jz a).flatMap Row.guards).foldl Jk s.1:=rows _ _;simp only[List.foldl_cons,ZB,List.flatMap_cons,List.foldl_append] at ih ⊢;rw[ih,e]
 exact acts as _
theorem Jns:Jca Yu:=⟨by decide,by decide⟩
theorem Jfl {as:List (List Jc)} {a:List Jc} {r:Row} {f:Frm} (ha:a∈as) (hr:r∈Jz a) (hf:f∈r.guards):f∈ZB as:=by
 unfold ZB;exact List.mem_flatMap.2 ⟨a,ha,List.mem_flatMap.2 ⟨r,hr,hf⟩⟩
theorem JhJ {as:List (List Jc)} (h:QK as=true):Jg as=(ZB as).foldl Jk Yu:=by simp[Jg,h,JiK]
theorem Jdi {as:List (List Jc)} (h:QK as=true):JT as=V6 Y3 as:=by simp[JT,h,Jli]
theorem Jbk {α:Type} (p:α→Bool) (l:List α):(Zy p l = -1∧l.any p=false)∨∃ (i:Nat) (x:α),Zy p l=i∧l[i]? = some x∧p x=true∧(l.take i).any p=false:=by
 unfold Zy;cases h:l.findIdx? p with
 | none =>
  left;rw[List.findIdx?_eq_none_iff] at h;refine⟨rfl,?_⟩;rw[List.any_eq_false];intro x hx;rw[h x hx];simp
 | some i =>
  right;obtain⟨h1,h2,h3⟩:=List.findIdx?_eq_some_iff_getElem.1 h;refine⟨i,l[i],rfl,by simp[h1],h2,?_⟩;rw[List.any_eq_false];intro x hx;obtain⟨j,hj⟩:=List.mem_iff_getElem?.1 hx;rw[List.getElem?_take] at hj;split at hj
  ·rename_i hji;obtain⟨h4,h5⟩:=JrF.1 hj;rw[←h5];exact h3 j hji
  ·cases hj
def nz (x:Int):Bool:=!decide (x=0)
theorem Jiy {c:List Int} (h:c.any nz=false):Jn c=c:=by
 have hz :∀x∈c,x=0:=by
  intro x hx;rw[List.any_eq_false] at h;have:=h x hx;simpa[nz] using this
 unfold Jn
 conv=>rhs;rw[←List.map_id c]
 apply Jr0;intro x hx;rw[hz x hx];simp
theorem JiD {c:List Int} {i:Nat} {x:Int} (hx:c[i]? = some x) (hn:nz x=true) (ht:(c.take i).any nz=false):YA c=if 0<x then 1 else -1:=by
 induction c generalizing i with
 | nil=>simp at hx
 | cons y c ih =>
  have hx0:x≠0:=by simpa[nz] using hn
  cases i with
  | zero =>
   simp only[List.getElem?_cons_zero,JrD] at hx;subst hx;simp only[YA];split
   ·rfl
   ·rw[if_pos (by omega)]
  | succ i =>
   simp only[List.getElem?_cons_succ] at hx;simp only[List.take_succ_cons,List.any_cons,Bool.or_eq_false_iff] at ht;have hy:y=0:=by simpa[nz] using ht.1
   subst hy;simp only[YA];rw[if_neg (by omega),if_neg (by omega)];exact ih hx ht.2
end Go.Tm
end
section
namespace Go.Tm
open Go.IntKind (i64)
end Go.Tm
end
section
namespace Go.Tm
open Go.IntKind (i64)
def QA (g:List Int) (s:Int):Int:=(g.zipIdx.map fun q=>if(q.2:Int)=s then 0 else q.1).sum
theorem YV {g:List Int} {s:Int} {i:Nat} {x:Int} (h:g[i]? = some x):QA (g.take (i+1)) s=QA (g.take i) s+if(i:Int)=s then 0 else x:=by
 have hi:=(JrF.1 h).1;unfold QA;rw[tS1 h,List.zipIdx_append,List.map_append,List.sum_append];simp[show min i g.length=i by omega]
theorem Jl7 {g:List Int} {s:Int} (h :∀x∈g,0≤x∧x≤50) (i:Nat) (hi:i≤g.length):0≤QA (g.take i) s∧QA (g.take i) s≤50*i:=by
 induction i with
 | zero=>simp[QA]
 | succ i ih =>
  have ih:=ih (by omega);obtain⟨x,hx,hm⟩:=sA1 (show i<g.length by omega);have:=h x hm;rw[YV hx];split <;> omega
def Xi (a b:List Int):List Int:=List.zipWith (· + ·) a b
def Xa (b g:List Int) (ps:List (List Int)) (s:Int) (a:List Int) (f:Frm) (w:List Int):Int×Int×Bool :=
 if(QL b g&&Xc ps&&inB s 0 (g.length-1)&&Xx a)&&f.ok&&XN w then
  let n:=atF f (Xi b a) w
  if f.c=[0,0,0] then(n,n,true)
  else if Jn f.c∈ps then(n-QA g s,n+QA g s,true) else(0,0,false)
 else(0,0,false)
theorem Jp5 {f:Frm} (h:f.ok=true):Std 10000000 f:=by
 simp only[Frm.ok,JrE,JB,JG] at h;exact⟨by omega,by omega,h.1.1.2,h.1.2.2,h.2⟩
theorem JlK {c:List Int} (h:c.length=3):Jn c=[0,0,0]↔c=[0,0,0]:=by
 constructor
 ·intro hp;rcases Jbk nz c with ⟨_,ha⟩ | ⟨i,x,_,hx,hnx,ht⟩
  ·rw[Jiy ha] at hp;exact hp
  ·have hs:=JiD hx hnx ht;have hm:(Jn c)[i]? = some (YA c*x):=by simp[Jn,hx]
   rw[hp] at hm;have hz:YA c*x=0:=by
    match i,hm with
    | 0,hm | 1,hm | 2,hm=>simp at hm;exact hm.symm
    | n+3,hm=>simp at hm
   have hx0:x≠0:=by simpa[nz] using hnx
   rw[hs] at hz;split at hz <;> omega
 ·intro hc;subst hc;decide
theorem Kw {a b:List Int} (h:b.length=a.length):(Xi a b).length=a.length:=by simp[Xi,h]
end Go.Tm
end

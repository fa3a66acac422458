import Derived.Test.YtgpjnnkmmplicaaGreatDoorTc
import Derived.IntWalk
import Derived.ChangeSame
import Derived.JoinedOf
import Derived.JoinedAt
import Derived.RowKit3
import Derived.ProofKit
import Derived.ChangeSlices
import Derived.Carry
import Derived.Lib.LaidTab
import Derived.Lib.ItoaNum
import Derived.Lib.Itoa
import Derived.LaidMore
import Derived.MakeChecks
import Derived.Stop.LaidErr
set_option linter.unusedVariables false
set_option linter.unusedSimpArgs false
section
namespace Go.Tm
open Go.IntKind (i64)
inductive Out where
 | norm
 | exit (id:Nat)
 | ret
def Out.exitOf:Out→Exit
 | .norm=> .normal
 | .exit id=> .exit id
 | .ret=> .ret
structure Jcr where
 slots:List Tmp:=[]
 cells:List (Key×Nat):=[]
 arrs:List Key:=[]
 drop:List Tmp:=[]
 dropk:List Key:=[]
structure XQ where
 keep:List Tmp:=[]
 nl:Nat:=0
 own:List (Nat×Jh3):=[]
 loops:List (Nat×Jcr):=[]
 deep:Bool:=false
 no:List Tmp:=[]
 inner:List Nat:=[]
 bor:List Tmp:=[]
 stop:List Nat:=[]
 alt:List (Nat×List I×Nat×E×List Tmp):=[]
def XQ.dp (H:XQ):Oper→Bool:=JW.dp { deep:=H.deep,no:=H.no,bor:=H.bor }
def XQ.bo (H:XQ):Oper→Bool:=JW.bo { deep:=H.deep,no:=H.no,bor:=H.bor }
def XQ.boW (H:XQ) (l:List Tmp):Oper→Bool:=JW.bo { deep:=H.deep,no:=H.no,bor:=l }
def JoZ:SV→Nat→SV×Nat
 | .d (.vi k _),n=>(.d (.vi k (.v n)),n+1)
 | .d (.vb _),n=>(.d (.vb (.v n)),n+1)
 | .d (.s _),n=>(.d (.s (.v n)),n+1)
 | .d (.vc (.slice none 0 0)),n=>(.d (.s (.v n)),n+1)
 | .d _,n=>(.d (.da n),n+1)
 | .o _ _,n=>(.d (.s (.v n)),n+1)
 | .g cs,n=>let r:=go cs n; (.g r.1,r.2)
 | v,n=>(v,n)
where
 go:List SV→Nat→List SV×Nat
  | [],n=>([],n)
  | c::cs,n=>let r:=JoZ c n;let q:=go cs r.2; (r.1::q.1,q.2)
def reO (k:Key) (l l':E):SV→SV
 | .o j x=>if j == k&&x.same l then .o j l' else .o j x
 | .g cs=> .g (go cs)
 | v=>v
where
 go:List SV→List SV
  | []=>[]
  | c::cs=>reO k l l' c::go cs
def JpA (k:Key) (l l':E):Jg→Jg
 | .box cs=> .box (reO.go k l l' cs)
 | o=>o
def Jfm:List Key→SSt→Nat→SSt×Nat
 | [],s,n=>(s,n)
 | k::ks,s,n=>match s.m.lookup k with
  | some (.arr ty sz l dp rw) =>
   let s':SSt:=⟨s.sl.map fun p=>(p.1,reO k l (.v n) p.2),s.m.map fun p=>if p.1 == k then(k,.arr ty sz (.v n) dp rw) else(p.1,JpA k l (.v n) p.2)⟩
   Jfm ks s' (n+1)
  | _=>Jfm ks s n
def JcN (vs:List Tmp):SSl→Nat→SSl×Nat
 | [],n=>([],n)
 | (t,v)::sl,n=>if vs.contains t then let r:=JoZ v n;let q:=JcN vs sl r.2; ((t,r.1)::q.1,q.2) else let q:=JcN vs sl n; ((t,v)::q.1,q.2)
def Wh:List (Key×Nat)→XB→Nat→XB×Nat
 | [],m,n=>(m,n)
 | (k,off)::cs,m,n=>match m.lookup k with
  | some (.box xs)=>match xs[off]? with
   | some v=>let r:=JoZ v n;Wh cs ((k,.box (xs.set off r.1))::m) r.2
   | none=>Wh cs m n
  | _=>Wh cs m n
def JgE {α:Type}:List (Nat×α)→List Nat→List (Nat×α)
 | [],_=>[]
 | (k,v)::l,Jgi=>if Jgi.contains k then JgE l Jgi else(k,v)::JgE l (k::Jgi)
def genT (h:Jcr) (s:SSt) (n:Nat):SSt×Nat :=
 let s:=s.fresh
 let s0:SSt:=⟨(JgE s.sl []).filter fun p=>!h.drop.contains p.1,(JgE s.m []).filter fun p=>!h.dropk.contains p.1⟩
 let a:=Jfm h.arrs s0 n
 let b:=JcN h.slots a.1.sl a.2
 let c:=Wh h.cells a.1.m b.2
 (⟨b.1,JgE c.1 []⟩,c.2-n)
def Ya:Code→Nat
 | .region id _ _=>id
 | .seq a _=>Ya a
 | .block _ a=>Ya a
 | .cond _ a _=>Ya a
 | .loop a=>Ya a
 | _=>1000000
def Yv (l:List (Nat×Jh3)) (id:Nat) (s:SSt):SSt:=l.foldl (fun s o=>if o.1 == id then JeJ o.2 s else s) s
def Jgm (H:XQ) (id:Nat):Jcr:=(H.loops.lookup id).getD {}
def Joz (c:Operand) (t:Bool) (s:SSt):SSt:=match c with
 | .tmp d=>⟨(d,.d (.vb (Kd t)))::s.sl,s.m⟩
 | _=>s
def VW (ops:Array Oper) (draw:Bool) (tl:Trs):Bool:=!draw||(sok ops&&(un ops).all fun p=>apart (tl.getD p.1 []) (tl.getD p.2 []))
mutual
def SV.under (c:Nat):SV→Bool
 | .d e=>e.under c
 | .g cs=>VN c cs
 | .o _ l=>l.under c
 | .p _ _=>true
 | .e _ l i _=>l.under c&&i.under c
 | .f _ cs=>VN c cs
 | .t cs=>VN c cs
 | .u=>true
def VN (c:Nat):List SV→Bool
 | []=>true
 | v::vs=>v.under c&&VN c vs
end
def Jg.under (c:Nat):Jg→Bool
 | .box cs=>VN c cs
 | .arr _ _ l _ _=>l.under c
 | .dead=>true
def SSt.under (c:Nat) (s:SSt):Bool:=s.sl.all (fun p=>p.2.under c)&&s.m.all (fun p=>p.2.under c)
mutual
theorem Jh7 {c:Nat} {ρ ρ':Env} (h:Jq c ρ ρ') :∀v:SV,v.under c=true→γX ρ' v=γX ρ v
 | .d e,hu=>by simp only[γX,dat];rw[XD h e (by simpa[SV.under] using hu)]
 | .g cs,hu=>by simp only[γX];rw[Kn h cs (by simpa[SV.under] using hu)]
 | .t cs,hu=>by simp only[γX];rw[Kn h cs (by simpa[SV.under] using hu)]
 | .f _ cs,hu=>by simp only[γX];rw[Kn h cs (by simpa[SV.under] using hu)]
 | .o _ l,hu=>by simp only[γX,lst];rw[XD h l (by simpa[SV.under] using hu)]
 | .p _ _,_=>rfl
 | .e _ l i _,hu=>by
  simp only[SV.under,Jq9] at hu;simp only[γX,lst,int];rw[XD h l hu.1,XD h i hu.2]
 | .u,_=>rfl
theorem Kn {c:Nat} {ρ ρ':Env} (h:Jq c ρ ρ') :∀vs:List SV,VN c vs=true→γXs ρ' vs=γXs ρ vs
 | [],_=>rfl
 | v::vs,hu=>by
  simp only[VN,Jq9] at hu;simp only[γXs];rw[Jh7 h v hu.1,Kn h vs hu.2]
end
theorem JnL {c:Nat} {ρ ρ':Env} (h:Jq c ρ ρ') (o:Jg) (hu:o.under c=true):γO ρ' o=γO ρ o:=by
 cases o with
 | box cs=>simp only[γO];rw[Kn h cs hu]
 | arr ty sz l dp rw=>simp only[γO,lst];rw[XD h l hu]
 | dead=>rfl
theorem Jno {c:Nat} {ρ ρ':Env} (h:Jq c ρ ρ') {s:SSt} (hu:s.under c=true):γs ρ' s.sl=γs ρ s.sl∧γm ρ' s.m=γm ρ s.m:=by
 unfold SSt.under at hu;simp only[Jq9] at hu;refine⟨?_,?_⟩
 ·funext t
  unfold γs;cases hl:s.sl.lookup t with
  | none=>rfl
  | some v=>exact Jh7 h v (Jrm.1 hu.1 (t,v) (XO _ _ _ hl))
 ·funext k
  unfold γm;cases hl:s.m.lookup k with
  | none=>rfl
  | some v=>simp only[Jrb];rw[JnL h v (Jrm.1 hu.2 (k,v) (XO _ _ _ hl))]
def Jpd (ops:Array Oper):Bool:=ops.toList.any fun o=>o.guard.isNone&&(match o.op with | .panic _=>true | _=>false)
def JbH (P:Program) (ops:Array Oper) (draw:Bool):Option (Tmp×Operand):=if draw then none else match ops[ops.size-1]? with
 | some ⟨some d,.binOp .eql t x (.const (.slice none 0 0)) _,_,_,_,none⟩=>match P.underlying t with
  | some (.slice _)=>some (d,x)
  | _=>none
 | _=>none
def sxC (P:Program) (sg:FuncId→Option Sig) (H:XQ):Code→SSt→Nat→(Out→SSt→Nat→Option R)→Option R
 | .skip,s,n,k=>k .norm s n
 | .region id ops draw,s,n,k=>if Jpd ops||H.stop.contains id then some (.i (.chk .ff) (.done [])) else
  let s:=Yv H.own id s
  match H.alt.lookup id with
  | some (is,j,b,l)=>match (Yg P sg H.dp (H.boW l) ops (List.range' 0 ops.size) s.sl s.m (n+j) [] fun sl m n tl =>
    match VW ops draw tl with
    | true=>k .norm ⟨QQ H.keep sl,m⟩ n
    | false=>none),(Yg P sg H.dp (H.boW H.bor) ops (List.range' 0 ops.size) s.sl s.m (n+j) [] fun sl m n tl =>
    match VW ops draw tl with
    | true=>k .norm ⟨QQ H.keep sl,m⟩ n
    | false=>none) with
   | some x,some y=>some (Vp is (.ite b x y))
   | _,_=>none
  | none =>
  match if H.inner.contains id && !draw then Y8 ops else none with
  | some q=>Yg P sg H.dp H.bo ops (List.range' 0 (ops.size-4)) s.sl s.m n [] fun sl m n _=>match UR P sg q sl m n with
   | some r=>match k .norm ⟨QQ H.keep r.2.1,r.2.2.1⟩ r.2.2.2 with
    | some x=>some (Vp r.1 x)
    | none=>none
   | none=>none
  | none =>
  match JbH P ops draw with
  | none=>Yg P sg H.dp H.bo ops (List.range' 0 ops.size) s.sl s.m n [] fun sl m n tl =>
   match VW ops draw tl with
   | true=>k .norm ⟨QQ H.keep sl,m⟩ n
   | false=>none
  | some (d,x)=>Yg P sg H.dp H.bo ops (List.range' 0 (ops.size-1)) s.sl s.m n [] fun sl m n _=>match sop sl x with
   | .d (.s l)=>if SSt.under n ⟨sl,m⟩ then match k .norm ⟨QQ H.keep ((d,.d (.vb .tt))::sl),m⟩ n,k .norm ⟨QQ H.keep ((d,.d (.vb .ff))::sl),m⟩ n with
    | some x,some y=>some (.nilq n l x y)
    | _,_=>none
    else none
   | _=>none
 | .seq a b,s,n,k=>sxC P sg H a s n fun o s' n'=>match o with
  | .norm=>sxC P sg H b s' n' k
  | o=>k o s' n'
 | .cond c a b,s,n,k=>match sop s.sl c with
  | .d (.vb e)=>match e.known with
   | some true=>sxC P sg H a s n k
   | some false=>sxC P sg H b s n k
   | none=>match sxC P sg H a (Joz c true s) n k,sxC P sg H b (Joz c false s) n k with
    | some x,some y=>some (.ite e x y)
    | _,_=>none
  | _=>none
 | .block id a,s,n,k=>sxC P sg H a s n fun o s' n'=>match o with
  | .exit j=>if j=id then k .norm s' n' else k (.exit j) s' n'
  | o=>k o s' n'
 | .loop a,s,n,k =>
  let s:=Yv H.own (Ya a) s
  let t:=genT (Jgm H (Ya a)) s n
  match JbD n t.2 t.1 (SSt.like H.nl t.1 s) H.nl with
  | none=>none
  | some init=>match sxC P sg H a t.1 (n+t.2) (fun o s' n'=>match o with
    | .norm=>match JbD n t.2 t.1 (SSt.like H.nl t.1 s') H.nl with
     | some vs=>some (.next vs)
     | none=>none
    | o=>match k o s' n' with
     | some r=>some (.esc r)
     | none=>none) with
   | some body=>some (.loop n init body)
   | none=>none
 | .exit id,s,n,k=>k (.exit id) s n
 | .ret,s,n,k=>k .ret s n
 | _,_,_,_=>none
section
variable {B:Tb} {ρ:Env} {sg:FuncId→Option Sig} {P:Program} {G:JW} {N:Nat}
theorem SMP.run_mono {α:Type} :∀(p:SMP α) (m:XB) (n:Nat) (r:JnW α),p.run m n=some r→n≤r.n
 | .ret a,m,n,r,h=>by simp only[SMP.run,Jq8] at h;subst h;exact Nat.le_refl _
 | .fail,_,_,_,h=>by cases h
 | .get k c,m,n,r,h=>by
  simp only[SMP.run] at h;split at h
  ·split at h
   ·rename_i r1 h1;simp only[Jq8] at h;subst h;show n≤r1.n;exact SMP.run_mono _ _ _ r1 h1
   ·cases h
  ·cases h
 | .put k o c,m,n,r,h=>by
  simp only[SMP.run] at h;split at h
  ·split at h
   ·rename_i r1 h1;simp only[Jq8] at h;subst h;show n≤r1.n;exact SMP.run_mono _ _ _ r1 h1
   ·cases h
  ·cases h
 | .new k o c,m,n,r,h=>by
  simp only[SMP.run] at h;split at h
  ·cases h
  ·split at h
   ·rename_i r1 h1;simp only[Jq8] at h;subst h;show n≤r1.n;exact SMP.run_mono _ _ _ r1 h1
   ·cases h
 | .ask i j c,m,n,r,h=>by
  simp only[SMP.run] at h;split at h
  ·rename_i r1 h1;simp only[Jq8] at h;subst h;have:=SMP.run_mono _ _ _ _ h1;show n≤r1.n;omega
  ·cases h
theorem Kr {dp bo:Oper→Bool} {ops:Array Oper} (n0:Nat) (k k':SSl→XB→Nat→Trs→Option R) (hk :∀sl m n t,n0≤n→k sl m n t=k' sl m n t) :∀(l:List Nat) (sl:SSl) (m:XB) (n:Nat) (trs:Trs),n0≤n →
  Yg P sg dp bo ops l sl m n trs k=Yg P sg dp bo ops l sl m n trs k'
 | [],sl,m,n,trs,h=>hk _ _ _ _ h
 | i::l,sl,m,n,trs,h=>by
  have ih:=Kr (dp:=dp) (bo:=bo) (ops:=ops) n0 k k' hk l;simp only[Yg];cases ops[i]? with
  | none=>rfl
  | some o =>
   dsimp only
   generalize Y2 ops sl o=wt;cases wt with
   | yes =>
    simp only[if_true];cases hr:(Jgw P sg (dp o) (bo o) o sl).run m n with
    | none=>rfl
    | some r =>
     simp only;rw[ih _ _ _ _ (Nat.le_trans h (SMP.run_mono _ _ _ _ hr))]
   | no=>simp only[Jrp,if_false];rw[ih _ _ _ _ h]
   | bad=>rfl
   | fork d b want =>
    cases want with
    | true =>
     simp only[Bool.not_true,Jrp,if_false,if_true];rw[ih _ _ _ _ h];cases hr:(Jgw P sg (dp o) (bo o) o ((d,.d (.vb .tt))::sl)).run m n with
     | none=>rfl
     | some r =>
      simp only;rw[ih _ _ _ _ (Nat.le_trans h (SMP.run_mono _ _ _ _ hr))]
    | false =>
     simp only[Bool.not_false,Jrp,if_false,if_true];rw[ih _ _ _ _ h];cases hr:(Jgw P sg (dp o) (bo o) o ((d,.d (.vb .ff))::sl)).run m n with
     | none=>rfl
     | some r =>
      simp only;rw[ih _ _ _ _ (Nat.le_trans h (SMP.run_mono _ _ _ _ hr))]
theorem JiK {ops:Array Oper} {draw:Bool} {d:Tmp} {x:Operand} (h:JbH P ops draw=some (d,x)) :
  0<ops.size∧draw=false∧∃ t:TypeId,(∃ e,P.underlying t=some (.slice e))∧∃ o,ops[ops.size-1]? = some o∧o.dst=some d∧o.guard=none∧∃ y,o.op = .binOp .eql t x (.const (.slice none 0 0)) y:=by
 unfold JbH at h;split at h
 ·cases h
 ·rename_i hd;have hd:draw=false:=by simpa using hd
  split at h
  ·rename_i d' t x' y ty pos af ho;split at h
   ·rename_i e he;simp only[Jq8,Jrq] at h;obtain⟨rfl,rfl⟩:=h;have hlt:=(Jrl.1 ho).1;exact⟨by omega,hd,t,⟨e,he⟩,_,ho,rfl,rfl,_,rfl⟩
   ·cases h
  ·cases h
theorem Jpu {t e:TypeId} (h:P.underlying t=some (.slice e)) (A:Option Addr) (l cap:Nat):JF P (Op.equal t (.slice A l cap) (.slice none 0 0))=some A.isNone:=by
 show JF P (Op.equalIn (9999+1) t _ _)=_;unfold Op.equalIn;rw[QH,Xc h];cases A <;> rfl
theorem JnN {a:Act} {w:World} {o:Oper} {t:TypeId} {x:Operand} {A:Option Addr} {l cap:Nat} (ht : ∃ e,P.underlying t=some (.slice e)) (ho : ∃ y,o.op = .binOp .eql t x (.const (.slice none 0 0)) y) (hA:a.eval x = .slice A l cap) :
  (execOp a.eval o).run P w = .ok (.value (.bool A.isNone)) w:=by
 obtain⟨e,ht⟩:=ht;obtain⟨y,ho⟩:=ho;have h1:JF P (do eqGuard .eql t x (.const (.slice none 0 0)) (.slice A l cap) (.slice none 0 0);binOp .eql t (.slice A l cap) (.slice none 0 0))=some (.bool A.isNone):=by
  show JF P (Op.equal t (.slice A l cap) (.slice none 0 0) >>= fun r=>pure (Value.bool r))=_;rw[QH,Jpu ht];rfl
 have h2:=XR _ _ w h1;have hc:a.eval (.const (.slice none 0 0)) = .slice none 0 0:=rfl;unfold execOp;rw[ho];simp only[hA,hc,Sem.run_bind] at h2 ⊢;rw[h2];rfl
theorem VU {T:Tab} {G:JW} {ops:Array Oper} {c:Cx P} {Q:Exit→Act→World→Prop} (hT:K1 c T) :∀(l l2:List Nat) (st st':St) (g:Gh) (a:Act) (w:World),Sim c g st.m w→Jl c g st.m w st.sl a→ZK a.tmps.size ops=true→UA P T G ops l st=some st' →
  (∀a' w' g',Sim c g' st'.m w'→Jl c g' st'.m w' st'.sl a'→Jc c g st.m w g' st'.m w'→a'.defers=a.defers→a'.tmps.size=a.tmps.size→wpOps P ops Q l2 a' w')→wpOps P ops Q (l++l2) a w
 | [],l2,st,st',g,a,w,hS,hsl,_,h,hQ=>by
  simp only[UA,Jq8] at h;subst h;exact hQ a w g hS hsl (.refl _ _ _ _) rfl rfl
 | i::l,l2,st,st',g,a,w,hS,hsl,hd,h,hQ=>by
  simp only[UA] at h;split at h
  ·rename_i st1 h1;rw[List.cons_append,wpOps_cons];refine V2 hT hS hsl hd h1 fun a' w' g' hS' hsl' hC1 e1 e2=>?_;refine VU hT l l2 st1 st' g' a' w' hS' hsl' (by rw[e2];exact hd) h fun a'' w'' g'' h3 h4 hC2 h5 h6=>hQ a'' w'' g'' h3 h4 (hC1.trans hC2) (h5.trans e1) (h6.trans e2)
  ·cases h
theorem JmN {s:SSt} {c:Operand} {e:E} (h:sop s.sl c = .d (.vb e)):opX (γs ρ s.sl) c=X.d (.v (.bool (bol ρ e))):=by
 rw[Qa,h];rfl
theorem Jkf {s:SSt} {c:Operand} {e:E} {t:Bool} (h:sop s.sl c = .d (.vb e)) (hk:e.known=none) (ht:bol ρ e=t):γs ρ (Joz c t s).sl=γs ρ s.sl∧(Joz c t s).m=s.m:=by
 cases c with
 | tmp d =>
  refine⟨?_,rfl⟩;have hl:s.sl.lookup d=some (.d (.vb e)):=by
   simp only[sop] at h;cases hl:s.sl.lookup d with
   | none=>rw[hl] at h;cases h
   | some v=>rw[hl] at h;exact congrArg some h
  exact Jkb hl ht
 | _=>exact⟨rfl,rfl⟩
theorem Zb {c:Cx P} {w:World} {a:Act} (id:Nat) {g0:Gh} {m0:Mem} {w0:World} :∀(l:List (Nat×Jh3)) (s:SSt) (g:Gh),Sim c g (γm ρ s.m) w→Jl c g (γm ρ s.m) w (γs ρ s.sl) a→Jc c g0 m0 w0 g (γm ρ s.m) w →
  ∃ g',Sim c g' (γm ρ (Yv l id s).m) w∧Jl c g' (γm ρ (Yv l id s).m) w (γs ρ (Yv l id s).sl) a∧Jc c g0 m0 w0 g' (γm ρ (Yv l id s).m) w
 | [],s,g,hS,hH,hC=>⟨g,hS,hH,hC⟩
 | o::l,s,g,hS,hH,hC=>by
  unfold Yv;simp only[List.foldl_cons]
  by_cases ho:(o.1 == id)=true
  ·rw[if_pos ho];obtain⟨g',h1,h2,h3⟩:=Jl1 o.2 hS hH hC;exact Zb id l _ g' h1 h2 h3
  ·rw[if_neg ho];exact Zb id l _ g hS hH hC
theorem Jq.trans {c:Nat} {ρ1 ρ2 ρ3:Env} (h:Jq c ρ1 ρ2) (h':Jq c ρ2 ρ3):Jq c ρ1 ρ3:=fun j hj=>(h' j hj).trans (h j hj)
theorem Jq.le {c d:Nat} {ρ1 ρ2:Env} (h:Jq d ρ1 ρ2) (hc:c≤d):Jq c ρ1 ρ2:=fun j hj=>h j (by omega)
theorem Jq.rfl' {c:Nat} {ρ:Env}:Jq c ρ ρ:=fun _ _=>rfl
theorem Jq.symm {c:Nat} {ρ1 ρ2:Env} (h:Jq c ρ1 ρ2):Jq c ρ2 ρ1:=fun j hj=>(h j hj).symm
theorem KG (hB:BOk sg B) {c:Cx P} (hT:K1 c (QN sg B)) (hm:P.follows .mixedOrders=true) (H:XQ) (bor:List Tmp) {g0:Gh} {m0:Mem} {w0:World}
  {id:Nat} {ops:Array Oper} {draw:Bool} {s1:SSt} {n:Nat} {k:Out→SSt→Nat→Option R} {r0:R} {ρ:Env} {o:Oc} {a:Act} {w:World} {g1:Gh} {Q:Exit→Act→World→Prop}
  (h:Yg P sg H.dp (H.boW bor) ops (List.range' 0 ops.size) s1.sl s1.m n [] (fun sl m n tl=>match VW ops draw tl with | true=>k .norm ⟨QQ H.keep sl,m⟩ n | false=>none)=some r0)
  (hr:Run B N r0 ρ o) (hS1:Sim c g1 (γm ρ s1.m) w) (hH1:Jl c g1 (γm ρ s1.m) w (γs ρ s1.sl) a) (hC1:Jc c g0 m0 w0 g1 (γm ρ s1.m) w) (hc:ZK a.tmps.size ops=true)
  (hQ :∀(s':SSt) (n':Nat) (R':R) (a':Act) (w':World) (g':Gh),n≤n'→k .norm s' n'=some R'→Run B N R' ρ o→Sim c g' (γm ρ s'.m) w'→Jl c g' (γm ρ s'.m) w' (γs ρ s'.sl) a'→Jc c g0 m0 w0 g' (γm ρ s'.m) w'→a'.defers=a.defers→a'.tmps.size=a.tmps.size→Q .normal a' w') :
  (Code.region id ops draw).wp P Q a w:=by
 rw[Kr n _ (fun sl m n' tl=>if n≤n' then(match VW ops draw tl with | true=>k .norm ⟨QQ H.keep sl,m⟩ n' | false=>none) else none)
  (fun sl m n' t hn=>by rw[if_pos hn]) _ _ _ _ _ (Nat.le_refl n)] at h
 obtain⟨sl',m',n',tl,R',e1,e2,e3⟩:=Wu (G:={ deep:=H.deep,no:=H.no,bor:=bor }) (N:=N) (ρ:=ρ) hB _ _ _ _ _ _ r0 o h hr;simp only[List.reverse_nil,List.nil_append] at e2;split at e2
 ·rename_i hn;cases hd:VW ops draw tl with
  | false=>rw[hd] at e2;cases e2
  | true =>
   rw[hd] at e2;have hreg:WM P (QN sg B) { deep:=H.deep,no:=H.no,bor:=bor } id ops draw ⟨γs ρ s1.sl,γm ρ s1.m⟩=some ⟨γs ρ sl',γm ρ m'⟩:=by
    unfold WM;cases draw with
    | false =>
     simp only[Jrp,if_false];exact KJ _ _ _ _ e1
    | true =>
     simp only[if_true,e1];unfold VW at hd;simp only[Bool.not_true,Bool.false_or] at hd;simp only[hd,if_true]
   refine Jgd hT hm (g0:=g0) (m0:=m0) (w0:=w0) hC1 hS1 hH1 hc hreg fun a' w' g' h1 h2 h3 h4 h5=>?_;exact hQ _ n' R' a' w' g' hn e2 e3 h1 (Jck H.keep h2) h3 h4 h5
 ·cases e2
theorem JnQ (hB:BOk sg B) {c:Cx P} (hT:K1 c (QN sg B)) (hm:P.follows .mixedOrders=true) (H:XQ) {g0:Gh} {m0:Mem} {w0:World} (hl :∀k,m0 k≠none→k<H.nl) :
  ∀(C:Code) (s:SSt) (n:Nat) (k:Out→SSt→Nat→Option R) (R:R) (ρ:Env) (o:Oc) (a:Act) (w:World) (g:Gh) (Q:Exit→Act→World→Prop),
  sxC P sg H C s n k=some R→Run B N R ρ o→Sim c g (γm ρ s.m) w→Jl c g (γm ρ s.m) w (γs ρ s.sl) a→Jc c g0 m0 w0 g (γm ρ s.m) w→codeOk a.tmps.size C=true →
  (∀ex s' n' R' ρ' a' w' g',n≤n'→Jq n ρ ρ'→k ex s' n'=some R'→Run B N R' ρ' o→Sim c g' (γm ρ' s'.m) w'→Jl c g' (γm ρ' s'.m) w' (γs ρ' s'.sl) a'→Jc c g0 m0 w0 g' (γm ρ' s'.m) w'→a'.defers=a.defers→a'.tmps.size=a.tmps.size→Q ex.exitOf a' w') →
  C.wp P Q a w:=by
 intro C
 induction C with
 | skip =>
  intro s n k R ρ o a w g Q h hr hS hH hC hc hQ;exact wp_skip (hQ .norm s n R ρ a w g (Nat.le_refl _) Jq.rfl' h hr hS hH hC rfl rfl)
 | exit id =>
  intro s n k R ρ o a w g Q h hr hS hH hC hc hQ;exact wp_exit (hQ (.exit id) s n R ρ a w g (Nat.le_refl _) Jq.rfl' h hr hS hH hC rfl rfl)
 | ret =>
  intro s n k R ρ o a w g Q h hr hS hH hC hc hQ;exact wp_ret (hQ .ret s n R ρ a w g (Nat.le_refl _) Jq.rfl' h hr hS hH hC rfl rfl)
 | region id ops draw =>
  intro s n k R ρ o a w g Q h hr hS hH hC hc hQ;simp only[sxC] at h;split at h
  ·simp only[Jq8] at h;subst h;obtain⟨h1,_⟩:=hr;exact absurd h1 (by simp[I.holds,bol,den,V.bool])
  obtain⟨g1,hS1,hH1,hC1⟩:=Zb id H.own s g hS hH hC;generalize Yv H.own id s=s1 at *;cases hal:H.alt.lookup id with
  | some q =>
   obtain⟨is,j,b,l⟩:=q;rw[hal] at h;simp only at h;split at h
   ·rename_i x y hx hy;simp only[Jq8] at h;subst h;obtain⟨_,hr2⟩:=Kg _ _ _ hr;simp only[Run] at hr2;cases hb:bol ρ b with
    | true =>
     rw[hb] at hr2;simp only[if_true] at hr2;exact KG hB hT hm H l hx hr2 hS1 hH1 hC1 hc fun s' n' R' a' w' g' hn hk hr' q1 q2 q3 q4 q5=>hQ .norm s' n' R' ρ a' w' g' (by omega) Jq.rfl' hk hr' q1 q2 q3 q4 q5
    | false =>
     rw[hb] at hr2;simp only[Jrp,if_false] at hr2;exact KG hB hT hm H H.bor hy hr2 hS1 hH1 hC1 hc fun s' n' R' a' w' g' hn hk hr' q1 q2 q3 q4 q5=>hQ .norm s' n' R' ρ a' w' g' (by omega) Jq.rfl' hk hr' q1 q2 q3 q4 q5
   ·cases h
  | none =>
  rw[hal] at h;simp only at h;cases hin:(if H.inner.contains id && !draw then Y8 ops else none) with
  | some q =>
   rw[hin] at h;simp only at h;have hq:draw=false∧Y8 ops=some q:=by
    split at hin
    ·rename_i hcc;simp only[Jq9,Bool.not_eq_true'] at hcc;exact⟨hcc.2,hin⟩
    ·cases hin
   obtain⟨rfl,hq⟩:=hq;rw[Kr n _ (fun sl m n' tl=>if n≤n' then(match UR P sg q sl m n' with
    | some r=>match k .norm ⟨QQ H.keep r.2.1,r.2.2.1⟩ r.2.2.2 with
     | some x=>some (Vp r.1 x)
     | none=>none
    | none=>none) else none)
    (fun sl m n' t hn=>by rw[if_pos hn]) _ _ _ _ _ (Nat.le_refl n)] at h
   obtain⟨sl',m',n',tl,R',e1,e2,e3⟩:=Wu (G:={ deep:=H.deep,no:=H.no,bor:=H.bor }) (N:=N) (ρ:=ρ) hB _ _ _ _ _ _ R o h hr;split at e2
   ·rename_i hn;split at e2
    ·rename_i r hsx;obtain⟨is,sl2,m2,n2⟩:=r;split at e2
     ·rename_i R2 hk2;simp only[Jq8] at e2;subst e2;obtain⟨his,hr2⟩:=Kg _ _ _ e3;have hn2:n'≤n2:=JfQ (fun p m n r h=>SMP.run_mono p m n r h) hsx;refine wp_region ?_;have hsz4:4≤ops.size:=by
       unfold Y8 at hq;split at hq
       ·split at hq
        ·split at hq
         ·rename_i hc4;exact hc4.1
         ·cases hq
        ·cases hq
       ·cases hq
      have hrange:List.range ops.size=List.range' 0 (ops.size-4)++[ops.size-4,ops.size-3,ops.size-2,ops.size-1]:=by
       rw[List.range_eq_range'];have:ops.size=(ops.size-4)+1+1+1+1:=by omega
       conv=>lhs;rw[this,List.range'_concat,List.range'_concat,List.range'_concat,List.range'_concat]
       simp only[List.append_assoc,List.singleton_append,Nat.zero_add,Nat.one_mul,List.append_cancel_left_eq];rw[show ops.size-3=ops.size-4+1 by omega,show ops.size-2=ops.size-4+2 by omega,show ops.size-1=ops.size-4+3 by omega];rfl
      rw[hrange];refine VU hT _ [ops.size-4,ops.size-3,ops.size-2,ops.size-1] _ _ _ _ _ hS1 hH1 hc (KJ (G:={ deep:=H.deep,no:=H.no,bor:=H.bor }) _ _ _ _ e1) fun a' w' g' hS2 hH2 hC2 hd2 hz2=>?_;have hc':ZK a'.tmps.size ops=true:=by rw[hz2];exact hc
      refine(JiE hB hT hS2 hH2 hc' hq hsx his fun a'' w'' g'' h1 h2 h3 h4 h5=>?_).2;exact hQ .norm _ n2 R2 ρ a'' w'' g'' (Nat.le_trans hn hn2) Jq.rfl' hk2 hr2 h1 (Jck H.keep h2) ((hC1.trans hC2).trans h3) (h4.trans hd2) (h5.trans hz2)
     ·cases e2
    ·cases e2
   ·cases e2
  | none =>
  rw[hin] at h;simp only at h;cases hnl:JbH P ops draw with
  | some dx =>
   obtain⟨d,x⟩:=dx;rw[hnl] at h;simp only at h;obtain⟨ho,hdr,t,ht,o0,hop,hod,hog,hopp⟩:=JiK hnl;subst hdr;rw[Kr n _ (fun sl m n' tl=>if n≤n' then(match sop sl x with
    | .d (.s l)=>if SSt.under n' ⟨sl,m⟩ then match k .norm ⟨QQ H.keep ((d,.d (.vb .tt))::sl),m⟩ n',k .norm ⟨QQ H.keep ((d,.d (.vb .ff))::sl),m⟩ n' with
     | some x,some y=>some (.nilq n' l x y)
     | _,_=>none
     else none
    | _=>none) else none)
    (fun sl m n' t hn=>by rw[if_pos hn]) _ _ _ _ _ (Nat.le_refl n)] at h
   obtain⟨sl',m',n',tl,R',e1,e2,e3⟩:=Wu (G:={ deep:=H.deep,no:=H.no,bor:=H.bor }) (N:=N) (ρ:=ρ) hB _ _ _ _ _ _ R o h hr;split at e2
   ·rename_i hn;split at e2
    ·rename_i l hl;split at e2
     ·rename_i hund;split at e2
      ·rename_i R1 R2 hk1 hk2;simp only[Jq8] at e2;subst e2;obtain⟨⟨ρy,hay,hry⟩,hx⟩:=e3;refine wp_region ?_;have hrange:List.range ops.size=List.range' 0 (ops.size-1)++[ops.size-1]:=by
        rw[List.range_eq_range'];have:ops.size=(ops.size-1)+1:=by omega
        conv=>lhs;rw[this,List.range'_concat]
        simp
       rw[hrange];refine VU hT _ [ops.size-1] _ _ _ _ _ hS1 hH1 hc (KJ (G:={ deep:=H.deep,no:=H.no,bor:=H.bor }) _ _ _ _ e1) fun a' w' g' hS2 hH2 hC2 hd2 hz2=>?_;rw[wpOps_cons];have hv:=oX1 hH2 x;rw[Qa,hl] at hv;obtain⟨fp,⟨A,cap,hA,hle,hrest⟩,hok⟩:=hv;have hexec:(execOp a'.eval o0).run P w' = .ok (.value (.bool A.isNone)) w':=JnN ht hopp hA;have hdlt:d<a'.tmps.size:=by
        have h0:ZK a.tmps.size ops=true:=hc;have:=Array.all_eq_true_iff_forall_mem.1 h0 o0 (Array.mem_of_getElem? hop);rw[hod] at this;rw[hz2];simpa using this
       unfold wpOp;rw[hop];have hwant:Region.wanted o0 (yielded ops a'.tmps)=true:=by unfold Region.wanted;rw[hog]
       simp only[hwant,if_true];refine .inl ?_;unfold Oper.wp;rw[hexec];show wpOps P ops Q [] (a'.put o0.dst (.bool A.isNone)) w';have hput :∀(tb:Bool),A.isNone=tb→Jl c g' (γm ρ m') w' (γs ρ ((d,.d (.vb (Kd tb)))::sl')) (a'.put o0.dst (.bool A.isNone)):=by
        intro tb htb;rw[ZP,htb];have:=Jl.put (o:=o0) (x:=γX ρ (.d (.vb (Kd tb)))) (v:= .bool tb) hH2 (.refl _ _ _ _) (fun d' hd'=>by rw[hod] at hd';cases hd';exact hdlt) (by
         show VX c g' _ w' (X.d (.v (.bool (bol ρ (Kd tb))))) _;have:bol ρ (Kd tb)=tb:=by cases tb <;> rfl
         rw[this];exact⟨[],⟨rfl,rfl,rfl⟩,fun b hb=>by simp at hb⟩)
        rw[hod] at this ⊢;exact this
       have hC3:=hC1.trans hC2;have fin :∀(tb:Bool) (Rb:Go.Tm.R) (ρb:Env),A.isNone=tb→Jq n' ρ ρb→k .norm ⟨QQ H.keep ((d,.d (.vb (Kd tb)))::sl'),m'⟩ n'=some Rb→Run B N Rb ρb o→Q .normal (a'.put o0.dst (.bool A.isNone)) w':=by
        intro tb Rb ρb htb hab hkb hrb;have hund2:SSt.under n' ⟨(d,.d (.vb (Kd tb)))::sl',m'⟩=true:=by
         unfold SSt.under at hund ⊢;simp only[Jq9,List.all_cons] at hund ⊢;exact⟨⟨by cases tb <;> rfl,hund.1⟩,hund.2⟩
        obtain⟨u1,u2⟩:=Jno hab hund2;refine hQ .norm _ n' Rb ρb _ w' g' hn (hab.le hn) hkb hrb (by rw[u2];exact hS2) (Jck H.keep ?_) (by rw[u2];exact hC3) ((XN _ _ _).trans hd2) ((Zg _ _ _).trans hz2);rw[u2];show Jl c g' _ w' (γs ρb ((d,.d (.vb (Kd tb)))::sl')) _;rw[u1];exact hput tb htb
       cases hA':A.isNone with
       | true =>
        have hnil:lst ρ l=[]:=by
         rcases hrest with ⟨h1,_⟩ | ⟨b,o,sz,fp',h1,_⟩
         ·exact h1
         ·rw[h1] at hA';cases hA'
        obtain⟨ρx,hax,hrx⟩:=hx hnil;have:=fin true R1 ρx hA' hax hk1 hrx;rw[hA'] at this;exact this
       | false =>
        have:=fin false R2 ρy hA' hay hk2 hry;rw[hA'] at this;exact this
      ·cases e2
     ·cases e2
    ·cases e2
   ·cases e2
  | none =>
  rw[hnl] at h;simp only at h;exact KG hB hT hm H H.bor h hr hS1 hH1 hC1 hc fun s' n' R' a' w' g' hn hk hr' q1 q2 q3 q4 q5=>hQ .norm s' n' R' ρ a' w' g' hn Jq.rfl' hk hr' q1 q2 q3 q4 q5
 | seq x y ihx ihy =>
  intro s n k R ρ o a w g Q h hr hS hH hC hc hQ;simp only[codeOk,Jq9] at hc;simp only[sxC] at h;refine wp_seq ?_;refine ihx s n _ R ρ o a w g _ h hr hS hH hC hc.1 fun ex s' n' R' ρ' a' w' g' hn hag hk hr' hS' hH' hC' hd hz=>?_;cases ex with
  | norm =>
   refine ihy s' n' k R' ρ' o a' w' g' Q hk hr' hS' hH' hC' (by rw[hz];exact hc.2) fun ex s2 n2 R2 ρ2 a2 w2 g2 hn2 hag2 hk2 hr2 hS2 hH2 hC2 hd2 hz2=>?_;exact hQ ex s2 n2 R2 ρ2 a2 w2 g2 (Nat.le_trans hn hn2) (hag.trans (hag2.le hn)) hk2 hr2 hS2 hH2 hC2 (hd2.trans hd) (hz2.trans hz)
  | exit id=>exact hQ (.exit id) s' n' R' ρ' a' w' g' hn hag hk hr' hS' hH' hC' hd hz
  | ret=>exact hQ .ret s' n' R' ρ' a' w' g' hn hag hk hr' hS' hH' hC' hd hz
 | cond b x y ihx ihy =>
  intro s n k R ρ o a w g Q h hr hS hH hC hc hQ;simp only[codeOk,Jq9] at hc;simp only[sxC] at h;split at h
  ·rename_i e he;have hv:=oX1 hH b;rw[JmN he] at hv;have hv:=(J0 hv).1;refine wp_cond hv ?_;split at h
   ·rename_i hk;rw[Zx hk];simp only[if_true];exact ihx s n k R ρ o a w g Q h hr hS hH hC hc.1 hQ
   ·rename_i hk;rw[Zx hk];simp only[Jrp,if_false];exact ihy s n k R ρ o a w g Q h hr hS hH hC hc.2 hQ
   ·rename_i hk;split at h
    ·rename_i x' y' hx hy;simp only[Jq8] at h;subst h;simp only[Run] at hr;cases hb:bol ρ e with
     | true =>
      rw[hb] at hr;simp only[if_true] at hr ⊢;obtain⟨e1,e2⟩:=Jkf (t:=true) he hk hb;exact ihx _ n k x' ρ o a w g Q hx hr (by rw[e2];exact hS) (by rw[e1,e2];exact hH) (by rw[e2];exact hC) hc.1 hQ
     | false =>
      rw[hb] at hr;simp only[Jrp,if_false] at hr ⊢;obtain⟨e1,e2⟩:=Jkf (t:=false) he hk hb;exact ihy _ n k y' ρ o a w g Q hy hr (by rw[e2];exact hS) (by rw[e1,e2];exact hH) (by rw[e2];exact hC) hc.2 hQ
    ·cases h
  ·cases h
 | block id x ih =>
  intro s n k R ρ o a w g Q h hr hS hH hC hc hQ;simp only[codeOk] at hc;simp only[sxC] at h;refine wp_block ?_;refine ih s n _ R ρ o a w g _ h hr hS hH hC hc fun ex s' n' R' ρ' a' w' g' hn hag hk hr' hS' hH' hC' hd hz=>?_;cases ex with
  | norm=>exact hQ .norm s' n' R' ρ' a' w' g' hn hag hk hr' hS' hH' hC' hd hz
  | ret=>exact hQ .ret s' n' R' ρ' a' w' g' hn hag hk hr' hS' hH' hC' hd hz
  | exit j =>
   simp only at hk;split at hk
   ·rename_i hj;have:=hQ .norm s' n' R' ρ' a' w' g' hn hag hk hr' hS' hH' hC' hd hz;simpa[Exit.inBlock,Out.exitOf,hj] using this
   ·rename_i hj;have:=hQ (.exit j) s' n' R' ρ' a' w' g' hn hag hk hr' hS' hH' hC' hd hz;simpa[Exit.inBlock,Out.exitOf,hj] using this
 | loop x ih =>
  intro s n k R ρ o a w g Q h hr hS hH hC hc hQ;simp only[codeOk] at hc;simp only[sxC] at h;obtain⟨g1,hS1,hH1,hC1⟩:=Zb (Ya x) H.own s g hS hH hC;generalize Yv H.own (Ya x) s=s1 at *;generalize genT (Jgm H (Ya x)) s1 n=t at *;split at h
  ·cases h
  ·rename_i init hinit;split at h
   ·rename_i body hbody;simp only[Jq8] at h;subst h;simp only[Run] at hr;refine wp_loop_rounds N ?_;have key :∀(j:Nat) (vs:List V) (g:Gh) (a':Act) (w:World),Jbu (fun vs o1=>∃ ρ',Jq n ρ ρ'∧Jbi n vs ρ'∧Run B N body ρ' o1) j vs o →
      (∀ρ',Jq n ρ ρ'→Jbi n vs ρ'→Sim c g (γm ρ' t.1.m) w∧Jl c g (γm ρ' t.1.m) w (γs ρ' t.1.sl) a'∧Jc c g0 m0 w0 g (γm ρ' t.1.m) w) →
      a'.defers=a.defers→a'.tmps.size=a.tmps.size→Code.rounds P x Q j a' w:=by
     intro j
     induction j with
     | zero=>intro vs g a' w hrel;exact hrel.elim
     | succ j ihj =>
      intro vs g a' w hrel hst hda hza;rw[rounds_succ];rcases hrel with ⟨vs',⟨ρ',hag,hset,hrun⟩,hrel⟩ | ⟨ρ',hag,hset,hrun⟩
      ·obtain⟨q1,q2,q3⟩:=hst ρ' hag hset;refine ih t.1 (n+t.2) _ body ρ' _ a' w g _ hbody hrun q1 q2 q3 (by rw[hza];exact hc) fun ex s' n' R' ρ2 a2 w2 g2 hn2 hag2 hk2 hr2 hS2 hH2 hC2 hd2 hz2=>?_;cases ex with
       | norm =>
        simp only at hk2;split at hk2
        ·rename_i vsE hvs;simp only[Jq8] at hk2;subst hk2;simp only[Run,Oc.next.injEq] at hr2;subst hr2;obtain⟨g3,hS3,hH3,hC3⟩:=Jgg hl t.1 hS2 hH2 hC2;refine ihj _ g3 a2 w2 hrel (fun ρ3 hag3 hset3=>?_) (hd2.trans hda) (hz2.trans hza);have hag4:Jq n ρ ρ2:=hag.trans (hag2.le (by omega));exact VE hvs (hag4.symm.trans hag3) hset3 hl hS3 hH3 hC3
        ·cases hk2
       | exit id =>
        simp only at hk2;split at hk2
        ·simp only[Jq8] at hk2;subst hk2;obtain⟨o',ho',_⟩:=hr2;cases ho'
        ·cases hk2
       | ret =>
        simp only at hk2;split at hk2
        ·simp only[Jq8] at hk2;subst hk2;obtain⟨o',ho',_⟩:=hr2;cases ho'
        ·cases hk2
      ·obtain⟨q1,q2,q3⟩:=hst ρ' hag hset;refine ih t.1 (n+t.2) _ body ρ' _ a' w g _ hbody hrun q1 q2 q3 (by rw[hza];exact hc) fun ex s' n' R' ρ2 a2 w2 g2 hn2 hag2 hk2 hr2 hS2 hH2 hC2 hd2 hz2=>?_;have hag4:Jq n ρ ρ2:=hag.trans (hag2.le (by omega));cases ex with
       | norm =>
        simp only at hk2;split at hk2
        ·simp only[Jq8] at hk2;subst hk2;simp only[Run] at hr2;cases hr2
        ·cases hk2
       | exit id =>
        simp only at hk2;split at hk2
        ·rename_i r hkr;simp only[Jq8] at hk2;subst hk2;obtain⟨o',ho',hr3⟩:=hr2;cases ho';exact hQ (.exit id) s' n' r ρ2 a2 w2 g2 (by omega) hag4 hkr hr3 hS2 hH2 hC2 (hd2.trans hda) (hz2.trans hza)
        ·cases hk2
       | ret =>
        simp only at hk2;split at hk2
        ·rename_i r hkr;simp only[Jq8] at hk2;subst hk2;obtain⟨o',ho',hr3⟩:=hr2;cases ho';exact hQ .ret s' n' r ρ2 a2 w2 g2 (by omega) hag4 hkr hr3 hS2 hH2 hC2 (hd2.trans hda) (hz2.trans hza)
        ·cases hk2
    obtain⟨gi,hSi,hHi,hCi⟩:=Jgg hl t.1 hS1 hH1 hC1;exact key N _ gi a w hr (fun ρ' hag hset=>VE hinit hag hset hl hSi hHi hCi) rfl rfl
   ·cases h
 | _=>intro s n k R ρ o a w g Q h;simp[sxC] at h
end
end Go.Tm
end
section
namespace Go.Tm
open Go.IntKind (i64)
def Jkg:D→Bool
 | .v (.slice none 0 0)=>false
 | x=>x.one
def Sh1.toV:Sh1→D→Option V
 | .i k,.v (.int k' n)=>if k=k' then some (.i n) else none
 | .b,.v (.bool t)=>some (.b t)
 | .s,.s es=>some (.l es)
 | .d,x=>if Jkg x then some (.d x) else none
 | _,_=>none
def Xm:List Sh1→List D→Nat→Env→Option Env
 | [],[],_,ρ=>some ρ
 | a::as,d::ds,n,ρ=>match a.toV d with
  | some v=>Xm as ds (n+1) (upd ρ n v)
  | none=>none
 | _,_,_,_=>none
def Sh.bind:Sh→D→Nat→Env→Option Env
 | .one a,d,n,ρ=>Xm [a] [d] n ρ
 | .g as,.g cs,n,ρ=>Xm as cs n ρ
 | .q as,.q cs,n,ρ=>Xm as cs n ρ
 | _,_,_,_=>none
def Xh (B : Tb) : I → Env → Option Env
  | .chk b,ρ=>if bol ρ b then some ρ else none
  | .head sz l,ρ=>if XP sz (lst ρ l) then some ρ else none
  | .fl l,ρ=>if JA (lst ρ l) then some ρ else none
  | .get e sh n,ρ=>sh.bind (dat ρ e) n ρ
  | .idx l i sh n,ρ=>if 0≤int ρ i then match (lst ρ l)[(int ρ i).toNat]? with
      | some d=>sh.bind d n ρ
      | none=>none
    else none
  | .call f as rs n,ρ=>match B.call f (as.map (dat ρ)) with
    | some ds=>Xm rs ds n ρ
    | none=>none
  | .prim p as r n,ρ=>match Zm p (as.map (dat ρ)) with
    | some d=>Xm [r] [d] n ρ
    | none=>none
  | .callv e as ar rs n,ρ=>match dat ρ e with
    | .f fn caps=>if B.ar fn=some (ar++caps.map fun _=>none) then match B.call fn (as.map (dat ρ)++caps.map D.norm) with
        | some ds=>Xm rs ds n ρ
        | none=>none
      else none
    | _=>none
def KT (f:List V→Option Oc):Nat→List V→Option Oc
 | 0,_=>none
 | n+1,vs=>match f vs with
  | some (.next vs')=>KT f n vs'
  | some (.esc o)=>some o
  | _=>none
def Xf:Nat→List V→Env→Env
 | _,[],ρ=>ρ
 | c,v::vs,ρ=>Xf (c+1) vs (upd ρ c v)
open Classical in
noncomputable def JC (B:Tb) (N:Nat):R→Env→Option Oc
 | .i x r,ρ=>match Xh B x ρ with
  | some ρ'=>JC B N r ρ'
  | none=>none
 | .ite b x y,ρ=>if bol ρ b then JC B N x ρ else JC B N y ρ
 | .nilq _ l x y,ρ=>match lst ρ l with
  | []=>if JC B N x ρ=JC B N y ρ then JC B N y ρ else none
  | _::_=>JC B N y ρ
 | .loop c init body,ρ=>KT (fun vs=>JC B N body (Xf c vs ρ)) N (init.map (den ρ))
 | .next vs,ρ=>some (.next (vs.map (den ρ)))
 | .done vs,ρ=>some (.done (vs.map (dat ρ)))
 | .esc r,ρ=>match JC B N r ρ with
  | some o=>some (.esc o)
  | none=>none
def I.wf (c:Nat):I→Bool
 | .chk b=>b.under c
 | .head _ l=>l.under c
 | .fl l=>l.under c
 | .get e _ n=>e.under c&&n == c
 | .idx l i _ n=>l.under c&&i.under c&&n == c
 | .call _ as _ n=>as.all (E.under c)&&n == c
 | .callv e as _ _ n=>e.under c&&as.all (E.under c)&&n == c
 | .prim _ as _ n=>as.all (E.under c)&&n == c
def I.size:I→Nat
 | .chk _ | .head _ _ | .fl _=>0
 | .get _ sh _ | .idx _ _ sh _=>sh.size
 | .call _ _ rs _ | .callv _ _ _ rs _=>rs.length
 | .prim _ _ _ _=>1
def R.wf:R→Nat→List Nat→Bool
 | .i x r,c,st=>x.wf c&&r.wf (c+x.size) st
 | .ite b x y,c,st=>b.under c&&x.wf c st&&y.wf c st
 | .nilq c' l x y,c,st=>c' == c&&l.under c&&x.wf c st&&y.wf c st
 | .loop c' init body,c,st=>c' == c&&init.all (E.under c)&&body.wf (c+init.length) (init.length::st)
 | .next vs,c,st=>vs.all (E.under c)&&st.head? == some vs.length
 | .done vs,c,_=>vs.all (E.under c)
 | .esc r,c,st=>r.wf c st.tail
def Oc.conf:Oc→List Nat→Prop
 | .next vs,st=>st.head? = some vs.length
 | .done _,_=>True
 | .esc o,st=>o.conf st.tail
section
variable {B:Tb} {N:Nat}
theorem Jo1 {a:Sh1} {d:D} {v:V} {n:Nat} {ρ:Env} (h:a.toV d=some v) (hr:ρ n=v):dat ρ (a.expr n)=d:=by
 unfold Sh1.toV at h;split at h
 ·split at h
  ·rename_i hk;subst hk;simp only[Jq8] at h;subst h;show D.v (.int _ (V.int (ρ n)))=_;rw[hr];rfl
  ·cases h
 ·simp only[Jq8] at h;subst h;show D.v (.bool (V.bool (ρ n)))=_;rw[hr];rfl
 ·simp only[Jq8] at h;subst h;show D.s (V.lst (ρ n))=_;rw[hr];rfl
 ·split at h
  ·rename_i hx;simp only[Jq8] at h;subst h;show QZ (V.dat (ρ n))=_;rw[hr];show QZ d=d;unfold Jkg at hx;split at hx
   ·cases hx
   ·rename_i hne;rw[KQ hx];unfold D.norm;split
    ·exact absurd rfl hne
    ·rfl
  ·cases h
 ·cases h
theorem Xr :∀(as:List Sh1) (ds:List D) (n:Nat) (ρ ρ':Env),Xm as ds n ρ=some ρ'→as.length=ds.length∧Jq n ρ ρ'∧∀ρ2,Jq (n+as.length) ρ' ρ2→(Jv as n).map (dat ρ2)=ds
 | [],[],n,ρ,ρ',h=>by
  simp only[Xm,Jq8] at h;subst h;exact⟨rfl,Jq.rfl',fun _ _=>rfl⟩
 | [],_::_,n,ρ,ρ',h=>by simp[Xm] at h
 | _::_,[],n,ρ,ρ',h=>by simp[Xm] at h
 | a::as,d::ds,n,ρ,ρ',h=>by
  simp only[Xm] at h;split at h
  ·rename_i v hv;obtain⟨h1,h2,h3⟩:=Xr as ds (n+1) _ ρ' h;refine⟨by simp[h1],fun j hj=>?_,fun ρ2 h4=>?_⟩
   ·rw[h2 j (by omega),uO1 _ _ (by omega)]
   ·simp only[Jv,Jrh];rw[h3 ρ2 (by rw[show n+1+as.length=n+(a::as).length by simp;omega];exact h4)]
    congr 1
    refine Jo1 hv ?_;rw[h4 n (by simp),h2 n (by omega),uS1]
  ·cases h
theorem Jb1 {sh:Sh} {d:D} {n:Nat} {ρ ρ':Env} (h:sh.bind d n ρ=some ρ'):Jq n ρ ρ'∧∀ρ2,Jq (n+sh.size) ρ' ρ2→dat ρ2 (sh.expr n)=d:=by
 unfold Sh.bind at h;split at h
 ·obtain⟨_,h2,h3⟩:=Xr _ _ _ _ _ h;refine⟨h2,fun ρ2 h4=>?_⟩;have:=h3 ρ2 h4;simp only[Jv,Jrh,List.map_nil,List.cons.injEq,and_true] at this;exact this
 ·obtain⟨_,h2,h3⟩:=Xr _ _ _ _ _ h;refine⟨h2,fun ρ2 h4=>?_⟩;show D.g (lst ρ2 (JQ _))=_;rw[Jx,h3 ρ2 h4]
 ·obtain⟨_,h2,h3⟩:=Xr _ _ _ _ _ h;refine⟨h2,fun ρ2 h4=>?_⟩;show D.q (lst ρ2 (JQ _))=_;rw[Jx,h3 ρ2 h4]
 ·cases h
theorem JaC {f:Env→E→D} {c:Nat} {ρ ρ':Env} (hf :∀e,e.under c=true→f ρ' e=f ρ e) {as:List E} (h:as.all (E.under c)=true):as.map (f ρ')=as.map (f ρ) :=
 Jrv fun e he=>hf e (Jrm.1 h e he)
theorem Ko {c:Nat} {ρ ρ':Env} (h:Jq c ρ ρ') (e:E) (hu:e.under c=true):dat ρ' e=dat ρ e:=by unfold dat;rw[XD h e hu]
theorem Jac {c:Nat} {ρ ρ':Env} (h:Jq c ρ ρ') (e:E) (hu:e.under c=true):lst ρ' e=lst ρ e:=by unfold lst;rw[XD h e hu]
theorem Jlb {c:Nat} {ρ ρ':Env} (h:Jq c ρ ρ') (e:E) (hu:e.under c=true):int ρ' e=int ρ e:=by unfold int;rw[XD h e hu]
theorem JaG {c:Nat} {ρ ρ':Env} (h:Jq c ρ ρ') (e:E) (hu:e.under c=true):bol ρ' e=bol ρ e:=by unfold bol;rw[XD h e hu]
theorem JlW {x:I} {c:Nat} {ρ ρ':Env} (h:Xh B x ρ=some ρ') (hw:x.wf c=true):Jq c ρ ρ'∧∀ρ2,Jq (c+x.size) ρ' ρ2→x.holds B ρ2:=by
 cases x with
 | chk b =>
  simp only[Xh] at h;split at h
  ·rename_i hb;simp only[Jq8] at h;subst h;exact⟨Jq.rfl',fun ρ2 h2=>by show bol ρ2 b=true;rw[JaG h2 b hw];exact hb⟩
  ·cases h
 | head sz l =>
  simp only[Xh] at h;split at h
  ·rename_i hb;simp only[Jq8] at h;subst h;exact⟨Jq.rfl',fun ρ2 h2=>by show XP sz (lst ρ2 l)=true;rw[Jac h2 l hw];exact hb⟩
  ·cases h
 | fl l =>
  simp only[Xh] at h;split at h
  ·rename_i hb;simp only[Jq8] at h;subst h;exact⟨Jq.rfl',fun ρ2 h2=>by show JA (lst ρ2 l)=true;rw[Jac h2 l hw];exact hb⟩
  ·cases h
 | get e sh n =>
  simp only[I.wf,Jq9,beq_iff_eq] at hw;obtain⟨hu,rfl⟩:=hw;simp only[Xh] at h;obtain⟨h1,h2⟩:=Jb1 h;refine⟨h1,fun ρ2 h3=>?_⟩;show dat ρ2 e=dat ρ2 (sh.expr n);rw[h2 ρ2 h3,Ko (h1.trans (h3.le (by omega))) e hu]
 | idx l i sh n =>
  simp only[I.wf,Jq9,beq_iff_eq] at hw;obtain⟨⟨hu,hu2⟩,rfl⟩:=hw;simp only[Xh] at h;split at h
  ·rename_i h0;split at h
   ·rename_i d hd;obtain⟨h1,h2⟩:=Jb1 h;refine⟨h1,fun ρ2 h3=>?_⟩;have ha:=h1.trans (h3.le (by omega));show 0≤int ρ2 i∧(lst ρ2 l)[(int ρ2 i).toNat]? = some (dat ρ2 (sh.expr n));rw[h2 ρ2 h3,Jlb ha i hu2,Jac ha l hu];exact⟨h0,hd⟩
   ·cases h
  ·cases h
 | call f as rs n =>
  simp only[I.wf,Jq9,beq_iff_eq] at hw;obtain⟨hu,rfl⟩:=hw;simp only[Xh] at h;split at h
  ·rename_i ds hds;obtain⟨_,h1,h2⟩:=Xr _ _ _ _ _ h;refine⟨h1,fun ρ2 h3=>?_⟩;have ha:=h1.trans (h3.le (by omega));show B.call f (as.map (dat ρ2))=some ((Jv rs n).map (dat ρ2));rw[h2 ρ2 h3,JaC (f:=dat) (fun e he=>Ko ha e he) hu];exact hds
  ·cases h
 | prim p as r n =>
  simp only[I.wf,Jq9,beq_iff_eq] at hw;obtain⟨hu,rfl⟩:=hw;simp only[Xh] at h;split at h
  ·rename_i d hds;obtain⟨_,h1,h2⟩:=Xr _ _ _ _ _ h;refine⟨h1,fun ρ2 h3=>?_⟩;have ha:=h1.trans (h3.le (by omega));have h4:=h2 ρ2 h3;show Zm p (as.map (dat ρ2))=some (dat ρ2 (r.expr n));rw[JaC (f:=dat) (fun e he=>Ko ha e he) hu,hds];have h5:[d]=[dat ρ2 (r.expr n)]:=by simpa[Jv] using h4.symm
   simp only[List.cons.injEq,and_true] at h5;rw[h5]
  ·cases h
 | callv e as ar rs n =>
  simp only[I.wf,Jq9,beq_iff_eq] at hw;obtain⟨⟨hu,hu2⟩,rfl⟩:=hw;simp only[Xh] at h;split at h
  ·rename_i fn caps hd;split at h
   ·rename_i har;split at h
    ·rename_i ds hds;obtain⟨_,h1,h2⟩:=Xr _ _ _ _ _ h;refine⟨h1,fun ρ2 h3=>?_⟩;have ha:=h1.trans (h3.le (by omega));refine⟨fn,caps,by rw[Ko ha e hu];exact hd,har,?_⟩;rw[h2 ρ2 h3,JaC (f:=dat) (fun e he=>Ko ha e he) hu2];exact hds
    ·cases h
   ·cases h
  ·cases h
theorem Jaf :∀(vs:List V) (c:Nat) (ρ:Env),Jq c ρ (Xf c vs ρ)∧Jbi c vs (Xf c vs ρ)
 | [],c,ρ=>⟨Jq.rfl',fun j v h=>by simp at h⟩
 | v::vs,c,ρ=>by
  obtain⟨h1,h2⟩:=Jaf vs (c+1) (upd ρ c v);refine⟨fun j hj=>?_,fun j u hj=>?_⟩
  ·show Xf (c+1) vs (upd ρ c v) j=ρ j;rw[h1 j (by omega),uO1 _ _ (by omega)]
  ·show Xf (c+1) vs (upd ρ c v) (c+j)=u;cases j with
   | zero =>
    simp at hj;subst hj;rw[h1 (c+0) (by omega)];exact uS1 _ _ _
   | succ j =>
    have:=h2 j u (by simpa using hj);rw[←this];congr 1;omega
theorem Jk6 :∀(r:R) (c:Nat) (st:List Nat) (ρ:Env) (o:Oc),JC B N r ρ=some o→r.wf c st=true→o.conf st:=by
 intro r
 induction r with
 | i x r ih =>
  intro c st ρ o h hw;simp only[R.wf,Jq9] at hw;simp only[JC] at h;split at h
  ·exact ih _ st _ o h hw.2
  ·cases h
 | ite b x y ihx ihy =>
  intro c st ρ o h hw;simp only[R.wf,Jq9] at hw;simp only[JC] at h;split at h
  ·exact ihx c st ρ o h hw.1.2
  ·exact ihy c st ρ o h hw.2
 | nilq c' l x y ihx ihy =>
  intro c st ρ o h hw;simp only[R.wf,Jq9] at hw;simp only[JC] at h;split at h
  ·split at h
   ·exact ihy c st ρ o h hw.2
   ·cases h
  ·exact ihy c st ρ o h hw.2
 | loop c' init body ih =>
  intro c st ρ o h hw;simp only[R.wf,Jq9] at hw;simp only[JC] at h;have key :∀(n:Nat) (vs:List V),KT (fun vs=>JC B N body (Xf c' vs ρ)) n vs=some o→o.conf st:=by
   intro n
   induction n with
   | zero=>intro vs h;cases h
   | succ n ihn =>
    intro vs h;simp only[KT] at h;split at h
    ·exact ihn _ h
    ·rename_i o' h1;simp only[Jq8] at h;subst h;have:=ih _ (init.length::st) _ _ h1 hw.2;exact this
    ·cases h
  exact key N _ h
 | next vs =>
  intro c st ρ o h hw;simp only[JC,Jq8] at h;subst h;simp only[R.wf,Jq9,beq_iff_eq] at hw;simpa[Oc.conf] using hw.2
 | done vs =>
  intro c st ρ o h hw;simp only[JC,Jq8] at h;subst h;trivial
 | esc r ih =>
  intro c st ρ o h hw;simp only[JC] at h;split at h
  ·rename_i o' h1;simp only[Jq8] at h;subst h;exact ih c st.tail ρ o' h1 hw
  ·cases h
theorem JaR :∀(r:R) (c:Nat) (st:List Nat) (ρ:Env) (o:Oc),JC B N r ρ=some o→r.wf c st=true→∃ ρ',Jq c ρ ρ'∧Run B N r ρ' o:=by
 intro r
 induction r with
 | i x r ih =>
  intro c st ρ o h hw;simp only[R.wf,Jq9] at hw;simp only[JC] at h;split at h
  ·rename_i ρ1 h1;obtain⟨h2,h3⟩:=JlW h1 hw.1;obtain⟨ρ',h4,h5⟩:=ih _ st ρ1 o h hw.2;exact⟨ρ',h2.trans (h4.le (by omega)),h3 ρ' h4,h5⟩
  ·cases h
 | ite b x y ihx ihy =>
  intro c st ρ o h hw;simp only[R.wf,Jq9] at hw;simp only[JC] at h;split at h
  ·rename_i hb;obtain⟨ρ',h1,h2⟩:=ihx c st ρ o h hw.1.2;exact⟨ρ',h1,by simp only[Run,JaG h1 b hw.1.1,hb,if_true];exact h2⟩
  ·rename_i hb;obtain⟨ρ',h1,h2⟩:=ihy c st ρ o h hw.2;refine⟨ρ',h1,?_⟩;simp only[Run,JaG h1 b hw.1.1];rw[if_neg hb];exact h2
 | nilq c' l x y ihx ihy =>
  intro c st ρ o h hw;simp only[R.wf,Jq9,beq_iff_eq] at hw;obtain⟨⟨⟨rfl,hu⟩,hwx⟩,hwy⟩:=hw;simp only[JC] at h;refine⟨ρ,Jq.rfl',?_⟩;simp only[Run];split at h
  ·split at h
   ·rename_i he;exact⟨ihy _ st ρ o h hwy,fun _=>ihx _ st ρ o (by rw[he];exact h) hwx⟩
   ·cases h
  ·rename_i hl;exact⟨ihy _ st ρ o h hwy,fun e=>by rw[e] at hl;cases hl⟩
 | loop c' init body ih =>
  intro c st ρ o h hw;simp only[R.wf,Jq9,beq_iff_eq] at hw;obtain⟨⟨rfl,hu⟩,hw⟩:=hw;simp only[JC] at h;refine⟨ρ,Jq.rfl',?_⟩;simp only[Run];have key :∀(n:Nat) (vs:List V),vs.length=init.length→KT (fun vs=>JC B N body (Xf c' vs ρ)) n vs=some o→Jbu (fun vs o1=>∃ ρ',Jq c' ρ ρ'∧Jbi c' vs ρ'∧Run B N body ρ' o1) n vs o:=by
   intro n
   induction n with
   | zero=>intro vs _ h;cases h
   | succ n ihn =>
    intro vs hlen h;simp only[KT] at h;obtain⟨s1,s2⟩:=Jaf vs c' ρ;have keep :∀ρ',Jq (c'+init.length) (Xf c' vs ρ) ρ'→Jq c' ρ ρ'∧Jbi c' vs ρ':=fun ρ' ha =>
     ⟨s1.trans (ha.le (by omega)),fun j v hj=>by
      have hlt:j<vs.length:=(Jra.1 hj).1;rw[ha (c'+j) (by omega)];exact s2 j v hj⟩
    split at h
    ·rename_i vs' h1;obtain⟨ρ',h2,h3⟩:=ih _ _ _ _ h1 hw;obtain⟨h4,h5⟩:=keep ρ' h2;have hcf:=Jk6 _ _ _ _ _ h1 hw;simp only[Oc.conf,List.head?_cons,Jq8] at hcf;exact .inl ⟨vs',⟨ρ',h4,h5,h3⟩,ihn vs' hcf.symm h⟩
    ·rename_i o' h1;simp only[Jq8] at h;subst h;obtain⟨ρ',h2,h3⟩:=ih _ _ _ _ h1 hw;obtain⟨h4,h5⟩:=keep ρ' h2;exact .inr ⟨ρ',h4,h5,h3⟩
    ·cases h
  exact key N _ (by simp) h
 | next vs =>
  intro c st ρ o h hw;simp only[JC,Jq8] at h;subst h;exact⟨ρ,Jq.rfl',rfl⟩
 | done vs =>
  intro c st ρ o h hw;simp only[JC,Jq8] at h;subst h;exact⟨ρ,Jq.rfl',rfl⟩
 | esc r ih =>
  intro c st ρ o h hw;simp only[JC] at h;split at h
  ·rename_i o' h1;simp only[Jq8] at h;subst h;obtain⟨ρ',h2,h3⟩:=ih c _ ρ o' h1 hw;exact⟨ρ',h2,o',rfl,h3⟩
  ·cases h
end
end Go.Tm
end
section
open Go.RowKit
namespace Go.Tm
open Go.IntKind (i64)
def Zu (i:Nat):List SV→SSl
 | []=>[]
 | v::vs=>(i,v)::Zu (i+1) vs
theorem Vw :∀(vs:List SV) (a t:Nat),(Zu a vs).lookup t=if a≤t then vs[t-a]? else none
 | [],a,t=>by simp[Zu]
 | v::vs,a,t=>by
  simp only[Zu,List.lookup_cons]
  by_cases h:t=a
  ·subst h;simp
  ·have hb:(t == a)=false:=by simpa using h
   rw[hb,Vw vs (a+1) t]
   by_cases hlt:a≤t
   ·have e:t-a=(t-(a+1))+1:=by omega
    rw[if_pos (by omega),if_pos hlt,e,List.getElem?_cons_succ]
   ·rw[if_neg (by omega),if_neg hlt]
theorem Jkp (ρ:Env) (vs:List SV) (t:Nat):γs ρ (Zu 0 vs) t=(γXs ρ vs).getD t .u:=by
 unfold γs;rw[Vw];simp only[Nat.zero_le,if_true,Nat.sub_zero,Js,Jrc,Jru];cases vs[t]? <;> rfl
def JjD (sl:SSl) (t:Tmp):SV:=match sl.lookup t with
 | some v=>v
 | none=> .u
def Ja6 (P:Program) (sl:SSl):List ResultVar→SMP (List SV)
 | []=> .ret []
 | .tmp t::rs=>(Ja6 P sl rs).bind fun xs=> .ret (JjD sl t::xs)
 | .cell a t::rs=>(JfY P t (JjD sl a)).bind fun x=>(Ja6 P sl rs).bind fun xs=> .ret (x::xs)
def Jeo:Nat:=999999
def Zl:List Sh→List E→Bool
 | [],[]=>true
 | .one _::ss,e::es=>e.isOne&&Zl ss es
 | .g _::ss,.g _::es=>Zl ss es
 | _,_=>false
def RSh.list:RSh→List Sh
 | .one s=>[s]
 | .tup ss=>ss
def RSh.many:RSh→Bool
 | .tup ss=>ss.length != 1
 | _=>true
def JoC (P:Program) (fn:Func) (r:RSh) (H:XQ) (s:SSt) (n:Nat):Option R :=
 let s:=Yv H.own Jeo s
 match ((Ja6 P s.sl fn.results.toList).bind fun xs=>Jbj.spurs 40 xs).run s.m n with
 | some q=>if Zl r.list q.val&&r.many then match Jz r.list q.val with
   | some ls=>some (Vp q.is (.done ls))
   | none=>none
  else none
 | none=>none
def sxD (P:Program) (sg:FuncId→Option Sig) (s:Ji6) (H:XQ) (fn:Func) (C:Code):Option R :=
 sxC P sg H C ⟨Zu 0 (svs s.pars 0),[]⟩ (s.pars.flatMap Sh.leaves).length fun o st n=>match o with
  | .exit _=>none
  | _=>JoC P fn s.res H st n
noncomputable def YX (B:Tb) (N:Nat) (ins:List Sh1) (r:R) (ls:List D):Option (List D):=match Xm ins ls 0 (fun _=> .i 0) with
 | some ρ=>match JC B N r ρ with
  | some (.done ds)=>some ds
  | _=>none
 | none=>none
section
variable {B:Tb} {ρ:Env} {sg:FuncId→Option Sig} {P:Program} {N:Nat}
theorem JgM (sl:SSl) (t:Tmp):γX ρ (JjD sl t)=γs ρ sl t:=by
 unfold JjD γs;cases sl.lookup t <;> rfl
theorem W3 {st:St} {sl:SSl} (hst:st.sl=γs ρ sl) :∀rs:List ResultVar,(Ja6 P sl rs).Ok B ρ (fXs ρ) (Jf6 P st rs)
 | []=>rfl
 | .tmp t::rs=>by
  simp only[Ja6,Jf6];refine SMP.bind_ok (f:=fXs ρ) (fun xs=>?_) _ _ (W3 hst rs);simp only[SMP.Ok,fXs,Jrh,JgM,hst]
 | .cell a t::rs=>by
  simp only[Ja6,Jf6,hst,←JgM];refine SMP.bind_ok (f:=γX ρ) (fun x=>?_) _ _ (JeF t _);refine SMP.bind_ok (f:=fXs ρ) (fun xs=>?_) _ _ (W3 hst rs);rfl
theorem UE :∀(ss:List Sh) (ds ls:List D) (n:Nat),Jj ss ds=some ls→(Jv (ss.flatMap Sh.leaves) n).map (dat ρ)=ls→(∀a,Sh.one a∈ss→True)→γXs ρ (svs ss n)=ds.map X.ofD
 | [],[],ls,n,_,_,_=>rfl
 | [],_::_,ls,n,h,_,_=>by simp[Jj] at h
 | .one a::ss,[],ls,n,h,_,_=>by simp[Jj] at h
 | .one a::ss,d::ds,ls,n,h,he,hh=>by
  simp only[Jj] at h;cases hs:Jj ss ds with
  | none=>simp[hs] at h
  | some ls' =>
   simp only[hs,Jrb,Jq8] at h;subst h;have he:dat ρ (a.expr n)::(Jv (ss.flatMap Sh.leaves) (n+1)).map (dat ρ)=d::ls':=he;simp only[List.cons.injEq] at he;have ih:=UE ss ds ls' (n+1) hs he.2 (fun _ _=>trivial);have ho:=JR (Yz a n) ρ;rw[he.1] at ho;show X.d (dat ρ (a.expr n))::γXs ρ (svs ss (n+1))=X.ofD d::ds.map X.ofD;rw[ih,he.1,Jgj ho]
 | .g as::ss,ds,ls,n,h,he,hh=>by
  match ds,h with
  | .g cs::ds,h =>
   simp only[Jj] at h;split at h
   ·rename_i hlen;cases hs:Jj ss ds with
    | none=>simp[hs] at h
    | some ls' =>
     simp only[hs,Jrb,Jq8] at h;subst h;simp only[List.flatMap_cons,Sh.leaves,KM,List.map_append] at he;obtain⟨e1,e2⟩:=List.append_inj he (by simp[QF,hlen]);have ih:=UE ss ds ls' (n+as.length) hs e2 (fun _ _=>trivial);show X.g (γXs ρ ((Jv as n).map .d))::γXs ρ (svs ss (n+as.length))=_;rw[ih,Js,Vg,e1];rfl
   ·cases h
 | .q as::ss,ds,ls,n,h,_,_=>by cases ds <;> simp[Jj] at h
theorem VA :∀(ss:List Sh) (es ls:List E),Jz ss es=some ls→Zl ss es=true→QS ss (ls.map (dat ρ))=some (es.map (dat ρ))
 | [],[],ls,h,_=>by simp only[Jz,Jq8] at h;subst h;rfl
 | [],_::_,ls,h,_=>by simp[Jz] at h
 | .one a::ss,[],ls,h,_=>by simp[Jz] at h
 | .one a::ss,e::es,ls,h,ho=>by
  simp only[Zl,Jq9] at ho;simp only[Jz] at h;cases hs:Jz ss es with
  | none=>simp[hs] at h
  | some ls' =>
   simp only[hs,Jrb,Jq8] at h;subst h;simp only[Jrh,QS,JR ho.1 ρ,if_true,VA ss es ls' hs ho.2,Jrb]
 | .g as::ss,es,ls,h,ho=>by
  match es,h with
  | .g l::es,h =>
   simp only[Zl] at ho;simp only[Jz] at h;split at h
   ·rename_i cs hl;split at h
    ·rename_i hlen;cases hs:Jz ss es with
     | none=>simp[hs] at h
     | some ls' =>
      simp only[hs,Jrb,Jq8] at h;subst h;simp only[List.map_append,QS,Jrh];rw[if_pos (by simp[hlen]),List.drop_left' (by simp[hlen]),List.take_left' (by simp[hlen]),VA ss es ls' hs ho];show some (D.g (cs.map (dat ρ))::es.map (dat ρ))=some (D.g (lst ρ l)::es.map (dat ρ));rw[XG ρ _ _ hl]
    ·cases h
   ·cases h
 | .q as::ss,es,ls,h,_=>by cases es <;> simp[Jz] at h
theorem U4 :∀(ss:List Sh) (es:List E),Zl ss es=true→es.length=ss.length
 | [],[],_=>rfl
 | [],_::_,h=>by simp[Zl] at h
 | .one a::ss,[],h=>by simp[Zl] at h
 | .one a::ss,e::es,h=>by
  simp only[Zl,Jq9] at h;simp[U4 ss es h.2]
 | .g as::ss,[],h=>by simp[Zl] at h
 | .g as::ss,e::es,h=>by
  cases e with
  | g l=>simp only[Zl] at h;simp[U4 ss es h]
  | _=>simp[Zl] at h
 | .q as::ss,es,h=>by cases es <;> simp[Zl] at h
theorem Jbh {fn:Func} {tmps:Array Value} {w:World} {vs:List Value} (h:(fn.results.toList.mapM (Jny tmps)).run P w = .ok vs w):(results fn tmps).run P w = .ok (Jdy vs) w:=by
 have hres:results fn tmps=(fn.results.mapM (Jny tmps) >>= fun vs=>pure (if h:vs.size=1 then vs[0] else .tuple vs)):=by
  unfold results
  congr 2
 rw[hres,Sem.run_bind,Array.mapM_eq_mapM_toList,Sem.run_map,h]
 match vs with
 | []=>rfl
 | [v]=>rfl
 | u::v::l=>simp[Jdy]
def fnOf (P:Program) (f:FuncId):Option (Func×Code):=match P.funcs[f]? with
 | some fn=>match fn.body with
  | some C => if fn.name != "runtime.NumGoroutine" && codeOk fn.ntmps C then some (fn, C) else none
  | none=>none
 | none=>none
theorem fnOf_ok {f : FuncId} {fn : Func} {C : Code} (h : fnOf P f = some (fn, C)) : P.funcs[f]? = some fn ∧ fn.body = some C ∧ fn.name ≠ "runtime.NumGoroutine" ∧ codeOk fn.ntmps C = true := by
 unfold fnOf at h;split at h
 ·rename_i fn' hf;split at h
  ·rename_i C' hb;split at h
   ·rename_i hc;simp only[Jq8,Jrq] at h;obtain⟨rfl,rfl⟩:=h;simp only[Jq9,bne_iff_ne,ne_eq] at hc;exact⟨hf,hb,hc.1,hc.2⟩
   ·cases h
  ·cases h
 ·cases h
theorem WP {f:FuncId} {fn:Func} {C:Code} (h:fnOf P f=some (fn,C)) (args:Array Value) (w:World):(callFunc f args).run P w = .ok (.enter f args) w:=by
 obtain⟨hf,hb,hn,_⟩:=fnOf_ok h;unfold callFunc;simp[hf,hb,hn]
theorem Jn2 {fn:Func} {r:RSh} {H:XQ} {s:SSt} {n:Nat} {R:R} {o:Oc} {c:Cx P} {g:Gh} {a:Act} {w:World} {g0:Gh} {m0:Mem} {w0:World} (h:JoC P fn r H s n=some R) (hr:Run B N R ρ o)
  (hS:Sim c g (γm ρ s.m) w) (hH:Jl c g (γm ρ s.m) w (γs ρ s.sl) a) (hC:Jc c g0 m0 w0 g (γm ρ s.m) w) :
  ∃ ds d v fp,o = .done ds∧Yj r ds=some d∧(results fn a.tmps).run P w = .ok v w∧Rd w d v fp∧Jo4 c fp:=by
 unfold JoC at h;obtain⟨g',hS,hH,_⟩:=Zb Jeo H.own s g hS hH hC;simp only at h;generalize Yv H.own Jeo s=s1 at *;split at h
 ·rename_i q hq;split at h
  ·rename_i hok;simp only[Jq9] at hok;split at h
   ·rename_i ls hls;simp only[Jq8] at h;subst h;obtain⟨his,hd⟩:=Kg _ _ _ hr;simp only[Run] at hd;subst hd;have hbind:((Ja6 P s1.sl fn.results.toList).bind fun xs=>Jbj.spurs 40 xs).Ok B ρ (fEs ρ) ((Jf6 P ⟨γs ρ s1.sl,γm ρ s1.m⟩ fn.results.toList).bind fun xs=>pur.purs 40 xs) :=
     SMP.bind_ok (f:=fXs ρ) (fun xs=>Zp 40 xs) _ _ (W3 rfl _)
    have hrun:=SMP.run_ok _ _ _ _ _ hbind hq his;rw[MP.runT_eq] at hrun;cases hr2:((Jf6 P ⟨γs ρ s1.sl,γm ρ s1.m⟩ fn.results.toList).bind fun xs=>pur.purs 40 xs).run (γm ρ s1.m) with
    | none=>rw[hr2] at hrun;cases hrun
    | some p =>
     obtain⟨ds,m2⟩:=p;rw[hr2] at hrun;simp only[Jrb,Jq8,Jrq] at hrun;obtain⟨xs,m1,h1,h2⟩:=MP.bind_some hr2;obtain⟨e1,vs,h3,h4⟩:=KA (st:=⟨γs ρ s1.sl,γm ρ s1.m⟩) (P:=P) hS hH _ xs m1 h1;subst e1;obtain⟨_,fp,h5,h6⟩:=Xk 40 _ _ _ _ _ hS h4 h2;rw[hrun.1] at h5;have hres:=Jbh h3;have hvl:=JbZ _ _ _ h5;cases r with
     | one sh =>
      have hlen:q.val.length=1:=U4 _ _ hok.1
      match hqv:q.val,hlen with
      | [e],_ =>
       rw[hqv] at h5 hls hok hvl
       match vs,hvl with
       | [v],_ =>
        obtain⟨v',vs',f1,f2,ev,ef,hrd,h7⟩:=h5;simp only[List.cons.injEq] at ev;obtain⟨rfl,rfl⟩:=ev;refine⟨_,dat ρ e,v,f1,rfl,?_,hres,hrd,fun b hb=>h6 b (by rw[ef];simp[hb])⟩;cases sh with
        | one a =>
         simp only[RSh.list,Jz,Jrb,Jq8] at hls;subst hls;simp only[RSh.list,Zl,Bool.and_true,Jq9] at hok;simp only[Jrh,List.map_nil,Yj,JR hok.1 ρ,if_true]
        | g as =>
         cases e with
         | g l =>
          simp only[RSh.list,Jz] at hls;split at hls
          ·rename_i cs hcs;split at hls
           ·rename_i hlen2;simp only[Jrb,Jq8,List.append_nil] at hls;subst hls;show (if(cs.map (dat ρ)).length=as.length then some (D.g (cs.map (dat ρ))) else none)=some (D.g (lst ρ l));rw[if_pos (by simpa using hlen2),XG ρ _ _ hcs]
           ·cases hls
          ·cases hls
         | _=>simp[RSh.list,Jz] at hls
        | q as=>simp[RSh.list,Jz] at hls
     | tup ss =>
      have hsp:=VA ss q.val ls hls hok.1 (ρ:=ρ);have hne:ss.length≠1:=by simpa[RSh.many] using hok.2
      have hql:q.val.length=ss.length:=U4 _ _ hok.1;refine⟨_,.t (q.val.map (dat ρ)),.tuple vs.toArray,fp,rfl,by simp only[Yj,hsp,Jrb],?_,⟨vs,rfl,h5⟩,h6⟩;rw[hres]
      match vs,hvl with
      | [],_=>rfl
      | [v],hvl=>simp[fEs] at hvl;omega
      | u::v::l,_=>rfl
   ·cases h
  ·cases h
 ·cases h
theorem Jo8 (hB:BOk sg B) {Φ:Fix P} (hT:Jed P Φ (QN sg B)) (hm:P.follows .mixedOrders=true) {s:Ji6} {H:XQ} (hnl:H.nl=0) {f:FuncId} {fn:Func} {C:Code} (hf:fnOf P f=some (fn,C)) {R:R} (hR:sxD P sg s H fn C=some R)
  (hw:R.wf (s.pars.flatMap Sh.leaves).length []=true):FnOk P Φ f (dspec s (YX B N (s.pars.flatMap Sh.leaves) R)):=by
 obtain⟨hf1,hb,_,hk⟩:=fnOf_ok hf;refine⟨fun args w=>WP hf args w,fun w ds vals fps r hΦ hr hFr=>?_⟩;refine calls_of_wp hf1 hb ?_;unfold dspec at hFr;cases hfl:Jj s.pars ds with
 | none=>rw[hfl] at hFr;cases hFr
 | some ls =>
  rw[hfl,Jrn] at hFr;cases hev:YX B N (s.pars.flatMap Sh.leaves) R ls with
  | none=>rw[hev] at hFr;cases hFr
  | some os =>
   rw[hev,Jrn] at hFr;unfold YX at hev;split at hev
   ·rename_i ρ1 hbind;split at hev
    ·rename_i ds' heval;simp only[Jq8] at hev;subst hev;obtain⟨hl1,_,hl3⟩:=Xr _ _ _ _ _ hbind;obtain⟨ρ,hag,hrun⟩:=JaR _ _ _ _ _ heval hw;have hexp:=hl3 ρ (by simpa using hag);have hsv:=UE s.pars ds ls 0 hfl hexp (fun _ _=>trivial)
     let c:Cx P:={ w0:=w,A:=fps,par:=[],parA:=fun _ h=>by simp at h }
     let g:Gh:=⟨fun _=>none,fun _=>undef,fun _=>[],fun _=>none⟩
     have hmem:γm ρ []=fun _=>none:=rfl;have hMut :∀b,¬Mut g (fun _=>none) b:=fun b ⟨k,o,hk,_⟩=>by cases hk
     have hS:Sim c g (fun _=>none) w:=⟨⟨rfl,rfl,rfl,Nat.le_refl _,fun _ _ _=>rfl⟩,fun k cs hk=>(by cases hk),fun k ty sz es dp rw hk=>(by cases hk),fun k ty sz es hk=>(by cases hk),fun k o b hk=>(by cases hk),fun b k hb=>(by cases hb)⟩;have hlen:=JbZ ds vals fps hr;have hH:Jl c g (fun _=>none) w (γs ρ (Zu 0 (svs s.pars 0))) { tmps:=vals.toArray++Array.replicate (fn.ntmps-vals.toArray.size) undef,defers:=[] }:=by
      intro t;rw[Jkp,hsv];cases hd:ds[t]? with
      | none =>
       have:(ds.map X.ofD).getD t .u = .u:=by simp[hd]
       rw[this];trivial
      | some d =>
       obtain⟨v,f,h1,h2,h3⟩:=JhH ds vals fps t d hr hd;have e1:(ds.map X.ofD).getD t .u=X.ofD d:=by simp[hd]
       have hlt:t<vals.length:=(Jra.1 h1).1;have e2:(vals.toArray++Array.replicate (fn.ntmps-vals.toArray.size) undef).getD t undef=v:=by
        rw[Array.getD_eq_getD_getElem?,Array.getElem?_append_left (by simpa using hlt)];simp[h1]
       rw[e1,e2];exact JlX d v f h2 fun b hb=>⟨hMut b,.inl (h3 b hb)⟩
     unfold sxD at hR;refine JnQ (N:=N) hB ⟨Φ,⟨hΦ,fun _ _ hb=>by simp[c] at hb⟩,hT⟩ hm H (c:=c) (g0:=g) (m0:=fun _=>none) (w0:=w) (fun k hk=>absurd rfl hk) C ⟨Zu 0 (svs s.pars 0),[]⟩ _ _ R ρ _ _ w g _ hR hrun hS hH (.refl _ _ _ _) (JaZ (by simp;omega) C hk)
      fun ex s' n' R' ρ' a' w' g' _ _ hk' hr' hS' hH' hC' hd' _=>?_
     have fin:JoC P fn s.res H s' n'=some R'→a'.defers=[]∧∃ v,(results fn a'.tmps).run P w' = .ok v w'∧∃ val fp,Ending.returned v = .returned val∧Rd w' r val fp∧(∀b∈fp,b∈fps∨w.heap.size≤b)∧Below w.heap.size w w':=by
      intro hfin;obtain⟨ds2,d,v,fp,h1,h2,h3,h4,h5⟩:=Jn2 hfin hr' hS' hH' hC';simp only[Oc.done.injEq] at h1;subst h1;rw[h2] at hFr;simp only[Jq8] at hFr;subst hFr;exact⟨hd',v,h3,v,fp,rfl,h4,h5,hS'.frame.os,hS'.frame.tape,hS'.frame.output,hS'.frame.size,fun k hk=>hS'.frame.block k hk (by simp[c])⟩
     cases ex with
     | norm=>exact fin hk'
     | ret=>exact fin hk'
     | exit id=>cases hk'
    ·cases hev
   ·cases hev
end
end Go.Tm
end
section
open Go.RowKit
namespace Go.Tm
open Go.IntKind (i64)
def JhO:List SV→SV
 | [x]=>x
 | xs=> .t xs
def Jn8:List Sh1→List E→List E
 | a::as,x::xs=>(match a with | .i k=>E.vi k x | .b=> .vb x | .d=>x | .s=> .s x)::Jn8 as xs
 | _,_=>[]
def Jef:List Sh1→List E→Bool
 | [],[]=>true
 | a::as,x::xs=>(match a with | .d=>VF x | _=>true)&&Jef as xs
 | _,_=>false
mutual
def prsV:SV→SV→List (Key×Key)
 | .o i _,.o k _=>[(i,k)]
 | .p i _,.p k _=>[(i,k)]
 | .g ps,.g vs=>Jkl ps vs
 | .t ps,.t vs=>Jkl ps vs
 | _,_=>[]
def Jkl:List SV→List SV→List (Key×Key)
 | p::ps,v::vs=>prsV p v++Jkl ps vs
 | _,_=>[]
end
def prsO:Option Jg→Option Jg→List (Key×Key)
 | some (.box ps),some (.box vs)=>Jkl ps vs
 | _,_=>[]
def JjR (nl:Nat) (res:SV) (robjs:List Jg) (sv:SV) (m:XB):List Key :=
 let a:=prsV res sv
 let b:=a++(List.range robjs.length).flatMap fun i=>prsO robjs[i]? (match Nat.blt i nl with | true=>m.lookup i | false=>match a.lookup i with | some k=>m.lookup k | none=>none)
 (List.range' nl (robjs.length-nl)).filterMap fun i=>b.lookup i
def Jo0 (P:Program) (fn:Func) (s:Qk) (H:XQ) (st:SSt) (n:Nat):Option R :=
 let st:=Yv H.own Jeo st
 match (Ja6 P st.sl fn.results.toList).run st.m n with
 | some q =>
  let sv:=JhO q.val
  let nl:=s.objs.length
  let L:=List.range nl++XC [] ((JjR nl s.res s.robjs sv q.m).filter fun k=>nl≤k)
  let back:=fun i=>L.getD i 0
  let t:SSt:=⟨[(0,s.res.ren back)],L.zip (s.robjs.map (Jg.ren back))⟩
  if L.length=s.robjs.length∧(s.res.names++s.robjs.flatMap Jg.names).all (fun k=>Nat.blt k L.length)=true then
   match JbD 0 s.outs.length t (SSt.like nl t ⟨[(0,sv)],q.m⟩) nl with
   | some vs=>if Jef s.outs vs then some (Vp q.is (.done (Jn8 s.outs vs))) else none
   | none=>none
  else none
 | none=>none
def sxX (P:Program) (sg:FuncId→Option Sig) (s:Qk) (H:XQ) (fn:Func) (C:Code):Option R :=
 sxC P sg H C ⟨Zu 0 s.args,Y3 0 s.objs⟩ s.ins.length fun o st n=>match o with
  | .exit _=>none
  | _=>Jo0 P fn s H st n
def E.isVc:E→Bool
 | .vc _=>true
 | _=>false
theorem Jme {e:E} (h:e.isVc=true) (ρ ρ':Env):dat ρ e=dat ρ' e:=by
 cases e <;> first | rfl | cases h
def Qk.okIn (s:Qk):Bool :=
 let es:=Jv s.ins 0
 (JdF s.args++s.objs.flatMap Jg.lv2).all fun e=>e.isVc||es.any fun x=>x.same e
section
variable {B:Tb} {ρ:Env} {sg:FuncId→Option Sig} {P:Program} {N:Nat}
theorem Jj7 {ρ ρ2:Env} :∀(as:List Sh1) (vs:List E) (n:Nat),Jef as vs=true→(∀j x,vs[j]? = some x→ρ2 (n+j)=den ρ x)→(Jn8 as vs).map (dat ρ)=(Jv as n).map (dat ρ2)
 | [],[],n,_,_=>rfl
 | [],_::_,n,h,_=>by simp[Jef] at h
 | _::_,[],n,h,_=>by simp[Jef] at h
 | a::as,x::xs,n,h,hv=>by
  simp only[Jef,Jq9] at h;simp only[Jn8,Jv,Jrh];rw[Jj7 as xs (n+1) h.2 (fun j y hj=>by rw[←hv (j+1) y (by simpa using hj)];congr 1;omega)]
  congr 1
  have h0:ρ2 n=den ρ x:=hv 0 x rfl;cases a with
  | i k=>show D.v (.int k (den ρ x).int)=D.v (.int k (ρ2 n).int);rw[h0]
  | b=>show D.v (.bool (den ρ x).bool)=D.v (.bool (ρ2 n).bool);rw[h0]
  | s=>show D.s (den ρ x).lst=D.s (ρ2 n).lst;rw[h0]
  | d =>
   show dat ρ x=QZ (ρ2 n).dat;rw[h0];show dat ρ x=QZ (dat ρ x);have hn:=h.1;simp only at hn;have h1:x.isOne=true:=by
    unfold VF at hn;split at hn
    ·cases hn
    ·exact hn
   rw[KQ (JR h1 ρ),Jad hn]
mutual
theorem Jg0 {L:List Key} (hnd:L.Nodup) :∀v:SV,(∀k∈v.names,k<L.length)→(v.ren fun i=>L.getD i 0).ren (at? L)=v
 | .o k l,h=>by
  have hk:=h k (by simp[SV.names]);simp only[SV.ren]
  congr 1
  simp only[Jrc,Jrk hk,Option.getD_some];exact hnd.idxOf_getElem k hk
 | .p k off,h=>by
  have hk:=h k (by simp[SV.names]);simp only[SV.ren]
  congr 1
  simp only[Jrc,Jrk hk,Option.getD_some];exact hnd.idxOf_getElem k hk
 | .e k l i off,h=>by
  have hk:=h k (by simp[SV.names]);simp only[SV.ren]
  congr 1
  simp only[Jrc,Jrk hk,Option.getD_some];exact hnd.idxOf_getElem k hk
 | .g cs,h=>by simp only[SV.ren];rw[Kk hnd cs (fun k hk=>h k (by simpa[SV.names] using hk))]
 | .t cs,h=>by simp only[SV.ren];rw[Kk hnd cs (fun k hk=>h k (by simpa[SV.names] using hk))]
 | .f fn cs,h=>by simp only[SV.ren];rw[Kk hnd cs (fun k hk=>h k (by simpa[SV.names] using hk))]
 | .d e,h=>rfl
 | .u,h=>rfl
theorem Kk {L:List Key} (hnd:L.Nodup) :∀cs:List SV,(∀k∈XA cs,k<L.length)→Jae (at? L) (Jae (fun i=>L.getD i 0) cs)=cs
 | [],_=>rfl
 | c::cs,h=>by
  simp only[Jae];rw[Jg0 hnd c (fun k hk=>h k (by simp[XA,hk])),Kk hnd cs (fun k hk=>h k (by simp[XA,hk]))]
end
theorem Jll {L:List Key} (hnd:L.Nodup) (o:Jg) (h :∀k∈o.names,k<L.length):(o.ren fun i=>L.getD i 0).ren (at? L)=o:=by
 cases o with
 | box cs=>simp only[Jg.ren];rw[Kk hnd cs h]
 | _=>rfl
mutual
theorem JdX (r:Key→Key) :∀v:SV,(v.ren r).names=v.names.map r
 | .o _ _=>rfl
 | .p _ _=>rfl
 | .e _ _ _ _=>rfl
 | .g cs=>by simp only[SV.ren,SV.names,Zt r cs]
 | .t cs=>by simp only[SV.ren,SV.names,Zt r cs]
 | .f _ cs=>by simp only[SV.ren,SV.names,Zt r cs]
 | .d _=>rfl
 | .u=>rfl
theorem Zt (r:Key→Key) :∀cs:List SV,XA (Jae r cs)=(XA cs).map r
 | []=>rfl
 | c::cs=>by simp only[Jae,XA,List.map_append,JdX r c,Zt r cs]
end
theorem Jiw (r:Key→Key) (o:Jg):(o.ren r).names=o.names.map r:=by
 cases o with
 | box cs=>exact Zt r cs
 | _=>rfl
theorem Jpq {c:Cx P} {g:Gh} {w:World} {mt:Mem} {L:List Key} {os:List Obj} (hS:Sim c g mt w) (hos:L.mapM mt=some os) (hnd:L.Nodup) (hclo :∀k∈os.flatMap Obj.names,k∈L) :
  Sim c (g.lent L) (QG (Jr 0 (os.map (Obj.ren (at? L))))) w ∧
   (∀b,Mut (g.lent L) (QG (Jr 0 (os.map (Obj.ren (at? L))))) b→Mut g mt b) ∧
   (∀k∈L,QG (Jr 0 (os.map (Obj.ren (at? L)))) (at? L k)=(mt k).map (Obj.ren (at? L))∧(g.lent L).bl (at? L k)=g.bl k∧(g.lent L).hd (at? L k)=g.hd k) ∧
   ∀x v,(∀k∈x.names,k∈L)→VX c g mt w x v→VX c (g.lent L) (QG (Jr 0 (os.map (Obj.ren (at? L))))) w (x.ren (at? L)) v:=by
 obtain⟨hlen,hget⟩:=Ug L os hos;have hm :∀i,QG (Jr 0 (os.map (Obj.ren (at? L)))) i=(L[i]?).bind fun k=>(mt k).map (Obj.ren (at? L)):=by
  intro i;simp only[QG,Q3,Nat.zero_le,if_true,Nat.sub_zero,Jru];cases hi:L[i]? with
  | none =>
   have:os[i]? = none:=by
    rw[List.getElem?_eq_none_iff] at hi ⊢;omega
   rw[this];rfl
  | some k =>
   rw[Jrn,(hget i k hi).1]
 generalize QG (Jr 0 (os.map (Obj.ren (at? L))))=mL at *;have hat :∀k∈L,mL (at? L k)=(mt k).map (Obj.ren (at? L))∧(g.lent L).bl (at? L k)=g.bl k∧(g.lent L).hd (at? L k)=g.hd k∧(g.lent L).fd (at? L k)=g.fd k:=by
  intro k hk;have:=ZG hk;simp only[hm,at?,Gh.lent,this,Jrn,Jrb,Option.getD_some,and_self]
 have hMut :∀b,Mut (g.lent L) mL b→Mut g mt b:=by
  rintro b ⟨i,o,hi,hrw,hb⟩;rw[hm] at hi;cases hL:L[i]? with
  | none=>simp[hL] at hi
  | some k =>
   simp only[hL,Jrn] at hi;have e1:(g.lent L).bl i=g.bl k:=by simp only[Gh.lent,hL,Jrn]
   have e2:(g.lent L).fd i=g.fd k:=by simp only[Gh.lent,hL,Jrb,Option.getD_some]
   cases hmk:mt k with
   | none=>simp[hmk] at hi
   | some o0 =>
    simp only[hmk,Jrb,Jq8] at hi;exact⟨k,o0,hmk,by rw[←JaA (ρ:=at? L) o0,hi];exact hrw,Uh hb e1 e2 (by rw[←hi,U2])⟩
 have hF :∀fp,(∀b∈fp,b<w.heap.size)→JV c g mt fp→JV c (g.lent L) mL fp:=fun fp _ hf b hb =>
  ⟨fun h=>(hf b hb).1 (hMut b h),(hf b hb).2⟩
 have hPart:Jms c g mt w c (g.lent L) mL (at? L) (fun i=>L.getD i 0) (fun k=>k∈L):=by
  refine⟨fun i o hi=>?_,hat,fun k o hk hmk j hj=>hclo j ?_⟩
  ·rw[hm] at hi;cases hL:L[i]? with
   | none=>simp[hL] at hi
   | some k =>
    obtain⟨hlt,e⟩:=Jra.1 hL;have:L.getD i 0=k:=by simp[hL]
    simp only[this];subst e;exact⟨List.getElem_mem hlt,hnd.idxOf_getElem i hlt⟩
  ·have:=ZG hk;obtain⟨h1,h2⟩:=hget _ k this;rw[hmk] at h1;exact List.mem_flatMap.2 ⟨o,Jrg h1.symm,hj⟩
 refine⟨hPart.sim hS hS.frame hF (fun k b hk how=>?_) (fun b i hb=>?_),hMut,fun k hk=>⟨(hat k hk).1,(hat k hk).2.1,(hat k hk).2.2.1⟩,
  fun x v hx hv=>Jcg (K:=fun k=>k∈L) (fun k hk=>⟨(hat k hk).1,(hat k hk).2.1,(hat k hk).2.2.1⟩) hF x v hx hv⟩
 ·simp only[Gh.lent,how,Jrn,hk,if_true];rfl
 ·simp only[Gh.lent] at hb;cases how:g.ow b with
  | none=>simp[how] at hb
  | some k =>
   simp only[how,Jrn] at hb;split at hb
   ·exact hS.live b k how
   ·cases hb
theorem Jch {α:Type} :∀(L:List Nat) (os:List α) (i:Nat) (k:Nat),L.Nodup→L.length=os.length→L[i]? = some k→(L.zip os).lookup k=os[i]?
 | [],os,i,k,_,_,h=>by simp at h
 | j::L,[],i,k,_,hl,h=>by simp at hl
 | j::L,o::os,0,k,hn,hl,h=>by simp at h;subst h;simp
 | j::L,o::os,i+1,k,hn,hl,h=>by
  simp only[List.nodup_cons] at hn;have hk:L[i]? = some k:=by simpa using h
  have hne:k≠j:=fun e=>by subst e;exact hn.1 (Jrg hk)
  have hb:(k == j)=false:=by simpa using hne
  simp only[List.zip_cons_cons,List.lookup_cons,hb];rw[Jch L os i k hn.2 (by simpa using hl) hk];simp
theorem JjW {α:Type} {f:Key→Option α} :∀(L:List Key) (os:List α),L.length=os.length→(∀(i:Nat) (k:Key),L[i]? = some k→f k=os[i]?)→L.mapM f=some os
 | [],[],_,_=>rfl
 | [],_::_,h,_=>by simp at h
 | _::_,[],h,_=>by simp at h
 | k::L,o::os,h,hf=>by
  rw[List.mapM_cons,hf 0 k rfl,JjW L os (by simpa using h) (fun i j hj=>by rw[hf (i+1) j (by simpa using hj)];simp)];rfl
theorem JmC (hB:BOk sg B) {Φ:Fix P} (hT:Jed P Φ (QN sg B)) (hm:P.follows .mixedOrders=true) {s:Qk} (hs:s.ok=true) (hsi:s.okIn=true) {H:XQ} (hnl:H.nl=s.objs.length) {f:FuncId} {fn:Func} {C:Code} (hf:fnOf P f=some (fn,C))
  {R:R} (hR:sxX P sg s H fn C=some R) (hw:R.wf s.ins.length []=true):FnX P Φ f (Q2 s (YX B N s.ins R)):=by
 obtain⟨hf1,hb,_,hk⟩:=fnOf_ok hf;refine⟨fun args w=>WP hf args w,fun c g os m w xs vals x m1 hΦ hmem hw0 hS hv hspec=>?_⟩;refine calls_of_wp hf1 hb ?_;have hrel:=Z9 hspec;obtain⟨ρ1,ρ0,hx,ho,hF,_⟩:=id hrel;cases hev:YX B N s.ins R ((Jv s.ins 0).map (dat ρ1)) with
 | none=>rw[hev] at hF;cases hF
 | some outs =>
  unfold YX at hev;split at hev
  ·rename_i ρa hbind;split at hev
   ·rename_i ds' heval;simp only[Jq8] at hev;subst hev;obtain⟨_,_,hl3⟩:=Xr _ _ _ _ _ hbind;obtain⟨ρ,hag,hrun⟩:=JaR _ _ _ _ _ heval hw;have hexp:=hl3 ρ (by simpa using hag);have hleaf :∀e∈JdF s.args++s.objs.flatMap Jg.lv2,dat ρ e=dat ρ1 e:=by
     intro e he;rcases Bool.or_eq_true_iff.1 (Jrm.1 hsi e he) with hv | ha
     ·exact Jme hv _ _
     ·obtain⟨y,hy,hye⟩:=JcX ha;rw[←hye,←hye];exact List.map_inj_left.1 hexp y hy
    have hxs:γXs ρ s.args=xs:=by rw[hx];exact Vb _ fun e he=>hleaf e (by simp[he])
    have hos:s.objs.map (γO ρ)=os:=by
     rw[ho];exact Jrv fun o hom=>Jkc o fun e he=>hleaf e (List.mem_append_right _ (List.mem_flatMap.2 ⟨o,hom,he⟩))
    have hm0:γm ρ (Y3 0 s.objs)=m:=by rw[Jbt,hos,hmem]
    have hl :∀k,m k≠none→k<H.nl:=by
     intro k hk';rw[hmem] at hk';unfold QG at hk';rw[Q3] at hk';simp only[Nat.zero_le,if_true,Nat.sub_zero] at hk';have:=(Jra.1 (Option.ne_none_iff_exists'.1 hk').choose_spec).1;rw[←hos,Jri] at this;rw[hnl];exact this
    have hH:Jl c g m w (γs ρ (Zu 0 s.args)) { tmps:=vals.toArray++Array.replicate (fn.ntmps-vals.toArray.size) undef,defers:=[] }:=by
     intro t;rw[Jkp,hxs];cases hd:xs[t]? with
     | none =>
      have:xs.getD t .u = .u:=by simp[hd]
      rw[this];trivial
     | some y =>
      obtain⟨v,h1,h2⟩:=JmH xs vals t y hv hd;have e1:xs.getD t .u=y:=by simp[hd]
      have hlt:t<vals.length:=(Jra.1 h1).1;have e2:(vals.toArray++Array.replicate (fn.ntmps-vals.toArray.size) undef).getD t undef=v:=by
       rw[Array.getD_eq_getD_getElem?,Array.getElem?_append_left (by simpa using hlt)];simp[h1]
      rw[e1,e2];exact h2
    unfold sxX at hR;rw[←hm0] at hS hH;refine JnQ (N:=N) hB ⟨Φ,hΦ,hT⟩ hm H (c:=c) (g0:=g) (m0:=m) (w0:=w) hl C ⟨Zu 0 s.args,Y3 0 s.objs⟩ _ _ R ρ _ _ w g _ hR hrun hS hH (by rw[hm0];exact .refl _ _ _ _) (JaZ (by simp;omega) C hk)
     fun ex s' n' R' ρ' a' w' g' _ _ hk' hr' hS' hH' hC' hd' _=>?_
    have fin:Jo0 P fn s H s' n'=some R'→a'.defers=[]∧∃ v,(results fn a'.tmps).run P w' = .ok v w'∧∃ v' g',Ending.returned v = .returned v'∧Sim c g' m1 w'∧Jc c g m w g' m1 w'∧VX c g' m1 w' x v':=by
     intro h;unfold Jo0 at h;obtain⟨g2,hS2,hH2,hC2⟩:=Zb Jeo H.own s' g' hS' hH' hC';simp only at h;generalize Yv H.own Jeo s'=s1 at *;split at h
     ·rename_i q hq;split at h
      ·rename_i hcond;obtain⟨hLl,hnm⟩:=hcond;split at h
       ·rename_i vs hvs;split at h
        ·rename_i hout;simp only[Jq8] at h;subst h;obtain⟨his,hd⟩:=Kg _ _ _ hr';simp only[Run,Oc.done.injEq] at hd;have hrunX:=SMP.run_ok _ _ _ _ _ (W3 (B:=B) (P:=P) (st:=⟨γs ρ' s1.sl,γm ρ' s1.m⟩) rfl fn.results.toList) hq his;rw[MP.runT_eq] at hrunX;cases hr2:(Jf6 P ⟨γs ρ' s1.sl,γm ρ' s1.m⟩ fn.results.toList).run (γm ρ' s1.m) with
         | none=>rw[hr2] at hrunX;cases hrunX
         | some p =>
          obtain⟨ys,m2⟩:=p;rw[hr2] at hrunX;simp only[Jrb,Jq8,Jrq] at hrunX;obtain⟨e1,vl,h3,h4⟩:=KA (st:=⟨γs ρ' s1.sl,γm ρ' s1.m⟩) (P:=P) hS2 hH2 _ ys m2 hr2;have e1:m2=γm ρ' s1.m:=e1;have hqm:γm ρ' q.m=γm ρ' s1.m:=by rw[←hrunX.2.1,e1]
          have h4:VXs c g2 (γm ρ' s1.m) w' ys vl:=h4;have hvx:VX c g2 (γm ρ' s1.m) w' (γX ρ' (JhO q.val)) (Jdy vl):=by
           have hys:ys=q.val.map (γX ρ'):=hrunX.1;rw[hys] at h4;have hl:=Qp _ _ h4
           match hqv:q.val,vl,hl,h4 with
           | [],[],_,h4=>exact⟨[],rfl,h4⟩
           | [z],[v],_,⟨v',vs',e,h6,_⟩=>cases e;exact h6
           | z::y::l,u::v::l',_,h5=>exact⟨_,rfl,by rw[Js];exact h5⟩
          have hres:=Jbh h3;generalize hL:List.range s.objs.length++XC [] ((JjR s.objs.length s.res s.robjs (JhO q.val) q.m).filter fun k=>s.objs.length≤k)=L at *;have hnd:L.Nodup:=by
           rw[←hL];refine List.nodup_append.2 ⟨List.nodup_range,Zj _ _ List.nodup_nil,fun a ha b hb=>?_⟩;rw[List.mem_range] at ha;rcases (WG _ _ _).1 hb with h | h
           ·simp at h
           ·have:=(List.mem_filter.1 h).2;simp at this;omega
          have hlt :∀k,k<s.objs.length→L[k]? = some k:=by
           intro k hk;rw[←hL,JrA (by simpa using hk)];simp[hk]
          let act:Act:={ tmps:=#[Jdy vl],defers:=[] }
          have hact:Jl c g2 (γm ρ' q.m) w' (γs ρ' [(0,JhO q.val)]) act:=by
           intro t;cases t with
           | zero=>rw[hqm];exact hvx
           | succ t=>trivial
          let ρ2:Env:=Xf 0 (vs.map (den ρ')) fun _=> .i 0
          obtain⟨_,hset⟩:=Jaf (vs.map (den ρ')) 0 (fun _=>V.i 0);obtain⟨g3,hS3,hH3,hC3⟩:=Jgg (nl:=s.objs.length) (by rw[←hnl];exact hl) ⟨[(0,s.res.ren fun i=>L.getD i 0)],L.zip (s.robjs.map (Jg.ren fun i=>L.getD i 0))⟩ (s:=⟨[(0,JhO q.val)],q.m⟩) (by rw[hqm];exact hS2) hact (by rw[hqm];exact hC2);obtain⟨q1,q2,q3⟩:=VE (ρ':=ρ2) hvs (fun j hj=>absurd hj (by omega)) hset (by rw[←hnl];exact hl) hS3 hH3 hC3;have hv2:VX c g3 (γm ρ2 (L.zip (s.robjs.map (Jg.ren fun i=>L.getD i 0)))) w' (γX ρ2 (s.res.ren fun i=>L.getD i 0)) (Jdy vl):=q2 0;have q1:Sim c g3 (γm ρ2 (L.zip (s.robjs.map (Jg.ren fun i=>L.getD i 0)))) w':=q1;have q3:Jc c g m w g3 (γm ρ2 (L.zip (s.robjs.map (Jg.ren fun i=>L.getD i 0)))) w':=q3;have houts:(Jv s.outs 0).map (dat ρ2)=ds':=by
           rw[hd];refine(Jj7 s.outs vs 0 hout fun j y hj=>?_).symm;exact hset j (den ρ' y) (by rw[Jru,hj];rfl)
          have hrel2:s.rel (YX B N s.ins R) xs os (γX ρ2 s.res,γm ρ2 (Y3 0 s.robjs)):=by
           refine⟨ρ1,ρ2,hx,ho,?_,rfl⟩;unfold YX;rw[hbind];simp only[heval,houts]
          have hone:=Qk.rel_one hs hrel hrel2;simp only[Jrq] at hone;obtain⟨ex,em⟩:=hone;have hnm :∀k∈s.res.names++s.robjs.flatMap Jg.names,k<L.length:=fun k hk=>Nat.lt_of_succ_le (Nat.le_of_ble_eq_true (Jrm.1 hnm k hk));have hosM:L.mapM (γm ρ2 (L.zip (s.robjs.map (Jg.ren fun i=>L.getD i 0))))=some ((s.robjs.map (Jg.ren fun i=>L.getD i 0)).map (γO ρ2)):=by
           refine JjW L _ (by simpa using hLl) fun i k hi=>?_;simp only[γm];rw[Jch L _ i k hnd (by simpa using hLl) hi];simp only[Jru]
          have hrenamed:((s.robjs.map (Jg.ren fun i=>L.getD i 0)).map (γO ρ2)).map (Obj.ren (at? L))=s.robjs.map (γO ρ2):=by
           simp only[List.map_map];refine Jrv fun o hom=>?_;simp only[Function.comp,WT];rw[Jll hnd o fun k hk=>hnm k (List.mem_append_right _ (List.mem_flatMap.2 ⟨o,hom,hk⟩))]
          have hgetD :∀j,j<L.length→L.getD j 0∈L:=fun j hj=>by
           simp only[Jrc,Jrk hj,Option.getD_some];exact List.getElem_mem hj
          have hclo :∀k∈((s.robjs.map (Jg.ren fun i=>L.getD i 0)).map (γO ρ2)).flatMap Obj.names,k∈L:=by
           intro k hk;rw[Qd] at hk;obtain⟨o,hom,hko⟩:=List.mem_flatMap.1 hk;obtain⟨o',ho',rfl⟩:=List.mem_map.1 hom;rw[Jiw] at hko;obtain⟨j,hj,rfl⟩:=List.mem_map.1 hko;exact hgetD j (hnm j (List.mem_append_right _ (List.mem_flatMap.2 ⟨o',ho',hj⟩)))
          obtain⟨r1,r2,r3,r4⟩:=Jpq q1 hosM hnd hclo;rw[hrenamed,←Jbt,←em] at r1 r2 r3 r4;have hvf:=r4 _ _ (fun k hk=>by
           rw[Kh,JdX] at hk;obtain⟨j,hj,rfl⟩:=List.mem_map.1 hk;exact hgetD j (hnm j (by simp[hj]))) hv2
          rw[JbU,Jg0 hnd _ (fun k hk=>hnm k (by simp[hk])),←ex] at hvf;refine⟨hd',Jdy vl,hres,Jdy vl,g3.lent L,rfl,r1,⟨q3.size,fun b h1 h2 h3=>⟨(q3.pure b h1 h2 h3).1,fun hm=>(q3.pure b h1 h2 h3).2 (r2 b hm)⟩,fun k cs hk=>?_,fun k ty sz es dp rw hk=>?_,fun k hk=>?_⟩,hvf⟩
          ·have hkl:k<s.objs.length:=by rw[←hnl];exact hl k (by rw[hk];simp)
           have hkL:=Jrg (hlt k hkl);have hatk:at? L k=k:=by
            obtain⟨hlt',e⟩:=Jra.1 (hlt k hkl);have:=hnd.idxOf_getElem k hlt';rw[e] at this;exact this
           obtain⟨⟨cs',e1⟩,e2⟩:=q3.box k cs hk;obtain⟨a1,a2,a3⟩:=r3 k hkL;rw[hatk] at a1 a2;exact⟨⟨K0 (at? L) cs',by rw[a1,e1];rfl⟩,a2.trans e2⟩
          ·have hkl:k<s.objs.length:=by rw[←hnl];exact hl k (by rw[hk];simp)
           have hkL:=Jrg (hlt k hkl);have hatk:at? L k=k:=by
            obtain⟨hlt',e⟩:=Jra.1 (hlt k hkl);have:=hnd.idxOf_getElem k hlt';rw[e] at this;exact this
           obtain⟨a1,a2,a3⟩:=r3 k hkL;rw[hatk] at a1 a2 a3;rcases q3.arr k ty sz es dp rw hk with e1 | ⟨es',dp',rw',e1,e2⟩
           ·exact .inl (by rw[a1,e1];rfl)
           ·exact .inr ⟨es',dp',rw',by rw[a1,e1];rfl,by rw[a2,a3];exact e2⟩
          ·have hkl:k<s.objs.length:=by rw[←hnl];exact hl k (by rw[hk];simp)
           have hkL:=Jrg (hlt k hkl);have hatk:at? L k=k:=by
            obtain⟨hlt',e⟩:=Jra.1 (hlt k hkl);have:=hnd.idxOf_getElem k hlt';rw[e] at this;exact this
           obtain⟨a1,a2,a3⟩:=r3 k hkL;rw[hatk] at a1;rw[a1,q3.dead k hk];rfl
        ·cases h
       ·cases h
      ·cases h
     ·cases h
    cases ex with
    | norm=>exact fin hk'
    | ret=>exact fin hk'
    | exit id=>cases hk'
   ·cases hev
  ·cases hev
end
end Go.Tm
end
section
namespace Go.Tm
open Go.IntKind (i64)
inductive Body where
 | r (h:XQ) (r:R)
 | m (F:List D→Option (List D))
structure Ja where
 sig:Sig
 body:Body
abbrev Vl:=List (FuncId×Ja)
def Zn:Sig→List Sh1
 | .d s=>s.pars.flatMap Sh.leaves
 | .x s=>s.ins
 | .b _ s=>s.ins
 | .h=>[]
def ZS (L:Vl):FuncId→Option Sig:=fun f=>match L.lookup f with
 | some e=>some e.sig
 | none=>none
def arT (L:Vl):FuncId→Option (List (Option Nat)):=fun f=>match L.lookup f with
 | some e=>match e.sig with
  | .d s=>Jpc s
  | _=>none
 | none=>none
noncomputable def tbN (L:Vl):Nat→Tb
 | 0=>{ call:=fun _ _=>none,ar:=arT L }
 | n+1=>{ call:=fun f=>match L.lookup f with
  | some ⟨s,.r _ r⟩=>YX (tbN L n) n (Zn s) r
  | some ⟨_,.m F⟩=>F
  | none=>fun _=>none,ar:=arT L }
def Zi:Sig→Bool
 | .d s=>Jhb (.d s)
 | .x s=>s.ok&&s.okIn
 | .b _ s=>s.ok&&s.okIn&&s.objs.isEmpty
 | .h=>true
def sxB (P:Program) (sg:FuncId→Option Sig) (s:Qk) (H:XQ):Option (Func×Code)→Option R
 | some (fn,C)=>if Zi (.b 0 s) then(if H.nl == s.objs.length then sxX P sg s H fn C else none) else none
 | none=>none
def sxE (P:Program) (sg:FuncId→Option Sig) (f:FuncId) (s:Sig) (H:XQ):Option R:=match s with
 | .d s=>match fnOf P f with
  | some (fn,C)=>if Zi (.d s) then(if H.nl == 0 then sxD P sg s H fn C else none) else none
  | none=>none
 | .x s=>match fnOf P f with
  | some (fn,C)=>if Zi (.x s) then(if H.nl == s.objs.length then sxX P sg s H fn C else none) else none
  | none=>none
 | .b f s=>sxB P sg s H (fnOf P f)
 | .h=>none
def Jhk (P:Program) (sg:FuncId→Option Sig) (f:FuncId) (e:Ja) (Φ:Fix P:= .none P):Prop:=match e with
 | ⟨s,.r H r⟩=>sxE P sg f s H=some r∧r.wf (Zn s).length []=true
 | ⟨s,.m F⟩=>Zi s=true∧match s with
  | .d s=>(∀args w,(callFunc f args).run P w = .ok (.enter f args) w)∧FnOk P Φ f (dspec s F)
  | .x s=>(∀args w,(callFunc f args).run P w = .ok (.enter f args) w)∧FnX P Φ f (Q2 s F)
  | .b _ _=>False
  | .h=>True
def YD (P:Program) (sg:FuncId→Option Sig) (l:Vl) (Φ:Fix P:= .none P):Prop:=match l with
 | []=>True
 | (f,e)::l=>Jhk P sg f e Φ∧YD P sg l Φ
section
variable {P:Program} {L:Vl} {Φ:Fix P}
theorem YD.at_ {sg:FuncId→Option Sig} :∀{l:Vl},YD P sg l Φ→∀{f:FuncId} {e:Ja},l.lookup f=some e→Jhk P sg f e Φ
 | (k,x)::l,⟨h1,h2⟩,f,e,h=>by
  simp only[List.lookup_cons] at h
  by_cases hf:f=k
  ·subst hf;simp at h;subst h;exact h1
  ·have hb:(f == k)=false:=by simpa using hf
   rw[hb] at h;exact YD.at_ h2 h
theorem Jhk.sig {sg:FuncId→Option Sig} {f:FuncId} {s:Sig} {b:Body} (h:Jhk P sg f ⟨s,b⟩ Φ):Zi s=true:=by
 cases b with
 | m F=>exact h.1
 | r H r =>
  obtain⟨h,_⟩:=h;unfold sxE at h;cases s with
  | h=>rfl
  | b f s =>
   simp only at h;unfold sxB at h;split at h
   ·split at h
    ·assumption
    ·cases h
   ·cases h
  | d s =>
   simp only at h;split at h
   ·split at h
    ·assumption
    ·cases h
   ·cases h
  | x s =>
   simp only at h;split at h
   ·split at h
    ·assumption
    ·cases h
   ·cases h
theorem Jl9 {s:Sig} (h:Zi s=true):Jhb s=true:=by
 cases s with
 | d s=>exact h
 | x s=>simp only[Zi,Jq9] at h;exact h.1
 | b f s=>simp only[Zi,Jq9] at h;exact h.1.1
 | h=>rfl
theorem bOk (hL:YD P (ZS L) L Φ) (n:Nat):BOk (ZS L) (tbN L n):=by
 refine⟨fun f s h=>?_,fun f a h=>?_⟩
 ·unfold ZS at h;split at h
  ·rename_i e he;simp only[Jq8] at h;subst h;obtain⟨s,b⟩:=e;exact Jl9 (hL.at_ he).sig
  ·cases h
 ·have har:(tbN L n).ar=arT L:=by cases n <;> rfl
  rw[har] at h;unfold arT at h;unfold ZS;split at h
  ·rename_i e he;split at h
   ·rename_i s hs;exact⟨s,by simp only[hs],h⟩
   ·cases h
  ·cases h
theorem Jo6 {P:Program} {sg:FuncId→Option Sig} {f:FuncId} {s:Sig} {H:XQ} {r:R} (h:sxE P sg f s H=some r) (hs:(∃ x,s = .d x)∨∃ x,s = .x x) : ∃ fn C,fnOf P f=some (fn,C):=by
 unfold sxE at h;rcases hs with ⟨x,rfl⟩ | ⟨x,rfl⟩ <;>
 ·simp only at h;split at h
  ·rename_i fn C hf;exact⟨fn,C,hf⟩
  ·cases h
theorem Jkq {P:Program} {sg:FuncId→Option Sig} {k f:FuncId} {s:Qk} {H:XQ} {r:R} (h:sxE P sg k (.b f s) H=some r) : ∃ fn C,fnOf P f=some (fn,C)∧Zi (.b 0 s)=true∧H.nl=s.objs.length∧sxX P sg s H fn C=some r:=by
 have e:sxE P sg k (.b f s) H=sxB P sg s H (fnOf P f):=rfl;rw[e] at h;unfold sxB at h;split at h
 ·rename_i fn C hf;split at h
  ·rename_i hs;split at h
   ·rename_i hn;exact⟨fn,C,hf,hs,by simpa using hn,h⟩
   ·cases h
  ·cases h
 ·cases h
theorem JpN (hm:P.follows .mixedOrders=true) (hL:YD P (ZS L) L Φ) :∀n,Jed P Φ (QN (ZS L) (tbN L n)):=by
 have enter :∀f e,L.lookup f=some e→((∃ x,e.sig = .d x)∨∃ x,e.sig = .x x)→∀args w,(callFunc f args).run P w = .ok (.enter f args) w:=by
  intro f e he hs;obtain⟨s,b⟩:=e;have hg:=hL.at_ he;cases b with
  | m F =>
   rcases hs with ⟨x,hx⟩ | ⟨x,hx⟩
   ·simp only at hx;subst hx;exact hg.2.1
   ·simp only at hx;subst hx;exact hg.2.1
  | r H r =>
   obtain⟨h,_⟩:=hg;obtain⟨fn,C,hf⟩:=Jo6 h hs;exact fun args w=>WP hf args w
 intro n
 induction n with
 | zero =>
  refine⟨fun f S h=>?_,fun f S h=>?_,fun f S h=>?_⟩
  ·unfold QN ZS at h;simp only at h;cases he:L.lookup f with
   | none=>simp[he] at h
   | some e =>
    simp only[he] at h;split at h
    ·rename_i s hs;simp only[Jq8] at h;subst h;refine⟨enter f e he (.inl ⟨_,Option.some.inj hs⟩),fun w ds vals fps r _ _ hF=>?_⟩;unfold dspec at hF;cases hfl:Jj s.pars ds with
     | none=>simp[hfl] at hF
     | some ls=>simp only[hfl,Jrn] at hF;cases hF
    ·cases h
  ·unfold QN ZS at h;simp only at h;cases he:L.lookup f with
   | none=>simp[he] at h
   | some e =>
    simp only[he] at h;split at h
    ·rename_i s hs;simp only[Jq8] at h;subst h;refine⟨enter f e he (.inr ⟨_,Option.some.inj hs⟩),fun c g os m w xs vals x m1 _ _ _ _ _ hsp=>?_⟩;obtain⟨_,_,_,_,hF,_⟩:=Z9 hsp;cases hF
    ·cases h
  ·unfold QN ZS at h;simp only at h;cases he:L.lookup (bId f) with
   | none=>simp[he] at h
   | some e =>
    simp only[he] at h;split at h
    ·rename_i f' s hs;split at h
     case isFalse=>cases h
     rename_i hff;subst hff;simp only[Jq8] at h hs;subst h;obtain⟨s',b⟩:=e;simp only at hs;subst hs;have hg:=hL.at_ he;cases b with
     | m F=>exact hg.2.elim
     | r H r =>
      obtain⟨fn,C,hf,_⟩:=Jkq hg.1;refine⟨fun args w=>WP hf args w,fun c g os m w xs vals x m1 _ _ _ _ _ hsp=>?_⟩;obtain⟨_,_,_,_,hF,_⟩:=Z9 hsp;cases hF
    ·cases h
 | succ n ih =>
  have hB:=bOk hL n;have hcall :∀f s H r,L.lookup f=some ⟨s,.r H r⟩→(tbN L (n+1)).call f=YX (tbN L n) n (Zn s) r:=by
   intro f s H r he;show (match L.lookup f with
   | some ⟨s,.r _ r⟩=>YX (tbN L n) n (Zn s) r
   | some ⟨_,.m F⟩=>F
   | none=>fun _=>none)=_
   rw[he]
  have hcallm :∀f s F,L.lookup f=some ⟨s,.m F⟩→(tbN L (n+1)).call f=F:=by
   intro f s F he;show (match L.lookup f with
   | some ⟨s,.r _ r⟩=>YX (tbN L n) n (Zn s) r
   | some ⟨_,.m F⟩=>F
   | none=>fun _=>none)=_
   rw[he]
  refine⟨fun f S h=>?_,fun f S h=>?_,fun f S h=>?_⟩
  ·unfold QN ZS at h;simp only at h;cases he:L.lookup f with
   | none=>simp[he] at h
   | some e =>
    simp only[he] at h;split at h
    ·rename_i s hs;simp only[Jq8] at h;subst h;obtain⟨s',b⟩:=e;simp only[Jq8] at hs;subst hs;have hg:=hL.at_ he;cases b with
     | m F=>rw[hcallm f _ F he];exact hg.2.2
     | r H r =>
      rw[hcall f _ H r he];obtain⟨h,hw⟩:=hg;unfold sxE at h;simp only at h;split at h
      ·rename_i fn C hf;split at h
       ·split at h
        ·rename_i hn;exact Jo8 hB ih hm (by simpa using hn) hf h hw
        ·cases h
       ·cases h
      ·cases h
    ·cases h
  ·unfold QN ZS at h;simp only at h;cases he:L.lookup f with
   | none=>simp[he] at h
   | some e =>
    simp only[he] at h;split at h
    ·rename_i s hs;simp only[Jq8] at h;subst h;obtain⟨s',b⟩:=e;simp only[Jq8] at hs;subst hs;have hg:=hL.at_ he;cases b with
     | m F=>rw[hcallm f _ F he];exact hg.2.2
     | r H r =>
      rw[hcall f _ H r he];obtain⟨h,hw⟩:=hg;unfold sxE at h;simp only at h;split at h
      ·rename_i fn C hf;split at h
       ·rename_i hsig;split at h
        ·rename_i hn;simp only[Zi,Jq9] at hsig;exact JmC hB ih hm hsig.1 hsig.2 (by simpa using hn) hf h hw
        ·cases h
       ·cases h
      ·cases h
    ·cases h
  ·unfold QN ZS at h;simp only at h;cases he:L.lookup (bId f) with
   | none=>simp[he] at h
   | some e =>
    simp only[he] at h;split at h
    ·rename_i f' s hs;split at h
     case isFalse=>cases h
     rename_i hff;subst hff;simp only[Jq8] at h hs;subst h;obtain⟨s',b⟩:=e;simp only at hs;subst hs;have hg:=hL.at_ he;cases b with
     | m F=>exact hg.2.elim
     | r H r =>
      rw[hcall _ _ H r he];obtain⟨h,hw⟩:=hg;obtain⟨fn,C,hf,hsig,hn,h⟩:=Jkq h;simp only[Zi,Jq9] at hsig;exact JmC hB ih hm hsig.1.1 hsig.1.2 hn hf h hw
    ·cases h
end
end Go.Tm
end
section
namespace Go.Tm
open Go.IntKind (i64)
structure Tb.Le (B B':Tb):Prop where
 ar:B'.ar=B.ar
 call :∀f ds r,B.call f ds=some r→B'.call f ds=some r
theorem Tb.Le.refl (B:Tb):B.Le B:=⟨rfl,fun _ _ _ h=>h⟩
section
variable {B B':Tb} {N N':Nat} {L:Vl}
theorem Jmh (h:B.Le B') (x:I) (ρ ρ':Env) (he:Xh B x ρ=some ρ'):Xh B' x ρ=some ρ':=by
 cases x with
 | chk b=>exact he
 | head sz l=>exact he
 | fl l=>exact he
 | get e sh n=>exact he
 | idx l i sh n=>exact he
 | call f as rs n =>
  simp only[Xh] at he ⊢;cases hc:B.call f (as.map (dat ρ)) with
  | none=>rw[hc] at he;cases he
  | some ds=>rw[hc] at he;rw[h.call _ _ _ hc];exact he
 | prim p as r n=>exact he
 | callv e as ar rs n =>
  simp only[Xh] at he ⊢;split at he
  ·rename_i fn caps hd;split at he
   ·rename_i har;rw[h.ar,if_pos har];cases hc:B.call fn (as.map (dat ρ)++caps.map D.norm) with
    | none=>rw[hc] at he;cases he
    | some ds=>rw[hc] at he;rw[h.call _ _ _ hc];exact he
   ·cases he
  ·cases he
theorem Jdi {f f':List V→Option Oc} (h :∀vs o,f vs=some o→f' vs=some o) :∀(n n':Nat) (vs:List V) (o:Oc),n≤n'→KT f n vs=some o→KT f' n' vs=some o
 | 0,_,_,_,_,he=>by cases he
 | n+1,0,_,_,hn,_=>by omega
 | n+1,n'+1,vs,o,hn,he=>by
  simp only[KT] at he ⊢;cases hf:f vs with
  | none=>rw[hf] at he;cases he
  | some o1 =>
   rw[hf] at he;rw[h _ _ hf];cases o1 with
   | next vs'=>exact Jdi h n n' vs' o (by omega) he
   | esc o'=>exact he
   | done ds=>cases he
theorem J9 (h:B.Le B') (hn:N≤N') :∀(r:R) (ρ:Env) (o:Oc),JC B N r ρ=some o→JC B' N' r ρ=some o
 | .i x r,ρ,o,he=>by
  simp only[JC] at he ⊢;cases hx:Xh B x ρ with
  | none=>rw[hx] at he;cases he
  | some ρ' =>
   rw[hx] at he;rw[Jmh h x ρ ρ' hx];exact J9 h hn r ρ' o he
 | .ite b x y,ρ,o,he=>by
  simp only[JC] at he ⊢;cases hb:bol ρ b with
  | true=>rw[hb] at he;exact J9 h hn x ρ o he
  | false=>rw[hb] at he;exact J9 h hn y ρ o he
 | .nilq c l x y,ρ,o,he=>by
  simp only[JC] at he ⊢;cases hl:lst ρ l with
  | nil =>
   rw[hl] at he;simp only at he ⊢;split at he
   ·rename_i e;rw[if_pos]
    ·exact J9 h hn y ρ o he
    ·rw[J9 h hn y ρ o he,J9 h hn x ρ o (e.trans he)]
   ·cases he
  | cons d l'=>rw[hl] at he;exact J9 h hn y ρ o he
 | .loop c init body,ρ,o,he=>by
  simp only[JC] at he ⊢;exact Jdi (fun vs o=>J9 h hn body (Xf c vs ρ) o) _ _ _ _ hn he
 | .next vs,ρ,o,he=>he
 | .done vs,ρ,o,he=>he
 | .esc r,ρ,o,he=>by
  simp only[JC] at he ⊢;cases hr:JC B N r ρ with
  | none=>rw[hr] at he;cases he
  | some o'=>rw[hr] at he;rw[J9 h hn r ρ o' hr];exact he
theorem Jmy (h:B.Le B') (hn:N≤N') {ins:List Sh1} {r:R} {ls ds:List D} (he:YX B N ins r ls=some ds):YX B' N' ins r ls=some ds:=by
 unfold YX at he ⊢;cases hb:Xm ins ls 0 (fun _=> .i 0) with
 | none=>rw[hb] at he;cases he
 | some ρ =>
  rw[hb] at he;simp only at he ⊢;cases hr:JC B N r ρ with
  | none=>rw[hr] at he;cases he
  | some o=>rw[hr] at he;rw[J9 h hn r ρ o hr];exact he
theorem Ji1 (n:Nat):(tbN L n).ar=arT L:=by cases n <;> rfl
theorem YP :∀(n n':Nat),n≤n'→(tbN L n).Le (tbN L n')
 | 0,n',_=>⟨by rw[Ji1,Ji1],fun f ds r h=>by cases h⟩
 | n+1,0,h=>by omega
 | n+1,n'+1,h=>by
  refine⟨rfl,fun f ds r hc=>?_⟩;simp only[tbN] at hc ⊢;cases hf:L.lookup f with
  | none=>rw[hf] at hc;cases hc
  | some e =>
   rw[hf] at hc;obtain⟨s,b⟩:=e;cases b with
   | r H r'=>exact Jmy (YP n n' (by omega)) (by omega) hc
   | m F=>exact hc
def Ev (L:Vl) (f:FuncId) (as ds:List D):Prop:=∃ N,(tbN L N).call f as=some ds
theorem Jq5 {f:FuncId} {as ds ds':List D} (h:Ev L f as ds) (h':Ev L f as ds'):ds=ds':=by
 obtain⟨n,h⟩:=h;obtain⟨m,h'⟩:=h';have a:=(YP (L:=L) n (max n m) (Nat.le_max_left _ _)).call _ _ _ h;have b:=(YP (L:=L) m (max n m) (Nat.le_max_right _ _)).call _ _ _ h';rw[a] at b;exact Option.some.inj b
def Jp (l:List V):Env:=fun k=>l.getD k (.i 0)
theorem JeV (l:List V) (v:V):upd (Jp l) l.length v=Jp (l++[v]):=by
 funext k
 unfold upd Jp;simp only[Jrc];split
 ·rename_i h;subst h;simp
 ·rename_i h
  by_cases hk:k<l.length
  ·rw[JrA hk]
  ·rw[Jrw (by omega),Jrw (by simp;omega)]
def ZN:List Sh1→List D→Option (List V)
 | [],[]=>some []
 | a::as,d::ds=>match a.toV d,ZN as ds with
  | some v,some vs=>some (v::vs)
  | _,_=>none
 | _,_=>none
theorem YI :∀(as:List Sh1) (ds:List D) (l vs:List V),ZN as ds=some vs→Xm as ds l.length (Jp l)=some (Jp (l++vs))
 | [],[],l,vs,h=>by simp only[ZN,Jq8] at h;subst h;simp[Xm]
 | [],_::_,l,vs,h=>by cases h
 | _::_,[],l,vs,h=>by cases h
 | a::as,d::ds,l,vs,h=>by
  simp only[ZN] at h;split at h
  ·rename_i v vs' h1 h2;simp only[Jq8] at h;subst h;simp only[Xm,h1,JeV];have:=YI as ds (l++[v]) vs' h2;simp only[Jrf,List.length_singleton,List.append_assoc,List.singleton_append] at this;exact this
  ·cases h
def YW:Sh→D→Option (List V)
 | .one a,d=>ZN [a] [d]
 | .g as,.g cs=>ZN as cs
 | .q as,.q cs=>ZN as cs
 | _,_=>none
theorem JeL {sh:Sh} {d:D} {l vs:List V} (h:YW sh d=some vs):sh.bind d l.length (Jp l)=some (Jp (l++vs)):=by
 cases sh with
 | one a=>exact YI _ _ _ _ h
 | g as=>cases d <;> simp only[YW] at h <;> first | exact YI _ _ _ _ h | cases h
 | q as=>cases d <;> simp only[YW] at h <;> first | exact YI _ _ _ _ h | cases h
theorem UG :∀(vs l:List V),Xf l.length vs (Jp l)=Jp (l++vs)
 | [],l=>by simp[Xf]
 | v::vs,l=>by
  simp only[Xf,JeV];have:=UG vs (l++[v]);simp only[Jrf,List.length_singleton,List.append_assoc,List.singleton_append] at this;exact this
def WR (L:Vl) (r:R) (l:List V) (Q:Oc→Prop):Prop:=∃ N o,JC (tbN L N) N r (Jp l)=some o∧Q o
variable {r x y body:R} {l vs:List V} {Q Q':Oc→Prop} {n c:Nat}
theorem WR.mono (h:WR L r l Q) (hQ :∀o,Q o→Q' o):WR L r l Q':=by
 obtain⟨N,o,h1,h2⟩:=h;exact⟨N,o,h1,hQ o h2⟩
theorem JqV {b:E} (hb:bol (Jp l) b=true) (h:WR L r l Q):WR L (.i (.chk b) r) l Q:=by
 obtain⟨N,o,h1,h2⟩:=h;exact⟨N,o,by simp only[JC,Xh,hb,if_true];exact h1,h2⟩
theorem Jqx {sz:Nat} {e:E} (hb:XP sz (lst (Jp l) e)=true) (h:WR L r l Q):WR L (.i (.head sz e) r) l Q:=by
 obtain⟨N,o,h1,h2⟩:=h;exact⟨N,o,by simp only[JC,Xh,hb,if_true];exact h1,h2⟩
theorem Jq3 {e:E} (hb:JA (lst (Jp l) e)=true) (h:WR L r l Q):WR L (.i (.fl e) r) l Q:=by
 obtain⟨N,o,h1,h2⟩:=h;exact⟨N,o,by simp only[JC,Xh,hb,if_true];exact h1,h2⟩
theorem Jq2 {e:E} {sh:Sh} (hn:n=l.length) (hb:YW sh (dat (Jp l) e)=some vs) (h:WR L r (l++vs) Q):WR L (.i (.get e sh n) r) l Q:=by
 obtain⟨N,o,h1,h2⟩:=h;subst hn;exact⟨N,o,by simp only[JC,Xh,JeL hb];exact h1,h2⟩
theorem JqN {e i:E} {sh:Sh} {d:D} (hn:n=l.length) (h0:0≤int (Jp l) i) (hd:(lst (Jp l) e)[(int (Jp l) i).toNat]? = some d) (hb:YW sh d=some vs) (h:WR L r (l++vs) Q) :
  WR L (.i (.idx e i sh n) r) l Q:=by
 obtain⟨N,o,h1,h2⟩:=h;subst hn;exact⟨N,o,by simp only[JC,Xh,if_pos h0,hd,JeL hb];exact h1,h2⟩
theorem Jqy {f:FuncId} {as:List E} {rs:List Sh1} {ds:List D} (hn:n=l.length) (hc:Ev L f (as.map (dat (Jp l))) ds) (hb:ZN rs ds=some vs) (h:WR L r (l++vs) Q) :
  WR L (.i (.call f as rs n) r) l Q:=by
 obtain⟨N,o,h1,h2⟩:=h;obtain⟨M,hM⟩:=hc;subst hn;refine⟨max N M,o,?_,h2⟩;have e1:=(YP (L:=L) M (max N M) (Nat.le_max_right _ _)).call _ _ _ hM;have e2:=J9 (YP (L:=L) N (max N M) (Nat.le_max_left N M)) (Nat.le_max_left N M) _ _ _ h1;simp only[JC,Xh,e1,YI _ _ _ _ hb];exact e2
theorem Jqw {p:Jou} {as:List E} {r1:Sh1} {n:Nat} {d:D} (hn:n=l.length) (hp:Zm p (as.map (dat (Jp l)))=some d) (hb:ZN [r1] [d]=some vs) (h:WR L r (l++vs) Q):WR L (.i (.prim p as r1 n) r) l Q:=by
 obtain⟨N,o,h1,h2⟩:=h;subst hn;exact⟨N,o,by simp only[JC,Xh,hp,YI _ _ _ _ hb];exact h1,h2⟩
theorem JqT {e:E} {as:List E} {ar:List (Option Nat)} {rs:List Sh1} {fn:FuncId} {caps ds:List D} (hn:n=l.length) (he:dat (Jp l) e = .f fn caps) (har:arT L fn=some (ar++caps.map fun _=>none))
  (hc:Ev L fn (as.map (dat (Jp l))++caps.map D.norm) ds) (hb:ZN rs ds=some vs) (h:WR L r (l++vs) Q):WR L (.i (.callv e as ar rs n) r) l Q:=by
 obtain⟨N,o,h1,h2⟩:=h;obtain⟨M,hM⟩:=hc;subst hn;refine⟨max N M,o,?_,h2⟩;have e1:=(YP (L:=L) M (max N M) (Nat.le_max_right _ _)).call _ _ _ hM;have e2:=J9 (YP (L:=L) N (max N M) (Nat.le_max_left N M)) (Nat.le_max_left N M) _ _ _ h1;simp only[JC,Xh,he,Ji1,har,if_true,e1,YI _ _ _ _ hb];exact e2
theorem JqY {b:E} (hx:bol (Jp l) b=true→WR L x l Q) (hy:bol (Jp l) b=false→WR L y l Q):WR L (.ite b x y) l Q:=by
 cases hb:bol (Jp l) b with
 | true =>
  obtain⟨N,o,h1,h2⟩:=hx hb;exact⟨N,o,by simp only[JC,hb,if_true];exact h1,h2⟩
 | false =>
  obtain⟨N,o,h1,h2⟩:=hy hb;exact⟨N,o,by simp only[JC,hb,Jrp,if_false];exact h1,h2⟩
theorem Jqt {b:E} (hb:bol (Jp l) b=true) (hx:WR L x l Q):WR L (.ite b x y) l Q:=JqY (fun _=>hx) (fun h=>by rw[hb] at h;cases h)
theorem JqM {b:E} (hb:bol (Jp l) b=false) (hy:WR L y l Q):WR L (.ite b x y) l Q:=JqY (fun h=>by rw[hb] at h;cases h) (fun _=>hy)
theorem Jqu {e:E} (o:Oc) (hx:lst (Jp l) e=[]→WR L x l (· = o)) (hy:WR L y l (· = o)) (hQ:Q o):WR L (.nilq c e x y) l Q:=by
 obtain⟨N,_,h1,rfl⟩:=hy;cases hl:lst (Jp l) e with
 | nil =>
  obtain⟨M,_,h2,rfl⟩:=hx hl;have e1:=J9 (YP (L:=L) N (max N M) (Nat.le_max_left N M)) (Nat.le_max_left N M) _ _ _ h1;have e2:=J9 (YP (L:=L) M (max N M) (Nat.le_max_right N M)) (Nat.le_max_right N M) _ _ _ h2;exact⟨max N M,_,by simp only[JC,hl,e1,e2,if_true],hQ⟩
 | cons d l'=>exact⟨N,_,by simp only[JC,hl];exact h1,hQ⟩
abbrev Rnd (Inv:Nat→List V→Prop) (Q:Oc→Prop) (n:Nat):Oc→Prop
 | .next vs=>∃ m,m<n∧Inv m vs
 | .esc o=>Q o
 | .done _=>False
theorem JqU {init:List E} (Inv:Nat→List V→Prop) (hc:c=l.length) (n:Nat) (h0:Inv n (init.map (den (Jp l)))) (hs :∀n vs,Inv n vs→WR L body (l++vs) (Rnd Inv Q n)):WR L (.loop c init body) l Q:=by
 subst hc;have key :∀(n:Nat) (vs:List V),Inv n vs→∃ N o,KT (fun vs=>JC (tbN L N) N body (Xf l.length vs (Jp l))) N vs=some o∧Q o:=by
  intro n
  induction n using Nat.strongRecOn with
  | _ n ih =>
   intro vs hi;obtain⟨N,o,h1,h2⟩:=hs n vs hi;cases o with
   | done ds=>exact h2.elim
   | esc o =>
    refine⟨N+1,o,?_,h2⟩;have:=J9 (YP (L:=L) N (N+1) (by omega)) (show N≤N+1 by omega) _ _ _ h1;simp only[KT,UG,this]
   | next vs' =>
    obtain⟨m,hm,hi'⟩:=h2;obtain⟨M,o,h3,h4⟩:=ih m hm vs' hi';refine⟨max N M+1,o,?_,h4⟩;have e1:=J9 (YP (L:=L) N (max N M+1) (by omega)) (show N≤max N M+1 by omega) _ _ _ h1;have e2:=Jdi (f':=fun vs=>JC (tbN L (max N M+1)) (max N M+1) body (Xf l.length vs (Jp l)))
     (fun vs o=>J9 (YP (L:=L) M (max N M+1) (by omega)) (by omega) body (Xf l.length vs (Jp l)) o) M (max N M) vs' o (by omega) h3
    rw[KT];simp only[UG] at e2 ⊢;simp only[e1];exact e2
 obtain⟨N,o,h1,h2⟩:=key n _ h0;exact⟨N,o,by simp only[JC];exact h1,h2⟩
theorem JqD {es:List E} (h:Q (.next (es.map (den (Jp l))))):WR L (.next es) l Q:=⟨0,_,rfl,h⟩
theorem JqK {es:List E} (h:Q (.done (es.map (dat (Jp l))))):WR L (.done es) l Q:=⟨0,_,rfl,h⟩
theorem JqG (h:WR L r l fun o=>Q (.esc o)):WR L (.esc r) l Q:=by
 obtain⟨N,o,h1,h2⟩:=h;exact⟨N,.esc o,by simp only[JC,h1],h2⟩
abbrev Fin (P:List D→Prop):Oc→Prop
 | .done ds=>P ds
 | _=>False
theorem Jq4 {f:FuncId} {s:Sig} {H:XQ} {r:R} {as:List D} {P:List D→Prop} (hf:L.lookup f=some ⟨s,.r H r⟩) (hb:ZN (Zn s) as=some vs) (h:WR L r vs (Fin P)) : ∃ ds,Ev L f as ds∧P ds:=by
 obtain⟨N,o,h1,h2⟩:=h;cases o with
 | done ds =>
  refine⟨ds,⟨N+1,?_⟩,h2⟩;have hb:=YI _ _ [] vs hb;simp only[List.length_nil,List.nil_append] at hb;simp only[tbN,hf,YX,show (fun _=>V.i 0:Env)=Jp [] from by funext k;simp[Jp],hb,h1]
 | _=>exact h2.elim
theorem Jq7 {f:FuncId} {s:Sig} {H:XQ} {r:R} {as ds:List D} (hf:L.lookup f=some ⟨s,.r H r⟩) (hb:ZN (Zn s) as=some vs) (h:WR L r vs (Fin (· = ds))):Ev L f as ds:=by
 obtain⟨ds',h1,rfl⟩:=Jq4 hf hb h;exact h1
theorem Jq6 {f:FuncId} {s:Sig} {F:List D→Option (List D)} {as ds:List D} (hf:L.lookup f=some ⟨s,.m F⟩) (h:F as=some ds):Ev L f as ds:=⟨1,by simp only[tbN,hf];exact h⟩
end
end Go.Tm
end
section
namespace Go.Tm
open Go.IntKind (i64)
abbrev dI (n:Int):D:= .v (.int .i64 n)
abbrev dB (t:Bool):D:= .v (.bool t)
def dL (l:List Int):List D:=l.map dI
def dLL (l:List (List Int)):List D:=l.map fun x=> .s (dL x)
theorem w64 {n:Int} (h1 : -9223372036854775808≤n) (h2:n≤9223372036854775807):i64.wrap n=n:=by rw[IntKind.wrap_i64];omega
section
variable {L:Vl} {r x y body:R} {l vs:List V} {Q Q':Oc→Prop} {n c:Nat}
theorem JqF {b:E} (p:Prop) [Decidable p] (hb:bol (Jp l) b=decide p) (hp:p) (h:WR L r l Q):WR L (.i (.chk b) r) l Q:=JqV (by rw[hb];simpa using hp) h
theorem JqL {b:E} (p:Prop) [Decidable p] (hb:bol (Jp l) b=decide p) (hx:p→WR L x l Q) (hy : ¬p→WR L y l Q):WR L (.ite b x y) l Q :=
 JqY (fun h=>hx (by rw[hb] at h;simpa using h)) (fun h=>hy (by rw[hb] at h;simpa using h))
theorem JqZ {b:E} (t:Bool) (hb:bol (Jp l) b=t) (hx:t=true→WR L x l Q) (hy:t=false→WR L y l Q):WR L (.ite b x y) l Q :=
 JqY (fun h=>hx (by rw[←hb];exact h)) (fun h=>hy (by rw[←hb];exact h))
theorem JqP {f:FuncId} {as:List E} {rs:List Sh1} {args ds:List D} (hn:n=l.length) (ha:as.map (dat (Jp l))=args) (hc:Ev L f args ds) (hb:ZN rs ds=some vs) (h:WR L r (l++vs) Q) :
 WR L (.i (.call f as rs n) r) l Q:=Jqy hn (by rw[ha];exact hc) hb h
theorem JqO {e i:E} {sh:Sh} {ds:List D} {d:D} (k:Int) (hn:n=l.length) (he:lst (Jp l) e=ds) (hi:int (Jp l) i=k) (h0:0≤k) (hd:ds[k.toNat]? = some d) (hb:YW sh d=some vs) (h:WR L r (l++vs) Q) :
 WR L (.i (.idx e i sh n) r) l Q:=JqN hn (by rw[hi];exact h0) (by rw[he,hi];exact hd) hb h
theorem Jq1 {e:E} {N:Int} (ds:List D) (he:lst (Jp l) e=ds) (h:(ds.length:Int)≤N) (hr:WR L r l Q):WR L (.i (.chk (.cmp .le (.len e) (.z N))) r) l Q:=by
 refine JqV ?_ hr;show decide (((lst (Jp l) e).length:Int)≤N)=true;rw[he];simpa using h
theorem Jqz {es:List E} {ds:List D} (hd:es.map (dat (Jp l))=ds) (h:Q (.done ds)):WR L (.done es) l Q:=JqK (by rw[hd];exact h)
theorem JqI {es:List E} {vs:List V} (hd:es.map (den (Jp l))=vs) (h:Q (.next vs)):WR L (.next es) l Q:=JqD (by rw[hd];exact h)
end
theorem ZW {l:List Int} {k:Int} (h0:0≤k) (h1:k<l.length):(dL l)[k.toNat]? = some (dI (l.getD k.toNat 0)):=by
 have:k.toNat<l.length:=by omega
 simp[dL,Jrc,this]
theorem KB {l:List Int} {p:Int→Prop} (h :∀x∈l,p x) {k:Nat} (hk:k<l.length):p (l.getD k 0):=by
 rw[Jrc,Jrk hk];exact h _ (List.getElem_mem hk)
theorem dL1 (l:List Int):(dL l).length=l.length:=by simp[dL]
theorem Kz (l:List (List Int)):(dLL l).length=l.length:=by simp[dLL]
end Go.Tm
end
section
open Go.ChangeShapes Go.WideShapes Go.ChangeAt Go.RowKit
namespace Go.Tm
open Go.IntKind (i64)
section
variable {H:Type} {enc:TypeId×Value→H} {P:Program}
theorem JdP {f:Func} {s:ChangeSpec} {apart fresh handsOn again:Bool} {W W':World} {args:Array Value} {v:Value} {ds gs:List (DataW H)} {before pa pv:List MemPlace}
  (hW:DataW.Whole enc P f.params.toList s.vars apart W args.toList ds gs before)
  (hres :∀(b:Nat) (sp:Nat→Bool) (hd:Bool),DataW.TrodAll enc P W' b sp hd f.resultTypes.toList (v.resultList f.resultTypes.size) (s.fn H (ds++gs)).results [])
  (hargs :∀sp:Nat→Bool,(∀p∈before,sp p.block=true)→DataW.TrodAll enc P W' 0 sp true f.params.toList args.toList (s.fn H (ds++gs)).args pa)
  (hvars :∀sp:Nat→Bool,(∀p∈before,sp p.block=true)→DataW.TrodVars enc P W' sp s.vars (s.fn H (ds++gs)).vars pv)
  (hps:before=pa++pv) (hb:Below W.heap.size W W')
  (hok :∀(j:Nat) (t:TypeId) (r:Value),f.resultTypes[j]? = some t→(v.resultList f.resultTypes.size)[j]? = some r→Value.okWide P W' .any 0 t r) :
  s.post enc P f apart fresh handsOn again W args v W':=by
 have hlt :∀p∈before,p.block<W.heap.size:=fun p hp=>hW.lt p hp;have hold :∀p∈before,(fun b=>decide (b<W.heap.size)) p.block=true:=fun p hp=>by simpa using hlt p hp
 refine⟨ds,gs,before,[],pa,pv,hW,hres _ _ _,hargs _ hold,hvars _ hold,World.keptBut_mono (fun p hp=>⟨hp,?_⟩) (hb.frame (·∈before)),fun _=>?_⟩
 ·rw[hps,Jre] at hp;exact Or.inr hp
 ·obtain⟨_,_,_,_,_,hz,hn⟩:=hW;refine⟨hok,_,_,([]++pa)++pv,⟨[]++pa,pv,trodAll_append (hargs _ (fun _ _=>rfl)) (hres _ _ _),hvars _ (fun _ _=>rfl),rfl,?_,?_⟩,?_⟩
  ·intro b off hp;have hin:MemPlace.cell b off∈before:=by rw[hps];simpa using hp
   rw[hb.frozen (hlt _ hin)];exact hz b off hin
  ·intro ha;have:=hn ha;rw[hps] at this;simpa using this
  ·intro p hp _;rw[hps];simpa using hp
end
end Go.Tm
end
section
open Go.ChangeShapes Go.WideShapes Go.ChangeAt Go.RowKit
namespace Go.Tm
open Go.IntKind (i64)
def Jga (P:Program):List Field→Nat→Bool
 | [],_=>true
 | f::fs,off=>Nat.beq f.offset off&&Jga P fs (off+P.cellsOf f.type)
def isAgg (P:Program) (t:TypeId):Bool:=match Yf P t with
 | some b=>b
 | none=>false
def Vj (P:Program):List Field→Nat
 | []=>0
 | f::fs=>P.cellsOf f.type+Vj P fs
def okT (P:Program):Nat→TypeId→Bool
 | 0,_=>false
 | n+1,t=>match P.underlying t with
  | some .bool=>true
  | some (.int _)=>true
  | some (.slice e)=>okT P n e&&Nat.blt 0 (P.cellsOf e)
  | some (.struct fs)=>Jga P fs.toList 0&&Nat.beq (P.cellsOf t) (Vj P fs.toList)&&fs.toList.all fun f=>okT P n f.type
  | _=>false
def Joy (T:TypeId→List D→Prop):List Field→List D→Prop
 | [],ds=>ds=[]
 | f::fs,ds=>∃ a b,ds=a++b∧T f.type a∧Joy T fs b
def JaJ (P:Program):Nat→TypeId→List D→Prop
 | 0,_,_=>False
 | n+1,t,ds=>match P.underlying t with
  | some .bool=>∃ b,ds=[.v (.bool b)]
  | some (.int k)=>∃ i,ds=[.v (.int k i)]
  | some (.slice e)=>∃ es,ds=[.s es]∧es.length≤maxLen∧∀x∈es,∃ cs,JaJ P n e cs∧x=D.ofCells (isAgg P e) cs
  | some (.struct fs)=>Joy (JaJ P n) fs.toList ds
  | _=>False
section
variable {P:Program} {w:World}
theorem Jg1 {n:Nat} {t:TypeId} {ds:List D} (h:JaJ P n t ds) (ha:isAgg P t=false) : ∃ d,ds=[d]:=by
 cases n with
 | zero=>exact h.elim
 | succ n =>
  unfold JaJ at h;split at h
  ·obtain⟨b,rfl⟩:=h;exact⟨_,rfl⟩
  ·obtain⟨b,rfl⟩:=h;exact⟨_,rfl⟩
  ·obtain⟨b,rfl,_⟩:=h;exact⟨_,rfl⟩
  ·rename_i fs hu;simp[isAgg,Yf,hu] at ha
  ·exact h.elim
theorem Joj {ag:Bool} {ds:List D} {cs:List Value} {fp:List Nat} (h:Xx w ds cs fp) (h1:ag=false→∃ d,ds=[d]) : ∃ val,Rd w (D.ofCells ag ds) val fp∧val.cells.toList=cs:=by
 cases ag with
 | true=>exact⟨.agg cs.toArray,⟨cs,rfl,h⟩,by simp[Value.cells]⟩
 | false =>
  obtain⟨d,rfl⟩:=h1 rfl;obtain⟨v,vs,f1,f2,rfl,rfl,h2,⟨rfl,rfl⟩,h3⟩:=h;exact⟨v,by simpa[D.ofCells] using h2,by rw[Ym h3]⟩
theorem JhG {ag:Bool} {T:List D→Prop} (hT:ag=false→∀ds,T ds→∃ d,ds=[d]) {b o sz:Nat} :∀(m k:Nat),
  (∀i,i<m→∃ cs:List Value,cs.length=sz∧(∀j,j<sz→w.cell? ⟨b,o+(k+i)*sz+j,none⟩=cs[j]?)∧∃ ds fp,Xx w ds cs fp∧T ds) →
  ∃ es fp,Ky w es sz b (o+k*sz) fp∧es.length=m∧∀x∈es,∃ ds,T ds∧x=D.ofCells ag ds
 | 0,k,_=>⟨[],[],rfl,rfl,fun x hx=>by simp at hx⟩
 | m+1,k,h=>by
  obtain⟨cs,hl,hc,ds,fp,hr,ht⟩:=h 0 (by omega);obtain⟨val,hv,hvc⟩:=Joj hr (fun e=>hT e ds ht);obtain⟨es,fp2,h1,h2,h3⟩:=JhG hT m (k+1) fun i hi=>by
   have:=h (i+1) (by omega);rw[show k+(i+1)=k+1+i by omega] at this;exact this
  refine⟨D.ofCells ag ds::es,fp++fp2,⟨val,fp,fp2,rfl,hv,by rw[←Jrj,hvc,hl],fun j hj=>?_,?_,fun u hu=>?_⟩,by simp[h2],fun x hx=>?_⟩
  ·have:=hc j hj;rw[Nat.add_zero] at this;rw[this,←hvc];simp
  ·rw[show o+k*sz+sz=o+(k+1)*sz by rw[Nat.succ_mul];omega];exact h1
  ·rw[hvc] at hu;exact Yw _ _ _ hr u hu
  ·rcases Jrs.1 hx with rfl | hx
   ·exact⟨ds,ht,rfl⟩
   ·exact h3 x hx
theorem Jet {T:TypeId→List D→Prop} {cs:List Value} :∀(l:List Field) (off:Nat),Jga P l off=true→off+Vj P l=cs.length →
  (∀f∈l,∃ ds fp,Xx w ds ((cs.drop f.offset).take (P.cellsOf f.type)) fp∧T f.type ds)→∃ ds fp,Xx w ds (cs.drop off) fp∧Joy T l ds
 | [],off,_,hs,_=>⟨[],[],by
  have hs:off=cs.length:=by simpa[Vj] using hs
  rw[List.drop_eq_nil_of_le (by omega)];exact⟨rfl,rfl⟩,rfl⟩
 | f::l,off,hc,hs,h=>by
  simp only[Jga,Jq9] at hc;have hoff:f.offset=off:=Nat.eq_of_beq_eq_true hc.1;obtain⟨ds,fp,h1,h2⟩:=h f (by simp);obtain⟨ds2,fp2,h3,h4⟩:=Jet l (off+P.cellsOf f.type) hc.2 (by simp only[Vj] at hs;omega) (fun f' hf=>h f' (by simp[hf]));refine⟨ds++ds2,fp++fp2,?_,ds,ds2,rfl,h2,h4⟩;rw[hoff] at h1;have:=ZH _ _ _ _ _ _ h1 h3;rw[show cs.drop (off+P.cellsOf f.type)=(cs.drop off).drop (P.cellsOf f.type) by rw[List.drop_drop],List.take_append_drop] at this;exact this
theorem Jfq {H:Type} {enc:TypeId×Value→H} {spare:Nat→Bool} {held:Bool} :∀(n:Nat) (t:TypeId) (fuel:Nat) (cs:List Value) (x:DataW H×List MemPlace),okT P n t=true →
  DataW.trod enc P w 0 spare held fuel t cs=some x→∃ ds fp,Xx w ds cs fp∧JaJ P n t ds
 | 0,t,fuel,cs,x,h,_=>by cases h
 | n+1,t,fuel,cs,x,hok,h=>by
  unfold okT at hok;unfold JaJ;split at hok
  ·rename_i hu;obtain⟨b,rfl,_⟩:=DataW.trod_bool hu h;exact⟨[.v (.bool b)],[],⟨.bool b,[],[],[],rfl,rfl,⟨rfl,rfl,rfl⟩,⟨rfl,rfl⟩,rfl⟩,b,rfl⟩
  ·rename_i k hu;obtain⟨i,rfl,_,_⟩:=DataW.trod_int hu h;exact⟨[.v (.int k i)],[],⟨.int k i,[],[],[],rfl,rfl,⟨rfl,rfl,rfl⟩,⟨rfl,rfl⟩,rfl⟩,i,rfl⟩
  ·rename_i e hu;simp only[Jq9] at hok;have hpos:0<P.cellsOf e:=by rw[←Nat.blt_eq];exact hok.2
   rcases DataW.trod_slice hu h with ⟨rfl,_⟩ | ⟨a,len,cap,elems,rest,m,_,rfl,_,_,hle,hm,hlen,hel,_,_⟩
   ·exact⟨[.s []],[],⟨.slice none 0 0,[],[],[],rfl,rfl,⟨none,0,rfl,Nat.le_refl _,.inl ⟨rfl,rfl⟩⟩,⟨rfl,rfl⟩,rfl⟩,[],rfl,by simp,fun x hx=>by simp at hx⟩
   ·have each :∀i,i<len→∃ csi,w.cells? 0 (a.add (i*P.cellsOf e)) (P.cellsOf e)=some csi∧∃ ds fp,Xx w ds csi fp∧JaJ P n e ds:=fun i hi=>by
     have h1:=hel i hi;rw[Jrk (by omega)] at h1;obtain⟨csi,h2,h3⟩:=Option.bind_eq_some_iff.1 h1;exact⟨csi,h2,Jfq n e m csi _ hok.1 h3⟩
    by_cases h0:len=0
    ·subst h0;exact⟨[.s []],[],⟨.slice (some a) 0 cap,[],[],[],rfl,rfl,⟨some a,cap,rfl,hle,.inl ⟨rfl,rfl⟩⟩,⟨rfl,rfl⟩,rfl⟩,[],rfl,by simp,fun x hx=>by simp at hx⟩
    ·obtain⟨gb,go,gs⟩:=a;have hspot:gs=none∧gb<w.heap.size:=by
      obtain⟨csi,h2,_⟩:=each 0 (by omega);have hb:=World.cells?_block h2 hpos;obtain⟨_,hl,hc⟩:=World.cells?_some h2;have hc0:=hc 0 hpos;rw[Jrk (by omega)] at hc0;have:=World.cell?_spot hc0;refine⟨by simpa[Addr.add] using this,?_⟩;rw[show (Addr.add ⟨gb,go,gs⟩ (0*P.cellsOf e)).block=gb by simp[Addr.add]] at hb;exact hb
     obtain⟨rfl,hblt⟩:=hspot;obtain⟨es,fp,h1,h2,h3⟩:=JhG (w:=w) (ag:=isAgg P e) (T:=JaJ P n e) (fun ha ds ht=>Jg1 ht ha) (b:=gb) (o:=go) (sz:=P.cellsOf e) len 0 fun i hi=>by
      obtain⟨csi,h2,h3⟩:=each i hi;obtain⟨_,hl,hc⟩:=World.cells?_some h2;refine⟨csi,hl,fun j hj=>?_,h3⟩;have:=hc j hj;rw[X4,X4] at this;rw[←this,Nat.zero_add]
     refine⟨[.s es],gb::fp,⟨.slice (some ⟨gb,go,none⟩) len cap,[],gb::fp,[],rfl,by simp,⟨some ⟨gb,go,none⟩,cap,by rw[h2],by omega,.inr ⟨gb,go,P.cellsOf e,fp,rfl,hblt,rfl,by simpa using h1⟩⟩,⟨rfl,rfl⟩,rfl⟩,es,rfl,by omega,h3⟩
  ·rename_i fs hu;simp only[Jq9] at hok;obtain⟨⟨hc1,hc2⟩,hc3⟩:=hok;have hc2:P.cellsOf t=Vj P fs.toList:=Nat.eq_of_beq_eq_true hc2;obtain⟨xs,m,_,_,hl,hxl,hf⟩:=DataW.trod_struct hu h;obtain⟨ds,fp,h1,h2⟩:=Jet (P:=P) (w:=w) (T:=JaJ P n) (cs:=cs) fs.toList 0 hc1 (by omega) fun f hfm=>by
    obtain⟨i,hi⟩:=List.getElem?_of_mem hfm;have hi':fs[i]? = some f:=by simpa using hi
    have h3:=hf i f hi';have hlt:=(Jrl.1 hi').1;rw[Jrk (by omega)] at h3;exact Jfq n f.type m _ _ (Jrm.1 hc3 f hfm) h3
   exact⟨ds,fp,by simpa using h1,h2⟩
  ·cases hok
theorem JmG {H:Type} {enc:TypeId×Value→H} {t:TypeId} {d:DataW H} {ps:List MemPlace} {v:Value} {n:Nat} (hok:okT P n t=true) (hv:Value.okWide P w .any 0 t v) (h:DataW.Trod enc P w 0 (fun _=>true) true t v d ps) :
  ∃ ds fp,Rd w (D.ofCells (isAgg P t) ds) v fp∧JaJ P n t ds:=by
 obtain⟨fuel,h⟩:=h;obtain⟨ds,fp,h1,h2⟩:=Jfq n t fuel _ _ hok h;refine⟨ds,fp,?_,h2⟩;cases ha:isAgg P t with
 | true =>
  cases n with
  | zero=>cases hok
  | succ n =>
   unfold okT at hok;split at hok
   ·rename_i hu;simp[isAgg,Yf,hu] at ha
   ·rename_i hu;simp[isAgg,Yf,hu] at ha
   ·rename_i hu;simp[isAgg,Yf,hu] at ha
   ·rename_i fs hu;obtain⟨cs,rfl,_⟩:=okWide_struct hu hv;exact⟨cs.toList,by simp,by simpa[Value.cells] using h1⟩
   ·cases hok
 | false =>
  obtain⟨d0,rfl⟩:=Jg1 h2 ha;have hcv:v.cells.toList=[v]:=by
   cases n with
   | zero=>cases hok
   | succ n =>
    unfold okT at hok;split at hok
    ·rename_i hu;obtain⟨_,rfl⟩:=okWide_bool hu hv;rfl
    ·rename_i hu;obtain⟨_,rfl⟩:=okWide_int hu hv;rfl
    ·rename_i hu;obtain⟨_,_,_,rfl⟩:=okWide_slice hu hv;rfl
    ·rename_i fs hu;simp[isAgg,Yf,hu] at ha
    ·cases hok
  rw[hcv] at h1;obtain⟨v',vs,f1,f2,e,rfl,h3,⟨rfl,rfl⟩,_⟩:=h1;cases e;simpa[D.ofCells] using h3
def Jkm (P:Program) (n:Nat):List TypeId→List (List D)→Prop
 | [],dss=>dss=[]
 | t::ts,dss=>∃ ds rest,dss=ds::rest∧JaJ P n t ds∧Jkm P n ts rest
def Jcy (P:Program):List TypeId→List (List D)→List D
 | t::ts,ds::dss=>D.ofCells (isAgg P t) ds::Jcy P ts dss
 | _,_=>[]
theorem Jd2 {H:Type} {enc:TypeId×Value→H} {n:Nat} :∀(ts:List TypeId) (vs:List Value) (ds:List (DataW H)) (ps:List MemPlace),(∀t∈ts,okT P n t=true)→(∀(j:Nat) t v,ts[j]? = some t→vs[j]? = some v→Value.okWide P w .any 0 t v) →
  DataW.TrodAll enc P w 0 (fun _=>true) true ts vs ds ps→∃ dss fp,ZR w (Jcy P ts dss) vs fp∧Jkm P n ts dss∧ds.length=ts.length
 | [],[],[],ps,_,_,_=>⟨[],[],⟨rfl,rfl⟩,rfl,rfl⟩
 | t::ts,v::vs,d::ds,ps,hok,hv,⟨p,q,h1,h2,_⟩=>by
  obtain⟨x,fp,h3,h4⟩:=JmG (hok t (by simp)) (hv 0 t v rfl rfl) h1;obtain⟨dss,fp2,h5,h6,h7⟩:=Jd2 ts vs ds q (fun t ht=>hok t (by simp[ht])) (fun j t v h h'=>hv (j+1) t v (by simpa using h) (by simpa using h')) h2;exact⟨x::dss,fp++fp2,⟨v,vs,fp,fp2,rfl,rfl,h3,h5⟩,⟨x,dss,rfl,h4,h6⟩,by simp[h7]⟩
 | [],_::_,_,_,_,_,h=>h.elim
 | [],[],_::_,_,_,_,h=>h.elim
 | _::_,[],_,_,_,_,h=>h.elim
 | _::_,_::_,[],_,_,_,h=>h.elim
theorem Vr {H:Type} {enc:TypeId×Value→H} (hlo:laidOutB P=true) {W W':World} {sp:Nat→Bool} :∀(ts:List TypeId) (vs:List Value) (ds:List (DataW H)) (ps:List MemPlace),(∀t∈ts,P.readableRec t=true∧t<P.types.size) →
  DataW.TrodAll enc P W 0 (fun _=>true) true ts vs ds ps→(∀p∈ps,W.sameAt W' p)→(∀p∈ps,sp p.block=true)→DataW.TrodAll enc P W' 0 sp true ts vs ds ps
 | [],[],[],ps,_,h,_,_=>h
 | t::ts,v::vs,d::ds,ps,hr,⟨p,q,h1,h2,e⟩,hs,hsp=>by
  subst e;exact⟨p,q,WideElems.Trod_stays hlo (hr t (by simp)).1 (hr t (by simp)).2 h1 (fun x hx=>hs x (by simp[hx])) (fun x hx=>hsp x (by simp[hx])),
   Vr hlo ts vs ds q (fun t ht=>hr t (by simp[ht])) h2 (fun x hx=>hs x (by simp[hx])) (fun x hx=>hsp x (by simp[hx])),rfl⟩
 | [],_::_,_,_,_,h,_,_=>h.elim
 | [],[],_::_,_,_,h,_,_=>h.elim
 | _::_,[],_,_,_,h,_,_=>h.elim
 | _::_,_::_,[],_,_,h,_,_=>h.elim
theorem Jje {L:Vl} {Φ:Fix P} (hm:P.follows .mixedOrders=true) (hL:YD P (ZS L) L Φ) (hI:Φ.I w) {f:FuncId} {fl:Bool} {pars:List Sh} (hs:ZS L f=some (.d ⟨pars,.one (.one .b),fl⟩)) {args ls:List D} (hfl:Jj pars args=some ls)
  (hEv:Ev L f ls [.v (.bool true)]) {vs:List Value} {fp:List Nat} (hr:ZR w args vs fp):Calls P f vs.toArray w fun e w'=>e = .returned (.bool true)∧Below w.heap.size w w':=by
 obtain⟨N,hN⟩:=hEv;have hfn:(QN (ZS L) (tbN L N)).fns f=some { F:=dspec ⟨pars,.one (.one .b),fl⟩ ((tbN L N).call f),flat:=fl }:=by
  unfold QN;simp only[hs]
 have h:=((JpN hm hL N).fns f _ hfn).2 w args vs fp (.v (.bool true)) hI hr (by
  show (Jj pars args).bind _=_;rw[hfl];show (((tbN L N).call f ls).bind fun os=>Yj (.one (.one .b)) os)=_;rw[hN];rfl)
 refine h.mono fun e w' ⟨val,fp',he,hv,_,hb⟩=>?_;obtain⟨rfl,_⟩:=hv;exact⟨he,hb⟩
end
theorem JpX {C:Checked} {os:Os} {H:Type} {enc:TypeId×Value→H} {L:Vl} {f:FuncId} {fn:Func} {s:ChangeSpec} {conds:List PathCond} {ts:List TypeId} {tb:TypeId} {pars:List Sh} {n:Nat} {fl fresh handsOn again:Bool} {Φ:Fix C.prog} {X:World→Array Value→Prop} (hXh :∀(w w':World) (args:Array Value),w.heap=w'.heap→X w args→X w' args) (hXI :∀w args,X w args→Φ.I w) (hown:ownKnob C.prog.godebug=none) (started:os.Started) (hi:C.prog.inits.idxOf? f=none) (hf:C.prog.funcs[f]? = some fn)
  (wit : ∃ (w:World) (tape:Tape) (i:Input),w.os=os∧World.Shaped C.prog (w.forCall tape i)∧i.vars=[]∧Input.okWide C.prog (w.forCall tape i) Reach.any w.heap.size f i ∧
   ((s.pre enc C.prog fn conds false (w.forCall tape i).memory i.args∧X (w.forCall tape i).memory i.args)∧sizedMet enc C.prog fn (OpenSpec.ofChange s) false (w.forCall tape i).memory i.args)∧Assume.holds {} C.prog (lone (Frame.enter C.prog f i.args CallKind.normal) [] (w.forCall tape i)))
  (hpar:fn.params.toList=ts) (hres:fn.resultTypes = #[tb]) (hokT:ts.all (okT C.prog n)=true) (htb:C.prog.underlying tb=some .bool)
  (hlo:laidOutB C.prog=true) (hread:ts.all (fun t=>C.prog.readableRec t&&Nat.blt t C.prog.types.size)=true) (hvars:s.vars=[]) (hs :∀ds:List (DataW H),ds.length=ts.length→s.fn H ds={ results:=[.lit (.bool true)],args:=ds })
  (hm:C.prog.follows .mixedOrders=true) (hL:YD C.prog (ZS L) L Φ) (hsg:ZS L f=some (.d ⟨pars,.one (.one .b),fl⟩))
  (hEv :∀dss,Jkm C.prog n ts dss→∃ ls,Jj pars (Jcy C.prog ts dss)=some ls∧Ev L f ls [.v (.bool true)]) :
  ReturnsInHanded {} C os f .any (fun w args=>(s.pre enc C.prog fn conds false w args∧X w args)∧sizedMet enc C.prog fn (OpenSpec.ofChange s) false w args) (s.post enc C.prog fn false fresh handsOn again):=by
 refine returnsInHanded_of_change_and (C:=C) hXh hown started hi hf wit ?_;intro W base args ds gs before hval hW _ _ hx _;have hW':=hW;obtain⟨p,q,hA,hV,rfl,hfz,hnd⟩:=hW;have hA0:=hA;rw[hpar] at hA;rw[hvars] at hV;obtain⟨rfl,rfl⟩:=trodVars_none hV;obtain⟨dss,fp,hrd,hty,hlen⟩:=Jd2 ts args.toList ds p (fun t ht=>Jrm.1 hokT t ht) (fun j t v h1 h2=>hval j t v (by rw[←hpar] at h1;simpa using h1) (by simpa using h2)) hA;obtain⟨ls,hfl,hev⟩:=hEv dss hty;have hcall:=Jje hm hL (hXI W args hx) hsg hfl hev hrd;rw[Array.toArray_toList] at hcall;refine hcall.mono fun e W' ⟨he,hb⟩=>⟨_,he,?_⟩;have hlt :∀x∈p,x.block<W.heap.size:=fun x hx=>hW'.lt x (by simpa using hx);refine JdP (pa:=p) (pv:=[]) hW' (fun _ _ _=>?_) (fun sp hsp=>?_) (fun _ _=>by rw[hvars,List.append_nil,hs ds hlen];rfl) rfl hb ?_
 ·rw[List.append_nil,hs ds hlen,hres];exact trodAll_mk1 (shut_bool htb true)
 ·rw[List.append_nil,hs ds hlen,hpar];refine Vr hlo ts args.toList ds p (fun t ht=>?_) hA (fun x hx=>hb.same (hlt x hx)) (fun x hx=>hsp x (by simpa using hx));have:=Jrm.1 hread t ht;simp only[Jq9] at this;exact⟨this.1,by rw[←Nat.blt_eq];exact this.2⟩
 ·exact ok_one hres rfl (okWide_bool_mk htb true)
inductive Ty where
 | i (k:IntKind)
 | b
 | sl (e:Ty)
 | st (fs:List Ty)
def Ty.agg:Ty→Bool
 | .st _=>true
 | _=>false
mutual
def VO:Ty→List D→Prop
 | .b,ds=>∃ b,ds=[.v (.bool b)]
 | .i k,ds=>∃ n,ds=[.v (.int k n)]
 | .sl e,ds=>∃ es,ds=[.s es]∧es.length≤maxLen∧∀x∈es,∃ cs,VO e cs∧x=D.ofCells e.agg cs
 | .st fs,ds=>JmL fs ds
def JmL:List Ty→List D→Prop
 | [],ds=>ds=[]
 | f::fs,ds=>∃ a b,ds=a++b∧VO f a∧JmL fs b
end
def KI (T:TypeId→Option Ty):List Field→Option (List Ty)
 | []=>some []
 | f::fs=>match T f.type,KI T fs with
  | some a,some l=>some (a::l)
  | _,_=>none
def V3 (P:Program):Nat→TypeId→Option Ty
 | 0,_=>none
 | n+1,t=>match P.underlying t with
  | some .bool=>some .b
  | some (.int k)=>some (.i k)
  | some (.slice e)=>match V3 P n e with
   | some s=>some (.sl s)
   | none=>none
  | some (.struct fs)=>match KI (V3 P n) fs.toList with
   | some l=>some (.st l)
   | none=>none
  | _=>none
theorem Jee {P:Program} {n:Nat} {t:TypeId} {s:Ty} (h:V3 P n t=some s):isAgg P t=s.agg:=by
 cases n with
 | zero=>cases h
 | succ n =>
  unfold V3 at h;split at h
  ·rename_i hu;cases h;simp[isAgg,Yf,hu,Ty.agg]
  ·rename_i hu;cases h;simp[isAgg,Yf,hu,Ty.agg]
  ·rename_i hu;split at h
   ·cases h;simp[isAgg,Yf,hu,Ty.agg]
   ·cases h
  ·rename_i hu;split at h
   ·cases h;simp[isAgg,Yf,hu,Ty.agg]
   ·cases h
  ·cases h
theorem Jkv {T:TypeId→List D→Prop} {S:TypeId→Option Ty} (h :∀t s ds,S t=some s→T t ds→VO s ds) :∀(fs:List Field) (l:List Ty) (ds:List D),KI S fs=some l→Joy T fs ds→JmL l ds
 | [],l,ds,hl,ht=>by cases hl;exact ht
 | f::fs,l,ds,hl,⟨a,b,e,h1,h2⟩=>by
  simp only[KI] at hl;split at hl
  ·rename_i s l' hs hl';cases hl;exact⟨a,b,e,h _ _ _ hs h1,Jkv h fs l' b hl' h2⟩
  ·cases hl
theorem Jf7 {P:Program} :∀(n:Nat) (t:TypeId) (s:Ty) (ds:List D),V3 P n t=some s→JaJ P n t ds→VO s ds
 | 0,_,_,_,h,_=>by cases h
 | n+1,t,s,ds,h,ht=>by
  unfold V3 at h;unfold JaJ at ht;split at h
  ·rename_i hu;rw[hu] at ht;cases h;exact ht
  ·rename_i hu;rw[hu] at ht;cases h;exact ht
  ·rename_i e hu;rw[hu] at ht;split at h
   ·rename_i s' hs;cases h;obtain⟨es,h1,h2,h3⟩:=ht;refine⟨es,h1,h2,fun x hx=>?_⟩;obtain⟨cs,h4,h5⟩:=h3 x hx;exact⟨cs,Jf7 n e s' cs hs h4,by rw[←Jee hs];exact h5⟩
   ·cases h
  ·rename_i fs hu;rw[hu] at ht;split at h
   ·rename_i l hl;cases h;exact Jkv (fun t s ds=>Jf7 n t s ds) fs.toList l ds hl ht
   ·cases h
  ·cases h
def Jol:List Ty→List (List D)→Prop
 | [],dss=>dss=[]
 | s::ss,dss=>∃ ds rest,dss=ds::rest∧VO s ds∧Jol ss rest
def JgQ:List Ty→List (List D)→List D
 | s::ss,ds::dss=>D.ofCells s.agg ds::JgQ ss dss
 | _,_=>[]
def Jby (P:Program) (n:Nat):List TypeId→Option (List Ty)
 | []=>some []
 | t::ts=>match V3 P n t,Jby P n ts with
  | some s,some l=>some (s::l)
  | _,_=>none
theorem JjL {P:Program} {n:Nat} :∀(ts:List TypeId) (ss:List Ty) (dss:List (List D)),Jby P n ts=some ss→Jkm P n ts dss→Jol ss dss∧Jcy P ts dss=JgQ ss dss
 | [],ss,dss,h,ht=>by
  cases h;rw[show dss=[] from ht];exact⟨rfl,rfl⟩
 | t::ts,ss,dss,h,⟨ds,rest,e,h1,h2⟩=>by
  subst e;simp only[Jby] at h;split at h
  ·rename_i s l hs hl;cases h;obtain⟨h3,h4⟩:=JjL ts l rest hl h2;exact⟨⟨ds,rest,rfl,Jf7 n t s ds hs h1,h3⟩,by simp only[Jcy,JgQ,Jee hs,h4]⟩
  ·cases h
theorem liftSX {C:Checked} {os:Os} {H:Type} {enc:TypeId×Value→H} {L:Vl} {f:FuncId} {fn:Func} {s:ChangeSpec} {conds:List PathCond} {ts:List TypeId} {ss:List Ty} {tb:TypeId} {pars:List Sh} {n:Nat} {fl fresh handsOn again:Bool} {Φ:Fix C.prog} {X:World→Array Value→Prop} (hXh :∀(w w':World) (args:Array Value),w.heap=w'.heap→X w args→X w' args) (hXI :∀w args,X w args→Φ.I w) (hown:ownKnob C.prog.godebug=none) (started:os.Started) (hi:C.prog.inits.idxOf? f=none) (hf:C.prog.funcs[f]? = some fn)
  (wit : ∃ (w:World) (tape:Tape) (i:Input),w.os=os∧World.Shaped C.prog (w.forCall tape i)∧i.vars=[]∧Input.okWide C.prog (w.forCall tape i) Reach.any w.heap.size f i ∧
   ((s.pre enc C.prog fn conds false (w.forCall tape i).memory i.args∧X (w.forCall tape i).memory i.args)∧sizedMet enc C.prog fn (OpenSpec.ofChange s) false (w.forCall tape i).memory i.args)∧Assume.holds {} C.prog (lone (Frame.enter C.prog f i.args CallKind.normal) [] (w.forCall tape i)))
  (hpar:fn.params.toList=ts) (hres:fn.resultTypes = #[tb]) (hokT:ts.all (okT C.prog n)=true) (hsh:Jby C.prog n ts=some ss) (htb:C.prog.underlying tb=some .bool)
  (hlo:laidOutB C.prog=true) (hread:ts.all (fun t=>C.prog.readableRec t&&Nat.blt t C.prog.types.size)=true) (hvars:s.vars=[]) (hs :∀ds:List (DataW H),ds.length=ts.length→s.fn H ds={ results:=[.lit (.bool true)],args:=ds })
  (hm:C.prog.follows .mixedOrders=true) (hL:YD C.prog (ZS L) L Φ) (hsg:ZS L f=some (.d ⟨pars,.one (.one .b),fl⟩))
  (hEv :∀dss,Jol ss dss→∃ ls,Jj pars (JgQ ss dss)=some ls∧Ev L f ls [.v (.bool true)]) :
  ReturnsInHanded {} C os f .any (fun w args=>(s.pre enc C.prog fn conds false w args∧X w args)∧sizedMet enc C.prog fn (OpenSpec.ofChange s) false w args) (s.post enc C.prog fn false fresh handsOn again) :=
 JpX hXh hXI hown started hi hf wit hpar hres hokT htb hlo hread hvars hs hm hL hsg fun dss ht=>by
  obtain⟨h1,h2⟩:=JjL ts ss dss hsh ht;rw[h2];exact hEv dss h1
theorem Jcp {α:Type} {f:α→D} {p:α→Prop} :∀{es:List D},(∀x∈es,∃ y,p y∧x=f y)→∃ l:List α,es=l.map f∧∀y∈l,p y
 | [],_=>⟨[],rfl,fun y hy=>by simp at hy⟩
 | e::es,h=>by
  obtain⟨y,hy,rfl⟩:=h e (by simp);obtain⟨l,rfl,hl⟩:=Jcp (es:=es) (fun x hx=>h x (by simp[hx]));exact⟨y::l,rfl,fun z hz=>by
   rcases Jrs.1 hz with rfl | hz
   ·exact hy
   ·exact hl z hz⟩
end Go.Tm
end
section
namespace Go.Tm
open Go.IntKind (i64)
def Fix.tab (P:Program) (name:String) (k:IntKind) (zs:List Int):Fix P where
 S:=(P.globalNamed name).toList
 I w:=Lib.TabIs P w name k zs
 lt w h b hb:=by
  unfold Lib.TabIs World.var? at h;cases hg:P.globalNamed name with
  | none=>rw[hg] at hb;simp at hb
  | some g =>
   rw[hg] at hb h;simp only[Option.toList_some,Jrr] at hb;subst hb;simp only[Jrn] at h;split at h
   ·rename_i hc;exact(Jrl.1 hc).1
   ·cases h
 keep w w' h hs:=by
  unfold Lib.TabIs World.var? at h ⊢;cases hg:P.globalNamed name with
  | none=>rw[hg] at h;simp at h
  | some g =>
   rw[hg] at h hs;simp only[Jrn] at h ⊢;rw[hs g (by simp)];exact h
end Go.Tm
end
section
open Go.RowKit
namespace Go.Tm
open Go.IntKind (i64)
def Jbo:D→Option Int
 | .v (.int .i64 n)=>if -9223372036854775807≤n∧n≤9223372036854775807 then some n else none
 | _=>none
abbrev Jbm (l:List UInt8):ByteArray:=⟨l.toArray⟩
def Qz (l:List UInt8):D:= .v (.string ⟨l.toArray⟩)
def J6 (l:List Int):List UInt8:=l.flatMap fun n=>32::Lib.itoa n
def joinedF:List D→Option (List D)
 | [.s es]=>if es.length≤4096 then(es.mapM Jbo).map fun l=>[Qz (J6 l)] else none
 | _=>none
def digitsF:List D→Option (List D)
 | [d]=>(Jbo d).map fun n=>[Qz (Lib.itoa n)]
 | _=>none
theorem JeK {d:D} {n:Int} (h:Jbo d=some n):d = .v (.int .i64 n)∧-9223372036854775807≤n∧n≤9223372036854775807:=by
 unfold Jbo at h;split at h
 ·split at h
  ·rename_i hb;simp only[Jq8] at h;subst h;exact⟨rfl,hb⟩
  ·cases h
 ·cases h
theorem Jhf :∀{es:List D} {l:List Int},es.mapM Jbo=some l→es=l.map (fun n=>D.v (.int .i64 n))∧∀n∈l,-9223372036854775807≤n∧n≤9223372036854775807
 | [],l,h=>by simp at h;subst h;simp
 | e::es,l,h=>by
  simp only[List.mapM_cons,Option.bind_eq_bind,Option.bind_eq_some_iff,Option.pure_def,Jq8] at h;obtain⟨n,h1,l',h2,rfl⟩:=h;obtain⟨rfl,hb⟩:=JeK h1;obtain⟨rfl,hl⟩:=Jhf h2;exact⟨rfl,by simpa using ⟨hb,hl⟩⟩
theorem Ja3 :∀{l:List Int},(∀n∈l,-9223372036854775807≤n∧n≤9223372036854775807)→(l.map fun n=>D.v (.int .i64 n)).mapM Jbo=some l
 | [],_=>rfl
 | n::l,h=>by
  have h1:=h n (by simp);have:Jbo (.v (.int .i64 n))=some n:=by simp[Jbo,h1]
  simp[this,Ja3 (l:=l) fun m hm=>h m (by simp[hm])]
section
variable {P:Program} {Φ:Fix P} {f:FuncId}
theorem JeN {w:World} :∀(l:List Int) (b o:Nat) (fp:List Nat),Ky w (l.map fun n=>D.v (.int .i64 n)) 1 b o fp→∀i (h:i<l.length),w.cell? ⟨b,o+i,none⟩=some (.int .i64 l[i])
 | [],_,_,_,_,i,h=>by simp at h
 | n::l,b,o,fp,⟨val,f1,f2,_,⟨e,_,_⟩,_,hc,h2,_⟩,i,h=>by
  subst e;cases i with
  | zero=>have:=hc 0 (by omega);simpa[Value.cells] using this
  | succ i =>
   have:=JeN l b (o+1) f2 h2 i (by simpa using h);rw[show o+1+i=o+(i+1) by omega] at this;simpa using this
theorem JoB {w:World} {n:Int} {l:List D} {sz b o:Nat} {fp:List Nat} (h:Ky w (D.v (.int .i64 n)::l) sz b o fp):sz=1:=by
 obtain⟨val,f1,f2,_,⟨e,_,_⟩,hs,_⟩:=h;subst e;rw[←hs];rfl
theorem JlO (hen :∀args w,(callFunc f args).run P w = .ok (.enter f args) w)
  (hw :∀(A:Option Addr) (cap:Nat) (l:List Int) (w:World),Φ.I w→l.length≤4096→l.length≤cap→(∀n∈l,-9223372036854775807≤n∧n≤9223372036854775807) →
   (l=[]∨∃ b o,A=some ⟨b,o,none⟩∧b<w.heap.size∧∀i (h:i<l.length),w.cell? ⟨b,o+i,none⟩=some (.int .i64 l[i])) →
   Calls P f #[.slice A l.length cap] w fun e w'=>e = .returned (.string ⟨(J6 l).toArray⟩)∧Below w.heap.size w w') :
  FnOk P Φ f (dspec ⟨[.one .s],.one (.one .d),true⟩ joinedF):=by
 refine⟨hen,fun w ds vals fps r hI hr hF=>?_⟩;obtain⟨d,rfl⟩ : ∃ d,ds=[d]:=by
  unfold dspec at hF
  match ds,hF with
  | [],h=>simp[Jj] at h
  | [d],_=>exact⟨d,rfl⟩
  | _::_::_,h=>simp[Jj] at h
 obtain⟨v,vs,f1,f2,rfl,rfl,h1,rfl,rfl⟩:=hr;unfold dspec at hF;simp only[Jj,Jrb,Jrn] at hF;obtain⟨os,h2,h3⟩:=Option.bind_eq_some_iff.1 hF;unfold joinedF at h2;split at h2
 ·rename_i es e;simp only[List.cons.injEq,and_true] at e;subst e;split at h2
  ·rename_i hlen;obtain⟨l,hl,rfl⟩:=Option.map_eq_some_iff.1 h2;obtain⟨rfl,hb⟩:=Jhf hl;have h3:some (Qz (J6 l))=some r:=h3;cases h3;obtain⟨A,cap,rfl,hc,hd⟩:=h1;simp only[Jri] at hlen hc ⊢;refine(hw A cap l w hI hlen hc hb ?_).mono ?_
   ·rcases hd with ⟨e,_⟩ | ⟨b,o,sz,fp',rfl,hbl,_,he⟩
    ·exact .inl (by simpa using e)
    ·cases l with
     | nil=>exact .inl rfl
     | cons n l =>
      have hsz:=JoB he;subst hsz;exact .inr ⟨b,o,rfl,hbl,JeN (n::l) b o fp' he⟩
   ·rintro e w' ⟨rfl,hbw⟩;exact⟨_,[],rfl,⟨rfl,rfl,rfl⟩,fun b hb=>by simp at hb,hbw⟩
  ·cases h2
 ·cases h2
theorem JkC (hen :∀args w,(callFunc f args).run P w = .ok (.enter f args) w)
  (hw :∀(n:Int) (w:World),-9223372036854775807≤n→n≤9223372036854775807 →
   Calls P f #[.int .i64 n] w fun e w'=>e = .returned (.string ⟨(Lib.itoa n).toArray⟩)∧Below w.heap.size w w') :
  FnOk P Φ f (dspec ⟨[.one (.i .i64)],.one (.one .d),true⟩ digitsF):=by
 refine⟨hen,fun w ds vals fps r hI hr hF=>?_⟩;obtain⟨d,rfl⟩ : ∃ d,ds=[d]:=by
  unfold dspec at hF
  match ds,hF with
  | [],h=>simp[Jj] at h
  | [d],_=>exact⟨d,rfl⟩
  | _::_::_,h=>simp[Jj] at h
 obtain⟨v,vs,f1,f2,rfl,rfl,h1,rfl,rfl⟩:=hr;unfold dspec at hF;simp only[Jj,Jrb,Jrn] at hF;obtain⟨os,h2,h3⟩:=Option.bind_eq_some_iff.1 hF;unfold digitsF at h2;split at h2
 ·rename_i d' e;simp only[List.cons.injEq,and_true] at e;subst e;obtain⟨n,hn,rfl⟩:=Option.map_eq_some_iff.1 h2;obtain⟨rfl,hb⟩:=JeK hn;have h3:some (Qz (Lib.itoa n))=some r:=h3;cases h3;obtain⟨rfl,_,_⟩:=h1;refine(hw n w hb.1 hb.2).mono ?_;rintro e w' ⟨rfl,hbw⟩;exact⟨_,[],rfl,⟨rfl,rfl,rfl⟩,fun b hb=>by simp at hb,hbw⟩
 ·rename_i e;exact absurd rfl (e d)
end
end Go.Tm
end
section
open Go.ChangeShapes Go.WideShapes Go.ChangeAt Go.RowKit
namespace Go.Tm
open Go.IntKind (i64)
theorem JlJ {P:Program} {W:World} {name:String} {k:IntKind} {zs:List Int} {x y z:String×DataW Unit} {g:Nat} {t e:TypeId} {n:Nat} (hp:([x,y,z].all fun x=>x.2.handleName?.isNone)=true) (hz:z=(name,Lib.tabData k zs))
  (hg:P.globalNamed name=some g) (hty:(P.globals[g]?).map (·.type)=some t) (ht:P.underlying t=some (.array n e)) (he:P.underlying e=some (.int k)) (hce:P.cellsOf e=1) (hct:P.cellsOf t=n)
  (h:laidMetH P [x,y,z] W):Lib.TabIs P W name k zs:=by
 rw[MakeChecks.laidMetH_plain _ _ _ hp] at h;subst hz;exact Lib.tabIs_of_head hg hty ht he hce hct (laidMet.tail (laidMet.tail h))
end Go.Tm
end
section
namespace Go.Tm
open Go.IntKind (i64)
theorem UT (l:List Int) (x:Int):dL l++[dI x]=dL (l++[x]):=by simp[dL]
theorem Uk (l:List Int) (k:Nat) (x:Int):(dL l).set k (dI x)=dL (l.set k x):=by simp[dL,List.map_set]
def Lim (m:Int) (l:List Int):Prop:=∀x∈l,-m≤x∧x≤m
theorem Lim.set {m:Int} {l:List Int} (h:Lim m l) {x:Int} (hx : -m≤x∧x≤m) (k:Nat):Lim m (l.set k x):=by
 intro y hy;rcases Jry hy with hy | hy
 ·exact h y hy
 ·subst hy;exact hx
theorem Lim.take {m:Int} {l:List Int} (h:Lim m l) (n:Nat):Lim m (l.take n):=fun y hy=>h y (Jrx hy)
theorem Lim.mono {m m':Int} {l:List Int} (h:Lim m l) (hm:m≤m'):Lim m' l:=fun y hy=>⟨by have:=(h y hy).1;omega,by have:=(h y hy).2;omega⟩
structure Frm where
 c:List Int
 d:List Int
 k:Int
 deriving DecidableEq
def Frm.zero:Frm:=⟨[0,0,0],[0,0],0⟩
def Frm.none:Frm:=⟨[],[],0⟩
def Frm.cells (f:Frm):List D:=[.s (dL f.c),.s (dL f.d),dI f.k]
def Frm.g (f:Frm):D:= .g f.cells
def dF (l:List Frm):List D:=l.map Frm.g
structure Jd where
 kind:Int
 pot:Int
 skip:Int
 f:Frm
 deriving DecidableEq
def Jd.cells (l:Jd):List D:=[dI l.kind,dI l.pot,dI l.skip,.s (dL l.f.c),.s (dL l.f.d),dI l.f.k]
def Jd.g (l:Jd):D:= .g l.cells
def Jn (l:List Jd):List D:=l.map Jd.g
def Jf (l:List (List Jd)):List D:=l.map fun a=> .s (Jn a)
structure Row where
 guards:List Frm
 adds:List Frm
 tells:List Frm
 stop:Bool
 deriving DecidableEq
def Row.cells (r:Row):List D:=[.s (dF r.guards),.s (dF r.adds),.s (dF r.tells),dB r.stop]
def Row.g (r:Row):D:= .g r.cells
def JY (l:List Row):List D:=l.map Row.g
def inB (n a b:Int):Bool:=decide (a≤n)&&decide (n≤b)
def JE (n:Int) (most:Int) (l:List Int):Bool:=decide ((l.length:Int)=n)&&l.all fun x=>inB x (0-most) most
def Frm.ok (f:Frm):Bool:=JE 3 10000000 f.c&&JE 2 10000000 f.d&&inB f.k (-10000000) 10000000
def Frm.small (f:Frm):Bool:=JE 3 2 f.c&&JE 2 2 f.d&&inB f.k (-20) 20
def Jd.ok (l:Jd):Bool :=
 if l.kind=1 then decide (l.pot=0)&&inB l.skip 1 6&&l.f.small
 else if l.kind=2 then inB l.pot 0 2&&decide (l.skip=0)&&l.f.small
 else if l.kind=3 then decide (l.pot=0)&&decide (l.skip=0)&&l.f.small
 else decide (l.kind=4)&&decide (l.pot=0)&&decide (l.skip=0)&&decide (((l.f.c.length:Int)+l.f.d.length)=0)&&decide (l.f.k=0)
def XF (a:List Jd):Nat:=a.countP fun l=>decide (l.kind=1)
def QI (a:List Jd):Bool:=a.all Jd.ok&&decide ((a.length:Int)≤6)&&decide ((XF a:Int)≤3)
def QA (as:List (List Jd)):Bool:=inB as.length 1 4&&as.all QI
theorem JL (l:List Frm):(dF l).length=l.length:=by simp[dF]
theorem Qt (l:List Jd):(Jn l).length=l.length:=by simp[Jn]
theorem QC (l:List (List Jd)):(Jf l).length=l.length:=by simp[Jf]
theorem Xv (l:List Row):(JY l).length=l.length:=by simp[JY]
theorem JjA {α:Type} {f:α→D} {l:List α} {k:Int} (h0:0≤k) (h1:k<l.length) : ∃ x,l[k.toNat]? = some x∧(l.map f)[k.toNat]? = some (f x):=by
 have:k.toNat<l.length:=by omega
 exact⟨l[k.toNat],by simp[this],by simp[this]⟩
theorem JH {n a b:Int}:inB n a b=true↔a≤n∧n≤b:=by simp[inB]
theorem Jy {n m:Int} {l:List Int}:JE n m l=true↔(l.length:Int)=n∧∀x∈l,-m≤x∧x≤m:=by
 simp only[JE,Jq9,decide_eq_true_eq,Jrm,JH,Int.zero_sub]
theorem tS1 {α:Type} {l:List α} {k:Nat} {x:α} (h:l[k]? = some x):l.take (k+1)=l.take k++[x]:=by
 rw[List.take_add_one,h];rfl
theorem Qr {α:Type} {p:α→Bool} {l:List α} {k:Nat} {x:α} (h:l[k]? = some x) (ha:(l.take k).all p=true) (hx:p x=true):(l.take (k+1)).all p=true:=by
 rw[tS1 h,List.all_append,ha];simp[hx]
theorem XK {α:Type} {p:α→Bool} {l:List α} {k:Nat} {x:α} (h:l[k]? = some x) (hx:p x=false):l.all p=false:=by
 apply Bool.eq_false_iff.2;intro ha;rw[Jrm] at ha;rw[ha x (Jrg h)] at hx;cases hx
end Go.Tm
end
section
namespace Go.Tm
open Go.IntKind (i64)
theorem ZM {n y A B:Int} (hn : -A≤n∧n≤A) (hy : -B≤y∧y≤B) : -(A*B)≤n*y∧n*y≤A*B:=by
 have h1:n.natAbs≤A.toNat:=by omega
 have h2:y.natAbs≤B.toNat:=by omega
 have h3:=Nat.mul_le_mul h1 h2;rw[←Int.natAbs_mul] at h3;have e:((A.toNat*B.toNat:Nat):Int)=A*B:=by
  rw[Int.natCast_mul,Int.toNat_of_nonneg (by omega),Int.toNat_of_nonneg (by omega)]
 omega
def JM (a b:List Int) (n:Int):List Int:=List.zipWith (fun x y=>x+n*y) a b
def JJ (a b:Frm) (n:Int):Frm:=⟨JM a.c b.c n,JM a.d b.d n,a.k+n*b.k⟩
def Ju (v:Nat):Frm:=⟨[0,0,0].set v 1,[0,0],0⟩
def Qs (f:Frm):Frm:=let x:=JJ Frm.zero f (-1); ⟨x.c,x.d,x.k-1⟩
def Jo (f:Frm) (pots:List Frm):Frm:=(List.zip pots f.c).foldl (fun x q=>JJ x q.1 q.2) ⟨[0,0,0],f.d,f.k⟩
structure Std (M:Int) (f:Frm):Prop where
 c:f.c.length=3
 d:f.d.length=2
 lc:Lim M f.c
 ld:Lim M f.d
 k : -M≤f.k∧f.k≤M
theorem Std.mono {M M':Int} {f:Frm} (h:Std M f) (hm:M≤M'):Std M' f:=⟨h.c,h.d,h.lc.mono hm,h.ld.mono hm,by have:=h.k;omega⟩
theorem Std.fit {M:Int} {f:Frm} (h:Std M f):f.c.length≤2000000∧f.d.length≤2000000:=by have:=h.c;have:=h.d;omega
theorem UI (a b:List Int) (n:Int):(JM a b n).length=min a.length b.length:=by simp[JM]
theorem Jib {a b:List Int} {n:Int} {i:Nat} (h1:i<a.length) (h2:i<b.length):(JM a b n)[i]? = some (a.getD i 0+n*b.getD i 0):=by
 unfold JM;rw[List.getElem?_zipWith,Jrk h1,Jrk h2];simp[Jrc,h1,h2]
theorem Jdl {a b:List Int} {n A B N:Int} (ha:Lim A a) (hb:Lim B b) (hn : -N≤n∧n≤N):Lim (A+N*B) (JM a b n):=by
 intro x hx;simp only[JM,List.mem_iff_getElem?,List.getElem?_zipWith] at hx;obtain⟨i,hi⟩:=hx;cases h1:a[i]? with
 | none=>simp[h1] at hi
 | some p =>
  cases h2:b[i]? with
  | none=>simp[h1,h2] at hi
  | some q =>
   simp only[h1,h2,Jq8] at hi;subst hi;have hp:=ha p (Jrg h1);have hq:=hb q (Jrg h2);have:=ZM hn hq;omega
theorem Qv {a b:Frm} {n A B N:Int} (ha:Std A a) (hb:Std B b) (hn : -N≤n∧n≤N):Std (A+N*B) (JJ a b n):=by
 refine⟨by simp[JJ,UI,ha.c,hb.c],by simp[JJ,UI,ha.d,hb.d],Jdl ha.lc hb.lc hn,Jdl ha.ld hb.ld hn,?_⟩;have h1:=ZM hn hb.k;have h2:=ha.k;show -(A+N*B)≤a.k+n*b.k∧a.k+n*b.k≤A+N*B;omega
theorem Xg:Std 0 Frm.zero:=⟨rfl,rfl,by intro x hx;simp[Frm.zero] at hx;omega,by intro x hx;simp[Frm.zero] at hx;omega,by simp[Frm.zero]⟩
theorem Qw {v:Nat}:Std 1 (Ju v):=by
 refine⟨by simp[Ju],rfl,?_,by intro x hx;simp[Ju] at hx;omega,by simp[Ju]⟩;show Lim 1 ([0,0,0].set v 1);exact Lim.set (by intro x hx;simp at hx;omega) (by omega) v
theorem Jai {l:List Int} (h:l.length=3) : ∃ a b c,l=[a,b,c]:=by
 match l,h with
 | [a,b,c],_=>exact⟨a,b,c,rfl⟩
theorem Jh5 {l:List Int} (h:l.length=2) : ∃ a b,l=[a,b]:=by
 match l,h with
 | [a,b],_=>exact⟨a,b,rfl⟩
theorem Jd8 {M:Int} {f:Frm} (h:Std M f):JJ Frm.zero f 1=f:=by
 obtain⟨c,d,k⟩:=f;obtain⟨a,b,e,rfl⟩:=Jai h.c;obtain⟨p,q,rfl⟩:=Jh5 h.d;simp[JJ,JM,Frm.zero]
theorem VP {M:Int} {f:Frm} (h:Std M f):Std (M+1) (Qs f):=by
 have:=Qv Xg h (n:=-1) (N:=1) (by omega);have h1:=this.k;exact⟨this.c,this.d,this.lc.mono (by omega),this.ld.mono (by omega),by
  show -(M+1)≤(JJ Frm.zero f (-1)).k-1∧(JJ Frm.zero f (-1)).k-1≤M+1;omega⟩
theorem Std.okF {M:Int} {f:Frm} (h:Std M f) (hm:M≤10000000):f.ok=true:=by
 have hk:=h.k;simp only[Frm.ok,Jq9,Jy,JH];exact⟨⟨⟨by rw[h.c];rfl,h.lc.mono hm⟩,⟨by rw[h.d];rfl,h.ld.mono hm⟩⟩,by omega⟩
theorem Xt {f:Frm} (h:f.small=true):f.c.length=3∧f.d.length=2∧Lim 2 f.c∧Lim 2 f.d∧-20≤f.k∧f.k≤20:=by
 simp only[Frm.small,Jq9,Jy,JH] at h;obtain⟨⟨⟨h1,h2⟩,⟨h3,h4⟩⟩,h5,h6⟩:=h;exact⟨by omega,by omega,h2,h4,by omega,by omega⟩
theorem Jei {f:Frm} (h:f.small=true):Std 20 f:=by
 obtain⟨h1,h2,h3,h4,h5⟩:=Xt h;exact⟨h1,h2,h3.mono (by omega),h4.mono (by omega),h5⟩
theorem JcV {f:Frm} {pots:List Frm} {M:Int} (hf:f.small=true) (hp :∀p∈pots,Std M p) (h0:0≤M) (i:Nat) (hi:i≤3) :
  Std (20+2*M*i) ((List.zip (pots.take i) (f.c.take i)).foldl (fun x q=>JJ x q.1 q.2) ⟨[0,0,0],f.d,f.k⟩)∨pots.length<3:=by
 obtain⟨h1,h2,h3,h4,h5⟩:=Xt hf
 by_cases hl:pots.length<3
 ·exact .inr hl
 left
 induction i with
 | zero=>exact⟨rfl,h2,by intro x hx;simp at hx;omega,h4.mono (by omega),by simpa using h5⟩
 | succ i ih =>
  have ih:=ih (by omega);have e1:pots[i]? = some pots[i]:=Jrk (by omega);have e2:f.c[i]? = some f.c[i]:=Jrk (by omega);rw[tS1 e1,tS1 e2,List.zip_append (by simp;omega),List.foldl_append];have:=Qv ih (hp _ (List.getElem_mem (show i<pots.length by omega))) (h3 _ (List.getElem_mem (show i<f.c.length by omega)));refine Std.mono this ?_
  push_cast
  rw[Int.mul_add];omega
theorem UO {f:Frm} {pots:List Frm} {M:Int} (hf:f.small=true) (hl:pots.length=3) (hp :∀p∈pots,Std M p) (h0:0≤M):Std (20+6*M) (Jo f pots):=by
 obtain⟨h1,_⟩:=Xt hf;rcases JcV hf hp h0 3 (by omega) with h | h
 ·rw[Jrd (by omega),Jrd (by omega)] at h;exact h.mono (by omega)
 ·omega
def Yy (p g t:List Frm):Row:=⟨g,[JJ (p.getD 0 Frm.none) (Ju 0) (-1),JJ (p.getD 1 Frm.none) (Ju 1) (-1),JJ (p.getD 2 Frm.none) (Ju 2) (-1)],t,false⟩
def walk (a:List Jd) (p g t:List Frm):List Row:=match a with
 | []=>[Yy p g t]
 | l::rest =>
  if l.kind=4 then [⟨g,[],[],true⟩]
  else if l.kind=1 then walk rest p (g++[Jo l.f p]) t++walk (rest.drop l.skip.toNat) p (g++[Qs (Jo l.f p)]) t
  else if l.kind=2 then walk rest (p.set l.pot.toNat (JJ (p.getD l.pot.toNat Frm.none) (Jo l.f p) 1)) g t
  else walk rest p g (t++[Jo l.f p])
termination_by a.length
decreasing_by all_goals (simp only[List.length_cons,List.length_drop];omega)
def Jw (a:List Jd):List Row:=if QI a then walk a [Ju 0,Ju 1,Ju 2] [] [] else []
theorem JgC (a:List Jd) (p g t:List Frm):(walk a p g t).length≤2 ^ a.length:=by
 generalize hn:a.length=n
 induction n using Nat.strongRecOn generalizing a p g t with
 | _ n ih =>
  cases a with
  | nil=>rw[walk];subst hn;simp
  | cons l rest =>
   simp only[List.length_cons] at hn;subst hn;have h1:1≤2 ^ rest.length:=Nat.one_le_two_pow;have h2:2 ^ (rest.length+1)=2 ^ rest.length+2 ^ rest.length:=by rw[Nat.pow_succ];omega
   rw[walk];split
   ·simp;omega
   split
   ·rw[Jrf,h2];have e1:=ih rest.length (by omega) rest p (g++[Jo l.f p]) t rfl;have e2:=ih (rest.drop l.skip.toNat).length (by simp;omega) (rest.drop l.skip.toNat) p (g++[Qs (Jo l.f p)]) t rfl;have e3:2 ^ (rest.drop l.skip.toNat).length≤2 ^ rest.length:=Nat.pow_le_pow_right (by omega) (by simp);omega
   split
   ·have:=ih rest.length (by omega) rest (p.set l.pot.toNat (JJ (p.getD l.pot.toNat Frm.none) (Jo l.f p) 1)) g t rfl;omega
   ·have:=ih rest.length (by omega) rest p g (t++[Jo l.f p]) rfl;omega
def Bd:Nat→Int
 | 0=>1
 | n+1=>7*Bd n+20
theorem Yo :∀n,0≤Bd n
 | 0=>by simp[Bd]
 | n+1=>by have:=Yo n;simp only[Bd];omega
theorem Jgt {n:Nat} (h:n≤6):Bd n≤509809:=by
 match n,h with
 | 0,_ | 1,_ | 2,_ | 3,_ | 4,_ | 5,_ | 6,_=>decide
theorem ZO {n m:Nat} (h:n≤m):Bd n≤Bd m:=by
 induction h with
 | refl=>exact Int.le_refl _
 | @step m h ih=>have:=Yo m;simp only[Bd];omega
theorem QO (l:List Frm) (f:Frm):dF l++[f.g]=dF (l++[f]):=by simp[dF]
theorem JkH (l:List Row):XP 4 (JY l)=true:=by cases l <;> rfl
theorem Jau {l:List Frm} {i:Int} (h0:0≤i) (h1:i<l.length) : ∃ x,l[i.toNat]? = some x∧(dF l)[i.toNat]? = some x.g:=JjA h0 h1
theorem fill {S Z:List Int} {i:Nat} {s:Int} (hl:S.length=Z.length) (hs:S[i]? = some s):(S.take i++Z.drop i).set i s=S.take (i+1)++Z.drop (i+1):=by
 have hi:i<S.length:=(Jra.1 hs).1;have h1:(S.take i).length=i:=by simp;omega
 rw[tS1 hs,List.set_append_right _ _ (by omega),List.append_assoc,h1,Nat.sub_self,List.drop_eq_getElem_cons (by omega:i<Z.length)];rfl
end Go.Tm
end
section
namespace Go.Tm
open Go.IntKind (i64)
section
variable {L:Vl} {r x y body:R} {l vs:List V} {Q Q':Oc→Prop} {c:Nat}
abbrev NxtP (f:Nat→List V) (P:Nat→Prop) (n i:Nat) (Q:Oc→Prop):Oc→Prop
 | .next vs=>i<n∧vs=f (i+1)∧P (i+1)
 | .esc o=>Q o
 | .done _=>False
theorem JqH {init:List E} (n:Nat) (f:Nat→List V) (P:Nat→Prop) (hc:c=l.length) (h0:init.map (den (Jp l))=f 0) (hP:P 0)
  (hs :∀i,i≤n→P i→WR L body (l++f i) (NxtP f P n i Q)):WR L (.loop c init body) l Q:=by
 refine JqU (fun m vs=>∃ i,i≤n∧m=n-i∧vs=f i∧P i) hc n ⟨0,by omega,by omega,h0,hP⟩ ?_;rintro m _ ⟨i,hi,hm,rfl,hp⟩;refine(hs i hi hp).mono ?_;intro o h;cases o with
 | next vs=>exact⟨n-(i+1),by have:=h.1;omega,i+1,h.1,rfl,h.2⟩
 | esc o=>exact h
 | done ds=>exact h
abbrev NxtS (S:Nat→List V→Prop) (n i:Nat) (Q:Oc→Prop):Oc→Prop
 | .next vs=>i<n∧S (i+1) vs
 | .esc o=>Q o
 | .done _=>False
theorem JqS {init:List E} (n:Nat) (S:Nat→List V→Prop) (hc:c=l.length) (h0:S 0 (init.map (den (Jp l))))
  (hs :∀i vs,i≤n→S i vs→WR L body (l++vs) (NxtS S n i Q)):WR L (.loop c init body) l Q:=by
 refine JqU (fun m vs=>∃ i,i≤n∧m=n-i∧S i vs) hc n ⟨0,by omega,by omega,h0⟩ ?_;rintro m vs ⟨i,hi,hm,hp⟩;refine(hs i vs hi hp).mono ?_;intro o h;cases o with
 | next vs=>exact⟨n-(i+1),by have:=h.1;omega,i+1,h.1,rfl,h.2⟩
 | esc o=>exact h
 | done ds=>exact h
theorem Jqv {b:E} {ds:List D} {m:Nat} (i:Nat) (he:ds.length=m) (hb:bol (Jp l) b=decide ((i:Int)<(ds.length:Int))) (hx:i<m→WR L x l Q) (hy : ¬i<m→WR L y l Q):WR L (.ite b x y) l Q :=
 JqL ((i:Int)<(ds.length:Int)) hb (fun h=>hx (by omega)) (fun h=>hy (by omega))
theorem JqW {b:E} (i m:Nat) (hb:bol (Jp l) b=decide ((i:Int)<(m:Int))) (hx:i<m→WR L x l Q) (hy : ¬i<m→WR L y l Q):WR L (.ite b x y) l Q :=
 JqL ((i:Int)<(m:Int)) hb (fun h=>hx (by omega)) (fun h=>hy (by omega))
theorem JqA {b:E} (t:Bool) (hb:bol (Jp l) b = !t) (hx:t=false→WR L x l Q) (hy:t=true→WR L y l Q):WR L (.ite b x y) l Q :=
 JqY (fun h=>hx (by rw[hb] at h;simpa using h)) (fun h=>hy (by rw[hb] at h;simpa using h))
theorem JqJ {n:Nat} {e i:E} {sh:Sh} {ds:List D} {d:D} (k:Nat) (hd:ds[k]? = some d) (hn:n=l.length) (he:lst (Jp l) e=ds) (hi:int (Jp l) i=k) (hb:YW sh d=some vs) (h:WR L r (l++vs) Q) :
 WR L (.i (.idx e i sh n) r) l Q:=JqO (ds:=ds) (k:Int) hn he hi (by omega) (by rw[Int.toNat_natCast];exact hd) hb h
theorem JqE {b:E} (i:Nat) (hb:bol (Jp l) b=decide ((0:Int)≤(i:Int))) (h:WR L r l Q):WR L (.i (.chk b) r) l Q:=JqF ((0:Int)≤(i:Int)) hb (by omega) h
theorem Jq0 {b:E} {ds:List D} (i:Nat) (hb:bol (Jp l) b=decide ((i:Int)<(ds.length:Int))) (hi:i<ds.length) (h:WR L r l Q):WR L (.i (.chk b) r) l Q:=JqF ((i:Int)<(ds.length:Int)) hb (by omega) h
theorem JqB {n:Nat} {b1 b2 e i:E} {sh:Sh} {ds:List D} {d:D} (k:Nat) (hd:ds[k]? = some d) (hb1:bol (Jp l) b1=decide ((0:Int)≤(k:Int))) (hb2:bol (Jp l) b2=decide ((k:Int)<(ds.length:Int)))
  (hn:n=l.length) (he:lst (Jp l) e=ds) (hi:int (Jp l) i=k) (hb:YW sh d=some vs) (h:WR L r (l++vs) Q) :
  WR L (.i (.chk b1) (.i (.chk b2) (.i (.idx e i sh n) r))) l Q :=
 JqE k hb1 (Jq0 k hb2 (Jra.1 hd).1 (JqJ k hd hn he hi hb h))
theorem JqC {n:Nat} {f:FuncId} {as:List E} {rs:List Sh1} {args ds:List D} (hc:Ev L f args ds) (hn:n=l.length) (ha:as.map (dat (Jp l))=args) (hb:ZN rs ds=some vs) (h:WR L r (l++vs) Q) :
 WR L (.i (.call f as rs n) r) l Q:=Jqy hn (by rw[ha];exact hc) hb h
theorem JqQ {e:E} {N:Int} (ds:List D) (m:Nat) (hl:ds.length≤m) (hN:(m:Int)≤N) (he:lst (Jp l) e=ds) (hr:WR L r l Q):WR L (.i (.chk (.cmp .le (.len e) (.z N))) r) l Q :=
 Jq1 ds he (by omega) hr
theorem JqR {a y:E} {N:Int} (ds:List D) (m:Nat) (hl:ds.length≤m) (hN:(m:Int)+1≤N) (he:lst (Jp l) a=ds) (hr:WR L r l Q):WR L (.i (.chk (.cmp .le (.len (.app a (.cons y .nil))) (.z N))) r) l Q:=by
 refine JqV ?_ hr;show decide (((lst (Jp l) (.app a (.cons y .nil))).length:Int)≤N)=true;have:lst (Jp l) (.app a (.cons y .nil))=lst (Jp l) a++[dat (Jp l) y]:=rfl;rw[this,he,Jrf,List.length_singleton];simp only[decide_eq_true_eq];omega
def JmU (sh:Sh) (as:List E) (ar:List (Option Nat)) (k:Nat):R :=
 .loop 2 [(.z 0)] <|
  .ite (.cmp .lt (.v 2) (.len (.v 0)))
   (
    .i (.idx (.v 0) (.v 2) sh 3) <|
    .i (.callv (.da 1) as ar [.b] k) <|
    .ite (.v k)
     (
      .esc <|
      .done [(.vi .i64 (.v 2))])
     (
      .next [(.bin .add .i64 (.v 2) (.z 1))]))
   (
    .esc <|
    .done [(.vi .i64 (.z (-1)))])
theorem wS {i n:Nat} (h:i<n) (hn:n≤1000000000):i64.wrap ((i:Int)+1)=((i+1:Nat):Int):=by rw[w64 (by omega) (by omega)];rfl
theorem wS' {i:Nat} (hn:i≤1000000000):i64.wrap ((i:Int)+1)=((i+1:Nat):Int):=by rw[w64 (by omega) (by omega)];rfl
theorem sA1 {α:Type} {l:List α} {i:Nat} (h:i<l.length) : ∃ x,l[i]? = some x∧x∈l:=⟨l[i],by simp[h],List.getElem_mem h⟩
theorem mA1 {α:Type} {f:α→D} {l:List α} {i:Nat} {x:α} (h:l[i]? = some x):(l.map f)[i]? = some (f x):=by simp[h]
def YY {α:Type} (p:α→Bool) (l:List α):Int:=match l.findIdx? p with
 | some i=>i
 | none=>-1
theorem Jdb {α:Type} {p:α→Bool} {l:List α} {i:Nat} {x:α} (h:l[i]? = some x) (hx:p x=true) (hn:(l.take i).any p=false):YY p l=i:=by
 have hi:=(Jra.1 h).1;have:l.findIdx? p=some i:=by
  rw[List.findIdx?_eq_some_iff_getElem];refine⟨hi,?_,fun j hj=>?_⟩
  ·rw[Jrk hi] at h;cases h;exact hx
  ·have hm:l[j]∈l.take i:=by
    rw[List.mem_iff_getElem?];exact⟨j,by rw[Jrz hj,Jrk]⟩
   simp only[List.any_eq_false] at hn;exact hn _ hm
 simp only[YY,this]
theorem JbW {α:Type} {p:α→Bool} {l:List α} (hn:l.any p=false):YY p l = -1:=by
 have:l.findIdx? p=none:=by
  rw[List.findIdx?_eq_none_iff];intro x hx;simp only[List.any_eq_false] at hn;exact Bool.eq_false_iff.2 (hn x hx)
 simp only[YY,this]
theorem WS {α:Type} (p:α→Bool) (l:List α):decide (0≤YY p l)=l.any p:=by
 unfold YY;cases h:l.findIdx? p with
 | some i =>
  simp only[List.findIdx?_eq_some_iff_getElem] at h;obtain⟨h1,h2,_⟩:=h;have:l.any p=true:=List.any_eq_true.2 ⟨_,List.getElem_mem h1,h2⟩;rw[this];simp
 | none =>
  rw[List.findIdx?_eq_none_iff] at h;have:l.any p=false:=by
   rw[List.any_eq_false];intro x hx;rw[h x hx];simp
  rw[this];rfl
theorem Jcn {α:Type} {p:α→Bool} {l:List α} {k:Nat} {x:α} (h:l[k]? = some x) (ha:(l.take k).any p=false) (hx:p x=false):(l.take (k+1)).any p=false:=by
 rw[tS1 h,List.any_append,ha];simp[hx]
theorem Yl {α:Type} {f:FuncId} {H:XQ} {sh:Sh} {as:List E} {ar:List (Option Nat)} {k:Nat} {fn:FuncId} {caps:List D} {s:Sig} (enc:α→D) (p:α→Bool) (args:α→List D) (vsOf:α→List V) (l:List α)
  (hf:L.lookup f=some ⟨s,.r H (JmU sh as ar k)⟩) (hs:Zn s=[.s,.d]) (hlen:l.length≤2000000)
  (hcap:QZ (.f fn caps) = .f fn caps)
  (hb :∀x∈l,YW sh (enc x)=some (vsOf x)) (hk :∀x∈l,3+(vsOf x).length=k)
  (ha :∀(x:α) (v0 v1 v2:V),as.map (dat (Jp ([v0,v1,v2]++vsOf x)))=args x) (har:arT L fn=some (ar++caps.map fun _=>none))
  (hc :∀x∈l,Ev L fn (args x++caps.map D.norm) [dB (p x)]) :
  Ev L f [.s (l.map enc),.f fn caps] [dI (YY p l)]:=by
 refine Jq7 (vs:=[.l (l.map enc),.d (.f fn caps)]) hf (by rw[hs];rfl) ?_;refine JqH l.length (fun i=>[.i i]) (fun i=>(l.take i).any p=false) rfl rfl (by simp) fun i hi hn=>?_;refine Jqv i (Jri (f:=enc) (as:=l)) rfl (fun h=>?_) (fun h=>?_)
 ·obtain⟨x,hx,hm⟩:=sA1 h;refine JqJ i (mA1 (f:=enc) hx) rfl rfl rfl (hb x hm) ?_;have hk':=hk x hm;refine JqT (fn:=fn) (caps:=caps) (ds:=[dB (p x)]) (vs:=[.b (p x)]) (by simp;omega) ?_ har ?_ rfl ?_
  ·exact hcap
  ·show Ev L fn (as.map (dat (Jp ([V.l (l.map enc),.d (.f fn caps),.i i]++vsOf x)))++caps.map D.norm) [dB (p x)];rw[ha];exact hc x hm
  have e1 :∀(b:V) ,Jp ([V.l (l.map enc),.d (.f fn caps),.i i]++vsOf x++[b]) k=b:=by
   intro b;unfold Jp;rw[Jrc,JrB (by simp;omega)];rw[show k-([V.l (l.map enc),.d (.f fn caps),.i i]++vsOf x).length=0 by simp;omega];rfl
  have e2 :∀(b:V) ,Jp ([V.l (l.map enc),.d (.f fn caps),.i i]++vsOf x++[b]) 2 = .i i:=by intro b;rfl
  refine JqZ (p x) (by show (den (Jp ([V.l (l.map enc),.d (.f fn caps),.i i]++vsOf x++[V.b (p x)])) (.v k)).bool=p x;simp only[den,e1];rfl) (fun hp=>?_) (fun hp=>?_)
  ·refine JqG (Jqz (ds:=[dI i]) rfl ?_);rw[Jdb hx hp hn]
  ·refine JqI (vs:=[.i ((i+1:Nat):Int)]) ?_ ⟨h,rfl,Jcn hx hn hp⟩;show [V.i (i64.wrap ((i:Int)+1))]=_;rw[wS h (by omega)]
 ·refine JqG (Jqz (ds:=[dI (-1)]) rfl ?_);rw[Jrd (by omega)] at hn;rw[JbW hn]
def Jls (f:FuncId):R :=
 .i (.call f [(.s (.v 0)),(.da 1)] [.i .i64] 2) <|
 .done [(.vb (.cmp .le (.z 0) (.v 2)))]
theorem YJ {α:Type} {f g:FuncId} {H:XQ} {s:Sig} {enc:α→D} {p:α→Bool} {l:List α} {fn:FuncId} {caps:List D} (hf:L.lookup f=some ⟨s,.r H (Jls g)⟩) (hs:Zn s=[.s,.d])
  (hcap:QZ (.f fn caps) = .f fn caps) (h:Ev L g [.s (l.map enc),.f fn caps] [dI (YY p l)]):Ev L f [.s (l.map enc),.f fn caps] [dB (l.any p)]:=by
 refine Jq7 (vs:=[.l (l.map enc),.d (.f fn caps)]) hf (by rw[hs];rfl) ?_;refine JqC h rfl ?_ rfl ?_
 ·show [D.s (l.map enc),QZ (.f fn caps)]=_;rw[hcap]
 ·refine JqK ?_;show [dB (decide (0≤YY p l))]=_;rw[WS]
def Jpf (c sz:Nat) (N:Int):R :=
 .nilq c (.v 0)
  (
   .done [(.s .nil)])
  (
   .i (.chk (.cmp .le (.len (.v 0)) (.z N))) <|
   .i (.head sz (.v 0)) <|
   .i (.chk (.cmp .le (.len (.app .nil (.v 0))) (.z N))) <|
   .done [(.s (.app .nil (.v 0)))])
theorem Jns {f:FuncId} {H:XQ} {s:Sig} {c sz:Nat} {N:Int} {ds:List D} (hf:L.lookup f=some ⟨s,.r H (Jpf c sz N)⟩) (hs:Zn s=[.s]) (hh:XP sz ds=true) (hl:ds.length≤2000000) (hN:2000000≤N) :
  Ev L f [.s ds] [.s ds]:=by
 refine Jq7 (vs:=[.l ds]) hf (by rw[hs];rfl) ?_;refine Jqu (.done [.s ds]) (fun h=>?_) ?_ rfl
 ·refine JqK ?_;have h:ds=[]:=h;subst h;rfl
 ·refine JqQ ds 2000000 hl hN rfl ?_;refine Jqx hh ?_;refine JqQ ds 2000000 hl hN rfl ?_;exact JqK rfl
end
theorem Q6 {α β:Type} {f:α→β} {l:List α} {k:Nat} {x:α} (h:l[k]? = some x):(l.take (k+1)).map f=(l.take k).map f++[f x]:=by rw[tS1 h];simp
theorem QY {α β:Type} {f:β→α→β} {b:β} {l:List α} {k:Nat} {x:α} (h:l[k]? = some x):(l.take (k+1)).foldl f b=f ((l.take k).foldl f b) x:=by rw[tS1 h];simp
theorem tA1 {α:Type} {l:List α} {i:Nat} (h : ¬i<l.length):l.take i=l:=Jrd (by omega)
end Go.Tm
end
section
namespace Go.Tm
open Go.IntKind (i64)
theorem Jma {α:Type} {S Z:List α} {i:Nat} {s:α} (hl:S.length=Z.length) (hs:S[i]? = some s):(S.take i++Z.drop i).set i s=S.take (i+1)++Z.drop (i+1):=by
 have hi:i<S.length:=(Jra.1 hs).1;have h1:(S.take i).length=i:=by simp;omega
 rw[tS1 hs,List.set_append_right _ _ (by omega),List.append_assoc,h1,Nat.sub_self,List.drop_eq_getElem_cons (by omega:i<Z.length)];rfl
theorem JkV {α:Type} {S Z:List α} {i:Nat} {s:α} (hs:S[i]? = some s) (hz:Z[i]? = some s):S.take i++Z.drop i=S.take (i+1)++Z.drop (i+1):=by
 rw[tS1 hs];obtain⟨h1,h2⟩:=Jra.1 hz;rw[List.drop_eq_getElem_cons h1,h2,List.append_assoc];rfl
def dBl (l:List Bool):List D:=l.map dB
theorem JfA (l:List Bool):(dBl l).length=l.length:=by simp[dBl]
theorem Jj5 (l:List Bool) (k:Nat) (x:Bool):(dBl l).set k (dB x)=dBl (l.set k x):=by simp[dBl,List.map_set]
theorem Wl (l:List (List Int)) (x:List Int):dLL l++[.s (dL x)]=dLL (l++[x]):=by simp[dLL]
def Yn:List Int→Int
 | []=>0
 | x::l=>if 0<x then 1 else if x<0 then -1 else Yn l
def Ji (c:List Int):List Int:=c.map (Yn c * ·)
theorem JgW (l:List Int) (x:Int):Yn (l++[x])=if Yn l=0 then(if 0<x then 1 else if x<0 then -1 else 0) else Yn l:=by
 induction l with
 | nil=>simp[Yn]
 | cons y l ih =>
  simp only[List.cons_append,Yn]
  by_cases h1:0<y
  ·simp[h1]
  ·by_cases h2:y<0
   ·simp[h1,h2]
   ·simp only[h1,h2,if_false];exact ih
theorem Jnx {l:List Int} (h:Yn l=0) :∀x∈l,x=0:=by
 induction l with
 | nil=>simp
 | cons y l ih =>
  simp only[Yn] at h;split at h
  ·cases h
  ·split at h
   ·cases h
   ·intro x hx;rcases Jrs.1 hx with rfl | hx
    ·omega
    ·exact ih h x hx
theorem Jff (l:List Int):Yn l=0∨Yn l=1∨Yn l = -1:=by
 induction l with
 | nil=>simp[Yn]
 | cons y l ih =>
  simp only[Yn];split
  ·simp
  ·split
   ·simp
   ·exact ih
theorem Jky (l:List Int) (x:Int):Ji (l++[x])=Ji l++[Yn (l++[x])*x]:=by
 have:l.map (Yn (l++[x]) * ·)=l.map (Yn l * ·):=by
  apply Jrv;intro y hy
  by_cases h:Yn l=0
  ·rw[Jnx h y hy];simp
  ·simp only[JgW,if_neg h]
 simp only[Ji,List.map_append,this,Jrh,List.map_nil]
theorem Uq (c:List Int):(Ji c).length=c.length:=by simp[Ji]
theorem Jl5 {M:Int} {c:List Int} (h:Lim M c):Lim M (Ji c):=by
 intro x hx;simp only[Ji,List.mem_map] at hx;obtain⟨y,hy,rfl⟩:=hx;have:=h y hy;rcases Jff c with e | e | e <;> rw[e] <;> omega
def ZF (l:List (List Int)) (p:List Int):Int:=YY (fun q=>decide (q=p)) l
def Ku (p:List Bool) (c:List Int):List Bool:=List.zipWith (fun b x=>b||decide (x≠0)) p c
def Qn (p:List Bool) (fs:List Frm):List Bool:=fs.foldl (fun p f=>Ku p f.c) p
theorem Wo (p:List Bool) (c:List Int):(Ku p c).length=min p.length c.length:=by simp[Ku]
theorem Ze {p:List Bool} {fs:List Frm} (hp:p.length=3) (hf :∀f∈fs,f.c.length=3):(Qn p fs).length=3:=by
 induction fs generalizing p with
 | nil=>exact hp
 | cons f fs ih=>exact ih (by rw[Wo];have:=hf f (by simp);omega) fun g hg=>hf g (by simp[hg])
def Jk (out:List (List Int)) (f:Frm):List (List Int):=if ZF out (Ji f.c)<0∧Ji f.c≠[0,0,0] then out++[Ji f.c] else out
def Ql (s:List (List Int)×List Bool) (r:Row):List (List Int)×List Bool:=(r.guards.foldl Jk s.1,Qn (Qn s.2 r.adds) r.tells)
def XL (s:List (List Int)×List Bool) (act:List Jd):List (List Int)×List Bool:=(Jw act).foldl Ql s
def X7:List (List Int):=[[1,0,0],[0,1,0],[0,0,1]]
def UN (acts:List (List Jd)):List (List Int)×List Bool:=acts.foldl XL (X7,[false,false,false])
def Jb (acts:List (List Jd)):List (List Int):=if QA acts then(UN acts).1 else []
def Jh (acts:List (List Jd)):List Bool:=if QA acts then(UN acts).2 else []
theorem JgT (out:List (List Int)) (f:Frm):(Jk out f).length≤out.length+1:=by unfold Jk;split <;> simp
theorem JgS {p:List Int→Prop} {out:List (List Int)} {f:Frm} (h :∀q∈out,p q) (hf:p (Ji f.c)) :∀q∈Jk out f,p q:=by
 unfold Jk;split
 ·intro q hq;rcases Jre.1 hq with hq | hq
  ·exact h q hq
  ·simp at hq;subst hq;exact hf
 ·exact h
structure Xz (r:Row):Prop where
 g :∀f∈r.guards,Std 10000000 f
 a :∀f∈r.adds,Std 10000000 f
 t :∀f∈r.tells,Std 10000000 f
 gl:r.guards.length≤6
 tl:r.tells.length≤6
 al:r.adds.length≤3
 st:r.stop=true→r.adds=[]∧r.tells=[]
 ns:r.stop=false→r.adds.length=3
theorem Wj {l:Jd} (h:l.ok=true) (h4 : ¬l.kind=4):l.f.small=true:=by
 unfold Jd.ok at h;split at h
 ·simp only[Jq9] at h;exact h.2
 split at h
 ·simp only[Jq9] at h;exact h.2
 split at h
 ·simp only[Jq9] at h;exact h.2
 ·simp[h4] at h
theorem JcO {p:List Frm} {P:Frm→Prop} (hp:p.length=3) (h :∀f∈p,P f) {i:Nat} (hi:i<3):P (p.getD i Frm.none):=by
 rw[Jrc,Jrk (by omega)];exact h _ (List.getElem_mem _)
theorem Jmg :∀(n:Nat) (a:List Jd) (p g t:List Frm) (j:Nat),a.length=n→(∀l∈a,l.ok=true)→j+n≤6→p.length=3→(∀f∈p,Std (Bd j) f)→(∀f∈g,Std 10000000 f)→(∀f∈t,Std 10000000 f)→g.length≤j→t.length≤j →
  ∀r∈walk a p g t,Xz r:=by
 intro n
 induction n using Nat.strongRecOn with
 | _ n ih =>
  intro a p g t j hn ha hj hp sp sg st lg lt r hr;cases a with
  | nil =>
   rw[walk] at hr;simp only[Jrr] at hr;subst hr;have hB:=Jgt (show j≤6 by omega);have hB0:=Yo j;have ad :∀i,i<3→Std 10000000 (JJ (p.getD i Frm.none) (Ju i) (-1)):=fun i hi =>
    (Qv (JcO hp sp hi) Qw (n:=-1) (N:=1) (by omega)).mono (by omega)
   refine⟨sg,?_,st,by show g.length≤6;omega,by show t.length≤6;omega,by simp[Yy],fun h=>by simp[Yy] at h,fun _=>rfl⟩;intro f hf;simp only[Yy,Jrs,List.not_mem_nil,or_false] at hf;rcases hf with rfl | rfl | rfl
   ·exact ad 0 (by omega)
   ·exact ad 1 (by omega)
   ·exact ad 2 (by omega)
  | cons l rest =>
   simp only[List.length_cons] at hn;have hok:=ha l (by simp);have har :∀x∈rest,x.ok=true:=fun x hx=>ha x (by simp[hx]);rw[walk] at hr;split at hr
   ·simp only[Jrr] at hr;subst hr;exact⟨sg,by simp,by simp,by show g.length≤6;omega,by simp,by simp,fun _=>⟨rfl,rfl⟩,fun h=>by cases h⟩
   ·rename_i h4;have hB:=Jgt (show j≤5+1 by omega);have hB0:=Yo j;have hin:=UO (Wj hok h4) hp sp hB0;have hin7:Std 10000000 (Jo l.f p):=hin.mono (by omega);have spB :∀f∈p,Std (Bd (j+1)) f:=fun f hf=>(sp f hf).mono (ZO (by omega));have sn :∀{q:List Frm} {x:Frm},(∀f∈q,Std 10000000 f)→Std 10000000 x→∀f∈q++[x],Std 10000000 f:=by
     intro q x hq hx f hf;rcases Jre.1 hf with hf | hf
     ·exact hq f hf
     ·simp at hf;subst hf;exact hx
    split at hr
    ·rcases Jre.1 hr with hr | hr
     ·exact ih rest.length (by omega) rest p _ t (j+1) rfl har (by omega) hp spB (sn sg hin7) st (by simp;omega) (by omega) r hr
     ·refine ih (rest.drop l.skip.toNat).length (by simp;omega) (rest.drop l.skip.toNat) p _ t (j+1) rfl (fun x hx=>har x (List.mem_of_mem_drop hx)) (by simp;omega) hp spB (sn sg ((VP hin).mono (by omega))) st (by simp;omega) (by omega) r hr
    split at hr
    ·refine ih rest.length (by omega) rest _ g t (j+1) rfl har (by omega) (by simp[hp]) ?_ sg st (by omega) (by omega) r hr;intro f hf;rcases Jry hf with hf | hf
     ·exact spB f hf
     ·subst hf
      by_cases hlt:l.pot.toNat<3
      ·exact(Qv (JcO hp sp hlt) hin (n:=1) (N:=1) (by omega)).mono (by simp only[Bd];omega)
      ·rw[List.set_eq_of_length_le (by omega)] at hf;exact spB _ hf
    ·exact ih rest.length (by omega) rest p g _ (j+1) rfl har (by omega) hp spB sg (sn st hin7) (by omega) (by simp;omega) r hr
theorem Jb7 {act:List Jd} (h:QI act=true):act.length≤6∧∀l∈act,l.ok=true:=by
 simp only[QI,Jq9,decide_eq_true_eq,Jrm] at h;exact⟨by omega,h.1.1⟩
theorem X8 {act:List Jd} :∀r∈Jw act,Xz r:=by
 intro r hr;unfold Jw at hr;split at hr
 ·rename_i h;obtain⟨h1,h2⟩:=Jb7 h;refine Jmg act.length act _ [] [] 0 rfl h2 (by omega) rfl ?_ (by simp) (by simp) (by simp) (by simp) r hr;intro f hf;simp at hf;rcases hf with rfl | rfl | rfl <;> exact Qw
 ·cases hr
theorem Zo (act:List Jd):(Jw act).length≤64:=by
 unfold Jw;split
 ·rename_i h;obtain⟨h1,h2⟩:=Jb7 h;exact Nat.le_trans (JgC _ _ _ _) (Nat.le_trans (Nat.pow_le_pow_right (by omega) h1) (by decide))
 ·simp
def Xb (l:List Int):Bool:=JE 3 10000 l
def QL (l:List Int):Bool:=JE 2 9 l
def Qu (b g:List Int):Bool:=Xb b&&inB g.length 1 3&&g.all fun x=>inB x 0 50
def QV (ps:List (List Int)):Bool:=ps.all fun p=>JE 3 10000000 p
def Qh (a:List Int):Bool:=JE 3 20000 a
def dot:List Int→List Int→Int
 | x::a,y::b=>x*y+dot a b
 | _,_=>0
def ZX (give:Int) (a p:List Int):Bool:=inB (dot p a) (0-give) give
def keeps (b g:List Int) (ps:List (List Int)) (s:Int) (a:List Int):Bool :=
 Qu b g&&QV ps&&inB s 0 (g.length-1)&&Qh a&&ps.all (ZX (g.getD s.toNat 0) a)
theorem JnE {a b:List Int} (x y:Int) (h:a.length=b.length):dot (a++[x]) (b++[y])=dot a b+x*y:=by
 induction a generalizing b with
 | nil=>cases b <;> simp[dot] at h ⊢
 | cons p a ih =>
  cases b with
  | nil=>simp at h
  | cons q b=>simp only[List.cons_append,dot,ih (by simpa using h)];omega
theorem KO {a b:List Int} {A B:Int} (ha:Lim A a) (hb:Lim B b) (hA:0≤A) (hB:0≤B) : -(A*B*a.length)≤dot a b∧dot a b≤A*B*a.length:=by
 have hAB:0≤A*B:=Int.mul_nonneg hA hB
 induction a generalizing b with
 | nil=>simp[dot]
 | cons p a ih =>
  have h0:0≤A*B*(a.length:Int):=Int.mul_nonneg hAB (by omega);cases b with
  | nil =>
   simp only[dot,List.length_cons];have:0≤A*B*((a.length+1:Nat):Int):=Int.mul_nonneg hAB (by omega);omega
  | cons q b =>
   have h1:=ih (b:=b) (fun x hx=>ha x (by simp[hx])) (fun x hx=>hb x (by simp[hx]));have h2:=ZM (ha p (by simp)) (hb q (by simp));simp only[dot,List.length_cons];have e:A*B*((a.length+1:Nat):Int)=A*B*a.length+A*B:=by push_cast;rw[Int.mul_add];omega
   rw[e];omega
def JoM {α:Type} (p:Nat→α→Bool) (l:List α):Bool:=l.zipIdx.all fun q=>p q.2 q.1
theorem Jpz {α:Type} {p:Nat→α→Bool} {l:List α}:JoM p l=true↔∀(k:Nat) (x:α),l[k]? = some x→p k x=true:=by
 unfold JoM;rw[Jrm];constructor
 ·intro h k x hx;exact h (x,k) (by rw[List.mem_zipIdx_iff_getElem?];exact hx)
 ·intro h q hq;rw[List.mem_zipIdx_iff_getElem?] at hq;exact h _ _ hq
end Go.Tm
end
section
namespace Go.Tm
open Go.IntKind (i64)
theorem JbG {α:Type} {es:List α} {z:α} {i:Nat} (h:i<es.length):(es.take i++List.replicate (es.length-i) z)[i]? = some z:=by
 rw[JrB (by simp;omega)];simp only[Jro,List.getElem?_replicate];rw[if_pos (by omega)]
theorem Ww {α:Type} {es:List α} {z x:α} {i:Nat} (h:es[i]? = some x):(es.take i++List.replicate (es.length-i) z).set i x=es.take (i+1)++List.replicate (es.length-(i+1)) z:=by
 have hi:i<es.length:=(Jra.1 h).1;rw[tS1 h,List.set_append_right _ _ (by simp;omega)];simp only[Jro,Nat.min_eq_left (Nat.le_of_lt hi),Nat.sub_self];rw[show es.length-i=(es.length-(i+1))+1 by omega,List.replicate_succ,List.set_cons_zero];simp
theorem V5 {α:Type} {es:List α} {z:α} {i:Nat} (h : ¬i<es.length):es.take i++List.replicate (es.length-i) z=es:=by
 rw[Jrd (by omega),show es.length-i=0 by omega];simp
theorem Xn {α:Type} {es:List α} {i:Nat} (x:α) (h:i<es.length):(es.set i x)[i]? = some x:=by simp[h]
def cnt (k:Int) (n:Nat):List Int:=(List.range n).map fun(i:Nat)=>k+(i:Int)
theorem X5 (k:Int) (n:Nat):(cnt k n).length=n:=by simp[cnt]
theorem Jj3 (k:Int) {n i:Nat} (h:i<n):(cnt k n)[i]? = some (k+i):=by simp[cnt,h]
theorem Jj6 {α:Type} {as bs:List α} {x:α} {i:Nat} (hl:as.length=bs.length) (h:bs[i]? = some x):(as.take i++bs.drop i)[i]? = some x:=by
 have hi:i<bs.length:=(Jra.1 h).1;rw[JrB (by simp;omega),Jro,Nat.min_eq_left (by omega),Nat.sub_self,List.getElem?_drop];simpa using h
theorem JhQ {α:Type} {as bs:List α} {x:α} {i:Nat} (hl:as.length=bs.length) (h:as[i]? = some x):(as.take i++bs.drop i).set i x=as.take (i+1)++bs.drop (i+1):=by
 have hi:i<as.length:=(Jra.1 h).1;rw[tS1 h,List.set_append_right _ _ (by simp;omega)];simp only[Jro,Nat.min_eq_left (Nat.le_of_lt hi),Nat.sub_self];rw[List.drop_eq_getElem_cons (by omega:i<bs.length),List.set_cons_zero];simp
theorem Jh0 {α:Type} {as bs:List α} {i:Nat} (hl:as.length=bs.length) (h : ¬i<bs.length):as.take i++bs.drop i=as:=by
 rw[Jrd (by omega),List.drop_eq_nil_of_le (by omega)];simp
theorem JhA {α:Type} {as bs:List α} {i:Nat} (hl:as.length=bs.length):(as.take i++bs.drop i).length=bs.length:=by simp;omega
def dec (left:Int) (n:Nat):Int:=if(n:Int)≤left then left-n else -1
theorem Y4 {left:Int} {n m:Nat} (h : ¬dec left n<0):dec (dec left n) m=dec left (n+m):=by
 unfold dec at *;split at h
 ·rename_i h1;rw[if_pos h1]
  by_cases h2:(m:Int)≤left-n
  ·rw[if_pos h2,if_pos (by omega)];omega
  ·rw[if_neg h2,if_neg (by omega)]
 ·omega
theorem UL {left:Int} {n m:Nat} (h:dec left n<0) (h0:0≤left):dec left (n+m) = -1:=by
 unfold dec at *;split at h
 ·omega
 ·rw[if_neg (by omega)]
theorem QD {α:Type} (f:α→D) (h :∀x,flat (f x)=true) :∀l:List α,JA (l.map f)=true
 | []=>rfl
 | x::l=>by simp[JA,h x,QD f h l]
def JS {α:Type} (w:α→Nat) (mk:Int→α→α):Int→List α→List α
 | _,[]=>[]
 | k,x::l=>mk k x::JS w mk (k+w x) l
def wts {α:Type} (w:α→Nat) (l:List α):Nat:=(l.map w).sum
theorem Y7 {α:Type} (w:α→Nat) (mk:Int→α→α) :∀(k:Int) (l:List α),(JS w mk k l).length=l.length
 | _,[]=>rfl
 | k,x::l=>by simp[JS,Y7 w mk _ l]
theorem JaI {α:Type} (w:α→Nat) (mk:Int→α→α) :∀(k:Int) (l:List α) (i:Nat) (x:α),l[i]? = some x→(JS w mk k l)[i]? = some (mk (k+wts w (l.take i)) x)
 | _,[],i,x,h=>by simp at h
 | k,y::l,0,x,h=>by simp at h;subst h;simp[JS,wts]
 | k,y::l,i+1,x,h=>by
  have:=JaI w mk (k+w y) l i x (by simpa using h);simp only[JS,List.getElem?_cons_succ,this,List.take_succ_cons,wts,Jrh,List.sum_cons]
  congr 2
  push_cast;omega
theorem JhJ {α:Type} {w:α→Nat} {l:List α} {i:Nat} {x:α} (h:l[i]? = some x):wts w (l.take (i+1))=wts w (l.take i)+w x:=by unfold wts;rw[Q6 h];simp
theorem Jhv {α:Type} (w:α→Nat) (l:List α) (i:Nat):wts w (l.take i)≤wts w l:=by
 unfold wts
 conv=>rhs;rw[←List.take_append_drop i l,List.map_append,List.sum_append]
 omega
def Jk5 (body:R):R :=
 .loop 2 [.v 0,.v 1,.z 0] <|
  .ite (.cmp .lt (.v 4) (.len (.v 2))) body
   (.esc <| .done [.vi .i64 (.v 3),.s (.v 2)])
def JlM (body:R):R :=
 .loop 2 [.v 1,.z 0] <|
  .ite (.cmp .lt (.v 3) (.len (.v 0))) body
   (.esc <| .done [.vi .i64 (.v 2)])
section
variable {L:Vl} {α:Type} {f:FuncId} {s:Sig} {H:XQ} {body:R}
theorem Jba (enc:α→D) (w:α→Nat) (mk:Int→α→α) (l:List α) (k:Int) (hf:L.lookup f=some ⟨s,.r H (Jk5 body)⟩) (hs:Zn s=[.s,.i .i64]) (h0:0≤k) (h1:k+wts w l≤1000000000000) (hl:l.length≤2000000)
  (hb :∀(v0 v1:V) (es:List D) (i:Nat) (x:α) (q:Int),x∈l→es[i]? = some (enc x)→i<2000000→0≤q→q+w x≤1000000000000 →
   WR L body [v0,v1,.l es,.i q,.i i] (· = .next [.l (es.set i (enc (mk q x))),.i (q+w x),.i ((i+1:Nat):Int)])) :
  Ev L f [.s (l.map enc),dI k] [dI (k+wts w l),.s ((JS w mk k l).map enc)]:=by
 refine Jq7 (vs:=[.l (l.map enc),.i k]) hf (by rw[hs];rfl) ?_;have hc:((JS w mk k l).map enc).length=(l.map enc).length:=by rw[Jri,Jri,Y7]
 have hlen:(l.map enc).length=l.length:=Jri _;refine JqH l.length (fun i=>[.l (((JS w mk k l).map enc).take i++(l.map enc).drop i),.i (k+wts w (l.take i)),.i i]) (fun _=>True) rfl ?_ trivial fun i hi _=>?_
 ·show [V.l (l.map enc),V.i k,V.i 0]=_;simp[wts]
 simp only[List.cons_append,List.nil_append];refine Jqv i (ds:=((JS w mk k l).map enc).take i++(l.map enc).drop i) ((JhA hc).trans hlen) rfl (fun h=>?_) (fun h=>JqG (JqK ?_))
 ·obtain⟨x,hx,hm⟩:=sA1 h;have hw:=Jhv w l (i+1);have hw1:=JhJ (w:=w) hx;refine(hb _ _ _ i x (k+wts w (l.take i)) hm (Jj6 hc (mA1 (f:=enc) hx)) (by omega) (by omega) (by omega)).mono fun o ho=>?_;subst ho;refine⟨h,?_,trivial⟩;show _=[V.l (((JS w mk k l).map enc).take (i+1)++(l.map enc).drop (i+1)),V.i (k+wts w (l.take (i+1))),V.i ((i+1:Nat):Int)];rw[JhQ hc (mA1 (f:=enc) (JaI w mk k l i x hx)),hw1];simp only[List.cons.injEq,V.i.injEq,and_true,true_and]
  push_cast;omega
 ·show [dI (k+wts w (l.take i)),D.s (((JS w mk k l).map enc).take i++(l.map enc).drop i)]=_;rw[Jh0 hc (by omega),tA1 h]
theorem Ja8 (enc:α→D) (w:α→Nat) (mk:Int→α→α) (l:List α) (k:Int) (hf:L.lookup f=some ⟨s,.r H (JlM body)⟩) (hs:Zn s=[.s,.i .i64]) (h0:0≤k) (h1:k+wts w l≤1000000000000) (hl:l.length≤2000000)
  (hb :∀(v1:V) (es:List D) (i:Nat) (x:α) (q:Int),x∈l→es[i]? = some (enc (mk q x))→i<2000000→0≤q→q+w x≤1000000000000 →
   WR L body [.l es,v1,.i q,.i i] (· = .next [.i (q+w x),.i ((i+1:Nat):Int)])) :
  Ev L f [.s ((JS w mk k l).map enc),dI k] [dI (k+wts w l)]:=by
 refine Jq7 (vs:=[.l ((JS w mk k l).map enc),.i k]) hf (by rw[hs];rfl) ?_;have hlen:((JS w mk k l).map enc).length=l.length:=by rw[Jri,Y7]
 refine JqH l.length (fun i=>[.i (k+wts w (l.take i)),.i i]) (fun _=>True) rfl ?_ trivial fun i hi _=>?_
 ·show [V.i k,V.i 0]=_;simp[wts]
 simp only[List.cons_append,List.nil_append];refine Jqv i hlen rfl (fun h=>?_) (fun h=>JqG (JqK ?_))
 ·obtain⟨x,hx,hm⟩:=sA1 h;have hw:=Jhv w l (i+1);have hw1:=JhJ (w:=w) hx;refine(hb _ _ i x (k+wts w (l.take i)) hm (mA1 (f:=enc) (JaI w mk k l i x hx)) (by omega) (by omega) (by omega)).mono fun o ho=>?_;subst ho;refine⟨h,?_,trivial⟩;show _=[V.i (k+wts w (l.take (i+1))),V.i ((i+1:Nat):Int)];rw[hw1];simp only[List.cons.injEq,V.i.injEq,and_true,true_and]
  push_cast;omega
 ·show [dI (k+wts w (l.take i))]=_;rw[tA1 h]
end
structure Don where
 seq:Int
 code:Int
 tells:List Int
 deriving DecidableEq
def Don.cells (d:Don):List D:=[dI d.seq,dI d.code,.s (dL d.tells)]
def Don.g (d:Don):D:= .g d.cells
def dDs (l:List Don):List D:=l.map Don.g
def Don.w (d:Don):Nat:=2+d.tells.length
def Don.mk' (q:Int) (d:Don):Don:=⟨q,q+1,cnt (q+1+1) d.tells.length⟩
structure Got where
 has:Bool
 added:List Int
 seqs:List Int
 deriving DecidableEq
def Got.cells (d:Got):List D:=[dB d.has,.s (dL d.added),.s (dL d.seqs)]
def Got.g (d:Got):D:= .g d.cells
def dGs (l:List Got):List D:=l.map Got.g
def Got.w (d:Got):Nat:=1+d.added.length+d.seqs.length
def Got.mk' (q:Int) (d:Got):Got:=⟨decide (q.tmod 3=0),cnt (q+1) d.added.length,cnt (q+1+d.added.length) d.seqs.length⟩
structure Cal where
 client:Int
 seq:Int
 act:Int
 args:List Int
 deriving DecidableEq
def Cal.cells (d:Cal):List D:=[dI d.client,dI d.seq,dI d.act,.s (dL d.args)]
def Cal.g (d:Cal):D:= .g d.cells
def dCs (l:List Cal):List D:=l.map Cal.g
def Cal.w (d:Cal):Nat:=3+d.args.length
def Cal.mk' (q:Int) (d:Cal):Cal:=⟨q,q+1,q+1+1,cnt (q+1+1+1) d.args.length⟩
end Go.Tm
end
section
namespace Go.Tm
open Go.IntKind (i64)
def atF (f:Frm) (vals args:List Int):Int:=dot f.c vals+dot f.d args+f.k
theorem Jhg {a b v:List Int} {n:Int} (h:a.length=b.length):dot (JM a b n) v=dot a v+n*dot b v:=by
 induction a generalizing b v with
 | nil=>cases b <;> simp[JM,dot] at h ⊢
 | cons x a ih =>
  cases b with
  | nil=>simp at h
  | cons y b =>
   cases v with
   | nil=>simp[JM,dot]
   | cons z v =>
    have:=ih (b:=b) (v:=v) (by simpa using h);simp only[JM,List.zipWith_cons_cons,dot] at this ⊢;rw[this,Int.add_mul,Int.mul_add,Int.mul_assoc];omega
theorem UB {A B:Int} {a b:Frm} (ha:Std A a) (hb:Std B b) (n:Int) (v w:List Int):atF (JJ a b n) v w=atF a v w+n*atF b v w:=by
 unfold atF JJ;simp only;rw[Jhg (by rw[ha.c,hb.c]),Jhg (by rw[ha.d,hb.d]),Int.mul_add,Int.mul_add];omega
theorem JoF (v w:List Int):atF Frm.zero v w=0:=by
 have h :∀(n:Nat) (v:List Int),dot (List.replicate n 0) v=0:=by
  intro n
  induction n with
  | zero=>intro v;cases v <;> rfl
  | succ n ih=>intro v;cases v with
   | nil=>rfl
   | cons x v=>simp only[List.replicate_succ,dot,ih v];omega
 have h3:=h 3 v;have h2:=h 2 w;simp only[List.replicate] at h3 h2;simp only[atF,Frm.zero,h3,h2];omega
theorem VQ {v w:List Int} (hv:v.length=3) (hw:w.length=2) (i:Nat) (hi:i<3):atF (Ju i) v w=v.getD i 0:=by
 obtain⟨a,b,c,rfl⟩:=Jai hv;obtain⟨d,e,rfl⟩:=Jh5 hw
 match i,hi with
 | 0,_ | 1,_ | 2,_=>simp[atF,Ju,dot]
theorem JmQ {A:Int} {f:Frm} (hf:Std A f) (v w:List Int):atF (Qs f) v w = - atF f v w-1:=by
 have h:=UB Xg hf (-1) v w;rw[JoF] at h;have e:atF (Qs f) v w=atF (JJ Frm.zero f (-1)) v w-1:=by
  unfold atF Qs;simp only;omega
 rw[e,h];omega
def atL (p:List Frm) (v w:List Int):List Int:=p.map fun f=>atF f v w
theorem Joh {M:Int} {f:Frm} {p:List Frm} (hf:f.small=true) (hl:p.length=3) (hp :∀q∈p,Std M q) (v w:List Int):atF (Jo f p) v w=atF f (atL p v w) w:=by
 obtain⟨h1,h2,_⟩:=Xt hf
 match p,hl with
 | [q0,q1,q2],_ =>
  have s0:=hp q0 (by simp);have s1:=hp q1 (by simp);have s2:=hp q2 (by simp);obtain⟨fc,fd,fk⟩:=f;obtain⟨x,y,z,rfl⟩:=Jai h1;have hb:Std (fd.length*0+(Int.natAbs fk:Int)+((fd.map Int.natAbs).sum:Nat)) (⟨[0,0,0],fd,fk⟩:Frm):=by
   refine⟨rfl,h2,?_,?_,?_⟩
   ·intro x hx;simp at hx;omega
   ·intro x hx;have hs :∀(l:List Int),x∈l→x.natAbs≤(l.map Int.natAbs).sum:=by
     intro l
     induction l with
     | nil=>intro h;simp at h
     | cons y l ih =>
      intro h;simp only[Jrh,List.sum_cons];rcases Jrs.1 h with rfl | h
      ·omega
      ·have:=ih h;omega
    have:=hs fd hx;omega
   ·show _≤fk∧fk≤_;omega
  have e0:=Qv hb s0 (n:=x) (N:=x.natAbs) (by omega);have e1:=Qv e0 s1 (n:=y) (N:=y.natAbs) (by omega);simp only[Jo,List.zip_cons_cons,List.zip_nil_right,List.foldl_cons,List.foldl_nil,atL,Jrh,List.map_nil];rw[UB e1 s2,UB e0 s1,UB hb s0];simp only[atF,dot];have hz:dot [0,0,0] v=0:=by
   cases v with
   | nil=>rfl
   | cons a v=>cases v with
    | nil=>simp[dot]
    | cons b v=>cases v with
     | nil=>simp[dot]
     | cons c v=>simp[dot]
  rw[hz];omega
structure Res where
 code:Int
 tells:List Int
 is:List Int
 deriving DecidableEq
def JoR (was x tells:List Int):Res:=if Xb x then ⟨1,tells,x⟩ else ⟨3,[],was⟩
def run (was args:List Int) (a:List Jd) (x tells:List Int):Res:=match a with
 | []=>JoR was x tells
 | l::rest =>
  if l.kind=4 then ⟨2,[],was⟩
  else if l.kind=1 then(if atF l.f x args<0 then run was args (rest.drop l.skip.toNat) x tells else run was args rest x tells)
  else if l.kind=2 then run was args rest (x.set l.pot.toNat (x.getD l.pot.toNat 0+atF l.f x args)) tells
  else run was args rest x (tells++[atF l.f x args])
termination_by a.length
decreasing_by all_goals (simp only[List.length_cons,List.length_drop];omega)
def actRun (a:List Jd) (vals args:List Int):Res:=if QI a&&(Xb vals&&QL args) then run vals args a vals [] else ⟨0,[],[]⟩
def QU (r:Row) (v w:List Int):Bool:=r.guards.all fun f=>decide (0≤atF f v w)
def Jb9 (r:Row) (v w:List Int):Res:=if r.stop then ⟨2,[],v⟩ else JoR v (List.zipWith (· + ·) v (atL r.adds v w)) (atL r.tells v w)
theorem Jof (p:List Frm) (v w:List Int) (i:Nat) (f:Frm):atL (p.set i f) v w=(atL p v w).set i (atF f v w):=by simp[atL,List.map_set]
theorem Jnr {p:List Frm} {v w:List Int} {i:Nat} (h:i<p.length):(atL p v w).getD i 0=atF (p.getD i Frm.none) v w:=by
 simp[atL,Jrc,h]
theorem JmD {v w:List Int} (hv:v.length=3) (hw:w.length=2) :∀(n:Nat) (a:List Jd) (p g t:List Frm) (j:Nat),a.length=n→(∀l∈a,l.ok=true)→j+n≤6→p.length=3→(∀f∈p,Std (Bd j) f) →
  (if g.all (fun f=>decide (0≤atF f v w)) then ∃ (l1 l2:List Row) (r:Row),walk a p g t=l1++r::l2∧QU r v w=true∧(∀s∈l1,QU s v w=false)∧(∀s∈l2,QU s v w=false)∧Jb9 r v w=run v w a (atL p v w) (atL t v w)
   else ∀s∈walk a p g t,QU s v w=false):=by
 intro n
 induction n using Nat.strongRecOn with
 | _ n ih =>
  intro a p g t j hn ha hj hp sp;cases a with
  | nil =>
   rw[walk,run];split
   ·rename_i hg;refine⟨[],[],Yy p g t,rfl,hg,by simp,by simp,?_⟩;have e:List.zipWith (· + ·) v (atL (Yy p g t).adds v w)=atL p v w:=by
     match p,hp with
     | [q0,q1,q2],_ =>
      obtain⟨a,b,c,rfl⟩:=Jai hv;have s0:=sp q0 (by simp);have s1:=sp q1 (by simp);have s2:=sp q2 (by simp);simp only[Yy,atL,Jrh,List.map_nil,List.zipWith_cons_cons,List.zipWith_nil_right,List.getD_cons_zero,List.getD_cons_succ];rw[UB s0 Qw,UB s1 Qw,UB s2 Qw,VQ hv hw 0 (by omega),VQ hv hw 1 (by omega),VQ hv hw 2 (by omega)];simp only[List.getD_cons_zero,List.getD_cons_succ]
      congr 1
      ·omega
      ·congr 1
       ·omega
       ·congr 1;omega
    show Jb9 (Yy p g t) v w=_;simp only[Jb9,e];rfl
   ·rename_i hg;intro s hs;simp only[Jrr] at hs;subst hs;simpa[QU,Yy] using hg
  | cons l rest =>
   simp only[List.length_cons] at hn;have hok:=ha l (by simp);have har :∀x∈rest,x.ok=true:=fun x hx=>ha x (by simp[hx]);rw[walk,run]
   by_cases h4:l.kind=4
   ·simp only[if_pos h4];split
    ·rename_i hg;refine⟨[],[],⟨g,[],[],true⟩,rfl,hg,by simp,by simp,?_⟩;simp[Jb9]
    ·rename_i hg;intro s hs;simp only[Jrr] at hs;subst hs;simpa[QU] using hg
   ·simp only[if_neg h4];have hB:=Jgt (show j≤5+1 by omega);have hB0:=Yo j;have hsm:=Wj hok h4;have hin:=UO hsm hp sp hB0;have hat:=Joh hsm hp sp v w;have spB :∀f∈p,Std (Bd (j+1)) f:=fun f hf=>(sp f hf).mono (ZO (by omega))
    by_cases h1:l.kind=1
    ·simp only[if_pos h1];have i1:=ih rest.length (by omega) rest p (g++[Jo l.f p]) t (j+1) rfl har (by omega) hp spB;have i2:=ih (rest.drop l.skip.toNat).length (by simp;omega) (rest.drop l.skip.toNat) p (g++[Qs (Jo l.f p)]) t (j+1) rfl (fun x hx=>har x (List.mem_of_mem_drop hx)) (by simp;omega) hp spB;rw[List.all_append] at i1 i2;simp only[List.all_cons,List.all_nil,Bool.and_true] at i1 i2;rw[JmQ hin,hat] at i2;rw[hat] at i1;split
     ·rename_i hg;rw[hg,Jrt] at i1 i2;split
      ·rename_i hlt;rw[if_neg (by simp;omega)] at i1;rw[if_pos (by simp;omega)] at i2;obtain⟨l1,l2,r,e1,e2,e3,e4,e5⟩:=i2;refine⟨walk rest p (g++[Jo l.f p]) t++l1,l2,r,by rw[e1,List.append_assoc],e2,?_,e4,e5⟩;intro s hs;rcases Jre.1 hs with hs | hs
       ·exact i1 s hs
       ·exact e3 s hs
      ·rename_i hlt;rw[if_pos (by simp;omega)] at i1;rw[if_neg (by simp;omega)] at i2;obtain⟨l1,l2,r,e1,e2,e3,e4,e5⟩:=i1;refine⟨l1,l2++walk (rest.drop l.skip.toNat) p (g++[Qs (Jo l.f p)]) t,r,by rw[e1];simp,e2,e3,?_,e5⟩;intro s hs;rcases Jre.1 hs with hs | hs
       ·exact e4 s hs
       ·exact i2 s hs
     ·rename_i hg;have hg:(g.all fun f=>decide (0≤atF f v w))=false:=by simpa using hg
      rw[hg,Bool.false_and,if_neg (by simp)] at i1 i2;intro s hs;rcases Jre.1 hs with hs | hs
      ·exact i1 s hs
      ·exact i2 s hs
    simp only[if_neg h1]
    by_cases h2:l.kind=2
    ·simp only[if_pos h2];have hpt:l.pot.toNat<p.length:=by
      have:=hok;unfold Jd.ok at this;rw[if_neg (by omega),if_pos h2] at this;simp only[Jq9,JH] at this;omega
     have hq:=JcO (i:=l.pot.toNat) hp sp (by omega);have hsum:Std (Bd (j+1)) (JJ (p.getD l.pot.toNat Frm.none) (Jo l.f p) 1):=(Qv hq hin (n:=1) (N:=1) (by omega)).mono (by simp only[Bd];omega);have i1:=ih rest.length (by omega) rest (p.set l.pot.toNat (JJ (p.getD l.pot.toNat Frm.none) (Jo l.f p) 1)) g t (j+1) rfl har (by omega) (by simp[hp]) (by
      intro f hf;rcases Jry hf with hf | hf
      ·exact spB f hf
      ·subst hf;exact hsum)
     rw[Jof,UB hq hin,hat] at i1;rw[Jnr hpt,show atF l.f (atL p v w) w=1*atF l.f (atL p v w) w by omega];exact i1
    ·simp only[if_neg h2];have i1:=ih rest.length (by omega) rest p g (t++[Jo l.f p]) (j+1) rfl har (by omega) hp spB;have e:atL (t++[Jo l.f p]) v w=atL t v w++[atF l.f (atL p v w) w]:=by simp[atL,hat]
     rw[e] at i1;exact i1
theorem Jp7 {a:List Jd} {v w:List Int} (ha:QI a=true) (hv:v.length=3) (hw:w.length=2) :
  ∃ (l1 l2:List Row) (r:Row),Jw a=l1++r::l2∧QU r v w=true∧(∀s∈l1,QU s v w=false)∧(∀s∈l2,QU s v w=false)∧Jb9 r v w=run v w a v []:=by
 obtain⟨h1,h2⟩:=Jb7 ha;have hpp :∀f∈[Ju 0,Ju 1,Ju 2],Std (Bd 0) f:=by
  intro f hf';simp at hf';rcases hf' with rfl | rfl | rfl <;> exact Qw
 have:=JmD hv hw a.length a [Ju 0,Ju 1,Ju 2] [] [] 0 rfl h2 (by omega) rfl hpp;rw[if_pos (by rfl)] at this;have e:atL [Ju 0,Ju 1,Ju 2] v w=v:=by
  obtain⟨a,b,c,rfl⟩:=Jai hv;simp only[atL,Jrh,List.map_nil];rw[VQ hv hw 0 (by omega),VQ hv hw 1 (by omega),VQ hv hw 2 (by omega)];rfl
 rw[e] at this;rw[Jw,if_pos ha];exact this
def orB (p:List Bool) (h:Nat→Bool):List Bool:=p.mapIdx fun i b=>b||h i
def Vm (h:Row→Nat→Bool) (as:List (List Jd)):List Bool:=as.foldl (fun p a=>(Jw a).foldl (fun p r=>orB p (h r)) p) [false,false,false]
theorem Y1 (p:List Bool) (h:Nat→Bool):(orB p h).length=p.length:=by simp[orB]
theorem VC {p:List Bool} {h:Nat→Bool} {i:Nat} {b:Bool} (hb:p[i]? = some b):(orB p h)[i]? = some (b||h i):=by simp[orB,List.getElem?_mapIdx,hb]
theorem Jmv {p:List Bool} {h:Nat→Bool} {i:Nat} (hi:i<p.length):(orB p h).getD i false=(p.getD i false||h i):=by
 simp[orB,Jrc,List.getElem?_mapIdx,hi]
theorem Un (h:Row→Nat→Bool) (rs:List Row) (p:List Bool):(rs.foldl (fun p r=>orB p (h r)) p).length=p.length:=by
 induction rs generalizing p with
 | nil=>rfl
 | cons r rs ih=>simp only[List.foldl_cons];rw[ih,Y1]
theorem JoD (h:Row→Nat→Bool) (rs:List Row) (p:List Bool) {i:Nat} (hi:i<p.length):(rs.foldl (fun p r=>orB p (h r)) p).getD i false=(p.getD i false||rs.any fun r=>h r i):=by
 induction rs generalizing p with
 | nil=>simp
 | cons r rs ih =>
  simp only[List.foldl_cons,List.any_cons];rw[ih _ (by rw[Y1];exact hi),Jmv hi,Bool.or_assoc]
theorem JmW (h:Row→Nat→Bool) (as:List (List Jd)):(Vm h as).length=3:=by
 unfold Vm;generalize hp:[false,false,false]=p;have:p.length=3:=by subst hp;rfl
 clear hp
 induction as generalizing p with
 | nil=>exact this
 | cons a as ih=>exact ih _ (by rw[Un];exact this)
theorem Jp6 (h:Row→Nat→Bool) (as:List (List Jd)) {i:Nat} (hi:i<3):(Vm h as).getD i false=as.any fun a=>(Jw a).any fun r=>h r i:=by
 have key :∀(as:List (List Jd)) (p:List Bool),p.length=3→(as.foldl (fun p a=>(Jw a).foldl (fun p r=>orB p (h r)) p) p).getD i false=(p.getD i false||as.any fun a=>(Jw a).any fun r=>h r i):=by
  intro as
  induction as with
  | nil=>intro p _;simp
  | cons a as ih =>
   intro p hp;simp only[List.foldl_cons,List.any_cons];rw[ih _ (by rw[Un];exact hp),JoD _ _ _ (by omega),Bool.or_assoc]
 have:=key as [false,false,false] rfl;unfold Vm;rw[this]
 match i,hi with
 | 0,_ | 1,_ | 2,_=>simp
def Jp8 (r:Row) (v:Nat):Bool:=!r.stop && !decide (r.adds.getD v Frm.none=Frm.zero)
def YV (r:Row) (v:Nat):Bool:=(r.adds++r.tells).any fun f=>decide (f.c.getD v 0≠0)
theorem JhL {p:List Bool} {fs:List Frm} (hp:p.length=3) (hf :∀f∈fs,f.c.length=3):Qn p fs=orB p fun v=>fs.any fun f=>decide (f.c.getD v 0≠0):=by
 induction fs generalizing p with
 | nil =>
  show p=_;apply List.ext_getElem?;intro i;cases h:p[i]? with
  | none=>simp[orB,List.getElem?_mapIdx,h]
  | some b=>rw[VC h];simp
 | cons f fs ih =>
  show Qn (Ku p f.c) fs=_;have h3:=hf f (by simp);rw[ih (by rw[Wo];omega) fun g hg=>hf g (by simp[hg])];apply List.ext_getElem?;intro i
  by_cases hi:i<3
  ·obtain⟨b,hb⟩ : ∃ b,p[i]? = some b:=⟨p[i],by simp[show i<p.length by omega]⟩;obtain⟨n,hn⟩ : ∃ n,f.c[i]? = some n:=⟨f.c[i],by simp[show i<f.c.length by omega]⟩;have e:(Ku p f.c)[i]? = some (b||decide (n≠0)):=by simp[Ku,List.getElem?_zipWith,hb,hn]
   rw[VC e,VC hb];simp[Jrc,hn,Bool.or_assoc]
  ·rw[Jrw (by rw[Y1,Wo];omega),Jrw (by rw[Y1];omega)]
theorem Jlh {p:List Bool} {r:Row} (hp:p.length=3) (hr:Xz r):Qn (Qn p r.adds) r.tells=orB p (YV r):=by
 have h1 :∀f∈r.adds,f.c.length=3:=fun f hf=>(hr.a f hf).c;have h2 :∀f∈r.tells,f.c.length=3:=fun f hf=>(hr.t f hf).c;rw[JhL (Ze hp h1) h2,JhL hp h1];apply List.ext_getElem?;intro i;cases h:p[i]? with
 | none =>
  have : ¬i<p.length:=by simpa using h
  rw[Jrw (by rw[Y1,Y1];omega),Jrw (by rw[Y1];omega)]
 | some b=>rw[VC (VC h),VC h];simp only[YV,List.any_append,Bool.or_assoc]
theorem Jlz (as:List (List Jd)):(UN as).2=Vm YV as:=by
 have rows :∀(rs:List Row) (s:List (List Int)×List Bool),s.2.length=3→(∀r∈rs,Xz r)→(rs.foldl Ql s).2=rs.foldl (fun p r=>orB p (YV r)) s.2:=by
  intro rs
  induction rs with
  | nil=>intro s _ _;rfl
  | cons r rs ih =>
   intro s hs hr;have e:(Ql s r).2=orB s.2 (YV r):=Jlh hs (hr r (by simp));simp only[List.foldl_cons];rw[ih _ (by rw[e,Y1];exact hs) fun x hx=>hr x (by simp[hx]),e]
 have acts :∀(as:List (List Jd)) (s:List (List Int)×List Bool),s.2.length=3→(as.foldl XL s).2=as.foldl (fun p a=>(Jw a).foldl (fun p r=>orB p (YV r)) p) s.2:=by
  intro as
  induction as with
  | nil=>intro s _;rfl
  | cons a as ih =>
   intro s hs;have e:(XL s a).2=(Jw a).foldl (fun p r=>orB p (YV r)) s.2:=rows _ _ hs X8;simp only[List.foldl_cons];rw[ih _ (by rw[e,Un];exact hs),e]
 exact acts as _ rfl
end Go.Tm
end
section
namespace Go.Tm
open Go.IntKind (i64)
theorem Y6 (l:List (List Int)) (p:List Int):0≤ZF l p↔p∈l:=by
 have:=WS (fun q=>decide (q=p)) l;unfold ZF;constructor
 ·intro h;rw[decide_eq_true h] at this;obtain⟨q,h1,h2⟩:=List.any_eq_true.1 this.symm;have:q=p:=by simpa using h2
  subst this;exact h1
 ·intro h;have h2:l.any (fun q=>decide (q=p))=true:=List.any_eq_true.2 ⟨p,h,by simp⟩;rw[h2] at this;simpa using this
theorem JeB (l:List (List Int)) (p:List Int):ZF l p<0↔p∉l:=by rw[←Y6];omega
theorem Jjp (out:List (List Int)) (f:Frm):Jk out f=if Ji f.c∉out∧Ji f.c≠[0,0,0] then out++[Ji f.c] else out:=by
 unfold Jk;simp only[JeB]
structure JbC (out:List (List Int)):Prop where
 nodup:out.Nodup
 zero:[0,0,0]∉out
theorem Jhs (fs:List Frm) :∀(out:List (List Int)),JbC out→JbC (fs.foldl Jk out)∧out <+: fs.foldl Jk out∧∀f∈fs,Ji f.c∈fs.foldl Jk out∨Ji f.c=[0,0,0]:=by
 induction fs with
 | nil=>intro out h;exact⟨h,List.prefix_refl _,by simp⟩
 | cons f fs ih =>
  intro out h;have h1:JbC (Jk out f)∧out <+: Jk out f∧(Ji f.c∈Jk out f∨Ji f.c=[0,0,0]):=by
   rw[Jjp];split
   ·rename_i hc;refine⟨⟨?_,?_⟩,List.prefix_append _ _,.inl (by simp)⟩
    ·rw[List.nodup_append];exact⟨h.nodup,by simp,fun a ha b hb=>by simp at hb;subst hb;intro e;subst e;exact hc.1 ha⟩
    ·intro hm;rcases Jre.1 hm with hm | hm
     ·exact h.zero hm
     ·simp at hm;exact hc.2 hm.symm
   ·rename_i hc;refine⟨h,List.prefix_refl _,?_⟩
    by_cases hm:Ji f.c∈out
    ·exact .inl hm
    ·right;apply Classical.byContradiction;intro hz;exact hc ⟨hm,hz⟩
  obtain⟨a1,a2,a3⟩:=ih _ h1.1;refine⟨a1,h1.2.1.trans a2,?_⟩;intro g hg;rcases Jrs.1 hg with rfl | hg
  ·rcases h1.2.2 with hm | hz
   ·exact .inl (a2.subset hm)
   ·exact .inr hz
  ·exact a3 g hg
def WX (as:List (List Jd)):List Frm:=as.flatMap fun a=>(Jw a).flatMap Row.guards
theorem JiB (as:List (List Jd)):(UN as).1=(WX as).foldl Jk X7:=by
 have rows :∀(rs:List Row) (s:List (List Int)×List Bool),(rs.foldl Ql s).1=(rs.flatMap Row.guards).foldl Jk s.1:=by
  intro rs
  induction rs with
  | nil=>intro s;rfl
  | cons r rs ih=>intro s;simp only[List.foldl_cons,List.flatMap_cons,List.foldl_append];rw[ih];rfl
 have acts :∀(as:List (List Jd)) (s:List (List Int)×List Bool),(as.foldl XL s).1=(WX as).foldl Jk s.1:=by
  intro as
  induction as with
  | nil=>intro s;rfl
  | cons a as ih =>
   intro s;have e:(XL s a).1=((Jw a).flatMap Row.guards).foldl Jk s.1:=rows _ _;simp only[List.foldl_cons,WX,List.flatMap_cons,List.foldl_append] at ih ⊢;rw[ih,e]
 exact acts as _
theorem JmT:JbC X7:=⟨by decide,by decide⟩
theorem Jhu {as:List (List Jd)} (h:QA as=true):Jb as=(WX as).foldl Jk X7:=by simp[Jb,h,JiB]
theorem Jce {as:List (List Jd)} (h:QA as=true):Jh as=Vm YV as:=by simp[Jh,h,Jlz]
theorem UK {α:Type} (p:α→Bool) (l:List α):(YY p l = -1∧l.any p=false)∨∃ (i:Nat) (x:α),YY p l=i∧l[i]? = some x∧p x=true∧(l.take i).any p=false:=by
 unfold YY;cases h:l.findIdx? p with
 | none =>
  left;rw[List.findIdx?_eq_none_iff] at h;refine⟨rfl,?_⟩;rw[List.any_eq_false];intro x hx;rw[h x hx];simp
 | some i =>
  right;obtain⟨h1,h2,h3⟩:=List.findIdx?_eq_some_iff_getElem.1 h;refine⟨i,l[i],rfl,by simp[h1],h2,?_⟩;rw[List.any_eq_false];intro x hx;obtain⟨j,hj⟩:=List.mem_iff_getElem?.1 hx;rw[List.getElem?_take] at hj;split at hj
  ·rename_i hji;obtain⟨h4,h5⟩:=Jra.1 hj;rw[←h5];exact h3 j hji
  ·cases hj
def nz (x:Int):Bool:=!decide (x=0)
theorem JhF {c:List Int} (h:c.any nz=false):Ji c=c:=by
 have hz :∀x∈c,x=0:=by
  intro x hx;rw[List.any_eq_false] at h;have:=h x hx;simpa[nz] using this
 unfold Ji
 conv=>rhs;rw[←List.map_id c]
 apply Jrv;intro x hx;rw[hz x hx];simp
theorem JgR {c:List Int} {i:Nat} {x:Int} (hx:c[i]? = some x) (hn:nz x=true) (ht:(c.take i).any nz=false):Yn c=if 0<x then 1 else -1:=by
 induction c generalizing i with
 | nil=>simp at hx
 | cons y c ih =>
  have hx0:x≠0:=by simpa[nz] using hn
  cases i with
  | zero =>
   simp only[List.getElem?_cons_zero,Jq8] at hx;subst hx;simp only[Yn];split
   ·rfl
   ·rw[if_pos (by omega)]
  | succ i =>
   simp only[List.getElem?_cons_succ] at hx;simp only[List.take_succ_cons,List.any_cons,Bool.or_eq_false_iff] at ht;have hy:y=0:=by simpa[nz] using ht.1
   subst hy;simp only[Yn];rw[if_neg (by omega),if_neg (by omega)];exact ih hx ht.2
end Go.Tm
end
section
namespace Go.Tm
open Go.IntKind (i64)
end Go.Tm
end
section
namespace Go.Tm
open Go.IntKind (i64)
def Jm (g:List Int) (s:Int):Int:=(g.zipIdx.map fun q=>if(q.2:Int)=s then 0 else q.1).sum
theorem Xe {g:List Int} {s:Int} {i:Nat} {x:Int} (h:g[i]? = some x):Jm (g.take (i+1)) s=Jm (g.take i) s+if(i:Int)=s then 0 else x:=by
 have hi:=(Jra.1 h).1;unfold Jm;rw[tS1 h,List.zipIdx_append,List.map_append,List.sum_append];simp[show min i g.length=i by omega]
theorem U6 {g:List Int} {s:Int} (h :∀x∈g,0≤x∧x≤50) (i:Nat) (hi:i≤g.length):0≤Jm (g.take i) s∧Jm (g.take i) s≤50*i:=by
 induction i with
 | zero=>simp[Jm]
 | succ i ih =>
  have ih:=ih (by omega);obtain⟨x,hx,hm⟩:=sA1 (show i<g.length by omega);have:=h x hm;rw[Xe hx];split <;> omega
def J7 (a b:List Int):List Int:=List.zipWith (· + ·) a b
def JB (b g:List Int) (ps:List (List Int)) (s:Int) (a:List Int) (f:Frm) (w:List Int):Int×Int×Bool :=
 if(Qu b g&&QV ps&&inB s 0 (g.length-1)&&Qh a)&&f.ok&&QL w then
  let n:=atF f (J7 b a) w
  if f.c=[0,0,0] then(n,n,true)
  else if Ji f.c∈ps then(n-Jm g s,n+Jm g s,true) else(0,0,false)
 else(0,0,false)
theorem Jik {f:Frm} (h:f.ok=true):Std 10000000 f:=by
 simp only[Frm.ok,Jq9,Jy,JH] at h;exact⟨by omega,by omega,h.1.1.2,h.1.2.2,h.2⟩
theorem Jkw {c:List Int} (h:c.length=3):Ji c=[0,0,0]↔c=[0,0,0]:=by
 constructor
 ·intro hp;rcases UK nz c with ⟨_,ha⟩ | ⟨i,x,_,hx,hnx,ht⟩
  ·rw[JhF ha] at hp;exact hp
  ·have hs:=JgR hx hnx ht;have hm:(Ji c)[i]? = some (Yn c*x):=by simp[Ji,hx]
   rw[hp] at hm;have hz:Yn c*x=0:=by
    match i,hm with
    | 0,hm | 1,hm | 2,hm=>simp at hm;exact hm.symm
    | n+3,hm=>simp at hm
   have hx0:x≠0:=by simpa[nz] using hnx
   rw[hs] at hz;split at hz <;> omega
 ·intro hc;subst hc;decide
theorem Z2 {a b:List Int} (h:b.length=a.length):(J7 a b).length=a.length:=by simp[J7,h]
end Go.Tm
end

import Derived.Test.YtgiejmanbmeloaaGreatDoorTc
import Derived.IntWalk
import Derived.ChangeSame
import Derived.JoinedOf
import Derived.JoinedAt
import Derived.RowKit3
import Derived.ProofKit
import Derived.ChangeSlices
import Derived.Carry
import Derived.Lib.LaidTab
import Derived.Lib.ItoaNum
import Derived.Lib.Itoa
import Derived.LaidMore
import Derived.MakeChecks
import Derived.Stop.LaidErr
set_option linter.unusedVariables false
set_option linter.unusedSimpArgs false
section
namespace Go.Tm
inductive Out where
  | norm
  | exit (id : Nat)
  | ret
def Out.exitOf : Out → Exit
  | .norm => .normal
  | .exit id => .exit id
  | .ret => .ret
structure LoopHint where
  slots : List Tmp := []
  cells : List (Key × Nat) := []
  arrs : List Key := []
  drop : List Tmp := []
  dropk : List Key := []
structure Hint where
  keep : List Tmp := []
  nl : Nat := 0
  own : List (Nat × OwnAt) := []
  loops : List (Nat × LoopHint) := []
  deep : Bool := false
  no : List Tmp := []
  inner : List Nat := []
  bor : List Tmp := []
def Hint.dp (H : Hint) : Oper → Bool := Ghost.dp { deep := H.deep,no := H.no,bor := H.bor }
def Hint.bo (H : Hint) : Oper → Bool := Ghost.bo { deep := H.deep,no := H.no,bor := H.bor }
def genV : SV → Nat → SV × Nat
  | .d (.vi k _),n => (.d (.vi k (.v n)),n + 1)
  | .d (.vb _),n => (.d (.vb (.v n)),n + 1)
  | .d (.s _),n => (.d (.s (.v n)),n + 1)
  | .d (.vc (.slice none 0 0)),n => (.d (.s (.v n)),n + 1)
  | .d _,n => (.d (.da n),n + 1)
  | .o _ _,n => (.d (.s (.v n)),n + 1)
  | .g cs,n => let r := go cs n; (.g r.1,r.2)
  | v,n => (v,n)
where
  go : List SV → Nat → List SV × Nat
    | [],n => ([],n)
    | c :: cs,n => let r := genV c n; let q := go cs r.2; (r.1 :: q.1,q.2)
def reO (k : Key) (l l' : E) : SV → SV
  | .o j x => if j == k && x.same l then .o j l' else .o j x
  | .g cs => .g (go cs)
  | v => v
where
  go : List SV → List SV
    | [] => []
    | c :: cs => reO k l l' c :: go cs
def reObj (k : Key) (l l' : E) : SObj → SObj
  | .box cs => .box (reO.go k l l' cs)
  | o => o
def genArrs : List Key → SSt → Nat → SSt × Nat
  | [],s,n => (s,n)
  | k :: ks,s,n => match s.m.lookup k with
    | some (.arr ty sz l dp rw) =>
      let s' : SSt := ⟨s.sl.map fun p => (p.1,reO k l (.v n) p.2),s.m.map fun p => if p.1 == k then (k,.arr ty sz (.v n) dp rw) else (p.1,reObj k l (.v n) p.2)⟩
      genArrs ks s' (n + 1)
    | _ => genArrs ks s n
def genSlots (vs : List Tmp) : SSl → Nat → SSl × Nat
  | [],n => ([],n)
  | (t,v) :: sl,n => if vs.contains t then let r := genV v n; let q := genSlots vs sl r.2; ((t,r.1) :: q.1,q.2) else let q := genSlots vs sl n; ((t,v) :: q.1,q.2)
def genCells : List (Key × Nat) → SMem → Nat → SMem × Nat
  | [],m,n => (m,n)
  | (k,off) :: cs,m,n => match m.lookup k with
    | some (.box xs) => match xs[off]? with
      | some v => let r := genV v n; genCells cs ((k,.box (xs.set off r.1)) :: m) r.2
      | none => genCells cs m n
    | _ => genCells cs m n
def onceK {α : Type} : List (Nat × α) → List Nat → List (Nat × α)
  | [],_ => []
  | (k,v) :: l,seen => if seen.contains k then onceK l seen else (k,v) :: onceK l (k :: seen)
def genT (h : LoopHint) (s : SSt) (n : Nat) : SSt × Nat :=
  let s := s.fresh
  let s0 : SSt := ⟨(onceK s.sl []).filter fun p => !h.drop.contains p.1,(onceK s.m []).filter fun p => !h.dropk.contains p.1⟩
  let a := genArrs h.arrs s0 n
  let b := genSlots h.slots a.1.sl a.2
  let c := genCells h.cells a.1.m b.2
  (⟨b.1,onceK c.1 []⟩,c.2 - n)
def firstReg : Code → Nat
  | .region id _ _ => id
  | .seq a _ => firstReg a
  | .block _ a => firstReg a
  | .cond _ a _ => firstReg a
  | .loop a => firstReg a
  | _ => 1000000
def ownAll (l : List (Nat × OwnAt)) (id : Nat) (s : SSt) : SSt := l.foldl (fun s o => if o.1 == id then ownAt o.2 s else s) s
def loopHint (H : Hint) (id : Nat) : LoopHint := (H.loops.lookup id).getD {}
def setB (c : Operand) (t : Bool) (s : SSt) : SSt := match c with
  | .tmp d => ⟨(d,.d (.vb (boolE t))) :: s.sl,s.m⟩
  | _ => s
def drawOk (ops : Array Oper) (draw : Bool) (tl : Trs) : Bool := !draw || (sok ops && (un ops).all fun p => apart (tl.getD p.1 []) (tl.getD p.2 []))
mutual
def SV.under (c : Nat) : SV → Bool
  | .d e => e.under c
  | .g cs => sunder c cs
  | .o _ l => l.under c
  | .p _ _ => true
  | .e _ l i _ => l.under c && i.under c
  | .f _ cs => sunder c cs
  | .t cs => sunder c cs
  | .u => true
def sunder (c : Nat) : List SV → Bool
  | [] => true
  | v :: vs => v.under c && sunder c vs
end
def SObj.under (c : Nat) : SObj → Bool
  | .box cs => sunder c cs
  | .arr _ _ l _ _ => l.under c
  | .dead => true
def SSt.under (c : Nat) (s : SSt) : Bool := s.sl.all (fun p => p.2.under c) && s.m.all (fun p => p.2.under c)
mutual
theorem γX_under {c : Nat} {ρ ρ' : Env} (h : agree c ρ ρ') : ∀ v : SV,v.under c = true → γX ρ' v = γX ρ v
  | .d e,hu => by simp only [γX,dat]; rw [under_eq h e (by simpa [SV.under] using hu)]
  | .g cs,hu => by simp only [γX]; rw [γXs_under h cs (by simpa [SV.under] using hu)]
  | .t cs,hu => by simp only [γX]; rw [γXs_under h cs (by simpa [SV.under] using hu)]
  | .f _ cs,hu => by simp only [γX]; rw [γXs_under h cs (by simpa [SV.under] using hu)]
  | .o _ l,hu => by simp only [γX,lst]; rw [under_eq h l (by simpa [SV.under] using hu)]
  | .p _ _,_ => rfl
  | .e _ l i _,hu => by
    simp only [SV.under,Bool.and_eq_true] at hu
    simp only [γX,lst,int]; rw [under_eq h l hu.1,under_eq h i hu.2]
  | .u,_ => rfl
theorem γXs_under {c : Nat} {ρ ρ' : Env} (h : agree c ρ ρ') : ∀ vs : List SV,sunder c vs = true → γXs ρ' vs = γXs ρ vs
  | [],_ => rfl
  | v :: vs,hu => by
    simp only [sunder,Bool.and_eq_true] at hu
    simp only [γXs]; rw [γX_under h v hu.1,γXs_under h vs hu.2]
end
theorem γO_under {c : Nat} {ρ ρ' : Env} (h : agree c ρ ρ') (o : SObj) (hu : o.under c = true) : γO ρ' o = γO ρ o := by
  cases o with
  | box cs => simp only [γO]; rw [γXs_under h cs hu]
  | arr ty sz l dp rw => simp only [γO,lst]; rw [under_eq h l hu]
  | dead => rfl
theorem under_st {c : Nat} {ρ ρ' : Env} (h : agree c ρ ρ') {s : SSt} (hu : s.under c = true) : γs ρ' s.sl = γs ρ s.sl ∧ γm ρ' s.m = γm ρ s.m := by
  unfold SSt.under at hu
  simp only [Bool.and_eq_true] at hu
  refine ⟨?_,?_⟩
  · funext t
    unfold γs
    cases hl : s.sl.lookup t with
    | none => rfl
    | some v => exact γX_under h v (List.all_eq_true.1 hu.1 (t,v) (lookup_mem _ _ _ hl))
  · funext k
    unfold γm
    cases hl : s.m.lookup k with
    | none => rfl
    | some v => simp only [Option.map_some]; rw [γO_under h v (List.all_eq_true.1 hu.2 (k,v) (lookup_mem _ _ _ hl))]
def isDead (ops : Array Oper) : Bool := ops.toList.any fun o => o.guard.isNone && (match o.op with | .panic _ => true | _ => false)
def nilLast (P : Program) (ops : Array Oper) (draw : Bool) : Option (Tmp × Operand) := if draw then none else match ops[ops.size - 1]? with
  | some ⟨some d,.binOp .eql t x (.const (.slice none 0 0)) _,_,_,_,none⟩ => match P.underlying t with
    | some (.slice _) => some (d,x)
    | _ => none
  | _ => none
def sxC (P : Program) (sg : FuncId → Option Sig) (H : Hint) : Code → SSt → Nat → (Out → SSt → Nat → Option R) → Option R
  | .skip,s,n,k => k .norm s n
  | .region id ops draw,s,n,k => if isDead ops then some (.i (.chk .ff) (.done [])) else
    let s := ownAll H.own id s
    match if H.inner.contains id && !draw then innerLast ops else none with
    | some q => sxOps P sg H.dp H.bo ops (List.range' 0 (ops.size - 4)) s.sl s.m n [] fun sl m n _ => match sxInner P sg q sl m n with
      | some r => match k .norm ⟨pruneSl H.keep r.2.1,r.2.2.1⟩ r.2.2.2 with
        | some x => some (wrapI r.1 x)
        | none => none
      | none => none
    | none =>
    match nilLast P ops draw with
    | none => sxOps P sg H.dp H.bo ops (List.range' 0 ops.size) s.sl s.m n [] fun sl m n tl =>
      match drawOk ops draw tl with
      | true => k .norm ⟨pruneSl H.keep sl,m⟩ n
      | false => none
    | some (d,x) => sxOps P sg H.dp H.bo ops (List.range' 0 (ops.size - 1)) s.sl s.m n [] fun sl m n _ => match sop sl x with
      | .d (.s l) => if SSt.under n ⟨sl,m⟩ then match k .norm ⟨pruneSl H.keep ((d,.d (.vb .tt)) :: sl),m⟩ n,k .norm ⟨pruneSl H.keep ((d,.d (.vb .ff)) :: sl),m⟩ n with
        | some x,some y => some (.nilq n l x y)
        | _,_ => none
        else none
      | _ => none
  | .seq a b,s,n,k => sxC P sg H a s n fun o s' n' => match o with
    | .norm => sxC P sg H b s' n' k
    | o => k o s' n'
  | .cond c a b,s,n,k => match sop s.sl c with
    | .d (.vb e) => match e.known with
      | some true => sxC P sg H a s n k
      | some false => sxC P sg H b s n k
      | none => match sxC P sg H a (setB c true s) n k,sxC P sg H b (setB c false s) n k with
        | some x,some y => some (.ite e x y)
        | _,_ => none
    | _ => none
  | .block id a,s,n,k => sxC P sg H a s n fun o s' n' => match o with
    | .exit j => if j = id then k .norm s' n' else k (.exit j) s' n'
    | o => k o s' n'
  | .loop a,s,n,k =>
    let s := ownAll H.own (firstReg a) s
    let t := genT (loopHint H (firstReg a)) s n
    match matchSt n t.2 t.1 (SSt.like H.nl t.1 s) H.nl with
    | none => none
    | some init => match sxC P sg H a t.1 (n + t.2) (fun o s' n' => match o with
        | .norm => match matchSt n t.2 t.1 (SSt.like H.nl t.1 s') H.nl with
          | some vs => some (.next vs)
          | none => none
        | o => match k o s' n' with
          | some r => some (.esc r)
          | none => none) with
      | some body => some (.loop n init body)
      | none => none
  | .exit id,s,n,k => k (.exit id) s n
  | .ret,s,n,k => k .ret s n
  | _,_,_,_ => none
section
variable {B : Tb} {ρ : Env} {sg : FuncId → Option Sig} {P : Program} {G : Ghost} {N : Nat}
theorem SMP.run_mono {α : Type} : ∀ (p : SMP α) (m : SMem) (n : Nat) (r : SOut α),p.run m n = some r → n ≤ r.n
  | .ret a,m,n,r,h => by simp only [SMP.run,Option.some.injEq] at h; subst h; exact Nat.le_refl _
  | .fail,_,_,_,h => by cases h
  | .get k c,m,n,r,h => by
    simp only [SMP.run] at h
    split at h
    · split at h
      · rename_i r1 h1
        simp only [Option.some.injEq] at h; subst h
        show n ≤ r1.n
        exact SMP.run_mono _ _ _ r1 h1
      · cases h
    · cases h
  | .put k o c,m,n,r,h => by
    simp only [SMP.run] at h
    split at h
    · split at h
      · rename_i r1 h1
        simp only [Option.some.injEq] at h; subst h
        show n ≤ r1.n
        exact SMP.run_mono _ _ _ r1 h1
      · cases h
    · cases h
  | .new k o c,m,n,r,h => by
    simp only [SMP.run] at h
    split at h
    · cases h
    · split at h
      · rename_i r1 h1
        simp only [Option.some.injEq] at h; subst h
        show n ≤ r1.n
        exact SMP.run_mono _ _ _ r1 h1
      · cases h
  | .ask i j c,m,n,r,h => by
    simp only [SMP.run] at h
    split at h
    · rename_i r1 h1
      simp only [Option.some.injEq] at h; subst h
      have := SMP.run_mono _ _ _ _ h1
      show n ≤ r1.n
      omega
    · cases h
theorem sxOps_mono {dp bo : Oper → Bool} {ops : Array Oper} (n0 : Nat) (k k' : SSl → SMem → Nat → Trs → Option R) (hk : ∀ sl m n t,n0 ≤ n → k sl m n t = k' sl m n t) : ∀ (l : List Nat) (sl : SSl) (m : SMem) (n : Nat) (trs : Trs),n0 ≤ n →
    sxOps P sg dp bo ops l sl m n trs k = sxOps P sg dp bo ops l sl m n trs k'
  | [],sl,m,n,trs,h => hk _ _ _ _ h
  | i :: l, sl, m, n, trs, h => by
    have ih := sxOps_mono (dp := dp) (bo := bo) (ops := ops) n0 k k' hk l
    simp only [sxOps]
    cases ops[i]? with
    | none => rfl
    | some o =>
      dsimp only
      generalize swanted ops sl o = wt
      cases wt with
      | yes =>
        simp only [if_true]
        cases hr : (sopM P sg (dp o) (bo o) o sl).run m n with
        | none => rfl
        | some r =>
          simp only
          rw [ih _ _ _ _ (Nat.le_trans h (SMP.run_mono _ _ _ _ hr))]
      | no => simp only [Bool.false_eq_true,if_false]; rw [ih _ _ _ _ h]
      | bad => rfl
      | fork d b want =>
        cases want with
        | true =>
          simp only [Bool.not_true,Bool.false_eq_true,if_false,if_true]
          rw [ih _ _ _ _ h]
          cases hr : (sopM P sg (dp o) (bo o) o ((d,.d (.vb .tt)) :: sl)).run m n with
          | none => rfl
          | some r =>
            simp only
            rw [ih _ _ _ _ (Nat.le_trans h (SMP.run_mono _ _ _ _ hr))]
        | false =>
          simp only [Bool.not_false,Bool.false_eq_true,if_false,if_true]
          rw [ih _ _ _ _ h]
          cases hr : (sopM P sg (dp o) (bo o) o ((d,.d (.vb .ff)) :: sl)).run m n with
          | none => rfl
          | some r =>
            simp only
            rw [ih _ _ _ _ (Nat.le_trans h (SMP.run_mono _ _ _ _ hr))]
theorem nilLast_ok {ops : Array Oper} {draw : Bool} {d : Tmp} {x : Operand} (h : nilLast P ops draw = some (d,x)) :
    0 < ops.size ∧ draw = false ∧ ∃ t : TypeId,(∃ e,P.underlying t = some (.slice e)) ∧ ∃ o,ops[ops.size - 1]? = some o ∧ o.dst = some d ∧ o.guard = none ∧ ∃ y,o.op = .binOp .eql t x (.const (.slice none 0 0)) y := by
  unfold nilLast at h
  split at h
  · cases h
  · rename_i hd
    have hd : draw = false := by simpa using hd
    split at h
    · rename_i d' t x' y ty pos af ho
      split at h
      · rename_i e he
        simp only [Option.some.injEq,Prod.mk.injEq] at h
        obtain ⟨rfl,rfl⟩ := h
        have hlt := (Array.getElem?_eq_some_iff.1 ho).1
        exact ⟨by omega,hd,t,⟨e,he⟩,_,ho,rfl,rfl,_,rfl⟩
      · cases h
    · cases h
theorem eq_nil {t e : TypeId} (h : P.underlying t = some (.slice e)) (A : Option Addr) (l cap : Nat) : pureOf P (Op.equal t (.slice A l cap) (.slice none 0 0)) = some A.isNone := by
  show pureOf P (Op.equalIn (9999 + 1) t _ _) = _
  unfold Op.equalIn
  rw [pureOf_bind,pureOf_underlying h]
  cases A <;> rfl
theorem nil_exec {a : Act} {w : World} {o : Oper} {t : TypeId} {x : Operand} {A : Option Addr} {l cap : Nat} (ht : ∃ e,P.underlying t = some (.slice e)) (ho : ∃ y,o.op = .binOp .eql t x (.const (.slice none 0 0)) y) (hA : a.eval x = .slice A l cap) :
    (execOp a.eval o).run P w = .ok (.value (.bool A.isNone)) w := by
  obtain ⟨e,ht⟩ := ht
  obtain ⟨y,ho⟩ := ho
  have h1 : pureOf P (do eqGuard .eql t x (.const (.slice none 0 0)) (.slice A l cap) (.slice none 0 0); binOp .eql t (.slice A l cap) (.slice none 0 0)) = some (.bool A.isNone) := by
    show pureOf P (Op.equal t (.slice A l cap) (.slice none 0 0) >>= fun r => pure (Value.bool r)) = _
    rw [pureOf_bind,eq_nil ht]; rfl
  have h2 := pureOf_run _ _ w h1
  have hc : a.eval (.const (.slice none 0 0)) = .slice none 0 0 := rfl
  unfold execOp; rw [ho]
  simp only [hA,hc,Sem.run_bind] at h2 ⊢
  rw [h2]; rfl
theorem evOps_then {T : Tab} {G : Ghost} {ops : Array Oper} {c : Cx P} {Q : Exit → Act → World → Prop} (hT : TabAt c T) : ∀ (l l2 : List Nat) (st st' : St) (g : Gh) (a : Act) (w : World),Sim c g st.m w → Held c g st.m w st.sl a → dstOk a.tmps.size ops = true → evOps P T G ops l st = some st' →
    (∀ a' w' g',Sim c g' st'.m w' → Held c g' st'.m w' st'.sl a' → Compat c g st.m w g' st'.m w' → a'.defers = a.defers → a'.tmps.size = a.tmps.size → wpOps P ops Q l2 a' w') → wpOps P ops Q (l ++ l2) a w
  | [],l2,st,st',g,a,w,hS,hsl,_,h,hQ => by
    simp only [evOps,Option.some.injEq] at h; subst h
    exact hQ a w g hS hsl (.refl _ _ _ _) rfl rfl
  | i :: l,l2,st,st',g,a,w,hS,hsl,hd,h,hQ => by
    simp only [evOps] at h
    split at h
    · rename_i st1 h1
      rw [List.cons_append,wpOps_cons]
      refine evOp_sound hT hS hsl hd h1 fun a' w' g' hS' hsl' hC1 e1 e2 => ?_
      refine evOps_then hT l l2 st1 st' g' a' w' hS' hsl' (by rw [e2]; exact hd) h fun a'' w'' g'' h3 h4 hC2 h5 h6 => hQ a'' w'' g'' h3 h4 (hC1.trans hC2) (h5.trans e1) (h6.trans e2)
    · cases h
theorem sop_bool {s : SSt} {c : Operand} {e : E} (h : sop s.sl c = .d (.vb e)) : opX (γs ρ s.sl) c = X.d (.v (.bool (bol ρ e))) := by
  rw [sop_ok,h]; rfl
theorem setB_ok {s : SSt} {c : Operand} {e : E} {t : Bool} (h : sop s.sl c = .d (.vb e)) (hk : e.known = none) (ht : bol ρ e = t) : γs ρ (setB c t s).sl = γs ρ s.sl ∧ (setB c t s).m = s.m := by
  cases c with
  | tmp d =>
    refine ⟨?_,rfl⟩
    have hl : s.sl.lookup d = some (.d (.vb e)) := by
      simp only [sop] at h
      cases hl : s.sl.lookup d with
      | none => rw [hl] at h; cases h
      | some v => rw [hl] at h; exact congrArg some h
    exact γs_know hl ht
  | _ => exact ⟨rfl,rfl⟩
theorem ownAll_ok {c : Cx P} {w : World} {a : Act} (id : Nat) {g0 : Gh} {m0 : Mem} {w0 : World} : ∀ (l : List (Nat × OwnAt)) (s : SSt) (g : Gh),Sim c g (γm ρ s.m) w → Held c g (γm ρ s.m) w (γs ρ s.sl) a → Compat c g0 m0 w0 g (γm ρ s.m) w →
    ∃ g',Sim c g' (γm ρ (ownAll l id s).m) w ∧ Held c g' (γm ρ (ownAll l id s).m) w (γs ρ (ownAll l id s).sl) a ∧ Compat c g0 m0 w0 g' (γm ρ (ownAll l id s).m) w
  | [],s,g,hS,hH,hC => ⟨g,hS,hH,hC⟩
  | o :: l,s,g,hS,hH,hC => by
    unfold ownAll
    simp only [List.foldl_cons]
    by_cases ho : (o.1 == id) = true
    · rw [if_pos ho]
      obtain ⟨g',h1,h2,h3⟩ := ownAt_ok o.2 hS hH hC
      exact ownAll_ok id l _ g' h1 h2 h3
    · rw [if_neg ho]
      exact ownAll_ok id l _ g hS hH hC
theorem agree.trans {c : Nat} {ρ1 ρ2 ρ3 : Env} (h : agree c ρ1 ρ2) (h' : agree c ρ2 ρ3) : agree c ρ1 ρ3 := fun j hj => (h' j hj).trans (h j hj)
theorem agree.le {c d : Nat} {ρ1 ρ2 : Env} (h : agree d ρ1 ρ2) (hc : c ≤ d) : agree c ρ1 ρ2 := fun j hj => h j (by omega)
theorem agree.rfl' {c : Nat} {ρ : Env} : agree c ρ ρ := fun _ _ => rfl
theorem agree.symm {c : Nat} {ρ1 ρ2 : Env} (h : agree c ρ1 ρ2) : agree c ρ2 ρ1 := fun j hj => (h j hj).symm
theorem sxC_ok (hB : BOk sg B) {c : Cx P} (hT : TabAt c (tabOf sg B)) (hm : P.follows .mixedOrders = true) (H : Hint) {g0 : Gh} {m0 : Mem} {w0 : World} (hl : ∀ k,m0 k ≠ none → k < H.nl) :
    ∀ (C : Code) (s : SSt) (n : Nat) (k : Out → SSt → Nat → Option R) (R : R) (ρ : Env) (o : Oc) (a : Act) (w : World) (g : Gh) (Q : Exit → Act → World → Prop),
    sxC P sg H C s n k = some R → Run B N R ρ o → Sim c g (γm ρ s.m) w → Held c g (γm ρ s.m) w (γs ρ s.sl) a → Compat c g0 m0 w0 g (γm ρ s.m) w → codeOk a.tmps.size C = true →
    (∀ ex s' n' R' ρ' a' w' g',n ≤ n' → agree n ρ ρ' → k ex s' n' = some R' → Run B N R' ρ' o → Sim c g' (γm ρ' s'.m) w' → Held c g' (γm ρ' s'.m) w' (γs ρ' s'.sl) a' → Compat c g0 m0 w0 g' (γm ρ' s'.m) w' → a'.defers = a.defers → a'.tmps.size = a.tmps.size → Q ex.exitOf a' w') →
    C.wp P Q a w := by
  intro C
  induction C with
  | skip =>
    intro s n k R ρ o a w g Q h hr hS hH hC hc hQ
    exact wp_skip (hQ .norm s n R ρ a w g (Nat.le_refl _) agree.rfl' h hr hS hH hC rfl rfl)
  | exit id =>
    intro s n k R ρ o a w g Q h hr hS hH hC hc hQ
    exact wp_exit (hQ (.exit id) s n R ρ a w g (Nat.le_refl _) agree.rfl' h hr hS hH hC rfl rfl)
  | ret =>
    intro s n k R ρ o a w g Q h hr hS hH hC hc hQ
    exact wp_ret (hQ .ret s n R ρ a w g (Nat.le_refl _) agree.rfl' h hr hS hH hC rfl rfl)
  | region id ops draw =>
    intro s n k R ρ o a w g Q h hr hS hH hC hc hQ
    simp only [sxC] at h
    split at h
    · simp only [Option.some.injEq] at h
      subst h
      obtain ⟨h1,_⟩ := hr
      exact absurd h1 (by simp [I.holds,bol,den,V.bool])
    obtain ⟨g1,hS1,hH1,hC1⟩ := ownAll_ok id H.own s g hS hH hC
    generalize ownAll H.own id s = s1 at *
    cases hin : (if H.inner.contains id && !draw then innerLast ops else none) with
    | some q =>
      rw [hin] at h
      simp only at h
      have hq : draw = false ∧ innerLast ops = some q := by
        split at hin
        · rename_i hcc
          simp only [Bool.and_eq_true,Bool.not_eq_true'] at hcc
          exact ⟨hcc.2,hin⟩
        · cases hin
      obtain ⟨rfl,hq⟩ := hq
      rw [sxOps_mono n _ (fun sl m n' tl => if n ≤ n' then (match sxInner P sg q sl m n' with
        | some r => match k .norm ⟨pruneSl H.keep r.2.1,r.2.2.1⟩ r.2.2.2 with
          | some x => some (wrapI r.1 x)
          | none => none
        | none => none) else none)
        (fun sl m n' t hn => by rw [if_pos hn]) _ _ _ _ _ (Nat.le_refl n)] at h
      obtain ⟨sl',m',n',tl,R',e1,e2,e3⟩ := sxOps_ok (G := { deep := H.deep,no := H.no,bor := H.bor }) (N := N) (ρ := ρ) hB _ _ _ _ _ _ R o h hr
      split at e2
      · rename_i hn
        split at e2
        · rename_i r hsx
          obtain ⟨is,sl2,m2,n2⟩ := r
          split at e2
          · rename_i R2 hk2
            simp only [Option.some.injEq] at e2; subst e2
            obtain ⟨his,hr2⟩ := run_wrap _ _ _ e3
            have hn2 : n' ≤ n2 := sxInner_mono (fun p m n r h => SMP.run_mono p m n r h) hsx
            refine wp_region ?_
            have hsz4 : 4 ≤ ops.size := by
              unfold innerLast at hq
              split at hq
              · split at hq
                · split at hq
                  · rename_i hc4; exact hc4.1
                  · cases hq
                · cases hq
              · cases hq
            have hrange : List.range ops.size = List.range' 0 (ops.size - 4) ++ [ops.size - 4,ops.size - 3,ops.size - 2,ops.size - 1] := by
              rw [List.range_eq_range']
              have : ops.size = (ops.size - 4) + 1 + 1 + 1 + 1 := by omega
              conv => lhs; rw [this,List.range'_concat,List.range'_concat,List.range'_concat,List.range'_concat]
              simp only [List.append_assoc,List.singleton_append,Nat.zero_add,Nat.one_mul,List.append_cancel_left_eq]
              rw [show ops.size - 3 = ops.size - 4 + 1 by omega,show ops.size - 2 = ops.size - 4 + 2 by omega,show ops.size - 1 = ops.size - 4 + 3 by omega]
              rfl
            rw [hrange]
            refine evOps_then hT _ [ops.size - 4,ops.size - 3,ops.size - 2,ops.size - 1] _ _ _ _ _ hS1 hH1 hc (evOps_of_T (G := { deep := H.deep,no := H.no,bor := H.bor }) _ _ _ _ e1) fun a' w' g' hS2 hH2 hC2 hd2 hz2 => ?_
            have hc' : dstOk a'.tmps.size ops = true := by rw [hz2]; exact hc
            refine (sxInner_ok hB hT hS2 hH2 hc' hq hsx his fun a'' w'' g'' h1 h2 h3 h4 h5 => ?_).2
            exact hQ .norm _ n2 R2 ρ a'' w'' g'' (Nat.le_trans hn hn2) agree.rfl' hk2 hr2 h1 (prune_ok H.keep h2) ((hC1.trans hC2).trans h3) (h4.trans hd2) (h5.trans hz2)
          · cases e2
        · cases e2
      · cases e2
    | none =>
    rw [hin] at h
    simp only at h
    cases hnl : nilLast P ops draw with
    | some dx =>
      obtain ⟨d,x⟩ := dx
      rw [hnl] at h
      simp only at h
      obtain ⟨ho,hdr,t,ht,o0,hop,hod,hog,hopp⟩ := nilLast_ok hnl
      subst hdr
      rw [sxOps_mono n _ (fun sl m n' tl => if n ≤ n' then (match sop sl x with
        | .d (.s l) => if SSt.under n' ⟨sl,m⟩ then match k .norm ⟨pruneSl H.keep ((d,.d (.vb .tt)) :: sl),m⟩ n',k .norm ⟨pruneSl H.keep ((d,.d (.vb .ff)) :: sl),m⟩ n' with
          | some x,some y => some (.nilq n' l x y)
          | _,_ => none
          else none
        | _ => none) else none)
        (fun sl m n' t hn => by rw [if_pos hn]) _ _ _ _ _ (Nat.le_refl n)] at h
      obtain ⟨sl',m',n',tl,R',e1,e2,e3⟩ := sxOps_ok (G := { deep := H.deep,no := H.no,bor := H.bor }) (N := N) (ρ := ρ) hB _ _ _ _ _ _ R o h hr
      split at e2
      · rename_i hn
        split at e2
        · rename_i l hl
          split at e2
          · rename_i hund
            split at e2
            · rename_i R1 R2 hk1 hk2
              simp only [Option.some.injEq] at e2; subst e2
              obtain ⟨⟨ρy,hay,hry⟩,hx⟩ := e3
              refine wp_region ?_
              have hrange : List.range ops.size = List.range' 0 (ops.size - 1) ++ [ops.size - 1] := by
                rw [List.range_eq_range']
                have : ops.size = (ops.size - 1) + 1 := by omega
                conv => lhs; rw [this,List.range'_concat]
                simp
              rw [hrange]
              refine evOps_then hT _ [ops.size - 1] _ _ _ _ _ hS1 hH1 hc (evOps_of_T (G := { deep := H.deep,no := H.no,bor := H.bor }) _ _ _ _ e1) fun a' w' g' hS2 hH2 hC2 hd2 hz2 => ?_
              rw [wpOps_cons]
              have hv := oX1 hH2 x
              rw [sop_ok,hl] at hv
              obtain ⟨fp,⟨A,cap,hA,hle,hrest⟩,hok⟩ := hv
              have hexec : (execOp a'.eval o0).run P w' = .ok (.value (.bool A.isNone)) w' := nil_exec ht hopp hA
              have hdlt : d < a'.tmps.size := by
                have h0 : dstOk a.tmps.size ops = true := hc
                have := Array.all_eq_true_iff_forall_mem.1 h0 o0 (Array.mem_of_getElem? hop)
                rw [hod] at this
                rw [hz2]; simpa using this
              unfold wpOp
              rw [hop]
              have hwant : Region.wanted o0 (yielded ops a'.tmps) = true := by unfold Region.wanted; rw [hog]
              simp only [hwant,if_true]
              refine .inl ?_
              unfold Oper.wp
              rw [hexec]
              show wpOps P ops Q [] (a'.put o0.dst (.bool A.isNone)) w'
              have hput : ∀ (tb : Bool),A.isNone = tb → Held c g' (γm ρ m') w' (γs ρ ((d,.d (.vb (boolE tb))) :: sl')) (a'.put o0.dst (.bool A.isNone)) := by
                intro tb htb
                rw [γs_cons,htb]
                have := Held.put (o := o0) (x := γX ρ (.d (.vb (boolE tb)))) (v := .bool tb) hH2 (.refl _ _ _ _) (fun d' hd' => by rw [hod] at hd'; cases hd'; exact hdlt) (by
                  show VX c g' _ w' (X.d (.v (.bool (bol ρ (boolE tb))))) _
                  have : bol ρ (boolE tb) = tb := by cases tb <;> rfl
                  rw [this]; exact ⟨[],⟨rfl,rfl,rfl⟩,fun b hb => by simp at hb⟩)
                rw [hod] at this ⊢
                exact this
              have hC3 := hC1.trans hC2
              have fin : ∀ (tb : Bool) (Rb : Go.Tm.R) (ρb : Env),A.isNone = tb → agree n' ρ ρb → k .norm ⟨pruneSl H.keep ((d,.d (.vb (boolE tb))) :: sl'),m'⟩ n' = some Rb → Run B N Rb ρb o → Q .normal (a'.put o0.dst (.bool A.isNone)) w' := by
                intro tb Rb ρb htb hab hkb hrb
                have hund2 : SSt.under n' ⟨(d,.d (.vb (boolE tb))) :: sl',m'⟩ = true := by
                  unfold SSt.under at hund ⊢
                  simp only [Bool.and_eq_true,List.all_cons] at hund ⊢
                  exact ⟨⟨by cases tb <;> rfl,hund.1⟩,hund.2⟩
                obtain ⟨u1,u2⟩ := under_st hab hund2
                refine hQ .norm _ n' Rb ρb _ w' g' hn (hab.le hn) hkb hrb (by rw [u2]; exact hS2) (prune_ok H.keep ?_) (by rw [u2]; exact hC3) ((put_defers _ _ _).trans hd2) ((put_size _ _ _).trans hz2)
                rw [u2]
                show Held c g' _ w' (γs ρb ((d,.d (.vb (boolE tb))) :: sl')) _
                rw [u1]
                exact hput tb htb
              cases hA' : A.isNone with
              | true =>
                have hnil : lst ρ l = [] := by
                  rcases hrest with ⟨h1,_⟩ | ⟨b,o,sz,fp',h1,_⟩
                  · exact h1
                  · rw [h1] at hA'; cases hA'
                obtain ⟨ρx,hax,hrx⟩ := hx hnil
                have := fin true R1 ρx hA' hax hk1 hrx
                rw [hA'] at this; exact this
              | false =>
                have := fin false R2 ρy hA' hay hk2 hry
                rw [hA'] at this; exact this
            · cases e2
          · cases e2
        · cases e2
      · cases e2
    | none =>
    rw [hnl] at h
    simp only at h
    rw [sxOps_mono n _ (fun sl m n' tl => if n ≤ n' then (match drawOk ops draw tl with | true => k .norm ⟨pruneSl H.keep sl,m⟩ n' | false => none) else none)
      (fun sl m n' t hn => by rw [if_pos hn]) _ _ _ _ _ (Nat.le_refl n)] at h
    obtain ⟨sl',m',n',tl,R',e1,e2,e3⟩ := sxOps_ok (G := { deep := H.deep,no := H.no,bor := H.bor }) (N := N) (ρ := ρ) hB _ _ _ _ _ _ R o h hr
    simp only [List.reverse_nil,List.nil_append] at e2
    split at e2
    · rename_i hn
      cases hd : drawOk ops draw tl with
      | false => rw [hd] at e2; cases e2
      | true =>
        rw [hd] at e2
        have hreg : evRegion P (tabOf sg B) { deep := H.deep,no := H.no,bor := H.bor } id ops draw ⟨γs ρ s1.sl,γm ρ s1.m⟩ = some ⟨γs ρ sl',γm ρ m'⟩ := by
          unfold evRegion
          cases draw with
          | false =>
            simp only [Bool.false_eq_true,if_false]
            exact evOps_of_T _ _ _ _ e1
          | true =>
            simp only [if_true,e1]
            unfold drawOk at hd
            simp only [Bool.not_true,Bool.false_or] at hd
            simp only [hd,if_true]
        refine region_sound hT hm (g0 := g0) (m0 := m0) (w0 := w0) hC1 hS1 hH1 hc hreg fun a' w' g' h1 h2 h3 h4 h5 => ?_
        exact hQ .norm _ n' R' ρ a' w' g' hn agree.rfl' e2 e3 h1 (prune_ok H.keep h2) h3 h4 h5
    · cases e2
  | seq x y ihx ihy =>
    intro s n k R ρ o a w g Q h hr hS hH hC hc hQ
    simp only [codeOk,Bool.and_eq_true] at hc
    simp only [sxC] at h
    refine wp_seq ?_
    refine ihx s n _ R ρ o a w g _ h hr hS hH hC hc.1 fun ex s' n' R' ρ' a' w' g' hn hag hk hr' hS' hH' hC' hd hz => ?_
    cases ex with
    | norm =>
      refine ihy s' n' k R' ρ' o a' w' g' Q hk hr' hS' hH' hC' (by rw [hz]; exact hc.2) fun ex s2 n2 R2 ρ2 a2 w2 g2 hn2 hag2 hk2 hr2 hS2 hH2 hC2 hd2 hz2 => ?_
      exact hQ ex s2 n2 R2 ρ2 a2 w2 g2 (Nat.le_trans hn hn2) (hag.trans (hag2.le hn)) hk2 hr2 hS2 hH2 hC2 (hd2.trans hd) (hz2.trans hz)
    | exit id => exact hQ (.exit id) s' n' R' ρ' a' w' g' hn hag hk hr' hS' hH' hC' hd hz
    | ret => exact hQ .ret s' n' R' ρ' a' w' g' hn hag hk hr' hS' hH' hC' hd hz
  | cond b x y ihx ihy =>
    intro s n k R ρ o a w g Q h hr hS hH hC hc hQ
    simp only [codeOk,Bool.and_eq_true] at hc
    simp only [sxC] at h
    split at h
    · rename_i e he
      have hv := oX1 hH b
      rw [sop_bool he] at hv
      have hv := (VX_v_eq hv).1
      refine wp_cond hv ?_
      split at h
      · rename_i hk
        rw [known_ok hk]
        simp only [if_true]
        exact ihx s n k R ρ o a w g Q h hr hS hH hC hc.1 hQ
      · rename_i hk
        rw [known_ok hk]
        simp only [Bool.false_eq_true,if_false]
        exact ihy s n k R ρ o a w g Q h hr hS hH hC hc.2 hQ
      · rename_i hk
        split at h
        · rename_i x' y' hx hy
          simp only [Option.some.injEq] at h; subst h
          simp only [Run] at hr
          cases hb : bol ρ e with
          | true =>
            rw [hb] at hr
            simp only [if_true] at hr ⊢
            obtain ⟨e1,e2⟩ := setB_ok (t := true) he hk hb
            exact ihx _ n k x' ρ o a w g Q hx hr (by rw [e2]; exact hS) (by rw [e1,e2]; exact hH) (by rw [e2]; exact hC) hc.1 hQ
          | false =>
            rw [hb] at hr
            simp only [Bool.false_eq_true,if_false] at hr ⊢
            obtain ⟨e1,e2⟩ := setB_ok (t := false) he hk hb
            exact ihy _ n k y' ρ o a w g Q hy hr (by rw [e2]; exact hS) (by rw [e1,e2]; exact hH) (by rw [e2]; exact hC) hc.2 hQ
        · cases h
    · cases h
  | block id x ih =>
    intro s n k R ρ o a w g Q h hr hS hH hC hc hQ
    simp only [codeOk] at hc
    simp only [sxC] at h
    refine wp_block ?_
    refine ih s n _ R ρ o a w g _ h hr hS hH hC hc fun ex s' n' R' ρ' a' w' g' hn hag hk hr' hS' hH' hC' hd hz => ?_
    cases ex with
    | norm => exact hQ .norm s' n' R' ρ' a' w' g' hn hag hk hr' hS' hH' hC' hd hz
    | ret => exact hQ .ret s' n' R' ρ' a' w' g' hn hag hk hr' hS' hH' hC' hd hz
    | exit j =>
      simp only at hk
      split at hk
      · rename_i hj
        have := hQ .norm s' n' R' ρ' a' w' g' hn hag hk hr' hS' hH' hC' hd hz
        simpa [Exit.inBlock,Out.exitOf,hj] using this
      · rename_i hj
        have := hQ (.exit j) s' n' R' ρ' a' w' g' hn hag hk hr' hS' hH' hC' hd hz
        simpa [Exit.inBlock,Out.exitOf,hj] using this
  | loop x ih =>
    intro s n k R ρ o a w g Q h hr hS hH hC hc hQ
    simp only [codeOk] at hc
    simp only [sxC] at h
    obtain ⟨g1,hS1,hH1,hC1⟩ := ownAll_ok (firstReg x) H.own s g hS hH hC
    generalize ownAll H.own (firstReg x) s = s1 at *
    generalize genT (loopHint H (firstReg x)) s1 n = t at *
    split at h
    · cases h
    · rename_i init hinit
      split at h
      · rename_i body hbody
        simp only [Option.some.injEq] at h; subst h
        simp only [Run] at hr
        refine wp_loop_rounds N ?_
        have key : ∀ (j : Nat) (vs : List V) (g : Gh) (a' : Act) (w : World),LoopRel (fun vs o1 => ∃ ρ',agree n ρ ρ' ∧ setAt n vs ρ' ∧ Run B N body ρ' o1) j vs o →
            (∀ ρ',agree n ρ ρ' → setAt n vs ρ' → Sim c g (γm ρ' t.1.m) w ∧ Held c g (γm ρ' t.1.m) w (γs ρ' t.1.sl) a' ∧ Compat c g0 m0 w0 g (γm ρ' t.1.m) w) →
            a'.defers = a.defers → a'.tmps.size = a.tmps.size → Code.rounds P x Q j a' w := by
          intro j
          induction j with
          | zero => intro vs g a' w hrel; exact hrel.elim
          | succ j ihj =>
            intro vs g a' w hrel hst hda hza
            rw [rounds_succ]
            rcases hrel with ⟨vs',⟨ρ',hag,hset,hrun⟩,hrel⟩ | ⟨ρ',hag,hset,hrun⟩
            · obtain ⟨q1,q2,q3⟩ := hst ρ' hag hset
              refine ih t.1 (n + t.2) _ body ρ' _ a' w g _ hbody hrun q1 q2 q3 (by rw [hza]; exact hc) fun ex s' n' R' ρ2 a2 w2 g2 hn2 hag2 hk2 hr2 hS2 hH2 hC2 hd2 hz2 => ?_
              cases ex with
              | norm =>
                simp only at hk2
                split at hk2
                · rename_i vsE hvs
                  simp only [Option.some.injEq] at hk2; subst hk2
                  simp only [Run,Oc.next.injEq] at hr2
                  subst hr2
                  obtain ⟨g3,hS3,hH3,hC3⟩ := like_ok hl t.1 hS2 hH2 hC2
                  refine ihj _ g3 a2 w2 hrel (fun ρ3 hag3 hset3 => ?_) (hd2.trans hda) (hz2.trans hza)
                  have hag4 : agree n ρ ρ2 := hag.trans (hag2.le (by omega))
                  exact matchSt_ok hvs (hag4.symm.trans hag3) hset3 hl hS3 hH3 hC3
                · cases hk2
              | exit id =>
                simp only at hk2
                split at hk2
                · simp only [Option.some.injEq] at hk2; subst hk2
                  obtain ⟨o',ho',_⟩ := hr2
                  cases ho'
                · cases hk2
              | ret =>
                simp only at hk2
                split at hk2
                · simp only [Option.some.injEq] at hk2; subst hk2
                  obtain ⟨o',ho',_⟩ := hr2
                  cases ho'
                · cases hk2
            · obtain ⟨q1,q2,q3⟩ := hst ρ' hag hset
              refine ih t.1 (n + t.2) _ body ρ' _ a' w g _ hbody hrun q1 q2 q3 (by rw [hza]; exact hc) fun ex s' n' R' ρ2 a2 w2 g2 hn2 hag2 hk2 hr2 hS2 hH2 hC2 hd2 hz2 => ?_
              have hag4 : agree n ρ ρ2 := hag.trans (hag2.le (by omega))
              cases ex with
              | norm =>
                simp only at hk2
                split at hk2
                · simp only [Option.some.injEq] at hk2; subst hk2
                  simp only [Run] at hr2
                  cases hr2
                · cases hk2
              | exit id =>
                simp only at hk2
                split at hk2
                · rename_i r hkr
                  simp only [Option.some.injEq] at hk2; subst hk2
                  obtain ⟨o',ho',hr3⟩ := hr2
                  cases ho'
                  exact hQ (.exit id) s' n' r ρ2 a2 w2 g2 (by omega) hag4 hkr hr3 hS2 hH2 hC2 (hd2.trans hda) (hz2.trans hza)
                · cases hk2
              | ret =>
                simp only at hk2
                split at hk2
                · rename_i r hkr
                  simp only [Option.some.injEq] at hk2; subst hk2
                  obtain ⟨o',ho',hr3⟩ := hr2
                  cases ho'
                  exact hQ .ret s' n' r ρ2 a2 w2 g2 (by omega) hag4 hkr hr3 hS2 hH2 hC2 (hd2.trans hda) (hz2.trans hza)
                · cases hk2
        obtain ⟨gi,hSi,hHi,hCi⟩ := like_ok hl t.1 hS1 hH1 hC1
        exact key N _ gi a w hr (fun ρ' hag hset => matchSt_ok hinit hag hset hl hSi hHi hCi) rfl rfl
      · cases h
  | _ => intro s n k R ρ o a w g Q h; simp [sxC] at h
end
end Go.Tm
end
section
namespace Go.Tm
def normalD : D → Bool
  | .v (.slice none 0 0) => false
  | x => x.one
def Sh1.toV : Sh1 → D → Option V
  | .i k,.v (.int k' n) => if k = k' then some (.i n) else none
  | .b,.v (.bool t) => some (.b t)
  | .s,.s es => some (.l es)
  | .d,x => if normalD x then some (.d x) else none
  | _,_ => none
def bindAt : List Sh1 → List D → Nat → Env → Option Env
  | [],[],_,ρ => some ρ
  | a :: as,d :: ds,n,ρ => match a.toV d with
    | some v => bindAt as ds (n + 1) (upd ρ n v)
    | none => none
  | _,_,_,_ => none
def Sh.bind : Sh → D → Nat → Env → Option Env
  | .one a,d,n,ρ => bindAt [a] [d] n ρ
  | .g as,.g cs,n,ρ => bindAt as cs n ρ
  | .q as,.q cs,n,ρ => bindAt as cs n ρ
  | _,_,_,_ => none
def evalI (B : Tb) : I → Env → Option Env
  | .chk b,ρ => if bol ρ b then some ρ else none
  | .head sz l,ρ => if headOk sz (lst ρ l) then some ρ else none
  | .fl l,ρ => if flats (lst ρ l) then some ρ else none
  | .get e sh n,ρ => sh.bind (dat ρ e) n ρ
  | .idx l i sh n,ρ => if 0 ≤ int ρ i then match (lst ρ l)[(int ρ i).toNat]? with
      | some d => sh.bind d n ρ
      | none => none
    else none
  | .call f as rs n,ρ => match B.call f (as.map (dat ρ)) with
    | some ds => bindAt rs ds n ρ
    | none => none
  | .prim p as r n,ρ => match primF p (as.map (dat ρ)) with
    | some d => bindAt [r] [d] n ρ
    | none => none
  | .callv e as ar rs n,ρ => match dat ρ e with
    | .f fn caps => if B.ar fn = some (ar ++ caps.map fun _ => none) then match B.call fn (as.map (dat ρ) ++ caps.map D.norm) with
        | some ds => bindAt rs ds n ρ
        | none => none
      else none
    | _ => none
def loopE (f : List V → Option Oc) : Nat → List V → Option Oc
  | 0,_ => none
  | n + 1,vs => match f vs with
    | some (.next vs') => loopE f n vs'
    | some (.esc o) => some o
    | _ => none
def setEnv : Nat → List V → Env → Env
  | _,[],ρ => ρ
  | c,v :: vs,ρ => setEnv (c + 1) vs (upd ρ c v)
open Classical in
noncomputable def evalR (B : Tb) (N : Nat) : R → Env → Option Oc
  | .i x r,ρ => match evalI B x ρ with
    | some ρ' => evalR B N r ρ'
    | none => none
  | .ite b x y,ρ => if bol ρ b then evalR B N x ρ else evalR B N y ρ
  | .nilq _ l x y,ρ => match lst ρ l with
    | [] => if evalR B N x ρ = evalR B N y ρ then evalR B N y ρ else none
    | _ :: _ => evalR B N y ρ
  | .loop c init body,ρ => loopE (fun vs => evalR B N body (setEnv c vs ρ)) N (init.map (den ρ))
  | .next vs,ρ => some (.next (vs.map (den ρ)))
  | .done vs,ρ => some (.done (vs.map (dat ρ)))
  | .esc r,ρ => match evalR B N r ρ with
    | some o => some (.esc o)
    | none => none
def I.wf (c : Nat) : I → Bool
  | .chk b => b.under c
  | .head _ l => l.under c
  | .fl l => l.under c
  | .get e _ n => e.under c && n == c
  | .idx l i _ n => l.under c && i.under c && n == c
  | .call _ as _ n => as.all (E.under c) && n == c
  | .callv e as _ _ n => e.under c && as.all (E.under c) && n == c
  | .prim _ as _ n => as.all (E.under c) && n == c
def I.size : I → Nat
  | .chk _ | .head _ _ | .fl _ => 0
  | .get _ sh _ | .idx _ _ sh _ => sh.size
  | .call _ _ rs _ | .callv _ _ _ rs _ => rs.length
  | .prim _ _ _ _ => 1
def R.wf : R → Nat → List Nat → Bool
  | .i x r,c,st => x.wf c && r.wf (c + x.size) st
  | .ite b x y,c,st => b.under c && x.wf c st && y.wf c st
  | .nilq c' l x y,c,st => c' == c && l.under c && x.wf c st && y.wf c st
  | .loop c' init body,c,st => c' == c && init.all (E.under c) && body.wf (c + init.length) (init.length :: st)
  | .next vs,c,st => vs.all (E.under c) && st.head? == some vs.length
  | .done vs,c,_ => vs.all (E.under c)
  | .esc r,c,st => r.wf c st.tail
def Oc.conf : Oc → List Nat → Prop
  | .next vs,st => st.head? = some vs.length
  | .done _,_ => True
  | .esc o,st => o.conf st.tail
section
variable {B : Tb} {N : Nat}
theorem toV_ok {a : Sh1} {d : D} {v : V} {n : Nat} {ρ : Env} (h : a.toV d = some v) (hr : ρ n = v) : dat ρ (a.expr n) = d := by
  unfold Sh1.toV at h
  split at h
  · split at h
    · rename_i hk; subst hk
      simp only [Option.some.injEq] at h; subst h
      show D.v (.int _ (V.int (ρ n))) = _
      rw [hr]; rfl
    · cases h
  · simp only [Option.some.injEq] at h; subst h
    show D.v (.bool (V.bool (ρ n))) = _
    rw [hr]; rfl
  · simp only [Option.some.injEq] at h; subst h
    show D.s (V.lst (ρ n)) = _
    rw [hr]; rfl
  · split at h
    · rename_i hx
      simp only [Option.some.injEq] at h; subst h
      show oneOf (V.dat (ρ n)) = _
      rw [hr]
      show oneOf d = d
      unfold normalD at hx
      split at hx
      · cases hx
      · rename_i hne
        rw [oneOf_norm hx]
        unfold D.norm
        split
        · exact absurd rfl hne
        · rfl
    · cases h
  · cases h
theorem bindAt_ok : ∀ (as : List Sh1) (ds : List D) (n : Nat) (ρ ρ' : Env),bindAt as ds n ρ = some ρ' → as.length = ds.length ∧ agree n ρ ρ' ∧ ∀ ρ2,agree (n + as.length) ρ' ρ2 → (exprs as n).map (dat ρ2) = ds
  | [],[],n,ρ,ρ',h => by
    simp only [bindAt,Option.some.injEq] at h; subst h
    exact ⟨rfl,agree.rfl',fun _ _ => rfl⟩
  | [],_ :: _,n,ρ,ρ',h => by simp [bindAt] at h
  | _ :: _,[],n,ρ,ρ',h => by simp [bindAt] at h
  | a :: as,d :: ds,n,ρ,ρ',h => by
    simp only [bindAt] at h
    split at h
    · rename_i v hv
      obtain ⟨h1,h2,h3⟩ := bindAt_ok as ds (n + 1) _ ρ' h
      refine ⟨by simp [h1],fun j hj => ?_,fun ρ2 h4 => ?_⟩
      · rw [h2 j (by omega),uO1 _ _ (by omega)]
      · simp only [exprs,List.map_cons]
        rw [h3 ρ2 (by rw [show n + 1 + as.length = n + (a :: as).length by simp; omega]; exact h4)]
        congr 1
        refine toV_ok hv ?_
        rw [h4 n (by simp),h2 n (by omega),uS1]
    · cases h
theorem Sh_bind_ok {sh : Sh} {d : D} {n : Nat} {ρ ρ' : Env} (h : sh.bind d n ρ = some ρ') : agree n ρ ρ' ∧ ∀ ρ2,agree (n + sh.size) ρ' ρ2 → dat ρ2 (sh.expr n) = d := by
  unfold Sh.bind at h
  split at h
  · obtain ⟨_,h2,h3⟩ := bindAt_ok _ _ _ _ _ h
    refine ⟨h2,fun ρ2 h4 => ?_⟩
    have := h3 ρ2 h4
    simp only [exprs,List.map_cons,List.map_nil,List.cons.injEq,and_true] at this
    exact this
  · obtain ⟨_,h2,h3⟩ := bindAt_ok _ _ _ _ _ h
    refine ⟨h2,fun ρ2 h4 => ?_⟩
    show D.g (lst ρ2 (consE _)) = _
    rw [lst_consE,h3 ρ2 h4]
  · obtain ⟨_,h2,h3⟩ := bindAt_ok _ _ _ _ _ h
    refine ⟨h2,fun ρ2 h4 => ?_⟩
    show D.q (lst ρ2 (consE _)) = _
    rw [lst_consE,h3 ρ2 h4]
  · cases h
theorem map_agree {f : Env → E → D} {c : Nat} {ρ ρ' : Env} (hf : ∀ e,e.under c = true → f ρ' e = f ρ e) {as : List E} (h : as.all (E.under c) = true) : as.map (f ρ') = as.map (f ρ) :=
  List.map_congr_left fun e he => hf e (List.all_eq_true.1 h e he)
theorem dat_agree {c : Nat} {ρ ρ' : Env} (h : agree c ρ ρ') (e : E) (hu : e.under c = true) : dat ρ' e = dat ρ e := by unfold dat; rw [under_eq h e hu]
theorem lst_agree {c : Nat} {ρ ρ' : Env} (h : agree c ρ ρ') (e : E) (hu : e.under c = true) : lst ρ' e = lst ρ e := by unfold lst; rw [under_eq h e hu]
theorem int_agree {c : Nat} {ρ ρ' : Env} (h : agree c ρ ρ') (e : E) (hu : e.under c = true) : int ρ' e = int ρ e := by unfold int; rw [under_eq h e hu]
theorem bol_agree {c : Nat} {ρ ρ' : Env} (h : agree c ρ ρ') (e : E) (hu : e.under c = true) : bol ρ' e = bol ρ e := by unfold bol; rw [under_eq h e hu]
theorem evalI_ok {x : I} {c : Nat} {ρ ρ' : Env} (h : evalI B x ρ = some ρ') (hw : x.wf c = true) : agree c ρ ρ' ∧ ∀ ρ2,agree (c + x.size) ρ' ρ2 → x.holds B ρ2 := by
  cases x with
  | chk b =>
    simp only [evalI] at h
    split at h
    · rename_i hb
      simp only [Option.some.injEq] at h; subst h
      exact ⟨agree.rfl',fun ρ2 h2 => by show bol ρ2 b = true; rw [bol_agree h2 b hw]; exact hb⟩
    · cases h
  | head sz l =>
    simp only [evalI] at h
    split at h
    · rename_i hb
      simp only [Option.some.injEq] at h; subst h
      exact ⟨agree.rfl',fun ρ2 h2 => by show headOk sz (lst ρ2 l) = true; rw [lst_agree h2 l hw]; exact hb⟩
    · cases h
  | fl l =>
    simp only [evalI] at h
    split at h
    · rename_i hb
      simp only [Option.some.injEq] at h; subst h
      exact ⟨agree.rfl',fun ρ2 h2 => by show flats (lst ρ2 l) = true; rw [lst_agree h2 l hw]; exact hb⟩
    · cases h
  | get e sh n =>
    simp only [I.wf,Bool.and_eq_true,beq_iff_eq] at hw
    obtain ⟨hu,rfl⟩ := hw
    simp only [evalI] at h
    obtain ⟨h1,h2⟩ := Sh_bind_ok h
    refine ⟨h1,fun ρ2 h3 => ?_⟩
    show dat ρ2 e = dat ρ2 (sh.expr n)
    rw [h2 ρ2 h3,dat_agree (h1.trans (h3.le (by omega))) e hu]
  | idx l i sh n =>
    simp only [I.wf,Bool.and_eq_true,beq_iff_eq] at hw
    obtain ⟨⟨hu,hu2⟩,rfl⟩ := hw
    simp only [evalI] at h
    split at h
    · rename_i h0
      split at h
      · rename_i d hd
        obtain ⟨h1,h2⟩ := Sh_bind_ok h
        refine ⟨h1,fun ρ2 h3 => ?_⟩
        have ha := h1.trans (h3.le (by omega))
        show 0 ≤ int ρ2 i ∧ (lst ρ2 l)[(int ρ2 i).toNat]? = some (dat ρ2 (sh.expr n))
        rw [h2 ρ2 h3,int_agree ha i hu2,lst_agree ha l hu]
        exact ⟨h0,hd⟩
      · cases h
    · cases h
  | call f as rs n =>
    simp only [I.wf,Bool.and_eq_true,beq_iff_eq] at hw
    obtain ⟨hu,rfl⟩ := hw
    simp only [evalI] at h
    split at h
    · rename_i ds hds
      obtain ⟨_,h1,h2⟩ := bindAt_ok _ _ _ _ _ h
      refine ⟨h1,fun ρ2 h3 => ?_⟩
      have ha := h1.trans (h3.le (by omega))
      show B.call f (as.map (dat ρ2)) = some ((exprs rs n).map (dat ρ2))
      rw [h2 ρ2 h3,map_agree (f := dat) (fun e he => dat_agree ha e he) hu]
      exact hds
    · cases h
  | prim p as r n =>
    simp only [I.wf,Bool.and_eq_true,beq_iff_eq] at hw
    obtain ⟨hu,rfl⟩ := hw
    simp only [evalI] at h
    split at h
    · rename_i d hds
      obtain ⟨_,h1,h2⟩ := bindAt_ok _ _ _ _ _ h
      refine ⟨h1,fun ρ2 h3 => ?_⟩
      have ha := h1.trans (h3.le (by omega))
      have h4 := h2 ρ2 h3
      show primF p (as.map (dat ρ2)) = some (dat ρ2 (r.expr n))
      rw [map_agree (f := dat) (fun e he => dat_agree ha e he) hu,hds]
      have h5 : [d] = [dat ρ2 (r.expr n)] := by simpa [exprs] using h4.symm
      simp only [List.cons.injEq,and_true] at h5
      rw [h5]
    · cases h
  | callv e as ar rs n =>
    simp only [I.wf,Bool.and_eq_true,beq_iff_eq] at hw
    obtain ⟨⟨hu,hu2⟩,rfl⟩ := hw
    simp only [evalI] at h
    split at h
    · rename_i fn caps hd
      split at h
      · rename_i har
        split at h
        · rename_i ds hds
          obtain ⟨_,h1,h2⟩ := bindAt_ok _ _ _ _ _ h
          refine ⟨h1,fun ρ2 h3 => ?_⟩
          have ha := h1.trans (h3.le (by omega))
          refine ⟨fn,caps,by rw [dat_agree ha e hu]; exact hd,har,?_⟩
          rw [h2 ρ2 h3,map_agree (f := dat) (fun e he => dat_agree ha e he) hu2]
          exact hds
        · cases h
      · cases h
    · cases h
theorem setEnv_ok : ∀ (vs : List V) (c : Nat) (ρ : Env),agree c ρ (setEnv c vs ρ) ∧ setAt c vs (setEnv c vs ρ)
  | [],c,ρ => ⟨agree.rfl',fun j v h => by simp at h⟩
  | v :: vs,c,ρ => by
    obtain ⟨h1,h2⟩ := setEnv_ok vs (c + 1) (upd ρ c v)
    refine ⟨fun j hj => ?_,fun j u hj => ?_⟩
    · show setEnv (c + 1) vs (upd ρ c v) j = ρ j
      rw [h1 j (by omega),uO1 _ _ (by omega)]
    · show setEnv (c + 1) vs (upd ρ c v) (c + j) = u
      cases j with
      | zero =>
        simp at hj; subst hj
        rw [h1 (c + 0) (by omega)]; exact uS1 _ _ _
      | succ j =>
        have := h2 j u (by simpa using hj)
        rw [← this]; congr 1; omega
theorem eval_conf : ∀ (r : R) (c : Nat) (st : List Nat) (ρ : Env) (o : Oc),evalR B N r ρ = some o → r.wf c st = true → o.conf st := by
  intro r
  induction r with
  | i x r ih =>
    intro c st ρ o h hw
    simp only [R.wf,Bool.and_eq_true] at hw
    simp only [evalR] at h
    split at h
    · exact ih _ st _ o h hw.2
    · cases h
  | ite b x y ihx ihy =>
    intro c st ρ o h hw
    simp only [R.wf,Bool.and_eq_true] at hw
    simp only [evalR] at h
    split at h
    · exact ihx c st ρ o h hw.1.2
    · exact ihy c st ρ o h hw.2
  | nilq c' l x y ihx ihy =>
    intro c st ρ o h hw
    simp only [R.wf,Bool.and_eq_true] at hw
    simp only [evalR] at h
    split at h
    · split at h
      · exact ihy c st ρ o h hw.2
      · cases h
    · exact ihy c st ρ o h hw.2
  | loop c' init body ih =>
    intro c st ρ o h hw
    simp only [R.wf,Bool.and_eq_true] at hw
    simp only [evalR] at h
    have key : ∀ (n : Nat) (vs : List V),loopE (fun vs => evalR B N body (setEnv c' vs ρ)) n vs = some o → o.conf st := by
      intro n
      induction n with
      | zero => intro vs h; cases h
      | succ n ihn =>
        intro vs h
        simp only [loopE] at h
        split at h
        · exact ihn _ h
        · rename_i o' h1
          simp only [Option.some.injEq] at h; subst h
          have := ih _ (init.length :: st) _ _ h1 hw.2
          exact this
        · cases h
    exact key N _ h
  | next vs =>
    intro c st ρ o h hw
    simp only [evalR,Option.some.injEq] at h; subst h
    simp only [R.wf,Bool.and_eq_true,beq_iff_eq] at hw
    simpa [Oc.conf] using hw.2
  | done vs =>
    intro c st ρ o h hw
    simp only [evalR,Option.some.injEq] at h; subst h
    trivial
  | esc r ih =>
    intro c st ρ o h hw
    simp only [evalR] at h
    split at h
    · rename_i o' h1
      simp only [Option.some.injEq] at h; subst h
      exact ih c st.tail ρ o' h1 hw
    · cases h
theorem run_of_eval : ∀ (r : R) (c : Nat) (st : List Nat) (ρ : Env) (o : Oc),evalR B N r ρ = some o → r.wf c st = true → ∃ ρ',agree c ρ ρ' ∧ Run B N r ρ' o := by
  intro r
  induction r with
  | i x r ih =>
    intro c st ρ o h hw
    simp only [R.wf,Bool.and_eq_true] at hw
    simp only [evalR] at h
    split at h
    · rename_i ρ1 h1
      obtain ⟨h2,h3⟩ := evalI_ok h1 hw.1
      obtain ⟨ρ',h4,h5⟩ := ih _ st ρ1 o h hw.2
      exact ⟨ρ',h2.trans (h4.le (by omega)),h3 ρ' h4,h5⟩
    · cases h
  | ite b x y ihx ihy =>
    intro c st ρ o h hw
    simp only [R.wf,Bool.and_eq_true] at hw
    simp only [evalR] at h
    split at h
    · rename_i hb
      obtain ⟨ρ',h1,h2⟩ := ihx c st ρ o h hw.1.2
      exact ⟨ρ',h1,by simp only [Run,bol_agree h1 b hw.1.1,hb,if_true]; exact h2⟩
    · rename_i hb
      obtain ⟨ρ',h1,h2⟩ := ihy c st ρ o h hw.2
      refine ⟨ρ',h1,?_⟩
      simp only [Run,bol_agree h1 b hw.1.1]
      rw [if_neg hb]; exact h2
  | nilq c' l x y ihx ihy =>
    intro c st ρ o h hw
    simp only [R.wf,Bool.and_eq_true,beq_iff_eq] at hw
    obtain ⟨⟨⟨rfl,hu⟩,hwx⟩,hwy⟩ := hw
    simp only [evalR] at h
    refine ⟨ρ,agree.rfl',?_⟩
    simp only [Run]
    split at h
    · split at h
      · rename_i he
        exact ⟨ihy _ st ρ o h hwy,fun _ => ihx _ st ρ o (by rw [he]; exact h) hwx⟩
      · cases h
    · rename_i hl
      exact ⟨ihy _ st ρ o h hwy,fun e => by rw [e] at hl; cases hl⟩
  | loop c' init body ih =>
    intro c st ρ o h hw
    simp only [R.wf,Bool.and_eq_true,beq_iff_eq] at hw
    obtain ⟨⟨rfl,hu⟩,hw⟩ := hw
    simp only [evalR] at h
    refine ⟨ρ,agree.rfl',?_⟩
    simp only [Run]
    have key : ∀ (n : Nat) (vs : List V),vs.length = init.length → loopE (fun vs => evalR B N body (setEnv c' vs ρ)) n vs = some o → LoopRel (fun vs o1 => ∃ ρ',agree c' ρ ρ' ∧ setAt c' vs ρ' ∧ Run B N body ρ' o1) n vs o := by
      intro n
      induction n with
      | zero => intro vs _ h; cases h
      | succ n ihn =>
        intro vs hlen h
        simp only [loopE] at h
        obtain ⟨s1,s2⟩ := setEnv_ok vs c' ρ
        have keep : ∀ ρ',agree (c' + init.length) (setEnv c' vs ρ) ρ' → agree c' ρ ρ' ∧ setAt c' vs ρ' := fun ρ' ha =>
          ⟨s1.trans (ha.le (by omega)),fun j v hj => by
            have hlt : j < vs.length := (List.getElem?_eq_some_iff.1 hj).1
            rw [ha (c' + j) (by omega)]; exact s2 j v hj⟩
        split at h
        · rename_i vs' h1
          obtain ⟨ρ',h2,h3⟩ := ih _ _ _ _ h1 hw
          obtain ⟨h4,h5⟩ := keep ρ' h2
          have hcf := eval_conf _ _ _ _ _ h1 hw
          simp only [Oc.conf,List.head?_cons,Option.some.injEq] at hcf
          exact .inl ⟨vs',⟨ρ',h4,h5,h3⟩,ihn vs' hcf.symm h⟩
        · rename_i o' h1
          simp only [Option.some.injEq] at h; subst h
          obtain ⟨ρ',h2,h3⟩ := ih _ _ _ _ h1 hw
          obtain ⟨h4,h5⟩ := keep ρ' h2
          exact .inr ⟨ρ',h4,h5,h3⟩
        · cases h
    exact key N _ (by simp) h
  | next vs =>
    intro c st ρ o h hw
    simp only [evalR,Option.some.injEq] at h; subst h
    exact ⟨ρ,agree.rfl',rfl⟩
  | done vs =>
    intro c st ρ o h hw
    simp only [evalR,Option.some.injEq] at h; subst h
    exact ⟨ρ,agree.rfl',rfl⟩
  | esc r ih =>
    intro c st ρ o h hw
    simp only [evalR] at h
    split at h
    · rename_i o' h1
      simp only [Option.some.injEq] at h; subst h
      obtain ⟨ρ',h2,h3⟩ := ih c _ ρ o' h1 hw
      exact ⟨ρ',h2,o',rfl,h3⟩
    · cases h
end
end Go.Tm
end
section
open Go.RowKit
namespace Go.Tm
def enumSl (i : Nat) : List SV → SSl
  | [] => []
  | v :: vs => (i,v) :: enumSl (i + 1) vs
theorem enumSl_lookup : ∀ (vs : List SV) (a t : Nat),(enumSl a vs).lookup t = if a ≤ t then vs[t - a]? else none
  | [],a,t => by simp [enumSl]
  | v :: vs,a,t => by
    simp only [enumSl,List.lookup_cons]
    by_cases h : t = a
    · subst h; simp
    · have hb : (t == a) = false := by simpa using h
      rw [hb,enumSl_lookup vs (a + 1) t]
      by_cases hlt : a ≤ t
      · have e : t - a = (t - (a + 1)) + 1 := by omega
        rw [if_pos (by omega),if_pos hlt,e,List.getElem?_cons_succ]
      · rw [if_neg (by omega),if_neg hlt]
theorem γs_enum (ρ : Env) (vs : List SV) (t : Nat) : γs ρ (enumSl 0 vs) t = (γXs ρ vs).getD t .u := by
  unfold γs
  rw [enumSl_lookup]
  simp only [Nat.zero_le,if_true,Nat.sub_zero,γXs_map,List.getD_eq_getElem?_getD,List.getElem?_map]
  cases vs[t]? <;> rfl
def slotV (sl : SSl) (t : Tmp) : SV := match sl.lookup t with
  | some v => v
  | none => .u
def sresX (P : Program) (sl : SSl) : List ResultVar → SMP (List SV)
  | [] => .ret []
  | .tmp t :: rs => (sresX P sl rs).bind fun xs => .ret (slotV sl t :: xs)
  | .cell a t :: rs => (sloadM P t (slotV sl a)).bind fun x => (sresX P sl rs).bind fun xs => .ret (x :: xs)
def retId : Nat := 999999
def okRes : List Sh → List E → Bool
  | [],[] => true
  | .one _ :: ss,e :: es => e.isOne && okRes ss es
  | .g _ :: ss,.g _ :: es => okRes ss es
  | _,_ => false
def RSh.list : RSh → List Sh
  | .one s => [s]
  | .tup ss => ss
def RSh.many : RSh → Bool
  | .tup ss => ss.length != 1
  | _ => true
def finD (P : Program) (fn : Func) (r : RSh) (H : Hint) (s : SSt) (n : Nat) : Option R :=
  let s := ownAll H.own retId s
  match ((sresX P s.sl fn.results.toList).bind fun xs => spur.spurs 40 xs).run s.m n with
  | some q => if okRes r.list q.val && r.many then match sflatten r.list q.val with
      | some ls => some (wrapI q.is (.done ls))
      | none => none
    else none
  | none => none
def sxD (P : Program) (sg : FuncId → Option Sig) (s : DSig) (H : Hint) (fn : Func) (C : Code) : Option R :=
  sxC P sg H C ⟨enumSl 0 (svs s.pars 0),[]⟩ (s.pars.flatMap Sh.leaves).length fun o st n => match o with
    | .exit _ => none
    | _ => finD P fn s.res H st n
noncomputable def evalF (B : Tb) (N : Nat) (ins : List Sh1) (r : R) (ls : List D) : Option (List D) := match bindAt ins ls 0 (fun _ => .i 0) with
  | some ρ => match evalR B N r ρ with
    | some (.done ds) => some ds
    | _ => none
  | none => none
section
variable {B : Tb} {ρ : Env} {sg : FuncId → Option Sig} {P : Program} {N : Nat}
theorem slotV_ok (sl : SSl) (t : Tmp) : γX ρ (slotV sl t) = γs ρ sl t := by
  unfold slotV γs
  cases sl.lookup t <;> rfl
theorem sresX_ok {st : St} {sl : SSl} (hst : st.sl = γs ρ sl) : ∀ rs : List ResultVar,(sresX P sl rs).Ok B ρ (fXs ρ) (resX P st rs)
  | [] => rfl
  | .tmp t :: rs => by
    simp only [sresX,resX]
    refine SMP.bind_ok (f := fXs ρ) (fun xs => ?_) _ _ (sresX_ok hst rs)
    simp only [SMP.Ok,fXs,List.map_cons,slotV_ok,hst]
  | .cell a t :: rs => by
    simp only [sresX,resX,hst,← slotV_ok]
    refine SMP.bind_ok (f := γX ρ) (fun x => ?_) _ _ (sloadM_ok t _)
    refine SMP.bind_ok (f := fXs ρ) (fun xs => ?_) _ _ (sresX_ok hst rs)
    rfl
theorem flatten_svs : ∀ (ss : List Sh) (ds ls : List D) (n : Nat),flattenD ss ds = some ls → (exprs (ss.flatMap Sh.leaves) n).map (dat ρ) = ls → (∀ a,Sh.one a ∈ ss → True) → γXs ρ (svs ss n) = ds.map X.ofD
  | [],[],ls,n,_,_,_ => rfl
  | [],_ :: _,ls,n,h,_,_ => by simp [flattenD] at h
  | .one a :: ss,[],ls,n,h,_,_ => by simp [flattenD] at h
  | .one a :: ss,d :: ds,ls,n,h,he,hh => by
    simp only [flattenD] at h
    cases hs : flattenD ss ds with
    | none => simp [hs] at h
    | some ls' =>
      simp only [hs,Option.map_some,Option.some.injEq] at h; subst h
      have he : dat ρ (a.expr n) :: (exprs (ss.flatMap Sh.leaves) (n + 1)).map (dat ρ) = d :: ls' := he
      simp only [List.cons.injEq] at he
      have ih := flatten_svs ss ds ls' (n + 1) hs he.2 (fun _ _ => trivial)
      have ho := isOne_one (Sh1_isOne a n) ρ
      rw [he.1] at ho
      show X.d (dat ρ (a.expr n)) :: γXs ρ (svs ss (n + 1)) = X.ofD d :: ds.map X.ofD
      rw [ih,he.1,ofD_one ho]
  | .g as :: ss,ds,ls,n,h,he,hh => by
    match ds,h with
    | .g cs :: ds,h =>
      simp only [flattenD] at h
      split at h
      · rename_i hlen
        cases hs : flattenD ss ds with
        | none => simp [hs] at h
        | some ls' =>
          simp only [hs,Option.map_some,Option.some.injEq] at h; subst h
          simp only [List.flatMap_cons,Sh.leaves,exprs_append,List.map_append] at he
          obtain ⟨e1,e2⟩ := List.append_inj he (by simp [exprs_length,hlen])
          have ih := flatten_svs ss ds ls' (n + as.length) hs e2 (fun _ _ => trivial)
          show X.g (γXs ρ ((exprs as n).map .d)) :: γXs ρ (svs ss (n + as.length)) = _
          rw [ih,γXs_map,map_dat,e1]; rfl
      · cases h
  | .q as :: ss,ds,ls,n,h,_,_ => by cases ds <;> simp [flattenD] at h
theorem split_flat : ∀ (ss : List Sh) (es ls : List E),sflatten ss es = some ls → okRes ss es = true → splitD ss (ls.map (dat ρ)) = some (es.map (dat ρ))
  | [],[],ls,h,_ => by simp only [sflatten,Option.some.injEq] at h; subst h; rfl
  | [],_ :: _,ls,h,_ => by simp [sflatten] at h
  | .one a :: ss,[],ls,h,_ => by simp [sflatten] at h
  | .one a :: ss,e :: es,ls,h,ho => by
    simp only [okRes,Bool.and_eq_true] at ho
    simp only [sflatten] at h
    cases hs : sflatten ss es with
    | none => simp [hs] at h
    | some ls' =>
      simp only [hs,Option.map_some,Option.some.injEq] at h; subst h
      simp only [List.map_cons,splitD,isOne_one ho.1 ρ,if_true,split_flat ss es ls' hs ho.2,Option.map_some]
  | .g as :: ss,es,ls,h,ho => by
    match es,h with
    | .g l :: es,h =>
      simp only [okRes] at ho
      simp only [sflatten] at h
      split at h
      · rename_i cs hl
        split at h
        · rename_i hlen
          cases hs : sflatten ss es with
          | none => simp [hs] at h
          | some ls' =>
            simp only [hs,Option.map_some,Option.some.injEq] at h; subst h
            simp only [List.map_append,splitD,List.map_cons]
            rw [if_pos (by simp [hlen]),List.drop_left' (by simp [hlen]),List.take_left' (by simp [hlen]),split_flat ss es ls' hs ho]
            show some (D.g (cs.map (dat ρ)) :: es.map (dat ρ)) = some (D.g (lst ρ l) :: es.map (dat ρ))
            rw [list_lst ρ _ _ hl]
        · cases h
      · cases h
  | .q as :: ss,es,ls,h,_ => by cases es <;> simp [sflatten] at h
theorem okRes_len : ∀ (ss : List Sh) (es : List E),okRes ss es = true → es.length = ss.length
  | [],[],_ => rfl
  | [],_ :: _,h => by simp [okRes] at h
  | .one a :: ss,[],h => by simp [okRes] at h
  | .one a :: ss,e :: es,h => by
    simp only [okRes,Bool.and_eq_true] at h
    simp [okRes_len ss es h.2]
  | .g as :: ss,[],h => by simp [okRes] at h
  | .g as :: ss,e :: es,h => by
    cases e with
    | g l => simp only [okRes] at h; simp [okRes_len ss es h]
    | _ => simp [okRes] at h
  | .q as :: ss,es,h => by cases es <;> simp [okRes] at h
theorem results_run {fn : Func} {tmps : Array Value} {w : World} {vs : List Value} (h : (fn.results.toList.mapM (resV tmps)).run P w = .ok vs w) : (results fn tmps).run P w = .ok (resOf vs) w := by
  have hres : results fn tmps = (fn.results.mapM (resV tmps) >>= fun vs => pure (if h : vs.size = 1 then vs[0] else .tuple vs)) := by
    unfold results
    congr 2
  rw [hres,Sem.run_bind,Array.mapM_eq_mapM_toList,Sem.run_map,h]
  match vs with
  | [] => rfl
  | [v] => rfl
  | u :: v :: l => simp [resOf]
def fnOf (P : Program) (f : FuncId) : Option (Func × Code) := match P.funcs[f]? with
  | some fn => match fn.body with
    | some C => if fn.name != "runtime.NumGoroutine" && codeOk fn.ntmps C then some (fn, C) else none
    | none => none
  | none => none
theorem fnOf_ok {f : FuncId} {fn : Func} {C : Code} (h : fnOf P f = some (fn, C)) : P.funcs[f]? = some fn ∧ fn.body = some C ∧ fn.name ≠ "runtime.NumGoroutine" ∧ codeOk fn.ntmps C = true := by
  unfold fnOf at h
  split at h
  · rename_i fn' hf
    split at h
    · rename_i C' hb
      split at h
      · rename_i hc
        simp only [Option.some.injEq,Prod.mk.injEq] at h
        obtain ⟨rfl,rfl⟩ := h
        simp only [Bool.and_eq_true,bne_iff_ne,ne_eq] at hc
        exact ⟨hf,hb,hc.1,hc.2⟩
      · cases h
    · cases h
  · cases h
theorem enter_of {f : FuncId} {fn : Func} {C : Code} (h : fnOf P f = some (fn,C)) (args : Array Value) (w : World) : (callFunc f args).run P w = .ok (.enter f args) w := by
  obtain ⟨hf,hb,hn,_⟩ := fnOf_ok h
  unfold callFunc
  simp [hf,hb,hn]
theorem finD_ok {fn : Func} {r : RSh} {H : Hint} {s : SSt} {n : Nat} {R : R} {o : Oc} {c : Cx P} {g : Gh} {a : Act} {w : World} {g0 : Gh} {m0 : Mem} {w0 : World} (h : finD P fn r H s n = some R) (hr : Run B N R ρ o)
    (hS : Sim c g (γm ρ s.m) w) (hH : Held c g (γm ρ s.m) w (γs ρ s.sl) a) (hC : Compat c g0 m0 w0 g (γm ρ s.m) w) :
    ∃ ds d v fp,o = .done ds ∧ buildR r ds = some d ∧ (results fn a.tmps).run P w = .ok v w ∧ Rd w d v fp ∧ inFp c fp := by
  unfold finD at h
  obtain ⟨g',hS,hH,_⟩ := ownAll_ok retId H.own s g hS hH hC
  simp only at h
  generalize ownAll H.own retId s = s1 at *
  split at h
  · rename_i q hq
    split at h
    · rename_i hok
      simp only [Bool.and_eq_true] at hok
      split at h
      · rename_i ls hls
        simp only [Option.some.injEq] at h; subst h
        obtain ⟨his,hd⟩ := run_wrap _ _ _ hr
        simp only [Run] at hd
        subst hd
        have hbind : ((sresX P s1.sl fn.results.toList).bind fun xs => spur.spurs 40 xs).Ok B ρ (fEs ρ) ((resX P ⟨γs ρ s1.sl,γm ρ s1.m⟩ fn.results.toList).bind fun xs => pur.purs 40 xs) :=
          SMP.bind_ok (f := fXs ρ) (fun xs => spurs_ok 40 xs) _ _ (sresX_ok rfl _)
        have hrun := SMP.run_ok _ _ _ _ _ hbind hq his
        rw [MP.runT_eq] at hrun
        cases hr2 : ((resX P ⟨γs ρ s1.sl,γm ρ s1.m⟩ fn.results.toList).bind fun xs => pur.purs 40 xs).run (γm ρ s1.m) with
        | none => rw [hr2] at hrun; cases hrun
        | some p =>
          obtain ⟨ds,m2⟩ := p
          rw [hr2] at hrun
          simp only [Option.map_some,Option.some.injEq,Prod.mk.injEq] at hrun
          obtain ⟨xs,m1,h1,h2⟩ := MP.bind_some hr2
          obtain ⟨e1,vs,h3,h4⟩ := resX_sound (st := ⟨γs ρ s1.sl,γm ρ s1.m⟩) (P := P) hS hH _ xs m1 h1
          subst e1
          obtain ⟨_,fp,h5,h6⟩ := purs_sound 40 _ _ _ _ _ hS h4 h2
          rw [hrun.1] at h5
          have hres := results_run h3
          have hvl := RdTs_len _ _ _ h5
          cases r with
          | one sh =>
            have hlen : q.val.length = 1 := okRes_len _ _ hok.1
            match hqv : q.val,hlen with
            | [e], _ =>
              rw [hqv] at h5 hls hok hvl
              match vs,hvl with
              | [v], _ =>
                obtain ⟨v',vs',f1,f2,ev,ef,hrd,h7⟩ := h5
                simp only [List.cons.injEq] at ev
                obtain ⟨rfl,rfl⟩ := ev
                refine ⟨_,dat ρ e,v,f1,rfl,?_,hres,hrd,fun b hb => h6 b (by rw [ef]; simp [hb])⟩
                cases sh with
                | one a =>
                  simp only [RSh.list,sflatten,Option.map_some,Option.some.injEq] at hls
                  subst hls
                  simp only [RSh.list,okRes,Bool.and_true,Bool.and_eq_true] at hok
                  simp only [List.map_cons,List.map_nil,buildR,isOne_one hok.1 ρ,if_true]
                | g as =>
                  cases e with
                  | g l =>
                    simp only [RSh.list,sflatten] at hls
                    split at hls
                    · rename_i cs hcs
                      split at hls
                      · rename_i hlen2
                        simp only [Option.map_some,Option.some.injEq,List.append_nil] at hls
                        subst hls
                        show (if (cs.map (dat ρ)).length = as.length then some (D.g (cs.map (dat ρ))) else none) = some (D.g (lst ρ l))
                        rw [if_pos (by simpa using hlen2),list_lst ρ _ _ hcs]
                      · cases hls
                    · cases hls
                  | _ => simp [RSh.list,sflatten] at hls
                | q as => simp [RSh.list,sflatten] at hls
          | tup ss =>
            have hsp := split_flat ss q.val ls hls hok.1 (ρ := ρ)
            have hne : ss.length ≠ 1 := by simpa [RSh.many] using hok.2
            have hql : q.val.length = ss.length := okRes_len _ _ hok.1
            refine ⟨_,.t (q.val.map (dat ρ)),.tuple vs.toArray,fp,rfl,by simp only [buildR,hsp,Option.map_some],?_,⟨vs,rfl,h5⟩,h6⟩
            rw [hres]
            match vs,hvl with
            | [],_ => rfl
            | [v],hvl => simp [fEs] at hvl; omega
            | u :: v :: l,_ => rfl
      · cases h
    · cases h
  · cases h
theorem fnD_ok (hB : BOk sg B) {Φ : Fix P} (hT : TabOk P Φ (tabOf sg B)) (hm : P.follows .mixedOrders = true) {s : DSig} {H : Hint} (hnl : H.nl = 0) {f : FuncId} {fn : Func} {C : Code} (hf : fnOf P f = some (fn,C)) {R : R} (hR : sxD P sg s H fn C = some R)
    (hw : R.wf (s.pars.flatMap Sh.leaves).length [] = true) : FnOk P Φ f (dspec s (evalF B N (s.pars.flatMap Sh.leaves) R)) := by
  obtain ⟨hf1,hb,_,hk⟩ := fnOf_ok hf
  refine ⟨fun args w => enter_of hf args w,fun w ds vals fps r hΦ hr hFr => ?_⟩
  refine calls_of_wp hf1 hb ?_
  unfold dspec at hFr
  cases hfl : flattenD s.pars ds with
  | none => rw [hfl] at hFr; cases hFr
  | some ls =>
    rw [hfl,Option.bind_some] at hFr
    cases hev : evalF B N (s.pars.flatMap Sh.leaves) R ls with
    | none => rw [hev] at hFr; cases hFr
    | some os =>
      rw [hev,Option.bind_some] at hFr
      unfold evalF at hev
      split at hev
      · rename_i ρ1 hbind
        split at hev
        · rename_i ds' heval
          simp only [Option.some.injEq] at hev; subst hev
          obtain ⟨hl1,_,hl3⟩ := bindAt_ok _ _ _ _ _ hbind
          obtain ⟨ρ,hag,hrun⟩ := run_of_eval _ _ _ _ _ heval hw
          have hexp := hl3 ρ (by simpa using hag)
          have hsv := flatten_svs s.pars ds ls 0 hfl hexp (fun _ _ => trivial)
          let c : Cx P := { w0 := w,A := fps,par := [],parA := fun _ h => by simp at h }
          let g : Gh := ⟨fun _ => none,fun _ => undef,fun _ => [],fun _ => none⟩
          have hmem : γm ρ [] = fun _ => none := rfl
          have hMut : ∀ b,¬ Mut g (fun _ => none) b := fun b ⟨k,o,hk,_⟩ => by cases hk
          have hS : Sim c g (fun _ => none) w := ⟨⟨rfl,rfl,rfl,Nat.le_refl _,fun _ _ _ => rfl⟩,fun k cs hk => (by cases hk),fun k ty sz es dp rw hk => (by cases hk),fun k ty sz es hk => (by cases hk),fun k o b hk => (by cases hk),fun b k hb => (by cases hb)⟩
          have hlen := RdTs_len ds vals fps hr
          have hH : Held c g (fun _ => none) w (γs ρ (enumSl 0 (svs s.pars 0))) { tmps := vals.toArray ++ Array.replicate (fn.ntmps - vals.toArray.size) undef,defers := [] } := by
            intro t
            rw [γs_enum,hsv]
            cases hd : ds[t]? with
            | none =>
              have : (ds.map X.ofD).getD t .u = .u := by simp [hd]
              rw [this]; trivial
            | some d =>
              obtain ⟨v,f,h1,h2,h3⟩ := RdTs_get ds vals fps t d hr hd
              have e1 : (ds.map X.ofD).getD t .u = X.ofD d := by simp [hd]
              have hlt : t < vals.length := (List.getElem?_eq_some_iff.1 h1).1
              have e2 : (vals.toArray ++ Array.replicate (fn.ntmps - vals.toArray.size) undef).getD t undef = v := by
                rw [Array.getD_eq_getD_getElem?,Array.getElem?_append_left (by simpa using hlt)]
                simp [h1]
              rw [e1,e2]
              exact VX_ofD d v f h2 fun b hb => ⟨hMut b,.inl (h3 b hb)⟩
          unfold sxD at hR
          refine sxC_ok (N := N) hB ⟨Φ,⟨hΦ,fun _ _ hb => by simp [c] at hb⟩,hT⟩ hm H (c := c) (g0 := g) (m0 := fun _ => none) (w0 := w) (fun k hk => absurd rfl hk) C ⟨enumSl 0 (svs s.pars 0),[]⟩ _ _ R ρ _ _ w g _ hR hrun hS hH (.refl _ _ _ _) (codeOk_mono (by simp; omega) C hk)
            fun ex s' n' R' ρ' a' w' g' _ _ hk' hr' hS' hH' hC' hd' _ => ?_
          have fin : finD P fn s.res H s' n' = some R' → a'.defers = [] ∧ ∃ v,(results fn a'.tmps).run P w' = .ok v w' ∧ ∃ val fp,Ending.returned v = .returned val ∧ Rd w' r val fp ∧ (∀ b ∈ fp,b ∈ fps ∨ w.heap.size ≤ b) ∧ Below w.heap.size w w' := by
            intro hfin
            obtain ⟨ds2,d,v,fp,h1,h2,h3,h4,h5⟩ := finD_ok hfin hr' hS' hH' hC'
            simp only [Oc.done.injEq] at h1; subst h1
            rw [h2] at hFr
            simp only [Option.some.injEq] at hFr; subst hFr
            exact ⟨hd',v,h3,v,fp,rfl,h4,h5,hS'.frame.os,hS'.frame.tape,hS'.frame.output,hS'.frame.size,fun k hk => hS'.frame.block k hk (by simp [c])⟩
          cases ex with
          | norm => exact fin hk'
          | ret => exact fin hk'
          | exit id => cases hk'
        · cases hev
      · cases hev
end
end Go.Tm
end
section
open Go.RowKit
namespace Go.Tm
def sres1 : List SV → SV
  | [x] => x
  | xs => .t xs
def outE : List Sh1 → List E → List E
  | a :: as,x :: xs => (match a with | .i k => E.vi k x | .b => .vb x | .d => x | .s => .s x) :: outE as xs
  | _,_ => []
def outOk : List Sh1 → List E → Bool
  | [],[] => true
  | a :: as,x :: xs => (match a with | .d => normed x | _ => true) && outOk as xs
  | _,_ => false
mutual
def prsV : SV → SV → List (Key × Key)
  | .o i _,.o k _ => [(i,k)]
  | .p i _,.p k _ => [(i,k)]
  | .g ps,.g vs => prsVs ps vs
  | .t ps,.t vs => prsVs ps vs
  | _,_ => []
def prsVs : List SV → List SV → List (Key × Key)
  | p :: ps,v :: vs => prsV p v ++ prsVs ps vs
  | _,_ => []
end
def prsO : Option SObj → Option SObj → List (Key × Key)
  | some (.box ps),some (.box vs) => prsVs ps vs
  | _,_ => []
def newKeys (nl : Nat) (res : SV) (robjs : List SObj) (sv : SV) (m : SMem) : List Key :=
  let a := prsV res sv
  let b := a ++ (List.range robjs.length).flatMap fun i => prsO robjs[i]? (match Nat.blt i nl with | true => m.lookup i | false => match a.lookup i with | some k => m.lookup k | none => none)
  (List.range' nl (robjs.length - nl)).filterMap fun i => b.lookup i
def finX (P : Program) (fn : Func) (s : XSig) (H : Hint) (st : SSt) (n : Nat) : Option R :=
  let st := ownAll H.own retId st
  match (sresX P st.sl fn.results.toList).run st.m n with
  | some q =>
    let sv := sres1 q.val
    let nl := s.objs.length
    let L := List.range nl ++ once [] ((newKeys nl s.res s.robjs sv q.m).filter fun k => nl ≤ k)
    let back := fun i => L.getD i 0
    let t : SSt := ⟨[(0,s.res.ren back)],L.zip (s.robjs.map (SObj.ren back))⟩
    if L.length = s.robjs.length ∧ (s.res.names ++ s.robjs.flatMap SObj.names).all (fun k => Nat.blt k L.length) = true then
      match matchSt 0 s.outs.length t (SSt.like nl t ⟨[(0,sv)],q.m⟩) nl with
      | some vs => if outOk s.outs vs then some (wrapI q.is (.done (outE s.outs vs))) else none
      | none => none
    else none
  | none => none
def sxX (P : Program) (sg : FuncId → Option Sig) (s : XSig) (H : Hint) (fn : Func) (C : Code) : Option R :=
  sxC P sg H C ⟨enumSl 0 s.args,numS 0 s.objs⟩ s.ins.length fun o st n => match o with
    | .exit _ => none
    | _ => finX P fn s H st n
def E.isVc : E → Bool
  | .vc _ => true
  | _ => false
theorem isVc_dat {e : E} (h : e.isVc = true) (ρ ρ' : Env) : dat ρ e = dat ρ' e := by
  cases e <;> first | rfl | cases h
def XSig.okIn (s : XSig) : Bool :=
  let es := exprs s.ins 0
  (slv2 s.args ++ s.objs.flatMap SObj.lv2).all fun e => e.isVc || es.any fun x => x.same e
section
variable {B : Tb} {ρ : Env} {sg : FuncId → Option Sig} {P : Program} {N : Nat}
theorem outE_ok {ρ ρ2 : Env} : ∀ (as : List Sh1) (vs : List E) (n : Nat),outOk as vs = true → (∀ j x,vs[j]? = some x → ρ2 (n + j) = den ρ x) → (outE as vs).map (dat ρ) = (exprs as n).map (dat ρ2)
  | [],[],n,_,_ => rfl
  | [],_ :: _,n,h,_ => by simp [outOk] at h
  | _ :: _,[],n,h,_ => by simp [outOk] at h
  | a :: as,x :: xs,n,h,hv => by
    simp only [outOk,Bool.and_eq_true] at h
    simp only [outE,exprs,List.map_cons]
    rw [outE_ok as xs (n + 1) h.2 (fun j y hj => by rw [← hv (j + 1) y (by simpa using hj)]; congr 1; omega)]
    congr 1
    have h0 : ρ2 n = den ρ x := hv 0 x rfl
    cases a with
    | i k => show D.v (.int k (den ρ x).int) = D.v (.int k (ρ2 n).int); rw [h0]
    | b => show D.v (.bool (den ρ x).bool) = D.v (.bool (ρ2 n).bool); rw [h0]
    | s => show D.s (den ρ x).lst = D.s (ρ2 n).lst; rw [h0]
    | d =>
      show dat ρ x = oneOf (ρ2 n).dat
      rw [h0]
      show dat ρ x = oneOf (dat ρ x)
      have hn := h.1
      simp only at hn
      have h1 : x.isOne = true := by
        unfold normed at hn; split at hn
        · cases hn
        · exact hn
      rw [oneOf_norm (isOne_one h1 ρ),normed_ok hn]
mutual
theorem ren_back {L : List Key} (hnd : L.Nodup) : ∀ v : SV,(∀ k ∈ v.names,k < L.length) → (v.ren fun i => L.getD i 0).ren (at? L) = v
  | .o k l,h => by
    have hk := h k (by simp [SV.names])
    simp only [SV.ren]
    congr 1
    simp only [List.getD_eq_getElem?_getD,List.getElem?_eq_getElem hk,Option.getD_some]
    exact hnd.idxOf_getElem k hk
  | .p k off,h => by
    have hk := h k (by simp [SV.names])
    simp only [SV.ren]
    congr 1
    simp only [List.getD_eq_getElem?_getD,List.getElem?_eq_getElem hk,Option.getD_some]
    exact hnd.idxOf_getElem k hk
  | .e k l i off,h => by
    have hk := h k (by simp [SV.names])
    simp only [SV.ren]
    congr 1
    simp only [List.getD_eq_getElem?_getD,List.getElem?_eq_getElem hk,Option.getD_some]
    exact hnd.idxOf_getElem k hk
  | .g cs,h => by simp only [SV.ren]; rw [sren_back hnd cs (fun k hk => h k (by simpa [SV.names] using hk))]
  | .t cs,h => by simp only [SV.ren]; rw [sren_back hnd cs (fun k hk => h k (by simpa [SV.names] using hk))]
  | .f fn cs,h => by simp only [SV.ren]; rw [sren_back hnd cs (fun k hk => h k (by simpa [SV.names] using hk))]
  | .d e,h => rfl
  | .u,h => rfl
theorem sren_back {L : List Key} (hnd : L.Nodup) : ∀ cs : List SV,(∀ k ∈ snames cs,k < L.length) → sren (at? L) (sren (fun i => L.getD i 0) cs) = cs
  | [],_ => rfl
  | c :: cs,h => by
    simp only [sren]
    rw [ren_back hnd c (fun k hk => h k (by simp [snames,hk])),sren_back hnd cs (fun k hk => h k (by simp [snames,hk]))]
end
theorem oren_back {L : List Key} (hnd : L.Nodup) (o : SObj) (h : ∀ k ∈ o.names,k < L.length) : (o.ren fun i => L.getD i 0).ren (at? L) = o := by
  cases o with
  | box cs => simp only [SObj.ren]; rw [sren_back hnd cs h]
  | _ => rfl
mutual
theorem ren_names (r : Key → Key) : ∀ v : SV,(v.ren r).names = v.names.map r
  | .o _ _ => rfl
  | .p _ _ => rfl
  | .e _ _ _ _ => rfl
  | .g cs => by simp only [SV.ren,SV.names,sren_names r cs]
  | .t cs => by simp only [SV.ren,SV.names,sren_names r cs]
  | .f _ cs => by simp only [SV.ren,SV.names,sren_names r cs]
  | .d _ => rfl
  | .u => rfl
theorem sren_names (r : Key → Key) : ∀ cs : List SV,snames (sren r cs) = (snames cs).map r
  | [] => rfl
  | c :: cs => by simp only [sren,snames,List.map_append,ren_names r c,sren_names r cs]
end
theorem oren_names (r : Key → Key) (o : SObj) : (o.ren r).names = o.names.map r := by
  cases o with
  | box cs => exact sren_names r cs
  | _ => rfl
theorem renOut {c : Cx P} {g : Gh} {w : World} {mt : Mem} {L : List Key} {os : List Obj} (hS : Sim c g mt w) (hos : L.mapM mt = some os) (hnd : L.Nodup) (hclo : ∀ k ∈ os.flatMap Obj.names,k ∈ L) :
    Sim c (g.lent L) (memOf (numbered 0 (os.map (Obj.ren (at? L))))) w ∧
      (∀ b,Mut (g.lent L) (memOf (numbered 0 (os.map (Obj.ren (at? L))))) b → Mut g mt b) ∧
      (∀ k ∈ L,memOf (numbered 0 (os.map (Obj.ren (at? L)))) (at? L k) = (mt k).map (Obj.ren (at? L)) ∧ (g.lent L).bl (at? L k) = g.bl k ∧ (g.lent L).hd (at? L k) = g.hd k) ∧
      ∀ x v,(∀ k ∈ x.names,k ∈ L) → VX c g mt w x v → VX c (g.lent L) (memOf (numbered 0 (os.map (Obj.ren (at? L))))) w (x.ren (at? L)) v := by
  obtain ⟨hlen,hget⟩ := mapM_get L os hos
  have hm : ∀ i,memOf (numbered 0 (os.map (Obj.ren (at? L)))) i = (L[i]?).bind fun k => (mt k).map (Obj.ren (at? L)) := by
    intro i
    simp only [memOf,numbered_lookup,Nat.zero_le,if_true,Nat.sub_zero,List.getElem?_map]
    cases hi : L[i]? with
    | none =>
      have : os[i]? = none := by
        rw [List.getElem?_eq_none_iff] at hi ⊢; omega
      rw [this]; rfl
    | some k =>
      rw [Option.bind_some,(hget i k hi).1]
  generalize memOf (numbered 0 (os.map (Obj.ren (at? L)))) = mL at *
  have hat : ∀ k ∈ L,mL (at? L k) = (mt k).map (Obj.ren (at? L)) ∧ (g.lent L).bl (at? L k) = g.bl k ∧ (g.lent L).hd (at? L k) = g.hd k ∧ (g.lent L).fd (at? L k) = g.fd k := by
    intro k hk
    have := idx_get hk
    simp only [hm,at?,Gh.lent,this,Option.bind_some,Option.map_some,Option.getD_some,and_self]
  have hMut : ∀ b,Mut (g.lent L) mL b → Mut g mt b := by
    rintro b ⟨i,o,hi,hrw,hb⟩
    rw [hm] at hi
    cases hL : L[i]? with
    | none => simp [hL] at hi
    | some k =>
      simp only [hL,Option.bind_some] at hi
      have e1 : (g.lent L).bl i = g.bl k := by simp only [Gh.lent,hL,Option.bind_some]
      have e2 : (g.lent L).fd i = g.fd k := by simp only [Gh.lent,hL,Option.map_some,Option.getD_some]
      cases hmk : mt k with
      | none => simp [hmk] at hi
      | some o0 =>
        simp only [hmk,Option.map_some,Option.some.injEq] at hi
        exact ⟨k,o0,hmk,by rw [← ren_rw (ρ := at? L) o0,hi]; exact hrw,Blk_eq hb e1 e2 (by rw [← hi,ren_dpw])⟩
  have hF : ∀ fp,(∀ b ∈ fp,b < w.heap.size) → okFp c g mt fp → okFp c (g.lent L) mL fp := fun fp _ hf b hb =>
    ⟨fun h => (hf b hb).1 (hMut b h),(hf b hb).2⟩
  have hPart : Part c g mt w c (g.lent L) mL (at? L) (fun i => L.getD i 0) (fun k => k ∈ L) := by
    refine ⟨fun i o hi => ?_,hat,fun k o hk hmk j hj => hclo j ?_⟩
    · rw [hm] at hi
      cases hL : L[i]? with
      | none => simp [hL] at hi
      | some k =>
        obtain ⟨hlt,e⟩ := List.getElem?_eq_some_iff.1 hL
        have : L.getD i 0 = k := by simp [hL]
        simp only [this]
        subst e
        exact ⟨List.getElem_mem hlt,hnd.idxOf_getElem i hlt⟩
    · have := idx_get hk
      obtain ⟨h1,h2⟩ := hget _ k this
      rw [hmk] at h1
      exact List.mem_flatMap.2 ⟨o,List.mem_of_getElem? h1.symm,hj⟩
  refine ⟨hPart.sim hS hS.frame hF (fun k b hk how => ?_) (fun b i hb => ?_),hMut,fun k hk => ⟨(hat k hk).1,(hat k hk).2.1,(hat k hk).2.2.1⟩,
    fun x v hx hv => VX_ren (K := fun k => k ∈ L) (fun k hk => ⟨(hat k hk).1,(hat k hk).2.1,(hat k hk).2.2.1⟩) hF x v hx hv⟩
  · simp only [Gh.lent,how,Option.bind_some,hk,if_true]; rfl
  · simp only [Gh.lent] at hb
    cases how : g.ow b with
    | none => simp [how] at hb
    | some k =>
      simp only [how,Option.bind_some] at hb
      split at hb
      · exact hS.live b k how
      · cases hb
theorem zip_lookup {α : Type} : ∀ (L : List Nat) (os : List α) (i : Nat) (k : Nat),L.Nodup → L.length = os.length → L[i]? = some k → (L.zip os).lookup k = os[i]?
  | [],os,i,k,_,_,h => by simp at h
  | j :: L,[],i,k,_,hl,h => by simp at hl
  | j :: L,o :: os,0,k,hn,hl,h => by simp at h; subst h; simp
  | j :: L,o :: os,i + 1,k,hn,hl,h => by
    simp only [List.nodup_cons] at hn
    have hk : L[i]? = some k := by simpa using h
    have hne : k ≠ j := fun e => by subst e; exact hn.1 (List.mem_of_getElem? hk)
    have hb : (k == j) = false := by simpa using hne
    simp only [List.zip_cons_cons,List.lookup_cons,hb]
    rw [zip_lookup L os i k hn.2 (by simpa using hl) hk]
    simp
theorem mapM_eq {α : Type} {f : Key → Option α} : ∀ (L : List Key) (os : List α),L.length = os.length → (∀ (i : Nat) (k : Key),L[i]? = some k → f k = os[i]?) → L.mapM f = some os
  | [],[],_,_ => rfl
  | [],_ :: _,h,_ => by simp at h
  | _ :: _,[],h,_ => by simp at h
  | k :: L,o :: os,h,hf => by
    rw [List.mapM_cons,hf 0 k rfl,mapM_eq L os (by simpa using h) (fun i j hj => by rw [hf (i + 1) j (by simpa using hj)]; simp)]
    rfl
theorem fnX_ok (hB : BOk sg B) {Φ : Fix P} (hT : TabOk P Φ (tabOf sg B)) (hm : P.follows .mixedOrders = true) {s : XSig} (hs : s.ok = true) (hsi : s.okIn = true) {H : Hint} (hnl : H.nl = s.objs.length) {f : FuncId} {fn : Func} {C : Code} (hf : fnOf P f = some (fn,C))
    {R : R} (hR : sxX P sg s H fn C = some R) (hw : R.wf s.ins.length [] = true) : FnX P Φ f (xspec s (evalF B N s.ins R)) := by
  obtain ⟨hf1,hb,_,hk⟩ := fnOf_ok hf
  refine ⟨fun args w => enter_of hf args w,fun c g os m w xs vals x m1 hΦ hmem hw0 hS hv hspec => ?_⟩
  refine calls_of_wp hf1 hb ?_
  have hrel := xspec_rel hspec
  obtain ⟨ρ1,ρ0,hx,ho,hF,_⟩ := id hrel
  cases hev : evalF B N s.ins R ((exprs s.ins 0).map (dat ρ1)) with
  | none => rw [hev] at hF; cases hF
  | some outs =>
    unfold evalF at hev
    split at hev
    · rename_i ρa hbind
      split at hev
      · rename_i ds' heval
        simp only [Option.some.injEq] at hev; subst hev
        obtain ⟨_,_,hl3⟩ := bindAt_ok _ _ _ _ _ hbind
        obtain ⟨ρ,hag,hrun⟩ := run_of_eval _ _ _ _ _ heval hw
        have hexp := hl3 ρ (by simpa using hag)
        have hleaf : ∀ e ∈ slv2 s.args ++ s.objs.flatMap SObj.lv2,dat ρ e = dat ρ1 e := by
          intro e he
          rcases Bool.or_eq_true_iff.1 (List.all_eq_true.1 hsi e he) with hv | ha
          · exact isVc_dat hv _ _
          · obtain ⟨y,hy,hye⟩ := any_same ha
            rw [← hye,← hye]
            exact List.map_inj_left.1 hexp y hy
        have hxs : γXs ρ s.args = xs := by rw [hx]; exact slv2_ok _ fun e he => hleaf e (by simp [he])
        have hos : s.objs.map (γO ρ) = os := by
          rw [ho]
          exact List.map_congr_left fun o hom => olv2_ok o fun e he => hleaf e (List.mem_append_right _ (List.mem_flatMap.2 ⟨o,hom,he⟩))
        have hm0 : γm ρ (numS 0 s.objs) = m := by rw [γm_numS,hos,hmem]
        have hl : ∀ k,m k ≠ none → k < H.nl := by
          intro k hk'
          rw [hmem] at hk'
          unfold memOf at hk'
          rw [numbered_lookup] at hk'
          simp only [Nat.zero_le,if_true,Nat.sub_zero] at hk'
          have := (List.getElem?_eq_some_iff.1 (Option.ne_none_iff_exists'.1 hk').choose_spec).1
          rw [← hos,List.length_map] at this
          rw [hnl]; exact this
        have hH : Held c g m w (γs ρ (enumSl 0 s.args)) { tmps := vals.toArray ++ Array.replicate (fn.ntmps - vals.toArray.size) undef,defers := [] } := by
          intro t
          rw [γs_enum,hxs]
          cases hd : xs[t]? with
          | none =>
            have : xs.getD t .u = .u := by simp [hd]
            rw [this]; trivial
          | some y =>
            obtain ⟨v,h1,h2⟩ := VXs_at xs vals t y hv hd
            have e1 : xs.getD t .u = y := by simp [hd]
            have hlt : t < vals.length := (List.getElem?_eq_some_iff.1 h1).1
            have e2 : (vals.toArray ++ Array.replicate (fn.ntmps - vals.toArray.size) undef).getD t undef = v := by
              rw [Array.getD_eq_getD_getElem?,Array.getElem?_append_left (by simpa using hlt)]
              simp [h1]
            rw [e1,e2]; exact h2
        unfold sxX at hR
        rw [← hm0] at hS hH
        refine sxC_ok (N := N) hB ⟨Φ,hΦ,hT⟩ hm H (c := c) (g0 := g) (m0 := m) (w0 := w) hl C ⟨enumSl 0 s.args,numS 0 s.objs⟩ _ _ R ρ _ _ w g _ hR hrun hS hH (by rw [hm0]; exact .refl _ _ _ _) (codeOk_mono (by simp; omega) C hk)
          fun ex s' n' R' ρ' a' w' g' _ _ hk' hr' hS' hH' hC' hd' _ => ?_
        have fin : finX P fn s H s' n' = some R' → a'.defers = [] ∧ ∃ v,(results fn a'.tmps).run P w' = .ok v w' ∧ ∃ v' g',Ending.returned v = .returned v' ∧ Sim c g' m1 w' ∧ Compat c g m w g' m1 w' ∧ VX c g' m1 w' x v' := by
          intro h
          unfold finX at h
          obtain ⟨g2,hS2,hH2,hC2⟩ := ownAll_ok retId H.own s' g' hS' hH' hC'
          simp only at h
          generalize ownAll H.own retId s' = s1 at *
          split at h
          · rename_i q hq
            split at h
            · rename_i hcond
              obtain ⟨hLl,hnm⟩ := hcond
              split at h
              · rename_i vs hvs
                split at h
                · rename_i hout
                  simp only [Option.some.injEq] at h; subst h
                  obtain ⟨his,hd⟩ := run_wrap _ _ _ hr'
                  simp only [Run,Oc.done.injEq] at hd
                  have hrunX := SMP.run_ok _ _ _ _ _ (sresX_ok (B := B) (P := P) (st := ⟨γs ρ' s1.sl,γm ρ' s1.m⟩) rfl fn.results.toList) hq his
                  rw [MP.runT_eq] at hrunX
                  cases hr2 : (resX P ⟨γs ρ' s1.sl,γm ρ' s1.m⟩ fn.results.toList).run (γm ρ' s1.m) with
                  | none => rw [hr2] at hrunX; cases hrunX
                  | some p =>
                    obtain ⟨ys,m2⟩ := p
                    rw [hr2] at hrunX
                    simp only [Option.map_some,Option.some.injEq,Prod.mk.injEq] at hrunX
                    obtain ⟨e1,vl,h3,h4⟩ := resX_sound (st := ⟨γs ρ' s1.sl,γm ρ' s1.m⟩) (P := P) hS2 hH2 _ ys m2 hr2
                    have e1 : m2 = γm ρ' s1.m := e1
                    have hqm : γm ρ' q.m = γm ρ' s1.m := by rw [← hrunX.2.1,e1]
                    have h4 : VXs c g2 (γm ρ' s1.m) w' ys vl := h4
                    have hvx : VX c g2 (γm ρ' s1.m) w' (γX ρ' (sres1 q.val)) (resOf vl) := by
                      have hys : ys = q.val.map (γX ρ') := hrunX.1
                      rw [hys] at h4
                      have hl := VXs_length _ _ h4
                      match hqv : q.val,vl,hl,h4 with
                      | [],[],_,h4 => exact ⟨[],rfl,h4⟩
                      | [z],[v],_,⟨v',vs',e,h6,_⟩ => cases e; exact h6
                      | z :: y :: l,u :: v :: l',_,h5 => exact ⟨_,rfl,by rw [γXs_map]; exact h5⟩
                    have hres := results_run h3
                    generalize hL : List.range s.objs.length ++ once [] ((newKeys s.objs.length s.res s.robjs (sres1 q.val) q.m).filter fun k => s.objs.length ≤ k) = L at *
                    have hnd : L.Nodup := by
                      rw [← hL]
                      refine List.nodup_append.2 ⟨List.nodup_range,once_nodup _ _ List.nodup_nil,fun a ha b hb => ?_⟩
                      rw [List.mem_range] at ha
                      rcases (once_mem _ _ _).1 hb with h | h
                      · simp at h
                      · have := (List.mem_filter.1 h).2
                        simp at this
                        omega
                    have hlt : ∀ k,k < s.objs.length → L[k]? = some k := by
                      intro k hk
                      rw [← hL,List.getElem?_append_left (by simpa using hk)]
                      simp [hk]
                    let act : Act := { tmps := #[resOf vl],defers := [] }
                    have hact : Held c g2 (γm ρ' q.m) w' (γs ρ' [(0,sres1 q.val)]) act := by
                      intro t
                      cases t with
                      | zero => rw [hqm]; exact hvx
                      | succ t => trivial
                    let ρ2 : Env := setEnv 0 (vs.map (den ρ')) fun _ => .i 0
                    obtain ⟨_,hset⟩ := setEnv_ok (vs.map (den ρ')) 0 (fun _ => V.i 0)
                    obtain ⟨g3,hS3,hH3,hC3⟩ := like_ok (nl := s.objs.length) (by rw [← hnl]; exact hl) ⟨[(0,s.res.ren fun i => L.getD i 0)],L.zip (s.robjs.map (SObj.ren fun i => L.getD i 0))⟩ (s := ⟨[(0,sres1 q.val)],q.m⟩) (by rw [hqm]; exact hS2) hact (by rw [hqm]; exact hC2)
                    obtain ⟨q1,q2,q3⟩ := matchSt_ok (ρ' := ρ2) hvs (fun j hj => absurd hj (by omega)) hset (by rw [← hnl]; exact hl) hS3 hH3 hC3
                    have hv2 : VX c g3 (γm ρ2 (L.zip (s.robjs.map (SObj.ren fun i => L.getD i 0)))) w' (γX ρ2 (s.res.ren fun i => L.getD i 0)) (resOf vl) := q2 0
                    have q1 : Sim c g3 (γm ρ2 (L.zip (s.robjs.map (SObj.ren fun i => L.getD i 0)))) w' := q1
                    have q3 : Compat c g m w g3 (γm ρ2 (L.zip (s.robjs.map (SObj.ren fun i => L.getD i 0)))) w' := q3
                    have houts : (exprs s.outs 0).map (dat ρ2) = ds' := by
                      rw [hd]
                      refine (outE_ok s.outs vs 0 hout fun j y hj => ?_).symm
                      exact hset j (den ρ' y) (by rw [List.getElem?_map,hj]; rfl)
                    have hrel2 : s.rel (evalF B N s.ins R) xs os (γX ρ2 s.res,γm ρ2 (numS 0 s.robjs)) := by
                      refine ⟨ρ1,ρ2,hx,ho,?_,rfl⟩
                      unfold evalF
                      rw [hbind]; simp only [heval,houts]
                    have hone := XSig.rel_one hs hrel hrel2
                    simp only [Prod.mk.injEq] at hone
                    obtain ⟨ex,em⟩ := hone
                    have hnm : ∀ k ∈ s.res.names ++ s.robjs.flatMap SObj.names,k < L.length := fun k hk => Nat.lt_of_succ_le (Nat.le_of_ble_eq_true (List.all_eq_true.1 hnm k hk))
                    have hosM : L.mapM (γm ρ2 (L.zip (s.robjs.map (SObj.ren fun i => L.getD i 0)))) = some ((s.robjs.map (SObj.ren fun i => L.getD i 0)).map (γO ρ2)) := by
                      refine mapM_eq L _ (by simpa using hLl) fun i k hi => ?_
                      simp only [γm]
                      rw [zip_lookup L _ i k hnd (by simpa using hLl) hi]
                      simp only [List.getElem?_map]
                    have hrenamed : ((s.robjs.map (SObj.ren fun i => L.getD i 0)).map (γO ρ2)).map (Obj.ren (at? L)) = s.robjs.map (γO ρ2) := by
                      simp only [List.map_map]
                      refine List.map_congr_left fun o hom => ?_
                      simp only [Function.comp,oren_ok]
                      rw [oren_back hnd o fun k hk => hnm k (List.mem_append_right _ (List.mem_flatMap.2 ⟨o,hom,hk⟩))]
                    have hgetD : ∀ j,j < L.length → L.getD j 0 ∈ L := fun j hj => by
                      simp only [List.getD_eq_getElem?_getD,List.getElem?_eq_getElem hj,Option.getD_some]
                      exact List.getElem_mem hj
                    have hclo : ∀ k ∈ ((s.robjs.map (SObj.ren fun i => L.getD i 0)).map (γO ρ2)).flatMap Obj.names,k ∈ L := by
                      intro k hk
                      rw [flatMap_onames] at hk
                      obtain ⟨o,hom,hko⟩ := List.mem_flatMap.1 hk
                      obtain ⟨o',ho',rfl⟩ := List.mem_map.1 hom
                      rw [oren_names] at hko
                      obtain ⟨j,hj,rfl⟩ := List.mem_map.1 hko
                      exact hgetD j (hnm j (List.mem_append_right _ (List.mem_flatMap.2 ⟨o',ho',hj⟩)))
                    obtain ⟨r1,r2,r3,r4⟩ := renOut q1 hosM hnd hclo
                    rw [hrenamed,← γm_numS,← em] at r1 r2 r3 r4
                    have hvf := r4 _ _ (fun k hk => by
                      rw [names_ok,ren_names] at hk
                      obtain ⟨j,hj,rfl⟩ := List.mem_map.1 hk
                      exact hgetD j (hnm j (by simp [hj]))) hv2
                    rw [ren_ok,ren_back hnd _ (fun k hk => hnm k (by simp [hk])),← ex] at hvf
                    refine ⟨hd',resOf vl,hres,resOf vl,g3.lent L,rfl,r1,⟨q3.size,fun b h1 h2 h3 => ⟨(q3.pure b h1 h2 h3).1,fun hm => (q3.pure b h1 h2 h3).2 (r2 b hm)⟩,fun k cs hk => ?_,fun k ty sz es dp rw hk => ?_,fun k hk => ?_⟩,hvf⟩
                    · have hkl : k < s.objs.length := by rw [← hnl]; exact hl k (by rw [hk]; simp)
                      have hkL := List.mem_of_getElem? (hlt k hkl)
                      have hatk : at? L k = k := by
                        obtain ⟨hlt',e⟩ := List.getElem?_eq_some_iff.1 (hlt k hkl)
                        have := hnd.idxOf_getElem k hlt'
                        rw [e] at this; exact this
                      obtain ⟨⟨cs',e1⟩,e2⟩ := q3.box k cs hk
                      obtain ⟨a1,a2,a3⟩ := r3 k hkL
                      rw [hatk] at a1 a2
                      exact ⟨⟨renL (at? L) cs',by rw [a1,e1]; rfl⟩,a2.trans e2⟩
                    · have hkl : k < s.objs.length := by rw [← hnl]; exact hl k (by rw [hk]; simp)
                      have hkL := List.mem_of_getElem? (hlt k hkl)
                      have hatk : at? L k = k := by
                        obtain ⟨hlt',e⟩ := List.getElem?_eq_some_iff.1 (hlt k hkl)
                        have := hnd.idxOf_getElem k hlt'
                        rw [e] at this; exact this
                      obtain ⟨a1,a2,a3⟩ := r3 k hkL
                      rw [hatk] at a1 a2 a3
                      rcases q3.arr k ty sz es dp rw hk with e1 | ⟨es',dp',rw',e1,e2⟩
                      · exact .inl (by rw [a1,e1]; rfl)
                      · exact .inr ⟨es',dp',rw',by rw [a1,e1]; rfl,by rw [a2,a3]; exact e2⟩
                    · have hkl : k < s.objs.length := by rw [← hnl]; exact hl k (by rw [hk]; simp)
                      have hkL := List.mem_of_getElem? (hlt k hkl)
                      have hatk : at? L k = k := by
                        obtain ⟨hlt',e⟩ := List.getElem?_eq_some_iff.1 (hlt k hkl)
                        have := hnd.idxOf_getElem k hlt'
                        rw [e] at this; exact this
                      obtain ⟨a1,a2,a3⟩ := r3 k hkL
                      rw [hatk] at a1
                      rw [a1,q3.dead k hk]; rfl
                · cases h
              · cases h
            · cases h
          · cases h
        cases ex with
        | norm => exact fin hk'
        | ret => exact fin hk'
        | exit id => cases hk'
      · cases hev
    · cases hev
end
end Go.Tm
end
section
namespace Go.Tm
inductive Body where
  | r (h : Hint) (r : R)
  | m (F : List D → Option (List D))
structure Entry where
  sig : Sig
  body : Body
abbrev Tabl := List (FuncId × Entry)
def insOf : Sig → List Sh1
  | .d s => s.pars.flatMap Sh.leaves
  | .x s => s.ins
def sgOf (L : Tabl) : FuncId → Option Sig := fun f => match L.lookup f with
  | some e => some e.sig
  | none => none
def arT (L : Tabl) : FuncId → Option (List (Option Nat)) := fun f => match L.lookup f with
  | some e => match e.sig with
    | .d s => arOf s
    | _ => none
  | none => none
noncomputable def tbN (L : Tabl) : Nat → Tb
  | 0 => { call := fun _ _ => none,ar := arT L }
  | n + 1 => { call := fun f => match L.lookup f with
      | some ⟨s,.r _ r⟩ => evalF (tbN L n) n (insOf s) r
      | some ⟨_,.m F⟩ => F
      | none => fun _ => none,ar := arT L }
def sigOk2 : Sig → Bool
  | .d s => sigOk (.d s)
  | .x s => s.ok && s.okIn
def sxE (P : Program) (sg : FuncId → Option Sig) (f : FuncId) (s : Sig) (H : Hint) : Option R := match fnOf P f with
  | some (fn,C) => if sigOk2 s then match s with
    | .d s => if H.nl == 0 then sxD P sg s H fn C else none
    | .x s => if H.nl == s.objs.length then sxX P sg s H fn C else none
    else none
  | none => none
def GoodE (P : Program) (sg : FuncId → Option Sig) (f : FuncId) (e : Entry) (Φ : Fix P := .none P) : Prop := match e with
  | ⟨s,.r H r⟩ => sxE P sg f s H = some r ∧ r.wf (insOf s).length [] = true
  | ⟨s,.m F⟩ => sigOk2 s = true ∧ (∀ args w,(callFunc f args).run P w = .ok (.enter f args) w) ∧ match s with
    | .d s => FnOk P Φ f (dspec s F)
    | .x s => FnX P Φ f (xspec s F)
def AllGood (P : Program) (sg : FuncId → Option Sig) (l : Tabl) (Φ : Fix P := .none P) : Prop := match l with
  | [] => True
  | (f,e) :: l => GoodE P sg f e Φ ∧ AllGood P sg l Φ
section
variable {P : Program} {L : Tabl} {Φ : Fix P}
theorem AllGood.at_ {sg : FuncId → Option Sig} : ∀ {l : Tabl},AllGood P sg l Φ → ∀ {f : FuncId} {e : Entry},l.lookup f = some e → GoodE P sg f e Φ
  | (k,x) :: l,⟨h1,h2⟩,f,e,h => by
    simp only [List.lookup_cons] at h
    by_cases hf : f = k
    · subst hf; simp at h; subst h; exact h1
    · have hb : (f == k) = false := by simpa using hf
      rw [hb] at h
      exact AllGood.at_ h2 h
theorem GoodE.sig {sg : FuncId → Option Sig} {f : FuncId} {s : Sig} {b : Body} (h : GoodE P sg f ⟨s,b⟩ Φ) : sigOk2 s = true := by
  cases b with
  | m F => exact h.1
  | r H r =>
    obtain ⟨h,_⟩ := h
    unfold sxE at h
    split at h
    · split at h
      · assumption
      · cases h
    · cases h
theorem sigOk_of {s : Sig} (h : sigOk2 s = true) : sigOk s = true := by
  cases s with
  | d s => exact h
  | x s => simp only [sigOk2,Bool.and_eq_true] at h; exact h.1
theorem bOk (hL : AllGood P (sgOf L) L Φ) (n : Nat) : BOk (sgOf L) (tbN L n) := by
  refine ⟨fun f s h => ?_,fun f a h => ?_⟩
  · unfold sgOf at h
    split at h
    · rename_i e he
      simp only [Option.some.injEq] at h; subst h
      obtain ⟨s,b⟩ := e
      exact sigOk_of (hL.at_ he).sig
    · cases h
  · have har : (tbN L n).ar = arT L := by cases n <;> rfl
    rw [har] at h
    unfold arT at h
    unfold sgOf
    split at h
    · rename_i e he
      split at h
      · rename_i s hs
        exact ⟨s,by simp only [hs],h⟩
      · cases h
    · cases h
theorem tabOk (hm : P.follows .mixedOrders = true) (hL : AllGood P (sgOf L) L Φ) : ∀ n,TabOk P Φ (tabOf (sgOf L) (tbN L n)) := by
  have enter : ∀ f e,L.lookup f = some e → ∀ args w,(callFunc f args).run P w = .ok (.enter f args) w := by
    intro f e he
    obtain ⟨s,b⟩ := e
    have hg := hL.at_ he
    cases b with
    | m F => exact hg.2.1
    | r H r =>
      obtain ⟨h,_⟩ := hg
      unfold sxE at h
      split at h
      · rename_i fn C hf
        exact fun args w => enter_of hf args w
      · cases h
  intro n
  induction n with
  | zero =>
    refine ⟨fun f S h => ?_,fun f S h => ?_⟩
    · unfold tabOf sgOf at h
      simp only at h
      cases he : L.lookup f with
      | none => simp [he] at h
      | some e =>
        simp only [he] at h
        split at h
        · rename_i s hs
          simp only [Option.some.injEq] at h; subst h
          refine ⟨enter f e he,fun w ds vals fps r _ _ hF => ?_⟩
          unfold dspec at hF
          cases hfl : flattenD s.pars ds with
          | none => simp [hfl] at hF
          | some ls => simp only [hfl,Option.bind_some] at hF; cases hF
        · cases h
    · unfold tabOf sgOf at h
      simp only at h
      cases he : L.lookup f with
      | none => simp [he] at h
      | some e =>
        simp only [he] at h
        split at h
        · rename_i s hs
          simp only [Option.some.injEq] at h; subst h
          refine ⟨enter f e he,fun c g os m w xs vals x m1 _ _ _ _ _ hsp => ?_⟩
          obtain ⟨_,_,_,_,hF,_⟩ := xspec_rel hsp
          cases hF
        · cases h
  | succ n ih =>
    have hB := bOk hL n
    have hcall : ∀ f s H r,L.lookup f = some ⟨s,.r H r⟩ → (tbN L (n + 1)).call f = evalF (tbN L n) n (insOf s) r := by
      intro f s H r he
      show (match L.lookup f with
      | some ⟨s,.r _ r⟩ => evalF (tbN L n) n (insOf s) r
      | some ⟨_,.m F⟩ => F
      | none => fun _ => none) = _
      rw [he]
    have hcallm : ∀ f s F,L.lookup f = some ⟨s,.m F⟩ → (tbN L (n + 1)).call f = F := by
      intro f s F he
      show (match L.lookup f with
      | some ⟨s,.r _ r⟩ => evalF (tbN L n) n (insOf s) r
      | some ⟨_,.m F⟩ => F
      | none => fun _ => none) = _
      rw [he]
    refine ⟨fun f S h => ?_,fun f S h => ?_⟩
    · unfold tabOf sgOf at h
      simp only at h
      cases he : L.lookup f with
      | none => simp [he] at h
      | some e =>
        simp only [he] at h
        split at h
        · rename_i s hs
          simp only [Option.some.injEq] at h; subst h
          obtain ⟨s',b⟩ := e
          simp only [Option.some.injEq] at hs; subst hs
          have hg := hL.at_ he
          cases b with
          | m F => rw [hcallm f _ F he]; exact hg.2.2
          | r H r =>
            rw [hcall f _ H r he]
            obtain ⟨h,hw⟩ := hg
            unfold sxE at h
            split at h
            · rename_i fn C hf
              split at h
              · simp only at h
                split at h
                · rename_i hn
                  exact fnD_ok hB ih hm (by simpa using hn) hf h hw
                · cases h
              · cases h
            · cases h
        · cases h
    · unfold tabOf sgOf at h
      simp only at h
      cases he : L.lookup f with
      | none => simp [he] at h
      | some e =>
        simp only [he] at h
        split at h
        · rename_i s hs
          simp only [Option.some.injEq] at h; subst h
          obtain ⟨s',b⟩ := e
          simp only [Option.some.injEq] at hs; subst hs
          have hg := hL.at_ he
          cases b with
          | m F => rw [hcallm f _ F he]; exact hg.2.2
          | r H r =>
            rw [hcall f _ H r he]
            obtain ⟨h,hw⟩ := hg
            unfold sxE at h
            split at h
            · rename_i fn C hf
              split at h
              · rename_i hsig
                simp only at h
                split at h
                · rename_i hn
                  simp only [sigOk2,Bool.and_eq_true] at hsig
                  exact fnX_ok hB ih hm hsig.1 hsig.2 (by simpa using hn) hf h hw
                · cases h
              · cases h
            · cases h
        · cases h
end
end Go.Tm
end
section
namespace Go.Tm
structure Tb.Le (B B' : Tb) : Prop where
  ar : B'.ar = B.ar
  call : ∀ f ds r,B.call f ds = some r → B'.call f ds = some r
theorem Tb.Le.refl (B : Tb) : B.Le B := ⟨rfl,fun _ _ _ h => h⟩
section
variable {B B' : Tb} {N N' : Nat} {L : Tabl}
theorem evalI_le (h : B.Le B') (x : I) (ρ ρ' : Env) (he : evalI B x ρ = some ρ') : evalI B' x ρ = some ρ' := by
  cases x with
  | chk b => exact he
  | head sz l => exact he
  | fl l => exact he
  | get e sh n => exact he
  | idx l i sh n => exact he
  | call f as rs n =>
    simp only [evalI] at he ⊢
    cases hc : B.call f (as.map (dat ρ)) with
    | none => rw [hc] at he; cases he
    | some ds => rw [hc] at he; rw [h.call _ _ _ hc]; exact he
  | prim p as r n => exact he
  | callv e as ar rs n =>
    simp only [evalI] at he ⊢
    split at he
    · rename_i fn caps hd
      split at he
      · rename_i har
        rw [h.ar,if_pos har]
        cases hc : B.call fn (as.map (dat ρ) ++ caps.map D.norm) with
        | none => rw [hc] at he; cases he
        | some ds => rw [hc] at he; rw [h.call _ _ _ hc]; exact he
      · cases he
    · cases he
theorem loopE_le {f f' : List V → Option Oc} (h : ∀ vs o,f vs = some o → f' vs = some o) : ∀ (n n' : Nat) (vs : List V) (o : Oc),n ≤ n' → loopE f n vs = some o → loopE f' n' vs = some o
  | 0,_,_,_,_,he => by cases he
  | n + 1,0,_,_,hn,_ => by omega
  | n + 1,n' + 1,vs,o,hn,he => by
    simp only [loopE] at he ⊢
    cases hf : f vs with
    | none => rw [hf] at he; cases he
    | some o1 =>
      rw [hf] at he; rw [h _ _ hf]
      cases o1 with
      | next vs' => exact loopE_le h n n' vs' o (by omega) he
      | esc o' => exact he
      | done ds => cases he
theorem evalR_le (h : B.Le B') (hn : N ≤ N') : ∀ (r : R) (ρ : Env) (o : Oc),evalR B N r ρ = some o → evalR B' N' r ρ = some o
  | .i x r,ρ,o,he => by
    simp only [evalR] at he ⊢
    cases hx : evalI B x ρ with
    | none => rw [hx] at he; cases he
    | some ρ' =>
      rw [hx] at he; rw [evalI_le h x ρ ρ' hx]
      exact evalR_le h hn r ρ' o he
  | .ite b x y,ρ,o,he => by
    simp only [evalR] at he ⊢
    cases hb : bol ρ b with
    | true => rw [hb] at he; exact evalR_le h hn x ρ o he
    | false => rw [hb] at he; exact evalR_le h hn y ρ o he
  | .nilq c l x y,ρ,o,he => by
    simp only [evalR] at he ⊢
    cases hl : lst ρ l with
    | nil =>
      rw [hl] at he
      simp only at he ⊢
      split at he
      · rename_i e
        rw [if_pos]
        · exact evalR_le h hn y ρ o he
        · rw [evalR_le h hn y ρ o he,evalR_le h hn x ρ o (e.trans he)]
      · cases he
    | cons d l' => rw [hl] at he; exact evalR_le h hn y ρ o he
  | .loop c init body,ρ,o,he => by
    simp only [evalR] at he ⊢
    exact loopE_le (fun vs o => evalR_le h hn body (setEnv c vs ρ) o) _ _ _ _ hn he
  | .next vs,ρ,o,he => he
  | .done vs,ρ,o,he => he
  | .esc r,ρ,o,he => by
    simp only [evalR] at he ⊢
    cases hr : evalR B N r ρ with
    | none => rw [hr] at he; cases he
    | some o' => rw [hr] at he; rw [evalR_le h hn r ρ o' hr]; exact he
theorem evalF_le (h : B.Le B') (hn : N ≤ N') {ins : List Sh1} {r : R} {ls ds : List D} (he : evalF B N ins r ls = some ds) : evalF B' N' ins r ls = some ds := by
  unfold evalF at he ⊢
  cases hb : bindAt ins ls 0 (fun _ => .i 0) with
  | none => rw [hb] at he; cases he
  | some ρ =>
    rw [hb] at he
    simp only at he ⊢
    cases hr : evalR B N r ρ with
    | none => rw [hr] at he; cases he
    | some o => rw [hr] at he; rw [evalR_le h hn r ρ o hr]; exact he
theorem tbN_ar (n : Nat) : (tbN L n).ar = arT L := by cases n <;> rfl
theorem tbN_le : ∀ (n n' : Nat),n ≤ n' → (tbN L n).Le (tbN L n')
  | 0,n',_ => ⟨by rw [tbN_ar,tbN_ar],fun f ds r h => by cases h⟩
  | n + 1,0,h => by omega
  | n + 1,n' + 1,h => by
    refine ⟨rfl,fun f ds r hc => ?_⟩
    simp only [tbN] at hc ⊢
    cases hf : L.lookup f with
    | none => rw [hf] at hc; cases hc
    | some e =>
      rw [hf] at hc
      obtain ⟨s,b⟩ := e
      cases b with
      | r H r' => exact evalF_le (tbN_le n n' (by omega)) (by omega) hc
      | m F => exact hc
def Ev (L : Tabl) (f : FuncId) (as ds : List D) : Prop := ∃ N,(tbN L N).call f as = some ds
theorem Ev.one {f : FuncId} {as ds ds' : List D} (h : Ev L f as ds) (h' : Ev L f as ds') : ds = ds' := by
  obtain ⟨n,h⟩ := h
  obtain ⟨m,h'⟩ := h'
  have a := (tbN_le (L := L) n (max n m) (Nat.le_max_left _ _)).call _ _ _ h
  have b := (tbN_le (L := L) m (max n m) (Nat.le_max_right _ _)).call _ _ _ h'
  rw [a] at b; exact Option.some.inj b
def envL (l : List V) : Env := fun k => l.getD k (.i 0)
theorem envL_snoc (l : List V) (v : V) : upd (envL l) l.length v = envL (l ++ [v]) := by
  funext k
  unfold upd envL
  simp only [List.getD_eq_getElem?_getD]
  split
  · rename_i h; subst h; simp
  · rename_i h
    by_cases hk : k < l.length
    · rw [List.getElem?_append_left hk]
    · rw [List.getElem?_eq_none (by omega),List.getElem?_eq_none (by simp; omega)]
def bindL : List Sh1 → List D → Option (List V)
  | [],[] => some []
  | a :: as,d :: ds => match a.toV d,bindL as ds with
    | some v,some vs => some (v :: vs)
    | _,_ => none
  | _,_ => none
theorem bindL_ok : ∀ (as : List Sh1) (ds : List D) (l vs : List V),bindL as ds = some vs → bindAt as ds l.length (envL l) = some (envL (l ++ vs))
  | [],[],l,vs,h => by simp only [bindL,Option.some.injEq] at h; subst h; simp [bindAt]
  | [],_ :: _,l,vs,h => by cases h
  | _ :: _,[],l,vs,h => by cases h
  | a :: as,d :: ds,l,vs,h => by
    simp only [bindL] at h
    split at h
    · rename_i v vs' h1 h2
      simp only [Option.some.injEq] at h; subst h
      simp only [bindAt,h1,envL_snoc]
      have := bindL_ok as ds (l ++ [v]) vs' h2
      simp only [List.length_append,List.length_singleton,List.append_assoc,List.singleton_append] at this
      exact this
    · cases h
def bindSh : Sh → D → Option (List V)
  | .one a,d => bindL [a] [d]
  | .g as,.g cs => bindL as cs
  | .q as,.q cs => bindL as cs
  | _,_ => none
theorem bindSh_ok {sh : Sh} {d : D} {l vs : List V} (h : bindSh sh d = some vs) : sh.bind d l.length (envL l) = some (envL (l ++ vs)) := by
  cases sh with
  | one a => exact bindL_ok _ _ _ _ h
  | g as => cases d <;> simp only [bindSh] at h <;> first | exact bindL_ok _ _ _ _ h | cases h
  | q as => cases d <;> simp only [bindSh] at h <;> first | exact bindL_ok _ _ _ _ h | cases h
theorem setEnv_list : ∀ (vs l : List V),setEnv l.length vs (envL l) = envL (l ++ vs)
  | [],l => by simp [setEnv]
  | v :: vs,l => by
    simp only [setEnv,envL_snoc]
    have := setEnv_list vs (l ++ [v])
    simp only [List.length_append,List.length_singleton,List.append_assoc,List.singleton_append] at this
    exact this
def WR (L : Tabl) (r : R) (l : List V) (Q : Oc → Prop) : Prop := ∃ N o,evalR (tbN L N) N r (envL l) = some o ∧ Q o
variable {r x y body : R} {l vs : List V} {Q Q' : Oc → Prop} {n c : Nat}
theorem WR.mono (h : WR L r l Q) (hQ : ∀ o,Q o → Q' o) : WR L r l Q' := by
  obtain ⟨N,o,h1,h2⟩ := h; exact ⟨N,o,h1,hQ o h2⟩
theorem WR.chk {b : E} (hb : bol (envL l) b = true) (h : WR L r l Q) : WR L (.i (.chk b) r) l Q := by
  obtain ⟨N,o,h1,h2⟩ := h
  exact ⟨N,o,by simp only [evalR,evalI,hb,if_true]; exact h1,h2⟩
theorem WR.head {sz : Nat} {e : E} (hb : headOk sz (lst (envL l) e) = true) (h : WR L r l Q) : WR L (.i (.head sz e) r) l Q := by
  obtain ⟨N,o,h1,h2⟩ := h
  exact ⟨N,o,by simp only [evalR,evalI,hb,if_true]; exact h1,h2⟩
theorem WR.fl {e : E} (hb : flats (lst (envL l) e) = true) (h : WR L r l Q) : WR L (.i (.fl e) r) l Q := by
  obtain ⟨N,o,h1,h2⟩ := h
  exact ⟨N,o,by simp only [evalR,evalI,hb,if_true]; exact h1,h2⟩
theorem WR.get {e : E} {sh : Sh} (hn : n = l.length) (hb : bindSh sh (dat (envL l) e) = some vs) (h : WR L r (l ++ vs) Q) : WR L (.i (.get e sh n) r) l Q := by
  obtain ⟨N,o,h1,h2⟩ := h
  subst hn
  exact ⟨N,o,by simp only [evalR,evalI,bindSh_ok hb]; exact h1,h2⟩
theorem WR.idx {e i : E} {sh : Sh} {d : D} (hn : n = l.length) (h0 : 0 ≤ int (envL l) i) (hd : (lst (envL l) e)[(int (envL l) i).toNat]? = some d) (hb : bindSh sh d = some vs) (h : WR L r (l ++ vs) Q) :
    WR L (.i (.idx e i sh n) r) l Q := by
  obtain ⟨N,o,h1,h2⟩ := h
  subst hn
  exact ⟨N,o,by simp only [evalR,evalI,if_pos h0,hd,bindSh_ok hb]; exact h1,h2⟩
theorem WR.call {f : FuncId} {as : List E} {rs : List Sh1} {ds : List D} (hn : n = l.length) (hc : Ev L f (as.map (dat (envL l))) ds) (hb : bindL rs ds = some vs) (h : WR L r (l ++ vs) Q) :
    WR L (.i (.call f as rs n) r) l Q := by
  obtain ⟨N,o,h1,h2⟩ := h
  obtain ⟨M,hM⟩ := hc
  subst hn
  refine ⟨max N M,o,?_,h2⟩
  have e1 := (tbN_le (L := L) M (max N M) (Nat.le_max_right _ _)).call _ _ _ hM
  have e2 := evalR_le (tbN_le (L := L) N (max N M) (Nat.le_max_left N M)) (Nat.le_max_left N M) _ _ _ h1
  simp only [evalR,evalI,e1,bindL_ok _ _ _ _ hb]; exact e2
theorem WR.prim {p : Prim} {as : List E} {r1 : Sh1} {n : Nat} {d : D} (hn : n = l.length) (hp : primF p (as.map (dat (envL l))) = some d) (hb : bindL [r1] [d] = some vs) (h : WR L r (l ++ vs) Q) : WR L (.i (.prim p as r1 n) r) l Q := by
  obtain ⟨N,o,h1,h2⟩ := h
  subst hn
  exact ⟨N,o,by simp only [evalR,evalI,hp,bindL_ok _ _ _ _ hb]; exact h1,h2⟩
theorem WR.callv {e : E} {as : List E} {ar : List (Option Nat)} {rs : List Sh1} {fn : FuncId} {caps ds : List D} (hn : n = l.length) (he : dat (envL l) e = .f fn caps) (har : arT L fn = some (ar ++ caps.map fun _ => none))
    (hc : Ev L fn (as.map (dat (envL l)) ++ caps.map D.norm) ds) (hb : bindL rs ds = some vs) (h : WR L r (l ++ vs) Q) : WR L (.i (.callv e as ar rs n) r) l Q := by
  obtain ⟨N,o,h1,h2⟩ := h
  obtain ⟨M,hM⟩ := hc
  subst hn
  refine ⟨max N M,o,?_,h2⟩
  have e1 := (tbN_le (L := L) M (max N M) (Nat.le_max_right _ _)).call _ _ _ hM
  have e2 := evalR_le (tbN_le (L := L) N (max N M) (Nat.le_max_left N M)) (Nat.le_max_left N M) _ _ _ h1
  simp only [evalR,evalI,he,tbN_ar,har,if_true,e1,bindL_ok _ _ _ _ hb]; exact e2
theorem WR.ite {b : E} (hx : bol (envL l) b = true → WR L x l Q) (hy : bol (envL l) b = false → WR L y l Q) : WR L (.ite b x y) l Q := by
  cases hb : bol (envL l) b with
  | true =>
    obtain ⟨N,o,h1,h2⟩ := hx hb
    exact ⟨N,o,by simp only [evalR,hb,if_true]; exact h1,h2⟩
  | false =>
    obtain ⟨N,o,h1,h2⟩ := hy hb
    exact ⟨N,o,by simp only [evalR,hb,Bool.false_eq_true,if_false]; exact h1,h2⟩
theorem WR.iteT {b : E} (hb : bol (envL l) b = true) (hx : WR L x l Q) : WR L (.ite b x y) l Q := WR.ite (fun _ => hx) (fun h => by rw [hb] at h; cases h)
theorem WR.iteF {b : E} (hb : bol (envL l) b = false) (hy : WR L y l Q) : WR L (.ite b x y) l Q := WR.ite (fun h => by rw [hb] at h; cases h) (fun _ => hy)
theorem WR.nilq {e : E} (o : Oc) (hx : lst (envL l) e = [] → WR L x l (· = o)) (hy : WR L y l (· = o)) (hQ : Q o) : WR L (.nilq c e x y) l Q := by
  obtain ⟨N,_,h1,rfl⟩ := hy
  cases hl : lst (envL l) e with
  | nil =>
    obtain ⟨M,_,h2,rfl⟩ := hx hl
    have e1 := evalR_le (tbN_le (L := L) N (max N M) (Nat.le_max_left N M)) (Nat.le_max_left N M) _ _ _ h1
    have e2 := evalR_le (tbN_le (L := L) M (max N M) (Nat.le_max_right N M)) (Nat.le_max_right N M) _ _ _ h2
    exact ⟨max N M,_,by simp only [evalR,hl,e1,e2,if_true],hQ⟩
  | cons d l' => exact ⟨N,_,by simp only [evalR,hl]; exact h1,hQ⟩
abbrev Rnd (Inv : Nat → List V → Prop) (Q : Oc → Prop) (n : Nat) : Oc → Prop
  | .next vs => ∃ m,m < n ∧ Inv m vs
  | .esc o => Q o
  | .done _ => False
theorem WR.loop {init : List E} (Inv : Nat → List V → Prop) (hc : c = l.length) (n : Nat) (h0 : Inv n (init.map (den (envL l)))) (hs : ∀ n vs,Inv n vs → WR L body (l ++ vs) (Rnd Inv Q n)) : WR L (.loop c init body) l Q := by
  subst hc
  have key : ∀ (n : Nat) (vs : List V),Inv n vs → ∃ N o,loopE (fun vs => evalR (tbN L N) N body (setEnv l.length vs (envL l))) N vs = some o ∧ Q o := by
    intro n
    induction n using Nat.strongRecOn with
    | _ n ih =>
      intro vs hi
      obtain ⟨N,o,h1,h2⟩ := hs n vs hi
      cases o with
      | done ds => exact h2.elim
      | esc o =>
        refine ⟨N + 1,o,?_,h2⟩
        have := evalR_le (tbN_le (L := L) N (N + 1) (by omega)) (show N ≤ N + 1 by omega) _ _ _ h1
        simp only [loopE,setEnv_list,this]
      | next vs' =>
        obtain ⟨m,hm,hi'⟩ := h2
        obtain ⟨M,o,h3,h4⟩ := ih m hm vs' hi'
        refine ⟨max N M + 1,o,?_,h4⟩
        have e1 := evalR_le (tbN_le (L := L) N (max N M + 1) (by omega)) (show N ≤ max N M + 1 by omega) _ _ _ h1
        have e2 := loopE_le (f' := fun vs => evalR (tbN L (max N M + 1)) (max N M + 1) body (setEnv l.length vs (envL l)))
          (fun vs o => evalR_le (tbN_le (L := L) M (max N M + 1) (by omega)) (by omega) body (setEnv l.length vs (envL l)) o) M (max N M) vs' o (by omega) h3
        rw [loopE]
        simp only [setEnv_list] at e2 ⊢
        simp only [e1]
        exact e2
  obtain ⟨N,o,h1,h2⟩ := key n _ h0
  exact ⟨N,o,by simp only [evalR]; exact h1,h2⟩
theorem WR.next {es : List E} (h : Q (.next (es.map (den (envL l))))) : WR L (.next es) l Q := ⟨0,_,rfl,h⟩
theorem WR.done {es : List E} (h : Q (.done (es.map (dat (envL l))))) : WR L (.done es) l Q := ⟨0,_,rfl,h⟩
theorem WR.esc (h : WR L r l fun o => Q (.esc o)) : WR L (.esc r) l Q := by
  obtain ⟨N,o,h1,h2⟩ := h
  exact ⟨N,.esc o,by simp only [evalR,h1],h2⟩
abbrev Fin (P : List D → Prop) : Oc → Prop
  | .done ds => P ds
  | _ => False
theorem Ev.of {f : FuncId} {s : Sig} {H : Hint} {r : R} {as : List D} {P : List D → Prop} (hf : L.lookup f = some ⟨s,.r H r⟩) (hb : bindL (insOf s) as = some vs) (h : WR L r vs (Fin P)) : ∃ ds,Ev L f as ds ∧ P ds := by
  obtain ⟨N,o,h1,h2⟩ := h
  cases o with
  | done ds =>
    refine ⟨ds,⟨N + 1,?_⟩,h2⟩
    have hb := bindL_ok _ _ [] vs hb
    simp only [List.length_nil,List.nil_append] at hb
    simp only [tbN,hf,evalF,show (fun _ => V.i 0 : Env) = envL [] from by funext k; simp [envL],hb,h1]
  | _ => exact h2.elim
theorem Ev.eq {f : FuncId} {s : Sig} {H : Hint} {r : R} {as ds : List D} (hf : L.lookup f = some ⟨s,.r H r⟩) (hb : bindL (insOf s) as = some vs) (h : WR L r vs (Fin (· = ds))) : Ev L f as ds := by
  obtain ⟨ds',h1,rfl⟩ := Ev.of hf hb h
  exact h1
theorem Ev.m {f : FuncId} {s : Sig} {F : List D → Option (List D)} {as ds : List D} (hf : L.lookup f = some ⟨s,.m F⟩) (h : F as = some ds) : Ev L f as ds := ⟨1,by simp only [tbN,hf]; exact h⟩
end
end Go.Tm
end
section
namespace Go.Tm
abbrev dI (n : Int) : D := .v (.int .i64 n)
abbrev dB (t : Bool) : D := .v (.bool t)
def dL (l : List Int) : List D := l.map dI
def dLL (l : List (List Int)) : List D := l.map fun x => .s (dL x)
theorem w64 {n : Int} (h1 : -9223372036854775808 ≤ n) (h2 : n ≤ 9223372036854775807) : IntKind.i64.wrap n = n := by rw [IntKind.wrap_i64]; omega
section
variable {L : Tabl} {r x y body : R} {l vs : List V} {Q Q' : Oc → Prop} {n c : Nat}
theorem WR.chkP {b : E} (p : Prop) [Decidable p] (hb : bol (envL l) b = decide p) (hp : p) (h : WR L r l Q) : WR L (.i (.chk b) r) l Q := WR.chk (by rw [hb]; simpa using hp) h
theorem WR.iteP {b : E} (p : Prop) [Decidable p] (hb : bol (envL l) b = decide p) (hx : p → WR L x l Q) (hy : ¬ p → WR L y l Q) : WR L (.ite b x y) l Q :=
  WR.ite (fun h => hx (by rw [hb] at h; simpa using h)) (fun h => hy (by rw [hb] at h; simpa using h))
theorem WR.iteB {b : E} (t : Bool) (hb : bol (envL l) b = t) (hx : t = true → WR L x l Q) (hy : t = false → WR L y l Q) : WR L (.ite b x y) l Q :=
  WR.ite (fun h => hx (by rw [← hb]; exact h)) (fun h => hy (by rw [← hb]; exact h))
theorem WR.callA {f : FuncId} {as : List E} {rs : List Sh1} {args ds : List D} (hn : n = l.length) (ha : as.map (dat (envL l)) = args) (hc : Ev L f args ds) (hb : bindL rs ds = some vs) (h : WR L r (l ++ vs) Q) :
    WR L (.i (.call f as rs n) r) l Q := WR.call hn (by rw [ha]; exact hc) hb h
theorem WR.idxA {e i : E} {sh : Sh} {ds : List D} {d : D} (k : Int) (hn : n = l.length) (he : lst (envL l) e = ds) (hi : int (envL l) i = k) (h0 : 0 ≤ k) (hd : ds[k.toNat]? = some d) (hb : bindSh sh d = some vs) (h : WR L r (l ++ vs) Q) :
    WR L (.i (.idx e i sh n) r) l Q := WR.idx hn (by rw [hi]; exact h0) (by rw [he,hi]; exact hd) hb h
theorem WR.chkLen {e : E} {N : Int} (ds : List D) (he : lst (envL l) e = ds) (h : (ds.length : Int) ≤ N) (hr : WR L r l Q) : WR L (.i (.chk (.cmp .le (.len e) (.z N))) r) l Q := by
  refine WR.chk ?_ hr
  show decide (((lst (envL l) e).length : Int) ≤ N) = true
  rw [he]; simpa using h
theorem WR.doneA {es : List E} {ds : List D} (hd : es.map (dat (envL l)) = ds) (h : Q (.done ds)) : WR L (.done es) l Q := WR.done (by rw [hd]; exact h)
theorem WR.nextA {es : List E} {vs : List V} (hd : es.map (den (envL l)) = vs) (h : Q (.next vs)) : WR L (.next es) l Q := WR.next (by rw [hd]; exact h)
end
theorem dL_get {l : List Int} {k : Int} (h0 : 0 ≤ k) (h1 : k < l.length) : (dL l)[k.toNat]? = some (dI (l.getD k.toNat 0)) := by
  have : k.toNat < l.length := by omega
  simp [dL,List.getD_eq_getElem?_getD,this]
theorem getD_in {l : List Int} {p : Int → Prop} (h : ∀ x ∈ l,p x) {k : Nat} (hk : k < l.length) : p (l.getD k 0) := by
  rw [List.getD_eq_getElem?_getD,List.getElem?_eq_getElem hk]
  exact h _ (List.getElem_mem hk)
theorem dL1 (l : List Int) : (dL l).length = l.length := by simp [dL]
theorem dLL_len (l : List (List Int)) : (dLL l).length = l.length := by simp [dLL]
end Go.Tm
end
section
open Go.ChangeShapes Go.WideShapes Go.ChangeAt Go.RowKit
namespace Go.Tm
section
variable {H : Type} {enc : TypeId × Value → H} {P : Program}
theorem post_of_below {f : Func} {s : ChangeSpec} {apart fresh handsOn again : Bool} {W W' : World} {args : Array Value} {v : Value} {ds gs : List (DataW H)} {before pa pv : List MemPlace}
    (hW : DataW.Whole enc P f.params.toList s.vars apart W args.toList ds gs before)
    (hres : ∀ (b : Nat) (sp : Nat → Bool) (hd : Bool),DataW.TrodAll enc P W' b sp hd f.resultTypes.toList (v.resultList f.resultTypes.size) (s.fn H (ds ++ gs)).results [])
    (hargs : ∀ sp : Nat → Bool,(∀ p ∈ before,sp p.block = true) → DataW.TrodAll enc P W' 0 sp true f.params.toList args.toList (s.fn H (ds ++ gs)).args pa)
    (hvars : ∀ sp : Nat → Bool,(∀ p ∈ before,sp p.block = true) → DataW.TrodVars enc P W' sp s.vars (s.fn H (ds ++ gs)).vars pv)
    (hps : before = pa ++ pv) (hb : Below W.heap.size W W')
    (hok : ∀ (j : Nat) (t : TypeId) (r : Value),f.resultTypes[j]? = some t → (v.resultList f.resultTypes.size)[j]? = some r → Value.okWide P W' .any 0 t r) :
    s.post enc P f apart fresh handsOn again W args v W' := by
  have hlt : ∀ p ∈ before,p.block < W.heap.size := fun p hp => hW.lt p hp
  have hold : ∀ p ∈ before,(fun b => decide (b < W.heap.size)) p.block = true := fun p hp => by simpa using hlt p hp
  refine ⟨ds,gs,before,[],pa,pv,hW,hres _ _ _,hargs _ hold,hvars _ hold,World.keptBut_mono (fun p hp => ⟨hp,?_⟩) (hb.frame (· ∈ before)),fun _ => ?_⟩
  · rw [hps,List.mem_append] at hp
    exact Or.inr hp
  · obtain ⟨_,_,_,_,_,hz,hn⟩ := hW
    refine ⟨hok,_,_,([] ++ pa) ++ pv,⟨[] ++ pa,pv,trodAll_append (hargs _ (fun _ _ => rfl)) (hres _ _ _),hvars _ (fun _ _ => rfl),rfl,?_,?_⟩,?_⟩
    · intro b off hp
      have hin : MemPlace.cell b off ∈ before := by rw [hps]; simpa using hp
      rw [hb.frozen (hlt _ hin)]
      exact hz b off hin
    · intro ha
      have := hn ha
      rw [hps] at this
      simpa using this
    · intro p hp _
      rw [hps]
      simpa using hp
end
end Go.Tm
end
section
open Go.ChangeShapes Go.WideShapes Go.ChangeAt Go.RowKit
namespace Go.Tm
def contig (P : Program) : List Field → Nat → Bool
  | [],_ => true
  | f :: fs,off => Nat.beq f.offset off && contig P fs (off + P.cellsOf f.type)
def isAgg (P : Program) (t : TypeId) : Bool := match aggT P t with
  | some b => b
  | none => false
def sizesOf (P : Program) : List Field → Nat
  | [] => 0
  | f :: fs => P.cellsOf f.type + sizesOf P fs
def okT (P : Program) : Nat → TypeId → Bool
  | 0,_ => false
  | n + 1,t => match P.underlying t with
    | some .bool => true
    | some (.int _) => true
    | some (.slice e) => okT P n e && Nat.blt 0 (P.cellsOf e)
    | some (.struct fs) => contig P fs.toList 0 && Nat.beq (P.cellsOf t) (sizesOf P fs.toList) && fs.toList.all fun f => okT P n f.type
    | _ => false
def TyFs (T : TypeId → List D → Prop) : List Field → List D → Prop
  | [],ds => ds = []
  | f :: fs,ds => ∃ a b,ds = a ++ b ∧ T f.type a ∧ TyFs T fs b
def TyCs (P : Program) : Nat → TypeId → List D → Prop
  | 0,_,_ => False
  | n + 1,t,ds => match P.underlying t with
    | some .bool => ∃ b,ds = [.v (.bool b)]
    | some (.int k) => ∃ i,ds = [.v (.int k i)]
    | some (.slice e) => ∃ es,ds = [.s es] ∧ es.length ≤ maxLen ∧ ∀ x ∈ es,∃ cs,TyCs P n e cs ∧ x = D.ofCells (isAgg P e) cs
    | some (.struct fs) => TyFs (TyCs P n) fs.toList ds
    | _ => False
section
variable {P : Program} {w : World}
theorem TyCs_one {n : Nat} {t : TypeId} {ds : List D} (h : TyCs P n t ds) (ha : isAgg P t = false) : ∃ d,ds = [d] := by
  cases n with
  | zero => exact h.elim
  | succ n =>
    unfold TyCs at h
    split at h
    · obtain ⟨b,rfl⟩ := h; exact ⟨_,rfl⟩
    · obtain ⟨b,rfl⟩ := h; exact ⟨_,rfl⟩
    · obtain ⟨b,rfl,_⟩ := h; exact ⟨_,rfl⟩
    · rename_i fs hu
      simp [isAgg,aggT,hu] at ha
    · exact h.elim
theorem rd_elem {ag : Bool} {ds : List D} {cs : List Value} {fp : List Nat} (h : RdVs w ds cs fp) (h1 : ag = false → ∃ d,ds = [d]) : ∃ val,Rd w (D.ofCells ag ds) val fp ∧ val.cells.toList = cs := by
  cases ag with
  | true => exact ⟨.agg cs.toArray,⟨cs,rfl,h⟩,by simp [Value.cells]⟩
  | false =>
    obtain ⟨d,rfl⟩ := h1 rfl
    obtain ⟨v,vs,f1,f2,rfl,rfl,h2,⟨rfl,rfl⟩,h3⟩ := h
    exact ⟨v,by simpa [D.ofCells] using h2,by rw [cells_one h3]⟩
theorem rd_elems {ag : Bool} {T : List D → Prop} (hT : ag = false → ∀ ds,T ds → ∃ d,ds = [d]) {b o sz : Nat} : ∀ (m k : Nat),
    (∀ i,i < m → ∃ cs : List Value,cs.length = sz ∧ (∀ j,j < sz → w.cell? ⟨b,o + (k + i) * sz + j,none⟩ = cs[j]?) ∧ ∃ ds fp,RdVs w ds cs fp ∧ T ds) →
    ∃ es fp,RdEs w es sz b (o + k * sz) fp ∧ es.length = m ∧ ∀ x ∈ es,∃ ds,T ds ∧ x = D.ofCells ag ds
  | 0,k,_ => ⟨[],[],rfl,rfl,fun x hx => by simp at hx⟩
  | m + 1,k,h => by
    obtain ⟨cs,hl,hc,ds,fp,hr,ht⟩ := h 0 (by omega)
    obtain ⟨val,hv,hvc⟩ := rd_elem hr (fun e => hT e ds ht)
    obtain ⟨es,fp2,h1,h2,h3⟩ := rd_elems hT m (k + 1) fun i hi => by
      have := h (i + 1) (by omega)
      rw [show k + (i + 1) = k + 1 + i by omega] at this
      exact this
    refine ⟨D.ofCells ag ds :: es,fp ++ fp2,⟨val,fp,fp2,rfl,hv,by rw [← Array.length_toList,hvc,hl],fun j hj => ?_,?_,fun u hu => ?_⟩,by simp [h2],fun x hx => ?_⟩
    · have := hc j hj
      rw [Nat.add_zero] at this
      rw [this,← hvc]; simp
    · rw [show o + k * sz + sz = o + (k + 1) * sz by rw [Nat.succ_mul]; omega]; exact h1
    · rw [hvc] at hu; exact RdVs_ones _ _ _ hr u hu
    · rcases List.mem_cons.1 hx with rfl | hx
      · exact ⟨ds,ht,rfl⟩
      · exact h3 x hx
theorem rd_fields {T : TypeId → List D → Prop} {cs : List Value} : ∀ (l : List Field) (off : Nat),contig P l off = true → off + sizesOf P l = cs.length →
    (∀ f ∈ l,∃ ds fp,RdVs w ds ((cs.drop f.offset).take (P.cellsOf f.type)) fp ∧ T f.type ds) → ∃ ds fp,RdVs w ds (cs.drop off) fp ∧ TyFs T l ds
  | [],off,_,hs,_ => ⟨[],[],by
    have hs : off = cs.length := by simpa [sizesOf] using hs
    rw [List.drop_eq_nil_of_le (by omega)]; exact ⟨rfl,rfl⟩,rfl⟩
  | f :: l,off,hc,hs,h => by
    simp only [contig,Bool.and_eq_true] at hc
    have hoff : f.offset = off := Nat.eq_of_beq_eq_true hc.1
    obtain ⟨ds,fp,h1,h2⟩ := h f (by simp)
    obtain ⟨ds2,fp2,h3,h4⟩ := rd_fields l (off + P.cellsOf f.type) hc.2 (by simp only [sizesOf] at hs; omega) (fun f' hf => h f' (by simp [hf]))
    refine ⟨ds ++ ds2,fp ++ fp2,?_,ds,ds2,rfl,h2,h4⟩
    rw [hoff] at h1
    have := RdVs_append _ _ _ _ _ _ h1 h3
    rw [show cs.drop (off + P.cellsOf f.type) = (cs.drop off).drop (P.cellsOf f.type) by rw [List.drop_drop],List.take_append_drop] at this
    exact this
theorem trod_rd {H : Type} {enc : TypeId × Value → H} {spare : Nat → Bool} {held : Bool} : ∀ (n : Nat) (t : TypeId) (fuel : Nat) (cs : List Value) (x : DataW H × List MemPlace),okT P n t = true →
    DataW.trod enc P w 0 spare held fuel t cs = some x → ∃ ds fp,RdVs w ds cs fp ∧ TyCs P n t ds
  | 0,t,fuel,cs,x,h,_ => by cases h
  | n + 1, t, fuel, cs, x, hok, h => by
    unfold okT at hok
    unfold TyCs
    split at hok
    · rename_i hu
      obtain ⟨b,rfl,_⟩ := DataW.trod_bool hu h
      exact ⟨[.v (.bool b)],[],⟨.bool b,[],[],[],rfl,rfl,⟨rfl,rfl,rfl⟩,⟨rfl,rfl⟩,rfl⟩,b,rfl⟩
    · rename_i k hu
      obtain ⟨i,rfl,_,_⟩ := DataW.trod_int hu h
      exact ⟨[.v (.int k i)],[],⟨.int k i,[],[],[],rfl,rfl,⟨rfl,rfl,rfl⟩,⟨rfl,rfl⟩,rfl⟩,i,rfl⟩
    · rename_i e hu
      simp only [Bool.and_eq_true] at hok
      have hpos : 0 < P.cellsOf e := by rw [← Nat.blt_eq]; exact hok.2
      rcases DataW.trod_slice hu h with ⟨rfl,_⟩ | ⟨a,len,cap,elems,rest,m,_,rfl,_,_,hle,hm,hlen,hel,_,_⟩
      · exact ⟨[.s []],[],⟨.slice none 0 0,[],[],[],rfl,rfl,⟨none,0,rfl,Nat.le_refl _,.inl ⟨rfl,rfl⟩⟩,⟨rfl,rfl⟩,rfl⟩,[],rfl,by simp,fun x hx => by simp at hx⟩
      · have each : ∀ i,i < len → ∃ csi,w.cells? 0 (a.add (i * P.cellsOf e)) (P.cellsOf e) = some csi ∧ ∃ ds fp,RdVs w ds csi fp ∧ TyCs P n e ds := fun i hi => by
          have h1 := hel i hi
          rw [List.getElem?_eq_getElem (by omega)] at h1
          obtain ⟨csi,h2,h3⟩ := Option.bind_eq_some_iff.1 h1
          exact ⟨csi,h2,trod_rd n e m csi _ hok.1 h3⟩
        by_cases h0 : len = 0
        · subst h0
          exact ⟨[.s []],[],⟨.slice (some a) 0 cap,[],[],[],rfl,rfl,⟨some a,cap,rfl,hle,.inl ⟨rfl,rfl⟩⟩,⟨rfl,rfl⟩,rfl⟩,[],rfl,by simp,fun x hx => by simp at hx⟩
        · obtain ⟨gb,go,gs⟩ := a
          have hspot : gs = none ∧ gb < w.heap.size := by
            obtain ⟨csi,h2,_⟩ := each 0 (by omega)
            have hb := World.cells?_block h2 hpos
            obtain ⟨_,hl,hc⟩ := World.cells?_some h2
            have hc0 := hc 0 hpos
            rw [List.getElem?_eq_getElem (by omega)] at hc0
            have := World.cell?_spot hc0
            refine ⟨by simpa [Addr.add] using this,?_⟩
            rw [show (Addr.add ⟨gb,go,gs⟩ (0 * P.cellsOf e)).block = gb by simp [Addr.add]] at hb
            exact hb
          obtain ⟨rfl,hblt⟩ := hspot
          obtain ⟨es,fp,h1,h2,h3⟩ := rd_elems (w := w) (ag := isAgg P e) (T := TyCs P n e) (fun ha ds ht => TyCs_one ht ha) (b := gb) (o := go) (sz := P.cellsOf e) len 0 fun i hi => by
            obtain ⟨csi,h2,h3⟩ := each i hi
            obtain ⟨_,hl,hc⟩ := World.cells?_some h2
            refine ⟨csi,hl,fun j hj => ?_,h3⟩
            have := hc j hj
            rw [addr_add,addr_add] at this
            rw [← this,Nat.zero_add]
          refine ⟨[.s es],gb :: fp,⟨.slice (some ⟨gb,go,none⟩) len cap,[],gb :: fp,[],rfl,by simp,⟨some ⟨gb,go,none⟩,cap,by rw [h2],by omega,.inr ⟨gb,go,P.cellsOf e,fp,rfl,hblt,rfl,by simpa using h1⟩⟩,⟨rfl,rfl⟩,rfl⟩,es,rfl,by omega,h3⟩
    · rename_i fs hu
      simp only [Bool.and_eq_true] at hok
      obtain ⟨⟨hc1,hc2⟩,hc3⟩ := hok
      have hc2 : P.cellsOf t = sizesOf P fs.toList := Nat.eq_of_beq_eq_true hc2
      obtain ⟨xs,m,_,_,hl,hxl,hf⟩ := DataW.trod_struct hu h
      obtain ⟨ds,fp,h1,h2⟩ := rd_fields (P := P) (w := w) (T := TyCs P n) (cs := cs) fs.toList 0 hc1 (by omega) fun f hfm => by
        obtain ⟨i,hi⟩ := List.getElem?_of_mem hfm
        have hi' : fs[i]? = some f := by simpa using hi
        have h3 := hf i f hi'
        have hlt := (Array.getElem?_eq_some_iff.1 hi').1
        rw [List.getElem?_eq_getElem (by omega)] at h3
        exact trod_rd n f.type m _ _ (List.all_eq_true.1 hc3 f hfm) h3
      exact ⟨ds,fp,by simpa using h1,h2⟩
    · cases hok
theorem open_arg {H : Type} {enc : TypeId × Value → H} {t : TypeId} {d : DataW H} {ps : List MemPlace} {v : Value} {n : Nat} (hok : okT P n t = true) (hv : Value.okWide P w .any 0 t v) (h : DataW.Trod enc P w 0 (fun _ => true) true t v d ps) :
    ∃ ds fp,Rd w (D.ofCells (isAgg P t) ds) v fp ∧ TyCs P n t ds := by
  obtain ⟨fuel,h⟩ := h
  obtain ⟨ds,fp,h1,h2⟩ := trod_rd n t fuel _ _ hok h
  refine ⟨ds,fp,?_,h2⟩
  cases ha : isAgg P t with
  | true =>
    cases n with
    | zero => cases hok
    | succ n =>
      unfold okT at hok
      split at hok
      · rename_i hu; simp [isAgg,aggT,hu] at ha
      · rename_i hu; simp [isAgg,aggT,hu] at ha
      · rename_i hu; simp [isAgg,aggT,hu] at ha
      · rename_i fs hu
        obtain ⟨cs,rfl,_⟩ := okWide_struct hu hv
        exact ⟨cs.toList,by simp,by simpa [Value.cells] using h1⟩
      · cases hok
  | false =>
    obtain ⟨d0,rfl⟩ := TyCs_one h2 ha
    have hcv : v.cells.toList = [v] := by
      cases n with
      | zero => cases hok
      | succ n =>
        unfold okT at hok
        split at hok
        · rename_i hu; obtain ⟨_,rfl⟩ := okWide_bool hu hv; rfl
        · rename_i hu; obtain ⟨_,rfl⟩ := okWide_int hu hv; rfl
        · rename_i hu; obtain ⟨_,_,_,rfl⟩ := okWide_slice hu hv; rfl
        · rename_i fs hu; simp [isAgg,aggT,hu] at ha
        · cases hok
    rw [hcv] at h1
    obtain ⟨v',vs,f1,f2,e,rfl,h3,⟨rfl,rfl⟩,_⟩ := h1
    cases e
    simpa [D.ofCells] using h3
def TyAll (P : Program) (n : Nat) : List TypeId → List (List D) → Prop
  | [],dss => dss = []
  | t :: ts,dss => ∃ ds rest,dss = ds :: rest ∧ TyCs P n t ds ∧ TyAll P n ts rest
def argsOf (P : Program) : List TypeId → List (List D) → List D
  | t :: ts,ds :: dss => D.ofCells (isAgg P t) ds :: argsOf P ts dss
  | _,_ => []
theorem open_args {H : Type} {enc : TypeId × Value → H} {n : Nat} : ∀ (ts : List TypeId) (vs : List Value) (ds : List (DataW H)) (ps : List MemPlace),(∀ t ∈ ts,okT P n t = true) → (∀ (j : Nat) t v,ts[j]? = some t → vs[j]? = some v → Value.okWide P w .any 0 t v) →
    DataW.TrodAll enc P w 0 (fun _ => true) true ts vs ds ps → ∃ dss fp,RdTs w (argsOf P ts dss) vs fp ∧ TyAll P n ts dss ∧ ds.length = ts.length
  | [],[],[],ps,_,_,_ => ⟨[],[],⟨rfl,rfl⟩,rfl,rfl⟩
  | t :: ts,v :: vs,d :: ds,ps,hok,hv,⟨p,q,h1,h2,_⟩ => by
    obtain ⟨x,fp,h3,h4⟩ := open_arg (hok t (by simp)) (hv 0 t v rfl rfl) h1
    obtain ⟨dss,fp2,h5,h6,h7⟩ := open_args ts vs ds q (fun t ht => hok t (by simp [ht])) (fun j t v h h' => hv (j + 1) t v (by simpa using h) (by simpa using h')) h2
    exact ⟨x :: dss,fp ++ fp2,⟨v,vs,fp,fp2,rfl,rfl,h3,h5⟩,⟨x,dss,rfl,h4,h6⟩,by simp [h7]⟩
  | [],_ :: _,_,_,_,_,h => h.elim
  | [],[],_ :: _,_,_,_,h => h.elim
  | _ :: _,[],_,_,_,_,h => h.elim
  | _ :: _,_ :: _,[],_,_,_,h => h.elim
theorem trodAll_stays {H : Type} {enc : TypeId × Value → H} (hlo : laidOutB P = true) {W W' : World} {sp : Nat → Bool} : ∀ (ts : List TypeId) (vs : List Value) (ds : List (DataW H)) (ps : List MemPlace),(∀ t ∈ ts,P.readableRec t = true ∧ t < P.types.size) →
    DataW.TrodAll enc P W 0 (fun _ => true) true ts vs ds ps → (∀ p ∈ ps,W.sameAt W' p) → (∀ p ∈ ps,sp p.block = true) → DataW.TrodAll enc P W' 0 sp true ts vs ds ps
  | [],[],[],ps,_,h,_,_ => h
  | t :: ts,v :: vs,d :: ds,ps,hr,⟨p,q,h1,h2,e⟩,hs,hsp => by
    subst e
    exact ⟨p,q,WideElems.Trod_stays hlo (hr t (by simp)).1 (hr t (by simp)).2 h1 (fun x hx => hs x (by simp [hx])) (fun x hx => hsp x (by simp [hx])),
      trodAll_stays hlo ts vs ds q (fun t ht => hr t (by simp [ht])) h2 (fun x hx => hs x (by simp [hx])) (fun x hx => hsp x (by simp [hx])),rfl⟩
  | [],_ :: _,_,_,_,h,_,_ => h.elim
  | [],[],_ :: _,_,_,h,_,_ => h.elim
  | _ :: _,[],_,_,_,h,_,_ => h.elim
  | _ :: _,_ :: _,[],_,_,h,_,_ => h.elim
theorem law_callsN {L : Tabl} {Φ : Fix P} (hm : P.follows .mixedOrders = true) (hL : AllGood P (sgOf L) L Φ) (hI : Φ.I w) {f : FuncId} {fl : Bool} {pars : List Sh} (hs : sgOf L f = some (.d ⟨pars,.one (.one .b),fl⟩)) {args ls : List D} (hfl : flattenD pars args = some ls)
    (hEv : Ev L f ls [.v (.bool true)]) {vs : List Value} {fp : List Nat} (hr : RdTs w args vs fp) : Calls P f vs.toArray w fun e w' => e = .returned (.bool true) ∧ Below w.heap.size w w' := by
  obtain ⟨N,hN⟩ := hEv
  have hfn : (tabOf (sgOf L) (tbN L N)).fns f = some { F := dspec ⟨pars,.one (.one .b),fl⟩ ((tbN L N).call f),flat := fl } := by
    unfold tabOf; simp only [hs]
  have h := ((tabOk hm hL N).fns f _ hfn).2 w args vs fp (.v (.bool true)) hI hr (by
    show (flattenD pars args).bind _ = _
    rw [hfl]
    show (((tbN L N).call f ls).bind fun os => buildR (.one (.one .b)) os) = _
    rw [hN]; rfl)
  refine h.mono fun e w' ⟨val,fp',he,hv,_,hb⟩ => ?_
  obtain ⟨rfl,_⟩ := hv
  exact ⟨he,hb⟩
end
theorem liftX {C : Checked} {os : Os} {H : Type} {enc : TypeId × Value → H} {L : Tabl} {f : FuncId} {fn : Func} {s : ChangeSpec} {conds : List PathCond} {ts : List TypeId} {tb : TypeId} {pars : List Sh} {n : Nat} {fl fresh handsOn again : Bool} {Φ : Fix C.prog} {X : World → Array Value → Prop} (hXh : ∀ (w w' : World) (args : Array Value),w.heap = w'.heap → X w args → X w' args) (hXI : ∀ w args,X w args → Φ.I w) (hown : ownKnob C.prog.godebug = none) (started : os.Started) (hi : C.prog.inits.idxOf? f = none) (hf : C.prog.funcs[f]? = some fn)
    (wit : ∃ (w : World) (tape : Tape) (i : Input),w.os = os ∧ World.Shaped C.prog (w.forCall tape i) ∧ i.vars = [] ∧ Input.okWide C.prog (w.forCall tape i) Reach.any w.heap.size f i ∧
      ((s.pre enc C.prog fn conds false (w.forCall tape i).memory i.args ∧ X (w.forCall tape i).memory i.args) ∧ sizedMet enc C.prog fn (OpenSpec.ofChange s) false (w.forCall tape i).memory i.args) ∧ Assume.holds {} C.prog (lone (Frame.enter C.prog f i.args CallKind.normal) [] (w.forCall tape i)))
    (hpar : fn.params.toList = ts) (hres : fn.resultTypes = #[tb]) (hokT : ts.all (okT C.prog n) = true) (htb : C.prog.underlying tb = some .bool)
    (hlo : laidOutB C.prog = true) (hread : ts.all (fun t => C.prog.readableRec t && Nat.blt t C.prog.types.size) = true) (hvars : s.vars = []) (hs : ∀ ds : List (DataW H),ds.length = ts.length → s.fn H ds = { results := [.lit (.bool true)],args := ds })
    (hm : C.prog.follows .mixedOrders = true) (hL : AllGood C.prog (sgOf L) L Φ) (hsg : sgOf L f = some (.d ⟨pars,.one (.one .b),fl⟩))
    (hEv : ∀ dss,TyAll C.prog n ts dss → ∃ ls,flattenD pars (argsOf C.prog ts dss) = some ls ∧ Ev L f ls [.v (.bool true)]) :
    ReturnsInHanded {} C os f .any (fun w args => (s.pre enc C.prog fn conds false w args ∧ X w args) ∧ sizedMet enc C.prog fn (OpenSpec.ofChange s) false w args) (s.post enc C.prog fn false fresh handsOn again) := by
  refine returnsInHanded_of_change_and (C := C) hXh hown started hi hf wit ?_
  intro W base args ds gs before hval hW _ _ hx _
  have hW' := hW
  obtain ⟨p,q,hA,hV,rfl,hfz,hnd⟩ := hW
  have hA0 := hA
  rw [hpar] at hA
  rw [hvars] at hV
  obtain ⟨rfl,rfl⟩ := trodVars_none hV
  obtain ⟨dss,fp,hrd,hty,hlen⟩ := open_args ts args.toList ds p (fun t ht => List.all_eq_true.1 hokT t ht) (fun j t v h1 h2 => hval j t v (by rw [← hpar] at h1; simpa using h1) (by simpa using h2)) hA
  obtain ⟨ls,hfl,hev⟩ := hEv dss hty
  have hcall := law_callsN hm hL (hXI W args hx) hsg hfl hev hrd
  rw [Array.toArray_toList] at hcall
  refine hcall.mono fun e W' ⟨he,hb⟩ => ⟨_,he,?_⟩
  have hlt : ∀ x ∈ p,x.block < W.heap.size := fun x hx => hW'.lt x (by simpa using hx)
  refine post_of_below (pa := p) (pv := []) hW' (fun _ _ _ => ?_) (fun sp hsp => ?_) (fun _ _ => by rw [hvars,List.append_nil,hs ds hlen]; rfl) rfl hb ?_
  · rw [List.append_nil,hs ds hlen,hres]
    exact trodAll_mk1 (shut_bool htb true)
  · rw [List.append_nil,hs ds hlen,hpar]
    refine trodAll_stays hlo ts args.toList ds p (fun t ht => ?_) hA (fun x hx => hb.same (hlt x hx)) (fun x hx => hsp x (by simpa using hx))
    have := List.all_eq_true.1 hread t ht
    simp only [Bool.and_eq_true] at this
    exact ⟨this.1,by rw [← Nat.blt_eq]; exact this.2⟩
  · exact ok_one hres rfl (okWide_bool_mk htb true)
inductive Ty where
  | i (k : IntKind)
  | b
  | sl (e : Ty)
  | st (fs : List Ty)
def Ty.agg : Ty → Bool
  | .st _ => true
  | _ => false
mutual
def TySh : Ty → List D → Prop
  | .b,ds => ∃ b,ds = [.v (.bool b)]
  | .i k,ds => ∃ n,ds = [.v (.int k n)]
  | .sl e,ds => ∃ es,ds = [.s es] ∧ es.length ≤ maxLen ∧ ∀ x ∈ es,∃ cs,TySh e cs ∧ x = D.ofCells e.agg cs
  | .st fs,ds => TyShs fs ds
def TyShs : List Ty → List D → Prop
  | [],ds => ds = []
  | f :: fs,ds => ∃ a b,ds = a ++ b ∧ TySh f a ∧ TyShs fs b
end
def shapesWith (T : TypeId → Option Ty) : List Field → Option (List Ty)
  | [] => some []
  | f :: fs => match T f.type,shapesWith T fs with
    | some a,some l => some (a :: l)
    | _,_ => none
def shapeT (P : Program) : Nat → TypeId → Option Ty
  | 0,_ => none
  | n + 1,t => match P.underlying t with
    | some .bool => some .b
    | some (.int k) => some (.i k)
    | some (.slice e) => match shapeT P n e with
      | some s => some (.sl s)
      | none => none
    | some (.struct fs) => match shapesWith (shapeT P n) fs.toList with
      | some l => some (.st l)
      | none => none
    | _ => none
theorem shape_agg {P : Program} {n : Nat} {t : TypeId} {s : Ty} (h : shapeT P n t = some s) : isAgg P t = s.agg := by
  cases n with
  | zero => cases h
  | succ n =>
    unfold shapeT at h
    split at h
    · rename_i hu; cases h; simp [isAgg,aggT,hu,Ty.agg]
    · rename_i hu; cases h; simp [isAgg,aggT,hu,Ty.agg]
    · rename_i hu
      split at h
      · cases h; simp [isAgg,aggT,hu,Ty.agg]
      · cases h
    · rename_i hu
      split at h
      · cases h; simp [isAgg,aggT,hu,Ty.agg]
      · cases h
    · cases h
theorem TyFs_sh {T : TypeId → List D → Prop} {S : TypeId → Option Ty} (h : ∀ t s ds,S t = some s → T t ds → TySh s ds) : ∀ (fs : List Field) (l : List Ty) (ds : List D),shapesWith S fs = some l → TyFs T fs ds → TyShs l ds
  | [],l,ds,hl,ht => by cases hl; exact ht
  | f :: fs,l,ds,hl,⟨a,b,e,h1,h2⟩ => by
    simp only [shapesWith] at hl
    split at hl
    · rename_i s l' hs hl'
      cases hl
      exact ⟨a,b,e,h _ _ _ hs h1,TyFs_sh h fs l' b hl' h2⟩
    · cases hl
theorem TyCs_sh {P : Program} : ∀ (n : Nat) (t : TypeId) (s : Ty) (ds : List D),shapeT P n t = some s → TyCs P n t ds → TySh s ds
  | 0,_,_,_,h,_ => by cases h
  | n + 1,t,s,ds,h,ht => by
    unfold shapeT at h
    unfold TyCs at ht
    split at h
    · rename_i hu; rw [hu] at ht; cases h; exact ht
    · rename_i hu; rw [hu] at ht; cases h; exact ht
    · rename_i e hu
      rw [hu] at ht
      split at h
      · rename_i s' hs
        cases h
        obtain ⟨es,h1,h2,h3⟩ := ht
        refine ⟨es,h1,h2,fun x hx => ?_⟩
        obtain ⟨cs,h4,h5⟩ := h3 x hx
        exact ⟨cs,TyCs_sh n e s' cs hs h4,by rw [← shape_agg hs]; exact h5⟩
      · cases h
    · rename_i fs hu
      rw [hu] at ht
      split at h
      · rename_i l hl
        cases h
        exact TyFs_sh (fun t s ds => TyCs_sh n t s ds) fs.toList l ds hl ht
      · cases h
    · cases h
def TySs : List Ty → List (List D) → Prop
  | [],dss => dss = []
  | s :: ss,dss => ∃ ds rest,dss = ds :: rest ∧ TySh s ds ∧ TySs ss rest
def argsS : List Ty → List (List D) → List D
  | s :: ss,ds :: dss => D.ofCells s.agg ds :: argsS ss dss
  | _,_ => []
def shapesT (P : Program) (n : Nat) : List TypeId → Option (List Ty)
  | [] => some []
  | t :: ts => match shapeT P n t,shapesT P n ts with
    | some s,some l => some (s :: l)
    | _,_ => none
theorem TyAll_S {P : Program} {n : Nat} : ∀ (ts : List TypeId) (ss : List Ty) (dss : List (List D)),shapesT P n ts = some ss → TyAll P n ts dss → TySs ss dss ∧ argsOf P ts dss = argsS ss dss
  | [],ss,dss,h,ht => by
    cases h
    rw [show dss = [] from ht]
    exact ⟨rfl,rfl⟩
  | t :: ts,ss,dss,h,⟨ds,rest,e,h1,h2⟩ => by
    subst e
    simp only [shapesT] at h
    split at h
    · rename_i s l hs hl
      cases h
      obtain ⟨h3,h4⟩ := TyAll_S ts l rest hl h2
      exact ⟨⟨ds,rest,rfl,TyCs_sh n t s ds hs h1,h3⟩,by simp only [argsOf,argsS,shape_agg hs,h4]⟩
    · cases h
theorem liftSX {C : Checked} {os : Os} {H : Type} {enc : TypeId × Value → H} {L : Tabl} {f : FuncId} {fn : Func} {s : ChangeSpec} {conds : List PathCond} {ts : List TypeId} {ss : List Ty} {tb : TypeId} {pars : List Sh} {n : Nat} {fl fresh handsOn again : Bool} {Φ : Fix C.prog} {X : World → Array Value → Prop} (hXh : ∀ (w w' : World) (args : Array Value),w.heap = w'.heap → X w args → X w' args) (hXI : ∀ w args,X w args → Φ.I w) (hown : ownKnob C.prog.godebug = none) (started : os.Started) (hi : C.prog.inits.idxOf? f = none) (hf : C.prog.funcs[f]? = some fn)
    (wit : ∃ (w : World) (tape : Tape) (i : Input),w.os = os ∧ World.Shaped C.prog (w.forCall tape i) ∧ i.vars = [] ∧ Input.okWide C.prog (w.forCall tape i) Reach.any w.heap.size f i ∧
      ((s.pre enc C.prog fn conds false (w.forCall tape i).memory i.args ∧ X (w.forCall tape i).memory i.args) ∧ sizedMet enc C.prog fn (OpenSpec.ofChange s) false (w.forCall tape i).memory i.args) ∧ Assume.holds {} C.prog (lone (Frame.enter C.prog f i.args CallKind.normal) [] (w.forCall tape i)))
    (hpar : fn.params.toList = ts) (hres : fn.resultTypes = #[tb]) (hokT : ts.all (okT C.prog n) = true) (hsh : shapesT C.prog n ts = some ss) (htb : C.prog.underlying tb = some .bool)
    (hlo : laidOutB C.prog = true) (hread : ts.all (fun t => C.prog.readableRec t && Nat.blt t C.prog.types.size) = true) (hvars : s.vars = []) (hs : ∀ ds : List (DataW H),ds.length = ts.length → s.fn H ds = { results := [.lit (.bool true)],args := ds })
    (hm : C.prog.follows .mixedOrders = true) (hL : AllGood C.prog (sgOf L) L Φ) (hsg : sgOf L f = some (.d ⟨pars,.one (.one .b),fl⟩))
    (hEv : ∀ dss,TySs ss dss → ∃ ls,flattenD pars (argsS ss dss) = some ls ∧ Ev L f ls [.v (.bool true)]) :
    ReturnsInHanded {} C os f .any (fun w args => (s.pre enc C.prog fn conds false w args ∧ X w args) ∧ sizedMet enc C.prog fn (OpenSpec.ofChange s) false w args) (s.post enc C.prog fn false fresh handsOn again) :=
  liftX hXh hXI hown started hi hf wit hpar hres hokT htb hlo hread hvars hs hm hL hsg fun dss ht => by
    obtain ⟨h1,h2⟩ := TyAll_S ts ss dss hsh ht
    rw [h2]; exact hEv dss h1
theorem map_ex {α : Type} {f : α → D} {p : α → Prop} : ∀ {es : List D},(∀ x ∈ es,∃ y,p y ∧ x = f y) → ∃ l : List α,es = l.map f ∧ ∀ y ∈ l,p y
  | [],_ => ⟨[],rfl,fun y hy => by simp at hy⟩
  | e :: es,h => by
    obtain ⟨y,hy,rfl⟩ := h e (by simp)
    obtain ⟨l,rfl,hl⟩ := map_ex (es := es) (fun x hx => h x (by simp [hx]))
    exact ⟨y :: l,rfl,fun z hz => by
      rcases List.mem_cons.1 hz with rfl | hz
      · exact hy
      · exact hl z hz⟩
end Go.Tm
end
section
namespace Go.Tm
def Fix.tab (P : Program) (name : String) (k : IntKind) (zs : List Int) : Fix P where
  S := (P.globalNamed name).toList
  I w := Lib.TabIs P w name k zs
  lt w h b hb := by
    unfold Lib.TabIs World.var? at h
    cases hg : P.globalNamed name with
    | none => rw [hg] at hb; simp at hb
    | some g =>
      rw [hg] at hb h
      simp only [Option.toList_some,List.mem_singleton] at hb
      subst hb
      simp only [Option.bind_some] at h
      split at h
      · rename_i hc; exact (Array.getElem?_eq_some_iff.1 hc).1
      · cases h
  keep w w' h hs := by
    unfold Lib.TabIs World.var? at h ⊢
    cases hg : P.globalNamed name with
    | none => rw [hg] at h; simp at h
    | some g =>
      rw [hg] at h hs
      simp only [Option.bind_some] at h ⊢
      rw [hs g (by simp)]
      exact h
end Go.Tm
end
section
open Go.RowKit
namespace Go.Tm
def i64D : D → Option Int
  | .v (.int .i64 n) => if -9223372036854775807 ≤ n ∧ n ≤ 9223372036854775807 then some n else none
  | _ => none
abbrev strV (l : List UInt8) : ByteArray := ⟨l.toArray⟩
def strD (l : List UInt8) : D := .v (.string ⟨l.toArray⟩)
def joinB (l : List Int) : List UInt8 := l.flatMap fun n => 32 :: Lib.itoa n
def joinedF : List D → Option (List D)
  | [.s es] => if es.length ≤ 4096 then (es.mapM i64D).map fun l => [strD (joinB l)] else none
  | _ => none
def digitsF : List D → Option (List D)
  | [d] => (i64D d).map fun n => [strD (Lib.itoa n)]
  | _ => none
theorem i64D_some {d : D} {n : Int} (h : i64D d = some n) : d = .v (.int .i64 n) ∧ -9223372036854775807 ≤ n ∧ n ≤ 9223372036854775807 := by
  unfold i64D at h
  split at h
  · split at h
    · rename_i hb
      simp only [Option.some.injEq] at h; subst h
      exact ⟨rfl,hb⟩
    · cases h
  · cases h
theorem mapM_i64 : ∀ {es : List D} {l : List Int},es.mapM i64D = some l → es = l.map (fun n => D.v (.int .i64 n)) ∧ ∀ n ∈ l,-9223372036854775807 ≤ n ∧ n ≤ 9223372036854775807
  | [],l,h => by simp at h; subst h; simp
  | e :: es,l,h => by
    simp only [List.mapM_cons,Option.bind_eq_bind,Option.bind_eq_some_iff,Option.pure_def,Option.some.injEq] at h
    obtain ⟨n,h1,l',h2,rfl⟩ := h
    obtain ⟨rfl,hb⟩ := i64D_some h1
    obtain ⟨rfl,hl⟩ := mapM_i64 h2
    exact ⟨rfl,by simpa using ⟨hb,hl⟩⟩
theorem mapM_i64_of : ∀ {l : List Int},(∀ n ∈ l,-9223372036854775807 ≤ n ∧ n ≤ 9223372036854775807) → (l.map fun n => D.v (.int .i64 n)).mapM i64D = some l
  | [],_ => rfl
  | n :: l,h => by
    have h1 := h n (by simp)
    have : i64D (.v (.int .i64 n)) = some n := by simp [i64D,h1]
    simp [this,mapM_i64_of (l := l) fun m hm => h m (by simp [hm])]
section
variable {P : Program} {Φ : Fix P} {f : FuncId}
theorem RdEs_ints {w : World} : ∀ (l : List Int) (b o : Nat) (fp : List Nat),RdEs w (l.map fun n => D.v (.int .i64 n)) 1 b o fp → ∀ i (h : i < l.length),w.cell? ⟨b,o + i,none⟩ = some (.int .i64 l[i])
  | [],_,_,_,_,i,h => by simp at h
  | n :: l,b,o,fp,⟨val,f1,f2,_,⟨e,_,_⟩,_,hc,h2,_⟩,i,h => by
    subst e
    cases i with
    | zero => have := hc 0 (by omega); simpa [Value.cells] using this
    | succ i =>
      have := RdEs_ints l b (o + 1) f2 h2 i (by simpa using h)
      rw [show o + 1 + i = o + (i + 1) by omega] at this
      simpa using this
theorem RdEs_sz {w : World} {n : Int} {l : List D} {sz b o : Nat} {fp : List Nat} (h : RdEs w (D.v (.int .i64 n) :: l) sz b o fp) : sz = 1 := by
  obtain ⟨val,f1,f2,_,⟨e,_,_⟩,hs,_⟩ := h
  subst e
  rw [← hs]; rfl
theorem joined_ok (hen : ∀ args w,(callFunc f args).run P w = .ok (.enter f args) w)
    (hw : ∀ (A : Option Addr) (cap : Nat) (l : List Int) (w : World),Φ.I w → l.length ≤ 4096 → l.length ≤ cap → (∀ n ∈ l,-9223372036854775807 ≤ n ∧ n ≤ 9223372036854775807) →
      (l = [] ∨ ∃ b o,A = some ⟨b,o,none⟩ ∧ b < w.heap.size ∧ ∀ i (h : i < l.length),w.cell? ⟨b,o + i,none⟩ = some (.int .i64 l[i])) →
      Calls P f #[.slice A l.length cap] w fun e w' => e = .returned (.string ⟨(joinB l).toArray⟩) ∧ Below w.heap.size w w') :
    FnOk P Φ f (dspec ⟨[.one .s],.one (.one .d),true⟩ joinedF) := by
  refine ⟨hen,fun w ds vals fps r hI hr hF => ?_⟩
  obtain ⟨d,rfl⟩ : ∃ d,ds = [d] := by
    unfold dspec at hF
    match ds,hF with
    | [],h => simp [flattenD] at h
    | [d],_ => exact ⟨d,rfl⟩
    | _ :: _ :: _,h => simp [flattenD] at h
  obtain ⟨v,vs,f1,f2,rfl,rfl,h1,rfl,rfl⟩ := hr
  unfold dspec at hF
  simp only [flattenD,Option.map_some,Option.bind_some] at hF
  obtain ⟨os,h2,h3⟩ := Option.bind_eq_some_iff.1 hF
  unfold joinedF at h2
  split at h2
  · rename_i es e
    simp only [List.cons.injEq,and_true] at e; subst e
    split at h2
    · rename_i hlen
      obtain ⟨l,hl,rfl⟩ := Option.map_eq_some_iff.1 h2
      obtain ⟨rfl,hb⟩ := mapM_i64 hl
      have h3 : some (strD (joinB l)) = some r := h3
      cases h3
      obtain ⟨A,cap,rfl,hc,hd⟩ := h1
      simp only [List.length_map] at hlen hc ⊢
      refine (hw A cap l w hI hlen hc hb ?_).mono ?_
      · rcases hd with ⟨e,_⟩ | ⟨b,o,sz,fp',rfl,hbl,_,he⟩
        · exact .inl (by simpa using e)
        · cases l with
          | nil => exact .inl rfl
          | cons n l =>
            have hsz := RdEs_sz he
            subst hsz
            exact .inr ⟨b,o,rfl,hbl,RdEs_ints (n :: l) b o fp' he⟩
      · rintro e w' ⟨rfl,hbw⟩
        exact ⟨_,[],rfl,⟨rfl,rfl,rfl⟩,fun b hb => by simp at hb,hbw⟩
    · cases h2
  · cases h2
theorem digits_ok (hen : ∀ args w,(callFunc f args).run P w = .ok (.enter f args) w)
    (hw : ∀ (n : Int) (w : World),-9223372036854775807 ≤ n → n ≤ 9223372036854775807 →
      Calls P f #[.int .i64 n] w fun e w' => e = .returned (.string ⟨(Lib.itoa n).toArray⟩) ∧ Below w.heap.size w w') :
    FnOk P Φ f (dspec ⟨[.one (.i .i64)],.one (.one .d),true⟩ digitsF) := by
  refine ⟨hen,fun w ds vals fps r hI hr hF => ?_⟩
  obtain ⟨d,rfl⟩ : ∃ d,ds = [d] := by
    unfold dspec at hF
    match ds,hF with
    | [],h => simp [flattenD] at h
    | [d],_ => exact ⟨d,rfl⟩
    | _ :: _ :: _,h => simp [flattenD] at h
  obtain ⟨v,vs,f1,f2,rfl,rfl,h1,rfl,rfl⟩ := hr
  unfold dspec at hF
  simp only [flattenD,Option.map_some,Option.bind_some] at hF
  obtain ⟨os,h2,h3⟩ := Option.bind_eq_some_iff.1 hF
  unfold digitsF at h2
  split at h2
  · rename_i d' e
    simp only [List.cons.injEq,and_true] at e; subst e
    obtain ⟨n,hn,rfl⟩ := Option.map_eq_some_iff.1 h2
    obtain ⟨rfl,hb⟩ := i64D_some hn
    have h3 : some (strD (Lib.itoa n)) = some r := h3
    cases h3
    obtain ⟨rfl,_,_⟩ := h1
    refine (hw n w hb.1 hb.2).mono ?_
    rintro e w' ⟨rfl,hbw⟩
    exact ⟨_,[],rfl,⟨rfl,rfl,rfl⟩,fun b hb => by simp at hb,hbw⟩
  · rename_i e; exact absurd rfl (e d)
end
end Go.Tm
end
section
open Go.ChangeShapes Go.WideShapes Go.ChangeAt Go.RowKit
namespace Go.Tm
theorem tab_third {P : Program} {W : World} {name : String} {k : IntKind} {zs : List Int} {x y z : String × DataW Unit} {g : Nat} {t e : TypeId} {n : Nat} (hp : ([x,y,z].all fun x => x.2.handleName?.isNone) = true) (hz : z = (name,Lib.tabData k zs))
    (hg : P.globalNamed name = some g) (hty : (P.globals[g]?).map (·.type) = some t) (ht : P.underlying t = some (.array n e)) (he : P.underlying e = some (.int k)) (hce : P.cellsOf e = 1) (hct : P.cellsOf t = n)
    (h : laidMetH P [x,y,z] W) : Lib.TabIs P W name k zs := by
  rw [MakeChecks.laidMetH_plain _ _ _ hp] at h
  subst hz
  exact Lib.tabIs_of_head hg hty ht he hce hct (laidMet.tail (laidMet.tail h))
end Go.Tm
end
section
namespace Go.Tm
theorem dL_snoc (l : List Int) (x : Int) : dL l ++ [dI x] = dL (l ++ [x]) := by simp [dL]
theorem dL_set (l : List Int) (k : Nat) (x : Int) : (dL l).set k (dI x) = dL (l.set k x) := by simp [dL,List.map_set]
def Lim (m : Int) (l : List Int) : Prop := ∀ x ∈ l,-m ≤ x ∧ x ≤ m
theorem Lim.set {m : Int} {l : List Int} (h : Lim m l) {x : Int} (hx : -m ≤ x ∧ x ≤ m) (k : Nat) : Lim m (l.set k x) := by
  intro y hy
  rcases List.mem_or_eq_of_mem_set hy with hy | hy
  · exact h y hy
  · subst hy; exact hx
theorem Lim.take {m : Int} {l : List Int} (h : Lim m l) (n : Nat) : Lim m (l.take n) := fun y hy => h y (List.mem_of_mem_take hy)
theorem Lim.mono {m m' : Int} {l : List Int} (h : Lim m l) (hm : m ≤ m') : Lim m' l := fun y hy => ⟨by have := (h y hy).1; omega,by have := (h y hy).2; omega⟩
structure Frm where
  c : List Int
  d : List Int
  k : Int
  deriving DecidableEq
def Frm.zero : Frm := ⟨[0,0,0],[0,0],0⟩
def Frm.none : Frm := ⟨[],[],0⟩
def Frm.cells (f : Frm) : List D := [.s (dL f.c),.s (dL f.d),dI f.k]
def Frm.g (f : Frm) : D := .g f.cells
def dF (l : List Frm) : List D := l.map Frm.g
structure Line where
  kind : Int
  pot : Int
  skip : Int
  f : Frm
  deriving DecidableEq
def Line.cells (l : Line) : List D := [dI l.kind,dI l.pot,dI l.skip,.s (dL l.f.c),.s (dL l.f.d),dI l.f.k]
def Line.g (l : Line) : D := .g l.cells
def dAct (l : List Line) : List D := l.map Line.g
def dActs (l : List (List Line)) : List D := l.map fun a => .s (dAct a)
structure Row where
  guards : List Frm
  adds : List Frm
  tells : List Frm
  stop : Bool
  deriving DecidableEq
def Row.cells (r : Row) : List D := [.s (dF r.guards),.s (dF r.adds),.s (dF r.tells),dB r.stop]
def Row.g (r : Row) : D := .g r.cells
def dRows (l : List Row) : List D := l.map Row.g
def inB (n a b : Int) : Bool := decide (a ≤ n) && decide (n ≤ b)
def allIn (n : Int) (most : Int) (l : List Int) : Bool := decide ((l.length : Int) = n) && l.all fun x => inB x (0 - most) most
def Frm.ok (f : Frm) : Bool := allIn 3 10000000 f.c && allIn 2 10000000 f.d && inB f.k (-10000000) 10000000
def Frm.small (f : Frm) : Bool := allIn 3 2 f.c && allIn 2 2 f.d && inB f.k (-20) 20
def Line.ok (l : Line) : Bool :=
  if l.kind = 1 then decide (l.pot = 0) && inB l.skip 1 6 && l.f.small
  else if l.kind = 2 then inB l.pot 0 2 && decide (l.skip = 0) && l.f.small
  else if l.kind = 3 then decide (l.pot = 0) && decide (l.skip = 0) && l.f.small
  else decide (l.kind = 4) && decide (l.pot = 0) && decide (l.skip = 0) && decide (((l.f.c.length : Int) + l.f.d.length) = 0) && decide (l.f.k = 0)
def tests (a : List Line) : Nat := a.countP fun l => decide (l.kind = 1)
def actOk (a : List Line) : Bool := a.all Line.ok && decide ((a.length : Int) ≤ 6) && decide ((tests a : Int) ≤ 3)
def catOk (as : List (List Line)) : Bool := inB as.length 1 4 && as.all actOk
theorem dF_len (l : List Frm) : (dF l).length = l.length := by simp [dF]
theorem dAct_len (l : List Line) : (dAct l).length = l.length := by simp [dAct]
theorem dActs_len (l : List (List Line)) : (dActs l).length = l.length := by simp [dActs]
theorem dRows_len (l : List Row) : (dRows l).length = l.length := by simp [dRows]
theorem map_get {α : Type} {f : α → D} {l : List α} {k : Int} (h0 : 0 ≤ k) (h1 : k < l.length) : ∃ x,l[k.toNat]? = some x ∧ (l.map f)[k.toNat]? = some (f x) := by
  have : k.toNat < l.length := by omega
  exact ⟨l[k.toNat],by simp [this],by simp [this]⟩
theorem inB_iff {n a b : Int} : inB n a b = true ↔ a ≤ n ∧ n ≤ b := by simp [inB]
theorem allIn_iff {n m : Int} {l : List Int} : allIn n m l = true ↔ (l.length : Int) = n ∧ ∀ x ∈ l,-m ≤ x ∧ x ≤ m := by
  simp only [allIn,Bool.and_eq_true,decide_eq_true_eq,List.all_eq_true,inB_iff,Int.zero_sub]
theorem tS1 {α : Type} {l : List α} {k : Nat} {x : α} (h : l[k]? = some x) : l.take (k + 1) = l.take k ++ [x] := by
  rw [List.take_add_one,h]; rfl
theorem all_take {α : Type} {p : α → Bool} {l : List α} {k : Nat} {x : α} (h : l[k]? = some x) (ha : (l.take k).all p = true) (hx : p x = true) : (l.take (k + 1)).all p = true := by
  rw [tS1 h,List.all_append,ha]; simp [hx]
theorem all_not {α : Type} {p : α → Bool} {l : List α} {k : Nat} {x : α} (h : l[k]? = some x) (hx : p x = false) : l.all p = false := by
  apply Bool.eq_false_iff.2
  intro ha
  rw [List.all_eq_true] at ha
  rw [ha x (List.mem_of_getElem? h)] at hx
  cases hx
end Go.Tm
end
section
namespace Go.Tm
theorem mul_lim {n y A B : Int} (hn : -A ≤ n ∧ n ≤ A) (hy : -B ≤ y ∧ y ≤ B) : -(A * B) ≤ n * y ∧ n * y ≤ A * B := by
  have h1 : n.natAbs ≤ A.toNat := by omega
  have h2 : y.natAbs ≤ B.toNat := by omega
  have h3 := Nat.mul_le_mul h1 h2
  rw [← Int.natAbs_mul] at h3
  have e : ((A.toNat * B.toNat : Nat) : Int) = A * B := by
    rw [Int.natCast_mul,Int.toNat_of_nonneg (by omega),Int.toNat_of_nonneg (by omega)]
  omega
def addL (a b : List Int) (n : Int) : List Int := List.zipWith (fun x y => x + n * y) a b
def sumF (a b : Frm) (n : Int) : Frm := ⟨addL a.c b.c n,addL a.d b.d n,a.k + n * b.k⟩
def potF (v : Nat) : Frm := ⟨[0,0,0].set v 1,[0,0],0⟩
def minusF (f : Frm) : Frm := let x := sumF Frm.zero f (-1); ⟨x.c,x.d,x.k - 1⟩
def intoF (f : Frm) (pots : List Frm) : Frm := (List.zip pots f.c).foldl (fun x q => sumF x q.1 q.2) ⟨[0,0,0],f.d,f.k⟩
structure Std (M : Int) (f : Frm) : Prop where
  c : f.c.length = 3
  d : f.d.length = 2
  lc : Lim M f.c
  ld : Lim M f.d
  k : -M ≤ f.k ∧ f.k ≤ M
theorem Std.mono {M M' : Int} {f : Frm} (h : Std M f) (hm : M ≤ M') : Std M' f := ⟨h.c,h.d,h.lc.mono hm,h.ld.mono hm,by have := h.k; omega⟩
theorem Std.fit {M : Int} {f : Frm} (h : Std M f) : f.c.length ≤ 2000000 ∧ f.d.length ≤ 2000000 := by have := h.c; have := h.d; omega
theorem addL_len (a b : List Int) (n : Int) : (addL a b n).length = min a.length b.length := by simp [addL]
theorem addL_get {a b : List Int} {n : Int} {i : Nat} (h1 : i < a.length) (h2 : i < b.length) : (addL a b n)[i]? = some (a.getD i 0 + n * b.getD i 0) := by
  unfold addL
  rw [List.getElem?_zipWith,List.getElem?_eq_getElem h1,List.getElem?_eq_getElem h2]
  simp [List.getD_eq_getElem?_getD,h1,h2]
theorem addL_lim {a b : List Int} {n A B N : Int} (ha : Lim A a) (hb : Lim B b) (hn : -N ≤ n ∧ n ≤ N) : Lim (A + N * B) (addL a b n) := by
  intro x hx
  simp only [addL,List.mem_iff_getElem?,List.getElem?_zipWith] at hx
  obtain ⟨i,hi⟩ := hx
  cases h1 : a[i]? with
  | none => simp [h1] at hi
  | some p =>
    cases h2 : b[i]? with
    | none => simp [h1,h2] at hi
    | some q =>
      simp only [h1,h2,Option.some.injEq] at hi
      subst hi
      have hp := ha p (List.mem_of_getElem? h1)
      have hq := hb q (List.mem_of_getElem? h2)
      have := mul_lim hn hq
      omega
theorem sumF_std {a b : Frm} {n A B N : Int} (ha : Std A a) (hb : Std B b) (hn : -N ≤ n ∧ n ≤ N) : Std (A + N * B) (sumF a b n) := by
  refine ⟨by simp [sumF,addL_len,ha.c,hb.c],by simp [sumF,addL_len,ha.d,hb.d],addL_lim ha.lc hb.lc hn,addL_lim ha.ld hb.ld hn,?_⟩
  have h1 := mul_lim hn hb.k
  have h2 := ha.k
  show -(A + N * B) ≤ a.k + n * b.k ∧ a.k + n * b.k ≤ A + N * B
  omega
theorem zero_std : Std 0 Frm.zero := ⟨rfl,rfl,by intro x hx; simp [Frm.zero] at hx; omega,by intro x hx; simp [Frm.zero] at hx; omega,by simp [Frm.zero]⟩
theorem potF_std {v : Nat} : Std 1 (potF v) := by
  refine ⟨by simp [potF],rfl,?_,by intro x hx; simp [potF] at hx; omega,by simp [potF]⟩
  show Lim 1 ([0,0,0].set v 1)
  exact Lim.set (by intro x hx; simp at hx; omega) (by omega) v
theorem len3 {l : List Int} (h : l.length = 3) : ∃ a b c,l = [a,b,c] := by
  match l,h with
  | [a,b,c],_ => exact ⟨a,b,c,rfl⟩
theorem len2 {l : List Int} (h : l.length = 2) : ∃ a b,l = [a,b] := by
  match l,h with
  | [a,b],_ => exact ⟨a,b,rfl⟩
theorem sumF_zero {M : Int} {f : Frm} (h : Std M f) : sumF Frm.zero f 1 = f := by
  obtain ⟨c,d,k⟩ := f
  obtain ⟨a,b,e,rfl⟩ := len3 h.c
  obtain ⟨p,q,rfl⟩ := len2 h.d
  simp [sumF,addL,Frm.zero]
theorem minusF_std {M : Int} {f : Frm} (h : Std M f) : Std (M + 1) (minusF f) := by
  have := sumF_std zero_std h (n := -1) (N := 1) (by omega)
  have h1 := this.k
  exact ⟨this.c,this.d,this.lc.mono (by omega),this.ld.mono (by omega),by
    show -(M + 1) ≤ (sumF Frm.zero f (-1)).k - 1 ∧ (sumF Frm.zero f (-1)).k - 1 ≤ M + 1
    omega⟩
theorem Std.okF {M : Int} {f : Frm} (h : Std M f) (hm : M ≤ 10000000) : f.ok = true := by
  have hk := h.k
  simp only [Frm.ok,Bool.and_eq_true,allIn_iff,inB_iff]
  exact ⟨⟨⟨by rw [h.c]; rfl,h.lc.mono hm⟩,⟨by rw [h.d]; rfl,h.ld.mono hm⟩⟩,by omega⟩
theorem small_std {f : Frm} (h : f.small = true) : f.c.length = 3 ∧ f.d.length = 2 ∧ Lim 2 f.c ∧ Lim 2 f.d ∧ -20 ≤ f.k ∧ f.k ≤ 20 := by
  simp only [Frm.small,Bool.and_eq_true,allIn_iff,inB_iff] at h
  obtain ⟨⟨⟨h1,h2⟩,⟨h3,h4⟩⟩,h5,h6⟩ := h
  exact ⟨by omega,by omega,h2,h4,by omega,by omega⟩
theorem small_Std {f : Frm} (h : f.small = true) : Std 20 f := by
  obtain ⟨h1,h2,h3,h4,h5⟩ := small_std h
  exact ⟨h1,h2,h3.mono (by omega),h4.mono (by omega),h5⟩
theorem into_steps {f : Frm} {pots : List Frm} {M : Int} (hf : f.small = true) (hp : ∀ p ∈ pots,Std M p) (h0 : 0 ≤ M) (i : Nat) (hi : i ≤ 3) :
    Std (20 + 2 * M * i) ((List.zip (pots.take i) (f.c.take i)).foldl (fun x q => sumF x q.1 q.2) ⟨[0,0,0],f.d,f.k⟩) ∨ pots.length < 3 := by
  obtain ⟨h1,h2,h3,h4,h5⟩ := small_std hf
  by_cases hl : pots.length < 3
  · exact .inr hl
  left
  induction i with
  | zero => exact ⟨rfl,h2,by intro x hx; simp at hx; omega,h4.mono (by omega),by simpa using h5⟩
  | succ i ih =>
    have ih := ih (by omega)
    have e1 : pots[i]? = some pots[i] := List.getElem?_eq_getElem (by omega)
    have e2 : f.c[i]? = some f.c[i] := List.getElem?_eq_getElem (by omega)
    rw [tS1 e1,tS1 e2,List.zip_append (by simp; omega),List.foldl_append]
    have := sumF_std ih (hp _ (List.getElem_mem (show i < pots.length by omega))) (h3 _ (List.getElem_mem (show i < f.c.length by omega)))
    refine Std.mono this ?_
    push_cast
    rw [Int.mul_add]; omega
theorem into_std {f : Frm} {pots : List Frm} {M : Int} (hf : f.small = true) (hl : pots.length = 3) (hp : ∀ p ∈ pots,Std M p) (h0 : 0 ≤ M) : Std (20 + 6 * M) (intoF f pots) := by
  obtain ⟨h1,_⟩ := small_std hf
  rcases into_steps hf hp h0 3 (by omega) with h | h
  · rw [List.take_of_length_le (by omega),List.take_of_length_le (by omega)] at h
    exact h.mono (by omega)
  · omega
def rowEnd (p g t : List Frm) : Row := ⟨g,[sumF (p.getD 0 Frm.none) (potF 0) (-1),sumF (p.getD 1 Frm.none) (potF 1) (-1),sumF (p.getD 2 Frm.none) (potF 2) (-1)],t,false⟩
def walk (a : List Line) (p g t : List Frm) : List Row := match a with
  | [] => [rowEnd p g t]
  | l :: rest =>
    if l.kind = 4 then [⟨g,[],[],true⟩]
    else if l.kind = 1 then walk rest p (g ++ [intoF l.f p]) t ++ walk (rest.drop l.skip.toNat) p (g ++ [minusF (intoF l.f p)]) t
    else if l.kind = 2 then walk rest (p.set l.pot.toNat (sumF (p.getD l.pot.toNat Frm.none) (intoF l.f p) 1)) g t
    else walk rest p g (t ++ [intoF l.f p])
termination_by a.length
decreasing_by all_goals (simp only [List.length_cons,List.length_drop]; omega)
def rowsOf (a : List Line) : List Row := if actOk a then walk a [potF 0,potF 1,potF 2] [] [] else []
theorem walk_len (a : List Line) (p g t : List Frm) : (walk a p g t).length ≤ 2 ^ a.length := by
  generalize hn : a.length = n
  induction n using Nat.strongRecOn generalizing a p g t with
  | _ n ih =>
    cases a with
    | nil => rw [walk]; subst hn; simp
    | cons l rest =>
      simp only [List.length_cons] at hn
      subst hn
      have h1 : 1 ≤ 2 ^ rest.length := Nat.one_le_two_pow
      have h2 : 2 ^ (rest.length + 1) = 2 ^ rest.length + 2 ^ rest.length := by rw [Nat.pow_succ]; omega
      rw [walk]
      split
      · simp; omega
      split
      · rw [List.length_append,h2]
        have e1 := ih rest.length (by omega) rest p (g ++ [intoF l.f p]) t rfl
        have e2 := ih (rest.drop l.skip.toNat).length (by simp; omega) (rest.drop l.skip.toNat) p (g ++ [minusF (intoF l.f p)]) t rfl
        have e3 : 2 ^ (rest.drop l.skip.toNat).length ≤ 2 ^ rest.length := Nat.pow_le_pow_right (by omega) (by simp)
        omega
      split
      · have := ih rest.length (by omega) rest (p.set l.pot.toNat (sumF (p.getD l.pot.toNat Frm.none) (intoF l.f p) 1)) g t rfl
        omega
      · have := ih rest.length (by omega) rest p g (t ++ [intoF l.f p]) rfl
        omega
def Bd : Nat → Int
  | 0 => 1
  | n + 1 => 7 * Bd n + 20
theorem Bd_nonneg : ∀ n,0 ≤ Bd n
  | 0 => by simp [Bd]
  | n + 1 => by have := Bd_nonneg n; simp only [Bd]; omega
theorem Bd_le {n : Nat} (h : n ≤ 6) : Bd n ≤ 509809 := by
  match n,h with
  | 0,_ | 1,_ | 2,_ | 3,_ | 4,_ | 5,_ | 6,_ => decide
theorem Bd_mono {n m : Nat} (h : n ≤ m) : Bd n ≤ Bd m := by
  induction h with
  | refl => exact Int.le_refl _
  | @step m h ih => have := Bd_nonneg m; simp only [Bd]; omega
theorem dF_snoc (l : List Frm) (f : Frm) : dF l ++ [f.g] = dF (l ++ [f]) := by simp [dF]
theorem head_rows (l : List Row) : headOk 4 (dRows l) = true := by cases l <;> rfl
theorem dF_get {l : List Frm} {i : Int} (h0 : 0 ≤ i) (h1 : i < l.length) : ∃ x,l[i.toNat]? = some x ∧ (dF l)[i.toNat]? = some x.g := map_get h0 h1
theorem fill {S Z : List Int} {i : Nat} {s : Int} (hl : S.length = Z.length) (hs : S[i]? = some s) : (S.take i ++ Z.drop i).set i s = S.take (i + 1) ++ Z.drop (i + 1) := by
  have hi : i < S.length := (List.getElem?_eq_some_iff.1 hs).1
  have h1 : (S.take i).length = i := by simp; omega
  rw [tS1 hs,List.set_append_right _ _ (by omega),List.append_assoc,h1,Nat.sub_self,List.drop_eq_getElem_cons (by omega : i < Z.length)]
  rfl
end Go.Tm
end
section
namespace Go.Tm
section
variable {L : Tabl} {r x y body : R} {l vs : List V} {Q Q' : Oc → Prop} {c : Nat}
abbrev NxtP (f : Nat → List V) (P : Nat → Prop) (n i : Nat) (Q : Oc → Prop) : Oc → Prop
  | .next vs => i < n ∧ vs = f (i + 1) ∧ P (i + 1)
  | .esc o => Q o
  | .done _ => False
theorem WR.forP {init : List E} (n : Nat) (f : Nat → List V) (P : Nat → Prop) (hc : c = l.length) (h0 : init.map (den (envL l)) = f 0) (hP : P 0)
    (hs : ∀ i,i ≤ n → P i → WR L body (l ++ f i) (NxtP f P n i Q)) : WR L (.loop c init body) l Q := by
  refine WR.loop (fun m vs => ∃ i,i ≤ n ∧ m = n - i ∧ vs = f i ∧ P i) hc n ⟨0,by omega,by omega,h0,hP⟩ ?_
  rintro m _ ⟨i,hi,hm,rfl,hp⟩
  refine (hs i hi hp).mono ?_
  intro o h
  cases o with
  | next vs => exact ⟨n - (i + 1),by have := h.1; omega,i + 1,h.1,rfl,h.2⟩
  | esc o => exact h
  | done ds => exact h
abbrev NxtS (S : Nat → List V → Prop) (n i : Nat) (Q : Oc → Prop) : Oc → Prop
  | .next vs => i < n ∧ S (i + 1) vs
  | .esc o => Q o
  | .done _ => False
theorem WR.forS {init : List E} (n : Nat) (S : Nat → List V → Prop) (hc : c = l.length) (h0 : S 0 (init.map (den (envL l))))
    (hs : ∀ i vs,i ≤ n → S i vs → WR L body (l ++ vs) (NxtS S n i Q)) : WR L (.loop c init body) l Q := by
  refine WR.loop (fun m vs => ∃ i,i ≤ n ∧ m = n - i ∧ S i vs) hc n ⟨0,by omega,by omega,h0⟩ ?_
  rintro m vs ⟨i,hi,hm,hp⟩
  refine (hs i vs hi hp).mono ?_
  intro o h
  cases o with
  | next vs => exact ⟨n - (i + 1),by have := h.1; omega,i + 1,h.1,rfl,h.2⟩
  | esc o => exact h
  | done ds => exact h
theorem WR.iteLen {b : E} {ds : List D} {m : Nat} (i : Nat) (he : ds.length = m) (hb : bol (envL l) b = decide ((i : Int) < (ds.length : Int))) (hx : i < m → WR L x l Q) (hy : ¬ i < m → WR L y l Q) : WR L (.ite b x y) l Q :=
  WR.iteP ((i : Int) < (ds.length : Int)) hb (fun h => hx (by omega)) (fun h => hy (by omega))
theorem WR.iteLt {b : E} (i m : Nat) (hb : bol (envL l) b = decide ((i : Int) < (m : Int))) (hx : i < m → WR L x l Q) (hy : ¬ i < m → WR L y l Q) : WR L (.ite b x y) l Q :=
  WR.iteP ((i : Int) < (m : Int)) hb (fun h => hx (by omega)) (fun h => hy (by omega))
theorem WR.iteN {b : E} (t : Bool) (hb : bol (envL l) b = !t) (hx : t = false → WR L x l Q) (hy : t = true → WR L y l Q) : WR L (.ite b x y) l Q :=
  WR.ite (fun h => hx (by rw [hb] at h; simpa using h)) (fun h => hy (by rw [hb] at h; simpa using h))
theorem WR.idxN {n : Nat} {e i : E} {sh : Sh} {ds : List D} {d : D} (k : Nat) (hd : ds[k]? = some d) (hn : n = l.length) (he : lst (envL l) e = ds) (hi : int (envL l) i = k) (hb : bindSh sh d = some vs) (h : WR L r (l ++ vs) Q) :
    WR L (.i (.idx e i sh n) r) l Q := WR.idxA (ds := ds) (k : Int) hn he hi (by omega) (by rw [Int.toNat_natCast]; exact hd) hb h
theorem WR.chk0 {b : E} (i : Nat) (hb : bol (envL l) b = decide ((0 : Int) ≤ (i : Int))) (h : WR L r l Q) : WR L (.i (.chk b) r) l Q := WR.chkP ((0 : Int) ≤ (i : Int)) hb (by omega) h
theorem WR.chkLt {b : E} {ds : List D} (i : Nat) (hb : bol (envL l) b = decide ((i : Int) < (ds.length : Int))) (hi : i < ds.length) (h : WR L r l Q) : WR L (.i (.chk b) r) l Q := WR.chkP ((i : Int) < (ds.length : Int)) hb (by omega) h
theorem WR.atN {n : Nat} {b1 b2 e i : E} {sh : Sh} {ds : List D} {d : D} (k : Nat) (hd : ds[k]? = some d) (hb1 : bol (envL l) b1 = decide ((0 : Int) ≤ (k : Int))) (hb2 : bol (envL l) b2 = decide ((k : Int) < (ds.length : Int)))
    (hn : n = l.length) (he : lst (envL l) e = ds) (hi : int (envL l) i = k) (hb : bindSh sh d = some vs) (h : WR L r (l ++ vs) Q) :
    WR L (.i (.chk b1) (.i (.chk b2) (.i (.idx e i sh n) r))) l Q :=
  WR.chk0 k hb1 (WR.chkLt k hb2 (List.getElem?_eq_some_iff.1 hd).1 (WR.idxN k hd hn he hi hb h))
theorem WR.ev {n : Nat} {f : FuncId} {as : List E} {rs : List Sh1} {args ds : List D} (hc : Ev L f args ds) (hn : n = l.length) (ha : as.map (dat (envL l)) = args) (hb : bindL rs ds = some vs) (h : WR L r (l ++ vs) Q) :
    WR L (.i (.call f as rs n) r) l Q := WR.call hn (by rw [ha]; exact hc) hb h
theorem WR.chkN {e : E} {N : Int} (ds : List D) (m : Nat) (hl : ds.length ≤ m) (hN : (m : Int) ≤ N) (he : lst (envL l) e = ds) (hr : WR L r l Q) : WR L (.i (.chk (.cmp .le (.len e) (.z N))) r) l Q :=
  WR.chkLen ds he (by omega) hr
theorem WR.chkApp {a y : E} {N : Int} (ds : List D) (m : Nat) (hl : ds.length ≤ m) (hN : (m : Int) + 1 ≤ N) (he : lst (envL l) a = ds) (hr : WR L r l Q) : WR L (.i (.chk (.cmp .le (.len (.app a (.cons y .nil))) (.z N))) r) l Q := by
  refine WR.chk ?_ hr
  show decide (((lst (envL l) (.app a (.cons y .nil))).length : Int) ≤ N) = true
  have : lst (envL l) (.app a (.cons y .nil)) = lst (envL l) a ++ [dat (envL l) y] := rfl
  rw [this,he,List.length_append,List.length_singleton]
  simp only [decide_eq_true_eq]; omega
def idxFuncR (sh : Sh) (as : List E) (ar : List (Option Nat)) (k : Nat) : R :=
  .loop 2 [(.z 0)] <|
    .ite (.cmp .lt (.v 2) (.len (.v 0)))
     (
      .i (.idx (.v 0) (.v 2) sh 3) <|
      .i (.callv (.da 1) as ar [.b] k) <|
      .ite (.v k)
       (
        .esc <|
        .done [(.vi .i64 (.v 2))])
       (
        .next [(.bin .add .i64 (.v 2) (.z 1))]))
     (
      .esc <|
      .done [(.vi .i64 (.z (-1)))])
theorem wS {i n : Nat} (h : i < n) (hn : n ≤ 1000000000) : IntKind.i64.wrap ((i : Int) + 1) = ((i + 1 : Nat) : Int) := by rw [w64 (by omega) (by omega)]; rfl
theorem wS' {i : Nat} (hn : i ≤ 1000000000) : IntKind.i64.wrap ((i : Int) + 1) = ((i + 1 : Nat) : Int) := by rw [w64 (by omega) (by omega)]; rfl
theorem sA1 {α : Type} {l : List α} {i : Nat} (h : i < l.length) : ∃ x,l[i]? = some x ∧ x ∈ l := ⟨l[i],by simp [h],List.getElem_mem h⟩
theorem mA1 {α : Type} {f : α → D} {l : List α} {i : Nat} {x : α} (h : l[i]? = some x) : (l.map f)[i]? = some (f x) := by simp [h]
def place {α : Type} (p : α → Bool) (l : List α) : Int := match l.findIdx? p with
  | some i => i
  | none => -1
theorem place_some {α : Type} {p : α → Bool} {l : List α} {i : Nat} {x : α} (h : l[i]? = some x) (hx : p x = true) (hn : (l.take i).any p = false) : place p l = i := by
  have hi := (List.getElem?_eq_some_iff.1 h).1
  have : l.findIdx? p = some i := by
    rw [List.findIdx?_eq_some_iff_getElem]
    refine ⟨hi,?_,fun j hj => ?_⟩
    · rw [List.getElem?_eq_getElem hi] at h; cases h; exact hx
    · have hm : l[j] ∈ l.take i := by
        rw [List.mem_iff_getElem?]
        exact ⟨j,by rw [List.getElem?_take_of_lt hj,List.getElem?_eq_getElem]⟩
      simp only [List.any_eq_false] at hn
      exact hn _ hm
  simp only [place,this]
theorem place_none {α : Type} {p : α → Bool} {l : List α} (hn : l.any p = false) : place p l = -1 := by
  have : l.findIdx? p = none := by
    rw [List.findIdx?_eq_none_iff]
    intro x hx
    simp only [List.any_eq_false] at hn
    exact Bool.eq_false_iff.2 (hn x hx)
  simp only [place,this]
theorem place_nonneg {α : Type} (p : α → Bool) (l : List α) : decide (0 ≤ place p l) = l.any p := by
  unfold place
  cases h : l.findIdx? p with
  | some i =>
    simp only [List.findIdx?_eq_some_iff_getElem] at h
    obtain ⟨h1,h2,_⟩ := h
    have : l.any p = true := List.any_eq_true.2 ⟨_,List.getElem_mem h1,h2⟩
    rw [this]; simp
  | none =>
    rw [List.findIdx?_eq_none_iff] at h
    have : l.any p = false := by
      rw [List.any_eq_false]
      intro x hx; rw [h x hx]; simp
    rw [this]; rfl
theorem any_take {α : Type} {p : α → Bool} {l : List α} {k : Nat} {x : α} (h : l[k]? = some x) (ha : (l.take k).any p = false) (hx : p x = false) : (l.take (k + 1)).any p = false := by
  rw [tS1 h,List.any_append,ha]; simp [hx]
theorem ev_idxFunc {α : Type} {f : FuncId} {H : Hint} {sh : Sh} {as : List E} {ar : List (Option Nat)} {k : Nat} {fn : FuncId} {caps : List D} {s : Sig} (enc : α → D) (p : α → Bool) (args : α → List D) (vsOf : α → List V) (l : List α)
    (hf : L.lookup f = some ⟨s,.r H (idxFuncR sh as ar k)⟩) (hs : insOf s = [.s,.d]) (hlen : l.length ≤ 2000000)
    (hcap : oneOf (.f fn caps) = .f fn caps)
    (hb : ∀ x ∈ l,bindSh sh (enc x) = some (vsOf x)) (hk : ∀ x ∈ l,3 + (vsOf x).length = k)
    (ha : ∀ (x : α) (v0 v1 v2 : V),as.map (dat (envL ([v0,v1,v2] ++ vsOf x))) = args x) (har : arT L fn = some (ar ++ caps.map fun _ => none))
    (hc : ∀ x ∈ l,Ev L fn (args x ++ caps.map D.norm) [dB (p x)]) :
    Ev L f [.s (l.map enc),.f fn caps] [dI (place p l)] := by
  refine Ev.eq (vs := [.l (l.map enc),.d (.f fn caps)]) hf (by rw [hs]; rfl) ?_
  refine WR.forP l.length (fun i => [.i i]) (fun i => (l.take i).any p = false) rfl rfl (by simp) fun i hi hn => ?_
  refine WR.iteLen i (List.length_map (f := enc) (as := l)) rfl (fun h => ?_) (fun h => ?_)
  · obtain ⟨x,hx,hm⟩ := sA1 h
    refine WR.idxN i (mA1 (f := enc) hx) rfl rfl rfl (hb x hm) ?_
    have hk' := hk x hm
    refine WR.callv (fn := fn) (caps := caps) (ds := [dB (p x)]) (vs := [.b (p x)]) (by simp; omega) ?_ har ?_ rfl ?_
    · exact hcap
    · show Ev L fn (as.map (dat (envL ([V.l (l.map enc),.d (.f fn caps),.i i] ++ vsOf x))) ++ caps.map D.norm) [dB (p x)]
      rw [ha]; exact hc x hm
    have e1 : ∀ (b : V) ,envL ([V.l (l.map enc),.d (.f fn caps),.i i] ++ vsOf x ++ [b]) k = b := by
      intro b
      unfold envL
      rw [List.getD_eq_getElem?_getD,List.getElem?_append_right (by simp; omega)]
      rw [show k - ([V.l (l.map enc),.d (.f fn caps),.i i] ++ vsOf x).length = 0 by simp; omega]; rfl
    have e2 : ∀ (b : V) ,envL ([V.l (l.map enc),.d (.f fn caps),.i i] ++ vsOf x ++ [b]) 2 = .i i := by intro b; rfl
    refine WR.iteB (p x) (by show (den (envL ([V.l (l.map enc),.d (.f fn caps),.i i] ++ vsOf x ++ [V.b (p x)])) (.v k)).bool = p x; simp only [den,e1]; rfl) (fun hp => ?_) (fun hp => ?_)
    · refine WR.esc (WR.doneA (ds := [dI i]) rfl ?_)
      rw [place_some hx hp hn]
    · refine WR.nextA (vs := [.i ((i + 1 : Nat) : Int)]) ?_ ⟨h,rfl,any_take hx hn hp⟩
      show [V.i (IntKind.i64.wrap ((i : Int) + 1))] = _
      rw [wS h (by omega)]
  · refine WR.esc (WR.doneA (ds := [dI (-1)]) rfl ?_)
    rw [List.take_of_length_le (by omega)] at hn
    rw [place_none hn]
def containsR (f : FuncId) : R :=
  .i (.call f [(.s (.v 0)),(.da 1)] [.i .i64] 2) <|
  .done [(.vb (.cmp .le (.z 0) (.v 2)))]
theorem ev_contains {α : Type} {f g : FuncId} {H : Hint} {s : Sig} {enc : α → D} {p : α → Bool} {l : List α} {fn : FuncId} {caps : List D} (hf : L.lookup f = some ⟨s,.r H (containsR g)⟩) (hs : insOf s = [.s,.d])
    (hcap : oneOf (.f fn caps) = .f fn caps) (h : Ev L g [.s (l.map enc),.f fn caps] [dI (place p l)]) : Ev L f [.s (l.map enc),.f fn caps] [dB (l.any p)] := by
  refine Ev.eq (vs := [.l (l.map enc),.d (.f fn caps)]) hf (by rw [hs]; rfl) ?_
  refine WR.ev h rfl ?_ rfl ?_
  · show [D.s (l.map enc),oneOf (.f fn caps)] = _
    rw [hcap]
  · refine WR.done ?_
    show [dB (decide (0 ≤ place p l))] = _
    rw [place_nonneg]
def cloneR (c sz : Nat) (N : Int) : R :=
  .nilq c (.v 0)
   (
    .done [(.s .nil)])
   (
    .i (.chk (.cmp .le (.len (.v 0)) (.z N))) <|
    .i (.head sz (.v 0)) <|
    .i (.chk (.cmp .le (.len (.app .nil (.v 0))) (.z N))) <|
    .done [(.s (.app .nil (.v 0)))])
theorem ev_clone {f : FuncId} {H : Hint} {s : Sig} {c sz : Nat} {N : Int} {ds : List D} (hf : L.lookup f = some ⟨s,.r H (cloneR c sz N)⟩) (hs : insOf s = [.s]) (hh : headOk sz ds = true) (hl : ds.length ≤ 2000000) (hN : 2000000 ≤ N) :
    Ev L f [.s ds] [.s ds] := by
  refine Ev.eq (vs := [.l ds]) hf (by rw [hs]; rfl) ?_
  refine WR.nilq (.done [.s ds]) (fun h => ?_) ?_ rfl
  · refine WR.done ?_
    have h : ds = [] := h
    subst h; rfl
  · refine WR.chkN ds 2000000 hl hN rfl ?_
    refine WR.head hh ?_
    refine WR.chkN ds 2000000 hl hN rfl ?_
    exact WR.done rfl
end
theorem map_take_succ {α β : Type} {f : α → β} {l : List α} {k : Nat} {x : α} (h : l[k]? = some x) : (l.take (k + 1)).map f = (l.take k).map f ++ [f x] := by rw [tS1 h]; simp
theorem foldl_take {α β : Type} {f : β → α → β} {b : β} {l : List α} {k : Nat} {x : α} (h : l[k]? = some x) : (l.take (k + 1)).foldl f b = f ((l.take k).foldl f b) x := by rw [tS1 h]; simp
theorem tA1 {α : Type} {l : List α} {i : Nat} (h : ¬ i < l.length) : l.take i = l := List.take_of_length_le (by omega)
end Go.Tm
end
section
namespace Go.Tm
theorem fill' {α : Type} {S Z : List α} {i : Nat} {s : α} (hl : S.length = Z.length) (hs : S[i]? = some s) : (S.take i ++ Z.drop i).set i s = S.take (i + 1) ++ Z.drop (i + 1) := by
  have hi : i < S.length := (List.getElem?_eq_some_iff.1 hs).1
  have h1 : (S.take i).length = i := by simp; omega
  rw [tS1 hs,List.set_append_right _ _ (by omega),List.append_assoc,h1,Nat.sub_self,List.drop_eq_getElem_cons (by omega : i < Z.length)]
  rfl
theorem fill_same {α : Type} {S Z : List α} {i : Nat} {s : α} (hs : S[i]? = some s) (hz : Z[i]? = some s) : S.take i ++ Z.drop i = S.take (i + 1) ++ Z.drop (i + 1) := by
  rw [tS1 hs]
  obtain ⟨h1,h2⟩ := List.getElem?_eq_some_iff.1 hz
  rw [List.drop_eq_getElem_cons h1,h2,List.append_assoc]; rfl
def dBl (l : List Bool) : List D := l.map dB
theorem dBl_len (l : List Bool) : (dBl l).length = l.length := by simp [dBl]
theorem dBl_set (l : List Bool) (k : Nat) (x : Bool) : (dBl l).set k (dB x) = dBl (l.set k x) := by simp [dBl,List.map_set]
theorem dLL_snoc (l : List (List Int)) (x : List Int) : dLL l ++ [.s (dL x)] = dLL (l ++ [x]) := by simp [dLL]
def sgn1 : List Int → Int
  | [] => 0
  | x :: l => if 0 < x then 1 else if x < 0 then -1 else sgn1 l
def partOf (c : List Int) : List Int := c.map (sgn1 c * ·)
theorem sgn_snoc (l : List Int) (x : Int) : sgn1 (l ++ [x]) = if sgn1 l = 0 then (if 0 < x then 1 else if x < 0 then -1 else 0) else sgn1 l := by
  induction l with
  | nil => simp [sgn1]
  | cons y l ih =>
    simp only [List.cons_append,sgn1]
    by_cases h1 : 0 < y
    · simp [h1]
    · by_cases h2 : y < 0
      · simp [h1,h2]
      · simp only [h1,h2,if_false]; exact ih
theorem sgn_zero {l : List Int} (h : sgn1 l = 0) : ∀ x ∈ l,x = 0 := by
  induction l with
  | nil => simp
  | cons y l ih =>
    simp only [sgn1] at h
    split at h
    · cases h
    · split at h
      · cases h
      · intro x hx
        rcases List.mem_cons.1 hx with rfl | hx
        · omega
        · exact ih h x hx
theorem sgn_in (l : List Int) : sgn1 l = 0 ∨ sgn1 l = 1 ∨ sgn1 l = -1 := by
  induction l with
  | nil => simp [sgn1]
  | cons y l ih =>
    simp only [sgn1]
    split
    · simp
    · split
      · simp
      · exact ih
theorem part_snoc (l : List Int) (x : Int) : partOf (l ++ [x]) = partOf l ++ [sgn1 (l ++ [x]) * x] := by
  have : l.map (sgn1 (l ++ [x]) * ·) = l.map (sgn1 l * ·) := by
    apply List.map_congr_left
    intro y hy
    by_cases h : sgn1 l = 0
    · rw [sgn_zero h y hy]; simp
    · simp only [sgn_snoc,if_neg h]
  simp only [partOf,List.map_append,this,List.map_cons,List.map_nil]
theorem part_len (c : List Int) : (partOf c).length = c.length := by simp [partOf]
theorem part_lim {M : Int} {c : List Int} (h : Lim M c) : Lim M (partOf c) := by
  intro x hx
  simp only [partOf,List.mem_map] at hx
  obtain ⟨y,hy,rfl⟩ := hx
  have := h y hy
  rcases sgn_in c with e | e | e <;> rw [e] <;> omega
def hasAt (l : List (List Int)) (p : List Int) : Int := place (fun q => decide (q = p)) l
def orAt (p : List Bool) (c : List Int) : List Bool := List.zipWith (fun b x => b || decide (x ≠ 0)) p c
def readsL (p : List Bool) (fs : List Frm) : List Bool := fs.foldl (fun p f => orAt p f.c) p
theorem orAt_len (p : List Bool) (c : List Int) : (orAt p c).length = min p.length c.length := by simp [orAt]
theorem readsL_len {p : List Bool} {fs : List Frm} (hp : p.length = 3) (hf : ∀ f ∈ fs,f.c.length = 3) : (readsL p fs).length = 3 := by
  induction fs generalizing p with
  | nil => exact hp
  | cons f fs ih => exact ih (by rw [orAt_len]; have := hf f (by simp); omega) fun g hg => hf g (by simp [hg])
def addPart (out : List (List Int)) (f : Frm) : List (List Int) := if hasAt out (partOf f.c) < 0 ∧ partOf f.c ≠ [0,0,0] then out ++ [partOf f.c] else out
def rowBoth (s : List (List Int) × List Bool) (r : Row) : List (List Int) × List Bool := (r.guards.foldl addPart s.1,readsL (readsL s.2 r.adds) r.tells)
def actBoth (s : List (List Int) × List Bool) (act : List Line) : List (List Int) × List Bool := (rowsOf act).foldl rowBoth s
def pots0 : List (List Int) := [[1,0,0],[0,1,0],[0,0,1]]
def both (acts : List (List Line)) : List (List Int) × List Bool := acts.foldl actBoth (pots0,[false,false,false])
def catForms (acts : List (List Line)) : List (List Int) := if catOk acts then (both acts).1 else []
def catPins (acts : List (List Line)) : List Bool := if catOk acts then (both acts).2 else []
theorem addPart_len (out : List (List Int)) (f : Frm) : (addPart out f).length ≤ out.length + 1 := by unfold addPart; split <;> simp
theorem addPart_all {p : List Int → Prop} {out : List (List Int)} {f : Frm} (h : ∀ q ∈ out,p q) (hf : p (partOf f.c)) : ∀ q ∈ addPart out f,p q := by
  unfold addPart
  split
  · intro q hq
    rcases List.mem_append.1 hq with hq | hq
    · exact h q hq
    · simp at hq; subst hq; exact hf
  · exact h
structure RowFit (r : Row) : Prop where
  g : ∀ f ∈ r.guards,Std 10000000 f
  a : ∀ f ∈ r.adds,Std 10000000 f
  t : ∀ f ∈ r.tells,Std 10000000 f
  gl : r.guards.length ≤ 6
  tl : r.tells.length ≤ 6
  al : r.adds.length ≤ 3
  st : r.stop = true → r.adds = [] ∧ r.tells = []
  ns : r.stop = false → r.adds.length = 3
theorem okLine_small {l : Line} (h : l.ok = true) (h4 : ¬ l.kind = 4) : l.f.small = true := by
  unfold Line.ok at h
  split at h
  · simp only [Bool.and_eq_true] at h; exact h.2
  split at h
  · simp only [Bool.and_eq_true] at h; exact h.2
  split at h
  · simp only [Bool.and_eq_true] at h; exact h.2
  · simp [h4] at h
theorem getD_in3 {p : List Frm} {P : Frm → Prop} (hp : p.length = 3) (h : ∀ f ∈ p,P f) {i : Nat} (hi : i < 3) : P (p.getD i Frm.none) := by
  rw [List.getD_eq_getElem?_getD,List.getElem?_eq_getElem (by omega)]
  exact h _ (List.getElem_mem _)
theorem walk_fit : ∀ (n : Nat) (a : List Line) (p g t : List Frm) (j : Nat),a.length = n → (∀ l ∈ a,l.ok = true) → j + n ≤ 6 → p.length = 3 → (∀ f ∈ p,Std (Bd j) f) → (∀ f ∈ g,Std 10000000 f) → (∀ f ∈ t,Std 10000000 f) → g.length ≤ j → t.length ≤ j →
    ∀ r ∈ walk a p g t,RowFit r := by
  intro n
  induction n using Nat.strongRecOn with
  | _ n ih =>
    intro a p g t j hn ha hj hp sp sg st lg lt r hr
    cases a with
    | nil =>
      rw [walk] at hr
      simp only [List.mem_singleton] at hr
      subst hr
      have hB := Bd_le (show j ≤ 6 by omega)
      have hB0 := Bd_nonneg j
      have ad : ∀ i,i < 3 → Std 10000000 (sumF (p.getD i Frm.none) (potF i) (-1)) := fun i hi =>
        (sumF_std (getD_in3 hp sp hi) potF_std (n := -1) (N := 1) (by omega)).mono (by omega)
      refine ⟨sg,?_,st,by show g.length ≤ 6; omega,by show t.length ≤ 6; omega,by simp [rowEnd],fun h => by simp [rowEnd] at h,fun _ => rfl⟩
      intro f hf
      simp only [rowEnd,List.mem_cons,List.not_mem_nil,or_false] at hf
      rcases hf with rfl | rfl | rfl
      · exact ad 0 (by omega)
      · exact ad 1 (by omega)
      · exact ad 2 (by omega)
    | cons l rest =>
      simp only [List.length_cons] at hn
      have hok := ha l (by simp)
      have har : ∀ x ∈ rest,x.ok = true := fun x hx => ha x (by simp [hx])
      rw [walk] at hr
      split at hr
      · simp only [List.mem_singleton] at hr
        subst hr
        exact ⟨sg,by simp,by simp,by show g.length ≤ 6; omega,by simp,by simp,fun _ => ⟨rfl,rfl⟩,fun h => by cases h⟩
      · rename_i h4
        have hB := Bd_le (show j ≤ 5 + 1 by omega)
        have hB0 := Bd_nonneg j
        have hin := into_std (okLine_small hok h4) hp sp hB0
        have hin7 : Std 10000000 (intoF l.f p) := hin.mono (by omega)
        have spB : ∀ f ∈ p,Std (Bd (j + 1)) f := fun f hf => (sp f hf).mono (Bd_mono (by omega))
        have sn : ∀ {q : List Frm} {x : Frm},(∀ f ∈ q,Std 10000000 f) → Std 10000000 x → ∀ f ∈ q ++ [x],Std 10000000 f := by
          intro q x hq hx f hf
          rcases List.mem_append.1 hf with hf | hf
          · exact hq f hf
          · simp at hf; subst hf; exact hx
        split at hr
        · rcases List.mem_append.1 hr with hr | hr
          · exact ih rest.length (by omega) rest p _ t (j + 1) rfl har (by omega) hp spB (sn sg hin7) st (by simp; omega) (by omega) r hr
          · refine ih (rest.drop l.skip.toNat).length (by simp; omega) (rest.drop l.skip.toNat) p _ t (j + 1) rfl (fun x hx => har x (List.mem_of_mem_drop hx)) (by simp; omega) hp spB (sn sg ((minusF_std hin).mono (by omega))) st (by simp; omega) (by omega) r hr
        split at hr
        · refine ih rest.length (by omega) rest _ g t (j + 1) rfl har (by omega) (by simp [hp]) ?_ sg st (by omega) (by omega) r hr
          intro f hf
          rcases List.mem_or_eq_of_mem_set hf with hf | hf
          · exact spB f hf
          · subst hf
            by_cases hlt : l.pot.toNat < 3
            · exact (sumF_std (getD_in3 hp sp hlt) hin (n := 1) (N := 1) (by omega)).mono (by simp only [Bd]; omega)
            · rw [List.set_eq_of_length_le (by omega)] at hf
              exact spB _ hf
        · exact ih rest.length (by omega) rest p g _ (j + 1) rfl har (by omega) hp spB sg (sn st hin7) (by omega) (by simp; omega) r hr
theorem actOk_in {act : List Line} (h : actOk act = true) : act.length ≤ 6 ∧ ∀ l ∈ act,l.ok = true := by
  simp only [actOk,Bool.and_eq_true,decide_eq_true_eq,List.all_eq_true] at h
  exact ⟨by omega,h.1.1⟩
theorem rows_fit {act : List Line} : ∀ r ∈ rowsOf act,RowFit r := by
  intro r hr
  unfold rowsOf at hr
  split at hr
  · rename_i h
    obtain ⟨h1,h2⟩ := actOk_in h
    refine walk_fit act.length act _ [] [] 0 rfl h2 (by omega) rfl ?_ (by simp) (by simp) (by simp) (by simp) r hr
    intro f hf
    simp at hf
    rcases hf with rfl | rfl | rfl <;> exact potF_std
  · cases hr
theorem rows_len (act : List Line) : (rowsOf act).length ≤ 64 := by
  unfold rowsOf
  split
  · rename_i h
    obtain ⟨h1,h2⟩ := actOk_in h
    exact Nat.le_trans (walk_len _ _ _ _) (Nat.le_trans (Nat.pow_le_pow_right (by omega) h1) (by decide))
  · simp
def valOk (l : List Int) : Bool := allIn 3 10000 l
def argOk (l : List Int) : Bool := allIn 2 9 l
def trtOk (b g : List Int) : Bool := valOk b && inB g.length 1 3 && g.all fun x => inB x 0 50
def partsOk (ps : List (List Int)) : Bool := ps.all fun p => allIn 3 10000000 p
def addedOk (a : List Int) : Bool := allIn 3 20000 a
def dot : List Int → List Int → Int
  | x :: a,y :: b => x * y + dot a b
  | _,_ => 0
def keepsP (give : Int) (a p : List Int) : Bool := inB (dot p a) (0 - give) give
def keeps (b g : List Int) (ps : List (List Int)) (s : Int) (a : List Int) : Bool :=
  trtOk b g && partsOk ps && inB s 0 (g.length - 1) && addedOk a && ps.all (keepsP (g.getD s.toNat 0) a)
theorem dot_snoc {a b : List Int} (x y : Int) (h : a.length = b.length) : dot (a ++ [x]) (b ++ [y]) = dot a b + x * y := by
  induction a generalizing b with
  | nil => cases b <;> simp [dot] at h ⊢
  | cons p a ih =>
    cases b with
    | nil => simp at h
    | cons q b => simp only [List.cons_append,dot,ih (by simpa using h)]; omega
theorem dot_lim {a b : List Int} {A B : Int} (ha : Lim A a) (hb : Lim B b) (hA : 0 ≤ A) (hB : 0 ≤ B) : -(A * B * a.length) ≤ dot a b ∧ dot a b ≤ A * B * a.length := by
  have hAB : 0 ≤ A * B := Int.mul_nonneg hA hB
  induction a generalizing b with
  | nil => simp [dot]
  | cons p a ih =>
    have h0 : 0 ≤ A * B * (a.length : Int) := Int.mul_nonneg hAB (by omega)
    cases b with
    | nil =>
      simp only [dot,List.length_cons]
      have : 0 ≤ A * B * ((a.length + 1 : Nat) : Int) := Int.mul_nonneg hAB (by omega)
      omega
    | cons q b =>
      have h1 := ih (b := b) (fun x hx => ha x (by simp [hx])) (fun x hx => hb x (by simp [hx]))
      have h2 := mul_lim (ha p (by simp)) (hb q (by simp))
      simp only [dot,List.length_cons]
      have e : A * B * ((a.length + 1 : Nat) : Int) = A * B * a.length + A * B := by push_cast; rw [Int.mul_add]; omega
      rw [e]; omega
def allIx {α : Type} (p : Nat → α → Bool) (l : List α) : Bool := l.zipIdx.all fun q => p q.2 q.1
theorem allIx_iff {α : Type} {p : Nat → α → Bool} {l : List α} : allIx p l = true ↔ ∀ (k : Nat) (x : α),l[k]? = some x → p k x = true := by
  unfold allIx
  rw [List.all_eq_true]
  constructor
  · intro h k x hx
    exact h (x,k) (by rw [List.mem_zipIdx_iff_getElem?]; exact hx)
  · intro h q hq
    rw [List.mem_zipIdx_iff_getElem?] at hq
    exact h _ _ hq
end Go.Tm
end
section
namespace Go.Tm
theorem fill_at {α : Type} {es : List α} {z : α} {i : Nat} (h : i < es.length) : (es.take i ++ List.replicate (es.length - i) z)[i]? = some z := by
  rw [List.getElem?_append_right (by simp; omega)]
  simp only [List.length_take,List.getElem?_replicate]
  rw [if_pos (by omega)]
theorem fill_set {α : Type} {es : List α} {z x : α} {i : Nat} (h : es[i]? = some x) : (es.take i ++ List.replicate (es.length - i) z).set i x = es.take (i + 1) ++ List.replicate (es.length - (i + 1)) z := by
  have hi : i < es.length := (List.getElem?_eq_some_iff.1 h).1
  rw [tS1 h,List.set_append_right _ _ (by simp; omega)]
  simp only [List.length_take,Nat.min_eq_left (Nat.le_of_lt hi),Nat.sub_self]
  rw [show es.length - i = (es.length - (i + 1)) + 1 by omega,List.replicate_succ,List.set_cons_zero]
  simp
theorem fill_end {α : Type} {es : List α} {z : α} {i : Nat} (h : ¬ i < es.length) : es.take i ++ List.replicate (es.length - i) z = es := by
  rw [List.take_of_length_le (by omega),show es.length - i = 0 by omega]; simp
theorem set_at {α : Type} {es : List α} {i : Nat} (x : α) (h : i < es.length) : (es.set i x)[i]? = some x := by simp [h]
def cnt (k : Int) (n : Nat) : List Int := (List.range n).map fun (i : Nat) => k + (i : Int)
theorem cnt_len (k : Int) (n : Nat) : (cnt k n).length = n := by simp [cnt]
theorem cnt_get (k : Int) {n i : Nat} (h : i < n) : (cnt k n)[i]? = some (k + i) := by simp [cnt,h]
theorem mark_at {α : Type} {as bs : List α} {x : α} {i : Nat} (hl : as.length = bs.length) (h : bs[i]? = some x) : (as.take i ++ bs.drop i)[i]? = some x := by
  have hi : i < bs.length := (List.getElem?_eq_some_iff.1 h).1
  rw [List.getElem?_append_right (by simp; omega),List.length_take,Nat.min_eq_left (by omega),Nat.sub_self,List.getElem?_drop]
  simpa using h
theorem mark_set {α : Type} {as bs : List α} {x : α} {i : Nat} (hl : as.length = bs.length) (h : as[i]? = some x) : (as.take i ++ bs.drop i).set i x = as.take (i + 1) ++ bs.drop (i + 1) := by
  have hi : i < as.length := (List.getElem?_eq_some_iff.1 h).1
  rw [tS1 h,List.set_append_right _ _ (by simp; omega)]
  simp only [List.length_take,Nat.min_eq_left (Nat.le_of_lt hi),Nat.sub_self]
  rw [List.drop_eq_getElem_cons (by omega : i < bs.length),List.set_cons_zero]
  simp
theorem mark_end {α : Type} {as bs : List α} {i : Nat} (hl : as.length = bs.length) (h : ¬ i < bs.length) : as.take i ++ bs.drop i = as := by
  rw [List.take_of_length_le (by omega),List.drop_eq_nil_of_le (by omega)]; simp
theorem mark_len {α : Type} {as bs : List α} {i : Nat} (hl : as.length = bs.length) : (as.take i ++ bs.drop i).length = bs.length := by simp; omega
def dec (left : Int) (n : Nat) : Int := if (n : Int) ≤ left then left - n else -1
theorem dec_dec {left : Int} {n m : Nat} (h : ¬ dec left n < 0) : dec (dec left n) m = dec left (n + m) := by
  unfold dec at *
  split at h
  · rename_i h1
    rw [if_pos h1]
    by_cases h2 : (m : Int) ≤ left - n
    · rw [if_pos h2,if_pos (by omega)]; omega
    · rw [if_neg h2,if_neg (by omega)]
  · omega
theorem dec_lt {left : Int} {n m : Nat} (h : dec left n < 0) (h0 : 0 ≤ left) : dec left (n + m) = -1 := by
  unfold dec at *
  split at h
  · omega
  · rw [if_neg (by omega)]
theorem flats_map {α : Type} (f : α → D) (h : ∀ x,flat (f x) = true) : ∀ l : List α,flats (l.map f) = true
  | [] => rfl
  | x :: l => by simp [flats,h x,flats_map f h l]
def mkAll {α : Type} (w : α → Nat) (mk : Int → α → α) : Int → List α → List α
  | _,[] => []
  | k,x :: l => mk k x :: mkAll w mk (k + w x) l
def wts {α : Type} (w : α → Nat) (l : List α) : Nat := (l.map w).sum
theorem mkAll_len {α : Type} (w : α → Nat) (mk : Int → α → α) : ∀ (k : Int) (l : List α),(mkAll w mk k l).length = l.length
  | _,[] => rfl
  | k,x :: l => by simp [mkAll,mkAll_len w mk _ l]
theorem mkAll_get {α : Type} (w : α → Nat) (mk : Int → α → α) : ∀ (k : Int) (l : List α) (i : Nat) (x : α),l[i]? = some x → (mkAll w mk k l)[i]? = some (mk (k + wts w (l.take i)) x)
  | _,[],i,x,h => by simp at h
  | k,y :: l,0,x,h => by simp at h; subst h; simp [mkAll,wts]
  | k,y :: l,i + 1,x,h => by
    have := mkAll_get w mk (k + w y) l i x (by simpa using h)
    simp only [mkAll,List.getElem?_cons_succ,this,List.take_succ_cons,wts,List.map_cons,List.sum_cons]
    congr 2
    push_cast; omega
theorem wts_succ {α : Type} {w : α → Nat} {l : List α} {i : Nat} {x : α} (h : l[i]? = some x) : wts w (l.take (i + 1)) = wts w (l.take i) + w x := by unfold wts; rw [map_take_succ h]; simp
theorem wts_take {α : Type} (w : α → Nat) (l : List α) (i : Nat) : wts w (l.take i) ≤ wts w l := by
  unfold wts
  conv => rhs; rw [← List.take_append_drop i l,List.map_append,List.sum_append]
  omega
def markLoopR (body : R) : R :=
  .loop 2 [.v 0,.v 1,.z 0] <|
    .ite (.cmp .lt (.v 4) (.len (.v 2))) body
     (.esc <| .done [.vi .i64 (.v 3),.s (.v 2)])
def heldLoopR (body : R) : R :=
  .loop 2 [.v 1,.z 0] <|
    .ite (.cmp .lt (.v 3) (.len (.v 0))) body
     (.esc <| .done [.vi .i64 (.v 2)])
section
variable {L : Tabl} {α : Type} {f : FuncId} {s : Sig} {H : Hint} {body : R}
theorem ev_markLoop (enc : α → D) (w : α → Nat) (mk : Int → α → α) (l : List α) (k : Int) (hf : L.lookup f = some ⟨s,.r H (markLoopR body)⟩) (hs : insOf s = [.s,.i .i64]) (h0 : 0 ≤ k) (h1 : k + wts w l ≤ 1000000000000) (hl : l.length ≤ 2000000)
    (hb : ∀ (v0 v1 : V) (es : List D) (i : Nat) (x : α) (q : Int),x ∈ l → es[i]? = some (enc x) → i < 2000000 → 0 ≤ q → q + w x ≤ 1000000000000 →
      WR L body [v0,v1,.l es,.i q,.i i] (· = .next [.l (es.set i (enc (mk q x))),.i (q + w x),.i ((i + 1 : Nat) : Int)])) :
    Ev L f [.s (l.map enc),dI k] [dI (k + wts w l),.s ((mkAll w mk k l).map enc)] := by
  refine Ev.eq (vs := [.l (l.map enc),.i k]) hf (by rw [hs]; rfl) ?_
  have hc : ((mkAll w mk k l).map enc).length = (l.map enc).length := by rw [List.length_map,List.length_map,mkAll_len]
  have hlen : (l.map enc).length = l.length := List.length_map _
  refine WR.forP l.length (fun i => [.l (((mkAll w mk k l).map enc).take i ++ (l.map enc).drop i),.i (k + wts w (l.take i)),.i i]) (fun _ => True) rfl ?_ trivial fun i hi _ => ?_
  · show [V.l (l.map enc),V.i k,V.i 0] = _
    simp [wts]
  simp only [List.cons_append,List.nil_append]
  refine WR.iteLen i (ds := ((mkAll w mk k l).map enc).take i ++ (l.map enc).drop i) ((mark_len hc).trans hlen) rfl (fun h => ?_) (fun h => WR.esc (WR.done ?_))
  · obtain ⟨x,hx,hm⟩ := sA1 h
    have hw := wts_take w l (i + 1)
    have hw1 := wts_succ (w := w) hx
    refine (hb _ _ _ i x (k + wts w (l.take i)) hm (mark_at hc (mA1 (f := enc) hx)) (by omega) (by omega) (by omega)).mono fun o ho => ?_
    subst ho
    refine ⟨h,?_,trivial⟩
    show _ = [V.l (((mkAll w mk k l).map enc).take (i + 1) ++ (l.map enc).drop (i + 1)),V.i (k + wts w (l.take (i + 1))),V.i ((i + 1 : Nat) : Int)]
    rw [mark_set hc (mA1 (f := enc) (mkAll_get w mk k l i x hx)),hw1]
    simp only [List.cons.injEq,V.i.injEq,and_true,true_and]
    push_cast; omega
  · show [dI (k + wts w (l.take i)),D.s (((mkAll w mk k l).map enc).take i ++ (l.map enc).drop i)] = _
    rw [mark_end hc (by omega),tA1 h]
theorem ev_heldLoop (enc : α → D) (w : α → Nat) (mk : Int → α → α) (l : List α) (k : Int) (hf : L.lookup f = some ⟨s,.r H (heldLoopR body)⟩) (hs : insOf s = [.s,.i .i64]) (h0 : 0 ≤ k) (h1 : k + wts w l ≤ 1000000000000) (hl : l.length ≤ 2000000)
    (hb : ∀ (v1 : V) (es : List D) (i : Nat) (x : α) (q : Int),x ∈ l → es[i]? = some (enc (mk q x)) → i < 2000000 → 0 ≤ q → q + w x ≤ 1000000000000 →
      WR L body [.l es,v1,.i q,.i i] (· = .next [.i (q + w x),.i ((i + 1 : Nat) : Int)])) :
    Ev L f [.s ((mkAll w mk k l).map enc),dI k] [dI (k + wts w l)] := by
  refine Ev.eq (vs := [.l ((mkAll w mk k l).map enc),.i k]) hf (by rw [hs]; rfl) ?_
  have hlen : ((mkAll w mk k l).map enc).length = l.length := by rw [List.length_map,mkAll_len]
  refine WR.forP l.length (fun i => [.i (k + wts w (l.take i)),.i i]) (fun _ => True) rfl ?_ trivial fun i hi _ => ?_
  · show [V.i k,V.i 0] = _
    simp [wts]
  simp only [List.cons_append,List.nil_append]
  refine WR.iteLen i hlen rfl (fun h => ?_) (fun h => WR.esc (WR.done ?_))
  · obtain ⟨x,hx,hm⟩ := sA1 h
    have hw := wts_take w l (i + 1)
    have hw1 := wts_succ (w := w) hx
    refine (hb _ _ i x (k + wts w (l.take i)) hm (mA1 (f := enc) (mkAll_get w mk k l i x hx)) (by omega) (by omega) (by omega)).mono fun o ho => ?_
    subst ho
    refine ⟨h,?_,trivial⟩
    show _ = [V.i (k + wts w (l.take (i + 1))),V.i ((i + 1 : Nat) : Int)]
    rw [hw1]
    simp only [List.cons.injEq,V.i.injEq,and_true,true_and]
    push_cast; omega
  · show [dI (k + wts w (l.take i))] = _
    rw [tA1 h]
end
structure Don where
  seq : Int
  code : Int
  tells : List Int
  deriving DecidableEq
def Don.cells (d : Don) : List D := [dI d.seq,dI d.code,.s (dL d.tells)]
def Don.g (d : Don) : D := .g d.cells
def dDs (l : List Don) : List D := l.map Don.g
def Don.w (d : Don) : Nat := 2 + d.tells.length
def Don.mk' (q : Int) (d : Don) : Don := ⟨q,q + 1,cnt (q + 1 + 1) d.tells.length⟩
structure Got where
  has : Bool
  added : List Int
  seqs : List Int
  deriving DecidableEq
def Got.cells (d : Got) : List D := [dB d.has,.s (dL d.added),.s (dL d.seqs)]
def Got.g (d : Got) : D := .g d.cells
def dGs (l : List Got) : List D := l.map Got.g
def Got.w (d : Got) : Nat := 1 + d.added.length + d.seqs.length
def Got.mk' (q : Int) (d : Got) : Got := ⟨decide (q.tmod 3 = 0),cnt (q + 1) d.added.length,cnt (q + 1 + d.added.length) d.seqs.length⟩
structure Cal where
  client : Int
  seq : Int
  act : Int
  args : List Int
  deriving DecidableEq
def Cal.cells (d : Cal) : List D := [dI d.client,dI d.seq,dI d.act,.s (dL d.args)]
def Cal.g (d : Cal) : D := .g d.cells
def dCs (l : List Cal) : List D := l.map Cal.g
def Cal.w (d : Cal) : Nat := 3 + d.args.length
def Cal.mk' (q : Int) (d : Cal) : Cal := ⟨q,q + 1,q + 1 + 1,cnt (q + 1 + 1 + 1) d.args.length⟩
end Go.Tm
end
section
namespace Go.Tm
def atF (f : Frm) (vals args : List Int) : Int := dot f.c vals + dot f.d args + f.k
theorem dot_addL {a b v : List Int} {n : Int} (h : a.length = b.length) : dot (addL a b n) v = dot a v + n * dot b v := by
  induction a generalizing b v with
  | nil => cases b <;> simp [addL,dot] at h ⊢
  | cons x a ih =>
    cases b with
    | nil => simp at h
    | cons y b =>
      cases v with
      | nil => simp [addL,dot]
      | cons z v =>
        have := ih (b := b) (v := v) (by simpa using h)
        simp only [addL,List.zipWith_cons_cons,dot] at this ⊢
        rw [this,Int.add_mul,Int.mul_add,Int.mul_assoc]; omega
theorem at_sum {A B : Int} {a b : Frm} (ha : Std A a) (hb : Std B b) (n : Int) (v w : List Int) : atF (sumF a b n) v w = atF a v w + n * atF b v w := by
  unfold atF sumF
  simp only
  rw [dot_addL (by rw [ha.c,hb.c]),dot_addL (by rw [ha.d,hb.d]),Int.mul_add,Int.mul_add]; omega
theorem at_zero (v w : List Int) : atF Frm.zero v w = 0 := by
  have h : ∀ (n : Nat) (v : List Int),dot (List.replicate n 0) v = 0 := by
    intro n
    induction n with
    | zero => intro v; cases v <;> rfl
    | succ n ih => intro v; cases v with
      | nil => rfl
      | cons x v => simp only [List.replicate_succ,dot,ih v]; omega
  have h3 := h 3 v
  have h2 := h 2 w
  simp only [List.replicate] at h3 h2
  simp only [atF,Frm.zero,h3,h2]; omega
theorem at_pot {v w : List Int} (hv : v.length = 3) (hw : w.length = 2) (i : Nat) (hi : i < 3) : atF (potF i) v w = v.getD i 0 := by
  obtain ⟨a,b,c,rfl⟩ := len3 hv
  obtain ⟨d,e,rfl⟩ := len2 hw
  match i,hi with
  | 0,_ | 1,_ | 2,_ => simp [atF,potF,dot]
theorem at_minus {A : Int} {f : Frm} (hf : Std A f) (v w : List Int) : atF (minusF f) v w = - atF f v w - 1 := by
  have h := at_sum zero_std hf (-1) v w
  rw [at_zero] at h
  have e : atF (minusF f) v w = atF (sumF Frm.zero f (-1)) v w - 1 := by
    unfold atF minusF; simp only; omega
  rw [e,h]; omega
def atL (p : List Frm) (v w : List Int) : List Int := p.map fun f => atF f v w
theorem at_into {M : Int} {f : Frm} {p : List Frm} (hf : f.small = true) (hl : p.length = 3) (hp : ∀ q ∈ p,Std M q) (v w : List Int) : atF (intoF f p) v w = atF f (atL p v w) w := by
  obtain ⟨h1,h2,_⟩ := small_std hf
  match p,hl with
  | [q0, q1, q2], _ =>
    have s0 := hp q0 (by simp)
    have s1 := hp q1 (by simp)
    have s2 := hp q2 (by simp)
    obtain ⟨fc,fd,fk⟩ := f
    obtain ⟨x,y,z,rfl⟩ := len3 h1
    have hb : Std (fd.length * 0 + (Int.natAbs fk : Int) + ((fd.map Int.natAbs).sum : Nat)) (⟨[0,0,0],fd,fk⟩ : Frm) := by
      refine ⟨rfl,h2,?_,?_,?_⟩
      · intro x hx; simp at hx; omega
      · intro x hx
        have hs : ∀ (l : List Int),x ∈ l → x.natAbs ≤ (l.map Int.natAbs).sum := by
          intro l
          induction l with
          | nil => intro h; simp at h
          | cons y l ih =>
            intro h
            simp only [List.map_cons,List.sum_cons]
            rcases List.mem_cons.1 h with rfl | h
            · omega
            · have := ih h; omega
        have := hs fd hx
        omega
      · show _ ≤ fk ∧ fk ≤ _
        omega
    have e0 := sumF_std hb s0 (n := x) (N := x.natAbs) (by omega)
    have e1 := sumF_std e0 s1 (n := y) (N := y.natAbs) (by omega)
    simp only [intoF,List.zip_cons_cons,List.zip_nil_right,List.foldl_cons,List.foldl_nil,atL,List.map_cons,List.map_nil]
    rw [at_sum e1 s2,at_sum e0 s1,at_sum hb s0]
    simp only [atF,dot]
    have hz : dot [0,0,0] v = 0 := by
      cases v with
      | nil => rfl
      | cons a v => cases v with
        | nil => simp [dot]
        | cons b v => cases v with
          | nil => simp [dot]
          | cons c v => simp [dot]
    rw [hz]; omega
structure Res where
  code : Int
  tells : List Int
  is : List Int
  deriving DecidableEq
def endOf (was x tells : List Int) : Res := if valOk x then ⟨1,tells,x⟩ else ⟨3,[],was⟩
def run (was args : List Int) (a : List Line) (x tells : List Int) : Res := match a with
  | [] => endOf was x tells
  | l :: rest =>
    if l.kind = 4 then ⟨2,[],was⟩
    else if l.kind = 1 then (if atF l.f x args < 0 then run was args (rest.drop l.skip.toNat) x tells else run was args rest x tells)
    else if l.kind = 2 then run was args rest (x.set l.pot.toNat (x.getD l.pot.toNat 0 + atF l.f x args)) tells
    else run was args rest x (tells ++ [atF l.f x args])
termination_by a.length
decreasing_by all_goals (simp only [List.length_cons,List.length_drop]; omega)
def actRun (a : List Line) (vals args : List Int) : Res := if actOk a && (valOk vals && argOk args) then run vals args a vals [] else ⟨0,[],[]⟩
def guardsHold (r : Row) (v w : List Int) : Bool := r.guards.all fun f => decide (0 ≤ atF f v w)
def rowRes (r : Row) (v w : List Int) : Res := if r.stop then ⟨2,[],v⟩ else endOf v (List.zipWith (· + ·) v (atL r.adds v w)) (atL r.tells v w)
theorem atL_set (p : List Frm) (v w : List Int) (i : Nat) (f : Frm) : atL (p.set i f) v w = (atL p v w).set i (atF f v w) := by simp [atL,List.map_set]
theorem atL_getD {p : List Frm} {v w : List Int} {i : Nat} (h : i < p.length) : (atL p v w).getD i 0 = atF (p.getD i Frm.none) v w := by
  simp [atL,List.getD_eq_getElem?_getD,h]
theorem walk_run {v w : List Int} (hv : v.length = 3) (hw : w.length = 2) : ∀ (n : Nat) (a : List Line) (p g t : List Frm) (j : Nat),a.length = n → (∀ l ∈ a,l.ok = true) → j + n ≤ 6 → p.length = 3 → (∀ f ∈ p,Std (Bd j) f) →
    (if g.all (fun f => decide (0 ≤ atF f v w)) then ∃ (l1 l2 : List Row) (r : Row),walk a p g t = l1 ++ r :: l2 ∧ guardsHold r v w = true ∧ (∀ s ∈ l1,guardsHold s v w = false) ∧ (∀ s ∈ l2,guardsHold s v w = false) ∧ rowRes r v w = run v w a (atL p v w) (atL t v w)
      else ∀ s ∈ walk a p g t,guardsHold s v w = false) := by
  intro n
  induction n using Nat.strongRecOn with
  | _ n ih =>
    intro a p g t j hn ha hj hp sp
    cases a with
    | nil =>
      rw [walk,run]
      split
      · rename_i hg
        refine ⟨[],[],rowEnd p g t,rfl,hg,by simp,by simp,?_⟩
        have e : List.zipWith (· + ·) v (atL (rowEnd p g t).adds v w) = atL p v w := by
          match p,hp with
          | [q0,q1,q2],_ =>
            obtain ⟨a,b,c,rfl⟩ := len3 hv
            have s0 := sp q0 (by simp)
            have s1 := sp q1 (by simp)
            have s2 := sp q2 (by simp)
            simp only [rowEnd,atL,List.map_cons,List.map_nil,List.zipWith_cons_cons,List.zipWith_nil_right,List.getD_cons_zero,List.getD_cons_succ]
            rw [at_sum s0 potF_std,at_sum s1 potF_std,at_sum s2 potF_std,at_pot hv hw 0 (by omega),at_pot hv hw 1 (by omega),at_pot hv hw 2 (by omega)]
            simp only [List.getD_cons_zero,List.getD_cons_succ]
            congr 1
            · omega
            · congr 1
              · omega
              · congr 1; omega
        show rowRes (rowEnd p g t) v w = _
        simp only [rowRes,e]; rfl
      · rename_i hg
        intro s hs
        simp only [List.mem_singleton] at hs
        subst hs
        simpa [guardsHold,rowEnd] using hg
    | cons l rest =>
      simp only [List.length_cons] at hn
      have hok := ha l (by simp)
      have har : ∀ x ∈ rest,x.ok = true := fun x hx => ha x (by simp [hx])
      rw [walk,run]
      by_cases h4 : l.kind = 4
      · simp only [if_pos h4]
        split
        · rename_i hg
          refine ⟨[],[],⟨g,[],[],true⟩,rfl,hg,by simp,by simp,?_⟩
          simp [rowRes]
        · rename_i hg
          intro s hs
          simp only [List.mem_singleton] at hs
          subst hs
          simpa [guardsHold] using hg
      · simp only [if_neg h4]
        have hB := Bd_le (show j ≤ 5 + 1 by omega)
        have hB0 := Bd_nonneg j
        have hsm := okLine_small hok h4
        have hin := into_std hsm hp sp hB0
        have hat := at_into hsm hp sp v w
        have spB : ∀ f ∈ p,Std (Bd (j + 1)) f := fun f hf => (sp f hf).mono (Bd_mono (by omega))
        by_cases h1 : l.kind = 1
        · simp only [if_pos h1]
          have i1 := ih rest.length (by omega) rest p (g ++ [intoF l.f p]) t (j + 1) rfl har (by omega) hp spB
          have i2 := ih (rest.drop l.skip.toNat).length (by simp; omega) (rest.drop l.skip.toNat) p (g ++ [minusF (intoF l.f p)]) t (j + 1) rfl (fun x hx => har x (List.mem_of_mem_drop hx)) (by simp; omega) hp spB
          rw [List.all_append] at i1 i2
          simp only [List.all_cons,List.all_nil,Bool.and_true] at i1 i2
          rw [at_minus hin,hat] at i2
          rw [hat] at i1
          split
          · rename_i hg
            rw [hg,Bool.true_and] at i1 i2
            split
            · rename_i hlt
              rw [if_neg (by simp; omega)] at i1
              rw [if_pos (by simp; omega)] at i2
              obtain ⟨l1,l2,r,e1,e2,e3,e4,e5⟩ := i2
              refine ⟨walk rest p (g ++ [intoF l.f p]) t ++ l1,l2,r,by rw [e1,List.append_assoc],e2,?_,e4,e5⟩
              intro s hs
              rcases List.mem_append.1 hs with hs | hs
              · exact i1 s hs
              · exact e3 s hs
            · rename_i hlt
              rw [if_pos (by simp; omega)] at i1
              rw [if_neg (by simp; omega)] at i2
              obtain ⟨l1,l2,r,e1,e2,e3,e4,e5⟩ := i1
              refine ⟨l1,l2 ++ walk (rest.drop l.skip.toNat) p (g ++ [minusF (intoF l.f p)]) t,r,by rw [e1]; simp,e2,e3,?_,e5⟩
              intro s hs
              rcases List.mem_append.1 hs with hs | hs
              · exact e4 s hs
              · exact i2 s hs
          · rename_i hg
            have hg : (g.all fun f => decide (0 ≤ atF f v w)) = false := by simpa using hg
            rw [hg,Bool.false_and,if_neg (by simp)] at i1 i2
            intro s hs
            rcases List.mem_append.1 hs with hs | hs
            · exact i1 s hs
            · exact i2 s hs
        simp only [if_neg h1]
        by_cases h2 : l.kind = 2
        · simp only [if_pos h2]
          have hpt : l.pot.toNat < p.length := by
            have := hok
            unfold Line.ok at this
            rw [if_neg (by omega),if_pos h2] at this
            simp only [Bool.and_eq_true,inB_iff] at this
            omega
          have hq := getD_in3 (i := l.pot.toNat) hp sp (by omega)
          have hsum : Std (Bd (j + 1)) (sumF (p.getD l.pot.toNat Frm.none) (intoF l.f p) 1) := (sumF_std hq hin (n := 1) (N := 1) (by omega)).mono (by simp only [Bd]; omega)
          have i1 := ih rest.length (by omega) rest (p.set l.pot.toNat (sumF (p.getD l.pot.toNat Frm.none) (intoF l.f p) 1)) g t (j + 1) rfl har (by omega) (by simp [hp]) (by
            intro f hf
            rcases List.mem_or_eq_of_mem_set hf with hf | hf
            · exact spB f hf
            · subst hf; exact hsum)
          rw [atL_set,at_sum hq hin,hat] at i1
          rw [atL_getD hpt,show atF l.f (atL p v w) w = 1 * atF l.f (atL p v w) w by omega]
          exact i1
        · simp only [if_neg h2]
          have i1 := ih rest.length (by omega) rest p g (t ++ [intoF l.f p]) (j + 1) rfl har (by omega) hp spB
          have e : atL (t ++ [intoF l.f p]) v w = atL t v w ++ [atF l.f (atL p v w) w] := by simp [atL,hat]
          rw [e] at i1
          exact i1
theorem one_way {a : List Line} {v w : List Int} (ha : actOk a = true) (hv : v.length = 3) (hw : w.length = 2) :
    ∃ (l1 l2 : List Row) (r : Row),rowsOf a = l1 ++ r :: l2 ∧ guardsHold r v w = true ∧ (∀ s ∈ l1,guardsHold s v w = false) ∧ (∀ s ∈ l2,guardsHold s v w = false) ∧ rowRes r v w = run v w a v [] := by
  obtain ⟨h1,h2⟩ := actOk_in ha
  have hpp : ∀ f ∈ [potF 0,potF 1,potF 2],Std (Bd 0) f := by
    intro f hf'
    simp at hf'
    rcases hf' with rfl | rfl | rfl <;> exact potF_std
  have := walk_run hv hw a.length a [potF 0,potF 1,potF 2] [] [] 0 rfl h2 (by omega) rfl hpp
  rw [if_pos (by rfl)] at this
  have e : atL [potF 0,potF 1,potF 2] v w = v := by
    obtain ⟨a,b,c,rfl⟩ := len3 hv
    simp only [atL,List.map_cons,List.map_nil]
    rw [at_pot hv hw 0 (by omega),at_pot hv hw 1 (by omega),at_pot hv hw 2 (by omega)]
    rfl
  rw [e] at this
  rw [rowsOf,if_pos ha]
  exact this
def orB (p : List Bool) (h : Nat → Bool) : List Bool := p.mapIdx fun i b => b || h i
def potsM (h : Row → Nat → Bool) (as : List (List Line)) : List Bool := as.foldl (fun p a => (rowsOf a).foldl (fun p r => orB p (h r)) p) [false,false,false]
theorem orB_len (p : List Bool) (h : Nat → Bool) : (orB p h).length = p.length := by simp [orB]
theorem orB_at {p : List Bool} {h : Nat → Bool} {i : Nat} {b : Bool} (hb : p[i]? = some b) : (orB p h)[i]? = some (b || h i) := by simp [orB,List.getElem?_mapIdx,hb]
theorem orB_getD {p : List Bool} {h : Nat → Bool} {i : Nat} (hi : i < p.length) : (orB p h).getD i false = (p.getD i false || h i) := by
  simp [orB,List.getD_eq_getElem?_getD,List.getElem?_mapIdx,hi]
theorem rows_or_len (h : Row → Nat → Bool) (rs : List Row) (p : List Bool) : (rs.foldl (fun p r => orB p (h r)) p).length = p.length := by
  induction rs generalizing p with
  | nil => rfl
  | cons r rs ih => simp only [List.foldl_cons]; rw [ih,orB_len]
theorem rows_or (h : Row → Nat → Bool) (rs : List Row) (p : List Bool) {i : Nat} (hi : i < p.length) : (rs.foldl (fun p r => orB p (h r)) p).getD i false = (p.getD i false || rs.any fun r => h r i) := by
  induction rs generalizing p with
  | nil => simp
  | cons r rs ih =>
    simp only [List.foldl_cons,List.any_cons]
    rw [ih _ (by rw [orB_len]; exact hi),orB_getD hi,Bool.or_assoc]
theorem pots_len (h : Row → Nat → Bool) (as : List (List Line)) : (potsM h as).length = 3 := by
  unfold potsM
  generalize hp : [false,false,false] = p
  have : p.length = 3 := by subst hp; rfl
  clear hp
  induction as generalizing p with
  | nil => exact this
  | cons a as ih => exact ih _ (by rw [rows_or_len]; exact this)
theorem pots_at (h : Row → Nat → Bool) (as : List (List Line)) {i : Nat} (hi : i < 3) : (potsM h as).getD i false = as.any fun a => (rowsOf a).any fun r => h r i := by
  have key : ∀ (as : List (List Line)) (p : List Bool),p.length = 3 → (as.foldl (fun p a => (rowsOf a).foldl (fun p r => orB p (h r)) p) p).getD i false = (p.getD i false || as.any fun a => (rowsOf a).any fun r => h r i) := by
    intro as
    induction as with
    | nil => intro p _; simp
    | cons a as ih =>
      intro p hp
      simp only [List.foldl_cons,List.any_cons]
      rw [ih _ (by rw [rows_or_len]; exact hp),rows_or _ _ _ (by omega),Bool.or_assoc]
  have := key as [false,false,false] rfl
  unfold potsM
  rw [this]
  match i,hi with
  | 0,_ | 1,_ | 2,_ => simp
def writesM (r : Row) (v : Nat) : Bool := !r.stop && !decide (r.adds.getD v Frm.none = Frm.zero)
def readsM (r : Row) (v : Nat) : Bool := (r.adds ++ r.tells).any fun f => decide (f.c.getD v 0 ≠ 0)
theorem reads_or {p : List Bool} {fs : List Frm} (hp : p.length = 3) (hf : ∀ f ∈ fs,f.c.length = 3) : readsL p fs = orB p fun v => fs.any fun f => decide (f.c.getD v 0 ≠ 0) := by
  induction fs generalizing p with
  | nil =>
    show p = _
    apply List.ext_getElem?
    intro i
    cases h : p[i]? with
    | none => simp [orB,List.getElem?_mapIdx,h]
    | some b => rw [orB_at h]; simp
  | cons f fs ih =>
    show readsL (orAt p f.c) fs = _
    have h3 := hf f (by simp)
    rw [ih (by rw [orAt_len]; omega) fun g hg => hf g (by simp [hg])]
    apply List.ext_getElem?
    intro i
    by_cases hi : i < 3
    · obtain ⟨b,hb⟩ : ∃ b,p[i]? = some b := ⟨p[i],by simp [show i < p.length by omega]⟩
      obtain ⟨n,hn⟩ : ∃ n,f.c[i]? = some n := ⟨f.c[i],by simp [show i < f.c.length by omega]⟩
      have e : (orAt p f.c)[i]? = some (b || decide (n ≠ 0)) := by simp [orAt,List.getElem?_zipWith,hb,hn]
      rw [orB_at e,orB_at hb]
      simp [List.getD_eq_getElem?_getD,hn,Bool.or_assoc]
    · rw [List.getElem?_eq_none (by rw [orB_len,orAt_len]; omega),List.getElem?_eq_none (by rw [orB_len]; omega)]
theorem reads_row {p : List Bool} {r : Row} (hp : p.length = 3) (hr : RowFit r) : readsL (readsL p r.adds) r.tells = orB p (readsM r) := by
  have h1 : ∀ f ∈ r.adds,f.c.length = 3 := fun f hf => (hr.a f hf).c
  have h2 : ∀ f ∈ r.tells,f.c.length = 3 := fun f hf => (hr.t f hf).c
  rw [reads_or (readsL_len hp h1) h2,reads_or hp h1]
  apply List.ext_getElem?
  intro i
  cases h : p[i]? with
  | none =>
    have : ¬ i < p.length := by simpa using h
    rw [List.getElem?_eq_none (by rw [orB_len,orB_len]; omega),List.getElem?_eq_none (by rw [orB_len]; omega)]
  | some b => rw [orB_at (orB_at h),orB_at h]; simp only [readsM,List.any_append,Bool.or_assoc]
theorem both_pins (as : List (List Line)) : (both as).2 = potsM readsM as := by
  have rows : ∀ (rs : List Row) (s : List (List Int) × List Bool),s.2.length = 3 → (∀ r ∈ rs,RowFit r) → (rs.foldl rowBoth s).2 = rs.foldl (fun p r => orB p (readsM r)) s.2 := by
    intro rs
    induction rs with
    | nil => intro s _ _; rfl
    | cons r rs ih =>
      intro s hs hr
      have e : (rowBoth s r).2 = orB s.2 (readsM r) := reads_row hs (hr r (by simp))
      simp only [List.foldl_cons]
      rw [ih _ (by rw [e,orB_len]; exact hs) fun x hx => hr x (by simp [hx]),e]
  have acts : ∀ (as : List (List Line)) (s : List (List Int) × List Bool),s.2.length = 3 → (as.foldl actBoth s).2 = as.foldl (fun p a => (rowsOf a).foldl (fun p r => orB p (readsM r)) p) s.2 := by
    intro as
    induction as with
    | nil => intro s _; rfl
    | cons a as ih =>
      intro s hs
      have e : (actBoth s a).2 = (rowsOf a).foldl (fun p r => orB p (readsM r)) s.2 := rows _ _ hs rows_fit
      simp only [List.foldl_cons]
      rw [ih _ (by rw [e,rows_or_len]; exact hs),e]
  exact acts as _ rfl
end Go.Tm
end
section
namespace Go.Tm
theorem catPins_eq {as : List (List Line)} (h : catOk as = true) : catPins as = potsM readsM as := by simp [catPins,h,both_pins]
theorem place_cases {α : Type} (p : α → Bool) (l : List α) : (place p l = -1 ∧ l.any p = false) ∨ ∃ (i : Nat) (x : α),place p l = i ∧ l[i]? = some x ∧ p x = true ∧ (l.take i).any p = false := by
  unfold place
  cases h : l.findIdx? p with
  | none =>
    left
    rw [List.findIdx?_eq_none_iff] at h
    refine ⟨rfl,?_⟩
    rw [List.any_eq_false]
    intro x hx; rw [h x hx]; simp
  | some i =>
    right
    obtain ⟨h1,h2,h3⟩ := List.findIdx?_eq_some_iff_getElem.1 h
    refine ⟨i,l[i],rfl,by simp [h1],h2,?_⟩
    rw [List.any_eq_false]
    intro x hx
    obtain ⟨j,hj⟩ := List.mem_iff_getElem?.1 hx
    rw [List.getElem?_take] at hj
    split at hj
    · rename_i hji
      obtain ⟨h4,h5⟩ := List.getElem?_eq_some_iff.1 hj
      rw [← h5]
      exact h3 j hji
    · cases hj
def nz (x : Int) : Bool := !decide (x = 0)
theorem sgn_none {c : List Int} (h : c.any nz = false) : partOf c = c := by
  have hz : ∀ x ∈ c,x = 0 := by
    intro x hx
    rw [List.any_eq_false] at h
    have := h x hx
    simpa [nz] using this
  unfold partOf
  conv => rhs; rw [← List.map_id c]
  apply List.map_congr_left
  intro x hx
  rw [hz x hx]; simp
theorem sgn_some {c : List Int} {i : Nat} {x : Int} (hx : c[i]? = some x) (hn : nz x = true) (ht : (c.take i).any nz = false) : sgn1 c = if 0 < x then 1 else -1 := by
  induction c generalizing i with
  | nil => simp at hx
  | cons y c ih =>
    have hx0 : x ≠ 0 := by simpa [nz] using hn
    cases i with
    | zero =>
      simp only [List.getElem?_cons_zero,Option.some.injEq] at hx
      subst hx
      simp only [sgn1]
      split
      · rfl
      · rw [if_pos (by omega)]
    | succ i =>
      simp only [List.getElem?_cons_succ] at hx
      simp only [List.take_succ_cons,List.any_cons,Bool.or_eq_false_iff] at ht
      have hy : y = 0 := by simpa [nz] using ht.1
      subst hy
      simp only [sgn1]
      rw [if_neg (by omega),if_neg (by omega)]
      exact ih hx ht.2
end Go.Tm
end
section
namespace Go.Tm
end Go.Tm
end
section
namespace Go.Tm
def othersM (g : List Int) (s : Int) : Int := (g.zipIdx.map fun q => if (q.2 : Int) = s then 0 else q.1).sum
theorem others_step {g : List Int} {s : Int} {i : Nat} {x : Int} (h : g[i]? = some x) : othersM (g.take (i + 1)) s = othersM (g.take i) s + if (i : Int) = s then 0 else x := by
  have hi := (List.getElem?_eq_some_iff.1 h).1
  unfold othersM
  rw [tS1 h,List.zipIdx_append,List.map_append,List.sum_append]
  simp [show min i g.length = i by omega]
def sumL (a b : List Int) : List Int := List.zipWith (· + ·) a b
def boundsM (b g : List Int) (ps : List (List Int)) (s : Int) (a : List Int) (f : Frm) (w : List Int) : Int × Int × Bool :=
  if (trtOk b g && partsOk ps && inB s 0 (g.length - 1) && addedOk a) && f.ok && argOk w then
    let n := atF f (sumL b a) w
    if f.c = [0,0,0] then (n,n,true)
    else if partOf f.c ∈ ps then (n - othersM g s,n + othersM g s,true) else (0,0,false)
  else (0,0,false)
theorem ok_std {f : Frm} (h : f.ok = true) : Std 10000000 f := by
  simp only [Frm.ok,Bool.and_eq_true,allIn_iff,inB_iff] at h
  exact ⟨by omega,by omega,h.1.1.2,h.1.2.2,h.2⟩
theorem sumL_len {a b : List Int} (h : b.length = a.length) : (sumL a b).length = a.length := by simp [sumL,h]
end Go.Tm
end
section
namespace Go.Tm
def stillM (ps : List Bool) (a : List Int) : Bool := (a.zip ps).all fun q => !(q.2 && !decide (q.1 = 0))
def sureM (b g : List Int) (ps : List (List Int)) (s : Int) (a w : List Int) (r : Row) : Bool := r.guards.all fun f => (boundsM b g ps s a f w).2.2 && decide (0 ≤ (boundsM b g ps s a f w).1)
def ovM (b g : List Int) (ps : List (List Int)) (s : Int) (a w : List Int) (v : Nat) : Bool := decide (10000 < (boundsM b g ps s a (potF v) w).1) || decide ((boundsM b g ps s a (potF v) w).2.1 < -10000)
def unM (b g : List Int) (ps : List (List Int)) (s : Int) (a w : List Int) (v : Nat) : Bool := decide ((boundsM b g ps s a (potF v) w).1 < -10000) || decide (10000 < (boundsM b g ps s a (potF v) w).2.1)
structure LocR where
  code : Int
  tells : List Int
  adds : List Int
  ok : Bool
def LocR.ds (r : LocR) : List D := [dI r.code,.s (dL r.tells),.s (dL r.adds),dB r.ok]
def rowLoc (b g : List Int) (ps : List (List Int)) (pins : List Bool) (s : Int) (a w : List Int) (r : Row) : LocR :=
  if r.stop then ⟨2,[],a,true⟩
  else if stillM pins (atL r.adds b w) && addedOk (sumL a (atL r.adds b w)) then
    if [0,1,2].any (ovM b g ps s (sumL a (atL r.adds b w)) w) then ⟨3,[],a,true⟩
    else if [0,1,2].any (unM b g ps s (sumL a (atL r.adds b w)) w) then ⟨0,[],a,false⟩
    else if keeps b g ps s (sumL a (atL r.adds b w)) then ⟨1,atL r.tells b w,sumL a (atL r.adds b w),true⟩
    else ⟨0,[],a,false⟩
  else ⟨0,[],a,false⟩
def locFine (as : List (List Line)) (b g : List Int) (s : Int) (a : List Int) (k : Int) (w : List Int) : Bool :=
  catOk as && inB k 0 (as.length - 1) && argOk w && (keeps b g (catForms as) s a && stillM (catPins as) a)
def locM (as : List (List Line)) (b g : List Int) (s : Int) (a : List Int) (k : Int) (w : List Int) : LocR :=
  if locFine as b g s a k w then
    match (rowsOf (as.getD k.toNat [])).find? (sureM b g (catForms as) s a w) with
    | some r => rowLoc b g (catForms as) (catPins as) s a w r
    | none => ⟨0,[],a,false⟩
  else ⟨0,[],[],false⟩
theorem any_step {α : Type} {p : α → Bool} {l : List α} {k : Nat} {x : α} (h : l[k]? = some x) : (l.take (k + 1)).any p = ((l.take k).any p || p x) := by rw [tS1 h]; simp
def fineM (b g : List Int) (ps : List (List Int)) (s : Int) (a : List Int) : Bool := trtOk b g && partsOk ps && inB s 0 (g.length - 1) && addedOk a
theorem keeps_fineM {b g : List Int} {ps : List (List Int)} {s : Int} {a : List Int} (h : keeps b g ps s a = true) : fineM b g ps s a = true := by
  unfold keeps at h; unfold fineM
  simp only [Bool.and_eq_true] at h ⊢
  exact h.1
theorem fine_in {b g : List Int} {ps : List (List Int)} {s : Int} {a : List Int} (h : fineM b g ps s a = true) :
    trtOk b g = true ∧ partsOk ps = true ∧ (0 ≤ s ∧ s < g.length) ∧ addedOk a = true ∧ (b.length = 3 ∧ Lim 10000 b) ∧ (a.length = 3 ∧ Lim 20000 a) ∧ (∀ x ∈ g,0 ≤ x ∧ x ≤ 50) := by
  simp only [fineM,Bool.and_eq_true,inB_iff] at h
  obtain ⟨⟨⟨h1,h2⟩,h3⟩,h4⟩ := h
  have h1' := h1
  simp only [trtOk,valOk,Bool.and_eq_true,allIn_iff,List.all_eq_true,inB_iff] at h1'
  have h4' := allIn_iff.1 h4
  exact ⟨h1,h2,by omega,h4,⟨by omega,h1'.1.1.2⟩,⟨by omega,h4'.2⟩,h1'.2⟩
structure MoreG (g g' : List Int) (s : Int) : Prop where
  l : g'.length = g.length
  r : ∀ x ∈ g',0 ≤ x ∧ x ≤ 50
  m : g.getD s.toNat 0 ≤ g'.getD s.toNat 0
  o : othersM g' s ≤ othersM g s
theorem MoreG.fine {b g g' : List Int} {ps : List (List Int)} {s : Int} {a : List Int} (h : MoreG g g' s) (hf : fineM b g ps s a = true) : fineM b g' ps s a = true := by
  unfold fineM trtOk at *
  simp only [Bool.and_eq_true,inB_iff,List.all_eq_true,h.l] at hf ⊢
  exact ⟨⟨⟨⟨hf.1.1.1.1,h.r⟩,hf.1.1.2⟩,hf.1.2⟩,hf.2⟩
theorem MoreG.keeps {b g g' : List Int} {ps : List (List Int)} {s : Int} {a : List Int} (h : MoreG g g' s) (hf : Go.Tm.keeps b g ps s a = true) : Go.Tm.keeps b g' ps s a = true := by
  have h1 := h.fine (keeps_fineM hf)
  unfold Go.Tm.keeps at *
  unfold fineM at h1
  rw [h1,Bool.true_and]
  simp only [Bool.and_eq_true,List.all_eq_true,keepsP,inB_iff] at hf ⊢
  intro p hp
  have := hf.2 p hp
  have := h.m
  omega
theorem others_set {g : List Int} {s : Int} {i : Nat} {x y : Int} (hx : g[i]? = some x) : othersM (g.set i y) s = othersM g s + if (i : Int) = s then 0 else y - x := by
  have hi := (List.getElem?_eq_some_iff.1 hx).1
  have key : ∀ k,k ≤ g.length → othersM ((g.set i y).take k) s = othersM (g.take k) s + if i < k then (if (i : Int) = s then 0 else y - x) else 0 := by
    intro k
    induction k with
    | zero => intro _; simp [othersM]
    | succ k ih =>
      intro hk
      have ih := ih (by omega)
      obtain ⟨z,hz,_⟩ := sA1 (show k < g.length by omega)
      by_cases hik : i = k
      · subst hik
        rw [hx] at hz; cases hz
        have hy : (g.set i y)[i]? = some y := by rw [List.getElem?_set]; simp [hi]
        rw [others_step hx,others_step hy,ih,if_neg (show ¬ i < i by omega),if_pos (show i < i + 1 by omega)]
        split <;> omega
      · have hy : (g.set i y)[k]? = some z := by rw [List.getElem?_set,if_neg hik]; exact hz
        rw [others_step hz,others_step hy,ih]
        by_cases hlt : i < k
        · rw [if_pos hlt,if_pos (show i < k + 1 by omega)]; omega
        · rw [if_neg hlt,if_neg (show ¬ i < k + 1 by omega)]; omega
  have := key g.length (Nat.le_refl _)
  rw [List.take_of_length_le (Nat.le_refl _),List.take_of_length_le (by simp),if_pos hi] at this
  exact this
theorem set_in {g : List Int} {i : Nat} {y : Int} (hg : ∀ x ∈ g,0 ≤ x ∧ x ≤ 50) (hy : 0 ≤ y ∧ y ≤ 50) : ∀ x ∈ g.set i y,0 ≤ x ∧ x ≤ 50 := by
  intro x hx
  rcases List.mem_or_eq_of_mem_set hx with h | h
  · exact hg x h
  · subst h; exact hy
theorem MoreG.same {g : List Int} {s : Int} (hg : ∀ x ∈ g,0 ≤ x ∧ x ≤ 50) : MoreG g g s := ⟨rfl,hg,Int.le_refl _,Int.le_refl _⟩
theorem MoreG.up {g : List Int} {s : Int} {i : Nat} {x : Int} (hg : ∀ x ∈ g,0 ≤ x ∧ x ≤ 50) (hx : g[i]? = some x) (hs : (i : Int) = s) (h : x < 50) : MoreG g (g.set i (x + 1)) s := by
  have hxx := hg x (List.mem_of_getElem? hx)
  have hi := (List.getElem?_eq_some_iff.1 hx).1
  refine ⟨by simp,set_in hg (by omega),?_,?_⟩
  · subst hs
    rw [Int.toNat_natCast,List.getD_eq_getElem?_getD,List.getD_eq_getElem?_getD,hx,List.getElem?_set]
    simp [hi]; omega
  · rw [others_set hx,if_pos hs]; omega
end Go.Tm
end

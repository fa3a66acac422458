import Derived.Test.YtgiejmanbmeloaaGreatDoorPN
import Derived.Test.YtgiejmanbmeloaaGreatDoorPI
import Derived.Test.YtgiejmanbmeloaaGreatDoorTd
set_option linter.unusedVariables false
set_option linter.unusedSimpArgs false
/- What the program's ways through an act come to. -/
namespace Go.Proofs.YtgiejmanbmeloaaGreatDoor
open Go Go.Tm
theorem ev_FrmInto_1 (f : Frm) (hf : Frm.fit f) : Ev L f_k2s f.cells [dB (!f.ok)] :=
  Ev.eq (vs := [.l (dL f.c),.l (dL f.d),.i f.k]) L_k2s rfl (WR.ev (ev_iFrmOk f hf) rfl rfl rfl (WR.done rfl))
theorem ev_hasFrm (p : Frm → Bool) (l : List Frm) {fn : FuncId} {caps : List D} (hlen : l.length ≤ 2000000) (hcap : oneOf (.f fn caps) = .f fn caps) (har : arT L fn = some ([some 3] ++ caps.map fun _ => none))
    (hc : ∀ x ∈ l,Ev L fn (x.cells ++ caps.map D.norm) [dB (p x)]) : Ev L f_k2r [.s (dF l),.f fn caps] [dB (l.any p)] :=
  ev_contains (g := f_k2q) L_k2r rfl hcap
    (ev_idxFunc (sh := .g [.s,.s,.i .i64]) (as := [(.s (.v 3)),(.s (.v 4)),(.vi .i64 (.v 5))]) (ar := [some 3]) (k := 6) Frm.g p Frm.cells (fun x => [.l (dL x.c),.l (dL x.d),.i x.k]) l
      L_k2q rfl hlen hcap (fun _ _ => rfl) (fun _ _ => rfl) (fun _ _ _ _ => rfl) har hc)
def accI (f : Frm) (pots : List Frm) (i : Nat) : Frm := (List.zip (pots.take i) (f.c.take i)).foldl (fun x q => sumF x q.1 q.2) Frm.zero
theorem accI_succ {f : Frm} {pots : List Frm} {i : Nat} {p : Frm} {n : Int} (hp : pots[i]? = some p) (hn : f.c[i]? = some n) : accI f pots (i + 1) = sumF (accI f pots i) p n := by
  have h1 := (List.getElem?_eq_some_iff.1 hp).1
  have h2 := (List.getElem?_eq_some_iff.1 hn).1
  simp only [accI]
  rw [tS1 hp,tS1 hn,List.zip_append (by simp; omega),List.foldl_append]; rfl
theorem accI_std {f : Frm} {pots : List Frm} {M : Int} (hf : f.small = true) (hp : ∀ p ∈ pots,Std M p) (hl : pots.length = 3) (h0 : 0 ≤ M) (i : Nat) (hi : i ≤ 3) : Std (2 * M * i) (accI f pots i) := by
  obtain ⟨h1,h2,h3,h4,h5⟩ := small_std hf
  induction i with
  | zero => exact zero_std.mono (by omega)
  | succ i ih =>
    have ih := ih (by omega)
    obtain ⟨p,hp1,hp2⟩ := sA1 (show i < pots.length by omega)
    obtain ⟨n,hn1,hn2⟩ := sA1 (show i < f.c.length by omega)
    rw [accI_succ hp1 hn1]
    have := sumF_std ih (hp _ hp2) (h3 _ hn2)
    refine this.mono ?_
    push_cast
    rw [Int.mul_add]; omega
theorem into_swap {f : Frm} {pots : List Frm} {M : Int} (hf : f.small = true) (hp : ∀ p ∈ pots,Std M p) (hl : pots.length = 3) :
    intoF f pots = ⟨(accI f pots 3).c,addU (accI f pots 3).d f.d 1,(accI f pots 3).k + 1 * f.k⟩ := by
  obtain ⟨h1,h2,_⟩ := small_std hf
  match pots,hl with
  | [⟨c,d,k⟩,⟨c',d',k'⟩,⟨c'',d'',k''⟩],_ =>
    have s1 := hp ⟨c,d,k⟩ (by simp)
    have s2 := hp ⟨c',d',k'⟩ (by simp)
    have s3 := hp ⟨c'',d'',k''⟩ (by simp)
    obtain ⟨fc,fd,fk⟩ := f
    obtain ⟨x,y,z,rfl⟩ := len3 h1
    obtain ⟨u,v,rfl⟩ := len2 h2
    obtain ⟨a1,a2,a3,rfl⟩ := len3 s1.c
    obtain ⟨b1,b2,rfl⟩ := len2 s1.d
    obtain ⟨a1',a2',a3',rfl⟩ := len3 s2.c
    obtain ⟨b1',b2',rfl⟩ := len2 s2.d
    obtain ⟨a1'',a2'',a3'',rfl⟩ := len3 s3.c
    obtain ⟨b1'',b2'',rfl⟩ := len2 s3.d
    simp [intoF,accI,sumF,addL,addU,Frm.zero]
    omega
theorem ev_iInto {f : Frm} {pots : List Frm} {M : Int} (hf : f.small = true) (hl : pots.length = 3) (hp : ∀ p ∈ pots,Std M p) (h0 : 0 ≤ M) (hM : M ≤ 1000000) :
    Ev L f_k2v (f.cells ++ [.s (dF pots)]) (intoF f pots).cells := by
  obtain ⟨f1,f2,f3,f4,f5⟩ := small_std hf
  have hfs := small_Std hf
  refine Ev.eq (vs := [.l (dL f.c),.l (dL f.d),.i f.k,.l (dF pots)]) L_k2v rfl ?_
  have e := ev_iFrmOk f hfs.fit
  rw [hfs.okF (by omega)] at e
  refine WR.ev e rfl rfl rfl (WR.iteF rfl ?_)
  refine WR.iteP (¬ (pots.length : Int) = 3) ?_ (fun h => by omega) (fun _ => ?_)
  · show (!(decide (((dF pots).length : Int) = 3))) = _
    rw [dF_len]; simp
  have hany : pots.any (fun p => !p.ok) = false := by
    rw [List.any_eq_false]
    intro p hpm
    rw [(hp p hpm).okF (by omega)]; simp
  have e2 := ev_hasFrm (fun p => !p.ok) pots (fn := f_k2s) (caps := []) (by omega) rfl rfl fun p hpm => by
    rw [List.map_nil,List.append_nil]; exact ev_FrmInto_1 p (hp p hpm).fit
  rw [hany] at e2
  refine WR.ev e2 rfl rfl rfl (WR.iteF rfl ?_)
  refine WR.ev ev_iZero rfl rfl rfl ?_
  simp only [sC,sN]
  have hstd := accI_std hf hp hl h0
  refine WR.forS 3 (fun i vs => ∃ a : Frm,a = accI f pots i ∧ vs = [.l (dL a.c),.l (dL a.d),.i i,.i a.k]) rfl ⟨Frm.zero,rfl,rfl⟩ ?_
  rintro i _ hi ⟨a,ha,rfl⟩
  have hs := hstd i hi
  rw [← ha] at hs
  simp only [sC,sN]
  refine WR.iteLen i (dF_len pots) rfl (fun h => ?_) (fun h => ?_)
  · obtain ⟨p,hp1,hp2⟩ := sA1 h
    obtain ⟨n,hn1,hn2⟩ := sA1 (show i < f.c.length by omega)
    refine WR.idxN i (mA1 (f := Frm.g) hp1) rfl rfl rfl rfl ?_
    refine WR.idxN i (mA1 (f := dI) hn1) rfl rfl rfl rfl ?_
    have hb : 2 * M * (i : Int) ≤ 2 * M * 3 := Int.mul_le_mul_of_nonneg_left (by omega) (by omega)
    have hn := f3 n hn2
    refine WR.ev (ev_addS (M := 6 * M) (hs.mono (by omega)) ((hp p hp2).mono (by omega)) (by omega) (n := n) (by omega)) rfl rfl rfl ?_
    have hA := accI_succ hp1 hn1
    rw [← ha] at hA
    refine WR.nextA (vs := [.l (dL (sumF a p n).c),.l (dL (sumF a p n).d),.i ((i + 1 : Nat) : Int),.i (sumF a p n).k]) ?_ ⟨by omega,sumF a p n,hA.symm,rfl⟩
    show [V.l (dL (sumF a p n).c),.l (dL (sumF a p n).d),.i (IntKind.i64.wrap ((i : Int) + 1)),.i (sumF a p n).k] = _
    rw [wS h (by omega)]
  · refine WR.esc ?_
    have hi3 : i = 3 := by omega
    subst hi3
    have e3 := ev_add (a := a) (b := ⟨[],f.d,f.k⟩) (n := 1) (M := 6 * M + 20) (hs.lc.mono (by omega)) (hs.ld.mono (by omega)) (by have := hs.k; omega) (by intro x hx; simp at hx) (hfs.ld.mono (by omega)) (by have := hfs.k; show -(6 * M + 20) ≤ f.k ∧ f.k ≤ 6 * M + 20; omega)
      (by simp) (by show f.d.length ≤ a.d.length; rw [hs.d]; omega) (by rw [hs.c]; omega) (by rw [hs.d]; omega) (by omega) (by omega)
    refine WR.ev e3 rfl rfl rfl ?_
    simp only [sC,sN]
    have hin := into_swap hf hp hl
    rw [← ha] at hin
    have hic := into_std hf hl hp h0
    rw [addU_nil]
    have e4 := ev_checked hic (by omega)
    rw [hin] at e4 ⊢
    exact WR.ev e4 rfl rfl rfl (WR.done rfl)
theorem dRows_snoc (l : List Row) (r : Row) : dRows l ++ [r.g] = dRows (l ++ [r]) := by simp [dRows]
theorem fits_of {l : List Frm} {M : Int} (h : ∀ f ∈ l,Std M f) : ∀ f ∈ l,Frm.fit f := fun f hf => (h f hf).fit
set_option maxHeartbeats 2000000 in
theorem ev_walk {act : List Line} (hact : Good act) : ∀ (n : Nat) (at_ : Int) (p g t : List Frm) (rows : List Row) (j : Nat),0 ≤ at_ → at_ ≤ 20 → act.length - at_.toNat = n → (j : Int) ≤ at_ → j ≤ 6 →
    p.length = 3 → (∀ f ∈ p,Std (Bd j) f) → g.length ≤ j → (∀ f ∈ g,Std 10000000 f) → t.length ≤ j → (∀ f ∈ t,Std 10000000 f) → rows.length + (walk (act.drop at_.toNat) p g t).length ≤ 1000 →
    Ev L f_k2y [.s (dAct act),.s (dRows rows),dI at_,.s (dF g),.s (dF p),.s (dF t)] [.s (dAct act),.s (dRows (rows ++ walk (act.drop at_.toNat) p g t))] := by
  intro n
  induction n using Nat.strongRecOn with
  | _ n ih =>
    intro at_ p g t rows j a0 a20 hn hj hj6 hp sp hg sg ht st hlen
    have hal := hact.len
    refine Ev.eq (vs := [.l (dAct act),.l (dRows rows),.i at_,.l (dF g),.l (dF p),.l (dF t)]) L_k2y rfl ?_
    refine WR.loop (fun m vs => ∃ (i : Int) (p' g' t' : List Frm) (rs : List Row) (j' : Nat),vs = [.l (dRows rs),.i i,.l (dF g'),.l (dF p'),.l (dF t'),.l (dAct act)] ∧ at_ ≤ i ∧ i ≤ 20 ∧ m = act.length - i.toNat ∧ (j' : Int) ≤ i ∧ j ≤ j' ∧ j' ≤ 6 ∧ p'.length = 3 ∧ (∀ f ∈ p',Std (Bd j') f) ∧ g'.length ≤ j' ∧ (∀ f ∈ g',Std 10000000 f) ∧ t'.length ≤ j' ∧ (∀ f ∈ t',Std 10000000 f) ∧
      rs ++ walk (act.drop i.toNat) p' g' t' = rows ++ walk (act.drop at_.toNat) p g t) rfl (act.length - at_.toNat) ⟨at_,p,g,t,rows,j,rfl,by omega,a20,rfl,hj,by omega,hj6,hp,sp,hg,sg,ht,st,rfl⟩ ?_
    rintro m _ ⟨i,p',g',t',rs,j',rfl,ai,i20,hm,hj',hjj,hj6',hp',sp',hg',sg',ht',st',hw⟩
    simp only [sC,sN]
    have hlen' : rs.length + (walk (act.drop i.toNat) p' g' t').length ≤ 1000 := by
      rw [← List.length_append,hw,List.length_append]; exact hlen
    rw [← hw]
    clear hw hlen
    have hB := Bd_le hj6'
    have hB0 := Bd_nonneg j'
    have fg := fits_of sg'
    have fp := fits_of sp'
    have ft := fits_of st'
    refine WR.iteP (i < ((dAct act).length : Int)) rfl (fun hi => ?_) (fun hi => ?_)
    · rw [dAct_len] at hi
      obtain ⟨l,hl,hd⟩ := dAct_get (a := act) (i := i) (by omega) hi
      have hok := hact.ok l (List.mem_of_getElem? hl)
      have hdr := drop_cons hl
      have hs1 : (i + 1).toNat = i.toNat + 1 := by omega
      refine WR.idxA (ds := dAct act) i rfl rfl rfl (by omega) hd rfl ?_
      simp only [sC,sN]
      refine WR.iteP (l.kind = 4) rfl (fun h4 => ?_) (fun h4 => ?_)
      · refine WR.ev (ev_forms g' (by omega) fg) rfl rfl rfl ?_
        refine WR.chkApp (dRows rs) 1000 (by rw [dRows_len]; omega) (by omega) rfl ?_
        refine WR.esc (WR.done ?_)
        show [D.s (dAct act),D.s (dRows rs ++ [Row.g ⟨g',[],[],true⟩])] = _
        rw [dRows_snoc,hdr,walk,if_pos h4]
      have hsm := ok_small hok h4
      have hin := into_std hsm hp' sp' hB0
      have hin7 : Std 10000000 (intoF l.f p') := hin.mono (by omega)
      refine WR.ev (ev_iInto hsm hp' sp' hB0 (by omega)) rfl rfl rfl ?_
      simp only [sC,sN]
      have hj5 : j' < 6 := by omega
      refine WR.iteP (l.kind = 1) rfl (fun h1 => ?_) (fun h1 => ?_)
      · have hsk := ok_skip hok h1
        have hwk : walk (act.drop i.toNat) p' g' t' = walk (act.drop (i + 1).toNat) p' (g' ++ [intoF l.f p']) t' ++ walk (act.drop (i + l.skip + 1).toNat) p' (g' ++ [minusF (intoF l.f p')]) t' := by
          rw [hdr,walk,if_neg h4,if_pos h1,List.drop_drop,hs1,show i.toNat + 1 + l.skip.toNat = (i + l.skip + 1).toNat by omega]
        have hmin : Std 10000000 (minusF (intoF l.f p')) := (minusF_std hin).mono (by omega)
        have spB : ∀ f ∈ p',Std (Bd (j' + 1)) f := fun f hf => (sp' f hf).mono (Bd_mono (by omega))
        rw [hwk,List.length_append] at hlen'
        rw [hwk]
        have hns := sumF_std zero_std hin (n := -1) (N := 1) (by omega)
        generalize hF : intoF l.f p' = F at *
        refine WR.ev (ev_forms g' (by omega) fg) rfl rfl rfl ?_
        refine WR.chkApp (dF g') 1000 (by rw [dF_len]; omega) (by omega) rfl ?_
        refine WR.ev (ev_forms p' (by omega) fp) rfl rfl rfl ?_
        refine WR.ev (ev_forms t' (by omega) ft) rfl rfl rfl ?_
        simp only [sC,sN]
        have e1 := ih (act.length - (i + 1).toNat) (by omega) (i + 1) p' (g' ++ [F]) t' rs (j' + 1) (by omega) (by omega) rfl (by omega) (by omega) hp' spB (by simp; omega) (mem_snoc sg' hin7) (by omega) st' (by omega)
        refine WR.ev e1 rfl ?_ rfl ?_
        · show [D.s (dAct act),.s (dRows rs),dI (IntKind.i64.wrap (i + 1)),.s (dF g' ++ [F.g]),.s (dF p'),.s (dF t')] = _
          rw [dF_snoc,w64 (by omega) (by omega)]
        simp only [sC,sN]
        refine WR.ev (ev_iTimes hin7 (by omega) (n := -1) (by omega) (by omega)) rfl rfl rfl ?_
        refine WR.ev (ev_forms g' (by omega) fg) rfl rfl rfl ?_
        refine WR.chkApp (dF g') 1000 (by rw [dF_len]; omega) (by omega) rfl ?_
        simp only [sC,sN]
        refine WR.nextA (vs := [.l (dRows (rs ++ walk (act.drop (i + 1).toNat) p' (g' ++ [F]) t')),.i (i + l.skip + 1),.l (dF (g' ++ [minusF F])),.l (dF p'),.l (dF t'),.l (dAct act)]) ?_
          ⟨act.length - (i + l.skip + 1).toNat,by omega,i + l.skip + 1,p',g' ++ [minusF F],t',_,j' + 1,rfl,by omega,by omega,rfl,by omega,by omega,by omega,hp',spB,by simp; omega,mem_snoc sg' hmin,by omega,st',?_⟩
        · have hk := hns.k
          show [V.l (dRows (rs ++ walk (act.drop (i + 1).toNat) p' (g' ++ [F]) t')),V.i (IntKind.i64.wrap (IntKind.i64.wrap (i + l.skip) + 1)),V.l (dF g' ++ [Frm.g ⟨(sumF Frm.zero F (-1)).c,(sumF Frm.zero F (-1)).d,IntKind.i64.wrap ((sumF Frm.zero F (-1)).k - 1)⟩]),V.l (dF p'),V.l (dF t'),V.l (dAct act)] = _
          rw [dF_snoc,w64 (n := i + l.skip) (by omega) (by omega),w64 (n := i + l.skip + 1) (by omega) (by omega),w64 (n := (sumF Frm.zero F (-1)).k - 1) (by omega) (by omega)]; rfl
        · rw [List.append_assoc]
      refine WR.iteP (l.kind = 2) rfl (fun h2 => ?_) (fun h2 => ?_)
      · have hpt := ok_pot hok h2
        have hlt : l.pot.toNat < p'.length := by omega
        obtain ⟨hm1,hm2⟩ := getD_mem hlt
        have hdg : (dF p')[l.pot.toNat]? = some (p'.getD l.pot.toNat Frm.none).g := mA1 (f := Frm.g) hm2
        have hwk : walk (act.drop i.toNat) p' g' t' = walk (act.drop (i + 1).toNat) (p'.set l.pot.toNat (sumF (p'.getD l.pot.toNat Frm.none) (intoF l.f p') 1)) g' t' := by
          rw [hdr,walk,if_neg h4,if_neg h1,if_pos h2,hs1]
        rw [hwk]
        have hsum : Std (Bd (j' + 1)) (sumF (p'.getD l.pot.toNat Frm.none) (intoF l.f p') 1) := (sumF_std (sp' _ hm1) hin (n := 1) (N := 1) (by omega)).mono (by simp only [Bd]; omega)
        have hsp1 := sp' _ hm1
        generalize p'.getD l.pot.toNat Frm.none = q at *
        generalize intoF l.f p' = F at *
        refine WR.ev (ev_forms p' (by omega) fp) rfl rfl rfl ?_
        refine WR.chkP (0 ≤ l.pot) rfl hpt.1 ?_
        refine WR.chkP (l.pot < ((dF p').length : Int)) rfl (by rw [dF_len]; omega) ?_
        refine WR.idxA (ds := dF p') l.pot rfl rfl rfl hpt.1 hdg rfl ?_
        simp only [sC,sN]
        refine WR.ev (ev_iAdd (M := 5000000) (hsp1.mono (by omega)) (hin.mono (by omega)) (by omega) (by omega)) rfl rfl rfl ?_
        refine WR.chkP (0 ≤ l.pot) rfl hpt.1 ?_
        refine WR.chkP (l.pot < ((dF p').length : Int)) rfl (by rw [dF_len]; omega) ?_
        refine WR.idxA (ds := dF p') l.pot rfl rfl rfl hpt.1 hdg rfl ?_
        simp only [sC,sN]
        refine WR.nextA (vs := [.l (dRows rs),.i (i + 1),.l (dF g'),.l (dF (p'.set l.pot.toNat (sumF q F 1))),.l (dF t'),.l (dAct act)]) ?_
          ⟨act.length - (i + 1).toNat,by omega,i + 1,p'.set l.pot.toNat (sumF q F 1),g',t',rs,j' + 1,rfl,by omega,by omega,rfl,by omega,by omega,by omega,by simp [hp'],?_,by omega,sg',by omega,st',rfl⟩
        · show [V.l (dRows rs),V.i (IntKind.i64.wrap (i + 1)),V.l (dF g'),V.l ((dF p').set l.pot.toNat (sumF q F 1).g),V.l (dF t'),V.l (dAct act)] = _
          rw [w64 (by omega) (by omega)]
          simp only [dF,List.map_set]
        · intro f hf
          rcases List.mem_or_eq_of_mem_set hf with hf | hf
          · exact (sp' f hf).mono (Bd_mono (by omega))
          · subst hf; exact hsum
      · have h3 : l.kind = 3 := by
          have := hok
          unfold Line.ok at this
          rw [if_neg h1,if_neg h2] at this
          split at this
          · assumption
          · simp [h4] at this
        have hwk : walk (act.drop i.toNat) p' g' t' = walk (act.drop (i + 1).toNat) p' g' (t' ++ [intoF l.f p']) := by
          rw [hdr,walk,if_neg h4,if_neg h1,if_neg h2,hs1]
        rw [hwk]
        generalize intoF l.f p' = F at *
        refine WR.iteP (l.kind = 3) rfl (fun _ => ?_) (fun h => absurd h3 h)
        refine WR.ev (ev_forms t' (by omega) ft) rfl rfl rfl ?_
        refine WR.chkApp (dF t') 1000 (by rw [dF_len]; omega) (by omega) rfl ?_
        simp only [sC,sN]
        refine WR.nextA (vs := [.l (dRows rs),.i (i + 1),.l (dF g'),.l (dF p'),.l (dF (t' ++ [F])),.l (dAct act)]) ?_
          ⟨act.length - (i + 1).toNat,by omega,i + 1,p',g',t' ++ [F],rs,j' + 1,rfl,by omega,by omega,rfl,by omega,by omega,by omega,hp',fun f hf => (sp' f hf).mono (Bd_mono (by omega)),by omega,sg',by simp; omega,mem_snoc st' hin7,rfl⟩
        show [V.l (dRows rs),V.i (IntKind.i64.wrap (i + 1)),V.l (dF g'),V.l (dF p'),V.l (dF t' ++ [F.g]),V.l (dAct act)] = _
        rw [dF_snoc,w64 (by omega) (by omega)]
    · rw [dAct_len] at hi
      have hwk : walk (act.drop i.toNat) p' g' t' = [rowEnd p' g' t'] := by rw [List.drop_eq_nil_of_le (by omega),walk]
      rw [hwk]
      rw [hwk] at hlen'
      refine WR.esc ?_
      refine WR.ev (ev_forms g' (by omega) fg) rfl rfl rfl ?_
      refine WR.ev (ev_forms t' (by omega) ft) rfl rfl rfl ?_
      simp only [sC,sN]
      refine WR.forP 3 (fun v => [.l (dF ((addsOf p').take v)),.i v]) (fun _ => True) rfl rfl trivial fun v hv _ => ?_
      simp only [sC,sN]
      refine WR.iteLen v (dF_len p') rfl (fun h => ?_) (fun h => ?_)
      · obtain ⟨x,hx,hmx⟩ := sA1 h
        have hsx := sp' x hmx
        refine WR.idxN v (mA1 (f := Frm.g) hx) rfl rfl rfl rfl ?_
        refine WR.ev (ev_iPot v (by omega) (by omega)) rfl rfl rfl ?_
        refine WR.ev (ev_iTimes (M := 10000000) (potF_std.mono (by omega)) (by omega) (n := -1) (by omega) (by omega)) rfl rfl rfl ?_
        simp only [sC,sN]
        have hps := sumF_std zero_std (potF_std (v := (v : Int).toNat)) (n := -1) (N := 1) (by omega)
        refine WR.ev (ev_iAdd (M := 5000000) (hsx.mono (by omega)) (hps.mono (by omega)) (by omega) (by omega)) rfl rfl rfl ?_
        rw [sumF_zero_zero hsx potF_std]
        refine WR.fl (flats_dL _) (WR.fl (flats_dL _) ?_)
        have hn : (addsOf p')[v]? = some (sumF x (potF (v : Int).toNat) (-1)) := by
          have e : p'.getD v Frm.none = x := by rw [List.getD_eq_getElem?_getD,hx]; rfl
          subst e
          rw [Int.toNat_natCast]
          match v,(show v < 3 by omega) with
          | 0,_ => rfl
          | 1,_ => rfl
          | 2,_ => rfl
          | n + 3,h => omega
        refine WR.chkApp (dF ((addsOf p').take v)) 1000 (by rw [dF_len]; simp [addsOf]; omega) (by omega) rfl ?_
        simp only [sC,sN]
        refine WR.nextA (vs := [.l (dF ((addsOf p').take (v + 1))),.i ((v + 1 : Nat) : Int)]) ?_ ⟨by omega,rfl,trivial⟩
        show [V.l (dF ((addsOf p').take v) ++ [(sumF x (potF (v : Int).toNat) (-1)).g]),V.i (IntKind.i64.wrap ((v : Int) + 1))] = _
        rw [dF_snoc,tS1 hn,wS' (by omega)]
      · have hv3 : v = 3 := by omega
        subst hv3
        refine WR.esc ?_
        refine WR.chkApp (dRows rs) 1000 (by rw [dRows_len]; omega) (by omega) rfl ?_
        refine WR.done ?_
        show [D.s (dAct act),D.s (dRows rs ++ [(rowEnd p' g' t').g])] = _
        rw [dRows_snoc]
theorem ev_iRowsOf (act : List Line) (hf : fitAct act) : Ev L f_k2z [.s (dAct act)] [.s (dRows (rowsOf act))] := by
  refine Ev.eq (vs := [.l (dAct act)]) L_k2z rfl ?_
  refine WR.ev (ev_iActOk act hf) rfl rfl rfl ?_
  refine WR.iteN (actOk act) rfl (fun h => WR.done ?_) (fun h => ?_)
  · show [D.s []] = _
    simp [rowsOf,h,dRows]
  have hpp : ∀ f ∈ [potF 0,potF 1,potF 2],Std (Bd 0) f := by
    intro f hf'
    simp at hf'
    rcases hf' with rfl | rfl | rfl <;> exact potF_std
  refine WR.forP 3 (fun v => [.l (dF ([potF 0,potF 1,potF 2].take v)),.i v]) (fun _ => True) rfl rfl trivial fun v hv _ => ?_
  refine WR.iteLt v 3 rfl (fun h3 => ?_) (fun h3 => ?_)
  · refine WR.ev (ev_iPot v (by omega) (by omega)) rfl rfl rfl ?_
    refine WR.fl (flats_dL _) (WR.fl (flats_dL _) ?_)
    have hn : [potF 0,potF 1,potF 2][v]? = some (potF (v : Int).toNat) := by
      rw [Int.toNat_natCast]
      match v,h3 with
      | 0,_ | 1,_ | 2,_ => rfl
      | n + 3,h => omega
    refine WR.chkApp (dF ([potF 0,potF 1,potF 2].take v)) 1000 (by rw [dF_len]; simp; omega) (by omega) rfl ?_
    refine WR.nextA (vs := [.l (dF ([potF 0,potF 1,potF 2].take (v + 1))),.i ((v + 1 : Nat) : Int)]) ?_ ⟨h3,rfl,trivial⟩
    show [V.l (dF ([potF 0,potF 1,potF 2].take v) ++ [(potF (v : Int).toNat).g]),V.i (IntKind.i64.wrap ((v : Int) + 1))] = _
    rw [dF_snoc,tS1 hn,wS h3 (by omega)]
  · have hv3 : v = 3 := by omega
    subst hv3
    refine WR.esc ?_
    have hw := rows_len act
    rw [rowsOf,if_pos h] at hw
    have e := ev_walk (actOk_good h) act.length 0 [potF 0,potF 1,potF 2] [] [] [] 0 (by omega) (by omega) (by simp) (by omega) (by omega) rfl hpp (by simp) (by simp) (by simp) (by simp) (by
      show 0 + (walk (act.drop (0 : Int).toNat) _ [] []).length ≤ 1000
      rw [show (0 : Int).toNat = 0 from rfl,List.drop_zero]; omega)
    refine WR.ev e rfl rfl rfl (WR.done ?_)
    show [D.s (dRows ([] ++ walk (act.drop (0 : Int).toNat) [potF 0,potF 1,potF 2] [] []))] = _
    simp [rowsOf,h]
end Go.Proofs.YtgiejmanbmeloaaGreatDoor
/- What draws of any acts come to,and the comparisons of rows. -/
namespace Go.Proofs.YtgiejmanbmeloaaGreatDoor
open Go Go.Tm
def slimF (f : Frm) : Prop := f.c.length ≤ 3 ∧ f.d.length ≤ 3
def thinA (a : List Line) : Prop := a.length ≤ 7 ∧ ∀ l ∈ a,slimF l.f
theorem thinA.fit {a : List Line} (h : thinA a) : fitAct a := ⟨by have := h.1; omega,fun l hl => ⟨by have := (h.2 l hl).1; omega,by have := (h.2 l hl).2; omega⟩⟩
theorem thinA.set {a : List Line} (h : thinA a) {x : Line} (hx : slimF x.f) (k : Nat) : thinA (a.set k x) := by
  refine ⟨by simp; exact h.1,fun l hl => ?_⟩
  rcases List.mem_or_eq_of_mem_set hl with hl | hl
  · exact h.2 l hl
  · subst hl; exact hx
end Go.Proofs.YtgiejmanbmeloaaGreatDoor
/- Each way is ok,and there are at most two for each test: over residual programs. -/
namespace Go.Proofs.YtgiejmanbmeloaaGreatDoor
open Go Go.Tm
def sameCR (g : FuncId) (sh : Sh) (as : List E) (k1 k2 : Nat) : R :=
  .ite (.not (.cmp .eq (.len (.v 0)) (.len (.v 1))))
   (
    .done [(.vb .ff)])
   (
    .loop 2 [(.z 0)] <|
      .ite (.cmp .lt (.v 2) (.len (.v 0)))
       (
        .i (.idx (.v 0) (.v 2) sh 3) <|
        .i (.idx (.v 1) (.v 2) sh k1) <|
        .i (.call g as [.b] k2) <|
        .ite (.not (.v k2))
         (
          .esc <|
          .done [(.vb .ff)])
         (
          .next [(.bin .add .i64 (.v 2) (.z 1))]))
       (
        .esc <|
        .done [(.vb .tt)]))
theorem ev_sameC {α : Type} [DecidableEq α] {f g : FuncId} {H : Hint} {s : Sig} {sh : Sh} {as : List E} {k1 k2 : Nat} (enc : α → D) (vsOf : α → List V) (args : α → List D) (a b : List α) (hf : L.lookup f = some ⟨s,.r H (sameCR g sh as k1 k2)⟩) (hs : insOf s = [.s,.s])
    (hb : ∀ x,bindSh sh (enc x) = some (vsOf x)) (hk1 : ∀ x,3 + (vsOf x).length = k1) (hk2 : ∀ x,k1 + (vsOf x).length = k2)
    (ha : ∀ (v0 v1 v2 : V) (x y : α),as.map (dat (envL ([v0,v1,v2] ++ vsOf x ++ vsOf y))) = args x ++ args y)
    (hc : ∀ x ∈ a,∀ y,Ev L g (args x ++ args y) [dB (decide (x = y))]) (hl : a.length ≤ 2000000) :
    Ev L f [.s (a.map enc),.s (b.map enc)] [dB (decide (a = b))] := by
  refine Ev.eq (vs := [.l (a.map enc),.l (b.map enc)]) hf (by rw [hs]; rfl) ?_
  refine WR.iteP (¬ a.length = b.length) ?_ (fun h => WR.done ?_) (fun h => ?_)
  · show (!(decide (((a.map enc).length : Int) = ((b.map enc).length : Int)))) = _
    rw [List.length_map,List.length_map]
    by_cases h : a.length = b.length
    · simp [h]
    · simp [h,show ¬ (a.length : Int) = b.length by omega]
  · show [dB false] = _
    rw [decide_eq_false]
    intro e; exact h (by rw [e])
  have h : a.length = b.length := Classical.not_not.1 h
  refine WR.forP a.length (fun i => [.i i]) (fun i => a.take i = b.take i) rfl rfl rfl fun i hi hp => ?_
  refine WR.iteLen i (List.length_map (f := enc) (as := a)) rfl (fun h' => ?_) (fun h' => ?_)
  · obtain ⟨x,hx,hmx⟩ := sA1 h'
    obtain ⟨y,hy,_⟩ := sA1 (show i < b.length by omega)
    have k1x := hk1 x
    have k1y := hk1 y
    have k2x := hk2 x
    refine WR.idxN i (mA1 (f := enc) hx) rfl rfl rfl (hb x) ?_
    refine WR.idxN i (mA1 (f := enc) hy) (by simp; omega) rfl rfl (hb y) ?_
    refine WR.call (ds := [dB (decide (x = y))]) (vs := [.b (decide (x = y))]) (by simp; omega) (by
      show Ev L g (as.map (dat (envL ([V.l (a.map enc),.l (b.map enc),.i i] ++ vsOf x ++ vsOf y)))) _
      rw [ha]; exact hc x hmx y) rfl ?_
    have e1 : ∀ (t : V),envL ([V.l (a.map enc),.l (b.map enc),.i i] ++ vsOf x ++ vsOf y ++ [t]) k2 = t := by
      intro t
      unfold envL
      rw [List.getD_eq_getElem?_getD,List.getElem?_append_right (by simp; omega)]
      rw [show k2 - ([V.l (a.map enc),.l (b.map enc),.i i] ++ vsOf x ++ vsOf y).length = 0 by simp; omega]; rfl
    refine WR.iteN (decide (x = y)) (by show (!(den (envL ([V.l (a.map enc),.l (b.map enc),.i i] ++ vsOf x ++ vsOf y ++ [V.b (decide (x = y))])) (.v k2)).bool) = _; simp only [den,e1]; rfl) (fun hxy => WR.esc (WR.done ?_)) (fun hxy => ?_)
    · show [dB false] = _
      rw [decide_eq_false]
      intro e
      subst e
      rw [hx] at hy
      simp only [Option.some.injEq] at hy
      simp [hy] at hxy
    · have hxy : x = y := by simpa using hxy
      subst hxy
      refine WR.nextA (vs := [.i ((i + 1 : Nat) : Int)]) ?_ ⟨h',rfl,by show a.take (i + 1) = b.take (i + 1); rw [tS1 hx,tS1 hy,hp]⟩
      show [V.i (IntKind.i64.wrap ((i : Int) + 1))] = _
      rw [wS h' (by omega)]
  · refine WR.esc (WR.done ?_)
    rw [tA1 h',tA1 (by omega)] at hp
    subst hp
    show [dB true] = _
    simp
theorem ev_grow (n : Int) (h0 : 0 ≤ n) (hn : n ≤ 2000000) : Ev L f_k39 [dI n] [.s []] := by
  refine Ev.eq (vs := [.i n]) L_k39 rfl ?_
  have hw : IntKind.i64.wrap (n - IntKind.i64.wrap (0 - 0)) = n := by rw [w64 (n := 0 - 0) (by omega) (by omega),w64 (by omega) (by omega)]; omega
  refine WR.iteP (n < 0) rfl (fun h => by omega) (fun _ => ?_)
  refine WR.iteP (0 < n) (by show decide (0 < IntKind.i64.wrap (n - IntKind.i64.wrap (0 - 0))) = _; rw [hw]) (fun h => ?_) (fun h => WR.done rfl)
  refine WR.chkP (0 < n) (by show decide (0 < IntKind.i64.wrap (n - IntKind.i64.wrap (0 - 0))) = _; rw [hw]) h ?_
  refine WR.chkP (n ≤ 1256584717458) (by show decide (IntKind.i64.wrap (n - IntKind.i64.wrap (0 - 0)) ≤ 1256584717458) = _; rw [hw]) (by omega) ?_
  refine WR.chk ?_ (WR.done ?_)
  · show decide ((0 : Int) ≤ ((List.replicate (IntKind.i64.wrap (n - IntKind.i64.wrap (0 - 0))).toNat (D.g [.s [],.s [],dI 0])).length : Int)) = true
    simp only [decide_eq_true_eq]; omega
  · show [D.s ((List.replicate (IntKind.i64.wrap (n - IntKind.i64.wrap (0 - 0))).toNat (D.g [.s [],.s [],dI 0])).take (0 : Int).toNat)] = _
    simp
def dFF (ls : List (List Frm)) : List D := ls.map fun l => .s (dF l)
theorem dFF_len (ls : List (List Frm)) : (dFF ls).length = ls.length := by simp [dFF]
theorem dF_app (a b : List Frm) : dF a ++ dF b = dF (a ++ b) := by simp [dF]
def lens (ls : List (List Frm)) : Nat := (ls.map List.length).sum
theorem lens_take {ls : List (List Frm)} {i : Nat} {l : List Frm} (h : ls[i]? = some l) : lens (ls.take (i + 1)) = lens (ls.take i) + l.length := by
  unfold lens
  rw [tS1 h]; simp
theorem lens_flat (ls : List (List Frm)) : ls.flatten.length = lens ls := by simp [lens,List.length_flatten]
theorem lens_le {ls : List (List Frm)} {N : Nat} (h : ∀ l ∈ ls,l.length ≤ N) (i : Nat) : lens (ls.take i) ≤ N * ls.length := by
  have : ∀ (ls : List (List Frm)),(∀ l ∈ ls,l.length ≤ N) → lens ls ≤ N * ls.length := by
    intro ls
    induction ls with
    | nil => intro _; simp [lens]
    | cons l ls ih =>
      intro h
      have h1 := h l (by simp)
      have h2 := ih fun x hx => h x (by simp [hx])
      simp only [lens,List.map_cons,List.sum_cons,List.length_cons,Nat.mul_add] at *
      omega
  have h1 := this (ls.take i) fun l hl => h l (List.mem_of_mem_take hl)
  refine Nat.le_trans h1 (Nat.mul_le_mul_left _ (by simp; omega))
theorem ev_concat (ls : List (List Frm)) (hl : ls.length ≤ 100) (h1 : ∀ l ∈ ls,l.length ≤ 1000) : Ev L f_k3a [.s (dFF ls)] [.s (dF ls.flatten)] := by
  refine Ev.eq (vs := [.l (dFF ls)]) L_k3a rfl ?_
  have hle : ∀ i,lens (ls.take i) ≤ 100000 := fun i => Nat.le_trans (lens_le h1 i) (by omega)
  refine WR.forP ls.length (fun i => [.i (lens (ls.take i)),.i i]) (fun _ => True) rfl rfl trivial fun i hi _ => ?_
  have hli := hle i
  refine WR.iteLen i (dFF_len ls) rfl (fun h => ?_) (fun h => ?_)
  · obtain ⟨x,hx,hm⟩ := sA1 h
    have hxl := h1 x hm
    refine WR.idxN i (mA1 (f := fun l => .s (dF l)) hx) rfl rfl rfl rfl ?_
    have hw : IntKind.i64.wrap ((lens (ls.take i) : Int) + ((dF x).length : Int)) = (lens (ls.take (i + 1)) : Int) := by
      rw [dF_len,lens_take hx,w64 (by omega) (by omega)]; rfl
    refine WR.iteP (((lens (ls.take (i + 1)) : Int)) < 0) (by show decide (IntKind.i64.wrap ((lens (ls.take i) : Int) + ((dF x).length : Int)) < 0) = _; rw [hw]) (fun h => by omega) (fun _ => ?_)
    refine WR.nextA (vs := [.i (lens (ls.take (i + 1))),.i ((i + 1 : Nat) : Int)]) ?_ ⟨h,rfl,trivial⟩
    show [V.i (IntKind.i64.wrap ((lens (ls.take i) : Int) + ((dF x).length : Int))),V.i (IntKind.i64.wrap ((i : Int) + 1))] = _
    rw [wS h (by omega),hw]
  · refine WR.esc ?_
    refine WR.ev (ev_grow (lens (ls.take i)) (by omega) (by omega)) rfl rfl rfl ?_
    simp only [sC,sN]
    refine WR.forP ls.length (fun j => [.l (dF (ls.take j).flatten),.i j]) (fun _ => True) rfl rfl trivial fun j hj _ => ?_
    simp only [sC,sN]
    refine WR.iteLen j (dFF_len ls) rfl (fun h => ?_) (fun h => ?_)
    · obtain ⟨x,hx,hm⟩ := sA1 h
      have hxl := h1 x hm
      have hlj := hle j
      refine WR.idxN j (mA1 (f := fun l => .s (dF l)) hx) rfl rfl rfl rfl ?_
      refine WR.chkN (dF x) 1000 (by rw [dF_len]; exact hxl) (by omega) rfl ?_
      refine WR.head (head_dF x) ?_
      refine WR.chkN (dF (ls.take j).flatten ++ dF x) 2000000 (by rw [List.length_append,dF_len,dF_len,lens_flat]; omega) (by omega) rfl ?_
      refine WR.nextA (vs := [.l (dF (ls.take (j + 1)).flatten),.i ((j + 1 : Nat) : Int)]) ?_ ⟨h,rfl,trivial⟩
      show [V.l (dF (ls.take j).flatten ++ dF x),V.i (IntKind.i64.wrap ((j : Int) + 1))] = _
      rw [wS h (by omega),dF_app,tS1 hx]; simp
    · refine WR.esc (WR.done ?_)
      show [D.s (dF (ls.take j).flatten)] = _
      rw [tA1 h]
end Go.Proofs.YtgiejmanbmeloaaGreatDoor
/- What an act does not turn stays: over residual programs. -/
namespace Go.Proofs.YtgiejmanbmeloaaGreatDoor
open Go Go.Tm
structure AtFit (f : Frm) (v w : List Int) : Prop where
  c : f.c.length = 3
  d : f.d.length = 2
  v3 : v.length = 3
  w2 : w.length = 2
  a : ∃ A B : Int,0 ≤ A ∧ 0 ≤ B ∧ A * B ≤ 1000000000000000 ∧ Lim A f.c ∧ Lim A f.d ∧ Lim B v ∧ Lim B w ∧ -1000000000000000 ≤ f.k ∧ f.k ≤ 1000000000000000
theorem AtFit.sums {f : Frm} {v w : List Int} (h : AtFit f v w) : (-3000000000000000 ≤ dot f.c v ∧ dot f.c v ≤ 3000000000000000) ∧ (-2000000000000000 ≤ dot f.d w ∧ dot f.d w ≤ 2000000000000000) ∧ -1000000000000000 ≤ f.k ∧ f.k ≤ 1000000000000000 := by
  obtain ⟨A,B,hA,hB,hAB,h1,h2,h3,h4,h5⟩ := h.a
  have a := dot_lim h1 h3 hA hB
  have b := dot_lim h2 h4 hA hB
  rw [h.c] at a
  rw [h.d] at b
  exact ⟨by omega,by omega,h5⟩
theorem argOk_iff {l : List Int} : argOk l = true ↔ l.length = 2 ∧ Lim 9 l := by
  unfold argOk
  rw [allIn_iff]
  exact ⟨fun h => ⟨by omega,h.2⟩,fun h => ⟨by omega,h.2⟩⟩
theorem AtFit.small {f : Frm} {x w : List Int} (hf : f.small = true) (hx : x.length = 3) (hl : Lim 2000000000 x) (hw : argOk w = true) : AtFit f x w := by
  obtain ⟨h1,h2,h3,h4,h5⟩ := small_std hf
  obtain ⟨w1,w2⟩ := argOk_iff.1 hw
  exact ⟨h1,h2,hx,w1,2,2000000000,by omega,by omega,by omega,h3,h4,hl,w2.mono (by omega),by omega⟩
def Res.ds (r : Res) : List D := [dI r.code,.s (dL r.tells),.s (dL r.is)]
theorem ev_pots (h : Row → Nat → Bool) (as : List (List Line)) (hf : fitActs as) {fn : FuncId} {caps : List D} (hcap : oneOf (.f fn caps) = .f fn caps) (har : arT L fn = some ([some 4,none] ++ caps.map fun _ => none))
    (hc : ∀ r,RowFit r → ∀ v : Nat,v < 3 → Ev L fn (r.cells ++ [dI v] ++ caps.map D.norm) [dB (h r v)]) : Ev L f_k38 [.s (dActs as),.f fn caps] [.s (dBl (potsM h as))] := by
  have hl := hf.1
  refine Ev.eq (vs := [.l (dActs as),.d (.f fn caps)]) L_k38 rfl ?_
  refine WR.forS as.length (fun i vs => ∃ p : List Bool,vs = [.l (dBl p),.i i] ∧ p.length = 3 ∧ p = potsM h (as.take i)) rfl ⟨[false,false,false],rfl,rfl,rfl⟩ ?_
  rintro i _ hi ⟨p,rfl,hp,hpe⟩
  simp only [sC,sN]
  refine WR.iteLen i (dActs_len as) rfl (fun h' => ?_) (fun h' => ?_)
  · obtain ⟨a,ha,hm⟩ := sA1 h'
    have hB : potsM h (as.take (i + 1)) = (rowsOf a).foldl (fun p r => orB p (h r)) p := by rw [hpe]; exact foldl_take ha
    refine WR.idxN i (mA1 (f := fun a => .s (dAct a)) ha) rfl rfl rfl rfl ?_
    refine WR.ev (ev_iRowsOf a (hf.2 a hm)) rfl rfl rfl ?_
    have hrf : ∀ r ∈ rowsOf a,RowFit r := rows_fit
    have hrl := rows_len a
    generalize rowsOf a = rs at *
    refine WR.forS rs.length (fun k vs => ∃ q : List Bool,vs = [.l (dBl q),.i k] ∧ q.length = 3 ∧ q = (rs.take k).foldl (fun p r => orB p (h r)) p) rfl ⟨p,rfl,hp,rfl⟩ ?_
    rintro k _ hk ⟨q,rfl,hq,hqe⟩
    simp only [sC,sN]
    refine WR.iteLen k (dRows_len rs) rfl (fun h'' => ?_) (fun h'' => ?_)
    · obtain ⟨r,hr,hmr⟩ := sA1 h''
      have hfit := hrf r hmr
      have hC : (rs.take (k + 1)).foldl (fun p r => orB p (h r)) p = orB q (h r) := by rw [hqe]; exact foldl_take hr
      refine WR.atN k (rdR hr) rfl rfl rfl rfl rfl rfl ?_
      have hO : (orB q (h r)).length = 3 := by rw [orB_len]; exact hq
      refine WR.forP 3 (fun v => [.l (dBl ((orB q (h r)).take v ++ q.drop v)),.i v]) (fun _ => True) rfl rfl trivial fun v hv _ => ?_
      simp only [sC,sN]
      refine WR.iteLen v (show (dBl q).length = 3 by rw [dBl_len]; exact hq) rfl (fun hv3 => ?_) (fun hv3 => ?_)
      · obtain ⟨b,hb,_⟩ := sA1 (show v < q.length by omega)
        have ho := orB_at (h := h r) hb
        have hcur : ((orB q (h r)).take v ++ q.drop v)[v]? = some b := by
          rw [List.getElem?_append_right (by simp; omega),List.getElem?_drop]
          rw [show v + (v - ((orB q (h r)).take v).length) = v by simp; omega]; exact hb
        have nx : ∀ c : Bool,c = (b || h r v) → [V.l ((dBl ((orB q (h r)).take v ++ q.drop v)).set (v : Int).toNat (dB c)),V.i (IntKind.i64.wrap ((v : Int) + 1))] = [.l (dBl ((orB q (h r)).take (v + 1) ++ q.drop (v + 1))),.i ((v + 1 : Nat) : Int)] := by
          intro c hc'
          rw [← hc'] at ho
          rw [wS hv3 (by omega),dBl_set,Int.toNat_natCast,fill' (by omega) ho]
        refine WR.atN v (mA1 (f := dB) hcur) rfl rfl rfl rfl rfl rfl ?_
        refine WR.iteB b rfl (fun hbt => ?_) (fun hbf => ?_)
        · refine WR.atN v (mA1 (f := dB) hcur) rfl rfl rfl rfl rfl rfl ?_
          exact WR.nextA (nx true (by simp [hbt])) ⟨hv3,rfl,trivial⟩
        · refine WR.callv (fn := fn) (caps := caps) (ds := [dB (h r v)]) (vs := [.b (h r v)]) rfl hcap har (hc r hfit v hv3) rfl ?_
          refine WR.atN v (mA1 (f := dB) hcur) rfl rfl rfl rfl rfl rfl ?_
          exact WR.nextA (nx (h r v) (by simp [hbf])) ⟨hv3,rfl,trivial⟩
      · have hv3 : v = 3 := by omega
        subst hv3
        rw [List.take_of_length_le (by omega),List.drop_eq_nil_of_le (by omega),List.append_nil]
        refine WR.esc (WR.nextA (vs := [.l (dBl (orB q (h r))),.i ((k + 1 : Nat) : Int)]) ?_ ⟨h'',orB q (h r),rfl,hO,hC.symm⟩)
        show [V.l (dBl (orB q (h r))),V.i (IntKind.i64.wrap ((k : Int) + 1))] = _
        rw [wS h'' (by omega)]
    · rw [tA1 h''] at hqe
      refine WR.esc (WR.nextA (vs := [.l (dBl q),.i ((i + 1 : Nat) : Int)]) ?_ ⟨h',q,rfl,hq,by rw [hB,hqe]⟩)
      show [V.l (dBl q),V.i (IntKind.i64.wrap ((i : Int) + 1))] = _
      rw [wS h' (by omega)]
  · refine WR.esc (WR.done ?_)
    show [D.s (dBl p)] = _
    rw [tA1 h'] at hpe
    rw [hpe]
end Go.Proofs.YtgiejmanbmeloaaGreatDoor
/- All is kept an eye on; who tells of a pot pins it; with an act more there is more: over residual programs. -/
namespace Go.Proofs.YtgiejmanbmeloaaGreatDoor
open Go Go.Tm
theorem ev_zeros_1 (x : Int) : Ev L f_k32 [dI x] [dB (nz x)] := Ev.eq (vs := [.i x]) L_k32 rfl (WR.done rfl)
theorem ev_zeros (l : List Int) (hl : l.length = 3) : Ev L f_k33 [.s (dL l)] [dB (decide (l = [0,0,0]))] := by
  refine Ev.eq (vs := [.l (dL l)]) L_k33 rfl ?_
  refine WR.ev (ev_hasInt nz l (fn := f_k32) (caps := []) (by omega) rfl rfl fun x _ => ev_zeros_1 x) rfl rfl rfl (WR.done ?_)
  show [dB (!(l.any nz))] = _
  obtain ⟨a,b,c,rfl⟩ := len3 hl
  congr 3
  by_cases h1 : a = 0 <;> by_cases h2 : b = 0 <;> by_cases h3 : c = 0 <;> simp [nz,h1,h2,h3]
theorem ev_CatPart_1 (x : Int) : Ev L f_k30 [dI x] [dB (nz x)] := Ev.eq (vs := [.i x]) L_k30 rfl (WR.done rfl)
theorem ev_iPart (f : Frm) (hl : Lim 1000000000 f.c) (hn : f.c.length ≤ 2000000) : Ev L f_k31 f.cells [.s (dL (partOf f.c))] := by
  refine Ev.eq (vs := [.l (dL f.c),.l (dL f.d),.i f.k]) L_k31 rfl ?_
  refine WR.ev (ev_clone1 f.c hn) rfl rfl rfl ?_
  refine WR.ev (ev_idxInt nz f.c (fn := f_k30) (caps := []) hn rfl rfl fun x _ => ev_CatPart_1 x) rfl rfl rfl ?_
  simp only [sC,sN]
  rcases place_cases nz f.c with ⟨hp,ha⟩ | ⟨i,x,hp,hx,hnx,ht⟩
  · rw [hp]
    refine WR.iteF rfl (WR.done ?_)
    show [D.s (dL f.c)] = _
    rw [sgn_none ha]
  rw [hp]
  have hi := (List.getElem?_eq_some_iff.1 hx).1
  have hs := sgn_some hx hnx ht
  have hx0 : x ≠ 0 := by simpa [nz] using hnx
  refine WR.iteP ((0 : Int) ≤ (i : Int)) rfl (fun _ => ?_) (fun h => by omega)
  refine WR.atN i (mA1 (f := dI) hx) rfl rfl rfl rfl rfl rfl ?_
  simp only [sC,sN]
  refine WR.iteP (x < 0) rfl (fun hneg => ?_) (fun hpos => WR.done ?_)
  · have hpart : partOf f.c = f.c.map fun y => 0 - y := by
      unfold partOf
      rw [hs,if_neg (by omega)]
      apply List.map_congr_left
      intro y _; omega
    rw [hpart]
    refine WR.forP f.c.length (fun k => [.l (dL ((f.c.map fun y => 0 - y).take k ++ f.c.drop k)),.i k]) (fun _ => True) rfl rfl trivial fun k hk _ => ?_
    simp only [sC,sN]
    refine WR.iteLen k (dL1 f.c) rfl (fun h => ?_) (fun h => ?_)
    · obtain ⟨y,hy,hm⟩ := sA1 h
      have hly := hl y hm
      have hcur : ((f.c.map fun y => 0 - y).take k ++ f.c.drop k)[k]? = some y := by
        rw [List.getElem?_append_right (by simp; omega),List.getElem?_drop]
        rw [show k + (k - ((f.c.map fun y => 0 - y).take k).length) = k by simp; omega]; exact hy
      have hny : (f.c.map fun y => 0 - y)[k]? = some (0 - y) := by simp [hy]
      refine WR.atN k (mA1 (f := dI) hcur) rfl rfl rfl rfl rfl rfl ?_
      refine WR.atN k (mA1 (f := dI) hcur) rfl rfl rfl rfl rfl rfl ?_
      refine WR.nextA (vs := [.l (dL ((f.c.map fun y => 0 - y).take (k + 1) ++ f.c.drop (k + 1))),.i ((k + 1 : Nat) : Int)]) ?_ ⟨h,rfl,trivial⟩
      show [V.l ((dL ((f.c.map fun y => 0 - y).take k ++ f.c.drop k)).set (k : Int).toNat (dI (IntKind.i64.wrap (0 - y)))),V.i (IntKind.i64.wrap ((k : Int) + 1))] = _
      rw [wS h (by omega),w64 (by omega) (by omega),dL_set,Int.toNat_natCast,fill' (by simp) hny]
    · refine WR.esc (WR.done ?_)
      show [D.s (dL ((f.c.map fun y => 0 - y).take k ++ f.c.drop k))] = _
      rw [List.take_of_length_le (by simp; omega),List.drop_eq_nil_of_le (by omega),List.append_nil]
  · show [D.s (dL f.c)] = _
    unfold partOf
    rw [hs,if_pos (by omega)]
    congr 3
    conv => lhs; rw [← List.map_id f.c]
    apply List.map_congr_left
    intro y _
    show y = 1 * y
    omega
theorem ev_CatHas_1 (q p : List Int) (hq : q.length ≤ 2000000) : Ev L f_k34 [.s (dL q),.q [.s (dL p)]] [dB (decide (q = p))] :=
  Ev.eq (vs := [.l (dL q),.d (.q [.s (dL p)])]) L_k34 rfl (WR.get (vs := [.l (dL p)]) rfl rfl (WR.ev (ev_equal q p hq) rfl rfl rfl (WR.done rfl)))
theorem ev_iHas (l : List (List Int)) (p : List Int) (hl : l.length ≤ 2000000) (hq : ∀ q ∈ l,q.length ≤ 2000000) : Ev L f_k36 [.s (dLL l),.s (dL p)] [dI (hasAt l p)] :=
  Ev.eq (vs := [.l (dLL l),.l (dL p)]) L_k36 rfl (WR.ev (ev_idxInts (fun q => decide (q = p)) l (fn := f_k34) (caps := [.q [.s (dL p)]]) hl rfl rfl fun q h => ev_CatHas_1 q p (hq q h)) rfl rfl rfl (WR.done rfl))
theorem ev_CatOk_1 (a : List Line) (ha : fitAct a) : Ev L f_k2d ([.s (dAct a)] ++ ([] : List D).map D.norm) [dB (!actOk a)] :=
  Ev.eq (vs := [.l (dAct a)]) L_k2d rfl (WR.ev (ev_iActOk a ha) rfl rfl rfl (WR.done rfl))
theorem ev_iCatOk (as : List (List Line)) (hf : fitActs as) : Ev L f_k2e [.s (dActs as)] [dB (catOk as)] := by
  have hl := hf.1
  refine Ev.eq (vs := [.l (dActs as)]) L_k2e rfl ?_
  refine WR.ev (ev_in as.length 1 4) rfl ?_ rfl ?_
  · show [dI ((dActs as).length : Int),dI 1,dI 4] = _
    rw [dActs_len]
  refine WR.iteB (inB as.length 1 4) rfl (fun h => ?_) (fun h => WR.done ?_)
  · have e : Ev L f_k23 [.s (dActs as),.f f_k2d []] [dB (as.any fun a => !actOk a)] :=
      ev_contains (g := f_k22) L_k23 rfl rfl
        (ev_idxFunc (sh := .one .s) (as := [(.s (.v 3))]) (ar := [none]) (k := 4) (caps := []) (fun a => .s (dAct a)) (fun a => !actOk a) (fun a => [.s (dAct a)]) (fun a => [.l (dAct a)]) as
          L_k22 rfl hl rfl (fun _ _ => rfl) (fun _ _ => rfl) (fun _ _ _ _ => rfl) rfl fun a ha => ev_CatOk_1 a (hf.2 a ha))
    refine WR.ev e rfl rfl rfl (WR.done ?_)
    show [dB (!(as.any fun a => !actOk a))] = _
    rw [not_any]; simp [catOk,h]
  · show [dB false] = _
    simp [catOk,h]
set_option maxHeartbeats 2000000 in
theorem ev_iForms (as : List (List Line)) (hf : fitActs as) : Ev L f_k37 [.s (dActs as)] [.s (dLL (catForms as))] := by
  refine Ev.eq (vs := [.l (dActs as)]) L_k37 rfl ?_
  refine WR.ev (ev_iCatOk as hf) rfl rfl rfl ?_
  refine WR.iteN (catOk as) rfl (fun h => WR.done ?_) (fun hok => ?_)
  · show [D.s []] = _
    simp [catForms,h,dLL]
  have h4 := (catOk_len hok).2.1
  have hcf : catForms as = (both as).1 := by simp [catForms,hok]
  rw [hcf]
  simp only [sC,sN]
  refine WR.forP 3 (fun v => [.l (dLL (pots0.take v)),.i v]) (fun _ => True) rfl rfl trivial fun v hv _ => ?_
  simp only [sC,sN]
  refine WR.iteLt v 3 rfl (fun hv3 => ?_) (fun hv3 => ?_)
  · refine WR.ev (ev_iPot v (by omega) (by omega)) rfl rfl rfl ?_
    refine WR.fl (flats_dL _) ?_
    have hp : pots0[v]? = some (potF (v : Int).toNat).c := by
      rw [Int.toNat_natCast]
      match v,hv3 with
      | 0,_ | 1,_ | 2,_ => rfl
      | n + 3,h => omega
    refine WR.chkApp (dLL (pots0.take v)) 3 (by rw [dLL_len]; simp; omega) (by omega) rfl ?_
    refine WR.nextA (vs := [.l (dLL (pots0.take (v + 1))),.i ((v + 1 : Nat) : Int)]) ?_ ⟨hv3,rfl,trivial⟩
    show [V.l (dLL (pots0.take v) ++ [.s (dL (potF (v : Int).toNat).c)]),V.i (IntKind.i64.wrap ((v : Int) + 1))] = _
    rw [wS hv3 (by omega),dLL_snoc,tS1 hp]
  have hv3 : v = 3 := by omega
  subst hv3
  refine WR.esc ?_
  refine WR.forS as.length (fun i vs => ∃ b : List (List Int) × List Bool,vs = [.l (dLL b.1),.i i] ∧ b = both (as.take i)) rfl ⟨(pots0,[false,false,false]),rfl,rfl⟩ ?_
  rintro i _ hi ⟨⟨b1,b2⟩,rfl,hb⟩
  simp only [sC,sN]
  refine WR.iteLen i (dActs_len as) rfl (fun h => ?_) (fun h => ?_)
  · obtain ⟨a,ha,hm⟩ := sA1 h
    have hB : both (as.take (i + 1)) = actBoth (b1,b2) a := by rw [hb]; exact foldl_take ha
    obtain ⟨f1,f2⟩ := both_fit (as.take i)
    rw [← hb] at f1 f2
    have f1 := f1.mono (show 3 + 384 * (as.take i).length ≤ 1600 by simp; omega)
    have hrl := rows_len a
    refine WR.idxN i (mA1 (f := fun a => .s (dAct a)) ha) rfl rfl rfl rfl ?_
    refine WR.ev (ev_iRowsOf a (hf.2 a hm)) rfl rfl rfl ?_
    have hrf : ∀ r ∈ rowsOf a,RowFit r := rows_fit
    have hAB : actBoth (b1,b2) a = (rowsOf a).foldl rowBoth (b1,b2) := rfl
    generalize rowsOf a = rs at *
    refine WR.forS rs.length (fun k vs => ∃ c : List (List Int) × List Bool,vs = [.l (dLL c.1),.i k] ∧ c = (rs.take k).foldl rowBoth (b1,b2)) rfl ⟨(b1,b2),rfl,rfl⟩ ?_
    rintro k _ hk ⟨⟨c1,c2⟩,rfl,hc⟩
    simp only [sC,sN]
    refine WR.iteLen k (dRows_len rs) rfl (fun h' => ?_) (fun h' => ?_)
    · obtain ⟨r,hr,hmr⟩ := sA1 h'
      have hfit := hrf r hmr
      have hC : (rs.take (k + 1)).foldl rowBoth (b1,b2) = rowBoth (c1,c2) r := by rw [hc]; exact foldl_take hr
      obtain ⟨g1,g2⟩ := f1.rows f2 (rs := rs.take k) fun x hx => hrf x (List.mem_of_mem_take hx)
      rw [← hc] at g1 g2
      have g1 := g1.mono (show 1600 + 6 * (rs.take k).length ≤ 2000 by simp; omega)
      refine WR.atN k (rdR hr) rfl rfl rfl rfl rfl rfl ?_
      simp only [sC,sN]
      have hR : rowBoth (c1,c2) r = (r.guards.foldl addPart c1,readsL (readsL c2 r.adds) r.tells) := rfl
      have hgl := hfit.gl
      refine WR.forS r.guards.length (fun g vs => ∃ e : List (List Int),vs = [.l (dLL e),.i g] ∧ e = (r.guards.take g).foldl addPart c1) rfl ⟨c1,rfl,rfl⟩ ?_
      rintro g _ hg ⟨e,rfl,he⟩
      simp only [sC,sN]
      refine WR.iteLen g (dF_len r.guards) rfl (fun hg' => ?_) (fun hg' => ?_)
      · obtain ⟨f,hfg,hmf⟩ := sA1 hg'
        have hsf := hfit.g f hmf
        have hE : (r.guards.take (g + 1)).foldl addPart c1 = addPart e f := by rw [he]; exact foldl_take hfg
        have e1 := (g1.adds (fs := r.guards.take g) fun x hx => hfit.g x (List.mem_of_mem_take hx)).mono (show 2000 + (r.guards.take g).length ≤ 2010 by simp; omega)
        rw [← he] at e1
        have nx : ∀ (x : List (List Int)),x = addPart e f → [V.l (dLL x),V.i (IntKind.i64.wrap ((g : Int) + 1))] = [.l (dLL (addPart e f)),.i ((g + 1 : Nat) : Int)] := by
          intro x hx; rw [hx,wS hg' (by omega)]
        refine WR.idxN g (mA1 (f := Frm.g) hfg) rfl rfl rfl rfl ?_
        refine WR.ev (ev_iPart f (hsf.lc.mono (by omega)) (by rw [hsf.c]; omega)) rfl rfl rfl ?_
        simp only [sC,sN]
        have el := e1.len
        have hp3 : (partOf f.c).length = 3 := by rw [part_len]; exact hsf.c
        have hAP : addPart e f = if hasAt e (partOf f.c) < 0 ∧ partOf f.c ≠ [0,0,0] then e ++ [partOf f.c] else e := rfl
        generalize partOf f.c = pt at *
        refine WR.ev (ev_zeros pt hp3) rfl rfl rfl ?_
        refine WR.iteN (decide (pt = [0,0,0])) rfl (fun hz => ?_) (fun hz => ?_)
        · refine WR.ev (ev_iHas e pt (by omega) (fun q hq => by rw [(e1.each q hq).1]; omega)) rfl rfl rfl ?_
          generalize hasAt e pt = ha at *
          refine WR.iteP (ha < 0) rfl (fun h0 => ?_) (fun h0 => ?_)
          · refine WR.fl (flats_dL _) ?_
            refine WR.chkApp (dLL e) 3000 (by rw [dLL_len]; omega) (by omega) rfl ?_
            refine WR.nextA (vs := [.l (dLL (addPart e f)),.i ((g + 1 : Nat) : Int)]) ?_ ⟨hg',addPart e f,rfl,hE.symm⟩
            show [V.l (dLL e ++ [.s (dL pt)]),V.i (IntKind.i64.wrap ((g : Int) + 1))] = _
            rw [dLL_snoc]
            refine nx _ ?_
            rw [hAP,if_pos ⟨h0,by simpa using hz⟩]
          · refine WR.nextA (nx e ?_) ⟨hg',addPart e f,rfl,hE.symm⟩
            rw [hAP,if_neg]
            intro ⟨h,_⟩
            exact h0 h
        · refine WR.nextA (nx e ?_) ⟨hg',addPart e f,rfl,hE.symm⟩
          rw [hAP,if_neg]
          intro ⟨_,h⟩
          exact h (by simpa using hz)
      · refine WR.esc ?_
        rw [tA1 hg'] at he
        refine WR.nextA (vs := [.l (dLL e),.i ((k + 1 : Nat) : Int)]) ?_ ⟨h',(e,(rowBoth (c1,c2) r).2),rfl,by rw [hC,he]; rfl⟩
        show [V.l (dLL e),V.i (IntKind.i64.wrap ((k : Int) + 1))] = _
        rw [wS h' (by omega)]
    · refine WR.esc ?_
      rw [tA1 h'] at hc
      refine WR.nextA (vs := [.l (dLL c1),.i ((i + 1 : Nat) : Int)]) ?_ ⟨h,(c1,c2),rfl,by rw [hB,hAB,hc]⟩
      show [V.l (dLL c1),V.i (IntKind.i64.wrap ((i : Int) + 1))] = _
      rw [wS h (by omega)]
  · refine WR.esc (WR.done ?_)
    show [D.s (dLL b1)] = _
    rw [tA1 h] at hb
    rw [← hb]
def thinAs (as : List (List Line)) : Prop := as.length ≤ 5 ∧ ∀ a ∈ as,thinA a
theorem thinAs.fit {as : List (List Line)} (h : thinAs as) : fitActs as := ⟨by have := h.1; omega,fun a ha => (h.2 a ha).fit⟩
theorem ev_reads_1 (f : Frm) (hf : f.c.length = 3) (v : Nat) (hv : v < 3) : Ev L f_k3b (f.cells ++ [D.q [dI v]].map D.norm) [dB (decide (f.c.getD v 0 ≠ 0))] := by
  refine Ev.eq (vs := [.l (dL f.c),.l (dL f.d),.i f.k,.d (.q [dI v])]) L_k3b rfl ?_
  refine WR.get (vs := [.i v]) rfl rfl ?_
  refine WR.idxN v (mA1 (f := dI) (at_getD (by omega))) rfl rfl rfl rfl (WR.done ?_)
  show [dB (!(decide (f.c.getD v 0 = 0)))] = _
  simp
theorem ev_reads (r : Row) (hr : RowFit r) (v : Nat) (hv : v < 3) : Ev L f_k3c (r.cells ++ [dI v] ++ ([] : List D).map D.norm) [dB (readsM r v)] := by
  refine Ev.eq (vs := [.l (dF r.guards),.l (dF r.adds),.l (dF r.tells),.b r.stop,.i v]) L_k3c rfl ?_
  have ha := hr.al
  have ht := hr.tl
  refine WR.ev (ev_concat [r.adds,r.tells] (by simp) (by simp; omega)) rfl rfl rfl ?_
  have hfl : [r.adds,r.tells].flatten = r.adds ++ r.tells := by simp
  rw [hfl]
  have h3 : ∀ f ∈ r.adds ++ r.tells,f.c.length = 3 := by
    intro f hf
    rcases List.mem_append.1 hf with hf | hf
    · exact (hr.a f hf).c
    · exact (hr.t f hf).c
  have hlen : (r.adds ++ r.tells).length ≤ 2000000 := by simp; omega
  unfold readsM
  generalize r.adds ++ r.tells = all at *
  exact WR.ev (ev_hasFrm (fun f => decide (f.c.getD v 0 ≠ 0)) all (fn := f_k3b) (caps := [.q [dI v]]) hlen rfl rfl fun f hf => ev_reads_1 f (h3 f hf) v hv) rfl rfl rfl (WR.done rfl)
theorem ev_iPins (as : List (List Line)) (hf : fitActs as) : Ev L f_k3d [.s (dActs as)] [.s (dBl (catPins as))] := by
  refine Ev.eq (vs := [.l (dActs as)]) L_k3d rfl ?_
  refine WR.ev (ev_iCatOk as hf) rfl rfl rfl ?_
  refine WR.iteN (catOk as) rfl (fun h => WR.done ?_) (fun h => ?_)
  · show [D.s []] = _
    simp [catPins,h,dBl]
  · refine WR.ev (ev_pots readsM as hf (fn := f_k3c) (caps := []) rfl rfl fun r hr v hv => ev_reads r hr v hv) rfl rfl rfl (WR.done ?_)
    show [D.s (dBl (potsM readsM as))] = _
    rw [catPins_eq h]
end Go.Proofs.YtgiejmanbmeloaaGreatDoor
/- There is one way,and it is the act; what an act does not read turns no answer; with an act more there is more: over residual programs. -/
namespace Go.Proofs.YtgiejmanbmeloaaGreatDoor
open Go Go.Tm
theorem sArgOk (l : List Int) (hl : l.length ≤ 2000000) : Ev L f_k1q [.s (dL l)] [dB (argOk l)] :=
  Ev.eq (vs := [.l (dL l)]) L_k1q rfl (WR.ev (ev_l1All l 2 9 hl (by omega) (by omega)) rfl rfl rfl (WR.done rfl))
end Go.Proofs.YtgiejmanbmeloaaGreatDoor
/- What one site knows is so for all; who is alone knows all: over residual programs. -/
namespace Go.Proofs.YtgiejmanbmeloaaGreatDoor
open Go Go.Tm
end Go.Proofs.YtgiejmanbmeloaaGreatDoor
/- What a site does alone: over residual programs. -/
namespace Go.Proofs.YtgiejmanbmeloaaGreatDoor
open Go Go.Tm
theorem WR.cp {l : List V} {Q : Oc → Prop} {r : R} {c : Nat} {N : Int} (x : List Int) (hx : x.length ≤ 1000) (hN : 1000 ≤ N) (he : lst (envL l) (.v c) = dL x) (h : WR L r l Q) :
    WR L (.i (.chk (.cmp .le (.len (.v c)) (.z N))) (.i (.head 1 (.v c)) (.i (.chk (.cmp .le (.len (.app .nil (.v c))) (.z N))) r))) l Q :=
  WR.chkN (dL x) 1000 (by rw [dL1]; omega) hN he (WR.head (by rw [he]; exact head_dL x) (WR.chkN (dL x) 1000 (by rw [dL1]; omega) hN he h))
theorem still_step {pins : List Bool} {a : List Int} {i : Nat} {x : Int} {b : Bool} (hx : a[i]? = some x) (hb : pins[i]? = some b) : (a.zip pins)[i]? = some (x,b) := by
  rw [List.getElem?_zip_eq_some]; exact ⟨hx,hb⟩
theorem ev_unpinned (as : List (List Line)) (ps : List (List Int)) (pins : List Bool) (a : List Int) (hp : pins.length = 3) (ha : a.length = 3) : Ev L f_k40 [.s (dActs as),.s (dLL ps),.s (dBl pins),.s (dL a)] [dB (stillM pins a)] := by
  refine Ev.eq (vs := [.l (dActs as),.l (dLL ps),.l (dBl pins),.l (dL a)]) L_k40 rfl ?_
  refine WR.forP a.length (fun i => [.i i]) (fun i => ((a.zip pins).take i).all (fun q => !(q.2 && !decide (q.1 = 0))) = true) rfl rfl rfl fun i hi hq => ?_
  simp only [sC,sN]
  refine WR.iteLen i (dL1 a) rfl (fun h => ?_) (fun h => ?_)
  · obtain ⟨x,hx,_⟩ := sA1 h
    obtain ⟨b,hb,_⟩ := sA1 (show i < pins.length by omega)
    have hz := still_step hx hb
    refine WR.idxN i (mA1 (f := dI) hx) rfl rfl rfl rfl ?_
    refine WR.iteN (decide (x = 0)) rfl (fun h0 => ?_) (fun h0 => ?_)
    · refine WR.idxN i (mA1 (f := dB) hb) rfl rfl rfl rfl ?_
      refine WR.iteB b rfl (fun hb1 => WR.esc (WR.done ?_)) (fun hb1 => ?_)
      · show [dB false] = _
        unfold stillM
        rw [all_not hz (by simp only [h0,hb1]; rfl)]
      · refine WR.nextA (vs := [.i ((i + 1 : Nat) : Int)]) ?_ ⟨h,rfl,all_take hz hq (by simp only [hb1]; rfl)⟩
        show [V.i (IntKind.i64.wrap ((i : Int) + 1))] = _
        rw [wS h (by omega)]
    · refine WR.nextA (vs := [.i ((i + 1 : Nat) : Int)]) ?_ ⟨h,rfl,all_take hz hq (by simp only [h0]; simp)⟩
      show [V.i (IntKind.i64.wrap ((i : Int) + 1))] = _
      rw [wS h (by omega)]
  · refine WR.esc (WR.done ?_)
    rw [List.take_of_length_le (by simp; omega)] at hq
    unfold stillM
    rw [hq]; rfl
theorem ev_l5Still (pins : List Bool) (a : List Int) (hp : pins.length = 3) (ha : a.length = 3) : Ev L f_k1n [.s (dBl pins),.s (dL a)] [dB (stillM pins a)] := by
  refine Ev.eq (vs := [.l (dBl pins),.l (dL a)]) L_k1n rfl ?_
  refine WR.forP 3 (fun i => [.i i]) (fun i => ((a.zip pins).take i).all (fun q => !(q.2 && !decide (q.1 = 0))) = true) rfl rfl rfl fun i hi hq => ?_
  simp only [sC,sN]
  refine WR.iteLt i 3 rfl (fun h => ?_) (fun h => ?_)
  · obtain ⟨x,hx,_⟩ := sA1 (show i < a.length by omega)
    obtain ⟨b,hb,_⟩ := sA1 (show i < pins.length by omega)
    have hz := still_step hx hb
    refine WR.idxN i (mA1 (f := dB) hb) rfl rfl rfl rfl ?_
    refine WR.iteB b rfl (fun hb1 => ?_) (fun hb1 => ?_)
    · refine WR.idxN i (mA1 (f := dI) hx) rfl rfl rfl rfl ?_
      refine WR.iteN (decide (x = 0)) rfl (fun h0 => WR.esc (WR.done ?_)) (fun h0 => ?_)
      · show [dB false] = _
        unfold stillM
        rw [all_not hz (by simp only [h0,hb1]; rfl)]
      · refine WR.nextA (vs := [.i ((i + 1 : Nat) : Int)]) ?_ ⟨h,rfl,all_take hz hq (by simp only [h0]; simp)⟩
        show [V.i (IntKind.i64.wrap ((i : Int) + 1))] = _
        rw [wS h (by omega)]
    · refine WR.nextA (vs := [.i ((i + 1 : Nat) : Int)]) ?_ ⟨h,rfl,all_take hz hq (by simp only [hb1]; rfl)⟩
      show [V.i (IntKind.i64.wrap ((i : Int) + 1))] = _
      rw [wS h (by omega)]
  · refine WR.esc (WR.done ?_)
    rw [List.take_of_length_le (by simp; omega)] at hq
    unfold stillM
    rw [hq]; rfl
theorem ev_rulesOf (as : List (List Line)) (hf : fitActs as) : Ev L f_k3e [.s (dActs as)] [.s (dActs as),.s (dLL (catForms as)),.s (dBl (catPins as))] := by
  refine Ev.eq (vs := [.l (dActs as)]) L_k3e rfl ?_
  refine WR.ev (ev_iForms as hf) rfl rfl rfl ?_
  refine WR.ev (ev_iPins as hf) rfl rfl rfl (WR.done rfl)
theorem keeps_len {b g : List Int} {ps : List (List Int)} {s : Int} {a : List Int} (h : keeps b g ps s a = true) : a.length = 3 := (fine_in (keeps_fineM h)).2.2.2.2.2.1.1
theorem ev_keepsR (as : List (List Line)) (ps : List (List Int)) (pins : List Bool) (b g : List Int) (s : Int) (a : List Int) (hpi : pins.length = 3) (hb : b.length ≤ 2000000) (hg : g.length ≤ 2000000) (hp : fitLL ps) (ha : a.length ≤ 2000000) :
    Ev L f_k41 [.s (dActs as),.s (dLL ps),.s (dBl pins),.s (dL b),.s (dL g),dI s,.s (dL a)] [dB (keeps b g ps s a && stillM pins a)] := by
  refine Ev.eq (vs := [.l (dActs as),.l (dLL ps),.l (dBl pins),.l (dL b),.l (dL g),.i s,.l (dL a)]) L_k41 rfl ?_
  refine WR.ev (ev_TrtKeeps b g ps s a hb hg hp ha) rfl rfl rfl ?_
  refine WR.iteB (keeps b g ps s a) rfl (fun h => ?_) (fun h => WR.done ?_)
  · refine WR.ev (ev_unpinned as ps pins a hpi (keeps_len h)) rfl rfl rfl (WR.done ?_)
    rw [h]; rfl
  · rw [h]; rfl
end Go.Proofs.YtgiejmanbmeloaaGreatDoor
/- What a site does alone: the tries themselves,over residual programs. -/
namespace Go.Proofs.YtgiejmanbmeloaaGreatDoor
open Go Go.Tm
theorem pins_len {as : List (List Line)} (h : catOk as = true) : (catPins as).length = 3 := by rw [catPins_eq h,pots_len]
def Range (O U : Nat → Bool) (b g : List Int) (ps : List (List Int)) (s : Int) (a w : List Int) : Prop :=
  ∀ i,O i = ([0,1,2].take i).any (ovM b g ps s a w) ∧ U i = ([0,1,2].take i).any (unM b g ps s a w)
theorem Range.zero {O U : Nat → Bool} {b g : List Int} {ps : List (List Int)} {s : Int} {a w : List Int} (h : Range O U b g ps s a w) : O 0 = false ∧ U 0 = false := ⟨(h 0).1,(h 0).2⟩
end Go.Proofs.YtgiejmanbmeloaaGreatDoor
/- What a site does alone: the specification's tries,over residual programs. -/
namespace Go.Proofs.YtgiejmanbmeloaaGreatDoor
open Go Go.Tm
end Go.Proofs.YtgiejmanbmeloaaGreatDoor

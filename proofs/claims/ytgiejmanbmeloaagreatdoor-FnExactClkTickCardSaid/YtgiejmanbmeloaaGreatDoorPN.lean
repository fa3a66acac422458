import Derived.Test.YtgiejmanbmeloaaGreatDoorPI
set_option linter.unusedVariables false
set_option linter.unusedSimpArgs false
/- What the reference's catalogue of parts and pins comes to. -/
namespace Go.Proofs.YtgiejmanbmeloaaGreatDoor
open Go Go.Tm
structure PartsFit (n : Nat) (s : List (List Int)) : Prop where
  len : s.length ≤ n
  each : ∀ q ∈ s,q.length = 3 ∧ Lim 10000000 q
theorem PartsFit.add {n : Nat} {s : List (List Int)} (h : PartsFit n s) {f : Frm} (hf : Std 10000000 f) : PartsFit (n + 1) (addPart s f) :=
  ⟨by have := addPart_len s f; have := h.len; omega,addPart_all h.each ⟨by rw [part_len]; exact hf.c,part_lim hf.lc⟩⟩
theorem PartsFit.mono {n m : Nat} {s : List (List Int)} (h : PartsFit n s) (hm : n ≤ m) : PartsFit m s := ⟨by have := h.len; omega,h.each⟩
theorem PartsFit.adds {n : Nat} {s : List (List Int)} (h : PartsFit n s) {fs : List Frm} (hf : ∀ f ∈ fs,Std 10000000 f) : PartsFit (n + fs.length) (fs.foldl addPart s) := by
  induction fs generalizing n s with
  | nil => exact h
  | cons f fs ih => exact (ih (h.add (hf f (by simp))) fun g hg => hf g (by simp [hg])).mono (by simp; omega)
theorem PartsFit.rows {n : Nat} {s : List (List Int) × List Bool} (h : PartsFit n s.1) (h3 : s.2.length = 3) {rs : List Row} (hr : ∀ r ∈ rs,RowFit r) : PartsFit (n + 6 * rs.length) (rs.foldl rowBoth s).1 ∧ (rs.foldl rowBoth s).2.length = 3 := by
  induction rs generalizing n s with
  | nil => exact ⟨h,h3⟩
  | cons r rs ih =>
    have hr1 := hr r (by simp)
    have a := (h.adds hr1.g).mono (show n + r.guards.length ≤ n + 6 by have := hr1.gl; omega)
    have b : (rowBoth s r).2.length = 3 := readsL_len (readsL_len h3 fun f hf => (hr1.a f hf).c) fun f hf => (hr1.t f hf).c
    have := ih (s := rowBoth s r) (n := n + 6) a b fun x hx => hr x (by simp [hx])
    exact ⟨this.1.mono (by simp; omega),this.2⟩
theorem both_fit (as : List (List Line)) : PartsFit (3 + 384 * as.length) (both as).1 ∧ (both as).2.length = 3 := by
  have key : ∀ (n : Nat) (s : List (List Int) × List Bool),PartsFit n s.1 → s.2.length = 3 → PartsFit (n + 384 * as.length) (as.foldl actBoth s).1 ∧ (as.foldl actBoth s).2.length = 3 := by
    induction as with
    | nil => intro n s h h3; exact ⟨h,h3⟩
    | cons a as ih =>
      intro n s h h3
      have := h.rows h3 (rs := rowsOf a) rows_fit
      have hl := rows_len a
      have := ih (n + 384) (actBoth s a) (this.1.mono (by omega)) this.2
      exact ⟨this.1.mono (by simp; omega),this.2⟩
  refine key 3 _ ⟨by simp [pots0],?_⟩ rfl
  intro q hq
  simp [pots0] at hq
  rcases hq with rfl | rfl | rfl <;> exact ⟨rfl,by intro x hx; simp at hx; omega⟩
theorem rdR {rs : List Row} {i : Nat} {r : Row} (h : rs[i]? = some r) : (dRows rs)[i]? = some r.g := mA1 (f := Row.g) h
set_option maxHeartbeats 8000000 in
theorem ev_l4Both (as : List (List Line)) (hf : fitActs as) (h4 : as.length ≤ 4) : Ev L f_k1f [.s (dActs as)] [.s (dLL (both as).1),.s (dBl (both as).2)] := by
  refine Ev.eq (vs := [.l (dActs as)]) L_k1f rfl ?_
  refine WR.forP 3 (fun v => [.l (dLL (pots0.take v)),.i v]) (fun _ => True) rfl rfl trivial fun v hv _ => ?_
  refine WR.iteLt v 3 rfl (fun hv3 => ?_) (fun hv3 => ?_)
  · refine WR.ev (ev_FrmPot v (by omega) (by omega)) rfl rfl rfl ?_
    have hp : pots0[v]? = some (potF (v : Int).toNat).c := by
      rw [Int.toNat_natCast]
      match v,hv3 with
      | 0,_ | 1,_ | 2,_ => rfl
      | n + 3,h => omega
    refine WR.chkApp (dLL (pots0.take v)) 3 (by rw [dLL_len]; simp; omega) (by omega) rfl ?_
    refine WR.nextA (vs := [.l (dLL (pots0.take (v + 1))),.i ((v + 1 : Nat) : Int)]) ?_ ⟨hv3,rfl,trivial⟩
    show [V.l (dLL (pots0.take v) ++ [.s (dL (potF (v : Int).toNat).c)]),V.i (IntKind.i64.wrap ((v : Int) + 1))] = _
    rw [wS hv3 (by omega),dLL_snoc,tS1 hp]
  have hv3 : v = 3 := by omega
  subst hv3
  refine WR.esc ?_
  refine WR.forS as.length (fun i vs => ∃ b : List (List Int) × List Bool,vs = [.l (dLL b.1),.l (dBl b.2),.i i] ∧ b = both (as.take i)) rfl ⟨(pots0,[false,false,false]),rfl,rfl⟩ ?_
  rintro i _ hi ⟨⟨b1,b2⟩,rfl,hb⟩
  simp only [sC,sN]
  refine WR.iteLen i (dActs_len as) rfl (fun h => ?_) (fun h => ?_)
  · obtain ⟨a,ha,hm⟩ := sA1 h
    have hB : both (as.take (i + 1)) = actBoth (b1,b2) a := by rw [hb]; exact foldl_take ha
    obtain ⟨f1,f2⟩ := both_fit (as.take i)
    rw [← hb] at f1 f2
    have f1 := f1.mono (show 3 + 384 * (as.take i).length ≤ 1600 by simp; omega)
    have hrl := rows_len a
    refine WR.idxN i (mA1 (f := fun a => .s (dAct a)) ha) rfl rfl rfl rfl ?_
    refine WR.ev (ev_RowsOf a (hf.2 a hm)) rfl rfl rfl ?_
    have hrf : ∀ r ∈ rowsOf a,RowFit r := rows_fit
    have hAB : actBoth (b1,b2) a = (rowsOf a).foldl rowBoth (b1,b2) := rfl
    generalize rowsOf a = rs at *
    refine WR.forS rs.length (fun k vs => ∃ c : List (List Int) × List Bool,vs = [.l (dLL c.1),.l (dBl c.2),.i k] ∧ c = (rs.take k).foldl rowBoth (b1,b2)) rfl ⟨(b1,b2),rfl,rfl⟩ ?_
    rintro k _ hk ⟨⟨c1,c2⟩,rfl,hc⟩
    simp only [sC,sN]
    refine WR.iteLen k (dRows_len rs) rfl (fun h' => ?_) (fun h' => ?_)
    · obtain ⟨r,hr,hmr⟩ := sA1 h'
      have hfit := hrf r hmr
      have hC : (rs.take (k + 1)).foldl rowBoth (b1,b2) = rowBoth (c1,c2) r := by rw [hc]; exact foldl_take hr
      obtain ⟨g1,g2⟩ := f1.rows f2 (rs := rs.take k) fun x hx => hrf x (List.mem_of_mem_take hx)
      rw [← hc] at g1 g2
      have g1 := g1.mono (show 1600 + 6 * (rs.take k).length ≤ 2000 by simp; omega)
      have hRd := rdR hr
      refine WR.atN k hRd rfl rfl rfl rfl rfl rfl ?_
      refine WR.ev (ev_l4Reads c2 r.adds g2 (fun f hf => (hfit.a f hf).c) (by have := hfit.al; omega)) rfl rfl rfl ?_
      refine WR.atN k hRd rfl rfl rfl rfl rfl rfl ?_
      have e3 : (readsL c2 r.adds).length = 3 := readsL_len g2 fun f hf => (hfit.a f hf).c
      refine WR.ev (ev_l4Reads (readsL c2 r.adds) r.tells e3 (fun f hf => (hfit.t f hf).c) (by have := hfit.tl; omega)) rfl rfl rfl ?_
      have hR : rowBoth (c1,c2) r = (r.guards.foldl addPart c1,readsL (readsL c2 r.adds) r.tells) := rfl
      generalize readsL (readsL c2 r.adds) r.tells = d2 at *
      generalize readsL c2 r.adds = d1 at *
      have hgl := hfit.gl
      refine WR.forS r.guards.length (fun g vs => ∃ e : List (List Int),vs = [.l (dLL e),.i g] ∧ e = (r.guards.take g).foldl addPart c1) rfl ⟨c1,rfl,rfl⟩ ?_
      rintro g _ hg ⟨e,rfl,he⟩
      simp only [sC,sN]
      refine WR.atN k hRd rfl rfl rfl rfl rfl rfl ?_
      refine WR.iteLen g (dF_len r.guards) rfl (fun hg' => ?_) (fun hg' => ?_)
      · obtain ⟨f,hfg,hmf⟩ := sA1 hg'
        have hsf := hfit.g f hmf
        have hE : (r.guards.take (g + 1)).foldl addPart c1 = addPart e f := by rw [he]; exact foldl_take hfg
        have e1 := (g1.adds (fs := r.guards.take g) fun x hx => hfit.g x (List.mem_of_mem_take hx)).mono (show 2000 + (r.guards.take g).length ≤ 2010 by simp; omega)
        rw [← he] at e1
        have nx : ∀ (x : List (List Int)),x = addPart e f → [V.l (dLL x),V.i (IntKind.i64.wrap ((g : Int) + 1))] = [.l (dLL (addPart e f)),.i ((g + 1 : Nat) : Int)] := by
          intro x hx; rw [hx,wS hg' (by omega)]
        refine WR.atN k hRd rfl rfl rfl rfl rfl rfl ?_
        refine WR.idxN g (mA1 (f := Frm.g) hfg) rfl rfl rfl rfl ?_
        refine WR.ev (ev_CatPart f (hsf.lc.mono (by omega)) (by rw [hsf.c]; omega)) rfl rfl rfl ?_
        have el := e1.len
        have hp3 : (partOf f.c).length = 3 := by rw [part_len]; exact hsf.c
        have hAP : addPart e f = if hasAt e (partOf f.c) < 0 ∧ partOf f.c ≠ [0,0,0] then e ++ [partOf f.c] else e := rfl
        generalize partOf f.c = pt at *
        refine WR.ev (ev_CatHas e pt (by omega) (fun q hq => by rw [(e1.each q hq).1]; omega)) rfl rfl rfl ?_
        generalize hasAt e pt = ha at *
        refine WR.iteP (ha < 0) rfl (fun h0 => ?_) (fun h0 => ?_)
        · refine WR.ev ev_FrmZero rfl rfl rfl ?_
          refine WR.ev (ev_l4Same pt [0,0,0] (by omega)) rfl rfl rfl ?_
          refine WR.iteN (decide (pt = [0,0,0])) rfl (fun hz => ?_) (fun hz => ?_)
          · refine WR.chkApp (dLL e) 3000 (by rw [dLL_len]; omega) (by omega) rfl ?_
            refine WR.nextA (vs := [.l (dLL (addPart e f)),.i ((g + 1 : Nat) : Int)]) ?_ ⟨hg',addPart e f,rfl,hE.symm⟩
            show [V.l (dLL e ++ [.s (dL pt)]),V.i (IntKind.i64.wrap ((g : Int) + 1))] = _
            rw [dLL_snoc]
            refine nx _ ?_
            rw [hAP,if_pos ⟨h0,by simpa using hz⟩]
          · refine WR.nextA (nx e ?_) ⟨hg',addPart e f,rfl,hE.symm⟩
            rw [hAP,if_neg]
            intro ⟨_,h⟩
            exact h (by simpa using hz)
        · refine WR.nextA (nx e ?_) ⟨hg',addPart e f,rfl,hE.symm⟩
          rw [hAP,if_neg]
          intro ⟨h,_⟩
          exact h0 h
      · refine WR.esc ?_
        rw [tA1 hg'] at he
        refine WR.nextA (vs := [.l (dLL e),.l (dBl d2),.i ((k + 1 : Nat) : Int)]) ?_ ⟨h',(e,d2),rfl,by rw [hC,hR,he]⟩
        show [V.l (dLL e),V.l (dBl d2),V.i (IntKind.i64.wrap ((k : Int) + 1))] = _
        rw [wS h' (by omega)]
    · refine WR.esc ?_
      rw [tA1 h'] at hc
      refine WR.nextA (vs := [.l (dLL c1),.l (dBl c2),.i ((i + 1 : Nat) : Int)]) ?_ ⟨h,(c1,c2),rfl,by rw [hB,hAB,hc]⟩
      show [V.l (dLL c1),V.l (dBl c2),V.i (IntKind.i64.wrap ((i : Int) + 1))] = _
      rw [wS h (by omega)]
  · refine WR.esc (WR.done ?_)
    show [D.s (dLL b1),.s (dBl b2)] = _
    rw [tA1 h] at hb
    rw [← hb]
theorem catOk_len {as : List (List Line)} (h : catOk as = true) : 1 ≤ as.length ∧ as.length ≤ 4 ∧ ∀ a ∈ as,actOk a = true := by
  simp only [catOk,Bool.and_eq_true,inB_iff,List.all_eq_true] at h
  exact ⟨by omega,by omega,h.2⟩
theorem catForms_fit (as : List (List Line)) : PartsFit 1600 (catForms as) := by
  unfold catForms
  split
  · rename_i h
    exact (both_fit as).1.mono (by have := (catOk_len h).2.1; omega)
  · exact ⟨by simp,by simp⟩
end Go.Proofs.YtgiejmanbmeloaaGreatDoor
/- What the reference's treaties come to. -/
namespace Go.Proofs.YtgiejmanbmeloaaGreatDoor
open Go Go.Tm
theorem ev_sValOk (l : List Int) (hl : l.length ≤ 2000000) : Ev L f_ky [.s (dL l)] [dB (valOk l)] :=
  Ev.eq (vs := [.l (dL l)]) L_ky rfl (WR.ev (ev_l1All l 3 10000 hl (by omega) (by omega)) rfl rfl rfl (WR.done rfl))
theorem ev_sTrtOk (b g : List Int) (hb : b.length ≤ 2000000) (hg : g.length ≤ 2000000) : Ev L f_kz [.s (dL b),.s (dL g)] [dB (trtOk b g)] := by
  refine Ev.eq (vs := [.l (dL b),.l (dL g)]) L_kz rfl ?_
  refine WR.ev (ev_sValOk b hb) rfl rfl rfl ?_
  refine WR.iteN (valOk b) rfl (fun h => WR.done ?_) (fun h => ?_)
  · show [dB false] = _
    simp [trtOk,h]
  refine WR.ev (ev_l1In g.length 1 3) rfl ?_ rfl ?_
  · show [dI ((dL g).length : Int),dI 1,dI 3] = _
    rw [dL1]
  refine WR.iteN (inB g.length 1 3) rfl (fun h2 => WR.done ?_) (fun h2 => ?_)
  · show [dB false] = _
    simp [trtOk,h2]
  refine WR.forP g.length (fun i => [.i i]) (fun i => (g.take i).all (fun x => inB x 0 50) = true) rfl rfl (by simp) fun i hi hp => ?_
  refine WR.iteLen i (dL1 g) rfl (fun h' => ?_) (fun h' => ?_)
  · obtain ⟨x,hx,hm⟩ := sA1 h'
    refine WR.idxN i (mA1 (f := dI) hx) rfl rfl rfl rfl ?_
    refine WR.ev (ev_l1In x 0 50) rfl rfl rfl ?_
    refine WR.iteN (inB x 0 50) rfl (fun hb => WR.esc (WR.done ?_)) (fun hb => ?_)
    · show [dB false] = _
      simp only [trtOk,all_not (p := fun x => inB x 0 50) hx hb,Bool.and_false]
    · refine WR.nextA (vs := [.i ((i + 1 : Nat) : Int)]) ?_ ⟨h',rfl,all_take (p := fun x => inB x 0 50) hx hp hb⟩
      show [V.i (IntKind.i64.wrap ((i : Int) + 1))] = _
      rw [wS h' (by omega)]
  · refine WR.esc (WR.done ?_)
    rw [tA1 h'] at hp
    show [dB true] = _
    simp only [trtOk,h,h2,hp]; rfl
def fitLL (ps : List (List Int)) : Prop := ps.length ≤ 2000000 ∧ ∀ p ∈ ps,p.length ≤ 2000000
theorem ev_l5Parts (ps : List (List Int)) (hp : fitLL ps) : Ev L f_k1k [.s (dLL ps)] [dB (partsOk ps)] := by
  have hl := hp.1
  refine Ev.eq (vs := [.l (dLL ps)]) L_k1k rfl ?_
  refine WR.forP ps.length (fun i => [.i i]) (fun i => (ps.take i).all (fun p => allIn 3 10000000 p) = true) rfl rfl (by simp) fun i hi hq => ?_
  refine WR.iteLen i (dLL_len ps) rfl (fun h' => ?_) (fun h' => ?_)
  · obtain ⟨x,hx,hm⟩ := sA1 h'
    refine WR.idxN i (mA1 (f := fun x => .s (dL x)) hx) rfl rfl rfl rfl ?_
    refine WR.ev (ev_l1All x 3 10000000 (hp.2 x hm) (by omega) (by omega)) rfl rfl rfl ?_
    refine WR.iteN (allIn 3 10000000 x) rfl (fun hb => WR.esc (WR.done ?_)) (fun hb => ?_)
    · show [dB false] = _
      simp only [partsOk,all_not (p := fun p => allIn 3 10000000 p) hx hb]
    · refine WR.nextA (vs := [.i ((i + 1 : Nat) : Int)]) ?_ ⟨h',rfl,all_take (p := fun p => allIn 3 10000000 p) hx hq hb⟩
      show [V.i (IntKind.i64.wrap ((i : Int) + 1))] = _
      rw [wS h' (by omega)]
  · refine WR.esc (WR.done ?_)
    rw [tA1 h'] at hq
    show [dB true] = _
    simp only [partsOk,hq]
theorem dot_step {a b : List Int} {i : Nat} {x y : Int} (hx : a[i]? = some x) (hy : b[i]? = some y) : dot (a.take (i + 1)) (b.take (i + 1)) = dot (a.take i) (b.take i) + x * y := by
  have h1 := (List.getElem?_eq_some_iff.1 hx).1
  have h2 := (List.getElem?_eq_some_iff.1 hy).1
  rw [tS1 hx,tS1 hy,dot_snoc x y (by simp; omega)]
theorem dot_wrap {a b : List Int} {i : Nat} {x y : Int} (hx : a[i]? = some x) (hy : b[i]? = some y) (ha : Lim 100000000 a) (hb : Lim 1000000 b) (hi : i < 1000) :
    IntKind.i64.wrap (dot (a.take i) (b.take i) + IntKind.i64.wrap (x * y)) = dot (a.take (i + 1)) (b.take (i + 1)) := by
  have h1 := dot_lim (ha.take i) (hb.take i) (by omega) (by omega)
  have h2 : ((a.take i).length : Int) ≤ 1000 := by simp; omega
  have h3 := mul_lim (ha x (List.mem_of_getElem? hx)) (hb y (List.mem_of_getElem? hy))
  rw [dot_step hx hy,w64 (n := x * y) (by omega) (by omega),w64 (by omega) (by omega)]
theorem ev_l5Times (p a : List Int) (hp : allIn 3 10000000 p = true) (ha : allIn 3 20000 a = true) : Ev L f_k1l [.s (dL p),.s (dL a)] [dI (dot p a)] := by
  obtain ⟨p1,p2⟩ := allIn_iff.1 hp
  obtain ⟨a1,a2⟩ := allIn_iff.1 ha
  have p2 : Lim 100000000 p := Lim.mono (m := 10000000) p2 (by omega)
  have a2 : Lim 1000000 a := Lim.mono (m := 20000) a2 (by omega)
  refine Ev.eq (vs := [.l (dL p),.l (dL a)]) L_k1l rfl ?_
  refine WR.forP 3 (fun i => [.i (dot (p.take i) (a.take i)),.i i]) (fun _ => True) rfl rfl trivial fun i hi _ => ?_
  refine WR.iteLt i 3 rfl (fun h => ?_) (fun h => ?_)
  · obtain ⟨x,hx,_⟩ := sA1 (show i < p.length by omega)
    obtain ⟨y,hy,_⟩ := sA1 (show i < a.length by omega)
    refine WR.idxN i (mA1 (f := dI) hx) rfl rfl rfl rfl ?_
    refine WR.idxN i (mA1 (f := dI) hy) rfl rfl rfl rfl ?_
    refine WR.nextA (vs := [.i (dot (p.take (i + 1)) (a.take (i + 1))),.i ((i + 1 : Nat) : Int)]) ?_ ⟨h,rfl,trivial⟩
    show [V.i (IntKind.i64.wrap (dot (p.take i) (a.take i) + IntKind.i64.wrap (x * y))),V.i (IntKind.i64.wrap ((i : Int) + 1))] = _
    rw [wS h (by omega),dot_wrap hx hy p2 a2 (by omega)]
  · refine WR.esc (WR.done ?_)
    show [dI (dot (p.take i) (a.take i))] = _
    rw [List.take_of_length_le (by omega),List.take_of_length_le (by omega)]
theorem at_getD {l : List Int} {i : Nat} (h : i < l.length) : l[i]? = some (l.getD i 0) := by simp [List.getD_eq_getElem?_getD,h]
theorem ev_sTrtKeeps (b g : List Int) (ps : List (List Int)) (s : Int) (a : List Int) (hb : b.length ≤ 2000000) (hg : g.length ≤ 2000000) (hp : fitLL ps) (ha : a.length ≤ 2000000) :
    Ev L f_k1m [.s (dL b),.s (dL g),.s (dLL ps),dI s,.s (dL a)] [dB (keeps b g ps s a)] := by
  have hpl := hp.1
  refine Ev.eq (vs := [.l (dL b),.l (dL g),.l (dLL ps),.i s,.l (dL a)]) L_k1m rfl ?_
  refine WR.ev (ev_sTrtOk b g hb hg) rfl rfl rfl ?_
  refine WR.iteN (trtOk b g) rfl (fun h => WR.done ?_) (fun h => ?_)
  · show [dB false] = _
    simp [keeps,h]
  refine WR.ev (ev_l5Parts ps hp) rfl rfl rfl ?_
  refine WR.iteN (partsOk ps) rfl (fun h2 => WR.done ?_) (fun h2 => ?_)
  · show [dB false] = _
    simp [keeps,h2]
  refine WR.ev (ev_l1In s 0 (g.length - 1)) rfl ?_ rfl ?_
  · show [dI s,dI 0,dI (IntKind.i64.wrap (((dL g).length : Int) - 1))] = _
    rw [dL1,w64 (by omega) (by omega)]
  refine WR.iteN (inB s 0 (g.length - 1)) rfl (fun h3 => WR.done ?_) (fun h3 => ?_)
  · show [dB false] = _
    simp [keeps,h3]
  refine WR.ev (ev_l1All a 3 20000 ha (by omega) (by omega)) rfl rfl rfl ?_
  refine WR.iteN (allIn 3 20000 a) rfl (fun h4 => WR.done ?_) (fun h4 => ?_)
  · show [dB false] = _
    simp [keeps,addedOk,h4]
  have hs := inB_iff.1 h3
  have hsg : s.toNat < g.length := by omega
  have hgs := at_getD hsg
  have hgm := getD_in (p := fun x => 0 ≤ x ∧ x ≤ 50) (l := g) (by
    intro x hx
    simp only [trtOk,Bool.and_eq_true,List.all_eq_true] at h
    exact inB_iff.1 (h.2 x hx)) hsg
  have hdS : (dL g)[s.toNat]? = some (dI (g.getD s.toNat 0)) := mA1 (f := dI) hgs
  simp only [keeps,addedOk,h,h2,h3,h4,Bool.true_and]
  generalize g.getD s.toNat 0 = G at *
  refine WR.forP ps.length (fun i => [.i i]) (fun i => (ps.take i).all (keepsP G a) = true) rfl rfl (by simp) fun i hi hq => ?_
  refine WR.iteLen i (dLL_len ps) rfl (fun h' => ?_) (fun h' => ?_)
  · obtain ⟨x,hx,hm⟩ := sA1 h'
    have hxo : allIn 3 10000000 x = true := List.all_eq_true.1 h2 x hm
    refine WR.idxN i (mA1 (f := fun x => .s (dL x)) hx) rfl rfl rfl rfl ?_
    refine WR.ev (ev_l5Times x a hxo h4) rfl rfl rfl ?_
    refine WR.idxA (ds := dL g) s rfl rfl rfl hs.1 hdS rfl ?_
    refine WR.idxA (ds := dL g) s rfl rfl rfl hs.1 hdS rfl ?_
    refine WR.ev (ev_l1In (dot x a) (0 - G) G) rfl ?_ rfl ?_
    · show [dI (dot x a),dI (IntKind.i64.wrap (0 - G)),dI G] = _
      rw [w64 (by omega) (by omega)]
    refine WR.iteN (inB (dot x a) (0 - G) G) rfl (fun hb => WR.esc (WR.done ?_)) (fun hb => ?_)
    · show [dB false] = _
      rw [all_not (p := keepsP G a) hx hb]
    · refine WR.nextA (vs := [.i ((i + 1 : Nat) : Int)]) ?_ ⟨h',rfl,all_take (p := keepsP G a) hx hq hb⟩
      show [V.i (IntKind.i64.wrap ((i : Int) + 1))] = _
      rw [wS h' (by omega)]
  · refine WR.esc (WR.done ?_)
    rw [tA1 h'] at hq
    show [dB true] = _
    rw [hq]
end Go.Proofs.YtgiejmanbmeloaaGreatDoor
/- What the program's treaties come to. -/
namespace Go.Proofs.YtgiejmanbmeloaaGreatDoor
open Go Go.Tm
theorem ev_in (n a b : Int) : Ev L f_k21 [dI n,dI a,dI b] [dB (inB n a b)] := by
  refine Ev.eq (vs := [.i n,.i a,.i b]) L_k21 rfl ?_
  refine WR.iteP (a ≤ n) rfl (fun h => WR.done ?_) (fun h => WR.done ?_)
  · show [dB (decide (n ≤ b))] = _
    simp [inB,h]
  · show [dB false] = _
    simp [inB,h]
theorem ev_idxInt (p : Int → Bool) (l : List Int) {fn : FuncId} {caps : List D} (hlen : l.length ≤ 2000000) (hcap : oneOf (.f fn caps) = .f fn caps) (har : arT L fn = some ([none] ++ caps.map fun _ => none))
    (hc : ∀ x ∈ l,Ev L fn ([dI x] ++ caps.map D.norm) [dB (p x)]) : Ev L f_k25 [.s (dL l),.f fn caps] [dI (place p l)] :=
  ev_idxFunc (sh := .one (.i .i64)) (as := [(.vi .i64 (.v 3))]) (ar := [none]) (k := 4) dI p (fun x => [dI x]) (fun x => [.i x]) l L_k25 rfl hlen hcap (fun _ _ => rfl) (fun _ _ => rfl) (fun _ _ _ _ => rfl) har hc
theorem ev_hasInt (p : Int → Bool) (l : List Int) {fn : FuncId} {caps : List D} (hlen : l.length ≤ 2000000) (hcap : oneOf (.f fn caps) = .f fn caps) (har : arT L fn = some ([none] ++ caps.map fun _ => none))
    (hc : ∀ x ∈ l,Ev L fn ([dI x] ++ caps.map D.norm) [dB (p x)]) : Ev L f_k26 [.s (dL l),.f fn caps] [dB (l.any p)] :=
  ev_contains (g := f_k25) L_k26 rfl hcap (ev_idxInt p l hlen hcap har hc)
theorem ev_idxInts (p : List Int → Bool) (l : List (List Int)) {fn : FuncId} {caps : List D} (hlen : l.length ≤ 2000000) (hcap : oneOf (.f fn caps) = .f fn caps) (har : arT L fn = some ([none] ++ caps.map fun _ => none))
    (hc : ∀ x ∈ l,Ev L fn ([.s (dL x)] ++ caps.map D.norm) [dB (p x)]) : Ev L f_k35 [.s (dLL l),.f fn caps] [dI (place p l)] :=
  ev_idxFunc (sh := .one .s) (as := [(.s (.v 3))]) (ar := [none]) (k := 4) (fun x => .s (dL x)) p (fun x => [.s (dL x)]) (fun x => [.l (dL x)]) l L_k35 rfl hlen hcap (fun _ _ => rfl) (fun _ _ => rfl) (fun _ _ _ _ => rfl) har hc
theorem ev_hasInts (p : List Int → Bool) (l : List (List Int)) {fn : FuncId} {caps : List D} (hlen : l.length ≤ 2000000) (hcap : oneOf (.f fn caps) = .f fn caps) (har : arT L fn = some ([none] ++ caps.map fun _ => none))
    (hc : ∀ x ∈ l,Ev L fn ([.s (dL x)] ++ caps.map D.norm) [dB (p x)]) : Ev L f_k3s [.s (dLL l),.f fn caps] [dB (l.any p)] :=
  ev_contains (g := f_k35) L_k3s rfl hcap (ev_idxInts p l hlen hcap har hc)
theorem not_any {α : Type} (p : α → Bool) (l : List α) : (!(l.any fun x => !p x)) = l.all p := by
  induction l with
  | nil => rfl
  | cons x l ih => simp [ih]
theorem ev_within_1 (x m : Int) (h0 : 0 ≤ m) (hm : m ≤ 10000000000000) : Ev L f_k24 [dI x,.q [dI m]] [dB (!inB x (0 - m) m)] := by
  refine Ev.eq (vs := [.i x,.d (.q [dI m])]) L_k24 rfl ?_
  refine WR.get (vs := [.i m]) rfl rfl ?_
  refine WR.get (vs := [.i m]) rfl rfl ?_
  refine WR.ev (ev_in x (0 - m) m) rfl ?_ rfl (WR.done rfl)
  show [dI x,dI (IntKind.i64.wrap (0 - m)),dI m] = _
  rw [w64 (by omega) (by omega)]
theorem ev_within (l : List Int) (n m : Int) (hl : l.length ≤ 2000000) (h0 : 0 ≤ m) (hm : m ≤ 10000000000000) : Ev L f_k27 [.s (dL l),dI n,dI m] [dB (allIn n m l)] := by
  refine Ev.eq (vs := [.l (dL l),.i n,.i m]) L_k27 rfl ?_
  refine WR.iteP ((l.length : Int) = n) ?_ (fun h => ?_) (fun h => WR.done ?_)
  · show decide (((dL l).length : Int) = n) = _
    rw [dL1]
  · refine WR.ev (ev_hasInt (fun x => !inB x (0 - m) m) l (fn := f_k24) (caps := [.q [dI m]]) hl rfl rfl fun x _ => ev_within_1 x m h0 hm) rfl rfl rfl (WR.done ?_)
    show [dB (!(l.any fun x => !inB x (0 - m) m))] = _
    rw [not_any]; simp [allIn,h]
  · show [dB false] = _
    simp [allIn,h]
theorem ev_ValOk (l : List Int) (hl : l.length ≤ 2000000) : Ev L f_k2h [.s (dL l)] [dB (valOk l)] :=
  Ev.eq (vs := [.l (dL l)]) L_k2h rfl (WR.ev (ev_within l 3 10000 hl (by omega) (by omega)) rfl rfl rfl (WR.done rfl))
theorem ev_TrtOk_1 (x : Int) : Ev L f_k2g [dI x] [dB (!inB x 0 50)] :=
  Ev.eq (vs := [.i x]) L_k2g rfl (WR.ev (ev_in x 0 50) rfl rfl rfl (WR.done rfl))
theorem ev_TrtOk (b g : List Int) (hb : b.length ≤ 2000000) (hg : g.length ≤ 2000000) : Ev L f_k2i [.s (dL b),.s (dL g)] [dB (trtOk b g)] := by
  refine Ev.eq (vs := [.l (dL b),.l (dL g)]) L_k2i rfl ?_
  refine WR.ev (ev_ValOk b hb) rfl rfl rfl ?_
  refine WR.iteB (valOk b) rfl (fun h => ?_) (fun h => WR.done ?_)
  · refine WR.ev (ev_in g.length 1 3) rfl ?_ rfl ?_
    · show [dI ((dL g).length : Int),dI 1,dI 3] = _
      rw [dL1]
    refine WR.iteB (inB g.length 1 3) rfl (fun h2 => ?_) (fun h2 => WR.done ?_)
    · refine WR.ev (ev_hasInt (fun x => !inB x 0 50) g (fn := f_k2g) (caps := []) hg rfl rfl fun x _ => ev_TrtOk_1 x) rfl rfl rfl (WR.done ?_)
      show [dB (!(g.any fun x => !inB x 0 50))] = _
      rw [not_any]; simp [trtOk,h,h2]
    · show [dB false] = _
      simp [trtOk,h2]
  · show [dB false] = _
    simp [trtOk,h]
theorem ev_partsOk_1 (p : List Int) (hp : p.length ≤ 2000000) : Ev L f_k3t [.s (dL p)] [dB (!allIn 3 10000000 p)] :=
  Ev.eq (vs := [.l (dL p)]) L_k3t rfl (WR.ev (ev_within p 3 10000000 hp (by omega) (by omega)) rfl rfl rfl (WR.done rfl))
theorem ev_partsOk (ps : List (List Int)) (hp : fitLL ps) : Ev L f_k3u [.s (dLL ps)] [dB (partsOk ps)] := by
  refine Ev.eq (vs := [.l (dLL ps)]) L_k3u rfl ?_
  refine WR.ev (ev_hasInts (fun p => !allIn 3 10000000 p) ps (fn := f_k3t) (caps := []) hp.1 rfl rfl fun p h => ev_partsOk_1 p (hp.2 p h)) rfl rfl rfl (WR.done ?_)
  show [dB (!(ps.any fun p => !allIn 3 10000000 p))] = _
  rw [not_any]; rfl
theorem ev_addedOk (a : List Int) (ha : a.length ≤ 2000000) : Ev L f_k3v [.s (dL a)] [dB (addedOk a)] :=
  Ev.eq (vs := [.l (dL a)]) L_k3v rfl (WR.ev (ev_within a 3 20000 ha (by omega) (by omega)) rfl rfl rfl (WR.done rfl))
def trtFine (b g : List Int) (ps : List (List Int)) (s : Int) (a : List Int) : Bool := trtOk b g && partsOk ps && inB s 0 (g.length - 1) && addedOk a
theorem ev_TrtTreaty_ok (b g : List Int) (ps : List (List Int)) (s : Int) (a : List Int) (hb : b.length ≤ 2000000) (hg : g.length ≤ 2000000) (hp : fitLL ps) (ha : a.length ≤ 2000000) :
    Ev L f_k3w [.s (dL b),.s (dL g),.s (dLL ps),dI s,.s (dL a)] [dB (trtFine b g ps s a)] := by
  refine Ev.eq (vs := [.l (dL b),.l (dL g),.l (dLL ps),.i s,.l (dL a)]) L_k3w rfl ?_
  refine WR.ev (ev_TrtOk b g hb hg) rfl rfl rfl ?_
  refine WR.iteB (trtOk b g) rfl (fun h => ?_) (fun h => WR.done ?_)
  · refine WR.ev (ev_partsOk ps hp) rfl rfl rfl ?_
    refine WR.iteB (partsOk ps) rfl (fun h2 => ?_) (fun h2 => WR.done ?_)
    · refine WR.ev (ev_in s 0 (g.length - 1)) rfl ?_ rfl ?_
      · show [dI s,dI 0,dI (IntKind.i64.wrap (((dL g).length : Int) - 1))] = _
        rw [dL1,w64 (by omega) (by omega)]
      refine WR.iteB (inB s 0 (g.length - 1)) rfl (fun h3 => ?_) (fun h3 => WR.done ?_)
      · refine WR.ev (ev_addedOk a ha) rfl rfl rfl (WR.done ?_)
        show [dB (addedOk a)] = _
        simp [trtFine,h,h2,h3]
      · show [dB false] = _
        simp [trtFine,h3]
    · show [dB false] = _
      simp [trtFine,h2]
  · show [dB false] = _
    simp [trtFine,h]
theorem ev_dot (p a : List Int) (hp : Lim 100000000 p) (ha : Lim 1000000 a) (hl : p.length = a.length) (h9 : p.length ≤ 999) : Ev L f_k3x [.s (dL p),.s (dL a)] [dI (dot p a)] := by
  refine Ev.eq (vs := [.l (dL p),.l (dL a)]) L_k3x rfl ?_
  refine WR.forP p.length (fun i => [.i (dot (p.take i) (a.take i)),.i i]) (fun _ => True) rfl rfl trivial fun i hi _ => ?_
  refine WR.iteLen i (dL1 p) rfl (fun h => ?_) (fun h => ?_)
  · obtain ⟨x,hx,_⟩ := sA1 (show i < p.length by omega)
    obtain ⟨y,hy,_⟩ := sA1 (show i < a.length by omega)
    refine WR.idxN i (mA1 (f := dI) hx) rfl rfl rfl rfl ?_
    refine WR.idxN i (mA1 (f := dI) hy) rfl rfl rfl rfl ?_
    refine WR.nextA (vs := [.i (dot (p.take (i + 1)) (a.take (i + 1))),.i ((i + 1 : Nat) : Int)]) ?_ ⟨h,rfl,trivial⟩
    show [V.i (IntKind.i64.wrap (dot (p.take i) (a.take i) + IntKind.i64.wrap (x * y))),V.i (IntKind.i64.wrap ((i : Int) + 1))] = _
    rw [wS h (by omega),dot_wrap hx hy hp ha (by omega)]
  · refine WR.esc (WR.done ?_)
    show [dI (dot (p.take i) (a.take i))] = _
    rw [tA1 h,tA1 (by omega)]
theorem ev_TrtKeeps_1 (p a : List Int) (G : Int) (hp : allIn 3 10000000 p = true) (ha : addedOk a = true) (h0 : 0 ≤ G) (h5 : G ≤ 50) : Ev L f_k3y [.s (dL p),.q [.s (dL a)],.q [dI G]] [dB (!keepsP G a p)] := by
  obtain ⟨p1,p2⟩ := allIn_iff.1 hp
  obtain ⟨a1,a2⟩ := allIn_iff.1 ha
  refine Ev.eq (vs := [.l (dL p),.d (.q [.s (dL a)]),.d (.q [dI G])]) L_k3y rfl ?_
  refine WR.get (vs := [.l (dL a)]) rfl rfl ?_
  refine WR.ev (ev_dot p a (Lim.mono (m := 10000000) p2 (by omega)) (Lim.mono (m := 20000) a2 (by omega)) (by omega) (by omega)) rfl rfl rfl ?_
  refine WR.get (vs := [.i G]) rfl rfl ?_
  refine WR.get (vs := [.i G]) rfl rfl ?_
  refine WR.ev (ev_in (dot p a) (0 - G) G) rfl ?_ rfl (WR.done rfl)
  show [dI (dot p a),dI (IntKind.i64.wrap (0 - G)),dI G] = _
  rw [w64 (by omega) (by omega)]
theorem trtFine_iff {b g : List Int} {ps : List (List Int)} {s : Int} {a : List Int} (h : trtFine b g ps s a = true) :
    trtOk b g = true ∧ partsOk ps = true ∧ 0 ≤ s ∧ s < g.length ∧ addedOk a = true ∧ g[s.toNat]? = some (g.getD s.toNat 0) ∧ 0 ≤ g.getD s.toNat 0 ∧ g.getD s.toNat 0 ≤ 50 := by
  simp only [trtFine,Bool.and_eq_true,inB_iff] at h
  obtain ⟨⟨⟨h1,h2⟩,h3⟩,h4⟩ := h
  have hsg : s.toNat < g.length := by omega
  have hgm := getD_in (p := fun x => 0 ≤ x ∧ x ≤ 50) (l := g) (by
    intro x hx
    simp only [trtOk,Bool.and_eq_true,List.all_eq_true] at h1
    exact inB_iff.1 (h1.2 x hx)) hsg
  exact ⟨h1,h2,h3.1,by omega,h4,at_getD hsg,hgm⟩
theorem keeps_fine (b g : List Int) (ps : List (List Int)) (s : Int) (a : List Int) : keeps b g ps s a = (trtFine b g ps s a && ps.all (keepsP (g.getD s.toNat 0) a)) := rfl
theorem ev_TrtKeeps (b g : List Int) (ps : List (List Int)) (s : Int) (a : List Int) (hb : b.length ≤ 2000000) (hg : g.length ≤ 2000000) (hp : fitLL ps) (ha : a.length ≤ 2000000) :
    Ev L f_k3z [.s (dL b),.s (dL g),.s (dLL ps),dI s,.s (dL a)] [dB (keeps b g ps s a)] := by
  refine Ev.eq (vs := [.l (dL b),.l (dL g),.l (dLL ps),.i s,.l (dL a)]) L_k3z rfl ?_
  refine WR.ev (ev_TrtTreaty_ok b g ps s a hb hg hp ha) rfl rfl rfl ?_
  rw [keeps_fine]
  refine WR.iteN (trtFine b g ps s a) rfl (fun h => WR.done ?_) (fun h => ?_)
  · show [dB false] = _
    rw [h]; rfl
  obtain ⟨h1,h2,s0,s1,h4,hd,g0,g5⟩ := trtFine_iff h
  generalize g.getD s.toNat 0 = G at *
  refine WR.idxA (ds := dL g) s rfl rfl rfl s0 (mA1 (f := dI) hd) rfl ?_
  refine WR.ev (ev_hasInts (fun p => !keepsP G a p) ps (fn := f_k3y) (caps := [.q [.s (dL a)],.q [dI G]]) hp.1 rfl rfl fun p hm => ev_TrtKeeps_1 p a G (List.all_eq_true.1 h2 p hm) h4 g0 g5) rfl rfl rfl (WR.done ?_)
  show [dB (!(ps.any fun p => !keepsP G a p))] = _
  rw [not_any,h]; rfl
end Go.Proofs.YtgiejmanbmeloaaGreatDoor
/- All sites keep to a treaty just if each does: over residual programs. -/
namespace Go.Proofs.YtgiejmanbmeloaaGreatDoor
open Go Go.Tm
theorem PartsFit.fitLL {n : Nat} {ps : List (List Int)} (h : PartsFit n ps) (hn : n ≤ 2000000) : fitLL ps := ⟨by have := h.len; omega,fun p hp => by rw [(h.each p hp).1]; omega⟩
end Go.Proofs.YtgiejmanbmeloaaGreatDoor
/- What the program's forms and acts come to. -/
namespace Go.Proofs.YtgiejmanbmeloaaGreatDoor
open Go Go.Tm
theorem head_dL (l : List Int) : headOk 1 (dL l) = true := by cases l <;> rfl
theorem head_dF (l : List Frm) : headOk 3 (dF l) = true := by cases l <;> rfl
theorem ev_clone1 (l : List Int) (hl : l.length ≤ 2000000) : Ev L f_k2m [.s (dL l)] [.s (dL l)] :=
  ev_clone L_k2m rfl (head_dL l) (by rw [dL1]; exact hl) (by omega)
theorem ev_equal (a b : List Int) (hl : a.length ≤ 2000000) : Ev L f_k29 [.s (dL a),.s (dL b)] [dB (decide (a = b))] :=
  ev_same dI .i a b L_k29 rfl (fun _ => rfl) (fun _ _ _ _ _ => rfl) hl
theorem ev_copied (f : Frm) (hf : Frm.fit f) : Ev L f_k2n f.cells f.cells := by
  refine Ev.eq (vs := [.l (dL f.c),.l (dL f.d),.i f.k]) L_k2n rfl ?_
  refine WR.ev (ev_clone1 f.c hf.1) rfl rfl rfl ?_
  exact WR.ev (ev_clone1 f.d hf.2) rfl rfl rfl (WR.done rfl)
theorem flats_dL : ∀ l : List Int,flats (dL l) = true
  | [] => rfl
  | x :: l => flats_dL l
theorem ev_forms (l : List Frm) (hl : l.length ≤ 2000000) (hf : ∀ f ∈ l,Frm.fit f) : Ev L f_k2o [.s (dF l)] [.s (dF l)] := by
  refine Ev.eq (vs := [.l (dF l)]) L_k2o rfl ?_
  refine WR.forP l.length (fun i => [.l (dF (l.take i)),.i i]) (fun _ => True) rfl rfl trivial fun i hi _ => ?_
  refine WR.iteLen i (dF_len l) rfl (fun h => ?_) (fun h => ?_)
  · obtain ⟨x,hx,hm⟩ := sA1 h
    refine WR.idxN i (mA1 (f := Frm.g) hx) rfl rfl rfl rfl ?_
    refine WR.ev (ev_copied x (hf x hm)) rfl rfl rfl ?_
    refine WR.fl (flats_dL x.c) (WR.fl (flats_dL x.d) ?_)
    refine WR.chkApp (dF (l.take i)) 2000000 (by rw [dF_len]; simp; omega) (by omega) rfl ?_
    refine WR.nextA (vs := [.l (dF (l.take (i + 1))),.i ((i + 1 : Nat) : Int)]) ?_ ⟨h,rfl,trivial⟩
    show [V.l (dF (l.take i) ++ [x.g]),V.i (IntKind.i64.wrap ((i : Int) + 1))] = _
    rw [wS h (by omega),dF_snoc,tS1 hx]
  · refine WR.esc (WR.done ?_)
    show [D.s (dF (l.take i))] = _
    rw [tA1 h]
theorem ev_ArgOk (l : List Int) (hl : l.length ≤ 2000000) : Ev L f_k3q [.s (dL l)] [dB (argOk l)] :=
  Ev.eq (vs := [.l (dL l)]) L_k3q rfl (WR.ev (ev_within l 2 9 hl (by omega) (by omega)) rfl rfl rfl (WR.done rfl))
theorem ev_iFrmOk (f : Frm) (hf : Frm.fit f) : Ev L f_k2p f.cells [dB f.ok] := by
  refine Ev.eq (vs := [.l (dL f.c),.l (dL f.d),.i f.k]) L_k2p rfl ?_
  refine WR.ev (ev_within f.c 3 10000000 hf.1 (by omega) (by omega)) rfl rfl rfl ?_
  refine WR.iteB (allIn 3 10000000 f.c) rfl (fun h => ?_) (fun h => WR.done ?_)
  · refine WR.ev (ev_within f.d 2 10000000 hf.2 (by omega) (by omega)) rfl rfl rfl ?_
    refine WR.iteB (allIn 2 10000000 f.d) rfl (fun h2 => ?_) (fun h2 => WR.done ?_)
    · refine WR.ev (ev_in f.k (-10000000) 10000000) rfl rfl rfl (WR.done ?_)
      show [dB (inB f.k (-10000000) 10000000)] = _
      simp [Frm.ok,h,h2]
    · show [dB false] = _
      simp [Frm.ok,h2]
  · show [dB false] = _
    simp [Frm.ok,h]
theorem ev_iSmall (f : Frm) (hf : Frm.fit f) : Ev L f_k28 f.cells [dB f.small] := by
  refine Ev.eq (vs := [.l (dL f.c),.l (dL f.d),.i f.k]) L_k28 rfl ?_
  refine WR.ev (ev_within f.c 3 2 hf.1 (by omega) (by omega)) rfl rfl rfl ?_
  refine WR.iteB (allIn 3 2 f.c) rfl (fun h => ?_) (fun h => WR.done ?_)
  · refine WR.ev (ev_within f.d 2 2 hf.2 (by omega) (by omega)) rfl rfl rfl ?_
    refine WR.iteB (allIn 2 2 f.d) rfl (fun h2 => ?_) (fun h2 => WR.done ?_)
    · refine WR.ev (ev_in f.k (-20) 20) rfl rfl rfl (WR.done ?_)
      show [dB (inB f.k (-20) 20)] = _
      simp [Frm.small,h,h2]
    · show [dB false] = _
      simp [Frm.small,h2]
  · show [dB false] = _
    simp [Frm.small,h]
theorem ev_iSame (f g : Frm) (hf : Frm.fit f) : Ev L f_k2a (f.cells ++ g.cells) [dB (decide (f = g))] := by
  refine Ev.eq (vs := [.l (dL f.c),.l (dL f.d),.i f.k,.l (dL g.c),.l (dL g.d),.i g.k]) L_k2a rfl ?_
  have e : decide (f = g) = (decide (f.k = g.k) && decide (f.c = g.c) && decide (f.d = g.d)) := by
    obtain ⟨a,b,c⟩ := f
    obtain ⟨a',b',c'⟩ := g
    simp only [Frm.mk.injEq]
    by_cases h1 : a = a' <;> by_cases h2 : b = b' <;> by_cases h3 : c = c' <;> simp [h1,h2,h3]
  rw [e]
  refine WR.iteP (f.k = g.k) rfl (fun h => ?_) (fun h => WR.done ?_)
  · refine WR.ev (ev_equal f.c g.c hf.1) rfl rfl rfl ?_
    refine WR.iteB (decide (f.c = g.c)) rfl (fun h2 => ?_) (fun h2 => WR.done ?_)
    · refine WR.ev (ev_equal f.d g.d hf.2) rfl rfl rfl (WR.done ?_)
      show [dB (decide (f.d = g.d))] = _
      simp only [h,h2]; simp
    · show [dB false] = _
      simp only [h2]; simp
  · show [dB false] = _
    simp only [h]; simp
theorem ev_iLine (l : Line) (hf : Frm.fit l.f) : Ev L f_k2b l.cells [dB l.ok] := by
  refine Ev.eq (vs := [.i l.kind,.i l.pot,.i l.skip,.l (dL l.f.c),.l (dL l.f.d),.i l.f.k]) L_k2b rfl ?_
  refine WR.iteP (l.kind = 1) rfl (fun h1 => ?_) (fun h1 => ?_)
  · refine WR.ev (ev_in l.skip 1 6) rfl rfl rfl ?_
    refine WR.iteB (inB l.skip 1 6) rfl (fun h3 => ?_) (fun h3 => WR.done ?_)
    · refine WR.iteP (l.pot = 0) rfl (fun h2 => ?_) (fun h2 => WR.done ?_)
      · refine WR.ev (ev_iSmall l.f hf) rfl rfl rfl (WR.done ?_)
        show [dB l.f.small] = _
        simp [Line.ok,h1,h2,h3]
      · show [dB false] = _
        simp [Line.ok,h1,h2]
    · show [dB false] = _
      simp [Line.ok,h1,h3]
  refine WR.iteP (l.kind = 2) rfl (fun h2 => ?_) (fun h2 => ?_)
  · refine WR.ev (ev_in l.pot 0 2) rfl rfl rfl ?_
    refine WR.iteB (inB l.pot 0 2) rfl (fun h3 => ?_) (fun h3 => WR.done ?_)
    · refine WR.iteP (l.skip = 0) rfl (fun h4 => ?_) (fun h4 => WR.done ?_)
      · refine WR.ev (ev_iSmall l.f hf) rfl rfl rfl (WR.done ?_)
        show [dB l.f.small] = _
        simp [Line.ok,h2,h3,h4]
      · show [dB false] = _
        simp [Line.ok,h2,h4]
    · show [dB false] = _
      simp [Line.ok,h2,h3]
  refine WR.iteP (l.kind = 3) rfl (fun h3 => ?_) (fun h3 => ?_)
  · refine WR.iteP (l.pot = 0) rfl (fun h4 => ?_) (fun h4 => WR.done ?_)
    · refine WR.iteP (l.skip = 0) rfl (fun h5 => ?_) (fun h5 => WR.done ?_)
      · refine WR.ev (ev_iSmall l.f hf) rfl rfl rfl (WR.done ?_)
        show [dB l.f.small] = _
        simp [Line.ok,h3,h4,h5]
      · show [dB false] = _
        simp [Line.ok,h3,h5]
    · show [dB false] = _
      simp [Line.ok,h3,h4]
  refine WR.iteP (l.kind = 4) rfl (fun h4 => ?_) (fun h4 => WR.done ?_)
  · refine WR.iteP (l.pot = 0) rfl (fun h5 => ?_) (fun h5 => WR.done ?_)
    · refine WR.iteP (l.skip = 0) rfl (fun h6 => ?_) (fun h6 => WR.done ?_)
      · refine WR.ev (ev_iSame l.f Frm.none hf) rfl rfl rfl (WR.done ?_)
        show [dB (decide (l.f = Frm.none))] = _
        have e : decide (l.f = Frm.none) = (decide (((l.f.c.length : Int) + l.f.d.length) = 0) && decide (l.f.k = 0)) := by
          obtain ⟨a,b,c⟩ := l.f
          have e1 : (Frm.mk a b c = Frm.none) ↔ ((((a.length : Int) + b.length) = 0) ∧ c = 0) := by
            simp only [Frm.none,Frm.mk.injEq]
            constructor
            · rintro ⟨rfl,rfl,rfl⟩; exact ⟨rfl,rfl⟩
            · rintro ⟨h,rfl⟩
              exact ⟨List.length_eq_zero_iff.1 (by omega),List.length_eq_zero_iff.1 (by omega),rfl⟩
          by_cases h : Frm.mk a b c = Frm.none
          · have := e1.1 h
            rw [decide_eq_true h,decide_eq_true this.1,decide_eq_true this.2]; rfl
          · rw [decide_eq_false h]
            symm
            rw [Bool.and_eq_false_iff]
            by_cases h1 : ((a.length : Int) + b.length) = 0
            · right
              simp only [decide_eq_false_iff_not]
              intro h2
              exact h (e1.2 ⟨h1,h2⟩)
            · left; simpa using h1
        rw [e]
        simp only [Line.ok,h4,h5,h6]; simp
      · show [dB false] = _
        simp [Line.ok,h4,h6]
    · show [dB false] = _
      simp [Line.ok,h4,h5]
  · show [dB false] = _
    simp [Line.ok,h1,h2,h3,h4]
theorem tests_succ {a : List Line} {i : Nat} {x : Line} (hx : a[i]? = some x) : tests (a.take (i + 1)) = tests (a.take i) + if x.kind = 1 then 1 else 0 := by
  rw [tS1 hx]
  simp [tests,List.countP_append,List.countP_cons]
theorem ev_iActOk (a : List Line) (ha : fitAct a) : Ev L f_k2c [.s (dAct a)] [dB (actOk a)] := by
  have hlen := ha.1
  refine Ev.eq (vs := [.l (dAct a)]) L_k2c rfl ?_
  refine WR.forP a.length (fun i => [.i (tests (a.take i)),.i i]) (fun i => (a.take i).all Line.ok = true) rfl rfl (by simp) fun i hi hal => ?_
  have htl : tests (a.take i) ≤ a.length := Nat.le_trans List.countP_le_length (by simp; omega)
  refine WR.iteLen i (dAct_len a) rfl (fun h => ?_) (fun h => ?_)
  · obtain ⟨x,hx,hm⟩ := sA1 h
    refine WR.idxN i (mA1 (f := Line.g) hx) rfl rfl rfl rfl ?_
    refine WR.ev (ev_iLine x (ha.2 x hm)) rfl rfl rfl ?_
    refine WR.iteN x.ok rfl (fun hb => WR.esc (WR.done ?_)) (fun hb => ?_)
    · show [dB false] = _
      simp [actOk,all_not hx hb]
    · have ht := tests_succ hx
      refine WR.iteP (x.kind = 1) rfl (fun h1 => ?_) (fun h1 => ?_)
      · refine WR.nextA (vs := [.i (tests (a.take (i + 1))),.i ((i + 1 : Nat) : Int)]) ?_ ⟨h,rfl,all_take hx hal hb⟩
        show [V.i (IntKind.i64.wrap ((tests (a.take i) : Int) + 1)),V.i (IntKind.i64.wrap ((i : Int) + 1))] = _
        rw [wS h (by omega),w64 (by omega) (by omega),ht,if_pos h1]; rfl
      · refine WR.nextA (vs := [.i (tests (a.take (i + 1))),.i ((i + 1 : Nat) : Int)]) ?_ ⟨h,rfl,all_take hx hal hb⟩
        show [V.i (tests (a.take i) : Int),V.i (IntKind.i64.wrap ((i : Int) + 1))] = _
        rw [wS h (by omega),ht,if_neg h1]; rfl
  · rw [tA1 h] at hal htl ⊢
    refine WR.esc ?_
    refine WR.iteP (((dAct a).length : Int) ≤ 6) rfl (fun h6 => WR.done ?_) (fun h6 => WR.done ?_)
    · rw [dAct_len] at h6
      show [dB (decide ((tests a : Int) ≤ 3))] = _
      simp only [actOk,hal,h6]; simp
    · rw [dAct_len] at h6
      show [dB false] = _
      simp only [actOk,h6]; simp
theorem ev_iZero : Ev L f_k2k [] Frm.zero.cells := Ev.eq (vs := []) L_k2k rfl (WR.done rfl)
theorem ev_iPot (v : Int) (h0 : 0 ≤ v) (h2 : v ≤ 2) : Ev L f_k2l [dI v] (potF v.toNat).cells := by
  refine Ev.eq (vs := [.i v]) L_k2l rfl ?_
  refine WR.ev (ev_in v 0 2) rfl rfl rfl ?_
  refine WR.iteF (by show (!(inB v 0 2)) = false; simp [inB,h0,h2]) ?_
  refine WR.ev ev_iZero rfl rfl rfl ?_
  refine WR.chkP (0 ≤ v) rfl h0 ?_
  refine WR.chkP (v < ((dL [0,0,0]).length : Int)) rfl (by simp [dL]; omega) ?_
  refine WR.idxA (ds := dL [0,0,0]) v rfl rfl rfl h0 (dL_get h0 (by simp; omega)) rfl ?_
  refine WR.done ?_
  show [D.s ((dL [0,0,0]).set v.toNat (dI 1)),.s (dL [0,0]),dI 0] = _
  rw [dL_set]; rfl
def addU (a b : List Int) (n : Int) : List Int := addL a b n ++ a.drop b.length
theorem addU_eq {a b : List Int} {n : Int} (h : b.length = a.length) : addU a b n = addL a b n := by simp [addU,h]
theorem addU_nil (a : List Int) (n : Int) : addU a [] n = a := by simp [addU,addL]
theorem addU_step {a b : List Int} {n : Int} {i : Nat} {x y : Int} (hl : b.length ≤ a.length) (hx : a[i]? = some x) (hy : b[i]? = some y) :
    (addL a (b.take i) n ++ a.drop i)[i]? = some x ∧ (addL a (b.take i) n ++ a.drop i).set i (x + n * y) = addL a (b.take (i + 1)) n ++ a.drop (i + 1) := by
  have hi := (List.getElem?_eq_some_iff.1 hy).1
  have h1 : (addL a (b.take i) n).length = i := by rw [addL_len]; simp; omega
  have hz : ∀ (l : List Int),l.length = i → addL a l n = addL (a.take i) l n := by
    intro l hl
    unfold addL
    conv => lhs; rw [← List.take_append_drop i a]
    rw [show l = l ++ [] by simp]
    rw [List.zipWith_append (by simp; omega)]
    simp
  refine ⟨by rw [List.getElem?_append_right (by omega),h1,Nat.sub_self,List.getElem?_drop,Nat.add_zero]; exact hx,?_⟩
  rw [List.set_append_right _ _ (by omega),h1,Nat.sub_self,drop_cons hx,List.set_cons_zero,tS1 hy]
  have h2 : addL a (b.take i ++ [y]) n = addL a (b.take i) n ++ [x + n * y] := by
    unfold addL
    conv => lhs; rw [← List.take_append_drop i a]
    rw [List.zipWith_append (by simp; omega),drop_cons hx]
    congr 1
    · have := hz (b.take i) (by simp; omega)
      unfold addL at this
      exact this.symm
    · simp
  rw [h2,List.append_assoc]; rfl
theorem ev_add {a b : Frm} {n M : Int} (hac : Lim M a.c) (had : Lim M a.d) (hak : -M ≤ a.k ∧ a.k ≤ M) (hbc : Lim M b.c) (hbd : Lim M b.d) (hbk : -M ≤ b.k ∧ b.k ≤ M) (hl : b.c.length ≤ a.c.length) (hl2 : b.d.length ≤ a.d.length) (h9 : a.c.length ≤ 1000) (h92 : a.d.length ≤ 1000)
    (hM : M ≤ 1000000000) (hn : -1000000000 ≤ n ∧ n ≤ 1000000000) :
    Ev L f_k2t (a.cells ++ b.cells ++ [dI n]) [dI (a.k + n * b.k),.s (dL (addU a.c b.c n)),.s (dL (addU a.d b.d n))] := by
  refine Ev.eq (vs := [.l (dL a.c),.l (dL a.d),.i a.k,.l (dL b.c),.l (dL b.d),.i b.k,.i n]) L_k2t rfl ?_
  refine WR.forP b.c.length (fun i => [.l (dL (addL a.c (b.c.take i) n ++ a.c.drop i)),.i i]) (fun _ => True) rfl (by simp [addL,den,envL,V.int]) trivial fun i hi _ => ?_
  simp only [sC,sN]
  refine WR.iteLen i (dL1 b.c) rfl (fun h => ?_) (fun h => ?_)
  · obtain ⟨x,hx,hmx⟩ := sA1 (show i < a.c.length by omega)
    obtain ⟨y,hy,hmy⟩ := sA1 h
    obtain ⟨s1,s2⟩ := addU_step (n := n) hl hx hy
    refine WR.idxN i (mA1 (f := dI) hy) rfl rfl rfl rfl ?_
    refine WR.atN i (mA1 (f := dI) s1) rfl rfl rfl rfl rfl rfl ?_
    refine WR.atN i (mA1 (f := dI) s1) rfl rfl rfl rfl rfl rfl ?_
    refine WR.nextA (vs := [.l (dL (addL a.c (b.c.take (i + 1)) n ++ a.c.drop (i + 1))),.i ((i + 1 : Nat) : Int)]) ?_ ⟨h,rfl,trivial⟩
    show [V.l ((dL (addL a.c (b.c.take i) n ++ a.c.drop i)).set (i : Int).toNat (dI (IntKind.i64.wrap (x + IntKind.i64.wrap (n * y))))),V.i (IntKind.i64.wrap ((i : Int) + 1))] = _
    rw [wS h (by omega),wrapsum (hac x hmx) (hbc y hmy) hn hM (by omega),dL_set,Int.toNat_natCast,s2]
  refine WR.esc ?_
  have hc : addL a.c (b.c.take i) n ++ a.c.drop i = addU a.c b.c n := by rw [tA1 h,show i = b.c.length by omega]; rfl
  rw [hc]
  refine WR.forP b.d.length (fun i => [.l (dL (addL a.d (b.d.take i) n ++ a.d.drop i)),.i i]) (fun _ => True) rfl (by simp [addL,den,envL,V.int]) trivial fun i hi _ => ?_
  simp only [sC,sN]
  refine WR.iteLen i (dL1 b.d) rfl (fun h => ?_) (fun h => ?_)
  · obtain ⟨x,hx,hmx⟩ := sA1 (show i < a.d.length by omega)
    obtain ⟨y,hy,hmy⟩ := sA1 h
    obtain ⟨s1,s2⟩ := addU_step (n := n) hl2 hx hy
    refine WR.idxN i (mA1 (f := dI) hy) rfl rfl rfl rfl ?_
    refine WR.atN i (mA1 (f := dI) s1) rfl rfl rfl rfl rfl rfl ?_
    refine WR.atN i (mA1 (f := dI) s1) rfl rfl rfl rfl rfl rfl ?_
    refine WR.nextA (vs := [.l (dL (addL a.d (b.d.take (i + 1)) n ++ a.d.drop (i + 1))),.i ((i + 1 : Nat) : Int)]) ?_ ⟨h,rfl,trivial⟩
    show [V.l ((dL (addL a.d (b.d.take i) n ++ a.d.drop i)).set (i : Int).toNat (dI (IntKind.i64.wrap (x + IntKind.i64.wrap (n * y))))),V.i (IntKind.i64.wrap ((i : Int) + 1))] = _
    rw [wS h (by omega),wrapsum (had x hmx) (hbd y hmy) hn hM (by omega),dL_set,Int.toNat_natCast,s2]
  refine WR.esc (WR.done ?_)
  have hd : addL a.d (b.d.take i) n ++ a.d.drop i = addU a.d b.d n := by rw [tA1 h,show i = b.d.length by omega]; rfl
  show [dI (IntKind.i64.wrap (a.k + IntKind.i64.wrap (n * b.k))),.s (dL (addU a.c b.c n)),.s (dL (addL a.d (b.d.take i) n ++ a.d.drop i))] = _
  rw [hd,wrapsum hak hbk hn hM (by omega)]
theorem ev_addS {a b : Frm} {n M : Int} (ha : Std M a) (hb : Std M b) (hM : M ≤ 1000000000) (hn : -1000000000 ≤ n ∧ n ≤ 1000000000) :
    Ev L f_k2t (a.cells ++ b.cells ++ [dI n]) [dI (sumF a b n).k,.s (dL (sumF a b n).c),.s (dL (sumF a b n).d)] := by
  have := ev_add (n := n) ha.lc ha.ld ha.k hb.lc hb.ld hb.k (by rw [ha.c,hb.c]; omega) (by rw [ha.d,hb.d]; omega) (by rw [ha.c]; omega) (by rw [ha.d]; omega) hM hn
  rw [addU_eq (by rw [ha.c,hb.c]),addU_eq (by rw [ha.d,hb.d])] at this
  exact this
theorem ev_checked {f : Frm} {M : Int} (hf : Std M f) (hM : M ≤ 10000000) : Ev L f_k2u f.cells f.cells := by
  refine Ev.eq (vs := [.l (dL f.c),.l (dL f.d),.i f.k]) L_k2u rfl ?_
  have e := ev_iFrmOk f hf.fit
  rw [hf.okF hM] at e
  exact WR.ev e rfl rfl rfl (WR.iteF rfl (WR.done rfl))
theorem ev_iTimes {f : Frm} {M n : Int} (hf : Std M f) (hM : M ≤ 10000000) (hn : -1 ≤ n ∧ n ≤ 1) (h0 : 0 ≤ M) : Ev L f_k2w (f.cells ++ [dI n]) (sumF Frm.zero f n).cells := by
  refine Ev.eq (vs := [.l (dL f.c),.l (dL f.d),.i f.k,.i n]) L_k2w rfl ?_
  have e := ev_iFrmOk f hf.fit
  rw [hf.okF hM] at e
  refine WR.ev e rfl rfl rfl (WR.iteF rfl ?_)
  refine WR.ev (ev_in n (-10000000) 10000000) rfl rfl rfl ?_
  refine WR.iteF (by show (!(inB n (-10000000) 10000000)) = false; simp [inB]; omega) ?_
  refine WR.ev ev_iZero rfl rfl rfl ?_
  refine WR.ev (ev_addS (zero_std.mono h0) hf (by omega) (n := n) (by omega)) rfl rfl rfl ?_
  have hs := sumF_std zero_std hf (n := n) (N := 1) (by omega)
  exact WR.ev (ev_checked (hs.mono (by omega)) hM) rfl rfl rfl (WR.done rfl)
theorem sumF_zero_zero {f g : Frm} {M N : Int} (hf : Std M f) (hg : Std N g) (n : Int) : sumF f (sumF Frm.zero g n) 1 = sumF f g n := by
  obtain ⟨c,d,k⟩ := f
  obtain ⟨c',d',k'⟩ := g
  obtain ⟨a1,a2,a3,rfl⟩ := len3 hf.c
  obtain ⟨b1,b2,rfl⟩ := len2 hf.d
  obtain ⟨a1',a2',a3',rfl⟩ := len3 hg.c
  obtain ⟨b1',b2',rfl⟩ := len2 hg.d
  simp [sumF,addL,Frm.zero]
theorem ev_iAdd {f g : Frm} {M : Int} (hf : Std M f) (hg : Std M g) (h0 : 0 ≤ M) (hM : 2 * M ≤ 10000000) : Ev L f_k2x (f.cells ++ g.cells) (sumF f g 1).cells := by
  refine Ev.eq (vs := [.l (dL f.c),.l (dL f.d),.i f.k,.l (dL g.c),.l (dL g.d),.i g.k]) L_k2x rfl ?_
  have e := ev_iFrmOk f hf.fit
  rw [hf.okF (by omega)] at e
  have e2 := ev_iFrmOk g hg.fit
  rw [hg.okF (by omega)] at e2
  refine WR.ev e rfl rfl rfl (WR.iteF rfl ?_)
  refine WR.ev e2 rfl rfl rfl (WR.iteF rfl ?_)
  refine WR.ev ev_iZero rfl rfl rfl ?_
  have e3 := ev_addS (zero_std.mono h0) hf (by omega) (n := 1) (by omega)
  rw [sumF_zero hf] at e3
  refine WR.ev e3 rfl rfl rfl ?_
  simp only [sC,sN]
  refine WR.ev (ev_addS hf hg (by omega) (n := 1) (by omega)) rfl rfl rfl ?_
  have hs := sumF_std hf hg (n := 1) (N := 1) (by omega)
  exact WR.ev (ev_checked hs (by omega)) rfl rfl rfl (WR.done rfl)
end Go.Proofs.YtgiejmanbmeloaaGreatDoor

/- The machine over trees, part d. -/
import Derived.Test.YtbikgdcgoogngaaTc
import Derived.ChangeSame
import Derived.JoinedOf
import Derived.JoinedAt
import Derived.RowKit3
import Derived.ProofKit
import Derived.ChangeSlices
import Derived.Carry
section
/- The model: bounds of forms under a treaty. -/
namespace Go.Tm

/-- How far all others may go. -/
def othersM (g : List Int) (s : Int) : Int := (g.zipIdx.map fun q => if (q.2 : Int) = s then 0 else q.1).sum

theorem others_step {g : List Int} {s : Int} {i : Nat} {x : Int} (h : g[i]? = some x) : othersM (g.take (i + 1)) s = othersM (g.take i) s + if (i : Int) = s then 0 else x := by
  have hi := (List.getElem?_eq_some_iff.1 h).1
  unfold othersM
  rw [take_succ h, List.zipIdx_append, List.map_append, List.sum_append]
  simp [show min i g.length = i by omega]

theorem others_le {g : List Int} {s : Int} (h : ∀ x ∈ g, 0 ≤ x ∧ x ≤ 50) (i : Nat) (hi : i ≤ g.length) : 0 ≤ othersM (g.take i) s ∧ othersM (g.take i) s ≤ 50 * i := by
  induction i with
  | zero => simp [othersM]
  | succ i ih =>
    have ih := ih (by omega)
    obtain ⟨x, hx, hm⟩ := some_at (show i < g.length by omega)
    have := h x hm
    rw [others_step hx]
    split <;> omega

theorem others_zero {g : List Int} {s : Int} (h : ∀ (i : Nat) (x : Int), g[i]? = some x → (i : Int) ≠ s → x = 0) : othersM g s = 0 := by
  have key : ∀ i, i ≤ g.length → othersM (g.take i) s = 0 := by
    intro i
    induction i with
    | zero => intro _; simp [othersM]
    | succ i ih =>
      intro hi
      obtain ⟨x, hx, hm⟩ := some_at (show i < g.length by omega)
      rw [others_step hx, ih (by omega)]
      split
      · rfl
      · rename_i hs; rw [h i x hx hs]; rfl
  have := key g.length (Nat.le_refl _)
  rwa [List.take_of_length_le (Nat.le_refl _)] at this

def sumL (a b : List Int) : List Int := List.zipWith (· + ·) a b

def boundsM (b g : List Int) (ps : List (List Int)) (s : Int) (a : List Int) (f : Frm) (w : List Int) : Int × Int × Bool :=
  if (trtOk b g && partsOk ps && inB s 0 (g.length - 1) && addedOk a) && f.ok && argOk w then
    let n := atF f (sumL b a) w
    if f.c = [0, 0, 0] then (n, n, true)
    else if partOf f.c ∈ ps then (n - othersM g s, n + othersM g s, true) else (0, 0, false)
  else (0, 0, false)

theorem ok_std {f : Frm} (h : f.ok = true) : Std 10000000 f := by
  simp only [Frm.ok, Bool.and_eq_true, allIn_iff, inB_iff] at h
  exact ⟨by omega, by omega, h.1.1.2, h.1.2.2, h.2⟩

theorem part_zero {c : List Int} (h : c.length = 3) : partOf c = [0, 0, 0] ↔ c = [0, 0, 0] := by
  constructor
  · intro hp
    rcases place_cases nz c with ⟨_, ha⟩ | ⟨i, x, _, hx, hnx, ht⟩
    · rw [sgn_none ha] at hp; exact hp
    · have hs := sgn_some hx hnx ht
      have hm : (partOf c)[i]? = some (sgn1 c * x) := by simp [partOf, hx]
      rw [hp] at hm
      have hz : sgn1 c * x = 0 := by
        match i, hm with
        | 0, hm | 1, hm | 2, hm => simp at hm; exact hm.symm
        | n + 3, hm => simp at hm
      have hx0 : x ≠ 0 := by simpa [nz] using hnx
      rw [hs] at hz
      split at hz <;> omega
  · intro hc; subst hc; decide

theorem dot_part {c : List Int} (x : List Int) : ∃ σ : Int, (σ = 1 ∨ σ = -1) ∧ dot c x = σ * dot (partOf c) x := by
  have scale : ∀ (k : Int) (c x : List Int), dot (c.map (k * ·)) x = k * dot c x := by
    intro k c
    induction c with
    | nil => intro x; simp [dot]
    | cons y c ih =>
      intro x
      cases x with
      | nil => simp [dot]
      | cons z x => simp only [List.map_cons, dot, ih, Int.mul_add, Int.mul_assoc]
  rcases place_cases nz c with ⟨_, ha⟩ | ⟨i, x', _, hx, hnx, ht⟩
  · exact ⟨1, .inl rfl, by rw [sgn_none ha]; omega⟩
  · have hs := sgn_some hx hnx ht
    unfold partOf
    rw [scale, hs]
    split
    · exact ⟨1, .inl rfl, by omega⟩
    · exact ⟨-1, .inr rfl, by omega⟩

/-- A sum of products with one of all sums. -/
theorem dot_sum {c a b : List Int} (h : a.length = b.length) (hc : c.length = a.length) : dot c (sumL a b) = dot c a + dot c b := by
  induction c generalizing a b with
  | nil => simp [dot]
  | cons x c ih =>
    cases a with
    | nil => simp at hc
    | cons y a =>
      cases b with
      | nil => simp at h
      | cons z b =>
        have := ih (a := a) (b := b) (by simpa using h) (by simpa using hc)
        simp only [sumL, List.zipWith_cons_cons, dot] at this ⊢
        rw [this, Int.mul_add]; omega

/-- All together. -/
def coSumM (b : List Int) (as : List (List Int)) : List Int := as.foldl sumL b

theorem sumL_len {a b : List Int} (h : b.length = a.length) : (sumL a b).length = a.length := by simp [sumL, h]
theorem coSum_len {b : List Int} {as : List (List Int)} (h : ∀ a ∈ as, a.length = b.length) : (coSumM b as).length = b.length := by
  induction as generalizing b with
  | nil => rfl
  | cons a as ih =>
    have h1 := h a (by simp)
    show (coSumM (sumL b a) as).length = _
    rw [ih (by intro x hx; rw [sumL_len h1]; exact h x (by simp [hx])), sumL_len h1]
theorem dot_coSum {c b : List Int} {as : List (List Int)} (h : ∀ a ∈ as, a.length = b.length) (hc : c.length = b.length) : dot c (coSumM b as) = dot c b + (as.map (dot c)).sum := by
  induction as generalizing b with
  | nil => simp [coSumM]
  | cons a as ih =>
    have h1 := h a (by simp)
    show dot c (coSumM (sumL b a) as) = _
    rw [ih (by intro x hx; rw [sumL_len h1]; exact h x (by simp [hx])) (by rw [sumL_len h1]; exact hc), dot_sum h1.symm hc, List.map_cons, List.sum_cons]; omega

/-- What others add is within what they may. -/
theorem others_bound {g : List Int} {s : Nat} {ds : List Int} (hl : ds.length = g.length) (h : ∀ (i : Nat) (x d : Int), g[i]? = some x → ds[i]? = some d → -x ≤ d ∧ d ≤ x) (hs : s < g.length) :
    -(othersM g s) ≤ ds.sum - ds.getD s 0 ∧ ds.sum - ds.getD s 0 ≤ othersM g s := by
  have key : ∀ i, i ≤ g.length → -(othersM (g.take i) s) ≤ (ds.take i).sum - (if s < i then ds.getD s 0 else 0) ∧ (ds.take i).sum - (if s < i then ds.getD s 0 else 0) ≤ othersM (g.take i) s := by
    intro i
    induction i with
    | zero => intro _; simp [othersM]
    | succ i ih =>
      intro hi
      have ih := ih (by omega)
      obtain ⟨x, hx, _⟩ := some_at (show i < g.length by omega)
      obtain ⟨d, hd, _⟩ := some_at (show i < ds.length by omega)
      have hb := h i x d hx hd
      have hsum : (ds.take (i + 1)).sum = (ds.take i).sum + d := by rw [take_succ hd]; simp
      rw [others_step hx, hsum]
      by_cases e : i = s
      · subst e
        rw [if_pos rfl, if_pos (by omega)]
        rw [if_neg (by omega)] at ih
        have hdd : ds.getD i 0 = d := by simp [List.getD_eq_getElem?_getD, hd]
        omega
      · rw [if_neg (by omega)]
        by_cases hsi : s < i
        · rw [if_pos (by omega)]; rw [if_pos hsi] at ih; omega
        · rw [if_neg (by omega)]; rw [if_neg hsi] at ih; omega
  have := key g.length (Nat.le_refl _)
  rw [List.take_of_length_le (Nat.le_refl _), List.take_of_length_le (by omega), if_pos hs] at this
  exact this

theorem sum_getD_dot {c : List Int} {as : List (List Int)} {s : Nat} {a : List Int} (h : as[s]? = some a) : (as.map (dot c)).getD s 0 = dot c a := by simp [List.getD_eq_getElem?_getD, h]

/-- WHAT ONE SITE KNOWS IS SO FOR ALL. -/
theorem bounds_so {b g : List Int} {ps as : List (List Int)} {s : Int} {a : List Int} {f : Frm} {w : List Int} {low high : Int} (hb : boundsM b g ps s a f w = (low, high, true)) (has : as[s.toNat]? = some a) (hall : trtAll b g ps as = true) :
    low ≤ atF f (coSumM b as) w ∧ atF f (coSumM b as) w ≤ high := by
  unfold boundsM at hb
  split at hb
  case isFalse => simp at hb
  rename_i hc
  simp only [Bool.and_eq_true, inB_iff] at hc
  obtain ⟨⟨⟨⟨⟨h1, h2⟩, h3⟩, h4⟩, h5⟩, h6⟩ := hc
  have hstd := ok_std h5
  have hb3 : b.length = 3 := by
    simp only [trtOk, valOk, Bool.and_eq_true, allIn_iff] at h1; omega
  simp only [trtAll, Bool.and_eq_true, decide_eq_true_eq, allIx_iff] at hall
  obtain ⟨⟨_, hlen⟩, hk⟩ := hall
  have hka : ∀ (i : Nat) (x : List Int), as[i]? = some x → x.length = 3 ∧ ∀ p ∈ ps, -(g.getD i 0) ≤ dot p x ∧ dot p x ≤ g.getD i 0 := by
    intro i x hx
    have := hk i x hx
    simp only [keeps, addedOk, Bool.and_eq_true, allIn_iff, List.all_eq_true, keepsP, inB_iff, Int.toNat_natCast] at this
    exact ⟨by omega, fun p hp => by have := this.2 p hp; omega⟩
  have hlens : ∀ x ∈ as, x.length = b.length := by
    intro x hx
    obtain ⟨i, hi⟩ := List.mem_iff_getElem?.1 hx
    rw [(hka i x hi).1, hb3]
  have ha3 : a.length = 3 := (hka _ _ has).1
  have hn : atF f (sumL b a) w = dot f.c b + dot f.c a + dot f.d w + f.k := by
    unfold atF; rw [dot_sum (by omega) (by rw [hstd.c]; omega)]
  have hN : atF f (coSumM b as) w = dot f.c b + (as.map (dot f.c)).sum + dot f.d w + f.k := by
    unfold atF; rw [dot_coSum hlens (by rw [hstd.c]; omega)]
  have hslt : s.toNat < g.length := by omega
  simp only at hb
  split at hb
  · rename_i hz
    simp only [Prod.mk.injEq, and_true] at hb
    obtain ⟨rfl, rfl⟩ := hb
    have zd : ∀ x : List Int, dot [0, 0, 0] x = 0 := by
      intro x
      have := dot_lim (a := [0, 0, 0]) (b := x) (A := 0) (B := (x.map Int.natAbs).sum) (by intro y hy; simp at hy; omega) (by
        intro y hy
        have hs : ∀ (l : List Int), y ∈ l → y.natAbs ≤ (l.map Int.natAbs).sum := by
          intro l
          induction l with
          | nil => intro h; simp at h
          | cons z l ih =>
            intro h
            simp only [List.map_cons, List.sum_cons]
            rcases List.mem_cons.1 h with rfl | h
            · omega
            · have := ih h; omega
        have := hs x hy
        omega) (by omega) (by omega)
      simp at this
      omega
    have zs : (as.map (dot [0, 0, 0])).sum = 0 := by
      have : ∀ l : List (List Int), (l.map (dot [0, 0, 0])).sum = 0 := by
        intro l
        induction l with
        | nil => rfl
        | cons x l ih => simp only [List.map_cons, List.sum_cons, zd, ih]; rfl
      exact this as
    rw [hn, hN, hz, zs, zd, zd]; omega
  · split at hb
    · rename_i hm
      simp only [Prod.mk.injEq, and_true] at hb
      obtain ⟨rfl, rfl⟩ := hb
      have ob := others_bound (s := s.toNat) (ds := as.map (dot f.c)) (by rw [List.length_map]; exact hlen) (by
        intro i x d hx hd
        rw [List.getElem?_map] at hd
        cases hai : as[i]? with
        | none => simp [hai] at hd
        | some y =>
          simp only [hai, Option.map_some, Option.some.injEq] at hd
          subst hd
          have hg : g.getD i 0 = x := by simp [List.getD_eq_getElem?_getD, hx]
          have hp := (hka i y hai).2 _ hm
          obtain ⟨σ, hσ, e⟩ := dot_part (c := f.c) y
          rw [e]
          rw [hg] at hp
          rcases hσ with rfl | rfl <;> omega) hslt
      rw [sum_getD_dot has] at ob
      have e : ((s.toNat : Nat) : Int) = s := by omega
      rw [e] at ob
      rw [hn, hN]
      omega
    · simp at hb

theorem bounds_le {b g : List Int} {ps : List (List Int)} {s : Int} {a : List Int} {f : Frm} {w : List Int} : (boundsM b g ps s a f w).1 ≤ (boundsM b g ps s a f w).2.1 := by
  unfold boundsM
  split
  · rename_i hc
    simp only [Bool.and_eq_true, trtOk, List.all_eq_true, inB_iff] at hc
    have := others_le (g := g) (s := s) (fun x hx => hc.1.1.1.1.1.2 x hx) g.length (Nat.le_refl _)
    rw [List.take_of_length_le (Nat.le_refl _)] at this
    simp only
    split
    · exact Int.le_refl _
    · split
      · simp only; omega
      · exact Int.le_refl _
  · exact Int.le_refl _
end Go.Tm
end

section
/- A law over bytes: from what its residual program comes to, to the row's own words. -/
open Go.ChangeShapes Go.WideShapes Go.ChangeAt Go.RowKit
namespace Go.Tm


theorem rd_ints {w : World} {b : Nat} {k : IntKind} : ∀ (ns : List Int) (off : Nat), (∀ i, i < ns.length → w.cell? ⟨b, off + i, none⟩ = some (.int k (ns.getD i 0))) → RdEs w (ns.map fun n => .v (.int k n)) 1 b off []
  | [], _, _ => rfl
  | n :: ns, off, h => by
    refine ⟨.int k n, [], [], rfl, ⟨rfl, rfl, rfl⟩, rfl, fun j hj => ?_, rd_ints ns (off + 1) fun i hi => ?_, fun u hu => ?_⟩
    · have : j = 0 := by omega
      subst this
      have := h 0 (by simp)
      simpa [Value.cells] using this
    · have := h (i + 1) (by simpa using hi)
      rw [show off + 1 + i = off + (i + 1) by omega]
      simpa using this
    · simp [Value.cells] at hu; subst hu; rfl

theorem law_calls {P : Program} {L : Tabl} (hm : P.follows .mixedOrders = true) (hL : AllGood P (sgOf L) L) {f : FuncId} {fl : Bool} (hs : sgOf L f = some (.d ⟨[.one .s], .one (.one .b), fl⟩)) {es : List D}
    (hEv : Ev L f [.s es] [.v (.bool true)]) {w : World} {v : Value} {fp : List Nat} (hr : Rd w (.s es) v fp) : Calls P f #[v] w fun e w' => e = .returned (.bool true) ∧ Below w.heap.size w w' := by
  obtain ⟨N, hN⟩ := hEv
  have hfn : (tabOf (sgOf L) (tbN L N)).fns f = some { F := dspec ⟨[.one .s], .one (.one .b), fl⟩ ((tbN L N).call f), flat := fl } := by
    unfold tabOf; simp only [hs]
  have h := ((tabOk hm hL N).fns f _ hfn).2 w [.s es] [v] fp (.v (.bool true)) ⟨v, [], fp, [], rfl, by simp, hr, rfl, rfl⟩ (by
    show (flattenD [.one .s] [.s es]).bind _ = _
    show (((tbN L N).call f [.s es]).bind fun os => buildR (.one (.one .b)) os) = _
    rw [hN]; rfl)
  refine h.mono fun e w' ⟨val, fp', he, hv, _, hb⟩ => ?_
  obtain ⟨rfl, _⟩ := hv
  exact ⟨he, hb⟩

section
variable {H : Type} {enc : TypeId × Value → H} {P : Program}
theorem post_of_below {f : Func} {s : ChangeSpec} {apart fresh handsOn again : Bool} {W W' : World} {args : Array Value} {v : Value} {ds gs : List (DataW H)} {before pa pv : List MemPlace}
    (hW : DataW.Whole enc P f.params.toList s.vars apart W args.toList ds gs before)
    (hres : ∀ (b : Nat) (sp : Nat → Bool) (hd : Bool), DataW.TrodAll enc P W' b sp hd f.resultTypes.toList (v.resultList f.resultTypes.size) (s.fn H (ds ++ gs)).results [])
    (hargs : ∀ sp : Nat → Bool, (∀ p ∈ before, sp p.block = true) → DataW.TrodAll enc P W' 0 sp true f.params.toList args.toList (s.fn H (ds ++ gs)).args pa)
    (hvars : ∀ sp : Nat → Bool, (∀ p ∈ before, sp p.block = true) → DataW.TrodVars enc P W' sp s.vars (s.fn H (ds ++ gs)).vars pv)
    (hps : before = pa ++ pv) (hb : Below W.heap.size W W')
    (hok : ∀ (j : Nat) (t : TypeId) (r : Value), f.resultTypes[j]? = some t → (v.resultList f.resultTypes.size)[j]? = some r → Value.okWide P W' .any 0 t r) :
    s.post enc P f apart fresh handsOn again W args v W' := by
  have hlt : ∀ p ∈ before, p.block < W.heap.size := fun p hp => hW.lt p hp
  have hold : ∀ p ∈ before, (fun b => decide (b < W.heap.size)) p.block = true := fun p hp => by simpa using hlt p hp
  refine ⟨ds, gs, before, [], pa, pv, hW, hres _ _ _, hargs _ hold, hvars _ hold, World.keptBut_mono (fun p hp => ⟨hp, ?_⟩) (hb.frame (· ∈ before)), fun _ => ?_⟩
  · rw [hps, List.mem_append] at hp
    exact Or.inr hp
  · obtain ⟨_, _, _, _, _, hz, hn⟩ := hW
    refine ⟨hok, _, _, ([] ++ pa) ++ pv, ⟨[] ++ pa, pv, trodAll_append (hargs _ (fun _ _ => rfl)) (hres _ _ _), hvars _ (fun _ _ => rfl), rfl, ?_, ?_⟩, ?_⟩
    · intro b off hp
      have hin : MemPlace.cell b off ∈ before := by rw [hps]; simpa using hp
      rw [hb.frozen (hlt _ hin)]
      exact hz b off hin
    · intro ha
      have := hn ha
      rw [hps] at this
      simpa using this
    · intro p hp _
      rw [hps]
      simpa using hp
end

/-- A slice of bytes, as data. -/
theorem open_bytes {H : Type} {enc : TypeId × Value → H} {P : Program} {w : World} {t e : TypeId} {d : DataW H} {ps : List MemPlace} {v : Value} (ht : P.underlying t = some (.slice e)) (he : P.underlying e = some (.int .u8)) (hc : P.cellsOf e = 1)
    (hv : ∃ a len cap, v = .slice a len cap) (h : DataW.Trod enc P w 0 (fun _ => true) true t v d ps) : ∃ ns fp, (∀ n ∈ ns, (Lit.int .u8 n).wf = true) ∧ Rd w (.s (bytesD ns)) v fp := by
  obtain ⟨fuel, h⟩ := h
  obtain ⟨a0, len0, cap0, rfl⟩ := hv
  rcases open_ints ht he hc h with ⟨hcs, _⟩ | ⟨a, len, cap, zs, hcs, _, hle, _, hl, _, hcell, hwf⟩
  · simp [Value.cells] at hcs
    obtain ⟨rfl, rfl, rfl⟩ := hcs
    exact ⟨[], [], by simp, ⟨none, 0, rfl, Nat.le_refl _, .inl ⟨rfl, rfl⟩⟩⟩
  · simp [Value.cells] at hcs
    obtain ⟨rfl, rfl, rfl⟩ := hcs
    simp only [if_true] at hl
    have hlen : (zs.take len0).length = len0 := by simp; omega
    refine ⟨zs.take len0, if len0 = 0 then [] else [a.block], fun n hn => hwf n (List.mem_of_mem_take hn), some a, cap0, by simp only [bytesD, List.length_map, hlen], by simp only [bytesD, List.length_map, hlen]; exact hle, ?_⟩
    by_cases h0 : len0 = 0
    · subst h0; exact .inl ⟨by simp [bytesD], by simp⟩
    · rw [if_neg h0]
      obtain ⟨gb, go, gs⟩ := a
      have hc0 := hcell 0 (by omega)
      have hgs : gs = none := by simpa [Addr.add] using World.cell?_spot hc0
      subst hgs
      refine .inr ⟨gb, go, 1, [], rfl, ?_, rfl, rd_ints _ _ fun i hi => ?_⟩
      · rw [add_plain] at hc0
        simp only [World.cell?] at hc0
        apply Classical.byContradiction
        intro hge
        rw [Array.getElem?_eq_none (Nat.le_of_not_lt hge)] at hc0
        simp at hc0
      · rw [hlen] at hi
        have := hcell i (by omega)
        rw [add_plain] at this
        rw [this]
        simp only [List.getD_eq_getElem?_getD, List.getElem?_take_of_lt hi]

theorem lift1 {C : Checked} {os : Os} {H : Type} {enc : TypeId × Value → H} {L : Tabl} {f : FuncId} {fn : Func} {s : ChangeSpec} {conds : List PathCond} {t e tb : TypeId} {fl fresh handsOn again : Bool} (hown : ownKnob C.prog.godebug = none) (started : os.Started) (hi : C.prog.inits.idxOf? f = none) (hf : C.prog.funcs[f]? = some fn)
    (wit : ∃ (w : World) (tape : Tape) (i : Input), w.os = os ∧ World.Shaped C.prog (w.forCall tape i) ∧ i.vars = [] ∧ Input.okWide C.prog (w.forCall tape i) Reach.any w.heap.size f i ∧
      ChangeSpec.pre6 enc C.prog fn s conds false (w.forCall tape i).memory i.args ∧ Assume.holds {} C.prog (lone (Frame.enter C.prog f i.args CallKind.normal) [] (w.forCall tape i)))
    (hpar : fn.params = #[t]) (hres : fn.resultTypes = #[tb]) (ht : C.prog.underlying t = some (.slice e)) (he : C.prog.underlying e = some (.int .u8)) (hc : C.prog.cellsOf e = 1) (htb : C.prog.underlying tb = some .bool)
    (hlo : laidOutB C.prog = true) (hread : C.prog.readableRec t = true) (hrow : t < C.prog.types.size) (hvars : s.vars = []) (hs : ∀ d, s.fn H [d] = { results := [.lit (.bool true)], args := [d] })
    (hm : C.prog.follows .mixedOrders = true) (hL : AllGood C.prog (sgOf L) L) (hsg : sgOf L f = some (.d ⟨[.one .s], .one (.one .b), fl⟩))
    (hEv : ∀ ns : List Int, (∀ n ∈ ns, (Lit.int .u8 n).wf = true) → Ev L f [.s (bytesD ns)] [.v (.bool true)]) :
    ReturnsInHanded {} C os f .any (s.pre6 enc C.prog fn conds false) (s.post enc C.prog fn false fresh handsOn again) := by
  refine returnsInHanded_of_change (C := C) hown started hi hf wit ?_
  intro W base args ds gs before hval hW _ _
  have hW' := hW
  obtain ⟨p, q, hA, hV, rfl, hfz, hnd⟩ := hW
  have hA0 := hA
  rw [hpar] at hA hval
  obtain ⟨v0, d0, rfl, rfl, h0⟩ := trodAll_one hA
  rw [hvars] at hV
  obtain ⟨rfl, rfl⟩ := trodVars_none hV
  obtain ⟨ns, fp, hwf, hrd⟩ := open_bytes ht he hc (okWide_slice ht (hval 0 t v0 rfl rfl)) h0
  refine (law_calls hm hL hsg (hEv ns hwf) hrd).mono fun e W' ⟨he, hb⟩ => ⟨_, he, ?_⟩
  have hlt : ∀ x ∈ p, x.block < W.heap.size := fun x hx => hW'.lt x (by simpa using hx)
  refine post_of_below (pa := p) (pv := []) hW' (fun _ _ _ => ?_) (fun sp hsp => ?_) (fun _ _ => by rw [hvars, List.append_nil, hs]; rfl) rfl hb ?_
  · rw [List.append_nil, hs, hres]
    exact trodAll_mk1 (shut_bool htb true)
  · rw [List.append_nil, hs, hpar]
    have := Below.trod hlo hread hrow h0 hb hlt
    exact trodAll_mk1 (WideElems.Trod_stays hlo hread hrow h0 (fun x hx => hb.same (hlt x hx)) (fun x hx => hsp x (by simpa using hx)))
  · exact ok_one hres rfl (okWide_bool_mk htb true)

theorem law_calls2 {P : Program} {L : Tabl} (hm : P.follows .mixedOrders = true) (hL : AllGood P (sgOf L) L) {f : FuncId} {fl : Bool} (hs : sgOf L f = some (.d ⟨[.one .s, .one .s], .one (.one .b), fl⟩)) {es es2 : List D}
    (hEv : Ev L f [.s es, .s es2] [.v (.bool true)]) {w : World} {v v2 : Value} {fp fp2 : List Nat} (hr : Rd w (.s es) v fp) (hr2 : Rd w (.s es2) v2 fp2) : Calls P f #[v, v2] w fun e w' => e = .returned (.bool true) ∧ Below w.heap.size w w' := by
  obtain ⟨N, hN⟩ := hEv
  have hfn : (tabOf (sgOf L) (tbN L N)).fns f = some { F := dspec ⟨[.one .s, .one .s], .one (.one .b), fl⟩ ((tbN L N).call f), flat := fl } := by
    unfold tabOf; simp only [hs]
  have h := ((tabOk hm hL N).fns f _ hfn).2 w [.s es, .s es2] [v, v2] (fp ++ fp2) (.v (.bool true)) ⟨v, [v2], fp, fp2, rfl, rfl, hr, v2, [], fp2, [], rfl, by simp, hr2, rfl, rfl⟩ (by
    show (flattenD [.one .s, .one .s] [.s es, .s es2]).bind _ = _
    show (((tbN L N).call f [.s es, .s es2]).bind fun os => buildR (.one (.one .b)) os) = _
    rw [hN]; rfl)
  refine h.mono fun e w' ⟨val, fp', he, hv, _, hb⟩ => ?_
  obtain ⟨rfl, _⟩ := hv
  exact ⟨he, hb⟩

theorem lift2 {C : Checked} {os : Os} {H : Type} {enc : TypeId × Value → H} {L : Tabl} {f : FuncId} {fn : Func} {s : ChangeSpec} {conds : List PathCond} {t e tb : TypeId} {fl fresh handsOn again : Bool} (hown : ownKnob C.prog.godebug = none) (started : os.Started) (hi : C.prog.inits.idxOf? f = none) (hf : C.prog.funcs[f]? = some fn)
    (wit : ∃ (w : World) (tape : Tape) (i : Input), w.os = os ∧ World.Shaped C.prog (w.forCall tape i) ∧ i.vars = [] ∧ Input.okWide C.prog (w.forCall tape i) Reach.any w.heap.size f i ∧
      ChangeSpec.pre6 enc C.prog fn s conds false (w.forCall tape i).memory i.args ∧ Assume.holds {} C.prog (lone (Frame.enter C.prog f i.args CallKind.normal) [] (w.forCall tape i)))
    (hpar : fn.params = #[t, t]) (hres : fn.resultTypes = #[tb]) (ht : C.prog.underlying t = some (.slice e)) (he : C.prog.underlying e = some (.int .u8)) (hc : C.prog.cellsOf e = 1) (htb : C.prog.underlying tb = some .bool)
    (hlo : laidOutB C.prog = true) (hread : C.prog.readableRec t = true) (hrow : t < C.prog.types.size) (hvars : s.vars = []) (hs : ∀ d d', s.fn H [d, d'] = { results := [.lit (.bool true)], args := [d, d'] })
    (hm : C.prog.follows .mixedOrders = true) (hL : AllGood C.prog (sgOf L) L) (hsg : sgOf L f = some (.d ⟨[.one .s, .one .s], .one (.one .b), fl⟩))
    (hEv : ∀ ns ms : List Int, (∀ n ∈ ns, (Lit.int .u8 n).wf = true) → (∀ n ∈ ms, (Lit.int .u8 n).wf = true) → Ev L f [.s (bytesD ns), .s (bytesD ms)] [.v (.bool true)]) :
    ReturnsInHanded {} C os f .any (s.pre6 enc C.prog fn conds false) (s.post enc C.prog fn false fresh handsOn again) := by
  refine returnsInHanded_of_change (C := C) hown started hi hf wit ?_
  intro W base args ds gs before hval hW _ _
  have hW' := hW
  obtain ⟨p, q, hA, hV, rfl, hfz, hnd⟩ := hW
  have hA0 := hA
  rw [hpar] at hA hval
  obtain ⟨v0, v1, d0, d1, p0, p1, rfl, rfl, rfl, h0, h1⟩ := trodAll_two hA
  rw [hvars] at hV
  obtain ⟨rfl, rfl⟩ := trodVars_none hV
  obtain ⟨ns, fp, hwf, hrd⟩ := open_bytes ht he hc (okWide_slice ht (hval 0 t v0 rfl rfl)) h0
  obtain ⟨ms, fp2, hwf2, hrd2⟩ := open_bytes ht he hc (okWide_slice ht (hval 1 t v1 rfl rfl)) h1
  refine (law_calls2 hm hL hsg (hEv ns ms hwf hwf2) hrd hrd2).mono fun e W' ⟨he, hb⟩ => ⟨_, he, ?_⟩
  have hlt : ∀ x ∈ p0 ++ p1, x.block < W.heap.size := fun x hx => hW'.lt x (by simpa using hx)
  refine post_of_below (pa := p0 ++ p1) (pv := []) hW' (fun _ _ _ => ?_) (fun sp hsp => ?_) (fun _ _ => by rw [hvars, List.append_nil, hs]; rfl) rfl hb ?_
  · rw [List.append_nil, hs, hres]
    exact trodAll_mk1 (shut_bool htb true)
  · rw [List.append_nil, hs, hpar]
    exact trodAll_mk2 (WideElems.Trod_stays hlo hread hrow h0 (fun x hx => hb.same (hlt x (by simp [hx]))) (fun x hx => hsp x (by simp [hx])))
      (WideElems.Trod_stays hlo hread hrow h1 (fun x hx => hb.same (hlt x (by simp [hx]))) (fun x hx => hsp x (by simp [hx])))
  · exact ok_one hres rfl (okWide_bool_mk htb true)

theorem bytes_in {ns : List Int} (h : ∀ n ∈ ns, (Lit.int .u8 n).wf = true) : ∀ x ∈ ns, 0 ≤ x ∧ x < 256 := by
  intro x hx
  have := h x hx
  simp [Lit.wf, IntKind.min, IntKind.max, IntKind.bits, IntKind.signed] at this
  omega

end Go.Tm
end

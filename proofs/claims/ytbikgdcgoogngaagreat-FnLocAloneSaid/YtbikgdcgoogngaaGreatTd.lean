/- The machine over trees, part d. -/
import Derived.Test.YtbikgdcgoogngaaGreatTc
import Derived.ChangeSame
import Derived.JoinedOf
import Derived.JoinedAt
import Derived.RowKit3
import Derived.ProofKit
import Derived.ChangeSlices
import Derived.Carry
section
/- The model: bounds of forms under a treaty. -/
namespace Go.Tm

/-- How far all others may go. -/
def othersM (g : List Int) (s : Int) : Int := (g.zipIdx.map fun q => if (q.2 : Int) = s then 0 else q.1).sum

theorem others_step {g : List Int} {s : Int} {i : Nat} {x : Int} (h : g[i]? = some x) : othersM (g.take (i + 1)) s = othersM (g.take i) s + if (i : Int) = s then 0 else x := by
  have hi := (List.getElem?_eq_some_iff.1 h).1
  unfold othersM
  rw [take_succ h, List.zipIdx_append, List.map_append, List.sum_append]
  simp [show min i g.length = i by omega]

theorem others_le {g : List Int} {s : Int} (h : ∀ x ∈ g, 0 ≤ x ∧ x ≤ 50) (i : Nat) (hi : i ≤ g.length) : 0 ≤ othersM (g.take i) s ∧ othersM (g.take i) s ≤ 50 * i := by
  induction i with
  | zero => simp [othersM]
  | succ i ih =>
    have ih := ih (by omega)
    obtain ⟨x, hx, hm⟩ := some_at (show i < g.length by omega)
    have := h x hm
    rw [others_step hx]
    split <;> omega

theorem others_zero {g : List Int} {s : Int} (h : ∀ (i : Nat) (x : Int), g[i]? = some x → (i : Int) ≠ s → x = 0) : othersM g s = 0 := by
  have key : ∀ i, i ≤ g.length → othersM (g.take i) s = 0 := by
    intro i
    induction i with
    | zero => intro _; simp [othersM]
    | succ i ih =>
      intro hi
      obtain ⟨x, hx, hm⟩ := some_at (show i < g.length by omega)
      rw [others_step hx, ih (by omega)]
      split
      · rfl
      · rename_i hs; rw [h i x hx hs]; rfl
  have := key g.length (Nat.le_refl _)
  rwa [List.take_of_length_le (Nat.le_refl _)] at this

def sumL (a b : List Int) : List Int := List.zipWith (· + ·) a b

def boundsM (b g : List Int) (ps : List (List Int)) (s : Int) (a : List Int) (f : Frm) (w : List Int) : Int × Int × Bool :=
  if (trtOk b g && partsOk ps && inB s 0 (g.length - 1) && addedOk a) && f.ok && argOk w then
    let n := atF f (sumL b a) w
    if f.c = [0, 0, 0] then (n, n, true)
    else if partOf f.c ∈ ps then (n - othersM g s, n + othersM g s, true) else (0, 0, false)
  else (0, 0, false)

theorem ok_std {f : Frm} (h : f.ok = true) : Std 10000000 f := by
  simp only [Frm.ok, Bool.and_eq_true, allIn_iff, inB_iff] at h
  exact ⟨by omega, by omega, h.1.1.2, h.1.2.2, h.2⟩

theorem part_zero {c : List Int} (h : c.length = 3) : partOf c = [0, 0, 0] ↔ c = [0, 0, 0] := by
  constructor
  · intro hp
    rcases place_cases nz c with ⟨_, ha⟩ | ⟨i, x, _, hx, hnx, ht⟩
    · rw [sgn_none ha] at hp; exact hp
    · have hs := sgn_some hx hnx ht
      have hm : (partOf c)[i]? = some (sgn1 c * x) := by simp [partOf, hx]
      rw [hp] at hm
      have hz : sgn1 c * x = 0 := by
        match i, hm with
        | 0, hm | 1, hm | 2, hm => simp at hm; exact hm.symm
        | n + 3, hm => simp at hm
      have hx0 : x ≠ 0 := by simpa [nz] using hnx
      rw [hs] at hz
      split at hz <;> omega
  · intro hc; subst hc; decide

theorem dot_part {c : List Int} (x : List Int) : ∃ σ : Int, (σ = 1 ∨ σ = -1) ∧ dot c x = σ * dot (partOf c) x := by
  have scale : ∀ (k : Int) (c x : List Int), dot (c.map (k * ·)) x = k * dot c x := by
    intro k c
    induction c with
    | nil => intro x; simp [dot]
    | cons y c ih =>
      intro x
      cases x with
      | nil => simp [dot]
      | cons z x => simp only [List.map_cons, dot, ih, Int.mul_add, Int.mul_assoc]
  rcases place_cases nz c with ⟨_, ha⟩ | ⟨i, x', _, hx, hnx, ht⟩
  · exact ⟨1, .inl rfl, by rw [sgn_none ha]; omega⟩
  · have hs := sgn_some hx hnx ht
    unfold partOf
    rw [scale, hs]
    split
    · exact ⟨1, .inl rfl, by omega⟩
    · exact ⟨-1, .inr rfl, by omega⟩

/-- A sum of products with one of all sums. -/
theorem dot_sum {c a b : List Int} (h : a.length = b.length) (hc : c.length = a.length) : dot c (sumL a b) = dot c a + dot c b := by
  induction c generalizing a b with
  | nil => simp [dot]
  | cons x c ih =>
    cases a with
    | nil => simp at hc
    | cons y a =>
      cases b with
      | nil => simp at h
      | cons z b =>
        have := ih (a := a) (b := b) (by simpa using h) (by simpa using hc)
        simp only [sumL, List.zipWith_cons_cons, dot] at this ⊢
        rw [this, Int.mul_add]; omega

/-- All together. -/
def coSumM (b : List Int) (as : List (List Int)) : List Int := as.foldl sumL b

theorem sumL_len {a b : List Int} (h : b.length = a.length) : (sumL a b).length = a.length := by simp [sumL, h]
theorem coSum_len {b : List Int} {as : List (List Int)} (h : ∀ a ∈ as, a.length = b.length) : (coSumM b as).length = b.length := by
  induction as generalizing b with
  | nil => rfl
  | cons a as ih =>
    have h1 := h a (by simp)
    show (coSumM (sumL b a) as).length = _
    rw [ih (by intro x hx; rw [sumL_len h1]; exact h x (by simp [hx])), sumL_len h1]
theorem dot_coSum {c b : List Int} {as : List (List Int)} (h : ∀ a ∈ as, a.length = b.length) (hc : c.length = b.length) : dot c (coSumM b as) = dot c b + (as.map (dot c)).sum := by
  induction as generalizing b with
  | nil => simp [coSumM]
  | cons a as ih =>
    have h1 := h a (by simp)
    show dot c (coSumM (sumL b a) as) = _
    rw [ih (by intro x hx; rw [sumL_len h1]; exact h x (by simp [hx])) (by rw [sumL_len h1]; exact hc), dot_sum h1.symm hc, List.map_cons, List.sum_cons]; omega

/-- What others add is within what they may. -/
theorem others_bound {g : List Int} {s : Nat} {ds : List Int} (hl : ds.length = g.length) (h : ∀ (i : Nat) (x d : Int), g[i]? = some x → ds[i]? = some d → -x ≤ d ∧ d ≤ x) (hs : s < g.length) :
    -(othersM g s) ≤ ds.sum - ds.getD s 0 ∧ ds.sum - ds.getD s 0 ≤ othersM g s := by
  have key : ∀ i, i ≤ g.length → -(othersM (g.take i) s) ≤ (ds.take i).sum - (if s < i then ds.getD s 0 else 0) ∧ (ds.take i).sum - (if s < i then ds.getD s 0 else 0) ≤ othersM (g.take i) s := by
    intro i
    induction i with
    | zero => intro _; simp [othersM]
    | succ i ih =>
      intro hi
      have ih := ih (by omega)
      obtain ⟨x, hx, _⟩ := some_at (show i < g.length by omega)
      obtain ⟨d, hd, _⟩ := some_at (show i < ds.length by omega)
      have hb := h i x d hx hd
      have hsum : (ds.take (i + 1)).sum = (ds.take i).sum + d := by rw [take_succ hd]; simp
      rw [others_step hx, hsum]
      by_cases e : i = s
      · subst e
        rw [if_pos rfl, if_pos (by omega)]
        rw [if_neg (by omega)] at ih
        have hdd : ds.getD i 0 = d := by simp [List.getD_eq_getElem?_getD, hd]
        omega
      · rw [if_neg (by omega)]
        by_cases hsi : s < i
        · rw [if_pos (by omega)]; rw [if_pos hsi] at ih; omega
        · rw [if_neg (by omega)]; rw [if_neg hsi] at ih; omega
  have := key g.length (Nat.le_refl _)
  rw [List.take_of_length_le (Nat.le_refl _), List.take_of_length_le (by omega), if_pos hs] at this
  exact this

theorem sum_getD_dot {c : List Int} {as : List (List Int)} {s : Nat} {a : List Int} (h : as[s]? = some a) : (as.map (dot c)).getD s 0 = dot c a := by simp [List.getD_eq_getElem?_getD, h]

/-- WHAT ONE SITE KNOWS IS SO FOR ALL. -/
theorem bounds_so {b g : List Int} {ps as : List (List Int)} {s : Int} {a : List Int} {f : Frm} {w : List Int} {low high : Int} (hb : boundsM b g ps s a f w = (low, high, true)) (has : as[s.toNat]? = some a) (hall : trtAll b g ps as = true) :
    low ≤ atF f (coSumM b as) w ∧ atF f (coSumM b as) w ≤ high := by
  unfold boundsM at hb
  split at hb
  case isFalse => simp at hb
  rename_i hc
  simp only [Bool.and_eq_true, inB_iff] at hc
  obtain ⟨⟨⟨⟨⟨h1, h2⟩, h3⟩, h4⟩, h5⟩, h6⟩ := hc
  have hstd := ok_std h5
  have hb3 : b.length = 3 := by
    simp only [trtOk, valOk, Bool.and_eq_true, allIn_iff] at h1; omega
  simp only [trtAll, Bool.and_eq_true, decide_eq_true_eq, allIx_iff] at hall
  obtain ⟨⟨_, hlen⟩, hk⟩ := hall
  have hka : ∀ (i : Nat) (x : List Int), as[i]? = some x → x.length = 3 ∧ ∀ p ∈ ps, -(g.getD i 0) ≤ dot p x ∧ dot p x ≤ g.getD i 0 := by
    intro i x hx
    have := hk i x hx
    simp only [keeps, addedOk, Bool.and_eq_true, allIn_iff, List.all_eq_true, keepsP, inB_iff, Int.toNat_natCast] at this
    exact ⟨by omega, fun p hp => by have := this.2 p hp; omega⟩
  have hlens : ∀ x ∈ as, x.length = b.length := by
    intro x hx
    obtain ⟨i, hi⟩ := List.mem_iff_getElem?.1 hx
    rw [(hka i x hi).1, hb3]
  have ha3 : a.length = 3 := (hka _ _ has).1
  have hn : atF f (sumL b a) w = dot f.c b + dot f.c a + dot f.d w + f.k := by
    unfold atF; rw [dot_sum (by omega) (by rw [hstd.c]; omega)]
  have hN : atF f (coSumM b as) w = dot f.c b + (as.map (dot f.c)).sum + dot f.d w + f.k := by
    unfold atF; rw [dot_coSum hlens (by rw [hstd.c]; omega)]
  have hslt : s.toNat < g.length := by omega
  simp only at hb
  split at hb
  · rename_i hz
    simp only [Prod.mk.injEq, and_true] at hb
    obtain ⟨rfl, rfl⟩ := hb
    have zd : ∀ x : List Int, dot [0, 0, 0] x = 0 := by
      intro x
      have := dot_lim (a := [0, 0, 0]) (b := x) (A := 0) (B := (x.map Int.natAbs).sum) (by intro y hy; simp at hy; omega) (by
        intro y hy
        have hs : ∀ (l : List Int), y ∈ l → y.natAbs ≤ (l.map Int.natAbs).sum := by
          intro l
          induction l with
          | nil => intro h; simp at h
          | cons z l ih =>
            intro h
            simp only [List.map_cons, List.sum_cons]
            rcases List.mem_cons.1 h with rfl | h
            · omega
            · have := ih h; omega
        have := hs x hy
        omega) (by omega) (by omega)
      simp at this
      omega
    have zs : (as.map (dot [0, 0, 0])).sum = 0 := by
      have : ∀ l : List (List Int), (l.map (dot [0, 0, 0])).sum = 0 := by
        intro l
        induction l with
        | nil => rfl
        | cons x l ih => simp only [List.map_cons, List.sum_cons, zd, ih]; rfl
      exact this as
    rw [hn, hN, hz, zs, zd, zd]; omega
  · split at hb
    · rename_i hm
      simp only [Prod.mk.injEq, and_true] at hb
      obtain ⟨rfl, rfl⟩ := hb
      have ob := others_bound (s := s.toNat) (ds := as.map (dot f.c)) (by rw [List.length_map]; exact hlen) (by
        intro i x d hx hd
        rw [List.getElem?_map] at hd
        cases hai : as[i]? with
        | none => simp [hai] at hd
        | some y =>
          simp only [hai, Option.map_some, Option.some.injEq] at hd
          subst hd
          have hg : g.getD i 0 = x := by simp [List.getD_eq_getElem?_getD, hx]
          have hp := (hka i y hai).2 _ hm
          obtain ⟨σ, hσ, e⟩ := dot_part (c := f.c) y
          rw [e]
          rw [hg] at hp
          rcases hσ with rfl | rfl <;> omega) hslt
      rw [sum_getD_dot has] at ob
      have e : ((s.toNat : Nat) : Int) = s := by omega
      rw [e] at ob
      rw [hn, hN]
      omega
    · simp at hb

theorem bounds_le {b g : List Int} {ps : List (List Int)} {s : Int} {a : List Int} {f : Frm} {w : List Int} : (boundsM b g ps s a f w).1 ≤ (boundsM b g ps s a f w).2.1 := by
  unfold boundsM
  split
  · rename_i hc
    simp only [Bool.and_eq_true, trtOk, List.all_eq_true, inB_iff] at hc
    have := others_le (g := g) (s := s) (fun x hx => hc.1.1.1.1.1.2 x hx) g.length (Nat.le_refl _)
    rw [List.take_of_length_le (Nat.le_refl _)] at this
    simp only
    split
    · exact Int.le_refl _
    · split
      · simp only; omega
      · exact Int.le_refl _
  · exact Int.le_refl _
end Go.Tm
end

section
/- The model: what a site does alone. -/
namespace Go.Tm

def stillM (ps : List Bool) (a : List Int) : Bool := (a.zip ps).all fun q => !(q.2 && !decide (q.1 = 0))
def sureM (b g : List Int) (ps : List (List Int)) (s : Int) (a w : List Int) (r : Row) : Bool := r.guards.all fun f => (boundsM b g ps s a f w).2.2 && decide (0 ≤ (boundsM b g ps s a f w).1)
def ovM (b g : List Int) (ps : List (List Int)) (s : Int) (a w : List Int) (v : Nat) : Bool := decide (10000 < (boundsM b g ps s a (potF v) w).1) || decide ((boundsM b g ps s a (potF v) w).2.1 < -10000)
def unM (b g : List Int) (ps : List (List Int)) (s : Int) (a w : List Int) (v : Nat) : Bool := decide ((boundsM b g ps s a (potF v) w).1 < -10000) || decide (10000 < (boundsM b g ps s a (potF v) w).2.1)

structure LocR where
  code : Int
  tells : List Int
  adds : List Int
  ok : Bool
def LocR.ds (r : LocR) : List D := [dI r.code, .s (dL r.tells), .s (dL r.adds), dB r.ok]

def rowLoc (b g : List Int) (ps : List (List Int)) (pins : List Bool) (s : Int) (a w : List Int) (r : Row) : LocR :=
  if r.stop then ⟨2, [], a, true⟩
  else if stillM pins (atL r.adds b w) && addedOk (sumL a (atL r.adds b w)) then
    if [0, 1, 2].any (ovM b g ps s (sumL a (atL r.adds b w)) w) then ⟨3, [], a, true⟩
    else if [0, 1, 2].any (unM b g ps s (sumL a (atL r.adds b w)) w) then ⟨0, [], a, false⟩
    else if keeps b g ps s (sumL a (atL r.adds b w)) then ⟨1, atL r.tells b w, sumL a (atL r.adds b w), true⟩
    else ⟨0, [], a, false⟩
  else ⟨0, [], a, false⟩

def locFine (as : List (List Line)) (b g : List Int) (s : Int) (a : List Int) (k : Int) (w : List Int) : Bool :=
  catOk as && inB k 0 (as.length - 1) && argOk w && (keeps b g (catForms as) s a && stillM (catPins as) a)
def locM (as : List (List Line)) (b g : List Int) (s : Int) (a : List Int) (k : Int) (w : List Int) : LocR :=
  if locFine as b g s a k w then
    match (rowsOf (as.getD k.toNat [])).find? (sureM b g (catForms as) s a w) with
    | some r => rowLoc b g (catForms as) (catPins as) s a w r
    | none => ⟨0, [], a, false⟩
  else ⟨0, [], [], false⟩

theorem find_at {α : Type} {p : α → Bool} {l : List α} {i : Nat} {x : α} (h : l[i]? = some x) (hx : p x = true) (ht : (l.take i).any p = false) : l.find? p = some x := by
  rw [List.find?_eq_some_iff_append]
  refine ⟨hx, l.take i, l.drop (i + 1), ?_, fun a ha => ?_⟩
  · obtain ⟨hi, rfl⟩ := List.getElem?_eq_some_iff.1 h
    rw [List.getElem_cons_drop, List.take_append_drop]
  · simp only [List.any_eq_false] at ht; simp [ht a ha]
theorem find_none {α : Type} {p : α → Bool} {l : List α} (h : l.any p = false) : l.find? p = none := by
  rw [List.find?_eq_none]
  simpa [List.any_eq_false] using h

theorem any_step {α : Type} {p : α → Bool} {l : List α} {k : Nat} {x : α} (h : l[k]? = some x) : (l.take (k + 1)).any p = ((l.take k).any p || p x) := by rw [take_succ h]; simp

/-! ### Bounds, where all is ok -/

def fineM (b g : List Int) (ps : List (List Int)) (s : Int) (a : List Int) : Bool := trtOk b g && partsOk ps && inB s 0 (g.length - 1) && addedOk a
def spreadM (f : Frm) (g : List Int) (s : Int) : Int := if f.c = [0, 0, 0] then 0 else othersM g s
def inParts (ps : List (List Int)) (f : Frm) : Prop := partOf f.c ∈ ps ∨ f.c = [0, 0, 0]

theorem bounds_eq {b g : List Int} {ps : List (List Int)} {s : Int} {a : List Int} {f : Frm} {w : List Int} (h : fineM b g ps s a = true) (hf : f.ok = true) (hw : argOk w = true) (hp : inParts ps f) :
    boundsM b g ps s a f w = (atF f (sumL b a) w - spreadM f g s, atF f (sumL b a) w + spreadM f g s, true) := by
  unfold fineM at h
  unfold boundsM spreadM
  rw [if_pos (by rw [h, hf, hw]; rfl)]
  by_cases hz : f.c = [0, 0, 0]
  · simp only [if_pos hz, Int.sub_zero, Int.add_zero]
  · simp only [if_neg hz, if_pos (hp.resolve_right hz)]

theorem keeps_fineM {b g : List Int} {ps : List (List Int)} {s : Int} {a : List Int} (h : keeps b g ps s a = true) : fineM b g ps s a = true := by
  unfold keeps at h; unfold fineM
  simp only [Bool.and_eq_true] at h ⊢
  exact h.1

theorem fine_in {b g : List Int} {ps : List (List Int)} {s : Int} {a : List Int} (h : fineM b g ps s a = true) :
    trtOk b g = true ∧ partsOk ps = true ∧ (0 ≤ s ∧ s < g.length) ∧ addedOk a = true ∧ (b.length = 3 ∧ Lim 10000 b) ∧ (a.length = 3 ∧ Lim 20000 a) ∧ (∀ x ∈ g, 0 ≤ x ∧ x ≤ 50) := by
  simp only [fineM, Bool.and_eq_true, inB_iff] at h
  obtain ⟨⟨⟨h1, h2⟩, h3⟩, h4⟩ := h
  have h1' := h1
  simp only [trtOk, valOk, Bool.and_eq_true, allIn_iff, List.all_eq_true, inB_iff] at h1'
  have h4' := allIn_iff.1 h4
  exact ⟨h1, h2, by omega, h4, ⟨by omega, h1'.1.1.2⟩, ⟨by omega, h4'.2⟩, h1'.2⟩

theorem others_in {g : List Int} {s : Int} (h : ∀ x ∈ g, 0 ≤ x ∧ x ≤ 50) : 0 ≤ othersM g s := by
  have := others_le (s := s) h g.length (Nat.le_refl _)
  rw [List.take_of_length_le (Nat.le_refl _)] at this
  exact this.1
theorem spread_in {f : Frm} {g : List Int} {s : Int} (h : ∀ x ∈ g, 0 ≤ x ∧ x ≤ 50) : 0 ≤ spreadM f g s := by
  unfold spreadM; split
  · omega
  · exact others_in h

/-- Whoever adds what is ok may add what is ok to it. -/
theorem fine_now {b g : List Int} {ps : List (List Int)} {s : Int} {a x : List Int} (h : fineM b g ps s a = true) (hx : addedOk x = true) : fineM b g ps s x = true := by
  unfold fineM at *
  simp only [Bool.and_eq_true] at h ⊢
  exact ⟨h.1, hx⟩

/-! ### Parts of what acts ask -/

theorem forms_prefix {as : List (List Line)} (h : catOk as = true) : pots0 <+: catForms as := by
  rw [catForms_eq h]; exact (addParts_ok _ _ pots0_ok).2.1

theorem pot_in {as : List (List Line)} (h : catOk as = true) {v : Nat} (hv : v < 3) : inParts (catForms as) (potF v) := by
  refine .inl ((forms_prefix h).subset ?_)
  match v, hv with
  | 0, _ | 1, _ | 2, _ => decide

theorem guard_in {as : List (List Line)} (h : catOk as = true) {a : List Line} (ha : a ∈ as) {r : Row} (hr : r ∈ rowsOf a) {f : Frm} (hf : f ∈ r.guards) : inParts (catForms as) f := by
  rw [catForms_eq h]
  rcases (addParts_ok (guardsOf as) _ pots0_ok).2.2 f (guardsOf_mem ha hr hf) with hm | hz
  · exact .inl hm
  · exact .inr ((part_zero ((rows_fit r hr).g f hf).c).1 hz)

theorem pot_ok (v : Nat) : (potF v).ok = true := potF_std.okF (by omega)
theorem pot_spread {g : List Int} {s : Int} {v : Nat} (hv : v < 3) : spreadM (potF v) g s = othersM g s := by
  unfold spreadM
  rw [if_neg]
  match v, hv with
  | 0, _ | 1, _ | 2, _ => decide

theorem pot_bounds {as : List (List Line)} {b g : List Int} {s : Int} {a w : List Int} (h : catOk as = true) (hf : fineM b g (catForms as) s a = true) (hw : argOk w = true) {v : Nat} (hv : v < 3) :
    boundsM b g (catForms as) s a (potF v) w = ((sumL b a).getD v 0 - othersM g s, (sumL b a).getD v 0 + othersM g s, true) := by
  rw [bounds_eq hf (pot_ok v) hw (pot_in h hv), pot_spread hv]
  obtain ⟨_, _, _, _, h5, h6, _⟩ := fine_in hf
  rw [at_pot (by rw [sumL_len (by omega)]; omega) (by have := (allIn_iff.1 hw).1; omega) v hv]

theorem mem_getD {as : List (List Line)} {k : Int} (h0 : 0 ≤ k) (h1 : k < as.length) : as.getD k.toNat [] ∈ as ∧ as[k.toNat]? = some (as.getD k.toNat []) := by
  have hk : k.toNat < as.length := by omega
  have e : as[k.toNat]? = some (as.getD k.toNat []) := by simp [List.getD_eq_getElem?_getD, hk]
  exact ⟨List.mem_of_getElem? e, e⟩

/-- What a row's guards hold at what the site has, where they surely hold. -/
theorem sure_holds {as : List (List Line)} {b g : List Int} {s : Int} {a w : List Int} {x : List Line} {r : Row} (h : catOk as = true) (hf : fineM b g (catForms as) s a = true) (hw : argOk w = true) (hx : x ∈ as) (hr : r ∈ rowsOf x) :
    sureM b g (catForms as) s a w r = r.guards.all fun f => decide (0 ≤ atF f (sumL b a) w - spreadM f g s) := by
  unfold sureM
  have key : ∀ f ∈ r.guards, ((boundsM b g (catForms as) s a f w).2.2 && decide (0 ≤ (boundsM b g (catForms as) s a f w).1)) = decide (0 ≤ atF f (sumL b a) w - spreadM f g s) := by
    intro f hm
    rw [bounds_eq hf (((rows_fit r hr).g f hm).okF (by omega)) hw (guard_in h hx hr hm)]; rfl
  rw [Bool.eq_iff_iff, List.all_eq_true, List.all_eq_true]
  constructor
  · intro h f hm; rw [← key f hm]; exact h f hm
  · intro h f hm; rw [key f hm]; exact h f hm

theorem find_one {α : Type} {l1 l2 : List α} {x : α} {p q : α → Bool} (h1 : ∀ y ∈ l1, q y = false) (h2 : ∀ y ∈ l2, q y = false) (hpq : ∀ y ∈ l1 ++ x :: l2, p y = true → q y = true) :
    (l1 ++ x :: l2).find? p = if p x then some x else none := by
  have n1 : l1.find? p = none := by
    rw [List.find?_eq_none]
    intro y hy hp
    have := hpq y (by simp [hy]) hp
    rw [h1 y hy] at this; cases this
  have n2 : l2.find? p = none := by
    rw [List.find?_eq_none]
    intro y hy hp
    have := hpq y (by simp [hy]) hp
    rw [h2 y hy] at this; cases this
  rw [List.find?_append, n1, Option.none_or, List.find?_cons]
  split
  · rename_i hp; rw [hp]; rfl
  · rename_i hp; rw [hp, n2]; rfl

/-- What is asked first, in parts. -/
theorem locFine_iff {as : List (List Line)} {b g : List Int} {s : Int} {a : List Int} {k : Int} {w : List Int} :
    locFine as b g s a k w = true ↔ catOk as = true ∧ (0 ≤ k ∧ k < as.length) ∧ argOk w = true ∧ keeps b g (catForms as) s a = true ∧ stillM (catPins as) a = true := by
  simp only [locFine, Bool.and_eq_true, inB_iff]
  constructor
  · rintro ⟨⟨⟨h1, h2⟩, h3⟩, h4, h5⟩; exact ⟨h1, by omega, h3, h4, h5⟩
  · rintro ⟨h1, h2, h3, h4, h5⟩; exact ⟨⟨⟨h1, by omega⟩, h3⟩, h4, h5⟩

/-- What comes of an act at a site alone: by the one row whose guards hold there. -/
theorem loc_one {as : List (List Line)} {b g : List Int} {s : Int} {a : List Int} {k : Int} {w : List Int} (h : locFine as b g s a k w = true) :
    ∃ r, r ∈ rowsOf (as.getD k.toNat []) ∧ guardsHold r (sumL b a) w = true ∧ (∀ y ∈ rowsOf (as.getD k.toNat []), guardsHold y (sumL b a) w = true → y = r) ∧
      ∀ g', (∀ x ∈ g', 0 ≤ x ∧ x ≤ 50) → fineM b g' (catForms as) s a = true → (rowsOf (as.getD k.toNat [])).find? (sureM b g' (catForms as) s a w) = if sureM b g' (catForms as) s a w r then some r else none := by
  obtain ⟨h1, h2, h3, h4, h5⟩ := locFine_iff.1 h
  obtain ⟨hm, hk⟩ := mem_getD (as := as) h2.1 h2.2
  have hf := keeps_fineM h4
  obtain ⟨_, _, _, _, hb, ha, hg⟩ := fine_in hf
  have hact : actOk (as.getD k.toNat []) = true := by
    simp only [catOk, Bool.and_eq_true, List.all_eq_true] at h1
    exact h1.2 _ hm
  obtain ⟨l1, l2, r, e1, e2, e3, e4, _⟩ := one_way (v := sumL b a) (w := w) hact (by rw [sumL_len (by omega)]; omega) (by have := (allIn_iff.1 h3).1; omega)
  refine ⟨r, by rw [e1]; simp, e2, ?_, ?_⟩
  · intro y hy hh
    rw [e1] at hy
    rcases List.mem_append.1 hy with hy | hy
    · rw [e3 y hy] at hh; cases hh
    · rcases List.mem_cons.1 hy with rfl | hy
      · rfl
      · rw [e4 y hy] at hh; cases hh
  · intro g' hg' hf'
    rw [e1]
    refine find_one (q := fun y => guardsHold y (sumL b a) w) e3 e4 fun y hy hs => ?_
    rw [← e1] at hy
    rw [sure_holds h1 hf' h3 hm hy] at hs
    unfold guardsHold
    simp only [List.all_eq_true, decide_eq_true_eq] at hs ⊢
    intro f hfm
    have := hs f hfm
    have := spread_in (f := f) (s := s) hg'
    omega

/-! ### Who gives more can do more -/

structure MoreG (g g' : List Int) (s : Int) : Prop where
  l : g'.length = g.length
  r : ∀ x ∈ g', 0 ≤ x ∧ x ≤ 50
  m : g.getD s.toNat 0 ≤ g'.getD s.toNat 0
  o : othersM g' s ≤ othersM g s

theorem MoreG.fine {b g g' : List Int} {ps : List (List Int)} {s : Int} {a : List Int} (h : MoreG g g' s) (hf : fineM b g ps s a = true) : fineM b g' ps s a = true := by
  unfold fineM trtOk at *
  simp only [Bool.and_eq_true, inB_iff, List.all_eq_true, h.l] at hf ⊢
  exact ⟨⟨⟨⟨hf.1.1.1.1, h.r⟩, hf.1.1.2⟩, hf.1.2⟩, hf.2⟩

theorem MoreG.keeps {b g g' : List Int} {ps : List (List Int)} {s : Int} {a : List Int} (h : MoreG g g' s) (hf : Go.Tm.keeps b g ps s a = true) : Go.Tm.keeps b g' ps s a = true := by
  have h1 := h.fine (keeps_fineM hf)
  unfold Go.Tm.keeps at *
  unfold fineM at h1
  rw [h1, Bool.true_and]
  simp only [Bool.and_eq_true, List.all_eq_true, keepsP, inB_iff] at hf ⊢
  intro p hp
  have := hf.2 p hp
  have := h.m
  omega

theorem MoreG.loc {as : List (List Line)} {b g g' : List Int} {s : Int} {a : List Int} {k : Int} {w : List Int} (h : MoreG g g' s) (hok : (locM as b g s a k w).ok = true) : locM as b g' s a k w = locM as b g s a k w := by
  by_cases hl : locFine as b g s a k w = true
  case neg => unfold locM at hok; rw [if_neg hl] at hok; simp at hok
  obtain ⟨r, hr, hrh, _, hfind⟩ := loc_one hl
  obtain ⟨h1, h2, h3, h4, h5⟩ := locFine_iff.1 hl
  have hl' : locFine as b g' s a k w = true := locFine_iff.2 ⟨h1, h2, h3, h.keeps h4, h5⟩
  obtain ⟨hm, _⟩ := mem_getD (as := as) h2.1 h2.2
  have hf := keeps_fineM h4
  have hf' := h.fine hf
  have hg := (fine_in hf).2.2.2.2.2.2
  have e := hfind g hg hf
  have e' := hfind g' h.r hf'
  unfold locM at hok ⊢
  rw [if_pos hl, e] at hok
  rw [if_pos hl, if_pos hl', e, e']
  by_cases hs : sureM b g (catForms as) s a w r = true
  case neg => rw [if_neg hs] at hok; simp at hok
  have hs' : sureM b g' (catForms as) s a w r = true := by
    rw [sure_holds h1 hf h3 hm hr] at hs
    rw [sure_holds h1 hf' h3 hm hr]
    simp only [List.all_eq_true, decide_eq_true_eq] at hs ⊢
    intro f hfm
    have := hs f hfm
    have : spreadM f g' s ≤ spreadM f g s := by
      unfold spreadM; split
      · omega
      · exact h.o
    omega
  rw [if_pos hs] at hok
  rw [if_pos hs, if_pos hs']
  simp only at hok ⊢
  unfold rowLoc at hok ⊢
  by_cases hst : r.stop = true
  · rw [if_pos hst, if_pos hst]
  rw [if_neg hst] at hok
  rw [if_neg hst, if_neg hst]
  by_cases hc : (stillM (catPins as) (atL r.adds b w) && addedOk (sumL a (atL r.adds b w))) = true
  case neg => rw [if_neg hc] at hok; simp at hok
  rw [if_pos hc] at hok
  rw [if_pos hc, if_pos hc]
  have hadd : addedOk (sumL a (atL r.adds b w)) = true := by simp only [Bool.and_eq_true] at hc; exact hc.2
  generalize sumL a (atL r.adds b w) = now at *
  have fn := fine_now hf hadd
  have fn' := fine_now hf' hadd
  have o0 := others_in (s := s) h.r
  have o1 := h.o
  have pb : ∀ v, v < 3 → _ := fun v hv => pot_bounds h1 fn h3 (v := v) hv
  have pb' : ∀ v, v < 3 → _ := fun v hv => pot_bounds h1 fn' h3 (v := v) hv
  simp only [List.any_cons, List.any_nil, Bool.or_false, ovM, unM, pb 0 (by omega), pb 1 (by omega), pb 2 (by omega), pb' 0 (by omega), pb' 1 (by omega), pb' 2 (by omega)] at hok ⊢
  by_cases ho : (decide (10000 < (sumL b now).getD 0 0 - othersM g s) || decide ((sumL b now).getD 0 0 + othersM g s < -10000) || (decide (10000 < (sumL b now).getD 1 0 - othersM g s) || decide ((sumL b now).getD 1 0 + othersM g s < -10000) || (decide (10000 < (sumL b now).getD 2 0 - othersM g s) || decide ((sumL b now).getD 2 0 + othersM g s < -10000)))) = true
  · rw [if_pos ho, if_pos]
    simp only [Bool.or_eq_true, decide_eq_true_eq] at ho ⊢
    omega
  rw [if_neg ho] at hok
  rw [if_neg ho]
  split at hok
  case isTrue => simp at hok
  rename_i hu
  split at hok
  case isFalse => simp at hok
  rename_i hk
  rw [if_neg hu, if_pos hk, if_neg, if_neg, if_pos (h.keeps hk)]
  · simp only [Bool.or_eq_true, decide_eq_true_eq] at hu ⊢; omega
  · simp only [Bool.or_eq_true, decide_eq_true_eq] at hu ho ⊢; omega

theorem loc_fine {as : List (List Line)} {b g : List Int} {s : Int} {a : List Int} {k : Int} {w : List Int} (h : (locM as b g s a k w).ok = true) : locFine as b g s a k w = true := by
  by_cases hl : locFine as b g s a k w = true
  · exact hl
  · unfold locM at h; rw [if_neg hl] at h; simp at h

theorem others_set {g : List Int} {s : Int} {i : Nat} {x y : Int} (hx : g[i]? = some x) : othersM (g.set i y) s = othersM g s + if (i : Int) = s then 0 else y - x := by
  have hi := (List.getElem?_eq_some_iff.1 hx).1
  have key : ∀ k, k ≤ g.length → othersM ((g.set i y).take k) s = othersM (g.take k) s + if i < k then (if (i : Int) = s then 0 else y - x) else 0 := by
    intro k
    induction k with
    | zero => intro _; simp [othersM]
    | succ k ih =>
      intro hk
      have ih := ih (by omega)
      obtain ⟨z, hz, _⟩ := some_at (show k < g.length by omega)
      by_cases hik : i = k
      · subst hik
        rw [hx] at hz; cases hz
        have hy : (g.set i y)[i]? = some y := by rw [List.getElem?_set]; simp [hi]
        rw [others_step hx, others_step hy, ih, if_neg (show ¬ i < i by omega), if_pos (show i < i + 1 by omega)]
        split <;> omega
      · have hy : (g.set i y)[k]? = some z := by rw [List.getElem?_set, if_neg hik]; exact hz
        rw [others_step hz, others_step hy, ih]
        by_cases hlt : i < k
        · rw [if_pos hlt, if_pos (show i < k + 1 by omega)]; omega
        · rw [if_neg hlt, if_neg (show ¬ i < k + 1 by omega)]; omega
  have := key g.length (Nat.le_refl _)
  rw [List.take_of_length_le (Nat.le_refl _), List.take_of_length_le (by simp), if_pos hi] at this
  exact this

theorem set_in {g : List Int} {i : Nat} {y : Int} (hg : ∀ x ∈ g, 0 ≤ x ∧ x ≤ 50) (hy : 0 ≤ y ∧ y ≤ 50) : ∀ x ∈ g.set i y, 0 ≤ x ∧ x ≤ 50 := by
  intro x hx
  rcases List.mem_or_eq_of_mem_set hx with h | h
  · exact hg x h
  · subst h; exact hy

theorem MoreG.same {g : List Int} {s : Int} (hg : ∀ x ∈ g, 0 ≤ x ∧ x ≤ 50) : MoreG g g s := ⟨rfl, hg, Int.le_refl _, Int.le_refl _⟩

theorem MoreG.up {g : List Int} {s : Int} {i : Nat} {x : Int} (hg : ∀ x ∈ g, 0 ≤ x ∧ x ≤ 50) (hx : g[i]? = some x) (hs : (i : Int) = s) (h : x < 50) : MoreG g (g.set i (x + 1)) s := by
  have hxx := hg x (List.mem_of_getElem? hx)
  have hi := (List.getElem?_eq_some_iff.1 hx).1
  refine ⟨by simp, set_in hg (by omega), ?_, ?_⟩
  · subst hs
    rw [Int.toNat_natCast, List.getD_eq_getElem?_getD, List.getD_eq_getElem?_getD, hx, List.getElem?_set]
    simp [hi]; omega
  · rw [others_set hx, if_pos hs]; omega

theorem MoreG.down {g : List Int} {s : Int} {i : Nat} {x : Int} (hg : ∀ x ∈ g, 0 ≤ x ∧ x ≤ 50) (hx : g[i]? = some x) (hs : ¬ (i : Int) = s) (s0 : 0 ≤ s) (h : 0 < x) : MoreG g (g.set i (x - 1)) s := by
  have hxx := hg x (List.mem_of_getElem? hx)
  refine ⟨by simp, set_in hg (by omega), ?_, ?_⟩
  · rw [List.getD_eq_getElem?_getD, List.getD_eq_getElem?_getD, List.getElem?_set, if_neg (by omega)]; omega
  · rw [others_set hx, if_neg hs]; omega
end Go.Tm
end

section
/- The model: what a site does that is alone, and one that may go nowhere. -/
namespace Go.Tm

theorem loc_eq {as : List (List Line)} {b g : List Int} {s : Int} {a : List Int} {k : Int} {w : List Int} (h : locFine as b g s a k w = true) :
    ∃ r, r ∈ rowsOf (as.getD k.toNat []) ∧ guardsHold r (sumL b a) w = true ∧ locM as b g s a k w = if sureM b g (catForms as) s a w r then rowLoc b g (catForms as) (catPins as) s a w r else ⟨0, [], a, false⟩ := by
  obtain ⟨r, hr, hh, _, hfind⟩ := loc_one h
  have hf := keeps_fineM (locFine_iff.1 h).2.2.2.1
  have e := hfind g (fine_in hf).2.2.2.2.2.2 hf
  refine ⟨r, hr, hh, ?_⟩
  unfold locM
  rw [if_pos h, e]
  by_cases hs : sureM b g (catForms as) s a w r = true
  · rw [if_pos hs, if_pos hs]
  · rw [if_neg hs, if_neg hs]

theorem keeps_pots {b g : List Int} {as : List (List Line)} {s : Int} {a : List Int} (h : catOk as = true) (hk : keeps b g (catForms as) s a = true) (hg : ∀ x ∈ g, x = 0) : a = [0, 0, 0] := by
  have ha := (fine_in (keeps_fineM hk)).2.2.2.2.2.1.1
  obtain ⟨x, y, z, rfl⟩ := len3 ha
  unfold keeps at hk
  simp only [Bool.and_eq_true, List.all_eq_true, keepsP, inB_iff] at hk
  have g0 : g.getD s.toNat 0 = 0 := by
    rw [List.getD_eq_getElem?_getD]
    cases hx : g[s.toNat]? with
    | none => rfl
    | some v => exact hg v (List.mem_of_getElem? hx)
  rw [g0] at hk
  have p := fun q hq => hk.2 q ((forms_prefix h).subset hq)
  have p0 := p [1, 0, 0] (by decide)
  have p1 := p [0, 1, 0] (by decide)
  have p2 := p [0, 0, 1] (by decide)
  simp only [dot] at p0 p1 p2
  simp only [List.cons.injEq, and_true]
  omega

/-- Who may go nowhere turns nothing. -/
theorem loc_nothing {as : List (List Line)} {b g : List Int} {s k : Int} {w : List Int} (hg : ∀ x ∈ g, x = 0) (hok : (locM as b g s [0, 0, 0] k w).ok = true) :
    (locM as b g s [0, 0, 0] k w).adds = [0, 0, 0] ∧ ((locM as b g s [0, 0, 0] k w).tells = [] ∨ (locM as b g s [0, 0, 0] k w).code = 1) := by
  have hl := loc_fine hok
  obtain ⟨r, _, _, e⟩ := loc_eq hl
  have h1 := (locFine_iff.1 hl).1
  rw [e] at hok ⊢
  by_cases hs : sureM b g (catForms as) s [0, 0, 0] w r = true
  case neg => rw [if_neg hs] at hok; simp at hok
  rw [if_pos hs] at hok ⊢
  unfold rowLoc at hok ⊢
  split
  · exact ⟨rfl, .inl rfl⟩
  · rename_i hst
    rw [if_neg hst] at hok
    split
    · rename_i hc
      rw [if_pos hc] at hok
      split
      · exact ⟨rfl, .inl rfl⟩
      · rename_i ho
        rw [if_neg ho] at hok
        split
        · rename_i hu; rw [if_pos hu] at hok; simp at hok
        · rename_i hu
          rw [if_neg hu] at hok
          split
          · rename_i hk
            exact ⟨keeps_pots h1 hk hg, .inr rfl⟩
          · rename_i hk; rw [if_neg hk] at hok; simp at hok
    · rename_i hc; rw [if_neg hc] at hok; simp at hok

theorem sumL_zero {b : List Int} (h : b.length = 3) : sumL b [0, 0, 0] = b := by
  obtain ⟨x, y, z, rfl⟩ := len3 h
  simp [sumL]
theorem zero_sumL {b : List Int} (h : b.length = 3) : sumL [0, 0, 0] b = b := by
  obtain ⟨x, y, z, rfl⟩ := len3 h
  simp [sumL]
theorem valOk_at {y : List Int} (h : y.length = 3) : valOk y = true ↔ (-10000 ≤ y.getD 0 0 ∧ y.getD 0 0 ≤ 10000) ∧ (-10000 ≤ y.getD 1 0 ∧ y.getD 1 0 ≤ 10000) ∧ (-10000 ≤ y.getD 2 0 ∧ y.getD 2 0 ≤ 10000) := by
  obtain ⟨a, b, c, rfl⟩ := len3 h
  simp [valOk, allIn, inB]
  
theorem still_zero {ps : List Bool} : stillM ps [0, 0, 0] = true := by
  unfold stillM
  rw [List.all_eq_true]
  rintro ⟨x, p⟩ hq
  have hx : x ∈ [0, 0, 0] := (List.of_mem_zip hq).1
  have : x = 0 := by simpa using hx
  subst this; simp

theorem spread_zero {f : Frm} {g : List Int} {s : Int} (h : othersM g s = 0) : spreadM f g s = 0 := by unfold spreadM; split <;> simp [h]

theorem keeps_zero {b g : List Int} {as : List (List Line)} (hp : partsOk (catForms as) = true) (ht : trtOk b g = true) : keeps b g (catForms as) 0 [0, 0, 0] = true := by
  have ht' := ht
  simp only [trtOk, Bool.and_eq_true, inB_iff, List.all_eq_true] at ht'
  unfold keeps
  have g0 := ht'.2
  have hl := ht'.1.2
  obtain ⟨x, hx, hm⟩ := some_at (show 0 < g.length by omega)
  have e : g.getD (0 : Int).toNat 0 = x := by simp [List.getD_eq_getElem?_getD, hx]
  have := g0 x hm
  rw [ht, hp, e]
  simp only [Bool.true_and, Bool.and_eq_true, inB_iff, List.all_eq_true]
  refine ⟨⟨by omega, by decide⟩, fun p hpp => ?_⟩
  have h3 : p.length = 3 := by
    simp only [partsOk, List.all_eq_true, allIn_iff] at hp
    have := (hp p hpp).1; omega
  obtain ⟨u, v, w, rfl⟩ := len3 h3
  unfold keepsP
  rw [inB_iff]
  simp only [dot, Int.mul_zero, Int.add_zero]
  omega

/-- Whoever is alone can do all but what is pinned, and too much. -/
theorem loc_alone {as : List (List Line)} {b g : List Int} {k : Int} {w : List Int} (hp : partsOk (catForms as) = true) (h1 : catOk as = true) (ht : trtOk b g = true) (hg1 : g.length = 1) (hw : argOk w = true) (hk : 0 ≤ k ∧ k < as.length) :
    ∃ (A : Res), A = actRun (as.getD k.toNat []) b w ∧ A.is.length = 3 ∧ Lim 10000 A.is ∧
      (A.code = 3 ∨ (locM as b g 0 [0, 0, 0] k w).ok = (stillM (catPins as) (List.zipWith (· - ·) A.is b) && keeps b g (catForms as) 0 (List.zipWith (· - ·) A.is b)) ∨ (A.code = 2 ∧ (locM as b g 0 [0, 0, 0] k w).ok = true)) ∧
      ((locM as b g 0 [0, 0, 0] k w).ok = true → A.code = (locM as b g 0 [0, 0, 0] k w).code ∧ A.tells = (locM as b g 0 [0, 0, 0] k w).tells) := by
  have hkz := keeps_zero (as := as) hp ht
  have hl : locFine as b g 0 [0, 0, 0] k w = true := locFine_iff.2 ⟨h1, hk, hw, hkz, still_zero⟩
  have hf := keeps_fineM hkz
  obtain ⟨_, _, _, _, hb3, _, hg⟩ := fine_in hf
  obtain ⟨hm, _⟩ := mem_getD (as := as) hk.1 hk.2
  obtain ⟨r, hr, hh, e⟩ := loc_eq hl
  rw [sumL_zero hb3.1] at hh
  have hvb : valOk b = true := allIn_iff.2 ⟨by omega, hb3.2⟩
  have hw2 : w.length = 2 := by have := (allIn_iff.1 hw).1; omega
  have hact : actOk (as.getD k.toNat []) = true := by
    simp only [catOk, Bool.and_eq_true, List.all_eq_true] at h1
    exact h1.2 _ hm
  have hO : othersM g 0 = 0 := others_zero fun i x hx hne => by
    have := (List.getElem?_eq_some_iff.1 hx).1
    omega
  have hs : sureM b g (catForms as) 0 [0, 0, 0] w r = true := by
    rw [sure_holds h1 hf hw hm hr, sumL_zero hb3.1]
    unfold guardsHold at hh
    simp only [List.all_eq_true, decide_eq_true_eq] at hh ⊢
    intro f hfm
    rw [spread_zero hO]
    have := hh f hfm
    omega
  rw [if_pos hs] at e
  have hres := (fits_one hact hb3.1 hw2).2 r hr hh
  have hA : actRun (as.getD k.toNat []) b w = rowRes r b w := by
    rw [hres]; unfold actRun; rw [hact, hvb, hw]; rfl
  refine ⟨rowRes r b w, hA.symm, ?_⟩
  have hfr := rows_fit r hr
  rw [e]
  unfold rowRes rowLoc
  by_cases hst : r.stop = true
  · rw [if_pos hst, if_pos hst]
    exact ⟨hb3.1, hb3.2, .inr (.inr ⟨rfl, rfl⟩), fun _ => ⟨rfl, rfl⟩⟩
  rw [if_neg hst, if_neg hst]
  have hx3 : (atL r.adds b w).length = 3 := by
    have := hfr.ns (by simpa using hst)
    simp [atL, this]
  generalize atL r.adds b w = x at *
  generalize atL r.tells b w = tl
  rw [zero_sumL hx3]
  have hy : List.zipWith (· + ·) b x = sumL b x := rfl
  rw [hy]
  have hy3 : (sumL b x).length = 3 := by rw [sumL_len (by omega)]; exact hb3.1
  have hsub : List.zipWith (· - ·) (sumL b x) b = x := by
    obtain ⟨b1, b2, b3, rfl⟩ := len3 hb3.1
    obtain ⟨x1, x2, x3, rfl⟩ := len3 hx3
    simp only [sumL, List.zipWith_cons_cons, List.zipWith_nil_left, List.cons.injEq, and_true]
    omega
  unfold endOf
  have hpb : addedOk x = true → ∀ v, v < 3 → boundsM b g (catForms as) 0 x (potF v) w = ((sumL b x).getD v 0, (sumL b x).getD v 0, true) := by
    intro ha v hv
    rw [pot_bounds h1 (fine_now hf ha) hw hv, hO]; simp
  by_cases hv : valOk (sumL b x) = true
  · rw [if_pos hv]
    have hyl : Lim 10000 (sumL b x) := (allIn_iff.1 hv).2
    refine ⟨hy3, hyl, .inr (.inl ?_), ?_⟩
    all_goals try simp only [hsub]
    all_goals
      have ha : addedOk x = true := by
        rw [← hsub]
        refine allIn_iff.2 ⟨by simp [hy3, hb3.1], ?_⟩
        have hb2 := hb3.2
        obtain ⟨b1, b2, b3, rfl⟩ := len3 hb3.1
        obtain ⟨y1, y2, y3, hyy⟩ := len3 hy3
        rw [hyy] at hyl ⊢
        intro z hz
        have q1 := hyl y1 (by simp)
        have q2 := hyl y2 (by simp)
        have q3 := hyl y3 (by simp)
        have r1 := hb2 b1 (by simp)
        have r2 := hb2 b2 (by simp)
        have r3 := hb2 b3 (by simp)
        simp only [List.zipWith_cons_cons, List.zipWith_nil_left, List.mem_cons, List.not_mem_nil, or_false] at hz
        rcases hz with rfl | rfl | rfl <;> omega
      have hvv := (valOk_at hy3).1 hv
      have hov : [0, 1, 2].any (ovM b g (catForms as) 0 x w) = false := by
        simp only [List.any_cons, List.any_nil, ovM, hpb ha 0 (by omega), hpb ha 1 (by omega), hpb ha 2 (by omega), Bool.or_false, Bool.or_eq_false_iff, decide_eq_false_iff_not]
        omega
      have hun : [0, 1, 2].any (unM b g (catForms as) 0 x w) = false := by
        simp only [List.any_cons, List.any_nil, unM, hpb ha 0 (by omega), hpb ha 1 (by omega), hpb ha 2 (by omega), Bool.or_false, Bool.or_eq_false_iff, decide_eq_false_iff_not]
        omega
      rw [ha, hov, hun]
      by_cases hs2 : stillM (catPins as) x = true
      · rw [hs2]
        by_cases hk2 : keeps b g (catForms as) 0 x = true
        · simp [hk2]
        · simp [hk2]
      · simp [hs2]
  · rw [if_neg hv]
    refine ⟨hb3.1, hb3.2, .inl rfl, ?_⟩
    by_cases hc : (stillM (catPins as) x && addedOk x) = true
    · rw [if_pos hc]
      simp only [Bool.and_eq_true] at hc
      rw [if_pos]
      · exact fun _ => ⟨rfl, rfl⟩
      · apply Classical.byContradiction
        intro hno
        apply hv
        rw [valOk_at hy3]
        simp only [List.any_cons, List.any_nil, ovM, hpb hc.2 0 (by omega), hpb hc.2 1 (by omega), hpb hc.2 2 (by omega), Bool.or_false, Bool.or_eq_true, decide_eq_true_eq] at hno
        omega
    · rw [if_neg hc]; simp
end Go.Tm
end

section
/- A law over bytes: from what its residual program comes to, to the row's own words. -/
open Go.ChangeShapes Go.WideShapes Go.ChangeAt Go.RowKit
namespace Go.Tm


theorem rd_ints {w : World} {b : Nat} {k : IntKind} : ∀ (ns : List Int) (off : Nat), (∀ i, i < ns.length → w.cell? ⟨b, off + i, none⟩ = some (.int k (ns.getD i 0))) → RdEs w (ns.map fun n => .v (.int k n)) 1 b off []
  | [], _, _ => rfl
  | n :: ns, off, h => by
    refine ⟨.int k n, [], [], rfl, ⟨rfl, rfl, rfl⟩, rfl, fun j hj => ?_, rd_ints ns (off + 1) fun i hi => ?_, fun u hu => ?_⟩
    · have : j = 0 := by omega
      subst this
      have := h 0 (by simp)
      simpa [Value.cells] using this
    · have := h (i + 1) (by simpa using hi)
      rw [show off + 1 + i = off + (i + 1) by omega]
      simpa using this
    · simp [Value.cells] at hu; subst hu; rfl

theorem law_calls {P : Program} {L : Tabl} (hm : P.follows .mixedOrders = true) (hL : AllGood P (sgOf L) L) {f : FuncId} {fl : Bool} (hs : sgOf L f = some (.d ⟨[.one .s], .one (.one .b), fl⟩)) {es : List D}
    (hEv : Ev L f [.s es] [.v (.bool true)]) {w : World} {v : Value} {fp : List Nat} (hr : Rd w (.s es) v fp) : Calls P f #[v] w fun e w' => e = .returned (.bool true) ∧ Below w.heap.size w w' := by
  obtain ⟨N, hN⟩ := hEv
  have hfn : (tabOf (sgOf L) (tbN L N)).fns f = some { F := dspec ⟨[.one .s], .one (.one .b), fl⟩ ((tbN L N).call f), flat := fl } := by
    unfold tabOf; simp only [hs]
  have h := ((tabOk hm hL N).fns f _ hfn).2 w [.s es] [v] fp (.v (.bool true)) ⟨v, [], fp, [], rfl, by simp, hr, rfl, rfl⟩ (by
    show (flattenD [.one .s] [.s es]).bind _ = _
    show (((tbN L N).call f [.s es]).bind fun os => buildR (.one (.one .b)) os) = _
    rw [hN]; rfl)
  refine h.mono fun e w' ⟨val, fp', he, hv, _, hb⟩ => ?_
  obtain ⟨rfl, _⟩ := hv
  exact ⟨he, hb⟩

section
variable {H : Type} {enc : TypeId × Value → H} {P : Program}
theorem post_of_below {f : Func} {s : ChangeSpec} {apart fresh handsOn again : Bool} {W W' : World} {args : Array Value} {v : Value} {ds gs : List (DataW H)} {before pa pv : List MemPlace}
    (hW : DataW.Whole enc P f.params.toList s.vars apart W args.toList ds gs before)
    (hres : ∀ (b : Nat) (sp : Nat → Bool) (hd : Bool), DataW.TrodAll enc P W' b sp hd f.resultTypes.toList (v.resultList f.resultTypes.size) (s.fn H (ds ++ gs)).results [])
    (hargs : ∀ sp : Nat → Bool, (∀ p ∈ before, sp p.block = true) → DataW.TrodAll enc P W' 0 sp true f.params.toList args.toList (s.fn H (ds ++ gs)).args pa)
    (hvars : ∀ sp : Nat → Bool, (∀ p ∈ before, sp p.block = true) → DataW.TrodVars enc P W' sp s.vars (s.fn H (ds ++ gs)).vars pv)
    (hps : before = pa ++ pv) (hb : Below W.heap.size W W')
    (hok : ∀ (j : Nat) (t : TypeId) (r : Value), f.resultTypes[j]? = some t → (v.resultList f.resultTypes.size)[j]? = some r → Value.okWide P W' .any 0 t r) :
    s.post enc P f apart fresh handsOn again W args v W' := by
  have hlt : ∀ p ∈ before, p.block < W.heap.size := fun p hp => hW.lt p hp
  have hold : ∀ p ∈ before, (fun b => decide (b < W.heap.size)) p.block = true := fun p hp => by simpa using hlt p hp
  refine ⟨ds, gs, before, [], pa, pv, hW, hres _ _ _, hargs _ hold, hvars _ hold, World.keptBut_mono (fun p hp => ⟨hp, ?_⟩) (hb.frame (· ∈ before)), fun _ => ?_⟩
  · rw [hps, List.mem_append] at hp
    exact Or.inr hp
  · obtain ⟨_, _, _, _, _, hz, hn⟩ := hW
    refine ⟨hok, _, _, ([] ++ pa) ++ pv, ⟨[] ++ pa, pv, trodAll_append (hargs _ (fun _ _ => rfl)) (hres _ _ _), hvars _ (fun _ _ => rfl), rfl, ?_, ?_⟩, ?_⟩
    · intro b off hp
      have hin : MemPlace.cell b off ∈ before := by rw [hps]; simpa using hp
      rw [hb.frozen (hlt _ hin)]
      exact hz b off hin
    · intro ha
      have := hn ha
      rw [hps] at this
      simpa using this
    · intro p hp _
      rw [hps]
      simpa using hp
end

/-- A slice of bytes, as data. -/
theorem open_bytes {H : Type} {enc : TypeId × Value → H} {P : Program} {w : World} {t e : TypeId} {d : DataW H} {ps : List MemPlace} {v : Value} (ht : P.underlying t = some (.slice e)) (he : P.underlying e = some (.int .u8)) (hc : P.cellsOf e = 1)
    (hv : ∃ a len cap, v = .slice a len cap) (h : DataW.Trod enc P w 0 (fun _ => true) true t v d ps) : ∃ ns fp, (∀ n ∈ ns, (Lit.int .u8 n).wf = true) ∧ Rd w (.s (bytesD ns)) v fp := by
  obtain ⟨fuel, h⟩ := h
  obtain ⟨a0, len0, cap0, rfl⟩ := hv
  rcases open_ints ht he hc h with ⟨hcs, _⟩ | ⟨a, len, cap, zs, hcs, _, hle, _, hl, _, hcell, hwf⟩
  · simp [Value.cells] at hcs
    obtain ⟨rfl, rfl, rfl⟩ := hcs
    exact ⟨[], [], by simp, ⟨none, 0, rfl, Nat.le_refl _, .inl ⟨rfl, rfl⟩⟩⟩
  · simp [Value.cells] at hcs
    obtain ⟨rfl, rfl, rfl⟩ := hcs
    simp only [if_true] at hl
    have hlen : (zs.take len0).length = len0 := by simp; omega
    refine ⟨zs.take len0, if len0 = 0 then [] else [a.block], fun n hn => hwf n (List.mem_of_mem_take hn), some a, cap0, by simp only [bytesD, List.length_map, hlen], by simp only [bytesD, List.length_map, hlen]; exact hle, ?_⟩
    by_cases h0 : len0 = 0
    · subst h0; exact .inl ⟨by simp [bytesD], by simp⟩
    · rw [if_neg h0]
      obtain ⟨gb, go, gs⟩ := a
      have hc0 := hcell 0 (by omega)
      have hgs : gs = none := by simpa [Addr.add] using World.cell?_spot hc0
      subst hgs
      refine .inr ⟨gb, go, 1, [], rfl, ?_, rfl, rd_ints _ _ fun i hi => ?_⟩
      · rw [add_plain] at hc0
        simp only [World.cell?] at hc0
        apply Classical.byContradiction
        intro hge
        rw [Array.getElem?_eq_none (Nat.le_of_not_lt hge)] at hc0
        simp at hc0
      · rw [hlen] at hi
        have := hcell i (by omega)
        rw [add_plain] at this
        rw [this]
        simp only [List.getD_eq_getElem?_getD, List.getElem?_take_of_lt hi]

theorem lift1 {C : Checked} {os : Os} {H : Type} {enc : TypeId × Value → H} {L : Tabl} {f : FuncId} {fn : Func} {s : ChangeSpec} {conds : List PathCond} {t e tb : TypeId} {fl fresh handsOn again : Bool} (hown : ownKnob C.prog.godebug = none) (started : os.Started) (hi : C.prog.inits.idxOf? f = none) (hf : C.prog.funcs[f]? = some fn)
    (wit : ∃ (w : World) (tape : Tape) (i : Input), w.os = os ∧ World.Shaped C.prog (w.forCall tape i) ∧ i.vars = [] ∧ Input.okWide C.prog (w.forCall tape i) Reach.any w.heap.size f i ∧
      ChangeSpec.pre6 enc C.prog fn s conds false (w.forCall tape i).memory i.args ∧ Assume.holds {} C.prog (lone (Frame.enter C.prog f i.args CallKind.normal) [] (w.forCall tape i)))
    (hpar : fn.params = #[t]) (hres : fn.resultTypes = #[tb]) (ht : C.prog.underlying t = some (.slice e)) (he : C.prog.underlying e = some (.int .u8)) (hc : C.prog.cellsOf e = 1) (htb : C.prog.underlying tb = some .bool)
    (hlo : laidOutB C.prog = true) (hread : C.prog.readableRec t = true) (hrow : t < C.prog.types.size) (hvars : s.vars = []) (hs : ∀ d, s.fn H [d] = { results := [.lit (.bool true)], args := [d] })
    (hm : C.prog.follows .mixedOrders = true) (hL : AllGood C.prog (sgOf L) L) (hsg : sgOf L f = some (.d ⟨[.one .s], .one (.one .b), fl⟩))
    (hEv : ∀ ns : List Int, (∀ n ∈ ns, (Lit.int .u8 n).wf = true) → Ev L f [.s (bytesD ns)] [.v (.bool true)]) :
    ReturnsInHanded {} C os f .any (s.pre6 enc C.prog fn conds false) (s.post enc C.prog fn false fresh handsOn again) := by
  refine returnsInHanded_of_change (C := C) hown started hi hf wit ?_
  intro W base args ds gs before hval hW _ _
  have hW' := hW
  obtain ⟨p, q, hA, hV, rfl, hfz, hnd⟩ := hW
  have hA0 := hA
  rw [hpar] at hA hval
  obtain ⟨v0, d0, rfl, rfl, h0⟩ := trodAll_one hA
  rw [hvars] at hV
  obtain ⟨rfl, rfl⟩ := trodVars_none hV
  obtain ⟨ns, fp, hwf, hrd⟩ := open_bytes ht he hc (okWide_slice ht (hval 0 t v0 rfl rfl)) h0
  refine (law_calls hm hL hsg (hEv ns hwf) hrd).mono fun e W' ⟨he, hb⟩ => ⟨_, he, ?_⟩
  have hlt : ∀ x ∈ p, x.block < W.heap.size := fun x hx => hW'.lt x (by simpa using hx)
  refine post_of_below (pa := p) (pv := []) hW' (fun _ _ _ => ?_) (fun sp hsp => ?_) (fun _ _ => by rw [hvars, List.append_nil, hs]; rfl) rfl hb ?_
  · rw [List.append_nil, hs, hres]
    exact trodAll_mk1 (shut_bool htb true)
  · rw [List.append_nil, hs, hpar]
    have := Below.trod hlo hread hrow h0 hb hlt
    exact trodAll_mk1 (WideElems.Trod_stays hlo hread hrow h0 (fun x hx => hb.same (hlt x hx)) (fun x hx => hsp x (by simpa using hx)))
  · exact ok_one hres rfl (okWide_bool_mk htb true)

theorem law_calls2 {P : Program} {L : Tabl} (hm : P.follows .mixedOrders = true) (hL : AllGood P (sgOf L) L) {f : FuncId} {fl : Bool} (hs : sgOf L f = some (.d ⟨[.one .s, .one .s], .one (.one .b), fl⟩)) {es es2 : List D}
    (hEv : Ev L f [.s es, .s es2] [.v (.bool true)]) {w : World} {v v2 : Value} {fp fp2 : List Nat} (hr : Rd w (.s es) v fp) (hr2 : Rd w (.s es2) v2 fp2) : Calls P f #[v, v2] w fun e w' => e = .returned (.bool true) ∧ Below w.heap.size w w' := by
  obtain ⟨N, hN⟩ := hEv
  have hfn : (tabOf (sgOf L) (tbN L N)).fns f = some { F := dspec ⟨[.one .s, .one .s], .one (.one .b), fl⟩ ((tbN L N).call f), flat := fl } := by
    unfold tabOf; simp only [hs]
  have h := ((tabOk hm hL N).fns f _ hfn).2 w [.s es, .s es2] [v, v2] (fp ++ fp2) (.v (.bool true)) ⟨v, [v2], fp, fp2, rfl, rfl, hr, v2, [], fp2, [], rfl, by simp, hr2, rfl, rfl⟩ (by
    show (flattenD [.one .s, .one .s] [.s es, .s es2]).bind _ = _
    show (((tbN L N).call f [.s es, .s es2]).bind fun os => buildR (.one (.one .b)) os) = _
    rw [hN]; rfl)
  refine h.mono fun e w' ⟨val, fp', he, hv, _, hb⟩ => ?_
  obtain ⟨rfl, _⟩ := hv
  exact ⟨he, hb⟩

theorem lift2 {C : Checked} {os : Os} {H : Type} {enc : TypeId × Value → H} {L : Tabl} {f : FuncId} {fn : Func} {s : ChangeSpec} {conds : List PathCond} {t e tb : TypeId} {fl fresh handsOn again : Bool} (hown : ownKnob C.prog.godebug = none) (started : os.Started) (hi : C.prog.inits.idxOf? f = none) (hf : C.prog.funcs[f]? = some fn)
    (wit : ∃ (w : World) (tape : Tape) (i : Input), w.os = os ∧ World.Shaped C.prog (w.forCall tape i) ∧ i.vars = [] ∧ Input.okWide C.prog (w.forCall tape i) Reach.any w.heap.size f i ∧
      ChangeSpec.pre6 enc C.prog fn s conds false (w.forCall tape i).memory i.args ∧ Assume.holds {} C.prog (lone (Frame.enter C.prog f i.args CallKind.normal) [] (w.forCall tape i)))
    (hpar : fn.params = #[t, t]) (hres : fn.resultTypes = #[tb]) (ht : C.prog.underlying t = some (.slice e)) (he : C.prog.underlying e = some (.int .u8)) (hc : C.prog.cellsOf e = 1) (htb : C.prog.underlying tb = some .bool)
    (hlo : laidOutB C.prog = true) (hread : C.prog.readableRec t = true) (hrow : t < C.prog.types.size) (hvars : s.vars = []) (hs : ∀ d d', s.fn H [d, d'] = { results := [.lit (.bool true)], args := [d, d'] })
    (hm : C.prog.follows .mixedOrders = true) (hL : AllGood C.prog (sgOf L) L) (hsg : sgOf L f = some (.d ⟨[.one .s, .one .s], .one (.one .b), fl⟩))
    (hEv : ∀ ns ms : List Int, (∀ n ∈ ns, (Lit.int .u8 n).wf = true) → (∀ n ∈ ms, (Lit.int .u8 n).wf = true) → Ev L f [.s (bytesD ns), .s (bytesD ms)] [.v (.bool true)]) :
    ReturnsInHanded {} C os f .any (s.pre6 enc C.prog fn conds false) (s.post enc C.prog fn false fresh handsOn again) := by
  refine returnsInHanded_of_change (C := C) hown started hi hf wit ?_
  intro W base args ds gs before hval hW _ _
  have hW' := hW
  obtain ⟨p, q, hA, hV, rfl, hfz, hnd⟩ := hW
  have hA0 := hA
  rw [hpar] at hA hval
  obtain ⟨v0, v1, d0, d1, p0, p1, rfl, rfl, rfl, h0, h1⟩ := trodAll_two hA
  rw [hvars] at hV
  obtain ⟨rfl, rfl⟩ := trodVars_none hV
  obtain ⟨ns, fp, hwf, hrd⟩ := open_bytes ht he hc (okWide_slice ht (hval 0 t v0 rfl rfl)) h0
  obtain ⟨ms, fp2, hwf2, hrd2⟩ := open_bytes ht he hc (okWide_slice ht (hval 1 t v1 rfl rfl)) h1
  refine (law_calls2 hm hL hsg (hEv ns ms hwf hwf2) hrd hrd2).mono fun e W' ⟨he, hb⟩ => ⟨_, he, ?_⟩
  have hlt : ∀ x ∈ p0 ++ p1, x.block < W.heap.size := fun x hx => hW'.lt x (by simpa using hx)
  refine post_of_below (pa := p0 ++ p1) (pv := []) hW' (fun _ _ _ => ?_) (fun sp hsp => ?_) (fun _ _ => by rw [hvars, List.append_nil, hs]; rfl) rfl hb ?_
  · rw [List.append_nil, hs, hres]
    exact trodAll_mk1 (shut_bool htb true)
  · rw [List.append_nil, hs, hpar]
    exact trodAll_mk2 (WideElems.Trod_stays hlo hread hrow h0 (fun x hx => hb.same (hlt x (by simp [hx]))) (fun x hx => hsp x (by simp [hx])))
      (WideElems.Trod_stays hlo hread hrow h1 (fun x hx => hb.same (hlt x (by simp [hx]))) (fun x hx => hsp x (by simp [hx])))
  · exact ok_one hres rfl (okWide_bool_mk htb true)

theorem bytes_in {ns : List Int} (h : ∀ n ∈ ns, (Lit.int .u8 n).wf = true) : ∀ x ∈ ns, 0 ≤ x ∧ x < 256 := by
  intro x hx
  have := h x hx
  simp [Lit.wf, IntKind.min, IntKind.max, IntKind.bits, IntKind.signed] at this
  omega

end Go.Tm
end

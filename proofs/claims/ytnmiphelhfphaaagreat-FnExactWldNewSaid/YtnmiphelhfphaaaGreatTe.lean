/- The machine over trees, part e. -/
import Derived.Test.YtnmiphelhfphaaaGreatTd
section
/- The model: rows that fit; acts that are more. -/
namespace Go.Tm

theorem fits_one {a : List Line} {v w : List Int} (ha : actOk a = true) (hv : v.length = 3) (hw : w.length = 2) :
    (rowsOf a).countP (fun r => guardsHold r v w) = 1 ∧ ∀ r ∈ rowsOf a, guardsHold r v w = true → rowRes r v w = run v w a v [] := by
  obtain ⟨l1, l2, r, e1, e2, e3, e4, e5⟩ := one_way ha hv hw
  have z : ∀ (l : List Row), (∀ s ∈ l, guardsHold s v w = false) → l.countP (fun r => guardsHold r v w) = 0 := by
    intro l hl
    rw [List.countP_eq_zero]
    intro s hs; rw [hl s hs]; simp
  rw [e1]
  refine ⟨by rw [List.countP_append, List.countP_cons, z l1 e3, z l2 e4, e2]; rfl, ?_⟩
  intro s hs hg
  rcases List.mem_append.1 hs with hs | hs
  · rw [e3 s hs] at hg; cases hg
  · rcases List.mem_cons.1 hs with rfl | hs
    · exact e5
    · rw [e4 s hs] at hg; cases hg

/-- A form that has none of the pots that differ is the same. -/
theorem dot_alike {c v o : List Int} (hc : c.length = 3) (hv : v.length = 3) (ho : o.length = 3) (h : ∀ i, i < 3 → c.getD i 0 ≠ 0 → v.getD i 0 = o.getD i 0) : dot c v = dot c o := by
  obtain ⟨c1, c2, c3, rfl⟩ := len3 hc
  obtain ⟨v1, v2, v3, rfl⟩ := len3 hv
  obtain ⟨o1, o2, o3, rfl⟩ := len3 ho
  have h0 := h 0 (by omega)
  have h1 := h 1 (by omega)
  have h2 := h 2 (by omega)
  simp only [List.getD_cons_zero, List.getD_cons_succ] at h0 h1 h2
  have t : ∀ c v o : Int, (c ≠ 0 → v = o) → c * v = c * o := by
    intro c v o h
    by_cases hc : c = 0
    · subst hc; simp
    · rw [h hc]
  simp only [dot, t _ _ _ h0, t _ _ _ h1, t _ _ _ h2]

theorem at_alike {f : Frm} {v o w : List Int} (hc : f.c.length = 3) (hv : v.length = 3) (ho : o.length = 3) (h : ∀ i, i < 3 → f.c.getD i 0 ≠ 0 → v.getD i 0 = o.getD i 0) : atF f v w = atF f o w := by
  unfold atF; rw [dot_alike hc hv ho h]

theorem reads_alike {r : Row} {v o w : List Int} (hr : RowFit r) (hv : v.length = 3) (ho : o.length = 3) (h : ∀ i, i < 3 → readsM r i = true → v.getD i 0 = o.getD i 0) : atL r.adds v w = atL r.adds o w ∧ atL r.tells v w = atL r.tells o w := by
  have key : ∀ f, f ∈ r.adds ++ r.tells → f.c.length = 3 → atF f v w = atF f o w := by
    intro f hf h3
    refine at_alike h3 hv ho fun i hi hn => h i hi ?_
    unfold readsM
    exact List.any_eq_true.2 ⟨f, hf, by simpa using hn⟩
  refine ⟨List.map_congr_left fun f hf => key f (by simp [hf]) (hr.a f hf).c, List.map_congr_left fun f hf => key f (by simp [hf]) (hr.t f hf).c⟩

/-! ### Acts that are more -/

theorem catOk_more {as : List (List Line)} {x : List Line} (h : catOk as = true) (hl : as.length ≠ 4) (hx : actOk x = true) : catOk (as ++ [x]) = true := by
  simp only [catOk, Bool.and_eq_true, inB_iff, List.all_eq_true, List.length_append, List.length_singleton] at h ⊢
  refine ⟨by omega, ?_⟩
  intro a ha
  rcases List.mem_append.1 ha with ha | ha
  · exact h.2 a ha
  · simp at ha; subst ha; exact hx

theorem guardsOf_snoc (as : List (List Line)) (x : List Line) : guardsOf (as ++ [x]) = guardsOf as ++ (rowsOf x).flatMap Row.guards := by simp [guardsOf]

theorem forms_more {as : List (List Line)} {x : List Line} (h : catOk as = true) (h' : catOk (as ++ [x]) = true) : catForms as <+: catForms (as ++ [x]) := by
  rw [catForms_eq h, catForms_eq h', guardsOf_snoc, List.foldl_append]
  exact (addParts_ok _ _ (addParts_ok _ _ pots0_ok).1).2.1

theorem forms_twice {as : List (List Line)} {x : List Line} (h : catOk as = true) (h' : catOk (as ++ [x]) = true) (hx : x ∈ as) : catForms (as ++ [x]) = catForms as := by
  rw [catForms_eq h, catForms_eq h', guardsOf_snoc, List.foldl_append]
  refine addParts_same fun f hf => (addParts_ok _ _ pots0_ok).2.2 f ?_
  obtain ⟨r, hr, hfr⟩ := List.mem_flatMap.1 hf
  exact guardsOf_mem hx hr hfr

theorem bools_ext {p q : List Bool} (hp : p.length = 3) (hq : q.length = 3) (h : ∀ i, i < 3 → p.getD i false = q.getD i false) : p = q := by
  apply List.ext_getElem?
  intro i
  by_cases hi : i < 3
  · have := h i hi
    simp only [List.getD_eq_getElem?_getD] at this
    rw [List.getElem?_eq_getElem (by omega), List.getElem?_eq_getElem (by omega)] at this ⊢
    simpa using this
  · rw [List.getElem?_eq_none (by omega), List.getElem?_eq_none (by omega)]

theorem pins_more (as : List (List Line)) (x : List Line) {i : Nat} (hi : i < 3) : (potsM readsM (as ++ [x])).getD i false = ((potsM readsM as).getD i false || (rowsOf x).any fun r => readsM r i) := by
  rw [pots_at _ _ hi, pots_at _ _ hi, List.any_append]; simp

theorem pins_twice {as : List (List Line)} {x : List Line} (hx : x ∈ as) : potsM readsM (as ++ [x]) = potsM readsM as := by
  refine bools_ext (pots_len _ _) (pots_len _ _) fun i hi => ?_
  rw [pins_more _ _ hi, pots_at _ _ hi]
  cases h : (rowsOf x).any fun r => readsM r i with
  | false => simp
  | true =>
    have : (as.any fun a => (rowsOf a).any fun r => readsM r i) = true := List.any_eq_true.2 ⟨x, hx, h⟩
    rw [this]; rfl

/-- The act that is put behind. -/
def extra (n : Int) : List Line := [⟨1, 0, 1, ⟨[1, 2, n], [0, 0], 0⟩⟩, ⟨3, 0, 0, ⟨[0, 0, 1], [0, 0], 0⟩⟩]

theorem extra_ok {n : Int} (h0 : 0 ≤ n) (h2 : n ≤ 2) : actOk (extra n) = true := by
  simp [actOk, extra, Line.ok, Frm.small, allIn, inB, tests]; omega

theorem extra_reads {n : Int} (h0 : 0 ≤ n) (h2 : n ≤ 2) : ((rowsOf (extra n)).any fun r => readsM r 2) = true := by
  rw [rowsOf, if_pos (extra_ok h0 h2)]
  have e : walk (extra n) [potF 0, potF 1, potF 2] [] [] = [rowEnd [potF 0, potF 1, potF 2] [intoF ⟨[1, 2, n], [0, 0], 0⟩ [potF 0, potF 1, potF 2]] [intoF ⟨[0, 0, 1], [0, 0], 0⟩ [potF 0, potF 1, potF 2]], rowEnd [potF 0, potF 1, potF 2] [minusF (intoF ⟨[1, 2, n], [0, 0], 0⟩ [potF 0, potF 1, potF 2])] []] := by
    unfold extra
    rw [walk, if_neg (by simp), if_pos (by simp)]
    simp only [List.nil_append]
    rw [walk, if_neg (by simp), if_neg (by simp), if_neg (by simp), walk]
    rw [show ([⟨3, 0, 0, ⟨[0, 0, 1], [0, 0], 0⟩⟩] : List Line).drop (1 : Int).toNat = [] from rfl, walk]
    rfl
  rw [e, List.any_cons]
  have : readsM (rowEnd [potF 0, potF 1, potF 2] [intoF ⟨[1, 2, n], [0, 0], 0⟩ [potF 0, potF 1, potF 2]] [intoF ⟨[0, 0, 1], [0, 0], 0⟩ [potF 0, potF 1, potF 2]]) 2 = true := by
    unfold readsM rowEnd
    rw [List.any_append]
    have : ([intoF ⟨[0, 0, 1], [0, 0], 0⟩ [potF 0, potF 1, potF 2]].any fun f => decide (f.c.getD 2 0 ≠ 0)) = true := by decide
    rw [this, Bool.or_true]
  rw [this]; rfl
end Go.Tm
end

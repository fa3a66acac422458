/- The machine over trees, part e. -/
import Derived.Test.YtdibnlhlngodeaaGreatDoorTd
import Derived.LaidMore
import Derived.MakeChecks
import Derived.Stop.LaidErr
section
/- A law over arguments of numbers, truth values, slices and structs: from what its residual program comes to, to the row's own words. -/
open Go.ChangeShapes Go.WideShapes Go.ChangeAt Go.RowKit
namespace Go.Tm

/-- Fields one behind the other. -/
def contig (P : Program) : List Field → Nat → Bool
  | [], _ => true
  | f :: fs, off => Nat.beq f.offset off && contig P fs (off + P.cellsOf f.type)

def isAgg (P : Program) (t : TypeId) : Bool := match aggT P t with
  | some b => b
  | none => false

def sizesOf (P : Program) : List Field → Nat
  | [] => 0
  | f :: fs => P.cellsOf f.type + sizesOf P fs

def okT (P : Program) : Nat → TypeId → Bool
  | 0, _ => false
  | n + 1, t => match P.underlying t with
    | some .bool => true
    | some (.int _) => true
    | some (.slice e) => okT P n e && Nat.blt 0 (P.cellsOf e)
    | some (.struct fs) => contig P fs.toList 0 && Nat.beq (P.cellsOf t) (sizesOf P fs.toList) && fs.toList.all fun f => okT P n f.type
    | _ => false

def TyFs (T : TypeId → List D → Prop) : List Field → List D → Prop
  | [], ds => ds = []
  | f :: fs, ds => ∃ a b, ds = a ++ b ∧ T f.type a ∧ TyFs T fs b

/-- What the cells of a type's value are, as data. -/
def TyCs (P : Program) : Nat → TypeId → List D → Prop
  | 0, _, _ => False
  | n + 1, t, ds => match P.underlying t with
    | some .bool => ∃ b, ds = [.v (.bool b)]
    | some (.int k) => ∃ i, ds = [.v (.int k i)]
    | some (.slice e) => ∃ es, ds = [.s es] ∧ es.length ≤ maxLen ∧ ∀ x ∈ es, ∃ cs, TyCs P n e cs ∧ x = D.ofCells (isAgg P e) cs
    | some (.struct fs) => TyFs (TyCs P n) fs.toList ds
    | _ => False

section
variable {P : Program} {w : World}

theorem TyCs_one {n : Nat} {t : TypeId} {ds : List D} (h : TyCs P n t ds) (ha : isAgg P t = false) : ∃ d, ds = [d] := by
  cases n with
  | zero => exact h.elim
  | succ n =>
    unfold TyCs at h
    split at h
    · obtain ⟨b, rfl⟩ := h; exact ⟨_, rfl⟩
    · obtain ⟨b, rfl⟩ := h; exact ⟨_, rfl⟩
    · obtain ⟨b, rfl, _⟩ := h; exact ⟨_, rfl⟩
    · rename_i fs hu
      simp [isAgg, aggT, hu] at ha
    · exact h.elim

/-- Cells as one element. -/
theorem rd_elem {ag : Bool} {ds : List D} {cs : List Value} {fp : List Nat} (h : RdVs w ds cs fp) (h1 : ag = false → ∃ d, ds = [d]) : ∃ val, Rd w (D.ofCells ag ds) val fp ∧ val.cells.toList = cs := by
  cases ag with
  | true => exact ⟨.agg cs.toArray, ⟨cs, rfl, h⟩, by simp [Value.cells]⟩
  | false =>
    obtain ⟨d, rfl⟩ := h1 rfl
    obtain ⟨v, vs, f1, f2, rfl, rfl, h2, ⟨rfl, rfl⟩, h3⟩ := h
    exact ⟨v, by simpa [D.ofCells] using h2, by rw [cells_one h3]⟩

theorem rd_elems {ag : Bool} {T : List D → Prop} (hT : ag = false → ∀ ds, T ds → ∃ d, ds = [d]) {b o sz : Nat} : ∀ (m k : Nat),
    (∀ i, i < m → ∃ cs : List Value, cs.length = sz ∧ (∀ j, j < sz → w.cell? ⟨b, o + (k + i) * sz + j, none⟩ = cs[j]?) ∧ ∃ ds fp, RdVs w ds cs fp ∧ T ds) →
    ∃ es fp, RdEs w es sz b (o + k * sz) fp ∧ es.length = m ∧ ∀ x ∈ es, ∃ ds, T ds ∧ x = D.ofCells ag ds
  | 0, k, _ => ⟨[], [], rfl, rfl, fun x hx => by simp at hx⟩
  | m + 1, k, h => by
    obtain ⟨cs, hl, hc, ds, fp, hr, ht⟩ := h 0 (by omega)
    obtain ⟨val, hv, hvc⟩ := rd_elem hr (fun e => hT e ds ht)
    obtain ⟨es, fp2, h1, h2, h3⟩ := rd_elems hT m (k + 1) fun i hi => by
      have := h (i + 1) (by omega)
      rw [show k + (i + 1) = k + 1 + i by omega] at this
      exact this
    refine ⟨D.ofCells ag ds :: es, fp ++ fp2, ⟨val, fp, fp2, rfl, hv, by rw [← Array.length_toList, hvc, hl], fun j hj => ?_, ?_, fun u hu => ?_⟩, by simp [h2], fun x hx => ?_⟩
    · have := hc j hj
      rw [Nat.add_zero] at this
      rw [this, ← hvc]; simp
    · rw [show o + k * sz + sz = o + (k + 1) * sz by rw [Nat.succ_mul]; omega]; exact h1
    · rw [hvc] at hu; exact RdVs_ones _ _ _ hr u hu
    · rcases List.mem_cons.1 hx with rfl | hx
      · exact ⟨ds, ht, rfl⟩
      · exact h3 x hx

theorem rd_fields {T : TypeId → List D → Prop} {cs : List Value} : ∀ (l : List Field) (off : Nat), contig P l off = true → off + sizesOf P l = cs.length →
    (∀ f ∈ l, ∃ ds fp, RdVs w ds ((cs.drop f.offset).take (P.cellsOf f.type)) fp ∧ T f.type ds) → ∃ ds fp, RdVs w ds (cs.drop off) fp ∧ TyFs T l ds
  | [], off, _, hs, _ => ⟨[], [], by
    have hs : off = cs.length := by simpa [sizesOf] using hs
    rw [List.drop_eq_nil_of_le (by omega)]; exact ⟨rfl, rfl⟩, rfl⟩
  | f :: l, off, hc, hs, h => by
    simp only [contig, Bool.and_eq_true] at hc
    have hoff : f.offset = off := Nat.eq_of_beq_eq_true hc.1
    obtain ⟨ds, fp, h1, h2⟩ := h f (by simp)
    obtain ⟨ds2, fp2, h3, h4⟩ := rd_fields l (off + P.cellsOf f.type) hc.2 (by simp only [sizesOf] at hs; omega) (fun f' hf => h f' (by simp [hf]))
    refine ⟨ds ++ ds2, fp ++ fp2, ?_, ds, ds2, rfl, h2, h4⟩
    rw [hoff] at h1
    have := RdVs_append _ _ _ _ _ _ h1 h3
    rw [show cs.drop (off + P.cellsOf f.type) = (cs.drop off).drop (P.cellsOf f.type) by rw [List.drop_drop], List.take_append_drop] at this
    exact this

theorem trod_rd {H : Type} {enc : TypeId × Value → H} {spare : Nat → Bool} {held : Bool} : ∀ (n : Nat) (t : TypeId) (fuel : Nat) (cs : List Value) (x : DataW H × List MemPlace), okT P n t = true →
    DataW.trod enc P w 0 spare held fuel t cs = some x → ∃ ds fp, RdVs w ds cs fp ∧ TyCs P n t ds
  | 0, t, fuel, cs, x, h, _ => by cases h
  | n + 1, t, fuel, cs, x, hok, h => by
    unfold okT at hok
    unfold TyCs
    split at hok
    · rename_i hu
      obtain ⟨b, rfl, _⟩ := DataW.trod_bool hu h
      exact ⟨[.v (.bool b)], [], ⟨.bool b, [], [], [], rfl, rfl, ⟨rfl, rfl, rfl⟩, ⟨rfl, rfl⟩, rfl⟩, b, rfl⟩
    · rename_i k hu
      obtain ⟨i, rfl, _, _⟩ := DataW.trod_int hu h
      exact ⟨[.v (.int k i)], [], ⟨.int k i, [], [], [], rfl, rfl, ⟨rfl, rfl, rfl⟩, ⟨rfl, rfl⟩, rfl⟩, i, rfl⟩
    · rename_i e hu
      simp only [Bool.and_eq_true] at hok
      have hpos : 0 < P.cellsOf e := by rw [← Nat.blt_eq]; exact hok.2
      rcases DataW.trod_slice hu h with ⟨rfl, _⟩ | ⟨a, len, cap, elems, rest, m, _, rfl, _, _, hle, hm, hlen, hel, _, _⟩
      · exact ⟨[.s []], [], ⟨.slice none 0 0, [], [], [], rfl, rfl, ⟨none, 0, rfl, Nat.le_refl _, .inl ⟨rfl, rfl⟩⟩, ⟨rfl, rfl⟩, rfl⟩, [], rfl, by simp, fun x hx => by simp at hx⟩
      · have each : ∀ i, i < len → ∃ csi, w.cells? 0 (a.add (i * P.cellsOf e)) (P.cellsOf e) = some csi ∧ ∃ ds fp, RdVs w ds csi fp ∧ TyCs P n e ds := fun i hi => by
          have h1 := hel i hi
          rw [List.getElem?_eq_getElem (by omega)] at h1
          obtain ⟨csi, h2, h3⟩ := Option.bind_eq_some_iff.1 h1
          exact ⟨csi, h2, trod_rd n e m csi _ hok.1 h3⟩
        by_cases h0 : len = 0
        · subst h0
          exact ⟨[.s []], [], ⟨.slice (some a) 0 cap, [], [], [], rfl, rfl, ⟨some a, cap, rfl, hle, .inl ⟨rfl, rfl⟩⟩, ⟨rfl, rfl⟩, rfl⟩, [], rfl, by simp, fun x hx => by simp at hx⟩
        · obtain ⟨gb, go, gs⟩ := a
          have hspot : gs = none ∧ gb < w.heap.size := by
            obtain ⟨csi, h2, _⟩ := each 0 (by omega)
            have hb := World.cells?_block h2 hpos
            obtain ⟨_, hl, hc⟩ := World.cells?_some h2
            have hc0 := hc 0 hpos
            rw [List.getElem?_eq_getElem (by omega)] at hc0
            have := World.cell?_spot hc0
            refine ⟨by simpa [Addr.add] using this, ?_⟩
            rw [show (Addr.add ⟨gb, go, gs⟩ (0 * P.cellsOf e)).block = gb by simp [Addr.add]] at hb
            exact hb
          obtain ⟨rfl, hblt⟩ := hspot
          obtain ⟨es, fp, h1, h2, h3⟩ := rd_elems (w := w) (ag := isAgg P e) (T := TyCs P n e) (fun ha ds ht => TyCs_one ht ha) (b := gb) (o := go) (sz := P.cellsOf e) len 0 fun i hi => by
            obtain ⟨csi, h2, h3⟩ := each i hi
            obtain ⟨_, hl, hc⟩ := World.cells?_some h2
            refine ⟨csi, hl, fun j hj => ?_, h3⟩
            have := hc j hj
            rw [addr_add, addr_add] at this
            rw [← this, Nat.zero_add]
          refine ⟨[.s es], gb :: fp, ⟨.slice (some ⟨gb, go, none⟩) len cap, [], gb :: fp, [], rfl, by simp, ⟨some ⟨gb, go, none⟩, cap, by rw [h2], by omega, .inr ⟨gb, go, P.cellsOf e, fp, rfl, hblt, rfl, by simpa using h1⟩⟩, ⟨rfl, rfl⟩, rfl⟩, es, rfl, by omega, h3⟩
    · rename_i fs hu
      simp only [Bool.and_eq_true] at hok
      obtain ⟨⟨hc1, hc2⟩, hc3⟩ := hok
      have hc2 : P.cellsOf t = sizesOf P fs.toList := Nat.eq_of_beq_eq_true hc2
      obtain ⟨xs, m, _, _, hl, hxl, hf⟩ := DataW.trod_struct hu h
      obtain ⟨ds, fp, h1, h2⟩ := rd_fields (P := P) (w := w) (T := TyCs P n) (cs := cs) fs.toList 0 hc1 (by omega) fun f hfm => by
        obtain ⟨i, hi⟩ := List.getElem?_of_mem hfm
        have hi' : fs[i]? = some f := by simpa using hi
        have h3 := hf i f hi'
        have hlt := (Array.getElem?_eq_some_iff.1 hi').1
        rw [List.getElem?_eq_getElem (by omega)] at h3
        exact trod_rd n f.type m _ _ (List.all_eq_true.1 hc3 f hfm) h3
      exact ⟨ds, fp, by simpa using h1, h2⟩
    · cases hok

/-- An argument, as data. -/
theorem open_arg {H : Type} {enc : TypeId × Value → H} {t : TypeId} {d : DataW H} {ps : List MemPlace} {v : Value} {n : Nat} (hok : okT P n t = true) (hv : Value.okWide P w .any 0 t v) (h : DataW.Trod enc P w 0 (fun _ => true) true t v d ps) :
    ∃ ds fp, Rd w (D.ofCells (isAgg P t) ds) v fp ∧ TyCs P n t ds := by
  obtain ⟨fuel, h⟩ := h
  obtain ⟨ds, fp, h1, h2⟩ := trod_rd n t fuel _ _ hok h
  refine ⟨ds, fp, ?_, h2⟩
  cases ha : isAgg P t with
  | true =>
    cases n with
    | zero => cases hok
    | succ n =>
      unfold okT at hok
      split at hok
      · rename_i hu; simp [isAgg, aggT, hu] at ha
      · rename_i hu; simp [isAgg, aggT, hu] at ha
      · rename_i hu; simp [isAgg, aggT, hu] at ha
      · rename_i fs hu
        obtain ⟨cs, rfl, _⟩ := okWide_struct hu hv
        exact ⟨cs.toList, by simp, by simpa [Value.cells] using h1⟩
      · cases hok
  | false =>
    obtain ⟨d0, rfl⟩ := TyCs_one h2 ha
    have hcv : v.cells.toList = [v] := by
      cases n with
      | zero => cases hok
      | succ n =>
        unfold okT at hok
        split at hok
        · rename_i hu; obtain ⟨_, rfl⟩ := okWide_bool hu hv; rfl
        · rename_i hu; obtain ⟨_, rfl⟩ := okWide_int hu hv; rfl
        · rename_i hu; obtain ⟨_, _, _, rfl⟩ := okWide_slice hu hv; rfl
        · rename_i fs hu; simp [isAgg, aggT, hu] at ha
        · cases hok
    rw [hcv] at h1
    obtain ⟨v', vs, f1, f2, e, rfl, h3, ⟨rfl, rfl⟩, _⟩ := h1
    cases e
    simpa [D.ofCells] using h3

/-- Arguments, as data. -/
def TyAll (P : Program) (n : Nat) : List TypeId → List (List D) → Prop
  | [], dss => dss = []
  | t :: ts, dss => ∃ ds rest, dss = ds :: rest ∧ TyCs P n t ds ∧ TyAll P n ts rest

def argsOf (P : Program) : List TypeId → List (List D) → List D
  | t :: ts, ds :: dss => D.ofCells (isAgg P t) ds :: argsOf P ts dss
  | _, _ => []

theorem open_args {H : Type} {enc : TypeId × Value → H} {n : Nat} : ∀ (ts : List TypeId) (vs : List Value) (ds : List (DataW H)) (ps : List MemPlace), (∀ t ∈ ts, okT P n t = true) → (∀ (j : Nat) t v, ts[j]? = some t → vs[j]? = some v → Value.okWide P w .any 0 t v) →
    DataW.TrodAll enc P w 0 (fun _ => true) true ts vs ds ps → ∃ dss fp, RdTs w (argsOf P ts dss) vs fp ∧ TyAll P n ts dss ∧ ds.length = ts.length
  | [], [], [], ps, _, _, _ => ⟨[], [], ⟨rfl, rfl⟩, rfl, rfl⟩
  | t :: ts, v :: vs, d :: ds, ps, hok, hv, ⟨p, q, h1, h2, _⟩ => by
    obtain ⟨x, fp, h3, h4⟩ := open_arg (hok t (by simp)) (hv 0 t v rfl rfl) h1
    obtain ⟨dss, fp2, h5, h6, h7⟩ := open_args ts vs ds q (fun t ht => hok t (by simp [ht])) (fun j t v h h' => hv (j + 1) t v (by simpa using h) (by simpa using h')) h2
    exact ⟨x :: dss, fp ++ fp2, ⟨v, vs, fp, fp2, rfl, rfl, h3, h5⟩, ⟨x, dss, rfl, h4, h6⟩, by simp [h7]⟩
  | [], _ :: _, _, _, _, _, h => h.elim
  | [], [], _ :: _, _, _, _, h => h.elim
  | _ :: _, [], _, _, _, _, h => h.elim
  | _ :: _, _ :: _, [], _, _, _, h => h.elim

theorem trodAll_stays {H : Type} {enc : TypeId × Value → H} (hlo : laidOutB P = true) {W W' : World} {sp : Nat → Bool} : ∀ (ts : List TypeId) (vs : List Value) (ds : List (DataW H)) (ps : List MemPlace), (∀ t ∈ ts, P.readableRec t = true ∧ t < P.types.size) →
    DataW.TrodAll enc P W 0 (fun _ => true) true ts vs ds ps → (∀ p ∈ ps, W.sameAt W' p) → (∀ p ∈ ps, sp p.block = true) → DataW.TrodAll enc P W' 0 sp true ts vs ds ps
  | [], [], [], ps, _, h, _, _ => h
  | t :: ts, v :: vs, d :: ds, ps, hr, ⟨p, q, h1, h2, e⟩, hs, hsp => by
    subst e
    exact ⟨p, q, WideElems.Trod_stays hlo (hr t (by simp)).1 (hr t (by simp)).2 h1 (fun x hx => hs x (by simp [hx])) (fun x hx => hsp x (by simp [hx])),
      trodAll_stays hlo ts vs ds q (fun t ht => hr t (by simp [ht])) h2 (fun x hx => hs x (by simp [hx])) (fun x hx => hsp x (by simp [hx])), rfl⟩
  | [], _ :: _, _, _, _, h, _, _ => h.elim
  | [], [], _ :: _, _, _, h, _, _ => h.elim
  | _ :: _, [], _, _, _, h, _, _ => h.elim
  | _ :: _, _ :: _, [], _, _, h, _, _ => h.elim

theorem law_callsN {L : Tabl} {Φ : Fix P} (hm : P.follows .mixedOrders = true) (hL : AllGood P (sgOf L) L Φ) (hI : Φ.I w) {f : FuncId} {fl : Bool} {pars : List Sh} (hs : sgOf L f = some (.d ⟨pars, .one (.one .b), fl⟩)) {args ls : List D} (hfl : flattenD pars args = some ls)
    (hEv : Ev L f ls [.v (.bool true)]) {vs : List Value} {fp : List Nat} (hr : RdTs w args vs fp) : Calls P f vs.toArray w fun e w' => e = .returned (.bool true) ∧ Below w.heap.size w w' := by
  obtain ⟨N, hN⟩ := hEv
  have hfn : (tabOf (sgOf L) (tbN L N)).fns f = some { F := dspec ⟨pars, .one (.one .b), fl⟩ ((tbN L N).call f), flat := fl } := by
    unfold tabOf; simp only [hs]
  have h := ((tabOk hm hL N).fns f _ hfn).2 w args vs fp (.v (.bool true)) hI hr (by
    show (flattenD pars args).bind _ = _
    rw [hfl]
    show (((tbN L N).call f ls).bind fun os => buildR (.one (.one .b)) os) = _
    rw [hN]; rfl)
  refine h.mono fun e w' ⟨val, fp', he, hv, _, hb⟩ => ?_
  obtain ⟨rfl, _⟩ := hv
  exact ⟨he, hb⟩

end

theorem liftN {C : Checked} {os : Os} {H : Type} {enc : TypeId × Value → H} {L : Tabl} {f : FuncId} {fn : Func} {s : ChangeSpec} {conds : List PathCond} {ts : List TypeId} {tb : TypeId} {pars : List Sh} {n : Nat} {fl fresh handsOn again : Bool} (hown : ownKnob C.prog.godebug = none) (started : os.Started) (hi : C.prog.inits.idxOf? f = none) (hf : C.prog.funcs[f]? = some fn)
    (wit : ∃ (w : World) (tape : Tape) (i : Input), w.os = os ∧ World.Shaped C.prog (w.forCall tape i) ∧ i.vars = [] ∧ Input.okWide C.prog (w.forCall tape i) Reach.any w.heap.size f i ∧
      ChangeSpec.pre6 enc C.prog fn s conds false (w.forCall tape i).memory i.args ∧ Assume.holds {} C.prog (lone (Frame.enter C.prog f i.args CallKind.normal) [] (w.forCall tape i)))
    (hpar : fn.params.toList = ts) (hres : fn.resultTypes = #[tb]) (hokT : ts.all (okT C.prog n) = true) (htb : C.prog.underlying tb = some .bool)
    (hlo : laidOutB C.prog = true) (hread : ts.all (fun t => C.prog.readableRec t && Nat.blt t C.prog.types.size) = true) (hvars : s.vars = []) (hs : ∀ ds : List (DataW H), ds.length = ts.length → s.fn H ds = { results := [.lit (.bool true)], args := ds })
    (hm : C.prog.follows .mixedOrders = true) (hL : AllGood C.prog (sgOf L) L) (hsg : sgOf L f = some (.d ⟨pars, .one (.one .b), fl⟩))
    (hEv : ∀ dss, TyAll C.prog n ts dss → ∃ ls, flattenD pars (argsOf C.prog ts dss) = some ls ∧ Ev L f ls [.v (.bool true)]) :
    ReturnsInHanded {} C os f .any (s.pre6 enc C.prog fn conds false) (s.post enc C.prog fn false fresh handsOn again) := by
  refine returnsInHanded_of_change (C := C) hown started hi hf wit ?_
  intro W base args ds gs before hval hW _ _
  have hW' := hW
  obtain ⟨p, q, hA, hV, rfl, hfz, hnd⟩ := hW
  have hA0 := hA
  rw [hpar] at hA
  rw [hvars] at hV
  obtain ⟨rfl, rfl⟩ := trodVars_none hV
  obtain ⟨dss, fp, hrd, hty, hlen⟩ := open_args ts args.toList ds p (fun t ht => List.all_eq_true.1 hokT t ht) (fun j t v h1 h2 => hval j t v (by rw [← hpar] at h1; simpa using h1) (by simpa using h2)) hA
  obtain ⟨ls, hfl, hev⟩ := hEv dss hty
  have hcall := law_callsN hm hL trivial hsg hfl hev hrd
  rw [Array.toArray_toList] at hcall
  refine hcall.mono fun e W' ⟨he, hb⟩ => ⟨_, he, ?_⟩
  have hlt : ∀ x ∈ p, x.block < W.heap.size := fun x hx => hW'.lt x (by simpa using hx)
  refine post_of_below (pa := p) (pv := []) hW' (fun _ _ _ => ?_) (fun sp hsp => ?_) (fun _ _ => by rw [hvars, List.append_nil, hs ds hlen]; rfl) rfl hb ?_
  · rw [List.append_nil, hs ds hlen, hres]
    exact trodAll_mk1 (shut_bool htb true)
  · rw [List.append_nil, hs ds hlen, hpar]
    refine trodAll_stays hlo ts args.toList ds p (fun t ht => ?_) hA (fun x hx => hb.same (hlt x hx)) (fun x hx => hsp x (by simpa using hx))
    have := List.all_eq_true.1 hread t ht
    simp only [Bool.and_eq_true] at this
    exact ⟨this.1, by rw [← Nat.blt_eq]; exact this.2⟩
  · exact ok_one hres rfl (okWide_bool_mk htb true)

/-- The same where what stands fixed is asked of the world at the beginning. -/
theorem liftX {C : Checked} {os : Os} {H : Type} {enc : TypeId × Value → H} {L : Tabl} {f : FuncId} {fn : Func} {s : ChangeSpec} {conds : List PathCond} {ts : List TypeId} {tb : TypeId} {pars : List Sh} {n : Nat} {fl fresh handsOn again : Bool} {Φ : Fix C.prog} {X : World → Array Value → Prop} (hXh : ∀ (w w' : World) (args : Array Value), w.heap = w'.heap → X w args → X w' args) (hXI : ∀ w args, X w args → Φ.I w) (hown : ownKnob C.prog.godebug = none) (started : os.Started) (hi : C.prog.inits.idxOf? f = none) (hf : C.prog.funcs[f]? = some fn)
    (wit : ∃ (w : World) (tape : Tape) (i : Input), w.os = os ∧ World.Shaped C.prog (w.forCall tape i) ∧ i.vars = [] ∧ Input.okWide C.prog (w.forCall tape i) Reach.any w.heap.size f i ∧
      ((s.pre enc C.prog fn conds false (w.forCall tape i).memory i.args ∧ X (w.forCall tape i).memory i.args) ∧ sizedMet enc C.prog fn (OpenSpec.ofChange s) false (w.forCall tape i).memory i.args) ∧ Assume.holds {} C.prog (lone (Frame.enter C.prog f i.args CallKind.normal) [] (w.forCall tape i)))
    (hpar : fn.params.toList = ts) (hres : fn.resultTypes = #[tb]) (hokT : ts.all (okT C.prog n) = true) (htb : C.prog.underlying tb = some .bool)
    (hlo : laidOutB C.prog = true) (hread : ts.all (fun t => C.prog.readableRec t && Nat.blt t C.prog.types.size) = true) (hvars : s.vars = []) (hs : ∀ ds : List (DataW H), ds.length = ts.length → s.fn H ds = { results := [.lit (.bool true)], args := ds })
    (hm : C.prog.follows .mixedOrders = true) (hL : AllGood C.prog (sgOf L) L Φ) (hsg : sgOf L f = some (.d ⟨pars, .one (.one .b), fl⟩))
    (hEv : ∀ dss, TyAll C.prog n ts dss → ∃ ls, flattenD pars (argsOf C.prog ts dss) = some ls ∧ Ev L f ls [.v (.bool true)]) :
    ReturnsInHanded {} C os f .any (fun w args => (s.pre enc C.prog fn conds false w args ∧ X w args) ∧ sizedMet enc C.prog fn (OpenSpec.ofChange s) false w args) (s.post enc C.prog fn false fresh handsOn again) := by
  refine returnsInHanded_of_change_and (C := C) hXh hown started hi hf wit ?_
  intro W base args ds gs before hval hW _ _ hx _
  have hW' := hW
  obtain ⟨p, q, hA, hV, rfl, hfz, hnd⟩ := hW
  have hA0 := hA
  rw [hpar] at hA
  rw [hvars] at hV
  obtain ⟨rfl, rfl⟩ := trodVars_none hV
  obtain ⟨dss, fp, hrd, hty, hlen⟩ := open_args ts args.toList ds p (fun t ht => List.all_eq_true.1 hokT t ht) (fun j t v h1 h2 => hval j t v (by rw [← hpar] at h1; simpa using h1) (by simpa using h2)) hA
  obtain ⟨ls, hfl, hev⟩ := hEv dss hty
  have hcall := law_callsN hm hL (hXI W args hx) hsg hfl hev hrd
  rw [Array.toArray_toList] at hcall
  refine hcall.mono fun e W' ⟨he, hb⟩ => ⟨_, he, ?_⟩
  have hlt : ∀ x ∈ p, x.block < W.heap.size := fun x hx => hW'.lt x (by simpa using hx)
  refine post_of_below (pa := p) (pv := []) hW' (fun _ _ _ => ?_) (fun sp hsp => ?_) (fun _ _ => by rw [hvars, List.append_nil, hs ds hlen]; rfl) rfl hb ?_
  · rw [List.append_nil, hs ds hlen, hres]
    exact trodAll_mk1 (shut_bool htb true)
  · rw [List.append_nil, hs ds hlen, hpar]
    refine trodAll_stays hlo ts args.toList ds p (fun t ht => ?_) hA (fun x hx => hb.same (hlt x hx)) (fun x hx => hsp x (by simpa using hx))
    have := List.all_eq_true.1 hread t ht
    simp only [Bool.and_eq_true] at this
    exact ⟨this.1, by rw [← Nat.blt_eq]; exact this.2⟩
  · exact ok_one hres rfl (okWide_bool_mk htb true)

/-! ### Shapes of types, with no program in sight -/

inductive Ty where
  | i (k : IntKind)
  | b
  | sl (e : Ty)
  | st (fs : List Ty)

def Ty.agg : Ty → Bool
  | .st _ => true
  | _ => false

mutual
def TySh : Ty → List D → Prop
  | .b, ds => ∃ b, ds = [.v (.bool b)]
  | .i k, ds => ∃ n, ds = [.v (.int k n)]
  | .sl e, ds => ∃ es, ds = [.s es] ∧ es.length ≤ maxLen ∧ ∀ x ∈ es, ∃ cs, TySh e cs ∧ x = D.ofCells e.agg cs
  | .st fs, ds => TyShs fs ds
def TyShs : List Ty → List D → Prop
  | [], ds => ds = []
  | f :: fs, ds => ∃ a b, ds = a ++ b ∧ TySh f a ∧ TyShs fs b
end

def shapesWith (T : TypeId → Option Ty) : List Field → Option (List Ty)
  | [] => some []
  | f :: fs => match T f.type, shapesWith T fs with
    | some a, some l => some (a :: l)
    | _, _ => none

def shapeT (P : Program) : Nat → TypeId → Option Ty
  | 0, _ => none
  | n + 1, t => match P.underlying t with
    | some .bool => some .b
    | some (.int k) => some (.i k)
    | some (.slice e) => match shapeT P n e with
      | some s => some (.sl s)
      | none => none
    | some (.struct fs) => match shapesWith (shapeT P n) fs.toList with
      | some l => some (.st l)
      | none => none
    | _ => none

theorem shape_agg {P : Program} {n : Nat} {t : TypeId} {s : Ty} (h : shapeT P n t = some s) : isAgg P t = s.agg := by
  cases n with
  | zero => cases h
  | succ n =>
    unfold shapeT at h
    split at h
    · rename_i hu; cases h; simp [isAgg, aggT, hu, Ty.agg]
    · rename_i hu; cases h; simp [isAgg, aggT, hu, Ty.agg]
    · rename_i hu
      split at h
      · cases h; simp [isAgg, aggT, hu, Ty.agg]
      · cases h
    · rename_i hu
      split at h
      · cases h; simp [isAgg, aggT, hu, Ty.agg]
      · cases h
    · cases h

theorem TyFs_sh {T : TypeId → List D → Prop} {S : TypeId → Option Ty} (h : ∀ t s ds, S t = some s → T t ds → TySh s ds) : ∀ (fs : List Field) (l : List Ty) (ds : List D), shapesWith S fs = some l → TyFs T fs ds → TyShs l ds
  | [], l, ds, hl, ht => by cases hl; exact ht
  | f :: fs, l, ds, hl, ⟨a, b, e, h1, h2⟩ => by
    simp only [shapesWith] at hl
    split at hl
    · rename_i s l' hs hl'
      cases hl
      exact ⟨a, b, e, h _ _ _ hs h1, TyFs_sh h fs l' b hl' h2⟩
    · cases hl

theorem TyCs_sh {P : Program} : ∀ (n : Nat) (t : TypeId) (s : Ty) (ds : List D), shapeT P n t = some s → TyCs P n t ds → TySh s ds
  | 0, _, _, _, h, _ => by cases h
  | n + 1, t, s, ds, h, ht => by
    unfold shapeT at h
    unfold TyCs at ht
    split at h
    · rename_i hu; rw [hu] at ht; cases h; exact ht
    · rename_i hu; rw [hu] at ht; cases h; exact ht
    · rename_i e hu
      rw [hu] at ht
      split at h
      · rename_i s' hs
        cases h
        obtain ⟨es, h1, h2, h3⟩ := ht
        refine ⟨es, h1, h2, fun x hx => ?_⟩
        obtain ⟨cs, h4, h5⟩ := h3 x hx
        exact ⟨cs, TyCs_sh n e s' cs hs h4, by rw [← shape_agg hs]; exact h5⟩
      · cases h
    · rename_i fs hu
      rw [hu] at ht
      split at h
      · rename_i l hl
        cases h
        exact TyFs_sh (fun t s ds => TyCs_sh n t s ds) fs.toList l ds hl ht
      · cases h
    · cases h

def TySs : List Ty → List (List D) → Prop
  | [], dss => dss = []
  | s :: ss, dss => ∃ ds rest, dss = ds :: rest ∧ TySh s ds ∧ TySs ss rest

def argsS : List Ty → List (List D) → List D
  | s :: ss, ds :: dss => D.ofCells s.agg ds :: argsS ss dss
  | _, _ => []

def shapesT (P : Program) (n : Nat) : List TypeId → Option (List Ty)
  | [] => some []
  | t :: ts => match shapeT P n t, shapesT P n ts with
    | some s, some l => some (s :: l)
    | _, _ => none

theorem TyAll_S {P : Program} {n : Nat} : ∀ (ts : List TypeId) (ss : List Ty) (dss : List (List D)), shapesT P n ts = some ss → TyAll P n ts dss → TySs ss dss ∧ argsOf P ts dss = argsS ss dss
  | [], ss, dss, h, ht => by
    cases h
    rw [show dss = [] from ht]
    exact ⟨rfl, rfl⟩
  | t :: ts, ss, dss, h, ⟨ds, rest, e, h1, h2⟩ => by
    subst e
    simp only [shapesT] at h
    split at h
    · rename_i s l hs hl
      cases h
      obtain ⟨h3, h4⟩ := TyAll_S ts l rest hl h2
      exact ⟨⟨ds, rest, rfl, TyCs_sh n t s ds hs h1, h3⟩, by simp only [argsOf, argsS, shape_agg hs, h4]⟩
    · cases h

theorem liftS {C : Checked} {os : Os} {H : Type} {enc : TypeId × Value → H} {L : Tabl} {f : FuncId} {fn : Func} {s : ChangeSpec} {conds : List PathCond} {ts : List TypeId} {ss : List Ty} {tb : TypeId} {pars : List Sh} {n : Nat} {fl fresh handsOn again : Bool} (hown : ownKnob C.prog.godebug = none) (started : os.Started) (hi : C.prog.inits.idxOf? f = none) (hf : C.prog.funcs[f]? = some fn)
    (wit : ∃ (w : World) (tape : Tape) (i : Input), w.os = os ∧ World.Shaped C.prog (w.forCall tape i) ∧ i.vars = [] ∧ Input.okWide C.prog (w.forCall tape i) Reach.any w.heap.size f i ∧
      ChangeSpec.pre6 enc C.prog fn s conds false (w.forCall tape i).memory i.args ∧ Assume.holds {} C.prog (lone (Frame.enter C.prog f i.args CallKind.normal) [] (w.forCall tape i)))
    (hpar : fn.params.toList = ts) (hres : fn.resultTypes = #[tb]) (hokT : ts.all (okT C.prog n) = true) (hsh : shapesT C.prog n ts = some ss) (htb : C.prog.underlying tb = some .bool)
    (hlo : laidOutB C.prog = true) (hread : ts.all (fun t => C.prog.readableRec t && Nat.blt t C.prog.types.size) = true) (hvars : s.vars = []) (hs : ∀ ds : List (DataW H), ds.length = ts.length → s.fn H ds = { results := [.lit (.bool true)], args := ds })
    (hm : C.prog.follows .mixedOrders = true) (hL : AllGood C.prog (sgOf L) L) (hsg : sgOf L f = some (.d ⟨pars, .one (.one .b), fl⟩))
    (hEv : ∀ dss, TySs ss dss → ∃ ls, flattenD pars (argsS ss dss) = some ls ∧ Ev L f ls [.v (.bool true)]) :
    ReturnsInHanded {} C os f .any (s.pre6 enc C.prog fn conds false) (s.post enc C.prog fn false fresh handsOn again) :=
  liftN hown started hi hf wit hpar hres hokT htb hlo hread hvars hs hm hL hsg fun dss ht => by
    obtain ⟨h1, h2⟩ := TyAll_S ts ss dss hsh ht
    rw [h2]; exact hEv dss h1

/-- The same where what stands fixed is asked of the world at the beginning. -/
theorem liftSX {C : Checked} {os : Os} {H : Type} {enc : TypeId × Value → H} {L : Tabl} {f : FuncId} {fn : Func} {s : ChangeSpec} {conds : List PathCond} {ts : List TypeId} {ss : List Ty} {tb : TypeId} {pars : List Sh} {n : Nat} {fl fresh handsOn again : Bool} {Φ : Fix C.prog} {X : World → Array Value → Prop} (hXh : ∀ (w w' : World) (args : Array Value), w.heap = w'.heap → X w args → X w' args) (hXI : ∀ w args, X w args → Φ.I w) (hown : ownKnob C.prog.godebug = none) (started : os.Started) (hi : C.prog.inits.idxOf? f = none) (hf : C.prog.funcs[f]? = some fn)
    (wit : ∃ (w : World) (tape : Tape) (i : Input), w.os = os ∧ World.Shaped C.prog (w.forCall tape i) ∧ i.vars = [] ∧ Input.okWide C.prog (w.forCall tape i) Reach.any w.heap.size f i ∧
      ((s.pre enc C.prog fn conds false (w.forCall tape i).memory i.args ∧ X (w.forCall tape i).memory i.args) ∧ sizedMet enc C.prog fn (OpenSpec.ofChange s) false (w.forCall tape i).memory i.args) ∧ Assume.holds {} C.prog (lone (Frame.enter C.prog f i.args CallKind.normal) [] (w.forCall tape i)))
    (hpar : fn.params.toList = ts) (hres : fn.resultTypes = #[tb]) (hokT : ts.all (okT C.prog n) = true) (hsh : shapesT C.prog n ts = some ss) (htb : C.prog.underlying tb = some .bool)
    (hlo : laidOutB C.prog = true) (hread : ts.all (fun t => C.prog.readableRec t && Nat.blt t C.prog.types.size) = true) (hvars : s.vars = []) (hs : ∀ ds : List (DataW H), ds.length = ts.length → s.fn H ds = { results := [.lit (.bool true)], args := ds })
    (hm : C.prog.follows .mixedOrders = true) (hL : AllGood C.prog (sgOf L) L Φ) (hsg : sgOf L f = some (.d ⟨pars, .one (.one .b), fl⟩))
    (hEv : ∀ dss, TySs ss dss → ∃ ls, flattenD pars (argsS ss dss) = some ls ∧ Ev L f ls [.v (.bool true)]) :
    ReturnsInHanded {} C os f .any (fun w args => (s.pre enc C.prog fn conds false w args ∧ X w args) ∧ sizedMet enc C.prog fn (OpenSpec.ofChange s) false w args) (s.post enc C.prog fn false fresh handsOn again) :=
  liftX hXh hXI hown started hi hf wit hpar hres hokT htb hlo hread hvars hs hm hL hsg fun dss ht => by
    obtain ⟨h1, h2⟩ := TyAll_S ts ss dss hsh ht
    rw [h2]; exact hEv dss h1

/-- Elements of one kind, as a list. -/
theorem map_ex {α : Type} {f : α → D} {p : α → Prop} : ∀ {es : List D}, (∀ x ∈ es, ∃ y, p y ∧ x = f y) → ∃ l : List α, es = l.map f ∧ ∀ y ∈ l, p y
  | [], _ => ⟨[], rfl, fun y hy => by simp at hy⟩
  | e :: es, h => by
    obtain ⟨y, hy, rfl⟩ := h e (by simp)
    obtain ⟨l, rfl, hl⟩ := map_ex (es := es) (fun x hx => h x (by simp [hx]))
    exact ⟨y :: l, rfl, fun z hz => by
      rcases List.mem_cons.1 hz with rfl | hz
      · exact hy
      · exact hl z hz⟩

end Go.Tm
end

section
/- The model: what parts there are. -/
namespace Go.Tm

theorem hasAt_nonneg (l : List (List Int)) (p : List Int) : 0 ≤ hasAt l p ↔ p ∈ l := by
  have := place_nonneg (fun q => decide (q = p)) l
  unfold hasAt
  constructor
  · intro h
    rw [decide_eq_true h] at this
    obtain ⟨q, h1, h2⟩ := List.any_eq_true.1 this.symm
    have : q = p := by simpa using h2
    subst this; exact h1
  · intro h
    have h2 : l.any (fun q => decide (q = p)) = true := List.any_eq_true.2 ⟨p, h, by simp⟩
    rw [h2] at this
    simpa using this
theorem hasAt_neg (l : List (List Int)) (p : List Int) : hasAt l p < 0 ↔ p ∉ l := by rw [← hasAt_nonneg]; omega

theorem hasAt_at {l : List (List Int)} (hn : l.Nodup) {i : Nat} {p : List Int} (h : l[i]? = some p) : hasAt l p = i := by
  unfold hasAt
  refine place_some h (by simp) ?_
  rw [List.any_eq_false]
  intro q hq
  simp only [decide_eq_true_eq]
  intro e
  subst e
  obtain ⟨j, hj⟩ := List.mem_iff_getElem?.1 hq
  rw [List.getElem?_take] at hj
  split at hj
  · rename_i hji
    obtain ⟨h1, h2⟩ := List.getElem?_eq_some_iff.1 h
    obtain ⟨h3, h4⟩ := List.getElem?_eq_some_iff.1 hj
    exact absurd (h4.trans h2.symm) (List.pairwise_iff_getElem.1 hn j i h3 h1 hji)
  · cases hj

theorem addPart_eq (out : List (List Int)) (f : Frm) : addPart out f = if partOf f.c ∉ out ∧ partOf f.c ≠ [0, 0, 0] then out ++ [partOf f.c] else out := by
  unfold addPart
  simp only [hasAt_neg]

/-- Parts, each once, none of them 0. -/
structure PartsOk (out : List (List Int)) : Prop where
  nodup : out.Nodup
  zero : [0, 0, 0] ∉ out

theorem addParts_ok (fs : List Frm) : ∀ (out : List (List Int)), PartsOk out → PartsOk (fs.foldl addPart out) ∧ out <+: fs.foldl addPart out ∧ ∀ f ∈ fs, partOf f.c ∈ fs.foldl addPart out ∨ partOf f.c = [0, 0, 0] := by
  induction fs with
  | nil => intro out h; exact ⟨h, List.prefix_refl _, by simp⟩
  | cons f fs ih =>
    intro out h
    have h1 : PartsOk (addPart out f) ∧ out <+: addPart out f ∧ (partOf f.c ∈ addPart out f ∨ partOf f.c = [0, 0, 0]) := by
      rw [addPart_eq]
      split
      · rename_i hc
        refine ⟨⟨?_, ?_⟩, List.prefix_append _ _, .inl (by simp)⟩
        · rw [List.nodup_append]
          exact ⟨h.nodup, by simp, fun a ha b hb => by simp at hb; subst hb; intro e; subst e; exact hc.1 ha⟩
        · intro hm
          rcases List.mem_append.1 hm with hm | hm
          · exact h.zero hm
          · simp at hm; exact hc.2 hm.symm
      · rename_i hc
        refine ⟨h, List.prefix_refl _, ?_⟩
        by_cases hm : partOf f.c ∈ out
        · exact .inl hm
        · right
          apply Classical.byContradiction
          intro hz; exact hc ⟨hm, hz⟩
    obtain ⟨a1, a2, a3⟩ := ih _ h1.1
    refine ⟨a1, h1.2.1.trans a2, ?_⟩
    intro g hg
    rcases List.mem_cons.1 hg with rfl | hg
    · rcases h1.2.2 with hm | hz
      · exact .inl (a2.subset hm)
      · exact .inr hz
    · exact a3 g hg

theorem addParts_same {fs : List Frm} {out : List (List Int)} (h : ∀ f ∈ fs, partOf f.c ∈ out ∨ partOf f.c = [0, 0, 0]) : fs.foldl addPart out = out := by
  induction fs with
  | nil => rfl
  | cons f fs ih =>
    have e : addPart out f = out := by
      rw [addPart_eq, if_neg]
      rintro ⟨h1, h2⟩
      rcases h f (by simp) with hm | hz
      · exact h1 hm
      · exact h2 hz
    rw [List.foldl_cons, e]
    exact ih fun g hg => h g (by simp [hg])

/-- All guards. -/
def guardsOf (as : List (List Line)) : List Frm := as.flatMap fun a => (rowsOf a).flatMap Row.guards

theorem both_forms (as : List (List Line)) : (both as).1 = (guardsOf as).foldl addPart pots0 := by
  have rows : ∀ (rs : List Row) (s : List (List Int) × List Bool), (rs.foldl rowBoth s).1 = (rs.flatMap Row.guards).foldl addPart s.1 := by
    intro rs
    induction rs with
    | nil => intro s; rfl
    | cons r rs ih => intro s; simp only [List.foldl_cons, List.flatMap_cons, List.foldl_append]; rw [ih]; rfl
  have acts : ∀ (as : List (List Line)) (s : List (List Int) × List Bool), (as.foldl actBoth s).1 = (guardsOf as).foldl addPart s.1 := by
    intro as
    induction as with
    | nil => intro s; rfl
    | cons a as ih =>
      intro s
      have e : (actBoth s a).1 = ((rowsOf a).flatMap Row.guards).foldl addPart s.1 := rows _ _
      simp only [List.foldl_cons, guardsOf, List.flatMap_cons, List.foldl_append] at ih ⊢
      rw [ih, e]
  exact acts as _

theorem pots0_ok : PartsOk pots0 := ⟨by decide, by decide⟩

theorem guardsOf_mem {as : List (List Line)} {a : List Line} {r : Row} {f : Frm} (ha : a ∈ as) (hr : r ∈ rowsOf a) (hf : f ∈ r.guards) : f ∈ guardsOf as := by
  unfold guardsOf
  exact List.mem_flatMap.2 ⟨a, ha, List.mem_flatMap.2 ⟨r, hr, hf⟩⟩

theorem catForms_eq {as : List (List Line)} (h : catOk as = true) : catForms as = (guardsOf as).foldl addPart pots0 := by simp [catForms, h, both_forms]
theorem catPins_eq {as : List (List Line)} (h : catOk as = true) : catPins as = potsM readsM as := by simp [catPins, h, both_pins]

/-! ### The first that is not 0 -/

theorem place_cases {α : Type} (p : α → Bool) (l : List α) : (place p l = -1 ∧ l.any p = false) ∨ ∃ (i : Nat) (x : α), place p l = i ∧ l[i]? = some x ∧ p x = true ∧ (l.take i).any p = false := by
  unfold place
  cases h : l.findIdx? p with
  | none =>
    left
    rw [List.findIdx?_eq_none_iff] at h
    refine ⟨rfl, ?_⟩
    rw [List.any_eq_false]
    intro x hx; rw [h x hx]; simp
  | some i =>
    right
    obtain ⟨h1, h2, h3⟩ := List.findIdx?_eq_some_iff_getElem.1 h
    refine ⟨i, l[i], rfl, by simp [h1], h2, ?_⟩
    rw [List.any_eq_false]
    intro x hx
    obtain ⟨j, hj⟩ := List.mem_iff_getElem?.1 hx
    rw [List.getElem?_take] at hj
    split at hj
    · rename_i hji
      obtain ⟨h4, h5⟩ := List.getElem?_eq_some_iff.1 hj
      rw [← h5]
      exact h3 j hji
    · cases hj

def nz (x : Int) : Bool := !decide (x = 0)

theorem sgn_none {c : List Int} (h : c.any nz = false) : partOf c = c := by
  have hz : ∀ x ∈ c, x = 0 := by
    intro x hx
    rw [List.any_eq_false] at h
    have := h x hx
    simpa [nz] using this
  unfold partOf
  conv => rhs; rw [← List.map_id c]
  apply List.map_congr_left
  intro x hx
  rw [hz x hx]; simp
theorem sgn_some {c : List Int} {i : Nat} {x : Int} (hx : c[i]? = some x) (hn : nz x = true) (ht : (c.take i).any nz = false) : sgn1 c = if 0 < x then 1 else -1 := by
  induction c generalizing i with
  | nil => simp at hx
  | cons y c ih =>
    have hx0 : x ≠ 0 := by simpa [nz] using hn
    cases i with
    | zero =>
      simp only [List.getElem?_cons_zero, Option.some.injEq] at hx
      subst hx
      simp only [sgn1]
      split
      · rfl
      · rw [if_pos (by omega)]
    | succ i =>
      simp only [List.getElem?_cons_succ] at hx
      simp only [List.take_succ_cons, List.any_cons, Bool.or_eq_false_iff] at ht
      have hy : y = 0 := by simpa [nz] using ht.1
      subst hy
      simp only [sgn1]
      rw [if_neg (by omega), if_neg (by omega)]
      exact ih hx ht.2
end Go.Tm
end

section
/- The model: rows that fit; acts that are more. -/
namespace Go.Tm

theorem fits_one {a : List Line} {v w : List Int} (ha : actOk a = true) (hv : v.length = 3) (hw : w.length = 2) :
    (rowsOf a).countP (fun r => guardsHold r v w) = 1 ∧ ∀ r ∈ rowsOf a, guardsHold r v w = true → rowRes r v w = run v w a v [] := by
  obtain ⟨l1, l2, r, e1, e2, e3, e4, e5⟩ := one_way ha hv hw
  have z : ∀ (l : List Row), (∀ s ∈ l, guardsHold s v w = false) → l.countP (fun r => guardsHold r v w) = 0 := by
    intro l hl
    rw [List.countP_eq_zero]
    intro s hs; rw [hl s hs]; simp
  rw [e1]
  refine ⟨by rw [List.countP_append, List.countP_cons, z l1 e3, z l2 e4, e2]; rfl, ?_⟩
  intro s hs hg
  rcases List.mem_append.1 hs with hs | hs
  · rw [e3 s hs] at hg; cases hg
  · rcases List.mem_cons.1 hs with rfl | hs
    · exact e5
    · rw [e4 s hs] at hg; cases hg

/-- A form that has none of the pots that differ is the same. -/
theorem dot_alike {c v o : List Int} (hc : c.length = 3) (hv : v.length = 3) (ho : o.length = 3) (h : ∀ i, i < 3 → c.getD i 0 ≠ 0 → v.getD i 0 = o.getD i 0) : dot c v = dot c o := by
  obtain ⟨c1, c2, c3, rfl⟩ := len3 hc
  obtain ⟨v1, v2, v3, rfl⟩ := len3 hv
  obtain ⟨o1, o2, o3, rfl⟩ := len3 ho
  have h0 := h 0 (by omega)
  have h1 := h 1 (by omega)
  have h2 := h 2 (by omega)
  simp only [List.getD_cons_zero, List.getD_cons_succ] at h0 h1 h2
  have t : ∀ c v o : Int, (c ≠ 0 → v = o) → c * v = c * o := by
    intro c v o h
    by_cases hc : c = 0
    · subst hc; simp
    · rw [h hc]
  simp only [dot, t _ _ _ h0, t _ _ _ h1, t _ _ _ h2]

theorem at_alike {f : Frm} {v o w : List Int} (hc : f.c.length = 3) (hv : v.length = 3) (ho : o.length = 3) (h : ∀ i, i < 3 → f.c.getD i 0 ≠ 0 → v.getD i 0 = o.getD i 0) : atF f v w = atF f o w := by
  unfold atF; rw [dot_alike hc hv ho h]

theorem reads_alike {r : Row} {v o w : List Int} (hr : RowFit r) (hv : v.length = 3) (ho : o.length = 3) (h : ∀ i, i < 3 → readsM r i = true → v.getD i 0 = o.getD i 0) : atL r.adds v w = atL r.adds o w ∧ atL r.tells v w = atL r.tells o w := by
  have key : ∀ f, f ∈ r.adds ++ r.tells → f.c.length = 3 → atF f v w = atF f o w := by
    intro f hf h3
    refine at_alike h3 hv ho fun i hi hn => h i hi ?_
    unfold readsM
    exact List.any_eq_true.2 ⟨f, hf, by simpa using hn⟩
  refine ⟨List.map_congr_left fun f hf => key f (by simp [hf]) (hr.a f hf).c, List.map_congr_left fun f hf => key f (by simp [hf]) (hr.t f hf).c⟩

/-! ### Acts that are more -/

theorem catOk_more {as : List (List Line)} {x : List Line} (h : catOk as = true) (hl : as.length ≠ 4) (hx : actOk x = true) : catOk (as ++ [x]) = true := by
  simp only [catOk, Bool.and_eq_true, inB_iff, List.all_eq_true, List.length_append, List.length_singleton] at h ⊢
  refine ⟨by omega, ?_⟩
  intro a ha
  rcases List.mem_append.1 ha with ha | ha
  · exact h.2 a ha
  · simp at ha; subst ha; exact hx

theorem guardsOf_snoc (as : List (List Line)) (x : List Line) : guardsOf (as ++ [x]) = guardsOf as ++ (rowsOf x).flatMap Row.guards := by simp [guardsOf]

theorem forms_more {as : List (List Line)} {x : List Line} (h : catOk as = true) (h' : catOk (as ++ [x]) = true) : catForms as <+: catForms (as ++ [x]) := by
  rw [catForms_eq h, catForms_eq h', guardsOf_snoc, List.foldl_append]
  exact (addParts_ok _ _ (addParts_ok _ _ pots0_ok).1).2.1

theorem forms_twice {as : List (List Line)} {x : List Line} (h : catOk as = true) (h' : catOk (as ++ [x]) = true) (hx : x ∈ as) : catForms (as ++ [x]) = catForms as := by
  rw [catForms_eq h, catForms_eq h', guardsOf_snoc, List.foldl_append]
  refine addParts_same fun f hf => (addParts_ok _ _ pots0_ok).2.2 f ?_
  obtain ⟨r, hr, hfr⟩ := List.mem_flatMap.1 hf
  exact guardsOf_mem hx hr hfr

theorem bools_ext {p q : List Bool} (hp : p.length = 3) (hq : q.length = 3) (h : ∀ i, i < 3 → p.getD i false = q.getD i false) : p = q := by
  apply List.ext_getElem?
  intro i
  by_cases hi : i < 3
  · have := h i hi
    simp only [List.getD_eq_getElem?_getD] at this
    rw [List.getElem?_eq_getElem (by omega), List.getElem?_eq_getElem (by omega)] at this ⊢
    simpa using this
  · rw [List.getElem?_eq_none (by omega), List.getElem?_eq_none (by omega)]

theorem pins_more (as : List (List Line)) (x : List Line) {i : Nat} (hi : i < 3) : (potsM readsM (as ++ [x])).getD i false = ((potsM readsM as).getD i false || (rowsOf x).any fun r => readsM r i) := by
  rw [pots_at _ _ hi, pots_at _ _ hi, List.any_append]; simp

theorem pins_twice {as : List (List Line)} {x : List Line} (hx : x ∈ as) : potsM readsM (as ++ [x]) = potsM readsM as := by
  refine bools_ext (pots_len _ _) (pots_len _ _) fun i hi => ?_
  rw [pins_more _ _ hi, pots_at _ _ hi]
  cases h : (rowsOf x).any fun r => readsM r i with
  | false => simp
  | true =>
    have : (as.any fun a => (rowsOf a).any fun r => readsM r i) = true := List.any_eq_true.2 ⟨x, hx, h⟩
    rw [this]; rfl

/-- The act that is put behind. -/
def extra (n : Int) : List Line := [⟨1, 0, 1, ⟨[1, 2, n], [0, 0], 0⟩⟩, ⟨3, 0, 0, ⟨[0, 0, 1], [0, 0], 0⟩⟩]

theorem extra_ok {n : Int} (h0 : 0 ≤ n) (h2 : n ≤ 2) : actOk (extra n) = true := by
  simp [actOk, extra, Line.ok, Frm.small, allIn, inB, tests]; omega

theorem extra_reads {n : Int} (h0 : 0 ≤ n) (h2 : n ≤ 2) : ((rowsOf (extra n)).any fun r => readsM r 2) = true := by
  rw [rowsOf, if_pos (extra_ok h0 h2)]
  have e : walk (extra n) [potF 0, potF 1, potF 2] [] [] = [rowEnd [potF 0, potF 1, potF 2] [intoF ⟨[1, 2, n], [0, 0], 0⟩ [potF 0, potF 1, potF 2]] [intoF ⟨[0, 0, 1], [0, 0], 0⟩ [potF 0, potF 1, potF 2]], rowEnd [potF 0, potF 1, potF 2] [minusF (intoF ⟨[1, 2, n], [0, 0], 0⟩ [potF 0, potF 1, potF 2])] []] := by
    unfold extra
    rw [walk, if_neg (by simp), if_pos (by simp)]
    simp only [List.nil_append]
    rw [walk, if_neg (by simp), if_neg (by simp), if_neg (by simp), walk]
    rw [show ([⟨3, 0, 0, ⟨[0, 0, 1], [0, 0], 0⟩⟩] : List Line).drop (1 : Int).toNat = [] from rfl, walk]
    rfl
  rw [e, List.any_cons]
  have : readsM (rowEnd [potF 0, potF 1, potF 2] [intoF ⟨[1, 2, n], [0, 0], 0⟩ [potF 0, potF 1, potF 2]] [intoF ⟨[0, 0, 1], [0, 0], 0⟩ [potF 0, potF 1, potF 2]]) 2 = true := by
    unfold readsM rowEnd
    rw [List.any_append]
    have : ([intoF ⟨[0, 0, 1], [0, 0], 0⟩ [potF 0, potF 1, potF 2]].any fun f => decide (f.c.getD 2 0 ≠ 0)) = true := by decide
    rw [this, Bool.or_true]
  rw [this]; rfl
end Go.Tm
end

section
/- A law over one slice of bytes, where tables of the library stand fixed. -/
open Go.ChangeShapes Go.WideShapes Go.ChangeAt Go.RowKit
namespace Go.Tm

theorem lift1X {C : Checked} {os : Os} {H : Type} {enc : TypeId × Value → H} {L : Tabl} {f : FuncId} {fn : Func} {s : ChangeSpec} {conds : List PathCond} {t e tb : TypeId} {fl fresh handsOn again : Bool} {Φ : Fix C.prog} {X : World → Array Value → Prop} (hXh : ∀ (w w' : World) (args : Array Value), w.heap = w'.heap → X w args → X w' args) (hXI : ∀ w args, X w args → Φ.I w) (hown : ownKnob C.prog.godebug = none) (started : os.Started) (hi : C.prog.inits.idxOf? f = none) (hf : C.prog.funcs[f]? = some fn)
    (wit : ∃ (w : World) (tape : Tape) (i : Input), w.os = os ∧ World.Shaped C.prog (w.forCall tape i) ∧ i.vars = [] ∧ Input.okWide C.prog (w.forCall tape i) Reach.any w.heap.size f i ∧
      ((s.pre enc C.prog fn conds false (w.forCall tape i).memory i.args ∧ X (w.forCall tape i).memory i.args) ∧ sizedMet enc C.prog fn (OpenSpec.ofChange s) false (w.forCall tape i).memory i.args) ∧ Assume.holds {} C.prog (lone (Frame.enter C.prog f i.args CallKind.normal) [] (w.forCall tape i)))
    (hpar : fn.params = #[t]) (hres : fn.resultTypes = #[tb]) (ht : C.prog.underlying t = some (.slice e)) (he : C.prog.underlying e = some (.int .u8)) (hc : C.prog.cellsOf e = 1) (htb : C.prog.underlying tb = some .bool)
    (hlo : laidOutB C.prog = true) (hread : C.prog.readableRec t = true) (hrow : t < C.prog.types.size) (hvars : s.vars = []) (hs : ∀ d, s.fn H [d] = { results := [.lit (.bool true)], args := [d] })
    (hm : C.prog.follows .mixedOrders = true) (hL : AllGood C.prog (sgOf L) L Φ) (hsg : sgOf L f = some (.d ⟨[.one .s], .one (.one .b), fl⟩))
    (hEv : ∀ ns : List Int, (∀ n ∈ ns, (Lit.int .u8 n).wf = true) → Ev L f [.s (bytesD ns)] [.v (.bool true)]) :
    ReturnsInHanded {} C os f .any (fun w args => (s.pre enc C.prog fn conds false w args ∧ X w args) ∧ sizedMet enc C.prog fn (OpenSpec.ofChange s) false w args) (s.post enc C.prog fn false fresh handsOn again) := by
  refine returnsInHanded_of_change_and (C := C) hXh hown started hi hf wit ?_
  intro W base args ds gs before hval hW _ _ hx _
  have hW' := hW
  obtain ⟨p, q, hA, hV, rfl, hfz, hnd⟩ := hW
  have hA0 := hA
  rw [hpar] at hA hval
  obtain ⟨v0, d0, rfl, rfl, h0⟩ := trodAll_one hA
  rw [hvars] at hV
  obtain ⟨rfl, rfl⟩ := trodVars_none hV
  obtain ⟨ns, fp, hwf, hrd⟩ := open_bytes ht he hc (okWide_slice ht (hval 0 t v0 rfl rfl)) h0
  have hcall := law_callsN hm hL (hXI W _ hx) hsg (ls := [.s (bytesD ns)]) (args := [.s (bytesD ns)]) rfl (hEv ns hwf) (vs := [v0]) (fp := fp ++ []) ⟨v0, [], fp, [], rfl, rfl, hrd, rfl, rfl⟩
  refine hcall.mono fun e W' ⟨he, hb⟩ => ⟨_, he, ?_⟩
  have hlt : ∀ x ∈ p, x.block < W.heap.size := fun x hx => hW'.lt x (by simpa using hx)
  refine post_of_below (pa := p) (pv := []) hW' (fun _ _ _ => ?_) (fun sp hsp => ?_) (fun _ _ => by rw [hvars, List.append_nil, hs]; rfl) rfl hb ?_
  · rw [List.append_nil, hs, hres]
    exact trodAll_mk1 (shut_bool htb true)
  · rw [List.append_nil, hs, hpar]
    have := Below.trod hlo hread hrow h0 hb hlt
    exact trodAll_mk1 (WideElems.Trod_stays hlo hread hrow h0 (fun x hx => hb.same (hlt x hx)) (fun x hx => hsp x (by simpa using hx)))
  · exact ok_one hres rfl (okWide_bool_mk htb true)

/-- The third of three listed tables. -/
theorem tab_third {P : Program} {W : World} {name : String} {k : IntKind} {zs : List Int} {x y z : String × DataW Unit} {g : Nat} {t e : TypeId} {n : Nat} (hp : ([x, y, z].all fun x => x.2.handleName?.isNone) = true) (hz : z = (name, Lib.tabData k zs))
    (hg : P.globalNamed name = some g) (hty : (P.globals[g]?).map (·.type) = some t) (ht : P.underlying t = some (.array n e)) (he : P.underlying e = some (.int k)) (hce : P.cellsOf e = 1) (hct : P.cellsOf t = n)
    (h : laidMetH P [x, y, z] W) : Lib.TabIs P W name k zs := by
  rw [MakeChecks.laidMetH_plain _ _ _ hp] at h
  subst hz
  exact Lib.tabIs_of_head hg hty ht he hce hct (laidMet.tail (laidMet.tail h))

end Go.Tm
end

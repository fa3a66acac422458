/- The machine over trees, part d. -/
import Derived.Test.YtbikgdcgoogngaaTc
import Derived.ChangeSame
import Derived.JoinedOf
import Derived.JoinedAt
import Derived.RowKit3
import Derived.ProofKit
import Derived.ChangeSlices
import Derived.Carry
section
/- A law over bytes: from what its residual program comes to, to the row's own words. -/
open Go.ChangeShapes Go.WideShapes Go.ChangeAt Go.RowKit
namespace Go.Tm


theorem rd_ints {w : World} {b : Nat} {k : IntKind} : ∀ (ns : List Int) (off : Nat), (∀ i, i < ns.length → w.cell? ⟨b, off + i, none⟩ = some (.int k (ns.getD i 0))) → RdEs w (ns.map fun n => .v (.int k n)) 1 b off []
  | [], _, _ => rfl
  | n :: ns, off, h => by
    refine ⟨.int k n, [], [], rfl, ⟨rfl, rfl, rfl⟩, rfl, fun j hj => ?_, rd_ints ns (off + 1) fun i hi => ?_, fun u hu => ?_⟩
    · have : j = 0 := by omega
      subst this
      have := h 0 (by simp)
      simpa [Value.cells] using this
    · have := h (i + 1) (by simpa using hi)
      rw [show off + 1 + i = off + (i + 1) by omega]
      simpa using this
    · simp [Value.cells] at hu; subst hu; rfl

theorem law_calls {P : Program} {L : Tabl} (hm : P.follows .mixedOrders = true) (hL : AllGood P (sgOf L) L) {f : FuncId} {fl : Bool} (hs : sgOf L f = some (.d ⟨[.one .s], .one (.one .b), fl⟩)) {es : List D}
    (hEv : Ev L f [.s es] [.v (.bool true)]) {w : World} {v : Value} {fp : List Nat} (hr : Rd w (.s es) v fp) : Calls P f #[v] w fun e w' => e = .returned (.bool true) ∧ Below w.heap.size w w' := by
  obtain ⟨N, hN⟩ := hEv
  have hfn : (tabOf (sgOf L) (tbN L N)).fns f = some { F := dspec ⟨[.one .s], .one (.one .b), fl⟩ ((tbN L N).call f), flat := fl } := by
    unfold tabOf; simp only [hs]
  have h := ((tabOk hm hL N).fns f _ hfn).2 w [.s es] [v] fp (.v (.bool true)) ⟨v, [], fp, [], rfl, by simp, hr, rfl, rfl⟩ (by
    show (flattenD [.one .s] [.s es]).bind _ = _
    show (((tbN L N).call f [.s es]).bind fun os => buildR (.one (.one .b)) os) = _
    rw [hN]; rfl)
  refine h.mono fun e w' ⟨val, fp', he, hv, _, hb⟩ => ?_
  obtain ⟨rfl, _⟩ := hv
  exact ⟨he, hb⟩

section
variable {H : Type} {enc : TypeId × Value → H} {P : Program}
theorem post_of_below {f : Func} {s : ChangeSpec} {apart fresh handsOn again : Bool} {W W' : World} {args : Array Value} {v : Value} {ds gs : List (DataW H)} {before pa pv : List MemPlace}
    (hW : DataW.Whole enc P f.params.toList s.vars apart W args.toList ds gs before)
    (hres : ∀ (b : Nat) (sp : Nat → Bool) (hd : Bool), DataW.TrodAll enc P W' b sp hd f.resultTypes.toList (v.resultList f.resultTypes.size) (s.fn H (ds ++ gs)).results [])
    (hargs : ∀ sp : Nat → Bool, (∀ p ∈ before, sp p.block = true) → DataW.TrodAll enc P W' 0 sp true f.params.toList args.toList (s.fn H (ds ++ gs)).args pa)
    (hvars : ∀ sp : Nat → Bool, (∀ p ∈ before, sp p.block = true) → DataW.TrodVars enc P W' sp s.vars (s.fn H (ds ++ gs)).vars pv)
    (hps : before = pa ++ pv) (hb : Below W.heap.size W W')
    (hok : ∀ (j : Nat) (t : TypeId) (r : Value), f.resultTypes[j]? = some t → (v.resultList f.resultTypes.size)[j]? = some r → Value.okWide P W' .any 0 t r) :
    s.post enc P f apart fresh handsOn again W args v W' := by
  have hlt : ∀ p ∈ before, p.block < W.heap.size := fun p hp => hW.lt p hp
  have hold : ∀ p ∈ before, (fun b => decide (b < W.heap.size)) p.block = true := fun p hp => by simpa using hlt p hp
  refine ⟨ds, gs, before, [], pa, pv, hW, hres _ _ _, hargs _ hold, hvars _ hold, World.keptBut_mono (fun p hp => ⟨hp, ?_⟩) (hb.frame (· ∈ before)), fun _ => ?_⟩
  · rw [hps, List.mem_append] at hp
    exact Or.inr hp
  · obtain ⟨_, _, _, _, _, hz, hn⟩ := hW
    refine ⟨hok, _, _, ([] ++ pa) ++ pv, ⟨[] ++ pa, pv, trodAll_append (hargs _ (fun _ _ => rfl)) (hres _ _ _), hvars _ (fun _ _ => rfl), rfl, ?_, ?_⟩, ?_⟩
    · intro b off hp
      have hin : MemPlace.cell b off ∈ before := by rw [hps]; simpa using hp
      rw [hb.frozen (hlt _ hin)]
      exact hz b off hin
    · intro ha
      have := hn ha
      rw [hps] at this
      simpa using this
    · intro p hp _
      rw [hps]
      simpa using hp
end

/-- A slice of bytes, as data. -/
theorem open_bytes {H : Type} {enc : TypeId × Value → H} {P : Program} {w : World} {t e : TypeId} {d : DataW H} {ps : List MemPlace} {v : Value} (ht : P.underlying t = some (.slice e)) (he : P.underlying e = some (.int .u8)) (hc : P.cellsOf e = 1)
    (hv : ∃ a len cap, v = .slice a len cap) (h : DataW.Trod enc P w 0 (fun _ => true) true t v d ps) : ∃ ns fp, (∀ n ∈ ns, (Lit.int .u8 n).wf = true) ∧ Rd w (.s (bytesD ns)) v fp := by
  obtain ⟨fuel, h⟩ := h
  obtain ⟨a0, len0, cap0, rfl⟩ := hv
  rcases open_ints ht he hc h with ⟨hcs, _⟩ | ⟨a, len, cap, zs, hcs, _, hle, _, hl, _, hcell, hwf⟩
  · simp [Value.cells] at hcs
    obtain ⟨rfl, rfl, rfl⟩ := hcs
    exact ⟨[], [], by simp, ⟨none, 0, rfl, Nat.le_refl _, .inl ⟨rfl, rfl⟩⟩⟩
  · simp [Value.cells] at hcs
    obtain ⟨rfl, rfl, rfl⟩ := hcs
    simp only [if_true] at hl
    have hlen : (zs.take len0).length = len0 := by simp; omega
    refine ⟨zs.take len0, if len0 = 0 then [] else [a.block], fun n hn => hwf n (List.mem_of_mem_take hn), some a, cap0, by simp only [bytesD, List.length_map, hlen], by simp only [bytesD, List.length_map, hlen]; exact hle, ?_⟩
    by_cases h0 : len0 = 0
    · subst h0; exact .inl ⟨by simp [bytesD], by simp⟩
    · rw [if_neg h0]
      obtain ⟨gb, go, gs⟩ := a
      have hc0 := hcell 0 (by omega)
      have hgs : gs = none := by simpa [Addr.add] using World.cell?_spot hc0
      subst hgs
      refine .inr ⟨gb, go, 1, [], rfl, ?_, rfl, rd_ints _ _ fun i hi => ?_⟩
      · rw [add_plain] at hc0
        simp only [World.cell?] at hc0
        apply Classical.byContradiction
        intro hge
        rw [Array.getElem?_eq_none (Nat.le_of_not_lt hge)] at hc0
        simp at hc0
      · rw [hlen] at hi
        have := hcell i (by omega)
        rw [add_plain] at this
        rw [this]
        simp only [List.getD_eq_getElem?_getD, List.getElem?_take_of_lt hi]

theorem lift1 {C : Checked} {os : Os} {H : Type} {enc : TypeId × Value → H} {L : Tabl} {f : FuncId} {fn : Func} {s : ChangeSpec} {conds : List PathCond} {t e tb : TypeId} {fl fresh handsOn again : Bool} (hown : ownKnob C.prog.godebug = none) (started : os.Started) (hi : C.prog.inits.idxOf? f = none) (hf : C.prog.funcs[f]? = some fn)
    (wit : ∃ (w : World) (tape : Tape) (i : Input), w.os = os ∧ World.Shaped C.prog (w.forCall tape i) ∧ i.vars = [] ∧ Input.okWide C.prog (w.forCall tape i) Reach.any w.heap.size f i ∧
      ChangeSpec.pre6 enc C.prog fn s conds false (w.forCall tape i).memory i.args ∧ Assume.holds {} C.prog (lone (Frame.enter C.prog f i.args CallKind.normal) [] (w.forCall tape i)))
    (hpar : fn.params = #[t]) (hres : fn.resultTypes = #[tb]) (ht : C.prog.underlying t = some (.slice e)) (he : C.prog.underlying e = some (.int .u8)) (hc : C.prog.cellsOf e = 1) (htb : C.prog.underlying tb = some .bool)
    (hlo : laidOutB C.prog = true) (hread : C.prog.readableRec t = true) (hrow : t < C.prog.types.size) (hvars : s.vars = []) (hs : ∀ d, s.fn H [d] = { results := [.lit (.bool true)], args := [d] })
    (hm : C.prog.follows .mixedOrders = true) (hL : AllGood C.prog (sgOf L) L) (hsg : sgOf L f = some (.d ⟨[.one .s], .one (.one .b), fl⟩))
    (hEv : ∀ ns : List Int, (∀ n ∈ ns, (Lit.int .u8 n).wf = true) → Ev L f [.s (bytesD ns)] [.v (.bool true)]) :
    ReturnsInHanded {} C os f .any (s.pre6 enc C.prog fn conds false) (s.post enc C.prog fn false fresh handsOn again) := by
  refine returnsInHanded_of_change (C := C) hown started hi hf wit ?_
  intro W base args ds gs before hval hW _ _
  have hW' := hW
  obtain ⟨p, q, hA, hV, rfl, hfz, hnd⟩ := hW
  have hA0 := hA
  rw [hpar] at hA hval
  obtain ⟨v0, d0, rfl, rfl, h0⟩ := trodAll_one hA
  rw [hvars] at hV
  obtain ⟨rfl, rfl⟩ := trodVars_none hV
  obtain ⟨ns, fp, hwf, hrd⟩ := open_bytes ht he hc (okWide_slice ht (hval 0 t v0 rfl rfl)) h0
  refine (law_calls hm hL hsg (hEv ns hwf) hrd).mono fun e W' ⟨he, hb⟩ => ⟨_, he, ?_⟩
  have hlt : ∀ x ∈ p, x.block < W.heap.size := fun x hx => hW'.lt x (by simpa using hx)
  refine post_of_below (pa := p) (pv := []) hW' (fun _ _ _ => ?_) (fun sp hsp => ?_) (fun _ _ => by rw [hvars, List.append_nil, hs]; rfl) rfl hb ?_
  · rw [List.append_nil, hs, hres]
    exact trodAll_mk1 (shut_bool htb true)
  · rw [List.append_nil, hs, hpar]
    have := Below.trod hlo hread hrow h0 hb hlt
    exact trodAll_mk1 (WideElems.Trod_stays hlo hread hrow h0 (fun x hx => hb.same (hlt x hx)) (fun x hx => hsp x (by simpa using hx)))
  · exact ok_one hres rfl (okWide_bool_mk htb true)

theorem law_calls2 {P : Program} {L : Tabl} (hm : P.follows .mixedOrders = true) (hL : AllGood P (sgOf L) L) {f : FuncId} {fl : Bool} (hs : sgOf L f = some (.d ⟨[.one .s, .one .s], .one (.one .b), fl⟩)) {es es2 : List D}
    (hEv : Ev L f [.s es, .s es2] [.v (.bool true)]) {w : World} {v v2 : Value} {fp fp2 : List Nat} (hr : Rd w (.s es) v fp) (hr2 : Rd w (.s es2) v2 fp2) : Calls P f #[v, v2] w fun e w' => e = .returned (.bool true) ∧ Below w.heap.size w w' := by
  obtain ⟨N, hN⟩ := hEv
  have hfn : (tabOf (sgOf L) (tbN L N)).fns f = some { F := dspec ⟨[.one .s, .one .s], .one (.one .b), fl⟩ ((tbN L N).call f), flat := fl } := by
    unfold tabOf; simp only [hs]
  have h := ((tabOk hm hL N).fns f _ hfn).2 w [.s es, .s es2] [v, v2] (fp ++ fp2) (.v (.bool true)) ⟨v, [v2], fp, fp2, rfl, rfl, hr, v2, [], fp2, [], rfl, by simp, hr2, rfl, rfl⟩ (by
    show (flattenD [.one .s, .one .s] [.s es, .s es2]).bind _ = _
    show (((tbN L N).call f [.s es, .s es2]).bind fun os => buildR (.one (.one .b)) os) = _
    rw [hN]; rfl)
  refine h.mono fun e w' ⟨val, fp', he, hv, _, hb⟩ => ?_
  obtain ⟨rfl, _⟩ := hv
  exact ⟨he, hb⟩

theorem lift2 {C : Checked} {os : Os} {H : Type} {enc : TypeId × Value → H} {L : Tabl} {f : FuncId} {fn : Func} {s : ChangeSpec} {conds : List PathCond} {t e tb : TypeId} {fl fresh handsOn again : Bool} (hown : ownKnob C.prog.godebug = none) (started : os.Started) (hi : C.prog.inits.idxOf? f = none) (hf : C.prog.funcs[f]? = some fn)
    (wit : ∃ (w : World) (tape : Tape) (i : Input), w.os = os ∧ World.Shaped C.prog (w.forCall tape i) ∧ i.vars = [] ∧ Input.okWide C.prog (w.forCall tape i) Reach.any w.heap.size f i ∧
      ChangeSpec.pre6 enc C.prog fn s conds false (w.forCall tape i).memory i.args ∧ Assume.holds {} C.prog (lone (Frame.enter C.prog f i.args CallKind.normal) [] (w.forCall tape i)))
    (hpar : fn.params = #[t, t]) (hres : fn.resultTypes = #[tb]) (ht : C.prog.underlying t = some (.slice e)) (he : C.prog.underlying e = some (.int .u8)) (hc : C.prog.cellsOf e = 1) (htb : C.prog.underlying tb = some .bool)
    (hlo : laidOutB C.prog = true) (hread : C.prog.readableRec t = true) (hrow : t < C.prog.types.size) (hvars : s.vars = []) (hs : ∀ d d', s.fn H [d, d'] = { results := [.lit (.bool true)], args := [d, d'] })
    (hm : C.prog.follows .mixedOrders = true) (hL : AllGood C.prog (sgOf L) L) (hsg : sgOf L f = some (.d ⟨[.one .s, .one .s], .one (.one .b), fl⟩))
    (hEv : ∀ ns ms : List Int, (∀ n ∈ ns, (Lit.int .u8 n).wf = true) → (∀ n ∈ ms, (Lit.int .u8 n).wf = true) → Ev L f [.s (bytesD ns), .s (bytesD ms)] [.v (.bool true)]) :
    ReturnsInHanded {} C os f .any (s.pre6 enc C.prog fn conds false) (s.post enc C.prog fn false fresh handsOn again) := by
  refine returnsInHanded_of_change (C := C) hown started hi hf wit ?_
  intro W base args ds gs before hval hW _ _
  have hW' := hW
  obtain ⟨p, q, hA, hV, rfl, hfz, hnd⟩ := hW
  have hA0 := hA
  rw [hpar] at hA hval
  obtain ⟨v0, v1, d0, d1, p0, p1, rfl, rfl, rfl, h0, h1⟩ := trodAll_two hA
  rw [hvars] at hV
  obtain ⟨rfl, rfl⟩ := trodVars_none hV
  obtain ⟨ns, fp, hwf, hrd⟩ := open_bytes ht he hc (okWide_slice ht (hval 0 t v0 rfl rfl)) h0
  obtain ⟨ms, fp2, hwf2, hrd2⟩ := open_bytes ht he hc (okWide_slice ht (hval 1 t v1 rfl rfl)) h1
  refine (law_calls2 hm hL hsg (hEv ns ms hwf hwf2) hrd hrd2).mono fun e W' ⟨he, hb⟩ => ⟨_, he, ?_⟩
  have hlt : ∀ x ∈ p0 ++ p1, x.block < W.heap.size := fun x hx => hW'.lt x (by simpa using hx)
  refine post_of_below (pa := p0 ++ p1) (pv := []) hW' (fun _ _ _ => ?_) (fun sp hsp => ?_) (fun _ _ => by rw [hvars, List.append_nil, hs]; rfl) rfl hb ?_
  · rw [List.append_nil, hs, hres]
    exact trodAll_mk1 (shut_bool htb true)
  · rw [List.append_nil, hs, hpar]
    exact trodAll_mk2 (WideElems.Trod_stays hlo hread hrow h0 (fun x hx => hb.same (hlt x (by simp [hx]))) (fun x hx => hsp x (by simp [hx])))
      (WideElems.Trod_stays hlo hread hrow h1 (fun x hx => hb.same (hlt x (by simp [hx]))) (fun x hx => hsp x (by simp [hx])))
  · exact ok_one hres rfl (okWide_bool_mk htb true)

theorem bytes_in {ns : List Int} (h : ∀ n ∈ ns, (Lit.int .u8 n).wf = true) : ∀ x ∈ ns, 0 ≤ x ∧ x < 256 := by
  intro x hx
  have := h x hx
  simp [Lit.wf, IntKind.min, IntKind.max, IntKind.bits, IntKind.signed] at this
  omega

end Go.Tm
end

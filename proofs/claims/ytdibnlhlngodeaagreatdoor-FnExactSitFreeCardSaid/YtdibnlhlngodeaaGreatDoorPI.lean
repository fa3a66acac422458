import Derived.Test.YtdibnlhlngodeaaGreatDoorPH
import Derived.Test.YtdibnlhlngodeaaGreatDoorPF
import Derived.Test.YtdibnlhlngodeaaGreatDoorTd
set_option linter.unusedVariables false
set_option linter.unusedSimpArgs false
/- What the reference's parts, pins, and draws of them come to. -/
namespace Go.Proofs.YtdibnlhlngodeaaGreatDoor
open Go Go.Tm
def fitActs (as : List (List Line)) : Prop := as.length ≤ 2000000 ∧ ∀ a ∈ as, fitAct a
theorem slimAs.fit {as : List (List Line)} (h : slimAs as) : fitActs as := ⟨by have := h.1; omega, fun a ha => (h.2 a ha).fit⟩
theorem ev_CatOk (as : List (List Line)) (hf : fitActs as) : Ev L f_kr [.s (dActs as)] [dB (catOk as)] := by
  have hl := hf.1
  refine Ev.eq (vs := [.l (dActs as)]) L_kr rfl ?_
  refine WR.ev (ev_l1In as.length 1 4) rfl ?_ rfl ?_
  · show [dI ((dActs as).length : Int), dI 1, dI 4] = _
    rw [dActs_len]
  refine WR.iteN (inB as.length 1 4) rfl (fun h => WR.done ?_) (fun h => ?_)
  · show [dB false] = _
    simp [catOk, h]
  refine WR.forP as.length (fun i => [.i i]) (fun i => (as.take i).all actOk = true) rfl rfl (by simp) fun i hi hp => ?_
  refine WR.iteLen i (dActs_len as) rfl (fun h' => ?_) (fun h' => ?_)
  · obtain ⟨x, hx, hm⟩ := some_at h'
    refine WR.idxN i (map_at (f := fun a => .s (dAct a)) hx) rfl rfl rfl rfl ?_
    refine WR.ev (ev_ActOk x (hf.2 x hm)) rfl rfl rfl ?_
    refine WR.iteN (actOk x) rfl (fun hb => WR.esc (WR.done ?_)) (fun hb => ?_)
    · show [dB false] = _
      simp [catOk, all_not hx hb]
    · refine WR.nextA (vs := [.i ((i + 1 : Nat) : Int)]) ?_ ⟨h', rfl, all_take hx hp hb⟩
      show [V.i (IntKind.i64.wrap ((i : Int) + 1))] = _
      rw [wS h' (by omega)]
  · refine WR.esc (WR.done ?_)
    rw [take_all h'] at hp
    show [dB true] = _
    simp only [catOk, h, hp]; simp
theorem ev_CatPart (f : Frm) (hl : Lim 1000000000 f.c) (hn : f.c.length ≤ 2000000) : Ev L f_k16 f.cells [.s (dL (partOf f.c))] := by
  refine Ev.eq (vs := [.l (dL f.c), .l (dL f.d), .i f.k]) L_k16 rfl ?_
  refine WR.forP f.c.length (fun i => [.l (dL (partOf (f.c.take i))), .i (sgn1 (f.c.take i)), .i i]) (fun _ => True) rfl rfl trivial fun i hi _ => ?_
  refine WR.iteLen i (dL_len f.c) rfl (fun h => ?_) (fun h => ?_)
  · obtain ⟨x, hx, hm⟩ := some_at h
    have hd := map_at (f := dI) hx
    have hxl := hl x hm
    have hs := sgn_snoc (f.c.take i) x
    have hps := part_snoc (f.c.take i) x
    rw [← take_succ hx] at hs hps
    have hlen : (partOf (f.c.take i)).length ≤ i := by rw [part_len]; simp; omega
    have hin := sgn_in (f.c.take i)
    have fin : ∀ (s : Int) (l : List V), s = sgn1 (f.c.take (i + 1)) → [V.l (dL (partOf (f.c.take i)) ++ [dI (IntKind.i64.wrap (s * x))]), V.i s, V.i (IntKind.i64.wrap ((i : Int) + 1))] = [V.l (dL (partOf (f.c.take (i + 1)))), .i (sgn1 (f.c.take (i + 1))), .i ((i + 1 : Nat) : Int)] := by
      intro s _ e
      subst e
      rw [wS h (by omega), hps, w64, dL_snoc]
      · rcases sgn_in (f.c.take (i + 1)) with e | e | e <;> rw [e] <;> omega
      · rcases sgn_in (f.c.take (i + 1)) with e | e | e <;> rw [e] <;> omega
    generalize hS : sgn1 (f.c.take i) = S at *
    refine WR.iteP (S = 0) rfl (fun h0 => ?_) (fun h0 => ?_)
    · subst h0
      simp only [if_true] at hs
      refine WR.idxN i hd rfl rfl rfl rfl ?_
      refine WR.iteP (0 < x) rfl (fun h1 => ?_) (fun h1 => ?_)
      · refine WR.idxN i hd rfl rfl rfl rfl ?_
        refine WR.chkApp (dL (partOf (f.c.take i))) 2000000 (by rw [dL_len]; omega) (by omega) rfl ?_
        rw [if_pos h1] at hs
        exact WR.nextA (fin 1 [] hs.symm) ⟨h, rfl, trivial⟩
      · refine WR.iteP ((0 : Int) = 0) rfl (fun _ => ?_) (fun h => absurd rfl h)
        refine WR.idxN i hd rfl rfl rfl rfl ?_
        refine WR.iteP (x < 0) rfl (fun h2 => ?_) (fun h2 => ?_)
        · refine WR.idxN i hd rfl rfl rfl rfl ?_
          refine WR.chkApp (dL (partOf (f.c.take i))) 2000000 (by rw [dL_len]; omega) (by omega) rfl ?_
          rw [if_neg h1, if_pos h2] at hs
          exact WR.nextA (fin (-1) [] hs.symm) ⟨h, rfl, trivial⟩
        · refine WR.idxN i hd rfl rfl rfl rfl ?_
          refine WR.chkApp (dL (partOf (f.c.take i))) 2000000 (by rw [dL_len]; omega) (by omega) rfl ?_
          rw [if_neg h1, if_neg h2] at hs
          exact WR.nextA (fin 0 [] hs.symm) ⟨h, rfl, trivial⟩
    · rw [if_neg h0] at hs
      refine WR.iteP (S = 0) rfl (fun h => absurd h h0) (fun _ => ?_)
      refine WR.idxN i hd rfl rfl rfl rfl ?_
      refine WR.chkApp (dL (partOf (f.c.take i))) 2000000 (by rw [dL_len]; omega) (by omega) rfl ?_
      exact WR.nextA (fin S [] hs.symm) ⟨h, rfl, trivial⟩
  · refine WR.esc (WR.done ?_)
    show [D.s (dL (partOf (f.c.take i)))] = _
    rw [take_all h]
def sameR (cmp : E) (sh : Sh) : R :=
  .ite (.not (.cmp .eq (.len (.v 0)) (.len (.v 1))))
   (
    .done [(.vb .ff)])
   (
    .loop 2 [(.z 0)] <|
      .ite (.cmp .lt (.v 2) (.len (.v 0)))
       (
        .i (.idx (.v 0) (.v 2) sh 3) <|
        .i (.idx (.v 1) (.v 2) sh 4) <|
        .ite (.not cmp)
         (
          .esc <|
          .done [(.vb .ff)])
         (
          .next [(.bin .add .i64 (.v 2) (.z 1))]))
       (
        .esc <|
        .done [(.vb .tt)]))
theorem ev_same {α : Type} [DecidableEq α] {f : FuncId} {H : Hint} {s : Sig} {cmp : E} {sh : Sh} (enc : α → D) (vOf : α → V) (a b : List α) (hf : L.lookup f = some ⟨s, .r H (sameR cmp sh)⟩) (hs : insOf s = [.s, .s])
    (hb : ∀ x, bindSh sh (enc x) = some [vOf x]) (hc : ∀ (v0 v1 v2 : V) (x y : α), bol (envL [v0, v1, v2, vOf x, vOf y]) cmp = decide (x = y)) (hl : a.length ≤ 2000000) :
    Ev L f [.s (a.map enc), .s (b.map enc)] [dB (decide (a = b))] := by
  refine Ev.eq (vs := [.l (a.map enc), .l (b.map enc)]) hf (by rw [hs]; rfl) ?_
  refine WR.iteP (¬ a.length = b.length) ?_ (fun h => WR.done ?_) (fun h => ?_)
  · show (!(decide (((a.map enc).length : Int) = ((b.map enc).length : Int)))) = _
    rw [List.length_map, List.length_map]
    by_cases h : a.length = b.length
    · simp [h]
    · simp [h, show ¬ (a.length : Int) = b.length by omega]
  · show [dB false] = _
    rw [decide_eq_false]
    intro e; exact h (by rw [e])
  have h : a.length = b.length := Classical.not_not.1 h
  refine WR.forP a.length (fun i => [.i i]) (fun i => a.take i = b.take i) rfl rfl rfl fun i hi hp => ?_
  refine WR.iteLen i (List.length_map (f := enc) (as := a)) rfl (fun h' => ?_) (fun h' => ?_)
  · obtain ⟨x, hx, _⟩ := some_at h'
    obtain ⟨y, hy, _⟩ := some_at (show i < b.length by omega)
    refine WR.idxN i (map_at (f := enc) hx) rfl rfl rfl (hb x) ?_
    refine WR.idxN i (map_at (f := enc) hy) rfl rfl rfl (hb y) ?_
    refine WR.iteN (decide (x = y)) ?_ (fun hxy => WR.esc (WR.done ?_)) (fun hxy => ?_)
    · show (!(bol (envL [V.l (a.map enc), .l (b.map enc), .i i, vOf x, vOf y]) cmp)) = _
      rw [hc]
    · show [dB false] = _
      rw [decide_eq_false]
      intro e
      subst e
      rw [hx] at hy
      simp only [Option.some.injEq] at hy
      simp [hy] at hxy
    · have hxy : x = y := by simpa using hxy
      subst hxy
      refine WR.nextA (vs := [.i ((i + 1 : Nat) : Int)]) ?_ ⟨h', rfl, by show a.take (i + 1) = b.take (i + 1); rw [take_succ hx, take_succ hy, hp]⟩
      show [V.i (IntKind.i64.wrap ((i : Int) + 1))] = _
      rw [wS h' (by omega)]
  · refine WR.esc (WR.done ?_)
    rw [take_all h', take_all (by omega)] at hp
    subst hp
    show [dB true] = _
    simp
theorem ev_l4Same (a b : List Int) (hl : a.length ≤ 2000000) : Ev L f_k17 [.s (dL a), .s (dL b)] [dB (decide (a = b))] :=
  ev_same dI .i a b L_k17 rfl (fun _ => rfl) (fun _ _ _ _ _ => rfl) hl
theorem ev_CatHas (l : List (List Int)) (p : List Int) (hl : l.length ≤ 2000000) (hq : ∀ q ∈ l, q.length ≤ 2000000) : Ev L f_k18 [.s (dLL l), .s (dL p)] [dI (hasAt l p)] := by
  refine Ev.eq (vs := [.l (dLL l), .l (dL p)]) L_k18 rfl ?_
  refine WR.forP l.length (fun i => [.i i]) (fun i => (l.take i).any (fun q => decide (q = p)) = false) rfl rfl (by simp) fun i hi hn => ?_
  refine WR.iteLen i (dLL_len l) rfl (fun h => ?_) (fun h => ?_)
  · obtain ⟨x, hx, hm⟩ := some_at h
    refine WR.idxN i (map_at (f := fun x => .s (dL x)) hx) rfl rfl rfl rfl ?_
    refine WR.ev (ev_l4Same x p (hq x hm)) rfl rfl rfl ?_
    refine WR.iteB (decide (x = p)) rfl (fun hp => WR.esc (WR.done ?_)) (fun hp => ?_)
    · show [dI i] = _
      rw [hasAt, place_some hx hp hn]
    · refine WR.nextA (vs := [.i ((i + 1 : Nat) : Int)]) ?_ ⟨h, rfl, any_take hx hn hp⟩
      show [V.i (IntKind.i64.wrap ((i : Int) + 1))] = _
      rw [wS h (by omega)]
  · refine WR.esc (WR.done ?_)
    rw [take_all h] at hn
    show [dI (-1)] = _
    rw [hasAt, place_none hn]
theorem head_bl (p : List Bool) : headOk 1 (dBl p) = true := by cases p <;> rfl
theorem ev_l4Reads (p : List Bool) (fs : List Frm) (hp : p.length = 3) (hc : ∀ f ∈ fs, f.c.length = 3) (hl : fs.length ≤ 2000000) : Ev L f_k15 [.s (dBl p), .s (dF fs)] [.s (dBl (readsL p fs))] := by
  refine Ev.eq (vs := [.l (dBl p), .l (dF fs)]) L_k15 rfl ?_
  refine WR.chkN (dBl p) 3 (by rw [dBl_len]; omega) (by omega) rfl ?_
  refine WR.head (head_bl p) ?_
  refine WR.chkN (dBl p) 3 (by rw [dBl_len]; omega) (by omega) rfl ?_
  refine WR.forP fs.length (fun i => [.l (dBl (readsL p (fs.take i))), .i i]) (fun _ => True) rfl rfl trivial fun i hi _ => ?_
  refine WR.iteLen i (dF_len fs) rfl (fun h => ?_) (fun h => ?_)
  · obtain ⟨x, hx, hm⟩ := some_at h
    have hx3 := hc x hm
    have hP : (readsL p (fs.take i)).length = 3 := readsL_len hp fun f hf => hc f (List.mem_of_mem_take hf)
    have hS : readsL p (fs.take (i + 1)) = orAt (readsL p (fs.take i)) x.c := foldl_take hx
    generalize readsL p (fs.take i) = P at *
    have hO : (orAt P x.c).length = 3 := by rw [orAt_len]; omega
    refine WR.forP 3 (fun v => [.l (dBl ((orAt P x.c).take v ++ P.drop v)), .i v]) (fun _ => True) rfl rfl trivial fun v hv _ => ?_
    refine WR.iteLt v 3 rfl (fun hv3 => ?_) (fun hv3 => ?_)
    · obtain ⟨n, hn, _⟩ := some_at (show v < x.c.length by omega)
      obtain ⟨b, hb, _⟩ := some_at (show v < P.length by omega)
      have ho : (orAt P x.c)[v]? = some (b || decide (n ≠ 0)) := by simp [orAt, List.getElem?_zipWith, hn, hb]
      refine WR.idxN i (map_at (f := Frm.g) hx) rfl rfl rfl rfl ?_
      refine WR.idxN v (map_at (f := dI) hn) rfl rfl rfl rfl ?_
      have hlen : ((orAt P x.c).take v ++ P.drop v).length = 3 := by simp; omega
      refine WR.iteN (decide (n = 0)) rfl (fun h0 => ?_) (fun h0 => ?_)
      · obtain ⟨b', hb', _⟩ := some_at (show v < ((orAt P x.c).take v ++ P.drop v).length by omega)
        refine WR.atN v (map_at (f := dB) hb') rfl rfl rfl rfl rfl rfl ?_
        have h0 : n ≠ 0 := by simpa using h0
        have ho : (orAt P x.c)[v]? = some true := by rw [ho]; simp [h0]
        refine WR.nextA (vs := [.l (dBl ((orAt P x.c).take (v + 1) ++ P.drop (v + 1))), .i ((v + 1 : Nat) : Int)]) ?_ ⟨hv3, rfl, trivial⟩
        show [V.l ((dBl ((orAt P x.c).take v ++ P.drop v)).set (v : Int).toNat (dB true)), V.i (IntKind.i64.wrap ((v : Int) + 1))] = _
        rw [wS hv3 (by omega), dBl_set, Int.toNat_natCast, fill' (by omega) ho]
      · have h0 : n = 0 := by simpa using h0
        refine WR.nextA (vs := [.l (dBl ((orAt P x.c).take (v + 1) ++ P.drop (v + 1))), .i ((v + 1 : Nat) : Int)]) ?_ ⟨hv3, rfl, trivial⟩
        show [V.l (dBl ((orAt P x.c).take v ++ P.drop v)), V.i (IntKind.i64.wrap ((v : Int) + 1))] = _
        rw [wS hv3 (by omega), fill_same (s := b) (by rw [ho]; simp [h0]) hb]
    · have : v = 3 := by omega
      subst this
      rw [List.take_of_length_le (by omega), List.drop_eq_nil_of_le (by omega), List.append_nil]
      refine WR.esc ?_
      refine WR.nextA (vs := [.l (dBl (readsL p (fs.take (i + 1)))), .i ((i + 1 : Nat) : Int)]) ?_ ⟨h, rfl, trivial⟩
      show [V.l (dBl (orAt P x.c)), V.i (IntKind.i64.wrap ((i : Int) + 1))] = _
      rw [wS h (by omega), hS]
  · refine WR.esc (WR.done ?_)
    show [D.s (dBl (readsL p (fs.take i)))] = _
    rw [take_all h]
end Go.Proofs.YtdibnlhlngodeaaGreatDoor

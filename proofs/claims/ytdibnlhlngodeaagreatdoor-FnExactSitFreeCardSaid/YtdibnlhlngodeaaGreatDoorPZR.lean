import Derived.Test.YtdibnlhlngodeaaGreatDoorPZG
import Derived.Test.YtdibnlhlngodeaaGreatDoorPZH
set_option linter.unusedVariables false
set_option linter.unusedSimpArgs false
/- Sizes and copies of calls, of what was done, of sites, clerks and messages: over residual programs. -/
namespace Go.Proofs.YtdibnlhlngodeaaGreatDoor
open Go Go.Tm
def szL {α : Type} (f : α → Nat) (l : List α) : Nat := l.length + (l.map f).sum
theorem szL_succ {α : Type} (f : α → Nat) {l : List α} {i : Nat} {x : α} (h : l[i]? = some x) : ((l.take (i + 1)).map f).sum = ((l.take i).map f).sum + f x := by rw [map_take_succ h]; simp
theorem szL_split {α : Type} (f : α → Nat) (l : List α) (i : Nat) : szL f l = l.length + ((l.take i).map f).sum + ((l.drop i).map f).sum := by
  unfold szL
  conv => lhs; rw [← List.take_append_drop i l, List.map_append, List.sum_append, List.take_append_drop]
  omega
theorem szL_len {α : Type} (f : α → Nat) (l : List α) : l.length ≤ szL f l := by unfold szL; omega
theorem szL_mem {α : Type} (f : α → Nat) {l : List α} {x : α} (h : x ∈ l) : f x ≤ szL f l := by
  have : f x ≤ (l.map f).sum := by
    induction l with
    | nil => simp at h
    | cons y l ih =>
      simp only [List.map_cons, List.sum_cons]
      rcases List.mem_cons.1 h with rfl | h
      · omega
      · have := ih h; omega
  unfold szL; omega
def bigL {α : Type} (f : α → Prop) (l : List α) : Prop := l.length ≤ 9223372036854775807 ∧ ∀ x ∈ l, f x
def fitL {α : Type} (f : α → Prop) (l : List α) : Prop := l.length ≤ 2000000 ∧ ∀ x ∈ l, f x
theorem fitL_of {α : Type} {f : α → Nat} {p : α → Prop} (hp : ∀ x, f x ≤ 1048576 → p x) {l : List α} (h : szL f l ≤ 1048576) : fitL p l :=
  ⟨by have := szL_len f l; omega, fun x hx => hp x (by have := szL_mem f hx; omega)⟩
def szCal (x : Cal) : Nat := x.args.length
def bigCal (x : Cal) : Prop := x.args.length ≤ 9223372036854775807
def fitCal (x : Cal) : Prop := x.args.length ≤ 2000000
theorem fitCal_of {x : Cal} (h : szCal x ≤ 1048576) : fitCal x := by
  unfold szCal at h
  exact by show _ ≤ _; omega
def szDon (x : Don) : Nat := x.tells.length
def bigDon (x : Don) : Prop := x.tells.length ≤ 9223372036854775807
def fitDon (x : Don) : Prop := x.tells.length ≤ 2000000
theorem fitDon_of {x : Don} (h : szDon x ≤ 1048576) : fitDon x := by
  unfold szDon at h
  exact by show _ ≤ _; omega
theorem ev_szPlnCall (x : Cal) (left : Int) (hb : bigCal x) (h0 : 0 ≤ left) (h1 : left ≤ 1048576) : Ev L f_ka (x.cells ++ [dI left]) [dI (dec left (szCal x))] := by
  refine Ev.eq (vs := [.i x.client, .i x.seq, .i x.act, .l (dL x.args), .i left]) L_ka rfl ?_
  refine WR.ev (ev_szIntS x.args left hb h0 h1) rfl rfl rfl ?_
  simp only [sCA, sNA]
  have hr0 := dec_room (n := x.args.length) h0 h1
  refine WR.iteP (dec left (x.args.length) < 0) rfl (fun h => WR.done ?_) (fun h => WR.done rfl)
  show [dI (-1)] = [dI (dec left (szCal x))]
  have e : dec left (szCal x) = dec left (x.args.length) := rfl
  rw [e, show dec left (x.args.length) = -1 by omega]
theorem ev_szResResult (c : Int) (t : List Int) (left : Int) (hb : t.length ≤ 9223372036854775807) (h0 : 0 ≤ left) (h1 : left ≤ 1048576) : Ev L f_k6 [dI c, .s (dL t), dI left] [dI (dec left t.length)] := by
  refine Ev.eq (vs := [.i c, .l (dL t), .i left]) L_k6 rfl ?_
  refine WR.ev (ev_szIntS t left hb h0 h1) rfl rfl rfl ?_
  have hr := dec_room (n := t.length) h0 h1
  refine WR.iteP (dec left t.length < 0) rfl (fun h => WR.done ?_) (fun h => WR.done rfl)
  show [dI (-1)] = _
  rw [show dec left t.length = -1 by omega]
theorem ev_szPlnDone (x : Don) (left : Int) (hb : bigDon x) (h0 : 0 ≤ left) (h1 : left ≤ 1048576) : Ev L f_k7 (x.cells ++ [dI left]) [dI (dec left (szDon x))] := by
  refine Ev.eq (vs := [.i x.seq, .i x.code, .l (dL x.tells), .i left]) L_k7 rfl ?_
  refine WR.ev (ev_szResResult x.code x.tells left hb h0 h1) rfl rfl rfl ?_
  simp only [sCA, sNA]
  have hr0 := dec_room (n := x.tells.length) h0 h1
  refine WR.iteP (dec left (x.tells.length) < 0) rfl (fun h => WR.done ?_) (fun h => WR.done rfl)
  show [dI (-1)] = [dI (dec left (szDon x))]
  have e : dec left (szDon x) = dec left (x.tells.length) := rfl
  rw [e, show dec left (x.tells.length) = -1 by omega]
theorem ev_szPlnDoneS (l : List Don) (left : Int) (hb : bigL bigDon l) (h0 : 0 ≤ left) (h1 : left ≤ 1048576) : Ev L f_k8 [.s (dDs l), dI left] [dI (dec left (szL szDon l))] := by
  refine Ev.eq (vs := [.l (dDs l), .i left]) L_k8 rfl ?_
  have hlen : (dDs l).length = l.length := by simp [dDs]
  have hl := hb.1
  have hw : IntKind.i64.wrap (left - ((dDs l).length : Int)) = left - l.length := by rw [hlen]; exact w64 (by omega) (by omega)
  refine WR.iteP (left - (l.length : Int) < 0) ?_ (fun h => WR.done ?_) (fun h => ?_)
  · show decide (IntKind.i64.wrap (left - ((dDs l).length : Int)) < 0) = _
    rw [hw]
  · show [dI (-1)] = _
    unfold dec szL; rw [if_neg (by omega)]
  have hal : l.length ≤ 1048576 := by omega
  refine WR.forP l.length (fun i => [.i (dec left (l.length + ((l.take i).map szDon).sum)), .i i]) (fun i => ¬ dec left (l.length + ((l.take i).map szDon).sum) < 0) rfl ?_ ?_ fun i hi hp => ?_
  · show [V.i (IntKind.i64.wrap (left - ((dDs l).length : Int))), V.i 0] = _
    rw [hw]
    simp only [List.take_zero, List.map_nil, List.sum_nil, Nat.add_zero]
    unfold dec; rw [if_pos (by omega)]; rfl
  · simp only [List.take_zero, List.map_nil, List.sum_nil, Nat.add_zero]
    unfold dec; rw [if_pos (by omega)]; omega
  simp only [sCA, sNA]
  have hr := dec_room (n := l.length + ((l.take i).map szDon).sum) h0 h1
  refine WR.iteLen i hlen rfl (fun h' => ?_) (fun h' => WR.esc (WR.done ?_))
  · obtain ⟨x, hx, hm⟩ := some_at h'
    refine WR.idxN (vs := [.i x.seq, .i x.code, .l (dL x.tells)]) i (map_at (f := Don.g) hx) rfl rfl rfl rfl ?_
    simp only [sCA, sNA]
    refine WR.ev (ev_szPlnDone x (dec left (l.length + ((l.take i).map szDon).sum)) (hb.2 x hm) (by omega) (by omega)) rfl rfl rfl ?_
    simp only [sCA, sNA]
    have e := dec_dec (m := szDon x) hp
    rw [Nat.add_assoc, ← szL_succ szDon hx] at e
    rw [e]
    refine WR.iteP (dec left (l.length + ((l.take (i + 1)).map szDon).sum) < 0) rfl (fun h2 => WR.esc (WR.done ?_)) (fun h2 => ?_)
    · show [dI (-1)] = _
      rw [szL_split szDon l (i + 1), dec_lt h2 h0]
    · refine WR.nextA (vs := [.i (dec left (l.length + ((l.take (i + 1)).map szDon).sum)), .i ((i + 1 : Nat) : Int)]) ?_ ⟨h', rfl, h2⟩
      rw [← wS h' (by omega)]; rfl
  · show [dI (dec left (l.length + ((l.take i).map szDon).sum))] = _
    rw [take_all h']; rfl
def szSit (x : Sit) : Nat := x.base.length + x.added.length + szL szDon x.done
def bigSit (x : Sit) : Prop := x.base.length ≤ 9223372036854775807 ∧ x.added.length ≤ 9223372036854775807 ∧ bigL bigDon x.done
theorem ev_szSitSite (x : Sit) (left : Int) (hb : bigSit x) (h0 : 0 ≤ left) (h1 : left ≤ 1048576) : Ev L f_k9 (x.cells ++ [dI left]) [dI (dec left (szSit x))] := by
  refine Ev.eq (vs := [.b x.up, .b x.frozen, .i x.round, .l (dL x.base), .l (dL x.added), .l (dDs x.done), .i left]) L_k9 rfl ?_
  refine WR.ev (ev_szIntS x.base left hb.1 h0 h1) rfl rfl rfl ?_
  simp only [sCA, sNA]
  have hr0 := dec_room (n := x.base.length) h0 h1
  refine WR.iteP (dec left (x.base.length) < 0) rfl (fun h => WR.done ?_) (fun h => ?_)
  · show [dI (-1)] = _
    rw [show szSit x = x.base.length + (x.added.length + szL szDon x.done) by unfold szSit; omega, dec_lt h h0]
  refine WR.ev (ev_szIntS x.added (dec left (x.base.length)) hb.2.1 (by omega) (by omega)) rfl rfl rfl ?_
  simp only [sCA, sNA]
  have hr1 := dec_room (n := x.base.length + x.added.length) h0 h1
  rw [dec_dec h]
  refine WR.iteP (dec left (x.base.length + x.added.length) < 0) rfl (fun h => WR.done ?_) (fun h => ?_)
  · show [dI (-1)] = _
    rw [show szSit x = x.base.length + x.added.length + (szL szDon x.done) by unfold szSit; omega, dec_lt h h0]
  refine WR.ev (ev_szPlnDoneS x.done (dec left (x.base.length + x.added.length)) hb.2.2 (by omega) (by omega)) rfl rfl rfl ?_
  simp only [sCA, sNA]
  have hr2 := dec_room (n := x.base.length + x.added.length + szL szDon x.done) h0 h1
  rw [dec_dec h]
  refine WR.iteP (dec left (x.base.length + x.added.length + szL szDon x.done) < 0) rfl (fun h => WR.done ?_) (fun h => WR.done rfl)
  show [dI (-1)] = [dI (dec left (szSit x))]
  have e : dec left (szSit x) = dec left (x.base.length + x.added.length + szL szDon x.done) := rfl
  rw [e, show dec left (x.base.length + x.added.length + szL szDon x.done) = -1 by omega]
structure Msg where
  kind : Int
  to : Int
  frm : Int
  round : Int
  call : Cal
  vals : List Int
  seqs : List Int
  done : List Don
  deriving DecidableEq
def Msg.cells (x : Msg) : List D := [dI x.kind, dI x.to, dI x.frm, dI x.round, dI x.call.client, dI x.call.seq, dI x.call.act, .s (dL x.call.args), .s (dL x.vals), .s (dL x.seqs), .s (dDs x.done)]
def Msg.g (x : Msg) : D := .g x.cells
theorem ev_toPlnCall (x : Cal) (hf : fitCal x) : Ev L f_kl x.cells x.cells := by
  refine Ev.eq (vs := [.i x.client, .i x.seq, .i x.act, .l (dL x.args)]) L_kl rfl ?_
  refine WR.ev (vs := [.l (dL x.args)]) (ev_toIntS x.args hf) rfl rfl rfl ?_
  simp only [sCA, sNA]
  exact WR.done rfl
theorem ev_toResResult (c : Int) (t : List Int) (ht : t.length ≤ 2000000) : Ev L f_kh [dI c, .s (dL t)] [dI c, .s (dL t)] := by
  refine Ev.eq (vs := [.i c, .l (dL t)]) L_kh rfl ?_
  exact WR.ev (vs := [.l (dL t)]) (ev_toIntS t ht) rfl rfl rfl (WR.done rfl)
theorem ev_toPlnDone (x : Don) (hf : fitDon x) : Ev L f_ki x.cells x.cells := by
  refine Ev.eq (vs := [.i x.seq, .i x.code, .l (dL x.tells)]) L_ki rfl ?_
  refine WR.ev (vs := [.i x.code, .l (dL x.tells)]) (ev_toResResult x.code x.tells hf) rfl rfl rfl ?_
  simp only [sCA, sNA]
  exact WR.done rfl
theorem ev_toPlnDoneS (l : List Don) (hf : fitL fitDon l) : Ev L f_kj [.s (dDs l)] [.s (dDs l)] := by
  refine Ev.eq (vs := [.l (dDs l)]) L_kj rfl ?_
  have hlen : (dDs l).length = l.length := by simp [dDs]
  have hl := hf.1
  refine WR.chk (by show decide ((0 : Int) ≤ ((dDs l).length : Int)) = true; simp) ?_
  refine WR.chkN (dDs l) 2000000 (by omega) (by omega) rfl ?_
  refine WR.forP (dDs l).length (fun i => [.l ((dDs l).take i ++ List.replicate ((dDs l).length - i) (Don.g ⟨0, 0, []⟩)), .i i]) (fun _ => True) rfl ?_ trivial fun i hi _ => ?_
  · show [V.l (List.replicate ((dDs l).length : Int).toNat (Don.g ⟨0, 0, []⟩)), V.i 0] = _
    simp
  simp only [sCA, sNA]
  refine WR.iteLen i (ds := dDs l) rfl rfl (fun h => ?_) (fun h => WR.esc (WR.done ?_))
  · obtain ⟨x, hx, hm⟩ := some_at (show i < l.length by omega)
    refine WR.idxN (vs := [.i x.seq, .i x.code, .l (dL x.tells)]) i (map_at (f := Don.g) hx) rfl rfl rfl rfl ?_
    simp only [sCA, sNA]
    refine WR.ev (vs := [.i x.seq, .i x.code, .l (dL x.tells)]) (ev_toPlnDone x (hf.2 x hm)) rfl rfl rfl ?_
    simp only [sCA, sNA]
    refine WR.atN (vs := [.i 0, .i 0, .l []]) (ds := (dDs l).take i ++ List.replicate ((dDs l).length - i) (Don.g ⟨0, 0, []⟩)) i (fill_at h) rfl rfl rfl rfl rfl rfl ?_
    refine WR.nextA (vs := [.l ((dDs l).take (i + 1) ++ List.replicate ((dDs l).length - (i + 1)) (Don.g ⟨0, 0, []⟩)), .i ((i + 1 : Nat) : Int)]) ?_ ⟨h, rfl, trivial⟩
    show [V.l (((dDs l).take i ++ List.replicate ((dDs l).length - i) (Don.g ⟨0, 0, []⟩)).set (i : Int).toNat (Don.g x)), V.i (IntKind.i64.wrap ((i : Int) + 1))] = _
    rw [wS h (by omega), Int.toNat_natCast, fill_set (es := dDs l) (map_at (f := Don.g) hx)]
  · show [D.s ((dDs l).take i ++ List.replicate ((dDs l).length - i) (Don.g ⟨0, 0, []⟩))] = _
    rw [fill_end h]
theorem fitSit_of {x : Sit} (h : szSit x ≤ 1048576) : fitSit x := by
  unfold szSit at h
  have hd := fitL_of (f := szDon) (p := fitDon) (fun _ => fitDon_of) (l := x.done) (by omega)
  exact ⟨by omega, by omega, hd.1, hd.2⟩
theorem ev_toSitSite (x : Sit) (hf : fitSit x) : Ev L f_kk x.cells x.cells := by
  refine Ev.eq (vs := [.b x.up, .b x.frozen, .i x.round, .l (dL x.base), .l (dL x.added), .l (dDs x.done)]) L_kk rfl ?_
  refine WR.ev (vs := [.l (dL x.base)]) (ev_toIntS x.base hf.1) rfl rfl rfl ?_
  refine WR.ev (vs := [.l (dL x.added)]) (ev_toIntS x.added hf.2.1) rfl rfl rfl ?_
  refine WR.ev (vs := [.l (dDs x.done)]) (ev_toPlnDoneS x.done ⟨hf.2.2.1, hf.2.2.2⟩) rfl rfl rfl ?_
  exact WR.done rfl
abbrev tyCal : Ty := .st [.i .i64, .i .i64, .i .i64, tyInts]
abbrev tyRes : Ty := .st [.i .i64, tyInts]
abbrev tyDon : Ty := .st [.i .i64, tyRes]
abbrev tySit : Ty := .st [.b, .b, .i .i64, tyInts, tyInts, .sl tyDon]
theorem cal_of {ds : List D} (h : TySh tyCal ds) : ∃ x : Cal, ds = x.cells ∧ bigCal x := by
  obtain ⟨_, _, rfl, ⟨a, rfl⟩, _, _, rfl, ⟨b, rfl⟩, _, _, rfl, ⟨c, rfl⟩, _, _, rfl, h1, rfl⟩ := h
  obtain ⟨l, rfl, hl⟩ := ints_of h1
  exact ⟨⟨a, b, c, l⟩, rfl, hl⟩
theorem don_of {ds : List D} (h : TySh tyDon ds) : ∃ x : Don, ds = x.cells ∧ bigDon x := by
  obtain ⟨_, _, rfl, ⟨a, rfl⟩, _, _, rfl, ⟨_, _, rfl, ⟨b, rfl⟩, _, _, rfl, h1, rfl⟩, rfl⟩ := h
  obtain ⟨l, rfl, hl⟩ := ints_of h1
  exact ⟨⟨a, b, l⟩, rfl, hl⟩
theorem dons_of {ds : List D} (h : TySh (.sl tyDon) ds) : ∃ l, ds = [.s (dDs l)] ∧ bigL bigDon l := by
  obtain ⟨es, rfl, hl, he⟩ := h
  obtain ⟨l, rfl, hp⟩ := map_ex (f := Don.g) (p := bigDon) fun x hx => by
    obtain ⟨cs, h1, rfl⟩ := he x hx
    obtain ⟨l, rfl, hf⟩ := don_of h1
    exact ⟨l, hf, rfl⟩
  exact ⟨l, rfl, by rw [List.length_map] at hl; unfold maxLen at hl; omega, hp⟩
theorem sit_of {ds : List D} (h : TySh tySit ds) : ∃ x : Sit, ds = x.cells ∧ bigSit x := by
  obtain ⟨_, _, rfl, ⟨a, rfl⟩, _, _, rfl, ⟨b, rfl⟩, _, _, rfl, ⟨c, rfl⟩, _, _, rfl, h1, _, _, rfl, h2, _, _, rfl, h3, rfl⟩ := h
  obtain ⟨l, rfl, hl⟩ := ints_of h1
  obtain ⟨m, rfl, hm⟩ := ints_of h2
  obtain ⟨d, rfl, hd⟩ := dons_of h3
  exact ⟨⟨a, b, c, l, m, d⟩, rfl, hl, hm, hd⟩
end Go.Proofs.YtdibnlhlngodeaaGreatDoor
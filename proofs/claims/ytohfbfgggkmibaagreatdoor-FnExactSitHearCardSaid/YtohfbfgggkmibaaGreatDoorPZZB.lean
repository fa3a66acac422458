import Derived.Test.YtohfbfgggkmibaaGreatDoorPZY
import Derived.Test.YtohfbfgggkmibaaGreatDoorPZZ
set_option linter.unusedVariables false
set_option linter.unusedSimpArgs false
/- The program's SitHear answers as the reference's: over residual programs. -/
namespace Go.Proofs.YtohfbfgggkmibaaGreatDoor
open Go Go.Tm
def pickD (g : Nat) (k : Int) (i : Nat) (x y : Don) : Don := if Int.tmod (i : Int) (g : Int) = k ∧ x.seq < y.seq then y else x
def mixTo (g : Nat) (k : Int) (sd md : List Don) (n : Nat) : List Don := sd.mapIdx fun j x => if j < n then pickD g k j x (md.getD j don0) else x
theorem mixTo_len (g : Nat) (k : Int) (sd md : List Don) (n : Nat) : (mixTo g k sd md n).length = sd.length := by simp [mixTo]
theorem mixTo_0 (g : Nat) (k : Int) (sd md : List Don) : mixTo g k sd md 0 = sd := by
  apply List.ext_getElem?; intro j; simp only [mixTo,List.getElem?_mapIdx]; cases sd[j]? <;> simp
theorem mixTo_at {g : Nat} {k : Int} {sd md : List Don} {i : Nat} {x : Don} (h : sd[i]? = some x) : (mixTo g k sd md i)[i]? = some x := by
  simp [mixTo,List.getElem?_mapIdx,h]
theorem mixTo_set {g : Nat} {k : Int} {sd md : List Don} {i : Nat} {x y : Don} (h : sd[i]? = some x) (hy : md[i]? = some y) : (mixTo g k sd md i).set i (pickD g k i x y) = mixTo g k sd md (i + 1) := by
  apply List.ext_getElem?; intro j
  have hl : i < sd.length := (List.getElem?_eq_some_iff.1 h).1
  by_cases hj : i = j
  · subst hj
    rw [List.getElem?_set_self (by rw [mixTo_len]; exact hl)]
    have e : md.getD i don0 = y := getD_of hy
    simp only [mixTo,List.getElem?_mapIdx,h,Option.map_some,e,show i < i + 1 by omega,if_true]
  · rw [List.getElem?_set_ne hj]
    simp only [mixTo,List.getElem?_mapIdx]
    cases sd[j]? with
    | none => rfl
    | some z =>
      simp only [Option.map_some]
      by_cases h1 : j < i
      · rw [if_pos h1,if_pos (show j < i + 1 by omega)]
      · rw [if_neg h1,if_neg (show ¬ j < i + 1 by omega)]
theorem mixTo_same {g : Nat} {k : Int} {sd md : List Don} {i : Nat} {x y : Don} (h : sd[i]? = some x) (hy : md[i]? = some y) (hp : ¬ (Int.tmod (i : Int) (g : Int) = k ∧ x.seq < y.seq)) : mixTo g k sd md i = mixTo g k sd md (i + 1) := by
  rw [← mixTo_set h hy]
  have e : pickD g k i x y = x := by unfold pickD; rw [if_neg hp]
  rw [e]
  apply List.ext_getElem?; intro j
  have hl : i < sd.length := (List.getElem?_eq_some_iff.1 h).1
  by_cases hj : i = j
  · subst hj
    rw [List.getElem?_set_self (by rw [mixTo_len]; exact hl)]
    exact mixTo_at h
  · rw [List.getElem?_set_ne hj]
theorem mixTo_mem {g : Nat} {k : Int} {sd md : List Don} {n : Nat} (hl : md.length = sd.length) {d : Don} (h : d ∈ mixTo g k sd md n) : d ∈ sd ∨ d ∈ md := by
  obtain ⟨j,hj⟩ := List.getElem?_of_mem h
  simp only [mixTo,List.getElem?_mapIdx] at hj
  cases hx : sd[j]? with
  | none => rw [hx] at hj; simp at hj
  | some x =>
    have hjl : j < md.length := by rw [hl]; exact (List.getElem?_eq_some_iff.1 hx).1
    have hyy : md[j]? = some md[j] := List.getElem?_eq_getElem hjl
    rw [hx] at hj
    simp only [Option.map_some,Option.some.injEq,getD_of hyy] at hj
    have mx : x ∈ sd := List.mem_of_getElem? hx
    have my : md[j] ∈ md := List.getElem_mem hjl
    split at hj
    · unfold pickD at hj
      split at hj
      · subst hj; exact .inr my
      · subst hj; exact .inl mx
    · subst hj; exact .inl mx
def seqsM (l : List Don) : List Int := l.map fun d => d.seq
def giveM (s : Sit) (k : Int) : Msg := ⟨3,-1,k,s.round,⟨0,0,0,[]⟩,s.added,seqsM s.done,[]⟩
def hearS (p : Pln) (s : Sit) (k : Int) (m : Msg) : Sit :=
  if s.up = true ∧ m.to = k then
    if m.kind = 2 ∧ m.round = s.round then ⟨s.up,true,s.round,s.base,s.added,s.done⟩
    else if m.kind = 4 ∧ s.round < m.round then ⟨s.up,false,m.round,m.vals,[0,0,0],mixTo p.gives.length k s.done m.done s.done.length⟩
    else s
  else s
def hearM (s : Sit) (k : Int) (m : Msg) : List Msg := if s.up = true ∧ m.to = k ∧ m.kind = 2 ∧ m.round = s.round then [giveM s k] else []
theorem ev_seqs (l : List Don) (hl : l.length ≤ 2000000) : Ev L f_k4b [.s (dDs l)] [.s (dL (seqsM l))] := by
  refine Ev.eq (vs := [.l (dDs l)]) L_k4b rfl ?_
  refine WR.forP l.length (fun i => [.l (dL (seqsM (l.take i))),.i i]) (fun _ => True) rfl rfl trivial fun i hi _ => ?_
  simp only [sCA,sNA]
  refine WR.iteLen i (dDs_len l) rfl (fun h => ?_) (fun h => WR.esc (WR.done ?_))
  · obtain ⟨x,hx,hm⟩ := some_at h
    refine WR.idxN (vs := [.i x.seq,.i x.code,.l (dL x.tells)]) i (map_at (f := Don.g) hx) rfl rfl rfl rfl ?_
    simp only [sCA,sNA]
    refine WR.chkApp (dL (seqsM (l.take i))) 2000000 (by rw [dL_len]; simp only [seqsM,List.length_map,List.length_take]; omega) (by omega) rfl ?_
    refine WR.nextA (vs := [.l (dL (seqsM (l.take (i + 1)))),.i ((i + 1 : Nat) : Int)]) ?_ ⟨h,rfl,trivial⟩
    show [V.l (dL (seqsM (l.take i)) ++ [dI x.seq]),V.i (IntKind.i64.wrap ((i : Int) + 1))] = _
    rw [wS h (by omega),take_succ hx]
    simp only [dL,seqsM,List.map_append,List.map_cons,List.map_nil]
  · show [D.s (dL (seqsM (l.take i)))] = _
    rw [take_all h]
theorem ev_l8Gives (s : Sit) (k : Int) (hs : fitSit s) : Ev L f_k1w (s.cells ++ [dI k]) (giveM s k).cells := by
  refine Ev.eq (vs := [.b s.up,.b s.frozen,.i s.round,.l (dL s.base),.l (dL s.added),.l (dDs s.done),.i k]) L_k1w rfl ?_
  have h2 := hs.2.1
  have h3 := hs.2.2.1
  refine WR.chkN (dL s.added) 2000000 (by rw [dL_len]; omega) (by omega) rfl ?_
  refine WR.head (head_dL s.added) ?_
  refine WR.chkN (dL s.added) 2000000 (by rw [dL_len]; omega) (by omega) rfl ?_
  refine WR.forP s.done.length (fun i => [.l (dL (seqsM (s.done.take i))),.i i]) (fun _ => True) rfl rfl trivial fun i hi _ => ?_
  simp only [sCA,sNA]
  refine WR.iteLen i (dDs_len s.done) rfl (fun h => ?_) (fun h => WR.esc (WR.done ?_))
  · obtain ⟨x,hx,hm⟩ := some_at h
    refine WR.idxN (vs := [.i x.seq,.i x.code,.l (dL x.tells)]) i (map_at (f := Don.g) hx) rfl rfl rfl rfl ?_
    simp only [sCA,sNA]
    refine WR.chkApp (dL (seqsM (s.done.take i))) 2000000 (by rw [dL_len]; simp only [seqsM,List.length_map,List.length_take]; omega) (by omega) rfl ?_
    refine WR.nextA (vs := [.l (dL (seqsM (s.done.take (i + 1)))),.i ((i + 1 : Nat) : Int)]) ?_ ⟨h,rfl,trivial⟩
    show [V.l (dL (seqsM (s.done.take i)) ++ [dI x.seq]),V.i (IntKind.i64.wrap ((i : Int) + 1))] = _
    rw [wS h (by omega),take_succ hx]
    simp only [dL,seqsM,List.map_append,List.map_cons,List.map_nil]
  · rw [take_all h]; rfl
theorem hear_no {p : Pln} {s : Sit} {k : Int} {m : Msg} (h : ¬ (s.up = true ∧ m.to = k) ∨ (¬ (m.kind = 2 ∧ m.round = s.round) ∧ ¬ (m.kind = 4 ∧ s.round < m.round))) : hearS p s k m = s ∧ hearM s k m = [] := by
  unfold hearS hearM
  rcases h with h | ⟨h1,h2⟩
  · rw [if_neg h,if_neg (fun q => h ⟨q.1,q.2.1⟩)]; exact ⟨rfl,rfl⟩
  · have h3 : ¬ (s.up = true ∧ m.to = k ∧ m.kind = 2 ∧ m.round = s.round) := fun q => h1 q.2.2
    rw [if_neg h1,if_neg h2,if_neg h3]; simp
theorem hear_2 {p : Pln} {s : Sit} {k : Int} {m : Msg} (h1 : s.up = true) (h2 : m.to = k) (h3 : m.kind = 2) (h4 : m.round = s.round) : hearS p s k m = ⟨s.up,true,s.round,s.base,s.added,s.done⟩ ∧ hearM s k m = [giveM s k] := by
  unfold hearS hearM
  rw [if_pos ⟨h1,h2⟩,if_pos ⟨h3,h4⟩,if_pos ⟨h1,h2,h3,h4⟩]; exact ⟨rfl,rfl⟩
theorem hear_4 {p : Pln} {s : Sit} {k : Int} {m : Msg} (h1 : s.up = true) (h2 : m.to = k) (h3 : m.kind = 4) (h4 : s.round < m.round) : hearS p s k m = ⟨s.up,false,m.round,m.vals,[0,0,0],mixTo p.gives.length k s.done m.done s.done.length⟩ ∧ hearM s k m = [] := by
  unfold hearS hearM
  rw [if_pos ⟨h1,h2⟩,if_neg (fun q => by omega),if_pos ⟨h3,h4⟩,if_neg (fun q => by omega)]; exact ⟨rfl,rfl⟩
theorem set_self {α : Type} {l : List α} {i : Nat} {x : α} (h : l[i]? = some x) : l.set i x = l := by
  apply List.ext_getElem?; intro j
  have hl : i < l.length := (List.getElem?_eq_some_iff.1 h).1
  by_cases hj : i = j
  · subst hj; rw [List.getElem?_set_self hl,h]
  · rw [List.getElem?_set_ne hj]
theorem ev_l8Hear (p : Pln) (s : Sit) (k : Int) (m : Msg) (hs : fitSit s) (hm : fitMsg m) (hg : 0 < p.gives.length) (hdone : m.kind = 4 → m.done.length = s.done.length) :
    Ev L f_k1x (p.cells ++ s.cells ++ [dI k] ++ m.cells) ((hearS p s k m).cells ++ [.s (dMs (hearM s k m))]) := by
  refine Ev.eq (vs := [.i p.n,.l (dActs p.acts),.l (dL p.gives),.l (dL p.start),.b s.up,.b s.frozen,.i s.round,.l (dL s.base),.l (dL s.added),.l (dDs s.done),.i k,.i m.kind,.i m.to,.i m.frm,.i m.round,.i m.call.client,.i m.call.seq,.i m.call.act,.l (dL m.call.args),.l (dL m.vals),.l (dL m.seqs),.l (dDs m.done)]) L_k1x rfl ?_
  refine WR.ev (vs := [.b s.up,.b s.frozen,.i s.round,.l (dL s.base),.l (dL s.added),.l (dDs s.done)]) (ev_l8Copy s hs) rfl rfl rfl ?_
  simp only [sCA,sNA]
  refine WR.iteN s.up rfl (fun a => WR.done (by obtain ⟨e1,e2⟩ := hear_no (p := p) (s := s) (k := k) (m := m) (by exact .inl (fun q => by rw [a] at q; cases q.1)); rw [e1,e2]; rfl)) (fun a => ?_)
  refine WR.iteN (decide (m.to = k)) rfl (fun b => WR.done (by obtain ⟨e1,e2⟩ := hear_no (p := p) (s := s) (k := k) (m := m) (by exact .inl (fun q => by simp [q.2] at b)); rw [e1,e2]; rfl)) (fun b => ?_)
  have b : m.to = k := by simpa using b
  have hno : ∀ q : (¬ (m.kind = 2 ∧ m.round = s.round) ∧ ¬ (m.kind = 4 ∧ s.round < m.round)),hearS p s k m = s ∧ hearM s k m = [] := fun q => hear_no (.inr q)
  refine WR.iteP (m.kind = 2) rfl (fun d => ?_) (fun d => ?_)
  · refine WR.iteP (m.round = s.round) rfl (fun e => ?_) (fun e => ?_)
    · obtain ⟨e1,e2⟩ := hear_2 (p := p) (s := s) (k := k) (m := m) a b d e
      rw [e1,e2]
      have hv := ev_l8Gives ⟨s.up,true,s.round,s.base,s.added,s.done⟩ k hs
      refine WR.ev (vs := [.i 3,.i (-1),.i k,.i s.round,.i 0,.i 0,.i 0,.l (dL []),.l (dL s.added),.l (dL (seqsM s.done)),.l (dDs [])]) hv rfl rfl rfl (WR.done ?_)
      rfl
    · refine WR.iteP (m.kind = 4) rfl (fun f => absurd f (by omega)) (fun f => WR.done ?_)
      obtain ⟨e1,e2⟩ := hno ⟨fun q => e q.2,fun q => f q.1⟩
      rw [e1,e2]; rfl
  · refine WR.iteP (m.kind = 4) rfl (fun f => ?_) (fun f => WR.done ?_)
    · refine WR.iteP (s.round < m.round) rfl (fun e => ?_) (fun e => WR.done ?_)
      · obtain ⟨e1,e2⟩ := hear_4 (p := p) (s := s) (k := k) (m := m) a b f e
        rw [e1,e2]
        have hd := hdone f
        have hsl := hs.2.2.1
        have hvl : (dL m.vals).length ≤ 2000000 := by rw [dL_len]; exact hm.2.1
        refine WR.chkN (dL m.vals) 2000000 hvl (by omega) rfl ?_
        refine WR.head (head_dL m.vals) ?_
        refine WR.chkN (dL m.vals) 2000000 hvl (by omega) rfl ?_
        refine WR.forP s.done.length (fun i => [.l (dDs (mixTo p.gives.length k s.done m.done i)),.i i]) (fun _ => True) rfl (by rw [mixTo_0]; rfl) trivial fun i hi _ => ?_
        simp only [sCA,sNA]
        refine WR.iteLen i (show (dDs (mixTo p.gives.length k s.done m.done i)).length = s.done.length by rw [dDs_len,mixTo_len]) rfl (fun h => ?_) (fun h => WR.esc (WR.done ?_))
        · obtain ⟨x,hx,hxm⟩ := some_at h
          obtain ⟨y,hy,hym⟩ := some_at (l := m.done) (i := i) (by omega)
          have hyg : (dDs m.done)[i]? = some y.g := map_at (f := Don.g) hy
          have hxg : (dDs (mixTo p.gives.length k s.done m.done i))[i]? = some x.g := map_at (f := Don.g) (mixTo_at hx)
          have hlt : i < (dDs (mixTo p.gives.length k s.done m.done i)).length := by rw [dDs_len,mixTo_len]; exact h
          have hset := mixTo_set (g := p.gives.length) (k := k) hx hy
          have hsame := mixTo_same (g := p.gives.length) (k := k) hx hy
          have hsd : (dDs (mixTo p.gives.length k s.done m.done i)).set i (pickD p.gives.length k i x y).g = dDs (mixTo p.gives.length k s.done m.done (i + 1)) := by rw [← hset]; simp only [dDs,List.map_set]
          refine WR.idxN (vs := [.i y.seq,.i y.code,.l (dL y.tells)]) i hyg rfl rfl rfl rfl ?_
          simp only [sCA,sNA]
          generalize dDs (mixTo p.gives.length k s.done m.done i) = es at *
          refine WR.atN (vs := [.i x.seq,.i x.code,.l (dL x.tells)]) (ds := es) i hxg rfl rfl rfl rfl rfl rfl ?_
          simp only [sCA,sNA]
          have hw : IntKind.i64.wrap ((i : Int) + 1) = ((i + 1 : Nat) : Int) := wS h (by omega)
          refine WR.iteP (x.seq < y.seq) rfl (fun u => ?_) (fun u => ?_)
          · refine WR.chk (by show (!decide (((dL p.gives).length : Int) = 0)) = true; rw [dL_len,Bool.not_eq_true',decide_eq_false_iff_not]; omega) ?_
            refine WR.iteP (Int.tmod (i : Int) (p.gives.length : Int) = k) (by show decide (Int.tmod (i : Int) ((dL p.gives).length : Int) = k) = _; rw [dL_len]) (fun v => ?_) (fun v => ?_)
            · refine WR.idxN (vs := [.i y.seq,.i y.code,.l (dL y.tells)]) i hyg rfl rfl rfl rfl ?_
              simp only [sCA,sNA]
              refine WR.idxN (vs := [.i y.seq,.i y.code,.l (dL y.tells)]) i hyg rfl rfl rfl rfl ?_
              simp only [sCA,sNA]
              refine WR.ev (vs := [.i y.code,.l (dL y.tells)]) (ev_l6CopyRes y.code y.tells (hm.2.2.2.2 y hym)) rfl rfl rfl ?_
              simp only [sCA,sNA]
              refine WR.atN (vs := [.i x.seq,.i x.code,.l (dL x.tells)]) (ds := es) i hxg rfl rfl rfl rfl rfl rfl ?_
              refine WR.nextA ?_ ⟨h,rfl,trivial⟩
              have e5 : pickD p.gives.length k i x y = y := by unfold pickD; rw [if_pos ⟨v,u⟩]
              rw [e5] at hsd
              show [V.l (es.set i y.g),V.i (IntKind.i64.wrap ((i : Int) + 1))] = _
              rw [hsd,hw]
            · refine WR.nextA ?_ ⟨h,rfl,trivial⟩
              show [V.l es,V.i (IntKind.i64.wrap ((i : Int) + 1))] = _
              have e5 : pickD p.gives.length k i x y = x := by unfold pickD; rw [if_neg (fun q => v q.1)]
              rw [e5,set_self hxg] at hsd
              rw [hsd,hw]
          · refine WR.nextA ?_ ⟨h,rfl,trivial⟩
            show [V.l es,V.i (IntKind.i64.wrap ((i : Int) + 1))] = _
            have e5 : pickD p.gives.length k i x y = x := by unfold pickD; rw [if_neg (fun q => u q.2)]
            rw [e5,set_self hxg] at hsd
            rw [hsd,hw]
        · rw [show i = s.done.length by omega]; rfl
      · obtain ⟨e1,e2⟩ := hno ⟨fun q => d q.1,fun q => e q.2⟩
        rw [e1,e2]; rfl
    · obtain ⟨e1,e2⟩ := hno ⟨fun q => d q.1,fun q => f q.1⟩
      rw [e1,e2]; rfl
theorem ev_hear (p : Pln) (s : Sit) (k : Int) (m : Msg) (hs : fitSit s) (hm : fitMsg m) (hg : 0 < p.gives.length) (hdone : m.kind = 4 → m.done.length = s.done.length) :
    Ev L f_k4c (s.cells ++ p.cells ++ [dI k] ++ m.cells) [.s (dMs (hearM s k m)),dB (hearS p s k m).up,dB (hearS p s k m).frozen,dI (hearS p s k m).round,.s (dDs (hearS p s k m).done),.s (dL (hearS p s k m).base),.s (dL (hearS p s k m).added)] := by
  refine Ev.eq (vs := [.b s.up,.b s.frozen,.i s.round,.l (dL s.base),.l (dL s.added),.l (dDs s.done),.i p.n,.l (dActs p.acts),.l (dL p.gives),.l (dL p.start),.i k,.i m.kind,.i m.to,.i m.frm,.i m.round,.i m.call.client,.i m.call.seq,.i m.call.act,.l (dL m.call.args),.l (dL m.vals),.l (dL m.seqs),.l (dDs m.done)]) L_k4c rfl ?_
  refine WR.iteN s.up rfl (fun a => WR.done (by obtain ⟨e1,e2⟩ := hear_no (p := p) (s := s) (k := k) (m := m) (by exact .inl (fun q => by rw [a] at q; cases q.1)); rw [e1,e2]; rfl)) (fun a => ?_)
  refine WR.iteN (decide (m.to = k)) rfl (fun b => WR.done (by obtain ⟨e1,e2⟩ := hear_no (p := p) (s := s) (k := k) (m := m) (by exact .inl (fun q => by simp [q.2] at b)); rw [e1,e2]; rfl)) (fun b => ?_)
  have b : m.to = k := by simpa using b
  have hno : ∀ q : (¬ (m.kind = 2 ∧ m.round = s.round) ∧ ¬ (m.kind = 4 ∧ s.round < m.round)),hearS p s k m = s ∧ hearM s k m = [] := fun q => hear_no (.inr q)
  refine WR.iteP (m.kind = 2) rfl (fun d => ?_) (fun d => ?_)
  · refine WR.iteP (m.round = s.round) rfl (fun e => ?_) (fun e => ?_)
    · obtain ⟨e1,e2⟩ := hear_2 (p := p) (s := s) (k := k) (m := m) a b d e
      rw [e1,e2]
      refine WR.ev (vs := [.l (dL s.added)]) (ev_clone1 s.added hs.2.1) rfl rfl rfl ?_
      simp only [sCA,sNA]
      refine WR.fl (flats_map dI (fun _ => rfl) s.added) ?_
      refine WR.ev (vs := [.l (dL (seqsM s.done))]) (ev_seqs s.done hs.2.2.1) rfl rfl rfl ?_
      simp only [sCA,sNA]
      refine WR.fl (flats_map dI (fun _ => rfl) (seqsM s.done)) (WR.done ?_)
      rfl
    · refine WR.iteP (m.kind = 4) rfl (fun f => absurd f (by omega)) (fun f => WR.done ?_)
      obtain ⟨e1,e2⟩ := hno ⟨fun q => e q.2,fun q => f q.1⟩
      rw [e1,e2]; rfl
  · refine WR.iteP (m.kind = 4) rfl (fun f => ?_) (fun f => WR.done ?_)
    · refine WR.iteP (s.round < m.round) rfl (fun e => ?_) (fun e => WR.done ?_)
      · obtain ⟨e1,e2⟩ := hear_4 (p := p) (s := s) (k := k) (m := m) a b f e
        rw [e1,e2]
        have hd := hdone f
        have hsl := hs.2.2.1
        refine WR.ev (vs := [.l (dL m.vals)]) (ev_clone1 m.vals hm.2.1) rfl rfl rfl ?_
        simp only [sCA,sNA]
        refine WR.forP s.done.length (fun i => [.l (dDs (mixTo p.gives.length k s.done m.done i)),.i i]) (fun _ => True) rfl (by rw [mixTo_0]; rfl) trivial fun i hi _ => ?_
        simp only [sCA,sNA]
        refine WR.iteLen i (show (dDs m.done).length = s.done.length by rw [dDs_len]; exact hd) rfl (fun h => ?_) (fun h => WR.esc (WR.done ?_))
        · obtain ⟨x,hx,hxm⟩ := some_at h
          obtain ⟨y,hy,hym⟩ := some_at (l := m.done) (i := i) (by omega)
          have hyg : (dDs m.done)[i]? = some y.g := map_at (f := Don.g) hy
          have hxg : (dDs (mixTo p.gives.length k s.done m.done i))[i]? = some x.g := map_at (f := Don.g) (mixTo_at hx)
          have hset := mixTo_set (g := p.gives.length) (k := k) hx hy
          have hsd : (dDs (mixTo p.gives.length k s.done m.done i)).set i (pickD p.gives.length k i x y).g = dDs (mixTo p.gives.length k s.done m.done (i + 1)) := by rw [← hset]; simp only [dDs,List.map_set]
          refine WR.idxN (vs := [.i y.seq,.i y.code,.l (dL y.tells)]) i hyg rfl rfl rfl rfl ?_
          simp only [sCA,sNA]
          generalize dDs (mixTo p.gives.length k s.done m.done i) = es at *
          have hlt : i < es.length := (List.getElem?_eq_some_iff.1 hxg).1
          have hw : IntKind.i64.wrap ((i : Int) + 1) = ((i + 1 : Nat) : Int) := wS h (by omega)
          refine WR.chk (by show (!decide (((dL p.gives).length : Int) = 0)) = true; rw [dL_len,Bool.not_eq_true',decide_eq_false_iff_not]; omega) ?_
          refine WR.iteP (Int.tmod (i : Int) (p.gives.length : Int) = k) (by show decide (Int.tmod (i : Int) ((dL p.gives).length : Int) = k) = _; rw [dL_len]) (fun v => ?_) (fun v => ?_)
          · refine WR.atN (vs := [.i x.seq,.i x.code,.l (dL x.tells)]) (ds := es) i hxg rfl rfl rfl rfl rfl rfl ?_
            simp only [sCA,sNA]
            refine WR.iteP (x.seq < y.seq) rfl (fun u => ?_) (fun u => ?_)
            · refine WR.ev (vs := [.i y.code,.l (dL y.tells)]) (ev_resCopied y.code y.tells (hm.2.2.2.2 y hym)) rfl rfl rfl ?_
              simp only [sCA,sNA]
              refine WR.chk0 i rfl (WR.chkLt (ds := es) i rfl hlt ?_)
              refine WR.fl (flats_map dI (fun _ => rfl) y.tells) ?_
              refine WR.idxN (vs := [.i x.seq,.i x.code,.l (dL x.tells)]) (ds := es) i hxg rfl rfl rfl rfl ?_
              refine WR.nextA ?_ ⟨h,rfl,trivial⟩
              have e5 : pickD p.gives.length k i x y = y := by unfold pickD; rw [if_pos ⟨v,u⟩]
              rw [e5] at hsd
              show [V.l (es.set i y.g),V.i (IntKind.i64.wrap ((i : Int) + 1))] = _
              rw [hsd,hw]
            · refine WR.nextA ?_ ⟨h,rfl,trivial⟩
              show [V.l es,V.i (IntKind.i64.wrap ((i : Int) + 1))] = _
              have e5 : pickD p.gives.length k i x y = x := by unfold pickD; rw [if_neg (fun q => u q.2)]
              rw [e5,set_self hxg] at hsd
              rw [hsd,hw]
          · refine WR.nextA ?_ ⟨h,rfl,trivial⟩
            show [V.l es,V.i (IntKind.i64.wrap ((i : Int) + 1))] = _
            have e5 : pickD p.gives.length k i x y = x := by unfold pickD; rw [if_neg (fun q => v q.1)]
            rw [e5,set_self hxg] at hsd
            rw [hsd,hw]
        · rw [show i = s.done.length by omega]; rfl
      · obtain ⟨e1,e2⟩ := hno ⟨fun q => d q.1,fun q => e q.2⟩
        rw [e1,e2]; rfl
    · obtain ⟨e1,e2⟩ := hno ⟨fun q => d q.1,fun q => f q.1⟩
      rw [e1,e2]; rfl
def sitHear (p : Pln) (s : Sit) (k : Int) (m : Msg) : Sit × List Msg := if (sitOkP p s k && msgOkP p m) = true then (hearS p s k m,hearM s k m) else (⟨false,false,0,[],[],[]⟩,[])
theorem hear_hyps {p : Pln} {s : Sit} {k : Int} {m : Msg} (h1 : sitOkP p s k = true) (h2 : msgOkP p m = true) : 0 < p.gives.length ∧ (m.kind = 4 → m.done.length = s.done.length) := by
  simp only [sitOkP,sitOk,siteIn,Bool.and_eq_true,inB_iff,doneOk,decide_eq_true_eq] at h1
  simp only [msgOkP,msgOk,Bool.and_eq_true] at h2
  obtain ⟨_,⟨h3,h4⟩,_,_,_,h5,_⟩ := h1
  refine ⟨by omega,fun h6 => ?_⟩
  have h7 := h2.2.2
  rw [if_neg (by omega),if_neg (by omega),if_neg (by omega),if_pos h6] at h7
  simp only [Bool.and_eq_true,doneOk,decide_eq_true_eq] at h7
  have h8 := h7.2.2.2.1.1
  omega
theorem ev_sSitHear (p : Pln) (s : Sit) (k : Int) (m : Msg) (hp : fitPln p) (hs : fitSit s) (hm : fitMsg m) : Ev L f_k1y (p.cells ++ s.cells ++ [dI k] ++ m.cells) ((sitHear p s k m).1.cells ++ [.s (dMs (sitHear p s k m).2)]) := by
  refine Ev.eq (vs := [.i p.n,.l (dActs p.acts),.l (dL p.gives),.l (dL p.start),.b s.up,.b s.frozen,.i s.round,.l (dL s.base),.l (dL s.added),.l (dDs s.done),.i k,.i m.kind,.i m.to,.i m.frm,.i m.round,.i m.call.client,.i m.call.seq,.i m.call.act,.l (dL m.call.args),.l (dL m.vals),.l (dL m.seqs),.l (dDs m.done)]) L_k1y rfl ?_
  refine WR.ev (ev_sSitOk p s k hp hs) rfl rfl rfl ?_
  simp only [sCA,sNA]
  refine WR.iteN (sitOkP p s k) rfl (fun h => WR.done ?_) (fun h1 => ?_)
  · unfold sitHear; rw [if_neg (by simp [h])]; rfl
  refine WR.ev (ev_sMsgOk p m hp hm) rfl rfl rfl ?_
  simp only [sCA,sNA]
  refine WR.iteN (msgOkP p m) rfl (fun h => WR.done ?_) (fun h2 => ?_)
  · unfold sitHear; rw [if_neg (by simp [h])]; rfl
  obtain ⟨hg,hd⟩ := hear_hyps h1 h2
  have e : sitHear p s k m = (hearS p s k m,hearM s k m) := by unfold sitHear; rw [if_pos (by rw [h1,h2]; rfl)]
  rw [e]
  have hv := ev_l8Hear p s k m hs hm hg hd
  generalize hearS p s k m = r at *
  generalize hearM s k m = ms at *
  exact WR.ev (vs := [.b r.up,.b r.frozen,.i r.round,.l (dL r.base),.l (dL r.added),.l (dDs r.done),.l (dMs ms)]) hv rfl rfl rfl (WR.done rfl)
theorem ev_iSitHear (p : Pln) (s : Sit) (k : Int) (m : Msg) (hp : fitPln p) (hs : fitSit s) (hm : fitMsg m) : Ev L f_k4d (p.cells ++ s.cells ++ [dI k] ++ m.cells) ((sitHear p s k m).1.cells ++ [.s (dMs (sitHear p s k m).2)]) := by
  refine Ev.eq (vs := [.i p.n,.l (dActs p.acts),.l (dL p.gives),.l (dL p.start),.b s.up,.b s.frozen,.i s.round,.l (dL s.base),.l (dL s.added),.l (dDs s.done),.i k,.i m.kind,.i m.to,.i m.frm,.i m.round,.i m.call.client,.i m.call.seq,.i m.call.act,.l (dL m.call.args),.l (dL m.vals),.l (dL m.seqs),.l (dDs m.done)]) L_k4d rfl ?_
  refine WR.ev (ev_iSitOk p s k hp hs) rfl rfl rfl ?_
  simp only [sCA,sNA]
  refine WR.iteN (sitOkP p s k) rfl (fun h => WR.done ?_) (fun h1 => ?_)
  · unfold sitHear; rw [if_neg (by simp [h])]; rfl
  refine WR.ev (ev_iMsgOk p m hp hm) rfl rfl rfl ?_
  simp only [sCA,sNA]
  refine WR.iteN (msgOkP p m) rfl (fun h => WR.done ?_) (fun h2 => ?_)
  · unfold sitHear; rw [if_neg (by simp [h])]; rfl
  obtain ⟨hg,hd⟩ := hear_hyps h1 h2
  have e : sitHear p s k m = (hearS p s k m,hearM s k m) := by unfold sitHear; rw [if_pos (by rw [h1,h2]; rfl)]
  rw [e]
  refine WR.ev (vs := [.b s.up,.b s.frozen,.i s.round,.l (dL s.base),.l (dL s.added),.l (dDs s.done)]) (ev_sitCopied s hs) rfl rfl rfl ?_
  simp only [sCA,sNA]
  have hv := ev_hear p s k m hs hm hg hd
  generalize hearS p s k m = r at *
  generalize hearM s k m = ms at *
  exact WR.ev (vs := [.l (dMs ms),.b r.up,.b r.frozen,.i r.round,.l (dDs r.done),.l (dL r.base),.l (dL r.added)]) hv rfl rfl rfl (WR.done rfl)
theorem fit_sitHear (p : Pln) {s : Sit} (k : Int) {m : Msg} (hs : fitSit s) (hm : fitMsg m) : fitSit (sitHear p s k m).1 ∧ (∀ d ∈ (sitHear p s k m).2,fitMsg d) ∧ (sitHear p s k m).2.length ≤ 1 := by
  unfold sitHear
  split
  · rename_i h
    rw [Bool.and_eq_true] at h
    obtain ⟨hg,hd⟩ := hear_hyps h.1 h.2
    refine ⟨?_,?_,?_⟩
    · show fitSit (hearS p s k m)
      unfold hearS
      split
      · split
        · exact hs
        · split
          · rename_i h4
            refine ⟨hm.2.1,by show ([0,0,0] : List Int).length ≤ _; simp,by rw [mixTo_len]; exact hs.2.2.1,fun d hdm => ?_⟩
            rcases mixTo_mem (hd h4.1) hdm with q | q
            · exact hs.2.2.2 d q
            · exact hm.2.2.2.2 d q
          · exact hs
      · exact hs
    · show ∀ d ∈ hearM s k m,fitMsg d
      unfold hearM
      split
      · intro d hdm
        simp only [List.mem_singleton] at hdm
        subst hdm
        exact ⟨by simp [giveM],hs.2.1,by simp only [giveM,seqsM,List.length_map]; exact hs.2.2.1,by simp [giveM],fun d hd => by simp [giveM] at hd⟩
      · intro d hdm; simp at hdm
    · show (hearM s k m).length ≤ 1
      unfold hearM; split <;> simp
  · exact ⟨⟨by simp,by simp,by simp,fun d hd => by simp at hd⟩,fun d hd => by simp at hd,by simp⟩
theorem wts_big {α : Type} (w : α → Nat) (N : Nat) (l : List α) (h : ∀ x ∈ l,w x ≤ N) : wts w l ≤ N * l.length := by
  unfold wts
  induction l with
  | nil => simp
  | cons x l ih =>
    have h1 := ih fun y hy => h y (List.mem_cons_of_mem _ hy)
    have h2 := h x (List.mem_cons_self ..)
    simp only [List.map_cons,List.sum_cons,List.length_cons,Nat.mul_succ]
    omega
theorem wt_fitSit {r : Sit} (h : fitSit r) (hd : r.done.length ≤ 4) : wtSit r ≤ 20000000 := by
  have := wts_big Don.w 2000002 r.done (fun x hx => by show 2 + x.tells.length ≤ _; have := h.2.2.2 x hx; omega)
  have h1 := h.1
  have h2 := h.2.1
  unfold wtSit; omega
theorem wt_fitMsg {x : Msg} (h : fitMsg x) (hd : x.done.length ≤ 4) : Msg.w x ≤ 20000000 := by
  have := wts_big Don.w 2000002 x.done (fun y hy => by show 2 + y.tells.length ≤ _; have := h.2.2.2.2 y hy; unfold fitDon at this; omega)
  obtain ⟨h1,h2,h3,_⟩ := h
  unfold Msg.w; omega
theorem wt_sitHear (p : Pln) {s : Sit} (k : Int) {m : Msg} (hs : fitSit s) (hm : fitMsg m) : wtSit (sitHear p s k m).1 ≤ 20000000 ∧ wts Msg.w (sitHear p s k m).2 ≤ 20000000 := by
  have hf := fit_sitHear p k hs hm
  have hd : (sitHear p s k m).1.done.length ≤ 4 := by
    unfold sitHear
    split
    · rename_i h
      rw [Bool.and_eq_true] at h
      have h1 := h.1
      simp only [sitOkP,sitOk,Bool.and_eq_true,doneOk,decide_eq_true_eq] at h1
      obtain ⟨h3,_,_,_,_,h5,_⟩ := h1
      obtain ⟨_,h6,_⟩ := plnOk_n h3
      show (hearS p s k m).done.length ≤ 4
      unfold hearS
      split
      · split
        · show s.done.length ≤ 4; omega
        · split
          · show (mixTo _ _ _ _ _).length ≤ 4; rw [mixTo_len]; omega
          · omega
      · omega
    · simp
  refine ⟨wt_fitSit hf.1 hd,?_⟩
  have := wts_big Msg.w 20000000 (sitHear p s k m).2 (fun x hx => wt_fitMsg (hf.2.1 x hx) (by
    unfold sitHear at hx
    split at hx
    · have hx : x ∈ hearM s k m := hx
      unfold hearM at hx
      split at hx
      · simp only [List.mem_singleton] at hx; subst hx; simp [giveM]
      · simp at hx
    · simp at hx))
  have h1 := hf.2.2
  have : 20000000 * (sitHear p s k m).2.length ≤ 20000000 * 1 := Nat.mul_le_mul_left _ h1
  omega
theorem ev_markMsgK (x : Msg) (k : Int) (hx : fitMsg x) (hw : wts Don.w x.done ≤ 10000000000) (h0 : 0 ≤ k) (h1 : k ≤ 100000000000) :
    ∃ es : List (List Int),∃ ds : List Don,Ev L f_k4y (x.cells ++ [dI k]) [dI (k + x.call.args.length + x.vals.length + x.seqs.length + wts Don.w x.done),.s (dL (cnt k x.call.args.length)),.s (dL (cnt (k + x.call.args.length) x.vals.length)),.s (dL (cnt (k + x.call.args.length + x.vals.length) x.seqs.length)),.s (dDs ds)] := by
  obtain ⟨hx1,hx2,hx3,hx4,hx5⟩ := hx
  refine ⟨[],mkAll Don.w Don.mk' (k + x.call.args.length + x.vals.length + x.seqs.length) x.done,?_⟩
  refine Ev.eq (vs := [.i x.kind,.i x.to,.i x.frm,.i x.round,.i x.call.client,.i x.call.seq,.i x.call.act,.l (dL x.call.args),.l (dL x.vals),.l (dL x.seqs),.l (dDs x.done),.i k]) L_k4y rfl ?_
  have hc : Ev L f_k4x [dI x.call.client,dI x.call.seq,dI x.call.act,.s (dL x.call.args),dI k] [dI (k + x.call.args.length),.s (dL (cnt k x.call.args.length))] :=
    Ev.eq (vs := [.i x.call.client,.i x.call.seq,.i x.call.act,.l (dL x.call.args),.i k]) L_k4x rfl (WR.ev (ev_markIntS x.call.args k hx1 (by omega) (by omega)) rfl rfl rfl (WR.done rfl))
  refine WR.ev hc rfl rfl rfl ?_
  refine WR.ev (ev_markIntS x.vals (k + x.call.args.length) hx2 (by omega) (by omega)) rfl rfl rfl ?_
  refine WR.ev (ev_markIntS x.seqs (k + x.call.args.length + x.vals.length) hx3 (by omega) (by omega)) rfl rfl rfl ?_
  refine WR.ev (ev_markPlnDoneS x.done (k + x.call.args.length + x.vals.length + x.seqs.length) hx4 hx5 (by omega) (by omega)) rfl rfl rfl ?_
  exact WR.done rfl
theorem ev_FnExactSitHear (p : Pln) (s : Sit) (k : Int) (m : Msg) (hb : bigPln p) (hbs : bigSit s) (hbm : bigMsg m) : Ev L f_k54 (p.cells ++ s.cells ++ [dI k] ++ m.cells) [dB true] := by
  refine Ev.eq (vs := [.i p.n,.l (dActs p.acts),.l (dL p.gives),.l (dL p.start),.b s.up,.b s.frozen,.i s.round,.l (dL s.base),.l (dL s.added),.l (dDs s.done),.i k,.i m.kind,.i m.to,.i m.frm,.i m.round,.i m.call.client,.i m.call.seq,.i m.call.act,.l (dL m.call.args),.l (dL m.vals),.l (dL m.seqs),.l (dDs m.done)]) L_k54 rfl ?_
  refine WR.ev (ev_szPlnPlan p 1048576 hb (by omega) (by omega)) rfl rfl rfl ?_
  have hr := dec_room (left := 1048576) (n := szPln p) (by omega) (by omega)
  refine WR.iteP (dec 1048576 (szPln p) < 0) rfl (fun _ => WR.done rfl) (fun h => ?_)
  have hsz : szPln p ≤ 1048576 := by have := dec_le h; omega
  have hf : fitPln p := fitPln_of hsz
  have hto := ev_toPlnPlan p hf
  refine WR.ev (ev_szSitSite s (dec 1048576 (szPln p)) hbs (by omega) (by omega)) rfl rfl rfl ?_
  simp only [sCA,sNA]
  have hrs := dec_room (left := (dec 1048576 (szPln p))) (n := szSit s) (by omega) (by omega)
  refine WR.iteP (dec (dec 1048576 (szPln p)) (szSit s) < 0) rfl (fun _ => WR.done rfl) (fun hss => ?_)
  refine WR.ev (ev_szMsgMsg m (dec (dec 1048576 (szPln p)) (szSit s)) hbm (by omega) (by omega)) rfl rfl rfl ?_
  simp only [sCA,sNA]
  have hrm := dec_room (left := (dec (dec 1048576 (szPln p)) (szSit s))) (n := szMsg m) (by omega) (by omega)
  refine WR.iteP (dec (dec (dec 1048576 (szPln p)) (szSit s)) (szMsg m) < 0) rfl (fun _ => WR.done rfl) (fun hsm => ?_)
  have hsz2 : szSit s ≤ 1048576 := by have := dec_le hss; omega
  have hsz3 : szMsg m ≤ 1048576 := by have := dec_le hsm; omega
  have hfs : fitSit s := fitSit_of hsz2
  have hfm : fitMsg m := fitMsg_of hsz3
  have htos := ev_toSitSite s hfs
  have htom := ev_toMsgMsg m hfm
  have hwp := wtPln_le p
  have hws := wtSit_le s
  have hwd : wts Don.w m.done ≤ 2 * 1048576 := by have := wts_don m.done; unfold szMsg at hsz3; omega
  have hwr := wt_sitHear p k hfs hfm
  have hr2 := fit_sitHear p k hfs hfm
  have hs := ev_sSitHear p s k m hf hfs hfm
  have hi := ev_iSitHear p s k m hf hfs hfm
  obtain ⟨es,hmk⟩ := ev_markPlnPlan p hf (by omega)
  have hms := ev_markSitK s (1 + wtPln p) hfs (by omega) (by omega) (by omega)
  obtain ⟨_,ds,hmm⟩ := ev_markMsgK m (1 + wtPln p + wtSit s) hfm (by omega) (by omega) (by omega)
  have hmp : (0 : Int) ≤ 1 + wtPln p + wtSit s + m.call.args.length + m.vals.length + m.seqs.length + wts Don.w m.done := by omega
  generalize (1 : Int) + wtPln p + wtSit s + m.call.args.length + m.vals.length + m.seqs.length + wts Don.w m.done = km at *
  generalize hq : sitHear p s k m = q at *
  obtain ⟨r,ms⟩ := q
  simp only at hwr hr2 hs hi
  have heq := ev_eqSitSite r hr2.1
  have heqm := ev_eqMsgMsgS ms ⟨by omega,hr2.2.1⟩
  have heqs := ev_eqSitSite s hfs
  have heqx := ev_eqMsgMsg m hfm
  have hmr := ev_markSitSite r hr2.1 (by omega)
  have hhr := ev_heldSitSite r hr2.1 (by omega)
  have hml := ev_markMsgMsgS ms (1 + wtSit r) (by omega) hr2.2.1 (by omega) (by omega)
  have hhm := ev_heldMsgMsgS ms (1 + wtSit r) (by omega) hr2.2.1 (by omega) (by omega)
  have hml2 : (mkAll Msg.w Msg.mk' (1 + wtSit r) ms).length = ms.length := mkAll_len ..
  generalize mkAll Msg.w Msg.mk' (1 + wtSit r) ms = mm at *
  generalize hmk2 : mkSit r = m2 at *
  have ht1 : m2.base.length = r.base.length := by rw [← hmk2]; simp [mkSit,cnt_len]
  have ht2 : m2.added.length = r.added.length := by rw [← hmk2]; simp [mkSit,cnt_len]
  have ht3 : m2.done.length = r.done.length := by rw [← hmk2]; simp [mkSit,mkAll_len]
  have hcell : m2.cells = [dB r.up,dB r.frozen,dI r.round,.s (dL m2.base),.s (dL m2.added),.s (dDs m2.done)] := by rw [← hmk2]; rfl
  rw [hcell] at hhr
  refine WR.ev (vs := [.i p.n,.l (dActs p.acts),.l (dL p.gives),.l (dL p.start)]) hto rfl rfl rfl ?_
  simp only [sCA,sNA]
  refine WR.ev (vs := [.b s.up,.b s.frozen,.i s.round,.l (dL s.base),.l (dL s.added),.l (dDs s.done)]) htos rfl rfl rfl ?_
  simp only [sCA,sNA]
  refine WR.ev (vs := [.i m.kind,.i m.to,.i m.frm,.i m.round,.i m.call.client,.i m.call.seq,.i m.call.act,.l (dL m.call.args),.l (dL m.vals),.l (dL m.seqs),.l (dDs m.done)]) htom rfl rfl rfl ?_
  simp only [sCA,sNA]
  refine WR.ev (vs := [.b r.up,.b r.frozen,.i r.round,.l (dL r.base),.l (dL r.added),.l (dDs r.done),.l (dMs ms)]) hs rfl rfl rfl ?_
  simp only [sCA,sNA]
  refine WR.ev (vs := [.i p.n,.l (dActs p.acts),.l (dL p.gives),.l (dL p.start)]) hto rfl rfl rfl ?_
  simp only [sCA,sNA]
  refine WR.ev (vs := [.b s.up,.b s.frozen,.i s.round,.l (dL s.base),.l (dL s.added),.l (dDs s.done)]) htos rfl rfl rfl ?_
  simp only [sCA,sNA]
  refine WR.ev (vs := [.i m.kind,.i m.to,.i m.frm,.i m.round,.i m.call.client,.i m.call.seq,.i m.call.act,.l (dL m.call.args),.l (dL m.vals),.l (dL m.seqs),.l (dDs m.done)]) htom rfl rfl rfl ?_
  simp only [sCA,sNA]
  refine WR.ev (vs := [.b r.up,.b r.frozen,.i r.round,.l (dL r.base),.l (dL r.added),.l (dDs r.done),.l (dMs ms)]) hi rfl rfl rfl ?_
  simp only [sCA,sNA]
  refine WR.fl (flats_map dI (fun _ => rfl) r.base) ?_
  refine WR.fl (flats_map dI (fun _ => rfl) r.added) ?_
  refine WR.ev heq rfl rfl rfl (WR.iteF rfl ?_)
  simp only [sCA,sNA]
  refine WR.ev heqm rfl rfl rfl (WR.iteF rfl ?_)
  simp only [sCA,sNA]
  refine WR.ev (vs := [.i p.n,.l (dActs p.acts),.l (dL p.gives),.l (dL p.start)]) hto rfl rfl rfl ?_
  simp only [sCA,sNA]
  refine WR.ev (ev_eqPlnPlan p hf) rfl rfl rfl (WR.iteF rfl ?_)
  simp only [sCA,sNA]
  refine WR.ev (vs := [.b s.up,.b s.frozen,.i s.round,.l (dL s.base),.l (dL s.added),.l (dDs s.done)]) htos rfl rfl rfl ?_
  simp only [sCA,sNA]
  refine WR.ev heqs rfl rfl rfl (WR.iteF rfl ?_)
  simp only [sCA,sNA]
  refine WR.ev (vs := [.i m.kind,.i m.to,.i m.frm,.i m.round,.i m.call.client,.i m.call.seq,.i m.call.act,.l (dL m.call.args),.l (dL m.vals),.l (dL m.seqs),.l (dDs m.done)]) htom rfl rfl rfl ?_
  simp only [sCA,sNA]
  refine WR.ev heqx rfl rfl rfl (WR.iteF rfl ?_)
  simp only [sCA,sNA]
  refine WR.ev (vs := [.i (1 + wtPln p),.l es,.l (dL (cnt (1 + wtAs p.acts) p.gives.length)),.l (dL (cnt (1 + wtAs p.acts + p.gives.length) p.start.length))]) hmk rfl rfl rfl ?_
  simp only [sCA,sNA]
  refine WR.ev (vs := [.i (1 + wtPln p + wtSit s),.l (dL (cnt (1 + wtPln p) s.base.length)),.l (dL (cnt (1 + wtPln p + s.base.length) s.added.length)),.l (dDs (mkAll Don.w Don.mk' (1 + wtPln p + s.base.length + s.added.length) s.done))]) hms rfl rfl rfl ?_
  simp only [sCA,sNA]
  refine WR.ev (vs := [.i km,.l (dL (cnt (1 + wtPln p + wtSit s) m.call.args.length)),.l (dL (cnt (1 + wtPln p + wtSit s + m.call.args.length) m.vals.length)),.l (dL (cnt (1 + wtPln p + wtSit s + m.call.args.length + m.vals.length) m.seqs.length)),.l (dDs ds)]) hmm rfl rfl rfl ?_
  simp only [sCA,sNA]
  refine WR.iteF (by show decide (km < 0) = false; rw [decide_eq_false]; omega) ?_
  refine WR.ev heq rfl rfl rfl (WR.iteF rfl ?_)
  simp only [sCA,sNA]
  refine WR.ev heqm rfl rfl rfl (WR.iteF rfl ?_)
  simp only [sCA,sNA]
  refine WR.ev (vs := [.i (1 + wtSit r),.l (dL m2.base),.l (dL m2.added),.l (dDs m2.done)]) hmr rfl rfl rfl ?_
  simp only [sCA,sNA]
  refine WR.ev (vs := [.i (1 + wtSit r + wts Msg.w ms),.l (dMs mm)]) hml rfl rfl rfl ?_
  simp only [sCA,sNA]
  have c1 : decide (((dL r.base).length : Int) = ((dL m2.base).length : Int)) = true := by rw [dL_len,dL_len,ht1]; simp
  have c2 : decide (((dL r.added).length : Int) = ((dL m2.added).length : Int)) = true := by rw [dL_len,dL_len,ht2]; simp
  have c3 : decide (((dDs r.done).length : Int) = ((dDs m2.done).length : Int)) = true := by simp [dDs,ht3]
  have c4 : decide (((dMs ms).length : Int) = ((dMs mm).length : Int)) = true := by simp [dMs,hml2]
  have hneg : decide ((1 : Int) + (wtSit r : Int) < 0) = false := by rw [decide_eq_false]; omega
  have hneg2 : decide ((1 : Int) + (wtSit r : Int) + (wts Msg.w ms : Int) < 0) = false := by rw [decide_eq_false]; omega
  have hsame : (!decide ((1 : Int) + (wtSit r : Int) + (wts Msg.w ms : Int) = (1 : Int) + (wtSit r : Int) + (wts Msg.w ms : Int))) = false := by simp
  refine WR.chk c1 (WR.chk c2 (WR.chk c3 ?_))
  refine WR.ev (vs := [.i (1 + wtSit r)]) hhr rfl rfl rfl ?_
  simp only [sCA,sNA]
  refine WR.iteF hneg (WR.chk c4 ?_)
  refine WR.ev (vs := [.i (1 + wtSit r + wts Msg.w ms)]) hhm rfl rfl rfl ?_
  simp only [sCA,sNA]
  refine WR.iteF hneg2 (WR.iteF hsame ?_)
  refine WR.ev (vs := [.i p.n,.l (dActs p.acts),.l (dL p.gives),.l (dL p.start)]) hto rfl rfl rfl ?_
  simp only [sCA,sNA]
  refine WR.ev (vs := [.b s.up,.b s.frozen,.i s.round,.l (dL s.base),.l (dL s.added),.l (dDs s.done)]) htos rfl rfl rfl ?_
  simp only [sCA,sNA]
  refine WR.ev (vs := [.i m.kind,.i m.to,.i m.frm,.i m.round,.i m.call.client,.i m.call.seq,.i m.call.act,.l (dL m.call.args),.l (dL m.vals),.l (dL m.seqs),.l (dDs m.done)]) htom rfl rfl rfl ?_
  simp only [sCA,sNA]
  refine WR.ev (vs := [.b r.up,.b r.frozen,.i r.round,.l (dL r.base),.l (dL r.added),.l (dDs r.done),.l (dMs ms)]) hi rfl rfl rfl ?_
  simp only [sCA,sNA]
  refine WR.fl (flats_map dI (fun _ => rfl) r.base) ?_
  refine WR.fl (flats_map dI (fun _ => rfl) r.added) ?_
  refine WR.ev heq rfl rfl rfl (WR.iteF rfl ?_)
  simp only [sCA,sNA]
  refine WR.ev heqm rfl rfl rfl (WR.iteF rfl ?_)
  simp only [sCA,sNA]
  refine WR.chk c1 (WR.chk c2 (WR.chk c3 ?_))
  refine WR.ev (vs := [.i (1 + wtSit r)]) hhr rfl rfl rfl ?_
  simp only [sCA,sNA]
  refine WR.iteF hneg (WR.chk c4 ?_)
  refine WR.ev (vs := [.i (1 + wtSit r + wts Msg.w ms)]) hhm rfl rfl rfl ?_
  simp only [sCA,sNA]
  refine WR.iteF hneg2 (WR.iteF hsame ?_)
  exact WR.done rfl
theorem arg_FnExactSitHear (dss : List (List D)) (h : TySs [tyPlan,tySit,.i .i64,tyMsg] dss) : ∃ ls,flattenD [.g [.i .i64,.s,.s,.s],.g [.b,.b,.i .i64,.s,.s,.s],.one (.i .i64),.g [.i .i64,.i .i64,.i .i64,.i .i64,.i .i64,.i .i64,.i .i64,.s,.s,.s,.s]] (argsS [tyPlan,tySit,.i .i64,tyMsg] dss) = some ls ∧ Ev L f_k54 ls [dB true] := by
  obtain ⟨ds,_,rfl,h1,es,_,rfl,h2,fs,_,rfl,⟨k,rfl⟩,gs,_,rfl,h4,rfl⟩ := h
  obtain ⟨p,rfl,hp⟩ := plan_of h1
  obtain ⟨s,rfl,hs⟩ := sit_of h2
  obtain ⟨m,rfl,hm⟩ := msg_of h4
  exact ⟨_,rfl,ev_FnExactSitHear p s k m hp hs hm⟩
end Go.Proofs.YtohfbfgggkmibaaGreatDoor

/- The program's LocTry answers as the reference's: over residual programs. -/
import Derived.Test.YtjmimbpcajogoaaGreatPZG
import Derived.Test.YtjmimbpcajogoaaGreatPY
import Derived.Test.YtjmimbpcajogoaaGreatPZ
namespace Go.Proofs.YtjmimbpcajogoaaGreat
open Go Go.Tm

theorem ev_szTrtTreaty (b g : List Int) (left : Int) (hb : b.length ≤ 9223372036854775807) (hg : g.length ≤ 9223372036854775807) (h0 : 0 ≤ left) (h1 : left ≤ 1048576) : Ev L f_laws_szTrtTreaty [.s (dL b), .s (dL g), dI left] [dI (dec left (b.length + g.length))] := by
  refine Ev.eq (vs := [.l (dL b), .l (dL g), .i left]) L_laws_szTrtTreaty rfl ?_
  refine WR.ev (ev_szIntS b left hb h0 h1) rfl rfl rfl ?_
  have hr := dec_room (n := b.length) h0 h1
  refine WR.iteP (dec left b.length < 0) rfl (fun h => WR.done ?_) (fun h => ?_)
  · show [dI (-1)] = _
    rw [dec_lt h h0]
  refine WR.ev (ev_szIntS g (dec left b.length) hg (by omega) (by omega)) rfl rfl rfl ?_
  rw [dec_dec h]
  have hr2 := dec_room (n := b.length + g.length) h0 h1
  refine WR.iteP (dec left (b.length + g.length) < 0) rfl (fun h => WR.done ?_) (fun h => WR.done rfl)
  show [dI (-1)] = _
  rw [show dec left (b.length + g.length) = -1 by omega]

theorem ev_toTrtTreaty (b g : List Int) (hb : b.length ≤ 2000000) (hg : g.length ≤ 2000000) : Ev L f_laws_toTrtTreaty [.s (dL b), .s (dL g)] [.s (dL b), .s (dL g)] :=
  Ev.eq (vs := [.l (dL b), .l (dL g)]) L_laws_toTrtTreaty rfl (WR.ev (ev_toIntS b hb) rfl rfl rfl (WR.ev (ev_toIntS g hg) rfl rfl rfl (WR.done rfl)))

theorem ev_eqTrtTreaty (b g : List Int) (hb : b.length ≤ 2000000) (hg : g.length ≤ 2000000) : Ev L f_laws_eqTrtTreaty [.s (dL b), .s (dL g), .s (dL b), .s (dL g)] [dB true] := by
  refine Ev.eq (vs := [.l (dL b), .l (dL g), .l (dL b), .l (dL g)]) L_laws_eqTrtTreaty rfl ?_
  have h1 := ev_eqIntS b b hb
  have h2 := ev_eqIntS g g hg
  rw [decide_eq_true rfl] at h1 h2
  exact WR.ev h1 rfl rfl rfl (WR.iteF rfl (WR.ev h2 rfl rfl rfl (WR.iteF rfl (WR.done rfl))))

theorem ev_markTrtTreaty (b g : List Int) (k : Int) (hb : b.length ≤ 2000000) (hg : g.length ≤ 2000000) (h0 : 0 ≤ k) (h1 : k ≤ 100000000000) :
    Ev L f_laws_markTrtTreaty [.s (dL b), .s (dL g), dI k] [dI (k + b.length + g.length), .s (dL (cnt k b.length)), .s (dL (cnt (k + b.length) g.length))] := by
  refine Ev.eq (vs := [.l (dL b), .l (dL g), .i k]) L_laws_markTrtTreaty rfl ?_
  refine WR.ev (ev_markIntS b k hb h0 (by omega)) rfl rfl rfl ?_
  exact WR.ev (ev_markIntS g (k + b.length) hg (by omega) (by omega)) rfl rfl rfl (WR.done rfl)

theorem ev_markResResult (c : Int) (t : List Int) (k : Int) (ht : t.length ≤ 2000000) (h0 : 0 ≤ k) (h1 : k ≤ 100000000000) : Ev L f_laws_markResResult [dI c, .s (dL t), dI k] [dI (k + t.length), .s (dL (cnt k t.length))] :=
  Ev.eq (vs := [.i c, .l (dL t), .i k]) L_laws_markResResult rfl (WR.ev (ev_markIntS t k ht h0 (by omega)) rfl rfl rfl (WR.done rfl))

theorem ev_heldResResult (c : Int) (n : Nat) (k : Int) (ht : n ≤ 2000000) (h0 : 0 ≤ k) (h1 : k ≤ 100000000000) : Ev L f_laws_heldResResult [dI c, .s (dL (cnt k n)), dI k] [dI (k + n)] := by
  refine Ev.eq (vs := [.i c, .l (dL (cnt k n)), .i k]) L_laws_heldResResult rfl ?_
  refine WR.ev (ev_heldIntS k n ht h0 (by omega)) rfl rfl rfl ?_
  exact WR.iteF (by show decide (k + (n : Int) < 0) = false; rw [decide_eq_false]; omega) (WR.done rfl)

theorem loc_lens (as : List (List Line)) (b g : List Int) (s : Int) (a : List Int) (k : Int) (w : List Int) (ha : a.length ≤ 2000000) : (locM as b g s a k w).tells.length ≤ 2000000 ∧ (locM as b g s a k w).adds.length ≤ 2000000 := by
  have key : ∀ r, r ∈ rowsOf (as.getD k.toNat []) → (rowLoc b g (catForms as) (catPins as) s a w r).tells.length ≤ 2000000 ∧ (rowLoc b g (catForms as) (catPins as) s a w r).adds.length ≤ 2000000 := by
    intro r hr
    have hf := rows_fit r hr
    have hs : (sumL a (atL r.adds b w)).length ≤ a.length := by unfold sumL; rw [List.length_zipWith]; omega
    have ht : (atL r.tells b w).length = r.tells.length := by simp [atL]
    have htl := hf.tl
    unfold rowLoc
    repeat' split
    all_goals first
      | exact ⟨by simp, ha⟩
      | exact ⟨by simp only [ht]; omega, by simp only; omega⟩
  unfold locM
  split
  · split
    · rename_i r hr
      exact key r (List.mem_of_find?_eq_some hr)
    · exact ⟨by simp, ha⟩
  · exact ⟨by simp, by simp⟩

theorem ev_FnExactLocTry (as : List (List Line)) (b g : List Int) (s : Int) (a : List Int) (k : Int) (w : List Int) (has : bigAs as) (hb : b.length ≤ 9223372036854775807) (hg : g.length ≤ 9223372036854775807) :
    Ev L f_laws_FnExactLocTry [.s (dActs as), .s (dL b), .s (dL g), dI s, .s (dL a), dI k, .s (dL w)] [dB true] := by
  refine Ev.eq (vs := [.l (dActs as), .l (dL b), .l (dL g), .i s, .l (dL a), .i k, .l (dL w)]) L_laws_FnExactLocTry rfl ?_
  refine WR.iteP ((1048576 : Int) < (dL a).length) rfl (fun _ => WR.done rfl) (fun ha => ?_)
  refine WR.iteP ((1048576 : Int) < (dL w).length) rfl (fun _ => WR.done rfl) (fun hw => ?_)
  rw [dL_len] at ha hw
  have ha : a.length ≤ 2000000 := by omega
  have hw : w.length ≤ 2000000 := by omega
  refine WR.ev (ev_szActLineSS as 1048576 has (by omega) (by omega)) rfl rfl rfl ?_
  have hr := dec_room (left := 1048576) (n := szAs as) (by omega) (by omega)
  refine WR.iteP (dec 1048576 (szAs as) < 0) rfl (fun _ => WR.done rfl) (fun h => ?_)
  refine WR.ev (ev_szTrtTreaty b g (dec 1048576 (szAs as)) hb hg (by omega) (by omega)) rfl rfl rfl ?_
  simp only [List.cons_append, List.nil_append]
  rw [dec_dec h]
  refine WR.iteP (dec 1048576 (szAs as + (b.length + g.length)) < 0) rfl (fun _ => WR.done rfl) (fun h2 => ?_)
  have hsz : szAs as + (b.length + g.length) ≤ 1048576 := by have := dec_le h2; omega
  have hf : fitActs as := fitActs_of (by omega)
  have hb : b.length ≤ 2000000 := by omega
  have hg : g.length ≤ 2000000 := by omega
  have hwt := wtAs_le as
  have hto := ev_toActLineSS as hf
  have htt := ev_toTrtTreaty b g hb hg
  have hta := ev_toIntS a ha
  have htw := ev_toIntS w hw
  have hsl := ev_sLocTry as b g s a k w hf hb hg ha hw
  have hil := ev_iLocTry as b g s a k w hf hb hg ha hw
  obtain ⟨hl1, hl2⟩ := loc_lens as b g s a k w ha
  have heqs := ev_eqActLineSS as as hf
  have heqt := ev_eqTrtTreaty b g hb hg
  have heqa := ev_eqIntS a a ha
  have heqw := ev_eqIntS w w hw
  rw [decide_eq_true rfl] at heqs heqa heqw
  generalize locM as b g s a k w = r at *
  have heqr := ev_eqResResult r.code r.code r.tells r.tells hl1
  have heqd := ev_eqIntS r.adds r.adds hl2
  rw [decide_eq_true rfl] at heqd
  rw [decide_eq_true rfl, decide_eq_true rfl] at heqr
  obtain ⟨ds, hmk, es, rfl, hes⟩ := ev_markActLineSS as hf 1 (by omega) (by omega)
  have hmt := ev_markTrtTreaty b g (1 + wtAs as) hb hg (by omega) (by omega)
  have hma := ev_markIntS a (1 + wtAs as + b.length + g.length) ha (by omega) (by omega)
  have hmw := ev_markIntS w (1 + wtAs as + b.length + g.length + a.length) hw (by omega) (by omega)
  have hmr := ev_markResResult r.code r.tells 1 hl1 (by omega) (by omega)
  have hmd := ev_markIntS r.adds (1 + r.tells.length) hl2 (by omega) (by omega)
  have hhr := ev_heldResResult r.code r.tells.length 1 hl1 (by omega) (by omega)
  have hhd := ev_heldIntS (1 + r.tells.length) r.adds.length hl2 (by omega) (by omega)
  refine WR.ev hto rfl rfl rfl ?_
  refine WR.ev htt rfl rfl rfl ?_
  simp only [List.cons_append, List.nil_append]
  refine WR.ev hta rfl rfl rfl ?_
  refine WR.ev htw rfl rfl rfl ?_
  simp only [List.cons_append, List.nil_append]
  refine WR.ev (vs := [.i r.code, .l (dL r.tells), .l (dL r.adds), .b r.ok]) hsl rfl rfl rfl ?_
  simp only [List.cons_append, List.nil_append]
  refine WR.ev hto rfl rfl rfl ?_
  refine WR.ev htt rfl rfl rfl ?_
  simp only [List.cons_append, List.nil_append]
  refine WR.ev hta rfl rfl rfl ?_
  refine WR.ev htw rfl rfl rfl ?_
  simp only [List.cons_append, List.nil_append]
  refine WR.ev (vs := [.i r.code, .l (dL r.tells), .l (dL r.adds), .b r.ok]) hil rfl rfl rfl ?_
  simp only [List.cons_append, List.nil_append]
  refine WR.fl (flats_map dI (fun _ => rfl) r.tells) (WR.fl (flats_map dI (fun _ => rfl) r.adds) ?_)
  refine WR.ev heqr rfl rfl rfl (WR.iteF rfl ?_)
  simp only [List.cons_append, List.nil_append]
  refine WR.ev heqd rfl rfl rfl (WR.iteF rfl ?_)
  simp only [List.cons_append, List.nil_append]
  have hok : (!(r.ok == r.ok)) = false := by simp
  refine WR.iteF hok ?_
  refine WR.ev hto rfl rfl rfl ?_
  simp only [List.cons_append, List.nil_append]
  refine WR.ev heqs rfl rfl rfl (WR.iteF rfl ?_)
  simp only [List.cons_append, List.nil_append]
  refine WR.ev htt rfl rfl rfl ?_
  simp only [List.cons_append, List.nil_append]
  refine WR.ev heqt rfl rfl rfl (WR.iteF rfl ?_)
  simp only [List.cons_append, List.nil_append]
  refine WR.ev hta rfl rfl rfl ?_
  simp only [List.cons_append, List.nil_append]
  refine WR.ev heqa rfl rfl rfl (WR.iteF rfl ?_)
  simp only [List.cons_append, List.nil_append]
  refine WR.ev htw rfl rfl rfl ?_
  simp only [List.cons_append, List.nil_append]
  refine WR.ev heqw rfl rfl rfl (WR.iteF rfl ?_)
  simp only [List.cons_append, List.nil_append]
  refine WR.ev (vs := [.i (1 + wtAs as), .l es]) hmk rfl rfl rfl ?_
  simp only [List.cons_append, List.nil_append]
  refine WR.ev hmt rfl rfl rfl ?_
  simp only [List.cons_append, List.nil_append]
  refine WR.ev hma rfl rfl rfl ?_
  simp only [List.cons_append, List.nil_append]
  refine WR.ev hmw rfl rfl rfl ?_
  simp only [List.cons_append, List.nil_append]
  refine WR.iteF (by show decide ((1 : Int) + wtAs as + b.length + g.length + a.length + w.length < 0) = false; rw [decide_eq_false]; omega) ?_
  refine WR.ev heqr rfl rfl rfl (WR.iteF rfl ?_)
  simp only [List.cons_append, List.nil_append]
  refine WR.ev heqd rfl rfl rfl (WR.iteF rfl ?_)
  simp only [List.cons_append, List.nil_append]
  refine WR.iteF hok ?_
  refine WR.ev hmr rfl rfl rfl ?_
  simp only [List.cons_append, List.nil_append]
  refine WR.ev hmd rfl rfl rfl ?_
  simp only [List.cons_append, List.nil_append]
  have c1 : decide (((dL r.tells).length : Int) = ((dL (cnt 1 r.tells.length)).length : Int)) = true := by rw [dL_len, dL_len, cnt_len]; simp
  have c2 : decide (((dL r.adds).length : Int) = ((dL (cnt (1 + r.tells.length) r.adds.length)).length : Int)) = true := by rw [dL_len, dL_len, cnt_len]; simp
  have n1 : decide ((1 : Int) + r.tells.length < 0) = false := by rw [decide_eq_false]; omega
  have n2 : decide ((1 : Int) + r.tells.length + r.adds.length < 0) = false := by rw [decide_eq_false]; omega
  have n3 : (!decide ((1 : Int) + r.tells.length + r.adds.length = (1 : Int) + r.tells.length + r.adds.length)) = false := by simp
  refine WR.chk c1 ?_
  refine WR.ev hhr rfl rfl rfl (WR.iteF n1 ?_)
  simp only [List.cons_append, List.nil_append]
  refine WR.chk c2 ?_
  refine WR.ev hhd rfl rfl rfl (WR.iteF n2 (WR.iteF n3 ?_))
  simp only [List.cons_append, List.nil_append]
  refine WR.ev hto rfl rfl rfl ?_
  simp only [List.cons_append, List.nil_append]
  refine WR.ev htt rfl rfl rfl ?_
  simp only [List.cons_append, List.nil_append]
  refine WR.ev hta rfl rfl rfl ?_
  simp only [List.cons_append, List.nil_append]
  refine WR.ev htw rfl rfl rfl ?_
  simp only [List.cons_append, List.nil_append]
  refine WR.ev (vs := [.i r.code, .l (dL r.tells), .l (dL r.adds), .b r.ok]) hil rfl rfl rfl ?_
  simp only [List.cons_append, List.nil_append]
  refine WR.fl (flats_map dI (fun _ => rfl) r.tells) (WR.fl (flats_map dI (fun _ => rfl) r.adds) ?_)
  refine WR.ev heqr rfl rfl rfl (WR.iteF rfl ?_)
  simp only [List.cons_append, List.nil_append]
  refine WR.ev heqd rfl rfl rfl (WR.iteF rfl ?_)
  simp only [List.cons_append, List.nil_append]
  refine WR.iteF hok ?_
  refine WR.chk c1 ?_
  refine WR.ev hhr rfl rfl rfl (WR.iteF n1 ?_)
  simp only [List.cons_append, List.nil_append]
  refine WR.chk c2 ?_
  exact WR.ev hhd rfl rfl rfl (WR.iteF n2 (WR.iteF n3 (WR.done rfl)))

abbrev tyTrt : Ty := .st [tyInts, tyInts]

theorem arg_FnExactLocTry (dss : List (List D)) (h : TySs [.sl (.sl tyLine), tyTrt, .i .i64, tyInts, .i .i64, tyInts] dss) :
    ∃ ls, flattenD [.one .s, .g [.s, .s], .one (.i .i64), .one .s, .one (.i .i64), .one .s] (argsS [.sl (.sl tyLine), tyTrt, .i .i64, tyInts, .i .i64, tyInts] dss) = some ls ∧ Ev L f_laws_FnExactLocTry ls [dB true] := by
  obtain ⟨_, _, rfl, h1, _, _, rfl, h2, _, _, rfl, ⟨s, rfl⟩, _, _, rfl, h4, _, _, rfl, ⟨k, rfl⟩, _, _, rfl, h6, rfl⟩ := h
  obtain ⟨as, rfl, has⟩ := acts_of h1
  obtain ⟨_, _, rfl, h7, _, _, rfl, h8, rfl⟩ := h2
  obtain ⟨b, rfl, hb⟩ := ints_of h7
  obtain ⟨g, rfl, hg⟩ := ints_of h8
  obtain ⟨a, rfl, _⟩ := ints_of h4
  obtain ⟨w, rfl, _⟩ := ints_of h6
  exact ⟨_, rfl, ev_FnExactLocTry as b g s a k w has hb hg⟩

end Go.Proofs.YtjmimbpcajogoaaGreat

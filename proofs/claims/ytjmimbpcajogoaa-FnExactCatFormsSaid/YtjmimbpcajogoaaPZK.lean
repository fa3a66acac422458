/- The program's CatForms answers as the reference's: over residual programs. -/
import Derived.Test.YtjmimbpcajogoaaPZJ
namespace Go.Proofs.Ytjmimbpcajogoaa
open Go Go.Tm

theorem ev_eqIntSS (a b : List (List Int)) (hl : a.length ≤ 2000000) (ht : ∀ f ∈ a, f.length ≤ 2000000) : Ev L f_laws_eqIntSS [.s (dLL a), .s (dLL b)] [dB (decide (a = b))] :=
  ev_sameC (g := f_laws_eqIntS) (sh := .one .s) (as := [(.s (.v 3)), (.s (.v 4))]) (k1 := 4) (k2 := 5)
    (fun l => D.s (dL l)) (fun x => [.l (dL x)]) (fun x => [D.s (dL x)]) a b
    L_laws_eqIntSS rfl (fun _ => rfl) (fun _ => rfl) (fun _ => rfl) (fun _ _ _ _ _ => rfl) (fun x hx y => ev_eqIntS x y (ht x hx)) hl

theorem ev_markIntSS (l : List (List Int)) (k : Int) (hl : l.length ≤ 2000000) (ht : ∀ f ∈ l, f.length ≤ 2000000) (h0 : 0 ≤ k) (h1 : k + wts (fun r : List Int => r.length) l ≤ 1000000000000) :
    Ev L f_laws_markIntSS [.s (dLL l), dI k] [dI (k + wts (fun r : List Int => r.length) l), .s (dLL (mkAll (fun r : List Int => r.length) (fun q r => cnt q r.length) k l))] :=
  ev_markLoop (fun l => D.s (dL l)) (fun r : List Int => r.length) (fun q r => cnt q r.length) l k L_laws_markIntSS rfl h0 h1 hl fun v0 v1 es i x q hx hxi hi hq0 hq1 => by
    have hx1 := ht x hx
    refine WR.atN (vs := [.l (dL x)]) (ds := es) i hxi rfl rfl rfl rfl rfl rfl ?_
    simp only [List.cons_append, List.nil_append]
    refine WR.ev (vs := [.i (q + x.length), .l (dL (cnt q x.length))]) (ev_markIntS x q hx1 (by omega) (by omega)) rfl rfl rfl ?_
    simp only [List.cons_append, List.nil_append]
    refine WR.chk ?_ ?_
    · show decide (((dL (cnt q x.length)).length : Int) = ((dL x).length : Int)) = true
      rw [dL_len, dL_len, cnt_len]; simp
    refine WR.nextA ?_ rfl
    show [V.l (es.set i (.s (dL (cnt q x.length)))), V.i (q + x.length), V.i (IntKind.i64.wrap ((i : Int) + 1))] = _
    rw [wS' (by omega)]

theorem ev_heldIntSS (l : List (List Int)) (k : Int) (hl : l.length ≤ 2000000) (ht : ∀ f ∈ l, f.length ≤ 2000000) (h0 : 0 ≤ k) (h1 : k + wts (fun r : List Int => r.length) l ≤ 1000000000000) :
    Ev L f_laws_heldIntSS [.s (dLL (mkAll (fun r : List Int => r.length) (fun q r => cnt q r.length) k l)), dI k] [dI (k + wts (fun r : List Int => r.length) l)] :=
  ev_heldLoop (fun l => D.s (dL l)) (fun r : List Int => r.length) (fun q r => cnt q r.length) l k L_laws_heldIntSS rfl h0 h1 hl fun v1 es i x q hx hxi hi hq0 hq1 => by
    have hx1 := ht x hx
    refine WR.idxN (vs := [.l (dL (cnt q x.length))]) i hxi rfl rfl rfl rfl ?_
    simp only [List.cons_append, List.nil_append]
    refine WR.ev (vs := [.i (q + x.length)]) (ev_heldIntS q x.length hx1 (by omega) (by omega)) rfl rfl rfl ?_
    simp only [List.cons_append, List.nil_append]
    refine WR.iteF (by show decide (q + (x.length : Int) < 0) = false; rw [decide_eq_false]; omega) ?_
    refine WR.nextA ?_ rfl
    show [V.i (q + x.length), V.i (IntKind.i64.wrap ((i : Int) + 1))] = _
    rw [wS' (by omega)]

theorem ev_FnExactCatForms (a : List (List Line)) (hb : bigAs a) : Ev L f_laws_FnExactCatForms [.s (dActs a)] [dB true] := by
  refine Ev.eq (vs := [.l (dActs a)]) L_laws_FnExactCatForms rfl ?_
  refine WR.ev (ev_szActLineSS a 1048576 hb (by omega) (by omega)) rfl rfl rfl ?_
  refine WR.iteP (dec 1048576 (szAs a) < 0) rfl (fun _ => WR.done rfl) (fun h => ?_)
  have hsz : szAs a ≤ 1048576 := by have := dec_le h; omega
  have hf : fitActs a := fitActs_of hsz
  have hwt : wtAs a ≤ 4 * szAs a := wtAs_le a
  have hpf := catForms_fit a
  have hrl := hpf.len
  have hrf : ∀ r ∈ catForms a, r.length ≤ 2000000 := fun r hr => by have := (hpf.each r hr).1; omega
  have hrw := wts_le (fun r : List Int => r.length) 3 (catForms a) (fun r hr => by have := (hpf.each r hr).1; show r.length ≤ 3; omega)
  have hto := ev_toActLineSS a hf
  have hsr := ev_CatForms a hf
  have hir := ev_iForms a hf
  generalize catForms a = rs at *
  have heq := ev_eqIntSS rs rs (by omega) hrf
  rw [decide_eq_true rfl] at heq
  have heqa := ev_eqActLineSS a a hf
  rw [decide_eq_true rfl] at heqa
  obtain ⟨ds, hmk, es, rfl, hes⟩ := ev_markActLineSS a hf 1 (by omega) (by omega)
  have hmb := ev_markIntSS rs 1 (by omega) hrf (by omega) (by omega)
  have hhb := ev_heldIntSS rs 1 (by omega) hrf (by omega) (by omega)
  have hml : (dLL (mkAll (fun r : List Int => r.length) (fun q r => cnt q r.length) 1 rs)).length = (dLL rs).length := by simp [dLL, mkAll_len]
  generalize dLL (mkAll (fun r : List Int => r.length) (fun q r => cnt q r.length) 1 rs) = MR at *
  generalize hW : wts (fun r : List Int => r.length) rs = W at *
  refine WR.ev hto rfl rfl rfl ?_
  refine WR.ev hsr rfl rfl rfl ?_
  refine WR.ev hto rfl rfl rfl ?_
  refine WR.ev hir rfl rfl rfl ?_
  simp only [List.cons_append, List.nil_append]
  refine WR.ev heq rfl rfl rfl (WR.iteF rfl ?_)
  refine WR.ev hto rfl rfl rfl ?_
  simp only [List.cons_append, List.nil_append]
  refine WR.ev heqa rfl rfl rfl (WR.iteF rfl ?_)
  refine WR.ev (vs := [.i (1 + wtAs a), .l es]) hmk rfl rfl rfl ?_
  simp only [List.cons_append, List.nil_append]
  refine WR.iteF ?_ ?_
  · show decide ((1 : Int) + wtAs a < 0) = false
    rw [decide_eq_false]; omega
  refine WR.ev heq rfl rfl rfl (WR.iteF rfl ?_)
  refine WR.ev (vs := [.i (1 + W), .l MR]) hmb rfl rfl rfl ?_
  simp only [List.cons_append, List.nil_append]
  have hlen : decide (((dLL rs).length : Int) = (MR.length : Int)) = true := by rw [hml]; simp
  refine WR.chk hlen ?_
  refine WR.ev (vs := [.i (1 + W)]) hhb rfl rfl rfl ?_
  simp only [List.cons_append, List.nil_append]
  have hneg : decide ((1 : Int) + (W : Int) < 0) = false := by rw [decide_eq_false]; omega
  have hsame : (!decide ((1 : Int) + (W : Int) = (1 : Int) + (W : Int))) = false := by simp
  refine WR.iteF hneg (WR.iteF hsame ?_)
  refine WR.ev hto rfl rfl rfl ?_
  refine WR.ev hir rfl rfl rfl ?_
  simp only [List.cons_append, List.nil_append]
  refine WR.ev heq rfl rfl rfl (WR.iteF rfl ?_)
  simp only [List.cons_append, List.nil_append]
  refine WR.chk hlen ?_
  refine WR.ev (vs := [.i (1 + W)]) hhb rfl rfl rfl ?_
  simp only [List.cons_append, List.nil_append]
  exact WR.iteF hneg (WR.iteF hsame (WR.done rfl))

theorem arg_FnExactCatForms (dss : List (List D)) (h : TySs [.sl (.sl tyLine)] dss) : ∃ ls, flattenD [.one .s] (argsS [.sl (.sl tyLine)] dss) = some ls ∧ Ev L f_laws_FnExactCatForms ls [dB true] := by
  obtain ⟨ds, _, rfl, h1, rfl⟩ := h
  obtain ⟨a, rfl, ha⟩ := acts_of h1
  exact ⟨_, rfl, ev_FnExactCatForms a ha⟩

end Go.Proofs.Ytjmimbpcajogoaa

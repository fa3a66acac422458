/- What one site knows is so for all: over residual programs. -/
import Derived.Test.YtbikgdcgoogngaaPV
namespace Go.Proofs.Ytbikgdcgoogngaa
open Go Go.Tm

theorem rem_in (t : Int) {m d : Int} (hm : 0 < m) (hm9 : m ≤ 9) (hd : 0 ≤ d ∧ d ≤ 4) : -20 ≤ IntKind.i64.wrap (t.tmod m - d) ∧ IntKind.i64.wrap (t.tmod m - d) ≤ 20 := by
  have h1 := Int.tmod_lt_of_pos t hm
  have h2 := Int.lt_tmod_of_pos t hm
  rw [w64 (by omega) (by omega)]; omega

set_option maxHeartbeats 1000000 in
theorem ev_FnTrtBounds (ns ms : List Int) (hb : ∀ x ∈ ns, 0 ≤ x ∧ x < 256) (hb2 : ∀ x ∈ ms, 0 ≤ x ∧ x < 256) : Ev L f_laws_FnTrtBounds [.s (bytesD ns), .s (bytesD ms)] [dB true] := by
  refine Ev.eq (vs := [.l (bytesD ns), .l (bytesD ms)]) L_laws_FnTrtBounds rfl ?_
  refine WR.iteP (1048576 < ((bytesD ns).length : Int)) rfl (fun _ => WR.done rfl) (fun _ => ?_)
  refine WR.iteP (1048576 < ((bytesD ms).length : Int)) rfl (fun _ => WR.done rfl) (fun hml => ?_)
  rw [bytesD_len] at hml
  obtain ⟨b, g, ps, s, a, f, w, hd, bl, gl, hp, s0, s2, al, hf, wl⟩ := ev_DrawTrtBounds ns hb
  refine WR.ev hd rfl rfl rfl ?_
  simp only [List.cons_append, List.nil_append]
  refine WR.ev (ev_iBounds b g ps s a f w (by omega) (by omega) hp (by omega) hf (by omega)) rfl rfl rfl ?_
  simp only [List.cons_append, List.nil_append]
  refine WR.ev (ev_sBounds b g ps s a f w (by omega) (by omega) hp (by omega) hf (by omega)) rfl rfl rfl ?_
  simp only [List.cons_append, List.nil_append]
  have hfine := fun h => bounds_fine (b := b) (g := g) (ps := ps) (s := s) (a := a) (f := f) (w := w) h
  have hnone := fun h => bounds_none (b := b) (g := g) (ps := ps) (s := s) (a := a) (f := f) (w := w) h
  have hso : ∀ as low high, boundsM b g ps s a f w = (low, high, true) → as[s.toNat]? = some a → trtAll b g ps as = true → low ≤ atF f (coSumM b as) w ∧ atF f (coSumM b as) w ≤ high := fun as low high h1 h2 h3 => bounds_so h1 h2 h3
  have hle := bounds_le (b := b) (g := g) (ps := ps) (s := s) (a := a) (f := f) (w := w)
  generalize boundsM b g ps s a f w = B at *
  obtain ⟨lo, hi, ok⟩ := B
  simp only at hfine hnone hle
  refine WR.iteF (by show (!(decide (lo = lo))) = false; simp) ?_
  refine WR.iteF (by show (!(decide (hi = hi))) = false; simp) ?_
  refine WR.iteF (by show (!(ok == ok)) = false; simp) ?_
  refine WR.iteN ok rfl (fun hok => ?_) (fun hok => ?_)
  · have := hnone hok
    simp only [Prod.mk.injEq] at this
    obtain ⟨rfl, rfl, _⟩ := this
    exact WR.iteT rfl (WR.iteT rfl (WR.ev ev_coHolds rfl rfl rfl (WR.done rfl)))
  obtain ⟨h1, h2, h3⟩ := hfine hok
  subst hok
  obtain ⟨v1, v2, v3⟩ := fine_parts h1
  obtain ⟨b1, b2⟩ := valOk_iff.1 v1
  obtain ⟨a1, a2⟩ := allIn_iff.1 v3
  obtain ⟨_, _, t0, t1, _⟩ := trtFine_iff h1
  refine WR.forS g.length (fun i vs => ∃ as : List (List Int), vs = [.l (dLL as), .l (dL a), .i i] ∧ as.length = i ∧ (∀ x ∈ as, x.length = 3 ∧ Lim 20000 x) ∧ ∀ j : Nat, j < i → (j : Int) = s → as[j]? = some a) rfl ⟨[], rfl, rfl, by simp, fun j h => by omega⟩ ?_
  rintro i _ hi' ⟨as, rfl, hasl, has, hasj⟩
  simp only [List.cons_append, List.nil_append]
  refine WR.iteLen i (dL_len g) rfl (fun h => ?_) (fun h => ?_)
  · -- one more
    have push : ∀ (y : List Int), y.length = 3 ∧ Lim 20000 y → ((i : Int) = s → y = a) → ∃ as' : List (List Int), [V.l (dLL as ++ [.s (dL y)]), V.l (dL a), V.i (IntKind.i64.wrap ((i : Int) + 1))] = [.l (dLL as'), .l (dL a), .i ((i + 1 : Nat) : Int)] ∧ as'.length = i + 1 ∧ (∀ x ∈ as', x.length = 3 ∧ Lim 20000 x) ∧ ∀ j : Nat, j < i + 1 → (j : Int) = s → as'[j]? = some a := by
      intro y hy hya
      refine ⟨as ++ [y], by rw [wS h (by omega), dLL_snoc], by simp [hasl], ?_, ?_⟩
      · intro x hx
        rcases List.mem_append.1 hx with hx | hx
        · exact has x hx
        · simp at hx; subst hx; exact hy
      · intro j hj hjs
        by_cases hji : j < i
        · rw [List.getElem?_append_left (by omega)]; exact hasj j hji hjs
        · have hji : j = i := by omega
          subst hji
          rw [List.getElem?_append_right (by omega), hasl, Nat.sub_self, hya hjs]; rfl
    refine WR.loop (fun m vs => ∃ (x : List Int) (k : Int), vs = [.l (dL x), .i k] ∧ x.length = 3 ∧ Lim 20000 x ∧ 0 ≤ k ∧ k ≤ 32 ∧ (m : Int) = 40 - k) rfl 40 ⟨[0, 0, 0], 0, rfl, rfl, by intro x hx; simp at hx; omega, by omega, by omega, by omega⟩ ?_
    rintro m _ ⟨x, k, rfl, hx3, hxl, k0, k32, hm⟩
    simp only [List.cons_append, List.nil_append]
    have hw2 : IntKind.i64.wrap (k + 2) = k + 2 := w64 (by omega) (by omega)
    have hw1 : IntKind.i64.wrap (k + 1) = k + 1 := w64 (by omega) (by omega)
    have ends : WR L (.ite (.cmp .eq (.v 19) (.v 5))
        (.i (.chk (.cmp .le (.len (.app (.v 17) (.cons (.s (.v 18)) .nil))) (.z 2932031007402))) <| .next [(.app (.v 17) (.cons (.s (.v 18)) .nil)), (.v 18), (.bin .add .i64 (.v 19) (.z 1))])
        (.i (.chk (.cmp .le (.len (.app (.v 17) (.cons (.s (.v 20)) .nil))) (.z 2932031007402))) <| .next [(.app (.v 17) (.cons (.s (.v 20)) .nil)), (.v 18), (.bin .add .i64 (.v 19) (.z 1))]))
        [.l (bytesD ns), .l (bytesD ms), .l (dL b), .l (dL g), .l (dLL ps), .i s, .l (dL a), .l (dL f.c), .l (dL f.d), .i f.k, .l (dL w), .i lo, .i hi, .b true, .i lo, .i hi, .b true, .l (dLL as), .l (dL a), .i i, .l (dL x), .i k]
        (NxtS (fun i vs => ∃ as : List (List Int), vs = [.l (dLL as), .l (dL a), .i i] ∧ as.length = i ∧ (∀ x ∈ as, x.length = 3 ∧ Lim 20000 x) ∧ ∀ j : Nat, j < i → (j : Int) = s → as[j]? = some a) g.length i (Fin (· = [dB true]))) := by
      refine WR.iteP ((i : Int) = s) rfl (fun his => ?_) (fun his => ?_)
      · refine WR.chkApp (dLL as) 10 (by rw [dLL_len]; omega) (by omega) rfl ?_
        exact WR.next ⟨h, push a ⟨by omega, a2⟩ fun _ => rfl⟩
      · refine WR.chkApp (dLL as) 10 (by rw [dLL_len]; omega) (by omega) rfl ?_
        exact WR.next ⟨h, push x ⟨hx3, hxl⟩ fun e => absurd e his⟩
    refine WR.iteP (k + 2 < (ms.length : Int)) (by show decide (IntKind.i64.wrap (k + 2) < ((bytesD ms).length : Int)) = _; rw [hw2, bytesD_len]) (fun hk2 => ?_) (fun _ => WR.esc ends)
    refine WR.iteP (k < 30) rfl (fun hk30 => ?_) (fun _ => WR.esc ends)
    refine WR.idxA (ds := bytesD ms) k rfl rfl rfl k0 (bytesD_get k0 (by omega)) rfl ?_
    refine WR.chk rfl ?_
    refine WR.idxA (ds := bytesD ms) (k + 1) rfl rfl (by show IntKind.i64.wrap (k + 1) = _; exact hw1) (by omega) (bytesD_get (by omega) (by omega)) rfl ?_
    refine WR.chk rfl ?_
    refine WR.idxA (ds := bytesD ms) (k + 2) rfl rfl (by show IntKind.i64.wrap (k + 2) = _; exact hw2) (by omega) (bytesD_get (by omega) (by omega)) rfl ?_
    refine WR.chk rfl ?_
    simp only [List.cons_append, List.nil_append]
    generalize ms.getD k.toNat 0 = x0
    generalize ms.getD (k + 1).toNat 0 = x1
    generalize ms.getD (k + 2).toNat 0 = x2
    have r0 := rem_in (IntKind.i64.wrap (IntKind.u8.wrap (x0 + IntKind.u8.wrap (i : Int)))) (m := 9) (d := 4) (by omega) (by omega) (by omega)
    have r1 := rem_in (IntKind.i64.wrap x1) (m := 9) (d := 4) (by omega) (by omega) (by omega)
    have r2 := rem_in (IntKind.i64.wrap x2) (m := 5) (d := 2) (by omega) (by omega) (by omega)
    have eL : ∀ y0 y1 y2 : Int, [dI y0, dI y1, dI y2] = dL [y0, y1, y2] := fun _ _ _ => rfl
    refine WR.ev (ev_TrtKeeps b g ps i [IntKind.i64.wrap ((IntKind.i64.wrap (IntKind.u8.wrap (x0 + IntKind.u8.wrap (i : Int)))).tmod 9 - 4), IntKind.i64.wrap ((IntKind.i64.wrap x1).tmod 9 - 4), IntKind.i64.wrap ((IntKind.i64.wrap x2).tmod 5 - 2)] (by omega) (by omega) hp (by simp)) rfl rfl rfl ?_
    simp only [List.cons_append, List.nil_append]
    have hw3 : IntKind.i64.wrap (k + 3) = k + 3 := w64 (by omega) (by omega)
    refine WR.iteB _ rfl (fun _ => ?_) (fun _ => ?_)
    · refine WR.nextA (vs := [.l (dL [IntKind.i64.wrap ((IntKind.i64.wrap (IntKind.u8.wrap (x0 + IntKind.u8.wrap (i : Int)))).tmod 9 - 4), IntKind.i64.wrap ((IntKind.i64.wrap x1).tmod 9 - 4), IntKind.i64.wrap ((IntKind.i64.wrap x2).tmod 5 - 2)]), .i (k + 3)]) ?_ ⟨m - 3, by omega, _, k + 3, rfl, rfl, ?_, by omega, by omega, by omega⟩
      · show [V.l _, V.i (IntKind.i64.wrap (k + 3))] = _
        rw [hw3]; rfl
      · intro y hy
        simp only [List.mem_cons, List.not_mem_nil, or_false] at hy
        rcases hy with rfl | rfl | rfl <;> omega
    · refine WR.nextA (vs := [.l (dL x), .i (k + 3)]) ?_ ⟨m - 3, by omega, x, k + 3, rfl, hx3, hxl, by omega, by omega, by omega⟩
      show [V.l (dL x), V.i (IntKind.i64.wrap (k + 3))] = _
      rw [hw3]
  · refine WR.esc ?_
    have hag := hasj s.toNat (by omega) (by omega)
    have hasf : fitLL as := ⟨by omega, fun x hx => by rw [(has x hx).1]; omega⟩
    refine WR.ev (ev_coSum b as (M := 20000) (by omega) (by omega) (fun x hx => ⟨by rw [(has x hx).1]; omega, (has x hx).2⟩) (b2.mono (by omega)) (by omega) (by omega)) rfl rfl rfl ?_
    have hcl : (coSumM b as).length = b.length := coSum_len fun x hx => by rw [(has x hx).1]; omega
    refine WR.ev (ev_FrmAt f (coSumM b as) w hf (by omega) (by omega)) rfl rfl rfl ?_
    simp only [List.cons_append, List.nil_append]
    refine WR.iteP (lo ≤ hi) rfl (fun _ => ?_) (fun h => absurd hle h)
    refine WR.ev (ev_TrtAll b g ps as (by omega) (by omega) hp hasf) rfl rfl rfl ?_
    simp only [List.cons_append, List.nil_append]
    refine WR.iteN (trtAll b g ps as) rfl (fun _ => WR.done rfl) (fun hall => ?_)
    refine WR.iteN (frmAtM f (coSumM b as) w).2 rfl (fun _ => WR.done rfl) (fun hfa => ?_)
    have hat : (frmAtM f (coSumM b as) w).1 = atF f (coSumM b as) w := by
      unfold frmAtM at hfa ⊢
      split at hfa
      · rename_i hc; rw [if_pos hc]
      · simp at hfa
    rw [hat]
    obtain ⟨c1, c2⟩ := hso as lo hi rfl hag hall
    refine WR.iteP (lo ≤ atF f (coSumM b as) w) rfl (fun _ => WR.done ?_) (fun h => absurd c1 h)
    show [dB (decide (atF f (coSumM b as) w ≤ hi))] = _
    rw [decide_eq_true c2]

end Go.Proofs.Ytbikgdcgoogngaa

import Derived.Test.YtdibnlhlngodeaaGreatDoorPA
import Derived.Test.YtdibnlhlngodeaaGreatDoorTd
set_option linter.unusedVariables false
set_option linter.unusedSimpArgs false
/- What draws of numbers come to. -/
namespace Go.Proofs.YtdibnlhlngodeaaGreatDoor
open Go Go.Tm
theorem ev_open (ns : List Int) (hb : ∀ x ∈ ns, 0 ≤ x ∧ x < 256) : ∃ bs, Ev L f_k0 [.s (bytesD ns)] [.s (bytesD bs), dI 0] ∧ Rdr bs 0 := by
  have key : ∃ ds, Ev L f_k0 [.s (bytesD ns)] ds ∧ ∃ bs, ds = [.s (bytesD bs), dI 0] ∧ Rdr bs 0 := by
    refine Ev.of (vs := [.l (bytesD ns)]) L_k0 rfl ?_
    refine WR.iteP (2000 < ((bytesD ns).length : Int)) rfl (fun h => ?_) (fun h => ?_)
    · rw [bytesD_len] at h
      refine WR.chkP (2000 ≤ ((bytesD ns).length : Int)) rfl (by rw [bytesD_len]; omega) ?_
      refine WR.done ⟨ns.take 2000, ?_, ⟨fun x hx => hb x (List.mem_of_mem_take hx), by simp; omega, by omega, by omega⟩⟩
      show [D.s ((bytesD ns).take 2000), dI 0] = _
      simp [bytesD, List.map_take]
    · rw [bytesD_len] at h
      exact WR.done ⟨ns, rfl, ⟨hb, by omega, by omega, by omega⟩⟩
  obtain ⟨ds, h1, bs, rfl, h2⟩ := key
  exact ⟨bs, h1, h2⟩
theorem Rdr.go {bs : List Int} {p q : Int} (h : Rdr bs p) (h1 : p ≤ q) (h2 : q ≤ 1000000000000) : Rdr bs q := ⟨h.byte, h.len, by have := h.pos; omega, h2⟩
end Go.Proofs.YtdibnlhlngodeaaGreatDoor

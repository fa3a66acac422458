import Derived.Test.YtdibnlhlngodeaaGreatDoorPB
set_option linter.unusedVariables false
set_option linter.unusedSimpArgs false
/- What draws of treaties, of what sites have added, of forms and lines come to. -/
namespace Go.Proofs.YtdibnlhlngodeaaGreatDoor
open Go Go.Tm
theorem WRpick {r : R} {l : List V} {Q : Oc → Prop} {c : Nat} {as : List E} {bs : List Int} {p : Int} (n : Int) (hr : Rdr bs p) (h1 : 1 ≤ n) (hn : n ≤ 2000000) (hc : c = l.length) (ha : as.map (dat (envL l)) = [.s (bytesD bs), dI p, dI n])
    (h : ∀ v, 0 ≤ v → v < n → WR L r (l ++ [.i v, .l (bytesD bs), .i (p + 1)]) Q) : WR L (.i (.call f_k1 as [.i .i64, .s, .i .i64] c) r) l Q := by
  obtain ⟨v, hv, _, hv2⟩ := ev_pick hr hn
  exact WR.callA hc ha hv rfl (h v (hv2 h1).1 (hv2 h1).2)
end Go.Proofs.YtdibnlhlngodeaaGreatDoor

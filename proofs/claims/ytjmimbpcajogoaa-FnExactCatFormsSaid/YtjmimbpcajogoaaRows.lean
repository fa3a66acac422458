/-
  No cell of these rows narrows 'for every input' (looked for: loops, veiled, ifaces, maps, wideKeys, modest, calm, conditions, laid).
  DERIVED. THE GIVEN ROWS OF THIS SEAT. 7 by the template 'for every input the law returns true; each argument reads behind the call as it read before'; 0 by the template 'total and deterministic' (their statements: YtjmimbpcajogoaaTotals.lean).
  GIVEN WITH THE SEED: the statements are not yours to turn. If you find one false, say at which input.
  Laid BY PROGRAM, IN A SANDBOX (cutbox-rows.mjs): the forced cells as the released guide's own fill.sh prints them over the translation ad21edf39f139d07… (all of the seat's roots in one cut). By AI agents, Wed Nov 11 2026. No macro, syntax, notation, axiom, sorry.
-/
import Derived.Test.YtjmimbpcajogoaaChecked
import GoSem.Claim
import GoSem.ClaimJoined
import GoSem.ClaimMapViews
import Derived.JoinedTies
import Derived.KernelRfl
namespace Go.Proofs.Ytjmimbpcajogoaa
/- THE CELL 'sum', in the pinned program and in every row, IS THE sha256 OF THE DUMP (.gsa) THAT YtjmimbpcajogoaaProg.lean LOADS. Nothing in Lean hashes anything: it is a label: what it is worth is what the hold of that sum in a sandbox is worth. -/
noncomputable def Try.pinned : Pinned := { name := "ytjmimbpcajogoaa", sum := "ad21edf39f139d0751a5f013f1a14ba686815ccfd53a4f6438479a68cc1d67f1", checked := Try.checked }
namespace Rows
def none {H : Type} : Left H := { results := [], args := [] }

/-- 'laws.FnExactCatWrites': WHATEVER THE INPUT: true; the input reads as it did. -/
def fnExactCatWritesSpec : ChangeSpec := { name := "fnExactCatWrites", fn := fun _ => fun
  | [d] => { results := [.lit (.bool true)], args := [d] }
  | _ => none }
def fnExactCatWritesRow : OpenClaim := { program := "ytjmimbpcajogoaa", sum := "ad21edf39f139d0751a5f013f1a14ba686815ccfd53a4f6438479a68cc1d67f1", func := "loop.example/concord/laws.FnExactCatWrites", spec := "fnExactCatWrites", unfollowed := true, recurses := true, apart := false }
def FnExactCatWritesSaid : Prop := fnExactCatWritesRow.holds Try.pinned (OpenSpec.ofChange fnExactCatWritesSpec)

/-- ITS FALSE NEIGHBOUR: 'it returns false'. Refute it at one input. -/
def fnExactCatWritesWrong : ChangeSpec := { name := "fnExactCatWrites", fn := fun _ => fun
  | [d] => { results := [.lit (.bool false)], args := [d] }
  | _ => none }
def FnExactCatWritesWrongFalsely : Prop := fnExactCatWritesRow.holds Try.pinned (OpenSpec.ofChange fnExactCatWritesWrong)

/-- 'laws.FnExactCatReads': WHATEVER THE INPUT: true; the input reads as it did. -/
def fnExactCatReadsSpec : ChangeSpec := { name := "fnExactCatReads", fn := fun _ => fun
  | [d] => { results := [.lit (.bool true)], args := [d] }
  | _ => none }
def fnExactCatReadsRow : OpenClaim := { program := "ytjmimbpcajogoaa", sum := "ad21edf39f139d0751a5f013f1a14ba686815ccfd53a4f6438479a68cc1d67f1", func := "loop.example/concord/laws.FnExactCatReads", spec := "fnExactCatReads", unfollowed := true, recurses := true, apart := false }
def FnExactCatReadsSaid : Prop := fnExactCatReadsRow.holds Try.pinned (OpenSpec.ofChange fnExactCatReadsSpec)

/-- ITS FALSE NEIGHBOUR: 'it returns false'. Refute it at one input. -/
def fnExactCatReadsWrong : ChangeSpec := { name := "fnExactCatReads", fn := fun _ => fun
  | [d] => { results := [.lit (.bool false)], args := [d] }
  | _ => none }
def FnExactCatReadsWrongFalsely : Prop := fnExactCatReadsRow.holds Try.pinned (OpenSpec.ofChange fnExactCatReadsWrong)

/-- 'laws.FnExactCatPins': WHATEVER THE INPUT: true; the input reads as it did. -/
def fnExactCatPinsSpec : ChangeSpec := { name := "fnExactCatPins", fn := fun _ => fun
  | [d] => { results := [.lit (.bool true)], args := [d] }
  | _ => none }
def fnExactCatPinsRow : OpenClaim := { program := "ytjmimbpcajogoaa", sum := "ad21edf39f139d0751a5f013f1a14ba686815ccfd53a4f6438479a68cc1d67f1", func := "loop.example/concord/laws.FnExactCatPins", spec := "fnExactCatPins", unfollowed := true, recurses := true, apart := false }
def FnExactCatPinsSaid : Prop := fnExactCatPinsRow.holds Try.pinned (OpenSpec.ofChange fnExactCatPinsSpec)

/-- ITS FALSE NEIGHBOUR: 'it returns false'. Refute it at one input. -/
def fnExactCatPinsWrong : ChangeSpec := { name := "fnExactCatPins", fn := fun _ => fun
  | [d] => { results := [.lit (.bool false)], args := [d] }
  | _ => none }
def FnExactCatPinsWrongFalsely : Prop := fnExactCatPinsRow.holds Try.pinned (OpenSpec.ofChange fnExactCatPinsWrong)

/-- 'laws.FnExactRowsOf': WHATEVER THE INPUT: true; the input reads as it did. -/
def fnExactRowsOfSpec : ChangeSpec := { name := "fnExactRowsOf", fn := fun _ => fun
  | [d] => { results := [.lit (.bool true)], args := [d] }
  | _ => none }
def fnExactRowsOfRow : OpenClaim := { program := "ytjmimbpcajogoaa", sum := "ad21edf39f139d0751a5f013f1a14ba686815ccfd53a4f6438479a68cc1d67f1", func := "loop.example/concord/laws.FnExactRowsOf", spec := "fnExactRowsOf", unfollowed := true, recurses := true, apart := false }
def FnExactRowsOfSaid : Prop := fnExactRowsOfRow.holds Try.pinned (OpenSpec.ofChange fnExactRowsOfSpec)

/-- ITS FALSE NEIGHBOUR: 'it returns false'. Refute it at one input. -/
def fnExactRowsOfWrong : ChangeSpec := { name := "fnExactRowsOf", fn := fun _ => fun
  | [d] => { results := [.lit (.bool false)], args := [d] }
  | _ => none }
def FnExactRowsOfWrongFalsely : Prop := fnExactRowsOfRow.holds Try.pinned (OpenSpec.ofChange fnExactRowsOfWrong)

/-- 'laws.FnExactCatForms': WHATEVER THE INPUT: true; the input reads as it did. -/
def fnExactCatFormsSpec : ChangeSpec := { name := "fnExactCatForms", fn := fun _ => fun
  | [d] => { results := [.lit (.bool true)], args := [d] }
  | _ => none }
def fnExactCatFormsRow : OpenClaim := { program := "ytjmimbpcajogoaa", sum := "ad21edf39f139d0751a5f013f1a14ba686815ccfd53a4f6438479a68cc1d67f1", func := "loop.example/concord/laws.FnExactCatForms", spec := "fnExactCatForms", unfollowed := true, recurses := true, apart := false }
def FnExactCatFormsSaid : Prop := fnExactCatFormsRow.holds Try.pinned (OpenSpec.ofChange fnExactCatFormsSpec)

/-- ITS FALSE NEIGHBOUR: 'it returns false'. Refute it at one input. -/
def fnExactCatFormsWrong : ChangeSpec := { name := "fnExactCatForms", fn := fun _ => fun
  | [d] => { results := [.lit (.bool false)], args := [d] }
  | _ => none }
def FnExactCatFormsWrongFalsely : Prop := fnExactCatFormsRow.holds Try.pinned (OpenSpec.ofChange fnExactCatFormsWrong)

/-- 'laws.FnExactSitNew': WHATEVER THE INPUT: true; the input reads as it did. -/
def fnExactSitNewSpec : ChangeSpec := { name := "fnExactSitNew", fn := fun _ => fun
  | [d] => { results := [.lit (.bool true)], args := [d] }
  | _ => none }
def fnExactSitNewRow : OpenClaim := { program := "ytjmimbpcajogoaa", sum := "ad21edf39f139d0751a5f013f1a14ba686815ccfd53a4f6438479a68cc1d67f1", func := "loop.example/concord/laws.FnExactSitNew", spec := "fnExactSitNew", unfollowed := true, recurses := true, apart := false }
def FnExactSitNewSaid : Prop := fnExactSitNewRow.holds Try.pinned (OpenSpec.ofChange fnExactSitNewSpec)

/-- ITS FALSE NEIGHBOUR: 'it returns false'. Refute it at one input. -/
def fnExactSitNewWrong : ChangeSpec := { name := "fnExactSitNew", fn := fun _ => fun
  | [d] => { results := [.lit (.bool false)], args := [d] }
  | _ => none }
def FnExactSitNewWrongFalsely : Prop := fnExactSitNewRow.holds Try.pinned (OpenSpec.ofChange fnExactSitNewWrong)

/-- 'laws.FnExactClkNew': WHATEVER THE INPUT: true; the input reads as it did. -/
def fnExactClkNewSpec : ChangeSpec := { name := "fnExactClkNew", fn := fun _ => fun
  | [d] => { results := [.lit (.bool true)], args := [d] }
  | _ => none }
def fnExactClkNewRow : OpenClaim := { program := "ytjmimbpcajogoaa", sum := "ad21edf39f139d0751a5f013f1a14ba686815ccfd53a4f6438479a68cc1d67f1", func := "loop.example/concord/laws.FnExactClkNew", spec := "fnExactClkNew", unfollowed := true, recurses := true, apart := false }
def FnExactClkNewSaid : Prop := fnExactClkNewRow.holds Try.pinned (OpenSpec.ofChange fnExactClkNewSpec)

/-- ITS FALSE NEIGHBOUR: 'it returns false'. Refute it at one input. -/
def fnExactClkNewWrong : ChangeSpec := { name := "fnExactClkNew", fn := fun _ => fun
  | [d] => { results := [.lit (.bool false)], args := [d] }
  | _ => none }
def FnExactClkNewWrongFalsely : Prop := fnExactClkNewRow.holds Try.pinned (OpenSpec.ofChange fnExactClkNewWrong)

/- THE SECOND FORM. 'bulk': how many values and letters a reading holds, each counted each time it is reached (what is shared counts as often as it is met; a slice's spare places count too). A statement '..UptoSaid' is the law's where the arguments, and the package variables that the reading takes, are together of bulk at most 1048576: NARROWER than '..Said'. Prove '..Said' where nothing that the law and all that it calls make is longer than what came in: it says more and counts as full. Else prove '..UptoSaid'. A law counts once. -/
mutual
def uptoBulk {H : Type} : DataW H → Nat
  | .lit (.string bytes) => bytes.length + 1
  | .lit _ => 1
  | .nil => 1
  | .ptr d => uptoBulk d + 1
  | .slice elems spare => uptoBulkAll elems + uptoBulkAll spare + 1
  | .agg parts => uptoBulkAll parts + 1
  | .iface _ d => uptoBulk d + 1
  | .map entries => uptoBulkEntries entries + 1
  | .held _ => 1
def uptoBulkAll {H : Type} : List (DataW H) → Nat
  | [] => 0
  | d :: r => uptoBulk d + uptoBulkAll r
def uptoBulkEntries {H : Type} : List (Lit × DataW H) → Nat
  | [] => 0
  | x :: r => uptoBulkEntry x + uptoBulkEntries r
def uptoBulkEntry {H : Type} : Lit × DataW H → Nat
  | (.string bytes, d) => bytes.length + uptoBulk d + 1
  | (_, d) => uptoBulk d + 1
 end
def uptoSmall : (H : Type) → List (DataW H) → Bool := fun _ ds => decide (uptoBulkAll ds ≤ 1048576)
def OpenSpec.upto (s : _root_.Go.ChangeSpec) : _root_.Go.OpenSpec := { _root_.Go.OpenSpec.ofChange s with cond := some uptoSmall }

/-- 'laws.FnExactCatWrites', WHERE WHAT IT READS IS OF BULK AT MOST 1048576: true; the input reads as it did. -/
def fnExactCatWritesUptoRow : OpenClaim := { program := "ytjmimbpcajogoaa", sum := "ad21edf39f139d0751a5f013f1a14ba686815ccfd53a4f6438479a68cc1d67f1", func := "loop.example/concord/laws.FnExactCatWrites", spec := "fnExactCatWrites", unfollowed := true, recurses := true, apart := false, narrowed := true }
def FnExactCatWritesUptoSaid : Prop := fnExactCatWritesUptoRow.holds Try.pinned (OpenSpec.upto fnExactCatWritesSpec)

/-- 'laws.FnExactCatReads', WHERE WHAT IT READS IS OF BULK AT MOST 1048576: true; the input reads as it did. -/
def fnExactCatReadsUptoRow : OpenClaim := { program := "ytjmimbpcajogoaa", sum := "ad21edf39f139d0751a5f013f1a14ba686815ccfd53a4f6438479a68cc1d67f1", func := "loop.example/concord/laws.FnExactCatReads", spec := "fnExactCatReads", unfollowed := true, recurses := true, apart := false, narrowed := true }
def FnExactCatReadsUptoSaid : Prop := fnExactCatReadsUptoRow.holds Try.pinned (OpenSpec.upto fnExactCatReadsSpec)

/-- 'laws.FnExactCatPins', WHERE WHAT IT READS IS OF BULK AT MOST 1048576: true; the input reads as it did. -/
def fnExactCatPinsUptoRow : OpenClaim := { program := "ytjmimbpcajogoaa", sum := "ad21edf39f139d0751a5f013f1a14ba686815ccfd53a4f6438479a68cc1d67f1", func := "loop.example/concord/laws.FnExactCatPins", spec := "fnExactCatPins", unfollowed := true, recurses := true, apart := false, narrowed := true }
def FnExactCatPinsUptoSaid : Prop := fnExactCatPinsUptoRow.holds Try.pinned (OpenSpec.upto fnExactCatPinsSpec)

/-- 'laws.FnExactRowsOf', WHERE WHAT IT READS IS OF BULK AT MOST 1048576: true; the input reads as it did. -/
def fnExactRowsOfUptoRow : OpenClaim := { program := "ytjmimbpcajogoaa", sum := "ad21edf39f139d0751a5f013f1a14ba686815ccfd53a4f6438479a68cc1d67f1", func := "loop.example/concord/laws.FnExactRowsOf", spec := "fnExactRowsOf", unfollowed := true, recurses := true, apart := false, narrowed := true }
def FnExactRowsOfUptoSaid : Prop := fnExactRowsOfUptoRow.holds Try.pinned (OpenSpec.upto fnExactRowsOfSpec)

/-- 'laws.FnExactCatForms', WHERE WHAT IT READS IS OF BULK AT MOST 1048576: true; the input reads as it did. -/
def fnExactCatFormsUptoRow : OpenClaim := { program := "ytjmimbpcajogoaa", sum := "ad21edf39f139d0751a5f013f1a14ba686815ccfd53a4f6438479a68cc1d67f1", func := "loop.example/concord/laws.FnExactCatForms", spec := "fnExactCatForms", unfollowed := true, recurses := true, apart := false, narrowed := true }
def FnExactCatFormsUptoSaid : Prop := fnExactCatFormsUptoRow.holds Try.pinned (OpenSpec.upto fnExactCatFormsSpec)

/-- 'laws.FnExactSitNew', WHERE WHAT IT READS IS OF BULK AT MOST 1048576: true; the input reads as it did. -/
def fnExactSitNewUptoRow : OpenClaim := { program := "ytjmimbpcajogoaa", sum := "ad21edf39f139d0751a5f013f1a14ba686815ccfd53a4f6438479a68cc1d67f1", func := "loop.example/concord/laws.FnExactSitNew", spec := "fnExactSitNew", unfollowed := true, recurses := true, apart := false, narrowed := true }
def FnExactSitNewUptoSaid : Prop := fnExactSitNewUptoRow.holds Try.pinned (OpenSpec.upto fnExactSitNewSpec)

/-- 'laws.FnExactClkNew', WHERE WHAT IT READS IS OF BULK AT MOST 1048576: true; the input reads as it did. -/
def fnExactClkNewUptoRow : OpenClaim := { program := "ytjmimbpcajogoaa", sum := "ad21edf39f139d0751a5f013f1a14ba686815ccfd53a4f6438479a68cc1d67f1", func := "loop.example/concord/laws.FnExactClkNew", spec := "fnExactClkNew", unfollowed := true, recurses := true, apart := false, narrowed := true }
def FnExactClkNewUptoSaid : Prop := fnExactClkNewUptoRow.holds Try.pinned (OpenSpec.upto fnExactClkNewSpec)

end Rows
end Go.Proofs.Ytjmimbpcajogoaa

/-
  No cell of these rows narrows 'for every input' (looked for: loops, veiled, ifaces, maps, wideKeys, modest, calm, conditions, laid).
  DERIVED. THE GIVEN ROWS OF THIS SEAT. 10 by the template 'for every input the law returns true; each argument reads behind the call as it read before'; 0 by the template 'total and deterministic' (their statements: YtbikgdcgoogngaaTotals.lean).
  GIVEN WITH THE SEED: the statements are not yours to turn. If you find one false, say at which input.
  Laid BY PROGRAM, IN A SANDBOX (cutbox-rows.mjs): the forced cells as the released guide's own fill.sh prints them over the translation 54b271cd6c116a67… (all of the seat's roots in one cut). By AI agents, Wed Nov 11 2026. No macro, syntax, notation, axiom, sorry.
-/
import Derived.Test.YtbikgdcgoogngaaChecked
import GoSem.Claim
import GoSem.ClaimJoined
import GoSem.ClaimMapViews
import Derived.JoinedTies
import Derived.KernelRfl
namespace Go.Proofs.Ytbikgdcgoogngaa
/- THE CELL 'sum', in the pinned program and in every row, IS THE sha256 OF THE DUMP (.gsa) THAT YtbikgdcgoogngaaProg.lean LOADS. Nothing in Lean hashes anything: it is a label: what it is worth is what the hold of that sum in a sandbox is worth. -/
noncomputable def Try.pinned : Pinned := { name := "ytbikgdcgoogngaa", sum := "54b271cd6c116a67f6b0db815269747e9c4c1ebfdffb69d8abb87e3f31e85c72", checked := Try.checked }
namespace Rows
def none {H : Type} : Left H := { results := [], args := [] }

/-- 'laws.FnTrtAll': WHATEVER THE INPUT: true; the input reads as it did. -/
def fnTrtAllSpec : ChangeSpec := { name := "fnTrtAll", fn := fun _ => fun
  | [d] => { results := [.lit (.bool true)], args := [d] }
  | _ => none }
def fnTrtAllRow : OpenClaim := { program := "ytbikgdcgoogngaa", sum := "54b271cd6c116a67f6b0db815269747e9c4c1ebfdffb69d8abb87e3f31e85c72", func := "loop.example/concord/laws.FnTrtAll", spec := "fnTrtAll", unfollowed := true, recurses := true, apart := false }
def FnTrtAllSaid : Prop := fnTrtAllRow.holds Try.pinned (OpenSpec.ofChange fnTrtAllSpec)

/-- ITS FALSE NEIGHBOUR: 'it returns false'. Refute it at one input. -/
def fnTrtAllWrong : ChangeSpec := { name := "fnTrtAll", fn := fun _ => fun
  | [d] => { results := [.lit (.bool false)], args := [d] }
  | _ => none }
def FnTrtAllWrongFalsely : Prop := fnTrtAllRow.holds Try.pinned (OpenSpec.ofChange fnTrtAllWrong)

/-- 'laws.FnRowsOk': WHATEVER THE INPUT: true; the input reads as it did. -/
def fnRowsOkSpec : ChangeSpec := { name := "fnRowsOk", fn := fun _ => fun
  | [d] => { results := [.lit (.bool true)], args := [d] }
  | _ => none }
def fnRowsOkRow : OpenClaim := { program := "ytbikgdcgoogngaa", sum := "54b271cd6c116a67f6b0db815269747e9c4c1ebfdffb69d8abb87e3f31e85c72", func := "loop.example/concord/laws.FnRowsOk", spec := "fnRowsOk", unfollowed := true, recurses := true, apart := false }
def FnRowsOkSaid : Prop := fnRowsOkRow.holds Try.pinned (OpenSpec.ofChange fnRowsOkSpec)

/-- ITS FALSE NEIGHBOUR: 'it returns false'. Refute it at one input. -/
def fnRowsOkWrong : ChangeSpec := { name := "fnRowsOk", fn := fun _ => fun
  | [d] => { results := [.lit (.bool false)], args := [d] }
  | _ => none }
def FnRowsOkWrongFalsely : Prop := fnRowsOkRow.holds Try.pinned (OpenSpec.ofChange fnRowsOkWrong)

/-- 'laws.FnCatWrites': WHATEVER THE INPUT: true; the input reads as it did. -/
def fnCatWritesSpec : ChangeSpec := { name := "fnCatWrites", fn := fun _ => fun
  | [d] => { results := [.lit (.bool true)], args := [d] }
  | _ => none }
def fnCatWritesRow : OpenClaim := { program := "ytbikgdcgoogngaa", sum := "54b271cd6c116a67f6b0db815269747e9c4c1ebfdffb69d8abb87e3f31e85c72", func := "loop.example/concord/laws.FnCatWrites", spec := "fnCatWrites", unfollowed := true, recurses := true, apart := false }
def FnCatWritesSaid : Prop := fnCatWritesRow.holds Try.pinned (OpenSpec.ofChange fnCatWritesSpec)

/-- ITS FALSE NEIGHBOUR: 'it returns false'. Refute it at one input. -/
def fnCatWritesWrong : ChangeSpec := { name := "fnCatWrites", fn := fun _ => fun
  | [d] => { results := [.lit (.bool false)], args := [d] }
  | _ => none }
def FnCatWritesWrongFalsely : Prop := fnCatWritesRow.holds Try.pinned (OpenSpec.ofChange fnCatWritesWrong)

/-- 'laws.FnTrtAlone': WHATEVER THE INPUT: true; the input reads as it did. -/
def fnTrtAloneSpec : ChangeSpec := { name := "fnTrtAlone", fn := fun _ => fun
  | [d] => { results := [.lit (.bool true)], args := [d] }
  | _ => none }
def fnTrtAloneRow : OpenClaim := { program := "ytbikgdcgoogngaa", sum := "54b271cd6c116a67f6b0db815269747e9c4c1ebfdffb69d8abb87e3f31e85c72", func := "loop.example/concord/laws.FnTrtAlone", spec := "fnTrtAlone", unfollowed := true, recurses := true, apart := false }
def FnTrtAloneSaid : Prop := fnTrtAloneRow.holds Try.pinned (OpenSpec.ofChange fnTrtAloneSpec)

/-- ITS FALSE NEIGHBOUR: 'it returns false'. Refute it at one input. -/
def fnTrtAloneWrong : ChangeSpec := { name := "fnTrtAlone", fn := fun _ => fun
  | [d] => { results := [.lit (.bool false)], args := [d] }
  | _ => none }
def FnTrtAloneWrongFalsely : Prop := fnTrtAloneRow.holds Try.pinned (OpenSpec.ofChange fnTrtAloneWrong)

/-- 'laws.FnCatForms': WHATEVER THE INPUT: true; the input reads as it did. -/
def fnCatFormsSpec : ChangeSpec := { name := "fnCatForms", fn := fun _ => fun
  | [d] => { results := [.lit (.bool true)], args := [d] }
  | _ => none }
def fnCatFormsRow : OpenClaim := { program := "ytbikgdcgoogngaa", sum := "54b271cd6c116a67f6b0db815269747e9c4c1ebfdffb69d8abb87e3f31e85c72", func := "loop.example/concord/laws.FnCatForms", spec := "fnCatForms", unfollowed := true, recurses := true, apart := false }
def FnCatFormsSaid : Prop := fnCatFormsRow.holds Try.pinned (OpenSpec.ofChange fnCatFormsSpec)

/-- ITS FALSE NEIGHBOUR: 'it returns false'. Refute it at one input. -/
def fnCatFormsWrong : ChangeSpec := { name := "fnCatForms", fn := fun _ => fun
  | [d] => { results := [.lit (.bool false)], args := [d] }
  | _ => none }
def FnCatFormsWrongFalsely : Prop := fnCatFormsRow.holds Try.pinned (OpenSpec.ofChange fnCatFormsWrong)

/-- 'laws.FnTrtBounds': WHATEVER THE INPUT: true; the input reads as it did. -/
def fnTrtBoundsSpec : ChangeSpec := { name := "fnTrtBounds", fn := fun _ => fun
  | [d1, d2] => { results := [.lit (.bool true)], args := [d1, d2] }
  | _ => none }
def fnTrtBoundsRow : OpenClaim := { program := "ytbikgdcgoogngaa", sum := "54b271cd6c116a67f6b0db815269747e9c4c1ebfdffb69d8abb87e3f31e85c72", func := "loop.example/concord/laws.FnTrtBounds", spec := "fnTrtBounds", unfollowed := true, recurses := true, apart := false }
def FnTrtBoundsSaid : Prop := fnTrtBoundsRow.holds Try.pinned (OpenSpec.ofChange fnTrtBoundsSpec)

/-- ITS FALSE NEIGHBOUR: 'it returns false'. Refute it at one input. -/
def fnTrtBoundsWrong : ChangeSpec := { name := "fnTrtBounds", fn := fun _ => fun
  | [d1, d2] => { results := [.lit (.bool false)], args := [d1, d2] }
  | _ => none }
def FnTrtBoundsWrongFalsely : Prop := fnTrtBoundsRow.holds Try.pinned (OpenSpec.ofChange fnTrtBoundsWrong)

/-- 'laws.FnCatPins': WHATEVER THE INPUT: true; the input reads as it did. -/
def fnCatPinsSpec : ChangeSpec := { name := "fnCatPins", fn := fun _ => fun
  | [d] => { results := [.lit (.bool true)], args := [d] }
  | _ => none }
def fnCatPinsRow : OpenClaim := { program := "ytbikgdcgoogngaa", sum := "54b271cd6c116a67f6b0db815269747e9c4c1ebfdffb69d8abb87e3f31e85c72", func := "loop.example/concord/laws.FnCatPins", spec := "fnCatPins", unfollowed := true, recurses := true, apart := false }
def FnCatPinsSaid : Prop := fnCatPinsRow.holds Try.pinned (OpenSpec.ofChange fnCatPinsSpec)

/-- ITS FALSE NEIGHBOUR: 'it returns false'. Refute it at one input. -/
def fnCatPinsWrong : ChangeSpec := { name := "fnCatPins", fn := fun _ => fun
  | [d] => { results := [.lit (.bool false)], args := [d] }
  | _ => none }
def FnCatPinsWrongFalsely : Prop := fnCatPinsRow.holds Try.pinned (OpenSpec.ofChange fnCatPinsWrong)

/-- 'laws.FnCatReads': WHATEVER THE INPUT: true; the input reads as it did. -/
def fnCatReadsSpec : ChangeSpec := { name := "fnCatReads", fn := fun _ => fun
  | [d] => { results := [.lit (.bool true)], args := [d] }
  | _ => none }
def fnCatReadsRow : OpenClaim := { program := "ytbikgdcgoogngaa", sum := "54b271cd6c116a67f6b0db815269747e9c4c1ebfdffb69d8abb87e3f31e85c72", func := "loop.example/concord/laws.FnCatReads", spec := "fnCatReads", unfollowed := true, recurses := true, apart := false }
def FnCatReadsSaid : Prop := fnCatReadsRow.holds Try.pinned (OpenSpec.ofChange fnCatReadsSpec)

/-- ITS FALSE NEIGHBOUR: 'it returns false'. Refute it at one input. -/
def fnCatReadsWrong : ChangeSpec := { name := "fnCatReads", fn := fun _ => fun
  | [d] => { results := [.lit (.bool false)], args := [d] }
  | _ => none }
def FnCatReadsWrongFalsely : Prop := fnCatReadsRow.holds Try.pinned (OpenSpec.ofChange fnCatReadsWrong)

/-- 'laws.FnRowsOne': WHATEVER THE INPUT: true; the input reads as it did. -/
def fnRowsOneSpec : ChangeSpec := { name := "fnRowsOne", fn := fun _ => fun
  | [d] => { results := [.lit (.bool true)], args := [d] }
  | _ => none }
def fnRowsOneRow : OpenClaim := { program := "ytbikgdcgoogngaa", sum := "54b271cd6c116a67f6b0db815269747e9c4c1ebfdffb69d8abb87e3f31e85c72", func := "loop.example/concord/laws.FnRowsOne", spec := "fnRowsOne", unfollowed := true, recurses := true, apart := false }
def FnRowsOneSaid : Prop := fnRowsOneRow.holds Try.pinned (OpenSpec.ofChange fnRowsOneSpec)

/-- ITS FALSE NEIGHBOUR: 'it returns false'. Refute it at one input. -/
def fnRowsOneWrong : ChangeSpec := { name := "fnRowsOne", fn := fun _ => fun
  | [d] => { results := [.lit (.bool false)], args := [d] }
  | _ => none }
def FnRowsOneWrongFalsely : Prop := fnRowsOneRow.holds Try.pinned (OpenSpec.ofChange fnRowsOneWrong)

/-- 'laws.FnCatMore': WHATEVER THE INPUT: true; the input reads as it did. -/
def fnCatMoreSpec : ChangeSpec := { name := "fnCatMore", fn := fun _ => fun
  | [d] => { results := [.lit (.bool true)], args := [d] }
  | _ => none }
def fnCatMoreRow : OpenClaim := { program := "ytbikgdcgoogngaa", sum := "54b271cd6c116a67f6b0db815269747e9c4c1ebfdffb69d8abb87e3f31e85c72", func := "loop.example/concord/laws.FnCatMore", spec := "fnCatMore", unfollowed := true, recurses := true, apart := false }
def FnCatMoreSaid : Prop := fnCatMoreRow.holds Try.pinned (OpenSpec.ofChange fnCatMoreSpec)

/-- ITS FALSE NEIGHBOUR: 'it returns false'. Refute it at one input. -/
def fnCatMoreWrong : ChangeSpec := { name := "fnCatMore", fn := fun _ => fun
  | [d] => { results := [.lit (.bool false)], args := [d] }
  | _ => none }
def FnCatMoreWrongFalsely : Prop := fnCatMoreRow.holds Try.pinned (OpenSpec.ofChange fnCatMoreWrong)

/- THE SECOND FORM. 'bulk': how many values and letters a reading holds, each counted each time it is reached (what is shared counts as often as it is met; a slice's spare places count too). A statement '..UptoSaid' is the law's where the arguments, and the package variables that the reading takes, are together of bulk at most 1048576: NARROWER than '..Said'. Prove '..Said' where nothing that the law and all that it calls make is longer than what came in: it says more and counts as full. Else prove '..UptoSaid'. A law counts once. -/
mutual
def uptoBulk {H : Type} : DataW H → Nat
  | .lit (.string bytes) => bytes.length + 1
  | .lit _ => 1
  | .nil => 1
  | .ptr d => uptoBulk d + 1
  | .slice elems spare => uptoBulkAll elems + uptoBulkAll spare + 1
  | .agg parts => uptoBulkAll parts + 1
  | .iface _ d => uptoBulk d + 1
  | .map entries => uptoBulkEntries entries + 1
  | .held _ => 1
def uptoBulkAll {H : Type} : List (DataW H) → Nat
  | [] => 0
  | d :: r => uptoBulk d + uptoBulkAll r
def uptoBulkEntries {H : Type} : List (Lit × DataW H) → Nat
  | [] => 0
  | x :: r => uptoBulkEntry x + uptoBulkEntries r
def uptoBulkEntry {H : Type} : Lit × DataW H → Nat
  | (.string bytes, d) => bytes.length + uptoBulk d + 1
  | (_, d) => uptoBulk d + 1
 end
def uptoSmall : (H : Type) → List (DataW H) → Bool := fun _ ds => decide (uptoBulkAll ds ≤ 1048576)
def OpenSpec.upto (s : _root_.Go.ChangeSpec) : _root_.Go.OpenSpec := { _root_.Go.OpenSpec.ofChange s with cond := some uptoSmall }

/-- 'laws.FnTrtAll', WHERE WHAT IT READS IS OF BULK AT MOST 1048576: true; the input reads as it did. -/
def fnTrtAllUptoRow : OpenClaim := { program := "ytbikgdcgoogngaa", sum := "54b271cd6c116a67f6b0db815269747e9c4c1ebfdffb69d8abb87e3f31e85c72", func := "loop.example/concord/laws.FnTrtAll", spec := "fnTrtAll", unfollowed := true, recurses := true, apart := false, narrowed := true }
def FnTrtAllUptoSaid : Prop := fnTrtAllUptoRow.holds Try.pinned (OpenSpec.upto fnTrtAllSpec)

/-- 'laws.FnRowsOk', WHERE WHAT IT READS IS OF BULK AT MOST 1048576: true; the input reads as it did. -/
def fnRowsOkUptoRow : OpenClaim := { program := "ytbikgdcgoogngaa", sum := "54b271cd6c116a67f6b0db815269747e9c4c1ebfdffb69d8abb87e3f31e85c72", func := "loop.example/concord/laws.FnRowsOk", spec := "fnRowsOk", unfollowed := true, recurses := true, apart := false, narrowed := true }
def FnRowsOkUptoSaid : Prop := fnRowsOkUptoRow.holds Try.pinned (OpenSpec.upto fnRowsOkSpec)

/-- 'laws.FnCatWrites', WHERE WHAT IT READS IS OF BULK AT MOST 1048576: true; the input reads as it did. -/
def fnCatWritesUptoRow : OpenClaim := { program := "ytbikgdcgoogngaa", sum := "54b271cd6c116a67f6b0db815269747e9c4c1ebfdffb69d8abb87e3f31e85c72", func := "loop.example/concord/laws.FnCatWrites", spec := "fnCatWrites", unfollowed := true, recurses := true, apart := false, narrowed := true }
def FnCatWritesUptoSaid : Prop := fnCatWritesUptoRow.holds Try.pinned (OpenSpec.upto fnCatWritesSpec)

/-- 'laws.FnTrtAlone', WHERE WHAT IT READS IS OF BULK AT MOST 1048576: true; the input reads as it did. -/
def fnTrtAloneUptoRow : OpenClaim := { program := "ytbikgdcgoogngaa", sum := "54b271cd6c116a67f6b0db815269747e9c4c1ebfdffb69d8abb87e3f31e85c72", func := "loop.example/concord/laws.FnTrtAlone", spec := "fnTrtAlone", unfollowed := true, recurses := true, apart := false, narrowed := true }
def FnTrtAloneUptoSaid : Prop := fnTrtAloneUptoRow.holds Try.pinned (OpenSpec.upto fnTrtAloneSpec)

/-- 'laws.FnCatForms', WHERE WHAT IT READS IS OF BULK AT MOST 1048576: true; the input reads as it did. -/
def fnCatFormsUptoRow : OpenClaim := { program := "ytbikgdcgoogngaa", sum := "54b271cd6c116a67f6b0db815269747e9c4c1ebfdffb69d8abb87e3f31e85c72", func := "loop.example/concord/laws.FnCatForms", spec := "fnCatForms", unfollowed := true, recurses := true, apart := false, narrowed := true }
def FnCatFormsUptoSaid : Prop := fnCatFormsUptoRow.holds Try.pinned (OpenSpec.upto fnCatFormsSpec)

/-- 'laws.FnTrtBounds', WHERE WHAT IT READS IS OF BULK AT MOST 1048576: true; the input reads as it did. -/
def fnTrtBoundsUptoRow : OpenClaim := { program := "ytbikgdcgoogngaa", sum := "54b271cd6c116a67f6b0db815269747e9c4c1ebfdffb69d8abb87e3f31e85c72", func := "loop.example/concord/laws.FnTrtBounds", spec := "fnTrtBounds", unfollowed := true, recurses := true, apart := false, narrowed := true }
def FnTrtBoundsUptoSaid : Prop := fnTrtBoundsUptoRow.holds Try.pinned (OpenSpec.upto fnTrtBoundsSpec)

/-- 'laws.FnCatPins', WHERE WHAT IT READS IS OF BULK AT MOST 1048576: true; the input reads as it did. -/
def fnCatPinsUptoRow : OpenClaim := { program := "ytbikgdcgoogngaa", sum := "54b271cd6c116a67f6b0db815269747e9c4c1ebfdffb69d8abb87e3f31e85c72", func := "loop.example/concord/laws.FnCatPins", spec := "fnCatPins", unfollowed := true, recurses := true, apart := false, narrowed := true }
def FnCatPinsUptoSaid : Prop := fnCatPinsUptoRow.holds Try.pinned (OpenSpec.upto fnCatPinsSpec)

/-- 'laws.FnCatReads', WHERE WHAT IT READS IS OF BULK AT MOST 1048576: true; the input reads as it did. -/
def fnCatReadsUptoRow : OpenClaim := { program := "ytbikgdcgoogngaa", sum := "54b271cd6c116a67f6b0db815269747e9c4c1ebfdffb69d8abb87e3f31e85c72", func := "loop.example/concord/laws.FnCatReads", spec := "fnCatReads", unfollowed := true, recurses := true, apart := false, narrowed := true }
def FnCatReadsUptoSaid : Prop := fnCatReadsUptoRow.holds Try.pinned (OpenSpec.upto fnCatReadsSpec)

/-- 'laws.FnRowsOne', WHERE WHAT IT READS IS OF BULK AT MOST 1048576: true; the input reads as it did. -/
def fnRowsOneUptoRow : OpenClaim := { program := "ytbikgdcgoogngaa", sum := "54b271cd6c116a67f6b0db815269747e9c4c1ebfdffb69d8abb87e3f31e85c72", func := "loop.example/concord/laws.FnRowsOne", spec := "fnRowsOne", unfollowed := true, recurses := true, apart := false, narrowed := true }
def FnRowsOneUptoSaid : Prop := fnRowsOneUptoRow.holds Try.pinned (OpenSpec.upto fnRowsOneSpec)

/-- 'laws.FnCatMore', WHERE WHAT IT READS IS OF BULK AT MOST 1048576: true; the input reads as it did. -/
def fnCatMoreUptoRow : OpenClaim := { program := "ytbikgdcgoogngaa", sum := "54b271cd6c116a67f6b0db815269747e9c4c1ebfdffb69d8abb87e3f31e85c72", func := "loop.example/concord/laws.FnCatMore", spec := "fnCatMore", unfollowed := true, recurses := true, apart := false, narrowed := true }
def FnCatMoreUptoSaid : Prop := fnCatMoreUptoRow.holds Try.pinned (OpenSpec.upto fnCatMoreSpec)

end Rows
end Go.Proofs.Ytbikgdcgoogngaa

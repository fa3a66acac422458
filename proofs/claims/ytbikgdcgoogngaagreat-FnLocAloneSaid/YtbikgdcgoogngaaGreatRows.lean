/-
  No cell of these rows narrows 'for every input' (looked for: loops, veiled, ifaces, maps, wideKeys, modest, calm, conditions, laid).
  DERIVED. THE GIVEN ROWS OF THIS SEAT. 4 by the template 'for every input the law returns true; each argument reads behind the call as it read before'; 0 by the template 'total and deterministic' (their statements: YtbikgdcgoogngaaGreatTotals.lean).
  GIVEN WITH THE SEED: the statements are not yours to turn. If you find one false, say at which input.
  Laid BY PROGRAM, IN A SANDBOX (cutbox-rows.mjs): the forced cells as the released guide's own fill.sh prints them over the translation f65246e595dba1d0… (all of the seat's roots in one cut). By AI agents, Wed Nov 11 2026. No macro, syntax, notation, axiom, sorry.
-/
import Derived.Test.YtbikgdcgoogngaaGreatChecked
import GoSem.Claim
import GoSem.ClaimJoined
import GoSem.ClaimMapViews
import Derived.JoinedTies
import Derived.KernelRfl
namespace Go.Proofs.YtbikgdcgoogngaaGreat
/- THE CELL 'sum', in the pinned program and in every row, IS THE sha256 OF THE DUMP (.gsa) THAT YtbikgdcgoogngaaGreatProg.lean LOADS. Nothing in Lean hashes anything: it is a label: what it is worth is what the hold of that sum in a sandbox is worth. -/
noncomputable def Tryz.pinned : Pinned := { name := "ytbikgdcgoogngaagreat", sum := "f65246e595dba1d030333fccb49fe6163baa41ec2bf50cc68721e457ed862783", checked := Tryz.checked }
namespace Rows
def none {H : Type} : Left H := { results := [], args := [] }

/-- 'laws.FnLocMore': WHATEVER THE INPUT: true; the input reads as it did. -/
def fnLocMoreSpec : ChangeSpec := { name := "fnLocMore", fn := fun _ => fun
  | [d] => { results := [.lit (.bool true)], args := [d] }
  | _ => none }
def fnLocMoreRow : OpenClaim := { program := "ytbikgdcgoogngaagreat", sum := "f65246e595dba1d030333fccb49fe6163baa41ec2bf50cc68721e457ed862783", func := "loop.example/concord/laws.FnLocMore", spec := "fnLocMore", unfollowed := true, recurses := true, apart := false }
def FnLocMoreSaid : Prop := fnLocMoreRow.holds Tryz.pinned (OpenSpec.ofChange fnLocMoreSpec)

/-- ITS FALSE NEIGHBOUR: 'it returns false'. Refute it at one input. -/
def fnLocMoreWrong : ChangeSpec := { name := "fnLocMore", fn := fun _ => fun
  | [d] => { results := [.lit (.bool false)], args := [d] }
  | _ => none }
def FnLocMoreWrongFalsely : Prop := fnLocMoreRow.holds Tryz.pinned (OpenSpec.ofChange fnLocMoreWrong)

/-- 'laws.FnLocNothing': WHATEVER THE INPUT: true; the input reads as it did. -/
def fnLocNothingSpec : ChangeSpec := { name := "fnLocNothing", fn := fun _ => fun
  | [d] => { results := [.lit (.bool true)], args := [d] }
  | _ => none }
def fnLocNothingRow : OpenClaim := { program := "ytbikgdcgoogngaagreat", sum := "f65246e595dba1d030333fccb49fe6163baa41ec2bf50cc68721e457ed862783", func := "loop.example/concord/laws.FnLocNothing", spec := "fnLocNothing", unfollowed := true, recurses := true, apart := false }
def FnLocNothingSaid : Prop := fnLocNothingRow.holds Tryz.pinned (OpenSpec.ofChange fnLocNothingSpec)

/-- ITS FALSE NEIGHBOUR: 'it returns false'. Refute it at one input. -/
def fnLocNothingWrong : ChangeSpec := { name := "fnLocNothing", fn := fun _ => fun
  | [d] => { results := [.lit (.bool false)], args := [d] }
  | _ => none }
def FnLocNothingWrongFalsely : Prop := fnLocNothingRow.holds Tryz.pinned (OpenSpec.ofChange fnLocNothingWrong)

/-- 'laws.FnLocAlone': WHATEVER THE INPUT: true; the input reads as it did. -/
def fnLocAloneSpec : ChangeSpec := { name := "fnLocAlone", fn := fun _ => fun
  | [d] => { results := [.lit (.bool true)], args := [d] }
  | _ => none }
def fnLocAloneRow : OpenClaim := { program := "ytbikgdcgoogngaagreat", sum := "f65246e595dba1d030333fccb49fe6163baa41ec2bf50cc68721e457ed862783", func := "loop.example/concord/laws.FnLocAlone", spec := "fnLocAlone", unfollowed := true, recurses := true, apart := false }
def FnLocAloneSaid : Prop := fnLocAloneRow.holds Tryz.pinned (OpenSpec.ofChange fnLocAloneSpec)

/-- ITS FALSE NEIGHBOUR: 'it returns false'. Refute it at one input. -/
def fnLocAloneWrong : ChangeSpec := { name := "fnLocAlone", fn := fun _ => fun
  | [d] => { results := [.lit (.bool false)], args := [d] }
  | _ => none }
def FnLocAloneWrongFalsely : Prop := fnLocAloneRow.holds Tryz.pinned (OpenSpec.ofChange fnLocAloneWrong)

/-- 'laws.FnLocTry': WHATEVER THE INPUT: true; the input reads as it did. -/
def fnLocTrySpec : ChangeSpec := { name := "fnLocTry", fn := fun _ => fun
  | [d1, d2] => { results := [.lit (.bool true)], args := [d1, d2] }
  | _ => none }
def fnLocTryRow : OpenClaim := { program := "ytbikgdcgoogngaagreat", sum := "f65246e595dba1d030333fccb49fe6163baa41ec2bf50cc68721e457ed862783", func := "loop.example/concord/laws.FnLocTry", spec := "fnLocTry", unfollowed := true, recurses := true, apart := false }
def FnLocTrySaid : Prop := fnLocTryRow.holds Tryz.pinned (OpenSpec.ofChange fnLocTrySpec)

/-- ITS FALSE NEIGHBOUR: 'it returns false'. Refute it at one input. -/
def fnLocTryWrong : ChangeSpec := { name := "fnLocTry", fn := fun _ => fun
  | [d1, d2] => { results := [.lit (.bool false)], args := [d1, d2] }
  | _ => none }
def FnLocTryWrongFalsely : Prop := fnLocTryRow.holds Tryz.pinned (OpenSpec.ofChange fnLocTryWrong)

/- THE SECOND FORM. 'bulk': how many values and letters a reading holds, each counted each time it is reached (what is shared counts as often as it is met; a slice's spare places count too). A statement '..UptoSaid' is the law's where the arguments, and the package variables that the reading takes, are together of bulk at most 1048576: NARROWER than '..Said'. Prove '..Said' where nothing that the law and all that it calls make is longer than what came in: it says more and counts as full. Else prove '..UptoSaid'. A law counts once. -/
mutual
def uptoBulk {H : Type} : DataW H → Nat
  | .lit (.string bytes) => bytes.length + 1
  | .lit _ => 1
  | .nil => 1
  | .ptr d => uptoBulk d + 1
  | .slice elems spare => uptoBulkAll elems + uptoBulkAll spare + 1
  | .agg parts => uptoBulkAll parts + 1
  | .iface _ d => uptoBulk d + 1
  | .map entries => uptoBulkEntries entries + 1
  | .held _ => 1
def uptoBulkAll {H : Type} : List (DataW H) → Nat
  | [] => 0
  | d :: r => uptoBulk d + uptoBulkAll r
def uptoBulkEntries {H : Type} : List (Lit × DataW H) → Nat
  | [] => 0
  | x :: r => uptoBulkEntry x + uptoBulkEntries r
def uptoBulkEntry {H : Type} : Lit × DataW H → Nat
  | (.string bytes, d) => bytes.length + uptoBulk d + 1
  | (_, d) => uptoBulk d + 1
 end
def uptoSmall : (H : Type) → List (DataW H) → Bool := fun _ ds => decide (uptoBulkAll ds ≤ 1048576)
def OpenSpec.upto (s : _root_.Go.ChangeSpec) : _root_.Go.OpenSpec := { _root_.Go.OpenSpec.ofChange s with cond := some uptoSmall }

/-- 'laws.FnLocMore', WHERE WHAT IT READS IS OF BULK AT MOST 1048576: true; the input reads as it did. -/
def fnLocMoreUptoRow : OpenClaim := { program := "ytbikgdcgoogngaagreat", sum := "f65246e595dba1d030333fccb49fe6163baa41ec2bf50cc68721e457ed862783", func := "loop.example/concord/laws.FnLocMore", spec := "fnLocMore", unfollowed := true, recurses := true, apart := false, narrowed := true }
def FnLocMoreUptoSaid : Prop := fnLocMoreUptoRow.holds Tryz.pinned (OpenSpec.upto fnLocMoreSpec)

/-- 'laws.FnLocNothing', WHERE WHAT IT READS IS OF BULK AT MOST 1048576: true; the input reads as it did. -/
def fnLocNothingUptoRow : OpenClaim := { program := "ytbikgdcgoogngaagreat", sum := "f65246e595dba1d030333fccb49fe6163baa41ec2bf50cc68721e457ed862783", func := "loop.example/concord/laws.FnLocNothing", spec := "fnLocNothing", unfollowed := true, recurses := true, apart := false, narrowed := true }
def FnLocNothingUptoSaid : Prop := fnLocNothingUptoRow.holds Tryz.pinned (OpenSpec.upto fnLocNothingSpec)

/-- 'laws.FnLocAlone', WHERE WHAT IT READS IS OF BULK AT MOST 1048576: true; the input reads as it did. -/
def fnLocAloneUptoRow : OpenClaim := { program := "ytbikgdcgoogngaagreat", sum := "f65246e595dba1d030333fccb49fe6163baa41ec2bf50cc68721e457ed862783", func := "loop.example/concord/laws.FnLocAlone", spec := "fnLocAlone", unfollowed := true, recurses := true, apart := false, narrowed := true }
def FnLocAloneUptoSaid : Prop := fnLocAloneUptoRow.holds Tryz.pinned (OpenSpec.upto fnLocAloneSpec)

/-- 'laws.FnLocTry', WHERE WHAT IT READS IS OF BULK AT MOST 1048576: true; the input reads as it did. -/
def fnLocTryUptoRow : OpenClaim := { program := "ytbikgdcgoogngaagreat", sum := "f65246e595dba1d030333fccb49fe6163baa41ec2bf50cc68721e457ed862783", func := "loop.example/concord/laws.FnLocTry", spec := "fnLocTry", unfollowed := true, recurses := true, apart := false, narrowed := true }
def FnLocTryUptoSaid : Prop := fnLocTryUptoRow.holds Tryz.pinned (OpenSpec.upto fnLocTrySpec)

end Rows
end Go.Proofs.YtbikgdcgoogngaaGreat

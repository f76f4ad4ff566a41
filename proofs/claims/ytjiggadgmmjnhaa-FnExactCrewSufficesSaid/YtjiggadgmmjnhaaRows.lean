/-
  No cell of these rows narrows 'for every input' (looked for: loops, veiled, ifaces, maps, wideKeys, modest, calm, conditions, laid).
  DERIVED. THE GIVEN ROWS OF THIS SEAT. 4 by the template 'for every input the law returns true; each argument reads behind the call as it read before'; 0 by the template 'total and deterministic' (their statements: YtjiggadgmmjnhaaTotals.lean).
  GIVEN WITH THE SEED: the statements are not yours to turn. If you find one false, say at which input.
  Laid BY PROGRAM, IN A SANDBOX (cutbox-rows.mjs): the forced cells as the released guide's own fill.sh prints them over the translation 89bbc492be0cbafc… (all of the seat's roots in one cut). By AI agents, Wed Nov 11 2026. No macro, syntax, notation, axiom, sorry.
-/
import Derived.Test.YtjiggadgmmjnhaaChecked
import GoSem.Claim
import GoSem.ClaimJoined
import GoSem.ClaimMapViews
import Derived.JoinedTies
import Derived.KernelRfl
namespace Go.Proofs.Ytjiggadgmmjnhaa
/- THE CELL 'sum', in the pinned program and in every row, IS THE sha256 OF THE DUMP (.gsa) THAT YtjiggadgmmjnhaaProg.lean LOADS. Nothing in Lean hashes anything: it is a label: what it is worth is what the hold of that sum in a sandbox is worth. -/
noncomputable def Try.pinned : Pinned := { name := "ytjiggadgmmjnhaa", sum := "89bbc492be0cbafc48e771e95c8932fd3d5603be108029b607c4f763d7023694", checked := Try.checked }
namespace Rows
def none {H : Type} : Left H := { results := [], args := [] }

/-- 'laws.FnExactLeastCover': WHATEVER THE INPUT: true; the input reads as it did. -/
def fnExactLeastCoverSpec : ChangeSpec := { name := "fnExactLeastCover", fn := fun _ => fun
  | [d1, d2, d3] => { results := [.lit (.bool true)], args := [d1, d2, d3] }
  | _ => none }
def fnExactLeastCoverRow : OpenClaim := { program := "ytjiggadgmmjnhaa", sum := "89bbc492be0cbafc48e771e95c8932fd3d5603be108029b607c4f763d7023694", func := "loop.example/g00831/laws.FnExactLeastCover", spec := "fnExactLeastCover", recurses := true, apart := false }
def FnExactLeastCoverSaid : Prop := fnExactLeastCoverRow.holds Try.pinned (OpenSpec.ofChange fnExactLeastCoverSpec)

/-- ITS FALSE NEIGHBOUR: 'it returns false'. Refute it at one input. -/
def fnExactLeastCoverWrong : ChangeSpec := { name := "fnExactLeastCover", fn := fun _ => fun
  | [d1, d2, d3] => { results := [.lit (.bool false)], args := [d1, d2, d3] }
  | _ => none }
def FnExactLeastCoverWrongFalsely : Prop := fnExactLeastCoverRow.holds Try.pinned (OpenSpec.ofChange fnExactLeastCoverWrong)

/-- 'laws.FnExactTugsNeeded': WHATEVER THE INPUT: true; the input reads as it did. -/
def fnExactTugsNeededSpec : ChangeSpec := { name := "fnExactTugsNeeded", fn := fun _ => fun
  | [d1, d2, d3, d4] => { results := [.lit (.bool true)], args := [d1, d2, d3, d4] }
  | _ => none }
def fnExactTugsNeededRow : OpenClaim := { program := "ytjiggadgmmjnhaa", sum := "89bbc492be0cbafc48e771e95c8932fd3d5603be108029b607c4f763d7023694", func := "loop.example/g00831/laws.FnExactTugsNeeded", spec := "fnExactTugsNeeded", recurses := true, apart := false }
def FnExactTugsNeededSaid : Prop := fnExactTugsNeededRow.holds Try.pinned (OpenSpec.ofChange fnExactTugsNeededSpec)

/-- ITS FALSE NEIGHBOUR: 'it returns false'. Refute it at one input. -/
def fnExactTugsNeededWrong : ChangeSpec := { name := "fnExactTugsNeeded", fn := fun _ => fun
  | [d1, d2, d3, d4] => { results := [.lit (.bool false)], args := [d1, d2, d3, d4] }
  | _ => none }
def FnExactTugsNeededWrongFalsely : Prop := fnExactTugsNeededRow.holds Try.pinned (OpenSpec.ofChange fnExactTugsNeededWrong)

/-- 'laws.FnExactPilotsNeeded': WHATEVER THE INPUT: true; the input reads as it did. -/
def fnExactPilotsNeededSpec : ChangeSpec := { name := "fnExactPilotsNeeded", fn := fun _ => fun
  | [d1, d2, d3, d4] => { results := [.lit (.bool true)], args := [d1, d2, d3, d4] }
  | _ => none }
def fnExactPilotsNeededRow : OpenClaim := { program := "ytjiggadgmmjnhaa", sum := "89bbc492be0cbafc48e771e95c8932fd3d5603be108029b607c4f763d7023694", func := "loop.example/g00831/laws.FnExactPilotsNeeded", spec := "fnExactPilotsNeeded", recurses := true, apart := false }
def FnExactPilotsNeededSaid : Prop := fnExactPilotsNeededRow.holds Try.pinned (OpenSpec.ofChange fnExactPilotsNeededSpec)

/-- ITS FALSE NEIGHBOUR: 'it returns false'. Refute it at one input. -/
def fnExactPilotsNeededWrong : ChangeSpec := { name := "fnExactPilotsNeeded", fn := fun _ => fun
  | [d1, d2, d3, d4] => { results := [.lit (.bool false)], args := [d1, d2, d3, d4] }
  | _ => none }
def FnExactPilotsNeededWrongFalsely : Prop := fnExactPilotsNeededRow.holds Try.pinned (OpenSpec.ofChange fnExactPilotsNeededWrong)

/-- 'laws.FnExactCrewSuffices': WHATEVER THE INPUT: true; the input reads as it did. -/
def fnExactCrewSufficesSpec : ChangeSpec := { name := "fnExactCrewSuffices", fn := fun _ => fun
  | [d1, d2, d3, d4] => { results := [.lit (.bool true)], args := [d1, d2, d3, d4] }
  | _ => none }
def fnExactCrewSufficesRow : OpenClaim := { program := "ytjiggadgmmjnhaa", sum := "89bbc492be0cbafc48e771e95c8932fd3d5603be108029b607c4f763d7023694", func := "loop.example/g00831/laws.FnExactCrewSuffices", spec := "fnExactCrewSuffices", recurses := true, apart := false }
def FnExactCrewSufficesSaid : Prop := fnExactCrewSufficesRow.holds Try.pinned (OpenSpec.ofChange fnExactCrewSufficesSpec)

/-- ITS FALSE NEIGHBOUR: 'it returns false'. Refute it at one input. -/
def fnExactCrewSufficesWrong : ChangeSpec := { name := "fnExactCrewSuffices", fn := fun _ => fun
  | [d1, d2, d3, d4] => { results := [.lit (.bool false)], args := [d1, d2, d3, d4] }
  | _ => none }
def FnExactCrewSufficesWrongFalsely : Prop := fnExactCrewSufficesRow.holds Try.pinned (OpenSpec.ofChange fnExactCrewSufficesWrong)

/- THE SECOND FORM. 'bulk': how many values and letters a reading holds, each counted each time it is reached (what is shared counts as often as it is met; a slice's spare places count too). A statement '..UptoSaid' is the law's where the arguments, and the package variables that the reading takes, are together of bulk at most 1048576: NARROWER than '..Said'. Prove '..Said' where nothing that the law and all that it calls make is longer than what came in: it says more and counts as full. Else prove '..UptoSaid'. A law counts once. -/
mutual
def uptoBulk {H : Type} : DataW H → Nat
  | .lit (.string bytes) => bytes.length + 1
  | .lit _ => 1
  | .nil => 1
  | .ptr d => uptoBulk d + 1
  | .slice elems spare => uptoBulkAll elems + uptoBulkAll spare + 1
  | .agg parts => uptoBulkAll parts + 1
  | .iface _ d => uptoBulk d + 1
  | .map entries => uptoBulkEntries entries + 1
  | .held _ => 1
def uptoBulkAll {H : Type} : List (DataW H) → Nat
  | [] => 0
  | d :: r => uptoBulk d + uptoBulkAll r
def uptoBulkEntries {H : Type} : List (Lit × DataW H) → Nat
  | [] => 0
  | x :: r => uptoBulkEntry x + uptoBulkEntries r
def uptoBulkEntry {H : Type} : Lit × DataW H → Nat
  | (.string bytes, d) => bytes.length + uptoBulk d + 1
  | (_, d) => uptoBulk d + 1
 end
def uptoSmall : (H : Type) → List (DataW H) → Bool := fun _ ds => decide (uptoBulkAll ds ≤ 1048576)
def OpenSpec.upto (s : _root_.Go.ChangeSpec) : _root_.Go.OpenSpec := { _root_.Go.OpenSpec.ofChange s with cond := some uptoSmall }

/-- 'laws.FnExactLeastCover', WHERE WHAT IT READS IS OF BULK AT MOST 1048576: true; the input reads as it did. -/
def fnExactLeastCoverUptoRow : OpenClaim := { program := "ytjiggadgmmjnhaa", sum := "89bbc492be0cbafc48e771e95c8932fd3d5603be108029b607c4f763d7023694", func := "loop.example/g00831/laws.FnExactLeastCover", spec := "fnExactLeastCover", recurses := true, apart := false, narrowed := true }
def FnExactLeastCoverUptoSaid : Prop := fnExactLeastCoverUptoRow.holds Try.pinned (OpenSpec.upto fnExactLeastCoverSpec)

/-- 'laws.FnExactTugsNeeded', WHERE WHAT IT READS IS OF BULK AT MOST 1048576: true; the input reads as it did. -/
def fnExactTugsNeededUptoRow : OpenClaim := { program := "ytjiggadgmmjnhaa", sum := "89bbc492be0cbafc48e771e95c8932fd3d5603be108029b607c4f763d7023694", func := "loop.example/g00831/laws.FnExactTugsNeeded", spec := "fnExactTugsNeeded", recurses := true, apart := false, narrowed := true }
def FnExactTugsNeededUptoSaid : Prop := fnExactTugsNeededUptoRow.holds Try.pinned (OpenSpec.upto fnExactTugsNeededSpec)

/-- 'laws.FnExactPilotsNeeded', WHERE WHAT IT READS IS OF BULK AT MOST 1048576: true; the input reads as it did. -/
def fnExactPilotsNeededUptoRow : OpenClaim := { program := "ytjiggadgmmjnhaa", sum := "89bbc492be0cbafc48e771e95c8932fd3d5603be108029b607c4f763d7023694", func := "loop.example/g00831/laws.FnExactPilotsNeeded", spec := "fnExactPilotsNeeded", recurses := true, apart := false, narrowed := true }
def FnExactPilotsNeededUptoSaid : Prop := fnExactPilotsNeededUptoRow.holds Try.pinned (OpenSpec.upto fnExactPilotsNeededSpec)

/-- 'laws.FnExactCrewSuffices', WHERE WHAT IT READS IS OF BULK AT MOST 1048576: true; the input reads as it did. -/
def fnExactCrewSufficesUptoRow : OpenClaim := { program := "ytjiggadgmmjnhaa", sum := "89bbc492be0cbafc48e771e95c8932fd3d5603be108029b607c4f763d7023694", func := "loop.example/g00831/laws.FnExactCrewSuffices", spec := "fnExactCrewSuffices", recurses := true, apart := false, narrowed := true }
def FnExactCrewSufficesUptoSaid : Prop := fnExactCrewSufficesUptoRow.holds Try.pinned (OpenSpec.upto fnExactCrewSufficesSpec)

end Rows
end Go.Proofs.Ytjiggadgmmjnhaa

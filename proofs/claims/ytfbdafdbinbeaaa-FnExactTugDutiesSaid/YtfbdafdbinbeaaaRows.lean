/-
  No cell of these rows narrows 'for every input' (looked for: loops, veiled, ifaces, maps, wideKeys, modest, calm, conditions, laid).
  DERIVED. THE GIVEN ROWS OF THIS SEAT. 9 by the template 'for every input the law returns true; each argument reads behind the call as it read before'; 0 by the template 'total and deterministic' (their statements: YtfbdafdbinbeaaaTotals.lean).
  GIVEN WITH THE SEED: the statements are not yours to turn. If you find one false, say at which input.
  Laid BY PROGRAM, IN A SANDBOX (cutbox-rows.mjs): the forced cells as the released guide's own fill.sh prints them over the translation bbac43694d665e4b… (all of the seat's roots in one cut). By AI agents, Wed Nov 11 2026. No macro, syntax, notation, axiom, sorry.
-/
import Derived.Test.YtfbdafdbinbeaaaChecked
import GoSem.Claim
import GoSem.ClaimJoined
import GoSem.ClaimMapViews
import Derived.JoinedTies
import Derived.KernelRfl
namespace Go.Proofs.Ytfbdafdbinbeaaa
/- THE CELL 'sum', in the pinned program and in every row, IS THE sha256 OF THE DUMP (.gsa) THAT YtfbdafdbinbeaaaProg.lean LOADS. Nothing in Lean hashes anything: it is a label: what it is worth is what the hold of that sum in a sandbox is worth. -/
noncomputable def Try.pinned : Pinned := { name := "ytfbdafdbinbeaaa", sum := "bbac43694d665e4b0eae1d7982a7b6198e623636284997e5b7330306740309b5", checked := Try.checked }
namespace Rows
def none {H : Type} : Left H := { results := [], args := [] }

/-- 'laws.FnExactKeptCalls': WHATEVER THE INPUT: true; the input reads as it did. -/
def fnExactKeptCallsSpec : ChangeSpec := { name := "fnExactKeptCalls", fn := fun _ => fun
  | [d1, d2] => { results := [.lit (.bool true)], args := [d1, d2] }
  | _ => none }
def fnExactKeptCallsRow : OpenClaim := { program := "ytfbdafdbinbeaaa", sum := "bbac43694d665e4b0eae1d7982a7b6198e623636284997e5b7330306740309b5", func := "loop.example/g00831/laws.FnExactKeptCalls", spec := "fnExactKeptCalls", apart := false }
def FnExactKeptCallsSaid : Prop := fnExactKeptCallsRow.holds Try.pinned (OpenSpec.ofChange fnExactKeptCallsSpec)

/-- ITS FALSE NEIGHBOUR: 'it returns false'. Refute it at one input. -/
def fnExactKeptCallsWrong : ChangeSpec := { name := "fnExactKeptCalls", fn := fun _ => fun
  | [d1, d2] => { results := [.lit (.bool false)], args := [d1, d2] }
  | _ => none }
def FnExactKeptCallsWrongFalsely : Prop := fnExactKeptCallsRow.holds Try.pinned (OpenSpec.ofChange fnExactKeptCallsWrong)

/-- 'laws.FnExactBranchFor': WHATEVER THE INPUT: true; the input reads as it did. -/
def fnExactBranchForSpec : ChangeSpec := { name := "fnExactBranchFor", fn := fun _ => fun
  | [d1, d2] => { results := [.lit (.bool true)], args := [d1, d2] }
  | _ => none }
def fnExactBranchForRow : OpenClaim := { program := "ytfbdafdbinbeaaa", sum := "bbac43694d665e4b0eae1d7982a7b6198e623636284997e5b7330306740309b5", func := "loop.example/g00831/laws.FnExactBranchFor", spec := "fnExactBranchFor", unfollowed := true, recurses := true, apart := false }
def FnExactBranchForSaid : Prop := fnExactBranchForRow.holds Try.pinned (OpenSpec.ofChange fnExactBranchForSpec)

/-- ITS FALSE NEIGHBOUR: 'it returns false'. Refute it at one input. -/
def fnExactBranchForWrong : ChangeSpec := { name := "fnExactBranchFor", fn := fun _ => fun
  | [d1, d2] => { results := [.lit (.bool false)], args := [d1, d2] }
  | _ => none }
def FnExactBranchForWrongFalsely : Prop := fnExactBranchForRow.holds Try.pinned (OpenSpec.ofChange fnExactBranchForWrong)

/-- 'laws.FnExactLeastCost': WHATEVER THE INPUT: true; the input reads as it did. -/
def fnExactLeastCostSpec : ChangeSpec := { name := "fnExactLeastCost", fn := fun _ => fun
  | [d] => { results := [.lit (.bool true)], args := [d] }
  | _ => none }
def fnExactLeastCostRow : OpenClaim := { program := "ytfbdafdbinbeaaa", sum := "bbac43694d665e4b0eae1d7982a7b6198e623636284997e5b7330306740309b5", func := "loop.example/g00831/laws.FnExactLeastCost", spec := "fnExactLeastCost", apart := false }
def FnExactLeastCostSaid : Prop := fnExactLeastCostRow.holds Try.pinned (OpenSpec.ofChange fnExactLeastCostSpec)

/-- ITS FALSE NEIGHBOUR: 'it returns false'. Refute it at one input. -/
def fnExactLeastCostWrong : ChangeSpec := { name := "fnExactLeastCost", fn := fun _ => fun
  | [d] => { results := [.lit (.bool false)], args := [d] }
  | _ => none }
def FnExactLeastCostWrongFalsely : Prop := fnExactLeastCostRow.holds Try.pinned (OpenSpec.ofChange fnExactLeastCostWrong)

/-- 'laws.FnExactWorstCost': WHATEVER THE INPUT: true; the input reads as it did. -/
def fnExactWorstCostSpec : ChangeSpec := { name := "fnExactWorstCost", fn := fun _ => fun
  | [d] => { results := [.lit (.bool true)], args := [d] }
  | _ => none }
def fnExactWorstCostRow : OpenClaim := { program := "ytfbdafdbinbeaaa", sum := "bbac43694d665e4b0eae1d7982a7b6198e623636284997e5b7330306740309b5", func := "loop.example/g00831/laws.FnExactWorstCost", spec := "fnExactWorstCost", apart := false }
def FnExactWorstCostSaid : Prop := fnExactWorstCostRow.holds Try.pinned (OpenSpec.ofChange fnExactWorstCostSpec)

/-- ITS FALSE NEIGHBOUR: 'it returns false'. Refute it at one input. -/
def fnExactWorstCostWrong : ChangeSpec := { name := "fnExactWorstCost", fn := fun _ => fun
  | [d] => { results := [.lit (.bool false)], args := [d] }
  | _ => none }
def FnExactWorstCostWrongFalsely : Prop := fnExactWorstCostRow.holds Try.pinned (OpenSpec.ofChange fnExactWorstCostWrong)

/-- 'laws.FnExactPilotDuty': WHATEVER THE INPUT: true; the input reads as it did. -/
def fnExactPilotDutySpec : ChangeSpec := { name := "fnExactPilotDuty", fn := fun _ => fun
  | [d1, d2, d3] => { results := [.lit (.bool true)], args := [d1, d2, d3] }
  | _ => none }
def fnExactPilotDutyRow : OpenClaim := { program := "ytfbdafdbinbeaaa", sum := "bbac43694d665e4b0eae1d7982a7b6198e623636284997e5b7330306740309b5", func := "loop.example/g00831/laws.FnExactPilotDuty", spec := "fnExactPilotDuty", apart := false }
def FnExactPilotDutySaid : Prop := fnExactPilotDutyRow.holds Try.pinned (OpenSpec.ofChange fnExactPilotDutySpec)

/-- ITS FALSE NEIGHBOUR: 'it returns false'. Refute it at one input. -/
def fnExactPilotDutyWrong : ChangeSpec := { name := "fnExactPilotDuty", fn := fun _ => fun
  | [d1, d2, d3] => { results := [.lit (.bool false)], args := [d1, d2, d3] }
  | _ => none }
def FnExactPilotDutyWrongFalsely : Prop := fnExactPilotDutyRow.holds Try.pinned (OpenSpec.ofChange fnExactPilotDutyWrong)

/-- 'laws.FnExactTugDuties': WHATEVER THE INPUT: true; the input reads as it did. -/
def fnExactTugDutiesSpec : ChangeSpec := { name := "fnExactTugDuties", fn := fun _ => fun
  | [d1, d2, d3] => { results := [.lit (.bool true)], args := [d1, d2, d3] }
  | _ => none }
def fnExactTugDutiesRow : OpenClaim := { program := "ytfbdafdbinbeaaa", sum := "bbac43694d665e4b0eae1d7982a7b6198e623636284997e5b7330306740309b5", func := "loop.example/g00831/laws.FnExactTugDuties", spec := "fnExactTugDuties", apart := false }
def FnExactTugDutiesSaid : Prop := fnExactTugDutiesRow.holds Try.pinned (OpenSpec.ofChange fnExactTugDutiesSpec)

/-- ITS FALSE NEIGHBOUR: 'it returns false'. Refute it at one input. -/
def fnExactTugDutiesWrong : ChangeSpec := { name := "fnExactTugDuties", fn := fun _ => fun
  | [d1, d2, d3] => { results := [.lit (.bool false)], args := [d1, d2, d3] }
  | _ => none }
def FnExactTugDutiesWrongFalsely : Prop := fnExactTugDutiesRow.holds Try.pinned (OpenSpec.ofChange fnExactTugDutiesWrong)

/-- 'laws.FnExactHarbourOk': WHATEVER THE INPUT: true; the input reads as it did. -/
def fnExactHarbourOkSpec : ChangeSpec := { name := "fnExactHarbourOk", fn := fun _ => fun
  | [d] => { results := [.lit (.bool true)], args := [d] }
  | _ => none }
def fnExactHarbourOkRow : OpenClaim := { program := "ytfbdafdbinbeaaa", sum := "bbac43694d665e4b0eae1d7982a7b6198e623636284997e5b7330306740309b5", func := "loop.example/g00831/laws.FnExactHarbourOk", spec := "fnExactHarbourOk", apart := false }
def FnExactHarbourOkSaid : Prop := fnExactHarbourOkRow.holds Try.pinned (OpenSpec.ofChange fnExactHarbourOkSpec)

/-- ITS FALSE NEIGHBOUR: 'it returns false'. Refute it at one input. -/
def fnExactHarbourOkWrong : ChangeSpec := { name := "fnExactHarbourOk", fn := fun _ => fun
  | [d] => { results := [.lit (.bool false)], args := [d] }
  | _ => none }
def FnExactHarbourOkWrongFalsely : Prop := fnExactHarbourOkRow.holds Try.pinned (OpenSpec.ofChange fnExactHarbourOkWrong)

/-- 'laws.FnExactCallOk': WHATEVER THE INPUT: true; the input reads as it did. -/
def fnExactCallOkSpec : ChangeSpec := { name := "fnExactCallOk", fn := fun _ => fun
  | [d1, d2] => { results := [.lit (.bool true)], args := [d1, d2] }
  | _ => none }
def fnExactCallOkRow : OpenClaim := { program := "ytfbdafdbinbeaaa", sum := "bbac43694d665e4b0eae1d7982a7b6198e623636284997e5b7330306740309b5", func := "loop.example/g00831/laws.FnExactCallOk", spec := "fnExactCallOk", apart := false }
def FnExactCallOkSaid : Prop := fnExactCallOkRow.holds Try.pinned (OpenSpec.ofChange fnExactCallOkSpec)

/-- ITS FALSE NEIGHBOUR: 'it returns false'. Refute it at one input. -/
def fnExactCallOkWrong : ChangeSpec := { name := "fnExactCallOk", fn := fun _ => fun
  | [d1, d2] => { results := [.lit (.bool false)], args := [d1, d2] }
  | _ => none }
def FnExactCallOkWrongFalsely : Prop := fnExactCallOkRow.holds Try.pinned (OpenSpec.ofChange fnExactCallOkWrong)

/-- 'laws.FnExactCallsOk': WHATEVER THE INPUT: true; the input reads as it did. -/
def fnExactCallsOkSpec : ChangeSpec := { name := "fnExactCallsOk", fn := fun _ => fun
  | [d1, d2] => { results := [.lit (.bool true)], args := [d1, d2] }
  | _ => none }
def fnExactCallsOkRow : OpenClaim := { program := "ytfbdafdbinbeaaa", sum := "bbac43694d665e4b0eae1d7982a7b6198e623636284997e5b7330306740309b5", func := "loop.example/g00831/laws.FnExactCallsOk", spec := "fnExactCallsOk", apart := false }
def FnExactCallsOkSaid : Prop := fnExactCallsOkRow.holds Try.pinned (OpenSpec.ofChange fnExactCallsOkSpec)

/-- ITS FALSE NEIGHBOUR: 'it returns false'. Refute it at one input. -/
def fnExactCallsOkWrong : ChangeSpec := { name := "fnExactCallsOk", fn := fun _ => fun
  | [d1, d2] => { results := [.lit (.bool false)], args := [d1, d2] }
  | _ => none }
def FnExactCallsOkWrongFalsely : Prop := fnExactCallsOkRow.holds Try.pinned (OpenSpec.ofChange fnExactCallsOkWrong)

/- THE SECOND FORM. 'bulk': how many values and letters a reading holds, each counted each time it is reached (what is shared counts as often as it is met; a slice's spare places count too). A statement '..UptoSaid' is the law's where the arguments, and the package variables that the reading takes, are together of bulk at most 1048576: NARROWER than '..Said'. Prove '..Said' where nothing that the law and all that it calls make is longer than what came in: it says more and counts as full. Else prove '..UptoSaid'. A law counts once. -/
mutual
def uptoBulk {H : Type} : DataW H → Nat
  | .lit (.string bytes) => bytes.length + 1
  | .lit _ => 1
  | .nil => 1
  | .ptr d => uptoBulk d + 1
  | .slice elems spare => uptoBulkAll elems + uptoBulkAll spare + 1
  | .agg parts => uptoBulkAll parts + 1
  | .iface _ d => uptoBulk d + 1
  | .map entries => uptoBulkEntries entries + 1
  | .held _ => 1
def uptoBulkAll {H : Type} : List (DataW H) → Nat
  | [] => 0
  | d :: r => uptoBulk d + uptoBulkAll r
def uptoBulkEntries {H : Type} : List (Lit × DataW H) → Nat
  | [] => 0
  | x :: r => uptoBulkEntry x + uptoBulkEntries r
def uptoBulkEntry {H : Type} : Lit × DataW H → Nat
  | (.string bytes, d) => bytes.length + uptoBulk d + 1
  | (_, d) => uptoBulk d + 1
 end
def uptoSmall : (H : Type) → List (DataW H) → Bool := fun _ ds => decide (uptoBulkAll ds ≤ 1048576)
def OpenSpec.upto (s : _root_.Go.ChangeSpec) : _root_.Go.OpenSpec := { _root_.Go.OpenSpec.ofChange s with cond := some uptoSmall }

/-- 'laws.FnExactKeptCalls', WHERE WHAT IT READS IS OF BULK AT MOST 1048576: true; the input reads as it did. -/
def fnExactKeptCallsUptoRow : OpenClaim := { program := "ytfbdafdbinbeaaa", sum := "bbac43694d665e4b0eae1d7982a7b6198e623636284997e5b7330306740309b5", func := "loop.example/g00831/laws.FnExactKeptCalls", spec := "fnExactKeptCalls", apart := false, narrowed := true }
def FnExactKeptCallsUptoSaid : Prop := fnExactKeptCallsUptoRow.holds Try.pinned (OpenSpec.upto fnExactKeptCallsSpec)

/-- 'laws.FnExactBranchFor', WHERE WHAT IT READS IS OF BULK AT MOST 1048576: true; the input reads as it did. -/
def fnExactBranchForUptoRow : OpenClaim := { program := "ytfbdafdbinbeaaa", sum := "bbac43694d665e4b0eae1d7982a7b6198e623636284997e5b7330306740309b5", func := "loop.example/g00831/laws.FnExactBranchFor", spec := "fnExactBranchFor", unfollowed := true, recurses := true, apart := false, narrowed := true }
def FnExactBranchForUptoSaid : Prop := fnExactBranchForUptoRow.holds Try.pinned (OpenSpec.upto fnExactBranchForSpec)

/-- 'laws.FnExactLeastCost', WHERE WHAT IT READS IS OF BULK AT MOST 1048576: true; the input reads as it did. -/
def fnExactLeastCostUptoRow : OpenClaim := { program := "ytfbdafdbinbeaaa", sum := "bbac43694d665e4b0eae1d7982a7b6198e623636284997e5b7330306740309b5", func := "loop.example/g00831/laws.FnExactLeastCost", spec := "fnExactLeastCost", apart := false, narrowed := true }
def FnExactLeastCostUptoSaid : Prop := fnExactLeastCostUptoRow.holds Try.pinned (OpenSpec.upto fnExactLeastCostSpec)

/-- 'laws.FnExactWorstCost', WHERE WHAT IT READS IS OF BULK AT MOST 1048576: true; the input reads as it did. -/
def fnExactWorstCostUptoRow : OpenClaim := { program := "ytfbdafdbinbeaaa", sum := "bbac43694d665e4b0eae1d7982a7b6198e623636284997e5b7330306740309b5", func := "loop.example/g00831/laws.FnExactWorstCost", spec := "fnExactWorstCost", apart := false, narrowed := true }
def FnExactWorstCostUptoSaid : Prop := fnExactWorstCostUptoRow.holds Try.pinned (OpenSpec.upto fnExactWorstCostSpec)

/-- 'laws.FnExactPilotDuty', WHERE WHAT IT READS IS OF BULK AT MOST 1048576: true; the input reads as it did. -/
def fnExactPilotDutyUptoRow : OpenClaim := { program := "ytfbdafdbinbeaaa", sum := "bbac43694d665e4b0eae1d7982a7b6198e623636284997e5b7330306740309b5", func := "loop.example/g00831/laws.FnExactPilotDuty", spec := "fnExactPilotDuty", apart := false, narrowed := true }
def FnExactPilotDutyUptoSaid : Prop := fnExactPilotDutyUptoRow.holds Try.pinned (OpenSpec.upto fnExactPilotDutySpec)

/-- 'laws.FnExactTugDuties', WHERE WHAT IT READS IS OF BULK AT MOST 1048576: true; the input reads as it did. -/
def fnExactTugDutiesUptoRow : OpenClaim := { program := "ytfbdafdbinbeaaa", sum := "bbac43694d665e4b0eae1d7982a7b6198e623636284997e5b7330306740309b5", func := "loop.example/g00831/laws.FnExactTugDuties", spec := "fnExactTugDuties", apart := false, narrowed := true }
def FnExactTugDutiesUptoSaid : Prop := fnExactTugDutiesUptoRow.holds Try.pinned (OpenSpec.upto fnExactTugDutiesSpec)

/-- 'laws.FnExactHarbourOk', WHERE WHAT IT READS IS OF BULK AT MOST 1048576: true; the input reads as it did. -/
def fnExactHarbourOkUptoRow : OpenClaim := { program := "ytfbdafdbinbeaaa", sum := "bbac43694d665e4b0eae1d7982a7b6198e623636284997e5b7330306740309b5", func := "loop.example/g00831/laws.FnExactHarbourOk", spec := "fnExactHarbourOk", apart := false, narrowed := true }
def FnExactHarbourOkUptoSaid : Prop := fnExactHarbourOkUptoRow.holds Try.pinned (OpenSpec.upto fnExactHarbourOkSpec)

/-- 'laws.FnExactCallOk', WHERE WHAT IT READS IS OF BULK AT MOST 1048576: true; the input reads as it did. -/
def fnExactCallOkUptoRow : OpenClaim := { program := "ytfbdafdbinbeaaa", sum := "bbac43694d665e4b0eae1d7982a7b6198e623636284997e5b7330306740309b5", func := "loop.example/g00831/laws.FnExactCallOk", spec := "fnExactCallOk", apart := false, narrowed := true }
def FnExactCallOkUptoSaid : Prop := fnExactCallOkUptoRow.holds Try.pinned (OpenSpec.upto fnExactCallOkSpec)

/-- 'laws.FnExactCallsOk', WHERE WHAT IT READS IS OF BULK AT MOST 1048576: true; the input reads as it did. -/
def fnExactCallsOkUptoRow : OpenClaim := { program := "ytfbdafdbinbeaaa", sum := "bbac43694d665e4b0eae1d7982a7b6198e623636284997e5b7330306740309b5", func := "loop.example/g00831/laws.FnExactCallsOk", spec := "fnExactCallsOk", apart := false, narrowed := true }
def FnExactCallsOkUptoSaid : Prop := fnExactCallsOkUptoRow.holds Try.pinned (OpenSpec.upto fnExactCallsOkSpec)

end Rows
end Go.Proofs.Ytfbdafdbinbeaaa

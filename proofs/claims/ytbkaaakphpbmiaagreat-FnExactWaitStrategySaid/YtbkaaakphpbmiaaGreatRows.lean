/-
  No cell of these rows narrows 'for every input' (looked for: loops, veiled, ifaces, maps, wideKeys, modest, calm, conditions, laid).
  DERIVED. THE GIVEN ROWS OF THIS SEAT. 10 by the template 'for every input the law returns true; each argument reads behind the call as it read before'; 0 by the template 'total and deterministic' (their statements: YtbkaaakphpbmiaaGreatTotals.lean).
  GIVEN WITH THE SEED: the statements are not yours to turn. If you find one false, say at which input.
  Laid BY PROGRAM, IN A SANDBOX (cutbox-rows.mjs): the forced cells as the released guide's own fill.sh prints them over the translation e8d43bd7c2daa468… (all of the seat's roots in one cut). By AI agents, Wed Nov 11 2026. No macro, syntax, notation, axiom, sorry.
-/
import Derived.Test.YtbkaaakphpbmiaaGreatChecked
import GoSem.Claim
import GoSem.ClaimJoined
import GoSem.ClaimMapViews
import Derived.JoinedTies
import Derived.KernelRfl
namespace Go.Proofs.YtbkaaakphpbmiaaGreat
/- THE CELL 'sum', in the pinned program and in every row, IS THE sha256 OF THE DUMP (.gsa) THAT YtbkaaakphpbmiaaGreatProg.lean LOADS. Nothing in Lean hashes anything: it is a label: what it is worth is what the hold of that sum in a sandbox is worth. -/
noncomputable def Tryz.pinned : Pinned := { name := "ytbkaaakphpbmiaagreat", sum := "e8d43bd7c2daa46891d44d4d80a1632561cf92d57b4b1e7f79a630b9f156146a", checked := Tryz.checked }
namespace Rows
def none {H : Type} : Left H := { results := [], args := [] }

/-- 'laws.FnExactWaitStrategy': WHATEVER THE INPUT: true; the input reads as it did. -/
def fnExactWaitStrategySpec : ChangeSpec := { name := "fnExactWaitStrategy", fn := fun _ => fun
  | [d1, d2, d3, d4] => { results := [.lit (.bool true)], args := [d1, d2, d3, d4] }
  | _ => none }
def fnExactWaitStrategyRow : OpenClaim := { program := "ytbkaaakphpbmiaagreat", sum := "e8d43bd7c2daa46891d44d4d80a1632561cf92d57b4b1e7f79a630b9f156146a", func := "loop.example/g00831/laws.FnExactWaitStrategy", spec := "fnExactWaitStrategy", unfollowed := true, recurses := true, apart := false }
def FnExactWaitStrategySaid : Prop := fnExactWaitStrategyRow.holds Tryz.pinned (OpenSpec.ofChange fnExactWaitStrategySpec)

/-- ITS FALSE NEIGHBOUR: 'it returns false'. Refute it at one input. -/
def fnExactWaitStrategyWrong : ChangeSpec := { name := "fnExactWaitStrategy", fn := fun _ => fun
  | [d1, d2, d3, d4] => { results := [.lit (.bool false)], args := [d1, d2, d3, d4] }
  | _ => none }
def FnExactWaitStrategyWrongFalsely : Prop := fnExactWaitStrategyRow.holds Tryz.pinned (OpenSpec.ofChange fnExactWaitStrategyWrong)

/-- 'laws.FnExactPairFloor': WHATEVER THE INPUT: true; the input reads as it did. -/
def fnExactPairFloorSpec : ChangeSpec := { name := "fnExactPairFloor", fn := fun _ => fun
  | [d1, d2, d3] => { results := [.lit (.bool true)], args := [d1, d2, d3] }
  | _ => none }
def fnExactPairFloorRow : OpenClaim := { program := "ytbkaaakphpbmiaagreat", sum := "e8d43bd7c2daa46891d44d4d80a1632561cf92d57b4b1e7f79a630b9f156146a", func := "loop.example/g00831/laws.FnExactPairFloor", spec := "fnExactPairFloor", unfollowed := true, recurses := true, apart := false }
def FnExactPairFloorSaid : Prop := fnExactPairFloorRow.holds Tryz.pinned (OpenSpec.ofChange fnExactPairFloorSpec)

/-- ITS FALSE NEIGHBOUR: 'it returns false'. Refute it at one input. -/
def fnExactPairFloorWrong : ChangeSpec := { name := "fnExactPairFloor", fn := fun _ => fun
  | [d1, d2, d3] => { results := [.lit (.bool false)], args := [d1, d2, d3] }
  | _ => none }
def FnExactPairFloorWrongFalsely : Prop := fnExactPairFloorRow.holds Tryz.pinned (OpenSpec.ofChange fnExactPairFloorWrong)

/-- 'laws.FnExactOptionAt': WHATEVER THE INPUT: true; the input reads as it did. -/
def fnExactOptionAtSpec : ChangeSpec := { name := "fnExactOptionAt", fn := fun _ => fun
  | [d1, d2, d3, d4] => { results := [.lit (.bool true)], args := [d1, d2, d3, d4] }
  | _ => none }
def fnExactOptionAtRow : OpenClaim := { program := "ytbkaaakphpbmiaagreat", sum := "e8d43bd7c2daa46891d44d4d80a1632561cf92d57b4b1e7f79a630b9f156146a", func := "loop.example/g00831/laws.FnExactOptionAt", spec := "fnExactOptionAt", unfollowed := true, recurses := true, apart := false }
def FnExactOptionAtSaid : Prop := fnExactOptionAtRow.holds Tryz.pinned (OpenSpec.ofChange fnExactOptionAtSpec)

/-- ITS FALSE NEIGHBOUR: 'it returns false'. Refute it at one input. -/
def fnExactOptionAtWrong : ChangeSpec := { name := "fnExactOptionAt", fn := fun _ => fun
  | [d1, d2, d3, d4] => { results := [.lit (.bool false)], args := [d1, d2, d3, d4] }
  | _ => none }
def FnExactOptionAtWrongFalsely : Prop := fnExactOptionAtRow.holds Tryz.pinned (OpenSpec.ofChange fnExactOptionAtWrong)

/-- 'laws.FnExactBoundOf': WHATEVER THE INPUT: true; the input reads as it did. -/
def fnExactBoundOfSpec : ChangeSpec := { name := "fnExactBoundOf", fn := fun _ => fun
  | [d1, d2, d3] => { results := [.lit (.bool true)], args := [d1, d2, d3] }
  | _ => none }
def fnExactBoundOfRow : OpenClaim := { program := "ytbkaaakphpbmiaagreat", sum := "e8d43bd7c2daa46891d44d4d80a1632561cf92d57b4b1e7f79a630b9f156146a", func := "loop.example/g00831/laws.FnExactBoundOf", spec := "fnExactBoundOf", unfollowed := true, recurses := true, apart := false }
def FnExactBoundOfSaid : Prop := fnExactBoundOfRow.holds Tryz.pinned (OpenSpec.ofChange fnExactBoundOfSpec)

/-- ITS FALSE NEIGHBOUR: 'it returns false'. Refute it at one input. -/
def fnExactBoundOfWrong : ChangeSpec := { name := "fnExactBoundOf", fn := fun _ => fun
  | [d1, d2, d3] => { results := [.lit (.bool false)], args := [d1, d2, d3] }
  | _ => none }
def FnExactBoundOfWrongFalsely : Prop := fnExactBoundOfRow.holds Tryz.pinned (OpenSpec.ofChange fnExactBoundOfWrong)

/-- 'laws.FnExactPlanOf': WHATEVER THE INPUT: true; the input reads as it did. -/
def fnExactPlanOfSpec : ChangeSpec := { name := "fnExactPlanOf", fn := fun _ => fun
  | [d1, d2, d3] => { results := [.lit (.bool true)], args := [d1, d2, d3] }
  | _ => none }
def fnExactPlanOfRow : OpenClaim := { program := "ytbkaaakphpbmiaagreat", sum := "e8d43bd7c2daa46891d44d4d80a1632561cf92d57b4b1e7f79a630b9f156146a", func := "loop.example/g00831/laws.FnExactPlanOf", spec := "fnExactPlanOf", unfollowed := true, recurses := true, apart := false }
def FnExactPlanOfSaid : Prop := fnExactPlanOfRow.holds Tryz.pinned (OpenSpec.ofChange fnExactPlanOfSpec)

/-- ITS FALSE NEIGHBOUR: 'it returns false'. Refute it at one input. -/
def fnExactPlanOfWrong : ChangeSpec := { name := "fnExactPlanOf", fn := fun _ => fun
  | [d1, d2, d3] => { results := [.lit (.bool false)], args := [d1, d2, d3] }
  | _ => none }
def FnExactPlanOfWrongFalsely : Prop := fnExactPlanOfRow.holds Tryz.pinned (OpenSpec.ofChange fnExactPlanOfWrong)

/-- 'laws.FnExactAfterReading': WHATEVER THE INPUT: true; the input reads as it did. -/
def fnExactAfterReadingSpec : ChangeSpec := { name := "fnExactAfterReading", fn := fun _ => fun
  | [d1, d2, d3, d4] => { results := [.lit (.bool true)], args := [d1, d2, d3, d4] }
  | _ => none }
def fnExactAfterReadingRow : OpenClaim := { program := "ytbkaaakphpbmiaagreat", sum := "e8d43bd7c2daa46891d44d4d80a1632561cf92d57b4b1e7f79a630b9f156146a", func := "loop.example/g00831/laws.FnExactAfterReading", spec := "fnExactAfterReading", apart := false }
def FnExactAfterReadingSaid : Prop := fnExactAfterReadingRow.holds Tryz.pinned (OpenSpec.ofChange fnExactAfterReadingSpec)

/-- ITS FALSE NEIGHBOUR: 'it returns false'. Refute it at one input. -/
def fnExactAfterReadingWrong : ChangeSpec := { name := "fnExactAfterReading", fn := fun _ => fun
  | [d1, d2, d3, d4] => { results := [.lit (.bool false)], args := [d1, d2, d3, d4] }
  | _ => none }
def FnExactAfterReadingWrongFalsely : Prop := fnExactAfterReadingRow.holds Tryz.pinned (OpenSpec.ofChange fnExactAfterReadingWrong)

/-- 'laws.FnExactChoicesFor': WHATEVER THE INPUT: true; the input reads as it did. -/
def fnExactChoicesForSpec : ChangeSpec := { name := "fnExactChoicesFor", fn := fun _ => fun
  | [d1, d2, d3] => { results := [.lit (.bool true)], args := [d1, d2, d3] }
  | _ => none }
def fnExactChoicesForRow : OpenClaim := { program := "ytbkaaakphpbmiaagreat", sum := "e8d43bd7c2daa46891d44d4d80a1632561cf92d57b4b1e7f79a630b9f156146a", func := "loop.example/g00831/laws.FnExactChoicesFor", spec := "fnExactChoicesFor", unfollowed := true, recurses := true, apart := false }
def FnExactChoicesForSaid : Prop := fnExactChoicesForRow.holds Tryz.pinned (OpenSpec.ofChange fnExactChoicesForSpec)

/-- ITS FALSE NEIGHBOUR: 'it returns false'. Refute it at one input. -/
def fnExactChoicesForWrong : ChangeSpec := { name := "fnExactChoicesFor", fn := fun _ => fun
  | [d1, d2, d3] => { results := [.lit (.bool false)], args := [d1, d2, d3] }
  | _ => none }
def FnExactChoicesForWrongFalsely : Prop := fnExactChoicesForRow.holds Tryz.pinned (OpenSpec.ofChange fnExactChoicesForWrong)

/-- 'laws.FnExactIsPlan': WHATEVER THE INPUT: true; the input reads as it did. -/
def fnExactIsPlanSpec : ChangeSpec := { name := "fnExactIsPlan", fn := fun _ => fun
  | [d1, d2, d3] => { results := [.lit (.bool true)], args := [d1, d2, d3] }
  | _ => none }
def fnExactIsPlanRow : OpenClaim := { program := "ytbkaaakphpbmiaagreat", sum := "e8d43bd7c2daa46891d44d4d80a1632561cf92d57b4b1e7f79a630b9f156146a", func := "loop.example/g00831/laws.FnExactIsPlan", spec := "fnExactIsPlan", unfollowed := true, recurses := true, apart := false }
def FnExactIsPlanSaid : Prop := fnExactIsPlanRow.holds Tryz.pinned (OpenSpec.ofChange fnExactIsPlanSpec)

/-- ITS FALSE NEIGHBOUR: 'it returns false'. Refute it at one input. -/
def fnExactIsPlanWrong : ChangeSpec := { name := "fnExactIsPlan", fn := fun _ => fun
  | [d1, d2, d3] => { results := [.lit (.bool false)], args := [d1, d2, d3] }
  | _ => none }
def FnExactIsPlanWrongFalsely : Prop := fnExactIsPlanRow.holds Tryz.pinned (OpenSpec.ofChange fnExactIsPlanWrong)

/-- 'laws.FnExactCheckGap': WHATEVER THE INPUT: true; the input reads as it did. -/
def fnExactCheckGapSpec : ChangeSpec := { name := "fnExactCheckGap", fn := fun _ => fun
  | [d1, d2, d3, d4, d5] => { results := [.lit (.bool true)], args := [d1, d2, d3, d4, d5] }
  | _ => none }
def fnExactCheckGapRow : OpenClaim := { program := "ytbkaaakphpbmiaagreat", sum := "e8d43bd7c2daa46891d44d4d80a1632561cf92d57b4b1e7f79a630b9f156146a", func := "loop.example/g00831/laws.FnExactCheckGap", spec := "fnExactCheckGap", unfollowed := true, recurses := true, apart := false }
def FnExactCheckGapSaid : Prop := fnExactCheckGapRow.holds Tryz.pinned (OpenSpec.ofChange fnExactCheckGapSpec)

/-- ITS FALSE NEIGHBOUR: 'it returns false'. Refute it at one input. -/
def fnExactCheckGapWrong : ChangeSpec := { name := "fnExactCheckGap", fn := fun _ => fun
  | [d1, d2, d3, d4, d5] => { results := [.lit (.bool false)], args := [d1, d2, d3, d4, d5] }
  | _ => none }
def FnExactCheckGapWrongFalsely : Prop := fnExactCheckGapRow.holds Tryz.pinned (OpenSpec.ofChange fnExactCheckGapWrong)

/-- 'laws.FnExactBestPlan': WHATEVER THE INPUT: true; the input reads as it did. -/
def fnExactBestPlanSpec : ChangeSpec := { name := "fnExactBestPlan", fn := fun _ => fun
  | [d1, d2] => { results := [.lit (.bool true)], args := [d1, d2] }
  | _ => none }
def fnExactBestPlanRow : OpenClaim := { program := "ytbkaaakphpbmiaagreat", sum := "e8d43bd7c2daa46891d44d4d80a1632561cf92d57b4b1e7f79a630b9f156146a", func := "loop.example/g00831/laws.FnExactBestPlan", spec := "fnExactBestPlan", unfollowed := true, recurses := true, apart := false }
def FnExactBestPlanSaid : Prop := fnExactBestPlanRow.holds Tryz.pinned (OpenSpec.ofChange fnExactBestPlanSpec)

/-- ITS FALSE NEIGHBOUR: 'it returns false'. Refute it at one input. -/
def fnExactBestPlanWrong : ChangeSpec := { name := "fnExactBestPlan", fn := fun _ => fun
  | [d1, d2] => { results := [.lit (.bool false)], args := [d1, d2] }
  | _ => none }
def FnExactBestPlanWrongFalsely : Prop := fnExactBestPlanRow.holds Tryz.pinned (OpenSpec.ofChange fnExactBestPlanWrong)

/- THE SECOND FORM. 'bulk': how many values and letters a reading holds, each counted each time it is reached (what is shared counts as often as it is met; a slice's spare places count too). A statement '..UptoSaid' is the law's where the arguments, and the package variables that the reading takes, are together of bulk at most 1048576: NARROWER than '..Said'. Prove '..Said' where nothing that the law and all that it calls make is longer than what came in: it says more and counts as full. Else prove '..UptoSaid'. A law counts once. -/
mutual
def uptoBulk {H : Type} : DataW H → Nat
  | .lit (.string bytes) => bytes.length + 1
  | .lit _ => 1
  | .nil => 1
  | .ptr d => uptoBulk d + 1
  | .slice elems spare => uptoBulkAll elems + uptoBulkAll spare + 1
  | .agg parts => uptoBulkAll parts + 1
  | .iface _ d => uptoBulk d + 1
  | .map entries => uptoBulkEntries entries + 1
  | .held _ => 1
def uptoBulkAll {H : Type} : List (DataW H) → Nat
  | [] => 0
  | d :: r => uptoBulk d + uptoBulkAll r
def uptoBulkEntries {H : Type} : List (Lit × DataW H) → Nat
  | [] => 0
  | x :: r => uptoBulkEntry x + uptoBulkEntries r
def uptoBulkEntry {H : Type} : Lit × DataW H → Nat
  | (.string bytes, d) => bytes.length + uptoBulk d + 1
  | (_, d) => uptoBulk d + 1
 end
def uptoSmall : (H : Type) → List (DataW H) → Bool := fun _ ds => decide (uptoBulkAll ds ≤ 1048576)
def OpenSpec.upto (s : _root_.Go.ChangeSpec) : _root_.Go.OpenSpec := { _root_.Go.OpenSpec.ofChange s with cond := some uptoSmall }

/-- 'laws.FnExactWaitStrategy', WHERE WHAT IT READS IS OF BULK AT MOST 1048576: true; the input reads as it did. -/
def fnExactWaitStrategyUptoRow : OpenClaim := { program := "ytbkaaakphpbmiaagreat", sum := "e8d43bd7c2daa46891d44d4d80a1632561cf92d57b4b1e7f79a630b9f156146a", func := "loop.example/g00831/laws.FnExactWaitStrategy", spec := "fnExactWaitStrategy", unfollowed := true, recurses := true, apart := false, narrowed := true }
def FnExactWaitStrategyUptoSaid : Prop := fnExactWaitStrategyUptoRow.holds Tryz.pinned (OpenSpec.upto fnExactWaitStrategySpec)

/-- 'laws.FnExactPairFloor', WHERE WHAT IT READS IS OF BULK AT MOST 1048576: true; the input reads as it did. -/
def fnExactPairFloorUptoRow : OpenClaim := { program := "ytbkaaakphpbmiaagreat", sum := "e8d43bd7c2daa46891d44d4d80a1632561cf92d57b4b1e7f79a630b9f156146a", func := "loop.example/g00831/laws.FnExactPairFloor", spec := "fnExactPairFloor", unfollowed := true, recurses := true, apart := false, narrowed := true }
def FnExactPairFloorUptoSaid : Prop := fnExactPairFloorUptoRow.holds Tryz.pinned (OpenSpec.upto fnExactPairFloorSpec)

/-- 'laws.FnExactOptionAt', WHERE WHAT IT READS IS OF BULK AT MOST 1048576: true; the input reads as it did. -/
def fnExactOptionAtUptoRow : OpenClaim := { program := "ytbkaaakphpbmiaagreat", sum := "e8d43bd7c2daa46891d44d4d80a1632561cf92d57b4b1e7f79a630b9f156146a", func := "loop.example/g00831/laws.FnExactOptionAt", spec := "fnExactOptionAt", unfollowed := true, recurses := true, apart := false, narrowed := true }
def FnExactOptionAtUptoSaid : Prop := fnExactOptionAtUptoRow.holds Tryz.pinned (OpenSpec.upto fnExactOptionAtSpec)

/-- 'laws.FnExactBoundOf', WHERE WHAT IT READS IS OF BULK AT MOST 1048576: true; the input reads as it did. -/
def fnExactBoundOfUptoRow : OpenClaim := { program := "ytbkaaakphpbmiaagreat", sum := "e8d43bd7c2daa46891d44d4d80a1632561cf92d57b4b1e7f79a630b9f156146a", func := "loop.example/g00831/laws.FnExactBoundOf", spec := "fnExactBoundOf", unfollowed := true, recurses := true, apart := false, narrowed := true }
def FnExactBoundOfUptoSaid : Prop := fnExactBoundOfUptoRow.holds Tryz.pinned (OpenSpec.upto fnExactBoundOfSpec)

/-- 'laws.FnExactPlanOf', WHERE WHAT IT READS IS OF BULK AT MOST 1048576: true; the input reads as it did. -/
def fnExactPlanOfUptoRow : OpenClaim := { program := "ytbkaaakphpbmiaagreat", sum := "e8d43bd7c2daa46891d44d4d80a1632561cf92d57b4b1e7f79a630b9f156146a", func := "loop.example/g00831/laws.FnExactPlanOf", spec := "fnExactPlanOf", unfollowed := true, recurses := true, apart := false, narrowed := true }
def FnExactPlanOfUptoSaid : Prop := fnExactPlanOfUptoRow.holds Tryz.pinned (OpenSpec.upto fnExactPlanOfSpec)

/-- 'laws.FnExactAfterReading', WHERE WHAT IT READS IS OF BULK AT MOST 1048576: true; the input reads as it did. -/
def fnExactAfterReadingUptoRow : OpenClaim := { program := "ytbkaaakphpbmiaagreat", sum := "e8d43bd7c2daa46891d44d4d80a1632561cf92d57b4b1e7f79a630b9f156146a", func := "loop.example/g00831/laws.FnExactAfterReading", spec := "fnExactAfterReading", apart := false, narrowed := true }
def FnExactAfterReadingUptoSaid : Prop := fnExactAfterReadingUptoRow.holds Tryz.pinned (OpenSpec.upto fnExactAfterReadingSpec)

/-- 'laws.FnExactChoicesFor', WHERE WHAT IT READS IS OF BULK AT MOST 1048576: true; the input reads as it did. -/
def fnExactChoicesForUptoRow : OpenClaim := { program := "ytbkaaakphpbmiaagreat", sum := "e8d43bd7c2daa46891d44d4d80a1632561cf92d57b4b1e7f79a630b9f156146a", func := "loop.example/g00831/laws.FnExactChoicesFor", spec := "fnExactChoicesFor", unfollowed := true, recurses := true, apart := false, narrowed := true }
def FnExactChoicesForUptoSaid : Prop := fnExactChoicesForUptoRow.holds Tryz.pinned (OpenSpec.upto fnExactChoicesForSpec)

/-- 'laws.FnExactIsPlan', WHERE WHAT IT READS IS OF BULK AT MOST 1048576: true; the input reads as it did. -/
def fnExactIsPlanUptoRow : OpenClaim := { program := "ytbkaaakphpbmiaagreat", sum := "e8d43bd7c2daa46891d44d4d80a1632561cf92d57b4b1e7f79a630b9f156146a", func := "loop.example/g00831/laws.FnExactIsPlan", spec := "fnExactIsPlan", unfollowed := true, recurses := true, apart := false, narrowed := true }
def FnExactIsPlanUptoSaid : Prop := fnExactIsPlanUptoRow.holds Tryz.pinned (OpenSpec.upto fnExactIsPlanSpec)

/-- 'laws.FnExactCheckGap', WHERE WHAT IT READS IS OF BULK AT MOST 1048576: true; the input reads as it did. -/
def fnExactCheckGapUptoRow : OpenClaim := { program := "ytbkaaakphpbmiaagreat", sum := "e8d43bd7c2daa46891d44d4d80a1632561cf92d57b4b1e7f79a630b9f156146a", func := "loop.example/g00831/laws.FnExactCheckGap", spec := "fnExactCheckGap", unfollowed := true, recurses := true, apart := false, narrowed := true }
def FnExactCheckGapUptoSaid : Prop := fnExactCheckGapUptoRow.holds Tryz.pinned (OpenSpec.upto fnExactCheckGapSpec)

/-- 'laws.FnExactBestPlan', WHERE WHAT IT READS IS OF BULK AT MOST 1048576: true; the input reads as it did. -/
def fnExactBestPlanUptoRow : OpenClaim := { program := "ytbkaaakphpbmiaagreat", sum := "e8d43bd7c2daa46891d44d4d80a1632561cf92d57b4b1e7f79a630b9f156146a", func := "loop.example/g00831/laws.FnExactBestPlan", spec := "fnExactBestPlan", unfollowed := true, recurses := true, apart := false, narrowed := true }
def FnExactBestPlanUptoSaid : Prop := fnExactBestPlanUptoRow.holds Tryz.pinned (OpenSpec.upto fnExactBestPlanSpec)

end Rows
end Go.Proofs.YtbkaaakphpbmiaaGreat

/-
  No cell of these rows narrows 'for every input' (looked for: loops, veiled, ifaces, maps, wideKeys, modest, calm, conditions, laid).
  DERIVED. THE GIVEN ROWS OF THIS SEAT. 11 by the template 'for every input the law returns true; each argument reads behind the call as it read before'; 0 by the template 'total and deterministic' (their statements: YtkoghfeelonhhaaTotals.lean).
  GIVEN WITH THE SEED: the statements are not yours to turn. If you find one false, say at which input.
  Laid BY PROGRAM, IN A SANDBOX (cutbox-rows.mjs): the forced cells as the released guide's own fill.sh prints them over the translation 1b634fb803a1902c… (all of the seat's roots in one cut). By AI agents, Wed Nov 11 2026. No macro, syntax, notation, axiom, sorry.
-/
import Derived.Test.YtkoghfeelonhhaaChecked
import GoSem.Claim
import GoSem.ClaimJoined
import GoSem.ClaimMapViews
import Derived.JoinedTies
import Derived.KernelRfl
namespace Go.Proofs.Ytkoghfeelonhhaa
/- THE CELL 'sum', in the pinned program and in every row, IS THE sha256 OF THE DUMP (.gsa) THAT YtkoghfeelonhhaaProg.lean LOADS. Nothing in Lean hashes anything: it is a label: what it is worth is what the hold of that sum in a sandbox is worth. -/
noncomputable def Try.pinned : Pinned := { name := "ytkoghfeelonhhaa", sum := "1b634fb803a1902c00bd0fc80fd02bd3ca8983cd185ab6fc5fe6dcfa0dcb4a6c", checked := Try.checked }
namespace Rows
def none {H : Type} : Left H := { results := [], args := [] }

/-- 'laws.FnExactCrewOk': WHATEVER THE INPUT: true; the input reads as it did. -/
def fnExactCrewOkSpec : ChangeSpec := { name := "fnExactCrewOk", fn := fun _ => fun
  | [d] => { results := [.lit (.bool true)], args := [d] }
  | _ => none }
def fnExactCrewOkRow : OpenClaim := { program := "ytkoghfeelonhhaa", sum := "1b634fb803a1902c00bd0fc80fd02bd3ca8983cd185ab6fc5fe6dcfa0dcb4a6c", func := "loop.example/g00831/laws.FnExactCrewOk", spec := "fnExactCrewOk", apart := false }
def FnExactCrewOkSaid : Prop := fnExactCrewOkRow.holds Try.pinned (OpenSpec.ofChange fnExactCrewOkSpec)

/-- ITS FALSE NEIGHBOUR: 'it returns false'. Refute it at one input. -/
def fnExactCrewOkWrong : ChangeSpec := { name := "fnExactCrewOk", fn := fun _ => fun
  | [d] => { results := [.lit (.bool false)], args := [d] }
  | _ => none }
def FnExactCrewOkWrongFalsely : Prop := fnExactCrewOkRow.holds Try.pinned (OpenSpec.ofChange fnExactCrewOkWrong)

/-- 'laws.FnExactMatesOk': WHATEVER THE INPUT: true; the input reads as it did. -/
def fnExactMatesOkSpec : ChangeSpec := { name := "fnExactMatesOk", fn := fun _ => fun
  | [d1, d2] => { results := [.lit (.bool true)], args := [d1, d2] }
  | _ => none }
def fnExactMatesOkRow : OpenClaim := { program := "ytkoghfeelonhhaa", sum := "1b634fb803a1902c00bd0fc80fd02bd3ca8983cd185ab6fc5fe6dcfa0dcb4a6c", func := "loop.example/g00831/laws.FnExactMatesOk", spec := "fnExactMatesOk", apart := false }
def FnExactMatesOkSaid : Prop := fnExactMatesOkRow.holds Try.pinned (OpenSpec.ofChange fnExactMatesOkSpec)

/-- ITS FALSE NEIGHBOUR: 'it returns false'. Refute it at one input. -/
def fnExactMatesOkWrong : ChangeSpec := { name := "fnExactMatesOk", fn := fun _ => fun
  | [d1, d2] => { results := [.lit (.bool false)], args := [d1, d2] }
  | _ => none }
def FnExactMatesOkWrongFalsely : Prop := fnExactMatesOkRow.holds Try.pinned (OpenSpec.ofChange fnExactMatesOkWrong)

/-- 'laws.FnExactSameOptions': WHATEVER THE INPUT: true; the input reads as it did. -/
def fnExactSameOptionsSpec : ChangeSpec := { name := "fnExactSameOptions", fn := fun _ => fun
  | [d1, d2] => { results := [.lit (.bool true)], args := [d1, d2] }
  | _ => none }
def fnExactSameOptionsRow : OpenClaim := { program := "ytkoghfeelonhhaa", sum := "1b634fb803a1902c00bd0fc80fd02bd3ca8983cd185ab6fc5fe6dcfa0dcb4a6c", func := "loop.example/g00831/laws.FnExactSameOptions", spec := "fnExactSameOptions", apart := false }
def FnExactSameOptionsSaid : Prop := fnExactSameOptionsRow.holds Try.pinned (OpenSpec.ofChange fnExactSameOptionsSpec)

/-- ITS FALSE NEIGHBOUR: 'it returns false'. Refute it at one input. -/
def fnExactSameOptionsWrong : ChangeSpec := { name := "fnExactSameOptions", fn := fun _ => fun
  | [d1, d2] => { results := [.lit (.bool false)], args := [d1, d2] }
  | _ => none }
def FnExactSameOptionsWrongFalsely : Prop := fnExactSameOptionsRow.holds Try.pinned (OpenSpec.ofChange fnExactSameOptionsWrong)

/-- 'laws.FnExactPriceOf': WHATEVER THE INPUT: true; the input reads as it did. -/
def fnExactPriceOfSpec : ChangeSpec := { name := "fnExactPriceOf", fn := fun _ => fun
  | [d1, d2] => { results := [.lit (.bool true)], args := [d1, d2] }
  | _ => none }
def fnExactPriceOfRow : OpenClaim := { program := "ytkoghfeelonhhaa", sum := "1b634fb803a1902c00bd0fc80fd02bd3ca8983cd185ab6fc5fe6dcfa0dcb4a6c", func := "loop.example/g00831/laws.FnExactPriceOf", spec := "fnExactPriceOf", apart := false }
def FnExactPriceOfSaid : Prop := fnExactPriceOfRow.holds Try.pinned (OpenSpec.ofChange fnExactPriceOfSpec)

/-- ITS FALSE NEIGHBOUR: 'it returns false'. Refute it at one input. -/
def fnExactPriceOfWrong : ChangeSpec := { name := "fnExactPriceOf", fn := fun _ => fun
  | [d1, d2] => { results := [.lit (.bool false)], args := [d1, d2] }
  | _ => none }
def FnExactPriceOfWrongFalsely : Prop := fnExactPriceOfRow.holds Try.pinned (OpenSpec.ofChange fnExactPriceOfWrong)

/-- 'laws.FnExactCostOf': WHATEVER THE INPUT: true; the input reads as it did. -/
def fnExactCostOfSpec : ChangeSpec := { name := "fnExactCostOf", fn := fun _ => fun
  | [d] => { results := [.lit (.bool true)], args := [d] }
  | _ => none }
def fnExactCostOfRow : OpenClaim := { program := "ytkoghfeelonhhaa", sum := "1b634fb803a1902c00bd0fc80fd02bd3ca8983cd185ab6fc5fe6dcfa0dcb4a6c", func := "loop.example/g00831/laws.FnExactCostOf", spec := "fnExactCostOf", apart := false }
def FnExactCostOfSaid : Prop := fnExactCostOfRow.holds Try.pinned (OpenSpec.ofChange fnExactCostOfSpec)

/-- ITS FALSE NEIGHBOUR: 'it returns false'. Refute it at one input. -/
def fnExactCostOfWrong : ChangeSpec := { name := "fnExactCostOf", fn := fun _ => fun
  | [d] => { results := [.lit (.bool false)], args := [d] }
  | _ => none }
def FnExactCostOfWrongFalsely : Prop := fnExactCostOfRow.holds Try.pinned (OpenSpec.ofChange fnExactCostOfWrong)

/-- 'laws.FnExactCheapestOption': WHATEVER THE INPUT: true; the input reads as it did. -/
def fnExactCheapestOptionSpec : ChangeSpec := { name := "fnExactCheapestOption", fn := fun _ => fun
  | [d] => { results := [.lit (.bool true)], args := [d] }
  | _ => none }
def fnExactCheapestOptionRow : OpenClaim := { program := "ytkoghfeelonhhaa", sum := "1b634fb803a1902c00bd0fc80fd02bd3ca8983cd185ab6fc5fe6dcfa0dcb4a6c", func := "loop.example/g00831/laws.FnExactCheapestOption", spec := "fnExactCheapestOption", apart := false }
def FnExactCheapestOptionSaid : Prop := fnExactCheapestOptionRow.holds Try.pinned (OpenSpec.ofChange fnExactCheapestOptionSpec)

/-- ITS FALSE NEIGHBOUR: 'it returns false'. Refute it at one input. -/
def fnExactCheapestOptionWrong : ChangeSpec := { name := "fnExactCheapestOption", fn := fun _ => fun
  | [d] => { results := [.lit (.bool false)], args := [d] }
  | _ => none }
def FnExactCheapestOptionWrongFalsely : Prop := fnExactCheapestOptionRow.holds Try.pinned (OpenSpec.ofChange fnExactCheapestOptionWrong)

/-- 'laws.FnExactSailedBefore': WHATEVER THE INPUT: true; the input reads as it did. -/
def fnExactSailedBeforeSpec : ChangeSpec := { name := "fnExactSailedBefore", fn := fun _ => fun
  | [d1, d2] => { results := [.lit (.bool true)], args := [d1, d2] }
  | _ => none }
def fnExactSailedBeforeRow : OpenClaim := { program := "ytkoghfeelonhhaa", sum := "1b634fb803a1902c00bd0fc80fd02bd3ca8983cd185ab6fc5fe6dcfa0dcb4a6c", func := "loop.example/g00831/laws.FnExactSailedBefore", spec := "fnExactSailedBefore", apart := false }
def FnExactSailedBeforeSaid : Prop := fnExactSailedBeforeRow.holds Try.pinned (OpenSpec.ofChange fnExactSailedBeforeSpec)

/-- ITS FALSE NEIGHBOUR: 'it returns false'. Refute it at one input. -/
def fnExactSailedBeforeWrong : ChangeSpec := { name := "fnExactSailedBefore", fn := fun _ => fun
  | [d1, d2] => { results := [.lit (.bool false)], args := [d1, d2] }
  | _ => none }
def FnExactSailedBeforeWrongFalsely : Prop := fnExactSailedBeforeRow.holds Try.pinned (OpenSpec.ofChange fnExactSailedBeforeWrong)

/-- 'laws.FnExactSelectCalls': WHATEVER THE INPUT: true; the input reads as it did. -/
def fnExactSelectCallsSpec : ChangeSpec := { name := "fnExactSelectCalls", fn := fun _ => fun
  | [d1, d2] => { results := [.lit (.bool true)], args := [d1, d2] }
  | _ => none }
def fnExactSelectCallsRow : OpenClaim := { program := "ytkoghfeelonhhaa", sum := "1b634fb803a1902c00bd0fc80fd02bd3ca8983cd185ab6fc5fe6dcfa0dcb4a6c", func := "loop.example/g00831/laws.FnExactSelectCalls", spec := "fnExactSelectCalls", apart := false }
def FnExactSelectCallsSaid : Prop := fnExactSelectCallsRow.holds Try.pinned (OpenSpec.ofChange fnExactSelectCallsSpec)

/-- ITS FALSE NEIGHBOUR: 'it returns false'. Refute it at one input. -/
def fnExactSelectCallsWrong : ChangeSpec := { name := "fnExactSelectCalls", fn := fun _ => fun
  | [d1, d2] => { results := [.lit (.bool false)], args := [d1, d2] }
  | _ => none }
def FnExactSelectCallsWrongFalsely : Prop := fnExactSelectCallsRow.holds Try.pinned (OpenSpec.ofChange fnExactSelectCallsWrong)

/-- 'laws.FnExactChangesOf': WHATEVER THE INPUT: true; the input reads as it did. -/
def fnExactChangesOfSpec : ChangeSpec := { name := "fnExactChangesOf", fn := fun _ => fun
  | [d1, d2] => { results := [.lit (.bool true)], args := [d1, d2] }
  | _ => none }
def fnExactChangesOfRow : OpenClaim := { program := "ytkoghfeelonhhaa", sum := "1b634fb803a1902c00bd0fc80fd02bd3ca8983cd185ab6fc5fe6dcfa0dcb4a6c", func := "loop.example/g00831/laws.FnExactChangesOf", spec := "fnExactChangesOf", apart := false }
def FnExactChangesOfSaid : Prop := fnExactChangesOfRow.holds Try.pinned (OpenSpec.ofChange fnExactChangesOfSpec)

/-- ITS FALSE NEIGHBOUR: 'it returns false'. Refute it at one input. -/
def fnExactChangesOfWrong : ChangeSpec := { name := "fnExactChangesOf", fn := fun _ => fun
  | [d1, d2] => { results := [.lit (.bool false)], args := [d1, d2] }
  | _ => none }
def FnExactChangesOfWrongFalsely : Prop := fnExactChangesOfRow.holds Try.pinned (OpenSpec.ofChange fnExactChangesOfWrong)

/-- 'laws.FnExactPlanPrice': WHATEVER THE INPUT: true; the input reads as it did. -/
def fnExactPlanPriceSpec : ChangeSpec := { name := "fnExactPlanPrice", fn := fun _ => fun
  | [d1, d2] => { results := [.lit (.bool true)], args := [d1, d2] }
  | _ => none }
def fnExactPlanPriceRow : OpenClaim := { program := "ytkoghfeelonhhaa", sum := "1b634fb803a1902c00bd0fc80fd02bd3ca8983cd185ab6fc5fe6dcfa0dcb4a6c", func := "loop.example/g00831/laws.FnExactPlanPrice", spec := "fnExactPlanPrice", apart := false }
def FnExactPlanPriceSaid : Prop := fnExactPlanPriceRow.holds Try.pinned (OpenSpec.ofChange fnExactPlanPriceSpec)

/-- ITS FALSE NEIGHBOUR: 'it returns false'. Refute it at one input. -/
def fnExactPlanPriceWrong : ChangeSpec := { name := "fnExactPlanPrice", fn := fun _ => fun
  | [d1, d2] => { results := [.lit (.bool false)], args := [d1, d2] }
  | _ => none }
def FnExactPlanPriceWrongFalsely : Prop := fnExactPlanPriceRow.holds Try.pinned (OpenSpec.ofChange fnExactPlanPriceWrong)

/-- 'laws.FnExactChainsOf': WHATEVER THE INPUT: true; the input reads as it did. -/
def fnExactChainsOfSpec : ChangeSpec := { name := "fnExactChainsOf", fn := fun _ => fun
  | [d] => { results := [.lit (.bool true)], args := [d] }
  | _ => none }
def fnExactChainsOfRow : OpenClaim := { program := "ytkoghfeelonhhaa", sum := "1b634fb803a1902c00bd0fc80fd02bd3ca8983cd185ab6fc5fe6dcfa0dcb4a6c", func := "loop.example/g00831/laws.FnExactChainsOf", spec := "fnExactChainsOf", apart := false }
def FnExactChainsOfSaid : Prop := fnExactChainsOfRow.holds Try.pinned (OpenSpec.ofChange fnExactChainsOfSpec)

/-- ITS FALSE NEIGHBOUR: 'it returns false'. Refute it at one input. -/
def fnExactChainsOfWrong : ChangeSpec := { name := "fnExactChainsOf", fn := fun _ => fun
  | [d] => { results := [.lit (.bool false)], args := [d] }
  | _ => none }
def FnExactChainsOfWrongFalsely : Prop := fnExactChainsOfRow.holds Try.pinned (OpenSpec.ofChange fnExactChainsOfWrong)

/- THE SECOND FORM. 'bulk': how many values and letters a reading holds, each counted each time it is reached (what is shared counts as often as it is met; a slice's spare places count too). A statement '..UptoSaid' is the law's where the arguments, and the package variables that the reading takes, are together of bulk at most 1048576: NARROWER than '..Said'. Prove '..Said' where nothing that the law and all that it calls make is longer than what came in: it says more and counts as full. Else prove '..UptoSaid'. A law counts once. -/
mutual
def uptoBulk {H : Type} : DataW H → Nat
  | .lit (.string bytes) => bytes.length + 1
  | .lit _ => 1
  | .nil => 1
  | .ptr d => uptoBulk d + 1
  | .slice elems spare => uptoBulkAll elems + uptoBulkAll spare + 1
  | .agg parts => uptoBulkAll parts + 1
  | .iface _ d => uptoBulk d + 1
  | .map entries => uptoBulkEntries entries + 1
  | .held _ => 1
def uptoBulkAll {H : Type} : List (DataW H) → Nat
  | [] => 0
  | d :: r => uptoBulk d + uptoBulkAll r
def uptoBulkEntries {H : Type} : List (Lit × DataW H) → Nat
  | [] => 0
  | x :: r => uptoBulkEntry x + uptoBulkEntries r
def uptoBulkEntry {H : Type} : Lit × DataW H → Nat
  | (.string bytes, d) => bytes.length + uptoBulk d + 1
  | (_, d) => uptoBulk d + 1
 end
def uptoSmall : (H : Type) → List (DataW H) → Bool := fun _ ds => decide (uptoBulkAll ds ≤ 1048576)
def OpenSpec.upto (s : _root_.Go.ChangeSpec) : _root_.Go.OpenSpec := { _root_.Go.OpenSpec.ofChange s with cond := some uptoSmall }

/-- 'laws.FnExactCrewOk', WHERE WHAT IT READS IS OF BULK AT MOST 1048576: true; the input reads as it did. -/
def fnExactCrewOkUptoRow : OpenClaim := { program := "ytkoghfeelonhhaa", sum := "1b634fb803a1902c00bd0fc80fd02bd3ca8983cd185ab6fc5fe6dcfa0dcb4a6c", func := "loop.example/g00831/laws.FnExactCrewOk", spec := "fnExactCrewOk", apart := false, narrowed := true }
def FnExactCrewOkUptoSaid : Prop := fnExactCrewOkUptoRow.holds Try.pinned (OpenSpec.upto fnExactCrewOkSpec)

/-- 'laws.FnExactMatesOk', WHERE WHAT IT READS IS OF BULK AT MOST 1048576: true; the input reads as it did. -/
def fnExactMatesOkUptoRow : OpenClaim := { program := "ytkoghfeelonhhaa", sum := "1b634fb803a1902c00bd0fc80fd02bd3ca8983cd185ab6fc5fe6dcfa0dcb4a6c", func := "loop.example/g00831/laws.FnExactMatesOk", spec := "fnExactMatesOk", apart := false, narrowed := true }
def FnExactMatesOkUptoSaid : Prop := fnExactMatesOkUptoRow.holds Try.pinned (OpenSpec.upto fnExactMatesOkSpec)

/-- 'laws.FnExactSameOptions', WHERE WHAT IT READS IS OF BULK AT MOST 1048576: true; the input reads as it did. -/
def fnExactSameOptionsUptoRow : OpenClaim := { program := "ytkoghfeelonhhaa", sum := "1b634fb803a1902c00bd0fc80fd02bd3ca8983cd185ab6fc5fe6dcfa0dcb4a6c", func := "loop.example/g00831/laws.FnExactSameOptions", spec := "fnExactSameOptions", apart := false, narrowed := true }
def FnExactSameOptionsUptoSaid : Prop := fnExactSameOptionsUptoRow.holds Try.pinned (OpenSpec.upto fnExactSameOptionsSpec)

/-- 'laws.FnExactPriceOf', WHERE WHAT IT READS IS OF BULK AT MOST 1048576: true; the input reads as it did. -/
def fnExactPriceOfUptoRow : OpenClaim := { program := "ytkoghfeelonhhaa", sum := "1b634fb803a1902c00bd0fc80fd02bd3ca8983cd185ab6fc5fe6dcfa0dcb4a6c", func := "loop.example/g00831/laws.FnExactPriceOf", spec := "fnExactPriceOf", apart := false, narrowed := true }
def FnExactPriceOfUptoSaid : Prop := fnExactPriceOfUptoRow.holds Try.pinned (OpenSpec.upto fnExactPriceOfSpec)

/-- 'laws.FnExactCostOf', WHERE WHAT IT READS IS OF BULK AT MOST 1048576: true; the input reads as it did. -/
def fnExactCostOfUptoRow : OpenClaim := { program := "ytkoghfeelonhhaa", sum := "1b634fb803a1902c00bd0fc80fd02bd3ca8983cd185ab6fc5fe6dcfa0dcb4a6c", func := "loop.example/g00831/laws.FnExactCostOf", spec := "fnExactCostOf", apart := false, narrowed := true }
def FnExactCostOfUptoSaid : Prop := fnExactCostOfUptoRow.holds Try.pinned (OpenSpec.upto fnExactCostOfSpec)

/-- 'laws.FnExactCheapestOption', WHERE WHAT IT READS IS OF BULK AT MOST 1048576: true; the input reads as it did. -/
def fnExactCheapestOptionUptoRow : OpenClaim := { program := "ytkoghfeelonhhaa", sum := "1b634fb803a1902c00bd0fc80fd02bd3ca8983cd185ab6fc5fe6dcfa0dcb4a6c", func := "loop.example/g00831/laws.FnExactCheapestOption", spec := "fnExactCheapestOption", apart := false, narrowed := true }
def FnExactCheapestOptionUptoSaid : Prop := fnExactCheapestOptionUptoRow.holds Try.pinned (OpenSpec.upto fnExactCheapestOptionSpec)

/-- 'laws.FnExactSailedBefore', WHERE WHAT IT READS IS OF BULK AT MOST 1048576: true; the input reads as it did. -/
def fnExactSailedBeforeUptoRow : OpenClaim := { program := "ytkoghfeelonhhaa", sum := "1b634fb803a1902c00bd0fc80fd02bd3ca8983cd185ab6fc5fe6dcfa0dcb4a6c", func := "loop.example/g00831/laws.FnExactSailedBefore", spec := "fnExactSailedBefore", apart := false, narrowed := true }
def FnExactSailedBeforeUptoSaid : Prop := fnExactSailedBeforeUptoRow.holds Try.pinned (OpenSpec.upto fnExactSailedBeforeSpec)

/-- 'laws.FnExactSelectCalls', WHERE WHAT IT READS IS OF BULK AT MOST 1048576: true; the input reads as it did. -/
def fnExactSelectCallsUptoRow : OpenClaim := { program := "ytkoghfeelonhhaa", sum := "1b634fb803a1902c00bd0fc80fd02bd3ca8983cd185ab6fc5fe6dcfa0dcb4a6c", func := "loop.example/g00831/laws.FnExactSelectCalls", spec := "fnExactSelectCalls", apart := false, narrowed := true }
def FnExactSelectCallsUptoSaid : Prop := fnExactSelectCallsUptoRow.holds Try.pinned (OpenSpec.upto fnExactSelectCallsSpec)

/-- 'laws.FnExactChangesOf', WHERE WHAT IT READS IS OF BULK AT MOST 1048576: true; the input reads as it did. -/
def fnExactChangesOfUptoRow : OpenClaim := { program := "ytkoghfeelonhhaa", sum := "1b634fb803a1902c00bd0fc80fd02bd3ca8983cd185ab6fc5fe6dcfa0dcb4a6c", func := "loop.example/g00831/laws.FnExactChangesOf", spec := "fnExactChangesOf", apart := false, narrowed := true }
def FnExactChangesOfUptoSaid : Prop := fnExactChangesOfUptoRow.holds Try.pinned (OpenSpec.upto fnExactChangesOfSpec)

/-- 'laws.FnExactPlanPrice', WHERE WHAT IT READS IS OF BULK AT MOST 1048576: true; the input reads as it did. -/
def fnExactPlanPriceUptoRow : OpenClaim := { program := "ytkoghfeelonhhaa", sum := "1b634fb803a1902c00bd0fc80fd02bd3ca8983cd185ab6fc5fe6dcfa0dcb4a6c", func := "loop.example/g00831/laws.FnExactPlanPrice", spec := "fnExactPlanPrice", apart := false, narrowed := true }
def FnExactPlanPriceUptoSaid : Prop := fnExactPlanPriceUptoRow.holds Try.pinned (OpenSpec.upto fnExactPlanPriceSpec)

/-- 'laws.FnExactChainsOf', WHERE WHAT IT READS IS OF BULK AT MOST 1048576: true; the input reads as it did. -/
def fnExactChainsOfUptoRow : OpenClaim := { program := "ytkoghfeelonhhaa", sum := "1b634fb803a1902c00bd0fc80fd02bd3ca8983cd185ab6fc5fe6dcfa0dcb4a6c", func := "loop.example/g00831/laws.FnExactChainsOf", spec := "fnExactChainsOf", apart := false, narrowed := true }
def FnExactChainsOfUptoSaid : Prop := fnExactChainsOfUptoRow.holds Try.pinned (OpenSpec.upto fnExactChainsOfSpec)

end Rows
end Go.Proofs.Ytkoghfeelonhhaa

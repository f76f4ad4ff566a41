/-
  No cell of these rows narrows 'for every input' (looked for: loops, veiled, ifaces, maps, wideKeys, modest, calm, conditions, laid).
  DERIVED. THE GIVEN ROWS OF THIS SEAT. 12 by the template 'for every input the law returns true; each argument reads behind the call as it read before'; 0 by the template 'total and deterministic' (their statements: YtdejfjdbcggilaaGreatTotals.lean).
  GIVEN WITH THE SEED: the statements are not yours to turn. If you find one false, say at which input.
  Laid BY PROGRAM, IN A SANDBOX (cutbox-rows.mjs): the forced cells as the released guide's own fill.sh prints them over the translation fc98d79e4ddea315… (all of the seat's roots in one cut). By AI agents, Wed Nov 11 2026. No macro, syntax, notation, axiom, sorry.
-/
import Derived.Test.YtdejfjdbcggilaaGreatChecked
import GoSem.Claim
import GoSem.ClaimJoined
import GoSem.ClaimMapViews
import Derived.JoinedTies
import Derived.KernelRfl
namespace Go.Proofs.YtdejfjdbcggilaaGreat
/- THE CELL 'sum', in the pinned program and in every row, IS THE sha256 OF THE DUMP (.gsa) THAT YtdejfjdbcggilaaGreatProg.lean LOADS. Nothing in Lean hashes anything: it is a label: what it is worth is what the hold of that sum in a sandbox is worth. -/
noncomputable def Tryz.pinned : Pinned := { name := "ytdejfjdbcggilaagreat", sum := "fc98d79e4ddea3158873060d6fa93d3a6bdc79c4846d1403c68a4efbe1077cef", checked := Tryz.checked }
namespace Rows
def none {H : Type} : Left H := { results := [], args := [] }

/-- 'laws.FnExactCanServe': WHATEVER THE INPUT: true; the input reads as it did. -/
def fnExactCanServeSpec : ChangeSpec := { name := "fnExactCanServe", fn := fun _ => fun
  | [d1, d2] => { results := [.lit (.bool true)], args := [d1, d2] }
  | _ => none }
def fnExactCanServeRow : OpenClaim := { program := "ytdejfjdbcggilaagreat", sum := "fc98d79e4ddea3158873060d6fa93d3a6bdc79c4846d1403c68a4efbe1077cef", func := "loop.example/g00831/laws.FnExactCanServe", spec := "fnExactCanServe", unfollowed := true, recurses := true, apart := false }
def FnExactCanServeSaid : Prop := fnExactCanServeRow.holds Tryz.pinned (OpenSpec.ofChange fnExactCanServeSpec)

/-- ITS FALSE NEIGHBOUR: 'it returns false'. Refute it at one input. -/
def fnExactCanServeWrong : ChangeSpec := { name := "fnExactCanServe", fn := fun _ => fun
  | [d1, d2] => { results := [.lit (.bool false)], args := [d1, d2] }
  | _ => none }
def FnExactCanServeWrongFalsely : Prop := fnExactCanServeRow.holds Tryz.pinned (OpenSpec.ofChange fnExactCanServeWrong)

/-- 'laws.FnExactServable': WHATEVER THE INPUT: true; the input reads as it did. -/
def fnExactServableSpec : ChangeSpec := { name := "fnExactServable", fn := fun _ => fun
  | [d1, d2, d3] => { results := [.lit (.bool true)], args := [d1, d2, d3] }
  | _ => none }
def fnExactServableRow : OpenClaim := { program := "ytdejfjdbcggilaagreat", sum := "fc98d79e4ddea3158873060d6fa93d3a6bdc79c4846d1403c68a4efbe1077cef", func := "loop.example/g00831/laws.FnExactServable", spec := "fnExactServable", unfollowed := true, recurses := true, apart := false }
def FnExactServableSaid : Prop := fnExactServableRow.holds Tryz.pinned (OpenSpec.ofChange fnExactServableSpec)

/-- ITS FALSE NEIGHBOUR: 'it returns false'. Refute it at one input. -/
def fnExactServableWrong : ChangeSpec := { name := "fnExactServable", fn := fun _ => fun
  | [d1, d2, d3] => { results := [.lit (.bool false)], args := [d1, d2, d3] }
  | _ => none }
def FnExactServableWrongFalsely : Prop := fnExactServableRow.holds Tryz.pinned (OpenSpec.ofChange fnExactServableWrong)

/-- 'laws.FnExactIsRefusal': WHATEVER THE INPUT: true; the input reads as it did. -/
def fnExactIsRefusalSpec : ChangeSpec := { name := "fnExactIsRefusal", fn := fun _ => fun
  | [d1, d2, d3] => { results := [.lit (.bool true)], args := [d1, d2, d3] }
  | _ => none }
def fnExactIsRefusalRow : OpenClaim := { program := "ytdejfjdbcggilaagreat", sum := "fc98d79e4ddea3158873060d6fa93d3a6bdc79c4846d1403c68a4efbe1077cef", func := "loop.example/g00831/laws.FnExactIsRefusal", spec := "fnExactIsRefusal", unfollowed := true, recurses := true, apart := false }
def FnExactIsRefusalSaid : Prop := fnExactIsRefusalRow.holds Tryz.pinned (OpenSpec.ofChange fnExactIsRefusalSpec)

/-- ITS FALSE NEIGHBOUR: 'it returns false'. Refute it at one input. -/
def fnExactIsRefusalWrong : ChangeSpec := { name := "fnExactIsRefusal", fn := fun _ => fun
  | [d1, d2, d3] => { results := [.lit (.bool false)], args := [d1, d2, d3] }
  | _ => none }
def FnExactIsRefusalWrongFalsely : Prop := fnExactIsRefusalRow.holds Tryz.pinned (OpenSpec.ofChange fnExactIsRefusalWrong)

/-- 'laws.FnExactDivertCount': WHATEVER THE INPUT: true; the input reads as it did. -/
def fnExactDivertCountSpec : ChangeSpec := { name := "fnExactDivertCount", fn := fun _ => fun
  | [d1, d2] => { results := [.lit (.bool true)], args := [d1, d2] }
  | _ => none }
def fnExactDivertCountRow : OpenClaim := { program := "ytdejfjdbcggilaagreat", sum := "fc98d79e4ddea3158873060d6fa93d3a6bdc79c4846d1403c68a4efbe1077cef", func := "loop.example/g00831/laws.FnExactDivertCount", spec := "fnExactDivertCount", unfollowed := true, recurses := true, apart := false }
def FnExactDivertCountSaid : Prop := fnExactDivertCountRow.holds Tryz.pinned (OpenSpec.ofChange fnExactDivertCountSpec)

/-- ITS FALSE NEIGHBOUR: 'it returns false'. Refute it at one input. -/
def fnExactDivertCountWrong : ChangeSpec := { name := "fnExactDivertCount", fn := fun _ => fun
  | [d1, d2] => { results := [.lit (.bool false)], args := [d1, d2] }
  | _ => none }
def FnExactDivertCountWrongFalsely : Prop := fnExactDivertCountRow.holds Tryz.pinned (OpenSpec.ofChange fnExactDivertCountWrong)

/-- 'laws.FnExactGapOf': WHATEVER THE INPUT: true; the input reads as it did. -/
def fnExactGapOfSpec : ChangeSpec := { name := "fnExactGapOf", fn := fun _ => fun
  | [d1, d2] => { results := [.lit (.bool true)], args := [d1, d2] }
  | _ => none }
def fnExactGapOfRow : OpenClaim := { program := "ytdejfjdbcggilaagreat", sum := "fc98d79e4ddea3158873060d6fa93d3a6bdc79c4846d1403c68a4efbe1077cef", func := "loop.example/g00831/laws.FnExactGapOf", spec := "fnExactGapOf", unfollowed := true, recurses := true, apart := false }
def FnExactGapOfSaid : Prop := fnExactGapOfRow.holds Tryz.pinned (OpenSpec.ofChange fnExactGapOfSpec)

/-- ITS FALSE NEIGHBOUR: 'it returns false'. Refute it at one input. -/
def fnExactGapOfWrong : ChangeSpec := { name := "fnExactGapOf", fn := fun _ => fun
  | [d1, d2] => { results := [.lit (.bool false)], args := [d1, d2] }
  | _ => none }
def FnExactGapOfWrongFalsely : Prop := fnExactGapOfRow.holds Tryz.pinned (OpenSpec.ofChange fnExactGapOfWrong)

/-- 'laws.FnExactRefusalOf': WHATEVER THE INPUT: true; the input reads as it did. -/
def fnExactRefusalOfSpec : ChangeSpec := { name := "fnExactRefusalOf", fn := fun _ => fun
  | [d1, d2] => { results := [.lit (.bool true)], args := [d1, d2] }
  | _ => none }
def fnExactRefusalOfRow : OpenClaim := { program := "ytdejfjdbcggilaagreat", sum := "fc98d79e4ddea3158873060d6fa93d3a6bdc79c4846d1403c68a4efbe1077cef", func := "loop.example/g00831/laws.FnExactRefusalOf", spec := "fnExactRefusalOf", unfollowed := true, recurses := true, apart := false }
def FnExactRefusalOfSaid : Prop := fnExactRefusalOfRow.holds Tryz.pinned (OpenSpec.ofChange fnExactRefusalOfSpec)

/-- ITS FALSE NEIGHBOUR: 'it returns false'. Refute it at one input. -/
def fnExactRefusalOfWrong : ChangeSpec := { name := "fnExactRefusalOf", fn := fun _ => fun
  | [d1, d2] => { results := [.lit (.bool false)], args := [d1, d2] }
  | _ => none }
def FnExactRefusalOfWrongFalsely : Prop := fnExactRefusalOfRow.holds Tryz.pinned (OpenSpec.ofChange fnExactRefusalOfWrong)

/-- 'laws.FnExactMostServed': WHATEVER THE INPUT: true; the input reads as it did. -/
def fnExactMostServedSpec : ChangeSpec := { name := "fnExactMostServed", fn := fun _ => fun
  | [d1, d2] => { results := [.lit (.bool true)], args := [d1, d2] }
  | _ => none }
def fnExactMostServedRow : OpenClaim := { program := "ytdejfjdbcggilaagreat", sum := "fc98d79e4ddea3158873060d6fa93d3a6bdc79c4846d1403c68a4efbe1077cef", func := "loop.example/g00831/laws.FnExactMostServed", spec := "fnExactMostServed", unfollowed := true, recurses := true, apart := false }
def FnExactMostServedSaid : Prop := fnExactMostServedRow.holds Tryz.pinned (OpenSpec.ofChange fnExactMostServedSpec)

/-- ITS FALSE NEIGHBOUR: 'it returns false'. Refute it at one input. -/
def fnExactMostServedWrong : ChangeSpec := { name := "fnExactMostServed", fn := fun _ => fun
  | [d1, d2] => { results := [.lit (.bool false)], args := [d1, d2] }
  | _ => none }
def FnExactMostServedWrongFalsely : Prop := fnExactMostServedRow.holds Tryz.pinned (OpenSpec.ofChange fnExactMostServedWrong)

/-- 'laws.FnExactBestMates': WHATEVER THE INPUT: true; the input reads as it did. -/
def fnExactBestMatesSpec : ChangeSpec := { name := "fnExactBestMates", fn := fun _ => fun
  | [d1, d2] => { results := [.lit (.bool true)], args := [d1, d2] }
  | _ => none }
def fnExactBestMatesRow : OpenClaim := { program := "ytdejfjdbcggilaagreat", sum := "fc98d79e4ddea3158873060d6fa93d3a6bdc79c4846d1403c68a4efbe1077cef", func := "loop.example/g00831/laws.FnExactBestMates", spec := "fnExactBestMates", unfollowed := true, recurses := true, apart := false }
def FnExactBestMatesSaid : Prop := fnExactBestMatesRow.holds Tryz.pinned (OpenSpec.ofChange fnExactBestMatesSpec)

/-- ITS FALSE NEIGHBOUR: 'it returns false'. Refute it at one input. -/
def fnExactBestMatesWrong : ChangeSpec := { name := "fnExactBestMates", fn := fun _ => fun
  | [d1, d2] => { results := [.lit (.bool false)], args := [d1, d2] }
  | _ => none }
def FnExactBestMatesWrongFalsely : Prop := fnExactBestMatesRow.holds Tryz.pinned (OpenSpec.ofChange fnExactBestMatesWrong)

/-- 'laws.FnPlans': WHATEVER THE INPUT: true; the input reads as it did. -/
def fnPlansSpec : ChangeSpec := { name := "fnPlans", fn := fun _ => fun
  | [d] => { results := [.lit (.bool true)], args := [d] }
  | _ => none }
def fnPlansRow : OpenClaim := { program := "ytdejfjdbcggilaagreat", sum := "fc98d79e4ddea3158873060d6fa93d3a6bdc79c4846d1403c68a4efbe1077cef", func := "loop.example/g00831/laws.FnPlans", spec := "fnPlans", unfollowed := true, recurses := true, apart := false }
def FnPlansSaid : Prop := fnPlansRow.holds Tryz.pinned (OpenSpec.ofChange fnPlansSpec)

/-- ITS FALSE NEIGHBOUR: 'it returns false'. Refute it at one input. -/
def fnPlansWrong : ChangeSpec := { name := "fnPlans", fn := fun _ => fun
  | [d] => { results := [.lit (.bool false)], args := [d] }
  | _ => none }
def FnPlansWrongFalsely : Prop := fnPlansRow.holds Tryz.pinned (OpenSpec.ofChange fnPlansWrong)

/-- 'laws.FnPairs': WHATEVER THE INPUT: true; the input reads as it did. -/
def fnPairsSpec : ChangeSpec := { name := "fnPairs", fn := fun _ => fun
  | [d] => { results := [.lit (.bool true)], args := [d] }
  | _ => none }
def fnPairsRow : OpenClaim := { program := "ytdejfjdbcggilaagreat", sum := "fc98d79e4ddea3158873060d6fa93d3a6bdc79c4846d1403c68a4efbe1077cef", func := "loop.example/g00831/laws.FnPairs", spec := "fnPairs", unfollowed := true, recurses := true, apart := false }
def FnPairsSaid : Prop := fnPairsRow.holds Tryz.pinned (OpenSpec.ofChange fnPairsSpec)

/-- ITS FALSE NEIGHBOUR: 'it returns false'. Refute it at one input. -/
def fnPairsWrong : ChangeSpec := { name := "fnPairs", fn := fun _ => fun
  | [d] => { results := [.lit (.bool false)], args := [d] }
  | _ => none }
def FnPairsWrongFalsely : Prop := fnPairsRow.holds Tryz.pinned (OpenSpec.ofChange fnPairsWrong)

/-- 'laws.FnRefusals': WHATEVER THE INPUT: true; the input reads as it did. -/
def fnRefusalsSpec : ChangeSpec := { name := "fnRefusals", fn := fun _ => fun
  | [d] => { results := [.lit (.bool true)], args := [d] }
  | _ => none }
def fnRefusalsRow : OpenClaim := { program := "ytdejfjdbcggilaagreat", sum := "fc98d79e4ddea3158873060d6fa93d3a6bdc79c4846d1403c68a4efbe1077cef", func := "loop.example/g00831/laws.FnRefusals", spec := "fnRefusals", unfollowed := true, recurses := true, apart := false }
def FnRefusalsSaid : Prop := fnRefusalsRow.holds Tryz.pinned (OpenSpec.ofChange fnRefusalsSpec)

/-- ITS FALSE NEIGHBOUR: 'it returns false'. Refute it at one input. -/
def fnRefusalsWrong : ChangeSpec := { name := "fnRefusals", fn := fun _ => fun
  | [d] => { results := [.lit (.bool false)], args := [d] }
  | _ => none }
def FnRefusalsWrongFalsely : Prop := fnRefusalsRow.holds Tryz.pinned (OpenSpec.ofChange fnRefusalsWrong)

/-- 'laws.FnBounds': WHATEVER THE INPUT: true; the input reads as it did. -/
def fnBoundsSpec : ChangeSpec := { name := "fnBounds", fn := fun _ => fun
  | [d] => { results := [.lit (.bool true)], args := [d] }
  | _ => none }
def fnBoundsRow : OpenClaim := { program := "ytdejfjdbcggilaagreat", sum := "fc98d79e4ddea3158873060d6fa93d3a6bdc79c4846d1403c68a4efbe1077cef", func := "loop.example/g00831/laws.FnBounds", spec := "fnBounds", unfollowed := true, recurses := true, apart := false }
def FnBoundsSaid : Prop := fnBoundsRow.holds Tryz.pinned (OpenSpec.ofChange fnBoundsSpec)

/-- ITS FALSE NEIGHBOUR: 'it returns false'. Refute it at one input. -/
def fnBoundsWrong : ChangeSpec := { name := "fnBounds", fn := fun _ => fun
  | [d] => { results := [.lit (.bool false)], args := [d] }
  | _ => none }
def FnBoundsWrongFalsely : Prop := fnBoundsRow.holds Tryz.pinned (OpenSpec.ofChange fnBoundsWrong)

/- THE SECOND FORM. 'bulk': how many values and letters a reading holds, each counted each time it is reached (what is shared counts as often as it is met; a slice's spare places count too). A statement '..UptoSaid' is the law's where the arguments, and the package variables that the reading takes, are together of bulk at most 1048576: NARROWER than '..Said'. Prove '..Said' where nothing that the law and all that it calls make is longer than what came in: it says more and counts as full. Else prove '..UptoSaid'. A law counts once. -/
mutual
def uptoBulk {H : Type} : DataW H → Nat
  | .lit (.string bytes) => bytes.length + 1
  | .lit _ => 1
  | .nil => 1
  | .ptr d => uptoBulk d + 1
  | .slice elems spare => uptoBulkAll elems + uptoBulkAll spare + 1
  | .agg parts => uptoBulkAll parts + 1
  | .iface _ d => uptoBulk d + 1
  | .map entries => uptoBulkEntries entries + 1
  | .held _ => 1
def uptoBulkAll {H : Type} : List (DataW H) → Nat
  | [] => 0
  | d :: r => uptoBulk d + uptoBulkAll r
def uptoBulkEntries {H : Type} : List (Lit × DataW H) → Nat
  | [] => 0
  | x :: r => uptoBulkEntry x + uptoBulkEntries r
def uptoBulkEntry {H : Type} : Lit × DataW H → Nat
  | (.string bytes, d) => bytes.length + uptoBulk d + 1
  | (_, d) => uptoBulk d + 1
 end
def uptoSmall : (H : Type) → List (DataW H) → Bool := fun _ ds => decide (uptoBulkAll ds ≤ 1048576)
def OpenSpec.upto (s : _root_.Go.ChangeSpec) : _root_.Go.OpenSpec := { _root_.Go.OpenSpec.ofChange s with cond := some uptoSmall }

/-- 'laws.FnExactCanServe', WHERE WHAT IT READS IS OF BULK AT MOST 1048576: true; the input reads as it did. -/
def fnExactCanServeUptoRow : OpenClaim := { program := "ytdejfjdbcggilaagreat", sum := "fc98d79e4ddea3158873060d6fa93d3a6bdc79c4846d1403c68a4efbe1077cef", func := "loop.example/g00831/laws.FnExactCanServe", spec := "fnExactCanServe", unfollowed := true, recurses := true, apart := false, narrowed := true }
def FnExactCanServeUptoSaid : Prop := fnExactCanServeUptoRow.holds Tryz.pinned (OpenSpec.upto fnExactCanServeSpec)

/-- 'laws.FnExactServable', WHERE WHAT IT READS IS OF BULK AT MOST 1048576: true; the input reads as it did. -/
def fnExactServableUptoRow : OpenClaim := { program := "ytdejfjdbcggilaagreat", sum := "fc98d79e4ddea3158873060d6fa93d3a6bdc79c4846d1403c68a4efbe1077cef", func := "loop.example/g00831/laws.FnExactServable", spec := "fnExactServable", unfollowed := true, recurses := true, apart := false, narrowed := true }
def FnExactServableUptoSaid : Prop := fnExactServableUptoRow.holds Tryz.pinned (OpenSpec.upto fnExactServableSpec)

/-- 'laws.FnExactIsRefusal', WHERE WHAT IT READS IS OF BULK AT MOST 1048576: true; the input reads as it did. -/
def fnExactIsRefusalUptoRow : OpenClaim := { program := "ytdejfjdbcggilaagreat", sum := "fc98d79e4ddea3158873060d6fa93d3a6bdc79c4846d1403c68a4efbe1077cef", func := "loop.example/g00831/laws.FnExactIsRefusal", spec := "fnExactIsRefusal", unfollowed := true, recurses := true, apart := false, narrowed := true }
def FnExactIsRefusalUptoSaid : Prop := fnExactIsRefusalUptoRow.holds Tryz.pinned (OpenSpec.upto fnExactIsRefusalSpec)

/-- 'laws.FnExactDivertCount', WHERE WHAT IT READS IS OF BULK AT MOST 1048576: true; the input reads as it did. -/
def fnExactDivertCountUptoRow : OpenClaim := { program := "ytdejfjdbcggilaagreat", sum := "fc98d79e4ddea3158873060d6fa93d3a6bdc79c4846d1403c68a4efbe1077cef", func := "loop.example/g00831/laws.FnExactDivertCount", spec := "fnExactDivertCount", unfollowed := true, recurses := true, apart := false, narrowed := true }
def FnExactDivertCountUptoSaid : Prop := fnExactDivertCountUptoRow.holds Tryz.pinned (OpenSpec.upto fnExactDivertCountSpec)

/-- 'laws.FnExactGapOf', WHERE WHAT IT READS IS OF BULK AT MOST 1048576: true; the input reads as it did. -/
def fnExactGapOfUptoRow : OpenClaim := { program := "ytdejfjdbcggilaagreat", sum := "fc98d79e4ddea3158873060d6fa93d3a6bdc79c4846d1403c68a4efbe1077cef", func := "loop.example/g00831/laws.FnExactGapOf", spec := "fnExactGapOf", unfollowed := true, recurses := true, apart := false, narrowed := true }
def FnExactGapOfUptoSaid : Prop := fnExactGapOfUptoRow.holds Tryz.pinned (OpenSpec.upto fnExactGapOfSpec)

/-- 'laws.FnExactRefusalOf', WHERE WHAT IT READS IS OF BULK AT MOST 1048576: true; the input reads as it did. -/
def fnExactRefusalOfUptoRow : OpenClaim := { program := "ytdejfjdbcggilaagreat", sum := "fc98d79e4ddea3158873060d6fa93d3a6bdc79c4846d1403c68a4efbe1077cef", func := "loop.example/g00831/laws.FnExactRefusalOf", spec := "fnExactRefusalOf", unfollowed := true, recurses := true, apart := false, narrowed := true }
def FnExactRefusalOfUptoSaid : Prop := fnExactRefusalOfUptoRow.holds Tryz.pinned (OpenSpec.upto fnExactRefusalOfSpec)

/-- 'laws.FnExactMostServed', WHERE WHAT IT READS IS OF BULK AT MOST 1048576: true; the input reads as it did. -/
def fnExactMostServedUptoRow : OpenClaim := { program := "ytdejfjdbcggilaagreat", sum := "fc98d79e4ddea3158873060d6fa93d3a6bdc79c4846d1403c68a4efbe1077cef", func := "loop.example/g00831/laws.FnExactMostServed", spec := "fnExactMostServed", unfollowed := true, recurses := true, apart := false, narrowed := true }
def FnExactMostServedUptoSaid : Prop := fnExactMostServedUptoRow.holds Tryz.pinned (OpenSpec.upto fnExactMostServedSpec)

/-- 'laws.FnExactBestMates', WHERE WHAT IT READS IS OF BULK AT MOST 1048576: true; the input reads as it did. -/
def fnExactBestMatesUptoRow : OpenClaim := { program := "ytdejfjdbcggilaagreat", sum := "fc98d79e4ddea3158873060d6fa93d3a6bdc79c4846d1403c68a4efbe1077cef", func := "loop.example/g00831/laws.FnExactBestMates", spec := "fnExactBestMates", unfollowed := true, recurses := true, apart := false, narrowed := true }
def FnExactBestMatesUptoSaid : Prop := fnExactBestMatesUptoRow.holds Tryz.pinned (OpenSpec.upto fnExactBestMatesSpec)

/-- 'laws.FnPlans', WHERE WHAT IT READS IS OF BULK AT MOST 1048576: true; the input reads as it did. -/
def fnPlansUptoRow : OpenClaim := { program := "ytdejfjdbcggilaagreat", sum := "fc98d79e4ddea3158873060d6fa93d3a6bdc79c4846d1403c68a4efbe1077cef", func := "loop.example/g00831/laws.FnPlans", spec := "fnPlans", unfollowed := true, recurses := true, apart := false, narrowed := true }
def FnPlansUptoSaid : Prop := fnPlansUptoRow.holds Tryz.pinned (OpenSpec.upto fnPlansSpec)

/-- 'laws.FnPairs', WHERE WHAT IT READS IS OF BULK AT MOST 1048576: true; the input reads as it did. -/
def fnPairsUptoRow : OpenClaim := { program := "ytdejfjdbcggilaagreat", sum := "fc98d79e4ddea3158873060d6fa93d3a6bdc79c4846d1403c68a4efbe1077cef", func := "loop.example/g00831/laws.FnPairs", spec := "fnPairs", unfollowed := true, recurses := true, apart := false, narrowed := true }
def FnPairsUptoSaid : Prop := fnPairsUptoRow.holds Tryz.pinned (OpenSpec.upto fnPairsSpec)

/-- 'laws.FnRefusals', WHERE WHAT IT READS IS OF BULK AT MOST 1048576: true; the input reads as it did. -/
def fnRefusalsUptoRow : OpenClaim := { program := "ytdejfjdbcggilaagreat", sum := "fc98d79e4ddea3158873060d6fa93d3a6bdc79c4846d1403c68a4efbe1077cef", func := "loop.example/g00831/laws.FnRefusals", spec := "fnRefusals", unfollowed := true, recurses := true, apart := false, narrowed := true }
def FnRefusalsUptoSaid : Prop := fnRefusalsUptoRow.holds Tryz.pinned (OpenSpec.upto fnRefusalsSpec)

/-- 'laws.FnBounds', WHERE WHAT IT READS IS OF BULK AT MOST 1048576: true; the input reads as it did. -/
def fnBoundsUptoRow : OpenClaim := { program := "ytdejfjdbcggilaagreat", sum := "fc98d79e4ddea3158873060d6fa93d3a6bdc79c4846d1403c68a4efbe1077cef", func := "loop.example/g00831/laws.FnBounds", spec := "fnBounds", unfollowed := true, recurses := true, apart := false, narrowed := true }
def FnBoundsUptoSaid : Prop := fnBoundsUptoRow.holds Tryz.pinned (OpenSpec.upto fnBoundsSpec)

end Rows
end Go.Proofs.YtdejfjdbcggilaaGreat

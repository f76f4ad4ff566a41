/-
  No cell of these rows narrows 'for every input' (looked for: loops, veiled, ifaces, maps, wideKeys, modest, calm, conditions, laid).
  DERIVED. THE GIVEN ROWS OF THIS SEAT. 6 by the template 'for every input the law returns true; each argument reads behind the call as it read before'; 0 by the template 'total and deterministic' (their statements: YtdeflkhkfmjckaaTotals.lean).
  GIVEN WITH THE SEED: the statements are not yours to turn. If you find one false, say at which input.
  Laid BY PROGRAM, IN A SANDBOX (cutbox-rows.mjs): the forced cells as the released guide's own fill.sh prints them over the translation f02d5a359b48facc… (all of the seat's roots in one cut). By AI agents, Wed Nov 11 2026. No macro, syntax, notation, axiom, sorry.
-/
import Derived.Test.YtdeflkhkfmjckaaChecked
import GoSem.Claim
import GoSem.ClaimJoined
import GoSem.ClaimMapViews
import Derived.JoinedTies
import Derived.KernelRfl
namespace Go.Proofs.Ytdeflkhkfmjckaa
/- THE CELL 'sum', in the pinned program and in every row, IS THE sha256 OF THE DUMP (.gsa) THAT YtdeflkhkfmjckaaProg.lean LOADS. Nothing in Lean hashes anything: it is a label: what it is worth is what the hold of that sum in a sandbox is worth. -/
noncomputable def Try.pinned : Pinned := { name := "ytdeflkhkfmjckaa", sum := "f02d5a359b48facceb741b1fb997d5aba198f1f204e1c705daa5735c3ba7d675", checked := Try.checked }
namespace Rows
def none {H : Type} : Left H := { results := [], args := [] }

/-- 'laws.FnInOrder': WHATEVER THE INPUT: true; the input reads as it did. -/
def fnInOrderSpec : ChangeSpec := { name := "fnInOrder", fn := fun _ => fun
  | [d] => { results := [.lit (.bool true)], args := [d] }
  | _ => none }
def fnInOrderRow : OpenClaim := { program := "ytdeflkhkfmjckaa", sum := "f02d5a359b48facceb741b1fb997d5aba198f1f204e1c705daa5735c3ba7d675", func := "loop.example/g00831/laws.FnInOrder", spec := "fnInOrder", unfollowed := true, recurses := true, apart := false }
def FnInOrderSaid : Prop := fnInOrderRow.holds Try.pinned (OpenSpec.ofChange fnInOrderSpec)

/-- ITS FALSE NEIGHBOUR: 'it returns false'. Refute it at one input. -/
def fnInOrderWrong : ChangeSpec := { name := "fnInOrder", fn := fun _ => fun
  | [d] => { results := [.lit (.bool false)], args := [d] }
  | _ => none }
def FnInOrderWrongFalsely : Prop := fnInOrderRow.holds Try.pinned (OpenSpec.ofChange fnInOrderWrong)

/-- 'laws.FnSails': WHATEVER THE INPUT: true; the input reads as it did. -/
def fnSailsSpec : ChangeSpec := { name := "fnSails", fn := fun _ => fun
  | [d] => { results := [.lit (.bool true)], args := [d] }
  | _ => none }
def fnSailsRow : OpenClaim := { program := "ytdeflkhkfmjckaa", sum := "f02d5a359b48facceb741b1fb997d5aba198f1f204e1c705daa5735c3ba7d675", func := "loop.example/g00831/laws.FnSails", spec := "fnSails", unfollowed := true, recurses := true, apart := false }
def FnSailsSaid : Prop := fnSailsRow.holds Try.pinned (OpenSpec.ofChange fnSailsSpec)

/-- ITS FALSE NEIGHBOUR: 'it returns false'. Refute it at one input. -/
def fnSailsWrong : ChangeSpec := { name := "fnSails", fn := fun _ => fun
  | [d] => { results := [.lit (.bool false)], args := [d] }
  | _ => none }
def FnSailsWrongFalsely : Prop := fnSailsRow.holds Try.pinned (OpenSpec.ofChange fnSailsWrong)

/-- 'laws.FnChoices': WHATEVER THE INPUT: true; the input reads as it did. -/
def fnChoicesSpec : ChangeSpec := { name := "fnChoices", fn := fun _ => fun
  | [d] => { results := [.lit (.bool true)], args := [d] }
  | _ => none }
def fnChoicesRow : OpenClaim := { program := "ytdeflkhkfmjckaa", sum := "f02d5a359b48facceb741b1fb997d5aba198f1f204e1c705daa5735c3ba7d675", func := "loop.example/g00831/laws.FnChoices", spec := "fnChoices", unfollowed := true, recurses := true, apart := false }
def FnChoicesSaid : Prop := fnChoicesRow.holds Try.pinned (OpenSpec.ofChange fnChoicesSpec)

/-- ITS FALSE NEIGHBOUR: 'it returns false'. Refute it at one input. -/
def fnChoicesWrong : ChangeSpec := { name := "fnChoices", fn := fun _ => fun
  | [d] => { results := [.lit (.bool false)], args := [d] }
  | _ => none }
def FnChoicesWrongFalsely : Prop := fnChoicesRow.holds Try.pinned (OpenSpec.ofChange fnChoicesWrong)

/-- 'laws.FnOptions': WHATEVER THE INPUT: true; the input reads as it did. -/
def fnOptionsSpec : ChangeSpec := { name := "fnOptions", fn := fun _ => fun
  | [d] => { results := [.lit (.bool true)], args := [d] }
  | _ => none }
def fnOptionsRow : OpenClaim := { program := "ytdeflkhkfmjckaa", sum := "f02d5a359b48facceb741b1fb997d5aba198f1f204e1c705daa5735c3ba7d675", func := "loop.example/g00831/laws.FnOptions", spec := "fnOptions", unfollowed := true, recurses := true, apart := false }
def FnOptionsSaid : Prop := fnOptionsRow.holds Try.pinned (OpenSpec.ofChange fnOptionsSpec)

/-- ITS FALSE NEIGHBOUR: 'it returns false'. Refute it at one input. -/
def fnOptionsWrong : ChangeSpec := { name := "fnOptions", fn := fun _ => fun
  | [d] => { results := [.lit (.bool false)], args := [d] }
  | _ => none }
def FnOptionsWrongFalsely : Prop := fnOptionsRow.holds Try.pinned (OpenSpec.ofChange fnOptionsWrong)

/-- 'laws.FnRobust': WHATEVER THE INPUT: true; the input reads as it did. -/
def fnRobustSpec : ChangeSpec := { name := "fnRobust", fn := fun _ => fun
  | [d] => { results := [.lit (.bool true)], args := [d] }
  | _ => none }
def fnRobustRow : OpenClaim := { program := "ytdeflkhkfmjckaa", sum := "f02d5a359b48facceb741b1fb997d5aba198f1f204e1c705daa5735c3ba7d675", func := "loop.example/g00831/laws.FnRobust", spec := "fnRobust", unfollowed := true, recurses := true, apart := false }
def FnRobustSaid : Prop := fnRobustRow.holds Try.pinned (OpenSpec.ofChange fnRobustSpec)

/-- ITS FALSE NEIGHBOUR: 'it returns false'. Refute it at one input. -/
def fnRobustWrong : ChangeSpec := { name := "fnRobust", fn := fun _ => fun
  | [d] => { results := [.lit (.bool false)], args := [d] }
  | _ => none }
def FnRobustWrongFalsely : Prop := fnRobustRow.holds Try.pinned (OpenSpec.ofChange fnRobustWrong)

/-- 'laws.FnPilots': WHATEVER THE INPUT: true; the input reads as it did. -/
def fnPilotsSpec : ChangeSpec := { name := "fnPilots", fn := fun _ => fun
  | [d] => { results := [.lit (.bool true)], args := [d] }
  | _ => none }
def fnPilotsRow : OpenClaim := { program := "ytdeflkhkfmjckaa", sum := "f02d5a359b48facceb741b1fb997d5aba198f1f204e1c705daa5735c3ba7d675", func := "loop.example/g00831/laws.FnPilots", spec := "fnPilots", unfollowed := true, recurses := true, apart := false }
def FnPilotsSaid : Prop := fnPilotsRow.holds Try.pinned (OpenSpec.ofChange fnPilotsSpec)

/-- ITS FALSE NEIGHBOUR: 'it returns false'. Refute it at one input. -/
def fnPilotsWrong : ChangeSpec := { name := "fnPilots", fn := fun _ => fun
  | [d] => { results := [.lit (.bool false)], args := [d] }
  | _ => none }
def FnPilotsWrongFalsely : Prop := fnPilotsRow.holds Try.pinned (OpenSpec.ofChange fnPilotsWrong)

/- THE SECOND FORM. 'bulk': how many values and letters a reading holds, each counted each time it is reached (what is shared counts as often as it is met; a slice's spare places count too). A statement '..UptoSaid' is the law's where the arguments, and the package variables that the reading takes, are together of bulk at most 1048576: NARROWER than '..Said'. Prove '..Said' where nothing that the law and all that it calls make is longer than what came in: it says more and counts as full. Else prove '..UptoSaid'. A law counts once. -/
mutual
def uptoBulk {H : Type} : DataW H → Nat
  | .lit (.string bytes) => bytes.length + 1
  | .lit _ => 1
  | .nil => 1
  | .ptr d => uptoBulk d + 1
  | .slice elems spare => uptoBulkAll elems + uptoBulkAll spare + 1
  | .agg parts => uptoBulkAll parts + 1
  | .iface _ d => uptoBulk d + 1
  | .map entries => uptoBulkEntries entries + 1
  | .held _ => 1
def uptoBulkAll {H : Type} : List (DataW H) → Nat
  | [] => 0
  | d :: r => uptoBulk d + uptoBulkAll r
def uptoBulkEntries {H : Type} : List (Lit × DataW H) → Nat
  | [] => 0
  | x :: r => uptoBulkEntry x + uptoBulkEntries r
def uptoBulkEntry {H : Type} : Lit × DataW H → Nat
  | (.string bytes, d) => bytes.length + uptoBulk d + 1
  | (_, d) => uptoBulk d + 1
 end
def uptoSmall : (H : Type) → List (DataW H) → Bool := fun _ ds => decide (uptoBulkAll ds ≤ 1048576)
def OpenSpec.upto (s : _root_.Go.ChangeSpec) : _root_.Go.OpenSpec := { _root_.Go.OpenSpec.ofChange s with cond := some uptoSmall }

/-- 'laws.FnInOrder', WHERE WHAT IT READS IS OF BULK AT MOST 1048576: true; the input reads as it did. -/
def fnInOrderUptoRow : OpenClaim := { program := "ytdeflkhkfmjckaa", sum := "f02d5a359b48facceb741b1fb997d5aba198f1f204e1c705daa5735c3ba7d675", func := "loop.example/g00831/laws.FnInOrder", spec := "fnInOrder", unfollowed := true, recurses := true, apart := false, narrowed := true }
def FnInOrderUptoSaid : Prop := fnInOrderUptoRow.holds Try.pinned (OpenSpec.upto fnInOrderSpec)

/-- 'laws.FnSails', WHERE WHAT IT READS IS OF BULK AT MOST 1048576: true; the input reads as it did. -/
def fnSailsUptoRow : OpenClaim := { program := "ytdeflkhkfmjckaa", sum := "f02d5a359b48facceb741b1fb997d5aba198f1f204e1c705daa5735c3ba7d675", func := "loop.example/g00831/laws.FnSails", spec := "fnSails", unfollowed := true, recurses := true, apart := false, narrowed := true }
def FnSailsUptoSaid : Prop := fnSailsUptoRow.holds Try.pinned (OpenSpec.upto fnSailsSpec)

/-- 'laws.FnChoices', WHERE WHAT IT READS IS OF BULK AT MOST 1048576: true; the input reads as it did. -/
def fnChoicesUptoRow : OpenClaim := { program := "ytdeflkhkfmjckaa", sum := "f02d5a359b48facceb741b1fb997d5aba198f1f204e1c705daa5735c3ba7d675", func := "loop.example/g00831/laws.FnChoices", spec := "fnChoices", unfollowed := true, recurses := true, apart := false, narrowed := true }
def FnChoicesUptoSaid : Prop := fnChoicesUptoRow.holds Try.pinned (OpenSpec.upto fnChoicesSpec)

/-- 'laws.FnOptions', WHERE WHAT IT READS IS OF BULK AT MOST 1048576: true; the input reads as it did. -/
def fnOptionsUptoRow : OpenClaim := { program := "ytdeflkhkfmjckaa", sum := "f02d5a359b48facceb741b1fb997d5aba198f1f204e1c705daa5735c3ba7d675", func := "loop.example/g00831/laws.FnOptions", spec := "fnOptions", unfollowed := true, recurses := true, apart := false, narrowed := true }
def FnOptionsUptoSaid : Prop := fnOptionsUptoRow.holds Try.pinned (OpenSpec.upto fnOptionsSpec)

/-- 'laws.FnRobust', WHERE WHAT IT READS IS OF BULK AT MOST 1048576: true; the input reads as it did. -/
def fnRobustUptoRow : OpenClaim := { program := "ytdeflkhkfmjckaa", sum := "f02d5a359b48facceb741b1fb997d5aba198f1f204e1c705daa5735c3ba7d675", func := "loop.example/g00831/laws.FnRobust", spec := "fnRobust", unfollowed := true, recurses := true, apart := false, narrowed := true }
def FnRobustUptoSaid : Prop := fnRobustUptoRow.holds Try.pinned (OpenSpec.upto fnRobustSpec)

/-- 'laws.FnPilots', WHERE WHAT IT READS IS OF BULK AT MOST 1048576: true; the input reads as it did. -/
def fnPilotsUptoRow : OpenClaim := { program := "ytdeflkhkfmjckaa", sum := "f02d5a359b48facceb741b1fb997d5aba198f1f204e1c705daa5735c3ba7d675", func := "loop.example/g00831/laws.FnPilots", spec := "fnPilots", unfollowed := true, recurses := true, apart := false, narrowed := true }
def FnPilotsUptoSaid : Prop := fnPilotsUptoRow.holds Try.pinned (OpenSpec.upto fnPilotsSpec)

end Rows
end Go.Proofs.Ytdeflkhkfmjckaa

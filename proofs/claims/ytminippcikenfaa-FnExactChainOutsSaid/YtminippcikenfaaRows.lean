/-
  No cell of these rows narrows 'for every input' (looked for: loops, veiled, ifaces, maps, wideKeys, modest, calm, conditions, laid).
  DERIVED. THE GIVEN ROWS OF THIS SEAT. 8 by the template 'for every input the law returns true; each argument reads behind the call as it read before'; 0 by the template 'total and deterministic' (their statements: YtminippcikenfaaTotals.lean).
  GIVEN WITH THE SEED: the statements are not yours to turn. If you find one false, say at which input.
  Laid BY PROGRAM, IN A SANDBOX (cutbox-rows.mjs): the forced cells as the released guide's own fill.sh prints them over the translation e04ef562a3640961… (all of the seat's roots in one cut). By AI agents, Wed Nov 11 2026. No macro, syntax, notation, axiom, sorry.
-/
import Derived.Test.YtminippcikenfaaChecked
import GoSem.Claim
import GoSem.ClaimJoined
import GoSem.ClaimMapViews
import Derived.JoinedTies
import Derived.KernelRfl
namespace Go.Proofs.Ytminippcikenfaa
/- THE CELL 'sum', in the pinned program and in every row, IS THE sha256 OF THE DUMP (.gsa) THAT YtminippcikenfaaProg.lean LOADS. Nothing in Lean hashes anything: it is a label: what it is worth is what the hold of that sum in a sandbox is worth. -/
noncomputable def Try.pinned : Pinned := { name := "ytminippcikenfaa", sum := "e04ef562a3640961f55aa1de0e96c6f03fd05c22de4d3c61bf7677bf5f433ac7", checked := Try.checked }
namespace Rows
def none {H : Type} : Left H := { results := [], args := [] }

/-- 'laws.FnExactSpiltOf': WHATEVER THE INPUT: true; the input reads as it did. -/
def fnExactSpiltOfSpec : ChangeSpec := { name := "fnExactSpiltOf", fn := fun _ => fun
  | [d1, d2, d3] => { results := [.lit (.bool true)], args := [d1, d2, d3] }
  | _ => none }
def fnExactSpiltOfRow : OpenClaim := { program := "ytminippcikenfaa", sum := "e04ef562a3640961f55aa1de0e96c6f03fd05c22de4d3c61bf7677bf5f433ac7", func := "loop.example/g01208/laws.FnExactSpiltOf", spec := "fnExactSpiltOf", unfollowed := true, recurses := true, plainKeys := false, apart := false }
def FnExactSpiltOfSaid : Prop := fnExactSpiltOfRow.holds Try.pinned (OpenSpec.ofChange fnExactSpiltOfSpec)

/-- ITS FALSE NEIGHBOUR: 'it returns false'. Refute it at one input. -/
def fnExactSpiltOfWrong : ChangeSpec := { name := "fnExactSpiltOf", fn := fun _ => fun
  | [d1, d2, d3] => { results := [.lit (.bool false)], args := [d1, d2, d3] }
  | _ => none }
def FnExactSpiltOfWrongFalsely : Prop := fnExactSpiltOfRow.holds Try.pinned (OpenSpec.ofChange fnExactSpiltOfWrong)

/-- 'laws.FnExactOutsOf': WHATEVER THE INPUT: true; the input reads as it did. -/
def fnExactOutsOfSpec : ChangeSpec := { name := "fnExactOutsOf", fn := fun _ => fun
  | [d1, d2, d3] => { results := [.lit (.bool true)], args := [d1, d2, d3] }
  | _ => none }
def fnExactOutsOfRow : OpenClaim := { program := "ytminippcikenfaa", sum := "e04ef562a3640961f55aa1de0e96c6f03fd05c22de4d3c61bf7677bf5f433ac7", func := "loop.example/g01208/laws.FnExactOutsOf", spec := "fnExactOutsOf", unfollowed := true, recurses := true, plainKeys := false, apart := false }
def FnExactOutsOfSaid : Prop := fnExactOutsOfRow.holds Try.pinned (OpenSpec.ofChange fnExactOutsOfSpec)

/-- ITS FALSE NEIGHBOUR: 'it returns false'. Refute it at one input. -/
def fnExactOutsOfWrong : ChangeSpec := { name := "fnExactOutsOf", fn := fun _ => fun
  | [d1, d2, d3] => { results := [.lit (.bool false)], args := [d1, d2, d3] }
  | _ => none }
def FnExactOutsOfWrongFalsely : Prop := fnExactOutsOfRow.holds Try.pinned (OpenSpec.ofChange fnExactOutsOfWrong)

/-- 'laws.FnExactLevelsOf': WHATEVER THE INPUT: true; the input reads as it did. -/
def fnExactLevelsOfSpec : ChangeSpec := { name := "fnExactLevelsOf", fn := fun _ => fun
  | [d1, d2, d3] => { results := [.lit (.bool true)], args := [d1, d2, d3] }
  | _ => none }
def fnExactLevelsOfRow : OpenClaim := { program := "ytminippcikenfaa", sum := "e04ef562a3640961f55aa1de0e96c6f03fd05c22de4d3c61bf7677bf5f433ac7", func := "loop.example/g01208/laws.FnExactLevelsOf", spec := "fnExactLevelsOf", unfollowed := true, recurses := true, plainKeys := false, apart := false }
def FnExactLevelsOfSaid : Prop := fnExactLevelsOfRow.holds Try.pinned (OpenSpec.ofChange fnExactLevelsOfSpec)

/-- ITS FALSE NEIGHBOUR: 'it returns false'. Refute it at one input. -/
def fnExactLevelsOfWrong : ChangeSpec := { name := "fnExactLevelsOf", fn := fun _ => fun
  | [d1, d2, d3] => { results := [.lit (.bool false)], args := [d1, d2, d3] }
  | _ => none }
def FnExactLevelsOfWrongFalsely : Prop := fnExactLevelsOfRow.holds Try.pinned (OpenSpec.ofChange fnExactLevelsOfWrong)

/-- 'laws.FnExactChainOuts': WHATEVER THE INPUT: true; the input reads as it did. -/
def fnExactChainOutsSpec : ChangeSpec := { name := "fnExactChainOuts", fn := fun _ => fun
  | [d1, d2] => { results := [.lit (.bool true)], args := [d1, d2] }
  | _ => none }
def fnExactChainOutsRow : OpenClaim := { program := "ytminippcikenfaa", sum := "e04ef562a3640961f55aa1de0e96c6f03fd05c22de4d3c61bf7677bf5f433ac7", func := "loop.example/g01208/laws.FnExactChainOuts", spec := "fnExactChainOuts", unfollowed := true, recurses := true, plainKeys := false, apart := false }
def FnExactChainOutsSaid : Prop := fnExactChainOutsRow.holds Try.pinned (OpenSpec.ofChange fnExactChainOutsSpec)

/-- ITS FALSE NEIGHBOUR: 'it returns false'. Refute it at one input. -/
def fnExactChainOutsWrong : ChangeSpec := { name := "fnExactChainOuts", fn := fun _ => fun
  | [d1, d2] => { results := [.lit (.bool false)], args := [d1, d2] }
  | _ => none }
def FnExactChainOutsWrongFalsely : Prop := fnExactChainOutsRow.holds Try.pinned (OpenSpec.ofChange fnExactChainOutsWrong)

/-- 'laws.FnExactMostWaterFor': WHATEVER THE INPUT: true; the input reads as it did. -/
def fnExactMostWaterForSpec : ChangeSpec := { name := "fnExactMostWaterFor", fn := fun _ => fun
  | [d1, d2, d3] => { results := [.lit (.bool true)], args := [d1, d2, d3] }
  | _ => none }
def fnExactMostWaterForRow : OpenClaim := { program := "ytminippcikenfaa", sum := "e04ef562a3640961f55aa1de0e96c6f03fd05c22de4d3c61bf7677bf5f433ac7", func := "loop.example/g01208/laws.FnExactMostWaterFor", spec := "fnExactMostWaterFor", unfollowed := true, recurses := true, plainKeys := false, apart := false }
def FnExactMostWaterForSaid : Prop := fnExactMostWaterForRow.holds Try.pinned (OpenSpec.ofChange fnExactMostWaterForSpec)

/-- ITS FALSE NEIGHBOUR: 'it returns false'. Refute it at one input. -/
def fnExactMostWaterForWrong : ChangeSpec := { name := "fnExactMostWaterFor", fn := fun _ => fun
  | [d1, d2, d3] => { results := [.lit (.bool false)], args := [d1, d2, d3] }
  | _ => none }
def FnExactMostWaterForWrongFalsely : Prop := fnExactMostWaterForRow.holds Try.pinned (OpenSpec.ofChange fnExactMostWaterForWrong)

/-- 'laws.FnExactLeastWaterFor': WHATEVER THE INPUT: true; the input reads as it did. -/
def fnExactLeastWaterForSpec : ChangeSpec := { name := "fnExactLeastWaterFor", fn := fun _ => fun
  | [d1, d2, d3] => { results := [.lit (.bool true)], args := [d1, d2, d3] }
  | _ => none }
def fnExactLeastWaterForRow : OpenClaim := { program := "ytminippcikenfaa", sum := "e04ef562a3640961f55aa1de0e96c6f03fd05c22de4d3c61bf7677bf5f433ac7", func := "loop.example/g01208/laws.FnExactLeastWaterFor", spec := "fnExactLeastWaterFor", unfollowed := true, recurses := true, plainKeys := false, apart := false }
def FnExactLeastWaterForSaid : Prop := fnExactLeastWaterForRow.holds Try.pinned (OpenSpec.ofChange fnExactLeastWaterForSpec)

/-- ITS FALSE NEIGHBOUR: 'it returns false'. Refute it at one input. -/
def fnExactLeastWaterForWrong : ChangeSpec := { name := "fnExactLeastWaterFor", fn := fun _ => fun
  | [d1, d2, d3] => { results := [.lit (.bool false)], args := [d1, d2, d3] }
  | _ => none }
def FnExactLeastWaterForWrongFalsely : Prop := fnExactLeastWaterForRow.holds Try.pinned (OpenSpec.ofChange fnExactLeastWaterForWrong)

/-- 'laws.FnExactLeastTraffic': WHATEVER THE INPUT: true; the input reads as it did. -/
def fnExactLeastTrafficSpec : ChangeSpec := { name := "fnExactLeastTraffic", fn := fun _ => fun
  | [d1, d2, d3] => { results := [.lit (.bool true)], args := [d1, d2, d3] }
  | _ => none }
def fnExactLeastTrafficRow : OpenClaim := { program := "ytminippcikenfaa", sum := "e04ef562a3640961f55aa1de0e96c6f03fd05c22de4d3c61bf7677bf5f433ac7", func := "loop.example/g01208/laws.FnExactLeastTraffic", spec := "fnExactLeastTraffic", unfollowed := true, recurses := true, plainKeys := false, apart := false }
def FnExactLeastTrafficSaid : Prop := fnExactLeastTrafficRow.holds Try.pinned (OpenSpec.ofChange fnExactLeastTrafficSpec)

/-- ITS FALSE NEIGHBOUR: 'it returns false'. Refute it at one input. -/
def fnExactLeastTrafficWrong : ChangeSpec := { name := "fnExactLeastTraffic", fn := fun _ => fun
  | [d1, d2, d3] => { results := [.lit (.bool false)], args := [d1, d2, d3] }
  | _ => none }
def FnExactLeastTrafficWrongFalsely : Prop := fnExactLeastTrafficRow.holds Try.pinned (OpenSpec.ofChange fnExactLeastTrafficWrong)

/-- 'laws.FnExactMixedShare': WHATEVER THE INPUT: true; the input reads as it did. -/
def fnExactMixedShareSpec : ChangeSpec := { name := "fnExactMixedShare", fn := fun _ => fun
  | [d] => { results := [.lit (.bool true)], args := [d] }
  | _ => none }
def fnExactMixedShareRow : OpenClaim := { program := "ytminippcikenfaa", sum := "e04ef562a3640961f55aa1de0e96c6f03fd05c22de4d3c61bf7677bf5f433ac7", func := "loop.example/g01208/laws.FnExactMixedShare", spec := "fnExactMixedShare", unfollowed := true, recurses := true, plainKeys := false, apart := false }
def FnExactMixedShareSaid : Prop := fnExactMixedShareRow.holds Try.pinned (OpenSpec.ofChange fnExactMixedShareSpec)

/-- ITS FALSE NEIGHBOUR: 'it returns false'. Refute it at one input. -/
def fnExactMixedShareWrong : ChangeSpec := { name := "fnExactMixedShare", fn := fun _ => fun
  | [d] => { results := [.lit (.bool false)], args := [d] }
  | _ => none }
def FnExactMixedShareWrongFalsely : Prop := fnExactMixedShareRow.holds Try.pinned (OpenSpec.ofChange fnExactMixedShareWrong)

/- THE SECOND FORM. 'bulk': how many values and letters a reading holds, each counted each time it is reached (what is shared counts as often as it is met; a slice's spare places count too). A statement '..UptoSaid' is the law's where the arguments, and the package variables that the reading takes, are together of bulk at most 1048576: NARROWER than '..Said'. Prove '..Said' where nothing that the law and all that it calls make is longer than what came in: it says more and counts as full. Else prove '..UptoSaid'. A law counts once. -/
mutual
def uptoBulk {H : Type} : DataW H → Nat
  | .lit (.string bytes) => bytes.length + 1
  | .lit _ => 1
  | .nil => 1
  | .ptr d => uptoBulk d + 1
  | .slice elems spare => uptoBulkAll elems + uptoBulkAll spare + 1
  | .agg parts => uptoBulkAll parts + 1
  | .iface _ d => uptoBulk d + 1
  | .map entries => uptoBulkEntries entries + 1
  | .held _ => 1
def uptoBulkAll {H : Type} : List (DataW H) → Nat
  | [] => 0
  | d :: r => uptoBulk d + uptoBulkAll r
def uptoBulkEntries {H : Type} : List (Lit × DataW H) → Nat
  | [] => 0
  | x :: r => uptoBulkEntry x + uptoBulkEntries r
def uptoBulkEntry {H : Type} : Lit × DataW H → Nat
  | (.string bytes, d) => bytes.length + uptoBulk d + 1
  | (_, d) => uptoBulk d + 1
 end
def uptoSmall : (H : Type) → List (DataW H) → Bool := fun _ ds => decide (uptoBulkAll ds ≤ 1048576)
def OpenSpec.upto (s : _root_.Go.ChangeSpec) : _root_.Go.OpenSpec := { _root_.Go.OpenSpec.ofChange s with cond := some uptoSmall }

/-- 'laws.FnExactSpiltOf', WHERE WHAT IT READS IS OF BULK AT MOST 1048576: true; the input reads as it did. -/
def fnExactSpiltOfUptoRow : OpenClaim := { program := "ytminippcikenfaa", sum := "e04ef562a3640961f55aa1de0e96c6f03fd05c22de4d3c61bf7677bf5f433ac7", func := "loop.example/g01208/laws.FnExactSpiltOf", spec := "fnExactSpiltOf", unfollowed := true, recurses := true, plainKeys := false, apart := false, narrowed := true }
def FnExactSpiltOfUptoSaid : Prop := fnExactSpiltOfUptoRow.holds Try.pinned (OpenSpec.upto fnExactSpiltOfSpec)

/-- 'laws.FnExactOutsOf', WHERE WHAT IT READS IS OF BULK AT MOST 1048576: true; the input reads as it did. -/
def fnExactOutsOfUptoRow : OpenClaim := { program := "ytminippcikenfaa", sum := "e04ef562a3640961f55aa1de0e96c6f03fd05c22de4d3c61bf7677bf5f433ac7", func := "loop.example/g01208/laws.FnExactOutsOf", spec := "fnExactOutsOf", unfollowed := true, recurses := true, plainKeys := false, apart := false, narrowed := true }
def FnExactOutsOfUptoSaid : Prop := fnExactOutsOfUptoRow.holds Try.pinned (OpenSpec.upto fnExactOutsOfSpec)

/-- 'laws.FnExactLevelsOf', WHERE WHAT IT READS IS OF BULK AT MOST 1048576: true; the input reads as it did. -/
def fnExactLevelsOfUptoRow : OpenClaim := { program := "ytminippcikenfaa", sum := "e04ef562a3640961f55aa1de0e96c6f03fd05c22de4d3c61bf7677bf5f433ac7", func := "loop.example/g01208/laws.FnExactLevelsOf", spec := "fnExactLevelsOf", unfollowed := true, recurses := true, plainKeys := false, apart := false, narrowed := true }
def FnExactLevelsOfUptoSaid : Prop := fnExactLevelsOfUptoRow.holds Try.pinned (OpenSpec.upto fnExactLevelsOfSpec)

/-- 'laws.FnExactChainOuts', WHERE WHAT IT READS IS OF BULK AT MOST 1048576: true; the input reads as it did. -/
def fnExactChainOutsUptoRow : OpenClaim := { program := "ytminippcikenfaa", sum := "e04ef562a3640961f55aa1de0e96c6f03fd05c22de4d3c61bf7677bf5f433ac7", func := "loop.example/g01208/laws.FnExactChainOuts", spec := "fnExactChainOuts", unfollowed := true, recurses := true, plainKeys := false, apart := false, narrowed := true }
def FnExactChainOutsUptoSaid : Prop := fnExactChainOutsUptoRow.holds Try.pinned (OpenSpec.upto fnExactChainOutsSpec)

/-- 'laws.FnExactMostWaterFor', WHERE WHAT IT READS IS OF BULK AT MOST 1048576: true; the input reads as it did. -/
def fnExactMostWaterForUptoRow : OpenClaim := { program := "ytminippcikenfaa", sum := "e04ef562a3640961f55aa1de0e96c6f03fd05c22de4d3c61bf7677bf5f433ac7", func := "loop.example/g01208/laws.FnExactMostWaterFor", spec := "fnExactMostWaterFor", unfollowed := true, recurses := true, plainKeys := false, apart := false, narrowed := true }
def FnExactMostWaterForUptoSaid : Prop := fnExactMostWaterForUptoRow.holds Try.pinned (OpenSpec.upto fnExactMostWaterForSpec)

/-- 'laws.FnExactLeastWaterFor', WHERE WHAT IT READS IS OF BULK AT MOST 1048576: true; the input reads as it did. -/
def fnExactLeastWaterForUptoRow : OpenClaim := { program := "ytminippcikenfaa", sum := "e04ef562a3640961f55aa1de0e96c6f03fd05c22de4d3c61bf7677bf5f433ac7", func := "loop.example/g01208/laws.FnExactLeastWaterFor", spec := "fnExactLeastWaterFor", unfollowed := true, recurses := true, plainKeys := false, apart := false, narrowed := true }
def FnExactLeastWaterForUptoSaid : Prop := fnExactLeastWaterForUptoRow.holds Try.pinned (OpenSpec.upto fnExactLeastWaterForSpec)

/-- 'laws.FnExactLeastTraffic', WHERE WHAT IT READS IS OF BULK AT MOST 1048576: true; the input reads as it did. -/
def fnExactLeastTrafficUptoRow : OpenClaim := { program := "ytminippcikenfaa", sum := "e04ef562a3640961f55aa1de0e96c6f03fd05c22de4d3c61bf7677bf5f433ac7", func := "loop.example/g01208/laws.FnExactLeastTraffic", spec := "fnExactLeastTraffic", unfollowed := true, recurses := true, plainKeys := false, apart := false, narrowed := true }
def FnExactLeastTrafficUptoSaid : Prop := fnExactLeastTrafficUptoRow.holds Try.pinned (OpenSpec.upto fnExactLeastTrafficSpec)

/-- 'laws.FnExactMixedShare', WHERE WHAT IT READS IS OF BULK AT MOST 1048576: true; the input reads as it did. -/
def fnExactMixedShareUptoRow : OpenClaim := { program := "ytminippcikenfaa", sum := "e04ef562a3640961f55aa1de0e96c6f03fd05c22de4d3c61bf7677bf5f433ac7", func := "loop.example/g01208/laws.FnExactMixedShare", spec := "fnExactMixedShare", unfollowed := true, recurses := true, plainKeys := false, apart := false, narrowed := true }
def FnExactMixedShareUptoSaid : Prop := fnExactMixedShareUptoRow.holds Try.pinned (OpenSpec.upto fnExactMixedShareSpec)

end Rows
end Go.Proofs.Ytminippcikenfaa

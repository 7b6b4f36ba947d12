/-
  No cell of these rows narrows 'for every input' (looked for: loops, veiled, ifaces, maps, wideKeys, modest, calm, conditions, laid).
  DERIVED. THE GIVEN ROWS OF THIS SEAT. 10 by the template 'for every input the law returns true; each argument reads behind the call as it read before'; 0 by the template 'total and deterministic' (their statements: YtedkbaadbnpkoaaTotals.lean).
  GIVEN WITH THE SEED: the statements are not yours to turn. If you find one false, say at which input.
  Laid BY PROGRAM, IN A SANDBOX (cutbox-rows.mjs): the forced cells as the released guide's own fill.sh prints them over the translation df88c1685aa566ad… (all of the seat's roots in one cut). By AI agents, Wed Nov 11 2026. No macro, syntax, notation, axiom, sorry.
-/
import Derived.Test.YtedkbaadbnpkoaaChecked
import GoSem.Claim
import GoSem.ClaimJoined
import GoSem.ClaimMapViews
import Derived.JoinedTies
import Derived.KernelRfl
namespace Go.Proofs.Ytedkbaadbnpkoaa
/- THE CELL 'sum', in the pinned program and in every row, IS THE sha256 OF THE DUMP (.gsa) THAT YtedkbaadbnpkoaaProg.lean LOADS. Nothing in Lean hashes anything: it is a label: what it is worth is what the hold of that sum in a sandbox is worth. -/
noncomputable def Try.pinned : Pinned := { name := "ytedkbaadbnpkoaa", sum := "df88c1685aa566ad2a2f381c1d7912233446f488a56c7050a44e6185ed5bf065", checked := Try.checked }
namespace Rows
def none {H : Type} : Left H := { results := [], args := [] }

/-- 'laws.FnExactWaterAfter': WHATEVER THE INPUT: true; the input reads as it did. -/
def fnExactWaterAfterSpec : ChangeSpec := { name := "fnExactWaterAfter", fn := fun _ => fun
  | [d] => { results := [.lit (.bool true)], args := [d] }
  | _ => none }
def fnExactWaterAfterRow : OpenClaim := { program := "ytedkbaadbnpkoaa", sum := "df88c1685aa566ad2a2f381c1d7912233446f488a56c7050a44e6185ed5bf065", func := "loop.example/g01208/laws.FnExactWaterAfter", spec := "fnExactWaterAfter", unfollowed := true, recurses := true, apart := false }
def FnExactWaterAfterSaid : Prop := fnExactWaterAfterRow.holds Try.pinned (OpenSpec.ofChange fnExactWaterAfterSpec)

/-- ITS FALSE NEIGHBOUR: 'it returns false'. Refute it at one input. -/
def fnExactWaterAfterWrong : ChangeSpec := { name := "fnExactWaterAfter", fn := fun _ => fun
  | [d] => { results := [.lit (.bool false)], args := [d] }
  | _ => none }
def FnExactWaterAfterWrongFalsely : Prop := fnExactWaterAfterRow.holds Try.pinned (OpenSpec.ofChange fnExactWaterAfterWrong)

/-- 'laws.FnExactIsAtRest': WHATEVER THE INPUT: true; the input reads as it did. -/
def fnExactIsAtRestSpec : ChangeSpec := { name := "fnExactIsAtRest", fn := fun _ => fun
  | [d1, d2] => { results := [.lit (.bool true)], args := [d1, d2] }
  | _ => none }
def fnExactIsAtRestRow : OpenClaim := { program := "ytedkbaadbnpkoaa", sum := "df88c1685aa566ad2a2f381c1d7912233446f488a56c7050a44e6185ed5bf065", func := "loop.example/g01208/laws.FnExactIsAtRest", spec := "fnExactIsAtRest", unfollowed := true, recurses := true, apart := false }
def FnExactIsAtRestSaid : Prop := fnExactIsAtRestRow.holds Try.pinned (OpenSpec.ofChange fnExactIsAtRestSpec)

/-- ITS FALSE NEIGHBOUR: 'it returns false'. Refute it at one input. -/
def fnExactIsAtRestWrong : ChangeSpec := { name := "fnExactIsAtRest", fn := fun _ => fun
  | [d1, d2] => { results := [.lit (.bool false)], args := [d1, d2] }
  | _ => none }
def FnExactIsAtRestWrongFalsely : Prop := fnExactIsAtRestRow.holds Try.pinned (OpenSpec.ofChange fnExactIsAtRestWrong)

/-- 'laws.FnExactAreJoins': WHATEVER THE INPUT: true; the input reads as it did. -/
def fnExactAreJoinsSpec : ChangeSpec := { name := "fnExactAreJoins", fn := fun _ => fun
  | [d1, d2] => { results := [.lit (.bool true)], args := [d1, d2] }
  | _ => none }
def fnExactAreJoinsRow : OpenClaim := { program := "ytedkbaadbnpkoaa", sum := "df88c1685aa566ad2a2f381c1d7912233446f488a56c7050a44e6185ed5bf065", func := "loop.example/g01208/laws.FnExactAreJoins", spec := "fnExactAreJoins", unfollowed := true, recurses := true, apart := false }
def FnExactAreJoinsSaid : Prop := fnExactAreJoinsRow.holds Try.pinned (OpenSpec.ofChange fnExactAreJoinsSpec)

/-- ITS FALSE NEIGHBOUR: 'it returns false'. Refute it at one input. -/
def fnExactAreJoinsWrong : ChangeSpec := { name := "fnExactAreJoins", fn := fun _ => fun
  | [d1, d2] => { results := [.lit (.bool false)], args := [d1, d2] }
  | _ => none }
def FnExactAreJoinsWrongFalsely : Prop := fnExactAreJoinsRow.holds Try.pinned (OpenSpec.ofChange fnExactAreJoinsWrong)

/-- 'laws.FnExactGroupLevels': WHATEVER THE INPUT: true; the input reads as it did. -/
def fnExactGroupLevelsSpec : ChangeSpec := { name := "fnExactGroupLevels", fn := fun _ => fun
  | [d1, d2] => { results := [.lit (.bool true)], args := [d1, d2] }
  | _ => none }
def fnExactGroupLevelsRow : OpenClaim := { program := "ytedkbaadbnpkoaa", sum := "df88c1685aa566ad2a2f381c1d7912233446f488a56c7050a44e6185ed5bf065", func := "loop.example/g01208/laws.FnExactGroupLevels", spec := "fnExactGroupLevels", unfollowed := true, recurses := true, apart := false }
def FnExactGroupLevelsSaid : Prop := fnExactGroupLevelsRow.holds Try.pinned (OpenSpec.ofChange fnExactGroupLevelsSpec)

/-- ITS FALSE NEIGHBOUR: 'it returns false'. Refute it at one input. -/
def fnExactGroupLevelsWrong : ChangeSpec := { name := "fnExactGroupLevels", fn := fun _ => fun
  | [d1, d2] => { results := [.lit (.bool false)], args := [d1, d2] }
  | _ => none }
def FnExactGroupLevelsWrongFalsely : Prop := fnExactGroupLevelsRow.holds Try.pinned (OpenSpec.ofChange fnExactGroupLevelsWrong)

/-- 'laws.FnExactWaterForLevel': WHATEVER THE INPUT: true; the input reads as it did. -/
def fnExactWaterForLevelSpec : ChangeSpec := { name := "fnExactWaterForLevel", fn := fun _ => fun
  | [d1, d2] => { results := [.lit (.bool true)], args := [d1, d2] }
  | _ => none }
def fnExactWaterForLevelRow : OpenClaim := { program := "ytedkbaadbnpkoaa", sum := "df88c1685aa566ad2a2f381c1d7912233446f488a56c7050a44e6185ed5bf065", func := "loop.example/g01208/laws.FnExactWaterForLevel", spec := "fnExactWaterForLevel", unfollowed := true, recurses := true, apart := false }
def FnExactWaterForLevelSaid : Prop := fnExactWaterForLevelRow.holds Try.pinned (OpenSpec.ofChange fnExactWaterForLevelSpec)

/-- ITS FALSE NEIGHBOUR: 'it returns false'. Refute it at one input. -/
def fnExactWaterForLevelWrong : ChangeSpec := { name := "fnExactWaterForLevel", fn := fun _ => fun
  | [d1, d2] => { results := [.lit (.bool false)], args := [d1, d2] }
  | _ => none }
def FnExactWaterForLevelWrongFalsely : Prop := fnExactWaterForLevelRow.holds Try.pinned (OpenSpec.ofChange fnExactWaterForLevelWrong)

/-- 'laws.FnExactGroupsOf': WHATEVER THE INPUT: true; the input reads as it did. -/
def fnExactGroupsOfSpec : ChangeSpec := { name := "fnExactGroupsOf", fn := fun _ => fun
  | [d1, d2] => { results := [.lit (.bool true)], args := [d1, d2] }
  | _ => none }
def fnExactGroupsOfRow : OpenClaim := { program := "ytedkbaadbnpkoaa", sum := "df88c1685aa566ad2a2f381c1d7912233446f488a56c7050a44e6185ed5bf065", func := "loop.example/g01208/laws.FnExactGroupsOf", spec := "fnExactGroupsOf", unfollowed := true, recurses := true, apart := false }
def FnExactGroupsOfSaid : Prop := fnExactGroupsOfRow.holds Try.pinned (OpenSpec.ofChange fnExactGroupsOfSpec)

/-- ITS FALSE NEIGHBOUR: 'it returns false'. Refute it at one input. -/
def fnExactGroupsOfWrong : ChangeSpec := { name := "fnExactGroupsOf", fn := fun _ => fun
  | [d1, d2] => { results := [.lit (.bool false)], args := [d1, d2] }
  | _ => none }
def FnExactGroupsOfWrongFalsely : Prop := fnExactGroupsOfRow.holds Try.pinned (OpenSpec.ofChange fnExactGroupsOfWrong)

/-- 'laws.FnExactFloodOrder': WHATEVER THE INPUT: true; the input reads as it did. -/
def fnExactFloodOrderSpec : ChangeSpec := { name := "fnExactFloodOrder", fn := fun _ => fun
  | [d] => { results := [.lit (.bool true)], args := [d] }
  | _ => none }
def fnExactFloodOrderRow : OpenClaim := { program := "ytedkbaadbnpkoaa", sum := "df88c1685aa566ad2a2f381c1d7912233446f488a56c7050a44e6185ed5bf065", func := "loop.example/g01208/laws.FnExactFloodOrder", spec := "fnExactFloodOrder", unfollowed := true, recurses := true, apart := false }
def FnExactFloodOrderSaid : Prop := fnExactFloodOrderRow.holds Try.pinned (OpenSpec.ofChange fnExactFloodOrderSpec)

/-- ITS FALSE NEIGHBOUR: 'it returns false'. Refute it at one input. -/
def fnExactFloodOrderWrong : ChangeSpec := { name := "fnExactFloodOrder", fn := fun _ => fun
  | [d] => { results := [.lit (.bool false)], args := [d] }
  | _ => none }
def FnExactFloodOrderWrongFalsely : Prop := fnExactFloodOrderRow.holds Try.pinned (OpenSpec.ofChange fnExactFloodOrderWrong)

/-- 'laws.FnExactCommonLevel': WHATEVER THE INPUT: true; the input reads as it did. -/
def fnExactCommonLevelSpec : ChangeSpec := { name := "fnExactCommonLevel", fn := fun _ => fun
  | [d] => { results := [.lit (.bool true)], args := [d] }
  | _ => none }
def fnExactCommonLevelRow : OpenClaim := { program := "ytedkbaadbnpkoaa", sum := "df88c1685aa566ad2a2f381c1d7912233446f488a56c7050a44e6185ed5bf065", func := "loop.example/g01208/laws.FnExactCommonLevel", spec := "fnExactCommonLevel", unfollowed := true, recurses := true, apart := false }
def FnExactCommonLevelSaid : Prop := fnExactCommonLevelRow.holds Try.pinned (OpenSpec.ofChange fnExactCommonLevelSpec)

/-- ITS FALSE NEIGHBOUR: 'it returns false'. Refute it at one input. -/
def fnExactCommonLevelWrong : ChangeSpec := { name := "fnExactCommonLevel", fn := fun _ => fun
  | [d] => { results := [.lit (.bool false)], args := [d] }
  | _ => none }
def FnExactCommonLevelWrongFalsely : Prop := fnExactCommonLevelRow.holds Try.pinned (OpenSpec.ofChange fnExactCommonLevelWrong)

/-- 'laws.FnExactFlowInto': WHATEVER THE INPUT: true; the input reads as it did. -/
def fnExactFlowIntoSpec : ChangeSpec := { name := "fnExactFlowInto", fn := fun _ => fun
  | [d1, d2] => { results := [.lit (.bool true)], args := [d1, d2] }
  | _ => none }
def fnExactFlowIntoRow : OpenClaim := { program := "ytedkbaadbnpkoaa", sum := "df88c1685aa566ad2a2f381c1d7912233446f488a56c7050a44e6185ed5bf065", func := "loop.example/g01208/laws.FnExactFlowInto", spec := "fnExactFlowInto", unfollowed := true, recurses := true, apart := false }
def FnExactFlowIntoSaid : Prop := fnExactFlowIntoRow.holds Try.pinned (OpenSpec.ofChange fnExactFlowIntoSpec)

/-- ITS FALSE NEIGHBOUR: 'it returns false'. Refute it at one input. -/
def fnExactFlowIntoWrong : ChangeSpec := { name := "fnExactFlowInto", fn := fun _ => fun
  | [d1, d2] => { results := [.lit (.bool false)], args := [d1, d2] }
  | _ => none }
def FnExactFlowIntoWrongFalsely : Prop := fnExactFlowIntoRow.holds Try.pinned (OpenSpec.ofChange fnExactFlowIntoWrong)

/-- 'laws.FnExactWetTanks': WHATEVER THE INPUT: true; the input reads as it did. -/
def fnExactWetTanksSpec : ChangeSpec := { name := "fnExactWetTanks", fn := fun _ => fun
  | [d] => { results := [.lit (.bool true)], args := [d] }
  | _ => none }
def fnExactWetTanksRow : OpenClaim := { program := "ytedkbaadbnpkoaa", sum := "df88c1685aa566ad2a2f381c1d7912233446f488a56c7050a44e6185ed5bf065", func := "loop.example/g01208/laws.FnExactWetTanks", spec := "fnExactWetTanks", unfollowed := true, recurses := true, apart := false }
def FnExactWetTanksSaid : Prop := fnExactWetTanksRow.holds Try.pinned (OpenSpec.ofChange fnExactWetTanksSpec)

/-- ITS FALSE NEIGHBOUR: 'it returns false'. Refute it at one input. -/
def fnExactWetTanksWrong : ChangeSpec := { name := "fnExactWetTanks", fn := fun _ => fun
  | [d] => { results := [.lit (.bool false)], args := [d] }
  | _ => none }
def FnExactWetTanksWrongFalsely : Prop := fnExactWetTanksRow.holds Try.pinned (OpenSpec.ofChange fnExactWetTanksWrong)

/- THE SECOND FORM. 'bulk': how many values and letters a reading holds, each counted each time it is reached (what is shared counts as often as it is met; a slice's spare places count too). A statement '..UptoSaid' is the law's where the arguments, and the package variables that the reading takes, are together of bulk at most 1048576: NARROWER than '..Said'. Prove '..Said' where nothing that the law and all that it calls make is longer than what came in: it says more and counts as full. Else prove '..UptoSaid'. A law counts once. -/
mutual
def uptoBulk {H : Type} : DataW H → Nat
  | .lit (.string bytes) => bytes.length + 1
  | .lit _ => 1
  | .nil => 1
  | .ptr d => uptoBulk d + 1
  | .slice elems spare => uptoBulkAll elems + uptoBulkAll spare + 1
  | .agg parts => uptoBulkAll parts + 1
  | .iface _ d => uptoBulk d + 1
  | .map entries => uptoBulkEntries entries + 1
  | .held _ => 1
def uptoBulkAll {H : Type} : List (DataW H) → Nat
  | [] => 0
  | d :: r => uptoBulk d + uptoBulkAll r
def uptoBulkEntries {H : Type} : List (Lit × DataW H) → Nat
  | [] => 0
  | x :: r => uptoBulkEntry x + uptoBulkEntries r
def uptoBulkEntry {H : Type} : Lit × DataW H → Nat
  | (.string bytes, d) => bytes.length + uptoBulk d + 1
  | (_, d) => uptoBulk d + 1
 end
def uptoSmall : (H : Type) → List (DataW H) → Bool := fun _ ds => decide (uptoBulkAll ds ≤ 1048576)
def OpenSpec.upto (s : _root_.Go.ChangeSpec) : _root_.Go.OpenSpec := { _root_.Go.OpenSpec.ofChange s with cond := some uptoSmall }

/-- 'laws.FnExactWaterAfter', WHERE WHAT IT READS IS OF BULK AT MOST 1048576: true; the input reads as it did. -/
def fnExactWaterAfterUptoRow : OpenClaim := { program := "ytedkbaadbnpkoaa", sum := "df88c1685aa566ad2a2f381c1d7912233446f488a56c7050a44e6185ed5bf065", func := "loop.example/g01208/laws.FnExactWaterAfter", spec := "fnExactWaterAfter", unfollowed := true, recurses := true, apart := false, narrowed := true }
def FnExactWaterAfterUptoSaid : Prop := fnExactWaterAfterUptoRow.holds Try.pinned (OpenSpec.upto fnExactWaterAfterSpec)

/-- 'laws.FnExactIsAtRest', WHERE WHAT IT READS IS OF BULK AT MOST 1048576: true; the input reads as it did. -/
def fnExactIsAtRestUptoRow : OpenClaim := { program := "ytedkbaadbnpkoaa", sum := "df88c1685aa566ad2a2f381c1d7912233446f488a56c7050a44e6185ed5bf065", func := "loop.example/g01208/laws.FnExactIsAtRest", spec := "fnExactIsAtRest", unfollowed := true, recurses := true, apart := false, narrowed := true }
def FnExactIsAtRestUptoSaid : Prop := fnExactIsAtRestUptoRow.holds Try.pinned (OpenSpec.upto fnExactIsAtRestSpec)

/-- 'laws.FnExactAreJoins', WHERE WHAT IT READS IS OF BULK AT MOST 1048576: true; the input reads as it did. -/
def fnExactAreJoinsUptoRow : OpenClaim := { program := "ytedkbaadbnpkoaa", sum := "df88c1685aa566ad2a2f381c1d7912233446f488a56c7050a44e6185ed5bf065", func := "loop.example/g01208/laws.FnExactAreJoins", spec := "fnExactAreJoins", unfollowed := true, recurses := true, apart := false, narrowed := true }
def FnExactAreJoinsUptoSaid : Prop := fnExactAreJoinsUptoRow.holds Try.pinned (OpenSpec.upto fnExactAreJoinsSpec)

/-- 'laws.FnExactGroupLevels', WHERE WHAT IT READS IS OF BULK AT MOST 1048576: true; the input reads as it did. -/
def fnExactGroupLevelsUptoRow : OpenClaim := { program := "ytedkbaadbnpkoaa", sum := "df88c1685aa566ad2a2f381c1d7912233446f488a56c7050a44e6185ed5bf065", func := "loop.example/g01208/laws.FnExactGroupLevels", spec := "fnExactGroupLevels", unfollowed := true, recurses := true, apart := false, narrowed := true }
def FnExactGroupLevelsUptoSaid : Prop := fnExactGroupLevelsUptoRow.holds Try.pinned (OpenSpec.upto fnExactGroupLevelsSpec)

/-- 'laws.FnExactWaterForLevel', WHERE WHAT IT READS IS OF BULK AT MOST 1048576: true; the input reads as it did. -/
def fnExactWaterForLevelUptoRow : OpenClaim := { program := "ytedkbaadbnpkoaa", sum := "df88c1685aa566ad2a2f381c1d7912233446f488a56c7050a44e6185ed5bf065", func := "loop.example/g01208/laws.FnExactWaterForLevel", spec := "fnExactWaterForLevel", unfollowed := true, recurses := true, apart := false, narrowed := true }
def FnExactWaterForLevelUptoSaid : Prop := fnExactWaterForLevelUptoRow.holds Try.pinned (OpenSpec.upto fnExactWaterForLevelSpec)

/-- 'laws.FnExactGroupsOf', WHERE WHAT IT READS IS OF BULK AT MOST 1048576: true; the input reads as it did. -/
def fnExactGroupsOfUptoRow : OpenClaim := { program := "ytedkbaadbnpkoaa", sum := "df88c1685aa566ad2a2f381c1d7912233446f488a56c7050a44e6185ed5bf065", func := "loop.example/g01208/laws.FnExactGroupsOf", spec := "fnExactGroupsOf", unfollowed := true, recurses := true, apart := false, narrowed := true }
def FnExactGroupsOfUptoSaid : Prop := fnExactGroupsOfUptoRow.holds Try.pinned (OpenSpec.upto fnExactGroupsOfSpec)

/-- 'laws.FnExactFloodOrder', WHERE WHAT IT READS IS OF BULK AT MOST 1048576: true; the input reads as it did. -/
def fnExactFloodOrderUptoRow : OpenClaim := { program := "ytedkbaadbnpkoaa", sum := "df88c1685aa566ad2a2f381c1d7912233446f488a56c7050a44e6185ed5bf065", func := "loop.example/g01208/laws.FnExactFloodOrder", spec := "fnExactFloodOrder", unfollowed := true, recurses := true, apart := false, narrowed := true }
def FnExactFloodOrderUptoSaid : Prop := fnExactFloodOrderUptoRow.holds Try.pinned (OpenSpec.upto fnExactFloodOrderSpec)

/-- 'laws.FnExactCommonLevel', WHERE WHAT IT READS IS OF BULK AT MOST 1048576: true; the input reads as it did. -/
def fnExactCommonLevelUptoRow : OpenClaim := { program := "ytedkbaadbnpkoaa", sum := "df88c1685aa566ad2a2f381c1d7912233446f488a56c7050a44e6185ed5bf065", func := "loop.example/g01208/laws.FnExactCommonLevel", spec := "fnExactCommonLevel", unfollowed := true, recurses := true, apart := false, narrowed := true }
def FnExactCommonLevelUptoSaid : Prop := fnExactCommonLevelUptoRow.holds Try.pinned (OpenSpec.upto fnExactCommonLevelSpec)

/-- 'laws.FnExactFlowInto', WHERE WHAT IT READS IS OF BULK AT MOST 1048576: true; the input reads as it did. -/
def fnExactFlowIntoUptoRow : OpenClaim := { program := "ytedkbaadbnpkoaa", sum := "df88c1685aa566ad2a2f381c1d7912233446f488a56c7050a44e6185ed5bf065", func := "loop.example/g01208/laws.FnExactFlowInto", spec := "fnExactFlowInto", unfollowed := true, recurses := true, apart := false, narrowed := true }
def FnExactFlowIntoUptoSaid : Prop := fnExactFlowIntoUptoRow.holds Try.pinned (OpenSpec.upto fnExactFlowIntoSpec)

/-- 'laws.FnExactWetTanks', WHERE WHAT IT READS IS OF BULK AT MOST 1048576: true; the input reads as it did. -/
def fnExactWetTanksUptoRow : OpenClaim := { program := "ytedkbaadbnpkoaa", sum := "df88c1685aa566ad2a2f381c1d7912233446f488a56c7050a44e6185ed5bf065", func := "loop.example/g01208/laws.FnExactWetTanks", spec := "fnExactWetTanks", unfollowed := true, recurses := true, apart := false, narrowed := true }
def FnExactWetTanksUptoSaid : Prop := fnExactWetTanksUptoRow.holds Try.pinned (OpenSpec.upto fnExactWetTanksSpec)

end Rows
end Go.Proofs.Ytedkbaadbnpkoaa

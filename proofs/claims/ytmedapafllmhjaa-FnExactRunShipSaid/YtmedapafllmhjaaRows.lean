/-
  No cell of these rows narrows 'for every input' (looked for: loops, veiled, ifaces, maps, wideKeys, modest, calm, conditions, laid).
  DERIVED. THE GIVEN ROWS OF THIS SEAT. 7 by the template 'for every input the law returns true; each argument reads behind the call as it read before'; 0 by the template 'total and deterministic' (their statements: YtmedapafllmhjaaTotals.lean).
  GIVEN WITH THE SEED: the statements are not yours to turn. If you find one false, say at which input.
  Laid BY PROGRAM, IN A SANDBOX (cutbox-rows.mjs): the forced cells as the released guide's own fill.sh prints them over the translation 70d92a623f24fd35… (all of the seat's roots in one cut). By AI agents, Wed Nov 11 2026. No macro, syntax, notation, axiom, sorry.
-/
import Derived.Test.YtmedapafllmhjaaChecked
import GoSem.Claim
import GoSem.ClaimJoined
import GoSem.ClaimMapViews
import Derived.JoinedTies
import Derived.KernelRfl
namespace Go.Proofs.Ytmedapafllmhjaa
/- THE CELL 'sum', in the pinned program and in every row, IS THE sha256 OF THE DUMP (.gsa) THAT YtmedapafllmhjaaProg.lean LOADS. Nothing in Lean hashes anything: it is a label: what it is worth is what the hold of that sum in a sandbox is worth. -/
noncomputable def Try.pinned : Pinned := { name := "ytmedapafllmhjaa", sum := "70d92a623f24fd35cdc9e40e842079f57274e9d227288d8e036e8915d0750d76", checked := Try.checked }
namespace Rows
def none {H : Type} : Left H := { results := [], args := [] }

/-- 'laws.FnExactHeightOfFlight': WHATEVER THE INPUT: true; the input reads as it did. -/
def fnExactHeightOfFlightSpec : ChangeSpec := { name := "fnExactHeightOfFlight", fn := fun _ => fun
  | [d] => { results := [.lit (.bool true)], args := [d] }
  | _ => none }
def fnExactHeightOfFlightRow : OpenClaim := { program := "ytmedapafllmhjaa", sum := "70d92a623f24fd35cdc9e40e842079f57274e9d227288d8e036e8915d0750d76", func := "loop.example/g01208/laws.FnExactHeightOfFlight", spec := "fnExactHeightOfFlight", unfollowed := true, recurses := true, apart := false }
def FnExactHeightOfFlightSaid : Prop := fnExactHeightOfFlightRow.holds Try.pinned (OpenSpec.ofChange fnExactHeightOfFlightSpec)

/-- ITS FALSE NEIGHBOUR: 'it returns false'. Refute it at one input. -/
def fnExactHeightOfFlightWrong : ChangeSpec := { name := "fnExactHeightOfFlight", fn := fun _ => fun
  | [d] => { results := [.lit (.bool false)], args := [d] }
  | _ => none }
def FnExactHeightOfFlightWrongFalsely : Prop := fnExactHeightOfFlightRow.holds Try.pinned (OpenSpec.ofChange fnExactHeightOfFlightWrong)

/-- 'laws.FnExactWaterInLocks': WHATEVER THE INPUT: true; the input reads as it did. -/
def fnExactWaterInLocksSpec : ChangeSpec := { name := "fnExactWaterInLocks", fn := fun _ => fun
  | [d] => { results := [.lit (.bool true)], args := [d] }
  | _ => none }
def fnExactWaterInLocksRow : OpenClaim := { program := "ytmedapafllmhjaa", sum := "70d92a623f24fd35cdc9e40e842079f57274e9d227288d8e036e8915d0750d76", func := "loop.example/g01208/laws.FnExactWaterInLocks", spec := "fnExactWaterInLocks", unfollowed := true, recurses := true, apart := false }
def FnExactWaterInLocksSaid : Prop := fnExactWaterInLocksRow.holds Try.pinned (OpenSpec.ofChange fnExactWaterInLocksSpec)

/-- ITS FALSE NEIGHBOUR: 'it returns false'. Refute it at one input. -/
def fnExactWaterInLocksWrong : ChangeSpec := { name := "fnExactWaterInLocks", fn := fun _ => fun
  | [d] => { results := [.lit (.bool false)], args := [d] }
  | _ => none }
def FnExactWaterInLocksWrongFalsely : Prop := fnExactWaterInLocksRow.holds Try.pinned (OpenSpec.ofChange fnExactWaterInLocksWrong)

/-- 'laws.FnExactReverseFlight': WHATEVER THE INPUT: true; the input reads as it did. -/
def fnExactReverseFlightSpec : ChangeSpec := { name := "fnExactReverseFlight", fn := fun _ => fun
  | [d] => { results := [.lit (.bool true)], args := [d] }
  | _ => none }
def fnExactReverseFlightRow : OpenClaim := { program := "ytmedapafllmhjaa", sum := "70d92a623f24fd35cdc9e40e842079f57274e9d227288d8e036e8915d0750d76", func := "loop.example/g01208/laws.FnExactReverseFlight", spec := "fnExactReverseFlight", unfollowed := true, recurses := true, apart := false }
def FnExactReverseFlightSaid : Prop := fnExactReverseFlightRow.holds Try.pinned (OpenSpec.ofChange fnExactReverseFlightSpec)

/-- ITS FALSE NEIGHBOUR: 'it returns false'. Refute it at one input. -/
def fnExactReverseFlightWrong : ChangeSpec := { name := "fnExactReverseFlight", fn := fun _ => fun
  | [d] => { results := [.lit (.bool false)], args := [d] }
  | _ => none }
def FnExactReverseFlightWrongFalsely : Prop := fnExactReverseFlightRow.holds Try.pinned (OpenSpec.ofChange fnExactReverseFlightWrong)

/-- 'laws.FnExactEmptyLock': WHATEVER THE INPUT: true; the input reads as it did. -/
def fnExactEmptyLockSpec : ChangeSpec := { name := "fnExactEmptyLock", fn := fun _ => fun
  | [d1, d2] => { results := [.lit (.bool true)], args := [d1, d2] }
  | _ => none }
def fnExactEmptyLockRow : OpenClaim := { program := "ytmedapafllmhjaa", sum := "70d92a623f24fd35cdc9e40e842079f57274e9d227288d8e036e8915d0750d76", func := "loop.example/g01208/laws.FnExactEmptyLock", spec := "fnExactEmptyLock", unfollowed := true, recurses := true, apart := false }
def FnExactEmptyLockSaid : Prop := fnExactEmptyLockRow.holds Try.pinned (OpenSpec.ofChange fnExactEmptyLockSpec)

/-- ITS FALSE NEIGHBOUR: 'it returns false'. Refute it at one input. -/
def fnExactEmptyLockWrong : ChangeSpec := { name := "fnExactEmptyLock", fn := fun _ => fun
  | [d1, d2] => { results := [.lit (.bool false)], args := [d1, d2] }
  | _ => none }
def FnExactEmptyLockWrongFalsely : Prop := fnExactEmptyLockRow.holds Try.pinned (OpenSpec.ofChange fnExactEmptyLockWrong)

/-- 'laws.FnExactFillLock': WHATEVER THE INPUT: true; the input reads as it did. -/
def fnExactFillLockSpec : ChangeSpec := { name := "fnExactFillLock", fn := fun _ => fun
  | [d1, d2] => { results := [.lit (.bool true)], args := [d1, d2] }
  | _ => none }
def fnExactFillLockRow : OpenClaim := { program := "ytmedapafllmhjaa", sum := "70d92a623f24fd35cdc9e40e842079f57274e9d227288d8e036e8915d0750d76", func := "loop.example/g01208/laws.FnExactFillLock", spec := "fnExactFillLock", unfollowed := true, recurses := true, apart := false }
def FnExactFillLockSaid : Prop := fnExactFillLockRow.holds Try.pinned (OpenSpec.ofChange fnExactFillLockSpec)

/-- ITS FALSE NEIGHBOUR: 'it returns false'. Refute it at one input. -/
def fnExactFillLockWrong : ChangeSpec := { name := "fnExactFillLock", fn := fun _ => fun
  | [d1, d2] => { results := [.lit (.bool false)], args := [d1, d2] }
  | _ => none }
def FnExactFillLockWrongFalsely : Prop := fnExactFillLockRow.holds Try.pinned (OpenSpec.ofChange fnExactFillLockWrong)

/-- 'laws.FnExactPassLock': WHATEVER THE INPUT: true; the input reads as it did. -/
def fnExactPassLockSpec : ChangeSpec := { name := "fnExactPassLock", fn := fun _ => fun
  | [d1, d2, d3] => { results := [.lit (.bool true)], args := [d1, d2, d3] }
  | _ => none }
def fnExactPassLockRow : OpenClaim := { program := "ytmedapafllmhjaa", sum := "70d92a623f24fd35cdc9e40e842079f57274e9d227288d8e036e8915d0750d76", func := "loop.example/g01208/laws.FnExactPassLock", spec := "fnExactPassLock", unfollowed := true, recurses := true, apart := false }
def FnExactPassLockSaid : Prop := fnExactPassLockRow.holds Try.pinned (OpenSpec.ofChange fnExactPassLockSpec)

/-- ITS FALSE NEIGHBOUR: 'it returns false'. Refute it at one input. -/
def fnExactPassLockWrong : ChangeSpec := { name := "fnExactPassLock", fn := fun _ => fun
  | [d1, d2, d3] => { results := [.lit (.bool false)], args := [d1, d2, d3] }
  | _ => none }
def FnExactPassLockWrongFalsely : Prop := fnExactPassLockRow.holds Try.pinned (OpenSpec.ofChange fnExactPassLockWrong)

/-- 'laws.FnExactRunShip': WHATEVER THE INPUT: true; the input reads as it did. -/
def fnExactRunShipSpec : ChangeSpec := { name := "fnExactRunShip", fn := fun _ => fun
  | [d1, d2] => { results := [.lit (.bool true)], args := [d1, d2] }
  | _ => none }
def fnExactRunShipRow : OpenClaim := { program := "ytmedapafllmhjaa", sum := "70d92a623f24fd35cdc9e40e842079f57274e9d227288d8e036e8915d0750d76", func := "loop.example/g01208/laws.FnExactRunShip", spec := "fnExactRunShip", unfollowed := true, recurses := true, apart := false }
def FnExactRunShipSaid : Prop := fnExactRunShipRow.holds Try.pinned (OpenSpec.ofChange fnExactRunShipSpec)

/-- ITS FALSE NEIGHBOUR: 'it returns false'. Refute it at one input. -/
def fnExactRunShipWrong : ChangeSpec := { name := "fnExactRunShip", fn := fun _ => fun
  | [d1, d2] => { results := [.lit (.bool false)], args := [d1, d2] }
  | _ => none }
def FnExactRunShipWrongFalsely : Prop := fnExactRunShipRow.holds Try.pinned (OpenSpec.ofChange fnExactRunShipWrong)

/- THE SECOND FORM. 'bulk': how many values and letters a reading holds, each counted each time it is reached (what is shared counts as often as it is met; a slice's spare places count too). A statement '..UptoSaid' is the law's where the arguments, and the package variables that the reading takes, are together of bulk at most 1048576: NARROWER than '..Said'. Prove '..Said' where nothing that the law and all that it calls make is longer than what came in: it says more and counts as full. Else prove '..UptoSaid'. A law counts once. -/
mutual
def uptoBulk {H : Type} : DataW H → Nat
  | .lit (.string bytes) => bytes.length + 1
  | .lit _ => 1
  | .nil => 1
  | .ptr d => uptoBulk d + 1
  | .slice elems spare => uptoBulkAll elems + uptoBulkAll spare + 1
  | .agg parts => uptoBulkAll parts + 1
  | .iface _ d => uptoBulk d + 1
  | .map entries => uptoBulkEntries entries + 1
  | .held _ => 1
def uptoBulkAll {H : Type} : List (DataW H) → Nat
  | [] => 0
  | d :: r => uptoBulk d + uptoBulkAll r
def uptoBulkEntries {H : Type} : List (Lit × DataW H) → Nat
  | [] => 0
  | x :: r => uptoBulkEntry x + uptoBulkEntries r
def uptoBulkEntry {H : Type} : Lit × DataW H → Nat
  | (.string bytes, d) => bytes.length + uptoBulk d + 1
  | (_, d) => uptoBulk d + 1
 end
def uptoSmall : (H : Type) → List (DataW H) → Bool := fun _ ds => decide (uptoBulkAll ds ≤ 1048576)
def OpenSpec.upto (s : _root_.Go.ChangeSpec) : _root_.Go.OpenSpec := { _root_.Go.OpenSpec.ofChange s with cond := some uptoSmall }

/-- 'laws.FnExactHeightOfFlight', WHERE WHAT IT READS IS OF BULK AT MOST 1048576: true; the input reads as it did. -/
def fnExactHeightOfFlightUptoRow : OpenClaim := { program := "ytmedapafllmhjaa", sum := "70d92a623f24fd35cdc9e40e842079f57274e9d227288d8e036e8915d0750d76", func := "loop.example/g01208/laws.FnExactHeightOfFlight", spec := "fnExactHeightOfFlight", unfollowed := true, recurses := true, apart := false, narrowed := true }
def FnExactHeightOfFlightUptoSaid : Prop := fnExactHeightOfFlightUptoRow.holds Try.pinned (OpenSpec.upto fnExactHeightOfFlightSpec)

/-- 'laws.FnExactWaterInLocks', WHERE WHAT IT READS IS OF BULK AT MOST 1048576: true; the input reads as it did. -/
def fnExactWaterInLocksUptoRow : OpenClaim := { program := "ytmedapafllmhjaa", sum := "70d92a623f24fd35cdc9e40e842079f57274e9d227288d8e036e8915d0750d76", func := "loop.example/g01208/laws.FnExactWaterInLocks", spec := "fnExactWaterInLocks", unfollowed := true, recurses := true, apart := false, narrowed := true }
def FnExactWaterInLocksUptoSaid : Prop := fnExactWaterInLocksUptoRow.holds Try.pinned (OpenSpec.upto fnExactWaterInLocksSpec)

/-- 'laws.FnExactReverseFlight', WHERE WHAT IT READS IS OF BULK AT MOST 1048576: true; the input reads as it did. -/
def fnExactReverseFlightUptoRow : OpenClaim := { program := "ytmedapafllmhjaa", sum := "70d92a623f24fd35cdc9e40e842079f57274e9d227288d8e036e8915d0750d76", func := "loop.example/g01208/laws.FnExactReverseFlight", spec := "fnExactReverseFlight", unfollowed := true, recurses := true, apart := false, narrowed := true }
def FnExactReverseFlightUptoSaid : Prop := fnExactReverseFlightUptoRow.holds Try.pinned (OpenSpec.upto fnExactReverseFlightSpec)

/-- 'laws.FnExactEmptyLock', WHERE WHAT IT READS IS OF BULK AT MOST 1048576: true; the input reads as it did. -/
def fnExactEmptyLockUptoRow : OpenClaim := { program := "ytmedapafllmhjaa", sum := "70d92a623f24fd35cdc9e40e842079f57274e9d227288d8e036e8915d0750d76", func := "loop.example/g01208/laws.FnExactEmptyLock", spec := "fnExactEmptyLock", unfollowed := true, recurses := true, apart := false, narrowed := true }
def FnExactEmptyLockUptoSaid : Prop := fnExactEmptyLockUptoRow.holds Try.pinned (OpenSpec.upto fnExactEmptyLockSpec)

/-- 'laws.FnExactFillLock', WHERE WHAT IT READS IS OF BULK AT MOST 1048576: true; the input reads as it did. -/
def fnExactFillLockUptoRow : OpenClaim := { program := "ytmedapafllmhjaa", sum := "70d92a623f24fd35cdc9e40e842079f57274e9d227288d8e036e8915d0750d76", func := "loop.example/g01208/laws.FnExactFillLock", spec := "fnExactFillLock", unfollowed := true, recurses := true, apart := false, narrowed := true }
def FnExactFillLockUptoSaid : Prop := fnExactFillLockUptoRow.holds Try.pinned (OpenSpec.upto fnExactFillLockSpec)

/-- 'laws.FnExactPassLock', WHERE WHAT IT READS IS OF BULK AT MOST 1048576: true; the input reads as it did. -/
def fnExactPassLockUptoRow : OpenClaim := { program := "ytmedapafllmhjaa", sum := "70d92a623f24fd35cdc9e40e842079f57274e9d227288d8e036e8915d0750d76", func := "loop.example/g01208/laws.FnExactPassLock", spec := "fnExactPassLock", unfollowed := true, recurses := true, apart := false, narrowed := true }
def FnExactPassLockUptoSaid : Prop := fnExactPassLockUptoRow.holds Try.pinned (OpenSpec.upto fnExactPassLockSpec)

/-- 'laws.FnExactRunShip', WHERE WHAT IT READS IS OF BULK AT MOST 1048576: true; the input reads as it did. -/
def fnExactRunShipUptoRow : OpenClaim := { program := "ytmedapafllmhjaa", sum := "70d92a623f24fd35cdc9e40e842079f57274e9d227288d8e036e8915d0750d76", func := "loop.example/g01208/laws.FnExactRunShip", spec := "fnExactRunShip", unfollowed := true, recurses := true, apart := false, narrowed := true }
def FnExactRunShipUptoSaid : Prop := fnExactRunShipUptoRow.holds Try.pinned (OpenSpec.upto fnExactRunShipSpec)

end Rows
end Go.Proofs.Ytmedapafllmhjaa

/-
  No cell of these rows narrows 'for every input' (looked for: loops, veiled, ifaces, maps, wideKeys, modest, calm, conditions, laid).
  DERIVED. THE GIVEN ROWS OF THIS SEAT. 12 by the template 'for every input the law returns true; each argument reads behind the call as it read before'; 0 by the template 'total and deterministic' (their statements: YtpgjoagbmljmnaaTotals.lean).
  GIVEN WITH THE SEED: the statements are not yours to turn. If you find one false, say at which input.
  Laid BY PROGRAM, IN A SANDBOX (cutbox-rows.mjs): the forced cells as the released guide's own fill.sh prints them over the translation eb2ebbcccc4a81bb… (all of the seat's roots in one cut). By AI agents, Wed Nov 11 2026. No macro, syntax, notation, axiom, sorry.
-/
import Derived.Test.YtpgjoagbmljmnaaChecked
import GoSem.Claim
import GoSem.ClaimJoined
import GoSem.ClaimMapViews
import Derived.JoinedTies
import Derived.KernelRfl
namespace Go.Proofs.Ytpgjoagbmljmnaa
/- THE CELL 'sum', in the pinned program and in every row, IS THE sha256 OF THE DUMP (.gsa) THAT YtpgjoagbmljmnaaProg.lean LOADS. Nothing in Lean hashes anything: it is a label: what it is worth is what the hold of that sum in a sandbox is worth. -/
noncomputable def Try.pinned : Pinned := { name := "ytpgjoagbmljmnaa", sum := "eb2ebbcccc4a81bbdc2a514578f78dae9fe8fa7afd56db61bc8edd8e3db6d3d4", checked := Try.checked }
namespace Rows
def none {H : Type} : Left H := { results := [], args := [] }

/-- 'laws.FnExactIsClock': WHATEVER THE INPUT: true; the input reads as it did. -/
def fnExactIsClockSpec : ChangeSpec := { name := "fnExactIsClock", fn := fun _ => fun
  | [d] => { results := [.lit (.bool true)], args := [d] }
  | _ => none }
def fnExactIsClockRow : OpenClaim := { program := "ytpgjoagbmljmnaa", sum := "eb2ebbcccc4a81bbdc2a514578f78dae9fe8fa7afd56db61bc8edd8e3db6d3d4", func := "loop.example/g01208/laws.FnExactIsClock", spec := "fnExactIsClock", apart := false }
def FnExactIsClockSaid : Prop := fnExactIsClockRow.holds Try.pinned (OpenSpec.ofChange fnExactIsClockSpec)

/-- ITS FALSE NEIGHBOUR: 'it returns false'. Refute it at one input. -/
def fnExactIsClockWrong : ChangeSpec := { name := "fnExactIsClock", fn := fun _ => fun
  | [d] => { results := [.lit (.bool false)], args := [d] }
  | _ => none }
def FnExactIsClockWrongFalsely : Prop := fnExactIsClockRow.holds Try.pinned (OpenSpec.ofChange fnExactIsClockWrong)

/-- 'laws.FnExactIsWheel': WHATEVER THE INPUT: true; the input reads as it did. -/
def fnExactIsWheelSpec : ChangeSpec := { name := "fnExactIsWheel", fn := fun _ => fun
  | [d] => { results := [.lit (.bool true)], args := [d] }
  | _ => none }
def fnExactIsWheelRow : OpenClaim := { program := "ytpgjoagbmljmnaa", sum := "eb2ebbcccc4a81bbdc2a514578f78dae9fe8fa7afd56db61bc8edd8e3db6d3d4", func := "loop.example/g01208/laws.FnExactIsWheel", spec := "fnExactIsWheel", apart := false }
def FnExactIsWheelSaid : Prop := fnExactIsWheelRow.holds Try.pinned (OpenSpec.ofChange fnExactIsWheelSpec)

/-- ITS FALSE NEIGHBOUR: 'it returns false'. Refute it at one input. -/
def fnExactIsWheelWrong : ChangeSpec := { name := "fnExactIsWheel", fn := fun _ => fun
  | [d] => { results := [.lit (.bool false)], args := [d] }
  | _ => none }
def FnExactIsWheelWrongFalsely : Prop := fnExactIsWheelRow.holds Try.pinned (OpenSpec.ofChange fnExactIsWheelWrong)

/-- 'laws.FnExactDropOf': WHATEVER THE INPUT: true; the input reads as it did. -/
def fnExactDropOfSpec : ChangeSpec := { name := "fnExactDropOf", fn := fun _ => fun
  | [d] => { results := [.lit (.bool true)], args := [d] }
  | _ => none }
def fnExactDropOfRow : OpenClaim := { program := "ytpgjoagbmljmnaa", sum := "eb2ebbcccc4a81bbdc2a514578f78dae9fe8fa7afd56db61bc8edd8e3db6d3d4", func := "loop.example/g01208/laws.FnExactDropOf", spec := "fnExactDropOf", apart := false }
def FnExactDropOfSaid : Prop := fnExactDropOfRow.holds Try.pinned (OpenSpec.ofChange fnExactDropOfSpec)

/-- ITS FALSE NEIGHBOUR: 'it returns false'. Refute it at one input. -/
def fnExactDropOfWrong : ChangeSpec := { name := "fnExactDropOf", fn := fun _ => fun
  | [d] => { results := [.lit (.bool false)], args := [d] }
  | _ => none }
def FnExactDropOfWrongFalsely : Prop := fnExactDropOfRow.holds Try.pinned (OpenSpec.ofChange fnExactDropOfWrong)

/-- 'laws.FnExactTurnTime': WHATEVER THE INPUT: true; the input reads as it did. -/
def fnExactTurnTimeSpec : ChangeSpec := { name := "fnExactTurnTime", fn := fun _ => fun
  | [d] => { results := [.lit (.bool true)], args := [d] }
  | _ => none }
def fnExactTurnTimeRow : OpenClaim := { program := "ytpgjoagbmljmnaa", sum := "eb2ebbcccc4a81bbdc2a514578f78dae9fe8fa7afd56db61bc8edd8e3db6d3d4", func := "loop.example/g01208/laws.FnExactTurnTime", spec := "fnExactTurnTime", apart := false }
def FnExactTurnTimeSaid : Prop := fnExactTurnTimeRow.holds Try.pinned (OpenSpec.ofChange fnExactTurnTimeSpec)

/-- ITS FALSE NEIGHBOUR: 'it returns false'. Refute it at one input. -/
def fnExactTurnTimeWrong : ChangeSpec := { name := "fnExactTurnTime", fn := fun _ => fun
  | [d] => { results := [.lit (.bool false)], args := [d] }
  | _ => none }
def FnExactTurnTimeWrongFalsely : Prop := fnExactTurnTimeRow.holds Try.pinned (OpenSpec.ofChange fnExactTurnTimeWrong)

/-- 'laws.FnExactSpiltByWheel': WHATEVER THE INPUT: true; the input reads as it did. -/
def fnExactSpiltByWheelSpec : ChangeSpec := { name := "fnExactSpiltByWheel", fn := fun _ => fun
  | [d1, d2] => { results := [.lit (.bool true)], args := [d1, d2] }
  | _ => none }
def fnExactSpiltByWheelRow : OpenClaim := { program := "ytpgjoagbmljmnaa", sum := "eb2ebbcccc4a81bbdc2a514578f78dae9fe8fa7afd56db61bc8edd8e3db6d3d4", func := "loop.example/g01208/laws.FnExactSpiltByWheel", spec := "fnExactSpiltByWheel", apart := false }
def FnExactSpiltByWheelSaid : Prop := fnExactSpiltByWheelRow.holds Try.pinned (OpenSpec.ofChange fnExactSpiltByWheelSpec)

/-- ITS FALSE NEIGHBOUR: 'it returns false'. Refute it at one input. -/
def fnExactSpiltByWheelWrong : ChangeSpec := { name := "fnExactSpiltByWheel", fn := fun _ => fun
  | [d1, d2] => { results := [.lit (.bool false)], args := [d1, d2] }
  | _ => none }
def FnExactSpiltByWheelWrongFalsely : Prop := fnExactSpiltByWheelRow.holds Try.pinned (OpenSpec.ofChange fnExactSpiltByWheelWrong)

/-- 'laws.FnExactIsRatio': WHATEVER THE INPUT: true; the input reads as it did. -/
def fnExactIsRatioSpec : ChangeSpec := { name := "fnExactIsRatio", fn := fun _ => fun
  | [d] => { results := [.lit (.bool true)], args := [d] }
  | _ => none }
def fnExactIsRatioRow : OpenClaim := { program := "ytpgjoagbmljmnaa", sum := "eb2ebbcccc4a81bbdc2a514578f78dae9fe8fa7afd56db61bc8edd8e3db6d3d4", func := "loop.example/g01208/laws.FnExactIsRatio", spec := "fnExactIsRatio", apart := false }
def FnExactIsRatioSaid : Prop := fnExactIsRatioRow.holds Try.pinned (OpenSpec.ofChange fnExactIsRatioSpec)

/-- ITS FALSE NEIGHBOUR: 'it returns false'. Refute it at one input. -/
def fnExactIsRatioWrong : ChangeSpec := { name := "fnExactIsRatio", fn := fun _ => fun
  | [d] => { results := [.lit (.bool false)], args := [d] }
  | _ => none }
def FnExactIsRatioWrongFalsely : Prop := fnExactIsRatioRow.holds Try.pinned (OpenSpec.ofChange fnExactIsRatioWrong)

/-- 'laws.FnExactWaterSaved': WHATEVER THE INPUT: true; the input reads as it did. -/
def fnExactWaterSavedSpec : ChangeSpec := { name := "fnExactWaterSaved", fn := fun _ => fun
  | [d1, d2] => { results := [.lit (.bool true)], args := [d1, d2] }
  | _ => none }
def fnExactWaterSavedRow : OpenClaim := { program := "ytpgjoagbmljmnaa", sum := "eb2ebbcccc4a81bbdc2a514578f78dae9fe8fa7afd56db61bc8edd8e3db6d3d4", func := "loop.example/g01208/laws.FnExactWaterSaved", spec := "fnExactWaterSaved", apart := false }
def FnExactWaterSavedSaid : Prop := fnExactWaterSavedRow.holds Try.pinned (OpenSpec.ofChange fnExactWaterSavedSpec)

/-- ITS FALSE NEIGHBOUR: 'it returns false'. Refute it at one input. -/
def fnExactWaterSavedWrong : ChangeSpec := { name := "fnExactWaterSaved", fn := fun _ => fun
  | [d1, d2] => { results := [.lit (.bool false)], args := [d1, d2] }
  | _ => none }
def FnExactWaterSavedWrongFalsely : Prop := fnExactWaterSavedRow.holds Try.pinned (OpenSpec.ofChange fnExactWaterSavedWrong)

/-- 'laws.FnExactSavedShare': WHATEVER THE INPUT: true; the input reads as it did. -/
def fnExactSavedShareSpec : ChangeSpec := { name := "fnExactSavedShare", fn := fun _ => fun
  | [d] => { results := [.lit (.bool true)], args := [d] }
  | _ => none }
def fnExactSavedShareRow : OpenClaim := { program := "ytpgjoagbmljmnaa", sum := "eb2ebbcccc4a81bbdc2a514578f78dae9fe8fa7afd56db61bc8edd8e3db6d3d4", func := "loop.example/g01208/laws.FnExactSavedShare", spec := "fnExactSavedShare", apart := false }
def FnExactSavedShareSaid : Prop := fnExactSavedShareRow.holds Try.pinned (OpenSpec.ofChange fnExactSavedShareSpec)

/-- ITS FALSE NEIGHBOUR: 'it returns false'. Refute it at one input. -/
def fnExactSavedShareWrong : ChangeSpec := { name := "fnExactSavedShare", fn := fun _ => fun
  | [d] => { results := [.lit (.bool false)], args := [d] }
  | _ => none }
def FnExactSavedShareWrongFalsely : Prop := fnExactSavedShareRow.holds Try.pinned (OpenSpec.ofChange fnExactSavedShareWrong)

/-- 'laws.FnExactThinShare': WHATEVER THE INPUT: true; the input reads as it did. -/
def fnExactThinShareSpec : ChangeSpec := { name := "fnExactThinShare", fn := fun _ => fun
  | [d1, d2, d3] => { results := [.lit (.bool true)], args := [d1, d2, d3] }
  | _ => none }
def fnExactThinShareRow : OpenClaim := { program := "ytpgjoagbmljmnaa", sum := "eb2ebbcccc4a81bbdc2a514578f78dae9fe8fa7afd56db61bc8edd8e3db6d3d4", func := "loop.example/g01208/laws.FnExactThinShare", spec := "fnExactThinShare", apart := false }
def FnExactThinShareSaid : Prop := fnExactThinShareRow.holds Try.pinned (OpenSpec.ofChange fnExactThinShareSpec)

/-- ITS FALSE NEIGHBOUR: 'it returns false'. Refute it at one input. -/
def fnExactThinShareWrong : ChangeSpec := { name := "fnExactThinShare", fn := fun _ => fun
  | [d1, d2, d3] => { results := [.lit (.bool false)], args := [d1, d2, d3] }
  | _ => none }
def FnExactThinShareWrongFalsely : Prop := fnExactThinShareRow.holds Try.pinned (OpenSpec.ofChange fnExactThinShareWrong)

/-- 'laws.FnExactIsFlight': WHATEVER THE INPUT: true; the input reads as it did. -/
def fnExactIsFlightSpec : ChangeSpec := { name := "fnExactIsFlight", fn := fun _ => fun
  | [d] => { results := [.lit (.bool true)], args := [d] }
  | _ => none }
def fnExactIsFlightRow : OpenClaim := { program := "ytpgjoagbmljmnaa", sum := "eb2ebbcccc4a81bbdc2a514578f78dae9fe8fa7afd56db61bc8edd8e3db6d3d4", func := "loop.example/g01208/laws.FnExactIsFlight", spec := "fnExactIsFlight", unfollowed := true, recurses := true, apart := false }
def FnExactIsFlightSaid : Prop := fnExactIsFlightRow.holds Try.pinned (OpenSpec.ofChange fnExactIsFlightSpec)

/-- ITS FALSE NEIGHBOUR: 'it returns false'. Refute it at one input. -/
def fnExactIsFlightWrong : ChangeSpec := { name := "fnExactIsFlight", fn := fun _ => fun
  | [d] => { results := [.lit (.bool false)], args := [d] }
  | _ => none }
def FnExactIsFlightWrongFalsely : Prop := fnExactIsFlightRow.holds Try.pinned (OpenSpec.ofChange fnExactIsFlightWrong)

/-- 'laws.FnExactTimesToThin': WHATEVER THE INPUT: true; the input reads as it did. -/
def fnExactTimesToThinSpec : ChangeSpec := { name := "fnExactTimesToThin", fn := fun _ => fun
  | [d1, d2, d3] => { results := [.lit (.bool true)], args := [d1, d2, d3] }
  | _ => none }
def fnExactTimesToThinRow : OpenClaim := { program := "ytpgjoagbmljmnaa", sum := "eb2ebbcccc4a81bbdc2a514578f78dae9fe8fa7afd56db61bc8edd8e3db6d3d4", func := "loop.example/g01208/laws.FnExactTimesToThin", spec := "fnExactTimesToThin", apart := false }
def FnExactTimesToThinSaid : Prop := fnExactTimesToThinRow.holds Try.pinned (OpenSpec.ofChange fnExactTimesToThinSpec)

/-- ITS FALSE NEIGHBOUR: 'it returns false'. Refute it at one input. -/
def fnExactTimesToThinWrong : ChangeSpec := { name := "fnExactTimesToThin", fn := fun _ => fun
  | [d1, d2, d3] => { results := [.lit (.bool false)], args := [d1, d2, d3] }
  | _ => none }
def FnExactTimesToThinWrongFalsely : Prop := fnExactTimesToThinRow.holds Try.pinned (OpenSpec.ofChange fnExactTimesToThinWrong)

/-- 'laws.FnExactBlendAmounts': WHATEVER THE INPUT: true; the input reads as it did. -/
def fnExactBlendAmountsSpec : ChangeSpec := { name := "fnExactBlendAmounts", fn := fun _ => fun
  | [d1, d2, d3] => { results := [.lit (.bool true)], args := [d1, d2, d3] }
  | _ => none }
def fnExactBlendAmountsRow : OpenClaim := { program := "ytpgjoagbmljmnaa", sum := "eb2ebbcccc4a81bbdc2a514578f78dae9fe8fa7afd56db61bc8edd8e3db6d3d4", func := "loop.example/g01208/laws.FnExactBlendAmounts", spec := "fnExactBlendAmounts", apart := false }
def FnExactBlendAmountsSaid : Prop := fnExactBlendAmountsRow.holds Try.pinned (OpenSpec.ofChange fnExactBlendAmountsSpec)

/-- ITS FALSE NEIGHBOUR: 'it returns false'. Refute it at one input. -/
def fnExactBlendAmountsWrong : ChangeSpec := { name := "fnExactBlendAmounts", fn := fun _ => fun
  | [d1, d2, d3] => { results := [.lit (.bool false)], args := [d1, d2, d3] }
  | _ => none }
def FnExactBlendAmountsWrongFalsely : Prop := fnExactBlendAmountsRow.holds Try.pinned (OpenSpec.ofChange fnExactBlendAmountsWrong)

/- THE SECOND FORM. 'bulk': how many values and letters a reading holds, each counted each time it is reached (what is shared counts as often as it is met; a slice's spare places count too). A statement '..UptoSaid' is the law's where the arguments, and the package variables that the reading takes, are together of bulk at most 1048576: NARROWER than '..Said'. Prove '..Said' where nothing that the law and all that it calls make is longer than what came in: it says more and counts as full. Else prove '..UptoSaid'. A law counts once. -/
mutual
def uptoBulk {H : Type} : DataW H → Nat
  | .lit (.string bytes) => bytes.length + 1
  | .lit _ => 1
  | .nil => 1
  | .ptr d => uptoBulk d + 1
  | .slice elems spare => uptoBulkAll elems + uptoBulkAll spare + 1
  | .agg parts => uptoBulkAll parts + 1
  | .iface _ d => uptoBulk d + 1
  | .map entries => uptoBulkEntries entries + 1
  | .held _ => 1
def uptoBulkAll {H : Type} : List (DataW H) → Nat
  | [] => 0
  | d :: r => uptoBulk d + uptoBulkAll r
def uptoBulkEntries {H : Type} : List (Lit × DataW H) → Nat
  | [] => 0
  | x :: r => uptoBulkEntry x + uptoBulkEntries r
def uptoBulkEntry {H : Type} : Lit × DataW H → Nat
  | (.string bytes, d) => bytes.length + uptoBulk d + 1
  | (_, d) => uptoBulk d + 1
 end
def uptoSmall : (H : Type) → List (DataW H) → Bool := fun _ ds => decide (uptoBulkAll ds ≤ 1048576)
def OpenSpec.upto (s : _root_.Go.ChangeSpec) : _root_.Go.OpenSpec := { _root_.Go.OpenSpec.ofChange s with cond := some uptoSmall }

/-- 'laws.FnExactIsClock', WHERE WHAT IT READS IS OF BULK AT MOST 1048576: true; the input reads as it did. -/
def fnExactIsClockUptoRow : OpenClaim := { program := "ytpgjoagbmljmnaa", sum := "eb2ebbcccc4a81bbdc2a514578f78dae9fe8fa7afd56db61bc8edd8e3db6d3d4", func := "loop.example/g01208/laws.FnExactIsClock", spec := "fnExactIsClock", apart := false, narrowed := true }
def FnExactIsClockUptoSaid : Prop := fnExactIsClockUptoRow.holds Try.pinned (OpenSpec.upto fnExactIsClockSpec)

/-- 'laws.FnExactIsWheel', WHERE WHAT IT READS IS OF BULK AT MOST 1048576: true; the input reads as it did. -/
def fnExactIsWheelUptoRow : OpenClaim := { program := "ytpgjoagbmljmnaa", sum := "eb2ebbcccc4a81bbdc2a514578f78dae9fe8fa7afd56db61bc8edd8e3db6d3d4", func := "loop.example/g01208/laws.FnExactIsWheel", spec := "fnExactIsWheel", apart := false, narrowed := true }
def FnExactIsWheelUptoSaid : Prop := fnExactIsWheelUptoRow.holds Try.pinned (OpenSpec.upto fnExactIsWheelSpec)

/-- 'laws.FnExactDropOf', WHERE WHAT IT READS IS OF BULK AT MOST 1048576: true; the input reads as it did. -/
def fnExactDropOfUptoRow : OpenClaim := { program := "ytpgjoagbmljmnaa", sum := "eb2ebbcccc4a81bbdc2a514578f78dae9fe8fa7afd56db61bc8edd8e3db6d3d4", func := "loop.example/g01208/laws.FnExactDropOf", spec := "fnExactDropOf", apart := false, narrowed := true }
def FnExactDropOfUptoSaid : Prop := fnExactDropOfUptoRow.holds Try.pinned (OpenSpec.upto fnExactDropOfSpec)

/-- 'laws.FnExactTurnTime', WHERE WHAT IT READS IS OF BULK AT MOST 1048576: true; the input reads as it did. -/
def fnExactTurnTimeUptoRow : OpenClaim := { program := "ytpgjoagbmljmnaa", sum := "eb2ebbcccc4a81bbdc2a514578f78dae9fe8fa7afd56db61bc8edd8e3db6d3d4", func := "loop.example/g01208/laws.FnExactTurnTime", spec := "fnExactTurnTime", apart := false, narrowed := true }
def FnExactTurnTimeUptoSaid : Prop := fnExactTurnTimeUptoRow.holds Try.pinned (OpenSpec.upto fnExactTurnTimeSpec)

/-- 'laws.FnExactSpiltByWheel', WHERE WHAT IT READS IS OF BULK AT MOST 1048576: true; the input reads as it did. -/
def fnExactSpiltByWheelUptoRow : OpenClaim := { program := "ytpgjoagbmljmnaa", sum := "eb2ebbcccc4a81bbdc2a514578f78dae9fe8fa7afd56db61bc8edd8e3db6d3d4", func := "loop.example/g01208/laws.FnExactSpiltByWheel", spec := "fnExactSpiltByWheel", apart := false, narrowed := true }
def FnExactSpiltByWheelUptoSaid : Prop := fnExactSpiltByWheelUptoRow.holds Try.pinned (OpenSpec.upto fnExactSpiltByWheelSpec)

/-- 'laws.FnExactIsRatio', WHERE WHAT IT READS IS OF BULK AT MOST 1048576: true; the input reads as it did. -/
def fnExactIsRatioUptoRow : OpenClaim := { program := "ytpgjoagbmljmnaa", sum := "eb2ebbcccc4a81bbdc2a514578f78dae9fe8fa7afd56db61bc8edd8e3db6d3d4", func := "loop.example/g01208/laws.FnExactIsRatio", spec := "fnExactIsRatio", apart := false, narrowed := true }
def FnExactIsRatioUptoSaid : Prop := fnExactIsRatioUptoRow.holds Try.pinned (OpenSpec.upto fnExactIsRatioSpec)

/-- 'laws.FnExactWaterSaved', WHERE WHAT IT READS IS OF BULK AT MOST 1048576: true; the input reads as it did. -/
def fnExactWaterSavedUptoRow : OpenClaim := { program := "ytpgjoagbmljmnaa", sum := "eb2ebbcccc4a81bbdc2a514578f78dae9fe8fa7afd56db61bc8edd8e3db6d3d4", func := "loop.example/g01208/laws.FnExactWaterSaved", spec := "fnExactWaterSaved", apart := false, narrowed := true }
def FnExactWaterSavedUptoSaid : Prop := fnExactWaterSavedUptoRow.holds Try.pinned (OpenSpec.upto fnExactWaterSavedSpec)

/-- 'laws.FnExactSavedShare', WHERE WHAT IT READS IS OF BULK AT MOST 1048576: true; the input reads as it did. -/
def fnExactSavedShareUptoRow : OpenClaim := { program := "ytpgjoagbmljmnaa", sum := "eb2ebbcccc4a81bbdc2a514578f78dae9fe8fa7afd56db61bc8edd8e3db6d3d4", func := "loop.example/g01208/laws.FnExactSavedShare", spec := "fnExactSavedShare", apart := false, narrowed := true }
def FnExactSavedShareUptoSaid : Prop := fnExactSavedShareUptoRow.holds Try.pinned (OpenSpec.upto fnExactSavedShareSpec)

/-- 'laws.FnExactThinShare', WHERE WHAT IT READS IS OF BULK AT MOST 1048576: true; the input reads as it did. -/
def fnExactThinShareUptoRow : OpenClaim := { program := "ytpgjoagbmljmnaa", sum := "eb2ebbcccc4a81bbdc2a514578f78dae9fe8fa7afd56db61bc8edd8e3db6d3d4", func := "loop.example/g01208/laws.FnExactThinShare", spec := "fnExactThinShare", apart := false, narrowed := true }
def FnExactThinShareUptoSaid : Prop := fnExactThinShareUptoRow.holds Try.pinned (OpenSpec.upto fnExactThinShareSpec)

/-- 'laws.FnExactIsFlight', WHERE WHAT IT READS IS OF BULK AT MOST 1048576: true; the input reads as it did. -/
def fnExactIsFlightUptoRow : OpenClaim := { program := "ytpgjoagbmljmnaa", sum := "eb2ebbcccc4a81bbdc2a514578f78dae9fe8fa7afd56db61bc8edd8e3db6d3d4", func := "loop.example/g01208/laws.FnExactIsFlight", spec := "fnExactIsFlight", unfollowed := true, recurses := true, apart := false, narrowed := true }
def FnExactIsFlightUptoSaid : Prop := fnExactIsFlightUptoRow.holds Try.pinned (OpenSpec.upto fnExactIsFlightSpec)

/-- 'laws.FnExactTimesToThin', WHERE WHAT IT READS IS OF BULK AT MOST 1048576: true; the input reads as it did. -/
def fnExactTimesToThinUptoRow : OpenClaim := { program := "ytpgjoagbmljmnaa", sum := "eb2ebbcccc4a81bbdc2a514578f78dae9fe8fa7afd56db61bc8edd8e3db6d3d4", func := "loop.example/g01208/laws.FnExactTimesToThin", spec := "fnExactTimesToThin", apart := false, narrowed := true }
def FnExactTimesToThinUptoSaid : Prop := fnExactTimesToThinUptoRow.holds Try.pinned (OpenSpec.upto fnExactTimesToThinSpec)

/-- 'laws.FnExactBlendAmounts', WHERE WHAT IT READS IS OF BULK AT MOST 1048576: true; the input reads as it did. -/
def fnExactBlendAmountsUptoRow : OpenClaim := { program := "ytpgjoagbmljmnaa", sum := "eb2ebbcccc4a81bbdc2a514578f78dae9fe8fa7afd56db61bc8edd8e3db6d3d4", func := "loop.example/g01208/laws.FnExactBlendAmounts", spec := "fnExactBlendAmounts", apart := false, narrowed := true }
def FnExactBlendAmountsUptoSaid : Prop := fnExactBlendAmountsUptoRow.holds Try.pinned (OpenSpec.upto fnExactBlendAmountsSpec)

end Rows
end Go.Proofs.Ytpgjoagbmljmnaa

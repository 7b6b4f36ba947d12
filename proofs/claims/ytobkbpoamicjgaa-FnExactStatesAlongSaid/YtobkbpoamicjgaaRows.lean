/-
  No cell of these rows narrows 'for every input' (looked for: loops, veiled, ifaces, maps, wideKeys, modest, calm, conditions, laid).
  DERIVED. THE GIVEN ROWS OF THIS SEAT. 12 by the template 'for every input the law returns true; each argument reads behind the call as it read before'; 0 by the template 'total and deterministic' (their statements: YtobkbpoamicjgaaTotals.lean).
  GIVEN WITH THE SEED: the statements are not yours to turn. If you find one false, say at which input.
  Laid BY PROGRAM, IN A SANDBOX (cutbox-rows.mjs): the forced cells as the released guide's own fill.sh prints them over the translation 4ab9c4771c88f397… (all of the seat's roots in one cut). By AI agents, Wed Nov 11 2026. No macro, syntax, notation, axiom, sorry.
-/
import Derived.Test.YtobkbpoamicjgaaChecked
import GoSem.Claim
import GoSem.ClaimJoined
import GoSem.ClaimMapViews
import Derived.JoinedTies
import Derived.KernelRfl
namespace Go.Proofs.Ytobkbpoamicjgaa
/- THE CELL 'sum', in the pinned program and in every row, IS THE sha256 OF THE DUMP (.gsa) THAT YtobkbpoamicjgaaProg.lean LOADS. Nothing in Lean hashes anything: it is a label: what it is worth is what the hold of that sum in a sandbox is worth. -/
noncomputable def Try.pinned : Pinned := { name := "ytobkbpoamicjgaa", sum := "4ab9c4771c88f39750570509311f68f0133ed66a42ec5cafeec5e5e9391ec266", checked := Try.checked }
namespace Rows
def none {H : Type} : Left H := { results := [], args := [] }

/-- 'laws.FnExactSwapVessels': WHATEVER THE INPUT: true; the input reads as it did. -/
def fnExactSwapVesselsSpec : ChangeSpec := { name := "fnExactSwapVessels", fn := fun _ => fun
  | [d1, d2, d3] => { results := [.lit (.bool true)], args := [d1, d2, d3] }
  | _ => none }
def fnExactSwapVesselsRow : OpenClaim := { program := "ytobkbpoamicjgaa", sum := "4ab9c4771c88f39750570509311f68f0133ed66a42ec5cafeec5e5e9391ec266", func := "loop.example/g01208/laws.FnExactSwapVessels", spec := "fnExactSwapVessels", unfollowed := true, recurses := true, apart := false }
def FnExactSwapVesselsSaid : Prop := fnExactSwapVesselsRow.holds Try.pinned (OpenSpec.ofChange fnExactSwapVesselsSpec)

/-- ITS FALSE NEIGHBOUR: 'it returns false'. Refute it at one input. -/
def fnExactSwapVesselsWrong : ChangeSpec := { name := "fnExactSwapVessels", fn := fun _ => fun
  | [d1, d2, d3] => { results := [.lit (.bool false)], args := [d1, d2, d3] }
  | _ => none }
def FnExactSwapVesselsWrongFalsely : Prop := fnExactSwapVesselsRow.holds Try.pinned (OpenSpec.ofChange fnExactSwapVesselsWrong)

/-- 'laws.FnExactScaleVessels': WHATEVER THE INPUT: true; the input reads as it did. -/
def fnExactScaleVesselsSpec : ChangeSpec := { name := "fnExactScaleVessels", fn := fun _ => fun
  | [d1, d2] => { results := [.lit (.bool true)], args := [d1, d2] }
  | _ => none }
def fnExactScaleVesselsRow : OpenClaim := { program := "ytobkbpoamicjgaa", sum := "4ab9c4771c88f39750570509311f68f0133ed66a42ec5cafeec5e5e9391ec266", func := "loop.example/g01208/laws.FnExactScaleVessels", spec := "fnExactScaleVessels", unfollowed := true, recurses := true, apart := false }
def FnExactScaleVesselsSaid : Prop := fnExactScaleVesselsRow.holds Try.pinned (OpenSpec.ofChange fnExactScaleVesselsSpec)

/-- ITS FALSE NEIGHBOUR: 'it returns false'. Refute it at one input. -/
def fnExactScaleVesselsWrong : ChangeSpec := { name := "fnExactScaleVessels", fn := fun _ => fun
  | [d1, d2] => { results := [.lit (.bool false)], args := [d1, d2] }
  | _ => none }
def FnExactScaleVesselsWrongFalsely : Prop := fnExactScaleVesselsRow.holds Try.pinned (OpenSpec.ofChange fnExactScaleVesselsWrong)

/-- 'laws.FnExactLeastScale': WHATEVER THE INPUT: true; the input reads as it did. -/
def fnExactLeastScaleSpec : ChangeSpec := { name := "fnExactLeastScale", fn := fun _ => fun
  | [d] => { results := [.lit (.bool true)], args := [d] }
  | _ => none }
def fnExactLeastScaleRow : OpenClaim := { program := "ytobkbpoamicjgaa", sum := "4ab9c4771c88f39750570509311f68f0133ed66a42ec5cafeec5e5e9391ec266", func := "loop.example/g01208/laws.FnExactLeastScale", spec := "fnExactLeastScale", unfollowed := true, recurses := true, apart := false }
def FnExactLeastScaleSaid : Prop := fnExactLeastScaleRow.holds Try.pinned (OpenSpec.ofChange fnExactLeastScaleSpec)

/-- ITS FALSE NEIGHBOUR: 'it returns false'. Refute it at one input. -/
def fnExactLeastScaleWrong : ChangeSpec := { name := "fnExactLeastScale", fn := fun _ => fun
  | [d] => { results := [.lit (.bool false)], args := [d] }
  | _ => none }
def FnExactLeastScaleWrongFalsely : Prop := fnExactLeastScaleRow.holds Try.pinned (OpenSpec.ofChange fnExactLeastScaleWrong)

/-- 'laws.FnExactMakeMove': WHATEVER THE INPUT: true; the input reads as it did. -/
def fnExactMakeMoveSpec : ChangeSpec := { name := "fnExactMakeMove", fn := fun _ => fun
  | [d1, d2] => { results := [.lit (.bool true)], args := [d1, d2] }
  | _ => none }
def fnExactMakeMoveRow : OpenClaim := { program := "ytobkbpoamicjgaa", sum := "4ab9c4771c88f39750570509311f68f0133ed66a42ec5cafeec5e5e9391ec266", func := "loop.example/g01208/laws.FnExactMakeMove", spec := "fnExactMakeMove", unfollowed := true, recurses := true, apart := false }
def FnExactMakeMoveSaid : Prop := fnExactMakeMoveRow.holds Try.pinned (OpenSpec.ofChange fnExactMakeMoveSpec)

/-- ITS FALSE NEIGHBOUR: 'it returns false'. Refute it at one input. -/
def fnExactMakeMoveWrong : ChangeSpec := { name := "fnExactMakeMove", fn := fun _ => fun
  | [d1, d2] => { results := [.lit (.bool false)], args := [d1, d2] }
  | _ => none }
def FnExactMakeMoveWrongFalsely : Prop := fnExactMakeMoveRow.holds Try.pinned (OpenSpec.ofChange fnExactMakeMoveWrong)

/-- 'laws.FnExactTakenIn': WHATEVER THE INPUT: true; the input reads as it did. -/
def fnExactTakenInSpec : ChangeSpec := { name := "fnExactTakenIn", fn := fun _ => fun
  | [d1, d2] => { results := [.lit (.bool true)], args := [d1, d2] }
  | _ => none }
def fnExactTakenInRow : OpenClaim := { program := "ytobkbpoamicjgaa", sum := "4ab9c4771c88f39750570509311f68f0133ed66a42ec5cafeec5e5e9391ec266", func := "loop.example/g01208/laws.FnExactTakenIn", spec := "fnExactTakenIn", unfollowed := true, recurses := true, apart := false }
def FnExactTakenInSaid : Prop := fnExactTakenInRow.holds Try.pinned (OpenSpec.ofChange fnExactTakenInSpec)

/-- ITS FALSE NEIGHBOUR: 'it returns false'. Refute it at one input. -/
def fnExactTakenInWrong : ChangeSpec := { name := "fnExactTakenIn", fn := fun _ => fun
  | [d1, d2] => { results := [.lit (.bool false)], args := [d1, d2] }
  | _ => none }
def FnExactTakenInWrongFalsely : Prop := fnExactTakenInRow.holds Try.pinned (OpenSpec.ofChange fnExactTakenInWrong)

/-- 'laws.FnExactMakeMoves': WHATEVER THE INPUT: true; the input reads as it did. -/
def fnExactMakeMovesSpec : ChangeSpec := { name := "fnExactMakeMoves", fn := fun _ => fun
  | [d1, d2] => { results := [.lit (.bool true)], args := [d1, d2] }
  | _ => none }
def fnExactMakeMovesRow : OpenClaim := { program := "ytobkbpoamicjgaa", sum := "4ab9c4771c88f39750570509311f68f0133ed66a42ec5cafeec5e5e9391ec266", func := "loop.example/g01208/laws.FnExactMakeMoves", spec := "fnExactMakeMoves", unfollowed := true, recurses := true, apart := false }
def FnExactMakeMovesSaid : Prop := fnExactMakeMovesRow.holds Try.pinned (OpenSpec.ofChange fnExactMakeMovesSpec)

/-- ITS FALSE NEIGHBOUR: 'it returns false'. Refute it at one input. -/
def fnExactMakeMovesWrong : ChangeSpec := { name := "fnExactMakeMoves", fn := fun _ => fun
  | [d1, d2] => { results := [.lit (.bool false)], args := [d1, d2] }
  | _ => none }
def FnExactMakeMovesWrongFalsely : Prop := fnExactMakeMovesRow.holds Try.pinned (OpenSpec.ofChange fnExactMakeMovesWrong)

/-- 'laws.FnExactStatesAlong': WHATEVER THE INPUT: true; the input reads as it did. -/
def fnExactStatesAlongSpec : ChangeSpec := { name := "fnExactStatesAlong", fn := fun _ => fun
  | [d1, d2] => { results := [.lit (.bool true)], args := [d1, d2] }
  | _ => none }
def fnExactStatesAlongRow : OpenClaim := { program := "ytobkbpoamicjgaa", sum := "4ab9c4771c88f39750570509311f68f0133ed66a42ec5cafeec5e5e9391ec266", func := "loop.example/g01208/laws.FnExactStatesAlong", spec := "fnExactStatesAlong", unfollowed := true, recurses := true, apart := false }
def FnExactStatesAlongSaid : Prop := fnExactStatesAlongRow.holds Try.pinned (OpenSpec.ofChange fnExactStatesAlongSpec)

/-- ITS FALSE NEIGHBOUR: 'it returns false'. Refute it at one input. -/
def fnExactStatesAlongWrong : ChangeSpec := { name := "fnExactStatesAlong", fn := fun _ => fun
  | [d1, d2] => { results := [.lit (.bool false)], args := [d1, d2] }
  | _ => none }
def FnExactStatesAlongWrongFalsely : Prop := fnExactStatesAlongRow.holds Try.pinned (OpenSpec.ofChange fnExactStatesAlongWrong)

/-- 'laws.FnExactIsBrine': WHATEVER THE INPUT: true; the input reads as it did. -/
def fnExactIsBrineSpec : ChangeSpec := { name := "fnExactIsBrine", fn := fun _ => fun
  | [d] => { results := [.lit (.bool true)], args := [d] }
  | _ => none }
def fnExactIsBrineRow : OpenClaim := { program := "ytobkbpoamicjgaa", sum := "4ab9c4771c88f39750570509311f68f0133ed66a42ec5cafeec5e5e9391ec266", func := "loop.example/g01208/laws.FnExactIsBrine", spec := "fnExactIsBrine", unfollowed := true, recurses := true, apart := false }
def FnExactIsBrineSaid : Prop := fnExactIsBrineRow.holds Try.pinned (OpenSpec.ofChange fnExactIsBrineSpec)

/-- ITS FALSE NEIGHBOUR: 'it returns false'. Refute it at one input. -/
def fnExactIsBrineWrong : ChangeSpec := { name := "fnExactIsBrine", fn := fun _ => fun
  | [d] => { results := [.lit (.bool false)], args := [d] }
  | _ => none }
def FnExactIsBrineWrongFalsely : Prop := fnExactIsBrineRow.holds Try.pinned (OpenSpec.ofChange fnExactIsBrineWrong)

/-- 'laws.FnExactShareOf': WHATEVER THE INPUT: true; the input reads as it did. -/
def fnExactShareOfSpec : ChangeSpec := { name := "fnExactShareOf", fn := fun _ => fun
  | [d1, d2] => { results := [.lit (.bool true)], args := [d1, d2] }
  | _ => none }
def fnExactShareOfRow : OpenClaim := { program := "ytobkbpoamicjgaa", sum := "4ab9c4771c88f39750570509311f68f0133ed66a42ec5cafeec5e5e9391ec266", func := "loop.example/g01208/laws.FnExactShareOf", spec := "fnExactShareOf", unfollowed := true, recurses := true, apart := false }
def FnExactShareOfSaid : Prop := fnExactShareOfRow.holds Try.pinned (OpenSpec.ofChange fnExactShareOfSpec)

/-- ITS FALSE NEIGHBOUR: 'it returns false'. Refute it at one input. -/
def fnExactShareOfWrong : ChangeSpec := { name := "fnExactShareOf", fn := fun _ => fun
  | [d1, d2] => { results := [.lit (.bool false)], args := [d1, d2] }
  | _ => none }
def FnExactShareOfWrongFalsely : Prop := fnExactShareOfRow.holds Try.pinned (OpenSpec.ofChange fnExactShareOfWrong)

/-- 'laws.FnExactTotalSalt': WHATEVER THE INPUT: true; the input reads as it did. -/
def fnExactTotalSaltSpec : ChangeSpec := { name := "fnExactTotalSalt", fn := fun _ => fun
  | [d] => { results := [.lit (.bool true)], args := [d] }
  | _ => none }
def fnExactTotalSaltRow : OpenClaim := { program := "ytobkbpoamicjgaa", sum := "4ab9c4771c88f39750570509311f68f0133ed66a42ec5cafeec5e5e9391ec266", func := "loop.example/g01208/laws.FnExactTotalSalt", spec := "fnExactTotalSalt", unfollowed := true, recurses := true, apart := false }
def FnExactTotalSaltSaid : Prop := fnExactTotalSaltRow.holds Try.pinned (OpenSpec.ofChange fnExactTotalSaltSpec)

/-- ITS FALSE NEIGHBOUR: 'it returns false'. Refute it at one input. -/
def fnExactTotalSaltWrong : ChangeSpec := { name := "fnExactTotalSalt", fn := fun _ => fun
  | [d] => { results := [.lit (.bool false)], args := [d] }
  | _ => none }
def FnExactTotalSaltWrongFalsely : Prop := fnExactTotalSaltRow.holds Try.pinned (OpenSpec.ofChange fnExactTotalSaltWrong)

/-- 'laws.FnExactSharesOf': WHATEVER THE INPUT: true; the input reads as it did. -/
def fnExactSharesOfSpec : ChangeSpec := { name := "fnExactSharesOf", fn := fun _ => fun
  | [d] => { results := [.lit (.bool true)], args := [d] }
  | _ => none }
def fnExactSharesOfRow : OpenClaim := { program := "ytobkbpoamicjgaa", sum := "4ab9c4771c88f39750570509311f68f0133ed66a42ec5cafeec5e5e9391ec266", func := "loop.example/g01208/laws.FnExactSharesOf", spec := "fnExactSharesOf", unfollowed := true, recurses := true, apart := false }
def FnExactSharesOfSaid : Prop := fnExactSharesOfRow.holds Try.pinned (OpenSpec.ofChange fnExactSharesOfSpec)

/-- ITS FALSE NEIGHBOUR: 'it returns false'. Refute it at one input. -/
def fnExactSharesOfWrong : ChangeSpec := { name := "fnExactSharesOf", fn := fun _ => fun
  | [d] => { results := [.lit (.bool false)], args := [d] }
  | _ => none }
def FnExactSharesOfWrongFalsely : Prop := fnExactSharesOfRow.holds Try.pinned (OpenSpec.ofChange fnExactSharesOfWrong)

/-- 'laws.FnExactAreEven': WHATEVER THE INPUT: true; the input reads as it did. -/
def fnExactAreEvenSpec : ChangeSpec := { name := "fnExactAreEven", fn := fun _ => fun
  | [d] => { results := [.lit (.bool true)], args := [d] }
  | _ => none }
def fnExactAreEvenRow : OpenClaim := { program := "ytobkbpoamicjgaa", sum := "4ab9c4771c88f39750570509311f68f0133ed66a42ec5cafeec5e5e9391ec266", func := "loop.example/g01208/laws.FnExactAreEven", spec := "fnExactAreEven", unfollowed := true, recurses := true, apart := false }
def FnExactAreEvenSaid : Prop := fnExactAreEvenRow.holds Try.pinned (OpenSpec.ofChange fnExactAreEvenSpec)

/-- ITS FALSE NEIGHBOUR: 'it returns false'. Refute it at one input. -/
def fnExactAreEvenWrong : ChangeSpec := { name := "fnExactAreEven", fn := fun _ => fun
  | [d] => { results := [.lit (.bool false)], args := [d] }
  | _ => none }
def FnExactAreEvenWrongFalsely : Prop := fnExactAreEvenRow.holds Try.pinned (OpenSpec.ofChange fnExactAreEvenWrong)

/- THE SECOND FORM. 'bulk': how many values and letters a reading holds, each counted each time it is reached (what is shared counts as often as it is met; a slice's spare places count too). A statement '..UptoSaid' is the law's where the arguments, and the package variables that the reading takes, are together of bulk at most 1048576: NARROWER than '..Said'. Prove '..Said' where nothing that the law and all that it calls make is longer than what came in: it says more and counts as full. Else prove '..UptoSaid'. A law counts once. -/
mutual
def uptoBulk {H : Type} : DataW H → Nat
  | .lit (.string bytes) => bytes.length + 1
  | .lit _ => 1
  | .nil => 1
  | .ptr d => uptoBulk d + 1
  | .slice elems spare => uptoBulkAll elems + uptoBulkAll spare + 1
  | .agg parts => uptoBulkAll parts + 1
  | .iface _ d => uptoBulk d + 1
  | .map entries => uptoBulkEntries entries + 1
  | .held _ => 1
def uptoBulkAll {H : Type} : List (DataW H) → Nat
  | [] => 0
  | d :: r => uptoBulk d + uptoBulkAll r
def uptoBulkEntries {H : Type} : List (Lit × DataW H) → Nat
  | [] => 0
  | x :: r => uptoBulkEntry x + uptoBulkEntries r
def uptoBulkEntry {H : Type} : Lit × DataW H → Nat
  | (.string bytes, d) => bytes.length + uptoBulk d + 1
  | (_, d) => uptoBulk d + 1
 end
def uptoSmall : (H : Type) → List (DataW H) → Bool := fun _ ds => decide (uptoBulkAll ds ≤ 1048576)
def OpenSpec.upto (s : _root_.Go.ChangeSpec) : _root_.Go.OpenSpec := { _root_.Go.OpenSpec.ofChange s with cond := some uptoSmall }

/-- 'laws.FnExactSwapVessels', WHERE WHAT IT READS IS OF BULK AT MOST 1048576: true; the input reads as it did. -/
def fnExactSwapVesselsUptoRow : OpenClaim := { program := "ytobkbpoamicjgaa", sum := "4ab9c4771c88f39750570509311f68f0133ed66a42ec5cafeec5e5e9391ec266", func := "loop.example/g01208/laws.FnExactSwapVessels", spec := "fnExactSwapVessels", unfollowed := true, recurses := true, apart := false, narrowed := true }
def FnExactSwapVesselsUptoSaid : Prop := fnExactSwapVesselsUptoRow.holds Try.pinned (OpenSpec.upto fnExactSwapVesselsSpec)

/-- 'laws.FnExactScaleVessels', WHERE WHAT IT READS IS OF BULK AT MOST 1048576: true; the input reads as it did. -/
def fnExactScaleVesselsUptoRow : OpenClaim := { program := "ytobkbpoamicjgaa", sum := "4ab9c4771c88f39750570509311f68f0133ed66a42ec5cafeec5e5e9391ec266", func := "loop.example/g01208/laws.FnExactScaleVessels", spec := "fnExactScaleVessels", unfollowed := true, recurses := true, apart := false, narrowed := true }
def FnExactScaleVesselsUptoSaid : Prop := fnExactScaleVesselsUptoRow.holds Try.pinned (OpenSpec.upto fnExactScaleVesselsSpec)

/-- 'laws.FnExactLeastScale', WHERE WHAT IT READS IS OF BULK AT MOST 1048576: true; the input reads as it did. -/
def fnExactLeastScaleUptoRow : OpenClaim := { program := "ytobkbpoamicjgaa", sum := "4ab9c4771c88f39750570509311f68f0133ed66a42ec5cafeec5e5e9391ec266", func := "loop.example/g01208/laws.FnExactLeastScale", spec := "fnExactLeastScale", unfollowed := true, recurses := true, apart := false, narrowed := true }
def FnExactLeastScaleUptoSaid : Prop := fnExactLeastScaleUptoRow.holds Try.pinned (OpenSpec.upto fnExactLeastScaleSpec)

/-- 'laws.FnExactMakeMove', WHERE WHAT IT READS IS OF BULK AT MOST 1048576: true; the input reads as it did. -/
def fnExactMakeMoveUptoRow : OpenClaim := { program := "ytobkbpoamicjgaa", sum := "4ab9c4771c88f39750570509311f68f0133ed66a42ec5cafeec5e5e9391ec266", func := "loop.example/g01208/laws.FnExactMakeMove", spec := "fnExactMakeMove", unfollowed := true, recurses := true, apart := false, narrowed := true }
def FnExactMakeMoveUptoSaid : Prop := fnExactMakeMoveUptoRow.holds Try.pinned (OpenSpec.upto fnExactMakeMoveSpec)

/-- 'laws.FnExactTakenIn', WHERE WHAT IT READS IS OF BULK AT MOST 1048576: true; the input reads as it did. -/
def fnExactTakenInUptoRow : OpenClaim := { program := "ytobkbpoamicjgaa", sum := "4ab9c4771c88f39750570509311f68f0133ed66a42ec5cafeec5e5e9391ec266", func := "loop.example/g01208/laws.FnExactTakenIn", spec := "fnExactTakenIn", unfollowed := true, recurses := true, apart := false, narrowed := true }
def FnExactTakenInUptoSaid : Prop := fnExactTakenInUptoRow.holds Try.pinned (OpenSpec.upto fnExactTakenInSpec)

/-- 'laws.FnExactMakeMoves', WHERE WHAT IT READS IS OF BULK AT MOST 1048576: true; the input reads as it did. -/
def fnExactMakeMovesUptoRow : OpenClaim := { program := "ytobkbpoamicjgaa", sum := "4ab9c4771c88f39750570509311f68f0133ed66a42ec5cafeec5e5e9391ec266", func := "loop.example/g01208/laws.FnExactMakeMoves", spec := "fnExactMakeMoves", unfollowed := true, recurses := true, apart := false, narrowed := true }
def FnExactMakeMovesUptoSaid : Prop := fnExactMakeMovesUptoRow.holds Try.pinned (OpenSpec.upto fnExactMakeMovesSpec)

/-- 'laws.FnExactStatesAlong', WHERE WHAT IT READS IS OF BULK AT MOST 1048576: true; the input reads as it did. -/
def fnExactStatesAlongUptoRow : OpenClaim := { program := "ytobkbpoamicjgaa", sum := "4ab9c4771c88f39750570509311f68f0133ed66a42ec5cafeec5e5e9391ec266", func := "loop.example/g01208/laws.FnExactStatesAlong", spec := "fnExactStatesAlong", unfollowed := true, recurses := true, apart := false, narrowed := true }
def FnExactStatesAlongUptoSaid : Prop := fnExactStatesAlongUptoRow.holds Try.pinned (OpenSpec.upto fnExactStatesAlongSpec)

/-- 'laws.FnExactIsBrine', WHERE WHAT IT READS IS OF BULK AT MOST 1048576: true; the input reads as it did. -/
def fnExactIsBrineUptoRow : OpenClaim := { program := "ytobkbpoamicjgaa", sum := "4ab9c4771c88f39750570509311f68f0133ed66a42ec5cafeec5e5e9391ec266", func := "loop.example/g01208/laws.FnExactIsBrine", spec := "fnExactIsBrine", unfollowed := true, recurses := true, apart := false, narrowed := true }
def FnExactIsBrineUptoSaid : Prop := fnExactIsBrineUptoRow.holds Try.pinned (OpenSpec.upto fnExactIsBrineSpec)

/-- 'laws.FnExactShareOf', WHERE WHAT IT READS IS OF BULK AT MOST 1048576: true; the input reads as it did. -/
def fnExactShareOfUptoRow : OpenClaim := { program := "ytobkbpoamicjgaa", sum := "4ab9c4771c88f39750570509311f68f0133ed66a42ec5cafeec5e5e9391ec266", func := "loop.example/g01208/laws.FnExactShareOf", spec := "fnExactShareOf", unfollowed := true, recurses := true, apart := false, narrowed := true }
def FnExactShareOfUptoSaid : Prop := fnExactShareOfUptoRow.holds Try.pinned (OpenSpec.upto fnExactShareOfSpec)

/-- 'laws.FnExactTotalSalt', WHERE WHAT IT READS IS OF BULK AT MOST 1048576: true; the input reads as it did. -/
def fnExactTotalSaltUptoRow : OpenClaim := { program := "ytobkbpoamicjgaa", sum := "4ab9c4771c88f39750570509311f68f0133ed66a42ec5cafeec5e5e9391ec266", func := "loop.example/g01208/laws.FnExactTotalSalt", spec := "fnExactTotalSalt", unfollowed := true, recurses := true, apart := false, narrowed := true }
def FnExactTotalSaltUptoSaid : Prop := fnExactTotalSaltUptoRow.holds Try.pinned (OpenSpec.upto fnExactTotalSaltSpec)

/-- 'laws.FnExactSharesOf', WHERE WHAT IT READS IS OF BULK AT MOST 1048576: true; the input reads as it did. -/
def fnExactSharesOfUptoRow : OpenClaim := { program := "ytobkbpoamicjgaa", sum := "4ab9c4771c88f39750570509311f68f0133ed66a42ec5cafeec5e5e9391ec266", func := "loop.example/g01208/laws.FnExactSharesOf", spec := "fnExactSharesOf", unfollowed := true, recurses := true, apart := false, narrowed := true }
def FnExactSharesOfUptoSaid : Prop := fnExactSharesOfUptoRow.holds Try.pinned (OpenSpec.upto fnExactSharesOfSpec)

/-- 'laws.FnExactAreEven', WHERE WHAT IT READS IS OF BULK AT MOST 1048576: true; the input reads as it did. -/
def fnExactAreEvenUptoRow : OpenClaim := { program := "ytobkbpoamicjgaa", sum := "4ab9c4771c88f39750570509311f68f0133ed66a42ec5cafeec5e5e9391ec266", func := "loop.example/g01208/laws.FnExactAreEven", spec := "fnExactAreEven", unfollowed := true, recurses := true, apart := false, narrowed := true }
def FnExactAreEvenUptoSaid : Prop := fnExactAreEvenUptoRow.holds Try.pinned (OpenSpec.upto fnExactAreEvenSpec)

end Rows
end Go.Proofs.Ytobkbpoamicjgaa

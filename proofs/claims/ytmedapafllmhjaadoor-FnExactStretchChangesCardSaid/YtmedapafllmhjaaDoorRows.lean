/-
  NARROWER THAN 'FOR EVERY INPUT', by the rows' own cells (each row's printed sentence says how): FnExactIsTraffic: laid · FnExactWaterUsed: laid · FnExactFillingsOf: laid · FnExactStretchChanges: laid · FnExactRunShips: laid.
  DERIVED. THE GIVEN ROWS OF THIS SEAT. 5 by the template 'for every input the law returns true; each argument reads behind the call as it read before'; 0 by the template 'total and deterministic' (their statements: YtmedapafllmhjaaDoorTotals.lean).
  GIVEN WITH THE SEED: the statements are not yours to turn. If you find one false, say at which input.
  Laid BY PROGRAM, IN A SANDBOX (cutbox-rows.mjs): the forced cells as the released guide's own fill.sh prints them over the translation a753e72d286ee854… (all of the seat's roots in one cut). By AI agents, Wed Nov 11 2026. No macro, syntax, notation, axiom, sorry.
-/
import Derived.Test.YtmedapafllmhjaaDoorChecked
import GoSem.PinnedTables
import GoSem.Claim
import GoSem.ClaimJoined
import GoSem.ClaimMapViews
import Derived.JoinedTies
import Derived.KernelRfl
namespace Go.Proofs.YtmedapafllmhjaaDoor
/- THE CELL 'sum', in the pinned program and in every row, IS THE sha256 OF THE DUMP (.gsa) THAT YtmedapafllmhjaaDoorProg.lean LOADS. Nothing in Lean hashes anything: it is a label: what it is worth is what the hold of that sum in a sandbox is worth. -/
noncomputable def Tryd.pinned : Pinned := { name := "ytmedapafllmhjaadoor", sum := "a753e72d286ee854e838fa7eb133c50d0d39446139c3d60c6b027366af034813", checked := Tryd.checked }
namespace Rows
def none {H : Type} : Left H := { results := [], args := [] }

/- WHAT THE LISTED PACKAGE-LEVEL VARIABLES READ AS WHEN THE CALL BEGINS. Each datum BY PROGRAM (the guide's laid-datum.mjs) off the statement by which the dump's own 'gosem.cut.vars' lays the variable. In a bare row this is a premise. The card (YtmedapafllmhjaaDoorCards.lean) ties it to the program's text. -/
def laid_unicode_utf8_acceptRanges {H : Type} : DataW H := .agg [.agg [.lit (.int .u8 128), .lit (.int .u8 191)], .agg [.lit (.int .u8 160), .lit (.int .u8 191)], .agg [.lit (.int .u8 128), .lit (.int .u8 159)], .agg [.lit (.int .u8 144), .lit (.int .u8 191)], .agg [.lit (.int .u8 128), .lit (.int .u8 143)], .agg [.lit (.int .u8 0), .lit (.int .u8 0)], .agg [.lit (.int .u8 0), .lit (.int .u8 0)], .agg [.lit (.int .u8 0), .lit (.int .u8 0)], .agg [.lit (.int .u8 0), .lit (.int .u8 0)], .agg [.lit (.int .u8 0), .lit (.int .u8 0)], .agg [.lit (.int .u8 0), .lit (.int .u8 0)], .agg [.lit (.int .u8 0), .lit (.int .u8 0)], .agg [.lit (.int .u8 0), .lit (.int .u8 0)], .agg [.lit (.int .u8 0), .lit (.int .u8 0)], .agg [.lit (.int .u8 0), .lit (.int .u8 0)], .agg [.lit (.int .u8 0), .lit (.int .u8 0)]]
/-- One of Go's own tables, pinned by name: the form's constant. -/
def laid_unicode_utf8_first : DataW Unit := Go.Pinned.utf8First

/-- 'laws.FnExactIsTraffic': WHATEVER THE INPUT: true; the input reads as it did. -/
def fnExactIsTrafficSpec : ChangeSpec := { name := "fnExactIsTraffic", fn := fun _ => fun
  | [d] => { results := [.lit (.bool true)], args := [d] }
  | _ => none }
def fnExactIsTrafficRow : OpenClaim := { program := "ytmedapafllmhjaadoor", sum := "a753e72d286ee854e838fa7eb133c50d0d39446139c3d60c6b027366af034813", func := "loop.example/g01208/laws.FnExactIsTraffic", spec := "fnExactIsTraffic", inPlace := ["internal/bytealg.IndexByteString", "internal/bytealg.IndexString"], named := ["unicode/utf8.first", "unicode/utf8.acceptRanges", "internal/bytealg.MaxLen"], apart := false, laid := [("unicode/utf8.acceptRanges", laid_unicode_utf8_acceptRanges), ("unicode/utf8.first", laid_unicode_utf8_first)] }
def FnExactIsTrafficSaid : Prop := fnExactIsTrafficRow.holds Tryd.pinned (OpenSpec.ofChange fnExactIsTrafficSpec)

/-- ITS FALSE NEIGHBOUR: 'it returns false'. Refute it at one input. -/
def fnExactIsTrafficWrong : ChangeSpec := { name := "fnExactIsTraffic", fn := fun _ => fun
  | [d] => { results := [.lit (.bool false)], args := [d] }
  | _ => none }
def FnExactIsTrafficWrongFalsely : Prop := fnExactIsTrafficRow.holds Tryd.pinned (OpenSpec.ofChange fnExactIsTrafficWrong)

/-- 'laws.FnExactWaterUsed': WHATEVER THE INPUT: true; the input reads as it did. -/
def fnExactWaterUsedSpec : ChangeSpec := { name := "fnExactWaterUsed", fn := fun _ => fun
  | [d1, d2] => { results := [.lit (.bool true)], args := [d1, d2] }
  | _ => none }
def fnExactWaterUsedRow : OpenClaim := { program := "ytmedapafllmhjaadoor", sum := "a753e72d286ee854e838fa7eb133c50d0d39446139c3d60c6b027366af034813", func := "loop.example/g01208/laws.FnExactWaterUsed", spec := "fnExactWaterUsed", inPlace := ["internal/bytealg.IndexByteString", "internal/bytealg.IndexString"], unfollowed := true, recurses := true, named := ["unicode/utf8.first", "unicode/utf8.acceptRanges", "internal/bytealg.MaxLen"], apart := false, laid := [("unicode/utf8.acceptRanges", laid_unicode_utf8_acceptRanges), ("unicode/utf8.first", laid_unicode_utf8_first)] }
def FnExactWaterUsedSaid : Prop := fnExactWaterUsedRow.holds Tryd.pinned (OpenSpec.ofChange fnExactWaterUsedSpec)

/-- ITS FALSE NEIGHBOUR: 'it returns false'. Refute it at one input. -/
def fnExactWaterUsedWrong : ChangeSpec := { name := "fnExactWaterUsed", fn := fun _ => fun
  | [d1, d2] => { results := [.lit (.bool false)], args := [d1, d2] }
  | _ => none }
def FnExactWaterUsedWrongFalsely : Prop := fnExactWaterUsedRow.holds Tryd.pinned (OpenSpec.ofChange fnExactWaterUsedWrong)

/-- 'laws.FnExactFillingsOf': WHATEVER THE INPUT: true; the input reads as it did. -/
def fnExactFillingsOfSpec : ChangeSpec := { name := "fnExactFillingsOf", fn := fun _ => fun
  | [d1, d2] => { results := [.lit (.bool true)], args := [d1, d2] }
  | _ => none }
def fnExactFillingsOfRow : OpenClaim := { program := "ytmedapafllmhjaadoor", sum := "a753e72d286ee854e838fa7eb133c50d0d39446139c3d60c6b027366af034813", func := "loop.example/g01208/laws.FnExactFillingsOf", spec := "fnExactFillingsOf", inPlace := ["internal/bytealg.IndexByteString", "internal/bytealg.IndexString"], unfollowed := true, recurses := true, named := ["unicode/utf8.first", "unicode/utf8.acceptRanges", "internal/bytealg.MaxLen"], apart := false, laid := [("unicode/utf8.acceptRanges", laid_unicode_utf8_acceptRanges), ("unicode/utf8.first", laid_unicode_utf8_first)] }
def FnExactFillingsOfSaid : Prop := fnExactFillingsOfRow.holds Tryd.pinned (OpenSpec.ofChange fnExactFillingsOfSpec)

/-- ITS FALSE NEIGHBOUR: 'it returns false'. Refute it at one input. -/
def fnExactFillingsOfWrong : ChangeSpec := { name := "fnExactFillingsOf", fn := fun _ => fun
  | [d1, d2] => { results := [.lit (.bool false)], args := [d1, d2] }
  | _ => none }
def FnExactFillingsOfWrongFalsely : Prop := fnExactFillingsOfRow.holds Tryd.pinned (OpenSpec.ofChange fnExactFillingsOfWrong)

/-- 'laws.FnExactStretchChanges': WHATEVER THE INPUT: true; the input reads as it did. -/
def fnExactStretchChangesSpec : ChangeSpec := { name := "fnExactStretchChanges", fn := fun _ => fun
  | [d1, d2] => { results := [.lit (.bool true)], args := [d1, d2] }
  | _ => none }
def fnExactStretchChangesRow : OpenClaim := { program := "ytmedapafllmhjaadoor", sum := "a753e72d286ee854e838fa7eb133c50d0d39446139c3d60c6b027366af034813", func := "loop.example/g01208/laws.FnExactStretchChanges", spec := "fnExactStretchChanges", inPlace := ["internal/bytealg.IndexByteString", "internal/bytealg.IndexString"], unfollowed := true, recurses := true, named := ["unicode/utf8.first", "unicode/utf8.acceptRanges", "internal/bytealg.MaxLen"], apart := false, laid := [("unicode/utf8.acceptRanges", laid_unicode_utf8_acceptRanges), ("unicode/utf8.first", laid_unicode_utf8_first)] }
def FnExactStretchChangesSaid : Prop := fnExactStretchChangesRow.holds Tryd.pinned (OpenSpec.ofChange fnExactStretchChangesSpec)

/-- ITS FALSE NEIGHBOUR: 'it returns false'. Refute it at one input. -/
def fnExactStretchChangesWrong : ChangeSpec := { name := "fnExactStretchChanges", fn := fun _ => fun
  | [d1, d2] => { results := [.lit (.bool false)], args := [d1, d2] }
  | _ => none }
def FnExactStretchChangesWrongFalsely : Prop := fnExactStretchChangesRow.holds Tryd.pinned (OpenSpec.ofChange fnExactStretchChangesWrong)

/-- 'laws.FnExactRunShips': WHATEVER THE INPUT: true; the input reads as it did. -/
def fnExactRunShipsSpec : ChangeSpec := { name := "fnExactRunShips", fn := fun _ => fun
  | [d1, d2] => { results := [.lit (.bool true)], args := [d1, d2] }
  | _ => none }
def fnExactRunShipsRow : OpenClaim := { program := "ytmedapafllmhjaadoor", sum := "a753e72d286ee854e838fa7eb133c50d0d39446139c3d60c6b027366af034813", func := "loop.example/g01208/laws.FnExactRunShips", spec := "fnExactRunShips", inPlace := ["internal/bytealg.IndexByteString", "internal/bytealg.IndexString"], unfollowed := true, recurses := true, named := ["unicode/utf8.first", "unicode/utf8.acceptRanges", "internal/bytealg.MaxLen"], apart := false, laid := [("unicode/utf8.acceptRanges", laid_unicode_utf8_acceptRanges), ("unicode/utf8.first", laid_unicode_utf8_first)] }
def FnExactRunShipsSaid : Prop := fnExactRunShipsRow.holds Tryd.pinned (OpenSpec.ofChange fnExactRunShipsSpec)

/-- ITS FALSE NEIGHBOUR: 'it returns false'. Refute it at one input. -/
def fnExactRunShipsWrong : ChangeSpec := { name := "fnExactRunShips", fn := fun _ => fun
  | [d1, d2] => { results := [.lit (.bool false)], args := [d1, d2] }
  | _ => none }
def FnExactRunShipsWrongFalsely : Prop := fnExactRunShipsRow.holds Tryd.pinned (OpenSpec.ofChange fnExactRunShipsWrong)

/- THE SECOND FORM. 'bulk': how many values and letters a reading holds, each counted each time it is reached (what is shared counts as often as it is met; a slice's spare places count too). A statement '..UptoSaid' is the law's where the arguments, and the package variables that the reading takes, are together of bulk at most 1048576: NARROWER than '..Said'. Prove '..Said' where nothing that the law and all that it calls make is longer than what came in: it says more and counts as full. Else prove '..UptoSaid'. A law counts once. -/
mutual
def uptoBulk {H : Type} : DataW H → Nat
  | .lit (.string bytes) => bytes.length + 1
  | .lit _ => 1
  | .nil => 1
  | .ptr d => uptoBulk d + 1
  | .slice elems spare => uptoBulkAll elems + uptoBulkAll spare + 1
  | .agg parts => uptoBulkAll parts + 1
  | .iface _ d => uptoBulk d + 1
  | .map entries => uptoBulkEntries entries + 1
  | .held _ => 1
def uptoBulkAll {H : Type} : List (DataW H) → Nat
  | [] => 0
  | d :: r => uptoBulk d + uptoBulkAll r
def uptoBulkEntries {H : Type} : List (Lit × DataW H) → Nat
  | [] => 0
  | x :: r => uptoBulkEntry x + uptoBulkEntries r
def uptoBulkEntry {H : Type} : Lit × DataW H → Nat
  | (.string bytes, d) => bytes.length + uptoBulk d + 1
  | (_, d) => uptoBulk d + 1
 end
def uptoSmall : (H : Type) → List (DataW H) → Bool := fun _ ds => decide (uptoBulkAll ds ≤ 1048576)
def OpenSpec.upto (s : _root_.Go.ChangeSpec) : _root_.Go.OpenSpec := { _root_.Go.OpenSpec.ofChange s with cond := some uptoSmall }

/-- 'laws.FnExactIsTraffic', WHERE WHAT IT READS IS OF BULK AT MOST 1048576: true; the input reads as it did. -/
def fnExactIsTrafficUptoRow : OpenClaim := { program := "ytmedapafllmhjaadoor", sum := "a753e72d286ee854e838fa7eb133c50d0d39446139c3d60c6b027366af034813", func := "loop.example/g01208/laws.FnExactIsTraffic", spec := "fnExactIsTraffic", inPlace := ["internal/bytealg.IndexByteString", "internal/bytealg.IndexString"], named := ["unicode/utf8.first", "unicode/utf8.acceptRanges", "internal/bytealg.MaxLen"], apart := false, laid := [("unicode/utf8.acceptRanges", laid_unicode_utf8_acceptRanges), ("unicode/utf8.first", laid_unicode_utf8_first)], narrowed := true }
def FnExactIsTrafficUptoSaid : Prop := fnExactIsTrafficUptoRow.holds Tryd.pinned (OpenSpec.upto fnExactIsTrafficSpec)

/-- 'laws.FnExactWaterUsed', WHERE WHAT IT READS IS OF BULK AT MOST 1048576: true; the input reads as it did. -/
def fnExactWaterUsedUptoRow : OpenClaim := { program := "ytmedapafllmhjaadoor", sum := "a753e72d286ee854e838fa7eb133c50d0d39446139c3d60c6b027366af034813", func := "loop.example/g01208/laws.FnExactWaterUsed", spec := "fnExactWaterUsed", inPlace := ["internal/bytealg.IndexByteString", "internal/bytealg.IndexString"], unfollowed := true, recurses := true, named := ["unicode/utf8.first", "unicode/utf8.acceptRanges", "internal/bytealg.MaxLen"], apart := false, laid := [("unicode/utf8.acceptRanges", laid_unicode_utf8_acceptRanges), ("unicode/utf8.first", laid_unicode_utf8_first)], narrowed := true }
def FnExactWaterUsedUptoSaid : Prop := fnExactWaterUsedUptoRow.holds Tryd.pinned (OpenSpec.upto fnExactWaterUsedSpec)

/-- 'laws.FnExactFillingsOf', WHERE WHAT IT READS IS OF BULK AT MOST 1048576: true; the input reads as it did. -/
def fnExactFillingsOfUptoRow : OpenClaim := { program := "ytmedapafllmhjaadoor", sum := "a753e72d286ee854e838fa7eb133c50d0d39446139c3d60c6b027366af034813", func := "loop.example/g01208/laws.FnExactFillingsOf", spec := "fnExactFillingsOf", inPlace := ["internal/bytealg.IndexByteString", "internal/bytealg.IndexString"], unfollowed := true, recurses := true, named := ["unicode/utf8.first", "unicode/utf8.acceptRanges", "internal/bytealg.MaxLen"], apart := false, laid := [("unicode/utf8.acceptRanges", laid_unicode_utf8_acceptRanges), ("unicode/utf8.first", laid_unicode_utf8_first)], narrowed := true }
def FnExactFillingsOfUptoSaid : Prop := fnExactFillingsOfUptoRow.holds Tryd.pinned (OpenSpec.upto fnExactFillingsOfSpec)

/-- 'laws.FnExactStretchChanges', WHERE WHAT IT READS IS OF BULK AT MOST 1048576: true; the input reads as it did. -/
def fnExactStretchChangesUptoRow : OpenClaim := { program := "ytmedapafllmhjaadoor", sum := "a753e72d286ee854e838fa7eb133c50d0d39446139c3d60c6b027366af034813", func := "loop.example/g01208/laws.FnExactStretchChanges", spec := "fnExactStretchChanges", inPlace := ["internal/bytealg.IndexByteString", "internal/bytealg.IndexString"], unfollowed := true, recurses := true, named := ["unicode/utf8.first", "unicode/utf8.acceptRanges", "internal/bytealg.MaxLen"], apart := false, laid := [("unicode/utf8.acceptRanges", laid_unicode_utf8_acceptRanges), ("unicode/utf8.first", laid_unicode_utf8_first)], narrowed := true }
def FnExactStretchChangesUptoSaid : Prop := fnExactStretchChangesUptoRow.holds Tryd.pinned (OpenSpec.upto fnExactStretchChangesSpec)

/-- 'laws.FnExactRunShips', WHERE WHAT IT READS IS OF BULK AT MOST 1048576: true; the input reads as it did. -/
def fnExactRunShipsUptoRow : OpenClaim := { program := "ytmedapafllmhjaadoor", sum := "a753e72d286ee854e838fa7eb133c50d0d39446139c3d60c6b027366af034813", func := "loop.example/g01208/laws.FnExactRunShips", spec := "fnExactRunShips", inPlace := ["internal/bytealg.IndexByteString", "internal/bytealg.IndexString"], unfollowed := true, recurses := true, named := ["unicode/utf8.first", "unicode/utf8.acceptRanges", "internal/bytealg.MaxLen"], apart := false, laid := [("unicode/utf8.acceptRanges", laid_unicode_utf8_acceptRanges), ("unicode/utf8.first", laid_unicode_utf8_first)], narrowed := true }
def FnExactRunShipsUptoSaid : Prop := fnExactRunShipsUptoRow.holds Tryd.pinned (OpenSpec.upto fnExactRunShipsSpec)

end Rows
end Go.Proofs.YtmedapafllmhjaaDoor

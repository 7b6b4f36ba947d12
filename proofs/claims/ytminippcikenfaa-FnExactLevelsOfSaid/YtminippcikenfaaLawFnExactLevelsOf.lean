/- The row of the law FnExactLevelsOf: for every input the law returns true and its arguments read as they did. No conditions. -/
import Derived.Test.YtminippcikenfaaRows
import Derived.Test.YtminippcikenfaaPFnExactLevelsOfx6
import Derived.Test.YtminippcikenfaaOpens
import Derived.Test.YtminippcikenfaaPureFnExactLevelsOf
import Derived.WalkKit
import Derived.ProofKit
import Derived.OpenShut
import Derived.ShutString
import Derived.ChangeOld
import Derived.Below
import Derived.SizedLaws
namespace Go.Proofs.Ytminippcikenfaa.fnExactLevelsOf
open Go.ChangeShapes Go.WideShapes Go.ChangeAt Go.RowKit Go.Proofs.YtminippcikenfaaW.PrintWords Go.Proofs.Ytminippcikenfaa.PFnExactLevelsOf Go.Proofs.Ytminippcikenfaa.Opens
open Go.ChangeMaps (open_string shut_string)
set_option linter.unusedVariables false
theorem own : ownKnob Try.prog.godebug = none := by kernel_rfl
theorem laidOut : laidOutB Try.prog = true := by kernel_rfl
theorem o3 : Opens Try.prog 3 (Kd.int .i64) (fun x => (Lit.int .i64 x).wf = true) := Opens.int Try.underlying3
theorem o23 : Opens Try.prog 23 (Kd.pair (Kd.int .i64) (Kd.pair (Kd.int .i64) (Kd.pair (Kd.int .i64) (Kd.int .i64)))) (fun x => ((Lit.int .i64 x.1).wf = true) ∧ ((Lit.int .i64 x.2.1).wf = true) ∧ ((Lit.int .i64 x.2.2.1).wf = true) ∧ ((Lit.int .i64 x.2.2.2).wf = true)) := Opens.struct (m := 4) Try.underlying23 (by kernel_rfl) (OpensF.cons (o := 0) (m0 := 1) (m1 := 3) (m := 4) (ok := (fun (x : Int) => (Lit.int .i64 x).wf = true)) (ok1 := (fun (x : Int × Int × Int) => ((Lit.int .i64 x.1).wf = true) ∧ ((Lit.int .i64 x.2.1).wf = true) ∧ ((Lit.int .i64 x.2.2).wf = true))) rfl rfl (by kernel_rfl) o3 (OpensF.cons (o := 1) (m0 := 1) (m1 := 2) (m := 3) (ok := (fun (x : Int) => (Lit.int .i64 x).wf = true)) (ok1 := (fun (x : Int × Int) => ((Lit.int .i64 x.1).wf = true) ∧ ((Lit.int .i64 x.2).wf = true))) rfl rfl (by kernel_rfl) o3 (OpensF.cons (o := 2) (m0 := 1) (m1 := 1) (m := 2) (ok := (fun (x : Int) => (Lit.int .i64 x).wf = true)) (ok1 := (fun (x : Int) => ((Lit.int .i64 x).wf = true))) rfl rfl (by kernel_rfl) o3 (OpensF.last (o := 3) (m := 1) (ok := (fun (x : Int) => (Lit.int .i64 x).wf = true)) rfl rfl (by kernel_rfl) o3) rfl) rfl) rfl)
theorem o4 : Opens Try.prog 4 Kd.bool (fun _ => True) := Opens.bool Try.underlying4
theorem o25 : Opens Try.prog 25 (Kd.pair (Kd.int .i64) Kd.bool) (fun x => ((Lit.int .i64 x.1).wf = true) ∧ (True)) := Opens.struct (m := 2) Try.underlying25 (by kernel_rfl) (OpensF.cons (o := 0) (m0 := 1) (m1 := 1) (m := 2) (ok := (fun (x : Int) => (Lit.int .i64 x).wf = true)) (ok1 := (fun (x : Bool) => (True))) rfl rfl (by kernel_rfl) o3 (OpensF.last (o := 1) (m := 1) (ok := (fun (x : Bool) => True)) rfl rfl (by kernel_rfl) o4) rfl)
theorem o26 : Opens Try.prog 26 (Kd.slice 3 (Kd.int .i64)) (fun x => x.length ≤ maxLen ∧ ∀ y1 ∈ x, (Lit.int .i64 y1).wf = true) := Opens.slice Try.underlying26 (by kernel_rfl) o3
set_option maxRecDepth 100000 in
theorem lifted (os : Os) (started : os.Started) (H : Type) (enc : TypeId × Value → H) :
    ReturnsInHanded {} Try.checked os 5 .any (Rows.fnExactLevelsOfSpec.pre6 enc Try.prog Try.f5 Rows.fnExactLevelsOfRow.domain false) (Rows.fnExactLevelsOfSpec.post enc Try.prog Try.f5 false true false false) := by
  refine returnsInHanded_of_change_sized (C := Try.checked) own started (by kernel_rfl) Try.func5
    (ChangeSpec.witness6 (enc := enc) (C := Try.checked) false ⟨#[], #[.agg #[.int .i64 0, .int .i64 0, .int .i64 0, .int .i64 0], .agg #[.int .i64 0, .bool false], .slice none 0 0], []⟩ 8 (by kernel_rfl) (by kernel_rfl) (by kernel_rfl) (by kernel_rfl)) ?_
  intro W base args ds gs before hval0 hW hcnd hsz0 _
  have hsz : (DataW.weightsEach Try.prog (Try.f5.params.toList ++ Rows.fnExactLevelsOfSpec.plain.varTypes Try.prog) (ds ++ gs)).all (· ≤ reachBytes) = true := hsz0
  have hval : ∀ (j : Nat) t v, Try.f5.params[j]? = some t → args[j]? = some v → Value.okWide Try.prog W .any base t v := hval0
  have hW' := hW
  obtain ⟨p, q, hA0, hV, rfl, hfz, hnd⟩ := hW
  have hA : DataW.TrodAll enc Try.prog W 0 (fun _ => true) true Try.f5.params.toList args.toList ds p := hA0
  rw [Try.params5] at hA hval hsz
  obtain ⟨v0, vs0, d0, ds0, p0, q0, hargs, rfl, rfl, h0, r0⟩ := trodAll_cons hA
  obtain ⟨v1, vs1, d1, ds1, p1, q1, rfl, rfl, rfl, h1, r1⟩ := trodAll_cons r0
  obtain ⟨v2, vs2, d2, ds2, p2, q2, rfl, rfl, rfl, h2, r2⟩ := trodAll_cons r1
  obtain ⟨rfl, rfl, rfl⟩ := trodAll_nil r2
  obtain rfl : args = #[v0, v1, v2] := by cases args; simp_all
  obtain ⟨rfl, rfl⟩ := trodVars_none hV
  have hk0 := h0
  have lt0 : ∀ x ∈ p0, x.block < W.heap.size := by obtain ⟨m, hm⟩ := hk0; exact DataW.trod_lt m _ _ _ hm
  obtain ⟨cs0, rfl, hz0⟩ := okWide_struct Try.underlying23 (hval 0 23 v0 rfl rfl)
  obtain ⟨fuel0, hf0⟩ := h0
  obtain ⟨x0, hK0, w0⟩ := o23 _ _ _ _ _ _ _ _ _ hf0
  obtain ⟨_, _, hcs0, rfl, ⟨_, _, rfl, rfl, ⟨_, _, rfl, rfl, rfl⟩⟩⟩ := hK0
  obtain rfl : cs0 = #[.int .i64 x0.1, .int .i64 x0.2.1, .int .i64 x0.2.2.1, .int .i64 x0.2.2.2] := Array.toList_inj.mp hcs0
  have hk1 := h1
  have lt1 : ∀ x ∈ p1, x.block < W.heap.size := by obtain ⟨m, hm⟩ := hk1; exact DataW.trod_lt m _ _ _ hm
  obtain ⟨cs1, rfl, hz1⟩ := okWide_struct Try.underlying25 (hval 1 25 v1 rfl rfl)
  obtain ⟨fuel1, hf1⟩ := h1
  obtain ⟨x1, hK1, w1⟩ := o25 _ _ _ _ _ _ _ _ _ hf1
  obtain ⟨_, _, hcs1, rfl, rfl⟩ := hK1
  obtain rfl : cs1 = #[.int .i64 x1.1, .bool x1.2] := Array.toList_inj.mp hcs1
  have hk2 := h2
  have lt2 : ∀ x ∈ p2, x.block < W.heap.size := by obtain ⟨m, hm⟩ := hk2; exact DataW.trod_lt m _ _ _ hm
  obtain ⟨A2, len2, cap2, rfl⟩ := okWide_slice Try.underlying26 (hval 2 26 v2 rfl rfl)
  obtain ⟨fuel2, hf2⟩ := h2
  obtain ⟨x2, ⟨B2, c2, hcs2, hl2, hC2⟩, w2⟩ := o26 _ _ _ _ _ _ _ _ _ hf2
  have hcs2' : [Value.slice A2 len2 cap2] = [Value.slice B2 x2.length c2] := hcs2
  simp only [List.cons.injEq, Value.slice.injEq, and_true] at hcs2'
  obtain ⟨rfl, rfl, rfl⟩ := hcs2'
  clear hA0 hval0 hsz0 hsz
  obtain ⟨k, h⟩ := Pure.FnExactLevelsOf x0.1 x0.2.1 x0.2.2.1 x0.2.2.2 x1.1 x1.2 x2 w0.1 w0.2.1 w0.2.2.1 w0.2.2.2 w1.1 w2
  refine (laws_FnExactLevelsOf.calls k x0.1 x0.2.1 x0.2.2.1 x0.2.2.2 x1.1 x1.2 _ _ x2 W hC2 hl2 h).mono fun e W' ⟨he, bel0⟩ => ?_
  have bel : Below W.heap.size W W' := bel0
  subst he
  exact ⟨_, rfl, _, _, _, [], _, [], hW', trodAll_mk1 (shut_bool Try.underlying4 _), (trodAll_cons_mk (Below.trod laidOut (by kernel_rfl) (of_decide_eq_true (by kernel_rfl)) hk0 bel lt0) (trodAll_cons_mk (Below.trod laidOut (by kernel_rfl) (of_decide_eq_true (by kernel_rfl)) hk1 bel lt1) (trodAll_cons_mk (Below.trod laidOut (by kernel_rfl) (of_decide_eq_true (by kernel_rfl)) hk2 bel lt2) trodAll_mk0))), rfl, bel.frame _, fun h => by cases h⟩
theorem over : Rows.fnExactLevelsOfRow.holds Try.pinned (OpenSpec.ofChange Rows.fnExactLevelsOfSpec) :=
  OpenClaim.holds_of_wide 5 Try.f5 rfl rfl rfl rfl rfl rfl rfl ⟨rfl, rfl, rfl, rfl, rfl⟩ rfl rfl rfl rfl rfl (by kernel_rfl) Try.func5 (by kernel_rfl)
    (of_decide_eq_true (by kernel_rfl)) (by unfold Func.isWrapper; first | (rw [if_pos (by decide +kernel)]; kernel_rfl) | (rw [if_neg (by decide +kernel)]; exact ⟨rfl, rfl⟩))
    (fun os started H enc _ => lifted os started H enc)
theorem proved : Rows.FnExactLevelsOfSaid := over
#print axioms proved
end Go.Proofs.Ytminippcikenfaa.fnExactLevelsOf
namespace Go.Proofs.Ytminippcikenfaa
/-- The row, under a short name, for the claim. -/
theorem fnExactLevelsOf_holds : Rows.FnExactLevelsOfSaid := fnExactLevelsOf.proved
end Go.Proofs.Ytminippcikenfaa

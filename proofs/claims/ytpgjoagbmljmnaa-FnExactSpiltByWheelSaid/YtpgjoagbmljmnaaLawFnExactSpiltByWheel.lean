/- The row of the law FnExactSpiltByWheel: for every input the law returns true and its arguments read as they did. No conditions. -/
import Derived.Test.YtpgjoagbmljmnaaRows
import Derived.Test.YtpgjoagbmljmnaaPFnExactSpiltByWheelx2
import Derived.Test.YtpgjoagbmljmnaaOpens
import Derived.Test.YtpgjoagbmljmnaaPureFnExactSpiltByWheel
import Derived.WalkKit
import Derived.ProofKit
import Derived.OpenShut
import Derived.ShutString
import Derived.ChangeOld
import Derived.Below
import Derived.SizedLaws
namespace Go.Proofs.Ytpgjoagbmljmnaa.fnExactSpiltByWheel
open Go.ChangeShapes Go.WideShapes Go.ChangeAt Go.RowKit Go.Proofs.YtpgjoagbmljmnaaW.PrintWords Go.Proofs.Ytpgjoagbmljmnaa.PFnExactSpiltByWheel Go.Proofs.Ytpgjoagbmljmnaa.Opens
open Go.ChangeMaps (open_string shut_string)
set_option linter.unusedVariables false
theorem own : ownKnob Try.prog.godebug = none := by kernel_rfl
theorem laidOut : laidOutB Try.prog = true := by kernel_rfl
theorem o3 : Opens Try.prog 3 (Kd.int .i64) (fun x => (Lit.int .i64 x).wf = true) := Opens.int Try.underlying3
theorem o29 : Opens Try.prog 29 (Kd.pair (Kd.int .i64) (Kd.pair (Kd.int .i64) (Kd.int .i64))) (fun x => ((Lit.int .i64 x.1).wf = true) ∧ ((Lit.int .i64 x.2.1).wf = true) ∧ ((Lit.int .i64 x.2.2).wf = true)) := Opens.struct (m := 3) Try.underlying29 (by kernel_rfl) (OpensF.cons (o := 0) (m0 := 1) (m1 := 2) (m := 3) (ok := (fun (x : Int) => (Lit.int .i64 x).wf = true)) (ok1 := (fun (x : Int × Int) => ((Lit.int .i64 x.1).wf = true) ∧ ((Lit.int .i64 x.2).wf = true))) rfl rfl (by kernel_rfl) o3 (OpensF.cons (o := 1) (m0 := 1) (m1 := 1) (m := 2) (ok := (fun (x : Int) => (Lit.int .i64 x).wf = true)) (ok1 := (fun (x : Int) => ((Lit.int .i64 x).wf = true))) rfl rfl (by kernel_rfl) o3 (OpensF.last (o := 2) (m := 1) (ok := (fun (x : Int) => (Lit.int .i64 x).wf = true)) rfl rfl (by kernel_rfl) o3) rfl) rfl)
set_option maxRecDepth 100000 in
theorem lifted (os : Os) (started : os.Started) (H : Type) (enc : TypeId × Value → H) :
    ReturnsInHanded {} Try.checked os 7 .any (Rows.fnExactSpiltByWheelSpec.pre6 enc Try.prog Try.f7 Rows.fnExactSpiltByWheelRow.domain false) (Rows.fnExactSpiltByWheelSpec.post enc Try.prog Try.f7 false true false false) := by
  refine returnsInHanded_of_change_sized (C := Try.checked) own started (by kernel_rfl) Try.func7
    (ChangeSpec.witness6 (enc := enc) (C := Try.checked) false ⟨#[], #[.agg #[.int .i64 0, .int .i64 0, .int .i64 0], .int .i64 0], []⟩ 8 (by kernel_rfl) (by kernel_rfl) (by kernel_rfl) (by kernel_rfl)) ?_
  intro W base args ds gs before hval0 hW hcnd hsz0 _
  have hsz : (DataW.weightsEach Try.prog (Try.f7.params.toList ++ Rows.fnExactSpiltByWheelSpec.plain.varTypes Try.prog) (ds ++ gs)).all (· ≤ reachBytes) = true := hsz0
  have hval : ∀ (j : Nat) t v, Try.f7.params[j]? = some t → args[j]? = some v → Value.okWide Try.prog W .any base t v := hval0
  have hW' := hW
  obtain ⟨p, q, hA0, hV, rfl, hfz, hnd⟩ := hW
  have hA : DataW.TrodAll enc Try.prog W 0 (fun _ => true) true Try.f7.params.toList args.toList ds p := hA0
  rw [Try.params7] at hA hval hsz
  obtain ⟨v0, vs0, d0, ds0, p0, q0, hargs, rfl, rfl, h0, r0⟩ := trodAll_cons hA
  obtain ⟨v1, vs1, d1, ds1, p1, q1, rfl, rfl, rfl, h1, r1⟩ := trodAll_cons r0
  obtain ⟨rfl, rfl, rfl⟩ := trodAll_nil r1
  obtain rfl : args = #[v0, v1] := by cases args; simp_all
  obtain ⟨rfl, rfl⟩ := trodVars_none hV
  have hk0 := h0
  have lt0 : ∀ x ∈ p0, x.block < W.heap.size := by obtain ⟨m, hm⟩ := hk0; exact DataW.trod_lt m _ _ _ hm
  obtain ⟨cs0, rfl, hz0⟩ := okWide_struct Try.underlying29 (hval 0 29 v0 rfl rfl)
  obtain ⟨fuel0, hf0⟩ := h0
  obtain ⟨x0, hK0, w0⟩ := o29 _ _ _ _ _ _ _ _ _ hf0
  obtain ⟨_, _, hcs0, rfl, ⟨_, _, rfl, rfl, rfl⟩⟩ := hK0
  obtain rfl : cs0 = #[.int .i64 x0.1, .int .i64 x0.2.1, .int .i64 x0.2.2] := Array.toList_inj.mp hcs0
  obtain ⟨x1, rfl, rfl, rfl, w1⟩ := open_int Try.underlying3 (hval 1 3 v1 rfl rfl) h1
  clear hA0 hval0 hsz0 hsz
  obtain ⟨k, h⟩ := Pure.FnExactSpiltByWheel x0.1 x0.2.1 x0.2.2 x1 w0.1 w0.2.1 w0.2.2 w1
  refine (laws_FnExactSpiltByWheel.calls k x0.1 x0.2.1 x0.2.2 x1 true W h).mono fun e W' ⟨he, bel0⟩ => ?_
  have bel : Below W.heap.size W W' := bel0
  subst he
  exact ⟨_, rfl, _, _, _, [], _, [], hW', trodAll_mk1 (shut_bool Try.underlying4 _), (trodAll_cons_mk (Below.trod laidOut (by kernel_rfl) (of_decide_eq_true (by kernel_rfl)) hk0 bel lt0) (trodAll_cons_mk (shut_int Try.underlying3 w1) trodAll_mk0)), rfl, bel.frame _, fun h => by cases h⟩
theorem over : Rows.fnExactSpiltByWheelRow.holds Try.pinned (OpenSpec.ofChange Rows.fnExactSpiltByWheelSpec) :=
  OpenClaim.holds_of_wide 7 Try.f7 rfl rfl rfl rfl rfl rfl rfl ⟨rfl, rfl, rfl, rfl, rfl⟩ rfl rfl rfl rfl rfl (by kernel_rfl) Try.func7 (by kernel_rfl)
    (of_decide_eq_true (by kernel_rfl)) (by unfold Func.isWrapper; first | (rw [if_pos (by decide +kernel)]; kernel_rfl) | (rw [if_neg (by decide +kernel)]; exact ⟨rfl, rfl⟩))
    (fun os started H enc _ => lifted os started H enc)
theorem proved : Rows.FnExactSpiltByWheelSaid := over
#print axioms proved
end Go.Proofs.Ytpgjoagbmljmnaa.fnExactSpiltByWheel
namespace Go.Proofs.Ytpgjoagbmljmnaa
/-- The row, under a short name, for the claim. -/
theorem fnExactSpiltByWheel_holds : Rows.FnExactSpiltByWheelSaid := fnExactSpiltByWheel.proved
end Go.Proofs.Ytpgjoagbmljmnaa

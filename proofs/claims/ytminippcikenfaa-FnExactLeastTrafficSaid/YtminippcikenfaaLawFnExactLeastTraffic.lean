/- The row of the law FnExactLeastTraffic: for every input the law returns true and its arguments read as they did. No conditions. -/
import Derived.Test.YtminippcikenfaaRows
import Derived.Test.YtminippcikenfaaPFnExactLeastTrafficx5
import Derived.Test.YtminippcikenfaaOpens
import Derived.Test.YtminippcikenfaaPureFnExactLeastTraffic
import Derived.WalkKit
import Derived.ProofKit
import Derived.OpenShut
import Derived.ShutString
import Derived.ChangeOld
import Derived.Below
import Derived.SizedLaws
namespace Go.Proofs.Ytminippcikenfaa.fnExactLeastTraffic
open Go.ChangeShapes Go.WideShapes Go.ChangeAt Go.RowKit Go.Proofs.YtminippcikenfaaW.PrintWords Go.Proofs.Ytminippcikenfaa.PFnExactLeastTraffic Go.Proofs.Ytminippcikenfaa.Opens
open Go.ChangeMaps (open_string shut_string)
set_option linter.unusedVariables false
theorem own : ownKnob Try.prog.godebug = none := by kernel_rfl
theorem laidOut : laidOutB Try.prog = true := by kernel_rfl
theorem o4 : Opens Try.prog 4 Kd.bool (fun _ => True) := Opens.bool Try.underlying4
theorem o56 : Opens Try.prog 56 (Kd.slice 4 Kd.bool) (fun x => x.length ≤ maxLen ∧ ∀ y1 ∈ x, True) := Opens.slice Try.underlying56 (by kernel_rfl) o4
theorem o3 : Opens Try.prog 3 (Kd.int .i64) (fun x => (Lit.int .i64 x).wf = true) := Opens.int Try.underlying3
theorem o26 : Opens Try.prog 26 (Kd.slice 3 (Kd.int .i64)) (fun x => x.length ≤ maxLen ∧ ∀ y1 ∈ x, (Lit.int .i64 y1).wf = true) := Opens.slice Try.underlying26 (by kernel_rfl) o3
theorem o58 : Opens Try.prog 58 (Kd.pair (Kd.slice 3 (Kd.int .i64)) (Kd.slice 4 Kd.bool)) (fun x => (x.1.length ≤ maxLen ∧ ∀ y3 ∈ x.1, (Lit.int .i64 y3).wf = true) ∧ (x.2.length ≤ maxLen ∧ ∀ y3 ∈ x.2, True)) := Opens.struct (m := 2) Try.underlying58 (by kernel_rfl) (OpensF.cons (o := 0) (m0 := 1) (m1 := 1) (m := 2) (ok := (fun (x : (List Int)) => x.length ≤ maxLen ∧ ∀ y1 ∈ x, (Lit.int .i64 y1).wf = true)) (ok1 := (fun (x : (List Bool)) => (x.length ≤ maxLen ∧ ∀ y1 ∈ x, True))) rfl rfl (by kernel_rfl) o26 (OpensF.last (o := 1) (m := 1) (ok := (fun (x : (List Bool)) => x.length ≤ maxLen ∧ ∀ y1 ∈ x, True)) rfl rfl (by kernel_rfl) o56) rfl)
set_option maxRecDepth 100000 in
theorem lifted (os : Os) (started : os.Started) (H : Type) (enc : TypeId × Value → H) :
    ReturnsInHanded {} Try.checked os 9 .any (Rows.fnExactLeastTrafficSpec.pre6 enc Try.prog Try.f9 Rows.fnExactLeastTrafficRow.domain false) (Rows.fnExactLeastTrafficSpec.post enc Try.prog Try.f9 false true false false) := by
  refine returnsInHanded_of_change_sized (C := Try.checked) own started (by kernel_rfl) Try.func9
    (ChangeSpec.witness6 (enc := enc) (C := Try.checked) false ⟨#[], #[.agg #[.slice none 0 0, .slice none 0 0], .int .i64 0, .int .i64 0], []⟩ 8 (by kernel_rfl) (by kernel_rfl) (by kernel_rfl) (by kernel_rfl)) ?_
  intro W base args ds gs before hval0 hW hcnd hsz0 _
  have hsz : (DataW.weightsEach Try.prog (Try.f9.params.toList ++ Rows.fnExactLeastTrafficSpec.plain.varTypes Try.prog) (ds ++ gs)).all (· ≤ reachBytes) = true := hsz0
  have hval : ∀ (j : Nat) t v, Try.f9.params[j]? = some t → args[j]? = some v → Value.okWide Try.prog W .any base t v := hval0
  have hW' := hW
  obtain ⟨p, q, hA0, hV, rfl, hfz, hnd⟩ := hW
  have hA : DataW.TrodAll enc Try.prog W 0 (fun _ => true) true Try.f9.params.toList args.toList ds p := hA0
  rw [Try.params9] at hA hval hsz
  obtain ⟨v0, vs0, d0, ds0, p0, q0, hargs, rfl, rfl, h0, r0⟩ := trodAll_cons hA
  obtain ⟨v1, vs1, d1, ds1, p1, q1, rfl, rfl, rfl, h1, r1⟩ := trodAll_cons r0
  obtain ⟨v2, vs2, d2, ds2, p2, q2, rfl, rfl, rfl, h2, r2⟩ := trodAll_cons r1
  obtain ⟨rfl, rfl, rfl⟩ := trodAll_nil r2
  obtain rfl : args = #[v0, v1, v2] := by cases args; simp_all
  obtain ⟨rfl, rfl⟩ := trodVars_none hV
  have hk0 := h0
  have lt0 : ∀ x ∈ p0, x.block < W.heap.size := by obtain ⟨m, hm⟩ := hk0; exact DataW.trod_lt m _ _ _ hm
  obtain ⟨cs0, rfl, hz0⟩ := okWide_struct Try.underlying58 (hval 0 58 v0 rfl rfl)
  obtain ⟨fuel0, hf0⟩ := h0
  obtain ⟨x0, hK0, w0⟩ := o58 _ _ _ _ _ _ _ _ _ hf0
  obtain ⟨_, _, hcs0, ⟨A0_0, c0_0, rfl, hl0_0, hC0_0⟩, ⟨A0_1, c0_1, rfl, hl0_1, hC0_1⟩⟩ := hK0
  obtain rfl : cs0 = #[.slice A0_0 x0.1.length c0_0, .slice A0_1 x0.2.length c0_1] := Array.toList_inj.mp hcs0
  obtain ⟨x1, rfl, rfl, rfl, w1⟩ := open_int Try.underlying3 (hval 1 3 v1 rfl rfl) h1
  obtain ⟨x2, rfl, rfl, rfl, w2⟩ := open_int Try.underlying3 (hval 2 3 v2 rfl rfl) h2
  clear hA0 hval0 hsz0 hsz
  obtain ⟨k, h⟩ := Pure.FnExactLeastTraffic x0.1 x0.2 x1 x2 w0.1 w0.2 w1 w2
  refine (laws_FnExactLeastTraffic.calls k _ _ x0.1 _ _ x0.2 x1 x2 W hC0_0 hl0_0 hC0_1 hl0_1 h).mono fun e W' ⟨he, bel0⟩ => ?_
  have bel : Below W.heap.size W W' := bel0
  subst he
  exact ⟨_, rfl, _, _, _, [], _, [], hW', trodAll_mk1 (shut_bool Try.underlying4 _), (trodAll_cons_mk (Below.trod laidOut (by kernel_rfl) (of_decide_eq_true (by kernel_rfl)) hk0 bel lt0) (trodAll_cons_mk (shut_int Try.underlying3 w1) (trodAll_cons_mk (shut_int Try.underlying3 w2) trodAll_mk0))), rfl, bel.frame _, fun h => by cases h⟩
theorem over : Rows.fnExactLeastTrafficRow.holds Try.pinned (OpenSpec.ofChange Rows.fnExactLeastTrafficSpec) :=
  OpenClaim.holds_of_wide 9 Try.f9 rfl rfl rfl rfl rfl rfl rfl ⟨rfl, rfl, rfl, rfl, rfl⟩ rfl rfl rfl rfl rfl (by kernel_rfl) Try.func9 (by kernel_rfl)
    (of_decide_eq_true (by kernel_rfl)) (by unfold Func.isWrapper; first | (rw [if_pos (by decide +kernel)]; kernel_rfl) | (rw [if_neg (by decide +kernel)]; exact ⟨rfl, rfl⟩))
    (fun os started H enc _ => lifted os started H enc)
theorem proved : Rows.FnExactLeastTrafficSaid := over
#print axioms proved
end Go.Proofs.Ytminippcikenfaa.fnExactLeastTraffic
namespace Go.Proofs.Ytminippcikenfaa
/-- The row, under a short name, for the claim. -/
theorem fnExactLeastTraffic_holds : Rows.FnExactLeastTrafficSaid := fnExactLeastTraffic.proved
end Go.Proofs.Ytminippcikenfaa

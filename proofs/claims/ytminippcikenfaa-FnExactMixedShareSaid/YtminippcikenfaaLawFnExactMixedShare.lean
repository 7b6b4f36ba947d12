/- The row of the law FnExactMixedShare: for every input the law returns true and its arguments read as they did. No conditions. -/
import Derived.Test.YtminippcikenfaaRows
import Derived.Test.YtminippcikenfaaPFnExactMixedSharex9
import Derived.Test.YtminippcikenfaaOpens
import Derived.Test.YtminippcikenfaaPureFnExactMixedShare
import Derived.WalkKit
import Derived.ProofKit
import Derived.OpenShut
import Derived.ShutString
import Derived.ChangeOld
import Derived.Below
import Derived.SizedLaws
namespace Go.Proofs.Ytminippcikenfaa.fnExactMixedShare
open Go.ChangeShapes Go.WideShapes Go.ChangeAt Go.RowKit Go.Proofs.YtminippcikenfaaW.PrintWords Go.Proofs.Ytminippcikenfaa.PFnExactMixedShare Go.Proofs.Ytminippcikenfaa.Opens
open Go.ChangeMaps (open_string shut_string)
set_option linter.unusedVariables false
theorem own : ownKnob Try.prog.godebug = none := by kernel_rfl
theorem laidOut : laidOutB Try.prog = true := by kernel_rfl
theorem o3 : Opens Try.prog 3 (Kd.int .i64) (fun x => (Lit.int .i64 x).wf = true) := Opens.int Try.underlying3
theorem o138 : Opens Try.prog 138 (Kd.pair (Kd.int .i64) (Kd.int .i64)) (fun x => ((Lit.int .i64 x.1).wf = true) ∧ ((Lit.int .i64 x.2).wf = true)) := Opens.struct (m := 2) Try.underlying138 (by kernel_rfl) (OpensF.cons (o := 0) (m0 := 1) (m1 := 1) (m := 2) (ok := (fun (x : Int) => (Lit.int .i64 x).wf = true)) (ok1 := (fun (x : Int) => ((Lit.int .i64 x).wf = true))) rfl rfl (by kernel_rfl) o3 (OpensF.last (o := 1) (m := 1) (ok := (fun (x : Int) => (Lit.int .i64 x).wf = true)) rfl rfl (by kernel_rfl) o3) rfl)
theorem o138e : Opens Try.prog 138 k138 (fun x => ((Lit.int .i64 x.f0).wf = true) ∧ ((Lit.int .i64 x.f1).wf = true)) := Opens.imp (Opens.iso (d := (Kd.pair (Kd.int .i64) (Kd.int .i64))) o138 (fun x : S138 => (x.f0, x.f1)) (fun p => ⟨p.1, p.2⟩) (fun _ => rfl)) (fun _ h => h)
theorem o69 : Opens Try.prog 69 (Kd.slice 138 k138) (fun x => x.length ≤ maxLen ∧ ∀ y1 ∈ x, ((Lit.int .i64 y1.f0).wf = true) ∧ ((Lit.int .i64 y1.f1).wf = true)) := Opens.slice Try.underlying69 (by kernel_rfl) o138e
theorem o26 : Opens Try.prog 26 (Kd.slice 3 (Kd.int .i64)) (fun x => x.length ≤ maxLen ∧ ∀ y1 ∈ x, (Lit.int .i64 y1).wf = true) := Opens.slice Try.underlying26 (by kernel_rfl) o3
theorem o68 : Opens Try.prog 68 (Kd.pair (Kd.slice 3 (Kd.int .i64)) (Kd.slice 3 (Kd.int .i64))) (fun x => (x.1.length ≤ maxLen ∧ ∀ y3 ∈ x.1, (Lit.int .i64 y3).wf = true) ∧ (x.2.length ≤ maxLen ∧ ∀ y3 ∈ x.2, (Lit.int .i64 y3).wf = true)) := Opens.struct (m := 2) Try.underlying68 (by kernel_rfl) (OpensF.cons (o := 0) (m0 := 1) (m1 := 1) (m := 2) (ok := (fun (x : (List Int)) => x.length ≤ maxLen ∧ ∀ y1 ∈ x, (Lit.int .i64 y1).wf = true)) (ok1 := (fun (x : (List Int)) => (x.length ≤ maxLen ∧ ∀ y1 ∈ x, (Lit.int .i64 y1).wf = true))) rfl rfl (by kernel_rfl) o26 (OpensF.last (o := 1) (m := 1) (ok := (fun (x : (List Int)) => x.length ≤ maxLen ∧ ∀ y1 ∈ x, (Lit.int .i64 y1).wf = true)) rfl rfl (by kernel_rfl) o26) rfl)
theorem o71 : Opens Try.prog 71 (Kd.pair (Kd.pair (Kd.slice 3 (Kd.int .i64)) (Kd.slice 3 (Kd.int .i64))) (Kd.slice 138 k138)) (fun x => ((x.1.1.length ≤ maxLen ∧ ∀ y5 ∈ x.1.1, (Lit.int .i64 y5).wf = true) ∧ (x.1.2.length ≤ maxLen ∧ ∀ y5 ∈ x.1.2, (Lit.int .i64 y5).wf = true)) ∧ (x.2.length ≤ maxLen ∧ ∀ y3 ∈ x.2, ((Lit.int .i64 y3.f0).wf = true) ∧ ((Lit.int .i64 y3.f1).wf = true))) := Opens.struct (m := 3) Try.underlying71 (by kernel_rfl) (OpensF.cons (o := 0) (m0 := 2) (m1 := 1) (m := 3) (ok := (fun (x : ((List Int) × (List Int))) => (x.1.length ≤ maxLen ∧ ∀ y3 ∈ x.1, (Lit.int .i64 y3).wf = true) ∧ (x.2.length ≤ maxLen ∧ ∀ y3 ∈ x.2, (Lit.int .i64 y3).wf = true))) (ok1 := (fun (x : (List S138)) => (x.length ≤ maxLen ∧ ∀ y1 ∈ x, ((Lit.int .i64 y1.f0).wf = true) ∧ ((Lit.int .i64 y1.f1).wf = true)))) rfl rfl (by kernel_rfl) o68 (OpensF.last (o := 2) (m := 1) (ok := (fun (x : (List S138)) => x.length ≤ maxLen ∧ ∀ y1 ∈ x, ((Lit.int .i64 y1.f0).wf = true) ∧ ((Lit.int .i64 y1.f1).wf = true))) rfl rfl (by kernel_rfl) o69) rfl)
set_option maxRecDepth 100000 in
theorem lifted (os : Os) (started : os.Started) (H : Type) (enc : TypeId × Value → H) :
    ReturnsInHanded {} Try.checked os 10 .any (Rows.fnExactMixedShareSpec.pre6 enc Try.prog Try.f10 Rows.fnExactMixedShareRow.domain false) (Rows.fnExactMixedShareSpec.post enc Try.prog Try.f10 false true false false) := by
  refine returnsInHanded_of_change_sized (C := Try.checked) own started (by kernel_rfl) Try.func10
    (ChangeSpec.witness6 (enc := enc) (C := Try.checked) false ⟨#[], #[.agg #[.slice none 0 0, .slice none 0 0, .slice none 0 0]], []⟩ 8 (by kernel_rfl) (by kernel_rfl) (by kernel_rfl) (by kernel_rfl)) ?_
  intro W base args ds gs before hval0 hW hcnd hsz0 _
  have hsz : (DataW.weightsEach Try.prog (Try.f10.params.toList ++ Rows.fnExactMixedShareSpec.plain.varTypes Try.prog) (ds ++ gs)).all (· ≤ reachBytes) = true := hsz0
  have hval : ∀ (j : Nat) t v, Try.f10.params[j]? = some t → args[j]? = some v → Value.okWide Try.prog W .any base t v := hval0
  have hW' := hW
  obtain ⟨p, q, hA0, hV, rfl, hfz, hnd⟩ := hW
  have hA : DataW.TrodAll enc Try.prog W 0 (fun _ => true) true Try.f10.params.toList args.toList ds p := hA0
  rw [Try.params10] at hA hval hsz
  obtain ⟨v0, vs0, d0, ds0, p0, q0, hargs, rfl, rfl, h0, r0⟩ := trodAll_cons hA
  obtain ⟨rfl, rfl, rfl⟩ := trodAll_nil r0
  obtain rfl : args = #[v0] := by cases args; simp_all
  obtain ⟨rfl, rfl⟩ := trodVars_none hV
  have hk0 := h0
  have lt0 : ∀ x ∈ p0, x.block < W.heap.size := by obtain ⟨m, hm⟩ := hk0; exact DataW.trod_lt m _ _ _ hm
  obtain ⟨cs0, rfl, hz0⟩ := okWide_struct Try.underlying71 (hval 0 71 v0 rfl rfl)
  obtain ⟨fuel0, hf0⟩ := h0
  obtain ⟨x0, hK0, w0⟩ := o71 _ _ _ _ _ _ _ _ _ hf0
  obtain ⟨_, _, hcs0, ⟨_, _, rfl, ⟨A0_0, c0_0, rfl, hl0_0, hC0_0⟩, ⟨A0_1, c0_1, rfl, hl0_1, hC0_1⟩⟩, ⟨A0_2, c0_2, rfl, hl0_2, hC0_2⟩⟩ := hK0
  obtain rfl : cs0 = #[.slice A0_0 x0.1.1.length c0_0, .slice A0_1 x0.1.2.length c0_1, .slice A0_2 x0.2.length c0_2] := Array.toList_inj.mp hcs0
  clear hA0 hval0 hsz0 hsz
  obtain ⟨k, h⟩ := Pure.FnExactMixedShare x0.1.1 x0.1.2 x0.2 w0.1.1 w0.1.2 w0.2
  refine (laws_FnExactMixedShare.calls k _ _ x0.1.1 _ _ x0.1.2 _ _ x0.2 W hC0_0 hl0_0 hC0_1 hl0_1 hC0_2 hl0_2 h).mono fun e W' ⟨he, bel0⟩ => ?_
  have bel : Below W.heap.size W W' := bel0
  subst he
  exact ⟨_, rfl, _, _, _, [], _, [], hW', trodAll_mk1 (shut_bool Try.underlying4 _), (trodAll_cons_mk (Below.trod laidOut (by kernel_rfl) (of_decide_eq_true (by kernel_rfl)) hk0 bel lt0) trodAll_mk0), rfl, bel.frame _, fun h => by cases h⟩
theorem over : Rows.fnExactMixedShareRow.holds Try.pinned (OpenSpec.ofChange Rows.fnExactMixedShareSpec) :=
  OpenClaim.holds_of_wide 10 Try.f10 rfl rfl rfl rfl rfl rfl rfl ⟨rfl, rfl, rfl, rfl, rfl⟩ rfl rfl rfl rfl rfl (by kernel_rfl) Try.func10 (by kernel_rfl)
    (of_decide_eq_true (by kernel_rfl)) (by unfold Func.isWrapper; first | (rw [if_pos (by decide +kernel)]; kernel_rfl) | (rw [if_neg (by decide +kernel)]; exact ⟨rfl, rfl⟩))
    (fun os started H enc _ => lifted os started H enc)
theorem proved : Rows.FnExactMixedShareSaid := over
#print axioms proved
end Go.Proofs.Ytminippcikenfaa.fnExactMixedShare
namespace Go.Proofs.Ytminippcikenfaa
/-- The row, under a short name, for the claim. -/
theorem fnExactMixedShare_holds : Rows.FnExactMixedShareSaid := fnExactMixedShare.proved
end Go.Proofs.Ytminippcikenfaa

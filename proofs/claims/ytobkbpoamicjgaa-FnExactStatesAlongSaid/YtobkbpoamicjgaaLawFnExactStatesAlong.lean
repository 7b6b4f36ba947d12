/- The row of the law FnExactStatesAlong: for every input the law returns true and its arguments read as they did. No conditions. -/
import Derived.Test.YtobkbpoamicjgaaRows
import Derived.Test.YtobkbpoamicjgaaPFnExactStatesAlongx9
import Derived.Test.YtobkbpoamicjgaaOpens
import Derived.Test.YtobkbpoamicjgaaPureFnExactStatesAlong
import Derived.WalkKit
import Derived.ProofKit
import Derived.OpenShut
import Derived.ShutString
import Derived.ChangeOld
import Derived.Below
import Derived.SizedLaws
namespace Go.Proofs.Ytobkbpoamicjgaa.fnExactStatesAlong
open Go.ChangeShapes Go.WideShapes Go.ChangeAt Go.RowKit Go.Proofs.YtobkbpoamicjgaaW.PrintWords Go.Proofs.Ytobkbpoamicjgaa.PFnExactStatesAlong Go.Proofs.Ytobkbpoamicjgaa.Opens
open Go.ChangeMaps (open_string shut_string)
set_option linter.unusedVariables false
theorem own : ownKnob Try.prog.godebug = none := by kernel_rfl
theorem laidOut : laidOutB Try.prog = true := by kernel_rfl
theorem o3 : Opens Try.prog 3 (Kd.int .i64) (fun x => (Lit.int .i64 x).wf = true) := Opens.int Try.underlying3
theorem o22 : Opens Try.prog 22 (Kd.slice 3 (Kd.int .i64)) (fun x => x.length ≤ maxLen ∧ ∀ y1 ∈ x, (Lit.int .i64 y1).wf = true) := Opens.slice Try.underlying22 (by kernel_rfl) o3
theorem o24 : Opens Try.prog 24 (Kd.pair (Kd.slice 3 (Kd.int .i64)) (Kd.slice 3 (Kd.int .i64))) (fun x => (x.1.length ≤ maxLen ∧ ∀ y3 ∈ x.1, (Lit.int .i64 y3).wf = true) ∧ (x.2.length ≤ maxLen ∧ ∀ y3 ∈ x.2, (Lit.int .i64 y3).wf = true)) := Opens.struct (m := 2) Try.underlying24 (by kernel_rfl) (OpensF.cons (o := 0) (m0 := 1) (m1 := 1) (m := 2) (ok := (fun (x : (List Int)) => x.length ≤ maxLen ∧ ∀ y1 ∈ x, (Lit.int .i64 y1).wf = true)) (ok1 := (fun (x : (List Int)) => (x.length ≤ maxLen ∧ ∀ y1 ∈ x, (Lit.int .i64 y1).wf = true))) rfl rfl (by kernel_rfl) o22 (OpensF.last (o := 1) (m := 1) (ok := (fun (x : (List Int)) => x.length ≤ maxLen ∧ ∀ y1 ∈ x, (Lit.int .i64 y1).wf = true)) rfl rfl (by kernel_rfl) o22) rfl)
theorem o39 : Opens Try.prog 39 (Kd.pair (Kd.int .i64) (Kd.int .i64)) (fun x => ((Lit.int .i64 x.1).wf = true) ∧ ((Lit.int .i64 x.2).wf = true)) := Opens.struct (m := 2) Try.underlying39 (by kernel_rfl) (OpensF.cons (o := 0) (m0 := 1) (m1 := 1) (m := 2) (ok := (fun (x : Int) => (Lit.int .i64 x).wf = true)) (ok1 := (fun (x : Int) => ((Lit.int .i64 x).wf = true))) rfl rfl (by kernel_rfl) o3 (OpensF.last (o := 1) (m := 1) (ok := (fun (x : Int) => (Lit.int .i64 x).wf = true)) rfl rfl (by kernel_rfl) o3) rfl)
theorem o39e : Opens Try.prog 39 k39 (fun x => ((Lit.int .i64 x.f0).wf = true) ∧ ((Lit.int .i64 x.f1).wf = true)) := Opens.imp (Opens.iso (d := (Kd.pair (Kd.int .i64) (Kd.int .i64))) o39 (fun x : S39 => (x.f0, x.f1)) (fun p => ⟨p.1, p.2⟩) (fun _ => rfl)) (fun _ h => h)
theorem o44 : Opens Try.prog 44 (Kd.slice 39 k39) (fun x => x.length ≤ maxLen ∧ ∀ y1 ∈ x, ((Lit.int .i64 y1.f0).wf = true) ∧ ((Lit.int .i64 y1.f1).wf = true)) := Opens.slice Try.underlying44 (by kernel_rfl) o39e
set_option maxRecDepth 100000 in
theorem lifted (os : Os) (started : os.Started) (H : Type) (enc : TypeId × Value → H) :
    ReturnsInHanded {} Try.checked os 9 .any (Rows.fnExactStatesAlongSpec.pre6 enc Try.prog Try.f9 Rows.fnExactStatesAlongRow.domain false) (Rows.fnExactStatesAlongSpec.post enc Try.prog Try.f9 false true false false) := by
  refine returnsInHanded_of_change_sized (C := Try.checked) own started (by kernel_rfl) Try.func9
    (ChangeSpec.witness6 (enc := enc) (C := Try.checked) false ⟨#[], #[.agg #[.slice none 0 0, .slice none 0 0], .slice none 0 0], []⟩ 8 (by kernel_rfl) (by kernel_rfl) (by kernel_rfl) (by kernel_rfl)) ?_
  intro W base args ds gs before hval0 hW hcnd hsz0 _
  have hsz : (DataW.weightsEach Try.prog (Try.f9.params.toList ++ Rows.fnExactStatesAlongSpec.plain.varTypes Try.prog) (ds ++ gs)).all (· ≤ reachBytes) = true := hsz0
  have hval : ∀ (j : Nat) t v, Try.f9.params[j]? = some t → args[j]? = some v → Value.okWide Try.prog W .any base t v := hval0
  have hW' := hW
  obtain ⟨p, q, hA0, hV, rfl, hfz, hnd⟩ := hW
  have hA : DataW.TrodAll enc Try.prog W 0 (fun _ => true) true Try.f9.params.toList args.toList ds p := hA0
  rw [Try.params9] at hA hval hsz
  obtain ⟨v0, vs0, d0, ds0, p0, q0, hargs, rfl, rfl, h0, r0⟩ := trodAll_cons hA
  obtain ⟨v1, vs1, d1, ds1, p1, q1, rfl, rfl, rfl, h1, r1⟩ := trodAll_cons r0
  obtain ⟨rfl, rfl, rfl⟩ := trodAll_nil r1
  obtain rfl : args = #[v0, v1] := by cases args; simp_all
  obtain ⟨rfl, rfl⟩ := trodVars_none hV
  have hk0 := h0
  have lt0 : ∀ x ∈ p0, x.block < W.heap.size := by obtain ⟨m, hm⟩ := hk0; exact DataW.trod_lt m _ _ _ hm
  obtain ⟨cs0, rfl, hz0⟩ := okWide_struct Try.underlying24 (hval 0 24 v0 rfl rfl)
  obtain ⟨fuel0, hf0⟩ := h0
  obtain ⟨x0, hK0, w0⟩ := o24 _ _ _ _ _ _ _ _ _ hf0
  obtain ⟨_, _, hcs0, ⟨A0_0, c0_0, rfl, hl0_0, hC0_0⟩, ⟨A0_1, c0_1, rfl, hl0_1, hC0_1⟩⟩ := hK0
  obtain rfl : cs0 = #[.slice A0_0 x0.1.length c0_0, .slice A0_1 x0.2.length c0_1] := Array.toList_inj.mp hcs0
  have hk1 := h1
  have lt1 : ∀ x ∈ p1, x.block < W.heap.size := by obtain ⟨m, hm⟩ := hk1; exact DataW.trod_lt m _ _ _ hm
  obtain ⟨A1, len1, cap1, rfl⟩ := okWide_slice Try.underlying44 (hval 1 44 v1 rfl rfl)
  obtain ⟨fuel1, hf1⟩ := h1
  obtain ⟨x1, ⟨B1, c1, hcs1, hl1, hC1⟩, w1⟩ := o44 _ _ _ _ _ _ _ _ _ hf1
  have hcs1' : [Value.slice A1 len1 cap1] = [Value.slice B1 x1.length c1] := hcs1
  simp only [List.cons.injEq, Value.slice.injEq, and_true] at hcs1'
  obtain ⟨rfl, rfl, rfl⟩ := hcs1'
  clear hA0 hval0 hsz0 hsz
  obtain ⟨k, h⟩ := Pure.FnExactStatesAlong x0.1 x0.2 x1 w0.1 w0.2 w1
  refine (laws_FnExactStatesAlong.calls k _ _ x0.1 _ _ x0.2 _ _ x1 W hC0_0 hl0_0 hC0_1 hl0_1 hC1 hl1 h).mono fun e W' ⟨he, bel0⟩ => ?_
  have bel : Below W.heap.size W W' := bel0
  subst he
  exact ⟨_, rfl, _, _, _, [], _, [], hW', trodAll_mk1 (shut_bool Try.underlying4 _), (trodAll_cons_mk (Below.trod laidOut (by kernel_rfl) (of_decide_eq_true (by kernel_rfl)) hk0 bel lt0) (trodAll_cons_mk (Below.trod laidOut (by kernel_rfl) (of_decide_eq_true (by kernel_rfl)) hk1 bel lt1) trodAll_mk0)), rfl, bel.frame _, fun h => by cases h⟩
theorem over : Rows.fnExactStatesAlongRow.holds Try.pinned (OpenSpec.ofChange Rows.fnExactStatesAlongSpec) :=
  OpenClaim.holds_of_wide 9 Try.f9 rfl rfl rfl rfl rfl rfl rfl ⟨rfl, rfl, rfl, rfl, rfl⟩ rfl rfl rfl rfl rfl (by kernel_rfl) Try.func9 (by kernel_rfl)
    (of_decide_eq_true (by kernel_rfl)) (by unfold Func.isWrapper; first | (rw [if_pos (by decide +kernel)]; kernel_rfl) | (rw [if_neg (by decide +kernel)]; exact ⟨rfl, rfl⟩))
    (fun os started H enc _ => lifted os started H enc)
theorem proved : Rows.FnExactStatesAlongSaid := over
#print axioms proved
end Go.Proofs.Ytobkbpoamicjgaa.fnExactStatesAlong
namespace Go.Proofs.Ytobkbpoamicjgaa
/-- The row, under a short name, for the claim. -/
theorem fnExactStatesAlong_holds : Rows.FnExactStatesAlongSaid := fnExactStatesAlong.proved
end Go.Proofs.Ytobkbpoamicjgaa

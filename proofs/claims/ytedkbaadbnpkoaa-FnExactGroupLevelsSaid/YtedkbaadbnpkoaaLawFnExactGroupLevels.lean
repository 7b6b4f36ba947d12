/- The row of the law FnExactGroupLevels: for every input the law returns true and its arguments read as they did. No conditions. -/
import Derived.Test.YtedkbaadbnpkoaaRows
import Derived.Test.YtedkbaadbnpkoaaPFnExactGroupLevelsx14
import Derived.Test.YtedkbaadbnpkoaaOpens
import Derived.Test.YtedkbaadbnpkoaaPureFnExactGroupLevels
import Derived.WalkKit
import Derived.ProofKit
import Derived.OpenShut
import Derived.ShutString
import Derived.ChangeOld
import Derived.Below
import Derived.SizedLaws
namespace Go.Proofs.Ytedkbaadbnpkoaa.fnExactGroupLevels
open Go.ChangeShapes Go.WideShapes Go.ChangeAt Go.RowKit Go.Proofs.YtedkbaadbnpkoaaW.PrintWords Go.Proofs.Ytedkbaadbnpkoaa.PFnExactGroupLevels Go.Proofs.Ytedkbaadbnpkoaa.Opens
open Go.ChangeMaps (open_string shut_string)
set_option linter.unusedVariables false
theorem own : ownKnob Try.prog.godebug = none := by kernel_rfl
theorem laidOut : laidOutB Try.prog = true := by kernel_rfl
theorem o3 : Opens Try.prog 3 (Kd.int .i64) (fun x => (Lit.int .i64 x).wf = true) := Opens.int Try.underlying3
theorem o66 : Opens Try.prog 66 (Kd.pair (Kd.int .i64) (Kd.pair (Kd.int .i64) (Kd.int .i64))) (fun x => ((Lit.int .i64 x.1).wf = true) ∧ ((Lit.int .i64 x.2.1).wf = true) ∧ ((Lit.int .i64 x.2.2).wf = true)) := Opens.struct (m := 3) Try.underlying66 (by kernel_rfl) (OpensF.cons (o := 0) (m0 := 1) (m1 := 2) (m := 3) (ok := (fun (x : Int) => (Lit.int .i64 x).wf = true)) (ok1 := (fun (x : Int × Int) => ((Lit.int .i64 x.1).wf = true) ∧ ((Lit.int .i64 x.2).wf = true))) rfl rfl (by kernel_rfl) o3 (OpensF.cons (o := 1) (m0 := 1) (m1 := 1) (m := 2) (ok := (fun (x : Int) => (Lit.int .i64 x).wf = true)) (ok1 := (fun (x : Int) => ((Lit.int .i64 x).wf = true))) rfl rfl (by kernel_rfl) o3 (OpensF.last (o := 2) (m := 1) (ok := (fun (x : Int) => (Lit.int .i64 x).wf = true)) rfl rfl (by kernel_rfl) o3) rfl) rfl)
theorem o66e : Opens Try.prog 66 k66 (fun x => ((Lit.int .i64 x.f0).wf = true) ∧ ((Lit.int .i64 x.f1).wf = true) ∧ ((Lit.int .i64 x.f2).wf = true)) := Opens.imp (Opens.iso (d := (Kd.pair (Kd.int .i64) (Kd.pair (Kd.int .i64) (Kd.int .i64)))) o66 (fun x : S66 => (x.f0, x.f1, x.f2)) (fun p => ⟨p.1, p.2.1, p.2.2⟩) (fun _ => rfl)) (fun _ h => h)
theorem o22 : Opens Try.prog 22 (Kd.slice 66 k66) (fun x => x.length ≤ maxLen ∧ ∀ y1 ∈ x, ((Lit.int .i64 y1.f0).wf = true) ∧ ((Lit.int .i64 y1.f1).wf = true) ∧ ((Lit.int .i64 y1.f2).wf = true)) := Opens.slice Try.underlying22 (by kernel_rfl) o66e
theorem o52 : Opens Try.prog 52 (Kd.slice 3 (Kd.int .i64)) (fun x => x.length ≤ maxLen ∧ ∀ y1 ∈ x, (Lit.int .i64 y1).wf = true) := Opens.slice Try.underlying52 (by kernel_rfl) o3
theorem o34 : Opens Try.prog 34 (Kd.slice 52 (Kd.slice 3 (Kd.int .i64))) (fun x => x.length ≤ maxLen ∧ ∀ y1 ∈ x, y1.length ≤ maxLen ∧ ∀ y2 ∈ y1, (Lit.int .i64 y2).wf = true) := Opens.slice Try.underlying34 (by kernel_rfl) o52
set_option maxRecDepth 100000 in
theorem lifted (os : Os) (started : os.Started) (H : Type) (enc : TypeId × Value → H) :
    ReturnsInHanded {} Try.checked os 6 .any (Rows.fnExactGroupLevelsSpec.pre6 enc Try.prog Try.f6 Rows.fnExactGroupLevelsRow.domain false) (Rows.fnExactGroupLevelsSpec.post enc Try.prog Try.f6 false true false false) := by
  refine returnsInHanded_of_change_sized (C := Try.checked) own started (by kernel_rfl) Try.func6
    (ChangeSpec.witness6 (enc := enc) (C := Try.checked) false ⟨#[], #[.slice none 0 0, .slice none 0 0], []⟩ 8 (by kernel_rfl) (by kernel_rfl) (by kernel_rfl) (by kernel_rfl)) ?_
  intro W base args ds gs before hval0 hW hcnd hsz0 _
  have hsz : (DataW.weightsEach Try.prog (Try.f6.params.toList ++ Rows.fnExactGroupLevelsSpec.plain.varTypes Try.prog) (ds ++ gs)).all (· ≤ reachBytes) = true := hsz0
  have hval : ∀ (j : Nat) t v, Try.f6.params[j]? = some t → args[j]? = some v → Value.okWide Try.prog W .any base t v := hval0
  have hW' := hW
  obtain ⟨p, q, hA0, hV, rfl, hfz, hnd⟩ := hW
  have hA : DataW.TrodAll enc Try.prog W 0 (fun _ => true) true Try.f6.params.toList args.toList ds p := hA0
  rw [Try.params6] at hA hval hsz
  obtain ⟨v0, vs0, d0, ds0, p0, q0, hargs, rfl, rfl, h0, r0⟩ := trodAll_cons hA
  obtain ⟨v1, vs1, d1, ds1, p1, q1, rfl, rfl, rfl, h1, r1⟩ := trodAll_cons r0
  obtain ⟨rfl, rfl, rfl⟩ := trodAll_nil r1
  obtain rfl : args = #[v0, v1] := by cases args; simp_all
  obtain ⟨rfl, rfl⟩ := trodVars_none hV
  have hk0 := h0
  have lt0 : ∀ x ∈ p0, x.block < W.heap.size := by obtain ⟨m, hm⟩ := hk0; exact DataW.trod_lt m _ _ _ hm
  obtain ⟨A0, len0, cap0, rfl⟩ := okWide_slice Try.underlying22 (hval 0 22 v0 rfl rfl)
  obtain ⟨fuel0, hf0⟩ := h0
  obtain ⟨x0, ⟨B0, c0, hcs0, hl0, hC0⟩, w0⟩ := o22 _ _ _ _ _ _ _ _ _ hf0
  have hcs0' : [Value.slice A0 len0 cap0] = [Value.slice B0 x0.length c0] := hcs0
  simp only [List.cons.injEq, Value.slice.injEq, and_true] at hcs0'
  obtain ⟨rfl, rfl, rfl⟩ := hcs0'
  have hk1 := h1
  have lt1 : ∀ x ∈ p1, x.block < W.heap.size := by obtain ⟨m, hm⟩ := hk1; exact DataW.trod_lt m _ _ _ hm
  obtain ⟨A1, len1, cap1, rfl⟩ := okWide_slice Try.underlying34 (hval 1 34 v1 rfl rfl)
  obtain ⟨fuel1, hf1⟩ := h1
  obtain ⟨x1, ⟨B1, c1, hcs1, hl1, hC1⟩, w1⟩ := o34 _ _ _ _ _ _ _ _ _ hf1
  have hcs1' : [Value.slice A1 len1 cap1] = [Value.slice B1 x1.length c1] := hcs1
  simp only [List.cons.injEq, Value.slice.injEq, and_true] at hcs1'
  obtain ⟨rfl, rfl, rfl⟩ := hcs1'
  clear hA0 hval0 hsz0 hsz
  obtain ⟨k, h⟩ := Pure.FnExactGroupLevels x0 x1 w0 w1
  refine (laws_FnExactGroupLevels.calls k _ _ x0 _ _ x1 W hC0 hl0 hC1 hl1 h).mono fun e W' ⟨he, bel0⟩ => ?_
  have bel : Below W.heap.size W W' := bel0
  subst he
  exact ⟨_, rfl, _, _, _, [], _, [], hW', trodAll_mk1 (shut_bool Try.underlying4 _), (trodAll_cons_mk (Below.trod laidOut (by kernel_rfl) (of_decide_eq_true (by kernel_rfl)) hk0 bel lt0) (trodAll_cons_mk (Below.trod laidOut (by kernel_rfl) (of_decide_eq_true (by kernel_rfl)) hk1 bel lt1) trodAll_mk0)), rfl, bel.frame _, fun h => by cases h⟩
theorem over : Rows.fnExactGroupLevelsRow.holds Try.pinned (OpenSpec.ofChange Rows.fnExactGroupLevelsSpec) :=
  OpenClaim.holds_of_wide 6 Try.f6 rfl rfl rfl rfl rfl rfl rfl ⟨rfl, rfl, rfl, rfl, rfl⟩ rfl rfl rfl rfl rfl (by kernel_rfl) Try.func6 (by kernel_rfl)
    (of_decide_eq_true (by kernel_rfl)) (by unfold Func.isWrapper; first | (rw [if_pos (by decide +kernel)]; kernel_rfl) | (rw [if_neg (by decide +kernel)]; exact ⟨rfl, rfl⟩))
    (fun os started H enc _ => lifted os started H enc)
theorem proved : Rows.FnExactGroupLevelsSaid := over
#print axioms proved
end Go.Proofs.Ytedkbaadbnpkoaa.fnExactGroupLevels
namespace Go.Proofs.Ytedkbaadbnpkoaa
/-- The row, under a short name, for the claim. -/
theorem fnExactGroupLevels_holds : Rows.FnExactGroupLevelsSaid := fnExactGroupLevels.proved
end Go.Proofs.Ytedkbaadbnpkoaa

/- The pure statement of the law FnExactSpiltByWheel: what its printed functions compute is true for every input. No conditions. -/
import Derived.Test.YtpgjoagbmljmnaaPFnExactSpiltByWheelx2
import Derived.Test.YtpgjoagbmljmnaaPl
namespace Go.Proofs.Ytpgjoagbmljmnaa.Pure
open Go.RowKit Go.Proofs.Ytpgjoagbmljmnaa.PFnExactSpiltByWheel Go.Proofs.YtpgjoagbmljmnaaW.PrintWords Go.Proofs.YtpgjoagbmljmnaaW.PrintLast Go.Proofs.Ytpgjoagbmljmnaa.Pl
set_option linter.unusedVariables false
set_option linter.unusedSimpArgs false

theorem within_val (x a b : Int) : impl_within.f x a b = some (decide (a ≤ x ∧ x ≤ b)) := by
  unfold impl_within.f
  by_cases h : a ≤ x <;> simp [h]
theorem in_val (x a b : Int) : spec_l1In.f x a b = some (decide (a ≤ x ∧ x ≤ b)) := within_val x a b

theorem FnExactSpiltByWheel : ∀ (a0_0 : Int) (a0_1 : Int) (a0_2 : Int) (a1 : Int), ((Lit.int .i64 a0_0).wf = true) → ((Lit.int .i64 a0_1).wf = true) → ((Lit.int .i64 a0_2).wf = true) → ((Lit.int .i64 a1).wf = true) → ∃ k, laws_FnExactSpiltByWheel.f k a0_0 a0_1 a0_2 a1 = some true := by
  intro a b c t _ _ _ _
  refine ⟨1, ?_⟩
  unfold laws_FnExactSpiltByWheel.f laws_toWheel.f spec_SpiltByWheel.f spec_ckWheel.f spec_ckTime.f impl_SpiltByWheel.f impl_isTurned.f impl_IsWheel.f
  simp only [within_val, in_val, Option.bind_some]
  by_cases h1 : 2 ≤ a ∧ a ≤ 60 <;> by_cases h3 : 1 ≤ b ∧ b ≤ 60 <;> by_cases h5 : 1 ≤ c ∧ c ≤ 60 <;> by_cases h7 : 0 ≤ t ∧ t ≤ 10000 <;> simp only [h1, h3, h5, h7, decide_true, decide_false, if_true, if_false, Option.bind_some, spec_SpiltByWheel.j0, Bool.not_true, Bool.not_false, Bool.false_eq_true] <;> try rfl
  have hc : ¬ c = 0 := by omega
  unfold spec_ckFill.f impl_Wheel_ticks.f
  simp only [if_neg hc, Option.bind_some]
  have e1 : wrap64 (wrap64 (b + c) - 1) = b + c - 1 := by rw [w64 (x := b + c) (by omega) (by omega), w64 (by omega) (by omega)]
  have hq0 : 1 ≤ Int.tdiv (b + c - 1) c := by
    rw [Int.tdiv_eq_ediv_of_nonneg (by omega)]
    exact (Int.le_ediv_iff_mul_le (by omega)).mpr (by omega)
  have hq1 : Int.tdiv (b + c - 1) c ≤ 120 := by
    have := tdiv_bound (b + c - 1) c
    omega
  rw [e1, w64 (by omega) (by omega)]
  have hz : ¬ Int.tdiv (b + c - 1) c = 0 := by omega
  simp [hz]

end Go.Proofs.Ytpgjoagbmljmnaa.Pure

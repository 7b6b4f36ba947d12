/- The pure statement of the law FnExactTurnTime: what its printed functions compute is true for every input. No conditions. -/
import Derived.Test.YtpgjoagbmljmnaaPFnExactTurnTimex1
import Derived.Test.YtpgjoagbmljmnaaPl
namespace Go.Proofs.Ytpgjoagbmljmnaa.Pure
open Go.RowKit Go.Proofs.Ytpgjoagbmljmnaa.PFnExactTurnTime Go.Proofs.YtpgjoagbmljmnaaW.PrintWords Go.Proofs.YtpgjoagbmljmnaaW.PrintLast Go.Proofs.Ytpgjoagbmljmnaa.Pl
set_option linter.unusedVariables false
set_option linter.unusedSimpArgs false

theorem FnExactTurnTime : ∀ (a0_0 : Int) (a0_1 : Int) (a0_2 : Int), ((Lit.int .i64 a0_0).wf = true) → ((Lit.int .i64 a0_1).wf = true) → ((Lit.int .i64 a0_2).wf = true) → laws_FnExactTurnTime.f a0_0 a0_1 a0_2 = some true := by
  intro a b c _ _ _
  unfold laws_FnExactTurnTime.f laws_toWheel.f spec_TurnTime.f spec_ckWheel.f spec_l1In.f impl_TurnTime.f impl_IsWheel.f impl_within.f spec_ckFill.f impl_Wheel_ticks.f
  by_cases h1 : 2 ≤ a <;> by_cases h2 : a ≤ 60 <;> by_cases h3 : 1 ≤ b <;> by_cases h4 : b ≤ 60 <;> by_cases h5 : 1 ≤ c <;> by_cases h6 : c ≤ 60 <;> simp [h1, h2, h3, h4, h5, h6]
  have : ¬ c = 0 := by omega
  simp [this, Int.mul_comm]

end Go.Proofs.Ytpgjoagbmljmnaa.Pure

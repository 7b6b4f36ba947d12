/- The pure statement of the law FnExactDropOf: what its printed functions compute is true for every input. No conditions. -/
import Derived.Test.YtpgjoagbmljmnaaPFnExactDropOfx1
import Derived.Test.YtpgjoagbmljmnaaPl
namespace Go.Proofs.Ytpgjoagbmljmnaa.Pure
open Go.RowKit Go.Proofs.Ytpgjoagbmljmnaa.PFnExactDropOf Go.Proofs.YtpgjoagbmljmnaaW.PrintWords Go.Proofs.YtpgjoagbmljmnaaW.PrintLast Go.Proofs.Ytpgjoagbmljmnaa.Pl
set_option linter.unusedVariables false
set_option linter.unusedSimpArgs false

theorem FnExactDropOf : ∀ (a0_0 : Int) (a0_1 : Int), ((Lit.int .i64 a0_0).wf = true) → ((Lit.int .i64 a0_1).wf = true) → laws_FnExactDropOf.f a0_0 a0_1 = some true := by
  intro a b _ _
  unfold laws_FnExactDropOf.f laws_toClock.f spec_DropOf.f spec_ckGood.f spec_l1In.f impl_DropOf.f impl_IsClock.f impl_within.f spec_ckDrop.f impl_Clock_drop.f
  by_cases h1 : 0 ≤ a <;> by_cases h2 : a ≤ 1000 <;> by_cases h3 : 1 ≤ b <;> by_cases h4 : b ≤ 100 <;> simp [h1, h2, h3, h4]
  have : ¬ b = 0 := by omega
  simp [this]

end Go.Proofs.Ytpgjoagbmljmnaa.Pure

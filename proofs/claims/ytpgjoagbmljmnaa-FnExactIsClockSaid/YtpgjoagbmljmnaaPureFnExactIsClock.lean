/- The pure statement of the law FnExactIsClock: what its printed functions compute is true for every input. No conditions. -/
import Derived.Test.YtpgjoagbmljmnaaPFnExactIsClockx1
namespace Go.Proofs.Ytpgjoagbmljmnaa.Pure
open Go.RowKit Go.Proofs.Ytpgjoagbmljmnaa.PFnExactIsClock Go.Proofs.YtpgjoagbmljmnaaW.PrintWords Go.Proofs.YtpgjoagbmljmnaaW.PrintLast

theorem FnExactIsClock : ∀ (a0_0 : Int) (a0_1 : Int), ((Lit.int .i64 a0_0).wf = true) → ((Lit.int .i64 a0_1).wf = true) → laws_FnExactIsClock.f a0_0 a0_1 = some true := by
  intro a b _ _
  unfold laws_FnExactIsClock.f laws_toClock.f spec_IsClock.f spec_ckGood.f spec_l1In.f impl_IsClock.f impl_within.f
  by_cases h1 : 0 ≤ a <;> by_cases h2 : a ≤ 1000 <;> by_cases h3 : 1 ≤ b <;> by_cases h4 : b ≤ 100 <;> simp [h1, h2, h3, h4]

end Go.Proofs.Ytpgjoagbmljmnaa.Pure

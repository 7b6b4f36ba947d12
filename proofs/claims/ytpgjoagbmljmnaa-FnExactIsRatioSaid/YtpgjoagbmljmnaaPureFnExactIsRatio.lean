/- The pure statement of the law FnExactIsRatio: what its printed functions compute is true for every input. No conditions. -/
import Derived.Test.YtpgjoagbmljmnaaPFnExactIsRatiox1
import Derived.Test.YtpgjoagbmljmnaaPl
namespace Go.Proofs.Ytpgjoagbmljmnaa.Pure
open Go.RowKit Go.Proofs.Ytpgjoagbmljmnaa.PFnExactIsRatio Go.Proofs.YtpgjoagbmljmnaaW.PrintWords Go.Proofs.YtpgjoagbmljmnaaW.PrintLast Go.Proofs.Ytpgjoagbmljmnaa.Pl
set_option linter.unusedVariables false
set_option linter.unusedSimpArgs false

theorem FnExactIsRatio : ∀ (a0_0 : Int) (a0_1 : Int), ((Lit.int .i64 a0_0).wf = true) → ((Lit.int .i64 a0_1).wf = true) → ∃ k, laws_FnExactIsRatio.f k a0_0 a0_1 = some true := by
  intro n d hn hd
  by_cases hr : -1000000000 ≤ n ∧ n ≤ 1000000000 ∧ 1 ≤ d ∧ d ≤ 1000000000
  · obtain ⟨K1, h1⟩ := gcd_ev (l0 := impl_gcd.l0) (fun _ _ _ => rfl) (a := n) (b := d) (by omega) (by omega) (by omega) (by omega)
    have ha : ∀ x, spec_l1Abs.f x = some (if x > wrap64 (-x) then x else wrap64 (-x)) := by
      intro x
      unfold spec_l1Abs.f spec_l1Most.f
      split <;> rfl
    have hw : wrap64 (-n) = -n := w64 (by omega) (by omega)
    obtain ⟨K2, h2⟩ := common_ev (l0 := spec_veCommon.l0) (fun _ _ _ => rfl) (a := if n > wrap64 (-n) then n else wrap64 (-n)) (b := d) (by rw [hw]; split <;> omega) (by omega)
    rw [(gcd_abs n d).resolve_right (by omega)] at h2
    refine ⟨max K1 K2, ?_⟩
    unfold laws_FnExactIsRatio.f laws_toRatio.f spec_IsRatio.f spec_saGood.f spec_l1In.f impl_IsRatio.f impl_within.f impl_gcd.f spec_veCommon.f
    simp [hr.1, hr.2.1, hr.2.2.1, hr.2.2.2, ha, h1 (max K1 K2) (by omega), h2 (max K1 K2) (by omega)]
  · refine ⟨0, ?_⟩
    unfold laws_FnExactIsRatio.f laws_toRatio.f spec_IsRatio.f spec_saGood.f spec_l1In.f impl_IsRatio.f impl_within.f
    by_cases h1 : -1000000000 ≤ n <;> by_cases h2 : n ≤ 1000000000 <;> by_cases h3 : 1 ≤ d <;> by_cases h4 : d ≤ 1000000000 <;> simp [h1, h2, h3, h4]
    all_goals first | done | (exfalso; omega)

end Go.Proofs.Ytpgjoagbmljmnaa.Pure

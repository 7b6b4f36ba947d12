/- The pure statement of the law FnExactSavedShare: what its printed functions compute is true for every input. No conditions. -/
import Derived.Test.YtpgjoagbmljmnaaPFnExactSavedSharex2
import Derived.Test.YtpgjoagbmljmnaaPl
namespace Go.Proofs.Ytpgjoagbmljmnaa.Pure
open Go.RowKit Go.Proofs.Ytpgjoagbmljmnaa.PFnExactSavedShare Go.Proofs.YtpgjoagbmljmnaaW.PrintWords Go.Proofs.YtpgjoagbmljmnaaW.PrintLast Go.Proofs.Ytpgjoagbmljmnaa.Pl
set_option linter.unusedVariables false
set_option linter.unusedSimpArgs false

theorem within_val (x a b : Int) : impl_within.f x a b = some (decide (a ≤ x ∧ x ≤ b)) := by
  unfold impl_within.f
  by_cases h : a ≤ x <;> simp [h]
theorem in_val (x a b : Int) : spec_l1In.f x a b = some (decide (a ≤ x ∧ x ≤ b)) := within_val x a b
theorem abs_val (x : Int) : spec_l1Abs.f x = some (if x > wrap64 (-x) then x else wrap64 (-x)) := by
  unfold spec_l1Abs.f spec_l1Most.f
  split <;> rfl
theorem low_fit {n d : Int} (hn0 : -9223372036854775807 ≤ n) (hn1 : n ≤ 9223372036854775807) (hd0 : 0 < d) (hd1 : d ≤ 9223372036854775807) :
    wrap64 (Int.tdiv n (Int.gcd n d)) = (low n d).1 ∧ wrap64 (Int.tdiv d (Int.gcd n d)) = (low n d).2 := by
  have h1 := tdiv_bound n (Int.gcd n d)
  have h2 := tdiv_bound d (Int.gcd n d)
  exact ⟨w64 (by omega) (by omega), w64 (by omega) (by omega)⟩
theorem lowest_ev {n d : Int} (hn0 : -9223372036854775807 ≤ n) (hn1 : n ≤ 9223372036854775807) (hd0 : 0 < d) (hd1 : d ≤ 9223372036854775807) : Ev (fun k => impl_lowest.f k n d) (low n d) := by
  obtain ⟨K, h⟩ := gcd_ev (l0 := impl_gcd.l0) (fun _ _ _ => rfl) (a := n) (b := d) hn0 hn1 (by omega) hd1
  dsimp only at h
  have hp := gcd_pos (a := n) (b := d) (by omega)
  refine ⟨K, fun k hk => ?_⟩
  show impl_lowest.f k n d = _
  unfold impl_lowest.f impl_gcd.f
  rw [h k hk, Option.bind_some, if_neg (by omega), if_neg (by omega), (low_fit hn0 hn1 hd0 hd1).1, (low_fit hn0 hn1 hd0 hd1).2]
theorem common_abs_ev {n d : Int} (hn0 : -9223372036854775807 ≤ n) (hn1 : n ≤ 9223372036854775807) (hd0 : 0 ≤ d) : Ev (fun k => spec_veCommon.f k (if n > wrap64 (-n) then n else wrap64 (-n)) d) (Int.gcd n d : Int) := by
  have hw : wrap64 (-n) = -n := w64 (by omega) (by omega)
  have := common_ev (l0 := spec_veCommon.l0) (fun _ _ _ => rfl) (a := if n > wrap64 (-n) then n else wrap64 (-n)) (b := d) (by rw [hw]; split <;> omega) hd0
  rw [(gcd_abs n d).resolve_right (by omega)] at this
  exact this
theorem leRatio_ev {n d : Int} (hn0 : -9223372036854775807 ≤ n) (hn1 : n ≤ 9223372036854775807) (hd0 : 0 < d) (hd1 : d ≤ 9223372036854775807) : Ev (fun k => spec_leRatio.f k n d) (low n d) := by
  obtain ⟨K, h⟩ := common_abs_ev (n := n) (d := d) hn0 hn1 (by omega)
  dsimp only at h
  have hp := gcd_pos (a := n) (b := d) (by omega)
  refine ⟨K, fun k hk => ?_⟩
  show spec_leRatio.f k n d = _
  unfold spec_leRatio.f
  rw [if_neg (by omega), abs_val, Option.bind_some, h k hk, Option.bind_some, if_neg (by omega), (low_fit hn0 hn1 hd0 hd1).1, (low_fit hn0 hn1 hd0 hd1).2]
theorem both_ev (b : Int) : ∃ r : Int × Int × Bool, Ev (fun k => spec_SavedShare.f k b) r ∧ Ev (fun k => impl_SavedShare.f k b) r := by
  by_cases h2 : 0 ≤ b ∧ b ≤ 20
  · have e1 : wrap64 (1 * b) = b := by rw [Int.one_mul]; exact w64 (by omega) (by omega)
    have e2 : wrap64 (b + 2) = b + 2 := w64 (by omega) (by omega)
    obtain ⟨K1, k1⟩ := leRatio_ev (n := b) (d := b + 2) (by omega) (by omega) (by omega) (by omega)
    dsimp only at k1
    obtain ⟨K2, k2⟩ := lowest_ev (n := b) (d := b + 2) (by omega) (by omega) (by omega) (by omega)
    dsimp only at k2
    refine ⟨((low b (b + 2)).1, (low b (b + 2)).2, true), ⟨K1, fun k hk => ?_⟩, ⟨K2, fun k hk => ?_⟩⟩
    · show spec_SavedShare.f k b = _
      unfold spec_SavedShare.f
      simp only [in_val, h2, and_self, decide_true, Option.bind_some, if_true, e2, k1 k hk]
    · show impl_SavedShare.f k b = _
      unfold impl_SavedShare.f impl_WaterSaved.f
      have h1 : (1 : Int) ≤ 1 ∧ (1 : Int) ≤ 20 := by omega
      simp only [within_val, h1, h2, and_self, decide_true, Option.bind_some, if_true, e1, e2, k2 k hk]
  · refine ⟨(0, 0, false), ⟨0, fun k hk => ?_⟩, ⟨0, fun k hk => ?_⟩⟩
    · show spec_SavedShare.f k b = _
      unfold spec_SavedShare.f
      simp [in_val, h2]
    · show impl_SavedShare.f k b = _
      unfold impl_SavedShare.f impl_WaterSaved.f
      simp [within_val, h2]
theorem FnExactSavedShare : ∀ (a0 : Int), ((Lit.int .i64 a0).wf = true) → ∃ k, laws_FnExactSavedShare.f k a0 = some true := by
  intro b _
  obtain ⟨r, ⟨K1, k1⟩, ⟨K2, k2⟩⟩ := both_ev b
  refine ⟨max K1 K2, ?_⟩
  have k1 := k1 (max K1 K2) (by omega)
  have k2 := k2 (max K1 K2) (by omega)
  unfold laws_FnExactSavedShare.f laws_eqRatio.f
  simp [k1, k2]

end Go.Proofs.Ytpgjoagbmljmnaa.Pure
